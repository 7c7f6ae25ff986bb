/- What impl_MutateWord answers, and that the Go text comes to it: for every world in which the arguments read as told. -/
import Derived.Test.YtfijnlbkflmkbaaFgA
import Derived.Test.YtfijnlbkflmkbaaFx32
import Derived.Test.YtfijnlbkflmkbaaFx35
import Derived.Test.YtfijnlbkflmkbaaFx74
namespace Go.Proofs.Ytfijnlbkflmkbaa.F
open Go.RowKit Go.Proofs.YtfijnlbkflmkbaaW.PrintWords Go.Proofs.YtfijnlbkflmkbaaW.PrintLast Go.Proofs.YtfijnlbkflmkbaaW.PrintMore
attribute [local go_sem] max2_int min2_int max_two min_two max_three min_three max_four min_four   -- for this text's walks alone
set_option linter.unusedVariables false
set_option linter.unusedSimpArgs false

/-! ### impl_MutateWord: function 64 -/
def impl_MutateWord.f (k : Nat) (l0 : List Int) (a1 : Int) (a2 : Int) (a3 : Int) (a4 : Int) (a5 : Int) : Option (List Int × Int) := (impl_IsWord.f k l0).bind fun t641001 => (if t641001 = true then ((impl_placesOk.f k l0 (([a1, a2, a3, a4] : List Int))).bind fun t641005 => (if t641005 = true then ((impl_in.f a5 0 2).bind fun t641006 => (if t641006 = true then ((impl_isShare.f l0 a1 a2 a3 a4).bind fun t641007 => (if t641007 = true then (if 0 ≤ a1 then (if a1 ≤ a2 then (if a2 ≤ (l0.length : Int) then ((some ((l0.take (a2 : Int).toNat).drop (a1 : Int).toNat : List Int)).bind fun y641008 => (if 0 ≤ a3 then (if a3 ≤ a4 then (if a4 ≤ (l0.length : Int) then ((some ((l0.take (a4 : Int).toNat).drop (a3 : Int).toNat : List Int)).bind fun y641013 => (if a5 = 0 then (if a5 = 1 then (if a1 ≤ (l0.length : Int) then (if 0 ≤ a2 then (if a2 ≤ a3 then (if a3 ≤ (l0.length : Int) then (if 0 ≤ a4 then ((slices_Concat_int64_int64.f (([(l0.take (a1 : Int).toNat), y641008, ((l0.take (a3 : Int).toNat).drop (a2 : Int).toNat), y641013, (l0.drop (a4 : Int).toNat)] : List (List Int)))).bind fun t641036 => ((impl_normal.f t641036).bind fun t641039 => (some (t641039, 0)))) else (none)) else (none)) else (none)) else (none)) else (none)) else (if a1 ≤ (l0.length : Int) then (if 0 ≤ a2 then (if a2 ≤ a3 then (if a3 ≤ (l0.length : Int) then (if 0 ≤ a4 then ((slices_Concat_int64_int64.f (([(l0.take (a1 : Int).toNat), y641013, ((l0.take (a3 : Int).toNat).drop (a2 : Int).toNat), y641008, (l0.drop (a4 : Int).toNat)] : List (List Int)))).bind fun t641060 => ((impl_normal.f t641060).bind fun t641063 => (some (t641063, 0)))) else (none)) else (none)) else (none)) else (none)) else (none))) else ((impl_reversed.f k y641008).bind fun t641066 => ((impl_reversed.f k y641013).bind fun t641069 => (if a5 = 1 then (if a1 ≤ (l0.length : Int) then (if 0 ≤ a2 then (if a2 ≤ a3 then (if a3 ≤ (l0.length : Int) then (if 0 ≤ a4 then ((slices_Concat_int64_int64.f (([(l0.take (a1 : Int).toNat), t641066, ((l0.take (a3 : Int).toNat).drop (a2 : Int).toNat), t641069, (l0.drop (a4 : Int).toNat)] : List (List Int)))).bind fun t641090 => ((impl_normal.f t641090).bind fun t641093 => (some (t641093, 0)))) else (none)) else (none)) else (none)) else (none)) else (none)) else (if a1 ≤ (l0.length : Int) then (if 0 ≤ a2 then (if a2 ≤ a3 then (if a3 ≤ (l0.length : Int) then (if 0 ≤ a4 then ((slices_Concat_int64_int64.f (([(l0.take (a1 : Int).toNat), t641069, ((l0.take (a3 : Int).toNat).drop (a2 : Int).toNat), t641066, (l0.drop (a4 : Int).toNat)] : List (List Int)))).bind fun t641114 => ((impl_normal.f t641114).bind fun t641117 => (some (t641117, 0)))) else (none)) else (none)) else (none)) else (none)) else (none))))))) else (none)) else (none)) else (none))) else (none)) else (none)) else (none)) else (some (([] : List Int), 5)))) else (some (([] : List Int), 2)))) else (some (([] : List Int), 2)))) else (some (([] : List Int), 1)))
theorem impl_MutateWord.mono : ∀ a0 a1 a2 a3 a4 a5 k, LeO (impl_MutateWord.f k a0 a1 a2 a3 a4 a5) (impl_MutateWord.f (k + 1) a0 a1 a2 a3 a4 a5) := by
 intro a0 a1 a2 a3 a4 a5 k
 unfold impl_MutateWord.f
 repeat' first
   | (with_reducible exact impl_IsWord.mono _ _)
   | (with_reducible exact impl_placesOk.mono _ _ _)
   | (with_reducible exact impl_reversed.mono _ _)
   | (with_reducible exact LeO.refl _)
   | (with_reducible exact LeO.none _)
   | (with_reducible refine LeO.ite ?_ ?_)
   | (with_reducible refine LeO.bind ?_ (fun _ => ?_))
   | exact impl_IsWord.mono _ _
   | exact impl_placesOk.mono _ _ _
   | exact impl_reversed.mono _ _
   | exact LeO.none _
   | refine LeO.ite ?_ ?_
   | refine LeO.bind ?_ (fun _ => ?_)
def impl_MutateWord.T7 : Bool × List (List Nat × List Nat) := (true, [([], []), ([], []), ([], []), ([0, 1, 2], [0, 1, 2]), ([], []), ([], []), ([], []), ([4, 5, 6], [4, 5, 6]), ([3, 0, 1, 2, 3], [3]), ([7, 8, 0, 1, 2, 3, 4, 5, 6, 7, 8], [7])])
def impl_MutateWord.B7 : List Nat := [0, 0, 0, 7, 0, 0, 0, 112, 15, 511]
theorem impl_MutateWord.tab7 : rtab .any (opsOf Try.f64 7) = impl_MutateWord.T7 := by kernel_rfl
theorem impl_MutateWord.bits7 : waitsOk impl_MutateWord.T7.2 impl_MutateWord.B7 = true := by kernel_rfl
def impl_MutateWord.T12 : Bool × List (List Nat × List Nat) := (true, [([], []), ([], []), ([0, 1], [0, 1]), ([], []), ([], []), ([], []), ([], []), ([4, 5, 6], [4, 5, 6]), ([], []), ([], []), ([], []), ([9, 10], [9, 10]), ([2, 3, 7, 8, 11], [2, 3, 7, 8, 11]), ([12], [12]), ([13, 13], [13]), ([14, 14, 0, 1, 2, 3, 4, 5, 6, 7, 8, 9, 10, 11, 12, 13, 14], [14]), ([15, 0, 1, 2, 3, 4, 5, 6, 7, 8, 9, 10, 11, 12, 13, 14, 15], [])])
def impl_MutateWord.B12 : List Nat := [0, 0, 3, 0, 0, 0, 0, 112, 0, 0, 0, 1536, 4095, 8191, 16383, 32767, 65535]
theorem impl_MutateWord.tab12 : rtab .any (opsOf Try.f64 12) = impl_MutateWord.T12 := by kernel_rfl
theorem impl_MutateWord.bits12 : waitsOk impl_MutateWord.T12.2 impl_MutateWord.B12 = true := by kernel_rfl
set_option maxHeartbeats 8000000 in
set_option maxRecDepth 100000 in
theorem impl_MutateWord.calls (k : Nat) (P0_ : Nat → Prop) (A0 : Option Addr) (c0 : Nat) (l0 : List Int) (a1 : Int) (a2 : Int) (a3 : Int) (a4 : Int) (a5 : Int) (r1 : List Int) (r2 : Int) (w : World) (hs0 : Kd.V (Kd.int .i64) 2 w w.heap.size (fun k_ => P0_ k_) (.slice A0 l0.length c0) l0) (h : impl_MutateWord.f k l0 a1 a2 a3 a4 a5 = some (r1, r2)) :
  Calls Try.prog 64 #[.slice A0 l0.length c0, .int .i64 a1, .int .i64 a2, .int .i64 a3, .int .i64 a4, .int .i64 a5] w fun e w' => ∃ v0_ : Value, e = .returned (.tuple #[v0_, .int .i64 r2]) ∧ Kd.R (Kd.int .i64) 2 w' w.heap.size (fun k_ => (w.heap.size ≤ k_)) v0_ r1 ∧ Below w.heap.size w w' := by
 have HO0 := Aside0.mk (show Kd.V (Kd.int .i64) 2 w w.heap.size (fun k_ => (P0_ k_ ∨ w.heap.size ≤ k_)) (.slice A0 l0.length c0) l0 from Kd.V_mono hs0 (fun k_ hk => .inl hk))
 have HB := Aside0.mk (Below.refl w.heap.size w)
 have H : ((impl_IsWord.f k l0).bind fun t641001 => (if t641001 = true then ((impl_placesOk.f k l0 (([a1, a2, a3, a4] : List Int))).bind fun t641005 => (if t641005 = true then ((impl_in.f a5 0 2).bind fun t641006 => (if t641006 = true then ((impl_isShare.f l0 a1 a2 a3 a4).bind fun t641007 => (if t641007 = true then (if 0 ≤ a1 then (if a1 ≤ a2 then (if a2 ≤ (l0.length : Int) then ((some ((l0.take (a2 : Int).toNat).drop (a1 : Int).toNat : List Int)).bind fun y641008 => (if 0 ≤ a3 then (if a3 ≤ a4 then (if a4 ≤ (l0.length : Int) then ((some ((l0.take (a4 : Int).toNat).drop (a3 : Int).toNat : List Int)).bind fun y641013 => (if a5 = 0 then (if a5 = 1 then (if a1 ≤ (l0.length : Int) then (if 0 ≤ a2 then (if a2 ≤ a3 then (if a3 ≤ (l0.length : Int) then (if 0 ≤ a4 then ((slices_Concat_int64_int64.f (([(l0.take (a1 : Int).toNat), y641008, ((l0.take (a3 : Int).toNat).drop (a2 : Int).toNat), y641013, (l0.drop (a4 : Int).toNat)] : List (List Int)))).bind fun t641036 => ((impl_normal.f t641036).bind fun t641039 => (some (t641039, 0)))) else (none)) else (none)) else (none)) else (none)) else (none)) else (if a1 ≤ (l0.length : Int) then (if 0 ≤ a2 then (if a2 ≤ a3 then (if a3 ≤ (l0.length : Int) then (if 0 ≤ a4 then ((slices_Concat_int64_int64.f (([(l0.take (a1 : Int).toNat), y641013, ((l0.take (a3 : Int).toNat).drop (a2 : Int).toNat), y641008, (l0.drop (a4 : Int).toNat)] : List (List Int)))).bind fun t641060 => ((impl_normal.f t641060).bind fun t641063 => (some (t641063, 0)))) else (none)) else (none)) else (none)) else (none)) else (none))) else ((impl_reversed.f k y641008).bind fun t641066 => ((impl_reversed.f k y641013).bind fun t641069 => (if a5 = 1 then (if a1 ≤ (l0.length : Int) then (if 0 ≤ a2 then (if a2 ≤ a3 then (if a3 ≤ (l0.length : Int) then (if 0 ≤ a4 then ((slices_Concat_int64_int64.f (([(l0.take (a1 : Int).toNat), t641066, ((l0.take (a3 : Int).toNat).drop (a2 : Int).toNat), t641069, (l0.drop (a4 : Int).toNat)] : List (List Int)))).bind fun t641090 => ((impl_normal.f t641090).bind fun t641093 => (some (t641093, 0)))) else (none)) else (none)) else (none)) else (none)) else (none)) else (if a1 ≤ (l0.length : Int) then (if 0 ≤ a2 then (if a2 ≤ a3 then (if a3 ≤ (l0.length : Int) then (if 0 ≤ a4 then ((slices_Concat_int64_int64.f (([(l0.take (a1 : Int).toNat), t641069, ((l0.take (a3 : Int).toNat).drop (a2 : Int).toNat), t641066, (l0.drop (a4 : Int).toNat)] : List (List Int)))).bind fun t641114 => ((impl_normal.f t641114).bind fun t641117 => (some (t641117, 0)))) else (none)) else (none)) else (none)) else (none)) else (none))))))) else (none)) else (none)) else (none))) else (none)) else (none)) else (none)) else (some (([] : List Int), 5)))) else (some (([] : List Int), 2)))) else (some (([] : List Int), 2)))) else (some (([] : List Int), 1)))) = some (r1, r2) := h
 clear h
 replace H := Option.bind_eq_some_iff.mp H
 obtain ⟨t641001, A70, H⟩ := H
 replace H : (if t641001 = true then ((impl_placesOk.f k l0 (([a1, a2, a3, a4] : List Int))).bind fun t641005 => (if t641005 = true then ((impl_in.f a5 0 2).bind fun t641006 => (if t641006 = true then ((impl_isShare.f l0 a1 a2 a3 a4).bind fun t641007 => (if t641007 = true then (if 0 ≤ a1 then (if a1 ≤ a2 then (if a2 ≤ (l0.length : Int) then ((some ((l0.take (a2 : Int).toNat).drop (a1 : Int).toNat : List Int)).bind fun y641008 => (if 0 ≤ a3 then (if a3 ≤ a4 then (if a4 ≤ (l0.length : Int) then ((some ((l0.take (a4 : Int).toNat).drop (a3 : Int).toNat : List Int)).bind fun y641013 => (if a5 = 0 then (if a5 = 1 then (if a1 ≤ (l0.length : Int) then (if 0 ≤ a2 then (if a2 ≤ a3 then (if a3 ≤ (l0.length : Int) then (if 0 ≤ a4 then ((slices_Concat_int64_int64.f (([(l0.take (a1 : Int).toNat), y641008, ((l0.take (a3 : Int).toNat).drop (a2 : Int).toNat), y641013, (l0.drop (a4 : Int).toNat)] : List (List Int)))).bind fun t641036 => ((impl_normal.f t641036).bind fun t641039 => (some (t641039, 0)))) else (none)) else (none)) else (none)) else (none)) else (none)) else (if a1 ≤ (l0.length : Int) then (if 0 ≤ a2 then (if a2 ≤ a3 then (if a3 ≤ (l0.length : Int) then (if 0 ≤ a4 then ((slices_Concat_int64_int64.f (([(l0.take (a1 : Int).toNat), y641013, ((l0.take (a3 : Int).toNat).drop (a2 : Int).toNat), y641008, (l0.drop (a4 : Int).toNat)] : List (List Int)))).bind fun t641060 => ((impl_normal.f t641060).bind fun t641063 => (some (t641063, 0)))) else (none)) else (none)) else (none)) else (none)) else (none))) else ((impl_reversed.f k y641008).bind fun t641066 => ((impl_reversed.f k y641013).bind fun t641069 => (if a5 = 1 then (if a1 ≤ (l0.length : Int) then (if 0 ≤ a2 then (if a2 ≤ a3 then (if a3 ≤ (l0.length : Int) then (if 0 ≤ a4 then ((slices_Concat_int64_int64.f (([(l0.take (a1 : Int).toNat), t641066, ((l0.take (a3 : Int).toNat).drop (a2 : Int).toNat), t641069, (l0.drop (a4 : Int).toNat)] : List (List Int)))).bind fun t641090 => ((impl_normal.f t641090).bind fun t641093 => (some (t641093, 0)))) else (none)) else (none)) else (none)) else (none)) else (none)) else (if a1 ≤ (l0.length : Int) then (if 0 ≤ a2 then (if a2 ≤ a3 then (if a3 ≤ (l0.length : Int) then (if 0 ≤ a4 then ((slices_Concat_int64_int64.f (([(l0.take (a1 : Int).toNat), t641069, ((l0.take (a3 : Int).toNat).drop (a2 : Int).toNat), t641066, (l0.drop (a4 : Int).toNat)] : List (List Int)))).bind fun t641114 => ((impl_normal.f t641114).bind fun t641117 => (some (t641117, 0)))) else (none)) else (none)) else (none)) else (none)) else (none))))))) else (none)) else (none)) else (none))) else (none)) else (none)) else (none)) else (some (([] : List Int), 5)))) else (some (([] : List Int), 2)))) else (some (([] : List Int), 2)))) else (some (([] : List Int), 1))) = some (r1, r2) := H
 have A7 := Aside0.mk A70
 clear A70
 by_cases c8 : t641001 = true
 ·subst c8
  have H1 : ((impl_placesOk.f k l0 (([a1, a2, a3, a4] : List Int))).bind fun t641005 => (if t641005 = true then ((impl_in.f a5 0 2).bind fun t641006 => (if t641006 = true then ((impl_isShare.f l0 a1 a2 a3 a4).bind fun t641007 => (if t641007 = true then (if 0 ≤ a1 then (if a1 ≤ a2 then (if a2 ≤ (l0.length : Int) then ((some ((l0.take (a2 : Int).toNat).drop (a1 : Int).toNat : List Int)).bind fun y641008 => (if 0 ≤ a3 then (if a3 ≤ a4 then (if a4 ≤ (l0.length : Int) then ((some ((l0.take (a4 : Int).toNat).drop (a3 : Int).toNat : List Int)).bind fun y641013 => (if a5 = 0 then (if a5 = 1 then (if a1 ≤ (l0.length : Int) then (if 0 ≤ a2 then (if a2 ≤ a3 then (if a3 ≤ (l0.length : Int) then (if 0 ≤ a4 then ((slices_Concat_int64_int64.f (([(l0.take (a1 : Int).toNat), y641008, ((l0.take (a3 : Int).toNat).drop (a2 : Int).toNat), y641013, (l0.drop (a4 : Int).toNat)] : List (List Int)))).bind fun t641036 => ((impl_normal.f t641036).bind fun t641039 => (some (t641039, 0)))) else (none)) else (none)) else (none)) else (none)) else (none)) else (if a1 ≤ (l0.length : Int) then (if 0 ≤ a2 then (if a2 ≤ a3 then (if a3 ≤ (l0.length : Int) then (if 0 ≤ a4 then ((slices_Concat_int64_int64.f (([(l0.take (a1 : Int).toNat), y641013, ((l0.take (a3 : Int).toNat).drop (a2 : Int).toNat), y641008, (l0.drop (a4 : Int).toNat)] : List (List Int)))).bind fun t641060 => ((impl_normal.f t641060).bind fun t641063 => (some (t641063, 0)))) else (none)) else (none)) else (none)) else (none)) else (none))) else ((impl_reversed.f k y641008).bind fun t641066 => ((impl_reversed.f k y641013).bind fun t641069 => (if a5 = 1 then (if a1 ≤ (l0.length : Int) then (if 0 ≤ a2 then (if a2 ≤ a3 then (if a3 ≤ (l0.length : Int) then (if 0 ≤ a4 then ((slices_Concat_int64_int64.f (([(l0.take (a1 : Int).toNat), t641066, ((l0.take (a3 : Int).toNat).drop (a2 : Int).toNat), t641069, (l0.drop (a4 : Int).toNat)] : List (List Int)))).bind fun t641090 => ((impl_normal.f t641090).bind fun t641093 => (some (t641093, 0)))) else (none)) else (none)) else (none)) else (none)) else (none)) else (if a1 ≤ (l0.length : Int) then (if 0 ≤ a2 then (if a2 ≤ a3 then (if a3 ≤ (l0.length : Int) then (if 0 ≤ a4 then ((slices_Concat_int64_int64.f (([(l0.take (a1 : Int).toNat), t641069, ((l0.take (a3 : Int).toNat).drop (a2 : Int).toNat), t641066, (l0.drop (a4 : Int).toNat)] : List (List Int)))).bind fun t641114 => ((impl_normal.f t641114).bind fun t641117 => (some (t641117, 0)))) else (none)) else (none)) else (none)) else (none)) else (none))))))) else (none)) else (none)) else (none))) else (none)) else (none)) else (none)) else (some (([] : List Int), 5)))) else (some (([] : List Int), 2)))) else (some (([] : List Int), 2)))) = some (r1, r2) := by rw [if_pos rfl] at H; exact H
  clear H
  have H := H1
  clear H1
  obtain ⟨y641002, hy641002⟩ : ∃ y_ : List Int, y_ = (([a1, a2, a3, a4] : List Int)) := ⟨_, rfl⟩
  replace H : ((impl_placesOk.f k l0 y641002).bind fun t641005 => (if t641005 = true then ((impl_in.f a5 0 2).bind fun t641006 => (if t641006 = true then ((impl_isShare.f l0 a1 a2 a3 a4).bind fun t641007 => (if t641007 = true then (if 0 ≤ a1 then (if a1 ≤ a2 then (if a2 ≤ (l0.length : Int) then ((some ((l0.take (a2 : Int).toNat).drop (a1 : Int).toNat : List Int)).bind fun y641008 => (if 0 ≤ a3 then (if a3 ≤ a4 then (if a4 ≤ (l0.length : Int) then ((some ((l0.take (a4 : Int).toNat).drop (a3 : Int).toNat : List Int)).bind fun y641013 => (if a5 = 0 then (if a5 = 1 then (if a1 ≤ (l0.length : Int) then (if 0 ≤ a2 then (if a2 ≤ a3 then (if a3 ≤ (l0.length : Int) then (if 0 ≤ a4 then ((slices_Concat_int64_int64.f (([(l0.take (a1 : Int).toNat), y641008, ((l0.take (a3 : Int).toNat).drop (a2 : Int).toNat), y641013, (l0.drop (a4 : Int).toNat)] : List (List Int)))).bind fun t641036 => ((impl_normal.f t641036).bind fun t641039 => (some (t641039, 0)))) else (none)) else (none)) else (none)) else (none)) else (none)) else (if a1 ≤ (l0.length : Int) then (if 0 ≤ a2 then (if a2 ≤ a3 then (if a3 ≤ (l0.length : Int) then (if 0 ≤ a4 then ((slices_Concat_int64_int64.f (([(l0.take (a1 : Int).toNat), y641013, ((l0.take (a3 : Int).toNat).drop (a2 : Int).toNat), y641008, (l0.drop (a4 : Int).toNat)] : List (List Int)))).bind fun t641060 => ((impl_normal.f t641060).bind fun t641063 => (some (t641063, 0)))) else (none)) else (none)) else (none)) else (none)) else (none))) else ((impl_reversed.f k y641008).bind fun t641066 => ((impl_reversed.f k y641013).bind fun t641069 => (if a5 = 1 then (if a1 ≤ (l0.length : Int) then (if 0 ≤ a2 then (if a2 ≤ a3 then (if a3 ≤ (l0.length : Int) then (if 0 ≤ a4 then ((slices_Concat_int64_int64.f (([(l0.take (a1 : Int).toNat), t641066, ((l0.take (a3 : Int).toNat).drop (a2 : Int).toNat), t641069, (l0.drop (a4 : Int).toNat)] : List (List Int)))).bind fun t641090 => ((impl_normal.f t641090).bind fun t641093 => (some (t641093, 0)))) else (none)) else (none)) else (none)) else (none)) else (none)) else (if a1 ≤ (l0.length : Int) then (if 0 ≤ a2 then (if a2 ≤ a3 then (if a3 ≤ (l0.length : Int) then (if 0 ≤ a4 then ((slices_Concat_int64_int64.f (([(l0.take (a1 : Int).toNat), t641069, ((l0.take (a3 : Int).toNat).drop (a2 : Int).toNat), t641066, (l0.drop (a4 : Int).toNat)] : List (List Int)))).bind fun t641114 => ((impl_normal.f t641114).bind fun t641117 => (some (t641117, 0)))) else (none)) else (none)) else (none)) else (none)) else (none))))))) else (none)) else (none)) else (none))) else (none)) else (none)) else (none)) else (some (([] : List Int), 5)))) else (some (([] : List Int), 2)))) else (some (([] : List Int), 2)))) = some (r1, r2) := by first | (rw [hy641002]; with_reducible exact H) | (have H2_ := (Option.bind_some _ _).symm.trans H; rw [hy641002]; with_reducible exact H2_) | (have H2_ := (Option.bind_some _ _).symm.trans H; with_reducible exact H2_) | with_reducible exact H | (rw [hy641002]; exact H) | exact H
  have Ny641002 := Aside0.mk hy641002
  clear hy641002
  replace H := Option.bind_eq_some_iff.mp H
  obtain ⟨t641005, A90, H⟩ := H
  replace H : (if t641005 = true then ((impl_in.f a5 0 2).bind fun t641006 => (if t641006 = true then ((impl_isShare.f l0 a1 a2 a3 a4).bind fun t641007 => (if t641007 = true then (if 0 ≤ a1 then (if a1 ≤ a2 then (if a2 ≤ (l0.length : Int) then ((some ((l0.take (a2 : Int).toNat).drop (a1 : Int).toNat : List Int)).bind fun y641008 => (if 0 ≤ a3 then (if a3 ≤ a4 then (if a4 ≤ (l0.length : Int) then ((some ((l0.take (a4 : Int).toNat).drop (a3 : Int).toNat : List Int)).bind fun y641013 => (if a5 = 0 then (if a5 = 1 then (if a1 ≤ (l0.length : Int) then (if 0 ≤ a2 then (if a2 ≤ a3 then (if a3 ≤ (l0.length : Int) then (if 0 ≤ a4 then ((slices_Concat_int64_int64.f (([(l0.take (a1 : Int).toNat), y641008, ((l0.take (a3 : Int).toNat).drop (a2 : Int).toNat), y641013, (l0.drop (a4 : Int).toNat)] : List (List Int)))).bind fun t641036 => ((impl_normal.f t641036).bind fun t641039 => (some (t641039, 0)))) else (none)) else (none)) else (none)) else (none)) else (none)) else (if a1 ≤ (l0.length : Int) then (if 0 ≤ a2 then (if a2 ≤ a3 then (if a3 ≤ (l0.length : Int) then (if 0 ≤ a4 then ((slices_Concat_int64_int64.f (([(l0.take (a1 : Int).toNat), y641013, ((l0.take (a3 : Int).toNat).drop (a2 : Int).toNat), y641008, (l0.drop (a4 : Int).toNat)] : List (List Int)))).bind fun t641060 => ((impl_normal.f t641060).bind fun t641063 => (some (t641063, 0)))) else (none)) else (none)) else (none)) else (none)) else (none))) else ((impl_reversed.f k y641008).bind fun t641066 => ((impl_reversed.f k y641013).bind fun t641069 => (if a5 = 1 then (if a1 ≤ (l0.length : Int) then (if 0 ≤ a2 then (if a2 ≤ a3 then (if a3 ≤ (l0.length : Int) then (if 0 ≤ a4 then ((slices_Concat_int64_int64.f (([(l0.take (a1 : Int).toNat), t641066, ((l0.take (a3 : Int).toNat).drop (a2 : Int).toNat), t641069, (l0.drop (a4 : Int).toNat)] : List (List Int)))).bind fun t641090 => ((impl_normal.f t641090).bind fun t641093 => (some (t641093, 0)))) else (none)) else (none)) else (none)) else (none)) else (none)) else (if a1 ≤ (l0.length : Int) then (if 0 ≤ a2 then (if a2 ≤ a3 then (if a3 ≤ (l0.length : Int) then (if 0 ≤ a4 then ((slices_Concat_int64_int64.f (([(l0.take (a1 : Int).toNat), t641069, ((l0.take (a3 : Int).toNat).drop (a2 : Int).toNat), t641066, (l0.drop (a4 : Int).toNat)] : List (List Int)))).bind fun t641114 => ((impl_normal.f t641114).bind fun t641117 => (some (t641117, 0)))) else (none)) else (none)) else (none)) else (none)) else (none))))))) else (none)) else (none)) else (none))) else (none)) else (none)) else (none)) else (some (([] : List Int), 5)))) else (some (([] : List Int), 2)))) else (some (([] : List Int), 2))) = some (r1, r2) := H
  have A9 := Aside0.mk A90
  clear A90
  by_cases c10 : t641005 = true
  ·subst c10
   have H1 : ((impl_in.f a5 0 2).bind fun t641006 => (if t641006 = true then ((impl_isShare.f l0 a1 a2 a3 a4).bind fun t641007 => (if t641007 = true then (if 0 ≤ a1 then (if a1 ≤ a2 then (if a2 ≤ (l0.length : Int) then ((some ((l0.take (a2 : Int).toNat).drop (a1 : Int).toNat : List Int)).bind fun y641008 => (if 0 ≤ a3 then (if a3 ≤ a4 then (if a4 ≤ (l0.length : Int) then ((some ((l0.take (a4 : Int).toNat).drop (a3 : Int).toNat : List Int)).bind fun y641013 => (if a5 = 0 then (if a5 = 1 then (if a1 ≤ (l0.length : Int) then (if 0 ≤ a2 then (if a2 ≤ a3 then (if a3 ≤ (l0.length : Int) then (if 0 ≤ a4 then ((slices_Concat_int64_int64.f (([(l0.take (a1 : Int).toNat), y641008, ((l0.take (a3 : Int).toNat).drop (a2 : Int).toNat), y641013, (l0.drop (a4 : Int).toNat)] : List (List Int)))).bind fun t641036 => ((impl_normal.f t641036).bind fun t641039 => (some (t641039, 0)))) else (none)) else (none)) else (none)) else (none)) else (none)) else (if a1 ≤ (l0.length : Int) then (if 0 ≤ a2 then (if a2 ≤ a3 then (if a3 ≤ (l0.length : Int) then (if 0 ≤ a4 then ((slices_Concat_int64_int64.f (([(l0.take (a1 : Int).toNat), y641013, ((l0.take (a3 : Int).toNat).drop (a2 : Int).toNat), y641008, (l0.drop (a4 : Int).toNat)] : List (List Int)))).bind fun t641060 => ((impl_normal.f t641060).bind fun t641063 => (some (t641063, 0)))) else (none)) else (none)) else (none)) else (none)) else (none))) else ((impl_reversed.f k y641008).bind fun t641066 => ((impl_reversed.f k y641013).bind fun t641069 => (if a5 = 1 then (if a1 ≤ (l0.length : Int) then (if 0 ≤ a2 then (if a2 ≤ a3 then (if a3 ≤ (l0.length : Int) then (if 0 ≤ a4 then ((slices_Concat_int64_int64.f (([(l0.take (a1 : Int).toNat), t641066, ((l0.take (a3 : Int).toNat).drop (a2 : Int).toNat), t641069, (l0.drop (a4 : Int).toNat)] : List (List Int)))).bind fun t641090 => ((impl_normal.f t641090).bind fun t641093 => (some (t641093, 0)))) else (none)) else (none)) else (none)) else (none)) else (none)) else (if a1 ≤ (l0.length : Int) then (if 0 ≤ a2 then (if a2 ≤ a3 then (if a3 ≤ (l0.length : Int) then (if 0 ≤ a4 then ((slices_Concat_int64_int64.f (([(l0.take (a1 : Int).toNat), t641069, ((l0.take (a3 : Int).toNat).drop (a2 : Int).toNat), t641066, (l0.drop (a4 : Int).toNat)] : List (List Int)))).bind fun t641114 => ((impl_normal.f t641114).bind fun t641117 => (some (t641117, 0)))) else (none)) else (none)) else (none)) else (none)) else (none))))))) else (none)) else (none)) else (none))) else (none)) else (none)) else (none)) else (some (([] : List Int), 5)))) else (some (([] : List Int), 2)))) = some (r1, r2) := by rw [if_pos rfl] at H; exact H
   clear H
   have H := H1
   clear H1
   replace H := Option.bind_eq_some_iff.mp H
   obtain ⟨t641006, A110, H⟩ := H
   replace H : (if t641006 = true then ((impl_isShare.f l0 a1 a2 a3 a4).bind fun t641007 => (if t641007 = true then (if 0 ≤ a1 then (if a1 ≤ a2 then (if a2 ≤ (l0.length : Int) then ((some ((l0.take (a2 : Int).toNat).drop (a1 : Int).toNat : List Int)).bind fun y641008 => (if 0 ≤ a3 then (if a3 ≤ a4 then (if a4 ≤ (l0.length : Int) then ((some ((l0.take (a4 : Int).toNat).drop (a3 : Int).toNat : List Int)).bind fun y641013 => (if a5 = 0 then (if a5 = 1 then (if a1 ≤ (l0.length : Int) then (if 0 ≤ a2 then (if a2 ≤ a3 then (if a3 ≤ (l0.length : Int) then (if 0 ≤ a4 then ((slices_Concat_int64_int64.f (([(l0.take (a1 : Int).toNat), y641008, ((l0.take (a3 : Int).toNat).drop (a2 : Int).toNat), y641013, (l0.drop (a4 : Int).toNat)] : List (List Int)))).bind fun t641036 => ((impl_normal.f t641036).bind fun t641039 => (some (t641039, 0)))) else (none)) else (none)) else (none)) else (none)) else (none)) else (if a1 ≤ (l0.length : Int) then (if 0 ≤ a2 then (if a2 ≤ a3 then (if a3 ≤ (l0.length : Int) then (if 0 ≤ a4 then ((slices_Concat_int64_int64.f (([(l0.take (a1 : Int).toNat), y641013, ((l0.take (a3 : Int).toNat).drop (a2 : Int).toNat), y641008, (l0.drop (a4 : Int).toNat)] : List (List Int)))).bind fun t641060 => ((impl_normal.f t641060).bind fun t641063 => (some (t641063, 0)))) else (none)) else (none)) else (none)) else (none)) else (none))) else ((impl_reversed.f k y641008).bind fun t641066 => ((impl_reversed.f k y641013).bind fun t641069 => (if a5 = 1 then (if a1 ≤ (l0.length : Int) then (if 0 ≤ a2 then (if a2 ≤ a3 then (if a3 ≤ (l0.length : Int) then (if 0 ≤ a4 then ((slices_Concat_int64_int64.f (([(l0.take (a1 : Int).toNat), t641066, ((l0.take (a3 : Int).toNat).drop (a2 : Int).toNat), t641069, (l0.drop (a4 : Int).toNat)] : List (List Int)))).bind fun t641090 => ((impl_normal.f t641090).bind fun t641093 => (some (t641093, 0)))) else (none)) else (none)) else (none)) else (none)) else (none)) else (if a1 ≤ (l0.length : Int) then (if 0 ≤ a2 then (if a2 ≤ a3 then (if a3 ≤ (l0.length : Int) then (if 0 ≤ a4 then ((slices_Concat_int64_int64.f (([(l0.take (a1 : Int).toNat), t641069, ((l0.take (a3 : Int).toNat).drop (a2 : Int).toNat), t641066, (l0.drop (a4 : Int).toNat)] : List (List Int)))).bind fun t641114 => ((impl_normal.f t641114).bind fun t641117 => (some (t641117, 0)))) else (none)) else (none)) else (none)) else (none)) else (none))))))) else (none)) else (none)) else (none))) else (none)) else (none)) else (none)) else (some (([] : List Int), 5)))) else (some (([] : List Int), 2))) = some (r1, r2) := H
   have A11 := Aside0.mk A110
   clear A110
   by_cases c12 : t641006 = true
   ·subst c12
    have H1 : ((impl_isShare.f l0 a1 a2 a3 a4).bind fun t641007 => (if t641007 = true then (if 0 ≤ a1 then (if a1 ≤ a2 then (if a2 ≤ (l0.length : Int) then ((some ((l0.take (a2 : Int).toNat).drop (a1 : Int).toNat : List Int)).bind fun y641008 => (if 0 ≤ a3 then (if a3 ≤ a4 then (if a4 ≤ (l0.length : Int) then ((some ((l0.take (a4 : Int).toNat).drop (a3 : Int).toNat : List Int)).bind fun y641013 => (if a5 = 0 then (if a5 = 1 then (if a1 ≤ (l0.length : Int) then (if 0 ≤ a2 then (if a2 ≤ a3 then (if a3 ≤ (l0.length : Int) then (if 0 ≤ a4 then ((slices_Concat_int64_int64.f (([(l0.take (a1 : Int).toNat), y641008, ((l0.take (a3 : Int).toNat).drop (a2 : Int).toNat), y641013, (l0.drop (a4 : Int).toNat)] : List (List Int)))).bind fun t641036 => ((impl_normal.f t641036).bind fun t641039 => (some (t641039, 0)))) else (none)) else (none)) else (none)) else (none)) else (none)) else (if a1 ≤ (l0.length : Int) then (if 0 ≤ a2 then (if a2 ≤ a3 then (if a3 ≤ (l0.length : Int) then (if 0 ≤ a4 then ((slices_Concat_int64_int64.f (([(l0.take (a1 : Int).toNat), y641013, ((l0.take (a3 : Int).toNat).drop (a2 : Int).toNat), y641008, (l0.drop (a4 : Int).toNat)] : List (List Int)))).bind fun t641060 => ((impl_normal.f t641060).bind fun t641063 => (some (t641063, 0)))) else (none)) else (none)) else (none)) else (none)) else (none))) else ((impl_reversed.f k y641008).bind fun t641066 => ((impl_reversed.f k y641013).bind fun t641069 => (if a5 = 1 then (if a1 ≤ (l0.length : Int) then (if 0 ≤ a2 then (if a2 ≤ a3 then (if a3 ≤ (l0.length : Int) then (if 0 ≤ a4 then ((slices_Concat_int64_int64.f (([(l0.take (a1 : Int).toNat), t641066, ((l0.take (a3 : Int).toNat).drop (a2 : Int).toNat), t641069, (l0.drop (a4 : Int).toNat)] : List (List Int)))).bind fun t641090 => ((impl_normal.f t641090).bind fun t641093 => (some (t641093, 0)))) else (none)) else (none)) else (none)) else (none)) else (none)) else (if a1 ≤ (l0.length : Int) then (if 0 ≤ a2 then (if a2 ≤ a3 then (if a3 ≤ (l0.length : Int) then (if 0 ≤ a4 then ((slices_Concat_int64_int64.f (([(l0.take (a1 : Int).toNat), t641069, ((l0.take (a3 : Int).toNat).drop (a2 : Int).toNat), t641066, (l0.drop (a4 : Int).toNat)] : List (List Int)))).bind fun t641114 => ((impl_normal.f t641114).bind fun t641117 => (some (t641117, 0)))) else (none)) else (none)) else (none)) else (none)) else (none))))))) else (none)) else (none)) else (none))) else (none)) else (none)) else (none)) else (some (([] : List Int), 5)))) = some (r1, r2) := by rw [if_pos rfl] at H; exact H
    clear H
    have H := H1
    clear H1
    replace H := Option.bind_eq_some_iff.mp H
    obtain ⟨t641007, A130, H⟩ := H
    replace H : (if t641007 = true then (if 0 ≤ a1 then (if a1 ≤ a2 then (if a2 ≤ (l0.length : Int) then ((some ((l0.take (a2 : Int).toNat).drop (a1 : Int).toNat : List Int)).bind fun y641008 => (if 0 ≤ a3 then (if a3 ≤ a4 then (if a4 ≤ (l0.length : Int) then ((some ((l0.take (a4 : Int).toNat).drop (a3 : Int).toNat : List Int)).bind fun y641013 => (if a5 = 0 then (if a5 = 1 then (if a1 ≤ (l0.length : Int) then (if 0 ≤ a2 then (if a2 ≤ a3 then (if a3 ≤ (l0.length : Int) then (if 0 ≤ a4 then ((slices_Concat_int64_int64.f (([(l0.take (a1 : Int).toNat), y641008, ((l0.take (a3 : Int).toNat).drop (a2 : Int).toNat), y641013, (l0.drop (a4 : Int).toNat)] : List (List Int)))).bind fun t641036 => ((impl_normal.f t641036).bind fun t641039 => (some (t641039, 0)))) else (none)) else (none)) else (none)) else (none)) else (none)) else (if a1 ≤ (l0.length : Int) then (if 0 ≤ a2 then (if a2 ≤ a3 then (if a3 ≤ (l0.length : Int) then (if 0 ≤ a4 then ((slices_Concat_int64_int64.f (([(l0.take (a1 : Int).toNat), y641013, ((l0.take (a3 : Int).toNat).drop (a2 : Int).toNat), y641008, (l0.drop (a4 : Int).toNat)] : List (List Int)))).bind fun t641060 => ((impl_normal.f t641060).bind fun t641063 => (some (t641063, 0)))) else (none)) else (none)) else (none)) else (none)) else (none))) else ((impl_reversed.f k y641008).bind fun t641066 => ((impl_reversed.f k y641013).bind fun t641069 => (if a5 = 1 then (if a1 ≤ (l0.length : Int) then (if 0 ≤ a2 then (if a2 ≤ a3 then (if a3 ≤ (l0.length : Int) then (if 0 ≤ a4 then ((slices_Concat_int64_int64.f (([(l0.take (a1 : Int).toNat), t641066, ((l0.take (a3 : Int).toNat).drop (a2 : Int).toNat), t641069, (l0.drop (a4 : Int).toNat)] : List (List Int)))).bind fun t641090 => ((impl_normal.f t641090).bind fun t641093 => (some (t641093, 0)))) else (none)) else (none)) else (none)) else (none)) else (none)) else (if a1 ≤ (l0.length : Int) then (if 0 ≤ a2 then (if a2 ≤ a3 then (if a3 ≤ (l0.length : Int) then (if 0 ≤ a4 then ((slices_Concat_int64_int64.f (([(l0.take (a1 : Int).toNat), t641069, ((l0.take (a3 : Int).toNat).drop (a2 : Int).toNat), t641066, (l0.drop (a4 : Int).toNat)] : List (List Int)))).bind fun t641114 => ((impl_normal.f t641114).bind fun t641117 => (some (t641117, 0)))) else (none)) else (none)) else (none)) else (none)) else (none))))))) else (none)) else (none)) else (none))) else (none)) else (none)) else (none)) else (some (([] : List Int), 5))) = some (r1, r2) := H
    have A13 := Aside0.mk A130
    clear A130
    by_cases c14 : t641007 = true
    ·subst c14
     have H1 : (if 0 ≤ a1 then (if a1 ≤ a2 then (if a2 ≤ (l0.length : Int) then ((some ((l0.take (a2 : Int).toNat).drop (a1 : Int).toNat : List Int)).bind fun y641008 => (if 0 ≤ a3 then (if a3 ≤ a4 then (if a4 ≤ (l0.length : Int) then ((some ((l0.take (a4 : Int).toNat).drop (a3 : Int).toNat : List Int)).bind fun y641013 => (if a5 = 0 then (if a5 = 1 then (if a1 ≤ (l0.length : Int) then (if 0 ≤ a2 then (if a2 ≤ a3 then (if a3 ≤ (l0.length : Int) then (if 0 ≤ a4 then ((slices_Concat_int64_int64.f (([(l0.take (a1 : Int).toNat), y641008, ((l0.take (a3 : Int).toNat).drop (a2 : Int).toNat), y641013, (l0.drop (a4 : Int).toNat)] : List (List Int)))).bind fun t641036 => ((impl_normal.f t641036).bind fun t641039 => (some (t641039, 0)))) else (none)) else (none)) else (none)) else (none)) else (none)) else (if a1 ≤ (l0.length : Int) then (if 0 ≤ a2 then (if a2 ≤ a3 then (if a3 ≤ (l0.length : Int) then (if 0 ≤ a4 then ((slices_Concat_int64_int64.f (([(l0.take (a1 : Int).toNat), y641013, ((l0.take (a3 : Int).toNat).drop (a2 : Int).toNat), y641008, (l0.drop (a4 : Int).toNat)] : List (List Int)))).bind fun t641060 => ((impl_normal.f t641060).bind fun t641063 => (some (t641063, 0)))) else (none)) else (none)) else (none)) else (none)) else (none))) else ((impl_reversed.f k y641008).bind fun t641066 => ((impl_reversed.f k y641013).bind fun t641069 => (if a5 = 1 then (if a1 ≤ (l0.length : Int) then (if 0 ≤ a2 then (if a2 ≤ a3 then (if a3 ≤ (l0.length : Int) then (if 0 ≤ a4 then ((slices_Concat_int64_int64.f (([(l0.take (a1 : Int).toNat), t641066, ((l0.take (a3 : Int).toNat).drop (a2 : Int).toNat), t641069, (l0.drop (a4 : Int).toNat)] : List (List Int)))).bind fun t641090 => ((impl_normal.f t641090).bind fun t641093 => (some (t641093, 0)))) else (none)) else (none)) else (none)) else (none)) else (none)) else (if a1 ≤ (l0.length : Int) then (if 0 ≤ a2 then (if a2 ≤ a3 then (if a3 ≤ (l0.length : Int) then (if 0 ≤ a4 then ((slices_Concat_int64_int64.f (([(l0.take (a1 : Int).toNat), t641069, ((l0.take (a3 : Int).toNat).drop (a2 : Int).toNat), t641066, (l0.drop (a4 : Int).toNat)] : List (List Int)))).bind fun t641114 => ((impl_normal.f t641114).bind fun t641117 => (some (t641117, 0)))) else (none)) else (none)) else (none)) else (none)) else (none))))))) else (none)) else (none)) else (none))) else (none)) else (none)) else (none)) = some (r1, r2) := by rw [if_pos rfl] at H; exact H
     clear H
     have H := H1
     clear H1
     by_cases c15 : 0 ≤ a1
     ·rw [if_pos c15] at H
      have c15b0 := eq_true c15
      have c15b1 : decide (0 ≤ a1) = true := decide_eq_true c15
      clear c15
      by_cases c16 : a1 ≤ a2
      ·rw [if_pos c16] at H
       have c16b0 := eq_true c16
       have c16b1 : decide (a1 ≤ a2) = true := decide_eq_true c16
       clear c16
       by_cases c17 : a2 ≤ (l0.length : Int)
       ·rw [if_pos c17] at H
        have c17b0 := eq_true c17
        have c17b1 : decide (a2 ≤ (l0.length : Int)) = true := decide_eq_true c17
        clear c17
        obtain ⟨y641008, hy641008⟩ : ∃ y_ : List Int, y_ = ((l0.take (a2 : Int).toNat).drop (a1 : Int).toNat) := ⟨_, rfl⟩
        replace H : (if 0 ≤ a3 then (if a3 ≤ a4 then (if a4 ≤ (l0.length : Int) then ((some ((l0.take (a4 : Int).toNat).drop (a3 : Int).toNat : List Int)).bind fun y641013 => (if a5 = 0 then (if a5 = 1 then (if a1 ≤ (l0.length : Int) then (if 0 ≤ a2 then (if a2 ≤ a3 then (if a3 ≤ (l0.length : Int) then (if 0 ≤ a4 then ((slices_Concat_int64_int64.f (([(l0.take (a1 : Int).toNat), y641008, ((l0.take (a3 : Int).toNat).drop (a2 : Int).toNat), y641013, (l0.drop (a4 : Int).toNat)] : List (List Int)))).bind fun t641036 => ((impl_normal.f t641036).bind fun t641039 => (some (t641039, 0)))) else (none)) else (none)) else (none)) else (none)) else (none)) else (if a1 ≤ (l0.length : Int) then (if 0 ≤ a2 then (if a2 ≤ a3 then (if a3 ≤ (l0.length : Int) then (if 0 ≤ a4 then ((slices_Concat_int64_int64.f (([(l0.take (a1 : Int).toNat), y641013, ((l0.take (a3 : Int).toNat).drop (a2 : Int).toNat), y641008, (l0.drop (a4 : Int).toNat)] : List (List Int)))).bind fun t641060 => ((impl_normal.f t641060).bind fun t641063 => (some (t641063, 0)))) else (none)) else (none)) else (none)) else (none)) else (none))) else ((impl_reversed.f k y641008).bind fun t641066 => ((impl_reversed.f k y641013).bind fun t641069 => (if a5 = 1 then (if a1 ≤ (l0.length : Int) then (if 0 ≤ a2 then (if a2 ≤ a3 then (if a3 ≤ (l0.length : Int) then (if 0 ≤ a4 then ((slices_Concat_int64_int64.f (([(l0.take (a1 : Int).toNat), t641066, ((l0.take (a3 : Int).toNat).drop (a2 : Int).toNat), t641069, (l0.drop (a4 : Int).toNat)] : List (List Int)))).bind fun t641090 => ((impl_normal.f t641090).bind fun t641093 => (some (t641093, 0)))) else (none)) else (none)) else (none)) else (none)) else (none)) else (if a1 ≤ (l0.length : Int) then (if 0 ≤ a2 then (if a2 ≤ a3 then (if a3 ≤ (l0.length : Int) then (if 0 ≤ a4 then ((slices_Concat_int64_int64.f (([(l0.take (a1 : Int).toNat), t641069, ((l0.take (a3 : Int).toNat).drop (a2 : Int).toNat), t641066, (l0.drop (a4 : Int).toNat)] : List (List Int)))).bind fun t641114 => ((impl_normal.f t641114).bind fun t641117 => (some (t641117, 0)))) else (none)) else (none)) else (none)) else (none)) else (none))))))) else (none)) else (none)) else (none)) = some (r1, r2) := by first | (rw [hy641008]; with_reducible exact H) | (have H2_ := (Option.bind_some _ _).symm.trans H; rw [hy641008]; with_reducible exact H2_) | (have H2_ := (Option.bind_some _ _).symm.trans H; with_reducible exact H2_) | with_reducible exact H | (rw [hy641008]; exact H) | exact H
        have Ny641008 := Aside0.mk hy641008
        clear hy641008
        by_cases c18 : 0 ≤ a3
        ·rw [if_pos c18] at H
         have c18b0 := eq_true c18
         have c18b1 : decide (0 ≤ a3) = true := decide_eq_true c18
         clear c18
         by_cases c19 : a3 ≤ a4
         ·rw [if_pos c19] at H
          have c19b0 := eq_true c19
          have c19b1 : decide (a3 ≤ a4) = true := decide_eq_true c19
          clear c19
          by_cases c20 : a4 ≤ (l0.length : Int)
          ·rw [if_pos c20] at H
           have c20b0 := eq_true c20
           have c20b1 : decide (a4 ≤ (l0.length : Int)) = true := decide_eq_true c20
           clear c20
           obtain ⟨y641013, hy641013⟩ : ∃ y_ : List Int, y_ = ((l0.take (a4 : Int).toNat).drop (a3 : Int).toNat) := ⟨_, rfl⟩
           replace H : (if a5 = 0 then (if a5 = 1 then (if a1 ≤ (l0.length : Int) then (if 0 ≤ a2 then (if a2 ≤ a3 then (if a3 ≤ (l0.length : Int) then (if 0 ≤ a4 then ((slices_Concat_int64_int64.f (([(l0.take (a1 : Int).toNat), y641008, ((l0.take (a3 : Int).toNat).drop (a2 : Int).toNat), y641013, (l0.drop (a4 : Int).toNat)] : List (List Int)))).bind fun t641036 => ((impl_normal.f t641036).bind fun t641039 => (some (t641039, 0)))) else (none)) else (none)) else (none)) else (none)) else (none)) else (if a1 ≤ (l0.length : Int) then (if 0 ≤ a2 then (if a2 ≤ a3 then (if a3 ≤ (l0.length : Int) then (if 0 ≤ a4 then ((slices_Concat_int64_int64.f (([(l0.take (a1 : Int).toNat), y641013, ((l0.take (a3 : Int).toNat).drop (a2 : Int).toNat), y641008, (l0.drop (a4 : Int).toNat)] : List (List Int)))).bind fun t641060 => ((impl_normal.f t641060).bind fun t641063 => (some (t641063, 0)))) else (none)) else (none)) else (none)) else (none)) else (none))) else ((impl_reversed.f k y641008).bind fun t641066 => ((impl_reversed.f k y641013).bind fun t641069 => (if a5 = 1 then (if a1 ≤ (l0.length : Int) then (if 0 ≤ a2 then (if a2 ≤ a3 then (if a3 ≤ (l0.length : Int) then (if 0 ≤ a4 then ((slices_Concat_int64_int64.f (([(l0.take (a1 : Int).toNat), t641066, ((l0.take (a3 : Int).toNat).drop (a2 : Int).toNat), t641069, (l0.drop (a4 : Int).toNat)] : List (List Int)))).bind fun t641090 => ((impl_normal.f t641090).bind fun t641093 => (some (t641093, 0)))) else (none)) else (none)) else (none)) else (none)) else (none)) else (if a1 ≤ (l0.length : Int) then (if 0 ≤ a2 then (if a2 ≤ a3 then (if a3 ≤ (l0.length : Int) then (if 0 ≤ a4 then ((slices_Concat_int64_int64.f (([(l0.take (a1 : Int).toNat), t641069, ((l0.take (a3 : Int).toNat).drop (a2 : Int).toNat), t641066, (l0.drop (a4 : Int).toNat)] : List (List Int)))).bind fun t641114 => ((impl_normal.f t641114).bind fun t641117 => (some (t641117, 0)))) else (none)) else (none)) else (none)) else (none)) else (none)))))) = some (r1, r2) := by first | (rw [hy641013]; with_reducible exact H) | (have H2_ := (Option.bind_some _ _).symm.trans H; rw [hy641013]; with_reducible exact H2_) | (have H2_ := (Option.bind_some _ _).symm.trans H; with_reducible exact H2_) | with_reducible exact H | (rw [hy641013]; exact H) | exact H
           have Ny641013 := Aside0.mk hy641013
           clear hy641013
           by_cases c21 : a5 = 0
           ·rw [if_pos c21] at H
            have c21b0 : (a5 == 0) = true := beq_iff_eq.mpr c21
            have c21b1 : (a5 != 0) = false := bne_eq_false_iff_eq.mpr c21
            clear c21
            by_cases c22 : a5 = 1
            ·rw [if_pos c22] at H
             have c22b0 : (a5 == 1) = true := beq_iff_eq.mpr c22
             have c22b1 : (a5 != 1) = false := bne_eq_false_iff_eq.mpr c22
             clear c22
             have c23b0 := eq_true (of_decide_eq_true (by first | (with_reducible assumption) | assumption) : 0 ≤ a1)
             by_cases c24 : a1 ≤ (l0.length : Int)
             ·rw [if_pos c24] at H
              have c24b0 := eq_true c24
              have c24b1 : decide (a1 ≤ (l0.length : Int)) = true := decide_eq_true c24
              clear c24
              obtain ⟨y641018, hy641018⟩ : ∃ y_ : List Int, y_ = (l0.take (a1 : Int).toNat) := ⟨_, rfl⟩
              replace H : (if 0 ≤ a2 then (if a2 ≤ a3 then (if a3 ≤ (l0.length : Int) then (if 0 ≤ a4 then ((slices_Concat_int64_int64.f (([y641018, y641008, ((l0.take (a3 : Int).toNat).drop (a2 : Int).toNat), y641013, (l0.drop (a4 : Int).toNat)] : List (List Int)))).bind fun t641036 => ((impl_normal.f t641036).bind fun t641039 => (some (t641039, 0)))) else (none)) else (none)) else (none)) else (none)) = some (r1, r2) := by first | (rw [hy641018]; with_reducible exact H) | (have H2_ := (Option.bind_some _ _).symm.trans H; rw [hy641018]; with_reducible exact H2_) | (have H2_ := (Option.bind_some _ _).symm.trans H; with_reducible exact H2_) | with_reducible exact H | (rw [hy641018]; exact H) | exact H
              have Ny641018 := Aside0.mk hy641018
              clear hy641018
              by_cases c25 : 0 ≤ a2
              ·rw [if_pos c25] at H
               have c25b0 := eq_true c25
               have c25b1 : decide (0 ≤ a2) = true := decide_eq_true c25
               clear c25
               by_cases c26 : a2 ≤ a3
               ·rw [if_pos c26] at H
                have c26b0 := eq_true c26
                have c26b1 : decide (a2 ≤ a3) = true := decide_eq_true c26
                clear c26
                by_cases c27 : a3 ≤ (l0.length : Int)
                ·rw [if_pos c27] at H
                 have c27b0 := eq_true c27
                 have c27b1 : decide (a3 ≤ (l0.length : Int)) = true := decide_eq_true c27
                 clear c27
                 obtain ⟨y641023, hy641023⟩ : ∃ y_ : List Int, y_ = ((l0.take (a3 : Int).toNat).drop (a2 : Int).toNat) := ⟨_, rfl⟩
                 replace H : (if 0 ≤ a4 then ((slices_Concat_int64_int64.f (([y641018, y641008, y641023, y641013, (l0.drop (a4 : Int).toNat)] : List (List Int)))).bind fun t641036 => ((impl_normal.f t641036).bind fun t641039 => (some (t641039, 0)))) else (none)) = some (r1, r2) := by first | (rw [hy641023]; with_reducible exact H) | (have H2_ := (Option.bind_some _ _).symm.trans H; rw [hy641023]; with_reducible exact H2_) | (have H2_ := (Option.bind_some _ _).symm.trans H; with_reducible exact H2_) | with_reducible exact H | (rw [hy641023]; exact H) | exact H
                 have Ny641023 := Aside0.mk hy641023
                 clear hy641023
                 by_cases c28 : 0 ≤ a4
                 ·rw [if_pos c28] at H
                  have c28b0 := eq_true c28
                  have c28b1 : decide (0 ≤ a4) = true := decide_eq_true c28
                  clear c28
                  have c29b0 := eq_true (of_decide_eq_true (by first | (with_reducible assumption) | assumption) : a4 ≤ (l0.length : Int))
                  obtain ⟨y641028, hy641028⟩ : ∃ y_ : List Int, y_ = (l0.drop (a4 : Int).toNat) := ⟨_, rfl⟩
                  replace H : ((slices_Concat_int64_int64.f (([y641018, y641008, y641023, y641013, y641028] : List (List Int)))).bind fun t641036 => ((impl_normal.f t641036).bind fun t641039 => (some (t641039, 0)))) = some (r1, r2) := by first | (rw [hy641028]; with_reducible exact H) | (have H2_ := (Option.bind_some _ _).symm.trans H; rw [hy641028]; with_reducible exact H2_) | (have H2_ := (Option.bind_some _ _).symm.trans H; with_reducible exact H2_) | with_reducible exact H | (rw [hy641028]; exact H) | exact H
                  have Ny641028 := Aside0.mk hy641028
                  clear hy641028
                  obtain ⟨y641033, hy641033⟩ : ∃ y_ : List (List Int), y_ = (([y641018, y641008, y641023, y641013, y641028] : List (List Int))) := ⟨_, rfl⟩
                  replace H : ((slices_Concat_int64_int64.f y641033).bind fun t641036 => ((impl_normal.f t641036).bind fun t641039 => (some (t641039, 0)))) = some (r1, r2) := by first | (rw [hy641033]; with_reducible exact H) | (have H2_ := (Option.bind_some _ _).symm.trans H; rw [hy641033]; with_reducible exact H2_) | (have H2_ := (Option.bind_some _ _).symm.trans H; with_reducible exact H2_) | with_reducible exact H | (rw [hy641033]; exact H) | exact H
                  have Ny641033 := Aside0.mk hy641033
                  clear hy641033
                  replace H := Option.bind_eq_some_iff.mp H
                  obtain ⟨t641036, A300, H⟩ := H
                  replace H : ((impl_normal.f t641036).bind fun t641039 => (some (t641039, 0))) = some (r1, r2) := H
                  have A30 := Aside0.mk A300
                  clear A300
                  replace H := Option.bind_eq_some_iff.mp H
                  obtain ⟨t641039, A310, H⟩ := H
                  replace H : (some (t641039, 0)) = some (r1, r2) := H
                  have A31 := Aside0.mk A310
                  clear A310
                  simp only [Option.some.injEq, Prod.mk.injEq] at H
                  obtain ⟨rfl, rfl⟩ := H
                  go_enter Try.func64, Try.ntmps64
                  try go_wp2_with (first | ((with_reducible refine gate_callee (f := 84) rfl ?_); refine goesL_ (some 18) rfl rfl Try.func84 (by kernel_rfl) rfl #[.slice A0 l0.length c0] rfl (by (try simp only [List.map_toArray, List.map_cons, List.map_nil]); first | done | rfl | (simp only [List.length_drop, List.length_take]; rfl)) ?_; (with_reducible refine (impl_IsWord.calls k _ _ l0 true _ ?side1 ?side2 A7.out).mono ?_); (case side1 => repeat (first | exact (Kd.V_reads' HO0.out).2.2 | (with_reducible refine Kd.C_alloc ?_ _) | (with_reducible refine Kd.C_drewN ?_ _) | (with_reducible refine Kd.C_drew ?_))); (case side2 => exact (Kd.V_reads' HO0.out).2.1); rintro e w32 ⟨rfl, hb⟩; refine ⟨_, rfl, ?_⟩; have n0_ := Aside0.mk (Kd.V_below (by (with_reducible repeat (first | apply Kd.V_alloc | apply Kd.V_drewN | apply Kd.V_drew)); exact HO0.out) hb); have n1_ := Aside0.mk (below_step (by repeat (first | (with_reducible first | exact HB.out | apply below_alloc | apply pw_below_drewN | apply below_drew1) | exact HB.out)) hb); clear HO0; clear HB; have HO0 := n0_; have HB := n1_; clear n0_ n1_; (try clear hb); (try clear hb2); (try clear hk); (try clear hi)) | ((with_reducible refine gate_dst (N := 26) rfl ?_); refine Kd.R_lit (Kd.int .i64) _ 2 ?hg (N := 26) ?hd (xs := ([a1, a2, a3, a4] : List Int)) (inner := [.int .i64 a1, .int .i64 a2, .int .i64 a3, .int .i64 a4]) (ok := fun _ => True) (okp := fun _ => True) ?hr ?hp (fun _ hk => hk) trivial (Below.refl _ _) (Nat.le_refl _) (by simp) ?_; (case hd => rfl); (case hg => rfl); (case hr => first | (go_simp; done) | (go_simp; rfl)); (case hp => exact (Reps.one (show Kd.M (Kd.int .i64) _ _ _ a1 [.int .i64 a1] from rfl) (Reps.one (show Kd.M (Kd.int .i64) _ _ _ a2 [.int .i64 a2] from rfl) (Reps.one (show Kd.M (Kd.int .i64) _ _ _ a3 [.int .i64 a3] from rfl) (Reps.one (show Kd.M (Kd.int .i64) _ _ _ a4 [.int .i64 a4] from rfl) (Reps.none _ _)))))); intro v641003 w33 ho34 hb hg_ hnew_; clear hg_ hnew_; (first | rw [← Ny641002.out] at ho34 | (simp only [Int.reduceToNat] at ho34; rw [← Ny641002.out] at ho34)); have n0_ := Aside0.mk (Kd.V_elder' (by (with_reducible repeat (first | apply Kd.V_alloc | apply Kd.V_drewN | apply Kd.V_drew)); exact HO0.out) (Kd.R_base ho34) hb); have n1_ := Aside0.mk (Kd.R_lower (Kd.R_newM (M := fun k_ => (w.heap.size ≤ k_)) ho34 (below_size (by repeat (first | (with_reducible first | exact HB.out | apply below_alloc | apply pw_below_drewN | apply below_drew1) | exact HB.out))) (fun k_ h_ => h_)) (below_size (by repeat (first | (with_reducible first | exact HB.out | apply below_alloc | apply pw_below_drewN | apply below_drew1) | exact HB.out)))); have n2_ := Aside0.mk (below_step (by repeat (first | (with_reducible first | exact HB.out | apply below_alloc | apply pw_below_drewN | apply below_drew1) | exact HB.out)) hb); clear HO0; clear HB; have HO0 := n0_; have HO641004 := n1_; have HB := n2_; clear n0_ n1_ n2_; clear hb ho34; obtain ⟨Ao35, co35, eo35⟩ := Kd.R_slice HO641004.out; subst eo35) | ((with_reducible refine gate_callee (f := 88) rfl ?_); refine goesL_ (some 27) rfl rfl Try.func88 (by kernel_rfl) rfl #[.slice A0 l0.length c0, .slice Ao35 y641002.length co35] rfl (by (try simp only [List.map_toArray, List.map_cons, List.map_nil]); first | done | rfl | (simp only [List.length_drop, List.length_take]; rfl)) ?_; (with_reducible refine (impl_placesOk.calls k _ _ l0 _ _ y641002 true _ ?side1 ?side2 ?side3 ?side4 A9.out).mono ?_); (case side1 => repeat (first | exact (Kd.V_reads' HO0.out).2.2 | (with_reducible refine Kd.C_alloc ?_ _) | (with_reducible refine Kd.C_drewN ?_ _) | (with_reducible refine Kd.C_drew ?_))); (case side2 => exact (Kd.V_reads' HO0.out).2.1); (case side3 => repeat (first | exact (Kd.R_reads' HO641004.out).2.2 | (with_reducible refine Kd.C_alloc ?_ _) | (with_reducible refine Kd.C_drewN ?_ _) | (with_reducible refine Kd.C_drew ?_))); (case side4 => exact (Kd.R_reads' HO641004.out).2.1); rintro e w' ⟨rfl, ⟨nd, rfl⟩⟩; refine ⟨_, rfl, ?_⟩) | (go_at_call 81; (with_reducible refine (impl_in.calls a5 0 2 true _ A11.out).mono ?_); rintro e w' ⟨rfl, ⟨nd, rfl⟩⟩) | ((with_reducible refine gate_callee (f := 89) rfl ?_); refine goesL_ (some 40) rfl rfl Try.func89 (by kernel_rfl) rfl #[.slice A0 l0.length c0, .int .i64 a1, .int .i64 a2, .int .i64 a3, .int .i64 a4] rfl (by (try simp only [List.map_toArray, List.map_cons, List.map_nil]); first | done | rfl | (simp only [List.length_drop, List.length_take]; rfl)) ?_; (with_reducible refine (impl_isShare.calls (fun k_ => ((P0_ k_ ∨ w.heap.size ≤ k_) ∧ some k_ ≠ (.slice Ao35 y641002.length co35 : Value).ownBlock)) _ _ l0 a1 a2 a3 a4 true _ ?side1 A13.out).mono ?_); (case side1 => exact HO0.out); rintro e w36 ⟨rfl, hb⟩; refine ⟨_, rfl, ?_⟩; have n0_ := Aside0.mk (Kd.V_below (by (with_reducible repeat (first | apply Kd.V_alloc | apply Kd.V_drewN | apply Kd.V_drew)); exact HO0.out) hb); have n1_ := Aside0.mk (Kd.R_below (by (with_reducible repeat (first | apply Kd.R_alloc | apply Kd.R_drewN | apply Kd.R_drew)); exact HO641004.out) hb); have n2_ := Aside0.mk (below_step (by repeat (first | (with_reducible first | exact HB.out | apply below_alloc | apply pw_below_drewN | apply below_drew1) | exact HB.out)) hb); clear HO0; clear HO641004; clear HB; have HO0 := n0_; have HO641004 := n1_; have HB := n2_; clear n0_ n1_ n2_; (try clear hb); (try clear hb2); (try clear hk); (try clear hi)))
                  have n0_ := Aside0.mk (Kd.V_drew HO0.out)
                  have n1_ := Aside0.mk (Kd.R_drew HO641004.out)
                  have n2_ := Aside0.mk (below_drew1 HB.out)
                  clear HO0
                  clear HO641004
                  clear HB
                  have HO0 := n0_
                  have HO641004 := n1_
                  have HB := n2_
                  clear n0_ n1_ n2_
                  have q38 : (a2 : Int) ≤ ((l0.length : Int) : Int) := of_decide_eq_true (by first | (with_reducible assumption) | assumption)
                  obtain ⟨i038, hi038, _, hsz38, _⟩ := info_parts info2
                  have hroom38 : l0.length ≤ c0 := (Kd.V_reads' HO0.out).2.1
                  have hC38 : Kd.F (Kd.int .i64) _ _ A0 l0.length l0 := (Kd.V_at (base := w.heap.size) HO0.out).2.2
                  have ql38 : (a1 : Int) ≤ (a2 : Int) := of_decide_eq_true (by first | (with_reducible assumption) | assumption)
                  have q038 : (0 : Int) ≤ (a1 : Int) := of_decide_eq_true (by first | (with_reducible assumption) | assumption)
                  have hcut38 := cut_mid (P := Try.prog) 22 2 .i64 .i64 Try.underlying22 hi038 1 hsz38 A0 l0.length c0 a1 a2 q038 ql38 q38 hroom38
                  have hr38 := Kd.F_mid (lo := (a1 : Int).toNat) (hi := (a2 : Int).toNat) (c := c0) hC38 (by omega) (by omega) hroom38
                  obtain ⟨A38, hA38⟩ : ∃ A1, A1 = (if c0 = (a1 : Int).toNat then A0 else (A0 : Option Addr).map (·.add ((a1 : Int).toNat * 1))) := ⟨_, rfl⟩
                  obtain ⟨c38, hc38⟩ : ∃ c1, c1 = c0 - (a1 : Int).toNat := ⟨_, rfl⟩
                  have hy38 : y641008.length = (a2 : Int).toNat - (a1 : Int).toNat := (by rw [Ny641008.out, List.length_drop, List.length_take] <;> omega)
                  rw [show ((l0).take (a2 : Int).toNat).drop (a1 : Int).toNat = y641008 from Ny641008.out.symm] at hr38
                  replace hr38 : Kd.F (Kd.int .i64) _ _ A38 y641008.length y641008 := (by rw [hA38]; exact hr38)
                  rw [← hy38, ← hA38, ← hc38] at hcut38
                  have HO641012 := Aside0.mk (show Kd.V (Kd.int .i64) 2 _ w.heap.size _ (.slice A38 y641008.length c38) y641008 from Kd.V_mk (by rw [hy38, hc38]; exact Nat.sub_le_sub_right (Nat.le_trans (by omega) hroom38) _) hr38)
                  have HC641012 := Aside0.mk (show y641008.length ≤ c38 from by rw [hy38, hc38]; exact Nat.sub_le_sub_right (Nat.le_trans (by omega) hroom38) _)
                  clear hr38 hC38 hroom38 hi038 hsz38 hc38
                  have KY38 := Aside0.mk hy38
                  have KA38 := Aside0.mk hA38
                  clear hy38 hA38
                  replace q38 := eq_true q38
                  have q39 : (a4 : Int) ≤ ((l0.length : Int) : Int) := of_decide_eq_true (by first | (with_reducible assumption) | assumption)
                  obtain ⟨i039, hi039, _, hsz39, _⟩ := info_parts info2
                  have hroom39 : l0.length ≤ c0 := (Kd.V_reads' HO0.out).2.1
                  have hC39 : Kd.F (Kd.int .i64) _ _ A0 l0.length l0 := (Kd.V_at (base := w.heap.size) HO0.out).2.2
                  have ql39 : (a3 : Int) ≤ (a4 : Int) := of_decide_eq_true (by first | (with_reducible assumption) | assumption)
                  have q039 : (0 : Int) ≤ (a3 : Int) := of_decide_eq_true (by first | (with_reducible assumption) | assumption)
                  have hcut39 := cut_mid (P := Try.prog) 22 2 .i64 .i64 Try.underlying22 hi039 1 hsz39 A0 l0.length c0 a3 a4 q039 ql39 q39 hroom39
                  have hr39 := Kd.F_mid (lo := (a3 : Int).toNat) (hi := (a4 : Int).toNat) (c := c0) hC39 (by omega) (by omega) hroom39
                  obtain ⟨A39, hA39⟩ : ∃ A1, A1 = (if c0 = (a3 : Int).toNat then A0 else (A0 : Option Addr).map (·.add ((a3 : Int).toNat * 1))) := ⟨_, rfl⟩
                  obtain ⟨c39, hc39⟩ : ∃ c1, c1 = c0 - (a3 : Int).toNat := ⟨_, rfl⟩
                  have hy39 : y641013.length = (a4 : Int).toNat - (a3 : Int).toNat := (by rw [Ny641013.out, List.length_drop, List.length_take] <;> omega)
                  rw [show ((l0).take (a4 : Int).toNat).drop (a3 : Int).toNat = y641013 from Ny641013.out.symm] at hr39
                  replace hr39 : Kd.F (Kd.int .i64) _ _ A39 y641013.length y641013 := (by rw [hA39]; exact hr39)
                  rw [← hy39, ← hA39, ← hc39] at hcut39
                  have HO641017 := Aside0.mk (show Kd.V (Kd.int .i64) 2 _ w.heap.size _ (.slice A39 y641013.length c39) y641013 from Kd.V_mk (by rw [hy39, hc39]; exact Nat.sub_le_sub_right (Nat.le_trans (by omega) hroom39) _) hr39)
                  have HC641017 := Aside0.mk (show y641013.length ≤ c39 from by rw [hy39, hc39]; exact Nat.sub_le_sub_right (Nat.le_trans (by omega) hroom39) _)
                  clear hr39 hC39 hroom39 hi039 hsz39 hc39
                  have KY39 := Aside0.mk hy39
                  have KA39 := Aside0.mk hA39
                  clear hy39 hA39
                  replace q39 := eq_true q39
                  refine start_ (n := 10) (S := fun w' => True) (ds := []) #[false, false, false, false, false, false, false, false, false, false] (by kernel_rfl) rfl rfl trivial (fun hHeld => ?_); refine with_tabW impl_MutateWord.tab7 impl_MutateWord.bits7 (fun HT_ HW_ => ?_)
                  generalize w36.drew = w37 at HO0 HO641004 HB HO641012 HO641017 hHeld ⊢
                  refine pure_ (i := 0) (N := some 42) (v := ?_) (a' := ?_) #[true, false, false, false, false, false, false, false, false, false] rfl rfl (any_of HT_.out (by kernel_rfl)) (fun _ _ _ h => h) (Or.inl ⟨by rfl, ?_⟩) ?_ ?_
                  rotate_left
                  ·intro w'
                   go_simp
                   with_reducible rfl
                  rotate_left
                  ·simp only [Act.put, List.setIfInBounds_toArray, List.set_cons_zero, List.set_cons_succ, i64_w, i32_w]
                   rfl
                  refine pure_ (i := 1) (N := some 43) (v := ?_) (a' := ?_) #[true, true, false, false, false, false, false, false, false, false] rfl rfl (any_of HT_.out (by kernel_rfl)) (fun _ _ _ h => h) (Or.inl ⟨by rfl, ?_⟩) ?_ ?_
                  rotate_left
                  ·intro w'
                   go_simp
                   with_reducible rfl
                  rotate_left
                  ·simp only [Act.put, List.setIfInBounds_toArray, List.set_cons_zero, List.set_cons_succ, i64_w, i32_w]
                   rfl
                  refine pure_ (i := 2) (N := some 44) (v := ?_) (a' := ?_) #[true, true, true, false, false, false, false, false, false, false] rfl rfl (any_of HT_.out (by kernel_rfl)) (fun _ _ _ h => h) (Or.inl ⟨by rfl, ?_⟩) ?_ ?_
                  rotate_left
                  ·intro w'
                   go_simp
                   with_reducible rfl
                  rotate_left
                  ·simp only [Act.put, List.setIfInBounds_toArray, List.set_cons_zero, List.set_cons_succ, i64_w, i32_w]
                   rfl
                  refine pure_ (i := 3) (N := some 45) (v := ?_) (a' := ?_) #[true, true, true, true, false, false, false, false, false, false] rfl rfl (any_of HT_.out (by kernel_rfl)) (fun _ _ _ h => h) (Or.inl ⟨by rfl, ?_⟩) ?_ ?_
                  rotate_left
                  ·intro w'
                   go_simp
                   with_reducible rfl
                  rotate_left
                  ·simp only [Act.put, List.setIfInBounds_toArray, List.set_cons_zero, List.set_cons_succ, i64_w, i32_w]
                   rfl
                  refine pure_ (i := 4) (N := some 46) (v := ?_) (a' := ?_) #[true, true, true, true, true, false, false, false, false, false] rfl rfl (any_of HT_.out (by kernel_rfl)) (fun _ _ _ h => h) (Or.inl ⟨by rfl, ?_⟩) ?_ ?_
                  rotate_left
                  ·intro w'
                   go_simp
                   with_reducible rfl
                  rotate_left
                  ·simp only [Act.put, List.setIfInBounds_toArray, List.set_cons_zero, List.set_cons_succ, i64_w, i32_w]
                   rfl
                  refine pure_ (i := 5) (N := some 47) (v := ?_) (a' := ?_) #[true, true, true, true, true, true, false, false, false, false] rfl rfl (any_of HT_.out (by kernel_rfl)) (fun _ _ _ h => h) (Or.inl ⟨by rfl, ?_⟩) ?_ ?_
                  rotate_left
                  ·intro w'
                   go_simp
                   with_reducible rfl
                  rotate_left
                  ·simp only [Act.put, List.setIfInBounds_toArray, List.set_cons_zero, List.set_cons_succ, i64_w, i32_w]
                   rfl
                  refine pure_ (i := 6) (N := some 48) (v := ?_) (a' := ?_) #[true, true, true, true, true, true, true, false, false, false] rfl rfl (any_of HT_.out (by kernel_rfl)) (fun _ _ _ h => h) (Or.inl ⟨by rfl, ?_⟩) ?_ ?_
                  rotate_left
                  ·intro w'
                   go_simp
                   with_reducible rfl
                  rotate_left
                  ·simp only [Act.put, List.setIfInBounds_toArray, List.set_cons_zero, List.set_cons_succ, i64_w, i32_w]
                   rfl
                  refine pure_ (i := 7) (N := some 49) (v := ?_) (a' := ?_) #[true, true, true, true, true, true, true, true, false, false] rfl rfl (any_of HT_.out (by kernel_rfl)) (fun _ _ _ h => h) (Or.inl ⟨by rfl, ?_⟩) ?_ ?_
                  rotate_left
                  ·intro w'
                   go_simp
                   with_reducible rfl
                  rotate_left
                  ·simp only [Act.put, List.setIfInBounds_toArray, List.set_cons_zero, List.set_cons_succ, i64_w, i32_w]
                   rfl
                  refine pure_ (i := 8) (N := some 14) (v := ?_) (a' := ?_) #[true, true, true, true, true, true, true, true, true, false] rfl rfl (any_of HT_.out (by kernel_rfl)) (fun _ _ _ h => h) (Or.inl ⟨by rfl, ?_⟩) ?_ ?_
                  rotate_left
                  ·intro w'
                   go_simp
                   with_reducible rfl
                  rotate_left
                  ·simp only [Act.put, List.setIfInBounds_toArray, List.set_cons_zero, List.set_cons_succ, i64_w, i32_w]
                   rfl
                  refine pure_ (i := 9) (N := some 15) (v := ?_) (a' := ?_) #[true, true, true, true, true, true, true, true, true, true] rfl rfl (any_of HT_.out (by kernel_rfl)) (fun _ _ _ h => h) (Or.inl ⟨by rfl, ?_⟩) ?_ ?_
                  rotate_left
                  ·intro w'
                   go_simp
                   with_reducible rfl
                  rotate_left
                  ·simp only [Act.put, List.setIfInBounds_toArray, List.set_cons_zero, List.set_cons_succ, i64_w, i32_w]
                   rfl
                  refine done_ (done_of HT_.out (by kernel_rfl)) ?_
                  try go_wp2
                  have n0_ := Aside0.mk (Kd.V_drew HO0.out)
                  have n1_ := Aside0.mk (Kd.R_drew HO641004.out)
                  have n2_ := Aside0.mk (Kd.V_drew HO641012.out)
                  have n3_ := Aside0.mk (Kd.V_drew HO641017.out)
                  have n4_ := Aside0.mk (below_drew1 HB.out)
                  clear HO0
                  clear HO641004
                  clear HO641012
                  clear HO641017
                  clear HB
                  have HO0 := n0_
                  have HO641004 := n1_
                  have HO641012 := n2_
                  have HO641017 := n3_
                  have HB := n4_
                  clear n0_ n1_ n2_ n3_ n4_
                  have q41 : (a1 : Int) ≤ ((l0.length : Int) : Int) := of_decide_eq_true (by first | (with_reducible assumption) | assumption)
                  obtain ⟨i041, hi041, _, hsz41, _⟩ := info_parts info2
                  have hroom41 : l0.length ≤ c0 := (Kd.V_reads' HO0.out).2.1
                  have hC41 : Kd.F (Kd.int .i64) _ _ A0 l0.length l0 := (Kd.V_at (base := w.heap.size) HO0.out).2.2
                  have hcut41 := cut_to (P := Try.prog) 22 2 .i64 Try.underlying22 hi041 A0 l0.length c0 a1 (of_decide_eq_true (by first | (with_reducible assumption) | assumption)) q41 hroom41
                  have hr41 := Kd.F_take (m := (a1 : Int).toNat) hC41 (by omega)
                  have hy41 : y641018.length = (a1 : Int).toNat := (by rw [Ny641018.out, List.length_take]; omega)
                  rw [← Ny641018.out] at hr41
                  rw [← hy41] at hcut41
                  have HO641022 := Aside0.mk (show Kd.V (Kd.int .i64) 2 _ w.heap.size _ (.slice A0 y641018.length c0) y641018 from Kd.V_mk (by omega) hr41)
                  have HC641022 := Aside0.mk (show y641018.length ≤ c0 from by omega)
                  clear hr41 hC41 hroom41 hi041 hsz41
                  have KY41 := Aside0.mk hy41
                  clear hy41
                  replace q41 := eq_true q41
                  have q42 : (a3 : Int) ≤ ((l0.length : Int) : Int) := of_decide_eq_true (by first | (with_reducible assumption) | assumption)
                  obtain ⟨i042, hi042, _, hsz42, _⟩ := info_parts info2
                  have hroom42 : l0.length ≤ c0 := (Kd.V_reads' HO0.out).2.1
                  have hC42 : Kd.F (Kd.int .i64) _ _ A0 l0.length l0 := (Kd.V_at (base := w.heap.size) HO0.out).2.2
                  have ql42 : (a2 : Int) ≤ (a3 : Int) := of_decide_eq_true (by first | (with_reducible assumption) | assumption)
                  have q042 : (0 : Int) ≤ (a2 : Int) := of_decide_eq_true (by first | (with_reducible assumption) | assumption)
                  have hcut42 := cut_mid (P := Try.prog) 22 2 .i64 .i64 Try.underlying22 hi042 1 hsz42 A0 l0.length c0 a2 a3 q042 ql42 q42 hroom42
                  have hr42 := Kd.F_mid (lo := (a2 : Int).toNat) (hi := (a3 : Int).toNat) (c := c0) hC42 (by omega) (by omega) hroom42
                  obtain ⟨A42, hA42⟩ : ∃ A1, A1 = (if c0 = (a2 : Int).toNat then A0 else (A0 : Option Addr).map (·.add ((a2 : Int).toNat * 1))) := ⟨_, rfl⟩
                  obtain ⟨c42, hc42⟩ : ∃ c1, c1 = c0 - (a2 : Int).toNat := ⟨_, rfl⟩
                  have hy42 : y641023.length = (a3 : Int).toNat - (a2 : Int).toNat := (by rw [Ny641023.out, List.length_drop, List.length_take] <;> omega)
                  rw [show ((l0).take (a3 : Int).toNat).drop (a2 : Int).toNat = y641023 from Ny641023.out.symm] at hr42
                  replace hr42 : Kd.F (Kd.int .i64) _ _ A42 y641023.length y641023 := (by rw [hA42]; exact hr42)
                  rw [← hy42, ← hA42, ← hc42] at hcut42
                  have HO641027 := Aside0.mk (show Kd.V (Kd.int .i64) 2 _ w.heap.size _ (.slice A42 y641023.length c42) y641023 from Kd.V_mk (by rw [hy42, hc42]; exact Nat.sub_le_sub_right (Nat.le_trans (by omega) hroom42) _) hr42)
                  have HC641027 := Aside0.mk (show y641023.length ≤ c42 from by rw [hy42, hc42]; exact Nat.sub_le_sub_right (Nat.le_trans (by omega) hroom42) _)
                  clear hr42 hC42 hroom42 hi042 hsz42 hc42
                  have KY42 := Aside0.mk hy42
                  have KA42 := Aside0.mk hA42
                  clear hy42 hA42
                  replace q42 := eq_true q42
                  have q43 : (a4 : Int) ≤ ((l0.length : Int) : Int) := of_decide_eq_true (by first | (with_reducible assumption) | assumption)
                  obtain ⟨i043, hi043, _, hsz43, _⟩ := info_parts info2
                  have hroom43 : l0.length ≤ c0 := (Kd.V_reads' HO0.out).2.1
                  have hC43 : Kd.F (Kd.int .i64) _ _ A0 l0.length l0 := (Kd.V_at (base := w.heap.size) HO0.out).2.2
                  have q043 : (0 : Int) ≤ (a4 : Int) := of_decide_eq_true (by first | (with_reducible assumption) | assumption)
                  have hcut43 := cut_from (P := Try.prog) 22 2 .i64 Try.underlying22 hi043 1 hsz43 A0 l0.length c0 a4 q043 q43
                  have hr43 := Kd.F_cut (m := (a4 : Int).toNat) (c := c0) hC43 (by omega) hroom43
                  obtain ⟨A43, hA43⟩ : ∃ A1, A1 = (if c0 = (a4 : Int).toNat then A0 else (A0 : Option Addr).map (·.add ((a4 : Int).toNat * 1))) := ⟨_, rfl⟩
                  obtain ⟨c43, hc43⟩ : ∃ c1, c1 = c0 - (a4 : Int).toNat := ⟨_, rfl⟩
                  have hy43 : y641028.length = l0.length - (a4 : Int).toNat := (by rw [Ny641028.out, List.length_drop] <;> omega)
                  rw [show (l0).drop (a4 : Int).toNat = y641028 from Ny641028.out.symm] at hr43
                  replace hr43 : Kd.F (Kd.int .i64) _ _ A43 y641028.length y641028 := (by rw [hA43]; exact hr43)
                  rw [← hy43, ← hA43, ← hc43] at hcut43
                  have HO641032 := Aside0.mk (show Kd.V (Kd.int .i64) 2 _ w.heap.size _ (.slice A43 y641028.length c43) y641028 from Kd.V_mk (by rw [hy43, hc43]; exact Nat.sub_le_sub_right hroom43 _) hr43)
                  have HC641032 := Aside0.mk (show y641028.length ≤ c43 from by rw [hy43, hc43]; exact Nat.sub_le_sub_right hroom43 _)
                  clear hr43 hC43 hroom43 hi043 hsz43 hc43
                  have KY43 := Aside0.mk hy43
                  have KA43 := Aside0.mk hA43
                  clear hy43 hA43
                  replace q43 := eq_true q43
                  refine start_ (n := 17) (S := fun w' => True) (ds := []) #[false, false, false, false, false, false, false, false, false, false, false, false, false, false, false, false, false] (by kernel_rfl) rfl rfl trivial (fun hHeld => ?_); refine with_tabW impl_MutateWord.tab12 impl_MutateWord.bits12 (fun HT_ HW_ => ?_)
                  generalize w37.drew = w40 at HO0 HO641004 HO641012 HO641017 HB HO641022 HO641027 HO641032 hHeld ⊢
                  refine pure_ (i := 0) (N := some 60) (v := ?_) (a' := ?_) #[true, false, false, false, false, false, false, false, false, false, false, false, false, false, false, false, false] rfl rfl (any_of HT_.out (by kernel_rfl)) (fun _ _ _ h => h) (Or.inl ⟨by rfl, ?_⟩) ?_ ?_
                  rotate_left
                  ·intro w'
                   go_simp
                   with_reducible rfl
                  rotate_left
                  ·simp only [Act.put, List.setIfInBounds_toArray, List.set_cons_zero, List.set_cons_succ, i64_w, i32_w]
                   rfl
                  refine pure_ (i := 1) (N := some 61) (v := ?_) (a' := ?_) #[true, true, false, false, false, false, false, false, false, false, false, false, false, false, false, false, false] rfl rfl (any_of HT_.out (by kernel_rfl)) (fun _ _ _ h => h) (Or.inl ⟨by rfl, ?_⟩) ?_ ?_
                  rotate_left
                  ·intro w'
                   go_simp
                   with_reducible rfl
                  rotate_left
                  ·simp only [Act.put, List.setIfInBounds_toArray, List.set_cons_zero, List.set_cons_succ, i64_w, i32_w]
                   rfl
                  refine pure_ (i := 2) (N := some 62) (v := ?_) (a' := ?_) #[true, true, true, false, false, false, false, false, false, false, false, false, false, false, false, false, false] rfl rfl (any_of HT_.out (by kernel_rfl)) (fun _ _ _ h => h) (Or.inl ⟨by rfl, ?_⟩) ?_ ?_
                  rotate_left
                  ·intro w'
                   go_simp
                   with_reducible rfl
                  rotate_left
                  ·simp only [Act.put, List.setIfInBounds_toArray, List.set_cons_zero, List.set_cons_succ, i64_w, i32_w]
                   rfl
                  refine pure_ (i := 3) (N := some 63) (v := ?_) (a' := ?_) #[true, true, true, true, false, false, false, false, false, false, false, false, false, false, false, false, false] rfl rfl (any_of HT_.out (by kernel_rfl)) (fun _ _ _ h => h) (Or.inl ⟨by rfl, ?_⟩) ?_ ?_
                  rotate_left
                  ·intro w'
                   go_simp
                   with_reducible rfl
                  rotate_left
                  ·simp only [Act.put, List.setIfInBounds_toArray, List.set_cons_zero, List.set_cons_succ, i64_w, i32_w]
                   rfl
                  refine pure_ (i := 4) (N := some 64) (v := ?_) (a' := ?_) #[true, true, true, true, true, false, false, false, false, false, false, false, false, false, false, false, false] rfl rfl (any_of HT_.out (by kernel_rfl)) (fun _ _ _ h => h) (Or.inl ⟨by rfl, ?_⟩) ?_ ?_
                  rotate_left
                  ·intro w'
                   go_simp
                   with_reducible rfl
                  rotate_left
                  ·simp only [Act.put, List.setIfInBounds_toArray, List.set_cons_zero, List.set_cons_succ, i64_w, i32_w]
                   rfl
                  refine pure_ (i := 5) (N := some 65) (v := ?_) (a' := ?_) #[true, true, true, true, true, true, false, false, false, false, false, false, false, false, false, false, false] rfl rfl (any_of HT_.out (by kernel_rfl)) (fun _ _ _ h => h) (Or.inl ⟨by rfl, ?_⟩) ?_ ?_
                  rotate_left
                  ·intro w'
                   go_simp
                   with_reducible rfl
                  rotate_left
                  ·simp only [Act.put, List.setIfInBounds_toArray, List.set_cons_zero, List.set_cons_succ, i64_w, i32_w]
                   rfl
                  refine pure_ (i := 6) (N := some 66) (v := ?_) (a' := ?_) #[true, true, true, true, true, true, true, false, false, false, false, false, false, false, false, false, false] rfl rfl (any_of HT_.out (by kernel_rfl)) (fun _ _ _ h => h) (Or.inl ⟨by rfl, ?_⟩) ?_ ?_
                  rotate_left
                  ·intro w'
                   go_simp
                   with_reducible rfl
                  rotate_left
                  ·simp only [Act.put, List.setIfInBounds_toArray, List.set_cons_zero, List.set_cons_succ, i64_w, i32_w]
                   rfl
                  refine pure_ (i := 7) (N := some 67) (v := ?_) (a' := ?_) #[true, true, true, true, true, true, true, true, false, false, false, false, false, false, false, false, false] rfl rfl (any_of HT_.out (by kernel_rfl)) (fun _ _ _ h => h) (Or.inl ⟨by rfl, ?_⟩) ?_ ?_
                  rotate_left
                  ·intro w'
                   go_simp
                   with_reducible rfl
                  rotate_left
                  ·simp only [Act.put, List.setIfInBounds_toArray, List.set_cons_zero, List.set_cons_succ, i64_w, i32_w]
                   rfl
                  refine pure_ (i := 8) (N := some 68) (v := ?_) (a' := ?_) #[true, true, true, true, true, true, true, true, true, false, false, false, false, false, false, false, false] rfl rfl (any_of HT_.out (by kernel_rfl)) (fun _ _ _ h => h) (Or.inl ⟨by rfl, ?_⟩) ?_ ?_
                  rotate_left
                  ·intro w'
                   go_simp
                   with_reducible rfl
                  rotate_left
                  ·simp only [Act.put, List.setIfInBounds_toArray, List.set_cons_zero, List.set_cons_succ, i64_w, i32_w]
                   rfl
                  refine pure_ (i := 9) (N := some 69) (v := ?_) (a' := ?_) #[true, true, true, true, true, true, true, true, true, true, false, false, false, false, false, false, false] rfl rfl (any_of HT_.out (by kernel_rfl)) (fun _ _ _ h => h) (Or.inl ⟨by rfl, ?_⟩) ?_ ?_
                  rotate_left
                  ·intro w'
                   go_simp
                   with_reducible rfl
                  rotate_left
                  ·simp only [Act.put, List.setIfInBounds_toArray, List.set_cons_zero, List.set_cons_succ, i64_w, i32_w]
                   rfl
                  refine pure_ (i := 10) (N := some 70) (v := ?_) (a' := ?_) #[true, true, true, true, true, true, true, true, true, true, true, false, false, false, false, false, false] rfl rfl (any_of HT_.out (by kernel_rfl)) (fun _ _ _ h => h) (Or.inl ⟨by rfl, ?_⟩) ?_ ?_
                  rotate_left
                  ·intro w'
                   go_simp
                   with_reducible rfl
                  rotate_left
                  ·simp only [Act.put, List.setIfInBounds_toArray, List.set_cons_zero, List.set_cons_succ, i64_w, i32_w]
                   rfl
                  refine pure_ (i := 11) (N := some 71) (v := ?_) (a' := ?_) #[true, true, true, true, true, true, true, true, true, true, true, true, false, false, false, false, false] rfl rfl (any_of HT_.out (by kernel_rfl)) (fun _ _ _ h => h) (Or.inl ⟨by rfl, ?_⟩) ?_ ?_
                  rotate_left
                  ·intro w'
                   go_simp
                   with_reducible rfl
                  rotate_left
                  ·simp only [Act.put, List.setIfInBounds_toArray, List.set_cons_zero, List.set_cons_succ, i64_w, i32_w]
                   rfl
                  refine one_ (i := 12) (N := some 72) #[true, true, true, true, true, true, true, true, true, true, true, true, true, false, false, false, false] rfl rfl (one_of HT_.out (by kernel_rfl)) (by decide) (fun K hK => ?_)
                  refine Kd.N_lit_step (Kd.slice 2 (Kd.int .i64)) _ 22 ?hg (N' := 72) ?hd (xs := ([y641018, y641008, y641023, y641013, y641028] : List (List Int))) (inner := [.slice A0 y641018.length c0, .slice A38 y641008.length c38, .slice A42 y641023.length c42, .slice A39 y641013.length c39, .slice A43 y641028.length c43]) (ok := (fun k_ => (P0_ k_ ∨ w.heap.size ≤ k_) ∧ some k_ ≠ (.slice Ao35 y641002.length co35 : Value).ownBlock)) (okp := (fun k_ => (P0_ k_ ∨ w.heap.size ≤ k_) ∧ some k_ ≠ (.slice Ao35 y641002.length co35 : Value).ownBlock)) ?hr ?hp (fun _ hk => hk) ((show ∀ k_, w40.heap.size ≤ k_ → (fun k_ => (P0_ k_ ∨ w.heap.size ≤ k_) ∧ some k_ ≠ (.slice Ao35 y641002.length co35 : Value).ownBlock) k_ from fun k_ hk => ⟨(.inr (Nat.le_trans (below_size (by repeat (first | (with_reducible first | exact HB.out | apply below_alloc | apply pw_below_drewN | apply below_drew1) | exact HB.out))) hk)), Kd.fresh' (Kd.R_lt (by (with_reducible repeat (first | apply Kd.R_alloc | apply Kd.R_drewN | apply Kd.R_drew)); exact HO641004.out)) k_ hk⟩) _ (Nat.le_refl _)) (Below.refl _ _) (Nat.le_refl _) (by simp) ?_; (case hd => rfl); (case hg => rfl); (case hr => first | (go_simp; done) | (go_simp; rfl)); (case hp => exact (Reps.one (show Kd.FK (Kd.slice 2 (Kd.int .i64)) _ _ y641018 [.slice A0 y641018.length c0] from (Kd.FK_slice_mk (Kd.V_reads' (Kd.V_mono (ok' := (fun k_ => (P0_ k_ ∨ w.heap.size ≤ k_) ∧ some k_ ≠ (.slice Ao35 y641002.length co35 : Value).ownBlock)) (HO641022.out) (fun k_ hk => ⟨hk.1, hk.2⟩))).2.1 (Kd.V_F (Kd.V_mono (ok' := (fun k_ => (P0_ k_ ∨ w.heap.size ≤ k_) ∧ some k_ ≠ (.slice Ao35 y641002.length co35 : Value).ownBlock)) (HO641022.out) (fun k_ hk => ⟨hk.1, hk.2⟩))))) (Reps.one (show Kd.FK (Kd.slice 2 (Kd.int .i64)) _ _ y641008 [.slice A38 y641008.length c38] from (Kd.FK_slice_mk (Kd.V_reads' (Kd.V_mono (ok' := (fun k_ => (P0_ k_ ∨ w.heap.size ≤ k_) ∧ some k_ ≠ (.slice Ao35 y641002.length co35 : Value).ownBlock)) (HO641012.out) (fun k_ hk => ⟨hk.1, hk.2⟩))).2.1 (Kd.V_F (Kd.V_mono (ok' := (fun k_ => (P0_ k_ ∨ w.heap.size ≤ k_) ∧ some k_ ≠ (.slice Ao35 y641002.length co35 : Value).ownBlock)) (HO641012.out) (fun k_ hk => ⟨hk.1, hk.2⟩))))) (Reps.one (show Kd.FK (Kd.slice 2 (Kd.int .i64)) _ _ y641023 [.slice A42 y641023.length c42] from (Kd.FK_slice_mk (Kd.V_reads' (Kd.V_mono (ok' := (fun k_ => (P0_ k_ ∨ w.heap.size ≤ k_) ∧ some k_ ≠ (.slice Ao35 y641002.length co35 : Value).ownBlock)) (HO641027.out) (fun k_ hk => ⟨hk.1, hk.2⟩))).2.1 (Kd.V_F (Kd.V_mono (ok' := (fun k_ => (P0_ k_ ∨ w.heap.size ≤ k_) ∧ some k_ ≠ (.slice Ao35 y641002.length co35 : Value).ownBlock)) (HO641027.out) (fun k_ hk => ⟨hk.1, hk.2⟩))))) (Reps.one (show Kd.FK (Kd.slice 2 (Kd.int .i64)) _ _ y641013 [.slice A39 y641013.length c39] from (Kd.FK_slice_mk (Kd.V_reads' (Kd.V_mono (ok' := (fun k_ => (P0_ k_ ∨ w.heap.size ≤ k_) ∧ some k_ ≠ (.slice Ao35 y641002.length co35 : Value).ownBlock)) (HO641017.out) (fun k_ hk => ⟨hk.1, hk.2⟩))).2.1 (Kd.V_F (Kd.V_mono (ok' := (fun k_ => (P0_ k_ ∨ w.heap.size ≤ k_) ∧ some k_ ≠ (.slice Ao35 y641002.length co35 : Value).ownBlock)) (HO641017.out) (fun k_ hk => ⟨hk.1, hk.2⟩))))) (Reps.one (show Kd.FK (Kd.slice 2 (Kd.int .i64)) _ _ y641028 [.slice A43 y641028.length c43] from (Kd.FK_slice_mk (Kd.V_reads' (Kd.V_mono (ok' := (fun k_ => (P0_ k_ ∨ w.heap.size ≤ k_) ∧ some k_ ≠ (.slice Ao35 y641002.length co35 : Value).ownBlock)) (HO641032.out) (fun k_ hk => ⟨hk.1, hk.2⟩))).2.1 (Kd.V_F (Kd.V_mono (ok' := (fun k_ => (P0_ k_ ∨ w.heap.size ≤ k_) ∧ some k_ ≠ (.slice Ao35 y641002.length co35 : Value).ownBlock)) (HO641032.out) (fun k_ hk => ⟨hk.1, hk.2⟩))))) (Reps.none _ _)))))))
                  intro v641034 w44 ho45 hb hg_ hnew_
                  clear hg_ hnew_
                  (first | rw [← Ny641033.out] at ho45 | (simp only [Int.reduceToNat] at ho45; rw [← Ny641033.out] at ho45))
                  have n0_ := Aside0.mk (Kd.V_elder' (by (with_reducible repeat (first | apply Kd.V_alloc | apply Kd.V_drewN | apply Kd.V_drew)); exact HO0.out) (Kd.N_base ho45) hb)
                  have n1_ := Aside0.mk (Kd.R_below (by (with_reducible repeat (first | apply Kd.R_alloc | apply Kd.R_drewN | apply Kd.R_drew)); exact HO641004.out) hb)
                  have n2_ := Aside0.mk (Kd.V_elder' (by (with_reducible repeat (first | apply Kd.V_alloc | apply Kd.V_drewN | apply Kd.V_drew)); exact HO641012.out) (Kd.N_base ho45) hb)
                  have n3_ := Aside0.mk (Kd.V_elder' (by (with_reducible repeat (first | apply Kd.V_alloc | apply Kd.V_drewN | apply Kd.V_drew)); exact HO641017.out) (Kd.N_base ho45) hb)
                  have n4_ := Aside0.mk (Kd.V_elder' (by (with_reducible repeat (first | apply Kd.V_alloc | apply Kd.V_drewN | apply Kd.V_drew)); exact HO641022.out) (Kd.N_base ho45) hb)
                  have n5_ := Aside0.mk (Kd.V_elder' (by (with_reducible repeat (first | apply Kd.V_alloc | apply Kd.V_drewN | apply Kd.V_drew)); exact HO641027.out) (Kd.N_base ho45) hb)
                  have n6_ := Aside0.mk (Kd.V_elder' (by (with_reducible repeat (first | apply Kd.V_alloc | apply Kd.V_drewN | apply Kd.V_drew)); exact HO641032.out) (Kd.N_base ho45) hb)
                  have n7_ := Aside0.mk (Kd.N_lower ho45 (below_size (by repeat (first | (with_reducible first | exact HB.out | apply below_alloc | apply pw_below_drewN | apply below_drew1) | exact HB.out))))
                  have n8_ := Aside0.mk (below_step (by repeat (first | (with_reducible first | exact HB.out | apply below_alloc | apply pw_below_drewN | apply below_drew1) | exact HB.out)) hb)
                  clear HO0
                  clear HO641004
                  clear HO641012
                  clear HO641017
                  clear HO641022
                  clear HO641027
                  clear HO641032
                  clear HB
                  have HO0 := n0_
                  have HO641004 := n1_
                  have HO641012 := n2_
                  have HO641017 := n3_
                  have HO641022 := n4_
                  have HO641027 := n5_
                  have HO641032 := n6_
                  have HO641035 := n7_
                  have HB := n8_
                  clear n0_ n1_ n2_ n3_ n4_ n5_ n6_ n7_ n8_
                  clear hb ho45
                  obtain ⟨Ao46, co46, eo46⟩ := Kd.N_slice HO641035.out
                  (first | subst eo46 | (injection eo46 with f1_ f2_ f3_; have f4_ := f1_.symm; have f5_ := f3_.symm; clear f1_ f2_ f3_; subst f4_; subst f5_))
                  refine hK.out _ _ trivial (fun hHeld => ?_)
                  clear hK K
                  refine norm_ (a' := ?_) ?_ ?_
                  rotate_left
                  ·show Act.put _ (some 72) _ = _
                   simp only [Act.put, List.setIfInBounds_toArray, List.set_cons_zero, List.set_cons_succ, i64_w, i32_w]
                   rfl
                  refine one_ (i := 13) (N := some 73) #[true, true, true, true, true, true, true, true, true, true, true, true, true, true, false, false, false] rfl rfl (one_of HT_.out (by kernel_rfl)) (by decide) (fun K hK => ?_)
                  refine goes_ Try.func106 (by kernel_rfl) rfl #[.slice Ao46 y641033.length co46] (by rfl) rfl rfl (by (try simp only [List.map_toArray, List.map_cons, List.map_nil]); first | done | rfl | (simp only [List.length_drop, List.length_take]; rfl)) ?_
                  with_reducible refine (slices_Concat_int64_int64.calls _ _ y641033 t641036 _ ?side1 ?side2 A30.out).mono ?_
                  (case side1 => repeat (first | exact (Kd.N_reads' HO641035.out).2.2 | (with_reducible refine Kd.C_alloc ?_ _) | (with_reducible refine Kd.C_drewN ?_ _) | (with_reducible refine Kd.C_drew ?_)))
                  (case side2 => exact (Kd.N_reads' HO641035.out).2.1)
                  rintro e w47 ⟨v641037, rfl, ho0, hb⟩
                  refine ⟨_, rfl, ?_⟩
                  have n0_ := Aside0.mk (Kd.V_elder' (by (with_reducible repeat (first | apply Kd.V_alloc | apply Kd.V_drewN | apply Kd.V_drew)); exact HO0.out) (Kd.R_base ho0) hb)
                  have n1_ := Aside0.mk (Kd.R_elder' (by (with_reducible repeat (first | apply Kd.R_alloc | apply Kd.R_drewN | apply Kd.R_drew)); exact HO641004.out) (Kd.R_base ho0) hb)
                  have n2_ := Aside0.mk (Kd.V_elder' (by (with_reducible repeat (first | apply Kd.V_alloc | apply Kd.V_drewN | apply Kd.V_drew)); exact HO641012.out) (Kd.R_base ho0) hb)
                  have n3_ := Aside0.mk (Kd.V_elder' (by (with_reducible repeat (first | apply Kd.V_alloc | apply Kd.V_drewN | apply Kd.V_drew)); exact HO641017.out) (Kd.R_base ho0) hb)
                  have n4_ := Aside0.mk (Kd.V_elder' (by (with_reducible repeat (first | apply Kd.V_alloc | apply Kd.V_drewN | apply Kd.V_drew)); exact HO641022.out) (Kd.R_base ho0) hb)
                  have n5_ := Aside0.mk (Kd.V_elder' (by (with_reducible repeat (first | apply Kd.V_alloc | apply Kd.V_drewN | apply Kd.V_drew)); exact HO641027.out) (Kd.R_base ho0) hb)
                  have n6_ := Aside0.mk (Kd.V_elder' (by (with_reducible repeat (first | apply Kd.V_alloc | apply Kd.V_drewN | apply Kd.V_drew)); exact HO641032.out) (Kd.R_base ho0) hb)
                  have n7_ := Aside0.mk (Kd.N_elder' (by (with_reducible repeat (first | apply Kd.N_alloc | apply Kd.N_drewN | apply Kd.N_drew)); exact HO641035.out) (Kd.R_base ho0) hb)
                  have n8_ := Aside0.mk (Kd.R_lower (Kd.R_new' (Kd.R_newM (M := fun k_ => (w.heap.size ≤ k_)) ho0 (below_size (by repeat (first | (with_reducible first | exact HB.out | apply below_alloc | apply pw_below_drewN | apply below_drew1) | exact HB.out))) (fun k_ h_ => h_)) (Kd.R_lt (by (with_reducible repeat (first | apply Kd.R_alloc | apply Kd.R_drewN | apply Kd.R_drew)); exact HO641004.out))) (below_size (by repeat (first | (with_reducible first | exact HB.out | apply below_alloc | apply pw_below_drewN | apply below_drew1) | exact HB.out))))
                  have n9_ := Aside0.mk (below_step (by repeat (first | (with_reducible first | exact HB.out | apply below_alloc | apply pw_below_drewN | apply below_drew1) | exact HB.out)) hb)
                  clear HO0
                  clear HO641004
                  clear HO641012
                  clear HO641017
                  clear HO641022
                  clear HO641027
                  clear HO641032
                  clear HO641035
                  clear HB
                  have HO0 := n0_
                  have HO641004 := n1_
                  have HO641012 := n2_
                  have HO641017 := n3_
                  have HO641022 := n4_
                  have HO641027 := n5_
                  have HO641032 := n6_
                  have HO641035 := n7_
                  have HO641038 := n8_
                  have HB := n9_
                  clear n0_ n1_ n2_ n3_ n4_ n5_ n6_ n7_ n8_ n9_
                  (try clear hb)
                  (try clear hb2)
                  (try clear hk)
                  (try clear hi)
                  (try clear ho0)
                  obtain ⟨Ao48, co48, eo48⟩ := Kd.R_slice HO641038.out
                  (first | subst eo48 | (injection eo48 with f1_ f2_ f3_; have f4_ := f1_.symm; have f5_ := f3_.symm; clear f1_ f2_ f3_; subst f4_; subst f5_))
                  refine hK.out _ _ trivial (fun hHeld => ?_)
                  clear hK K
                  refine norm_ (a' := ?_) ?_ ?_
                  rotate_left
                  ·show Act.put _ (some 73) _ = _
                   simp only [Act.put, List.setIfInBounds_toArray, List.set_cons_zero, List.set_cons_succ, i64_w, i32_w]
                   rfl
                  refine one_ (i := 14) (N := some 74) #[true, true, true, true, true, true, true, true, true, true, true, true, true, true, true, false, false] rfl rfl (one_of HT_.out (by kernel_rfl)) (by decide) (fun K hK => ?_)
                  refine goes_ Try.func105 (by kernel_rfl) rfl #[.slice Ao48 t641036.length co48] (by rfl) rfl rfl (by (try simp only [List.map_toArray, List.map_cons, List.map_nil]); first | done | rfl | (simp only [List.length_drop, List.length_take]; rfl)) ?_
                  with_reducible refine (impl_normal.calls _ _ t641036 t641039 _ ?side1 ?side2 A31.out).mono ?_
                  (case side1 => repeat (first | exact (Kd.R_reads' HO641038.out).2.2 | (with_reducible refine Kd.C_alloc ?_ _) | (with_reducible refine Kd.C_drewN ?_ _) | (with_reducible refine Kd.C_drew ?_)))
                  (case side2 => exact (Kd.R_reads' HO641038.out).2.1)
                  rintro e w49 ⟨v641040, rfl, ho0, hb⟩
                  refine ⟨_, rfl, ?_⟩
                  have n0_ := Aside0.mk (Kd.V_elder' (by (with_reducible repeat (first | apply Kd.V_alloc | apply Kd.V_drewN | apply Kd.V_drew)); exact HO0.out) (Kd.R_base ho0) hb)
                  have n1_ := Aside0.mk (Kd.R_elder' (by (with_reducible repeat (first | apply Kd.R_alloc | apply Kd.R_drewN | apply Kd.R_drew)); exact HO641004.out) (Kd.R_base ho0) hb)
                  have n2_ := Aside0.mk (Kd.V_elder' (by (with_reducible repeat (first | apply Kd.V_alloc | apply Kd.V_drewN | apply Kd.V_drew)); exact HO641012.out) (Kd.R_base ho0) hb)
                  have n3_ := Aside0.mk (Kd.V_elder' (by (with_reducible repeat (first | apply Kd.V_alloc | apply Kd.V_drewN | apply Kd.V_drew)); exact HO641017.out) (Kd.R_base ho0) hb)
                  have n4_ := Aside0.mk (Kd.V_elder' (by (with_reducible repeat (first | apply Kd.V_alloc | apply Kd.V_drewN | apply Kd.V_drew)); exact HO641022.out) (Kd.R_base ho0) hb)
                  have n5_ := Aside0.mk (Kd.V_elder' (by (with_reducible repeat (first | apply Kd.V_alloc | apply Kd.V_drewN | apply Kd.V_drew)); exact HO641027.out) (Kd.R_base ho0) hb)
                  have n6_ := Aside0.mk (Kd.V_elder' (by (with_reducible repeat (first | apply Kd.V_alloc | apply Kd.V_drewN | apply Kd.V_drew)); exact HO641032.out) (Kd.R_base ho0) hb)
                  have n7_ := Aside0.mk (Kd.N_elder' (by (with_reducible repeat (first | apply Kd.N_alloc | apply Kd.N_drewN | apply Kd.N_drew)); exact HO641035.out) (Kd.R_base ho0) hb)
                  have n8_ := Aside0.mk (Kd.R_elder' (by (with_reducible repeat (first | apply Kd.R_alloc | apply Kd.R_drewN | apply Kd.R_drew)); exact HO641038.out) (Kd.R_base ho0) hb)
                  have n9_ := Aside0.mk (Kd.R_lower (Kd.R_new' (Kd.R_new' (Kd.R_newM (M := fun k_ => (w.heap.size ≤ k_)) ho0 (below_size (by repeat (first | (with_reducible first | exact HB.out | apply below_alloc | apply pw_below_drewN | apply below_drew1) | exact HB.out))) (fun k_ h_ => h_)) (Kd.R_lt (by (with_reducible repeat (first | apply Kd.R_alloc | apply Kd.R_drewN | apply Kd.R_drew)); exact HO641004.out))) (Kd.R_lt (by (with_reducible repeat (first | apply Kd.R_alloc | apply Kd.R_drewN | apply Kd.R_drew)); exact HO641038.out))) (below_size (by repeat (first | (with_reducible first | exact HB.out | apply below_alloc | apply pw_below_drewN | apply below_drew1) | exact HB.out))))
                  have n10_ := Aside0.mk (below_step (by repeat (first | (with_reducible first | exact HB.out | apply below_alloc | apply pw_below_drewN | apply below_drew1) | exact HB.out)) hb)
                  clear HO0
                  clear HO641004
                  clear HO641012
                  clear HO641017
                  clear HO641022
                  clear HO641027
                  clear HO641032
                  clear HO641035
                  clear HO641038
                  clear HB
                  have HO0 := n0_
                  have HO641004 := n1_
                  have HO641012 := n2_
                  have HO641017 := n3_
                  have HO641022 := n4_
                  have HO641027 := n5_
                  have HO641032 := n6_
                  have HO641035 := n7_
                  have HO641038 := n8_
                  have HO641041 := n9_
                  have HB := n10_
                  clear n0_ n1_ n2_ n3_ n4_ n5_ n6_ n7_ n8_ n9_ n10_
                  (try clear hb)
                  (try clear hb2)
                  (try clear hk)
                  (try clear hi)
                  (try clear ho0)
                  refine hK.out _ _ trivial (fun hHeld => ?_)
                  clear hK K
                  refine norm_ (a' := ?_) ?_ ?_
                  rotate_left
                  ·show Act.put _ (some 74) _ = _
                   simp only [Act.put, List.setIfInBounds_toArray, List.set_cons_zero, List.set_cons_succ, i64_w, i32_w]
                   rfl
                  refine pure_ (i := 15) (N := some 12) (v := ?_) (a' := ?_) #[true, true, true, true, true, true, true, true, true, true, true, true, true, true, true, true, false] rfl rfl (any_of HT_.out (by kernel_rfl)) (fun _ _ _ h => h) (Or.inl ⟨by rfl, ?_⟩) ?_ ?_
                  rotate_left
                  ·intro w'
                   go_simp
                   with_reducible rfl
                  rotate_left
                  ·simp only [Act.put, List.setIfInBounds_toArray, List.set_cons_zero, List.set_cons_succ, i64_w, i32_w]
                   rfl
                  refine pure_ (i := 16) (N := some 13) (v := ?_) (a' := ?_) #[true, true, true, true, true, true, true, true, true, true, true, true, true, true, true, true, true] rfl rfl (any_of HT_.out (by kernel_rfl)) (fun _ _ _ h => h) (Or.inl ⟨by rfl, ?_⟩) ?_ ?_
                  rotate_left
                  ·intro w'
                   go_simp
                   with_reducible rfl
                  rotate_left
                  ·simp only [Act.put, List.setIfInBounds_toArray, List.set_cons_zero, List.set_cons_succ, i64_w, i32_w]
                   rfl
                  refine done_ (done_of HT_.out (by kernel_rfl)) ?_
                  try go_wp2
                  go_ret2
                  exact ⟨_, by first | rfl | (simp [errW_none, errW_some] <;> rfl) | (simp [*, errW_none, errW_some] <;> rfl), by (with_reducible repeat (first | apply Kd.R_alloc | apply Kd.R_drewN | apply Kd.R_drew)); exact Kd.R_mono HO641041.out (fun _ hk => hk.1.1.1), by repeat (first | (with_reducible first | exact HB.out | apply below_alloc | apply pw_below_drewN | apply below_drew1) | exact HB.out)⟩
                 ·rw [if_neg c28] at H
                  exact absurd H (by simp)
                ·rw [if_neg c27] at H
                 exact absurd H (by simp)
               ·rw [if_neg c26] at H
                exact absurd H (by simp)
              ·rw [if_neg c25] at H
               exact absurd H (by simp)
             ·rw [if_neg c24] at H
              exact absurd H (by simp)
            ·rw [if_neg c22] at H
             have c22b0 : (a5 == 1) = false := beq_eq_false_iff_ne.mpr c22
             have c22b1 : (a5 != 1) = true := bne_iff_ne.mpr c22
             have c50b0 := eq_true (of_decide_eq_true (by first | (with_reducible assumption) | assumption) : 0 ≤ a1)
             by_cases c51 : a1 ≤ (l0.length : Int)
             ·rw [if_pos c51] at H
              have c51b0 := eq_true c51
              have c51b1 : decide (a1 ≤ (l0.length : Int)) = true := decide_eq_true c51
              clear c51
              obtain ⟨y641042, hy641042⟩ : ∃ y_ : List Int, y_ = (l0.take (a1 : Int).toNat) := ⟨_, rfl⟩
              replace H : (if 0 ≤ a2 then (if a2 ≤ a3 then (if a3 ≤ (l0.length : Int) then (if 0 ≤ a4 then ((slices_Concat_int64_int64.f (([y641042, y641013, ((l0.take (a3 : Int).toNat).drop (a2 : Int).toNat), y641008, (l0.drop (a4 : Int).toNat)] : List (List Int)))).bind fun t641060 => ((impl_normal.f t641060).bind fun t641063 => (some (t641063, 0)))) else (none)) else (none)) else (none)) else (none)) = some (r1, r2) := by first | (rw [hy641042]; with_reducible exact H) | (have H2_ := (Option.bind_some _ _).symm.trans H; rw [hy641042]; with_reducible exact H2_) | (have H2_ := (Option.bind_some _ _).symm.trans H; with_reducible exact H2_) | with_reducible exact H | (rw [hy641042]; exact H) | exact H
              have Ny641042 := Aside0.mk hy641042
              clear hy641042
              by_cases c52 : 0 ≤ a2
              ·rw [if_pos c52] at H
               have c52b0 := eq_true c52
               have c52b1 : decide (0 ≤ a2) = true := decide_eq_true c52
               clear c52
               by_cases c53 : a2 ≤ a3
               ·rw [if_pos c53] at H
                have c53b0 := eq_true c53
                have c53b1 : decide (a2 ≤ a3) = true := decide_eq_true c53
                clear c53
                by_cases c54 : a3 ≤ (l0.length : Int)
                ·rw [if_pos c54] at H
                 have c54b0 := eq_true c54
                 have c54b1 : decide (a3 ≤ (l0.length : Int)) = true := decide_eq_true c54
                 clear c54
                 obtain ⟨y641047, hy641047⟩ : ∃ y_ : List Int, y_ = ((l0.take (a3 : Int).toNat).drop (a2 : Int).toNat) := ⟨_, rfl⟩
                 replace H : (if 0 ≤ a4 then ((slices_Concat_int64_int64.f (([y641042, y641013, y641047, y641008, (l0.drop (a4 : Int).toNat)] : List (List Int)))).bind fun t641060 => ((impl_normal.f t641060).bind fun t641063 => (some (t641063, 0)))) else (none)) = some (r1, r2) := by first | (rw [hy641047]; with_reducible exact H) | (have H2_ := (Option.bind_some _ _).symm.trans H; rw [hy641047]; with_reducible exact H2_) | (have H2_ := (Option.bind_some _ _).symm.trans H; with_reducible exact H2_) | with_reducible exact H | (rw [hy641047]; exact H) | exact H
                 have Ny641047 := Aside0.mk hy641047
                 clear hy641047
                 by_cases c55 : 0 ≤ a4
                 ·rw [if_pos c55] at H
                  have c55b0 := eq_true c55
                  have c55b1 : decide (0 ≤ a4) = true := decide_eq_true c55
                  clear c55
                  have c56b0 := eq_true (of_decide_eq_true (by first | (with_reducible assumption) | assumption) : a4 ≤ (l0.length : Int))
                  obtain ⟨y641052, hy641052⟩ : ∃ y_ : List Int, y_ = (l0.drop (a4 : Int).toNat) := ⟨_, rfl⟩
                  replace H : ((slices_Concat_int64_int64.f (([y641042, y641013, y641047, y641008, y641052] : List (List Int)))).bind fun t641060 => ((impl_normal.f t641060).bind fun t641063 => (some (t641063, 0)))) = some (r1, r2) := by first | (rw [hy641052]; with_reducible exact H) | (have H2_ := (Option.bind_some _ _).symm.trans H; rw [hy641052]; with_reducible exact H2_) | (have H2_ := (Option.bind_some _ _).symm.trans H; with_reducible exact H2_) | with_reducible exact H | (rw [hy641052]; exact H) | exact H
                  have Ny641052 := Aside0.mk hy641052
                  clear hy641052
                  obtain ⟨y641057, hy641057⟩ : ∃ y_ : List (List Int), y_ = (([y641042, y641013, y641047, y641008, y641052] : List (List Int))) := ⟨_, rfl⟩
                  replace H : ((slices_Concat_int64_int64.f y641057).bind fun t641060 => ((impl_normal.f t641060).bind fun t641063 => (some (t641063, 0)))) = some (r1, r2) := by first | (rw [hy641057]; with_reducible exact H) | (have H2_ := (Option.bind_some _ _).symm.trans H; rw [hy641057]; with_reducible exact H2_) | (have H2_ := (Option.bind_some _ _).symm.trans H; with_reducible exact H2_) | with_reducible exact H | (rw [hy641057]; exact H) | exact H
                  have Ny641057 := Aside0.mk hy641057
                  clear hy641057
                  replace H := Option.bind_eq_some_iff.mp H
                  obtain ⟨t641060, A570, H⟩ := H
                  replace H : ((impl_normal.f t641060).bind fun t641063 => (some (t641063, 0))) = some (r1, r2) := H
                  have A57 := Aside0.mk A570
                  clear A570
                  replace H := Option.bind_eq_some_iff.mp H
                  obtain ⟨t641063, A580, H⟩ := H
                  replace H : (some (t641063, 0)) = some (r1, r2) := H
                  have A58 := Aside0.mk A580
                  clear A580
                  simp only [Option.some.injEq, Prod.mk.injEq] at H
                  obtain ⟨rfl, rfl⟩ := H
                  go_enter Try.func64, Try.ntmps64
                  try go_wp2_with (first | ((with_reducible refine gate_callee (f := 84) rfl ?_); refine goesL_ (some 18) rfl rfl Try.func84 (by kernel_rfl) rfl #[.slice A0 l0.length c0] rfl (by (try simp only [List.map_toArray, List.map_cons, List.map_nil]); first | done | rfl | (simp only [List.length_drop, List.length_take]; rfl)) ?_; (with_reducible refine (impl_IsWord.calls k _ _ l0 true _ ?side1 ?side2 A7.out).mono ?_); (case side1 => repeat (first | exact (Kd.V_reads' HO0.out).2.2 | (with_reducible refine Kd.C_alloc ?_ _) | (with_reducible refine Kd.C_drewN ?_ _) | (with_reducible refine Kd.C_drew ?_))); (case side2 => exact (Kd.V_reads' HO0.out).2.1); rintro e w59 ⟨rfl, hb⟩; refine ⟨_, rfl, ?_⟩; have n0_ := Aside0.mk (Kd.V_below (by (with_reducible repeat (first | apply Kd.V_alloc | apply Kd.V_drewN | apply Kd.V_drew)); exact HO0.out) hb); have n1_ := Aside0.mk (below_step (by repeat (first | (with_reducible first | exact HB.out | apply below_alloc | apply pw_below_drewN | apply below_drew1) | exact HB.out)) hb); clear HO0; clear HB; have HO0 := n0_; have HB := n1_; clear n0_ n1_; (try clear hb); (try clear hb2); (try clear hk); (try clear hi)) | ((with_reducible refine gate_dst (N := 26) rfl ?_); refine Kd.R_lit (Kd.int .i64) _ 2 ?hg (N := 26) ?hd (xs := ([a1, a2, a3, a4] : List Int)) (inner := [.int .i64 a1, .int .i64 a2, .int .i64 a3, .int .i64 a4]) (ok := fun _ => True) (okp := fun _ => True) ?hr ?hp (fun _ hk => hk) trivial (Below.refl _ _) (Nat.le_refl _) (by simp) ?_; (case hd => rfl); (case hg => rfl); (case hr => first | (go_simp; done) | (go_simp; rfl)); (case hp => exact (Reps.one (show Kd.M (Kd.int .i64) _ _ _ a1 [.int .i64 a1] from rfl) (Reps.one (show Kd.M (Kd.int .i64) _ _ _ a2 [.int .i64 a2] from rfl) (Reps.one (show Kd.M (Kd.int .i64) _ _ _ a3 [.int .i64 a3] from rfl) (Reps.one (show Kd.M (Kd.int .i64) _ _ _ a4 [.int .i64 a4] from rfl) (Reps.none _ _)))))); intro v641003 w60 ho61 hb hg_ hnew_; clear hg_ hnew_; (first | rw [← Ny641002.out] at ho61 | (simp only [Int.reduceToNat] at ho61; rw [← Ny641002.out] at ho61)); have n0_ := Aside0.mk (Kd.V_elder' (by (with_reducible repeat (first | apply Kd.V_alloc | apply Kd.V_drewN | apply Kd.V_drew)); exact HO0.out) (Kd.R_base ho61) hb); have n1_ := Aside0.mk (Kd.R_lower (Kd.R_newM (M := fun k_ => (w.heap.size ≤ k_)) ho61 (below_size (by repeat (first | (with_reducible first | exact HB.out | apply below_alloc | apply pw_below_drewN | apply below_drew1) | exact HB.out))) (fun k_ h_ => h_)) (below_size (by repeat (first | (with_reducible first | exact HB.out | apply below_alloc | apply pw_below_drewN | apply below_drew1) | exact HB.out)))); have n2_ := Aside0.mk (below_step (by repeat (first | (with_reducible first | exact HB.out | apply below_alloc | apply pw_below_drewN | apply below_drew1) | exact HB.out)) hb); clear HO0; clear HB; have HO0 := n0_; have HO641004 := n1_; have HB := n2_; clear n0_ n1_ n2_; clear hb ho61; obtain ⟨Ao62, co62, eo62⟩ := Kd.R_slice HO641004.out; subst eo62) | ((with_reducible refine gate_callee (f := 88) rfl ?_); refine goesL_ (some 27) rfl rfl Try.func88 (by kernel_rfl) rfl #[.slice A0 l0.length c0, .slice Ao62 y641002.length co62] rfl (by (try simp only [List.map_toArray, List.map_cons, List.map_nil]); first | done | rfl | (simp only [List.length_drop, List.length_take]; rfl)) ?_; (with_reducible refine (impl_placesOk.calls k _ _ l0 _ _ y641002 true _ ?side1 ?side2 ?side3 ?side4 A9.out).mono ?_); (case side1 => repeat (first | exact (Kd.V_reads' HO0.out).2.2 | (with_reducible refine Kd.C_alloc ?_ _) | (with_reducible refine Kd.C_drewN ?_ _) | (with_reducible refine Kd.C_drew ?_))); (case side2 => exact (Kd.V_reads' HO0.out).2.1); (case side3 => repeat (first | exact (Kd.R_reads' HO641004.out).2.2 | (with_reducible refine Kd.C_alloc ?_ _) | (with_reducible refine Kd.C_drewN ?_ _) | (with_reducible refine Kd.C_drew ?_))); (case side4 => exact (Kd.R_reads' HO641004.out).2.1); rintro e w' ⟨rfl, ⟨nd, rfl⟩⟩; refine ⟨_, rfl, ?_⟩) | (go_at_call 81; (with_reducible refine (impl_in.calls a5 0 2 true _ A11.out).mono ?_); rintro e w' ⟨rfl, ⟨nd, rfl⟩⟩) | ((with_reducible refine gate_callee (f := 89) rfl ?_); refine goesL_ (some 40) rfl rfl Try.func89 (by kernel_rfl) rfl #[.slice A0 l0.length c0, .int .i64 a1, .int .i64 a2, .int .i64 a3, .int .i64 a4] rfl (by (try simp only [List.map_toArray, List.map_cons, List.map_nil]); first | done | rfl | (simp only [List.length_drop, List.length_take]; rfl)) ?_; (with_reducible refine (impl_isShare.calls (fun k_ => ((P0_ k_ ∨ w.heap.size ≤ k_) ∧ some k_ ≠ (.slice Ao62 y641002.length co62 : Value).ownBlock)) _ _ l0 a1 a2 a3 a4 true _ ?side1 A13.out).mono ?_); (case side1 => exact HO0.out); rintro e w63 ⟨rfl, hb⟩; refine ⟨_, rfl, ?_⟩; have n0_ := Aside0.mk (Kd.V_below (by (with_reducible repeat (first | apply Kd.V_alloc | apply Kd.V_drewN | apply Kd.V_drew)); exact HO0.out) hb); have n1_ := Aside0.mk (Kd.R_below (by (with_reducible repeat (first | apply Kd.R_alloc | apply Kd.R_drewN | apply Kd.R_drew)); exact HO641004.out) hb); have n2_ := Aside0.mk (below_step (by repeat (first | (with_reducible first | exact HB.out | apply below_alloc | apply pw_below_drewN | apply below_drew1) | exact HB.out)) hb); clear HO0; clear HO641004; clear HB; have HO0 := n0_; have HO641004 := n1_; have HB := n2_; clear n0_ n1_ n2_; (try clear hb); (try clear hb2); (try clear hk); (try clear hi)))
                  have n0_ := Aside0.mk (Kd.V_drew HO0.out)
                  have n1_ := Aside0.mk (Kd.R_drew HO641004.out)
                  have n2_ := Aside0.mk (below_drew1 HB.out)
                  clear HO0
                  clear HO641004
                  clear HB
                  have HO0 := n0_
                  have HO641004 := n1_
                  have HB := n2_
                  clear n0_ n1_ n2_
                  have q65 : (a2 : Int) ≤ ((l0.length : Int) : Int) := of_decide_eq_true (by first | (with_reducible assumption) | assumption)
                  obtain ⟨i065, hi065, _, hsz65, _⟩ := info_parts info2
                  have hroom65 : l0.length ≤ c0 := (Kd.V_reads' HO0.out).2.1
                  have hC65 : Kd.F (Kd.int .i64) _ _ A0 l0.length l0 := (Kd.V_at (base := w.heap.size) HO0.out).2.2
                  have ql65 : (a1 : Int) ≤ (a2 : Int) := of_decide_eq_true (by first | (with_reducible assumption) | assumption)
                  have q065 : (0 : Int) ≤ (a1 : Int) := of_decide_eq_true (by first | (with_reducible assumption) | assumption)
                  have hcut65 := cut_mid (P := Try.prog) 22 2 .i64 .i64 Try.underlying22 hi065 1 hsz65 A0 l0.length c0 a1 a2 q065 ql65 q65 hroom65
                  have hr65 := Kd.F_mid (lo := (a1 : Int).toNat) (hi := (a2 : Int).toNat) (c := c0) hC65 (by omega) (by omega) hroom65
                  obtain ⟨A65, hA65⟩ : ∃ A1, A1 = (if c0 = (a1 : Int).toNat then A0 else (A0 : Option Addr).map (·.add ((a1 : Int).toNat * 1))) := ⟨_, rfl⟩
                  obtain ⟨c65, hc65⟩ : ∃ c1, c1 = c0 - (a1 : Int).toNat := ⟨_, rfl⟩
                  have hy65 : y641008.length = (a2 : Int).toNat - (a1 : Int).toNat := (by rw [Ny641008.out, List.length_drop, List.length_take] <;> omega)
                  rw [show ((l0).take (a2 : Int).toNat).drop (a1 : Int).toNat = y641008 from Ny641008.out.symm] at hr65
                  replace hr65 : Kd.F (Kd.int .i64) _ _ A65 y641008.length y641008 := (by rw [hA65]; exact hr65)
                  rw [← hy65, ← hA65, ← hc65] at hcut65
                  have HO641012 := Aside0.mk (show Kd.V (Kd.int .i64) 2 _ w.heap.size _ (.slice A65 y641008.length c65) y641008 from Kd.V_mk (by rw [hy65, hc65]; exact Nat.sub_le_sub_right (Nat.le_trans (by omega) hroom65) _) hr65)
                  have HC641012 := Aside0.mk (show y641008.length ≤ c65 from by rw [hy65, hc65]; exact Nat.sub_le_sub_right (Nat.le_trans (by omega) hroom65) _)
                  clear hr65 hC65 hroom65 hi065 hsz65 hc65
                  have KY65 := Aside0.mk hy65
                  have KA65 := Aside0.mk hA65
                  clear hy65 hA65
                  replace q65 := eq_true q65
                  have q66 : (a4 : Int) ≤ ((l0.length : Int) : Int) := of_decide_eq_true (by first | (with_reducible assumption) | assumption)
                  obtain ⟨i066, hi066, _, hsz66, _⟩ := info_parts info2
                  have hroom66 : l0.length ≤ c0 := (Kd.V_reads' HO0.out).2.1
                  have hC66 : Kd.F (Kd.int .i64) _ _ A0 l0.length l0 := (Kd.V_at (base := w.heap.size) HO0.out).2.2
                  have ql66 : (a3 : Int) ≤ (a4 : Int) := of_decide_eq_true (by first | (with_reducible assumption) | assumption)
                  have q066 : (0 : Int) ≤ (a3 : Int) := of_decide_eq_true (by first | (with_reducible assumption) | assumption)
                  have hcut66 := cut_mid (P := Try.prog) 22 2 .i64 .i64 Try.underlying22 hi066 1 hsz66 A0 l0.length c0 a3 a4 q066 ql66 q66 hroom66
                  have hr66 := Kd.F_mid (lo := (a3 : Int).toNat) (hi := (a4 : Int).toNat) (c := c0) hC66 (by omega) (by omega) hroom66
                  obtain ⟨A66, hA66⟩ : ∃ A1, A1 = (if c0 = (a3 : Int).toNat then A0 else (A0 : Option Addr).map (·.add ((a3 : Int).toNat * 1))) := ⟨_, rfl⟩
                  obtain ⟨c66, hc66⟩ : ∃ c1, c1 = c0 - (a3 : Int).toNat := ⟨_, rfl⟩
                  have hy66 : y641013.length = (a4 : Int).toNat - (a3 : Int).toNat := (by rw [Ny641013.out, List.length_drop, List.length_take] <;> omega)
                  rw [show ((l0).take (a4 : Int).toNat).drop (a3 : Int).toNat = y641013 from Ny641013.out.symm] at hr66
                  replace hr66 : Kd.F (Kd.int .i64) _ _ A66 y641013.length y641013 := (by rw [hA66]; exact hr66)
                  rw [← hy66, ← hA66, ← hc66] at hcut66
                  have HO641017 := Aside0.mk (show Kd.V (Kd.int .i64) 2 _ w.heap.size _ (.slice A66 y641013.length c66) y641013 from Kd.V_mk (by rw [hy66, hc66]; exact Nat.sub_le_sub_right (Nat.le_trans (by omega) hroom66) _) hr66)
                  have HC641017 := Aside0.mk (show y641013.length ≤ c66 from by rw [hy66, hc66]; exact Nat.sub_le_sub_right (Nat.le_trans (by omega) hroom66) _)
                  clear hr66 hC66 hroom66 hi066 hsz66 hc66
                  have KY66 := Aside0.mk hy66
                  have KA66 := Aside0.mk hA66
                  clear hy66 hA66
                  replace q66 := eq_true q66
                  refine start_ (n := 10) (S := fun w' => True) (ds := []) #[false, false, false, false, false, false, false, false, false, false] (by kernel_rfl) rfl rfl trivial (fun hHeld => ?_); refine with_tabW impl_MutateWord.tab7 impl_MutateWord.bits7 (fun HT_ HW_ => ?_)
                  generalize w63.drew = w64 at HO0 HO641004 HB HO641012 HO641017 hHeld ⊢
                  refine pure_ (i := 0) (N := some 42) (v := ?_) (a' := ?_) #[true, false, false, false, false, false, false, false, false, false] rfl rfl (any_of HT_.out (by kernel_rfl)) (fun _ _ _ h => h) (Or.inl ⟨by rfl, ?_⟩) ?_ ?_
                  rotate_left
                  ·intro w'
                   go_simp
                   with_reducible rfl
                  rotate_left
                  ·simp only [Act.put, List.setIfInBounds_toArray, List.set_cons_zero, List.set_cons_succ, i64_w, i32_w]
                   rfl
                  refine pure_ (i := 1) (N := some 43) (v := ?_) (a' := ?_) #[true, true, false, false, false, false, false, false, false, false] rfl rfl (any_of HT_.out (by kernel_rfl)) (fun _ _ _ h => h) (Or.inl ⟨by rfl, ?_⟩) ?_ ?_
                  rotate_left
                  ·intro w'
                   go_simp
                   with_reducible rfl
                  rotate_left
                  ·simp only [Act.put, List.setIfInBounds_toArray, List.set_cons_zero, List.set_cons_succ, i64_w, i32_w]
                   rfl
                  refine pure_ (i := 2) (N := some 44) (v := ?_) (a' := ?_) #[true, true, true, false, false, false, false, false, false, false] rfl rfl (any_of HT_.out (by kernel_rfl)) (fun _ _ _ h => h) (Or.inl ⟨by rfl, ?_⟩) ?_ ?_
                  rotate_left
                  ·intro w'
                   go_simp
                   with_reducible rfl
                  rotate_left
                  ·simp only [Act.put, List.setIfInBounds_toArray, List.set_cons_zero, List.set_cons_succ, i64_w, i32_w]
                   rfl
                  refine pure_ (i := 3) (N := some 45) (v := ?_) (a' := ?_) #[true, true, true, true, false, false, false, false, false, false] rfl rfl (any_of HT_.out (by kernel_rfl)) (fun _ _ _ h => h) (Or.inl ⟨by rfl, ?_⟩) ?_ ?_
                  rotate_left
                  ·intro w'
                   go_simp
                   with_reducible rfl
                  rotate_left
                  ·simp only [Act.put, List.setIfInBounds_toArray, List.set_cons_zero, List.set_cons_succ, i64_w, i32_w]
                   rfl
                  refine pure_ (i := 4) (N := some 46) (v := ?_) (a' := ?_) #[true, true, true, true, true, false, false, false, false, false] rfl rfl (any_of HT_.out (by kernel_rfl)) (fun _ _ _ h => h) (Or.inl ⟨by rfl, ?_⟩) ?_ ?_
                  rotate_left
                  ·intro w'
                   go_simp
                   with_reducible rfl
                  rotate_left
                  ·simp only [Act.put, List.setIfInBounds_toArray, List.set_cons_zero, List.set_cons_succ, i64_w, i32_w]
                   rfl
                  refine pure_ (i := 5) (N := some 47) (v := ?_) (a' := ?_) #[true, true, true, true, true, true, false, false, false, false] rfl rfl (any_of HT_.out (by kernel_rfl)) (fun _ _ _ h => h) (Or.inl ⟨by rfl, ?_⟩) ?_ ?_
                  rotate_left
                  ·intro w'
                   go_simp
                   with_reducible rfl
                  rotate_left
                  ·simp only [Act.put, List.setIfInBounds_toArray, List.set_cons_zero, List.set_cons_succ, i64_w, i32_w]
                   rfl
                  refine pure_ (i := 6) (N := some 48) (v := ?_) (a' := ?_) #[true, true, true, true, true, true, true, false, false, false] rfl rfl (any_of HT_.out (by kernel_rfl)) (fun _ _ _ h => h) (Or.inl ⟨by rfl, ?_⟩) ?_ ?_
                  rotate_left
                  ·intro w'
                   go_simp
                   with_reducible rfl
                  rotate_left
                  ·simp only [Act.put, List.setIfInBounds_toArray, List.set_cons_zero, List.set_cons_succ, i64_w, i32_w]
                   rfl
                  refine pure_ (i := 7) (N := some 49) (v := ?_) (a' := ?_) #[true, true, true, true, true, true, true, true, false, false] rfl rfl (any_of HT_.out (by kernel_rfl)) (fun _ _ _ h => h) (Or.inl ⟨by rfl, ?_⟩) ?_ ?_
                  rotate_left
                  ·intro w'
                   go_simp
                   with_reducible rfl
                  rotate_left
                  ·simp only [Act.put, List.setIfInBounds_toArray, List.set_cons_zero, List.set_cons_succ, i64_w, i32_w]
                   rfl
                  refine pure_ (i := 8) (N := some 14) (v := ?_) (a' := ?_) #[true, true, true, true, true, true, true, true, true, false] rfl rfl (any_of HT_.out (by kernel_rfl)) (fun _ _ _ h => h) (Or.inl ⟨by rfl, ?_⟩) ?_ ?_
                  rotate_left
                  ·intro w'
                   go_simp
                   with_reducible rfl
                  rotate_left
                  ·simp only [Act.put, List.setIfInBounds_toArray, List.set_cons_zero, List.set_cons_succ, i64_w, i32_w]
                   rfl
                  refine pure_ (i := 9) (N := some 15) (v := ?_) (a' := ?_) #[true, true, true, true, true, true, true, true, true, true] rfl rfl (any_of HT_.out (by kernel_rfl)) (fun _ _ _ h => h) (Or.inl ⟨by rfl, ?_⟩) ?_ ?_
                  rotate_left
                  ·intro w'
                   go_simp
                   with_reducible rfl
                  rotate_left
                  ·simp only [Act.put, List.setIfInBounds_toArray, List.set_cons_zero, List.set_cons_succ, i64_w, i32_w]
                   rfl
                  refine done_ (done_of HT_.out (by kernel_rfl)) ?_
                  try go_wp2
                  have n0_ := Aside0.mk (Kd.V_drew HO0.out)
                  have n1_ := Aside0.mk (Kd.R_drew HO641004.out)
                  have n2_ := Aside0.mk (Kd.V_drew HO641012.out)
                  have n3_ := Aside0.mk (Kd.V_drew HO641017.out)
                  have n4_ := Aside0.mk (below_drew1 HB.out)
                  clear HO0
                  clear HO641004
                  clear HO641012
                  clear HO641017
                  clear HB
                  have HO0 := n0_
                  have HO641004 := n1_
                  have HO641012 := n2_
                  have HO641017 := n3_
                  have HB := n4_
                  clear n0_ n1_ n2_ n3_ n4_
                  have q68 : (a1 : Int) ≤ ((l0.length : Int) : Int) := of_decide_eq_true (by first | (with_reducible assumption) | assumption)
                  obtain ⟨i068, hi068, _, hsz68, _⟩ := info_parts info2
                  have hroom68 : l0.length ≤ c0 := (Kd.V_reads' HO0.out).2.1
                  have hC68 : Kd.F (Kd.int .i64) _ _ A0 l0.length l0 := (Kd.V_at (base := w.heap.size) HO0.out).2.2
                  have hcut68 := cut_to (P := Try.prog) 22 2 .i64 Try.underlying22 hi068 A0 l0.length c0 a1 (of_decide_eq_true (by first | (with_reducible assumption) | assumption)) q68 hroom68
                  have hr68 := Kd.F_take (m := (a1 : Int).toNat) hC68 (by omega)
                  have hy68 : y641042.length = (a1 : Int).toNat := (by rw [Ny641042.out, List.length_take]; omega)
                  rw [← Ny641042.out] at hr68
                  rw [← hy68] at hcut68
                  have HO641046 := Aside0.mk (show Kd.V (Kd.int .i64) 2 _ w.heap.size _ (.slice A0 y641042.length c0) y641042 from Kd.V_mk (by omega) hr68)
                  have HC641046 := Aside0.mk (show y641042.length ≤ c0 from by omega)
                  clear hr68 hC68 hroom68 hi068 hsz68
                  have KY68 := Aside0.mk hy68
                  clear hy68
                  replace q68 := eq_true q68
                  have q69 : (a3 : Int) ≤ ((l0.length : Int) : Int) := of_decide_eq_true (by first | (with_reducible assumption) | assumption)
                  obtain ⟨i069, hi069, _, hsz69, _⟩ := info_parts info2
                  have hroom69 : l0.length ≤ c0 := (Kd.V_reads' HO0.out).2.1
                  have hC69 : Kd.F (Kd.int .i64) _ _ A0 l0.length l0 := (Kd.V_at (base := w.heap.size) HO0.out).2.2
                  have ql69 : (a2 : Int) ≤ (a3 : Int) := of_decide_eq_true (by first | (with_reducible assumption) | assumption)
                  have q069 : (0 : Int) ≤ (a2 : Int) := of_decide_eq_true (by first | (with_reducible assumption) | assumption)
                  have hcut69 := cut_mid (P := Try.prog) 22 2 .i64 .i64 Try.underlying22 hi069 1 hsz69 A0 l0.length c0 a2 a3 q069 ql69 q69 hroom69
                  have hr69 := Kd.F_mid (lo := (a2 : Int).toNat) (hi := (a3 : Int).toNat) (c := c0) hC69 (by omega) (by omega) hroom69
                  obtain ⟨A69, hA69⟩ : ∃ A1, A1 = (if c0 = (a2 : Int).toNat then A0 else (A0 : Option Addr).map (·.add ((a2 : Int).toNat * 1))) := ⟨_, rfl⟩
                  obtain ⟨c69, hc69⟩ : ∃ c1, c1 = c0 - (a2 : Int).toNat := ⟨_, rfl⟩
                  have hy69 : y641047.length = (a3 : Int).toNat - (a2 : Int).toNat := (by rw [Ny641047.out, List.length_drop, List.length_take] <;> omega)
                  rw [show ((l0).take (a3 : Int).toNat).drop (a2 : Int).toNat = y641047 from Ny641047.out.symm] at hr69
                  replace hr69 : Kd.F (Kd.int .i64) _ _ A69 y641047.length y641047 := (by rw [hA69]; exact hr69)
                  rw [← hy69, ← hA69, ← hc69] at hcut69
                  have HO641051 := Aside0.mk (show Kd.V (Kd.int .i64) 2 _ w.heap.size _ (.slice A69 y641047.length c69) y641047 from Kd.V_mk (by rw [hy69, hc69]; exact Nat.sub_le_sub_right (Nat.le_trans (by omega) hroom69) _) hr69)
                  have HC641051 := Aside0.mk (show y641047.length ≤ c69 from by rw [hy69, hc69]; exact Nat.sub_le_sub_right (Nat.le_trans (by omega) hroom69) _)
                  clear hr69 hC69 hroom69 hi069 hsz69 hc69
                  have KY69 := Aside0.mk hy69
                  have KA69 := Aside0.mk hA69
                  clear hy69 hA69
                  replace q69 := eq_true q69
                  have q70 : (a4 : Int) ≤ ((l0.length : Int) : Int) := of_decide_eq_true (by first | (with_reducible assumption) | assumption)
                  obtain ⟨i070, hi070, _, hsz70, _⟩ := info_parts info2
                  have hroom70 : l0.length ≤ c0 := (Kd.V_reads' HO0.out).2.1
                  have hC70 : Kd.F (Kd.int .i64) _ _ A0 l0.length l0 := (Kd.V_at (base := w.heap.size) HO0.out).2.2
                  have q070 : (0 : Int) ≤ (a4 : Int) := of_decide_eq_true (by first | (with_reducible assumption) | assumption)
                  have hcut70 := cut_from (P := Try.prog) 22 2 .i64 Try.underlying22 hi070 1 hsz70 A0 l0.length c0 a4 q070 q70
                  have hr70 := Kd.F_cut (m := (a4 : Int).toNat) (c := c0) hC70 (by omega) hroom70
                  obtain ⟨A70, hA70⟩ : ∃ A1, A1 = (if c0 = (a4 : Int).toNat then A0 else (A0 : Option Addr).map (·.add ((a4 : Int).toNat * 1))) := ⟨_, rfl⟩
                  obtain ⟨c70, hc70⟩ : ∃ c1, c1 = c0 - (a4 : Int).toNat := ⟨_, rfl⟩
                  have hy70 : y641052.length = l0.length - (a4 : Int).toNat := (by rw [Ny641052.out, List.length_drop] <;> omega)
                  rw [show (l0).drop (a4 : Int).toNat = y641052 from Ny641052.out.symm] at hr70
                  replace hr70 : Kd.F (Kd.int .i64) _ _ A70 y641052.length y641052 := (by rw [hA70]; exact hr70)
                  rw [← hy70, ← hA70, ← hc70] at hcut70
                  have HO641056 := Aside0.mk (show Kd.V (Kd.int .i64) 2 _ w.heap.size _ (.slice A70 y641052.length c70) y641052 from Kd.V_mk (by rw [hy70, hc70]; exact Nat.sub_le_sub_right hroom70 _) hr70)
                  have HC641056 := Aside0.mk (show y641052.length ≤ c70 from by rw [hy70, hc70]; exact Nat.sub_le_sub_right hroom70 _)
                  clear hr70 hC70 hroom70 hi070 hsz70 hc70
                  have KY70 := Aside0.mk hy70
                  have KA70 := Aside0.mk hA70
                  clear hy70 hA70
                  replace q70 := eq_true q70
                  refine start_ (n := 17) (S := fun w' => True) (ds := []) #[false, false, false, false, false, false, false, false, false, false, false, false, false, false, false, false, false] (by kernel_rfl) rfl rfl trivial (fun hHeld => ?_); refine with_tabW impl_MutateWord.tab12 impl_MutateWord.bits12 (fun HT_ HW_ => ?_)
                  generalize w64.drew = w67 at HO0 HO641004 HO641012 HO641017 HB HO641046 HO641051 HO641056 hHeld ⊢
                  refine pure_ (i := 0) (N := some 60) (v := ?_) (a' := ?_) #[true, false, false, false, false, false, false, false, false, false, false, false, false, false, false, false, false] rfl rfl (any_of HT_.out (by kernel_rfl)) (fun _ _ _ h => h) (Or.inl ⟨by rfl, ?_⟩) ?_ ?_
                  rotate_left
                  ·intro w'
                   go_simp
                   with_reducible rfl
                  rotate_left
                  ·simp only [Act.put, List.setIfInBounds_toArray, List.set_cons_zero, List.set_cons_succ, i64_w, i32_w]
                   rfl
                  refine pure_ (i := 1) (N := some 61) (v := ?_) (a' := ?_) #[true, true, false, false, false, false, false, false, false, false, false, false, false, false, false, false, false] rfl rfl (any_of HT_.out (by kernel_rfl)) (fun _ _ _ h => h) (Or.inl ⟨by rfl, ?_⟩) ?_ ?_
                  rotate_left
                  ·intro w'
                   go_simp
                   with_reducible rfl
                  rotate_left
                  ·simp only [Act.put, List.setIfInBounds_toArray, List.set_cons_zero, List.set_cons_succ, i64_w, i32_w]
                   rfl
                  refine pure_ (i := 2) (N := some 62) (v := ?_) (a' := ?_) #[true, true, true, false, false, false, false, false, false, false, false, false, false, false, false, false, false] rfl rfl (any_of HT_.out (by kernel_rfl)) (fun _ _ _ h => h) (Or.inl ⟨by rfl, ?_⟩) ?_ ?_
                  rotate_left
                  ·intro w'
                   go_simp
                   with_reducible rfl
                  rotate_left
                  ·simp only [Act.put, List.setIfInBounds_toArray, List.set_cons_zero, List.set_cons_succ, i64_w, i32_w]
                   rfl
                  refine pure_ (i := 3) (N := some 63) (v := ?_) (a' := ?_) #[true, true, true, true, false, false, false, false, false, false, false, false, false, false, false, false, false] rfl rfl (any_of HT_.out (by kernel_rfl)) (fun _ _ _ h => h) (Or.inl ⟨by rfl, ?_⟩) ?_ ?_
                  rotate_left
                  ·intro w'
                   go_simp
                   with_reducible rfl
                  rotate_left
                  ·simp only [Act.put, List.setIfInBounds_toArray, List.set_cons_zero, List.set_cons_succ, i64_w, i32_w]
                   rfl
                  refine pure_ (i := 4) (N := some 64) (v := ?_) (a' := ?_) #[true, true, true, true, true, false, false, false, false, false, false, false, false, false, false, false, false] rfl rfl (any_of HT_.out (by kernel_rfl)) (fun _ _ _ h => h) (Or.inl ⟨by rfl, ?_⟩) ?_ ?_
                  rotate_left
                  ·intro w'
                   go_simp
                   with_reducible rfl
                  rotate_left
                  ·simp only [Act.put, List.setIfInBounds_toArray, List.set_cons_zero, List.set_cons_succ, i64_w, i32_w]
                   rfl
                  refine pure_ (i := 5) (N := some 65) (v := ?_) (a' := ?_) #[true, true, true, true, true, true, false, false, false, false, false, false, false, false, false, false, false] rfl rfl (any_of HT_.out (by kernel_rfl)) (fun _ _ _ h => h) (Or.inl ⟨by rfl, ?_⟩) ?_ ?_
                  rotate_left
                  ·intro w'
                   go_simp
                   with_reducible rfl
                  rotate_left
                  ·simp only [Act.put, List.setIfInBounds_toArray, List.set_cons_zero, List.set_cons_succ, i64_w, i32_w]
                   rfl
                  refine pure_ (i := 6) (N := some 66) (v := ?_) (a' := ?_) #[true, true, true, true, true, true, true, false, false, false, false, false, false, false, false, false, false] rfl rfl (any_of HT_.out (by kernel_rfl)) (fun _ _ _ h => h) (Or.inl ⟨by rfl, ?_⟩) ?_ ?_
                  rotate_left
                  ·intro w'
                   go_simp
                   with_reducible rfl
                  rotate_left
                  ·simp only [Act.put, List.setIfInBounds_toArray, List.set_cons_zero, List.set_cons_succ, i64_w, i32_w]
                   rfl
                  refine pure_ (i := 7) (N := some 67) (v := ?_) (a' := ?_) #[true, true, true, true, true, true, true, true, false, false, false, false, false, false, false, false, false] rfl rfl (any_of HT_.out (by kernel_rfl)) (fun _ _ _ h => h) (Or.inl ⟨by rfl, ?_⟩) ?_ ?_
                  rotate_left
                  ·intro w'
                   go_simp
                   with_reducible rfl
                  rotate_left
                  ·simp only [Act.put, List.setIfInBounds_toArray, List.set_cons_zero, List.set_cons_succ, i64_w, i32_w]
                   rfl
                  refine pure_ (i := 8) (N := some 68) (v := ?_) (a' := ?_) #[true, true, true, true, true, true, true, true, true, false, false, false, false, false, false, false, false] rfl rfl (any_of HT_.out (by kernel_rfl)) (fun _ _ _ h => h) (Or.inl ⟨by rfl, ?_⟩) ?_ ?_
                  rotate_left
                  ·intro w'
                   go_simp
                   with_reducible rfl
                  rotate_left
                  ·simp only [Act.put, List.setIfInBounds_toArray, List.set_cons_zero, List.set_cons_succ, i64_w, i32_w]
                   rfl
                  refine pure_ (i := 9) (N := some 69) (v := ?_) (a' := ?_) #[true, true, true, true, true, true, true, true, true, true, false, false, false, false, false, false, false] rfl rfl (any_of HT_.out (by kernel_rfl)) (fun _ _ _ h => h) (Or.inl ⟨by rfl, ?_⟩) ?_ ?_
                  rotate_left
                  ·intro w'
                   go_simp
                   with_reducible rfl
                  rotate_left
                  ·simp only [Act.put, List.setIfInBounds_toArray, List.set_cons_zero, List.set_cons_succ, i64_w, i32_w]
                   rfl
                  refine pure_ (i := 10) (N := some 70) (v := ?_) (a' := ?_) #[true, true, true, true, true, true, true, true, true, true, true, false, false, false, false, false, false] rfl rfl (any_of HT_.out (by kernel_rfl)) (fun _ _ _ h => h) (Or.inl ⟨by rfl, ?_⟩) ?_ ?_
                  rotate_left
                  ·intro w'
                   go_simp
                   with_reducible rfl
                  rotate_left
                  ·simp only [Act.put, List.setIfInBounds_toArray, List.set_cons_zero, List.set_cons_succ, i64_w, i32_w]
                   rfl
                  refine pure_ (i := 11) (N := some 71) (v := ?_) (a' := ?_) #[true, true, true, true, true, true, true, true, true, true, true, true, false, false, false, false, false] rfl rfl (any_of HT_.out (by kernel_rfl)) (fun _ _ _ h => h) (Or.inl ⟨by rfl, ?_⟩) ?_ ?_
                  rotate_left
                  ·intro w'
                   go_simp
                   with_reducible rfl
                  rotate_left
                  ·simp only [Act.put, List.setIfInBounds_toArray, List.set_cons_zero, List.set_cons_succ, i64_w, i32_w]
                   rfl
                  refine one_ (i := 12) (N := some 72) #[true, true, true, true, true, true, true, true, true, true, true, true, true, false, false, false, false] rfl rfl (one_of HT_.out (by kernel_rfl)) (by decide) (fun K hK => ?_)
                  refine Kd.N_lit_step (Kd.slice 2 (Kd.int .i64)) _ 22 ?hg (N' := 72) ?hd (xs := ([y641042, y641013, y641047, y641008, y641052] : List (List Int))) (inner := [.slice A0 y641042.length c0, .slice A66 y641013.length c66, .slice A69 y641047.length c69, .slice A65 y641008.length c65, .slice A70 y641052.length c70]) (ok := (fun k_ => (P0_ k_ ∨ w.heap.size ≤ k_) ∧ some k_ ≠ (.slice Ao62 y641002.length co62 : Value).ownBlock)) (okp := (fun k_ => (P0_ k_ ∨ w.heap.size ≤ k_) ∧ some k_ ≠ (.slice Ao62 y641002.length co62 : Value).ownBlock)) ?hr ?hp (fun _ hk => hk) ((show ∀ k_, w67.heap.size ≤ k_ → (fun k_ => (P0_ k_ ∨ w.heap.size ≤ k_) ∧ some k_ ≠ (.slice Ao62 y641002.length co62 : Value).ownBlock) k_ from fun k_ hk => ⟨(.inr (Nat.le_trans (below_size (by repeat (first | (with_reducible first | exact HB.out | apply below_alloc | apply pw_below_drewN | apply below_drew1) | exact HB.out))) hk)), Kd.fresh' (Kd.R_lt (by (with_reducible repeat (first | apply Kd.R_alloc | apply Kd.R_drewN | apply Kd.R_drew)); exact HO641004.out)) k_ hk⟩) _ (Nat.le_refl _)) (Below.refl _ _) (Nat.le_refl _) (by simp) ?_; (case hd => rfl); (case hg => rfl); (case hr => first | (go_simp; done) | (go_simp; rfl)); (case hp => exact (Reps.one (show Kd.FK (Kd.slice 2 (Kd.int .i64)) _ _ y641042 [.slice A0 y641042.length c0] from (Kd.FK_slice_mk (Kd.V_reads' (Kd.V_mono (ok' := (fun k_ => (P0_ k_ ∨ w.heap.size ≤ k_) ∧ some k_ ≠ (.slice Ao62 y641002.length co62 : Value).ownBlock)) (HO641046.out) (fun k_ hk => ⟨hk.1, hk.2⟩))).2.1 (Kd.V_F (Kd.V_mono (ok' := (fun k_ => (P0_ k_ ∨ w.heap.size ≤ k_) ∧ some k_ ≠ (.slice Ao62 y641002.length co62 : Value).ownBlock)) (HO641046.out) (fun k_ hk => ⟨hk.1, hk.2⟩))))) (Reps.one (show Kd.FK (Kd.slice 2 (Kd.int .i64)) _ _ y641013 [.slice A66 y641013.length c66] from (Kd.FK_slice_mk (Kd.V_reads' (Kd.V_mono (ok' := (fun k_ => (P0_ k_ ∨ w.heap.size ≤ k_) ∧ some k_ ≠ (.slice Ao62 y641002.length co62 : Value).ownBlock)) (HO641017.out) (fun k_ hk => ⟨hk.1, hk.2⟩))).2.1 (Kd.V_F (Kd.V_mono (ok' := (fun k_ => (P0_ k_ ∨ w.heap.size ≤ k_) ∧ some k_ ≠ (.slice Ao62 y641002.length co62 : Value).ownBlock)) (HO641017.out) (fun k_ hk => ⟨hk.1, hk.2⟩))))) (Reps.one (show Kd.FK (Kd.slice 2 (Kd.int .i64)) _ _ y641047 [.slice A69 y641047.length c69] from (Kd.FK_slice_mk (Kd.V_reads' (Kd.V_mono (ok' := (fun k_ => (P0_ k_ ∨ w.heap.size ≤ k_) ∧ some k_ ≠ (.slice Ao62 y641002.length co62 : Value).ownBlock)) (HO641051.out) (fun k_ hk => ⟨hk.1, hk.2⟩))).2.1 (Kd.V_F (Kd.V_mono (ok' := (fun k_ => (P0_ k_ ∨ w.heap.size ≤ k_) ∧ some k_ ≠ (.slice Ao62 y641002.length co62 : Value).ownBlock)) (HO641051.out) (fun k_ hk => ⟨hk.1, hk.2⟩))))) (Reps.one (show Kd.FK (Kd.slice 2 (Kd.int .i64)) _ _ y641008 [.slice A65 y641008.length c65] from (Kd.FK_slice_mk (Kd.V_reads' (Kd.V_mono (ok' := (fun k_ => (P0_ k_ ∨ w.heap.size ≤ k_) ∧ some k_ ≠ (.slice Ao62 y641002.length co62 : Value).ownBlock)) (HO641012.out) (fun k_ hk => ⟨hk.1, hk.2⟩))).2.1 (Kd.V_F (Kd.V_mono (ok' := (fun k_ => (P0_ k_ ∨ w.heap.size ≤ k_) ∧ some k_ ≠ (.slice Ao62 y641002.length co62 : Value).ownBlock)) (HO641012.out) (fun k_ hk => ⟨hk.1, hk.2⟩))))) (Reps.one (show Kd.FK (Kd.slice 2 (Kd.int .i64)) _ _ y641052 [.slice A70 y641052.length c70] from (Kd.FK_slice_mk (Kd.V_reads' (Kd.V_mono (ok' := (fun k_ => (P0_ k_ ∨ w.heap.size ≤ k_) ∧ some k_ ≠ (.slice Ao62 y641002.length co62 : Value).ownBlock)) (HO641056.out) (fun k_ hk => ⟨hk.1, hk.2⟩))).2.1 (Kd.V_F (Kd.V_mono (ok' := (fun k_ => (P0_ k_ ∨ w.heap.size ≤ k_) ∧ some k_ ≠ (.slice Ao62 y641002.length co62 : Value).ownBlock)) (HO641056.out) (fun k_ hk => ⟨hk.1, hk.2⟩))))) (Reps.none _ _)))))))
                  intro v641058 w71 ho72 hb hg_ hnew_
                  clear hg_ hnew_
                  (first | rw [← Ny641057.out] at ho72 | (simp only [Int.reduceToNat] at ho72; rw [← Ny641057.out] at ho72))
                  have n0_ := Aside0.mk (Kd.V_elder' (by (with_reducible repeat (first | apply Kd.V_alloc | apply Kd.V_drewN | apply Kd.V_drew)); exact HO0.out) (Kd.N_base ho72) hb)
                  have n1_ := Aside0.mk (Kd.R_below (by (with_reducible repeat (first | apply Kd.R_alloc | apply Kd.R_drewN | apply Kd.R_drew)); exact HO641004.out) hb)
                  have n2_ := Aside0.mk (Kd.V_elder' (by (with_reducible repeat (first | apply Kd.V_alloc | apply Kd.V_drewN | apply Kd.V_drew)); exact HO641012.out) (Kd.N_base ho72) hb)
                  have n3_ := Aside0.mk (Kd.V_elder' (by (with_reducible repeat (first | apply Kd.V_alloc | apply Kd.V_drewN | apply Kd.V_drew)); exact HO641017.out) (Kd.N_base ho72) hb)
                  have n4_ := Aside0.mk (Kd.V_elder' (by (with_reducible repeat (first | apply Kd.V_alloc | apply Kd.V_drewN | apply Kd.V_drew)); exact HO641046.out) (Kd.N_base ho72) hb)
                  have n5_ := Aside0.mk (Kd.V_elder' (by (with_reducible repeat (first | apply Kd.V_alloc | apply Kd.V_drewN | apply Kd.V_drew)); exact HO641051.out) (Kd.N_base ho72) hb)
                  have n6_ := Aside0.mk (Kd.V_elder' (by (with_reducible repeat (first | apply Kd.V_alloc | apply Kd.V_drewN | apply Kd.V_drew)); exact HO641056.out) (Kd.N_base ho72) hb)
                  have n7_ := Aside0.mk (Kd.N_lower ho72 (below_size (by repeat (first | (with_reducible first | exact HB.out | apply below_alloc | apply pw_below_drewN | apply below_drew1) | exact HB.out))))
                  have n8_ := Aside0.mk (below_step (by repeat (first | (with_reducible first | exact HB.out | apply below_alloc | apply pw_below_drewN | apply below_drew1) | exact HB.out)) hb)
                  clear HO0
                  clear HO641004
                  clear HO641012
                  clear HO641017
                  clear HO641046
                  clear HO641051
                  clear HO641056
                  clear HB
                  have HO0 := n0_
                  have HO641004 := n1_
                  have HO641012 := n2_
                  have HO641017 := n3_
                  have HO641046 := n4_
                  have HO641051 := n5_
                  have HO641056 := n6_
                  have HO641059 := n7_
                  have HB := n8_
                  clear n0_ n1_ n2_ n3_ n4_ n5_ n6_ n7_ n8_
                  clear hb ho72
                  obtain ⟨Ao73, co73, eo73⟩ := Kd.N_slice HO641059.out
                  (first | subst eo73 | (injection eo73 with f1_ f2_ f3_; have f4_ := f1_.symm; have f5_ := f3_.symm; clear f1_ f2_ f3_; subst f4_; subst f5_))
                  refine hK.out _ _ trivial (fun hHeld => ?_)
                  clear hK K
                  refine norm_ (a' := ?_) ?_ ?_
                  rotate_left
                  ·show Act.put _ (some 72) _ = _
                   simp only [Act.put, List.setIfInBounds_toArray, List.set_cons_zero, List.set_cons_succ, i64_w, i32_w]
                   rfl
                  refine one_ (i := 13) (N := some 73) #[true, true, true, true, true, true, true, true, true, true, true, true, true, true, false, false, false] rfl rfl (one_of HT_.out (by kernel_rfl)) (by decide) (fun K hK => ?_)
                  refine goes_ Try.func106 (by kernel_rfl) rfl #[.slice Ao73 y641057.length co73] (by rfl) rfl rfl (by (try simp only [List.map_toArray, List.map_cons, List.map_nil]); first | done | rfl | (simp only [List.length_drop, List.length_take]; rfl)) ?_
                  with_reducible refine (slices_Concat_int64_int64.calls _ _ y641057 t641060 _ ?side1 ?side2 A57.out).mono ?_
                  (case side1 => repeat (first | exact (Kd.N_reads' HO641059.out).2.2 | (with_reducible refine Kd.C_alloc ?_ _) | (with_reducible refine Kd.C_drewN ?_ _) | (with_reducible refine Kd.C_drew ?_)))
                  (case side2 => exact (Kd.N_reads' HO641059.out).2.1)
                  rintro e w74 ⟨v641061, rfl, ho0, hb⟩
                  refine ⟨_, rfl, ?_⟩
                  have n0_ := Aside0.mk (Kd.V_elder' (by (with_reducible repeat (first | apply Kd.V_alloc | apply Kd.V_drewN | apply Kd.V_drew)); exact HO0.out) (Kd.R_base ho0) hb)
                  have n1_ := Aside0.mk (Kd.R_elder' (by (with_reducible repeat (first | apply Kd.R_alloc | apply Kd.R_drewN | apply Kd.R_drew)); exact HO641004.out) (Kd.R_base ho0) hb)
                  have n2_ := Aside0.mk (Kd.V_elder' (by (with_reducible repeat (first | apply Kd.V_alloc | apply Kd.V_drewN | apply Kd.V_drew)); exact HO641012.out) (Kd.R_base ho0) hb)
                  have n3_ := Aside0.mk (Kd.V_elder' (by (with_reducible repeat (first | apply Kd.V_alloc | apply Kd.V_drewN | apply Kd.V_drew)); exact HO641017.out) (Kd.R_base ho0) hb)
                  have n4_ := Aside0.mk (Kd.V_elder' (by (with_reducible repeat (first | apply Kd.V_alloc | apply Kd.V_drewN | apply Kd.V_drew)); exact HO641046.out) (Kd.R_base ho0) hb)
                  have n5_ := Aside0.mk (Kd.V_elder' (by (with_reducible repeat (first | apply Kd.V_alloc | apply Kd.V_drewN | apply Kd.V_drew)); exact HO641051.out) (Kd.R_base ho0) hb)
                  have n6_ := Aside0.mk (Kd.V_elder' (by (with_reducible repeat (first | apply Kd.V_alloc | apply Kd.V_drewN | apply Kd.V_drew)); exact HO641056.out) (Kd.R_base ho0) hb)
                  have n7_ := Aside0.mk (Kd.N_elder' (by (with_reducible repeat (first | apply Kd.N_alloc | apply Kd.N_drewN | apply Kd.N_drew)); exact HO641059.out) (Kd.R_base ho0) hb)
                  have n8_ := Aside0.mk (Kd.R_lower (Kd.R_new' (Kd.R_newM (M := fun k_ => (w.heap.size ≤ k_)) ho0 (below_size (by repeat (first | (with_reducible first | exact HB.out | apply below_alloc | apply pw_below_drewN | apply below_drew1) | exact HB.out))) (fun k_ h_ => h_)) (Kd.R_lt (by (with_reducible repeat (first | apply Kd.R_alloc | apply Kd.R_drewN | apply Kd.R_drew)); exact HO641004.out))) (below_size (by repeat (first | (with_reducible first | exact HB.out | apply below_alloc | apply pw_below_drewN | apply below_drew1) | exact HB.out))))
                  have n9_ := Aside0.mk (below_step (by repeat (first | (with_reducible first | exact HB.out | apply below_alloc | apply pw_below_drewN | apply below_drew1) | exact HB.out)) hb)
                  clear HO0
                  clear HO641004
                  clear HO641012
                  clear HO641017
                  clear HO641046
                  clear HO641051
                  clear HO641056
                  clear HO641059
                  clear HB
                  have HO0 := n0_
                  have HO641004 := n1_
                  have HO641012 := n2_
                  have HO641017 := n3_
                  have HO641046 := n4_
                  have HO641051 := n5_
                  have HO641056 := n6_
                  have HO641059 := n7_
                  have HO641062 := n8_
                  have HB := n9_
                  clear n0_ n1_ n2_ n3_ n4_ n5_ n6_ n7_ n8_ n9_
                  (try clear hb)
                  (try clear hb2)
                  (try clear hk)
                  (try clear hi)
                  (try clear ho0)
                  obtain ⟨Ao75, co75, eo75⟩ := Kd.R_slice HO641062.out
                  (first | subst eo75 | (injection eo75 with f1_ f2_ f3_; have f4_ := f1_.symm; have f5_ := f3_.symm; clear f1_ f2_ f3_; subst f4_; subst f5_))
                  refine hK.out _ _ trivial (fun hHeld => ?_)
                  clear hK K
                  refine norm_ (a' := ?_) ?_ ?_
                  rotate_left
                  ·show Act.put _ (some 73) _ = _
                   simp only [Act.put, List.setIfInBounds_toArray, List.set_cons_zero, List.set_cons_succ, i64_w, i32_w]
                   rfl
                  refine one_ (i := 14) (N := some 74) #[true, true, true, true, true, true, true, true, true, true, true, true, true, true, true, false, false] rfl rfl (one_of HT_.out (by kernel_rfl)) (by decide) (fun K hK => ?_)
                  refine goes_ Try.func105 (by kernel_rfl) rfl #[.slice Ao75 t641060.length co75] (by rfl) rfl rfl (by (try simp only [List.map_toArray, List.map_cons, List.map_nil]); first | done | rfl | (simp only [List.length_drop, List.length_take]; rfl)) ?_
                  with_reducible refine (impl_normal.calls _ _ t641060 t641063 _ ?side1 ?side2 A58.out).mono ?_
                  (case side1 => repeat (first | exact (Kd.R_reads' HO641062.out).2.2 | (with_reducible refine Kd.C_alloc ?_ _) | (with_reducible refine Kd.C_drewN ?_ _) | (with_reducible refine Kd.C_drew ?_)))
                  (case side2 => exact (Kd.R_reads' HO641062.out).2.1)
                  rintro e w76 ⟨v641064, rfl, ho0, hb⟩
                  refine ⟨_, rfl, ?_⟩
                  have n0_ := Aside0.mk (Kd.V_elder' (by (with_reducible repeat (first | apply Kd.V_alloc | apply Kd.V_drewN | apply Kd.V_drew)); exact HO0.out) (Kd.R_base ho0) hb)
                  have n1_ := Aside0.mk (Kd.R_elder' (by (with_reducible repeat (first | apply Kd.R_alloc | apply Kd.R_drewN | apply Kd.R_drew)); exact HO641004.out) (Kd.R_base ho0) hb)
                  have n2_ := Aside0.mk (Kd.V_elder' (by (with_reducible repeat (first | apply Kd.V_alloc | apply Kd.V_drewN | apply Kd.V_drew)); exact HO641012.out) (Kd.R_base ho0) hb)
                  have n3_ := Aside0.mk (Kd.V_elder' (by (with_reducible repeat (first | apply Kd.V_alloc | apply Kd.V_drewN | apply Kd.V_drew)); exact HO641017.out) (Kd.R_base ho0) hb)
                  have n4_ := Aside0.mk (Kd.V_elder' (by (with_reducible repeat (first | apply Kd.V_alloc | apply Kd.V_drewN | apply Kd.V_drew)); exact HO641046.out) (Kd.R_base ho0) hb)
                  have n5_ := Aside0.mk (Kd.V_elder' (by (with_reducible repeat (first | apply Kd.V_alloc | apply Kd.V_drewN | apply Kd.V_drew)); exact HO641051.out) (Kd.R_base ho0) hb)
                  have n6_ := Aside0.mk (Kd.V_elder' (by (with_reducible repeat (first | apply Kd.V_alloc | apply Kd.V_drewN | apply Kd.V_drew)); exact HO641056.out) (Kd.R_base ho0) hb)
                  have n7_ := Aside0.mk (Kd.N_elder' (by (with_reducible repeat (first | apply Kd.N_alloc | apply Kd.N_drewN | apply Kd.N_drew)); exact HO641059.out) (Kd.R_base ho0) hb)
                  have n8_ := Aside0.mk (Kd.R_elder' (by (with_reducible repeat (first | apply Kd.R_alloc | apply Kd.R_drewN | apply Kd.R_drew)); exact HO641062.out) (Kd.R_base ho0) hb)
                  have n9_ := Aside0.mk (Kd.R_lower (Kd.R_new' (Kd.R_new' (Kd.R_newM (M := fun k_ => (w.heap.size ≤ k_)) ho0 (below_size (by repeat (first | (with_reducible first | exact HB.out | apply below_alloc | apply pw_below_drewN | apply below_drew1) | exact HB.out))) (fun k_ h_ => h_)) (Kd.R_lt (by (with_reducible repeat (first | apply Kd.R_alloc | apply Kd.R_drewN | apply Kd.R_drew)); exact HO641004.out))) (Kd.R_lt (by (with_reducible repeat (first | apply Kd.R_alloc | apply Kd.R_drewN | apply Kd.R_drew)); exact HO641062.out))) (below_size (by repeat (first | (with_reducible first | exact HB.out | apply below_alloc | apply pw_below_drewN | apply below_drew1) | exact HB.out))))
                  have n10_ := Aside0.mk (below_step (by repeat (first | (with_reducible first | exact HB.out | apply below_alloc | apply pw_below_drewN | apply below_drew1) | exact HB.out)) hb)
                  clear HO0
                  clear HO641004
                  clear HO641012
                  clear HO641017
                  clear HO641046
                  clear HO641051
                  clear HO641056
                  clear HO641059
                  clear HO641062
                  clear HB
                  have HO0 := n0_
                  have HO641004 := n1_
                  have HO641012 := n2_
                  have HO641017 := n3_
                  have HO641046 := n4_
                  have HO641051 := n5_
                  have HO641056 := n6_
                  have HO641059 := n7_
                  have HO641062 := n8_
                  have HO641065 := n9_
                  have HB := n10_
                  clear n0_ n1_ n2_ n3_ n4_ n5_ n6_ n7_ n8_ n9_ n10_
                  (try clear hb)
                  (try clear hb2)
                  (try clear hk)
                  (try clear hi)
                  (try clear ho0)
                  refine hK.out _ _ trivial (fun hHeld => ?_)
                  clear hK K
                  refine norm_ (a' := ?_) ?_ ?_
                  rotate_left
                  ·show Act.put _ (some 74) _ = _
                   simp only [Act.put, List.setIfInBounds_toArray, List.set_cons_zero, List.set_cons_succ, i64_w, i32_w]
                   rfl
                  refine pure_ (i := 15) (N := some 12) (v := ?_) (a' := ?_) #[true, true, true, true, true, true, true, true, true, true, true, true, true, true, true, true, false] rfl rfl (any_of HT_.out (by kernel_rfl)) (fun _ _ _ h => h) (Or.inl ⟨by rfl, ?_⟩) ?_ ?_
                  rotate_left
                  ·intro w'
                   go_simp
                   with_reducible rfl
                  rotate_left
                  ·simp only [Act.put, List.setIfInBounds_toArray, List.set_cons_zero, List.set_cons_succ, i64_w, i32_w]
                   rfl
                  refine pure_ (i := 16) (N := some 13) (v := ?_) (a' := ?_) #[true, true, true, true, true, true, true, true, true, true, true, true, true, true, true, true, true] rfl rfl (any_of HT_.out (by kernel_rfl)) (fun _ _ _ h => h) (Or.inl ⟨by rfl, ?_⟩) ?_ ?_
                  rotate_left
                  ·intro w'
                   go_simp
                   with_reducible rfl
                  rotate_left
                  ·simp only [Act.put, List.setIfInBounds_toArray, List.set_cons_zero, List.set_cons_succ, i64_w, i32_w]
                   rfl
                  refine done_ (done_of HT_.out (by kernel_rfl)) ?_
                  try go_wp2
                  go_ret2
                  exact ⟨_, by first | rfl | (simp [errW_none, errW_some] <;> rfl) | (simp [*, errW_none, errW_some] <;> rfl), by (with_reducible repeat (first | apply Kd.R_alloc | apply Kd.R_drewN | apply Kd.R_drew)); exact Kd.R_mono HO641065.out (fun _ hk => hk.1.1.1), by repeat (first | (with_reducible first | exact HB.out | apply below_alloc | apply pw_below_drewN | apply below_drew1) | exact HB.out)⟩
                 ·rw [if_neg c55] at H
                  exact absurd H (by simp)
                ·rw [if_neg c54] at H
                 exact absurd H (by simp)
               ·rw [if_neg c53] at H
                exact absurd H (by simp)
              ·rw [if_neg c52] at H
               exact absurd H (by simp)
             ·rw [if_neg c51] at H
              exact absurd H (by simp)
           ·rw [if_neg c21] at H
            have c21b0 : (a5 == 0) = false := beq_eq_false_iff_ne.mpr c21
            have c21b1 : (a5 != 0) = true := bne_iff_ne.mpr c21
            replace H := Option.bind_eq_some_iff.mp H
            obtain ⟨t641066, A770, H⟩ := H
            replace H : ((impl_reversed.f k y641013).bind fun t641069 => (if a5 = 1 then (if a1 ≤ (l0.length : Int) then (if 0 ≤ a2 then (if a2 ≤ a3 then (if a3 ≤ (l0.length : Int) then (if 0 ≤ a4 then ((slices_Concat_int64_int64.f (([(l0.take (a1 : Int).toNat), t641066, ((l0.take (a3 : Int).toNat).drop (a2 : Int).toNat), t641069, (l0.drop (a4 : Int).toNat)] : List (List Int)))).bind fun t641090 => ((impl_normal.f t641090).bind fun t641093 => (some (t641093, 0)))) else (none)) else (none)) else (none)) else (none)) else (none)) else (if a1 ≤ (l0.length : Int) then (if 0 ≤ a2 then (if a2 ≤ a3 then (if a3 ≤ (l0.length : Int) then (if 0 ≤ a4 then ((slices_Concat_int64_int64.f (([(l0.take (a1 : Int).toNat), t641069, ((l0.take (a3 : Int).toNat).drop (a2 : Int).toNat), t641066, (l0.drop (a4 : Int).toNat)] : List (List Int)))).bind fun t641114 => ((impl_normal.f t641114).bind fun t641117 => (some (t641117, 0)))) else (none)) else (none)) else (none)) else (none)) else (none)))) = some (r1, r2) := H
            have A77 := Aside0.mk A770
            clear A770
            replace H := Option.bind_eq_some_iff.mp H
            obtain ⟨t641069, A780, H⟩ := H
            replace H : (if a5 = 1 then (if a1 ≤ (l0.length : Int) then (if 0 ≤ a2 then (if a2 ≤ a3 then (if a3 ≤ (l0.length : Int) then (if 0 ≤ a4 then ((slices_Concat_int64_int64.f (([(l0.take (a1 : Int).toNat), t641066, ((l0.take (a3 : Int).toNat).drop (a2 : Int).toNat), t641069, (l0.drop (a4 : Int).toNat)] : List (List Int)))).bind fun t641090 => ((impl_normal.f t641090).bind fun t641093 => (some (t641093, 0)))) else (none)) else (none)) else (none)) else (none)) else (none)) else (if a1 ≤ (l0.length : Int) then (if 0 ≤ a2 then (if a2 ≤ a3 then (if a3 ≤ (l0.length : Int) then (if 0 ≤ a4 then ((slices_Concat_int64_int64.f (([(l0.take (a1 : Int).toNat), t641069, ((l0.take (a3 : Int).toNat).drop (a2 : Int).toNat), t641066, (l0.drop (a4 : Int).toNat)] : List (List Int)))).bind fun t641114 => ((impl_normal.f t641114).bind fun t641117 => (some (t641117, 0)))) else (none)) else (none)) else (none)) else (none)) else (none))) = some (r1, r2) := H
            have A78 := Aside0.mk A780
            clear A780
            by_cases c79 : a5 = 1
            ·rw [if_pos c79] at H
             have c79b0 : (a5 == 1) = true := beq_iff_eq.mpr c79
             have c79b1 : (a5 != 1) = false := bne_eq_false_iff_eq.mpr c79
             clear c79
             have c80b0 := eq_true (of_decide_eq_true (by first | (with_reducible assumption) | assumption) : 0 ≤ a1)
             by_cases c81 : a1 ≤ (l0.length : Int)
             ·rw [if_pos c81] at H
              have c81b0 := eq_true c81
              have c81b1 : decide (a1 ≤ (l0.length : Int)) = true := decide_eq_true c81
              clear c81
              obtain ⟨y641072, hy641072⟩ : ∃ y_ : List Int, y_ = (l0.take (a1 : Int).toNat) := ⟨_, rfl⟩
              replace H : (if 0 ≤ a2 then (if a2 ≤ a3 then (if a3 ≤ (l0.length : Int) then (if 0 ≤ a4 then ((slices_Concat_int64_int64.f (([y641072, t641066, ((l0.take (a3 : Int).toNat).drop (a2 : Int).toNat), t641069, (l0.drop (a4 : Int).toNat)] : List (List Int)))).bind fun t641090 => ((impl_normal.f t641090).bind fun t641093 => (some (t641093, 0)))) else (none)) else (none)) else (none)) else (none)) = some (r1, r2) := by first | (rw [hy641072]; with_reducible exact H) | (have H2_ := (Option.bind_some _ _).symm.trans H; rw [hy641072]; with_reducible exact H2_) | (have H2_ := (Option.bind_some _ _).symm.trans H; with_reducible exact H2_) | with_reducible exact H | (rw [hy641072]; exact H) | exact H
              have Ny641072 := Aside0.mk hy641072
              clear hy641072
              by_cases c82 : 0 ≤ a2
              ·rw [if_pos c82] at H
               have c82b0 := eq_true c82
               have c82b1 : decide (0 ≤ a2) = true := decide_eq_true c82
               clear c82
               by_cases c83 : a2 ≤ a3
               ·rw [if_pos c83] at H
                have c83b0 := eq_true c83
                have c83b1 : decide (a2 ≤ a3) = true := decide_eq_true c83
                clear c83
                by_cases c84 : a3 ≤ (l0.length : Int)
                ·rw [if_pos c84] at H
                 have c84b0 := eq_true c84
                 have c84b1 : decide (a3 ≤ (l0.length : Int)) = true := decide_eq_true c84
                 clear c84
                 obtain ⟨y641077, hy641077⟩ : ∃ y_ : List Int, y_ = ((l0.take (a3 : Int).toNat).drop (a2 : Int).toNat) := ⟨_, rfl⟩
                 replace H : (if 0 ≤ a4 then ((slices_Concat_int64_int64.f (([y641072, t641066, y641077, t641069, (l0.drop (a4 : Int).toNat)] : List (List Int)))).bind fun t641090 => ((impl_normal.f t641090).bind fun t641093 => (some (t641093, 0)))) else (none)) = some (r1, r2) := by first | (rw [hy641077]; with_reducible exact H) | (have H2_ := (Option.bind_some _ _).symm.trans H; rw [hy641077]; with_reducible exact H2_) | (have H2_ := (Option.bind_some _ _).symm.trans H; with_reducible exact H2_) | with_reducible exact H | (rw [hy641077]; exact H) | exact H
                 have Ny641077 := Aside0.mk hy641077
                 clear hy641077
                 by_cases c85 : 0 ≤ a4
                 ·rw [if_pos c85] at H
                  have c85b0 := eq_true c85
                  have c85b1 : decide (0 ≤ a4) = true := decide_eq_true c85
                  clear c85
                  have c86b0 := eq_true (of_decide_eq_true (by first | (with_reducible assumption) | assumption) : a4 ≤ (l0.length : Int))
                  obtain ⟨y641082, hy641082⟩ : ∃ y_ : List Int, y_ = (l0.drop (a4 : Int).toNat) := ⟨_, rfl⟩
                  replace H : ((slices_Concat_int64_int64.f (([y641072, t641066, y641077, t641069, y641082] : List (List Int)))).bind fun t641090 => ((impl_normal.f t641090).bind fun t641093 => (some (t641093, 0)))) = some (r1, r2) := by first | (rw [hy641082]; with_reducible exact H) | (have H2_ := (Option.bind_some _ _).symm.trans H; rw [hy641082]; with_reducible exact H2_) | (have H2_ := (Option.bind_some _ _).symm.trans H; with_reducible exact H2_) | with_reducible exact H | (rw [hy641082]; exact H) | exact H
                  have Ny641082 := Aside0.mk hy641082
                  clear hy641082
                  obtain ⟨y641087, hy641087⟩ : ∃ y_ : List (List Int), y_ = (([y641072, t641066, y641077, t641069, y641082] : List (List Int))) := ⟨_, rfl⟩
                  replace H : ((slices_Concat_int64_int64.f y641087).bind fun t641090 => ((impl_normal.f t641090).bind fun t641093 => (some (t641093, 0)))) = some (r1, r2) := by first | (rw [hy641087]; with_reducible exact H) | (have H2_ := (Option.bind_some _ _).symm.trans H; rw [hy641087]; with_reducible exact H2_) | (have H2_ := (Option.bind_some _ _).symm.trans H; with_reducible exact H2_) | with_reducible exact H | (rw [hy641087]; exact H) | exact H
                  have Ny641087 := Aside0.mk hy641087
                  clear hy641087
                  replace H := Option.bind_eq_some_iff.mp H
                  obtain ⟨t641090, A870, H⟩ := H
                  replace H : ((impl_normal.f t641090).bind fun t641093 => (some (t641093, 0))) = some (r1, r2) := H
                  have A87 := Aside0.mk A870
                  clear A870
                  replace H := Option.bind_eq_some_iff.mp H
                  obtain ⟨t641093, A880, H⟩ := H
                  replace H : (some (t641093, 0)) = some (r1, r2) := H
                  have A88 := Aside0.mk A880
                  clear A880
                  simp only [Option.some.injEq, Prod.mk.injEq] at H
                  obtain ⟨rfl, rfl⟩ := H
                  go_enter Try.func64, Try.ntmps64
                  try go_wp2_with (first | ((with_reducible refine gate_callee (f := 84) rfl ?_); refine goesL_ (some 18) rfl rfl Try.func84 (by kernel_rfl) rfl #[.slice A0 l0.length c0] rfl (by (try simp only [List.map_toArray, List.map_cons, List.map_nil]); first | done | rfl | (simp only [List.length_drop, List.length_take]; rfl)) ?_; (with_reducible refine (impl_IsWord.calls k _ _ l0 true _ ?side1 ?side2 A7.out).mono ?_); (case side1 => repeat (first | exact (Kd.V_reads' HO0.out).2.2 | (with_reducible refine Kd.C_alloc ?_ _) | (with_reducible refine Kd.C_drewN ?_ _) | (with_reducible refine Kd.C_drew ?_))); (case side2 => exact (Kd.V_reads' HO0.out).2.1); rintro e w89 ⟨rfl, hb⟩; refine ⟨_, rfl, ?_⟩; have n0_ := Aside0.mk (Kd.V_below (by (with_reducible repeat (first | apply Kd.V_alloc | apply Kd.V_drewN | apply Kd.V_drew)); exact HO0.out) hb); have n1_ := Aside0.mk (below_step (by repeat (first | (with_reducible first | exact HB.out | apply below_alloc | apply pw_below_drewN | apply below_drew1) | exact HB.out)) hb); clear HO0; clear HB; have HO0 := n0_; have HB := n1_; clear n0_ n1_; (try clear hb); (try clear hb2); (try clear hk); (try clear hi)) | ((with_reducible refine gate_dst (N := 26) rfl ?_); refine Kd.R_lit (Kd.int .i64) _ 2 ?hg (N := 26) ?hd (xs := ([a1, a2, a3, a4] : List Int)) (inner := [.int .i64 a1, .int .i64 a2, .int .i64 a3, .int .i64 a4]) (ok := fun _ => True) (okp := fun _ => True) ?hr ?hp (fun _ hk => hk) trivial (Below.refl _ _) (Nat.le_refl _) (by simp) ?_; (case hd => rfl); (case hg => rfl); (case hr => first | (go_simp; done) | (go_simp; rfl)); (case hp => exact (Reps.one (show Kd.M (Kd.int .i64) _ _ _ a1 [.int .i64 a1] from rfl) (Reps.one (show Kd.M (Kd.int .i64) _ _ _ a2 [.int .i64 a2] from rfl) (Reps.one (show Kd.M (Kd.int .i64) _ _ _ a3 [.int .i64 a3] from rfl) (Reps.one (show Kd.M (Kd.int .i64) _ _ _ a4 [.int .i64 a4] from rfl) (Reps.none _ _)))))); intro v641003 w90 ho91 hb hg_ hnew_; clear hg_ hnew_; (first | rw [← Ny641002.out] at ho91 | (simp only [Int.reduceToNat] at ho91; rw [← Ny641002.out] at ho91)); have n0_ := Aside0.mk (Kd.V_elder' (by (with_reducible repeat (first | apply Kd.V_alloc | apply Kd.V_drewN | apply Kd.V_drew)); exact HO0.out) (Kd.R_base ho91) hb); have n1_ := Aside0.mk (Kd.R_lower (Kd.R_newM (M := fun k_ => (w.heap.size ≤ k_)) ho91 (below_size (by repeat (first | (with_reducible first | exact HB.out | apply below_alloc | apply pw_below_drewN | apply below_drew1) | exact HB.out))) (fun k_ h_ => h_)) (below_size (by repeat (first | (with_reducible first | exact HB.out | apply below_alloc | apply pw_below_drewN | apply below_drew1) | exact HB.out)))); have n2_ := Aside0.mk (below_step (by repeat (first | (with_reducible first | exact HB.out | apply below_alloc | apply pw_below_drewN | apply below_drew1) | exact HB.out)) hb); clear HO0; clear HB; have HO0 := n0_; have HO641004 := n1_; have HB := n2_; clear n0_ n1_ n2_; clear hb ho91; obtain ⟨Ao92, co92, eo92⟩ := Kd.R_slice HO641004.out; subst eo92) | ((with_reducible refine gate_callee (f := 88) rfl ?_); refine goesL_ (some 27) rfl rfl Try.func88 (by kernel_rfl) rfl #[.slice A0 l0.length c0, .slice Ao92 y641002.length co92] rfl (by (try simp only [List.map_toArray, List.map_cons, List.map_nil]); first | done | rfl | (simp only [List.length_drop, List.length_take]; rfl)) ?_; (with_reducible refine (impl_placesOk.calls k _ _ l0 _ _ y641002 true _ ?side1 ?side2 ?side3 ?side4 A9.out).mono ?_); (case side1 => repeat (first | exact (Kd.V_reads' HO0.out).2.2 | (with_reducible refine Kd.C_alloc ?_ _) | (with_reducible refine Kd.C_drewN ?_ _) | (with_reducible refine Kd.C_drew ?_))); (case side2 => exact (Kd.V_reads' HO0.out).2.1); (case side3 => repeat (first | exact (Kd.R_reads' HO641004.out).2.2 | (with_reducible refine Kd.C_alloc ?_ _) | (with_reducible refine Kd.C_drewN ?_ _) | (with_reducible refine Kd.C_drew ?_))); (case side4 => exact (Kd.R_reads' HO641004.out).2.1); rintro e w' ⟨rfl, ⟨nd, rfl⟩⟩; refine ⟨_, rfl, ?_⟩) | (go_at_call 81; (with_reducible refine (impl_in.calls a5 0 2 true _ A11.out).mono ?_); rintro e w' ⟨rfl, ⟨nd, rfl⟩⟩) | ((with_reducible refine gate_callee (f := 89) rfl ?_); refine goesL_ (some 40) rfl rfl Try.func89 (by kernel_rfl) rfl #[.slice A0 l0.length c0, .int .i64 a1, .int .i64 a2, .int .i64 a3, .int .i64 a4] rfl (by (try simp only [List.map_toArray, List.map_cons, List.map_nil]); first | done | rfl | (simp only [List.length_drop, List.length_take]; rfl)) ?_; (with_reducible refine (impl_isShare.calls (fun k_ => ((P0_ k_ ∨ w.heap.size ≤ k_) ∧ some k_ ≠ (.slice Ao92 y641002.length co92 : Value).ownBlock)) _ _ l0 a1 a2 a3 a4 true _ ?side1 A13.out).mono ?_); (case side1 => exact HO0.out); rintro e w93 ⟨rfl, hb⟩; refine ⟨_, rfl, ?_⟩; have n0_ := Aside0.mk (Kd.V_below (by (with_reducible repeat (first | apply Kd.V_alloc | apply Kd.V_drewN | apply Kd.V_drew)); exact HO0.out) hb); have n1_ := Aside0.mk (Kd.R_below (by (with_reducible repeat (first | apply Kd.R_alloc | apply Kd.R_drewN | apply Kd.R_drew)); exact HO641004.out) hb); have n2_ := Aside0.mk (below_step (by repeat (first | (with_reducible first | exact HB.out | apply below_alloc | apply pw_below_drewN | apply below_drew1) | exact HB.out)) hb); clear HO0; clear HO641004; clear HB; have HO0 := n0_; have HO641004 := n1_; have HB := n2_; clear n0_ n1_ n2_; (try clear hb); (try clear hb2); (try clear hk); (try clear hi)))
                  have n0_ := Aside0.mk (Kd.V_drew HO0.out)
                  have n1_ := Aside0.mk (Kd.R_drew HO641004.out)
                  have n2_ := Aside0.mk (below_drew1 HB.out)
                  clear HO0
                  clear HO641004
                  clear HB
                  have HO0 := n0_
                  have HO641004 := n1_
                  have HB := n2_
                  clear n0_ n1_ n2_
                  have q95 : (a2 : Int) ≤ ((l0.length : Int) : Int) := of_decide_eq_true (by first | (with_reducible assumption) | assumption)
                  obtain ⟨i095, hi095, _, hsz95, _⟩ := info_parts info2
                  have hroom95 : l0.length ≤ c0 := (Kd.V_reads' HO0.out).2.1
                  have hC95 : Kd.F (Kd.int .i64) _ _ A0 l0.length l0 := (Kd.V_at (base := w.heap.size) HO0.out).2.2
                  have ql95 : (a1 : Int) ≤ (a2 : Int) := of_decide_eq_true (by first | (with_reducible assumption) | assumption)
                  have q095 : (0 : Int) ≤ (a1 : Int) := of_decide_eq_true (by first | (with_reducible assumption) | assumption)
                  have hcut95 := cut_mid (P := Try.prog) 22 2 .i64 .i64 Try.underlying22 hi095 1 hsz95 A0 l0.length c0 a1 a2 q095 ql95 q95 hroom95
                  have hr95 := Kd.F_mid (lo := (a1 : Int).toNat) (hi := (a2 : Int).toNat) (c := c0) hC95 (by omega) (by omega) hroom95
                  obtain ⟨A95, hA95⟩ : ∃ A1, A1 = (if c0 = (a1 : Int).toNat then A0 else (A0 : Option Addr).map (·.add ((a1 : Int).toNat * 1))) := ⟨_, rfl⟩
                  obtain ⟨c95, hc95⟩ : ∃ c1, c1 = c0 - (a1 : Int).toNat := ⟨_, rfl⟩
                  have hy95 : y641008.length = (a2 : Int).toNat - (a1 : Int).toNat := (by rw [Ny641008.out, List.length_drop, List.length_take] <;> omega)
                  rw [show ((l0).take (a2 : Int).toNat).drop (a1 : Int).toNat = y641008 from Ny641008.out.symm] at hr95
                  replace hr95 : Kd.F (Kd.int .i64) _ _ A95 y641008.length y641008 := (by rw [hA95]; exact hr95)
                  rw [← hy95, ← hA95, ← hc95] at hcut95
                  have HO641012 := Aside0.mk (show Kd.V (Kd.int .i64) 2 _ w.heap.size _ (.slice A95 y641008.length c95) y641008 from Kd.V_mk (by rw [hy95, hc95]; exact Nat.sub_le_sub_right (Nat.le_trans (by omega) hroom95) _) hr95)
                  have HC641012 := Aside0.mk (show y641008.length ≤ c95 from by rw [hy95, hc95]; exact Nat.sub_le_sub_right (Nat.le_trans (by omega) hroom95) _)
                  clear hr95 hC95 hroom95 hi095 hsz95 hc95
                  have KY95 := Aside0.mk hy95
                  have KA95 := Aside0.mk hA95
                  clear hy95 hA95
                  replace q95 := eq_true q95
                  have q96 : (a4 : Int) ≤ ((l0.length : Int) : Int) := of_decide_eq_true (by first | (with_reducible assumption) | assumption)
                  obtain ⟨i096, hi096, _, hsz96, _⟩ := info_parts info2
                  have hroom96 : l0.length ≤ c0 := (Kd.V_reads' HO0.out).2.1
                  have hC96 : Kd.F (Kd.int .i64) _ _ A0 l0.length l0 := (Kd.V_at (base := w.heap.size) HO0.out).2.2
                  have ql96 : (a3 : Int) ≤ (a4 : Int) := of_decide_eq_true (by first | (with_reducible assumption) | assumption)
                  have q096 : (0 : Int) ≤ (a3 : Int) := of_decide_eq_true (by first | (with_reducible assumption) | assumption)
                  have hcut96 := cut_mid (P := Try.prog) 22 2 .i64 .i64 Try.underlying22 hi096 1 hsz96 A0 l0.length c0 a3 a4 q096 ql96 q96 hroom96
                  have hr96 := Kd.F_mid (lo := (a3 : Int).toNat) (hi := (a4 : Int).toNat) (c := c0) hC96 (by omega) (by omega) hroom96
                  obtain ⟨A96, hA96⟩ : ∃ A1, A1 = (if c0 = (a3 : Int).toNat then A0 else (A0 : Option Addr).map (·.add ((a3 : Int).toNat * 1))) := ⟨_, rfl⟩
                  obtain ⟨c96, hc96⟩ : ∃ c1, c1 = c0 - (a3 : Int).toNat := ⟨_, rfl⟩
                  have hy96 : y641013.length = (a4 : Int).toNat - (a3 : Int).toNat := (by rw [Ny641013.out, List.length_drop, List.length_take] <;> omega)
                  rw [show ((l0).take (a4 : Int).toNat).drop (a3 : Int).toNat = y641013 from Ny641013.out.symm] at hr96
                  replace hr96 : Kd.F (Kd.int .i64) _ _ A96 y641013.length y641013 := (by rw [hA96]; exact hr96)
                  rw [← hy96, ← hA96, ← hc96] at hcut96
                  have HO641017 := Aside0.mk (show Kd.V (Kd.int .i64) 2 _ w.heap.size _ (.slice A96 y641013.length c96) y641013 from Kd.V_mk (by rw [hy96, hc96]; exact Nat.sub_le_sub_right (Nat.le_trans (by omega) hroom96) _) hr96)
                  have HC641017 := Aside0.mk (show y641013.length ≤ c96 from by rw [hy96, hc96]; exact Nat.sub_le_sub_right (Nat.le_trans (by omega) hroom96) _)
                  clear hr96 hC96 hroom96 hi096 hsz96 hc96
                  have KY96 := Aside0.mk hy96
                  have KA96 := Aside0.mk hA96
                  clear hy96 hA96
                  replace q96 := eq_true q96
                  refine start_ (n := 10) (S := fun w' => True) (ds := []) #[false, false, false, false, false, false, false, false, false, false] (by kernel_rfl) rfl rfl trivial (fun hHeld => ?_); refine with_tabW impl_MutateWord.tab7 impl_MutateWord.bits7 (fun HT_ HW_ => ?_)
                  generalize w93.drew = w94 at HO0 HO641004 HB HO641012 HO641017 hHeld ⊢
                  refine pure_ (i := 0) (N := some 42) (v := ?_) (a' := ?_) #[true, false, false, false, false, false, false, false, false, false] rfl rfl (any_of HT_.out (by kernel_rfl)) (fun _ _ _ h => h) (Or.inl ⟨by rfl, ?_⟩) ?_ ?_
                  rotate_left
                  ·intro w'
                   go_simp
                   with_reducible rfl
                  rotate_left
                  ·simp only [Act.put, List.setIfInBounds_toArray, List.set_cons_zero, List.set_cons_succ, i64_w, i32_w]
                   rfl
                  refine pure_ (i := 1) (N := some 43) (v := ?_) (a' := ?_) #[true, true, false, false, false, false, false, false, false, false] rfl rfl (any_of HT_.out (by kernel_rfl)) (fun _ _ _ h => h) (Or.inl ⟨by rfl, ?_⟩) ?_ ?_
                  rotate_left
                  ·intro w'
                   go_simp
                   with_reducible rfl
                  rotate_left
                  ·simp only [Act.put, List.setIfInBounds_toArray, List.set_cons_zero, List.set_cons_succ, i64_w, i32_w]
                   rfl
                  refine pure_ (i := 2) (N := some 44) (v := ?_) (a' := ?_) #[true, true, true, false, false, false, false, false, false, false] rfl rfl (any_of HT_.out (by kernel_rfl)) (fun _ _ _ h => h) (Or.inl ⟨by rfl, ?_⟩) ?_ ?_
                  rotate_left
                  ·intro w'
                   go_simp
                   with_reducible rfl
                  rotate_left
                  ·simp only [Act.put, List.setIfInBounds_toArray, List.set_cons_zero, List.set_cons_succ, i64_w, i32_w]
                   rfl
                  refine pure_ (i := 3) (N := some 45) (v := ?_) (a' := ?_) #[true, true, true, true, false, false, false, false, false, false] rfl rfl (any_of HT_.out (by kernel_rfl)) (fun _ _ _ h => h) (Or.inl ⟨by rfl, ?_⟩) ?_ ?_
                  rotate_left
                  ·intro w'
                   go_simp
                   with_reducible rfl
                  rotate_left
                  ·simp only [Act.put, List.setIfInBounds_toArray, List.set_cons_zero, List.set_cons_succ, i64_w, i32_w]
                   rfl
                  refine pure_ (i := 4) (N := some 46) (v := ?_) (a' := ?_) #[true, true, true, true, true, false, false, false, false, false] rfl rfl (any_of HT_.out (by kernel_rfl)) (fun _ _ _ h => h) (Or.inl ⟨by rfl, ?_⟩) ?_ ?_
                  rotate_left
                  ·intro w'
                   go_simp
                   with_reducible rfl
                  rotate_left
                  ·simp only [Act.put, List.setIfInBounds_toArray, List.set_cons_zero, List.set_cons_succ, i64_w, i32_w]
                   rfl
                  refine pure_ (i := 5) (N := some 47) (v := ?_) (a' := ?_) #[true, true, true, true, true, true, false, false, false, false] rfl rfl (any_of HT_.out (by kernel_rfl)) (fun _ _ _ h => h) (Or.inl ⟨by rfl, ?_⟩) ?_ ?_
                  rotate_left
                  ·intro w'
                   go_simp
                   with_reducible rfl
                  rotate_left
                  ·simp only [Act.put, List.setIfInBounds_toArray, List.set_cons_zero, List.set_cons_succ, i64_w, i32_w]
                   rfl
                  refine pure_ (i := 6) (N := some 48) (v := ?_) (a' := ?_) #[true, true, true, true, true, true, true, false, false, false] rfl rfl (any_of HT_.out (by kernel_rfl)) (fun _ _ _ h => h) (Or.inl ⟨by rfl, ?_⟩) ?_ ?_
                  rotate_left
                  ·intro w'
                   go_simp
                   with_reducible rfl
                  rotate_left
                  ·simp only [Act.put, List.setIfInBounds_toArray, List.set_cons_zero, List.set_cons_succ, i64_w, i32_w]
                   rfl
                  refine pure_ (i := 7) (N := some 49) (v := ?_) (a' := ?_) #[true, true, true, true, true, true, true, true, false, false] rfl rfl (any_of HT_.out (by kernel_rfl)) (fun _ _ _ h => h) (Or.inl ⟨by rfl, ?_⟩) ?_ ?_
                  rotate_left
                  ·intro w'
                   go_simp
                   with_reducible rfl
                  rotate_left
                  ·simp only [Act.put, List.setIfInBounds_toArray, List.set_cons_zero, List.set_cons_succ, i64_w, i32_w]
                   rfl
                  refine pure_ (i := 8) (N := some 14) (v := ?_) (a' := ?_) #[true, true, true, true, true, true, true, true, true, false] rfl rfl (any_of HT_.out (by kernel_rfl)) (fun _ _ _ h => h) (Or.inl ⟨by rfl, ?_⟩) ?_ ?_
                  rotate_left
                  ·intro w'
                   go_simp
                   with_reducible rfl
                  rotate_left
                  ·simp only [Act.put, List.setIfInBounds_toArray, List.set_cons_zero, List.set_cons_succ, i64_w, i32_w]
                   rfl
                  refine pure_ (i := 9) (N := some 15) (v := ?_) (a' := ?_) #[true, true, true, true, true, true, true, true, true, true] rfl rfl (any_of HT_.out (by kernel_rfl)) (fun _ _ _ h => h) (Or.inl ⟨by rfl, ?_⟩) ?_ ?_
                  rotate_left
                  ·intro w'
                   go_simp
                   with_reducible rfl
                  rotate_left
                  ·simp only [Act.put, List.setIfInBounds_toArray, List.set_cons_zero, List.set_cons_succ, i64_w, i32_w]
                   rfl
                  refine done_ (done_of HT_.out (by kernel_rfl)) ?_
                  try go_wp2_with (first | ((with_reducible refine gate_callee (f := 107) rfl ?_); refine goesL_ (some 53) rfl rfl Try.func107 (by kernel_rfl) rfl #[.slice A95 y641008.length c95] rfl (by (try simp only [List.map_toArray, List.map_cons, List.map_nil]); first | done | rfl | (simp only [List.length_drop, List.length_take]; rfl)) ?_; (with_reducible refine (impl_reversed.calls k _ _ y641008 t641066 _ ?side1 ?side2 A77.out).mono ?_); (case side1 => repeat (first | exact (Kd.V_reads' HO641012.out).2.2 | (with_reducible refine Kd.C_alloc ?_ _) | (with_reducible refine Kd.C_drewN ?_ _) | (with_reducible refine Kd.C_drew ?_))); (case side2 => exact (Kd.V_reads' HO641012.out).2.1); rintro e w97 ⟨v641067, rfl, ho0, hb⟩; refine ⟨_, rfl, ?_⟩; have n0_ := Aside0.mk (Kd.V_elder' (by (with_reducible repeat (first | apply Kd.V_alloc | apply Kd.V_drewN | apply Kd.V_drew)); exact HO0.out) (Kd.R_base ho0) hb); have n1_ := Aside0.mk (Kd.R_elder' (by (with_reducible repeat (first | apply Kd.R_alloc | apply Kd.R_drewN | apply Kd.R_drew)); exact HO641004.out) (Kd.R_base ho0) hb); have n2_ := Aside0.mk (Kd.V_elder' (by (with_reducible repeat (first | apply Kd.V_alloc | apply Kd.V_drewN | apply Kd.V_drew)); exact HO641012.out) (Kd.R_base ho0) hb); have n3_ := Aside0.mk (Kd.V_elder' (by (with_reducible repeat (first | apply Kd.V_alloc | apply Kd.V_drewN | apply Kd.V_drew)); exact HO641017.out) (Kd.R_base ho0) hb); have n4_ := Aside0.mk (Kd.R_lower (Kd.R_new' (Kd.R_newM (M := fun k_ => (w.heap.size ≤ k_)) ho0 (below_size (by repeat (first | (with_reducible first | exact HB.out | apply below_alloc | apply pw_below_drewN | apply below_drew1) | exact HB.out))) (fun k_ h_ => h_)) (Kd.R_lt (by (with_reducible repeat (first | apply Kd.R_alloc | apply Kd.R_drewN | apply Kd.R_drew)); exact HO641004.out))) (below_size (by repeat (first | (with_reducible first | exact HB.out | apply below_alloc | apply pw_below_drewN | apply below_drew1) | exact HB.out)))); have n5_ := Aside0.mk (below_step (by repeat (first | (with_reducible first | exact HB.out | apply below_alloc | apply pw_below_drewN | apply below_drew1) | exact HB.out)) hb); clear HO0; clear HO641004; clear HO641012; clear HO641017; clear HB; have HO0 := n0_; have HO641004 := n1_; have HO641012 := n2_; have HO641017 := n3_; have HO641068 := n4_; have HB := n5_; clear n0_ n1_ n2_ n3_ n4_ n5_; (try clear hb); (try clear hb2); (try clear hk); (try clear hi); (try clear ho0)) | ((with_reducible refine gate_callee (f := 107) rfl ?_); refine goesL_ (some 55) rfl rfl Try.func107 (by kernel_rfl) rfl #[.slice A96 y641013.length c96] rfl (by (try simp only [List.map_toArray, List.map_cons, List.map_nil]); first | done | rfl | (simp only [List.length_drop, List.length_take]; rfl)) ?_; (with_reducible refine (impl_reversed.calls k _ _ y641013 t641069 _ ?side1 ?side2 A78.out).mono ?_); (case side1 => repeat (first | exact (Kd.V_reads' HO641017.out).2.2 | (with_reducible refine Kd.C_alloc ?_ _) | (with_reducible refine Kd.C_drewN ?_ _) | (with_reducible refine Kd.C_drew ?_))); (case side2 => exact (Kd.V_reads' HO641017.out).2.1); rintro e w98 ⟨v641070, rfl, ho0, hb⟩; refine ⟨_, rfl, ?_⟩; have n0_ := Aside0.mk (Kd.V_elder' (by (with_reducible repeat (first | apply Kd.V_alloc | apply Kd.V_drewN | apply Kd.V_drew)); exact HO0.out) (Kd.R_base ho0) hb); have n1_ := Aside0.mk (Kd.R_elder' (by (with_reducible repeat (first | apply Kd.R_alloc | apply Kd.R_drewN | apply Kd.R_drew)); exact HO641004.out) (Kd.R_base ho0) hb); have n2_ := Aside0.mk (Kd.V_elder' (by (with_reducible repeat (first | apply Kd.V_alloc | apply Kd.V_drewN | apply Kd.V_drew)); exact HO641012.out) (Kd.R_base ho0) hb); have n3_ := Aside0.mk (Kd.V_elder' (by (with_reducible repeat (first | apply Kd.V_alloc | apply Kd.V_drewN | apply Kd.V_drew)); exact HO641017.out) (Kd.R_base ho0) hb); have n4_ := Aside0.mk (Kd.R_elder' (by (with_reducible repeat (first | apply Kd.R_alloc | apply Kd.R_drewN | apply Kd.R_drew)); exact HO641068.out) (Kd.R_base ho0) hb); have n5_ := Aside0.mk (Kd.R_lower (Kd.R_new' (Kd.R_new' (Kd.R_newM (M := fun k_ => (w.heap.size ≤ k_)) ho0 (below_size (by repeat (first | (with_reducible first | exact HB.out | apply below_alloc | apply pw_below_drewN | apply below_drew1) | exact HB.out))) (fun k_ h_ => h_)) (Kd.R_lt (by (with_reducible repeat (first | apply Kd.R_alloc | apply Kd.R_drewN | apply Kd.R_drew)); exact HO641004.out))) (Kd.R_lt (by (with_reducible repeat (first | apply Kd.R_alloc | apply Kd.R_drewN | apply Kd.R_drew)); exact HO641068.out))) (below_size (by repeat (first | (with_reducible first | exact HB.out | apply below_alloc | apply pw_below_drewN | apply below_drew1) | exact HB.out)))); have n6_ := Aside0.mk (below_step (by repeat (first | (with_reducible first | exact HB.out | apply below_alloc | apply pw_below_drewN | apply below_drew1) | exact HB.out)) hb); clear HO0; clear HO641004; clear HO641012; clear HO641017; clear HO641068; clear HB; have HO0 := n0_; have HO641004 := n1_; have HO641012 := n2_; have HO641017 := n3_; have HO641068 := n4_; have HO641071 := n5_; have HB := n6_; clear n0_ n1_ n2_ n3_ n4_ n5_ n6_; (try clear hb); (try clear hb2); (try clear hk); (try clear hi); (try clear ho0)))
                  have n0_ := Aside0.mk (Kd.V_drew HO0.out)
                  have n1_ := Aside0.mk (Kd.R_drew HO641004.out)
                  have n2_ := Aside0.mk (Kd.V_drew HO641012.out)
                  have n3_ := Aside0.mk (Kd.V_drew HO641017.out)
                  have n4_ := Aside0.mk (Kd.R_drew HO641068.out)
                  have n5_ := Aside0.mk (Kd.R_drew HO641071.out)
                  have n6_ := Aside0.mk (below_drew1 HB.out)
                  clear HO0
                  clear HO641004
                  clear HO641012
                  clear HO641017
                  clear HO641068
                  clear HO641071
                  clear HB
                  have HO0 := n0_
                  have HO641004 := n1_
                  have HO641012 := n2_
                  have HO641017 := n3_
                  have HO641068 := n4_
                  have HO641071 := n5_
                  have HB := n6_
                  clear n0_ n1_ n2_ n3_ n4_ n5_ n6_
                  have q100 : (a1 : Int) ≤ ((l0.length : Int) : Int) := of_decide_eq_true (by first | (with_reducible assumption) | assumption)
                  obtain ⟨i0100, hi0100, _, hsz100, _⟩ := info_parts info2
                  have hroom100 : l0.length ≤ c0 := (Kd.V_reads' HO0.out).2.1
                  have hC100 : Kd.F (Kd.int .i64) _ _ A0 l0.length l0 := (Kd.V_at (base := w.heap.size) HO0.out).2.2
                  have hcut100 := cut_to (P := Try.prog) 22 2 .i64 Try.underlying22 hi0100 A0 l0.length c0 a1 (of_decide_eq_true (by first | (with_reducible assumption) | assumption)) q100 hroom100
                  have hr100 := Kd.F_take (m := (a1 : Int).toNat) hC100 (by omega)
                  have hy100 : y641072.length = (a1 : Int).toNat := (by rw [Ny641072.out, List.length_take]; omega)
                  rw [← Ny641072.out] at hr100
                  rw [← hy100] at hcut100
                  have HO641076 := Aside0.mk (show Kd.V (Kd.int .i64) 2 _ w.heap.size _ (.slice A0 y641072.length c0) y641072 from Kd.V_mk (by omega) hr100)
                  have HC641076 := Aside0.mk (show y641072.length ≤ c0 from by omega)
                  clear hr100 hC100 hroom100 hi0100 hsz100
                  have KY100 := Aside0.mk hy100
                  clear hy100
                  replace q100 := eq_true q100
                  have q101 : (a3 : Int) ≤ ((l0.length : Int) : Int) := of_decide_eq_true (by first | (with_reducible assumption) | assumption)
                  obtain ⟨i0101, hi0101, _, hsz101, _⟩ := info_parts info2
                  have hroom101 : l0.length ≤ c0 := (Kd.V_reads' HO0.out).2.1
                  have hC101 : Kd.F (Kd.int .i64) _ _ A0 l0.length l0 := (Kd.V_at (base := w.heap.size) HO0.out).2.2
                  have ql101 : (a2 : Int) ≤ (a3 : Int) := of_decide_eq_true (by first | (with_reducible assumption) | assumption)
                  have q0101 : (0 : Int) ≤ (a2 : Int) := of_decide_eq_true (by first | (with_reducible assumption) | assumption)
                  have hcut101 := cut_mid (P := Try.prog) 22 2 .i64 .i64 Try.underlying22 hi0101 1 hsz101 A0 l0.length c0 a2 a3 q0101 ql101 q101 hroom101
                  have hr101 := Kd.F_mid (lo := (a2 : Int).toNat) (hi := (a3 : Int).toNat) (c := c0) hC101 (by omega) (by omega) hroom101
                  obtain ⟨A101, hA101⟩ : ∃ A1, A1 = (if c0 = (a2 : Int).toNat then A0 else (A0 : Option Addr).map (·.add ((a2 : Int).toNat * 1))) := ⟨_, rfl⟩
                  obtain ⟨c101, hc101⟩ : ∃ c1, c1 = c0 - (a2 : Int).toNat := ⟨_, rfl⟩
                  have hy101 : y641077.length = (a3 : Int).toNat - (a2 : Int).toNat := (by rw [Ny641077.out, List.length_drop, List.length_take] <;> omega)
                  rw [show ((l0).take (a3 : Int).toNat).drop (a2 : Int).toNat = y641077 from Ny641077.out.symm] at hr101
                  replace hr101 : Kd.F (Kd.int .i64) _ _ A101 y641077.length y641077 := (by rw [hA101]; exact hr101)
                  rw [← hy101, ← hA101, ← hc101] at hcut101
                  have HO641081 := Aside0.mk (show Kd.V (Kd.int .i64) 2 _ w.heap.size _ (.slice A101 y641077.length c101) y641077 from Kd.V_mk (by rw [hy101, hc101]; exact Nat.sub_le_sub_right (Nat.le_trans (by omega) hroom101) _) hr101)
                  have HC641081 := Aside0.mk (show y641077.length ≤ c101 from by rw [hy101, hc101]; exact Nat.sub_le_sub_right (Nat.le_trans (by omega) hroom101) _)
                  clear hr101 hC101 hroom101 hi0101 hsz101 hc101
                  have KY101 := Aside0.mk hy101
                  have KA101 := Aside0.mk hA101
                  clear hy101 hA101
                  replace q101 := eq_true q101
                  have q102 : (a4 : Int) ≤ ((l0.length : Int) : Int) := of_decide_eq_true (by first | (with_reducible assumption) | assumption)
                  obtain ⟨i0102, hi0102, _, hsz102, _⟩ := info_parts info2
                  have hroom102 : l0.length ≤ c0 := (Kd.V_reads' HO0.out).2.1
                  have hC102 : Kd.F (Kd.int .i64) _ _ A0 l0.length l0 := (Kd.V_at (base := w.heap.size) HO0.out).2.2
                  have q0102 : (0 : Int) ≤ (a4 : Int) := of_decide_eq_true (by first | (with_reducible assumption) | assumption)
                  have hcut102 := cut_from (P := Try.prog) 22 2 .i64 Try.underlying22 hi0102 1 hsz102 A0 l0.length c0 a4 q0102 q102
                  have hr102 := Kd.F_cut (m := (a4 : Int).toNat) (c := c0) hC102 (by omega) hroom102
                  obtain ⟨A102, hA102⟩ : ∃ A1, A1 = (if c0 = (a4 : Int).toNat then A0 else (A0 : Option Addr).map (·.add ((a4 : Int).toNat * 1))) := ⟨_, rfl⟩
                  obtain ⟨c102, hc102⟩ : ∃ c1, c1 = c0 - (a4 : Int).toNat := ⟨_, rfl⟩
                  have hy102 : y641082.length = l0.length - (a4 : Int).toNat := (by rw [Ny641082.out, List.length_drop] <;> omega)
                  rw [show (l0).drop (a4 : Int).toNat = y641082 from Ny641082.out.symm] at hr102
                  replace hr102 : Kd.F (Kd.int .i64) _ _ A102 y641082.length y641082 := (by rw [hA102]; exact hr102)
                  rw [← hy102, ← hA102, ← hc102] at hcut102
                  have HO641086 := Aside0.mk (show Kd.V (Kd.int .i64) 2 _ w.heap.size _ (.slice A102 y641082.length c102) y641082 from Kd.V_mk (by rw [hy102, hc102]; exact Nat.sub_le_sub_right hroom102 _) hr102)
                  have HC641086 := Aside0.mk (show y641082.length ≤ c102 from by rw [hy102, hc102]; exact Nat.sub_le_sub_right hroom102 _)
                  clear hr102 hC102 hroom102 hi0102 hsz102 hc102
                  have KY102 := Aside0.mk hy102
                  have KA102 := Aside0.mk hA102
                  clear hy102 hA102
                  replace q102 := eq_true q102
                  obtain ⟨Ao103, co103, eo103⟩ := Kd.R_slice HO641068.out
                  (first | subst eo103 | (injection eo103 with f1_ f2_ f3_; have f4_ := f1_.symm; have f5_ := f3_.symm; clear f1_ f2_ f3_; subst f4_; subst f5_))
                  obtain ⟨Ao104, co104, eo104⟩ := Kd.R_slice HO641071.out
                  (first | subst eo104 | (injection eo104 with f1_ f2_ f3_; have f4_ := f1_.symm; have f5_ := f3_.symm; clear f1_ f2_ f3_; subst f4_; subst f5_))
                  refine start_ (n := 17) (S := fun w' => True) (ds := []) #[false, false, false, false, false, false, false, false, false, false, false, false, false, false, false, false, false] (by kernel_rfl) rfl rfl trivial (fun hHeld => ?_); refine with_tabW impl_MutateWord.tab12 impl_MutateWord.bits12 (fun HT_ HW_ => ?_)
                  generalize w98.drew = w99 at HO0 HO641004 HO641012 HO641017 HO641068 HO641071 HB HO641076 HO641081 HO641086 hHeld ⊢
                  refine pure_ (i := 0) (N := some 60) (v := ?_) (a' := ?_) #[true, false, false, false, false, false, false, false, false, false, false, false, false, false, false, false, false] rfl rfl (any_of HT_.out (by kernel_rfl)) (fun _ _ _ h => h) (Or.inl ⟨by rfl, ?_⟩) ?_ ?_
                  rotate_left
                  ·intro w'
                   go_simp
                   with_reducible rfl
                  rotate_left
                  ·simp only [Act.put, List.setIfInBounds_toArray, List.set_cons_zero, List.set_cons_succ, i64_w, i32_w]
                   rfl
                  refine pure_ (i := 1) (N := some 61) (v := ?_) (a' := ?_) #[true, true, false, false, false, false, false, false, false, false, false, false, false, false, false, false, false] rfl rfl (any_of HT_.out (by kernel_rfl)) (fun _ _ _ h => h) (Or.inl ⟨by rfl, ?_⟩) ?_ ?_
                  rotate_left
                  ·intro w'
                   go_simp
                   with_reducible rfl
                  rotate_left
                  ·simp only [Act.put, List.setIfInBounds_toArray, List.set_cons_zero, List.set_cons_succ, i64_w, i32_w]
                   rfl
                  refine pure_ (i := 2) (N := some 62) (v := ?_) (a' := ?_) #[true, true, true, false, false, false, false, false, false, false, false, false, false, false, false, false, false] rfl rfl (any_of HT_.out (by kernel_rfl)) (fun _ _ _ h => h) (Or.inl ⟨by rfl, ?_⟩) ?_ ?_
                  rotate_left
                  ·intro w'
                   go_simp
                   with_reducible rfl
                  rotate_left
                  ·simp only [Act.put, List.setIfInBounds_toArray, List.set_cons_zero, List.set_cons_succ, i64_w, i32_w]
                   rfl
                  refine pure_ (i := 3) (N := some 63) (v := ?_) (a' := ?_) #[true, true, true, true, false, false, false, false, false, false, false, false, false, false, false, false, false] rfl rfl (any_of HT_.out (by kernel_rfl)) (fun _ _ _ h => h) (Or.inl ⟨by rfl, ?_⟩) ?_ ?_
                  rotate_left
                  ·intro w'
                   go_simp
                   with_reducible rfl
                  rotate_left
                  ·simp only [Act.put, List.setIfInBounds_toArray, List.set_cons_zero, List.set_cons_succ, i64_w, i32_w]
                   rfl
                  refine pure_ (i := 4) (N := some 64) (v := ?_) (a' := ?_) #[true, true, true, true, true, false, false, false, false, false, false, false, false, false, false, false, false] rfl rfl (any_of HT_.out (by kernel_rfl)) (fun _ _ _ h => h) (Or.inl ⟨by rfl, ?_⟩) ?_ ?_
                  rotate_left
                  ·intro w'
                   go_simp
                   with_reducible rfl
                  rotate_left
                  ·simp only [Act.put, List.setIfInBounds_toArray, List.set_cons_zero, List.set_cons_succ, i64_w, i32_w]
                   rfl
                  refine pure_ (i := 5) (N := some 65) (v := ?_) (a' := ?_) #[true, true, true, true, true, true, false, false, false, false, false, false, false, false, false, false, false] rfl rfl (any_of HT_.out (by kernel_rfl)) (fun _ _ _ h => h) (Or.inl ⟨by rfl, ?_⟩) ?_ ?_
                  rotate_left
                  ·intro w'
                   go_simp
                   with_reducible rfl
                  rotate_left
                  ·simp only [Act.put, List.setIfInBounds_toArray, List.set_cons_zero, List.set_cons_succ, i64_w, i32_w]
                   rfl
                  refine pure_ (i := 6) (N := some 66) (v := ?_) (a' := ?_) #[true, true, true, true, true, true, true, false, false, false, false, false, false, false, false, false, false] rfl rfl (any_of HT_.out (by kernel_rfl)) (fun _ _ _ h => h) (Or.inl ⟨by rfl, ?_⟩) ?_ ?_
                  rotate_left
                  ·intro w'
                   go_simp
                   with_reducible rfl
                  rotate_left
                  ·simp only [Act.put, List.setIfInBounds_toArray, List.set_cons_zero, List.set_cons_succ, i64_w, i32_w]
                   rfl
                  refine pure_ (i := 7) (N := some 67) (v := ?_) (a' := ?_) #[true, true, true, true, true, true, true, true, false, false, false, false, false, false, false, false, false] rfl rfl (any_of HT_.out (by kernel_rfl)) (fun _ _ _ h => h) (Or.inl ⟨by rfl, ?_⟩) ?_ ?_
                  rotate_left
                  ·intro w'
                   go_simp
                   with_reducible rfl
                  rotate_left
                  ·simp only [Act.put, List.setIfInBounds_toArray, List.set_cons_zero, List.set_cons_succ, i64_w, i32_w]
                   rfl
                  refine pure_ (i := 8) (N := some 68) (v := ?_) (a' := ?_) #[true, true, true, true, true, true, true, true, true, false, false, false, false, false, false, false, false] rfl rfl (any_of HT_.out (by kernel_rfl)) (fun _ _ _ h => h) (Or.inl ⟨by rfl, ?_⟩) ?_ ?_
                  rotate_left
                  ·intro w'
                   go_simp
                   with_reducible rfl
                  rotate_left
                  ·simp only [Act.put, List.setIfInBounds_toArray, List.set_cons_zero, List.set_cons_succ, i64_w, i32_w]
                   rfl
                  refine pure_ (i := 9) (N := some 69) (v := ?_) (a' := ?_) #[true, true, true, true, true, true, true, true, true, true, false, false, false, false, false, false, false] rfl rfl (any_of HT_.out (by kernel_rfl)) (fun _ _ _ h => h) (Or.inl ⟨by rfl, ?_⟩) ?_ ?_
                  rotate_left
                  ·intro w'
                   go_simp
                   with_reducible rfl
                  rotate_left
                  ·simp only [Act.put, List.setIfInBounds_toArray, List.set_cons_zero, List.set_cons_succ, i64_w, i32_w]
                   rfl
                  refine pure_ (i := 10) (N := some 70) (v := ?_) (a' := ?_) #[true, true, true, true, true, true, true, true, true, true, true, false, false, false, false, false, false] rfl rfl (any_of HT_.out (by kernel_rfl)) (fun _ _ _ h => h) (Or.inl ⟨by rfl, ?_⟩) ?_ ?_
                  rotate_left
                  ·intro w'
                   go_simp
                   with_reducible rfl
                  rotate_left
                  ·simp only [Act.put, List.setIfInBounds_toArray, List.set_cons_zero, List.set_cons_succ, i64_w, i32_w]
                   rfl
                  refine pure_ (i := 11) (N := some 71) (v := ?_) (a' := ?_) #[true, true, true, true, true, true, true, true, true, true, true, true, false, false, false, false, false] rfl rfl (any_of HT_.out (by kernel_rfl)) (fun _ _ _ h => h) (Or.inl ⟨by rfl, ?_⟩) ?_ ?_
                  rotate_left
                  ·intro w'
                   go_simp
                   with_reducible rfl
                  rotate_left
                  ·simp only [Act.put, List.setIfInBounds_toArray, List.set_cons_zero, List.set_cons_succ, i64_w, i32_w]
                   rfl
                  refine one_ (i := 12) (N := some 72) #[true, true, true, true, true, true, true, true, true, true, true, true, true, false, false, false, false] rfl rfl (one_of HT_.out (by kernel_rfl)) (by decide) (fun K hK => ?_)
                  refine Kd.N_lit_step (Kd.slice 2 (Kd.int .i64)) _ 22 ?hg (N' := 72) ?hd (xs := ([y641072, t641066, y641077, t641069, y641082] : List (List Int))) (inner := [.slice A0 y641072.length c0, .slice Ao103 t641066.length co103, .slice A101 y641077.length c101, .slice Ao104 t641069.length co104, .slice A102 y641082.length c102]) (ok := (fun k_ => (P0_ k_ ∨ w.heap.size ≤ k_) ∧ some k_ ≠ (.slice Ao92 y641002.length co92 : Value).ownBlock)) (okp := (fun k_ => (P0_ k_ ∨ w.heap.size ≤ k_) ∧ some k_ ≠ (.slice Ao92 y641002.length co92 : Value).ownBlock)) ?hr ?hp (fun _ hk => hk) ((show ∀ k_, w99.heap.size ≤ k_ → (fun k_ => (P0_ k_ ∨ w.heap.size ≤ k_) ∧ some k_ ≠ (.slice Ao92 y641002.length co92 : Value).ownBlock) k_ from fun k_ hk => ⟨(.inr (Nat.le_trans (below_size (by repeat (first | (with_reducible first | exact HB.out | apply below_alloc | apply pw_below_drewN | apply below_drew1) | exact HB.out))) hk)), Kd.fresh' (Kd.R_lt (by (with_reducible repeat (first | apply Kd.R_alloc | apply Kd.R_drewN | apply Kd.R_drew)); exact HO641004.out)) k_ hk⟩) _ (Nat.le_refl _)) (Below.refl _ _) (Nat.le_refl _) (by simp) ?_; (case hd => rfl); (case hg => rfl); (case hr => first | (go_simp; done) | (go_simp; rfl)); (case hp => exact (Reps.one (show Kd.FK (Kd.slice 2 (Kd.int .i64)) _ _ y641072 [.slice A0 y641072.length c0] from (Kd.FK_slice_mk (Kd.V_reads' (Kd.V_mono (ok' := (fun k_ => (P0_ k_ ∨ w.heap.size ≤ k_) ∧ some k_ ≠ (.slice Ao92 y641002.length co92 : Value).ownBlock)) (HO641076.out) (fun k_ hk => ⟨hk.1.1.1, hk.1.1.2⟩))).2.1 (Kd.V_F (Kd.V_mono (ok' := (fun k_ => (P0_ k_ ∨ w.heap.size ≤ k_) ∧ some k_ ≠ (.slice Ao92 y641002.length co92 : Value).ownBlock)) (HO641076.out) (fun k_ hk => ⟨hk.1.1.1, hk.1.1.2⟩))))) (Reps.one (show Kd.FK (Kd.slice 2 (Kd.int .i64)) _ _ t641066 [.slice Ao103 t641066.length co103] from (Kd.FK_slice_mk (Kd.R_reads' (Kd.R_mono (ok' := (fun k_ => (P0_ k_ ∨ w.heap.size ≤ k_) ∧ some k_ ≠ (.slice Ao92 y641002.length co92 : Value).ownBlock)) (HO641068.out) (fun k_ hk => ⟨(.inr (hk.1.1.1)), hk.1.2⟩))).2.1 (Kd.R_F (Kd.R_mono (ok' := (fun k_ => (P0_ k_ ∨ w.heap.size ≤ k_) ∧ some k_ ≠ (.slice Ao92 y641002.length co92 : Value).ownBlock)) (HO641068.out) (fun k_ hk => ⟨(.inr (hk.1.1.1)), hk.1.2⟩))))) (Reps.one (show Kd.FK (Kd.slice 2 (Kd.int .i64)) _ _ y641077 [.slice A101 y641077.length c101] from (Kd.FK_slice_mk (Kd.V_reads' (Kd.V_mono (ok' := (fun k_ => (P0_ k_ ∨ w.heap.size ≤ k_) ∧ some k_ ≠ (.slice Ao92 y641002.length co92 : Value).ownBlock)) (HO641081.out) (fun k_ hk => ⟨hk.1.1.1, hk.1.1.2⟩))).2.1 (Kd.V_F (Kd.V_mono (ok' := (fun k_ => (P0_ k_ ∨ w.heap.size ≤ k_) ∧ some k_ ≠ (.slice Ao92 y641002.length co92 : Value).ownBlock)) (HO641081.out) (fun k_ hk => ⟨hk.1.1.1, hk.1.1.2⟩))))) (Reps.one (show Kd.FK (Kd.slice 2 (Kd.int .i64)) _ _ t641069 [.slice Ao104 t641069.length co104] from (Kd.FK_slice_mk (Kd.R_reads' (Kd.R_mono (ok' := (fun k_ => (P0_ k_ ∨ w.heap.size ≤ k_) ∧ some k_ ≠ (.slice Ao92 y641002.length co92 : Value).ownBlock)) (HO641071.out) (fun k_ hk => ⟨(.inr (hk.1.1.1)), hk.1.2⟩))).2.1 (Kd.R_F (Kd.R_mono (ok' := (fun k_ => (P0_ k_ ∨ w.heap.size ≤ k_) ∧ some k_ ≠ (.slice Ao92 y641002.length co92 : Value).ownBlock)) (HO641071.out) (fun k_ hk => ⟨(.inr (hk.1.1.1)), hk.1.2⟩))))) (Reps.one (show Kd.FK (Kd.slice 2 (Kd.int .i64)) _ _ y641082 [.slice A102 y641082.length c102] from (Kd.FK_slice_mk (Kd.V_reads' (Kd.V_mono (ok' := (fun k_ => (P0_ k_ ∨ w.heap.size ≤ k_) ∧ some k_ ≠ (.slice Ao92 y641002.length co92 : Value).ownBlock)) (HO641086.out) (fun k_ hk => ⟨hk.1.1.1, hk.1.1.2⟩))).2.1 (Kd.V_F (Kd.V_mono (ok' := (fun k_ => (P0_ k_ ∨ w.heap.size ≤ k_) ∧ some k_ ≠ (.slice Ao92 y641002.length co92 : Value).ownBlock)) (HO641086.out) (fun k_ hk => ⟨hk.1.1.1, hk.1.1.2⟩))))) (Reps.none _ _)))))))
                  intro v641088 w105 ho106 hb hg_ hnew_
                  clear hg_ hnew_
                  (first | rw [← Ny641087.out] at ho106 | (simp only [Int.reduceToNat] at ho106; rw [← Ny641087.out] at ho106))
                  have n0_ := Aside0.mk (Kd.V_elder' (by (with_reducible repeat (first | apply Kd.V_alloc | apply Kd.V_drewN | apply Kd.V_drew)); exact HO0.out) (Kd.N_base ho106) hb)
                  have n1_ := Aside0.mk (Kd.R_below (by (with_reducible repeat (first | apply Kd.R_alloc | apply Kd.R_drewN | apply Kd.R_drew)); exact HO641004.out) hb)
                  have n2_ := Aside0.mk (Kd.V_elder' (by (with_reducible repeat (first | apply Kd.V_alloc | apply Kd.V_drewN | apply Kd.V_drew)); exact HO641012.out) (Kd.N_base ho106) hb)
                  have n3_ := Aside0.mk (Kd.V_elder' (by (with_reducible repeat (first | apply Kd.V_alloc | apply Kd.V_drewN | apply Kd.V_drew)); exact HO641017.out) (Kd.N_base ho106) hb)
                  have n4_ := Aside0.mk (Kd.V_elder' (by (with_reducible repeat (first | apply Kd.V_alloc | apply Kd.V_drewN | apply Kd.V_drew)); exact HO641076.out) (Kd.N_base ho106) hb)
                  have n5_ := Aside0.mk (Kd.V_elder' (by (with_reducible repeat (first | apply Kd.V_alloc | apply Kd.V_drewN | apply Kd.V_drew)); exact HO641081.out) (Kd.N_base ho106) hb)
                  have n6_ := Aside0.mk (Kd.V_elder' (by (with_reducible repeat (first | apply Kd.V_alloc | apply Kd.V_drewN | apply Kd.V_drew)); exact HO641086.out) (Kd.N_base ho106) hb)
                  have n7_ := Aside0.mk (Kd.N_lower ho106 (below_size (by repeat (first | (with_reducible first | exact HB.out | apply below_alloc | apply pw_below_drewN | apply below_drew1) | exact HB.out))))
                  have n8_ := Aside0.mk (below_step (by repeat (first | (with_reducible first | exact HB.out | apply below_alloc | apply pw_below_drewN | apply below_drew1) | exact HB.out)) hb)
                  clear HO0
                  clear HO641004
                  clear HO641012
                  clear HO641017
                  clear HO641076
                  clear HO641081
                  clear HO641086
                  clear HB
                  clear HO641068
                  clear HO641071
                  have HO0 := n0_
                  have HO641004 := n1_
                  have HO641012 := n2_
                  have HO641017 := n3_
                  have HO641076 := n4_
                  have HO641081 := n5_
                  have HO641086 := n6_
                  have HO641089 := n7_
                  have HB := n8_
                  clear n0_ n1_ n2_ n3_ n4_ n5_ n6_ n7_ n8_
                  clear hb ho106
                  obtain ⟨Ao107, co107, eo107⟩ := Kd.N_slice HO641089.out
                  (first | subst eo107 | (injection eo107 with f1_ f2_ f3_; have f4_ := f1_.symm; have f5_ := f3_.symm; clear f1_ f2_ f3_; subst f4_; subst f5_))
                  refine hK.out _ _ trivial (fun hHeld => ?_)
                  clear hK K
                  refine norm_ (a' := ?_) ?_ ?_
                  rotate_left
                  ·show Act.put _ (some 72) _ = _
                   simp only [Act.put, List.setIfInBounds_toArray, List.set_cons_zero, List.set_cons_succ, i64_w, i32_w]
                   rfl
                  refine one_ (i := 13) (N := some 73) #[true, true, true, true, true, true, true, true, true, true, true, true, true, true, false, false, false] rfl rfl (one_of HT_.out (by kernel_rfl)) (by decide) (fun K hK => ?_)
                  refine goes_ Try.func106 (by kernel_rfl) rfl #[.slice Ao107 y641087.length co107] (by rfl) rfl rfl (by (try simp only [List.map_toArray, List.map_cons, List.map_nil]); first | done | rfl | (simp only [List.length_drop, List.length_take]; rfl)) ?_
                  with_reducible refine (slices_Concat_int64_int64.calls _ _ y641087 t641090 _ ?side1 ?side2 A87.out).mono ?_
                  (case side1 => repeat (first | exact (Kd.N_reads' HO641089.out).2.2 | (with_reducible refine Kd.C_alloc ?_ _) | (with_reducible refine Kd.C_drewN ?_ _) | (with_reducible refine Kd.C_drew ?_)))
                  (case side2 => exact (Kd.N_reads' HO641089.out).2.1)
                  rintro e w108 ⟨v641091, rfl, ho0, hb⟩
                  refine ⟨_, rfl, ?_⟩
                  have n0_ := Aside0.mk (Kd.V_elder' (by (with_reducible repeat (first | apply Kd.V_alloc | apply Kd.V_drewN | apply Kd.V_drew)); exact HO0.out) (Kd.R_base ho0) hb)
                  have n1_ := Aside0.mk (Kd.R_elder' (by (with_reducible repeat (first | apply Kd.R_alloc | apply Kd.R_drewN | apply Kd.R_drew)); exact HO641004.out) (Kd.R_base ho0) hb)
                  have n2_ := Aside0.mk (Kd.V_elder' (by (with_reducible repeat (first | apply Kd.V_alloc | apply Kd.V_drewN | apply Kd.V_drew)); exact HO641012.out) (Kd.R_base ho0) hb)
                  have n3_ := Aside0.mk (Kd.V_elder' (by (with_reducible repeat (first | apply Kd.V_alloc | apply Kd.V_drewN | apply Kd.V_drew)); exact HO641017.out) (Kd.R_base ho0) hb)
                  have n4_ := Aside0.mk (Kd.V_elder' (by (with_reducible repeat (first | apply Kd.V_alloc | apply Kd.V_drewN | apply Kd.V_drew)); exact HO641076.out) (Kd.R_base ho0) hb)
                  have n5_ := Aside0.mk (Kd.V_elder' (by (with_reducible repeat (first | apply Kd.V_alloc | apply Kd.V_drewN | apply Kd.V_drew)); exact HO641081.out) (Kd.R_base ho0) hb)
                  have n6_ := Aside0.mk (Kd.V_elder' (by (with_reducible repeat (first | apply Kd.V_alloc | apply Kd.V_drewN | apply Kd.V_drew)); exact HO641086.out) (Kd.R_base ho0) hb)
                  have n7_ := Aside0.mk (Kd.N_elder' (by (with_reducible repeat (first | apply Kd.N_alloc | apply Kd.N_drewN | apply Kd.N_drew)); exact HO641089.out) (Kd.R_base ho0) hb)
                  have n8_ := Aside0.mk (Kd.R_lower (Kd.R_new' (Kd.R_newM (M := fun k_ => (w.heap.size ≤ k_)) ho0 (below_size (by repeat (first | (with_reducible first | exact HB.out | apply below_alloc | apply pw_below_drewN | apply below_drew1) | exact HB.out))) (fun k_ h_ => h_)) (Kd.R_lt (by (with_reducible repeat (first | apply Kd.R_alloc | apply Kd.R_drewN | apply Kd.R_drew)); exact HO641004.out))) (below_size (by repeat (first | (with_reducible first | exact HB.out | apply below_alloc | apply pw_below_drewN | apply below_drew1) | exact HB.out))))
                  have n9_ := Aside0.mk (below_step (by repeat (first | (with_reducible first | exact HB.out | apply below_alloc | apply pw_below_drewN | apply below_drew1) | exact HB.out)) hb)
                  clear HO0
                  clear HO641004
                  clear HO641012
                  clear HO641017
                  clear HO641076
                  clear HO641081
                  clear HO641086
                  clear HO641089
                  clear HB
                  have HO0 := n0_
                  have HO641004 := n1_
                  have HO641012 := n2_
                  have HO641017 := n3_
                  have HO641076 := n4_
                  have HO641081 := n5_
                  have HO641086 := n6_
                  have HO641089 := n7_
                  have HO641092 := n8_
                  have HB := n9_
                  clear n0_ n1_ n2_ n3_ n4_ n5_ n6_ n7_ n8_ n9_
                  (try clear hb)
                  (try clear hb2)
                  (try clear hk)
                  (try clear hi)
                  (try clear ho0)
                  obtain ⟨Ao109, co109, eo109⟩ := Kd.R_slice HO641092.out
                  (first | subst eo109 | (injection eo109 with f1_ f2_ f3_; have f4_ := f1_.symm; have f5_ := f3_.symm; clear f1_ f2_ f3_; subst f4_; subst f5_))
                  refine hK.out _ _ trivial (fun hHeld => ?_)
                  clear hK K
                  refine norm_ (a' := ?_) ?_ ?_
                  rotate_left
                  ·show Act.put _ (some 73) _ = _
                   simp only [Act.put, List.setIfInBounds_toArray, List.set_cons_zero, List.set_cons_succ, i64_w, i32_w]
                   rfl
                  refine one_ (i := 14) (N := some 74) #[true, true, true, true, true, true, true, true, true, true, true, true, true, true, true, false, false] rfl rfl (one_of HT_.out (by kernel_rfl)) (by decide) (fun K hK => ?_)
                  refine goes_ Try.func105 (by kernel_rfl) rfl #[.slice Ao109 t641090.length co109] (by rfl) rfl rfl (by (try simp only [List.map_toArray, List.map_cons, List.map_nil]); first | done | rfl | (simp only [List.length_drop, List.length_take]; rfl)) ?_
                  with_reducible refine (impl_normal.calls _ _ t641090 t641093 _ ?side1 ?side2 A88.out).mono ?_
                  (case side1 => repeat (first | exact (Kd.R_reads' HO641092.out).2.2 | (with_reducible refine Kd.C_alloc ?_ _) | (with_reducible refine Kd.C_drewN ?_ _) | (with_reducible refine Kd.C_drew ?_)))
                  (case side2 => exact (Kd.R_reads' HO641092.out).2.1)
                  rintro e w110 ⟨v641094, rfl, ho0, hb⟩
                  refine ⟨_, rfl, ?_⟩
                  have n0_ := Aside0.mk (Kd.V_elder' (by (with_reducible repeat (first | apply Kd.V_alloc | apply Kd.V_drewN | apply Kd.V_drew)); exact HO0.out) (Kd.R_base ho0) hb)
                  have n1_ := Aside0.mk (Kd.R_elder' (by (with_reducible repeat (first | apply Kd.R_alloc | apply Kd.R_drewN | apply Kd.R_drew)); exact HO641004.out) (Kd.R_base ho0) hb)
                  have n2_ := Aside0.mk (Kd.V_elder' (by (with_reducible repeat (first | apply Kd.V_alloc | apply Kd.V_drewN | apply Kd.V_drew)); exact HO641012.out) (Kd.R_base ho0) hb)
                  have n3_ := Aside0.mk (Kd.V_elder' (by (with_reducible repeat (first | apply Kd.V_alloc | apply Kd.V_drewN | apply Kd.V_drew)); exact HO641017.out) (Kd.R_base ho0) hb)
                  have n4_ := Aside0.mk (Kd.V_elder' (by (with_reducible repeat (first | apply Kd.V_alloc | apply Kd.V_drewN | apply Kd.V_drew)); exact HO641076.out) (Kd.R_base ho0) hb)
                  have n5_ := Aside0.mk (Kd.V_elder' (by (with_reducible repeat (first | apply Kd.V_alloc | apply Kd.V_drewN | apply Kd.V_drew)); exact HO641081.out) (Kd.R_base ho0) hb)
                  have n6_ := Aside0.mk (Kd.V_elder' (by (with_reducible repeat (first | apply Kd.V_alloc | apply Kd.V_drewN | apply Kd.V_drew)); exact HO641086.out) (Kd.R_base ho0) hb)
                  have n7_ := Aside0.mk (Kd.N_elder' (by (with_reducible repeat (first | apply Kd.N_alloc | apply Kd.N_drewN | apply Kd.N_drew)); exact HO641089.out) (Kd.R_base ho0) hb)
                  have n8_ := Aside0.mk (Kd.R_elder' (by (with_reducible repeat (first | apply Kd.R_alloc | apply Kd.R_drewN | apply Kd.R_drew)); exact HO641092.out) (Kd.R_base ho0) hb)
                  have n9_ := Aside0.mk (Kd.R_lower (Kd.R_new' (Kd.R_new' (Kd.R_newM (M := fun k_ => (w.heap.size ≤ k_)) ho0 (below_size (by repeat (first | (with_reducible first | exact HB.out | apply below_alloc | apply pw_below_drewN | apply below_drew1) | exact HB.out))) (fun k_ h_ => h_)) (Kd.R_lt (by (with_reducible repeat (first | apply Kd.R_alloc | apply Kd.R_drewN | apply Kd.R_drew)); exact HO641004.out))) (Kd.R_lt (by (with_reducible repeat (first | apply Kd.R_alloc | apply Kd.R_drewN | apply Kd.R_drew)); exact HO641092.out))) (below_size (by repeat (first | (with_reducible first | exact HB.out | apply below_alloc | apply pw_below_drewN | apply below_drew1) | exact HB.out))))
                  have n10_ := Aside0.mk (below_step (by repeat (first | (with_reducible first | exact HB.out | apply below_alloc | apply pw_below_drewN | apply below_drew1) | exact HB.out)) hb)
                  clear HO0
                  clear HO641004
                  clear HO641012
                  clear HO641017
                  clear HO641076
                  clear HO641081
                  clear HO641086
                  clear HO641089
                  clear HO641092
                  clear HB
                  have HO0 := n0_
                  have HO641004 := n1_
                  have HO641012 := n2_
                  have HO641017 := n3_
                  have HO641076 := n4_
                  have HO641081 := n5_
                  have HO641086 := n6_
                  have HO641089 := n7_
                  have HO641092 := n8_
                  have HO641095 := n9_
                  have HB := n10_
                  clear n0_ n1_ n2_ n3_ n4_ n5_ n6_ n7_ n8_ n9_ n10_
                  (try clear hb)
                  (try clear hb2)
                  (try clear hk)
                  (try clear hi)
                  (try clear ho0)
                  refine hK.out _ _ trivial (fun hHeld => ?_)
                  clear hK K
                  refine norm_ (a' := ?_) ?_ ?_
                  rotate_left
                  ·show Act.put _ (some 74) _ = _
                   simp only [Act.put, List.setIfInBounds_toArray, List.set_cons_zero, List.set_cons_succ, i64_w, i32_w]
                   rfl
                  refine pure_ (i := 15) (N := some 12) (v := ?_) (a' := ?_) #[true, true, true, true, true, true, true, true, true, true, true, true, true, true, true, true, false] rfl rfl (any_of HT_.out (by kernel_rfl)) (fun _ _ _ h => h) (Or.inl ⟨by rfl, ?_⟩) ?_ ?_
                  rotate_left
                  ·intro w'
                   go_simp
                   with_reducible rfl
                  rotate_left
                  ·simp only [Act.put, List.setIfInBounds_toArray, List.set_cons_zero, List.set_cons_succ, i64_w, i32_w]
                   rfl
                  refine pure_ (i := 16) (N := some 13) (v := ?_) (a' := ?_) #[true, true, true, true, true, true, true, true, true, true, true, true, true, true, true, true, true] rfl rfl (any_of HT_.out (by kernel_rfl)) (fun _ _ _ h => h) (Or.inl ⟨by rfl, ?_⟩) ?_ ?_
                  rotate_left
                  ·intro w'
                   go_simp
                   with_reducible rfl
                  rotate_left
                  ·simp only [Act.put, List.setIfInBounds_toArray, List.set_cons_zero, List.set_cons_succ, i64_w, i32_w]
                   rfl
                  refine done_ (done_of HT_.out (by kernel_rfl)) ?_
                  try go_wp2
                  go_ret2
                  exact ⟨_, by first | rfl | (simp [errW_none, errW_some] <;> rfl) | (simp [*, errW_none, errW_some] <;> rfl), by (with_reducible repeat (first | apply Kd.R_alloc | apply Kd.R_drewN | apply Kd.R_drew)); exact Kd.R_mono HO641095.out (fun _ hk => hk.1.1.1), by repeat (first | (with_reducible first | exact HB.out | apply below_alloc | apply pw_below_drewN | apply below_drew1) | exact HB.out)⟩
                 ·rw [if_neg c85] at H
                  exact absurd H (by simp)
                ·rw [if_neg c84] at H
                 exact absurd H (by simp)
               ·rw [if_neg c83] at H
                exact absurd H (by simp)
              ·rw [if_neg c82] at H
               exact absurd H (by simp)
             ·rw [if_neg c81] at H
              exact absurd H (by simp)
            ·rw [if_neg c79] at H
             have c79b0 : (a5 == 1) = false := beq_eq_false_iff_ne.mpr c79
             have c79b1 : (a5 != 1) = true := bne_iff_ne.mpr c79
             have c111b0 := eq_true (of_decide_eq_true (by first | (with_reducible assumption) | assumption) : 0 ≤ a1)
             by_cases c112 : a1 ≤ (l0.length : Int)
             ·rw [if_pos c112] at H
              have c112b0 := eq_true c112
              have c112b1 : decide (a1 ≤ (l0.length : Int)) = true := decide_eq_true c112
              clear c112
              obtain ⟨y641096, hy641096⟩ : ∃ y_ : List Int, y_ = (l0.take (a1 : Int).toNat) := ⟨_, rfl⟩
              replace H : (if 0 ≤ a2 then (if a2 ≤ a3 then (if a3 ≤ (l0.length : Int) then (if 0 ≤ a4 then ((slices_Concat_int64_int64.f (([y641096, t641069, ((l0.take (a3 : Int).toNat).drop (a2 : Int).toNat), t641066, (l0.drop (a4 : Int).toNat)] : List (List Int)))).bind fun t641114 => ((impl_normal.f t641114).bind fun t641117 => (some (t641117, 0)))) else (none)) else (none)) else (none)) else (none)) = some (r1, r2) := by first | (rw [hy641096]; with_reducible exact H) | (have H2_ := (Option.bind_some _ _).symm.trans H; rw [hy641096]; with_reducible exact H2_) | (have H2_ := (Option.bind_some _ _).symm.trans H; with_reducible exact H2_) | with_reducible exact H | (rw [hy641096]; exact H) | exact H
              have Ny641096 := Aside0.mk hy641096
              clear hy641096
              by_cases c113 : 0 ≤ a2
              ·rw [if_pos c113] at H
               have c113b0 := eq_true c113
               have c113b1 : decide (0 ≤ a2) = true := decide_eq_true c113
               clear c113
               by_cases c114 : a2 ≤ a3
               ·rw [if_pos c114] at H
                have c114b0 := eq_true c114
                have c114b1 : decide (a2 ≤ a3) = true := decide_eq_true c114
                clear c114
                by_cases c115 : a3 ≤ (l0.length : Int)
                ·rw [if_pos c115] at H
                 have c115b0 := eq_true c115
                 have c115b1 : decide (a3 ≤ (l0.length : Int)) = true := decide_eq_true c115
                 clear c115
                 obtain ⟨y641101, hy641101⟩ : ∃ y_ : List Int, y_ = ((l0.take (a3 : Int).toNat).drop (a2 : Int).toNat) := ⟨_, rfl⟩
                 replace H : (if 0 ≤ a4 then ((slices_Concat_int64_int64.f (([y641096, t641069, y641101, t641066, (l0.drop (a4 : Int).toNat)] : List (List Int)))).bind fun t641114 => ((impl_normal.f t641114).bind fun t641117 => (some (t641117, 0)))) else (none)) = some (r1, r2) := by first | (rw [hy641101]; with_reducible exact H) | (have H2_ := (Option.bind_some _ _).symm.trans H; rw [hy641101]; with_reducible exact H2_) | (have H2_ := (Option.bind_some _ _).symm.trans H; with_reducible exact H2_) | with_reducible exact H | (rw [hy641101]; exact H) | exact H
                 have Ny641101 := Aside0.mk hy641101
                 clear hy641101
                 by_cases c116 : 0 ≤ a4
                 ·rw [if_pos c116] at H
                  have c116b0 := eq_true c116
                  have c116b1 : decide (0 ≤ a4) = true := decide_eq_true c116
                  clear c116
                  have c117b0 := eq_true (of_decide_eq_true (by first | (with_reducible assumption) | assumption) : a4 ≤ (l0.length : Int))
                  obtain ⟨y641106, hy641106⟩ : ∃ y_ : List Int, y_ = (l0.drop (a4 : Int).toNat) := ⟨_, rfl⟩
                  replace H : ((slices_Concat_int64_int64.f (([y641096, t641069, y641101, t641066, y641106] : List (List Int)))).bind fun t641114 => ((impl_normal.f t641114).bind fun t641117 => (some (t641117, 0)))) = some (r1, r2) := by first | (rw [hy641106]; with_reducible exact H) | (have H2_ := (Option.bind_some _ _).symm.trans H; rw [hy641106]; with_reducible exact H2_) | (have H2_ := (Option.bind_some _ _).symm.trans H; with_reducible exact H2_) | with_reducible exact H | (rw [hy641106]; exact H) | exact H
                  have Ny641106 := Aside0.mk hy641106
                  clear hy641106
                  obtain ⟨y641111, hy641111⟩ : ∃ y_ : List (List Int), y_ = (([y641096, t641069, y641101, t641066, y641106] : List (List Int))) := ⟨_, rfl⟩
                  replace H : ((slices_Concat_int64_int64.f y641111).bind fun t641114 => ((impl_normal.f t641114).bind fun t641117 => (some (t641117, 0)))) = some (r1, r2) := by first | (rw [hy641111]; with_reducible exact H) | (have H2_ := (Option.bind_some _ _).symm.trans H; rw [hy641111]; with_reducible exact H2_) | (have H2_ := (Option.bind_some _ _).symm.trans H; with_reducible exact H2_) | with_reducible exact H | (rw [hy641111]; exact H) | exact H
                  have Ny641111 := Aside0.mk hy641111
                  clear hy641111
                  replace H := Option.bind_eq_some_iff.mp H
                  obtain ⟨t641114, A1180, H⟩ := H
                  replace H : ((impl_normal.f t641114).bind fun t641117 => (some (t641117, 0))) = some (r1, r2) := H
                  have A118 := Aside0.mk A1180
                  clear A1180
                  replace H := Option.bind_eq_some_iff.mp H
                  obtain ⟨t641117, A1190, H⟩ := H
                  replace H : (some (t641117, 0)) = some (r1, r2) := H
                  have A119 := Aside0.mk A1190
                  clear A1190
                  simp only [Option.some.injEq, Prod.mk.injEq] at H
                  obtain ⟨rfl, rfl⟩ := H
                  go_enter Try.func64, Try.ntmps64
                  try go_wp2_with (first | ((with_reducible refine gate_callee (f := 84) rfl ?_); refine goesL_ (some 18) rfl rfl Try.func84 (by kernel_rfl) rfl #[.slice A0 l0.length c0] rfl (by (try simp only [List.map_toArray, List.map_cons, List.map_nil]); first | done | rfl | (simp only [List.length_drop, List.length_take]; rfl)) ?_; (with_reducible refine (impl_IsWord.calls k _ _ l0 true _ ?side1 ?side2 A7.out).mono ?_); (case side1 => repeat (first | exact (Kd.V_reads' HO0.out).2.2 | (with_reducible refine Kd.C_alloc ?_ _) | (with_reducible refine Kd.C_drewN ?_ _) | (with_reducible refine Kd.C_drew ?_))); (case side2 => exact (Kd.V_reads' HO0.out).2.1); rintro e w120 ⟨rfl, hb⟩; refine ⟨_, rfl, ?_⟩; have n0_ := Aside0.mk (Kd.V_below (by (with_reducible repeat (first | apply Kd.V_alloc | apply Kd.V_drewN | apply Kd.V_drew)); exact HO0.out) hb); have n1_ := Aside0.mk (below_step (by repeat (first | (with_reducible first | exact HB.out | apply below_alloc | apply pw_below_drewN | apply below_drew1) | exact HB.out)) hb); clear HO0; clear HB; have HO0 := n0_; have HB := n1_; clear n0_ n1_; (try clear hb); (try clear hb2); (try clear hk); (try clear hi)) | ((with_reducible refine gate_dst (N := 26) rfl ?_); refine Kd.R_lit (Kd.int .i64) _ 2 ?hg (N := 26) ?hd (xs := ([a1, a2, a3, a4] : List Int)) (inner := [.int .i64 a1, .int .i64 a2, .int .i64 a3, .int .i64 a4]) (ok := fun _ => True) (okp := fun _ => True) ?hr ?hp (fun _ hk => hk) trivial (Below.refl _ _) (Nat.le_refl _) (by simp) ?_; (case hd => rfl); (case hg => rfl); (case hr => first | (go_simp; done) | (go_simp; rfl)); (case hp => exact (Reps.one (show Kd.M (Kd.int .i64) _ _ _ a1 [.int .i64 a1] from rfl) (Reps.one (show Kd.M (Kd.int .i64) _ _ _ a2 [.int .i64 a2] from rfl) (Reps.one (show Kd.M (Kd.int .i64) _ _ _ a3 [.int .i64 a3] from rfl) (Reps.one (show Kd.M (Kd.int .i64) _ _ _ a4 [.int .i64 a4] from rfl) (Reps.none _ _)))))); intro v641003 w121 ho122 hb hg_ hnew_; clear hg_ hnew_; (first | rw [← Ny641002.out] at ho122 | (simp only [Int.reduceToNat] at ho122; rw [← Ny641002.out] at ho122)); have n0_ := Aside0.mk (Kd.V_elder' (by (with_reducible repeat (first | apply Kd.V_alloc | apply Kd.V_drewN | apply Kd.V_drew)); exact HO0.out) (Kd.R_base ho122) hb); have n1_ := Aside0.mk (Kd.R_lower (Kd.R_newM (M := fun k_ => (w.heap.size ≤ k_)) ho122 (below_size (by repeat (first | (with_reducible first | exact HB.out | apply below_alloc | apply pw_below_drewN | apply below_drew1) | exact HB.out))) (fun k_ h_ => h_)) (below_size (by repeat (first | (with_reducible first | exact HB.out | apply below_alloc | apply pw_below_drewN | apply below_drew1) | exact HB.out)))); have n2_ := Aside0.mk (below_step (by repeat (first | (with_reducible first | exact HB.out | apply below_alloc | apply pw_below_drewN | apply below_drew1) | exact HB.out)) hb); clear HO0; clear HB; have HO0 := n0_; have HO641004 := n1_; have HB := n2_; clear n0_ n1_ n2_; clear hb ho122; obtain ⟨Ao123, co123, eo123⟩ := Kd.R_slice HO641004.out; subst eo123) | ((with_reducible refine gate_callee (f := 88) rfl ?_); refine goesL_ (some 27) rfl rfl Try.func88 (by kernel_rfl) rfl #[.slice A0 l0.length c0, .slice Ao123 y641002.length co123] rfl (by (try simp only [List.map_toArray, List.map_cons, List.map_nil]); first | done | rfl | (simp only [List.length_drop, List.length_take]; rfl)) ?_; (with_reducible refine (impl_placesOk.calls k _ _ l0 _ _ y641002 true _ ?side1 ?side2 ?side3 ?side4 A9.out).mono ?_); (case side1 => repeat (first | exact (Kd.V_reads' HO0.out).2.2 | (with_reducible refine Kd.C_alloc ?_ _) | (with_reducible refine Kd.C_drewN ?_ _) | (with_reducible refine Kd.C_drew ?_))); (case side2 => exact (Kd.V_reads' HO0.out).2.1); (case side3 => repeat (first | exact (Kd.R_reads' HO641004.out).2.2 | (with_reducible refine Kd.C_alloc ?_ _) | (with_reducible refine Kd.C_drewN ?_ _) | (with_reducible refine Kd.C_drew ?_))); (case side4 => exact (Kd.R_reads' HO641004.out).2.1); rintro e w' ⟨rfl, ⟨nd, rfl⟩⟩; refine ⟨_, rfl, ?_⟩) | (go_at_call 81; (with_reducible refine (impl_in.calls a5 0 2 true _ A11.out).mono ?_); rintro e w' ⟨rfl, ⟨nd, rfl⟩⟩) | ((with_reducible refine gate_callee (f := 89) rfl ?_); refine goesL_ (some 40) rfl rfl Try.func89 (by kernel_rfl) rfl #[.slice A0 l0.length c0, .int .i64 a1, .int .i64 a2, .int .i64 a3, .int .i64 a4] rfl (by (try simp only [List.map_toArray, List.map_cons, List.map_nil]); first | done | rfl | (simp only [List.length_drop, List.length_take]; rfl)) ?_; (with_reducible refine (impl_isShare.calls (fun k_ => ((P0_ k_ ∨ w.heap.size ≤ k_) ∧ some k_ ≠ (.slice Ao123 y641002.length co123 : Value).ownBlock)) _ _ l0 a1 a2 a3 a4 true _ ?side1 A13.out).mono ?_); (case side1 => exact HO0.out); rintro e w124 ⟨rfl, hb⟩; refine ⟨_, rfl, ?_⟩; have n0_ := Aside0.mk (Kd.V_below (by (with_reducible repeat (first | apply Kd.V_alloc | apply Kd.V_drewN | apply Kd.V_drew)); exact HO0.out) hb); have n1_ := Aside0.mk (Kd.R_below (by (with_reducible repeat (first | apply Kd.R_alloc | apply Kd.R_drewN | apply Kd.R_drew)); exact HO641004.out) hb); have n2_ := Aside0.mk (below_step (by repeat (first | (with_reducible first | exact HB.out | apply below_alloc | apply pw_below_drewN | apply below_drew1) | exact HB.out)) hb); clear HO0; clear HO641004; clear HB; have HO0 := n0_; have HO641004 := n1_; have HB := n2_; clear n0_ n1_ n2_; (try clear hb); (try clear hb2); (try clear hk); (try clear hi)))
                  have n0_ := Aside0.mk (Kd.V_drew HO0.out)
                  have n1_ := Aside0.mk (Kd.R_drew HO641004.out)
                  have n2_ := Aside0.mk (below_drew1 HB.out)
                  clear HO0
                  clear HO641004
                  clear HB
                  have HO0 := n0_
                  have HO641004 := n1_
                  have HB := n2_
                  clear n0_ n1_ n2_
                  have q126 : (a2 : Int) ≤ ((l0.length : Int) : Int) := of_decide_eq_true (by first | (with_reducible assumption) | assumption)
                  obtain ⟨i0126, hi0126, _, hsz126, _⟩ := info_parts info2
                  have hroom126 : l0.length ≤ c0 := (Kd.V_reads' HO0.out).2.1
                  have hC126 : Kd.F (Kd.int .i64) _ _ A0 l0.length l0 := (Kd.V_at (base := w.heap.size) HO0.out).2.2
                  have ql126 : (a1 : Int) ≤ (a2 : Int) := of_decide_eq_true (by first | (with_reducible assumption) | assumption)
                  have q0126 : (0 : Int) ≤ (a1 : Int) := of_decide_eq_true (by first | (with_reducible assumption) | assumption)
                  have hcut126 := cut_mid (P := Try.prog) 22 2 .i64 .i64 Try.underlying22 hi0126 1 hsz126 A0 l0.length c0 a1 a2 q0126 ql126 q126 hroom126
                  have hr126 := Kd.F_mid (lo := (a1 : Int).toNat) (hi := (a2 : Int).toNat) (c := c0) hC126 (by omega) (by omega) hroom126
                  obtain ⟨A126, hA126⟩ : ∃ A1, A1 = (if c0 = (a1 : Int).toNat then A0 else (A0 : Option Addr).map (·.add ((a1 : Int).toNat * 1))) := ⟨_, rfl⟩
                  obtain ⟨c126, hc126⟩ : ∃ c1, c1 = c0 - (a1 : Int).toNat := ⟨_, rfl⟩
                  have hy126 : y641008.length = (a2 : Int).toNat - (a1 : Int).toNat := (by rw [Ny641008.out, List.length_drop, List.length_take] <;> omega)
                  rw [show ((l0).take (a2 : Int).toNat).drop (a1 : Int).toNat = y641008 from Ny641008.out.symm] at hr126
                  replace hr126 : Kd.F (Kd.int .i64) _ _ A126 y641008.length y641008 := (by rw [hA126]; exact hr126)
                  rw [← hy126, ← hA126, ← hc126] at hcut126
                  have HO641012 := Aside0.mk (show Kd.V (Kd.int .i64) 2 _ w.heap.size _ (.slice A126 y641008.length c126) y641008 from Kd.V_mk (by rw [hy126, hc126]; exact Nat.sub_le_sub_right (Nat.le_trans (by omega) hroom126) _) hr126)
                  have HC641012 := Aside0.mk (show y641008.length ≤ c126 from by rw [hy126, hc126]; exact Nat.sub_le_sub_right (Nat.le_trans (by omega) hroom126) _)
                  clear hr126 hC126 hroom126 hi0126 hsz126 hc126
                  have KY126 := Aside0.mk hy126
                  have KA126 := Aside0.mk hA126
                  clear hy126 hA126
                  replace q126 := eq_true q126
                  have q127 : (a4 : Int) ≤ ((l0.length : Int) : Int) := of_decide_eq_true (by first | (with_reducible assumption) | assumption)
                  obtain ⟨i0127, hi0127, _, hsz127, _⟩ := info_parts info2
                  have hroom127 : l0.length ≤ c0 := (Kd.V_reads' HO0.out).2.1
                  have hC127 : Kd.F (Kd.int .i64) _ _ A0 l0.length l0 := (Kd.V_at (base := w.heap.size) HO0.out).2.2
                  have ql127 : (a3 : Int) ≤ (a4 : Int) := of_decide_eq_true (by first | (with_reducible assumption) | assumption)
                  have q0127 : (0 : Int) ≤ (a3 : Int) := of_decide_eq_true (by first | (with_reducible assumption) | assumption)
                  have hcut127 := cut_mid (P := Try.prog) 22 2 .i64 .i64 Try.underlying22 hi0127 1 hsz127 A0 l0.length c0 a3 a4 q0127 ql127 q127 hroom127
                  have hr127 := Kd.F_mid (lo := (a3 : Int).toNat) (hi := (a4 : Int).toNat) (c := c0) hC127 (by omega) (by omega) hroom127
                  obtain ⟨A127, hA127⟩ : ∃ A1, A1 = (if c0 = (a3 : Int).toNat then A0 else (A0 : Option Addr).map (·.add ((a3 : Int).toNat * 1))) := ⟨_, rfl⟩
                  obtain ⟨c127, hc127⟩ : ∃ c1, c1 = c0 - (a3 : Int).toNat := ⟨_, rfl⟩
                  have hy127 : y641013.length = (a4 : Int).toNat - (a3 : Int).toNat := (by rw [Ny641013.out, List.length_drop, List.length_take] <;> omega)
                  rw [show ((l0).take (a4 : Int).toNat).drop (a3 : Int).toNat = y641013 from Ny641013.out.symm] at hr127
                  replace hr127 : Kd.F (Kd.int .i64) _ _ A127 y641013.length y641013 := (by rw [hA127]; exact hr127)
                  rw [← hy127, ← hA127, ← hc127] at hcut127
                  have HO641017 := Aside0.mk (show Kd.V (Kd.int .i64) 2 _ w.heap.size _ (.slice A127 y641013.length c127) y641013 from Kd.V_mk (by rw [hy127, hc127]; exact Nat.sub_le_sub_right (Nat.le_trans (by omega) hroom127) _) hr127)
                  have HC641017 := Aside0.mk (show y641013.length ≤ c127 from by rw [hy127, hc127]; exact Nat.sub_le_sub_right (Nat.le_trans (by omega) hroom127) _)
                  clear hr127 hC127 hroom127 hi0127 hsz127 hc127
                  have KY127 := Aside0.mk hy127
                  have KA127 := Aside0.mk hA127
                  clear hy127 hA127
                  replace q127 := eq_true q127
                  refine start_ (n := 10) (S := fun w' => True) (ds := []) #[false, false, false, false, false, false, false, false, false, false] (by kernel_rfl) rfl rfl trivial (fun hHeld => ?_); refine with_tabW impl_MutateWord.tab7 impl_MutateWord.bits7 (fun HT_ HW_ => ?_)
                  generalize w124.drew = w125 at HO0 HO641004 HB HO641012 HO641017 hHeld ⊢
                  refine pure_ (i := 0) (N := some 42) (v := ?_) (a' := ?_) #[true, false, false, false, false, false, false, false, false, false] rfl rfl (any_of HT_.out (by kernel_rfl)) (fun _ _ _ h => h) (Or.inl ⟨by rfl, ?_⟩) ?_ ?_
                  rotate_left
                  ·intro w'
                   go_simp
                   with_reducible rfl
                  rotate_left
                  ·simp only [Act.put, List.setIfInBounds_toArray, List.set_cons_zero, List.set_cons_succ, i64_w, i32_w]
                   rfl
                  refine pure_ (i := 1) (N := some 43) (v := ?_) (a' := ?_) #[true, true, false, false, false, false, false, false, false, false] rfl rfl (any_of HT_.out (by kernel_rfl)) (fun _ _ _ h => h) (Or.inl ⟨by rfl, ?_⟩) ?_ ?_
                  rotate_left
                  ·intro w'
                   go_simp
                   with_reducible rfl
                  rotate_left
                  ·simp only [Act.put, List.setIfInBounds_toArray, List.set_cons_zero, List.set_cons_succ, i64_w, i32_w]
                   rfl
                  refine pure_ (i := 2) (N := some 44) (v := ?_) (a' := ?_) #[true, true, true, false, false, false, false, false, false, false] rfl rfl (any_of HT_.out (by kernel_rfl)) (fun _ _ _ h => h) (Or.inl ⟨by rfl, ?_⟩) ?_ ?_
                  rotate_left
                  ·intro w'
                   go_simp
                   with_reducible rfl
                  rotate_left
                  ·simp only [Act.put, List.setIfInBounds_toArray, List.set_cons_zero, List.set_cons_succ, i64_w, i32_w]
                   rfl
                  refine pure_ (i := 3) (N := some 45) (v := ?_) (a' := ?_) #[true, true, true, true, false, false, false, false, false, false] rfl rfl (any_of HT_.out (by kernel_rfl)) (fun _ _ _ h => h) (Or.inl ⟨by rfl, ?_⟩) ?_ ?_
                  rotate_left
                  ·intro w'
                   go_simp
                   with_reducible rfl
                  rotate_left
                  ·simp only [Act.put, List.setIfInBounds_toArray, List.set_cons_zero, List.set_cons_succ, i64_w, i32_w]
                   rfl
                  refine pure_ (i := 4) (N := some 46) (v := ?_) (a' := ?_) #[true, true, true, true, true, false, false, false, false, false] rfl rfl (any_of HT_.out (by kernel_rfl)) (fun _ _ _ h => h) (Or.inl ⟨by rfl, ?_⟩) ?_ ?_
                  rotate_left
                  ·intro w'
                   go_simp
                   with_reducible rfl
                  rotate_left
                  ·simp only [Act.put, List.setIfInBounds_toArray, List.set_cons_zero, List.set_cons_succ, i64_w, i32_w]
                   rfl
                  refine pure_ (i := 5) (N := some 47) (v := ?_) (a' := ?_) #[true, true, true, true, true, true, false, false, false, false] rfl rfl (any_of HT_.out (by kernel_rfl)) (fun _ _ _ h => h) (Or.inl ⟨by rfl, ?_⟩) ?_ ?_
                  rotate_left
                  ·intro w'
                   go_simp
                   with_reducible rfl
                  rotate_left
                  ·simp only [Act.put, List.setIfInBounds_toArray, List.set_cons_zero, List.set_cons_succ, i64_w, i32_w]
                   rfl
                  refine pure_ (i := 6) (N := some 48) (v := ?_) (a' := ?_) #[true, true, true, true, true, true, true, false, false, false] rfl rfl (any_of HT_.out (by kernel_rfl)) (fun _ _ _ h => h) (Or.inl ⟨by rfl, ?_⟩) ?_ ?_
                  rotate_left
                  ·intro w'
                   go_simp
                   with_reducible rfl
                  rotate_left
                  ·simp only [Act.put, List.setIfInBounds_toArray, List.set_cons_zero, List.set_cons_succ, i64_w, i32_w]
                   rfl
                  refine pure_ (i := 7) (N := some 49) (v := ?_) (a' := ?_) #[true, true, true, true, true, true, true, true, false, false] rfl rfl (any_of HT_.out (by kernel_rfl)) (fun _ _ _ h => h) (Or.inl ⟨by rfl, ?_⟩) ?_ ?_
                  rotate_left
                  ·intro w'
                   go_simp
                   with_reducible rfl
                  rotate_left
                  ·simp only [Act.put, List.setIfInBounds_toArray, List.set_cons_zero, List.set_cons_succ, i64_w, i32_w]
                   rfl
                  refine pure_ (i := 8) (N := some 14) (v := ?_) (a' := ?_) #[true, true, true, true, true, true, true, true, true, false] rfl rfl (any_of HT_.out (by kernel_rfl)) (fun _ _ _ h => h) (Or.inl ⟨by rfl, ?_⟩) ?_ ?_
                  rotate_left
                  ·intro w'
                   go_simp
                   with_reducible rfl
                  rotate_left
                  ·simp only [Act.put, List.setIfInBounds_toArray, List.set_cons_zero, List.set_cons_succ, i64_w, i32_w]
                   rfl
                  refine pure_ (i := 9) (N := some 15) (v := ?_) (a' := ?_) #[true, true, true, true, true, true, true, true, true, true] rfl rfl (any_of HT_.out (by kernel_rfl)) (fun _ _ _ h => h) (Or.inl ⟨by rfl, ?_⟩) ?_ ?_
                  rotate_left
                  ·intro w'
                   go_simp
                   with_reducible rfl
                  rotate_left
                  ·simp only [Act.put, List.setIfInBounds_toArray, List.set_cons_zero, List.set_cons_succ, i64_w, i32_w]
                   rfl
                  refine done_ (done_of HT_.out (by kernel_rfl)) ?_
                  try go_wp2_with (first | ((with_reducible refine gate_callee (f := 107) rfl ?_); refine goesL_ (some 53) rfl rfl Try.func107 (by kernel_rfl) rfl #[.slice A126 y641008.length c126] rfl (by (try simp only [List.map_toArray, List.map_cons, List.map_nil]); first | done | rfl | (simp only [List.length_drop, List.length_take]; rfl)) ?_; (with_reducible refine (impl_reversed.calls k _ _ y641008 t641066 _ ?side1 ?side2 A77.out).mono ?_); (case side1 => repeat (first | exact (Kd.V_reads' HO641012.out).2.2 | (with_reducible refine Kd.C_alloc ?_ _) | (with_reducible refine Kd.C_drewN ?_ _) | (with_reducible refine Kd.C_drew ?_))); (case side2 => exact (Kd.V_reads' HO641012.out).2.1); rintro e w128 ⟨v641067, rfl, ho0, hb⟩; refine ⟨_, rfl, ?_⟩; have n0_ := Aside0.mk (Kd.V_elder' (by (with_reducible repeat (first | apply Kd.V_alloc | apply Kd.V_drewN | apply Kd.V_drew)); exact HO0.out) (Kd.R_base ho0) hb); have n1_ := Aside0.mk (Kd.R_elder' (by (with_reducible repeat (first | apply Kd.R_alloc | apply Kd.R_drewN | apply Kd.R_drew)); exact HO641004.out) (Kd.R_base ho0) hb); have n2_ := Aside0.mk (Kd.V_elder' (by (with_reducible repeat (first | apply Kd.V_alloc | apply Kd.V_drewN | apply Kd.V_drew)); exact HO641012.out) (Kd.R_base ho0) hb); have n3_ := Aside0.mk (Kd.V_elder' (by (with_reducible repeat (first | apply Kd.V_alloc | apply Kd.V_drewN | apply Kd.V_drew)); exact HO641017.out) (Kd.R_base ho0) hb); have n4_ := Aside0.mk (Kd.R_lower (Kd.R_new' (Kd.R_newM (M := fun k_ => (w.heap.size ≤ k_)) ho0 (below_size (by repeat (first | (with_reducible first | exact HB.out | apply below_alloc | apply pw_below_drewN | apply below_drew1) | exact HB.out))) (fun k_ h_ => h_)) (Kd.R_lt (by (with_reducible repeat (first | apply Kd.R_alloc | apply Kd.R_drewN | apply Kd.R_drew)); exact HO641004.out))) (below_size (by repeat (first | (with_reducible first | exact HB.out | apply below_alloc | apply pw_below_drewN | apply below_drew1) | exact HB.out)))); have n5_ := Aside0.mk (below_step (by repeat (first | (with_reducible first | exact HB.out | apply below_alloc | apply pw_below_drewN | apply below_drew1) | exact HB.out)) hb); clear HO0; clear HO641004; clear HO641012; clear HO641017; clear HB; have HO0 := n0_; have HO641004 := n1_; have HO641012 := n2_; have HO641017 := n3_; have HO641068 := n4_; have HB := n5_; clear n0_ n1_ n2_ n3_ n4_ n5_; (try clear hb); (try clear hb2); (try clear hk); (try clear hi); (try clear ho0)) | ((with_reducible refine gate_callee (f := 107) rfl ?_); refine goesL_ (some 55) rfl rfl Try.func107 (by kernel_rfl) rfl #[.slice A127 y641013.length c127] rfl (by (try simp only [List.map_toArray, List.map_cons, List.map_nil]); first | done | rfl | (simp only [List.length_drop, List.length_take]; rfl)) ?_; (with_reducible refine (impl_reversed.calls k _ _ y641013 t641069 _ ?side1 ?side2 A78.out).mono ?_); (case side1 => repeat (first | exact (Kd.V_reads' HO641017.out).2.2 | (with_reducible refine Kd.C_alloc ?_ _) | (with_reducible refine Kd.C_drewN ?_ _) | (with_reducible refine Kd.C_drew ?_))); (case side2 => exact (Kd.V_reads' HO641017.out).2.1); rintro e w129 ⟨v641070, rfl, ho0, hb⟩; refine ⟨_, rfl, ?_⟩; have n0_ := Aside0.mk (Kd.V_elder' (by (with_reducible repeat (first | apply Kd.V_alloc | apply Kd.V_drewN | apply Kd.V_drew)); exact HO0.out) (Kd.R_base ho0) hb); have n1_ := Aside0.mk (Kd.R_elder' (by (with_reducible repeat (first | apply Kd.R_alloc | apply Kd.R_drewN | apply Kd.R_drew)); exact HO641004.out) (Kd.R_base ho0) hb); have n2_ := Aside0.mk (Kd.V_elder' (by (with_reducible repeat (first | apply Kd.V_alloc | apply Kd.V_drewN | apply Kd.V_drew)); exact HO641012.out) (Kd.R_base ho0) hb); have n3_ := Aside0.mk (Kd.V_elder' (by (with_reducible repeat (first | apply Kd.V_alloc | apply Kd.V_drewN | apply Kd.V_drew)); exact HO641017.out) (Kd.R_base ho0) hb); have n4_ := Aside0.mk (Kd.R_elder' (by (with_reducible repeat (first | apply Kd.R_alloc | apply Kd.R_drewN | apply Kd.R_drew)); exact HO641068.out) (Kd.R_base ho0) hb); have n5_ := Aside0.mk (Kd.R_lower (Kd.R_new' (Kd.R_new' (Kd.R_newM (M := fun k_ => (w.heap.size ≤ k_)) ho0 (below_size (by repeat (first | (with_reducible first | exact HB.out | apply below_alloc | apply pw_below_drewN | apply below_drew1) | exact HB.out))) (fun k_ h_ => h_)) (Kd.R_lt (by (with_reducible repeat (first | apply Kd.R_alloc | apply Kd.R_drewN | apply Kd.R_drew)); exact HO641004.out))) (Kd.R_lt (by (with_reducible repeat (first | apply Kd.R_alloc | apply Kd.R_drewN | apply Kd.R_drew)); exact HO641068.out))) (below_size (by repeat (first | (with_reducible first | exact HB.out | apply below_alloc | apply pw_below_drewN | apply below_drew1) | exact HB.out)))); have n6_ := Aside0.mk (below_step (by repeat (first | (with_reducible first | exact HB.out | apply below_alloc | apply pw_below_drewN | apply below_drew1) | exact HB.out)) hb); clear HO0; clear HO641004; clear HO641012; clear HO641017; clear HO641068; clear HB; have HO0 := n0_; have HO641004 := n1_; have HO641012 := n2_; have HO641017 := n3_; have HO641068 := n4_; have HO641071 := n5_; have HB := n6_; clear n0_ n1_ n2_ n3_ n4_ n5_ n6_; (try clear hb); (try clear hb2); (try clear hk); (try clear hi); (try clear ho0)))
                  have n0_ := Aside0.mk (Kd.V_drew HO0.out)
                  have n1_ := Aside0.mk (Kd.R_drew HO641004.out)
                  have n2_ := Aside0.mk (Kd.V_drew HO641012.out)
                  have n3_ := Aside0.mk (Kd.V_drew HO641017.out)
                  have n4_ := Aside0.mk (Kd.R_drew HO641068.out)
                  have n5_ := Aside0.mk (Kd.R_drew HO641071.out)
                  have n6_ := Aside0.mk (below_drew1 HB.out)
                  clear HO0
                  clear HO641004
                  clear HO641012
                  clear HO641017
                  clear HO641068
                  clear HO641071
                  clear HB
                  have HO0 := n0_
                  have HO641004 := n1_
                  have HO641012 := n2_
                  have HO641017 := n3_
                  have HO641068 := n4_
                  have HO641071 := n5_
                  have HB := n6_
                  clear n0_ n1_ n2_ n3_ n4_ n5_ n6_
                  have q131 : (a1 : Int) ≤ ((l0.length : Int) : Int) := of_decide_eq_true (by first | (with_reducible assumption) | assumption)
                  obtain ⟨i0131, hi0131, _, hsz131, _⟩ := info_parts info2
                  have hroom131 : l0.length ≤ c0 := (Kd.V_reads' HO0.out).2.1
                  have hC131 : Kd.F (Kd.int .i64) _ _ A0 l0.length l0 := (Kd.V_at (base := w.heap.size) HO0.out).2.2
                  have hcut131 := cut_to (P := Try.prog) 22 2 .i64 Try.underlying22 hi0131 A0 l0.length c0 a1 (of_decide_eq_true (by first | (with_reducible assumption) | assumption)) q131 hroom131
                  have hr131 := Kd.F_take (m := (a1 : Int).toNat) hC131 (by omega)
                  have hy131 : y641096.length = (a1 : Int).toNat := (by rw [Ny641096.out, List.length_take]; omega)
                  rw [← Ny641096.out] at hr131
                  rw [← hy131] at hcut131
                  have HO641100 := Aside0.mk (show Kd.V (Kd.int .i64) 2 _ w.heap.size _ (.slice A0 y641096.length c0) y641096 from Kd.V_mk (by omega) hr131)
                  have HC641100 := Aside0.mk (show y641096.length ≤ c0 from by omega)
                  clear hr131 hC131 hroom131 hi0131 hsz131
                  have KY131 := Aside0.mk hy131
                  clear hy131
                  replace q131 := eq_true q131
                  have q132 : (a3 : Int) ≤ ((l0.length : Int) : Int) := of_decide_eq_true (by first | (with_reducible assumption) | assumption)
                  obtain ⟨i0132, hi0132, _, hsz132, _⟩ := info_parts info2
                  have hroom132 : l0.length ≤ c0 := (Kd.V_reads' HO0.out).2.1
                  have hC132 : Kd.F (Kd.int .i64) _ _ A0 l0.length l0 := (Kd.V_at (base := w.heap.size) HO0.out).2.2
                  have ql132 : (a2 : Int) ≤ (a3 : Int) := of_decide_eq_true (by first | (with_reducible assumption) | assumption)
                  have q0132 : (0 : Int) ≤ (a2 : Int) := of_decide_eq_true (by first | (with_reducible assumption) | assumption)
                  have hcut132 := cut_mid (P := Try.prog) 22 2 .i64 .i64 Try.underlying22 hi0132 1 hsz132 A0 l0.length c0 a2 a3 q0132 ql132 q132 hroom132
                  have hr132 := Kd.F_mid (lo := (a2 : Int).toNat) (hi := (a3 : Int).toNat) (c := c0) hC132 (by omega) (by omega) hroom132
                  obtain ⟨A132, hA132⟩ : ∃ A1, A1 = (if c0 = (a2 : Int).toNat then A0 else (A0 : Option Addr).map (·.add ((a2 : Int).toNat * 1))) := ⟨_, rfl⟩
                  obtain ⟨c132, hc132⟩ : ∃ c1, c1 = c0 - (a2 : Int).toNat := ⟨_, rfl⟩
                  have hy132 : y641101.length = (a3 : Int).toNat - (a2 : Int).toNat := (by rw [Ny641101.out, List.length_drop, List.length_take] <;> omega)
                  rw [show ((l0).take (a3 : Int).toNat).drop (a2 : Int).toNat = y641101 from Ny641101.out.symm] at hr132
                  replace hr132 : Kd.F (Kd.int .i64) _ _ A132 y641101.length y641101 := (by rw [hA132]; exact hr132)
                  rw [← hy132, ← hA132, ← hc132] at hcut132
                  have HO641105 := Aside0.mk (show Kd.V (Kd.int .i64) 2 _ w.heap.size _ (.slice A132 y641101.length c132) y641101 from Kd.V_mk (by rw [hy132, hc132]; exact Nat.sub_le_sub_right (Nat.le_trans (by omega) hroom132) _) hr132)
                  have HC641105 := Aside0.mk (show y641101.length ≤ c132 from by rw [hy132, hc132]; exact Nat.sub_le_sub_right (Nat.le_trans (by omega) hroom132) _)
                  clear hr132 hC132 hroom132 hi0132 hsz132 hc132
                  have KY132 := Aside0.mk hy132
                  have KA132 := Aside0.mk hA132
                  clear hy132 hA132
                  replace q132 := eq_true q132
                  have q133 : (a4 : Int) ≤ ((l0.length : Int) : Int) := of_decide_eq_true (by first | (with_reducible assumption) | assumption)
                  obtain ⟨i0133, hi0133, _, hsz133, _⟩ := info_parts info2
                  have hroom133 : l0.length ≤ c0 := (Kd.V_reads' HO0.out).2.1
                  have hC133 : Kd.F (Kd.int .i64) _ _ A0 l0.length l0 := (Kd.V_at (base := w.heap.size) HO0.out).2.2
                  have q0133 : (0 : Int) ≤ (a4 : Int) := of_decide_eq_true (by first | (with_reducible assumption) | assumption)
                  have hcut133 := cut_from (P := Try.prog) 22 2 .i64 Try.underlying22 hi0133 1 hsz133 A0 l0.length c0 a4 q0133 q133
                  have hr133 := Kd.F_cut (m := (a4 : Int).toNat) (c := c0) hC133 (by omega) hroom133
                  obtain ⟨A133, hA133⟩ : ∃ A1, A1 = (if c0 = (a4 : Int).toNat then A0 else (A0 : Option Addr).map (·.add ((a4 : Int).toNat * 1))) := ⟨_, rfl⟩
                  obtain ⟨c133, hc133⟩ : ∃ c1, c1 = c0 - (a4 : Int).toNat := ⟨_, rfl⟩
                  have hy133 : y641106.length = l0.length - (a4 : Int).toNat := (by rw [Ny641106.out, List.length_drop] <;> omega)
                  rw [show (l0).drop (a4 : Int).toNat = y641106 from Ny641106.out.symm] at hr133
                  replace hr133 : Kd.F (Kd.int .i64) _ _ A133 y641106.length y641106 := (by rw [hA133]; exact hr133)
                  rw [← hy133, ← hA133, ← hc133] at hcut133
                  have HO641110 := Aside0.mk (show Kd.V (Kd.int .i64) 2 _ w.heap.size _ (.slice A133 y641106.length c133) y641106 from Kd.V_mk (by rw [hy133, hc133]; exact Nat.sub_le_sub_right hroom133 _) hr133)
                  have HC641110 := Aside0.mk (show y641106.length ≤ c133 from by rw [hy133, hc133]; exact Nat.sub_le_sub_right hroom133 _)
                  clear hr133 hC133 hroom133 hi0133 hsz133 hc133
                  have KY133 := Aside0.mk hy133
                  have KA133 := Aside0.mk hA133
                  clear hy133 hA133
                  replace q133 := eq_true q133
                  obtain ⟨Ao134, co134, eo134⟩ := Kd.R_slice HO641071.out
                  (first | subst eo134 | (injection eo134 with f1_ f2_ f3_; have f4_ := f1_.symm; have f5_ := f3_.symm; clear f1_ f2_ f3_; subst f4_; subst f5_))
                  obtain ⟨Ao135, co135, eo135⟩ := Kd.R_slice HO641068.out
                  (first | subst eo135 | (injection eo135 with f1_ f2_ f3_; have f4_ := f1_.symm; have f5_ := f3_.symm; clear f1_ f2_ f3_; subst f4_; subst f5_))
                  refine start_ (n := 17) (S := fun w' => True) (ds := []) #[false, false, false, false, false, false, false, false, false, false, false, false, false, false, false, false, false] (by kernel_rfl) rfl rfl trivial (fun hHeld => ?_); refine with_tabW impl_MutateWord.tab12 impl_MutateWord.bits12 (fun HT_ HW_ => ?_)
                  generalize w129.drew = w130 at HO0 HO641004 HO641012 HO641017 HO641068 HO641071 HB HO641100 HO641105 HO641110 hHeld ⊢
                  refine pure_ (i := 0) (N := some 60) (v := ?_) (a' := ?_) #[true, false, false, false, false, false, false, false, false, false, false, false, false, false, false, false, false] rfl rfl (any_of HT_.out (by kernel_rfl)) (fun _ _ _ h => h) (Or.inl ⟨by rfl, ?_⟩) ?_ ?_
                  rotate_left
                  ·intro w'
                   go_simp
                   with_reducible rfl
                  rotate_left
                  ·simp only [Act.put, List.setIfInBounds_toArray, List.set_cons_zero, List.set_cons_succ, i64_w, i32_w]
                   rfl
                  refine pure_ (i := 1) (N := some 61) (v := ?_) (a' := ?_) #[true, true, false, false, false, false, false, false, false, false, false, false, false, false, false, false, false] rfl rfl (any_of HT_.out (by kernel_rfl)) (fun _ _ _ h => h) (Or.inl ⟨by rfl, ?_⟩) ?_ ?_
                  rotate_left
                  ·intro w'
                   go_simp
                   with_reducible rfl
                  rotate_left
                  ·simp only [Act.put, List.setIfInBounds_toArray, List.set_cons_zero, List.set_cons_succ, i64_w, i32_w]
                   rfl
                  refine pure_ (i := 2) (N := some 62) (v := ?_) (a' := ?_) #[true, true, true, false, false, false, false, false, false, false, false, false, false, false, false, false, false] rfl rfl (any_of HT_.out (by kernel_rfl)) (fun _ _ _ h => h) (Or.inl ⟨by rfl, ?_⟩) ?_ ?_
                  rotate_left
                  ·intro w'
                   go_simp
                   with_reducible rfl
                  rotate_left
                  ·simp only [Act.put, List.setIfInBounds_toArray, List.set_cons_zero, List.set_cons_succ, i64_w, i32_w]
                   rfl
                  refine pure_ (i := 3) (N := some 63) (v := ?_) (a' := ?_) #[true, true, true, true, false, false, false, false, false, false, false, false, false, false, false, false, false] rfl rfl (any_of HT_.out (by kernel_rfl)) (fun _ _ _ h => h) (Or.inl ⟨by rfl, ?_⟩) ?_ ?_
                  rotate_left
                  ·intro w'
                   go_simp
                   with_reducible rfl
                  rotate_left
                  ·simp only [Act.put, List.setIfInBounds_toArray, List.set_cons_zero, List.set_cons_succ, i64_w, i32_w]
                   rfl
                  refine pure_ (i := 4) (N := some 64) (v := ?_) (a' := ?_) #[true, true, true, true, true, false, false, false, false, false, false, false, false, false, false, false, false] rfl rfl (any_of HT_.out (by kernel_rfl)) (fun _ _ _ h => h) (Or.inl ⟨by rfl, ?_⟩) ?_ ?_
                  rotate_left
                  ·intro w'
                   go_simp
                   with_reducible rfl
                  rotate_left
                  ·simp only [Act.put, List.setIfInBounds_toArray, List.set_cons_zero, List.set_cons_succ, i64_w, i32_w]
                   rfl
                  refine pure_ (i := 5) (N := some 65) (v := ?_) (a' := ?_) #[true, true, true, true, true, true, false, false, false, false, false, false, false, false, false, false, false] rfl rfl (any_of HT_.out (by kernel_rfl)) (fun _ _ _ h => h) (Or.inl ⟨by rfl, ?_⟩) ?_ ?_
                  rotate_left
                  ·intro w'
                   go_simp
                   with_reducible rfl
                  rotate_left
                  ·simp only [Act.put, List.setIfInBounds_toArray, List.set_cons_zero, List.set_cons_succ, i64_w, i32_w]
                   rfl
                  refine pure_ (i := 6) (N := some 66) (v := ?_) (a' := ?_) #[true, true, true, true, true, true, true, false, false, false, false, false, false, false, false, false, false] rfl rfl (any_of HT_.out (by kernel_rfl)) (fun _ _ _ h => h) (Or.inl ⟨by rfl, ?_⟩) ?_ ?_
                  rotate_left
                  ·intro w'
                   go_simp
                   with_reducible rfl
                  rotate_left
                  ·simp only [Act.put, List.setIfInBounds_toArray, List.set_cons_zero, List.set_cons_succ, i64_w, i32_w]
                   rfl
                  refine pure_ (i := 7) (N := some 67) (v := ?_) (a' := ?_) #[true, true, true, true, true, true, true, true, false, false, false, false, false, false, false, false, false] rfl rfl (any_of HT_.out (by kernel_rfl)) (fun _ _ _ h => h) (Or.inl ⟨by rfl, ?_⟩) ?_ ?_
                  rotate_left
                  ·intro w'
                   go_simp
                   with_reducible rfl
                  rotate_left
                  ·simp only [Act.put, List.setIfInBounds_toArray, List.set_cons_zero, List.set_cons_succ, i64_w, i32_w]
                   rfl
                  refine pure_ (i := 8) (N := some 68) (v := ?_) (a' := ?_) #[true, true, true, true, true, true, true, true, true, false, false, false, false, false, false, false, false] rfl rfl (any_of HT_.out (by kernel_rfl)) (fun _ _ _ h => h) (Or.inl ⟨by rfl, ?_⟩) ?_ ?_
                  rotate_left
                  ·intro w'
                   go_simp
                   with_reducible rfl
                  rotate_left
                  ·simp only [Act.put, List.setIfInBounds_toArray, List.set_cons_zero, List.set_cons_succ, i64_w, i32_w]
                   rfl
                  refine pure_ (i := 9) (N := some 69) (v := ?_) (a' := ?_) #[true, true, true, true, true, true, true, true, true, true, false, false, false, false, false, false, false] rfl rfl (any_of HT_.out (by kernel_rfl)) (fun _ _ _ h => h) (Or.inl ⟨by rfl, ?_⟩) ?_ ?_
                  rotate_left
                  ·intro w'
                   go_simp
                   with_reducible rfl
                  rotate_left
                  ·simp only [Act.put, List.setIfInBounds_toArray, List.set_cons_zero, List.set_cons_succ, i64_w, i32_w]
                   rfl
                  refine pure_ (i := 10) (N := some 70) (v := ?_) (a' := ?_) #[true, true, true, true, true, true, true, true, true, true, true, false, false, false, false, false, false] rfl rfl (any_of HT_.out (by kernel_rfl)) (fun _ _ _ h => h) (Or.inl ⟨by rfl, ?_⟩) ?_ ?_
                  rotate_left
                  ·intro w'
                   go_simp
                   with_reducible rfl
                  rotate_left
                  ·simp only [Act.put, List.setIfInBounds_toArray, List.set_cons_zero, List.set_cons_succ, i64_w, i32_w]
                   rfl
                  refine pure_ (i := 11) (N := some 71) (v := ?_) (a' := ?_) #[true, true, true, true, true, true, true, true, true, true, true, true, false, false, false, false, false] rfl rfl (any_of HT_.out (by kernel_rfl)) (fun _ _ _ h => h) (Or.inl ⟨by rfl, ?_⟩) ?_ ?_
                  rotate_left
                  ·intro w'
                   go_simp
                   with_reducible rfl
                  rotate_left
                  ·simp only [Act.put, List.setIfInBounds_toArray, List.set_cons_zero, List.set_cons_succ, i64_w, i32_w]
                   rfl
                  refine one_ (i := 12) (N := some 72) #[true, true, true, true, true, true, true, true, true, true, true, true, true, false, false, false, false] rfl rfl (one_of HT_.out (by kernel_rfl)) (by decide) (fun K hK => ?_)
                  refine Kd.N_lit_step (Kd.slice 2 (Kd.int .i64)) _ 22 ?hg (N' := 72) ?hd (xs := ([y641096, t641069, y641101, t641066, y641106] : List (List Int))) (inner := [.slice A0 y641096.length c0, .slice Ao134 t641069.length co134, .slice A132 y641101.length c132, .slice Ao135 t641066.length co135, .slice A133 y641106.length c133]) (ok := (fun k_ => (P0_ k_ ∨ w.heap.size ≤ k_) ∧ some k_ ≠ (.slice Ao123 y641002.length co123 : Value).ownBlock)) (okp := (fun k_ => (P0_ k_ ∨ w.heap.size ≤ k_) ∧ some k_ ≠ (.slice Ao123 y641002.length co123 : Value).ownBlock)) ?hr ?hp (fun _ hk => hk) ((show ∀ k_, w130.heap.size ≤ k_ → (fun k_ => (P0_ k_ ∨ w.heap.size ≤ k_) ∧ some k_ ≠ (.slice Ao123 y641002.length co123 : Value).ownBlock) k_ from fun k_ hk => ⟨(.inr (Nat.le_trans (below_size (by repeat (first | (with_reducible first | exact HB.out | apply below_alloc | apply pw_below_drewN | apply below_drew1) | exact HB.out))) hk)), Kd.fresh' (Kd.R_lt (by (with_reducible repeat (first | apply Kd.R_alloc | apply Kd.R_drewN | apply Kd.R_drew)); exact HO641004.out)) k_ hk⟩) _ (Nat.le_refl _)) (Below.refl _ _) (Nat.le_refl _) (by simp) ?_; (case hd => rfl); (case hg => rfl); (case hr => first | (go_simp; done) | (go_simp; rfl)); (case hp => exact (Reps.one (show Kd.FK (Kd.slice 2 (Kd.int .i64)) _ _ y641096 [.slice A0 y641096.length c0] from (Kd.FK_slice_mk (Kd.V_reads' (Kd.V_mono (ok' := (fun k_ => (P0_ k_ ∨ w.heap.size ≤ k_) ∧ some k_ ≠ (.slice Ao123 y641002.length co123 : Value).ownBlock)) (HO641100.out) (fun k_ hk => ⟨hk.1.1.1, hk.1.1.2⟩))).2.1 (Kd.V_F (Kd.V_mono (ok' := (fun k_ => (P0_ k_ ∨ w.heap.size ≤ k_) ∧ some k_ ≠ (.slice Ao123 y641002.length co123 : Value).ownBlock)) (HO641100.out) (fun k_ hk => ⟨hk.1.1.1, hk.1.1.2⟩))))) (Reps.one (show Kd.FK (Kd.slice 2 (Kd.int .i64)) _ _ t641069 [.slice Ao134 t641069.length co134] from (Kd.FK_slice_mk (Kd.R_reads' (Kd.R_mono (ok' := (fun k_ => (P0_ k_ ∨ w.heap.size ≤ k_) ∧ some k_ ≠ (.slice Ao123 y641002.length co123 : Value).ownBlock)) (HO641071.out) (fun k_ hk => ⟨(.inr (hk.1.1.1)), hk.1.2⟩))).2.1 (Kd.R_F (Kd.R_mono (ok' := (fun k_ => (P0_ k_ ∨ w.heap.size ≤ k_) ∧ some k_ ≠ (.slice Ao123 y641002.length co123 : Value).ownBlock)) (HO641071.out) (fun k_ hk => ⟨(.inr (hk.1.1.1)), hk.1.2⟩))))) (Reps.one (show Kd.FK (Kd.slice 2 (Kd.int .i64)) _ _ y641101 [.slice A132 y641101.length c132] from (Kd.FK_slice_mk (Kd.V_reads' (Kd.V_mono (ok' := (fun k_ => (P0_ k_ ∨ w.heap.size ≤ k_) ∧ some k_ ≠ (.slice Ao123 y641002.length co123 : Value).ownBlock)) (HO641105.out) (fun k_ hk => ⟨hk.1.1.1, hk.1.1.2⟩))).2.1 (Kd.V_F (Kd.V_mono (ok' := (fun k_ => (P0_ k_ ∨ w.heap.size ≤ k_) ∧ some k_ ≠ (.slice Ao123 y641002.length co123 : Value).ownBlock)) (HO641105.out) (fun k_ hk => ⟨hk.1.1.1, hk.1.1.2⟩))))) (Reps.one (show Kd.FK (Kd.slice 2 (Kd.int .i64)) _ _ t641066 [.slice Ao135 t641066.length co135] from (Kd.FK_slice_mk (Kd.R_reads' (Kd.R_mono (ok' := (fun k_ => (P0_ k_ ∨ w.heap.size ≤ k_) ∧ some k_ ≠ (.slice Ao123 y641002.length co123 : Value).ownBlock)) (HO641068.out) (fun k_ hk => ⟨(.inr (hk.1.1.1)), hk.1.2⟩))).2.1 (Kd.R_F (Kd.R_mono (ok' := (fun k_ => (P0_ k_ ∨ w.heap.size ≤ k_) ∧ some k_ ≠ (.slice Ao123 y641002.length co123 : Value).ownBlock)) (HO641068.out) (fun k_ hk => ⟨(.inr (hk.1.1.1)), hk.1.2⟩))))) (Reps.one (show Kd.FK (Kd.slice 2 (Kd.int .i64)) _ _ y641106 [.slice A133 y641106.length c133] from (Kd.FK_slice_mk (Kd.V_reads' (Kd.V_mono (ok' := (fun k_ => (P0_ k_ ∨ w.heap.size ≤ k_) ∧ some k_ ≠ (.slice Ao123 y641002.length co123 : Value).ownBlock)) (HO641110.out) (fun k_ hk => ⟨hk.1.1.1, hk.1.1.2⟩))).2.1 (Kd.V_F (Kd.V_mono (ok' := (fun k_ => (P0_ k_ ∨ w.heap.size ≤ k_) ∧ some k_ ≠ (.slice Ao123 y641002.length co123 : Value).ownBlock)) (HO641110.out) (fun k_ hk => ⟨hk.1.1.1, hk.1.1.2⟩))))) (Reps.none _ _)))))))
                  intro v641112 w136 ho137 hb hg_ hnew_
                  clear hg_ hnew_
                  (first | rw [← Ny641111.out] at ho137 | (simp only [Int.reduceToNat] at ho137; rw [← Ny641111.out] at ho137))
                  have n0_ := Aside0.mk (Kd.V_elder' (by (with_reducible repeat (first | apply Kd.V_alloc | apply Kd.V_drewN | apply Kd.V_drew)); exact HO0.out) (Kd.N_base ho137) hb)
                  have n1_ := Aside0.mk (Kd.R_below (by (with_reducible repeat (first | apply Kd.R_alloc | apply Kd.R_drewN | apply Kd.R_drew)); exact HO641004.out) hb)
                  have n2_ := Aside0.mk (Kd.V_elder' (by (with_reducible repeat (first | apply Kd.V_alloc | apply Kd.V_drewN | apply Kd.V_drew)); exact HO641012.out) (Kd.N_base ho137) hb)
                  have n3_ := Aside0.mk (Kd.V_elder' (by (with_reducible repeat (first | apply Kd.V_alloc | apply Kd.V_drewN | apply Kd.V_drew)); exact HO641017.out) (Kd.N_base ho137) hb)
                  have n4_ := Aside0.mk (Kd.V_elder' (by (with_reducible repeat (first | apply Kd.V_alloc | apply Kd.V_drewN | apply Kd.V_drew)); exact HO641100.out) (Kd.N_base ho137) hb)
                  have n5_ := Aside0.mk (Kd.V_elder' (by (with_reducible repeat (first | apply Kd.V_alloc | apply Kd.V_drewN | apply Kd.V_drew)); exact HO641105.out) (Kd.N_base ho137) hb)
                  have n6_ := Aside0.mk (Kd.V_elder' (by (with_reducible repeat (first | apply Kd.V_alloc | apply Kd.V_drewN | apply Kd.V_drew)); exact HO641110.out) (Kd.N_base ho137) hb)
                  have n7_ := Aside0.mk (Kd.N_lower ho137 (below_size (by repeat (first | (with_reducible first | exact HB.out | apply below_alloc | apply pw_below_drewN | apply below_drew1) | exact HB.out))))
                  have n8_ := Aside0.mk (below_step (by repeat (first | (with_reducible first | exact HB.out | apply below_alloc | apply pw_below_drewN | apply below_drew1) | exact HB.out)) hb)
                  clear HO0
                  clear HO641004
                  clear HO641012
                  clear HO641017
                  clear HO641100
                  clear HO641105
                  clear HO641110
                  clear HB
                  clear HO641068
                  clear HO641071
                  have HO0 := n0_
                  have HO641004 := n1_
                  have HO641012 := n2_
                  have HO641017 := n3_
                  have HO641100 := n4_
                  have HO641105 := n5_
                  have HO641110 := n6_
                  have HO641113 := n7_
                  have HB := n8_
                  clear n0_ n1_ n2_ n3_ n4_ n5_ n6_ n7_ n8_
                  clear hb ho137
                  obtain ⟨Ao138, co138, eo138⟩ := Kd.N_slice HO641113.out
                  (first | subst eo138 | (injection eo138 with f1_ f2_ f3_; have f4_ := f1_.symm; have f5_ := f3_.symm; clear f1_ f2_ f3_; subst f4_; subst f5_))
                  refine hK.out _ _ trivial (fun hHeld => ?_)
                  clear hK K
                  refine norm_ (a' := ?_) ?_ ?_
                  rotate_left
                  ·show Act.put _ (some 72) _ = _
                   simp only [Act.put, List.setIfInBounds_toArray, List.set_cons_zero, List.set_cons_succ, i64_w, i32_w]
                   rfl
                  refine one_ (i := 13) (N := some 73) #[true, true, true, true, true, true, true, true, true, true, true, true, true, true, false, false, false] rfl rfl (one_of HT_.out (by kernel_rfl)) (by decide) (fun K hK => ?_)
                  refine goes_ Try.func106 (by kernel_rfl) rfl #[.slice Ao138 y641111.length co138] (by rfl) rfl rfl (by (try simp only [List.map_toArray, List.map_cons, List.map_nil]); first | done | rfl | (simp only [List.length_drop, List.length_take]; rfl)) ?_
                  with_reducible refine (slices_Concat_int64_int64.calls _ _ y641111 t641114 _ ?side1 ?side2 A118.out).mono ?_
                  (case side1 => repeat (first | exact (Kd.N_reads' HO641113.out).2.2 | (with_reducible refine Kd.C_alloc ?_ _) | (with_reducible refine Kd.C_drewN ?_ _) | (with_reducible refine Kd.C_drew ?_)))
                  (case side2 => exact (Kd.N_reads' HO641113.out).2.1)
                  rintro e w139 ⟨v641115, rfl, ho0, hb⟩
                  refine ⟨_, rfl, ?_⟩
                  have n0_ := Aside0.mk (Kd.V_elder' (by (with_reducible repeat (first | apply Kd.V_alloc | apply Kd.V_drewN | apply Kd.V_drew)); exact HO0.out) (Kd.R_base ho0) hb)
                  have n1_ := Aside0.mk (Kd.R_elder' (by (with_reducible repeat (first | apply Kd.R_alloc | apply Kd.R_drewN | apply Kd.R_drew)); exact HO641004.out) (Kd.R_base ho0) hb)
                  have n2_ := Aside0.mk (Kd.V_elder' (by (with_reducible repeat (first | apply Kd.V_alloc | apply Kd.V_drewN | apply Kd.V_drew)); exact HO641012.out) (Kd.R_base ho0) hb)
                  have n3_ := Aside0.mk (Kd.V_elder' (by (with_reducible repeat (first | apply Kd.V_alloc | apply Kd.V_drewN | apply Kd.V_drew)); exact HO641017.out) (Kd.R_base ho0) hb)
                  have n4_ := Aside0.mk (Kd.V_elder' (by (with_reducible repeat (first | apply Kd.V_alloc | apply Kd.V_drewN | apply Kd.V_drew)); exact HO641100.out) (Kd.R_base ho0) hb)
                  have n5_ := Aside0.mk (Kd.V_elder' (by (with_reducible repeat (first | apply Kd.V_alloc | apply Kd.V_drewN | apply Kd.V_drew)); exact HO641105.out) (Kd.R_base ho0) hb)
                  have n6_ := Aside0.mk (Kd.V_elder' (by (with_reducible repeat (first | apply Kd.V_alloc | apply Kd.V_drewN | apply Kd.V_drew)); exact HO641110.out) (Kd.R_base ho0) hb)
                  have n7_ := Aside0.mk (Kd.N_elder' (by (with_reducible repeat (first | apply Kd.N_alloc | apply Kd.N_drewN | apply Kd.N_drew)); exact HO641113.out) (Kd.R_base ho0) hb)
                  have n8_ := Aside0.mk (Kd.R_lower (Kd.R_new' (Kd.R_newM (M := fun k_ => (w.heap.size ≤ k_)) ho0 (below_size (by repeat (first | (with_reducible first | exact HB.out | apply below_alloc | apply pw_below_drewN | apply below_drew1) | exact HB.out))) (fun k_ h_ => h_)) (Kd.R_lt (by (with_reducible repeat (first | apply Kd.R_alloc | apply Kd.R_drewN | apply Kd.R_drew)); exact HO641004.out))) (below_size (by repeat (first | (with_reducible first | exact HB.out | apply below_alloc | apply pw_below_drewN | apply below_drew1) | exact HB.out))))
                  have n9_ := Aside0.mk (below_step (by repeat (first | (with_reducible first | exact HB.out | apply below_alloc | apply pw_below_drewN | apply below_drew1) | exact HB.out)) hb)
                  clear HO0
                  clear HO641004
                  clear HO641012
                  clear HO641017
                  clear HO641100
                  clear HO641105
                  clear HO641110
                  clear HO641113
                  clear HB
                  have HO0 := n0_
                  have HO641004 := n1_
                  have HO641012 := n2_
                  have HO641017 := n3_
                  have HO641100 := n4_
                  have HO641105 := n5_
                  have HO641110 := n6_
                  have HO641113 := n7_
                  have HO641116 := n8_
                  have HB := n9_
                  clear n0_ n1_ n2_ n3_ n4_ n5_ n6_ n7_ n8_ n9_
                  (try clear hb)
                  (try clear hb2)
                  (try clear hk)
                  (try clear hi)
                  (try clear ho0)
                  obtain ⟨Ao140, co140, eo140⟩ := Kd.R_slice HO641116.out
                  (first | subst eo140 | (injection eo140 with f1_ f2_ f3_; have f4_ := f1_.symm; have f5_ := f3_.symm; clear f1_ f2_ f3_; subst f4_; subst f5_))
                  refine hK.out _ _ trivial (fun hHeld => ?_)
                  clear hK K
                  refine norm_ (a' := ?_) ?_ ?_
                  rotate_left
                  ·show Act.put _ (some 73) _ = _
                   simp only [Act.put, List.setIfInBounds_toArray, List.set_cons_zero, List.set_cons_succ, i64_w, i32_w]
                   rfl
                  refine one_ (i := 14) (N := some 74) #[true, true, true, true, true, true, true, true, true, true, true, true, true, true, true, false, false] rfl rfl (one_of HT_.out (by kernel_rfl)) (by decide) (fun K hK => ?_)
                  refine goes_ Try.func105 (by kernel_rfl) rfl #[.slice Ao140 t641114.length co140] (by rfl) rfl rfl (by (try simp only [List.map_toArray, List.map_cons, List.map_nil]); first | done | rfl | (simp only [List.length_drop, List.length_take]; rfl)) ?_
                  with_reducible refine (impl_normal.calls _ _ t641114 t641117 _ ?side1 ?side2 A119.out).mono ?_
                  (case side1 => repeat (first | exact (Kd.R_reads' HO641116.out).2.2 | (with_reducible refine Kd.C_alloc ?_ _) | (with_reducible refine Kd.C_drewN ?_ _) | (with_reducible refine Kd.C_drew ?_)))
                  (case side2 => exact (Kd.R_reads' HO641116.out).2.1)
                  rintro e w141 ⟨v641118, rfl, ho0, hb⟩
                  refine ⟨_, rfl, ?_⟩
                  have n0_ := Aside0.mk (Kd.V_elder' (by (with_reducible repeat (first | apply Kd.V_alloc | apply Kd.V_drewN | apply Kd.V_drew)); exact HO0.out) (Kd.R_base ho0) hb)
                  have n1_ := Aside0.mk (Kd.R_elder' (by (with_reducible repeat (first | apply Kd.R_alloc | apply Kd.R_drewN | apply Kd.R_drew)); exact HO641004.out) (Kd.R_base ho0) hb)
                  have n2_ := Aside0.mk (Kd.V_elder' (by (with_reducible repeat (first | apply Kd.V_alloc | apply Kd.V_drewN | apply Kd.V_drew)); exact HO641012.out) (Kd.R_base ho0) hb)
                  have n3_ := Aside0.mk (Kd.V_elder' (by (with_reducible repeat (first | apply Kd.V_alloc | apply Kd.V_drewN | apply Kd.V_drew)); exact HO641017.out) (Kd.R_base ho0) hb)
                  have n4_ := Aside0.mk (Kd.V_elder' (by (with_reducible repeat (first | apply Kd.V_alloc | apply Kd.V_drewN | apply Kd.V_drew)); exact HO641100.out) (Kd.R_base ho0) hb)
                  have n5_ := Aside0.mk (Kd.V_elder' (by (with_reducible repeat (first | apply Kd.V_alloc | apply Kd.V_drewN | apply Kd.V_drew)); exact HO641105.out) (Kd.R_base ho0) hb)
                  have n6_ := Aside0.mk (Kd.V_elder' (by (with_reducible repeat (first | apply Kd.V_alloc | apply Kd.V_drewN | apply Kd.V_drew)); exact HO641110.out) (Kd.R_base ho0) hb)
                  have n7_ := Aside0.mk (Kd.N_elder' (by (with_reducible repeat (first | apply Kd.N_alloc | apply Kd.N_drewN | apply Kd.N_drew)); exact HO641113.out) (Kd.R_base ho0) hb)
                  have n8_ := Aside0.mk (Kd.R_elder' (by (with_reducible repeat (first | apply Kd.R_alloc | apply Kd.R_drewN | apply Kd.R_drew)); exact HO641116.out) (Kd.R_base ho0) hb)
                  have n9_ := Aside0.mk (Kd.R_lower (Kd.R_new' (Kd.R_new' (Kd.R_newM (M := fun k_ => (w.heap.size ≤ k_)) ho0 (below_size (by repeat (first | (with_reducible first | exact HB.out | apply below_alloc | apply pw_below_drewN | apply below_drew1) | exact HB.out))) (fun k_ h_ => h_)) (Kd.R_lt (by (with_reducible repeat (first | apply Kd.R_alloc | apply Kd.R_drewN | apply Kd.R_drew)); exact HO641004.out))) (Kd.R_lt (by (with_reducible repeat (first | apply Kd.R_alloc | apply Kd.R_drewN | apply Kd.R_drew)); exact HO641116.out))) (below_size (by repeat (first | (with_reducible first | exact HB.out | apply below_alloc | apply pw_below_drewN | apply below_drew1) | exact HB.out))))
                  have n10_ := Aside0.mk (below_step (by repeat (first | (with_reducible first | exact HB.out | apply below_alloc | apply pw_below_drewN | apply below_drew1) | exact HB.out)) hb)
                  clear HO0
                  clear HO641004
                  clear HO641012
                  clear HO641017
                  clear HO641100
                  clear HO641105
                  clear HO641110
                  clear HO641113
                  clear HO641116
                  clear HB
                  have HO0 := n0_
                  have HO641004 := n1_
                  have HO641012 := n2_
                  have HO641017 := n3_
                  have HO641100 := n4_
                  have HO641105 := n5_
                  have HO641110 := n6_
                  have HO641113 := n7_
                  have HO641116 := n8_
                  have HO641119 := n9_
                  have HB := n10_
                  clear n0_ n1_ n2_ n3_ n4_ n5_ n6_ n7_ n8_ n9_ n10_
                  (try clear hb)
                  (try clear hb2)
                  (try clear hk)
                  (try clear hi)
                  (try clear ho0)
                  refine hK.out _ _ trivial (fun hHeld => ?_)
                  clear hK K
                  refine norm_ (a' := ?_) ?_ ?_
                  rotate_left
                  ·show Act.put _ (some 74) _ = _
                   simp only [Act.put, List.setIfInBounds_toArray, List.set_cons_zero, List.set_cons_succ, i64_w, i32_w]
                   rfl
                  refine pure_ (i := 15) (N := some 12) (v := ?_) (a' := ?_) #[true, true, true, true, true, true, true, true, true, true, true, true, true, true, true, true, false] rfl rfl (any_of HT_.out (by kernel_rfl)) (fun _ _ _ h => h) (Or.inl ⟨by rfl, ?_⟩) ?_ ?_
                  rotate_left
                  ·intro w'
                   go_simp
                   with_reducible rfl
                  rotate_left
                  ·simp only [Act.put, List.setIfInBounds_toArray, List.set_cons_zero, List.set_cons_succ, i64_w, i32_w]
                   rfl
                  refine pure_ (i := 16) (N := some 13) (v := ?_) (a' := ?_) #[true, true, true, true, true, true, true, true, true, true, true, true, true, true, true, true, true] rfl rfl (any_of HT_.out (by kernel_rfl)) (fun _ _ _ h => h) (Or.inl ⟨by rfl, ?_⟩) ?_ ?_
                  rotate_left
                  ·intro w'
                   go_simp
                   with_reducible rfl
                  rotate_left
                  ·simp only [Act.put, List.setIfInBounds_toArray, List.set_cons_zero, List.set_cons_succ, i64_w, i32_w]
                   rfl
                  refine done_ (done_of HT_.out (by kernel_rfl)) ?_
                  try go_wp2
                  go_ret2
                  exact ⟨_, by first | rfl | (simp [errW_none, errW_some] <;> rfl) | (simp [*, errW_none, errW_some] <;> rfl), by (with_reducible repeat (first | apply Kd.R_alloc | apply Kd.R_drewN | apply Kd.R_drew)); exact Kd.R_mono HO641119.out (fun _ hk => hk.1.1.1), by repeat (first | (with_reducible first | exact HB.out | apply below_alloc | apply pw_below_drewN | apply below_drew1) | exact HB.out)⟩
                 ·rw [if_neg c116] at H
                  exact absurd H (by simp)
                ·rw [if_neg c115] at H
                 exact absurd H (by simp)
               ·rw [if_neg c114] at H
                exact absurd H (by simp)
              ·rw [if_neg c113] at H
               exact absurd H (by simp)
             ·rw [if_neg c112] at H
              exact absurd H (by simp)
          ·rw [if_neg c20] at H
           exact absurd H (by simp)
         ·rw [if_neg c19] at H
          exact absurd H (by simp)
        ·rw [if_neg c18] at H
         exact absurd H (by simp)
       ·rw [if_neg c17] at H
        exact absurd H (by simp)
      ·rw [if_neg c16] at H
       exact absurd H (by simp)
     ·rw [if_neg c15] at H
      exact absurd H (by simp)
    ·replace c14 := Bool.eq_false_iff.mpr c14
     subst c14
     have H1 : (some (([] : List Int), 5)) = some (r1, r2) := by rw [if_neg (show ¬ (false = true) by decide)] at H; exact H
     clear H
     have H := H1
     clear H1
     simp only [Option.some.injEq, Prod.mk.injEq] at H
     obtain ⟨rfl, rfl⟩ := H
     go_enter Try.func64, Try.ntmps64
     go_wp2_with (first | ((with_reducible refine gate_callee (f := 84) rfl ?_); refine goesL_ (some 18) rfl rfl Try.func84 (by kernel_rfl) rfl #[.slice A0 l0.length c0] rfl (by (try simp only [List.map_toArray, List.map_cons, List.map_nil]); first | done | rfl | (simp only [List.length_drop, List.length_take]; rfl)) ?_; (with_reducible refine (impl_IsWord.calls k _ _ l0 true _ ?side1 ?side2 A7.out).mono ?_); (case side1 => repeat (first | exact (Kd.V_reads' HO0.out).2.2 | (with_reducible refine Kd.C_alloc ?_ _) | (with_reducible refine Kd.C_drewN ?_ _) | (with_reducible refine Kd.C_drew ?_))); (case side2 => exact (Kd.V_reads' HO0.out).2.1); rintro e w142 ⟨rfl, hb⟩; refine ⟨_, rfl, ?_⟩; have n0_ := Aside0.mk (Kd.V_below (by (with_reducible repeat (first | apply Kd.V_alloc | apply Kd.V_drewN | apply Kd.V_drew)); exact HO0.out) hb); have n1_ := Aside0.mk (below_step (by repeat (first | (with_reducible first | exact HB.out | apply below_alloc | apply pw_below_drewN | apply below_drew1) | exact HB.out)) hb); clear HO0; clear HB; have HO0 := n0_; have HB := n1_; clear n0_ n1_; (try clear hb); (try clear hb2); (try clear hk); (try clear hi)) | ((with_reducible refine gate_dst (N := 26) rfl ?_); refine Kd.R_lit (Kd.int .i64) _ 2 ?hg (N := 26) ?hd (xs := ([a1, a2, a3, a4] : List Int)) (inner := [.int .i64 a1, .int .i64 a2, .int .i64 a3, .int .i64 a4]) (ok := fun _ => True) (okp := fun _ => True) ?hr ?hp (fun _ hk => hk) trivial (Below.refl _ _) (Nat.le_refl _) (by simp) ?_; (case hd => rfl); (case hg => rfl); (case hr => first | (go_simp; done) | (go_simp; rfl)); (case hp => exact (Reps.one (show Kd.M (Kd.int .i64) _ _ _ a1 [.int .i64 a1] from rfl) (Reps.one (show Kd.M (Kd.int .i64) _ _ _ a2 [.int .i64 a2] from rfl) (Reps.one (show Kd.M (Kd.int .i64) _ _ _ a3 [.int .i64 a3] from rfl) (Reps.one (show Kd.M (Kd.int .i64) _ _ _ a4 [.int .i64 a4] from rfl) (Reps.none _ _)))))); intro v641003 w143 ho144 hb hg_ hnew_; clear hg_ hnew_; (first | rw [← Ny641002.out] at ho144 | (simp only [Int.reduceToNat] at ho144; rw [← Ny641002.out] at ho144)); have n0_ := Aside0.mk (Kd.V_elder' (by (with_reducible repeat (first | apply Kd.V_alloc | apply Kd.V_drewN | apply Kd.V_drew)); exact HO0.out) (Kd.R_base ho144) hb); have n1_ := Aside0.mk (Kd.R_lower (Kd.R_newM (M := fun k_ => (w.heap.size ≤ k_)) ho144 (below_size (by repeat (first | (with_reducible first | exact HB.out | apply below_alloc | apply pw_below_drewN | apply below_drew1) | exact HB.out))) (fun k_ h_ => h_)) (below_size (by repeat (first | (with_reducible first | exact HB.out | apply below_alloc | apply pw_below_drewN | apply below_drew1) | exact HB.out)))); have n2_ := Aside0.mk (below_step (by repeat (first | (with_reducible first | exact HB.out | apply below_alloc | apply pw_below_drewN | apply below_drew1) | exact HB.out)) hb); clear HO0; clear HB; have HO0 := n0_; have HO641004 := n1_; have HB := n2_; clear n0_ n1_ n2_; clear hb ho144; obtain ⟨Ao145, co145, eo145⟩ := Kd.R_slice HO641004.out; subst eo145) | ((with_reducible refine gate_callee (f := 88) rfl ?_); refine goesL_ (some 27) rfl rfl Try.func88 (by kernel_rfl) rfl #[.slice A0 l0.length c0, .slice Ao145 y641002.length co145] rfl (by (try simp only [List.map_toArray, List.map_cons, List.map_nil]); first | done | rfl | (simp only [List.length_drop, List.length_take]; rfl)) ?_; (with_reducible refine (impl_placesOk.calls k _ _ l0 _ _ y641002 true _ ?side1 ?side2 ?side3 ?side4 A9.out).mono ?_); (case side1 => repeat (first | exact (Kd.V_reads' HO0.out).2.2 | (with_reducible refine Kd.C_alloc ?_ _) | (with_reducible refine Kd.C_drewN ?_ _) | (with_reducible refine Kd.C_drew ?_))); (case side2 => exact (Kd.V_reads' HO0.out).2.1); (case side3 => repeat (first | exact (Kd.R_reads' HO641004.out).2.2 | (with_reducible refine Kd.C_alloc ?_ _) | (with_reducible refine Kd.C_drewN ?_ _) | (with_reducible refine Kd.C_drew ?_))); (case side4 => exact (Kd.R_reads' HO641004.out).2.1); rintro e w' ⟨rfl, ⟨nd, rfl⟩⟩; refine ⟨_, rfl, ?_⟩) | (go_at_call 81; (with_reducible refine (impl_in.calls a5 0 2 true _ A11.out).mono ?_); rintro e w' ⟨rfl, ⟨nd, rfl⟩⟩) | ((with_reducible refine gate_callee (f := 89) rfl ?_); refine goesL_ (some 40) rfl rfl Try.func89 (by kernel_rfl) rfl #[.slice A0 l0.length c0, .int .i64 a1, .int .i64 a2, .int .i64 a3, .int .i64 a4] rfl (by (try simp only [List.map_toArray, List.map_cons, List.map_nil]); first | done | rfl | (simp only [List.length_drop, List.length_take]; rfl)) ?_; (with_reducible refine (impl_isShare.calls (fun k_ => ((P0_ k_ ∨ w.heap.size ≤ k_) ∧ some k_ ≠ (.slice Ao145 y641002.length co145 : Value).ownBlock)) _ _ l0 a1 a2 a3 a4 false _ ?side1 A13.out).mono ?_); (case side1 => exact HO0.out); rintro e w146 ⟨rfl, hb⟩; refine ⟨_, rfl, ?_⟩; have n0_ := Aside0.mk (Kd.V_below (by (with_reducible repeat (first | apply Kd.V_alloc | apply Kd.V_drewN | apply Kd.V_drew)); exact HO0.out) hb); have n1_ := Aside0.mk (Kd.R_below (by (with_reducible repeat (first | apply Kd.R_alloc | apply Kd.R_drewN | apply Kd.R_drew)); exact HO641004.out) hb); have n2_ := Aside0.mk (below_step (by repeat (first | (with_reducible first | exact HB.out | apply below_alloc | apply pw_below_drewN | apply below_drew1) | exact HB.out)) hb); clear HO0; clear HO641004; clear HB; have HO0 := n0_; have HO641004 := n1_; have HB := n2_; clear n0_ n1_ n2_; (try clear hb); (try clear hb2); (try clear hk); (try clear hi)))
     go_ret2
     exact ⟨_, by first | rfl | (simp [errW_none, errW_some] <;> rfl) | (simp [*, errW_none, errW_some] <;> rfl), by first | exact Kd.R_nil _ _ _ _ _ | exact Kd.N_nil _ _ _ _ _ | exact Kd.V_nil _ _ _ _ _ | exact Kd.Q_nil _ _ _ _ _ | exact Kd.S_nil _ _ _ _ _, by repeat (first | (with_reducible first | exact HB.out | apply below_alloc | apply pw_below_drewN | apply below_drew1) | exact HB.out)⟩
   ·replace c12 := Bool.eq_false_iff.mpr c12
    subst c12
    have H1 : (some (([] : List Int), 2)) = some (r1, r2) := by rw [if_neg (show ¬ (false = true) by decide)] at H; exact H
    clear H
    have H := H1
    clear H1
    simp only [Option.some.injEq, Prod.mk.injEq] at H
    obtain ⟨rfl, rfl⟩ := H
    go_enter Try.func64, Try.ntmps64
    go_wp2_with (first | ((with_reducible refine gate_callee (f := 84) rfl ?_); refine goesL_ (some 18) rfl rfl Try.func84 (by kernel_rfl) rfl #[.slice A0 l0.length c0] rfl (by (try simp only [List.map_toArray, List.map_cons, List.map_nil]); first | done | rfl | (simp only [List.length_drop, List.length_take]; rfl)) ?_; (with_reducible refine (impl_IsWord.calls k _ _ l0 true _ ?side1 ?side2 A7.out).mono ?_); (case side1 => repeat (first | exact (Kd.V_reads' HO0.out).2.2 | (with_reducible refine Kd.C_alloc ?_ _) | (with_reducible refine Kd.C_drewN ?_ _) | (with_reducible refine Kd.C_drew ?_))); (case side2 => exact (Kd.V_reads' HO0.out).2.1); rintro e w147 ⟨rfl, hb⟩; refine ⟨_, rfl, ?_⟩; have n0_ := Aside0.mk (Kd.V_below (by (with_reducible repeat (first | apply Kd.V_alloc | apply Kd.V_drewN | apply Kd.V_drew)); exact HO0.out) hb); have n1_ := Aside0.mk (below_step (by repeat (first | (with_reducible first | exact HB.out | apply below_alloc | apply pw_below_drewN | apply below_drew1) | exact HB.out)) hb); clear HO0; clear HB; have HO0 := n0_; have HB := n1_; clear n0_ n1_; (try clear hb); (try clear hb2); (try clear hk); (try clear hi)) | ((with_reducible refine gate_dst (N := 26) rfl ?_); refine Kd.R_lit (Kd.int .i64) _ 2 ?hg (N := 26) ?hd (xs := ([a1, a2, a3, a4] : List Int)) (inner := [.int .i64 a1, .int .i64 a2, .int .i64 a3, .int .i64 a4]) (ok := fun _ => True) (okp := fun _ => True) ?hr ?hp (fun _ hk => hk) trivial (Below.refl _ _) (Nat.le_refl _) (by simp) ?_; (case hd => rfl); (case hg => rfl); (case hr => first | (go_simp; done) | (go_simp; rfl)); (case hp => exact (Reps.one (show Kd.M (Kd.int .i64) _ _ _ a1 [.int .i64 a1] from rfl) (Reps.one (show Kd.M (Kd.int .i64) _ _ _ a2 [.int .i64 a2] from rfl) (Reps.one (show Kd.M (Kd.int .i64) _ _ _ a3 [.int .i64 a3] from rfl) (Reps.one (show Kd.M (Kd.int .i64) _ _ _ a4 [.int .i64 a4] from rfl) (Reps.none _ _)))))); intro v641003 w148 ho149 hb hg_ hnew_; clear hg_ hnew_; (first | rw [← Ny641002.out] at ho149 | (simp only [Int.reduceToNat] at ho149; rw [← Ny641002.out] at ho149)); have n0_ := Aside0.mk (Kd.V_elder' (by (with_reducible repeat (first | apply Kd.V_alloc | apply Kd.V_drewN | apply Kd.V_drew)); exact HO0.out) (Kd.R_base ho149) hb); have n1_ := Aside0.mk (Kd.R_lower (Kd.R_newM (M := fun k_ => (w.heap.size ≤ k_)) ho149 (below_size (by repeat (first | (with_reducible first | exact HB.out | apply below_alloc | apply pw_below_drewN | apply below_drew1) | exact HB.out))) (fun k_ h_ => h_)) (below_size (by repeat (first | (with_reducible first | exact HB.out | apply below_alloc | apply pw_below_drewN | apply below_drew1) | exact HB.out)))); have n2_ := Aside0.mk (below_step (by repeat (first | (with_reducible first | exact HB.out | apply below_alloc | apply pw_below_drewN | apply below_drew1) | exact HB.out)) hb); clear HO0; clear HB; have HO0 := n0_; have HO641004 := n1_; have HB := n2_; clear n0_ n1_ n2_; clear hb ho149; obtain ⟨Ao150, co150, eo150⟩ := Kd.R_slice HO641004.out; subst eo150) | ((with_reducible refine gate_callee (f := 88) rfl ?_); refine goesL_ (some 27) rfl rfl Try.func88 (by kernel_rfl) rfl #[.slice A0 l0.length c0, .slice Ao150 y641002.length co150] rfl (by (try simp only [List.map_toArray, List.map_cons, List.map_nil]); first | done | rfl | (simp only [List.length_drop, List.length_take]; rfl)) ?_; (with_reducible refine (impl_placesOk.calls k _ _ l0 _ _ y641002 true _ ?side1 ?side2 ?side3 ?side4 A9.out).mono ?_); (case side1 => repeat (first | exact (Kd.V_reads' HO0.out).2.2 | (with_reducible refine Kd.C_alloc ?_ _) | (with_reducible refine Kd.C_drewN ?_ _) | (with_reducible refine Kd.C_drew ?_))); (case side2 => exact (Kd.V_reads' HO0.out).2.1); (case side3 => repeat (first | exact (Kd.R_reads' HO641004.out).2.2 | (with_reducible refine Kd.C_alloc ?_ _) | (with_reducible refine Kd.C_drewN ?_ _) | (with_reducible refine Kd.C_drew ?_))); (case side4 => exact (Kd.R_reads' HO641004.out).2.1); rintro e w' ⟨rfl, ⟨nd, rfl⟩⟩; refine ⟨_, rfl, ?_⟩) | (go_at_call 81; (with_reducible refine (impl_in.calls a5 0 2 false _ A11.out).mono ?_); rintro e w' ⟨rfl, ⟨nd, rfl⟩⟩))
    go_ret2
    exact ⟨_, by first | rfl | (simp [errW_none, errW_some] <;> rfl) | (simp [*, errW_none, errW_some] <;> rfl), by first | exact Kd.R_nil _ _ _ _ _ | exact Kd.N_nil _ _ _ _ _ | exact Kd.V_nil _ _ _ _ _ | exact Kd.Q_nil _ _ _ _ _ | exact Kd.S_nil _ _ _ _ _, by repeat (first | (with_reducible first | exact HB.out | apply below_alloc | apply pw_below_drewN | apply below_drew1) | exact HB.out)⟩
  ·replace c10 := Bool.eq_false_iff.mpr c10
   subst c10
   have H1 : (some (([] : List Int), 2)) = some (r1, r2) := by rw [if_neg (show ¬ (false = true) by decide)] at H; exact H
   clear H
   have H := H1
   clear H1
   simp only [Option.some.injEq, Prod.mk.injEq] at H
   obtain ⟨rfl, rfl⟩ := H
   go_enter Try.func64, Try.ntmps64
   go_wp2_with (first | ((with_reducible refine gate_callee (f := 84) rfl ?_); refine goesL_ (some 18) rfl rfl Try.func84 (by kernel_rfl) rfl #[.slice A0 l0.length c0] rfl (by (try simp only [List.map_toArray, List.map_cons, List.map_nil]); first | done | rfl | (simp only [List.length_drop, List.length_take]; rfl)) ?_; (with_reducible refine (impl_IsWord.calls k _ _ l0 true _ ?side1 ?side2 A7.out).mono ?_); (case side1 => repeat (first | exact (Kd.V_reads' HO0.out).2.2 | (with_reducible refine Kd.C_alloc ?_ _) | (with_reducible refine Kd.C_drewN ?_ _) | (with_reducible refine Kd.C_drew ?_))); (case side2 => exact (Kd.V_reads' HO0.out).2.1); rintro e w151 ⟨rfl, hb⟩; refine ⟨_, rfl, ?_⟩; have n0_ := Aside0.mk (Kd.V_below (by (with_reducible repeat (first | apply Kd.V_alloc | apply Kd.V_drewN | apply Kd.V_drew)); exact HO0.out) hb); have n1_ := Aside0.mk (below_step (by repeat (first | (with_reducible first | exact HB.out | apply below_alloc | apply pw_below_drewN | apply below_drew1) | exact HB.out)) hb); clear HO0; clear HB; have HO0 := n0_; have HB := n1_; clear n0_ n1_; (try clear hb); (try clear hb2); (try clear hk); (try clear hi)) | ((with_reducible refine gate_dst (N := 26) rfl ?_); refine Kd.R_lit (Kd.int .i64) _ 2 ?hg (N := 26) ?hd (xs := ([a1, a2, a3, a4] : List Int)) (inner := [.int .i64 a1, .int .i64 a2, .int .i64 a3, .int .i64 a4]) (ok := fun _ => True) (okp := fun _ => True) ?hr ?hp (fun _ hk => hk) trivial (Below.refl _ _) (Nat.le_refl _) (by simp) ?_; (case hd => rfl); (case hg => rfl); (case hr => first | (go_simp; done) | (go_simp; rfl)); (case hp => exact (Reps.one (show Kd.M (Kd.int .i64) _ _ _ a1 [.int .i64 a1] from rfl) (Reps.one (show Kd.M (Kd.int .i64) _ _ _ a2 [.int .i64 a2] from rfl) (Reps.one (show Kd.M (Kd.int .i64) _ _ _ a3 [.int .i64 a3] from rfl) (Reps.one (show Kd.M (Kd.int .i64) _ _ _ a4 [.int .i64 a4] from rfl) (Reps.none _ _)))))); intro v641003 w152 ho153 hb hg_ hnew_; clear hg_ hnew_; (first | rw [← Ny641002.out] at ho153 | (simp only [Int.reduceToNat] at ho153; rw [← Ny641002.out] at ho153)); have n0_ := Aside0.mk (Kd.V_elder' (by (with_reducible repeat (first | apply Kd.V_alloc | apply Kd.V_drewN | apply Kd.V_drew)); exact HO0.out) (Kd.R_base ho153) hb); have n1_ := Aside0.mk (Kd.R_lower (Kd.R_newM (M := fun k_ => (w.heap.size ≤ k_)) ho153 (below_size (by repeat (first | (with_reducible first | exact HB.out | apply below_alloc | apply pw_below_drewN | apply below_drew1) | exact HB.out))) (fun k_ h_ => h_)) (below_size (by repeat (first | (with_reducible first | exact HB.out | apply below_alloc | apply pw_below_drewN | apply below_drew1) | exact HB.out)))); have n2_ := Aside0.mk (below_step (by repeat (first | (with_reducible first | exact HB.out | apply below_alloc | apply pw_below_drewN | apply below_drew1) | exact HB.out)) hb); clear HO0; clear HB; have HO0 := n0_; have HO641004 := n1_; have HB := n2_; clear n0_ n1_ n2_; clear hb ho153; obtain ⟨Ao154, co154, eo154⟩ := Kd.R_slice HO641004.out; subst eo154) | ((with_reducible refine gate_callee (f := 88) rfl ?_); refine goesL_ (some 27) rfl rfl Try.func88 (by kernel_rfl) rfl #[.slice A0 l0.length c0, .slice Ao154 y641002.length co154] rfl (by (try simp only [List.map_toArray, List.map_cons, List.map_nil]); first | done | rfl | (simp only [List.length_drop, List.length_take]; rfl)) ?_; (with_reducible refine (impl_placesOk.calls k _ _ l0 _ _ y641002 false _ ?side1 ?side2 ?side3 ?side4 A9.out).mono ?_); (case side1 => repeat (first | exact (Kd.V_reads' HO0.out).2.2 | (with_reducible refine Kd.C_alloc ?_ _) | (with_reducible refine Kd.C_drewN ?_ _) | (with_reducible refine Kd.C_drew ?_))); (case side2 => exact (Kd.V_reads' HO0.out).2.1); (case side3 => repeat (first | exact (Kd.R_reads' HO641004.out).2.2 | (with_reducible refine Kd.C_alloc ?_ _) | (with_reducible refine Kd.C_drewN ?_ _) | (with_reducible refine Kd.C_drew ?_))); (case side4 => exact (Kd.R_reads' HO641004.out).2.1); rintro e w' ⟨rfl, ⟨nd, rfl⟩⟩; refine ⟨_, rfl, ?_⟩))
   go_ret2
   exact ⟨_, by first | rfl | (simp [errW_none, errW_some] <;> rfl) | (simp [*, errW_none, errW_some] <;> rfl), by first | exact Kd.R_nil _ _ _ _ _ | exact Kd.N_nil _ _ _ _ _ | exact Kd.V_nil _ _ _ _ _ | exact Kd.Q_nil _ _ _ _ _ | exact Kd.S_nil _ _ _ _ _, by repeat (first | (with_reducible first | exact HB.out | apply below_alloc | apply pw_below_drewN | apply below_drew1) | exact HB.out)⟩
 ·replace c8 := Bool.eq_false_iff.mpr c8
  subst c8
  have H1 : (some (([] : List Int), 1)) = some (r1, r2) := by rw [if_neg (show ¬ (false = true) by decide)] at H; exact H
  clear H
  have H := H1
  clear H1
  simp only [Option.some.injEq, Prod.mk.injEq] at H
  obtain ⟨rfl, rfl⟩ := H
  go_enter Try.func64, Try.ntmps64
  go_wp2_with (first | ((with_reducible refine gate_callee (f := 84) rfl ?_); refine goesL_ (some 18) rfl rfl Try.func84 (by kernel_rfl) rfl #[.slice A0 l0.length c0] rfl (by (try simp only [List.map_toArray, List.map_cons, List.map_nil]); first | done | rfl | (simp only [List.length_drop, List.length_take]; rfl)) ?_; (with_reducible refine (impl_IsWord.calls k _ _ l0 false _ ?side1 ?side2 A7.out).mono ?_); (case side1 => repeat (first | exact (Kd.V_reads' HO0.out).2.2 | (with_reducible refine Kd.C_alloc ?_ _) | (with_reducible refine Kd.C_drewN ?_ _) | (with_reducible refine Kd.C_drew ?_))); (case side2 => exact (Kd.V_reads' HO0.out).2.1); rintro e w155 ⟨rfl, hb⟩; refine ⟨_, rfl, ?_⟩; have n0_ := Aside0.mk (Kd.V_below (by (with_reducible repeat (first | apply Kd.V_alloc | apply Kd.V_drewN | apply Kd.V_drew)); exact HO0.out) hb); have n1_ := Aside0.mk (below_step (by repeat (first | (with_reducible first | exact HB.out | apply below_alloc | apply pw_below_drewN | apply below_drew1) | exact HB.out)) hb); clear HO0; clear HB; have HO0 := n0_; have HB := n1_; clear n0_ n1_; (try clear hb); (try clear hb2); (try clear hk); (try clear hi)))
  go_ret2
  exact ⟨_, by first | rfl | (simp [errW_none, errW_some] <;> rfl) | (simp [*, errW_none, errW_some] <;> rfl), by first | exact Kd.R_nil _ _ _ _ _ | exact Kd.N_nil _ _ _ _ _ | exact Kd.V_nil _ _ _ _ _ | exact Kd.Q_nil _ _ _ _ _ | exact Kd.S_nil _ _ _ _ _, by repeat (first | (with_reducible first | exact HB.out | apply below_alloc | apply pw_below_drewN | apply below_drew1) | exact HB.out)⟩

end Go.Proofs.Ytfijnlbkflmkbaa.F
