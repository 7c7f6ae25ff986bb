/- What impl_Web_parts answers, and that the Go text comes to it: for every world in which the arguments read as told. -/
import Derived.Test.YtnlhhbnoccobmaaFgA
import Derived.Test.YtnlhhbnoccobmaaFgU
import Derived.Test.YtnlhhbnoccobmaaPureWebMap
import Derived.Test.YtnlhhbnoccobmaaPureWebRoots
import Derived.Shelf.SortM.Plain
import Derived.Shelf.SortM.SortNone
import Derived.Shelf.SlicesG.CompactI
import Derived.Lib.OwnBridge
import Derived.WalkSpells
import Derived.BigQuiet
namespace Go.Proofs.Ytnlhhbnoccobmaa.F
open Go.RowKit Go.Proofs.YtnlhhbnoccobmaaW.PrintWords Go.Proofs.YtnlhhbnoccobmaaW.PrintLast Go.Proofs.YtnlhhbnoccobmaaW.PrintMore
attribute [local go_sem] max2_int min2_int max_two min_two max_three min_three max_four min_four   -- for this text's walks alone
set_option linter.unusedVariables false
set_option linter.unusedSimpArgs false

/-! ### impl_Web_parts: function 140 (by hand) -/
open Go.Proofs.Ytnlhhbnoccobmaa.Mem Go.Proofs.Ytnlhhbnoccobmaa.Web Go.Sort
def laysSort_ren : Go.Shelf.Ren := ⟨fun | 5 => 196 | 8 => 226 | 7 => 225 | 19 => 243 | 20 => 244 | 10 => 234 | 11 => 235 | 12 => 236 | 13 => 237 | 14 => 238 | 15 => 239 | 16 => 240 | 17 => 241 | 18 => 242 | 30 => 250 | 31 => 251 | 32 => 252 | 33 => 253 | 34 => 254 | 35 => 255 | 40 => 260 | n => n, fun | 23 => 83 | 25 => 3 | 3 => 3 | 32 => 138 | 22 => 83 | 0 => 0 | 44 => 188 | 46 => 130 | 4 => 4 | 36 => 180 | 35 => 179 | 41 => 185 | 5 => 5 | 9 => 9 | 53 => 192 | 57 => 196 | 63 => 200 | 64 => 170 | n => n, fun | n => n⟩
theorem laysSort : Go.Proofs.SlLaysM.n5 Try.prog laysSort_ren := {
  mixed := by kernel_rfl, f5 := ⟨Try.f196.name, by decide, Try.func196.trans (congrArg some (by kernel_rfl))⟩,
  f7 := ⟨Try.f225.name, by decide, Try.func225.trans (congrArg some (by kernel_rfl))⟩, f8 := Try.func226.trans (congrArg some (by kernel_rfl)),
  f10 := ⟨Try.f234.name, by decide, Try.func234.trans (congrArg some (by kernel_rfl))⟩,
  f11 := ⟨Try.f235.name, by decide, Try.func235.trans (congrArg some (by kernel_rfl))⟩,
  f12 := ⟨Try.f236.name, by decide, Try.func236.trans (congrArg some (by kernel_rfl))⟩,
  f13 := ⟨Try.f237.name, by decide, Try.func237.trans (congrArg some (by kernel_rfl))⟩,
  f14 := ⟨Try.f238.name, by decide, Try.func238.trans (congrArg some (by kernel_rfl))⟩,
  f15 := ⟨Try.f239.name, by decide, Try.func239.trans (congrArg some (by kernel_rfl))⟩,
  f16 := ⟨Try.f240.name, by decide, Try.func240.trans (congrArg some (by kernel_rfl))⟩,
  f17 := ⟨Try.f241.name, by decide, Try.func241.trans (congrArg some (by kernel_rfl))⟩,
  f18 := ⟨Try.f242.name, by decide, Try.func242.trans (congrArg some (by kernel_rfl))⟩, f19 := Try.func243.trans (congrArg some (by kernel_rfl)),
  f20 := Try.func244.trans (congrArg some (by kernel_rfl)), f30 := ⟨Try.f250.name, by decide, Try.func250.trans (congrArg some (by kernel_rfl))⟩,
  f31 := Try.func251.trans (congrArg some (by kernel_rfl)), f32 := Try.func252.trans (congrArg some (by kernel_rfl)),
  f33 := ⟨Try.f253.name, by decide, Try.func253.trans (congrArg some (by kernel_rfl))⟩,
  f34 := ⟨Try.f254.name, by decide, Try.func254.trans (congrArg some (by kernel_rfl))⟩,
  f35 := ⟨Try.f255.name, by decide, Try.func255.trans (congrArg some (by kernel_rfl))⟩,
  f40 := ⟨Try.f260.name, by decide, Try.func260.trans (congrArg some (by kernel_rfl))⟩, t0 := Try.underlying0, a0 := Try.isAgg0, z0 := Try.sizeOf0,
  v0 := Try.zeroValue0, t3 := Try.underlying3, a3 := Try.isAgg3, z3 := Try.sizeOf3, v3 := Try.zeroValue3, t4 := Try.underlying4, a4 := Try.isAgg4, z4 := Try.sizeOf4,
  v4 := Try.zeroValue4, t5 := Try.underlying5, a5 := Try.isAgg5, z5 := Try.sizeOf5, v5 := Try.zeroValue5, t9 := Try.underlying9, a9 := Try.isAgg9, z9 := Try.sizeOf9,
  v9 := Try.zeroValue9, t22 := Try.underlying83, a22 := Try.isAgg83, z22 := Try.sizeOf83, v22 := Try.zeroValue83, t23 := Try.underlying83, a23 := Try.isAgg83, z23 := Try.sizeOf83,
  v23 := Try.zeroValue83, t25 := Try.underlying3, a25 := Try.isAgg3, z25 := Try.sizeOf3, v25 := Try.zeroValue3, t32 := Try.underlying138, a32 := Try.isAgg138, z32 := Try.sizeOf138,
  v32 := Try.zeroValue138, t35 := Try.underlying179, a35 := Try.isAgg179, z35 := Try.sizeOf179, v35 := Try.zeroValue179,
  t36 := Try.underlying180, a36 := Try.isAgg180, z36 := Try.sizeOf180, v36 := Try.zeroValue180, t41 := Try.underlying185,
  a41 := Try.isAgg185, z41 := Try.sizeOf185, v41 := Try.zeroValue185, t44 := Try.underlying188, a44 := Try.isAgg188, z44 := Try.sizeOf188, v44 := Try.zeroValue188,
  t46 := Try.underlying130, a46 := Try.isAgg130, z46 := Try.sizeOf130, v46 := Try.zeroValue130, t53 := Try.underlying192, a53 := Try.isAgg192,
  z53 := Try.sizeOf192, v53 := Try.zeroValue192, t57 := Try.underlying196, a57 := Try.isAgg196, z57 := Try.sizeOf196, v57 := Try.zeroValue196, t63 := Try.underlying200,
  a63 := Try.isAgg200, z63 := Try.sizeOf200, v63 := Try.zeroValue200, t64 := Try.underlying170, a64 := Try.isAgg170, z64 := Try.sizeOf170,
  v64 := Try.zeroValue170 }

def laysCompact_ren : Go.Shelf.Ren := ⟨fun | 43 => 197 | n => n, fun | 22 => 83 | 23 => 3 | 3 => 3 | 4 => 4 | 0 => 0 | n => n, fun | n => n⟩
theorem laysCompact : Go.Proofs.SlLaysN.n43 Try.prog laysCompact_ren := {
  mixed := by kernel_rfl, f43 := ⟨Try.f197.name, by decide, Try.func197.trans (congrArg some (by kernel_rfl))⟩, t0 := Try.underlying0, a0 := Try.isAgg0, z0 := Try.sizeOf0,
  v0 := Try.zeroValue0, t3 := Try.underlying3, a3 := Try.isAgg3, z3 := Try.sizeOf3, v3 := Try.zeroValue3, t4 := Try.underlying4, a4 := Try.isAgg4, z4 := Try.sizeOf4,
  v4 := Try.zeroValue4, t22 := Try.underlying83, a22 := Try.isAgg83, z22 := Try.sizeOf83, v22 := Try.zeroValue83, t23 := Try.underlying3, a23 := Try.isAgg3, z23 := Try.sizeOf3,
  v23 := Try.zeroValue3, i23 := by kernel_rfl }
theorem grownBy_row {w : World} {g n : Nat} {os : Array Obj} (d : Array Int) : w.grownBy (grow (putRow (Value.int .i64) (Sort.ahead w n) g 0 d) os) (some g) := by
  refine ⟨rfl, rfl, rfl, by simp, fun k hk hne => ?_⟩
  rw [heap_grow_old _ _ (by simpa using hk)]
  have : g ≠ k := fun e => hne (by rw [e])
  simp [putRow, mapBlock, Sort.ahead, Array.getElem?_modify, this]
/-- Sorted, then without repetitions: a slice of the call's own, nil or not. -/
theorem sort_compact {w w1 : World} {v : Value} {zs : List Int} (h : Kd.R (Kd.int .i64) 3 w1 w.heap.size (fun _ => True) v zs) (hz : zs.length ≤ 1000000) (hb : Below w.heap.size w w1) :
    Calls Try.prog 196 #[v] w1 fun e w2 => e = .returned (.tuple #[]) ∧ Calls Try.prog 197 #[v] w2 fun e w3 => (∃ A c, e = .returned (.slice A (Go.Lib.compact (zs.mergeSort fun x y => decide (x ≤ y))).length c)) ∧ Below w.heap.size w w3 := by
  obtain ⟨A, c, e0, hl, hC⟩ := Kd.R_reads h
  obtain ⟨h0, inner, ho, hr⟩ := h
  rcases ho.2 with ⟨hn, hx⟩ | ⟨g, cap, cur, hv, hbase, hg, h1, h2, h3, h4⟩
  · have hzl : zs = [] := by
      rw [hn] at e0
      injection e0 with e1 e2 e3
      exact List.eq_nil_of_length_eq_zero e2.symm
    subst hn; subst hzl
    refine (show Calls Try.prog 196 _ _ _ from AnyM.slices_Sort_int_none laysSort none 0 w1).mono ?_
    rintro e w2 ⟨rfl, rfl⟩
    refine ⟨rfl, (show Calls Try.prog 197 _ _ _ from AnyG.slices_Compact_int_empty laysCompact none 0 _).mono ?_⟩
    rintro e w3 ⟨rfl, rfl⟩
    exact ⟨⟨none, 0, by simp [Go.Lib.compact, Go.Lib.compactUpTo]⟩, hb⟩
  · have hlt : g < w1.heap.size := blk_lt hg
    have hA : A = some ⟨g, 0, none⟩ := by rw [hv] at e0; injection e0 with e1; exact e1.symm
    subst hA; subst hv
    have hH : Holds (Value.int .i64) w1 g 0 zs.toArray := fun j hj => by
      have hj' : j < zs.length := by simpa using hj
      obtain ⟨ad, hA, hc⟩ := cell_of_C hC j hj'
      cases hA
      refine ⟨?_, by simp [World.frozen?, hg]⟩
      have e : (zs.toArray[j]! : Int) = zs.getD j 0 := by simp [hj']
      rw [e]
      unfold Addr.add at hc
      by_cases h0 : j = 0
      · subst h0; rw [if_pos rfl] at hc; exact hc
      · rw [if_neg h0] at hc; exact hc
    refine (show Calls Try.prog 196 _ _ _ from AnyM.slices_Sort_int laysSort g 0 cap zs w1 hH hlt (by omega)).mono ?_
    rintro e w2 ⟨rfl, nn, os, rfl⟩
    have hl2 : (zs.mergeSort fun x y => decide (x ≤ y)).length = zs.length := List.length_mergeSort zs
    have hH2 : Holds (Value.int .i64) (grow (putRow (Value.int .i64) (Sort.ahead w1 nn) g 0 (zs.mergeSort fun x y => decide (x ≤ y)).toArray) os) g 0 (zs.mergeSort fun x y => decide (x ≤ y)).toArray :=
      holds_grow _ _ os g 0 _ (by simpa [putRow, mapBlock, Sort.ahead] using hlt) (holds_putRow _ _ g 0 _ _ (holds_ahead _ w1 nn g 0 _ hH) (by simp))
    have hcomp := AnyG.slices_Compact_int laysCompact g 0 cap (zs.mergeSort fun x y => decide (x ≤ y)) _ hH2 (by omega) (by omega)
    rw [hl2] at hcomp
    refine ⟨rfl, (show Calls Try.prog 197 _ _ _ from hcomp).mono ?_⟩
    rintro e w3 ⟨rfl, q, rfl⟩
    exact ⟨⟨_, _, rfl⟩, Go.Lib.below_putRow (hb.grown (grownBy_row _) hb.size (fun j hj => by cases hj; exact hbase)) hbase⟩
set_option maxHeartbeats 4000000 in
set_option maxRecDepth 100000 in
theorem parts_walk (legs : List Int) (forks : List (List Int)) (hw : isWebC legs forks = true) (hwf : ∀ p ∈ inc legs forks, (Lit.int .i64 p.1).wf = true) (Bw : Nat) (Al : Option Addr) (cl : Nat) (Af : Option Addr) (cf : Nat) (w : World) (hb : w.heap[Bw]? = some (.cells #[.slice Al legs.length cl, .slice Af forks.length cf] 28 (0, 0))) (hl : Kd.C (Kd.int .i64) w Al legs.length legs) (hf : Kd.C (Kd.slice 2 (Kd.int .i64)) w Af forks.length forks) :
    Calls Try.prog 140 #[.pointer (some ⟨Bw, 0, none⟩)] w fun e w' => e = .returned (.int .i64 ((rootsC legs forks : Nat) : Int)) ∧ Below w.heap.size w w' := by
  obtain ⟨h8, h3, htw, _⟩ := web_of hw
  have h2 := twice_two htw
  have hrs := rootsC_sort h2
  have hz : (ints ((List.range (legs.length + forks.length)).map (lbl (inc legs forks)))).length ≤ 1000000 := by rw [ints_len, List.length_map, List.length_range]; omega
  have H8 := Aside0.mk h8
  have H3 := Aside0.mk h3
  have H2 := Aside0.mk h2
  have HWF := Aside0.mk hwf
  have HBK := Aside0.mk hb
  have HL := Aside0.mk hl
  have HF := Aside0.mk hf
  have HRS := Aside0.mk hrs
  have HZ := Aside0.mk hz
  clear hw hwf hb hl hf h8 h3 htw h2 hrs hz
  go_enter Try.func140, Try.ntmps140
  go_wp2_with (first
    | (go_at_call 99; refine (partsOf_walk legs forks _ Bw Al cl Af cf rfl H8.out H3.out HWF.out H2.out _ HBK.out HL.out HF.out).mono ?_; rintro e w1 ⟨v1, rfl, ho1, hb1⟩; have hS := sort_compact ho1 HZ.out hb1; obtain ⟨A1, c1, rfl, _, _⟩ := Kd.R_reads ho1; have HS := Aside0.mk hS; clear ho1 hb1 hS)
    | (go_at_call 196; refine HS.out.mono ?_; rintro e w2 ⟨rfl, hcomp⟩; have HC := Aside0.mk hcomp; clear hcomp)
    | (go_at_call 197; refine HC.out.mono ?_; rintro e w3 ⟨⟨A3, c3, rfl⟩, hb3⟩; rw [HRS.out]; have HB3 := Aside0.mk hb3; clear hb3))
  go_ret
  exact ⟨rfl, HB3.out⟩

end Go.Proofs.Ytnlhhbnoccobmaa.F
