/- Words, walks and plain laws that the row of the law FnExactValueOfInterlace uses. -/
import Derived.Test.YtcnekpdoldljgaaZFnExactValueOfInterlace2
import Derived.BigQuiet
import Derived.BigRegion
import Derived.Laws.BitsLemmas
import Derived.Laws.Bits64
import Derived.Shelf.SlicesE.DeleteFunc
import Derived.Lib.OwnBridge
import Derived.Shelf.SlSortCmp.Small
import Derived.Shelf.Small.Bits
section
namespace Go.Proofs.Ytcnekpdoldljgaa.ORows
open Go.RowKit Go.Proofs.YtcnekpdoldljgaaW.PrintWords Go.Proofs.YtcnekpdoldljgaaW.PrintLast Go.Proofs.Ytcnekpdoldljgaa.Mem
def rowE (n : Nat) (p : Nat × Nat) : Value := .slice (some ⟨p.1, 0, none⟩) n p.2
def kE (n : Nat) : Kd (Nat × Nat) := Kd.scalar (rowE n) (fun _ => rfl)
def Row (base : Nat) (n : Nat) (p : Nat × Nat) (r : List Int) (w : World) : Prop := Kd.R (Kd.int .i64) 2 w base (fun k => k = p.1) (rowE n p) r
structure Own (n base : Nat) (F : Nat → List Int) (bs : List (Nat × Nat)) (w : World) : Prop where
  one : ∀ p ∈ bs, ∀ q ∈ bs, p.1 = q.1 → p = q
  row : ∀ p ∈ bs, Row base n p (F p.1) w
def upd (F : Nat → List Int) (b : Nat) (r : List Int) : Nat → List Int := fun k => if k = b then r else F k
theorem upd_same (F : Nat → List Int) (b : Nat) (r : List Int) : upd F b r b = r := if_pos rfl
theorem upd_ne (F : Nat → List Int) {b k : Nat} (r : List Int) (h : k ≠ b) : upd F b r k = F k := if_neg h
theorem upd_self (F : Nat → List Int) (b : Nat) : upd F b (F b) = F := by
  funext k; unfold upd; split
  · next h => rw [h]
  · rfl
theorem Row.len {base n : Nat} {p : Nat × Nat} {r : List Int} {w : World} (h : Row base n p r w) : r.length = n := (Kd.R_reads' h).1.symm
theorem Row.cap {base n : Nat} {p : Nat × Nat} {r : List Int} {w : World} (h : Row base n p r w) : n ≤ p.2 := (Kd.R_reads' h).2.1
theorem Row.C {base n : Nat} {p : Nat × Nat} {r : List Int} {w : World} (h : Row base n p r w) : Kd.C (Kd.int .i64) w (some ⟨p.1, 0, none⟩) r.length r := (Kd.R_reads' h).2.2
theorem Row.lt {base n : Nat} {p : Nat × Nat} {r : List Int} {w : World} (h : Row base n p r w) : p.1 < w.heap.size := by
  obtain ⟨_, inner, ho, _⟩ := h
  exact own_lt ho p.1 rfl
theorem Row.low {base n : Nat} {p : Nat × Nat} {r : List Int} {w : World} (h : Row base n p r w) : base ≤ p.1 := by
  obtain ⟨_, inner, ho, _⟩ := h
  exact own_base ho p.1 rfl
theorem Row.move {base n : Nat} {p : Nat × Nat} {r : List Int} {w w1 : World} (h : Row base n p r w) (hm : w1.heap[p.1]? = w.heap[p.1]?) : Row base n p r w1 :=
  Kd.R_step h (fun k hk _ => by subst hk; exact hm)
theorem Row.of {base n : Nat} {p : Nat × Nat} {r : List Int} {w : World} {ok : Nat → Prop} (h : Kd.R (Kd.int .i64) 2 w base ok (rowE n p) r) : Row base n p r w :=
  Kd.R_mono (Kd.R_tight rfl h) (fun _ hk => Option.some.inj hk)
theorem Row.set {base n : Nat} {p : Nat × Nat} {r : List Int} {w : World} (h : Row base n p r w) (j : Nat) (x : Int) (hj : j < n) : Row base n p (r.set j x) (w.setCell ⟨p.1, j, none⟩ (.int .i64 x)) := by
  have hrl : r.length = n := h.len
  obtain ⟨h0, inner, ⟨hl, ho⟩, hr1, hr2⟩ := h
  replace hl : inner.length = r.length := hl.trans (Nat.mul_one _)
  have hr2' : ∀ (i : Nat) (q : Int), r[i]? = some q → (inner.drop i).take 1 = [.int .i64 q] := fun i q hq => by
    have h5 : (inner.drop (i * 1)).take 1 = [.int .i64 q] := hr2 i q hq
    rwa [Nat.mul_one] at h5
  refine ⟨h0, inner.set j (.int .i64 x), ⟨?_, .inr ?_⟩, ?_, fun i q hq => ?_⟩
  · show (inner.set j _).length = (r.set j x).length * 1
    rw [List.length_set, List.length_set, hl, Nat.mul_one]
  · rcases ho with ⟨he, _⟩ | ⟨g, cap, cur, he, hb, hh, h1, h2, h3, h4⟩
    · cases he
    · have he' := he
      unfold rowE at he'
      injection he' with e1 e2 e3
      injection e1 with e1
      injection e1 with e1
      subst e1
      replace h4 : cur.toList.take (r.length * 1) = inner := h4
      refine ⟨p.1, cap, cur.setIfInBounds j (.int .i64 x), by rw [List.length_set]; exact he, hb, ?_, by rw [List.length_set]; exact h1, h2, by rw [Array.size_setIfInBounds]; exact h3, ?_⟩
      · exact blk_set (by simpa using hh) j _
      · show (cur.setIfInBounds j (.int .i64 x)).toList.take ((r.set j x).length * 1) = _
        rw [List.length_set, Array.toList_setIfInBounds, List.take_set, h4]
  · show (inner.set j _).length = (r.set j x).length * 1
    rw [List.length_set, List.length_set, hl, Nat.mul_one]
  · show ((inner.set j (.int .i64 x)).drop (i * 1)).take 1 = [.int .i64 q]
    rw [Nat.mul_one]
    rcases Nat.lt_or_ge i r.length with hi | hi
    · have h6 := hr2' i _ (List.getElem?_eq_getElem hi)
      have hi' : i < inner.length := by rw [hl]; exact hi
      rw [List.drop_eq_getElem_cons (by rw [List.length_set]; exact hi')]
      by_cases hij : i = j
      · subst hij
        rw [List.getElem?_set_self hi] at hq
        obtain rfl := Option.some.inj hq
        rw [List.getElem_set_self]
        rfl
      · rw [List.getElem?_set_ne (Ne.symm hij), List.getElem?_eq_getElem hi] at hq
        obtain rfl := Option.some.inj hq
        rw [List.getElem_set_ne (Ne.symm hij)]
        rw [List.drop_eq_getElem_cons hi'] at h6
        exact h6
    · rw [List.getElem?_eq_none (by rw [List.length_set]; exact hi)] at hq
      cases hq
namespace Own
variable {n base : Nat} {F : Nat → List Int} {bs : List (Nat × Nat)} {w w1 : World}
theorem move (h : Own n base F bs w) (hm : ∀ p ∈ bs, w1.heap[p.1]? = w.heap[p.1]?) : Own n base F bs w1 := ⟨h.one, fun p hp => (h.row p hp).move (hm p hp)⟩
theorem drewN (h : Own n base F bs w) (m : Nat) : Own n base F bs (w.drewN m) := h.move (fun _ _ => rfl)
theorem drew (h : Own n base F bs w) : Own n base F bs w.drew := h.move (fun _ _ => rfl)
theorem alloc (h : Own n base F bs w) (o : Obj) : Own n base F bs (w.alloc o) := h.move (fun p hp => (below_alloc (Below.refl _ _) o).block p.1 (h.row p hp).lt)
theorem below (h : Own n base F bs w) (hb : Below w.heap.size w w1) : Own n base F bs w1 := h.move (fun p hp => hb.block p.1 (h.row p hp).lt)
theorem grown (h : Own n base F bs w) {row : Option Nat} (hg : w.grownBy w1 row) (hne : ∀ p ∈ bs, some p.1 ≠ row) : Own n base F bs w1 := h.move (fun p hp => hg.block p.1 (h.row p hp).lt (hne p hp))
theorem put (h : Own n base F bs w) {p : Nat × Nat} (hp : p ∈ bs) {r : List Int} (hk : Kept w w1 (fun k => k = p.1)) (hr : Row base n p r w1) : Own n base (upd F p.1 r) bs w1 := ⟨h.one, fun q hq => by
  by_cases e : q.1 = p.1
  · obtain rfl := h.one q hq p hp e
    rw [upd_same]; exact hr
  · rw [upd_ne _ _ e]
    exact (h.row q hq).move (hk.2 q.1 (h.row q hq).lt e)⟩
end Own
theorem cell_of_E {n m : Nat} {w : World} {A : Option Addr} {bs : List (Nat × Nat)} (h : Kd.C (kE n) w A m bs) (j : Nat) (hj : j < m) : ∃ ad, A = some ad ∧ w.cell? (ad.add j) = some (rowE n (bs.getD j (0, 0))) := by
  obtain ⟨hl, _, hc⟩ := h
  obtain ⟨ad, e, hc⟩ := hc (by omega)
  have hjl : j < bs.length := by omega
  obtain ⟨c, hc1, hc2, hc3⟩ := hc j _ (List.getElem?_eq_getElem hjl)
  refine ⟨ad, e, ?_⟩
  have hc2' : c = [rowE n bs[j]] := hc2
  have := hc3 0 _ (by rw [hc2']; rfl)
  rw [show (kE n).sz = 1 from rfl, Nat.mul_one, Nat.add_zero] at this
  rw [this, List.getD_eq_getElem?_getD, List.getElem?_eq_getElem hjl]; rfl
theorem own_rows {n base : Nat} {w : World} {ok : Nat → Prop} {v : Value} {rs : List (List Int)} (h : Kd.S (Kd.slice 2 (Kd.int .i64)) 24 w base ok v rs) (hn : ∀ r ∈ rs, r.length = n) (hn0 : 0 < n) :
    ∃ (bs : List (Nat × Nat)) (F : Nat → List Int), (bs.map Prod.fst).Nodup ∧ (kE n).R 24 w base (fun _ => True) v bs ∧ Own n base F bs w ∧ bs.map (fun p => F p.1) = rs ∧ ∀ p ∈ bs, some p.1 ≠ v.ownBlock := by
  obtain ⟨f, h0, inner, ho, hr1, hr2⟩ := h
  rw [List.length_zipIdx] at ho hr1
  have hsz : (Kd.tag f (Kd.slice 2 (Kd.int .i64))).sz = 1 := rfl
  rw [hsz] at hr1 hr2
  have key : ∀ j : Nat, ∃ p : Nat × Nat, j < rs.length → (inner.drop j).take 1 = [rowE n p] ∧ f p.1 = j ∧ some p.1 ≠ v.ownBlock ∧ Row base n p (rs.getD j []) w := by
    intro j
    by_cases hj : j < rs.length
    · have hz : rs.zipIdx[j]? = some (rs[j], j) := Kd.zip_at (List.getElem?_eq_getElem hj)
      obtain ⟨u, hu, hR⟩ := hr2 j _ hz
      rw [Nat.mul_one] at hu
      have hlen := hn _ (List.getElem_mem hj)
      have hR' := hR
      obtain ⟨hok, inner2, ⟨hl2, hv⟩, _⟩ := hR
      rcases hv with ⟨_, hv⟩ | ⟨g, cap, cur, hv, hb, hh, h1, h2, h3, h4⟩
      · have hv' : rs[j].length = 0 := hv
        omega
      · have hv' : u = rowE n (g, cap) := by rw [hv]; show Value.slice _ rs[j].length _ = _; rw [hlen]; rfl
        have hok2 := hok g (by rw [hv']; rfl)
        refine ⟨(g, cap), fun _ => ⟨by rw [hu, hv'], hok2.2, hok2.1.2, ?_⟩⟩
        rw [hv'] at hR'
        rw [List.getD_eq_getElem?_getD, List.getElem?_eq_getElem hj]
        exact Row.of hR'
    · exact ⟨(0, 0), fun h => absurd h hj⟩
  obtain ⟨P, hP⟩ := Classical.axiomOfChoice key
  have hpair : List.Pairwise (fun a b => a ≠ b) ((List.range rs.length).map fun j => (P j).1) := by
    refine List.pairwise_map.2 (List.Pairwise.imp_of_mem ?_ List.nodup_range)
    intro a b ha hb hab e
    have e1 := (hP a (List.mem_range.1 ha)).2.1
    have e2 := (hP b (List.mem_range.1 hb)).2.1
    exact hab (by rw [← e1, ← e2]; show f (P a).1 = f (P b).1; rw [e])
  have hmem : ∀ p, p ∈ (List.range rs.length).map P → ∃ j, j < rs.length ∧ p = P j := by
    intro p hp
    obtain ⟨j, hj, rfl⟩ := List.mem_map.1 hp
    exact ⟨j, List.mem_range.1 hj, rfl⟩
  refine ⟨(List.range rs.length).map P, fun k => rs.getD (f k) [], ?_, ⟨fun _ _ => trivial, inner, by rw [List.length_map, List.length_range]; exact ho, by rw [List.length_map, List.length_range, hr1]; rfl, fun j p hj => ?_⟩, ⟨fun p hp q hq e => ?_, fun p hp => ?_⟩, ?_, fun p hp => ?_⟩
  · rw [List.map_map]; exact hpair
  · have hlt : j < rs.length := by
      have := (List.getElem?_eq_some_iff.1 hj).1
      rwa [List.length_map, List.length_range] at this
    rw [List.getElem?_map, List.getElem?_range hlt] at hj
    obtain rfl := Option.some.inj hj
    show (inner.drop (j * 1)).take 1 = [rowE n (P j)]
    rw [Nat.mul_one]
    exact (hP j hlt).1
  · obtain ⟨i, hi, rfl⟩ := hmem p hp
    obtain ⟨j, hj, rfl⟩ := hmem q hq
    have e1 := (hP i hi).2.1
    have e2 := (hP j hj).2.1
    have : i = j := by rw [← e1, ← e2]; show f (P i).1 = f (P j).1; rw [e]
    rw [this]
  · obtain ⟨i, hi, rfl⟩ := hmem p hp
    show Row base n (P i) (rs.getD (f (P i).1) []) w
    rw [(hP i hi).2.1]
    exact (hP i hi).2.2.2
  · rw [List.map_map]
    refine List.ext_getElem (by rw [List.length_map, List.length_range]) (fun i h1 h2 => ?_)
    rw [List.getElem_map, List.getElem_range]
    show rs.getD (f (P i).1) [] = _
    rw [(hP i h2).2.1, List.getD_eq_getElem?_getD, List.getElem?_eq_getElem h2]; rfl
  · obtain ⟨i, hi, rfl⟩ := hmem p hp
    exact (hP i hi).2.2.1
theorem own_rows0 {n base : Nat} {w : World} {ok : Nat → Prop} {v : Value} {rs : List (List Int)} (h : Kd.S (Kd.slice 2 (Kd.int .i64)) 24 w base ok v rs) (hn : ∀ r ∈ rs, r.length = n) (hn0 : rs = [] ∨ 0 < n) :
    ∃ (bs : List (Nat × Nat)) (F : Nat → List Int), (bs.map Prod.fst).Nodup ∧ (kE n).R 24 w base (fun _ => True) v bs ∧ Own n base F bs w ∧ bs.map (fun p => F p.1) = rs ∧ ∀ p ∈ bs, some p.1 ≠ v.ownBlock := by
  rcases hn0 with rfl | h0
  · obtain ⟨h1, inner, ho, hr⟩ := Kd.S_R h
    exact ⟨[], fun _ => [], List.Pairwise.nil, ⟨fun _ _ => trivial, inner, ho, hr.1, fun j p hj => by simp at hj⟩, ⟨(fun p hp => by cases hp), (fun p hp => by cases hp)⟩, rfl, (fun p hp => by cases hp)⟩
  · exact own_rows h hn h0
end Go.Proofs.Ytcnekpdoldljgaa.ORows
end
section
namespace Go.Proofs.Ytcnekpdoldljgaa.Red
open Go.Proofs.Ytcnekpdoldljgaa.F Go.Proofs.Ytcnekpdoldljgaa.ORows
def lessV (row by' : List Int) : List Int := List.zipWith (fun x y => (x - row.getD (firstV by').toNat 0 * y) % 2) row by'
def absF (b : Nat) (F : Nat → List Int) (p : Nat × Nat) : Nat → List Int := upd F b (lessV (F b) (F p.1))
def sprF (b : Nat) (F : Nat → List Int) (p : Nat × Nat) : Nat → List Int := upd F p.1 (lessV (F p.1) (F b))
abbrev St := (Nat → List Int) × List (Nat × Nat)
def absAt (st : St) (b j : Nat) : Nat → List Int := (st.2.take j).foldl (absF b) st.1
def sprAt (st : St) (b j : Nat) : Nat → List Int := (st.2.take j).foldl (sprF b) (absAt st b st.2.length)
def stepF (st : St) (p : Nat × Nat) : St :=
  if firstV (absAt st p.1 st.2.length p.1) < 0 then (absAt st p.1 st.2.length, st.2) else (sprAt st p.1 st.2.length, st.2 ++ [p])
def redAt (F : Nat → List Int) (bs : List (Nat × Nat)) (i : Nat) : St := (bs.take i).foldl stepF (F, [])
def Bits (l : List Int) : Prop := ∀ x ∈ l, x = 0 ∨ x = 1
def LessOk (row by' : List Int) : Prop := ∃ k, impl_less.f k row by' 2 = some (lessV row by')
structure StepOk (st : St) (b : Nat) : Prop where
  abs : ∀ j, j < st.2.length → LessOk (absAt st b j b) (absAt st b j (st.2.getD j (0, 0)).1)
  bit : Bits (absAt st b st.2.length b)
  spr : 0 ≤ firstV (absAt st b st.2.length b) → ∀ j, j < st.2.length → LessOk (sprAt st b j (st.2.getD j (0, 0)).1) (sprAt st b j b)
def RedOk (F : Nat → List Int) (bs : List (Nat × Nat)) : Prop := ∀ i, i < bs.length → StepOk (redAt F bs i) (bs.getD i (0, 0)).1
theorem take_foldl {α β : Type} (f : β → α → β) (a : β) (l : List α) (j : Nat) (d : α) (h : j < l.length) : (l.take (j + 1)).foldl f a = f ((l.take j).foldl f a) (l.getD j d) := by
  rw [List.take_succ_eq_append_getElem h, List.foldl_append, List.getD_eq_getElem?_getD, List.getElem?_eq_getElem h]; rfl
theorem absAt_zero (st : St) (b : Nat) : absAt st b 0 = st.1 := rfl
theorem absAt_succ (st : St) (b : Nat) {j : Nat} (h : j < st.2.length) : absAt st b (j + 1) = absF b (absAt st b j) (st.2.getD j (0, 0)) := take_foldl _ _ _ _ _ h
theorem sprAt_zero (st : St) (b : Nat) : sprAt st b 0 = absAt st b st.2.length := rfl
theorem sprAt_succ (st : St) (b : Nat) {j : Nat} (h : j < st.2.length) : sprAt st b (j + 1) = sprF b (sprAt st b j) (st.2.getD j (0, 0)) := take_foldl _ _ _ _ _ h
theorem redAt_succ (F : Nat → List Int) (bs : List (Nat × Nat)) {i : Nat} (h : i < bs.length) : redAt F bs (i + 1) = stepF (redAt F bs i) (bs.getD i (0, 0)) := take_foldl _ _ _ _ _ h
theorem stepF_neg {st : St} {p : Nat × Nat} (h : firstV (absAt st p.1 st.2.length p.1) < 0) : stepF st p = (absAt st p.1 st.2.length, st.2) := if_pos h
theorem stepF_pos {st : St} {p : Nat × Nat} (h : ¬ firstV (absAt st p.1 st.2.length p.1) < 0) : stepF st p = (sprAt st p.1 st.2.length, st.2 ++ [p]) := if_neg h
theorem stepF_sub (st : St) (p : Nat × Nat) : ∀ q ∈ (stepF st p).2, q ∈ st.2 ∨ q = p := by
  intro q hq
  unfold stepF at hq
  split at hq
  · exact .inl hq
  · rcases List.mem_append.1 hq with h | h
    · exact .inl h
    · exact .inr (List.mem_singleton.1 h)
theorem stepF_len (st : St) (p : Nat × Nat) : (stepF st p).2.length ≤ st.2.length + 1 := by
  unfold stepF
  split
  · exact Nat.le_succ _
  · rw [List.length_append]; exact Nat.le_refl _
theorem redAt_sub (F : Nat → List Int) (bs : List (Nat × Nat)) : ∀ i, i ≤ bs.length → (∀ q ∈ (redAt F bs i).2, q ∈ bs.take i) ∧ (redAt F bs i).2.length ≤ i
  | 0, _ => ⟨fun q hq => hq, Nat.le_refl _⟩
  | i + 1, h => by
    have ih := redAt_sub F bs i (by omega)
    rw [redAt_succ F bs (by omega : i < bs.length)]
    refine ⟨fun q hq => ?_, Nat.le_trans (stepF_len _ _) (by omega)⟩
    rw [List.take_succ_eq_append_getElem (by omega : i < bs.length)]
    rcases stepF_sub _ _ q hq with h1 | h1
    · exact List.mem_append_left _ (ih.1 q h1)
    · refine List.mem_append_right _ (List.mem_singleton.2 ?_)
      rw [h1, List.getD_eq_getElem?_getD, List.getElem?_eq_getElem (by omega : i < bs.length)]; rfl
theorem firstFrom_ge : ∀ (l : List Int) (n : Nat), firstFrom l n = -1 ∨ ∃ j, j < l.length ∧ firstFrom l n = ((n + j : Nat) : Int) ∧ l.getD j 0 ≠ 0 ∧ ∀ i, i < j → l.getD i 0 = 0
  | [], _ => .inl rfl
  | x :: t, n => by
    by_cases hx : x = 0
    · have e : firstFrom (x :: t) n = firstFrom t (n + 1) := by rw [firstFrom, if_neg (by simp [hx])]
      rw [e]
      rcases firstFrom_ge t (n + 1) with h | ⟨j, hj, h1, h2, h3⟩
      · exact .inl h
      · refine .inr ⟨j + 1, by simp; exact hj, by rw [h1]; congr 1; omega, by simpa using h2, fun i hi => ?_⟩
        cases i with
        | zero => simpa using hx
        | succ i => have := h3 i (by omega); simpa using this
    · refine .inr ⟨0, by simp, by rw [firstFrom, if_pos (by simpa using hx)]; rfl, by simpa using hx, fun i hi => absurd hi (by omega)⟩
theorem firstV_at (l : List Int) : firstV l = -1 ∨ ∃ j, j < l.length ∧ firstV l = (j : Int) ∧ l.getD j 0 ≠ 0 ∧ ∀ i, i < j → l.getD i 0 = 0 := by
  rcases firstFrom_ge l 0 with h | ⟨j, hj, h1, h2⟩
  · exact .inl h
  · exact .inr ⟨j, hj, by unfold firstV; rw [h1, Nat.zero_add], h2⟩
end Go.Proofs.Ytcnekpdoldljgaa.Red
end
section
namespace Go.Proofs.Ytcnekpdoldljgaa.Rank
abbrev Vec := Nat → Bool
def vx (u v : Vec) : Vec := fun j => u j != v j
def v0 : Vec := fun _ => false
theorem vx_zero (u : Vec) : vx u v0 = u := by funext j; simp [vx, v0]
theorem zero_vx (u : Vec) : vx v0 u = u := by funext j; simp [vx, v0]
theorem vx_self (u : Vec) : vx u u = v0 := by funext j; simp [vx, v0]
theorem vx_comm (u v : Vec) : vx u v = vx v u := by funext j; simp only [vx]; cases u j <;> cases v j <;> rfl
theorem vx_assoc (u v t : Vec) : vx (vx u v) t = vx u (vx v t) := by funext j; simp only [vx]; cases u j <;> cases v j <;> cases t j <;> rfl
theorem vx_cancel (u v : Vec) : vx (vx u v) v = u := by rw [vx_assoc, vx_self, vx_zero]
inductive Sp (R : List Vec) : Vec → Prop
  | zero : Sp R v0
  | add (v r : Vec) : Sp R v → r ∈ R → Sp R (vx v r)
theorem Sp.vx {R : List Vec} {u v : Vec} (hu : Sp R u) (hv : Sp R v) : Sp R (Rank.vx u v) := by
  induction hv with
  | zero => rw [vx_zero]; exact hu
  | add t r _ hr ih => rw [← vx_assoc]; exact .add _ _ ih hr
theorem Sp.of_mem {R : List Vec} {r : Vec} (h : r ∈ R) : Sp R r := by
  have := Sp.add v0 r (.zero (R := R)) h
  rw [zero_vx] at this; exact this
theorem Sp.mono {R S : List Vec} (h : ∀ r ∈ R, Sp S r) {v : Vec} (hv : Sp R v) : Sp S v := by
  induction hv with
  | zero => exact .zero
  | add t r _ hr ih => exact ih.vx (h r hr)
theorem Sp.cons {b : Vec} {B : List Vec} {v : Vec} (h : Sp (b :: B) v) : Sp B v ∨ Sp B (Rank.vx v b) := by
  induction h with
  | zero => exact .inl .zero
  | add t r _ hr ih =>
    rcases List.mem_cons.1 hr with e | e
    · subst e
      rcases ih with g | g
      · exact .inr (by rw [vx_cancel]; exact g)
      · exact .inl g
    · rcases ih with g | g
      · exact .inl (.add _ _ g e)
      · refine .inr ?_
        rw [vx_assoc, vx_comm r b, ← vx_assoc]
        exact .add _ _ g e
def Lead (v : Vec) (c : Nat) : Prop := v c = true ∧ ∀ j, j < c → v j = false
theorem Lead.unique {v : Vec} {c d : Nat} (h : Lead v c) (g : Lead v d) : c = d := by
  rcases Nat.lt_trichotomy c d with e | e | e
  · have := g.2 c e; rw [h.1] at this; exact absurd this (by simp)
  · exact e
  · have := h.2 d e; rw [g.1] at this; exact absurd this (by simp)
structure Ech (B : List (Vec × Nat)) : Prop where
  lead : ∀ b ∈ B, Lead b.1 b.2
  nod : (B.map Prod.snd).Nodup
theorem Ech.sp : ∀ {B : List (Vec × Nat)}, Ech B → ∀ {v : Vec}, Sp (B.map Prod.fst) v → v = v0 ∨ ∃ c, c ∈ B.map Prod.snd ∧ Lead v c
  | [], _, v, hv => by
    cases hv with
    | zero => exact .inl rfl
    | add t r _ hr => exact absurd hr (by simp)
  | b :: B, h, v, hv => by
    have hn := List.nodup_cons.1 h.nod
    have hB : Ech B := ⟨fun x hx => h.lead x (List.mem_cons_of_mem _ hx), hn.2⟩
    have hb := h.lead b List.mem_cons_self
    rcases Sp.cons hv with g | g
    · rcases hB.sp g with e | ⟨c, hc, hl⟩
      · exact .inl e
      · exact .inr ⟨c, List.mem_cons_of_mem _ hc, hl⟩
    · have ev : v = vx (vx v b.1) b.1 := (vx_cancel _ _).symm
      rcases hB.sp g with e | ⟨c, hc, hl⟩
      · rw [e, zero_vx] at ev
        exact .inr ⟨b.2, List.mem_cons_self, ev ▸ hb⟩
      · generalize vx v b.1 = u at *
        have hne : c ≠ b.2 := fun e => hn.1 (e ▸ hc)
        rcases Nat.lt_or_gt_of_ne hne with k | k
        · refine .inr ⟨c, List.mem_cons_of_mem _ hc, ?_, fun j hj => ?_⟩
          · rw [ev]; show (u c != b.1 c) = true; rw [hl.1, hb.2 c k]; rfl
          · rw [ev]; show (u j != b.1 j) = false; rw [hl.2 j hj, hb.2 j (by omega)]; rfl
        · refine .inr ⟨b.2, List.mem_cons_self, ?_, fun j hj => ?_⟩
          · rw [ev]; show (u b.2 != b.1 b.2) = true; rw [hl.2 b.2 k, hb.1]; rfl
          · rw [ev]; show (u j != b.1 j) = false; rw [hl.2 j (by omega), hb.2 j hj]; rfl
theorem nodup_le : ∀ {l m : List Nat}, l.Nodup → (∀ x ∈ l, x ∈ m) → l.length ≤ m.length
  | [], _, _, _ => Nat.zero_le _
  | a :: l, m, hd, h => by
    have hn := List.nodup_cons.1 hd
    have ha := h a List.mem_cons_self
    have := nodup_le (m := m.erase a) hn.2 (fun x hx => (List.mem_erase_of_ne (fun (e : x = a) => hn.1 (e ▸ hx))).2 (h x (List.mem_cons_of_mem _ hx)))
    rw [List.length_erase_of_mem ha] at this
    have := List.length_pos_of_mem ha
    rw [List.length_cons]; omega
theorem ech_le {A B : List (Vec × Nat)} (hA : Ech A) (hB : Ech B) (h : ∀ v, Sp (A.map Prod.fst) v → Sp (B.map Prod.fst) v) : A.length ≤ B.length := by
  have := nodup_le (l := A.map Prod.snd) (m := B.map Prod.snd) hA.nod (fun c hc => by
    obtain ⟨b, hb, rfl⟩ := List.mem_map.1 hc
    have hl := hA.lead b hb
    rcases hB.sp (h _ (Sp.of_mem (List.mem_map.2 ⟨b, hb, rfl⟩))) with e | ⟨d, hd, hl2⟩
    · rw [e] at hl; exact absurd hl.1 (by simp [v0])
    · rw [hl.unique hl2]; exact hd)
  simpa using this
theorem ech_eq {A B : List (Vec × Nat)} (hA : Ech A) (hB : Ech B) (h : ∀ v, Sp (A.map Prod.fst) v ↔ Sp (B.map Prod.fst) v) : A.length = B.length :=
  Nat.le_antisymm (ech_le hA hB fun v => (h v).1) (ech_le hB hA fun v => (h v).2)
end Go.Proofs.Ytcnekpdoldljgaa.Rank
end
section
namespace Go.Proofs.Ytcnekpdoldljgaa.Red
open Go.RowKit Go.Proofs.Ytcnekpdoldljgaa.F Go.Proofs.Ytcnekpdoldljgaa.ORows Go.Proofs.Ytcnekpdoldljgaa.Rank Go.Proofs.YtcnekpdoldljgaaW.PrintWords Go.Proofs.YtcnekpdoldljgaaW.PrintLast
def vec (l : List Int) : Vec := fun j => l.getD j 0 == 1
theorem bits_at {l : List Int} (h : Bits l) (j : Nat) : l.getD j 0 = 0 ∨ l.getD j 0 = 1 := by
  rcases Nat.lt_or_ge j l.length with hj | hj
  · rw [List.getD_eq_getElem?_getD, List.getElem?_eq_getElem hj]; exact h _ (List.getElem_mem hj)
  · rw [List.getD_eq_getElem?_getD, List.getElem?_eq_none hj]; exact .inl rfl
theorem lessV_len {row by' : List Int} (h : by'.length = row.length) : (lessV row by').length = row.length := by
  unfold lessV; rw [List.length_zipWith, h, Nat.min_self]
theorem lessV_at {row by' : List Int} (h : by'.length = row.length) (j : Nat) : (lessV row by').getD j 0 = (row.getD j 0 - row.getD (firstV by').toNat 0 * by'.getD j 0) % 2 ∨ row.length ≤ j := by
  rcases Nat.lt_or_ge j row.length with hj | hj
  · left
    unfold lessV
    have hj2 : j < (List.zipWith (fun x y => (x - row.getD (firstV by').toNat 0 * y) % 2) row by').length := by rw [List.length_zipWith, h, Nat.min_self]; exact hj
    rw [List.getD_eq_getElem?_getD, List.getElem?_eq_getElem hj2, Option.getD_some, List.getElem_zipWith]
    rw [List.getD_eq_getElem?_getD (l := row) (i := j), List.getElem?_eq_getElem hj, List.getD_eq_getElem?_getD (l := by') (i := j), List.getElem?_eq_getElem (by rw [h]; exact hj)]
    rfl
  · exact .inr hj
theorem lessV_bits (row by' : List Int) : Bits (lessV row by') := by
  intro x hx
  unfold lessV at hx
  obtain ⟨i, hi, rfl⟩ := List.mem_iff_getElem.1 hx
  rw [List.getElem_zipWith]
  omega
theorem lessV_vec {row by' : List Int} (h1 : Bits row) (h2 : Bits by') (h : by'.length = row.length) : vec (lessV row by') = if vec row (firstV by').toNat = true then vx (vec row) (vec by') else vec row := by
  funext j
  have key : ((lessV row by').getD j 0 == 1) = if (row.getD (firstV by').toNat 0 == 1) = true then ((row.getD j 0 == 1) != (by'.getD j 0 == 1)) else (row.getD j 0 == 1) := by
    rcases lessV_at h j with e | hj
    · rw [e]
      rcases bits_at h1 (firstV by').toNat with a | a <;> rcases bits_at h1 j with b | b <;> rcases bits_at h2 j with c | c <;> rw [a, b, c] <;> decide
    · rw [List.getD_eq_getElem?_getD (l := lessV row by'), List.getElem?_eq_none (by rw [lessV_len h]; exact hj), List.getD_eq_getElem?_getD (l := row) (i := j), List.getElem?_eq_none hj, List.getD_eq_getElem?_getD (l := by') (i := j), List.getElem?_eq_none (by rw [h]; exact hj)]
      split <;> decide
  show ((lessV row by').getD j 0 == 1) = _
  rw [key]
  show _ = (if vec row (firstV by').toNat = true then vx (vec row) (vec by') else vec row) j
  by_cases hc : vec row (firstV by').toNat = true
  · rw [if_pos hc, if_pos (show (row.getD (firstV by').toNat 0 == 1) = true from hc)]; rfl
  · rw [if_neg hc, if_neg (show ¬ (row.getD (firstV by').toNat 0 == 1) = true from hc)]; rfl
theorem first_lead {l : List Int} (h : Bits l) (h0 : 0 ≤ firstV l) : Lead (vec l) (firstV l).toNat ∧ (firstV l).toNat < l.length := by
  rcases firstV_at l with e | ⟨j, hj, e, hn, hz⟩
  · rw [e] at h0; exact absurd h0 (by decide)
  · rw [e, Int.toNat_natCast]
    refine ⟨⟨?_, fun i hi => ?_⟩, hj⟩
    · show (l.getD j 0 == 1) = true
      rcases bits_at h j with a | a
      · exact absurd a hn
      · rw [a]; rfl
    · show (l.getD i 0 == 1) = false
      rw [hz i hi]; rfl
theorem first_none {l : List Int} (h0 : firstV l < 0) : vec l = v0 := by
  funext j
  show (l.getD j 0 == 1) = false
  rcases Nat.lt_or_ge j l.length with hj | hj
  · rcases firstV_at l with e | ⟨i, _, e, _, _⟩
    · have key : ∀ (l : List Int) (n : Nat), firstFrom l n = -1 → ∀ x ∈ l, x = 0 := by
        intro l
        induction l with
        | nil => intro _ _ x hx; cases hx
        | cons y t ih =>
          intro n he x hx
          rw [firstFrom] at he
          split at he
          · omega
          · next hy =>
            rcases List.mem_cons.1 hx with e | e
            · subst e; simpa using hy
            · exact ih _ he x e
      have := key l 0 e (l.getD j 0) (by rw [List.getD_eq_getElem?_getD, List.getElem?_eq_getElem hj]; exact List.getElem_mem hj)
      rw [this]; rfl
    · rw [e] at h0; omega
  · rw [List.getD_eq_getElem?_getD, List.getElem?_eq_none hj]; rfl
theorem lead_first {l : List Int} (h : Bits l) {c : Nat} (hl : Lead (vec l) c) : firstV l = (c : Int) := by
  rcases Int.lt_or_le (firstV l) 0 with h0 | h0
  · have := first_none h0
    rw [this] at hl; exact absurd hl.1 (by simp [v0])
  · have := (first_lead h h0).1.unique hl
    omega
theorem rest_bits {x f y : Int} (hx : x = 0 ∨ x = 1) (hf : f = 0 ∨ f = 1) (hy : y = 0 ∨ y = 1) : impl_rest.f (wrap64 (x - wrap64 (f * y))) 2 = some ((x - f * y) % 2) := by
  unfold impl_rest.f
  rw [if_neg (by decide)]
  have hfy : f * y = 0 ∨ f * y = 1 := by rcases hf with rfl | rfl <;> rcases hy with rfl | rfl <;> simp
  generalize f * y = z at *
  have e1 : wrap64 z = z := by unfold wrap64; omega
  have e2 : wrap64 (x - z) = x - z := by unfold wrap64; omega
  rw [e1, e2]
  congr 1
  have t2 : Int.tmod (wrap64 2) 2 = 0 := by rw [show wrap64 2 = 2 from by unfold wrap64; omega]; rfl
  have t3 : Int.tmod (wrap64 3) 2 = 1 := by rw [show wrap64 3 = 3 from by unfold wrap64; omega]; rfl
  have t1 : Int.tmod (wrap64 1) 2 = 1 := by rw [show wrap64 1 = 1 from by unfold wrap64; omega]; rfl
  rcases hx with rfl | rfl <;> rcases hfy with rfl | rfl
  · exact t2
  · exact t1
  · exact t3
  · exact t2
theorem less_ok {row by' : List Int} (h1 : Bits row) (h2 : Bits by') (h : by'.length = row.length) (hs : row.length ≤ 1000) (h0 : 0 ≤ firstV by') : LessOk row by' := by
  obtain ⟨hl, hlt⟩ := first_lead h2 h0
  have hf : impl_first.f by' = some (firstV by') := if_pos (by omega)
  obtain ⟨f, hfe⟩ : ∃ f, f = row.getD (firstV by').toNat 0 := ⟨_, rfl⟩
  have hfb : f = 0 ∨ f = 1 := by rw [hfe]; exact bits_at h1 _
  have key : ∀ d j, j + d = row.length → impl_less.l0 (d + 1) ((lessV row by').take j ++ row.drop j) by' 2 f (row.length : Int) (j : Int) = some (lessV row by') := by
    intro d
    induction d with
    | zero =>
      intro j hj
      rw [impl_less.l0, if_neg (by omega), List.drop_eq_nil_of_le (by omega), List.append_nil, List.take_of_length_le (by rw [lessV_len h]; omega)]
    | succ d ih =>
      intro j hj
      have hjl : j < row.length := by omega
      have hll := lessV_len h
      have hlen : ((lessV row by').take j ++ row.drop j).length = row.length := by rw [List.length_append, List.length_take, List.length_drop, hll]; omega
      have e1 : rd ((lessV row by').take j ++ row.drop j) (j : Int) = row.getD j 0 := by
        show List.getD _ (j : Int).toNat 0 = _
        rw [Int.toNat_natCast, List.getD_eq_getElem?_getD, List.getElem?_append_right (by rw [List.length_take, hll]; omega), List.length_take, hll, Nat.min_eq_left (by omega), Nat.sub_self, List.getElem?_drop, Nat.add_zero, List.getD_eq_getElem?_getD]
      have e2 : rd by' (j : Int) = by'.getD j 0 := by show List.getD _ (j : Int).toNat 0 = _; rw [Int.toNat_natCast]
      rw [impl_less.l0, if_pos (by omega), if_pos (by omega), if_pos (by rw [hlen]; omega), if_pos (by rw [h]; omega), e1, e2, rest_bits (bits_at h1 j) hfb (bits_at h2 j), Option.bind_some]
      rw [Int.toNat_natCast]
      have e4 : ((lessV row by').take j ++ row.drop j).set j ((row.getD j 0 - f * by'.getD j 0) % 2) = (lessV row by').take (j + 1) ++ row.drop (j + 1) := by
        rw [List.drop_eq_getElem_cons hjl, List.set_append_right _ _ (by rw [List.length_take, hll]; omega), List.length_take, hll, Nat.min_eq_left (by omega), Nat.sub_self, List.set_cons_zero, List.take_succ_eq_append_getElem (by rw [hll]; exact hjl), List.append_assoc, List.singleton_append]
        congr 2
        rcases lessV_at h j with e | e
        · rw [hfe, ← e, List.getD_eq_getElem?_getD, List.getElem?_eq_getElem (by rw [hll]; exact hjl)]; rfl
        · omega
      have e3 : wrap64 ((j : Int) + 1) = ((j + 1 : Nat) : Int) := by unfold wrap64; omega
      rw [e3, e4]
      exact ih (j + 1) (by omega)
  refine ⟨row.length + 1, ?_⟩
  unfold impl_less.f
  rw [hf, Option.bind_some, if_pos h0, if_pos (by omega)]
  have := key row.length 0 (by omega)
  rw [List.take_zero, List.nil_append, List.drop_zero, hfe] at this
  exact this
end Go.Proofs.Ytcnekpdoldljgaa.Red
end
section
namespace Go.Proofs.Ytcnekpdoldljgaa.Red
open Go.RowKit Go.Proofs.Ytcnekpdoldljgaa.F Go.Proofs.Ytcnekpdoldljgaa.ORows Go.Proofs.Ytcnekpdoldljgaa.Rank
def IsRank (rs : List (List Int)) (r : Nat) : Prop := ∃ B : List (Vec × Nat), Ech B ∧ (∀ v, Sp (B.map Prod.fst) v ↔ Sp (rs.map vec) v) ∧ B.length = r
theorem IsRank.unique {rs : List (List Int)} {r s : Nat} (h : IsRank rs r) (g : IsRank rs s) : r = s := by
  obtain ⟨A, hA, h1, rfl⟩ := h
  obtain ⟨B, hB, h2, rfl⟩ := g
  exact ech_eq hA hB fun v => (h1 v).trans (h2 v).symm
theorem abs_other {b k : Nat} (h : k ≠ b) : ∀ (l : List (Nat × Nat)) (F : Nat → List Int), (l.foldl (absF b) F) k = F k
  | [], _ => rfl
  | p :: t, F => by rw [List.foldl_cons, abs_other h t]; exact upd_ne _ _ h
theorem spr_other {b k : Nat} : ∀ (l : List (Nat × Nat)) (F : Nat → List Int), (∀ q ∈ l, k ≠ q.1) → (l.foldl (sprF b) F) k = F k
  | [], _, _ => rfl
  | p :: t, F, h => by rw [List.foldl_cons, spr_other t _ (fun q hq => h q (List.mem_cons_of_mem _ hq))]; exact upd_ne _ _ (h p List.mem_cons_self)
theorem spr_at {b : Nat} : ∀ (l : List (Nat × Nat)) (F : Nat → List Int), (∀ q ∈ l, b ≠ q.1) → (l.map Prod.fst).Nodup → ∀ q ∈ l, (l.foldl (sprF b) F) q.1 = lessV (F q.1) (F b)
  | [], _, _, _, _, hq => by cases hq
  | p :: t, F, h, hn, q, hq => by
    have hn2 := List.nodup_cons.1 (show (p.1 :: t.map Prod.fst).Nodup from hn)
    rw [List.foldl_cons]
    rcases List.mem_cons.1 hq with e | e
    · subst e
      rw [spr_other t _ (fun r hr e2 => hn2.1 (List.mem_map.2 ⟨r, hr, e2.symm⟩))]
      exact upd_same _ _ _
    · rw [spr_at t _ (fun r hr => h r (List.mem_cons_of_mem _ hr)) hn2.2 q e]
      have e1 : q.1 ≠ p.1 := fun e2 => hn2.1 (e2 ▸ List.mem_map.2 ⟨q, e, rfl⟩)
      show lessV (upd F p.1 _ q.1) (upd F p.1 _ b) = _
      rw [upd_ne _ _ e1, upd_ne _ _ (h p List.mem_cons_self)]
structure Good (n : Nat) (bs : List (Nat × Nat)) (F : Nat → List Int) (i : Nat) (st : St) : Prop where
  bits : ∀ p ∈ bs, Bits (st.1 p.1) ∧ (st.1 p.1).length = n
  rest : ∀ p ∈ bs.drop i, st.1 p.1 = F p.1
  sub : ∀ q ∈ st.2, q ∈ bs.take i
  nod : (st.2.map Prod.fst).Nodup
  lead : ∀ q ∈ st.2, 0 ≤ firstV (st.1 q.1)
  zero : ∀ q ∈ st.2, ∀ r ∈ st.2, q.1 ≠ r.1 → vec (st.1 r.1) (firstV (st.1 q.1)).toNat = false
  span : ∀ v, Sp (st.2.map fun q => vec (st.1 q.1)) v ↔ Sp ((bs.take i).map fun p => vec (F p.1)) v
theorem take_ne {bs : List (Nat × Nat)} (hnd : (bs.map Prod.fst).Nodup) {x y : Nat} (hxy : x ≤ y) (hy : y < bs.length) {q : Nat × Nat} (hq : q ∈ bs.take x) : q.1 ≠ (bs.getD y (0, 0)).1 := by
  obtain ⟨i, hi, rfl⟩ := List.mem_take_iff_getElem.1 hq
  rw [List.getD_eq_getElem?_getD, List.getElem?_eq_getElem hy]
  exact List.pairwise_iff_getElem.1 (List.pairwise_map.1 hnd) i y (by omega) hy (by omega)
section
variable {n : Nat} {bs : List (Nat × Nat)} {F : Nat → List Int} {i : Nat} {st : St}
theorem abs_val (hg : Good n bs F i st) (hn : n ≤ 1000) {p : Nat × Nat} (hp : p ∈ bs) (hne : ∀ q ∈ st.2, q.1 ≠ p.1) : ∀ j, j ≤ st.2.length →
    (Bits (absAt st p.1 j p.1) ∧ (absAt st p.1 j p.1).length = n) ∧ (∀ q ∈ st.2.take j, vec (absAt st p.1 j p.1) (firstV (st.1 q.1)).toNat = false) ∧
      (∃ u, Sp (st.2.map fun q => vec (st.1 q.1)) u ∧ vec (absAt st p.1 j p.1) = vx (vec (st.1 p.1)) u) ∧ (j < st.2.length → LessOk (absAt st p.1 j p.1) (absAt st p.1 j (st.2.getD j (0, 0)).1)) := by
  have less : ∀ j, j < st.2.length → (Bits (absAt st p.1 j p.1) ∧ (absAt st p.1 j p.1).length = n) → LessOk (absAt st p.1 j p.1) (absAt st p.1 j (st.2.getD j (0, 0)).1) := by
    intro j hj hb
    have hm : st.2.getD j (0, 0) ∈ st.2 := by rw [List.getD_eq_getElem?_getD, List.getElem?_eq_getElem hj]; exact List.getElem_mem hj
    have hq := hg.bits _ (List.mem_of_mem_take (hg.sub _ hm))
    rw [show absAt st p.1 j (st.2.getD j (0, 0)).1 = st.1 (st.2.getD j (0, 0)).1 from abs_other (hne _ hm) _ _]
    exact less_ok hb.1 hq.1 (by rw [hq.2, hb.2]) (by rw [hb.2]; exact hn) (hg.lead _ hm)
  intro j
  induction j with
  | zero =>
    intro _
    have hb := hg.bits p hp
    exact ⟨hb, fun q hq => by simp at hq, ⟨v0, .zero, (vx_zero _).symm⟩, fun h => less 0 h hb⟩
  | succ j ih =>
    intro hj
    have hj' : j < st.2.length := hj
    obtain ⟨hb, hz, ⟨u, hu, he⟩, _⟩ := ih (by omega)
    have hm : st.2.getD j (0, 0) ∈ st.2 := by rw [List.getD_eq_getElem?_getD, List.getElem?_eq_getElem hj']; exact List.getElem_mem hj'
    obtain ⟨q, hqe⟩ : ∃ q, st.2.getD j (0, 0) = q := ⟨_, rfl⟩
    rw [hqe] at hm
    have hq := hg.bits _ (List.mem_of_mem_take (hg.sub _ hm))
    have hv : absAt st p.1 (j + 1) p.1 = lessV (absAt st p.1 j p.1) (st.1 q.1) := by
      rw [absAt_succ st p.1 hj', hqe]
      show upd _ p.1 (lessV (absAt st p.1 j p.1) (absAt st p.1 j q.1)) p.1 = _
      rw [upd_same, show absAt st p.1 j q.1 = st.1 q.1 from abs_other (hne _ hm) _ _]
    have hbits : Bits (absAt st p.1 (j + 1) p.1) ∧ (absAt st p.1 (j + 1) p.1).length = n := by
      rw [hv]; exact ⟨lessV_bits _ _, by rw [lessV_len (by rw [hq.2, hb.2]), hb.2]⟩
    have hvec := lessV_vec hb.1 hq.1 (by rw [hq.2, hb.2])
    rw [← hv] at hvec
    have hlq := (first_lead hq.1 (hg.lead _ hm)).1
    refine ⟨hbits, fun q0 hq0 => ?_, ?_, fun h => less (j + 1) h hbits⟩
    · rw [List.take_succ_eq_append_getElem hj'] at hq0
      rw [hvec]
      have hqj : st.2[j] = q := by rw [← hqe, List.getD_eq_getElem?_getD, List.getElem?_eq_getElem hj']; rfl
      rcases List.mem_append.1 hq0 with h | h
      · have h1 := hz q0 h
        have hne2 : q0.1 ≠ q.1 := by
          obtain ⟨a, ha, rfl⟩ := List.mem_take_iff_getElem.1 h
          rw [← hqj]
          exact List.pairwise_iff_getElem.1 (List.pairwise_map.1 hg.nod) a j (by omega) hj' (by omega)
        have h2 := hg.zero q0 (List.mem_of_mem_take h) q hm hne2
        split
        · show (vec (absAt st p.1 j p.1) _ != vec (st.1 q.1) _) = false
          rw [h1, h2]; rfl
        · exact h1
      · rw [List.mem_singleton.1 h, hqj]
        split
        · next hc =>
          show (vec (absAt st p.1 j p.1) _ != vec (st.1 q.1) _) = false
          rw [hc, hlq.1]; rfl
        · next hc => simpa using hc
    · rw [hvec]
      split
      · refine ⟨vx u (vec (st.1 q.1)), .add _ _ hu (List.mem_map.2 ⟨q, hm, rfl⟩), ?_⟩
        rw [he, vx_assoc]
      · exact ⟨u, hu, he⟩
theorem spanned {A B : List Vec} (h1 : ∀ a ∈ A, Sp B a) (h2 : ∀ b ∈ B, Sp A b) (v : Vec) : Sp A v ↔ Sp B v := ⟨Sp.mono h1, Sp.mono h2⟩
theorem vx_eq_v0 {a b : Vec} (h : vx a b = v0) : a = b := by
  have := congrArg (fun t => vx t b) h
  simp only [vx_cancel, zero_vx] at this
  exact this
theorem good_step (hnd : (bs.map Prod.fst).Nodup) (hn : n ≤ 1000) (hi : i < bs.length) (hg : Good n bs F i st) : StepOk st (bs.getD i (0, 0)).1 ∧ Good n bs F (i + 1) (stepF st (bs.getD i (0, 0))) := by
  obtain ⟨p, hpe⟩ : ∃ p, bs.getD i (0, 0) = p := ⟨_, rfl⟩
  have hpi : bs[i] = p := by rw [← hpe, List.getD_eq_getElem?_getD, List.getElem?_eq_getElem hi]; rfl
  have hp : p ∈ bs := by rw [← hpi]; exact List.getElem_mem hi
  have hne : ∀ q ∈ st.2, q.1 ≠ p.1 := fun q hq => by rw [← hpe]; exact take_ne hnd (Nat.le_refl _) hi (hg.sub q hq)
  have hpF : st.1 p.1 = F p.1 := hg.rest p (by rw [List.drop_eq_getElem_cons hi, hpi]; exact List.mem_cons_self)
  have hdrop : ∀ q ∈ bs.drop (i + 1), q ∈ bs.drop i ∧ q.1 ≠ p.1 ∧ ∀ r ∈ st.2, r.1 ≠ q.1 := fun q hq => by
    obtain ⟨a, ha', rfl⟩ := List.mem_drop_iff_getElem.1 hq
    have ha : i + 1 + a < bs.length := by omega
    have hq2 : bs.getD (i + 1 + a) (0, 0) = bs[i + 1 + a] := by rw [List.getD_eq_getElem?_getD, List.getElem?_eq_getElem ha]; rfl
    refine ⟨by rw [List.drop_eq_getElem_cons hi]; exact List.mem_cons_of_mem _ hq, fun e => ?_, fun r hr => ?_⟩
    · have := List.pairwise_iff_getElem.1 (List.pairwise_map.1 hnd) i (i + 1 + a) hi ha (by omega)
      rw [hpi] at this; exact this e.symm
    · have := take_ne hnd (by omega : i ≤ i + 1 + a) ha (hg.sub r hr)
      rw [hq2] at this; exact this
  have htake : bs.take (i + 1) = bs.take i ++ [p] := by rw [List.take_succ_eq_append_getElem hi, hpi]
  have habs := abs_val hg hn hp hne
  obtain ⟨F1, hF1⟩ : ∃ F1, absAt st p.1 st.2.length = F1 := ⟨_, rfl⟩
  obtain ⟨hcb, hcz, ⟨u, hu, hcu⟩, _⟩ := habs st.2.length (Nat.le_refl _)
  rw [hF1] at hcb hcz hcu
  rw [List.take_length] at hcz
  have hother : ∀ k, k ≠ p.1 → F1 k = st.1 k := fun k hk => by rw [← hF1]; exact abs_other hk _ _
  have hfold : ∀ j, sprAt st p.1 j = (st.2.take j).foldl (sprF p.1) F1 := fun j => by unfold sprAt; rw [hF1]
  have hless : 0 ≤ firstV (F1 p.1) → ∀ j, j < st.2.length → LessOk (sprAt st p.1 j (st.2.getD j (0, 0)).1) (sprAt st p.1 j p.1) := by
    intro h0 j hj
    have hm : st.2.getD j (0, 0) ∈ st.2 := by rw [List.getD_eq_getElem?_getD, List.getElem?_eq_getElem hj]; exact List.getElem_mem hj
    have hq := hg.bits _ (List.mem_of_mem_take (hg.sub _ hm))
    have e1 : sprAt st p.1 j (st.2.getD j (0, 0)).1 = st.1 (st.2.getD j (0, 0)).1 := by
      rw [hfold, spr_other _ _ (fun r hr => (take_ne hg.nod (Nat.le_refl j) hj hr).symm), hother _ (hne _ hm)]
    have e2 : sprAt st p.1 j p.1 = F1 p.1 := by rw [hfold, spr_other _ _ (fun r hr => (hne r (List.mem_of_mem_take hr)).symm)]
    rw [e1, e2]
    exact less_ok hq.1 hcb.1 (by rw [hq.2, hcb.2]) (by rw [hq.2]; exact hn) h0
  have hstep : StepOk st p.1 := ⟨fun j hj => (habs j (Nat.le_of_lt hj)).2.2.2 hj, by rw [hF1]; exact hcb.1, fun h0 => hless (by rw [← hF1]; exact h0)⟩
  have hSi : ∀ v, Sp (st.2.map fun q => vec (st.1 q.1)) v → Sp ((bs.take (i + 1)).map fun p => vec (F p.1)) v := fun v hv =>
    Sp.mono (fun r hr => Sp.of_mem (by rw [htake, List.map_append]; exact List.mem_append_left _ hr)) ((hg.span v).1 hv)
  have hTi : ∀ r, r ∈ (bs.take (i + 1)).map (fun p => vec (F p.1)) → Sp (st.2.map fun q => vec (st.1 q.1)) r ∨ r = vec (st.1 p.1) := fun r hr => by
    rw [htake, List.map_append] at hr
    rcases List.mem_append.1 hr with h | h
    · exact .inl ((hg.span r).2 (Sp.of_mem h))
    · rw [List.map_singleton] at h
      rw [hpF]; exact .inr (List.mem_singleton.1 h)
  rw [hpe]
  refine ⟨hstep, ?_⟩
  by_cases h0 : firstV (F1 p.1) < 0
  · have hz := first_none h0
    rw [hcu] at hz
    have hpu := vx_eq_v0 hz
    rw [stepF_neg (by rw [hF1]; exact h0), hF1]
    have hmap : (st.2.map fun q => vec (F1 q.1)) = st.2.map fun q => vec (st.1 q.1) := List.map_congr_left (fun q hq => by rw [hother _ (hne q hq)])
    refine ⟨fun q hq => ?_, fun q hq => ?_, fun q hq => ?_, hg.nod, fun q hq => ?_, fun q hq r hr hqr => ?_, fun v => ?_⟩
    · by_cases e : q.1 = p.1
      · show Bits (F1 q.1) ∧ (F1 q.1).length = n
        rw [e]; exact hcb
      · show Bits (F1 q.1) ∧ (F1 q.1).length = n
        rw [hother _ e]; exact hg.bits q hq
    · obtain ⟨h1, h2, _⟩ := hdrop q hq
      exact (hother _ h2).trans (hg.rest q h1)
    · rw [htake]; exact List.mem_append_left _ (hg.sub q hq)
    · show 0 ≤ firstV (F1 q.1)
      rw [hother _ (hne q hq)]; exact hg.lead q hq
    · show vec (F1 r.1) (firstV (F1 q.1)).toNat = false
      rw [hother _ (hne q hq), hother _ (hne r hr)]; exact hg.zero q hq r hr hqr
    · show Sp (st.2.map fun q => vec (F1 q.1)) v ↔ _
      rw [hmap]
      refine spanned (fun a ha => hSi a (Sp.of_mem ha)) (fun b hb => ?_) v
      rcases hTi b hb with h | h
      · exact h
      · rw [h, hpu]; exact hu
  · have h0' : 0 ≤ firstV (F1 p.1) := by omega
    obtain ⟨hL, hLn⟩ := first_lead hcb.1 h0'
    rw [stepF_pos (by rw [hF1]; exact h0)]
    obtain ⟨G, hG⟩ : ∃ G, sprAt st p.1 st.2.length = G := ⟨_, rfl⟩
    rw [hG]
    have hGe : G = st.2.foldl (sprF p.1) F1 := by rw [← hG, hfold, List.take_length]
    have hGp : G p.1 = F1 p.1 := by rw [hGe, spr_other _ _ (fun r hr => (hne r hr).symm)]
    have hGq : ∀ q ∈ st.2, G q.1 = lessV (st.1 q.1) (F1 p.1) := fun q hq => by
      rw [hGe, spr_at _ _ (fun r hr => (hne r hr).symm) hg.nod q hq, hother _ (hne q hq)]
    have hGo : ∀ k, k ≠ p.1 → (∀ r ∈ st.2, r.1 ≠ k) → G k = st.1 k := fun k h1 h2 => by
      rw [hGe, spr_other _ _ (fun r hr => (h2 r hr).symm), hother _ h1]
    have hqb : ∀ q ∈ st.2, Bits (st.1 q.1) ∧ (st.1 q.1).length = n := fun q hq => hg.bits _ (List.mem_of_mem_take (hg.sub _ hq))
    have hGv : ∀ q ∈ st.2, vec (G q.1) = if vec (st.1 q.1) (firstV (F1 p.1)).toNat = true then vx (vec (st.1 q.1)) (vec (F1 p.1)) else vec (st.1 q.1) := fun q hq => by
      rw [hGq q hq]; exact lessV_vec (hqb q hq).1 hcb.1 (by rw [hcb.2, (hqb q hq).2])
    have hGb : ∀ q ∈ st.2, Bits (G q.1) ∧ (G q.1).length = n := fun q hq => by
      rw [hGq q hq]; exact ⟨lessV_bits _ _, by rw [lessV_len (by rw [hcb.2, (hqb q hq).2]), (hqb q hq).2]⟩
    have hGl : ∀ q ∈ st.2, firstV (G q.1) = firstV (st.1 q.1) := fun q hq => by
      have hl := (first_lead (hqb q hq).1 (hg.lead q hq)).1
      have hz := hcz q hq
      have : Lead (vec (G q.1)) (firstV (st.1 q.1)).toNat := by
        rw [hGv q hq]
        split
        · next hc =>
          have hlt : (firstV (st.1 q.1)).toNat < (firstV (F1 p.1)).toNat := by
            rcases Nat.lt_trichotomy (firstV (st.1 q.1)).toNat (firstV (F1 p.1)).toNat with h | h | h
            · exact h
            · rw [h, hL.1] at hz; exact absurd hz (by simp)
            · have := hl.2 _ h; rw [this] at hc; exact absurd hc (by simp)
          refine ⟨?_, fun j hj => ?_⟩
          · show (vec (st.1 q.1) _ != vec (F1 p.1) _) = true
            rw [hl.1, hz]; rfl
          · show (vec (st.1 q.1) j != vec (F1 p.1) j) = false
            rw [hl.2 j hj, hL.2 j (by omega)]; rfl
        · exact hl
      rw [lead_first (hGb q hq).1 this]
      have := hg.lead q hq; omega
    have hmapG : ((st.2 ++ [p]).map fun q => vec (G q.1)) = (st.2.map fun q => vec (G q.1)) ++ [vec (F1 p.1)] := by
      rw [List.map_append, List.map_singleton, hGp]
    have hcur : Sp ((st.2 ++ [p]).map fun q => vec (G q.1)) (vec (F1 p.1)) := Sp.of_mem (by rw [hmapG]; exact List.mem_append_right _ (List.mem_singleton.2 rfl))
    have hold : ∀ v, Sp (st.2.map fun q => vec (st.1 q.1)) v → Sp ((st.2 ++ [p]).map fun q => vec (G q.1)) v := fun v hv => by
      refine Sp.mono (fun r hr => ?_) hv
      obtain ⟨q, hq, rfl⟩ := List.mem_map.1 hr
      have hm : Sp ((st.2 ++ [p]).map fun q => vec (G q.1)) (vec (G q.1)) := Sp.of_mem (List.mem_map.2 ⟨q, List.mem_append_left _ hq, rfl⟩)
      have hv := hGv q hq
      split at hv
      · have : vec (st.1 q.1) = vx (vec (G q.1)) (vec (F1 p.1)) := by rw [hv, vx_cancel]
        rw [this]; exact hm.vx hcur
      · rw [← hv]; exact hm
    refine ⟨fun q hq => ?_, fun q hq => ?_, fun q hq => ?_, ?_, fun q hq => ?_, fun q hq r hr hqr => ?_, fun v => ?_⟩
    · show Bits (G q.1) ∧ (G q.1).length = n
      by_cases e : q.1 = p.1
      · rw [e, hGp]; exact hcb
      · by_cases e2 : ∃ r ∈ st.2, r.1 = q.1
        · obtain ⟨r, hr, e3⟩ := e2
          rw [← e3]; exact hGb r hr
        · rw [hGo _ e (fun r hr e3 => e2 ⟨r, hr, e3⟩)]; exact hg.bits q hq
    · obtain ⟨h1, h2, h3⟩ := hdrop q hq
      exact (hGo _ h2 h3).trans (hg.rest q h1)
    · rw [htake]
      rcases List.mem_append.1 hq with h | h
      · exact List.mem_append_left _ (hg.sub q h)
      · exact List.mem_append_right _ h
    · show ((st.2 ++ [p]).map Prod.fst).Nodup
      rw [List.map_append, List.map_singleton]
      refine List.nodup_append.2 ⟨hg.nod, by simp, fun a ha b hb e => ?_⟩
      obtain ⟨q, hq, rfl⟩ := List.mem_map.1 ha
      exact hne q hq (e.trans (List.mem_singleton.1 hb))
    · show 0 ≤ firstV (G q.1)
      rcases List.mem_append.1 hq with h | h
      · rw [hGl q h]; exact hg.lead q h
      · rw [List.mem_singleton.1 h, hGp]; exact h0'
    · show vec (G r.1) (firstV (G q.1)).toNat = false
      rcases List.mem_append.1 hq with hq | hq <;> rcases List.mem_append.1 hr with hr | hr
      · rw [hGl q hq, hGv r hr]
        have h1 := hg.zero q hq r hr hqr
        split
        · show (vec (st.1 r.1) _ != vec (F1 p.1) _) = false
          rw [h1, hcz q hq]; rfl
        · exact h1
      · rw [List.mem_singleton.1 hr, hGp, hGl q hq]; exact hcz q hq
      · rw [List.mem_singleton.1 hq, hGp, hGv r hr]
        split
        · next hc =>
          show (vec (st.1 r.1) _ != vec (F1 p.1) _) = false
          rw [hc, hL.1]; rfl
        · next hc => simpa using hc
      · rw [List.mem_singleton.1 hq, List.mem_singleton.1 hr] at hqr
        exact absurd rfl hqr
    · show Sp ((st.2 ++ [p]).map fun q => vec (G q.1)) v ↔ _
      have hcurS : Sp ((bs.take (i + 1)).map fun p => vec (F p.1)) (vec (F1 p.1)) := by
        rw [hcu, hpF]
        refine Sp.vx (Sp.of_mem ?_) (hSi u hu)
        rw [htake, List.map_append]; exact List.mem_append_right _ (by simp)
      refine spanned (fun a ha => ?_) (fun b hb => ?_) v
      · rw [hmapG] at ha
        rcases List.mem_append.1 ha with h | h
        · obtain ⟨q, hq, rfl⟩ := List.mem_map.1 h
          have hm := hSi (vec (st.1 q.1)) (Sp.of_mem (List.mem_map.2 ⟨q, hq, rfl⟩))
          show Sp _ (vec (G q.1))
          rw [hGv q hq]
          split
          · exact hm.vx hcurS
          · exact hm
        · rw [List.mem_singleton.1 h]; exact hcurS
      · rcases hTi b hb with h | h
        · exact hold b h
        · have : vec (st.1 p.1) = vx (vec (F1 p.1)) u := by rw [hcu, vx_cancel]
          rw [h, this]; exact hcur.vx (hold u hu)
end
theorem red_ok {n : Nat} {bs : List (Nat × Nat)} {F : Nat → List Int} (hnd : (bs.map Prod.fst).Nodup) (hn : n ≤ 1000) (hb : ∀ p ∈ bs, Bits (F p.1) ∧ (F p.1).length = n) :
    RedOk F bs ∧ IsRank (bs.map fun p => F p.1) (redAt F bs bs.length).2.length := by
  have hgood : ∀ i, i ≤ bs.length → Good n bs F i (redAt F bs i) := by
    intro i
    induction i with
    | zero => exact fun _ => ⟨hb, fun _ _ => rfl, fun q hq => hq, List.Pairwise.nil, (fun q hq => by cases hq), (fun q hq => by cases hq), (fun v => by rw [List.take_zero]; exact Iff.rfl)⟩
    | succ i ih =>
      intro hi
      rw [redAt_succ F bs hi]
      exact (good_step hnd hn hi (ih (by omega))).2
  refine ⟨fun i hi => (good_step hnd hn hi (hgood i (Nat.le_of_lt hi))).1, ?_⟩
  have hg := hgood bs.length (Nat.le_refl _)
  obtain ⟨st, hst⟩ : ∃ st, redAt F bs bs.length = st := ⟨_, rfl⟩
  rw [hst] at hg ⊢
  have hq : ∀ q ∈ st.2, Lead (vec (st.1 q.1)) (firstV (st.1 q.1)).toNat := fun q hq => (first_lead (hg.bits q (List.mem_of_mem_take (hg.sub q hq))).1 (hg.lead q hq)).1
  refine ⟨st.2.map fun q => (vec (st.1 q.1), (firstV (st.1 q.1)).toNat), ⟨fun x hx => ?_, ?_⟩, fun v => ?_, List.length_map _⟩
  · obtain ⟨q, hq2, rfl⟩ := List.mem_map.1 hx
    exact hq q hq2
  · rw [List.map_map]
    refine List.pairwise_map.2 (List.Pairwise.imp_of_mem ?_ (List.pairwise_map.1 hg.nod))
    intro a b ha hb hab e
    have h1 := hg.zero a ha b hb hab
    have h2 := (hq b hb).1
    have e' : (firstV (st.1 a.1)).toNat = (firstV (st.1 b.1)).toNat := e
    rw [e', h2] at h1; exact absurd h1 (by simp)
  · have := hg.span v
    rw [List.take_length] at this
    rw [List.map_map, List.map_map]
    exact this
end Go.Proofs.Ytcnekpdoldljgaa.Red
end
section
namespace Go.Proofs.Ytcnekpdoldljgaa.Red
open Go.RowKit Go.Proofs.Ytcnekpdoldljgaa.F Go.Proofs.Ytcnekpdoldljgaa.ORows Go.Proofs.Ytcnekpdoldljgaa.Rank
def addV (row own : List Int) : List Int := List.zipWith (fun x y => (x + y) % 2) row own
abbrev hd (H : List (Nat × Nat)) (i : Nat) : Nat × Nat := H.getD i (0, 0)
def findAt (H : List (Nat × Nat)) (F : Nat → List Int) (c : Nat) : Nat → Nat → Nat
  | 0, k => k
  | d + 1, k => if (F (hd H k).1).getD c 0 = 0 then findAt H F c d (k + 1) else k
def swapH (H : List (Nat × Nat)) (i k : Nat) : List (Nat × Nat) := (H.set i (hd H k)).set k (hd H i)
def elimF (own c : Nat) (F : Nat → List Int) (p : Nat × Nat) : Nat → List Int := if (F p.1).getD c 0 = 0 then F else upd F p.1 (addV (F p.1) (F own))
structure GSt where
  H : List (Nat × Nat)
  F : Nat → List Int
  k : Nat
def elimAt (H : List (Nat × Nat)) (F : Nat → List Int) (own c k j : Nat) : Nat → List Int := ((H.take j).drop (k + 1)).foldl (elimF own c) F
def gStep (st : GSt) (c : Nat) : GSt :=
  let i := findAt st.H st.F c (st.H.length - st.k) st.k
  if i = st.H.length then st else ⟨swapH st.H i st.k, elimAt (swapH st.H i st.k) st.F (hd st.H i).1 c st.k st.H.length, st.k + 1⟩
def gAt (H : List (Nat × Nat)) (F : Nat → List Int) : Nat → GSt
  | 0 => ⟨H, F, 0⟩
  | c + 1 => gStep (gAt H F c) c
theorem swapH_len (H : List (Nat × Nat)) (i k : Nat) : (swapH H i k).length = H.length := by simp [swapH]
theorem gStep_len (st : GSt) (c : Nat) : (gStep st c).H.length = st.H.length := by
  unfold gStep
  dsimp only
  split
  · rfl
  · exact swapH_len _ _ _
theorem findAt_ge (H : List (Nat × Nat)) (F : Nat → List Int) (c : Nat) : ∀ d k, k ≤ findAt H F c d k ∧ findAt H F c d k ≤ k + d ∧ (∀ j, k ≤ j → j < findAt H F c d k → (F (hd H j).1).getD c 0 = 0) ∧ (findAt H F c d k < k + d → (F (hd H (findAt H F c d k)).1).getD c 0 ≠ 0)
  | 0, k => ⟨Nat.le_refl _, Nat.le_refl _, fun j h1 h2 => absurd h2 (by unfold findAt; omega), fun h => absurd h (by unfold findAt; omega)⟩
  | d + 1, k => by
    rw [findAt]
    by_cases h : (F (hd H k).1).getD c 0 = 0
    · rw [if_pos h]
      obtain ⟨a, b, e, f⟩ := findAt_ge H F c d (k + 1)
      refine ⟨by omega, by omega, fun j h1 h2 => ?_, fun h2 => f (by omega)⟩
      rcases Nat.eq_or_lt_of_le h1 with e1 | e1
      · rw [← e1]; exact h
      · exact e j e1 h2
    · rw [if_neg h]
      exact ⟨Nat.le_refl _, by omega, fun j h1 h2 => absurd h2 (by omega), fun _ => h⟩
theorem swapH_at (H : List (Nat × Nat)) {i k : Nat} (hi : i < H.length) (j : Nat) (hj : j < H.length) : hd (swapH H i k) j = if j = k then hd H i else if j = i then hd H k else hd H j := by
  unfold hd swapH
  rw [List.getD_eq_getElem?_getD, List.getElem?_set, List.getElem?_set]
  by_cases h1 : k = j
  · subst h1
    simp [hj]
  · rw [if_neg h1, if_neg (Ne.symm h1)]
    by_cases h2 : i = j
    · subst h2
      simp [hi]
    · rw [if_neg h2, if_neg (Ne.symm h2), List.getD_eq_getElem?_getD (l := H) (i := j)]
theorem addV_len {row own : List Int} (h : own.length = row.length) : (addV row own).length = row.length := by unfold addV; rw [List.length_zipWith, h, Nat.min_self]
theorem addV_bits (row own : List Int) : Bits (addV row own) := by
  intro x hx
  unfold addV at hx
  obtain ⟨i, hi, rfl⟩ := List.mem_iff_getElem.1 hx
  rw [List.getElem_zipWith]
  omega
theorem addV_vec {row own : List Int} (h1 : Bits row) (h2 : Bits own) (h : own.length = row.length) : vec (addV row own) = vx (vec row) (vec own) := by
  funext j
  show ((addV row own).getD j 0 == 1) = ((row.getD j 0 == 1) != (own.getD j 0 == 1))
  rcases Nat.lt_or_ge j row.length with hj | hj
  · have e : (addV row own).getD j 0 = (row.getD j 0 + own.getD j 0) % 2 := by
      unfold addV
      have hj2 : j < (List.zipWith (fun x y => (x + y) % 2) row own).length := by rw [List.length_zipWith, h, Nat.min_self]; exact hj
      rw [List.getD_eq_getElem?_getD, List.getElem?_eq_getElem hj2, Option.getD_some, List.getElem_zipWith]
      rw [List.getD_eq_getElem?_getD (l := row) (i := j), List.getElem?_eq_getElem hj, List.getD_eq_getElem?_getD (l := own) (i := j), List.getElem?_eq_getElem (by rw [h]; exact hj)]
      rfl
    rw [e]
    rcases bits_at h1 j with b | b <;> rcases bits_at h2 j with c | c <;> rw [b, c] <;> decide
  · rw [List.getD_eq_getElem?_getD (l := addV row own), List.getElem?_eq_none (by rw [addV_len h]; exact hj), List.getD_eq_getElem?_getD (l := row) (i := j), List.getElem?_eq_none hj, List.getD_eq_getElem?_getD (l := own) (i := j), List.getElem?_eq_none (by rw [h]; exact hj)]
    rfl
theorem elim_other {own c k : Nat} : ∀ (l : List (Nat × Nat)) (F : Nat → List Int), (∀ q ∈ l, k ≠ q.1) → (l.foldl (elimF own c) F) k = F k
  | [], _, _ => rfl
  | p :: t, F, h => by
    rw [List.foldl_cons, elim_other t _ (fun q hq => h q (List.mem_cons_of_mem _ hq))]
    unfold elimF
    split
    · rfl
    · exact upd_ne _ _ (h p List.mem_cons_self)
theorem elim_at {own c : Nat} : ∀ (l : List (Nat × Nat)) (F : Nat → List Int), (∀ q ∈ l, own ≠ q.1) → (l.map Prod.fst).Nodup → ∀ q ∈ l, (l.foldl (elimF own c) F) q.1 = if (F q.1).getD c 0 = 0 then F q.1 else addV (F q.1) (F own)
  | [], _, _, _, _, hq => by cases hq
  | p :: t, F, h, hn, q, hq => by
    have hn2 := List.nodup_cons.1 (show (p.1 :: t.map Prod.fst).Nodup from hn)
    have hne : ∀ k, k ≠ p.1 → elimF own c F p k = F k := fun k hk => by
      unfold elimF; split
      · rfl
      · exact upd_ne _ _ hk
    rw [List.foldl_cons]
    rcases List.mem_cons.1 hq with e | e
    · subst e
      rw [elim_other t _ (fun r hr e2 => hn2.1 (List.mem_map.2 ⟨r, hr, e2.symm⟩))]
      unfold elimF
      split
      · rfl
      · exact upd_same _ _ _
    · rw [elim_at t _ (fun r hr => h r (List.mem_cons_of_mem _ hr)) hn2.2 q e]
      have e1 : q.1 ≠ p.1 := fun e2 => hn2.1 (e2 ▸ List.mem_map.2 ⟨q, e, rfl⟩)
      rw [hne _ e1, hne _ (h p List.mem_cons_self)]
structure GGood (n : Nat) (bs : List (Nat × Nat)) (F0 : Nat → List Int) (c : Nat) (st : GSt) : Prop where
  inj : ∀ a b, a < st.H.length → b < st.H.length → (hd st.H a).1 = (hd st.H b).1 → a = b
  sur : ∀ p ∈ bs, ∃ a, a < st.H.length ∧ hd st.H a = p
  sub : ∀ a, a < st.H.length → hd st.H a ∈ bs
  bits : ∀ p ∈ bs, Bits (st.F p.1) ∧ (st.F p.1).length = n
  kl : st.k ≤ st.H.length
  lead : ∃ L : Nat → Nat, (∀ i, i < st.k → L i < c ∧ Lead (vec (st.F (hd st.H i).1)) (L i)) ∧ ∀ i j, i < j → j < st.k → L i < L j
  zero : ∀ i, st.k ≤ i → i < st.H.length → ∀ j, j < c → vec (st.F (hd st.H i).1) j = false
  span : ∀ v, Sp (st.H.map fun p => vec (st.F p.1)) v ↔ Sp (bs.map fun p => vec (F0 p.1)) v
theorem vec_zero {l : List Int} {c : Nat} (h : l.getD c 0 = 0) : vec l c = false := by show (l.getD c 0 == 1) = false; rw [h]; rfl
theorem vec_one {l : List Int} (hb : Bits l) {c : Nat} (h : l.getD c 0 ≠ 0) : vec l c = true := by
  show (l.getD c 0 == 1) = true
  rcases bits_at hb c with e | e
  · exact absurd e h
  · rw [e]; rfl
theorem hd_mem {H : List (Nat × Nat)} {a : Nat} (h : a < H.length) : hd H a ∈ H := by
  unfold hd; rw [List.getD_eq_getElem?_getD, List.getElem?_eq_getElem h]; exact List.getElem_mem h
theorem mem_hd {H : List (Nat × Nat)} {p : Nat × Nat} (h : p ∈ H) : ∃ a, a < H.length ∧ hd H a = p := by
  obtain ⟨a, ha, rfl⟩ := List.mem_iff_getElem.1 h
  exact ⟨a, ha, by unfold hd; rw [List.getD_eq_getElem?_getD, List.getElem?_eq_getElem ha]; rfl⟩
theorem mem_drop_hd {H : List (Nat × Nat)} {k : Nat} {p : Nat × Nat} : p ∈ H.drop k ↔ ∃ a, k ≤ a ∧ a < H.length ∧ hd H a = p := by
  constructor
  · intro h
    obtain ⟨a, ha, rfl⟩ := List.mem_drop_iff_getElem.1 h
    exact ⟨k + a, by omega, by omega, by unfold hd; rw [List.getD_eq_getElem?_getD, List.getElem?_eq_getElem (by omega)]; rfl⟩
  · rintro ⟨a, h1, h2, rfl⟩
    refine List.mem_drop_iff_getElem.2 ⟨a - k, by omega, ?_⟩
    unfold hd
    rw [List.getD_eq_getElem?_getD, List.getElem?_eq_getElem h2, Option.getD_some]
    congr 1
    omega
theorem gauss_step {n : Nat} {bs : List (Nat × Nat)} {F0 : Nat → List Int} {c : Nat} {st : GSt} (hg : GGood n bs F0 c st) : GGood n bs F0 (c + 1) (gStep st c) := by
  obtain ⟨H, F, k⟩ := st
  have hkl : k ≤ H.length := hg.kl
  obtain ⟨hf1, hf2, hf3, hf4⟩ := findAt_ge H F c (H.length - k) k
  unfold gStep
  dsimp only
  obtain ⟨i, hi⟩ : ∃ i, findAt H F c (H.length - k) k = i := ⟨_, rfl⟩
  rw [hi] at hf1 hf2 hf3 hf4 ⊢
  obtain ⟨L, hL1, hL2⟩ := hg.lead
  by_cases he : i = H.length
  · rw [if_pos he]
    refine ⟨hg.inj, hg.sur, hg.sub, hg.bits, hg.kl, ⟨L, fun j hj => ⟨Nat.lt_succ_of_lt (hL1 j hj).1, (hL1 j hj).2⟩, hL2⟩, fun j h1 h2 d hd' => ?_, hg.span⟩
    rcases Nat.lt_or_ge d c with e | e
    · exact hg.zero j h1 h2 d e
    · have : d = c := by omega
      subst this
      exact vec_zero (hf3 j h1 (by rw [he]; exact h2))
  · rw [if_neg he]
    have hiN : i < H.length := by omega
    have hkN : k < H.length := by omega
    obtain ⟨H', hH'⟩ : ∃ H', swapH H i k = H' := ⟨_, rfl⟩
    have hlen : H'.length = H.length := by rw [← hH', swapH_len]
    have hat : ∀ j, j < H.length → hd H' j = if j = k then hd H i else if j = i then hd H k else hd H j := fun j hj => by rw [← hH']; exact swapH_at H hiN j hj
    rw [hH']
    have hback : ∀ j, j < H.length → ∃ b, b < H.length ∧ hd H' j = hd H b ∧ (j = k → b = i) ∧ (j < k → b = j) ∧ (k < j → k ≤ b) ∧ (∀ j', j' < H.length → hd H' j' = hd H b → True) := fun j hj => by
      rw [hat j hj]
      by_cases h1 : j = k
      · exact ⟨i, hiN, if_pos h1, fun _ => rfl, fun h => by omega, fun h => by omega, fun _ _ _ => trivial⟩
      · rw [if_neg h1]
        by_cases h2 : j = i
        · exact ⟨k, hkN, if_pos h2, fun h => absurd h h1, fun h => by omega, fun _ => Nat.le_refl _, fun _ _ _ => trivial⟩
        · exact ⟨j, hj, if_neg h2, fun h => absurd h h1, fun _ => rfl, fun h => by omega, fun _ _ _ => trivial⟩
    have hinj : ∀ a b, a < H.length → b < H.length → (hd H' a).1 = (hd H' b).1 → a = b := fun a b ha hb e => by
      rw [hat a ha, hat b hb] at e
      by_cases a1 : a = k <;> by_cases b1 : b = k <;> simp only [a1, b1, if_true, if_false] at e ⊢
      · by_cases b2 : b = i
        · rw [if_pos b2] at e; have := hg.inj _ _ hiN hkN e; omega
        · rw [if_neg b2] at e; have := hg.inj _ _ hiN hb e; omega
      · by_cases a2 : a = i
        · rw [if_pos a2] at e; have := hg.inj _ _ hkN hiN e; omega
        · rw [if_neg a2] at e; have := hg.inj _ _ ha hiN e; omega
      · by_cases a2 : a = i <;> by_cases b2 : b = i
        · omega
        · rw [if_pos a2, if_neg b2] at e; have := hg.inj _ _ hkN hb e; omega
        · rw [if_neg a2, if_pos b2] at e; have := hg.inj _ _ ha hkN e; omega
        · rw [if_neg a2, if_neg b2] at e; exact hg.inj _ _ ha hb e
    have hkk : hd H' k = hd H i := by rw [hat k hkN, if_pos rfl]
    have hsur : ∀ a, a < H.length → ∃ b, b < H.length ∧ hd H' b = hd H a := fun a ha => by
      by_cases h1 : a = i
      · exact ⟨k, hkN, by rw [hkk, h1]⟩
      · by_cases h2 : a = k
        · exact ⟨i, hiN, by rw [hat i hiN, if_neg (by omega), if_pos rfl, h2]⟩
        · exact ⟨a, ha, by rw [hat a ha, if_neg h2, if_neg h1]⟩
    have hsub : ∀ a, a < H.length → hd H' a ∈ bs := fun a ha => by
      obtain ⟨b, hb, e, _⟩ := hback a ha
      rw [e]; exact hg.sub b hb
    obtain ⟨own, hown⟩ : ∃ own, (hd H i).1 = own := ⟨_, rfl⟩
    obtain ⟨F', hF'⟩ : ∃ F', elimAt H' F (hd H i).1 c k H.length = F' := ⟨_, rfl⟩
    rw [hF']
    rw [hown] at hF'
    have hFe : F' = (H'.drop (k + 1)).foldl (elimF own c) F := by rw [← hF']; unfold elimAt; rw [List.take_of_length_le (by omega)]
    have hout : ∀ a, a ≤ k → F' (hd H' a).1 = F (hd H' a).1 := fun a ha => by
      rw [hFe, elim_other]
      intro q hq e
      obtain ⟨b, hb1, hb2, rfl⟩ := mem_drop_hd.1 hq
      have := hinj a b (by omega) (by omega) e
      omega
    have hin : ∀ a, k < a → a < H.length → F' (hd H' a).1 = if (F (hd H' a).1).getD c 0 = 0 then F (hd H' a).1 else addV (F (hd H' a).1) (F own) := fun a h1 h2 => by
      rw [hFe]
      refine elim_at _ _ (fun q hq e => ?_) ?_ _ (mem_drop_hd.2 ⟨a, h1, by omega, rfl⟩)
      · obtain ⟨b, hb1, hb2, rfl⟩ := mem_drop_hd.1 hq
        rw [← hown, ← hkk] at e
        have := hinj k b hkN (by omega) e
        omega
      · refine List.pairwise_map.2 (List.pairwise_iff_getElem.2 (fun a b ha hb hab => ?_))
        rw [List.getElem_drop, List.getElem_drop]
        rw [List.length_drop] at ha hb
        have ea : H'[k + 1 + a] = hd H' (k + 1 + a) := by unfold hd; rw [List.getD_eq_getElem?_getD, List.getElem?_eq_getElem (by omega)]; rfl
        have eb : H'[k + 1 + b] = hd H' (k + 1 + b) := by unfold hd; rw [List.getD_eq_getElem?_getD, List.getElem?_eq_getElem (by omega)]; rfl
        rw [ea, eb]
        intro e
        have := hinj _ _ (by omega) (by omega) e
        omega
    have hob := hg.bits _ (hg.sub i hiN)
    rw [show (hd (GSt.mk H F k).H i).1 = own from hown] at hob
    have hone : vec (F own) c = true := vec_one hob.1 (by rw [← hown]; exact hf4 (by omega))
    have hoz : ∀ j, j < c → vec (F own) j = false := fun j hj => by rw [← hown]; exact hg.zero i hf1 hiN j hj
    have hbH : ∀ a, a < H.length → Bits (F (hd H' a).1) ∧ (F (hd H' a).1).length = n := fun a ha => hg.bits _ (hsub a ha)
    have hvec : ∀ a, k < a → a < H.length → vec (F' (hd H' a).1) = if vec (F (hd H' a).1) c = true then vx (vec (F (hd H' a).1)) (vec (F own)) else vec (F (hd H' a).1) := fun a h1 h2 => by
      rw [hin a h1 h2]
      by_cases hz : (F (hd H' a).1).getD c 0 = 0
      · rw [if_pos hz, vec_zero hz]; rfl
      · rw [if_neg hz, vec_one (hbH a h2).1 hz, if_pos rfl]
        exact addV_vec (hbH a h2).1 hob.1 (by rw [hob.2, (hbH a h2).2])
    have hown' : F' own = F own := by
      have := hout k (Nat.le_refl _)
      rw [hkk, hown] at this; exact this
    refine ⟨?_, fun p hp => ?_, ?_, fun p hp => ?_, ?_, ⟨fun j => if j < k then L j else c, fun j hj => ?_, fun a b hab hb => ?_⟩, fun j h1 h2 d hd' => ?_, fun v => ?_⟩
    · show ∀ a b, a < H'.length → b < H'.length → _
      rw [hlen]; exact hinj
    · obtain ⟨a, ha, rfl⟩ := hg.sur p hp
      obtain ⟨b, hb, e⟩ := hsur a ha
      exact ⟨b, by show b < H'.length; rw [hlen]; exact hb, e⟩
    · show ∀ a, a < H'.length → _
      rw [hlen]; exact hsub
    · show Bits (F' p.1) ∧ (F' p.1).length = n
      obtain ⟨a, ha, rfl⟩ := hg.sur p hp
      obtain ⟨b, hb, e⟩ := hsur a ha
      show Bits (F' (hd H a).1) ∧ (F' (hd H a).1).length = n
      rw [← e]
      rcases Nat.lt_or_ge k b with h | h
      · rw [hin b h hb]
        split
        · exact hbH b hb
        · exact ⟨addV_bits _ _, by rw [addV_len (by rw [hob.2, (hbH b hb).2]), (hbH b hb).2]⟩
      · rw [hout b h]; exact hbH b hb
    · show k + 1 ≤ H'.length
      rw [hlen]; omega
    · show (if j < k then L j else c) < c + 1 ∧ Lead (vec (F' (hd H' j).1)) (if j < k then L j else c)
      have hjk : j ≤ k := by have : j < k + 1 := hj; omega
      rw [hout j hjk]
      by_cases h : j < k
      · rw [if_pos h, hat j (by omega), if_neg (by omega), if_neg (by omega)]
        exact ⟨Nat.lt_succ_of_lt (hL1 j h).1, (hL1 j h).2⟩
      · have : j = k := by omega
        subst this
        rw [if_neg h, hkk, hown]
        exact ⟨Nat.lt_succ_self _, hone, hoz⟩
    · show (if a < k then L a else c) < (if b < k then L b else c)
      have hb' : b < k + 1 := hb
      rw [if_pos (by omega : a < k)]
      by_cases h : b < k
      · rw [if_pos h]; exact hL2 a b hab h
      · rw [if_neg h]; exact (hL1 a (show a < k by omega)).1
    · show vec (F' (hd H' j).1) d = false
      have h1' : k + 1 ≤ j := h1
      have h2' : j < H.length := by rw [← hlen]; exact h2
      obtain ⟨b, hb, e, _, _, hkb, _⟩ := hback j h2'
      have hz : ∀ d, d < c → vec (F (hd H' j).1) d = false := fun d hd2 => by rw [e]; exact hg.zero b (hkb (by omega)) hb d hd2
      rw [hvec j (by omega) h2']
      rcases Nat.lt_or_ge d c with h | h
      · split
        · show (vec (F (hd H' j).1) d != vec (F own) d) = false
          rw [hz d h, hoz d h]; rfl
        · exact hz d h
      · have : d = c := by omega
        subst this
        split
        · next hc =>
          show (vec (F (hd H' j).1) d != vec (F own) d) = false
          rw [hc, hone]; rfl
        · next hc => simpa using hc
    · show Sp (H'.map fun p => vec (F' p.1)) v ↔ _
      refine Iff.trans (spanned (B := H.map fun p => vec (F p.1)) (fun r hr => ?_) (fun r hr => ?_) v) (hg.span v)
      · obtain ⟨p, hp, rfl⟩ := List.mem_map.1 hr
        obtain ⟨a, ha, rfl⟩ := mem_hd hp
        rw [hlen] at ha
        have hold : Sp (H.map fun p => vec (F p.1)) (vec (F (hd H' a).1)) := by
          obtain ⟨b, hb, e, _⟩ := hback a ha
          rw [e]; exact Sp.of_mem (List.mem_map.2 ⟨_, hd_mem hb, rfl⟩)
        have ho : Sp (H.map fun p => vec (F p.1)) (vec (F own)) := by rw [← hown]; exact Sp.of_mem (List.mem_map.2 ⟨_, hd_mem hiN, rfl⟩)
        show Sp _ (vec (F' (hd H' a).1))
        rcases Nat.lt_or_ge k a with h | h
        · rw [hvec a h ha]
          split
          · exact hold.vx ho
          · exact hold
        · rw [hout a h]; exact hold
      · obtain ⟨p, hp, rfl⟩ := List.mem_map.1 hr
        obtain ⟨a, ha, rfl⟩ := mem_hd hp
        obtain ⟨b, hb, e⟩ := hsur a ha
        show Sp _ (vec (F (hd H a).1))
        rw [← e]
        have hnew : Sp (H'.map fun p => vec (F' p.1)) (vec (F' (hd H' b).1)) := Sp.of_mem (List.mem_map.2 ⟨_, hd_mem (by rw [hlen]; exact hb), rfl⟩)
        have ho : Sp (H'.map fun p => vec (F' p.1)) (vec (F own)) := by
          rw [← hown', ← hown, ← hkk]; exact Sp.of_mem (List.mem_map.2 ⟨_, hd_mem (by rw [hlen]; exact hkN), rfl⟩)
        rcases Nat.lt_or_ge k b with h | h
        · have hv := hvec b h hb
          split at hv
          · have e2 : vec (F (hd H' b).1) = vx (vec (F' (hd H' b).1)) (vec (F own)) := by rw [hv, vx_cancel]
            rw [e2]; exact hnew.vx ho
          · rw [← hv]; exact hnew
        · rw [← hout b h]; exact hnew
theorem elimAt_first (H : List (Nat × Nat)) (F : Nat → List Int) (own c k : Nat) : elimAt H F own c k (k + 1) = F := by
  unfold elimAt
  rw [List.drop_eq_nil_of_le (by rw [List.length_take]; omega)]
  rfl
theorem elimAt_succ (H : List (Nat × Nat)) (F : Nat → List Int) (own c k y : Nat) (hk : k + 1 ≤ y) (hy : y < H.length) : elimAt H F own c k (y + 1) = elimF own c (elimAt H F own c k y) (hd H y) := by
  unfold elimAt
  rw [List.take_succ_eq_append_getElem hy, List.drop_append_of_le_length (by rw [List.length_take]; omega), List.foldl_append]
  show elimF own c _ H[y] = _
  unfold hd
  rw [List.getD_eq_getElem?_getD, List.getElem?_eq_getElem hy]
  rfl
theorem gauss_len (bs : List (Nat × Nat)) (F : Nat → List Int) : ∀ c, (gAt bs F c).H.length = bs.length
  | 0 => rfl
  | c + 1 => by rw [gAt, gStep_len]; exact gauss_len bs F c
theorem gauss_good {n : Nat} {bs : List (Nat × Nat)} {F : Nat → List Int} (hnd : (bs.map Prod.fst).Nodup) (hb : ∀ p ∈ bs, Bits (F p.1) ∧ (F p.1).length = n) : ∀ c, GGood n bs F c (gAt bs F c)
  | 0 => by
    refine ⟨fun a b ha hb' e => ?_, fun p hp => mem_hd hp, fun a ha => hd_mem ha, hb, Nat.zero_le _, ⟨fun _ => 0, fun i hi => absurd hi (by show ¬ i < 0; omega), fun i j _ hj => absurd hj (by show ¬ j < 0; omega)⟩, fun i _ _ j hj => absurd hj (by omega), fun v => Iff.rfl⟩
    have ha' : a < bs.length := ha
    have hb2 : b < bs.length := hb'
    have h := List.pairwise_iff_getElem.1 (List.pairwise_map.1 hnd)
    have ea : hd bs a = bs[a] := by unfold hd; rw [List.getD_eq_getElem?_getD, List.getElem?_eq_getElem ha']; rfl
    have eb : hd bs b = bs[b] := by unfold hd; rw [List.getD_eq_getElem?_getD, List.getElem?_eq_getElem hb2]; rfl
    have e' : (hd bs a).1 = (hd bs b).1 := e
    rw [ea, eb] at e'
    rcases Nat.lt_trichotomy a b with h1 | h1 | h1
    · exact absurd e' (h a b ha' hb2 h1)
    · exact h1
    · exact absurd e'.symm (h b a hb2 ha' h1)
  | c + 1 => gauss_step (gauss_good hnd hb c)
theorem gauss_rank {n : Nat} {bs : List (Nat × Nat)} {F : Nat → List Int} (hnd : (bs.map Prod.fst).Nodup) (hb : ∀ p ∈ bs, Bits (F p.1) ∧ (F p.1).length = n) : IsRank (bs.map fun p => F p.1) (gAt bs F n).k := by
  have hg := gauss_good hnd hb n
  obtain ⟨st, hst⟩ : ∃ st, gAt bs F n = st := ⟨_, rfl⟩
  rw [hst] at hg ⊢
  obtain ⟨L, hL1, hL2⟩ := hg.lead
  refine ⟨(List.range st.k).map fun i => (vec (st.F (hd st.H i).1), L i), ⟨fun x hx => ?_, ?_⟩, fun v => ?_, by rw [List.length_map, List.length_range]⟩
  · obtain ⟨i, hi, rfl⟩ := List.mem_map.1 hx
    exact (hL1 i (List.mem_range.1 hi)).2
  · rw [List.map_map]
    refine List.pairwise_map.2 (List.Pairwise.imp_of_mem ?_ (List.pairwise_lt_range (n := st.k)))
    intro a b ha hb2 hab e
    have := hL2 a b hab (List.mem_range.1 hb2)
    have e' : L a = L b := e
    omega
  · rw [List.map_map, List.map_map]
    refine Iff.trans (spanned (B := st.H.map fun p => vec (st.F p.1)) (fun r hr => ?_) (fun r hr => ?_) v) (hg.span v)
    · obtain ⟨i, hi, rfl⟩ := List.mem_map.1 hr
      exact Sp.of_mem (List.mem_map.2 ⟨_, hd_mem (Nat.lt_of_lt_of_le (List.mem_range.1 hi) hg.kl), rfl⟩)
    · obtain ⟨p, hp, rfl⟩ := List.mem_map.1 hr
      obtain ⟨a, ha, rfl⟩ := mem_hd hp
      rcases Nat.lt_or_ge a st.k with h | h
      · exact Sp.of_mem (List.mem_map.2 ⟨a, List.mem_range.2 h, rfl⟩)
      · have hz : vec (st.F (hd st.H a).1) = v0 := by
          funext j
          rcases Nat.lt_or_ge j n with hj | hj
          · exact hg.zero a h ha j hj
          · show ((st.F (hd st.H a).1).getD j 0 == 1) = false
            rw [List.getD_eq_getElem?_getD, List.getElem?_eq_none (by rw [(hg.bits _ (hg.sub a ha)).2]; exact hj)]; rfl
        show Sp _ (vec (st.F (hd st.H a).1))
        rw [hz]; exact .zero
end Go.Proofs.Ytcnekpdoldljgaa.Red
end
section
namespace Go.Proofs.Ytcnekpdoldljgaa.Red
open Go.RowKit Go.Proofs.YtcnekpdoldljgaaW.PrintWords Go.Proofs.YtcnekpdoldljgaaW.PrintLast Go.Proofs.YtcnekpdoldljgaaW.PrintMore Go.Proofs.Ytcnekpdoldljgaa.F Go.Proofs.Ytcnekpdoldljgaa.ORows Go.Proofs.Ytcnekpdoldljgaa.Mem
structure RInv (n N0 : Nat) (W0 : World) (bs : List (Nat × Nat)) (A : Option Addr) (F : Nat → List Int) (out : Value) (obs : List (Nat × Nat)) (wr : World) : Prop where
  own : Own n W0.heap.size F bs wr
  lst : Kd.F (kE n) wr (fun k => k < N0 ∧ ∀ p ∈ bs, p.1 ≠ k) A bs.length bs
  out : ∃ g, out.ownBlock = some g ∧ N0 ≤ g ∧ (kE n).R 24 wr W0.heap.size (fun k => k = g) out obs
  bel : Below W0.heap.size W0 wr
  low : ∀ p ∈ bs, p.1 < N0
  size : N0 ≤ wr.heap.size
namespace RInv
variable {n N0 : Nat} {W0 : World} {bs obs : List (Nat × Nat)} {A : Option Addr} {F : Nat → List Int} {out : Value} {w w1 : World}
theorem same (h : RInv n N0 W0 bs A F out obs w) (hh : w1.heap = w.heap) (hb : Below W0.heap.size W0 w1) : RInv n N0 W0 bs A F out obs w1 :=
  ⟨h.own.move (fun _ _ => by rw [hh]), Kd.F_step h.lst (fun _ _ _ => by rw [hh]), by obtain ⟨g, h1, h2, h3⟩ := h.out; exact ⟨g, h1, h2, Kd.R_step h3 (fun _ _ _ => by rw [hh])⟩, hb, h.low, by rw [hh]; exact h.size⟩
theorem drewN (h : RInv n N0 W0 bs A F out obs w) (m : Nat) : RInv n N0 W0 bs A F out obs (w.drewN m) := h.same rfl (pw_below_drewN h.bel m)
theorem drew (h : RInv n N0 W0 bs A F out obs w) : RInv n N0 W0 bs A F out obs w.drew := h.same rfl (below_drew h.bel)
theorem put (h : RInv n N0 W0 bs A F out obs w) {p : Nat × Nat} (hp : p ∈ bs) {r : List Int} (hk : Kept w w1 (fun k => k = p.1)) (hr : Row W0.heap.size n p r w1) (hb : Below W0.heap.size W0 w1) : RInv n N0 W0 bs A (upd F p.1 r) out obs w1 :=
  ⟨h.own.put hp hk hr, Kd.F_step h.lst (fun k hk1 hlt => hk.2 k hlt (fun e => hk1.2 p hp e.symm)), by
    obtain ⟨g, h1, h2, h3⟩ := h.out
    exact ⟨g, h1, h2, Kd.R_step h3 (fun k hk1 hlt => hk.2 k hlt (fun e => by have := h.low p hp; omega))⟩, hb, h.low, Nat.le_trans h.size hk.1⟩
theorem cell (h : RInv n N0 W0 bs A F out obs w) {b c : Nat} (hp : (b, c) ∈ bs) (j : Nat) (hj : j < n) : w.cell? ⟨b, j, none⟩ = some (.int .i64 ((F b).getD j 0)) ∧ w.frozen? ⟨b, j, none⟩ = false := by
  have hr := h.own.row _ hp
  have hl := hr.len
  obtain ⟨ad, e, hc⟩ := cell_of_C hr.C j (by rw [hl]; exact hj)
  cases e
  refine ⟨?_, ?_⟩
  · rw [add_plain] at hc; exact hc
  · obtain ⟨_, inner, ⟨_, hv⟩, _⟩ := hr
    rcases hv with ⟨he, _⟩ | ⟨g', cap', cur, he, _, hg, _⟩
    · cases he
    · unfold rowE at he
      injection he with e1 e2 e3
      injection e1 with e1
      injection e1 with e1
      subst e1
      simp [World.frozen?, hg]
theorem setSame (h : RInv n N0 W0 bs A F out obs w) {b c : Nat} (hp : (b, c) ∈ bs) (j : Nat) (hj : j < n) (x : Int) (hx : (F b).getD j 0 = x) : RInv n N0 W0 bs A F out obs (w.setCell ⟨b, j, none⟩ (.int .i64 x)) := by
  have hr := h.own.row _ hp
  have hs := hr.set j x hj
  have e : (F b).set j x = F b := by
    have hl := hr.len
    refine List.ext_getElem (by rw [List.length_set]) (fun i h1 h2 => ?_)
    rw [List.getElem_set]
    split
    · next e => subst e; rw [← hx, List.getD_eq_getElem?_getD, List.getElem?_eq_getElem h2]; rfl
    · rfl
  rw [show (F (b, c).1) = F b from rfl, e] at hs
  have h1 := h.put hp (Kept.setCell (Kept.refl w (fun k => k = (b, c).1)) (p := ⟨b, j, none⟩) (.inl rfl) (.int .i64 x)) hs (below_set h.bel (by have := hr.low; exact this))
  rw [show ((b, c) : Nat × Nat).1 = b from rfl, upd_self] at h1
  exact h1
theorem app (h : RInv n N0 W0 bs A F out obs w) {v1 : Value} {obs1 : List (Nat × Nat)} (hr : (kE n).R 24 w1 W0.heap.size (fun _ => True) v1 obs1) (hb : Below W0.heap.size W0 w1) (hg : w.grownBy w1 out.ownBlock) (hat : v1.ownBlock = out.ownBlock ∨ ∃ b, v1.ownBlock = some b ∧ w.heap.size ≤ b) : RInv n N0 W0 bs A F v1 obs1 w1 := by
  obtain ⟨g, h1, h2, h3⟩ := h.out
  rw [h1] at hg hat
  have hv : ∃ g', v1.ownBlock = some g' ∧ N0 ≤ g' := by
    rcases hat with e | ⟨b, e, hle⟩
    · exact ⟨g, e, h2⟩
    · exact ⟨b, e, Nat.le_trans h.size hle⟩
  obtain ⟨g', e, hle⟩ := hv
  refine ⟨h.own.grown hg (fun p hp e2 => by have := h.low p hp; have := Option.some.inj e2; omega), Kd.F_grown h.lst hg (fun k hk e2 => by have := hk.1; have := Option.some.inj e2; omega), ⟨g', e, hle, Kd.R_mono (Kd.R_tight rfl hr) (fun k hk => by rw [e] at hk; exact Option.some.inj hk)⟩, hb, h.low, Nat.le_trans h.size hg.size⟩
theorem lessCall (h : RInv n N0 W0 bs A F out obs w) {b c d m : Nat} (hp : (b, c) ∈ bs) (hq : (d, m) ∈ bs) (hne : d ≠ b) (hl : LessOk (F b) (F d)) :
    Calls Try.prog 189 #[.slice (some ⟨b, 0, none⟩) n c, .slice (some ⟨d, 0, none⟩) n m, .int .i64 2] w fun e w1 => e = .returned (.tuple #[]) ∧ RInv n N0 W0 bs A (upd F b (lessV (F b) (F d))) out obs w1 := by
  obtain ⟨k, hk⟩ := hl
  have hr := h.own.row _ hp
  have hr2 := h.own.row _ hq
  have hl2 : (F d).length = n := hr2.len
  have hc := impl_less.calls k (fun k => k = b) (rowE n (b, c)) (F b) (some ⟨d, 0, none⟩) m (F d) 2 _ W0 w h.bel hr (fun W_ hW => (hr2.move (hW.2 d hr2.lt hne)).C) (by rw [hl2]; exact hr2.cap) hk
  rw [hl2] at hc
  refine (show Calls Try.prog 189 _ _ _ from hc).mono ?_
  rintro e w1 ⟨rfl, h1, h2, h3⟩
  exact ⟨rfl, h.put hp h3 (Row.of h1) h2⟩
theorem firstCall (h : RInv n N0 W0 bs A F out obs w) {b c : Nat} (hp : (b, c) ∈ bs) (hn : n ≤ 1000) :
    Calls Try.prog 190 #[.slice (some ⟨b, 0, none⟩) n c] w fun e w1 => e = .returned (.int .i64 (firstV (F b))) ∧ Drawn0 w w1 := by
  have hr := h.own.row _ hp
  have hl : (F b).length = n := hr.len
  have hc := impl_first.calls (some ⟨b, 0, none⟩) c (F b) (firstV (F b)) w hr.C (by rw [hl]; exact hr.cap) (if_pos (by omega))
  rw [hl] at hc
  exact hc
end RInv
theorem taken_ne {bs : List (Nat × Nat)} (hnd : (bs.map Prod.fst).Nodup) {x : Nat} (hx : x < bs.length) {q : Nat × Nat} (hq : q ∈ bs.take x) : q.1 ≠ (bs.getD x (0, 0)).1 := by
  obtain ⟨i, hi, rfl⟩ := List.mem_take_iff_getElem.1 hq
  rw [List.getD_eq_getElem?_getD, List.getElem?_eq_getElem hx]
  have h := List.pairwise_map.1 hnd
  exact List.pairwise_iff_getElem.1 h i x (by omega) hx (by omega)
end Go.Proofs.Ytcnekpdoldljgaa.Red
end
section
namespace Go.Proofs.Ytcnekpdoldljgaa.Red
open Go.RowKit Go.Proofs.YtcnekpdoldljgaaW.PrintWords Go.Proofs.YtcnekpdoldljgaaW.PrintLast Go.Proofs.YtcnekpdoldljgaaW.PrintMore Go.Proofs.Ytcnekpdoldljgaa.F Go.Proofs.Ytcnekpdoldljgaa.ORows Go.Proofs.Ytcnekpdoldljgaa.Mem
theorem scalar_set {α : Type} {enc : α → Value} {h1 : ∀ x, (enc x).oneCell' = true} {e base g cap : Nat} {xs : List α} {w : World} (h : (Kd.scalar enc h1).R e w base (fun k => k = g) (.slice (some ⟨g, 0, none⟩) xs.length cap) xs) (j : Nat) (x : α) (_hj : j < xs.length) :
    (Kd.scalar enc h1).R e (w.setCell ⟨g, j, none⟩ (enc x)) base (fun k => k = g) (.slice (some ⟨g, 0, none⟩) (xs.set j x).length cap) (xs.set j x) := by
  obtain ⟨h0, inner, ⟨hl, ho⟩, hr1, hr2⟩ := h
  replace hl : inner.length = xs.length := hl.trans (Nat.mul_one _)
  have hr2' : ∀ (i : Nat) (q : α), xs[i]? = some q → (inner.drop i).take 1 = [enc q] := fun i q hq => by
    have h5 : (inner.drop (i * 1)).take 1 = [enc q] := hr2 i q hq
    rwa [Nat.mul_one] at h5
  refine ⟨fun k hk => (Option.some.inj hk).symm, inner.set j (enc x), ⟨?_, .inr ?_⟩, ?_, fun i q hq => ?_⟩
  · show (inner.set j _).length = (xs.set j x).length * 1
    rw [List.length_set, List.length_set, hl, Nat.mul_one]
  · rcases ho with ⟨he, _⟩ | ⟨g', cap', cur, he, hb, hh, h1, h2, h3, h4⟩
    · cases he
    · injection he with e1 e2 e3
      injection e1 with e1
      injection e1 with e1
      subst e1; subst e3
      replace h4 : cur.toList.take (xs.length * 1) = inner := h4
      refine ⟨g, cap, cur.setIfInBounds j (enc x), rfl, hb, ?_, by rw [List.length_set]; exact h1, h2, by rw [Array.size_setIfInBounds]; exact h3, ?_⟩
      · exact blk_set (by simpa using hh) j _
      · show (cur.setIfInBounds j (enc x)).toList.take ((xs.set j x).length * 1) = _
        rw [List.length_set, Array.toList_setIfInBounds, List.take_set, h4]
  · show (inner.set j _).length = (xs.set j x).length * 1
    rw [List.length_set, List.length_set, hl, Nat.mul_one]
  · show ((inner.set j (enc x)).drop (i * 1)).take 1 = [enc q]
    rw [Nat.mul_one]
    rcases Nat.lt_or_ge i xs.length with hi | hi
    · have h6 := hr2' i _ (List.getElem?_eq_getElem hi)
      have hi' : i < inner.length := by rw [hl]; exact hi
      rw [List.drop_eq_getElem_cons (by rw [List.length_set]; exact hi')]
      by_cases hij : i = j
      · subst hij
        rw [List.getElem?_set_self hi] at hq
        obtain rfl := Option.some.inj hq
        rw [List.getElem_set_self]
        rfl
      · rw [List.getElem?_set_ne (Ne.symm hij), List.getElem?_eq_getElem hi] at hq
        obtain rfl := Option.some.inj hq
        rw [List.getElem_set_ne (Ne.symm hij)]
        rw [List.drop_eq_getElem_cons hi'] at h6
        exact h6
    · rw [List.getElem?_eq_none (by rw [List.length_set]; exact hi)] at hq
      cases hq
structure GInv (n : Nat) (W0 : World) (bs : List (Nat × Nat)) (g cap : Nat) (F : Nat → List Int) (H : List (Nat × Nat)) (wr : World) : Prop where
  own : Own n W0.heap.size F bs wr
  hdr : (kE n).R 24 wr W0.heap.size (fun k => k = g) (.slice (some ⟨g, 0, none⟩) H.length cap) H
  bel : Below W0.heap.size W0 wr
  ne : ∀ p ∈ bs, p.1 ≠ g
  sub : ∀ p ∈ H, p ∈ bs
theorem ginv_same {n : Nat} {W0 : World} {bs H : List (Nat × Nat)} {g cap : Nat} {F : Nat → List Int} {w w1 : World} (h : GInv n W0 bs g cap F H w) (hh : w1.heap = w.heap) (hb : Below W0.heap.size W0 w1) : GInv n W0 bs g cap F H w1 :=
  ⟨h.own.move (fun _ _ => by rw [hh]), Kd.R_step h.hdr (fun _ _ _ => by rw [hh]), hb, h.ne, h.sub⟩
theorem ginv_drew {n : Nat} {W0 : World} {bs H : List (Nat × Nat)} {g cap : Nat} {F : Nat → List Int} {w : World} (h : GInv n W0 bs g cap F H w) : GInv n W0 bs g cap F H w.drew := ginv_same h rfl (below_drew h.bel)
theorem ginv_low {n : Nat} {W0 : World} {bs H : List (Nat × Nat)} {g cap : Nat} {F : Nat → List Int} {w : World} (h : GInv n W0 bs g cap F H w) : W0.heap.size ≤ g := by
  obtain ⟨_, inner, ho, _⟩ := h.hdr
  exact own_base ho g rfl
theorem ginv_cell {n : Nat} {W0 : World} {bs H : List (Nat × Nat)} {g cap : Nat} {F : Nat → List Int} {w : World} (h : GInv n W0 bs g cap F H w) {b c : Nat} (hp : (b, c) ∈ bs) (j : Nat) (hj : j < n) : w.cell? ⟨b, j, none⟩ = some (.int .i64 ((F b).getD j 0)) ∧ w.frozen? ⟨b, j, none⟩ = false := by
  have hr := h.own.row _ hp
  have hl := hr.len
  obtain ⟨ad, e, hc⟩ := cell_of_C hr.C j (by rw [hl]; exact hj)
  cases e
  refine ⟨by rw [add_plain] at hc; exact hc, ?_⟩
  obtain ⟨_, inner, ⟨_, hv⟩, _⟩ := hr
  rcases hv with ⟨he, _⟩ | ⟨g', cap', cur, he, _, hg, _⟩
  · cases he
  · unfold rowE at he
    injection he with e1 e2 e3
    injection e1 with e1
    injection e1 with e1
    subst e1
    simp [World.frozen?, hg]
theorem ginv_head {n : Nat} {W0 : World} {bs H : List (Nat × Nat)} {g cap : Nat} {F : Nat → List Int} {w : World} (h : GInv n W0 bs g cap F H w) (j : Nat) (hj : j < H.length) : w.cell? ⟨g, j, none⟩ = some (.slice (some ⟨(hd H j).1, 0, none⟩) n (hd H j).2) ∧ w.frozen? ⟨g, j, none⟩ = false := by
  obtain ⟨ad, e, hc⟩ := cell_of_E (Kd.R_reads' h.hdr).2.2 j hj
  cases e
  refine ⟨by rw [add_plain] at hc; exact hc, ?_⟩
  obtain ⟨_, inner, ⟨_, hv⟩, _⟩ := h.hdr
  rcases hv with ⟨he, _⟩ | ⟨g', cap', cur, he, _, hg, _⟩
  · cases he
  · injection he with e1 e2 e3
    injection e1 with e1
    injection e1 with e1
    subst e1
    simp [World.frozen?, hg]
theorem ginv_setH {n : Nat} {W0 : World} {bs H : List (Nat × Nat)} {g cap : Nat} {F : Nat → List Int} {w : World} (h : GInv n W0 bs g cap F H w) (j : Nat) (hj : j < H.length) {p : Nat × Nat} (hp : p ∈ bs) : GInv n W0 bs g cap F (H.set j p) (w.setCell ⟨g, j, none⟩ (.slice (some ⟨p.1, 0, none⟩) n p.2)) :=
  ⟨h.own.move (fun q hq => Below.heap_setCell w ⟨g, j, none⟩ _ q.1 (h.ne q hq)), scalar_set h.hdr j p hj, below_set h.bel (ginv_low h), h.ne, fun q hq => by
    rcases List.mem_or_eq_of_mem_set hq with e | e
    · exact h.sub q e
    · rw [e]; exact hp⟩
theorem ginv_setF {n : Nat} {W0 : World} {bs H : List (Nat × Nat)} {g cap : Nat} {F : Nat → List Int} {w : World} (h : GInv n W0 bs g cap F H w) {p : Nat × Nat} (hp : p ∈ bs) (j : Nat) (hj : j < n) (x : Int) : GInv n W0 bs g cap (upd F p.1 ((F p.1).set j x)) H (w.setCell ⟨p.1, j, none⟩ (.int .i64 x)) :=
  ⟨h.own.put hp (Kept.setCell (Kept.refl w (fun k => k = p.1)) (p := ⟨p.1, j, none⟩) (.inl rfl) _) ((h.own.row p hp).set j x hj), Kd.R_step h.hdr (fun k hk _ => Below.heap_setCell w ⟨p.1, j, none⟩ _ k (fun e => h.ne p hp (by have e' : k = p.1 := e; rw [← e', hk]))), below_set h.bel (h.own.row p hp).low, h.ne, h.sub⟩
end Go.Proofs.Ytcnekpdoldljgaa.Red
end
section
namespace Go.Proofs.Ytcnekpdoldljgaa.F
open Go.RowKit Go.Proofs.YtcnekpdoldljgaaW.PrintWords Go.Proofs.YtcnekpdoldljgaaW.PrintLast Go.Proofs.YtcnekpdoldljgaaW.PrintMore
attribute [local go_sem] max2_int min2_int max_two min_two max_three min_three max_four min_four   
set_option linter.unusedVariables false
set_option linter.unusedSimpArgs false
open Go.Proofs.Ytcnekpdoldljgaa.ORows Go.Proofs.Ytcnekpdoldljgaa.Red Go.Proofs.Ytcnekpdoldljgaa.Mem
theorem wS_g {n : Nat} (h : n < 4611686018427387904) : wrap64 ((n : Int) + 1) = ((n + 1 : Nat) : Int) := by unfold wrap64; omega
theorem upd_twice (F : Nat → List Int) (d : Nat) (a b : List Int) : upd (upd F d a) d b = upd F d b := by
 funext k; unfold upd; split
 ·rfl
 ·rfl
theorem addV_step {row own : List Int} {e : Nat} (h : own.length = row.length) (he : e < row.length) : ((addV row own).take e ++ row.drop e).set e ((row.getD e 0 + own.getD e 0) % 2) = (addV row own).take (e + 1) ++ row.drop (e + 1) := by
 have hl := addV_len h
 rw [List.drop_eq_getElem_cons he, List.set_append_right _ _ (by rw [List.length_take, hl]; omega), List.length_take, hl, Nat.min_eq_left (by omega), Nat.sub_self, List.set_cons_zero, List.take_succ_eq_append_getElem (by rw [hl]; exact he), List.append_assoc, List.singleton_append]
 congr 2
 unfold addV
 rw [List.getElem_zipWith, List.getD_eq_getElem?_getD, List.getElem?_eq_getElem he, List.getD_eq_getElem?_getD, List.getElem?_eq_getElem (by omega)]
 rfl
theorem addV_at {row own : List Int} {e : Nat} (h : own.length = row.length) (he : e < row.length) : ((addV row own).take e ++ row.drop e).getD e 0 = row.getD e 0 := by
 have hl := addV_len h
 rw [List.getD_eq_getElem?_getD, List.getElem?_append_right (by rw [List.length_take, hl]; omega), List.length_take, hl, Nat.min_eq_left (by omega), Nat.sub_self, List.getElem?_drop, Nat.add_zero, List.getD_eq_getElem?_getD]
theorem addV_bit {x y : Int} (hx : x = 0 ∨ x = 1) (hy : y = 0 ∨ y = 1) : Int.tmod (wrap64 (x + y)) 2 = (x + y) % 2 := by
 have e : wrap64 (x + y) = x + y := by unfold wrap64; omega
 rw [e]
 rcases hx with rfl | rfl <;> rcases hy with rfl | rfl <;> rfl
theorem elim_bits {own c : Nat} : ∀ (l : List (Nat × Nat)) (F : Nat → List Int) (k : Nat), Bits (F k) → Bits ((l.foldl (elimF own c) F) k)
 | [], _, _, h => h
 | p :: t, F, k, h => by
  rw [List.foldl_cons]
  refine elim_bits t _ k ?_
  unfold elimF upd
  split
  ·exact h
  ·show Bits (if k = p.1 then addV (F p.1) (F own) else F k)
   split
   ·exact addV_bits _ _
   ·exact h
theorem findAt_eq {H : List (Nat × Nat)} {F : Nat → List Int} {c k y n : Nat} (hk : k ≤ y) (hy : y ≤ n) (hz : ∀ j, k ≤ j → j < y → (F (hd H j).1).getD c 0 = 0) (he : y = n ∨ (F (hd H y).1).getD c 0 ≠ 0) : findAt H F c (n - k) k = y := by
 obtain ⟨h1, h2, h3, h4⟩ := findAt_ge H F c (n - k) k
 rcases Nat.lt_trichotomy (findAt H F c (n - k) k) y with h | h | h
 ·exact absurd (hz _ h1 h) (h4 (by omega))
 ·exact h
 ·rcases he with e | e
  ·omega
  ·exact absurd (h3 y hk h) e
set_option maxHeartbeats 16000000 in
set_option maxRecDepth 100000 in
theorem gauss_walk (n : Nat) (hn : n ≤ 12) (bs : List (Nat × Nat)) (hbl : bs.length = n) (hnd : (bs.map Prod.fst).Nodup) (F : Nat → List Int) (hbit : ∀ p ∈ bs, Bits (F p.1) ∧ (F p.1).length = n) (W0 w : World) (g cap : Nat) (hI : GInv n W0 bs g cap F bs w) :
  Calls Try.prog 143 #[.slice (some ⟨g, 0, none⟩) bs.length cap] w fun e w' => e = .returned (.int .i64 ((gAt bs F n).k : Int)) ∧ Below W0.heap.size W0 w' := by
 have HGOOD := Aside0.mk (fun c => gauss_good (n := n) hnd hbit c)
 have HLEN := Aside0.mk (fun c => (gauss_len bs F c).trans hbl)
 have HI := Aside0.mk hI
 have HN := Aside0.mk hn
 rw [hbl]
 clear hnd hbit hI hbl
 go_enter Try.func143, Try.ntmps143
 go_wp2
 go_loopw [3, 4] (fun k c wr => ∃ x : Nat, c = .int .i64 (x : Int) ∧ k = .int .i64 ((gAt bs F x).k : Int) ∧ Aside0 (x ≤ n) ∧ Aside0 (GInv n W0 bs g cap (gAt bs F x).F (gAt bs F x).H wr))
  (fun _ c _ => n - (intOf c).toNat)
 case atStart => exact ⟨0, rfl, rfl, ⟨Nat.zero_le _⟩, HI⟩
 case round =>
  obtain ⟨x, rfl, rfl, HX, HG⟩ := hrel
  by_cases hlt : x < n
  rotate_left
  ·have t1 : decide ((x : Int) < (n : Int)) = false := decide_eq_false (by omega)
   have t2 : decide (x < n) = false := decide_eq_false hlt
   have HXE := Aside0.mk (show x = n from by have := HX.out; omega)
   go_wp2_with fail
   go_ret
   exact ⟨by rw [← HXE.out]; rfl, HG.out.bel⟩
  have t1 : decide ((x : Int) < (n : Int)) = true := decide_eq_true (by omega)
  have t2 : decide (x < n) = true := decide_eq_true hlt
  obtain ⟨st, hst⟩ : ∃ st, gAt bs F x = st := ⟨_, rfl⟩
  have hgood := HGOOD.out x
  have hlen := HLEN.out x
  have hnext : gAt bs F (x + 1) = gStep st x := by rw [gAt, hst]
  rw [hst] at HG hgood hlen ⊢
  have HGD := Aside0.mk hgood
  have HLN := Aside0.mk hlen
  have HNX := Aside0.mk hnext
  clear hgood hlen hnext hst
  obtain ⟨wo, hwo⟩ : ∃ wo, wo = wr := ⟨wr, rfl⟩
  subst hwo
  have hkx : st.k ≤ n := by have := HGD.out.kl; have := HLN.out; omega
  have HKX := Aside0.mk hkx
  clear hkx
  go_wp2_with fail
  go_loopw [5] (fun y wq => ∃ i : Nat, y = .int .i64 (i : Int) ∧ Aside0 (st.k ≤ i ∧ i ≤ n) ∧ Aside0 (∀ j, st.k ≤ j → j < i → (st.F (hd st.H j).1).getD x 0 = 0) ∧ Aside0 (GInv n W0 bs g cap st.F st.H wq))
   (fun y _ => n - (intOf y).toNat)
  case atStart => exact ⟨st.k, rfl, ⟨Nat.le_refl _, HKX.out⟩, ⟨fun j h1 h2 => absurd h2 (by omega)⟩, HG⟩
  case round =>
   obtain ⟨i, rfl, HI2, HZ, HG2⟩ := hrel
   have hlink : ∀ (K : Prop), K → K := fun _ h => h
   by_cases hi : i < n
   rotate_left
   ·have s1 : decide ((i : Int) < (n : Int)) = false := decide_eq_false (by omega)
    have s2 : decide (i < n) = false := decide_eq_false hi
    have hin : i = n := by have := HI2.out; omega
    have HF := Aside0.mk (findAt_eq (H := st.H) (F := st.F) (c := x) HI2.out.1 HI2.out.2 HZ.out (.inl hin))
    subst hin
    have HST := Aside0.mk (show gAt bs F (x + 1) = st from by
     rw [HNX.out]; unfold gStep; dsimp only
     rw [HLN.out, HF.out, if_pos rfl])
    go_wp2_with fail
    go_roundw
    case rel => exact ⟨x + 1, (by first | exact congrArg _ (wS_g (by have := HN.out; omega)) | exact congrArg _ (by omega : (x : Int) + 1 = ((x + 1 : Nat) : Int))), by rw [HST.out], ⟨hlt⟩, ⟨by rw [HST.out]; exact HG2.out⟩⟩
    case measure => (try rw [wS_g (by have := HN.out; omega)]); simp [intOf]; omega
   have s1 : decide ((i : Int) < (n : Int)) = true := decide_eq_true (by omega)
   have s2 : decide (i < n) = true := decide_eq_true hi
   obtain ⟨hch, _⟩ := ginv_head HG2.out i (by rw [HLN.out]; exact hi)
   obtain ⟨b, cb, hbc⟩ : ∃ b cb, hd st.H i = (b, cb) := ⟨_, _, rfl⟩
   have hm : (b, cb) ∈ bs := by rw [← hbc]; exact HG2.out.sub _ (hd_mem (by rw [HLN.out]; exact hi))
   rw [hbc] at hch
   replace hch : wr.cell? ⟨g, i, none⟩ = some (.slice (some ⟨b, 0, none⟩) n cb) := hch
   obtain ⟨hcf, _⟩ := ginv_cell HG2.out hm x hlt
   obtain ⟨z, hz⟩ : ∃ z, (st.F b).getD x 0 = z := ⟨_, rfl⟩
   rw [hz] at hcf
   have HZE := Aside0.mk (show (st.F (hd st.H i).1).getD x 0 = z from by rw [hbc]; exact hz)
   have HM := Aside0.mk hm
   have HBC := Aside0.mk hbc
   clear hz hm hbc
   by_cases hzz : z = 0
   ·subst hzz
    go_wp2_with fail
    go_roundw
    case rel => exact ⟨i + 1, (by first | exact congrArg _ (wS_g (by have := HN.out; omega)) | exact congrArg _ (by omega : (i : Int) + 1 = ((i + 1 : Nat) : Int))), ⟨by have := HI2.out; omega, hi⟩, ⟨fun j h1 h2 => by
     rcases Nat.lt_or_ge j i with h | h
     ·exact HZ.out j h1 h
     ·rw [show j = i from by omega]; exact HZE.out⟩, HG2⟩
    case measure => (try rw [wS_g (by have := HN.out; omega)]); simp [intOf]; omega
   have s3 : decide (z = 0) = false := decide_eq_false hzz
   have s4 : (z == 0) = false := by simpa using hzz
   have HF := Aside0.mk (findAt_eq (H := st.H) (F := st.F) (c := x) HI2.out.1 HI2.out.2 HZ.out (.inr (by rw [HZE.out]; exact hzz)))
   have s5 : decide ((i : Int) = (n : Int)) = false := decide_eq_false (by omega)
   have s6 : ((i : Int) == (n : Int)) = false := by simp; omega
   have hkn : st.k < n := by have := HI2.out; omega
   have s7 : decide ((st.k : Int) < (n : Int)) = true := decide_eq_true (by omega)
   have s8 : decide (st.k < n) = true := decide_eq_true hkn
   obtain ⟨hck, _⟩ := ginv_head HG2.out st.k (by rw [HLN.out]; exact hkn)
   obtain ⟨b2, c2, hbc2⟩ : ∃ b2 c2, hd st.H st.k = (b2, c2) := ⟨_, _, rfl⟩
   have hm2 : (b2, c2) ∈ bs := by rw [← hbc2]; exact HG2.out.sub _ (hd_mem (by rw [HLN.out]; exact hkn))
   rw [hbc2] at hck
   replace hck : wr.cell? ⟨g, st.k, none⟩ = some (.slice (some ⟨b2, 0, none⟩) n c2) := hck
   have hfi := (ginv_head HG2.out i (by rw [HLN.out]; exact hi)).2
   have HG3 := Aside0.mk (ginv_setH HG2.out i (by rw [HLN.out]; exact hi) hm2)
   obtain ⟨hck3, hfk3⟩ := ginv_head HG3.out st.k (by rw [List.length_set, HLN.out]; exact hkn)
   have HG4 := Aside0.mk (ginv_setH HG3.out st.k (by rw [List.length_set, HLN.out]; exact hkn) HM.out)
   have HM2 := Aside0.mk hm2
   have HB2 := Aside0.mk hbc2
   clear hm2 hbc2
   go_wp2_with fail
   obtain ⟨H', hH'⟩ : ∃ H', swapH st.H i st.k = H' := ⟨_, rfl⟩
   have hsw : (st.H.set i (b2, c2)).set st.k (b, cb) = H' := by rw [← hH']; unfold swapH; rw [HB2.out, HBC.out]
   rw [hsw] at HG4
   have HL' := Aside0.mk (show H'.length = n from by rw [← hH', swapH_len]; exact HLN.out)
   have HST := Aside0.mk (show gAt bs F (x + 1) = ⟨H', elimAt H' st.F b x st.k n, st.k + 1⟩ from by
    rw [HNX.out]; unfold gStep; dsimp only
    rw [HLN.out, HF.out, if_neg (by omega), hH', HBC.out])
   have HKB := Aside0.mk (show hd H' st.k = (b, cb) from by
    rw [← hsw]; unfold hd; rw [List.getD_eq_getElem?_getD, List.getElem?_set_self (by rw [List.length_set, HLN.out]; exact hkn)]; rfl)
   clear hsw hH'
   go_loopw [7] (fun y wq => ∃ t : Nat, y = .int .i64 (t : Int) ∧ Aside0 (st.k + 1 ≤ t ∧ t ≤ n) ∧ Aside0 (GInv n W0 bs g cap (elimAt H' st.F b x st.k t) H' wq))
    (fun y _ => n - (intOf y).toNat)
   case atStart => exact ⟨st.k + 1, (by first | rfl | exact congrArg _ (wS_g (by have := HN.out; omega)) | exact congrArg _ (by omega : (st.k : Int) + 1 = ((st.k + 1 : Nat) : Int))), ⟨Nat.le_refl _, hkn⟩, ⟨by rw [elimAt_first]; exact HG4.out⟩⟩
   case round =>
    obtain ⟨t, rfl, HT, HG5⟩ := hrel
    by_cases ht : t < n
    rotate_left
    ·have q1 : decide ((t : Int) < (n : Int)) = false := decide_eq_false (by omega)
     have q2 : decide (t < n) = false := decide_eq_false ht
     have htn : t = n := by have := HT.out; omega
     rw [htn] at HG5
     go_wp2_with fail
     go_roundw
     case rel => exact ⟨x + 1, (by first | exact congrArg _ (wS_g (by have := HN.out; omega)) | exact congrArg _ (by omega : (x : Int) + 1 = ((x + 1 : Nat) : Int))), (by rw [HST.out]; first | rfl | exact congrArg _ (wS_g (by have := HN.out; omega)) | exact congrArg _ (by omega : (st.k : Int) + 1 = ((st.k + 1 : Nat) : Int))), ⟨hlt⟩, ⟨by rw [HST.out]; exact HG5.out⟩⟩
     case measure => (try rw [wS_g (by have := HN.out; omega)]); simp [intOf]; omega
    have q1 : decide ((t : Int) < (n : Int)) = true := decide_eq_true (by omega)
    have q2 : decide (t < n) = true := decide_eq_true ht
    obtain ⟨hct, _⟩ := ginv_head HG5.out t (by rw [HL'.out]; exact ht)
    obtain ⟨d, m, hdm⟩ : ∃ d m, hd H' t = (d, m) := ⟨_, _, rfl⟩
    have hm5 : (d, m) ∈ bs := by rw [← hdm]; exact HG5.out.sub _ (hd_mem (by rw [HL'.out]; exact ht))
    rw [hdm] at hct
    replace hct : wr.cell? ⟨g, t, none⟩ = some (.slice (some ⟨d, 0, none⟩) n m) := hct
    obtain ⟨hcd, _⟩ := ginv_cell HG5.out hm5 x hlt
    have hES := elimAt_succ H' st.F b x st.k t HT.out.1 (by rw [HL'.out]; exact ht)
    rw [hdm] at hES
    obtain ⟨F5, hF5⟩ : ∃ F5, elimAt H' st.F b x st.k t = F5 := ⟨_, rfl⟩
    have HBT := Aside0.mk (show ∀ q ∈ bs, Bits (F5 q.1) from fun q hq => by rw [← hF5]; exact elim_bits _ _ _ (HGD.out.bits q hq).1)
    rw [hF5] at hES hcd HG5
    obtain ⟨z5, hz5⟩ : ∃ z5, (F5 d).getD x 0 = z5 := ⟨_, rfl⟩
    rw [hz5] at hcd
    have HES := Aside0.mk hES
    have HZ5 := Aside0.mk hz5
    have HM5 := Aside0.mk hm5
    have HBD := Aside0.mk (show b ≠ d from fun e => by
     have hgd := HGOOD.out (x + 1)
     rw [HST.out] at hgd
     have := hgd.inj st.k t (by show st.k < H'.length; rw [HL'.out]; exact hkn) (by show t < H'.length; rw [HL'.out]; exact ht) (by show (hd H' st.k).1 = (hd H' t).1; rw [HKB.out, hdm]; exact e)
     have := HT.out; omega)
    clear hES hF5 hz5 hm5 hdm
    by_cases hzz5 : z5 = 0
    ·subst hzz5
     go_wp2_with fail
     go_roundw
     case rel => exact ⟨t + 1, (by first | exact congrArg _ (wS_g (by have := HN.out; omega)) | exact congrArg _ (by omega : (t : Int) + 1 = ((t + 1 : Nat) : Int))), ⟨by have := HT.out; omega, ht⟩, ⟨by rw [HES.out]; unfold elimF; rw [if_pos HZ5.out]; exact HG5.out⟩⟩
     case measure => (try rw [wS_g (by have := HN.out; omega)]); simp [intOf]; omega
    have q3 : decide (z5 = 0) = false := decide_eq_false hzz5
    have q4 : (z5 == 0) = false := by simpa using hzz5
    go_wp2_with fail
    have hlb : (F5 b).length = (F5 d).length := (HG5.out.own.row _ HM.out).len.trans (HG5.out.own.row _ HM5.out).len.symm
    have hld : (F5 d).length = n := (HG5.out.own.row _ HM5.out).len
    have HLB := Aside0.mk hlb
    have HLD := Aside0.mk hld
    clear hlb hld
    go_loopw [9] (fun u wq => ∃ e : Nat, u = .int .i64 (e : Int) ∧ Aside0 (e ≤ n) ∧ Aside0 (GInv n W0 bs g cap (upd F5 d ((addV (F5 d) (F5 b)).take e ++ (F5 d).drop e)) H' wq))
     (fun u _ => n - (intOf u).toNat)
    case atStart => exact ⟨0, rfl, ⟨Nat.zero_le _⟩, ⟨by rw [List.take_zero, List.drop_zero, List.nil_append, upd_self]; exact HG5.out⟩⟩
    case round =>
     obtain ⟨e, rfl, HE, HG6⟩ := hrel
     by_cases hee : e < n
     rotate_left
     ·have v1 : decide ((e : Int) < (n : Int)) = false := decide_eq_false (by omega)
      have v2 : decide (e < n) = false := decide_eq_false hee
      have hen : e = n := by have := HE.out; omega
      rw [hen, List.take_of_length_le (by rw [addV_len HLB.out, HLD.out]; omega), List.drop_eq_nil_of_le (by rw [HLD.out]; omega), List.append_nil] at HG6
      go_wp2_with fail
      go_roundw
      case rel => exact ⟨t + 1, (by first | exact congrArg _ (wS_g (by have := HN.out; omega)) | exact congrArg _ (by omega : (t : Int) + 1 = ((t + 1 : Nat) : Int))), ⟨by have := HT.out; omega, ht⟩, ⟨by rw [HES.out]; unfold elimF; rw [if_neg (by rw [HZ5.out]; exact hzz5)]; exact HG6.out⟩⟩
      case measure => (try rw [wS_g (by have := HN.out; omega)]); simp [intOf]; omega
     have v1 : decide ((e : Int) < (n : Int)) = true := decide_eq_true (by omega)
     have v2 : decide (e < n) = true := decide_eq_true hee
     obtain ⟨hcx, hfx⟩ := ginv_cell HG6.out HM5.out e hee
     obtain ⟨hcy, _⟩ := ginv_cell HG6.out HM.out e hee
     rw [upd_same, addV_at HLB.out (by rw [HLD.out]; exact hee)] at hcx
     rw [upd_ne _ _ HBD.out] at hcy
     obtain ⟨xx, hxx⟩ : ∃ xx, (F5 d).getD e 0 = xx := ⟨_, rfl⟩
     obtain ⟨yy, hyy⟩ : ∃ yy, (F5 b).getD e 0 = yy := ⟨_, rfl⟩
     have hx2 : xx = 0 ∨ xx = 1 := by rw [← hxx]; exact bits_at (HBT.out _ HM5.out) e
     have hy2 : yy = 0 ∨ yy = 1 := by rw [← hyy]; exact bits_at (HBT.out _ HM.out) e
     have HAB := Aside0.mk (addV_bit hx2 hy2)
     have hset := ginv_setF (ginv_drew HG6.out) HM5.out e hee ((xx + yy) % 2)
     rw [show ((d, m) : Nat × Nat).1 = d from rfl, upd_same, upd_twice, ← hxx, ← hyy, addV_step HLB.out (by rw [HLD.out]; exact hee), hxx, hyy] at hset
     have HSET := Aside0.mk hset
     rw [hxx] at hcx
     rw [hyy] at hcy
     have hcx' : wr.drew.cell? ⟨d, e, none⟩ = some (.int .i64 xx) := hcx
     have hcy' : wr.drew.cell? ⟨b, e, none⟩ = some (.int .i64 yy) := hcy
     have hfx' : wr.drew.frozen? ⟨d, e, none⟩ = false := hfx
     clear hset hx2 hy2 hxx hyy
     go_wp2_with fail
     go_region
     all_goals
      go_wp2_with fail
      go_roundw
      case rel => exact ⟨e + 1, (by first | exact congrArg _ (wS_g (by have := HN.out; omega)) | exact congrArg _ (by omega : (e : Int) + 1 = ((e + 1 : Nat) : Int))), ⟨hee⟩, ⟨by rw [HAB.out]; exact HSET.out⟩⟩
      case measure => (try rw [wS_g (by have := HN.out; omega)]); simp [intOf]; omega
theorem gauss_none (A : Option Addr) (cap : Nat) (w : World) :
  Calls Try.prog 143 #[.slice A 0 cap] w fun e w' => e = .returned (.int .i64 ((0 : Nat) : Int)) ∧ Below w.heap.size w w' := by
 go_enter Try.func143, Try.ntmps143
 go_wp2
 go_loopw [3, 4] (fun k c wr => c = .int .i64 0 ∧ k = .int .i64 0 ∧ Aside0 (Below w.heap.size w wr)) (fun _ _ _ => 0)
 case atStart => exact ⟨rfl, rfl, ⟨Below.refl _ _⟩⟩
 case round =>
  obtain ⟨rfl, rfl, HB⟩ := hrel
  go_wp2_with fail
  go_ret
  exact ⟨rfl, HB.out⟩
theorem l02Rank_walk {W0 w : World} {ok : Nat → Prop} {v : Value} {rs : List (List Int)} {n r : Nat} (hS : Kd.S (Kd.slice 2 (Kd.int .i64)) 24 w W0.heap.size ok v rs) (hB : Below W0.heap.size W0 w) (hb : ∀ q ∈ rs, Bits q ∧ q.length = n) (hl : rs.length = n) (hn : n ≤ 12) (hr : IsRank rs r) :
  ∃ A c, v = .slice A n c ∧ Calls Try.prog 143 #[.slice A n c] w fun e w' => e = .returned (.int .i64 (r : Int)) ∧ Below W0.heap.size W0 w' := by
 obtain ⟨bs, F, hnd, hR, hO, hm, hne⟩ := own_rows0 hS (fun q hq => (hb q hq).2) (by
  rcases Nat.eq_zero_or_pos n with h | h
  ·exact .inl (List.eq_nil_of_length_eq_zero (hl.trans h))
  ·exact .inr h)
 have hbl : bs.length = n := by rw [← hl, ← hm, List.length_map]
 obtain ⟨A, c, rfl⟩ := Kd.R_slice hR
 have hbits : ∀ p ∈ bs, Bits (F p.1) ∧ (F p.1).length = n := fun p hp => hb _ (by rw [← hm]; exact List.mem_map.2 ⟨p, hp, rfl⟩)
 have hrank := gauss_rank hnd hbits
 rw [hm] at hrank
 have hrr := hr.unique hrank
 subst hrr
 refine ⟨A, c, by rw [hbl], ?_⟩
 rcases Nat.eq_zero_or_pos n with h0 | h0
 ·subst h0
  have e : bs = [] := List.eq_nil_of_length_eq_zero hbl
  subst e
  refine (gauss_none A c w).mono ?_
  rintro e w' ⟨rfl, hb'⟩
  exact ⟨rfl, below_step hB hb'⟩
 ·have hR' := hR
  obtain ⟨_, inner, ⟨_, hv⟩, _⟩ := hR
  rcases hv with ⟨he, hz⟩ | ⟨g, cap, cur, he, _⟩
  ·have hz' : bs.length = 0 := hz
   omega
  ·injection he with e1 e2 e3
   subst e1; subst e3
   have hI : GInv n W0 bs g c F bs w := ⟨hO, Kd.R_mono (Kd.R_tight rfl hR') (fun _ hk => Option.some.inj hk), hB, fun p hp e => hne p hp (by rw [e]; rfl), fun _ h => h⟩
   have := gauss_walk n hn bs hbl hnd F hbits W0 w g c hI
   rw [hbl] at this
   exact this
end Go.Proofs.Ytcnekpdoldljgaa.F
end
section
namespace Go.Proofs.Ytcnekpdoldljgaa.F
open Go.RowKit Go.Proofs.YtcnekpdoldljgaaW.PrintWords Go.Proofs.YtcnekpdoldljgaaW.PrintLast Go.Proofs.YtcnekpdoldljgaaW.PrintMore
attribute [local go_sem] max2_int min2_int max_two min_two max_three min_three max_four min_four   
set_option linter.unusedVariables false
set_option linter.unusedSimpArgs false
end Go.Proofs.Ytcnekpdoldljgaa.F
end
section
namespace Go.Proofs.Ytcnekpdoldljgaa.Pure
open Go.RowKit Go.Proofs.Ytcnekpdoldljgaa.F Go.Proofs.YtcnekpdoldljgaaW.PrintWords Go.Proofs.YtcnekpdoldljgaaW.PrintLast
theorem wS {n : Nat} (h : n < 4611686018427387904) : wrap64 ((n : Int) + 1) = ((n + 1 : Nat) : Int) := by unfold wrap64; omega
theorem rdN (l : List Int) (n : Nat) : rd l (n : Int) = l.getD n 0 := by unfold rd; rw [Int.toNat_natCast]
theorem drop_cons {l : List Int} {n : Nat} (h : n < l.length) : l.drop n = l.getD n 0 :: l.drop (n + 1) := by
  rw [List.drop_eq_getElem_cons h, List.getD_eq_getElem?_getD, List.getElem?_eq_getElem h]; rfl
theorem take_snoc {l : List Int} {n : Nat} (h : n < l.length) : l.take (n + 1) = l.take n ++ [l.getD n 0] := by
  rw [List.take_succ_eq_append_getElem h, List.getD_eq_getElem?_getD, List.getElem?_eq_getElem h]; rfl
theorem eqS_l0 (a b : List Int) (hl : a.length = b.length) (hb : a.length < 4611686018427387904) : ∀ d n, n + d = a.length → Ev (fun k => laws_eqInt64S.l0 k a b (n : Int)) (decide (a.drop n = b.drop n)) := by
  intro d
  induction d with
  | zero =>
    intro n hn
    rw [List.drop_of_length_le (by omega), List.drop_of_length_le (by omega)]
    refine Ev.step (f := fun _ => some _) (fun k => ?_) (Ev.now _)
    simp only [laws_eqInt64S.l0]; rw [if_neg (by omega)]; rfl
  | succ d ih =>
    intro n hn
    rw [drop_cons (l := a) (by omega), drop_cons (l := b) (by omega)]
    by_cases e : a.getD n 0 = b.getD n 0
    · refine Ev.step (f := fun k => laws_eqInt64S.l0 k a b ((n + 1 : Nat) : Int)) (fun k => ?_) ?_
      · simp only [laws_eqInt64S.l0]; rw [if_pos (by omega), if_pos (by omega), if_pos (by omega), rdN, rdN, if_pos e, wS (by omega)]
      · rw [e, show (decide (b.getD n 0 :: a.drop (n + 1) = b.getD n 0 :: b.drop (n + 1))) = decide (a.drop (n + 1) = b.drop (n + 1)) from by simp]
        exact ih (n + 1) (by omega)
    · refine Ev.step (f := fun _ => some false) (fun k => ?_) ?_
      · simp only [laws_eqInt64S.l0]; rw [if_pos (by omega), if_pos (by omega), if_pos (by omega), rdN, rdN, if_neg e]
      · rw [show (decide (a.getD n 0 :: a.drop (n + 1) = b.getD n 0 :: b.drop (n + 1))) = false from decide_eq_false fun h => e (List.cons.inj h).1]
        exact Ev.now _
theorem eqS_ev (a b : List Int) (hb : a.length < 4611686018427387904) : Ev (fun k => laws_eqInt64S.f k a b) (decide (a = b)) := by
  by_cases hl : a.length = b.length
  · refine Ev.congr (f := fun k => laws_eqInt64S.l0 k a b ((0 : Nat) : Int)) (fun k => ?_) ?_
    · unfold laws_eqInt64S.f; rw [if_pos (by omega)]; rfl
    · exact eqS_l0 a b hl hb a.length 0 (by omega)
  · refine Ev.congr (f := fun _ => some false) (fun k => ?_) ?_
    · unfold laws_eqInt64S.f; rw [if_neg (by omega)]
    · rw [decide_eq_false fun h => hl (by rw [h])]; exact Ev.now _
theorem same_l0 (a b : List Int) (hl : a.length = b.length) (hb : a.length < 4611686018427387904) : ∀ d n, n + d = a.length → Ev (fun k => spec_l01Same.l0 k a b (n : Int)) (decide (a.drop n = b.drop n)) := by
  intro d
  induction d with
  | zero =>
    intro n hn
    rw [List.drop_of_length_le (by omega), List.drop_of_length_le (by omega)]
    refine Ev.step (f := fun _ => some _) (fun k => ?_) (Ev.now _)
    simp only [spec_l01Same.l0]; rw [if_neg (by omega)]; rfl
  | succ d ih =>
    intro n hn
    rw [drop_cons (l := a) (by omega), drop_cons (l := b) (by omega)]
    by_cases e : a.getD n 0 = b.getD n 0
    · refine Ev.step (f := fun k => spec_l01Same.l0 k a b ((n + 1 : Nat) : Int)) (fun k => ?_) ?_
      · simp only [spec_l01Same.l0]; rw [if_pos (by omega), if_pos (by omega), if_pos (by omega), rdN, rdN, if_pos e, wS (by omega)]
      · rw [e, show (decide (b.getD n 0 :: a.drop (n + 1) = b.getD n 0 :: b.drop (n + 1))) = decide (a.drop (n + 1) = b.drop (n + 1)) from by simp]
        exact ih (n + 1) (by omega)
    · refine Ev.step (f := fun _ => some false) (fun k => ?_) ?_
      · simp only [spec_l01Same.l0]; rw [if_pos (by omega), if_pos (by omega), if_pos (by omega), rdN, rdN, if_neg e]
      · rw [show (decide (a.getD n 0 :: a.drop (n + 1) = b.getD n 0 :: b.drop (n + 1))) = false from decide_eq_false fun h => e (List.cons.inj h).1]
        exact Ev.now _
theorem same_ev (a b : List Int) (hb : a.length < 4611686018427387904) : Ev (fun k => spec_l01Same.f k a b) (decide (a = b)) := by
  by_cases hl : a.length = b.length
  · refine Ev.congr (f := fun k => spec_l01Same.l0 k a b ((0 : Nat) : Int)) (fun k => ?_) ?_
    · unfold spec_l01Same.f; rw [if_pos (by omega)]; rfl
    · exact same_l0 a b hl hb a.length 0 (by omega)
  · refine Ev.congr (f := fun _ => some false) (fun k => ?_) ?_
    · unfold spec_l01Same.f; rw [if_neg (by omega)]
    · rw [decide_eq_false fun h => hl (by rw [h])]; exact Ev.now _
theorem equal_l0 (a b : List Int) (hl : a.length = b.length) (hb : a.length < 4611686018427387904) : ∀ d n, n + d = a.length → Ev (fun k => slices_Equal_int64_int64.l0 k a b (a.length : Int) (n : Int)) (decide (a.drop n = b.drop n)) := by
  intro d
  induction d with
  | zero =>
    intro n hn
    rw [List.drop_of_length_le (by omega), List.drop_of_length_le (by omega)]
    refine Ev.step (f := fun _ => some _) (fun k => ?_) (Ev.now _)
    simp only [slices_Equal_int64_int64.l0]; rw [if_neg (by omega)]; rfl
  | succ d ih =>
    intro n hn
    rw [drop_cons (l := a) (by omega), drop_cons (l := b) (by omega)]
    by_cases e : a.getD n 0 = b.getD n 0
    · refine Ev.step (f := fun k => slices_Equal_int64_int64.l0 k a b (a.length : Int) ((n + 1 : Nat) : Int)) (fun k => ?_) ?_
      · simp only [slices_Equal_int64_int64.l0]; rw [if_pos (by omega), if_pos (by omega), if_pos (by omega), if_pos (by omega), rdN, rdN, if_pos e, wS (by omega)]
      · rw [e, show (decide (b.getD n 0 :: a.drop (n + 1) = b.getD n 0 :: b.drop (n + 1))) = decide (a.drop (n + 1) = b.drop (n + 1)) from by simp]
        exact ih (n + 1) (by omega)
    · refine Ev.step (f := fun _ => some false) (fun k => ?_) ?_
      · simp only [slices_Equal_int64_int64.l0]; rw [if_pos (by omega), if_pos (by omega), if_pos (by omega), if_pos (by omega), rdN, rdN, if_neg e]
      · rw [show (decide (a.getD n 0 :: a.drop (n + 1) = b.getD n 0 :: b.drop (n + 1))) = false from decide_eq_false fun h => e (List.cons.inj h).1]
        exact Ev.now _
theorem equal_ev (a b : List Int) (hb : a.length < 4611686018427387904) : Ev (fun k => slices_Equal_int64_int64.f k a b) (decide (a = b)) := by
  by_cases hl : a.length = b.length
  · refine Ev.congr (f := fun k => slices_Equal_int64_int64.l0 k a b (a.length : Int) ((0 : Nat) : Int)) (fun k => ?_) ?_
    · unfold slices_Equal_int64_int64.f; rw [if_pos (by omega)]; rfl
    · exact equal_l0 a b hl hb a.length 0 (by omega)
  · refine Ev.congr (f := fun _ => some false) (fun k => ?_) ?_
    · unfold slices_Equal_int64_int64.f; rw [if_neg (by omega)]
    · rw [decide_eq_false fun h => hl (by rw [h])]; exact Ev.now _
theorem toS_l0 (a : List Int) (hb : a.length < 4611686018427387904) : ∀ d n, n + d = a.length → Ev (fun k => laws_toInt64S.l0 k a (a.take n ++ List.replicate d 0) (n : Int)) a := by
  intro d
  induction d with
  | zero =>
    intro n hn
    refine Ev.step (f := fun _ => some a) (fun k => ?_) (Ev.now _)
    simp only [laws_toInt64S.l0]; rw [if_neg (by omega), List.take_of_length_le (by omega)]; simp
  | succ d ih =>
    intro n hn
    refine Ev.step (f := fun k => laws_toInt64S.l0 k a (a.take (n + 1) ++ List.replicate d 0) ((n + 1 : Nat) : Int)) (fun k => ?_) (ih (n + 1) (by omega))
    have hlen : (a.take n ++ List.replicate (d + 1) 0).length = a.length := by simp; omega
    simp only [laws_toInt64S.l0]
    rw [if_pos (by omega), if_pos (by omega), if_pos (by rw [hlen]; omega), rdN, wS (by omega), Int.toNat_natCast, take_snoc (by omega)]
    congr 1
    rw [List.set_append_right _ _ (List.length_take_le _ _), List.replicate_succ]
    have : n - (a.take n).length = 0 := by simp; omega
    rw [this, List.set_cons_zero]; simp
theorem toS_ev (a : List Int) (hb : a.length ≤ 35184372088832) : Ev (fun k => laws_toInt64S.f k a) a := by
  refine Ev.congr (f := fun k => laws_toInt64S.l0 k a (a.take 0 ++ List.replicate a.length 0) ((0 : Nat) : Int)) (fun k => ?_) (toS_l0 a (by omega) a.length 0 (by omega))
  unfold laws_toInt64S.f; rw [if_pos (by omega), Int.toNat_natCast, if_pos hb]; simp
theorem twice_l1 (l : List Int) (n : Nat) (hn : n < l.length) (hb : l.length < 4611686018427387904) (r : Bool)
    (hr : Ev (fun k => if ((l.count (l.getD n 0) : Nat) : Int) = 2 then spec_l01Twice.l0 k l ((n + 1 : Nat) : Int) else some false) r) :
    ∀ d m c, m + d = l.length → c + (l.drop m).count (l.getD n 0) = l.count (l.getD n 0) → Ev (fun k => spec_l01Twice.l1 k l (n : Int) (c : Int) (m : Int)) r := by
  intro d
  induction d with
  | zero =>
    intro m c hm hc
    rw [List.drop_of_length_le (by omega), List.count_nil, Nat.add_zero] at hc
    refine Ev.step (fun k => ?_) hr
    simp only [spec_l01Twice.l1]; rw [if_neg (by omega), wS (by omega), hc]
  | succ d ih =>
    intro m c hm hc
    rw [drop_cons (l := l) (by omega), List.count_cons] at hc
    have hle := List.count_le_length (a := l.getD n 0) (l := l)
    by_cases e : l.getD m 0 = l.getD n 0
    · rw [e, if_pos (BEq.rfl)] at hc
      refine Ev.step (fun k => ?_) (ih (m + 1) (c + 1) (by omega) (by omega))
      simp only [spec_l01Twice.l1]; rw [if_pos (by omega), if_pos (by omega), if_pos (by omega), if_pos (by omega), rdN, rdN, if_pos e, wS (by omega), wS (by omega)]
    · rw [if_neg (by simpa using e)] at hc
      refine Ev.step (fun k => ?_) (ih (m + 1) c (by omega) (by omega))
      simp only [spec_l01Twice.l1]; rw [if_pos (by omega), if_pos (by omega), if_pos (by omega), if_pos (by omega), rdN, rdN, if_neg e, wS (by omega)]
theorem twice_l0 (l : List Int) (hb : l.length < 4611686018427387904) : ∀ d n, n + d = l.length → Ev (fun k => spec_l01Twice.l0 k l (n : Int)) ((l.drop n).all fun x => l.count x == 2) := by
  intro d
  induction d with
  | zero =>
    intro n hn
    rw [List.drop_of_length_le (by omega)]
    refine Ev.step (f := fun _ => some true) (fun k => ?_) (Ev.now _)
    simp only [spec_l01Twice.l0]; rw [if_neg (by omega)]
  | succ d ih =>
    intro n hn
    rw [drop_cons (l := l) (by omega), List.all_cons]
    refine Ev.step (f := fun k => spec_l01Twice.l1 k l (n : Int) ((0 : Nat) : Int) ((0 : Nat) : Int)) (fun k => ?_) ?_
    · simp only [spec_l01Twice.l0]; rw [if_pos (by omega)]; rfl
    · refine twice_l1 l n (by omega) hb _ ?_ l.length 0 0 (by omega) (by simp)
      by_cases e : l.count (l.getD n 0) = 2
      · refine Ev.congr (fun k => if_pos (by omega)) ?_
        rw [e]; simp only [BEq.rfl, Bool.true_and]
        exact ih (n + 1) (by omega)
      · refine Ev.congr (fun k => if_neg (by omega)) ?_
        rw [show (l.count (l.getD n 0) == 2) = false from by simpa using e, Bool.false_and]
        exact Ev.now _
theorem twice_ev (l : List Int) (hb : l.length < 4611686018427387904) : Ev (fun k => spec_l01Twice.f k l) (l.all fun x => l.count x == 2) :=
  Ev.congr (f := fun k => spec_l01Twice.l0 k l ((0 : Nat) : Int)) (fun _ => rfl) (twice_l0 l hb l.length 0 (by omega))
theorem snocInd {P : List Int → Prop} (h0 : P []) (h1 : ∀ l x, P l → P (l ++ [x])) : ∀ l, P l := by
  intro l
  suffices h : ∀ n, ∀ l : List Int, l.length = n → P l from h _ l rfl
  intro n
  induction n with
  | zero => intro l hl; rw [List.length_eq_zero_iff.1 hl]; exact h0
  | succ n ih =>
    intro l hl
    have hne : l ≠ [] := fun h => by rw [h] at hl; exact absurd hl (by simp)
    rw [← List.dropLast_concat_getLast hne]
    exact h1 _ _ (ih _ (by rw [List.length_dropLast]; omega))
theorem mets_nodup (l : List Int) : (mets l).Nodup := by
  refine snocInd (P := fun l => (mets l).Nodup) ?_ ?_ l
  · rw [mets_nil]; exact List.nodup_nil
  · intro l x h
    rw [mets_snoc]
    split
    · exact h
    · rename_i hx
      rw [List.nodup_append]
      exact ⟨h, List.nodup_cons.2 ⟨by simp, List.nodup_nil⟩, fun a ha b hb => by
        rw [List.mem_singleton] at hb; subst hb; intro e; subst e; exact hx (List.contains_iff_mem.2 ha)⟩
theorem idxOf_getD {m : List Int} (hd : m.Nodup) {j : Nat} (hj : j < m.length) : m.idxOf (m.getD j 0) = j := by
  rw [List.getD_eq_getElem?_getD, List.getElem?_eq_getElem hj]
  exact hd.idxOf_getElem j hj
theorem normal_l1 (l met out : List Int) (n : Nat) (hn : n < l.length) (hd : met.Nodup) (hm : met.length < 4611686018427387904) (r : List Int)
    (hr : Ev (fun k => if met.contains (l.getD n 0) then (if out.length < 17592186044416 then spec_l01Normal.l0 k l met (out ++ [(met.idxOf (l.getD n 0) : Int)]) (wrap64 ((n : Int) + 1)) else none)
      else (if met.length < 17592186044416 then (if out.length < 17592186044416 then spec_l01Normal.l0 k l (met ++ [l.getD n 0]) (out ++ [(met.length : Int)]) (wrap64 ((n : Int) + 1)) else none) else none)) r) :
    ∀ d m, m + d = met.length → Ev (fun k => spec_l01Normal.l1 k l met out (n : Int) (if (met.take m).contains (l.getD n 0) then (met.idxOf (l.getD n 0) : Int) else -1) (m : Int)) r := by
  intro d
  induction d with
  | zero =>
    intro m hmm
    refine Ev.step (fun k => ?_) hr
    simp only [spec_l01Normal.l1]
    rw [if_neg (by omega), List.take_of_length_le (by omega)]
    by_cases hc : met.contains (l.getD n 0) = true
    · rw [if_pos hc, if_pos hc, if_neg (by omega)]
    · rw [if_neg hc, if_neg hc, if_pos (by omega), if_pos (by omega), if_pos (by omega), rdN]
  | succ d ih =>
    intro m hmm
    refine Ev.step (fun k => ?_) (ih (m + 1) (by omega))
    have ht : (met.take (m + 1)).contains (l.getD n 0) = ((met.take m).contains (l.getD n 0) || (met.getD m 0 == l.getD n 0)) := by
      rw [take_snoc (by omega)]
      generalize met.getD m 0 = u
      generalize l.getD n 0 = v
      rw [Bool.eq_iff_iff]
      simp only [List.contains_iff_mem, List.mem_append, List.mem_singleton, Bool.or_eq_true, beq_iff_eq]
      exact or_congr Iff.rfl eq_comm
    simp only [spec_l01Normal.l1]
    rw [if_pos (by omega), if_pos (by omega), if_pos (by omega), if_pos (by omega), rdN, rdN, wS (by omega), ht]
    by_cases e : met.getD m 0 = l.getD n 0
    · rw [if_pos e, ← e, idxOf_getD hd (by omega)]; simp
    · rw [if_neg e, show (met.getD m 0 == l.getD n 0) = false from by simpa using e, Bool.or_false]
theorem normal_l0 (l : List Int) (hb : l.length < 17592186044416) : ∀ d n, n + d = l.length → Ev (fun k => spec_l01Normal.l0 k l (mets (l.take n)) (nrm (l.take n)) (n : Int)) (nrm l) := by
  intro d
  induction d with
  | zero =>
    intro n hn
    refine Ev.step (f := fun _ => some (nrm l)) (fun k => ?_) (Ev.now _)
    simp only [spec_l01Normal.l0]; rw [if_neg (by omega), List.take_of_length_le (by omega)]
  | succ d ih =>
    intro n hn
    have h1 := mets_le (l.take n)
    have h2 := nrm_len (l.take n)
    have h3 : (l.take n).length ≤ l.length := List.length_take_le' _ _
    refine Ev.step (f := fun k => spec_l01Normal.l1 k l (mets (l.take n)) (nrm (l.take n)) (n : Int) (if ((mets (l.take n)).take 0).contains (l.getD n 0) then ((mets (l.take n)).idxOf (l.getD n 0) : Int) else -1) ((0 : Nat) : Int)) (fun k => ?_) ?_
    · simp only [spec_l01Normal.l0]; rw [if_pos (by omega)]; simp
    · refine normal_l1 l _ _ n (by omega) (mets_nodup _) (by omega) _ ?_ (mets (l.take n)).length 0 (by omega)
      have hi := ih (n + 1) (by omega)
      rw [take_snoc (by omega), mets_snoc, nrm_snoc] at hi
      by_cases hc : (mets (l.take n)).contains (l.getD n 0) = true
      · rw [if_pos hc, if_pos hc] at hi
        refine Ev.congr (fun k => ?_) hi
        rw [if_pos hc, if_pos (by omega), wS (by omega)]
      · rw [if_neg hc, if_neg hc] at hi
        refine Ev.congr (fun k => ?_) hi
        rw [if_neg hc, if_pos (by omega), if_pos (by omega), wS (by omega)]
theorem normal_ev (l : List Int) (hb : l.length < 17592186044416) : Ev (fun k => spec_l01Normal.f k l) (nrm l) :=
  Ev.congr (f := fun k => spec_l01Normal.l0 k l (mets (l.take 0)) (nrm (l.take 0)) ((0 : Nat) : Int)) (fun _ => rfl) (normal_l0 l hb l.length 0 (by omega))
def tw (l : List Int) : Bool := l.all fun x => l.count x == 2
def isW (l : List Int) : Bool := decide (l.length ≤ 12) && tw l && decide (nrm l = l)
theorem is_ev (l : List Int) : Ev (fun k => spec_l01Is.f k l) (isW l) := by
  unfold spec_l01Is.f isW
  by_cases hl : l.length ≤ 12
  · refine Ev.congr (fun k => if_pos (by omega)) ?_
    rw [decide_eq_true hl, Bool.true_and]
    refine Ev.bind (twice_ev l (by omega)) ?_
    show Ev _ (tw l && _)
    cases ht : tw l with
    | false => exact Ev.congr (fun k => if_neg (by unfold tw at ht; rw [ht]; simp)) (Ev.now _)
    | true =>
      refine Ev.congr (fun k => if_pos (by unfold tw at ht; rw [ht])) ?_
      rw [Bool.true_and]
      refine Ev.bind (normal_ev l (by omega)) ?_
      have hn := nrm_len l
      exact Ev.bind (same_ev (nrm l) l (by omega)) (Ev.now _)
  · refine Ev.congr (fun k => if_neg (by omega)) ?_
    rw [decide_eq_false hl, Bool.false_and, Bool.false_and]
    exact Ev.now _
theorem okL_of {l : List Int} (hl : l.length * 8 ≤ 140737488351232) (hw : ∀ x ∈ l, (Lit.int .i64 x).wf = true) : okL l = true := by
  unfold okL
  simp only [Bool.and_eq_true, decide_eq_true_eq, List.all_eq_true]
  exact ⟨hl, hw⟩
theorem isWord_ev (l : List Int) (hw : ∀ x ∈ l, (Lit.int .i64 x).wf = true) : Ev (fun k => impl_IsWord.f k l) (isW l) := by
  unfold impl_IsWord.f isW
  by_cases hl : l.length ≤ 12
  · refine Ev.congr (fun k => if_pos (by omega)) ?_
    have hok : okL l = true := okL_of (by omega) hw
    rw [decide_eq_true hl, Bool.true_and]
    refine Ev.bind (a := tw l) (Ev.congr (fun _ => by unfold impl_twice.f; rw [if_pos hok]; rfl) (Ev.now _)) ?_
    cases ht : tw l with
    | false => exact Ev.congr (fun k => if_neg (by simp)) (Ev.now _)
    | true =>
      refine Ev.congr (fun k => if_pos rfl) ?_
      rw [Bool.true_and]
      refine Ev.bind (a := nrm l) (Ev.congr (fun _ => by unfold impl_normal.f; rw [if_pos hok]) (Ev.now _)) ?_
      have hn := nrm_len l
      exact Ev.bind (equal_ev (nrm l) l (by omega)) (Ev.now _)
  · refine Ev.congr (fun k => if_neg (by omega)) ?_
    rw [decide_eq_false hl, Bool.false_and, Bool.false_and]
    exact Ev.now _
theorem in_f (a b c : Int) : impl_in.f a b c = some (decide (b ≤ a ∧ a ≤ c)) := by
  unfold impl_in.f
  by_cases h : a ≥ b
  · rw [if_pos h]; simp [h]
  · rw [if_neg h]; simp [h]
theorem spec_in_f (a b c : Int) : spec_l01In.f a b c = some (decide (b ≤ a ∧ a ≤ c)) := by
  unfold spec_l01In.f
  by_cases h : a ≥ b
  · rw [if_pos h]; simp [h]
  · rw [if_neg h]; simp [h]
end Go.Proofs.Ytcnekpdoldljgaa.Pure
end
section
namespace Go.Proofs.Ytcnekpdoldljgaa.Pure
open Go.RowKit Go.Proofs.Ytcnekpdoldljgaa.F Go.Proofs.YtcnekpdoldljgaaW.PrintWords Go.Proofs.YtcnekpdoldljgaaW.PrintLast
def pA (w : List Int) (x : Int) : Nat := w.idxOf x
def pB (w : List Int) (x : Int) : Nat := pA w x + 1 + (w.drop (pA w x + 1)).idxOf x
theorem split1 {x : Int} {w : List Int} (h : x ∈ w) : ∃ u v, w = u ++ x :: v ∧ x ∉ u := List.eq_append_cons_of_mem h
theorem split2 {x : Int} {w : List Int} (h : w.count x = 2) : ∃ u v t, w = u ++ x :: (v ++ x :: t) ∧ x ∉ u ∧ x ∉ v ∧ x ∉ t := by
  have h1 : x ∈ w := List.count_pos_iff.1 (by omega)
  obtain ⟨u, z, rfl, hu⟩ := split1 h1
  rw [List.count_append, List.count_eq_zero.2 hu, List.count_cons_self] at h
  have h2 : x ∈ z := List.count_pos_iff.1 (by omega)
  obtain ⟨v, t, rfl, hv⟩ := split1 h2
  rw [List.count_append, List.count_eq_zero.2 hv, List.count_cons_self] at h
  exact ⟨u, v, t, rfl, hu, hv, List.count_eq_zero.1 (by omega)⟩
theorem idxOf_mid {x : Int} {u v : List Int} (hu : x ∉ u) : (u ++ x :: v).idxOf x = u.length := by
  rw [List.idxOf_append, if_neg hu, List.idxOf_cons_self]; omega
theorem pA_of {x : Int} {u v t : List Int} (hu : x ∉ u) : pA (u ++ x :: (v ++ x :: t)) x = u.length := idxOf_mid hu
theorem drop_mid {x : Int} {u v : List Int} : (u ++ x :: v).drop (u.length + 1) = v := by
  rw [List.drop_append, List.drop_of_length_le (by omega)]
  rw [show u.length + 1 - u.length = 1 from by omega]; rfl
theorem pB_of {x : Int} {u v t : List Int} (hu : x ∉ u) (hv : x ∉ v) : pB (u ++ x :: (v ++ x :: t)) x = u.length + 1 + v.length := by
  unfold pB
  rw [pA_of hu, drop_mid, idxOf_mid hv]
theorem places_skip (l : List Int) (x : Int) (hb : l.length < 4611686018427387904) (a b : Int) (r : Int × Int) : ∀ d n, n + d ≤ l.length → x ∉ (l.drop n).take d → Ev (fun k => spec_l01Places.l0 k l x a b ((n + d : Nat) : Int)) r → Ev (fun k => spec_l01Places.l0 k l x a b (n : Int)) r := by
  intro d
  induction d with
  | zero => intro n _ _ h; exact h
  | succ d ih =>
    intro n hn hx h
    rw [drop_cons (by omega), List.take_succ_cons] at hx
    refine Ev.step (fun k => ?_) (ih (n + 1) (by omega) (fun hm => hx (List.mem_cons_of_mem _ hm)) (by rw [show n + 1 + d = n + (d + 1) from by omega]; exact h))
    simp only [spec_l01Places.l0]
    rw [if_pos (by omega), if_pos (by omega), rdN, if_neg (fun e => hx (by rw [e]; exact List.mem_cons_self)), wS (by omega)]
theorem getD_mid {x : Int} {u v : List Int} : (u ++ x :: v).getD u.length 0 = x := by
  rw [List.getD_eq_getElem?_getD, List.getElem?_append_right (Nat.le_refl _)]; simp
theorem places_ev (w : List Int) (x : Int) (hb : w.length < 4611686018427387904) (h : w.count x = 2) : Ev (fun k => spec_l01Places.f k w x) ((pA w x : Int), (pB w x : Int)) := by
  obtain ⟨u, v, t, rfl, hu, hv, ht⟩ := split2 h
  rw [pA_of hu, pB_of hu hv]
  have hlen : (u ++ x :: (v ++ x :: t)).length = u.length + 1 + v.length + 1 + t.length := by simp; omega
  have hd1 : (u ++ x :: (v ++ x :: t)).drop (u.length + 1) = v ++ x :: t := drop_mid
  have hd2 : (u ++ x :: (v ++ x :: t)).drop (u.length + 1 + v.length + 1) = t := by
    rw [show u.length + 1 + v.length + 1 = (u.length + 1) + (v.length + 1) from by omega, ← List.drop_drop, hd1, drop_mid]
  have hg2 : (u ++ x :: (v ++ x :: t)).getD (u.length + 1 + v.length) 0 = x := by
    rw [List.getD_eq_getElem?_getD, ← List.getElem?_drop, hd1, List.getElem?_append_right (Nat.le_refl _)]; simp
  unfold spec_l01Places.f
  refine places_skip _ x hb (-1) (-1) _ u.length 0 (by omega) (by simpa using hu) ?_
  rw [Nat.zero_add]
  refine Ev.step (f := fun k => spec_l01Places.l0 k (u ++ x :: (v ++ x :: t)) x (u.length : Int) (u.length : Int) ((u.length + 1 : Nat) : Int)) (fun k => ?_) ?_
  · simp only [spec_l01Places.l0]
    rw [if_pos (by omega), if_pos (by omega), rdN, if_pos getD_mid, if_pos (by omega), wS (by omega)]
  refine places_skip _ x hb _ _ _ v.length _ (by omega) (by rw [hd1]; simpa using hv) ?_
  refine Ev.step (f := fun k => spec_l01Places.l0 k (u ++ x :: (v ++ x :: t)) x (u.length : Int) ((u.length + 1 + v.length : Nat) : Int) ((u.length + 1 + v.length + 1 : Nat) : Int)) (fun k => ?_) ?_
  · simp only [spec_l01Places.l0]
    rw [if_pos (by omega), if_pos (by omega), rdN, if_pos hg2, if_neg (by omega), wS (by omega)]
  refine places_skip _ x hb _ _ _ t.length _ (by omega) (by rw [hd2]; simpa using ht) ?_
  refine Ev.step (f := fun _ => some _) (fun k => ?_) (Ev.now _)
  simp only [spec_l01Places.l0]
  rw [if_neg (by omega)]
theorem count_take {x : Int} {w : List Int} (h : w.count x = 2) (q : Nat) (hq : q ≤ w.length) : (w.take q).count x = (if pA w x < q then 1 else 0) + (if pB w x < q then 1 else 0) := by
  obtain ⟨u, v, t, rfl, hu, hv, ht⟩ := split2 h
  rw [pA_of hu, pB_of hu hv]
  have cu : ∀ m, (u.take m).count x = 0 := fun m => List.count_eq_zero.2 (fun hm => hu (List.mem_of_mem_take hm))
  have cv : ∀ m, (v.take m).count x = 0 := fun m => List.count_eq_zero.2 (fun hm => hv (List.mem_of_mem_take hm))
  have ct : ∀ m, (t.take m).count x = 0 := fun m => List.count_eq_zero.2 (fun hm => ht (List.mem_of_mem_take hm))
  rw [List.take_append, List.count_append, cu, Nat.zero_add]
  by_cases h1 : u.length < q
  · rw [if_pos h1]
    obtain ⟨m, hm⟩ : ∃ m, q - u.length = m + 1 := ⟨q - u.length - 1, by omega⟩
    rw [hm, List.take_succ_cons, List.count_cons_self, List.take_append, List.count_append, cv, Nat.zero_add]
    by_cases h2 : u.length + 1 + v.length < q
    · rw [if_pos h2]
      obtain ⟨m2, hm2⟩ : ∃ m2, m - v.length = m2 + 1 := ⟨m - v.length - 1, by omega⟩
      rw [hm2, List.take_succ_cons, List.count_cons_self, ct]
    · rw [if_neg h2, show m - v.length = 0 from by omega]; simp
  · rw [if_neg h1, if_neg (by omega), show q - u.length = 0 from by omega]; simp
theorem places_lt {x : Int} {w : List Int} (h : w.count x = 2) : pA w x < pB w x ∧ pB w x < w.length := by
  obtain ⟨u, v, t, rfl, hu, hv, ht⟩ := split2 h
  rw [pA_of hu, pB_of hu hv]
  simp; omega
theorem getD_places {x : Int} {w : List Int} (h : w.count x = 2) (j : Nat) (hj : j < w.length) : w.getD j 0 = x ↔ j = pA w x ∨ j = pB w x := by
  have h1 := count_take h j (by omega)
  have h2 := count_take h (j + 1) (by omega)
  rw [take_snoc hj, List.count_append] at h2
  have hp := places_lt h
  by_cases e : w.getD j 0 = x
  · rw [e] at h2
    simp only [List.count_singleton_self] at h2
    refine ⟨fun _ => ?_, fun _ => e⟩
    by_cases a : j = pA w x
    · exact .inl a
    · by_cases b : j = pB w x
      · exact .inr b
      · exfalso
        have : (pA w x < j) ↔ (pA w x < j + 1) := by omega
        have : (pB w x < j) ↔ (pB w x < j + 1) := by omega
        simp only [*] at h1 h2
        omega
  · have hz : [w.getD j 0].count x = 0 := List.count_eq_zero.2 (by simpa using fun h => e h.symm)
    rw [hz, h1] at h2
    refine ⟨fun h => absurd h e, fun h => ?_⟩
    exfalso
    rcases h with rfl | rfl
    · rw [if_neg (by omega), if_neg (by omega), if_pos (by omega), if_neg (by omega)] at h2; omega
    · rw [if_pos (by omega), if_neg (by omega), if_pos (by omega), if_pos (by omega)] at h2; omega
end Go.Proofs.Ytcnekpdoldljgaa.Pure
end
section
namespace Go.Proofs.Ytcnekpdoldljgaa.Pure
open Go.RowKit Go.Proofs.Ytcnekpdoldljgaa.F Go.Proofs.YtcnekpdoldljgaaW.PrintWords Go.Proofs.YtcnekpdoldljgaaW.PrintLast
theorem mets_mem (l : List Int) (x : Int) : x ∈ mets l ↔ x ∈ l := by
  refine snocInd (P := fun l => x ∈ mets l ↔ x ∈ l) ?_ ?_ l
  · rw [mets_nil]
  · intro l y h
    rw [mets_snoc]
    split
    · rename_i hy
      have hy' : y ∈ mets l := List.contains_iff_mem.1 hy
      rw [List.mem_append, h, List.mem_singleton]
      refine ⟨.inl, fun g => ?_⟩
      rcases g with g | g
      · exact g
      · subst g; exact h.1 hy'
    · rw [List.mem_append, List.mem_append, h]
theorem nrm_mem (l : List Int) (x : Int) : x ∈ nrm l ↔ ∃ i : Nat, i < (mets l).length ∧ x = (i : Int) := by
  refine snocInd (P := fun l => x ∈ nrm l ↔ ∃ i : Nat, i < (mets l).length ∧ x = (i : Int)) ?_ ?_ l
  · rw [nrm_nil, mets_nil]; simp
  · intro l y h
    rw [nrm_snoc, mets_snoc, List.mem_append, h, List.mem_singleton]
    by_cases hy : (mets l).contains y = true
    · rw [if_pos hy, if_pos hy]
      have hlt : (mets l).idxOf y < (mets l).length := List.idxOf_lt_length_of_mem (List.contains_iff_mem.1 hy)
      refine ⟨fun g => ?_, .inl⟩
      rcases g with g | g
      · exact g
      · exact ⟨_, hlt, g⟩
    · rw [if_neg hy, if_neg hy, List.length_append, List.length_singleton]
      refine ⟨fun g => ?_, fun ⟨i, hi, e⟩ => ?_⟩
      · rcases g with ⟨i, hi, e⟩ | g
        · exact ⟨i, by omega, e⟩
        · exact ⟨_, by omega, g⟩
      · by_cases hc : i < (mets l).length
        · exact .inl ⟨i, hc, e⟩
        · exact .inr (by rw [e]; congr 1; omega)
theorem len_two : ∀ (m l : List Int), m.Nodup → (∀ x ∈ l, x ∈ m) → (∀ x ∈ m, l.count x = 2) → l.length = 2 * m.length
  | [], l, _, h, _ => by
    cases l with
    | nil => rfl
    | cons x r => exact absurd (h x List.mem_cons_self) (by simp)
  | y :: ms, l, hd, h, hc => by
    have hy := hc y List.mem_cons_self
    have hd' := List.nodup_cons.1 hd
    have h1 := len_two ms (l.filter fun z => !(z == y)) hd'.2 (fun x hx => by
        have hx' := List.mem_filter.1 hx
        rcases List.mem_cons.1 (h x hx'.1) with e | e
        · exact absurd hx'.2 (by simp [e])
        · exact e) (fun x hx => by
        have hne : x ≠ y := fun e => hd'.1 (e ▸ hx)
        rw [List.count_filter (by simpa using hne)]
        exact hc x (List.mem_cons_of_mem _ hx))
    have h2 := List.length_eq_countP_add_countP (fun z => z == y) (l := l)
    rw [List.countP_eq_length_filter (p := fun z => decide ¬((z == y) = true))] at h2
    have e : (fun z : Int => decide ¬((z == y) = true)) = fun z => !(z == y) := by
      funext z; cases z == y <;> rfl
    rw [e] at h2
    have h3 : l.countP (fun z => z == y) = 2 := hy
    rw [List.length_cons]
    omega
structure Word (w : List Int) : Prop where
  le : w.length ≤ 12
  two : ∀ x ∈ w, w.count x = 2
  nrm : nrm w = w
theorem isW_iff (w : List Int) : isW w = true ↔ Word w := by
  unfold isW tw
  simp only [Bool.and_eq_true, decide_eq_true_eq, List.all_eq_true, beq_iff_eq]
  exact ⟨fun h => ⟨h.1.1, h.1.2, h.2⟩, fun h => ⟨⟨h.le, h.two⟩, h.nrm⟩⟩
theorem Word.len {w : List Int} (h : Word w) : w.length = 2 * (mets w).length :=
  len_two _ _ (mets_nodup w) (fun x hx => (mets_mem w x).2 hx) (fun x hx => h.two x ((mets_mem w x).1 hx))
theorem Word.half {w : List Int} (h : Word w) : w.length / 2 = (mets w).length := by have := h.len; omega
theorem Word.mem {w : List Int} (h : Word w) (x : Int) : x ∈ w ↔ ∃ i : Nat, i < w.length / 2 ∧ x = (i : Int) := by
  have := nrm_mem w x
  rw [h.nrm] at this
  rw [this, h.half]
theorem Word.count {w : List Int} (h : Word w) {i : Nat} (hi : i < w.length / 2) : w.count (i : Int) = 2 := h.two _ ((h.mem _).2 ⟨i, hi, rfl⟩)
end Go.Proofs.Ytcnekpdoldljgaa.Pure
end
section
namespace Go.Proofs.Ytcnekpdoldljgaa.Pure
open Go.RowKit Go.Proofs.Ytcnekpdoldljgaa.F Go.Proofs.YtcnekpdoldljgaaW.PrintWords Go.Proofs.YtcnekpdoldljgaaW.PrintLast
theorem Ev_succ {α : Type} {g : Nat → Option α} {r : α} (h : Ev (fun k => g (k + 1)) r) : Ev g r := Ev.step (fun _ => rfl) h
theorem index_l0 (l : List Int) (x : Int) (hb : l.length < 4611686018427387904) : ∀ d n, n + d = l.length → x ∈ l.drop n → Ev (fun k => slices_Index_int64_int64.l0 k l x (l.length : Int) (n : Int)) ((n + (l.drop n).idxOf x : Nat) : Int) := by
  intro d
  induction d with
  | zero => intro n hn hx; rw [List.drop_of_length_le (by omega)] at hx; exact absurd hx (by simp)
  | succ d ih =>
    intro n hn hx
    rw [drop_cons (by omega)] at hx ⊢
    by_cases e : x = l.getD n 0
    · refine Ev.step (f := fun _ => some (n : Int)) (fun k => ?_) ?_
      · simp only [slices_Index_int64_int64.l0]; rw [if_pos (by omega), if_pos (by omega), if_pos (by omega), rdN, if_pos e]
      · rw [← e, List.idxOf_cons_self]; exact Ev.now _
    · have hx' : x ∈ l.drop (n + 1) := (List.mem_cons.1 hx).resolve_left e
      rw [List.idxOf_cons, show (l.getD n 0 == x) = false from beq_eq_false_iff_ne.2 (Ne.symm e), cond_false, show n + ((l.drop (n + 1)).idxOf x + 1) = n + 1 + (l.drop (n + 1)).idxOf x from by omega]
      refine Ev.step (fun k => ?_) (ih (n + 1) (by omega) hx')
      simp only [slices_Index_int64_int64.l0]; rw [if_pos (by omega), if_pos (by omega), if_pos (by omega), rdN, if_neg e, wS (by omega)]
theorem index_ev (l : List Int) (x : Int) (hb : l.length < 4611686018427387904) (hx : x ∈ l) : Ev (fun k => slices_Index_int64_int64.f k l x) (l.idxOf x : Int) := by
  have h := index_l0 l x hb l.length 0 (by omega) hx
  rw [Nat.zero_add] at h
  exact h
theorem iplaces_ev (w : List Int) (x : Int) (hb : w.length < 4611686018427387904) (h : w.count x = 2) : Ev (fun k => impl_places.f k w x) ((pA w x : Int), (pB w x : Int)) := by
  have hm : x ∈ w := List.count_pos_iff.1 (by omega)
  have hp := places_lt h
  have hm2 : x ∈ w.drop (pA w x + 1) := by
    obtain ⟨u, v, t, rfl, hu, hv, ht⟩ := split2 h
    rw [pA_of hu, drop_mid]; simp
  unfold impl_places.f
  have hi : Ev (fun k => slices_Index_int64_int64.f k w x) (pA w x : Int) := index_ev w x hb hm
  refine Ev.bind hi ?_
  show Ev (fun k => if 0 ≤ wrap64 ((pA w x : Int) + 1) then _ else none) _
  have e := wS (n := pA w x) (by omega)
  refine Ev.congr (f := fun k => (slices_Index_int64_int64.f k (w.drop (pA w x + 1)) x).bind fun t295 => some ((pA w x : Int), wrap64 (((pA w x + 1 : Nat) : Int) + t295))) (fun k => ?_) ?_
  · rw [e, if_pos (by omega), if_pos (by omega), Int.toNat_natCast]
  · refine Ev.bind (index_ev _ x (by rw [List.length_drop]; omega) hm2) ?_
    have e2 : wrap64 (((pA w x + 1 : Nat) : Int) + ((w.drop (pA w x + 1)).idxOf x : Int)) = (pB w x : Int) := by
      have : pB w x = pA w x + 1 + (w.drop (pA w x + 1)).idxOf x := rfl
      unfold wrap64; omega
    rw [← e2]; exact Ev.now _
theorem chords_f (w : List Int) (h : w.length ≤ 12) : impl_chords.f w = some ((w.length / 2 : Nat) : Int) := by
  unfold impl_chords.f
  rw [show wrap64 ((w.length : Int) / 2) = ((w.length / 2 : Nat) : Int) from by unfold wrap64; omega]
end Go.Proofs.Ytcnekpdoldljgaa.Pure
end
section
namespace Go.Proofs.Ytcnekpdoldljgaa.Pure
open Go.RowKit Go.Proofs.Ytcnekpdoldljgaa.F Go.Proofs.YtcnekpdoldljgaaW.PrintWords Go.Proofs.YtcnekpdoldljgaaW.PrintLast
theorem places_ne {w : List Int} (hw : Word w) {i k : Nat} (hne : i ≠ k) (hi : i < w.length / 2) (hk : k < w.length / 2) : pA w i ≠ pA w k ∧ pA w i ≠ pB w k ∧ pB w i ≠ pA w k ∧ pB w i ≠ pB w k := by
  have ci := hw.count hi
  have ck := hw.count hk
  have li := places_lt ci
  have lk := places_lt ck
  have a1 : w.getD (pA w i) 0 = (i : Int) := (getD_places ci _ (by omega)).2 (.inl rfl)
  have a2 : w.getD (pB w i) 0 = (i : Int) := (getD_places ci _ (by omega)).2 (.inr rfl)
  have b1 : w.getD (pA w k) 0 = (k : Int) := (getD_places ck _ (by omega)).2 (.inl rfl)
  have b2 : w.getD (pB w k) 0 = (k : Int) := (getD_places ck _ (by omega)).2 (.inr rfl)
  refine ⟨fun h => ?_, fun h => ?_, fun h => ?_, fun h => ?_⟩
  · rw [h, b1] at a1; omega
  · rw [h, b2] at a1; omega
  · rw [h, b1] at a2; omega
  · rw [h, b2] at a2; omega
def crossB (w : List Int) (i k : Nat) : Bool :=
  !(i == k) && ((decide (pA w i < pA w k) && decide (pA w k < pB w i)) != (decide (pA w i < pB w k) && decide (pB w k < pB w i)))
theorem icross_ev (w : List Int) (hw : Word w) (i k : Nat) (hi : i < w.length / 2) (hk : k < w.length / 2) : Ev (fun n => impl_cross.f n w i k) (crossB w i k) := by
  have hle := hw.le
  unfold impl_cross.f
  refine Ev.bind (iplaces_ev w i (by omega) (hw.count hi)) ?_
  refine Ev.bind (iplaces_ev w k (by omega) (hw.count hk)) ?_
  refine Ev.congr (fun n => ?_) (Ev.now _)
  unfold crossB
  by_cases e : i = k
  · subst e; rw [if_pos rfl]; simp
  · rw [if_neg (by omega), show (i == k) = false from by simpa using e]
    simp only [Int.ofNat_lt, gt_iff_lt]
    by_cases c1 : pA w i < pA w k <;> by_cases c2 : pA w i < pB w k <;> simp [c1, c2]
theorem scross {w : List Int} (hw : Word w) {i k : Nat} (hi : i < w.length / 2) (hk : k < w.length / 2) (hne : k ≠ i) :
    (decide ((pA w i : Int) ≤ (pA w k : Int) ∧ (pA w k : Int) ≤ (pB w i : Int)) != decide ((pA w i : Int) ≤ (pB w k : Int) ∧ (pB w k : Int) ≤ (pB w i : Int))) = crossB w i k := by
  have hp := places_ne hw (Ne.symm hne) hi hk
  unfold crossB
  rw [show (i == k) = false from by simpa using Ne.symm hne]
  have e1 : decide ((pA w i : Int) ≤ (pA w k : Int) ∧ (pA w k : Int) ≤ (pB w i : Int)) = (decide (pA w i < pA w k) && decide (pA w k < pB w i)) := by
    rw [Bool.eq_iff_iff]; simp only [Bool.and_eq_true, decide_eq_true_eq]; omega
  have e2 : decide ((pA w i : Int) ≤ (pB w k : Int) ∧ (pB w k : Int) ≤ (pB w i : Int)) = (decide (pA w i < pB w k) && decide (pB w k < pB w i)) := by
    rw [Bool.eq_iff_iff]; simp only [Bool.and_eq_true, decide_eq_true_eq]; omega
  rw [e1, e2]; simp
def ent (w : List Int) (i k : Nat) : Int := if crossB w i k then 1 else 0
def rowTo (w : List Int) (i m : Nat) : List Int := (List.range m).map (ent w i)
def rowsTo (w : List Int) (n : Nat) : List (List Int) := (List.range n).map fun i => rowTo w i (w.length / 2)
def rowsOf (w : List Int) : List (List Int) := rowsTo w (w.length / 2)
theorem rowTo_len (w : List Int) (i m : Nat) : (rowTo w i m).length = m := by simp [rowTo]
theorem rowTo_succ (w : List Int) (i m : Nat) : rowTo w i (m + 1) = rowTo w i m ++ [ent w i m] := by unfold rowTo; rw [List.range_succ, List.map_append]; rfl
theorem rowsTo_len (w : List Int) (n : Nat) : (rowsTo w n).length = n := by simp [rowsTo]
theorem rowsTo_succ (w : List Int) (n : Nat) : rowsTo w (n + 1) = rowsTo w n ++ [rowTo w n (w.length / 2)] := by unfold rowsTo; rw [List.range_succ, List.map_append]; rfl
theorem set_ent (w : List Int) (i m d : Nat) (v : Int) : (rowTo w i m ++ List.replicate (d + 1) 0).set m v = rowTo w i m ++ v :: List.replicate d 0 := by
  have hl := rowTo_len w i m
  rw [List.set_append_right _ _ (by omega), hl, Nat.sub_self, List.replicate_succ, List.set_cons_zero]
theorem half_w' (w : List Int) (h : w.length ≤ 12) : wrap64 ((w.length : Int) / 2) = ((w.length / 2 : Nat) : Int) := by unfold wrap64; omega
theorem srow_l1 (w : List Int) (hw : Word w) (out : List (List Int)) (i : Nat) (hi : i < w.length / 2) (r : List (List Int))
    (hr : Ev (fun k => if out.length < 5864062014805 then spec_l01Cross.l0 k w (out ++ [rowTo w i (w.length / 2)]) ((w.length / 2 : Nat) : Int) ((i + 1 : Nat) : Int) else none) r) :
    ∀ d m, m + d = w.length / 2 → Ev (fun k => spec_l01Cross.l1 k w out ((w.length / 2 : Nat) : Int) (i : Int) (rowTo w i m ++ List.replicate d 0) (pA w i : Int) (pB w i : Int) (m : Int)) r := by
  have hle := hw.le
  intro d
  induction d with
  | zero =>
    intro m hm
    refine Ev.step (fun k => ?_) hr
    simp only [spec_l01Cross.l1]
    rw [if_neg (by omega), wS (by omega), List.replicate_zero, List.append_nil, show m = w.length / 2 from by omega]
  | succ d ih =>
    intro m hm
    have hrow : rowTo w i (m + 1) ++ List.replicate d 0 = rowTo w i m ++ ent w i m :: List.replicate d 0 := by rw [rowTo_succ]; simp
    refine Ev_succ ?_
    simp only [spec_l01Cross.l1]
    refine Ev.congr (fun k => if_pos (by omega)) ?_
    refine Ev.bind (places_ev w m (by omega) (hw.count (by omega))) ?_
    have hh := ih (m + 1) (by omega)
    rw [hrow] at hh
    by_cases e : m = i
    · subst e
      refine Ev.congr (fun k => if_pos rfl) ?_
      rw [show ent w m m = 0 from by simp [ent, crossB], ← List.replicate_succ] at hh
      exact Ev.congr (fun k => by rw [wS (by omega)]) hh
    · refine Ev.congr (fun k => if_neg (by omega)) ?_
      refine Ev.congr (f := fun k => if crossB w i m = true then spec_l01Cross.l1 k w out ((w.length / 2 : Nat) : Int) (i : Int) (rowTo w i m ++ 1 :: List.replicate d 0) (pA w i : Int) (pB w i : Int) ((m + 1 : Nat) : Int) else spec_l01Cross.l1 k w out ((w.length / 2 : Nat) : Int) (i : Int) (rowTo w i m ++ 0 :: List.replicate d 0) (pA w i : Int) (pB w i : Int) ((m + 1 : Nat) : Int)) (fun k => ?_) ?_
      · rw [spec_in_f, Option.bind_some, spec_in_f, Option.bind_some, scross hw hi (by omega) e, wS (by omega), Int.toNat_natCast, set_ent, ← List.replicate_succ]
        have hl := rowTo_len w i m
        by_cases c : crossB w i m = true
        · rw [if_pos c, if_pos c, if_pos (by omega), if_pos (by rw [List.length_append, hl, List.length_replicate]; omega)]
        · rw [if_neg c, if_neg c]
      · by_cases c : crossB w i m = true
        · refine Ev.congr (fun k => if_pos c) ?_
          rw [show ent w i m = 1 from by unfold ent; rw [if_pos c]] at hh; exact hh
        · refine Ev.congr (fun k => if_neg c) ?_
          rw [show ent w i m = 0 from by unfold ent; rw [if_neg c]] at hh; exact hh
theorem srow_l0 (w : List Int) (hw : Word w) : ∀ d n, n + d = w.length / 2 → Ev (fun k => spec_l01Cross.l0 k w (rowsTo w n) ((w.length / 2 : Nat) : Int) (n : Int)) (rowsOf w) := by
  have hle := hw.le
  intro d
  induction d with
  | zero =>
    intro n hn
    refine Ev.step (f := fun _ => some (rowsOf w)) (fun k => ?_) (Ev.now _)
    simp only [spec_l01Cross.l0]; rw [if_neg (by omega), show n = w.length / 2 from by omega]; rfl
  | succ d ih =>
    intro n hn
    refine Ev_succ ?_
    simp only [spec_l01Cross.l0]
    refine Ev.congr (fun k => if_pos (by omega)) ?_
    refine Ev.congr (fun k => if_pos (by omega)) ?_
    refine Ev.congr (fun k => if_pos (by omega)) ?_
    refine Ev.bind (places_ev w n (by omega) (hw.count (by omega))) ?_
    have hl := rowsTo_len w n
    have h := srow_l1 w hw (rowsTo w n) n (by omega) _ (Ev.congr (fun k => if_pos (by omega)) (by have h := ih (n + 1) (by omega); rw [rowsTo_succ] at h; exact h)) (w.length / 2) 0 (by omega)
    rw [show rowTo w n 0 = [] from rfl, List.nil_append] at h
    exact Ev.congr (fun k => by rw [Int.toNat_natCast]; rfl) h
theorem srows_ev (w : List Int) (hw : Word w) : Ev (fun k => spec_l01Cross.f k w) (rowsOf w) := by
  have hle := hw.le
  refine Ev.congr (fun k => ?_) (srow_l0 w hw (w.length / 2) 0 (by omega))
  unfold spec_l01Cross.f
  rw [half_w' w hle]; rfl
end Go.Proofs.Ytcnekpdoldljgaa.Pure
end
section
namespace Go.Proofs.Ytcnekpdoldljgaa.Pure
open Go.RowKit Go.Proofs.YtcnekpdoldljgaaW.PrintWords Go.Proofs.YtcnekpdoldljgaaW.PrintLast
theorem wraps_i64 (n : Int) (h₀ : 0 ≤ n) (h₁ : n < 2 ^ 63) : IntKind.i64.wrap n = n := by rw [IntKind.wrap_i64]; omega
theorem u64_nat (i : Nat) (h : i < 64) : IntKind.u64.wrap (i : Int) = (i : Int) := by rw [IntKind.wrap_u64]; omega
theorem shr_nat (t i : Nat) (h : i < 64) : shr .i64 (t : Int) (i : Int) = ((t / 2 ^ i : Nat) : Int) := by
  unfold shr
  rw [Int.toNat_natCast, show IntKind.i64.bits = 64 from rfl, Nat.min_eq_left (by omega)]
  simp
theorem and1_nat (t : Nat) (h : t < 2 ^ 63) : Go.bits .and .i64 (t : Int) 1 = ((t % 2 : Nat) : Int) := by
  have := bits_mask .i64 63 (by decide) wraps_i64 1 (by decide) (t : Int) (by omega) (by exact_mod_cast h)
  simpa using this
theorem bit_at (t i : Nat) (ht : t < 2 ^ 62) (hi : i < 64) : Go.bits .and .i64 (shr .i64 (t : Int) (i : Int)) 1 = if t.testBit i = true then 1 else 0 := by
  rw [shr_nat t i hi, and1_nat _ (Nat.lt_of_le_of_lt (Nat.div_le_self _ _) (by omega)), Nat.testBit_eq_decide_div_mod_eq]
  by_cases h : t / 2 ^ i % 2 = 1
  · simp [h]
  · rw [if_neg (by simpa using h)]; omega
end Go.Proofs.Ytcnekpdoldljgaa.Pure
end
section
namespace Go.Proofs.Ytcnekpdoldljgaa.Pure
open Go.RowKit Go.Proofs.Ytcnekpdoldljgaa.F Go.Proofs.YtcnekpdoldljgaaW.PrintWords Go.Proofs.YtcnekpdoldljgaaW.PrintLast
def upN (k : Nat) : List Int := (List.range k).map fun i : Nat => (i : Int)
theorem upN_len (k : Nat) : (upN k).length = k := by simp [upN]
theorem upN_at (k i : Nat) (h : i < (upN k).length) : (upN k)[i] = (i : Int) := by simp [upN]
theorem upN_succ (k : Nat) : upN (k + 1) = upN k ++ [(k : Int)] := by simp [upN, List.range_succ]
theorem upN_mem (k i : Nat) : (upN k).contains (i : Int) = decide (i < k) := by
  rw [Bool.eq_iff_iff, decide_eq_true_iff]
  simp only [List.contains_iff_mem, upN, List.mem_map, List.mem_range]
  exact ⟨fun ⟨j, hj, e⟩ => by omega, fun h => ⟨i, h, rfl⟩⟩
theorem upN_idx (k i : Nat) (h : i < k) : (upN k).idxOf (i : Int) = i := by
  have hm : (i : Int) ∈ upN k := List.mem_map.2 ⟨i, List.mem_range.2 h, rfl⟩
  have hl := List.idxOf_lt_length_of_mem hm
  have h1 := List.getElem_idxOf hl
  rw [upN_at] at h1
  omega
theorem nrm_twice (l : List Int) : mets (nrm l) = upN (mets l).length ∧ nrm (nrm l) = nrm l := by
  refine snocInd (P := fun l => mets (nrm l) = upN (mets l).length ∧ nrm (nrm l) = nrm l) ⟨rfl, rfl⟩ (fun l x ⟨h1, h2⟩ => ?_) l
  rw [nrm_snoc, mets_snoc, mets_snoc, nrm_snoc, h1, h2]
  by_cases hx : (mets l).contains x = true
  · have hlt : (mets l).idxOf x < (mets l).length := List.idxOf_lt_length_of_mem (by simpa using hx)
    rw [if_pos hx, if_pos hx, upN_mem, decide_eq_true hlt, if_pos rfl, if_pos rfl, upN_idx _ _ hlt]
    exact ⟨rfl, rfl⟩
  · rw [if_neg hx, if_neg hx, upN_mem, decide_eq_false (Nat.lt_irrefl _), if_neg (by simp), if_neg (by simp), upN_len, List.length_append, List.length_singleton, upN_succ]
    exact ⟨rfl, rfl⟩
theorem nrm_map (l : List Int) : nrm l = l.map fun x => ((mets l).idxOf x : Int) := by
  refine snocInd (P := fun l => nrm l = l.map fun x => ((mets l).idxOf x : Int)) rfl (fun l x h => ?_) l
  rw [nrm_snoc, mets_snoc, List.map_append, List.map_singleton]
  by_cases hx : (mets l).contains x = true
  · rw [if_pos hx, if_pos hx, ← h]
  · rw [if_neg hx, if_neg hx, h]
    congr 1
    · refine List.map_congr_left (fun y hy => ?_)
      rw [List.idxOf_append, if_pos ((mets_mem l y).2 hy)]
    · have hx' : x ∉ mets l := by simpa using hx
      rw [List.idxOf_append, if_neg hx']
      simp
theorem word_of_two {l : List Int} (hl : l.length ≤ 12) (h2 : ∀ x ∈ l, l.count x = 2) : Word (nrm l) := by
  refine ⟨by rw [nrm_len]; exact hl, fun y hy => ?_, (nrm_twice l).2⟩
  have hm := nrm_map l
  rw [hm] at hy ⊢
  obtain ⟨x, hx, rfl⟩ := List.mem_map.1 hy
  rw [← h2 x hx]
  rw [List.count_eq_countP, List.count_eq_countP, List.countP_map]
  refine List.countP_congr (fun z hz => ?_)
  simp only [Function.comp, beq_iff_eq]
  constructor
  · intro e
    have e' : (mets l).idxOf z = (mets l).idxOf x := by omega
    have hz' := List.idxOf_lt_length_of_mem ((mets_mem l z).2 hz)
    have hx' := List.idxOf_lt_length_of_mem ((mets_mem l x).2 hx)
    have a := List.getElem_idxOf hz'
    have b := List.getElem_idxOf hx'
    rw [← a, ← b]
    congr 1
  · intro e; rw [e]
theorem some_two {w : List Int} (hw : Word w) (p : Int → Bool) : ∀ x ∈ w.filter p, (w.filter p).count x = 2 := by
  intro x hx
  have h := List.mem_filter.1 hx
  rw [List.count_filter h.2]
  exact hw.two x h.1
theorem some_len {w : List Int} (hw : Word w) (p : Int → Bool) (m : List Int) (hn : m.Nodup) (hm : ∀ x, x ∈ m ↔ x ∈ w ∧ p x = true) : (w.filter p).length = 2 * m.length :=
  len_two _ _ hn (fun x hx => (hm x).2 (List.mem_filter.1 hx)) (fun x hx => some_two hw p x (List.mem_filter.2 ((hm x).1 hx)))
end Go.Proofs.Ytcnekpdoldljgaa.Pure
end
section
namespace Go.Proofs.Ytcnekpdoldljgaa.F
open Go.RowKit Go.Proofs.YtcnekpdoldljgaaW.PrintWords Go.Proofs.YtcnekpdoldljgaaW.PrintLast Go.Proofs.Ytcnekpdoldljgaa.Pure Go.Proofs.Ytcnekpdoldljgaa.Mem Go.Proofs.Ytcnekpdoldljgaa.Red Go.Proofs.Ytcnekpdoldljgaa.ORows
def setTo (s i : Nat) : List Nat := (List.range i).filter fun k => s.testBit k
theorem setTo_succ (s i : Nat) : setTo s (i + 1) = if s.testBit i = true then setTo s i ++ [i] else setTo s i := by
  unfold setTo
  rw [List.range_succ, List.filter_append]
  by_cases h : s.testBit i = true
  · rw [if_pos h, List.filter_cons_of_pos (by simpa using h), List.filter_nil]
  · rw [if_neg h, List.filter_cons_of_neg (by simpa using h), List.filter_nil, List.append_nil]
theorem setTo_le (s : Nat) : ∀ i, (setTo s i).length ≤ i
  | 0 => Nat.le_refl _
  | i + 1 => by
    rw [setTo_succ]
    split
    · rw [List.length_append, List.length_singleton]; exact Nat.succ_le_succ (setTo_le s i)
    · exact Nat.le_succ_of_le (setTo_le s i)
theorem bit_form (k j : Nat) (hk : k < 2 ^ 62) (hj : j < 64) : (Go.bits .and .i64 ((k : Int) / 2 ^ min j 64) 1 == 1) = k.testBit j := by
  rw [Nat.min_eq_left (by omega), show ((k : Int) / 2 ^ j) = ((k / 2 ^ j : Nat) : Int) from by rw [Int.natCast_ediv, Int.natCast_pow]; rfl, and1_nat _ (by have := Nat.div_le_self k (2 ^ j); omega), Nat.testBit_eq_decide_div_mod_eq, Bool.eq_iff_iff, beq_iff_eq, decide_eq_true_iff]
  omega
theorem sh_two {n N : Nat} (hn6 : n ≤ 6) (hN : N = 2 ^ n) : wrap64 (2 ^ n) = (N : Int) := by
  subst hN
  have h : 2 ^ n ≤ 64 := Nat.le_trans (Nat.pow_le_pow_right (by decide) hn6) (by decide)
  rw [show ((2 : Int) ^ n) = ((2 ^ n : Nat) : Int) from (Int.natCast_pow 2 n).symm]
  generalize 2 ^ n = m at *
  unfold wrap64; omega
def powC : Nat → List Int
  | 0 => [1]
  | m + 1 => List.zipWith (· - ·) (0 :: powC m) (powC m ++ [0])
theorem powC_len : ∀ m, (powC m).length = m + 1
  | 0 => rfl
  | m + 1 => by rw [powC, List.length_zipWith, List.length_cons, List.length_append, powC_len m]; simp
def addTo (old f : List Int) (j : Nat) : List Int := (List.range old.length).map fun i => if i < j then old.getD i 0 + f.getD i 0 else old.getD i 0
theorem addTo_len (old f : List Int) (j : Nat) : (addTo old f j).length = old.length := by simp [addTo]
theorem addTo_zero (old f : List Int) : addTo old f 0 = old := by
  refine List.ext_getElem (by simp [addTo]) (fun i h1 h2 => ?_)
  simp [addTo, List.getD_eq_getElem?_getD, List.getElem?_eq_getElem h2]
theorem addTo_at (old f : List Int) (j : Nat) (hj : j < old.length) : (addTo old f j).getD j 0 = old.getD j 0 := by
  rw [List.getD_eq_getElem?_getD, List.getElem?_eq_getElem (by rw [addTo_len]; exact hj)]
  simp [addTo]
theorem addTo_succ (old f : List Int) (j : Nat) (_hj : j < old.length) : (addTo old f j).set j (old.getD j 0 + f.getD j 0) = addTo old f (j + 1) := by
  refine List.ext_getElem (by simp [addTo]) (fun i h1 h2 => ?_)
  rw [List.getElem_set]
  split
  · next e => subst e; simp [addTo]
  · next e =>
    simp only [addTo, List.getElem_map, List.getElem_range]
    by_cases h : i < j
    · rw [if_pos h, if_pos (by omega)]
    · rw [if_neg h, if_neg (by omega)]
def rkC (rs : List (List Int)) : Nat := (redAt (fun i => rs.getD i []) ((List.range rs.length).map fun i => (i, 0)) rs.length).2.length
def inSet (s n : Nat) (x : Int) : Bool := (ints (setTo s n)).contains x
def innerOf (l0 : List Int) (s n : Nat) : List Int := nrm (l0.filter (inSet s n))
def coOf (l0 : List Int) (s n : Nat) : Nat := (setTo s n).length - rkC (rowsOf (innerOf l0 s n))
def polyTo (l0 : List Int) (n : Nat) : Nat → List Int
  | 0 => List.replicate (n + 1) 0
  | s + 1 => addTo (polyTo l0 n s) (powC (coOf l0 s n)) (coOf l0 s n + 1)
def interlaceV (l0 : List Int) : List Int := polyTo l0 (l0.length / 2) (2 ^ (l0.length / 2))
theorem polyTo_len (l0 : List Int) (n : Nat) : ∀ s, (polyTo l0 n s).length = n + 1
  | 0 => List.length_replicate
  | s + 1 => by rw [polyTo, addTo_len, polyTo_len l0 n s]
theorem powC_small : ∀ m, m ≤ 6 → ∀ i, -64 ≤ (powC m).getD i 0 ∧ (powC m).getD i 0 ≤ 64 := by
  intro m hm i
  have key : ∀ l : List Int, (l.all fun x => decide (-64 ≤ x) && decide (x ≤ 64)) = true → -64 ≤ l.getD i 0 ∧ l.getD i 0 ≤ 64 := by
    intro l hl
    rcases Nat.lt_or_ge i l.length with h | h
    · have := List.all_eq_true.1 hl _ (List.getElem_mem h)
      rw [List.getD_eq_getElem?_getD, List.getElem?_eq_getElem h]
      simpa using this
    · rw [List.getD_eq_getElem?_getD, List.getElem?_eq_none h]; simp
  have : m = 0 ∨ m = 1 ∨ m = 2 ∨ m = 3 ∨ m = 4 ∨ m = 5 ∨ m = 6 := by omega
  rcases this with rfl | rfl | rfl | rfl | rfl | rfl | rfl <;> exact key _ (by decide)
theorem addTo_get (old f : List Int) (j i : Nat) : (addTo old f j).getD i 0 = old.getD i 0 ∨ (addTo old f j).getD i 0 = old.getD i 0 + f.getD i 0 := by
  rcases Nat.lt_or_ge i old.length with h | h
  · rw [List.getD_eq_getElem?_getD, List.getElem?_eq_getElem (by rw [addTo_len]; exact h)]
    simp only [addTo, List.getElem_map, List.getElem_range, Option.getD_some]
    split
    · exact .inr rfl
    · exact .inl rfl
  · rw [List.getD_eq_getElem?_getD, List.getElem?_eq_none (by rw [addTo_len]; exact h), List.getD_eq_getElem?_getD (l := old), List.getElem?_eq_none h]; exact .inl rfl
theorem polyTo_small (l0 : List Int) (n : Nat) (hn : ∀ s, coOf l0 s n ≤ 6) : ∀ (s i : Nat), -(64 * (s : Int)) ≤ (polyTo l0 n s).getD i 0 ∧ (polyTo l0 n s).getD i 0 ≤ 64 * (s : Int)
  | 0, i => by
    rw [polyTo, List.getD_eq_getElem?_getD, List.getElem?_replicate]
    split <;> simp
  | s + 1, i => by
    have ih := polyTo_small l0 n hn s i
    have h2 := powC_small _ (hn s) i
    rw [polyTo]
    rcases addTo_get (polyTo l0 n s) (powC (coOf l0 s n)) (coOf l0 s n + 1) i with e | e <;> rw [e] <;> omega
theorem rkC_rank {rs : List (List Int)} {n : Nat} (hb : ∀ q ∈ rs, Bits q ∧ q.length = n) (hn : n ≤ 1000) : IsRank rs (rkC rs) ∧ rkC rs ≤ rs.length := by
  obtain ⟨bs, hbs⟩ : ∃ bs, bs = (List.range rs.length).map fun i => ((i, 0) : Nat × Nat) := ⟨_, rfl⟩
  have hlen : bs.length = rs.length := by rw [hbs, List.length_map, List.length_range]
  have hnd : (bs.map Prod.fst).Nodup := by
    rw [hbs, List.map_map, show (Prod.fst ∘ fun i => ((i, 0) : Nat × Nat)) = id from rfl, List.map_id]
    exact List.nodup_range
  have hmap : (bs.map fun p => rs.getD p.1 []) = rs := by
    rw [hbs, List.map_map]
    refine List.ext_getElem (by rw [List.length_map, List.length_range]) (fun i h1 h2 => ?_)
    rw [List.getElem_map, List.getElem_range]
    show rs.getD i [] = _
    rw [List.getD_eq_getElem?_getD, List.getElem?_eq_getElem h2]; rfl
  have h := red_ok (n := n) (F := fun i => rs.getD i []) hnd hn (fun p hp => by
    have hm : (fun p : Nat × Nat => rs.getD p.1 []) p ∈ bs.map (fun p => rs.getD p.1 []) := List.mem_map.2 ⟨p, hp, rfl⟩
    rw [hmap] at hm
    exact hb _ hm)
  rw [hmap, hlen] at h
  unfold rkC
  rw [← hbs]
  exact ⟨h.2, (redAt_sub _ bs rs.length (by omega)).2⟩
theorem inSet_mem (s n : Nat) (x : Int) : inSet s n x = true ↔ x ∈ ints (setTo s n) := by unfold inSet; rw [List.contains_iff_mem]
theorem inner_ok {l0 : List Int} (hw : Word l0) {n : Nat} (hn : n = l0.length / 2) (s : Nat) : Word (innerOf l0 s n) ∧ (innerOf l0 s n).length = 2 * (setTo s n).length := by
  have hle := hw.le
  refine ⟨word_of_two (Nat.le_trans (List.length_filter_le _ _) hle) (some_two hw _), ?_⟩
  unfold innerOf
  rw [nrm_len, some_len hw (inSet s n) (ints (setTo s n)) ?_ (fun x => ?_), ints_len]
  · unfold ints setTo
    refine List.pairwise_map.2 (List.Pairwise.imp ?_ (List.Pairwise.filter _ List.nodup_range))
    intro a b hab e; exact hab (by omega)
  · rw [← inSet_mem s n x]
    refine ⟨fun h => ⟨?_, h⟩, fun h => h.2⟩
    have h' := (inSet_mem s n x).1 h
    unfold ints setTo at h'
    obtain ⟨i, hi, rfl⟩ := List.mem_map.1 h'
    exact (hw.mem _).2 ⟨i, by rw [← hn]; exact List.mem_range.1 (List.mem_filter.1 hi).1, rfl⟩
theorem rows_bits (w : List Int) : ∀ q ∈ rowsOf w, Bits q ∧ q.length = w.length / 2 := by
  intro q hq
  unfold rowsOf rowsTo at hq
  obtain ⟨i, _, rfl⟩ := List.mem_map.1 hq
  refine ⟨fun x hx => ?_, by simp [rowTo]⟩
  unfold rowTo at hx
  obtain ⟨j, _, rfl⟩ := List.mem_map.1 hx
  unfold ent
  split
  · exact .inr rfl
  · exact .inl rfl
theorem rows_length (w : List Int) : (rowsOf w).length = w.length / 2 := by simp [rowsOf, rowsTo]
theorem co_ok {l0 : List Int} (hw : Word l0) {n : Nat} (hn : n = l0.length / 2) (s : Nat) : ((ints (setTo s n)).length : Int) - (rkC (rowsOf (innerOf l0 s n)) : Int) = (coOf l0 s n : Int) ∧ coOf l0 s n ≤ n ∧ n ≤ 6 := by
  have hle := hw.le
  obtain ⟨h1, h2⟩ := inner_ok hw hn s
  have h3 := (rkC_rank (rows_bits (innerOf l0 s n)) (by have := h1.le; omega)).2
  rw [rows_length, h2] at h3
  have h4 := setTo_le s n
  rw [ints_len]
  unfold coOf
  refine ⟨by omega, by omega, by omega⟩
end Go.Proofs.Ytcnekpdoldljgaa.F
end
section
namespace Go.Proofs.Ytcnekpdoldljgaa.Pure
open Go.RowKit Go.Proofs.Ytcnekpdoldljgaa.F Go.Proofs.Ytcnekpdoldljgaa.Mem Go.Proofs.Ytcnekpdoldljgaa.Red Go.Proofs.YtcnekpdoldljgaaW.PrintWords Go.Proofs.YtcnekpdoldljgaaW.PrintLast
def nxtTo (p : List Int) : Nat → List Int
  | 0 => List.replicate (p.length + 1) 0
  | j + 1 => ((nxtTo p j).set j (wrap64 ((nxtTo p j).getD j 0 - p.getD j 0))).set (j + 1) (wrap64 (((nxtTo p j).set j (wrap64 ((nxtTo p j).getD j 0 - p.getD j 0))).getD (j + 1) 0 + p.getD j 0))
theorem nxtTo_len (p : List Int) : ∀ j, (nxtTo p j).length = p.length + 1
  | 0 => List.length_replicate
  | j + 1 => by rw [nxtTo, List.length_set, List.length_set, nxtTo_len p j]
theorem nxt_powC : ∀ m, m < 6 → nxtTo (powC m) (m + 1) = powC (m + 1)
  | 0, _ => by kernel_rfl
  | 1, _ => by kernel_rfl
  | 2, _ => by kernel_rfl
  | 3, _ => by kernel_rfl
  | 4, _ => by kernel_rfl
  | 5, _ => by kernel_rfl
theorem some_ev (w : List Int) (keep : List Bool) (hl : w.length ≤ 12) (hv : ∀ x ∈ w, 0 ≤ x ∧ x < (keep.length : Int)) : Ev (fun k => spec_l01Some.f k w keep) (nrm (w.filter fun x => rdOf false keep x)) := by
  have key : ∀ d i, i + d = w.length → Ev (fun k => spec_l01Some.l0 k w keep ((w.take i).filter fun x => rdOf false keep x) (i : Int)) (nrm (w.filter fun x => rdOf false keep x)) := by
    intro d
    induction d with
    | zero =>
      intro i hi
      refine Ev_succ ?_
      simp only [spec_l01Some.l0]
      refine Ev.congr (fun k => if_neg (by omega)) ?_
      rw [List.take_of_length_le (by omega)]
      exact Ev.bind (normal_ev _ (by have := List.length_filter_le (fun x => rdOf false keep x) w; omega)) (Ev.now _)
    | succ d ih =>
      intro i hi
      have hlt : i < w.length := by omega
      have h := ih (i + 1) (by omega)
      have hg : w.getD i 0 = w[i] := by rw [List.getD_eq_getElem?_getD, List.getElem?_eq_getElem hlt]; rfl
      have hx := hv _ (List.getElem_mem hlt)
      rw [List.take_succ_eq_append_getElem hlt, List.filter_append] at h
      rw [← hg] at hx h
      refine Ev_succ ?_
      simp only [spec_l01Some.l0]
      rw [rdN]
      refine Ev.congr (fun k => if_pos (by omega)) (Ev.congr (fun k => if_pos (by omega)) (Ev.congr (fun k => if_pos hx.1) (Ev.congr (fun k => if_pos hx.2) ?_)))
      have hfl := List.length_filter_le (fun x => rdOf false keep x) (w.take i)
      rw [List.length_take] at hfl
      rw [wS (by omega)]
      by_cases hk : rdOf false keep (w.getD i 0) = true
      · rw [List.filter_cons_of_pos (by simpa using hk), List.filter_nil] at h
        exact Ev.congr (fun k => if_pos hk) (Ev.congr (fun k => if_pos (by omega)) h)
      · rw [List.filter_cons_of_neg (by simpa using hk), List.filter_nil, List.append_nil] at h
        exact Ev.congr (fun k => if_neg hk) h
  unfold spec_l01Some.f
  exact key w.length 0 (by omega)
def keepTo (s n i : Nat) : List Bool := (List.range n).map fun j => decide (j < i) && s.testBit j
theorem keepTo_len (s n i : Nat) : (keepTo s n i).length = n := by simp [keepTo]
theorem keepTo_succ (s n i : Nat) : (keepTo s n i).set i (s.testBit i) = keepTo s n (i + 1) := by
  refine List.ext_getElem (by simp [keepTo]) (fun j h1 h2 => ?_)
  rw [List.getElem_set]
  simp only [keepTo, List.getElem_map, List.getElem_range]
  by_cases h : i = j
  · subst h; simp
  · rw [if_neg h]
    congr 1
    exact decide_eq_decide.2 (by omega)
theorem keepTo_at (s n i j : Nat) (hj : j < n) : (keepTo s n i).getD j false = (decide (j < i) && s.testBit j) := by
  rw [List.getD_eq_getElem?_getD, List.getElem?_eq_getElem (by rw [keepTo_len]; exact hj)]
  simp [keepTo]
theorem set_ev (w : List Int) (hw : Word w) (n : Nat) (hn : n = w.length / 2) (s : Nat) (hs : s < 64) : Ev (fun k => spec_l10Set.f k w (s : Int)) (innerOf w s n, ((setTo s n).length : Int)) := by
  have hle := hw.le
  have key : ∀ d i, i + d = n → Ev (fun k => spec_l10Set.l0 k w (s : Int) (keepTo s n i) ((setTo s i).length : Int) (i : Int)) (innerOf w s n, ((setTo s n).length : Int)) := by
    intro d
    induction d with
    | zero =>
      intro i hi
      obtain rfl : i = n := by omega
      refine Ev_succ ?_
      simp only [spec_l10Set.l0]
      refine Ev.congr (fun k => if_neg (by rw [keepTo_len]; omega)) ?_
      have h := some_ev w (keepTo s i i) hle (fun x hx => by
        obtain ⟨j, hj, rfl⟩ := (hw.mem x).1 hx
        rw [keepTo_len]; omega)
      have e : (w.filter fun x => rdOf false (keepTo s i i) x) = w.filter (inSet s i) := List.filter_congr (fun x hx => by
        obtain ⟨j, hj, rfl⟩ := (hw.mem x).1 hx
        unfold rdOf
        rw [Int.toNat_natCast, keepTo_at s i i j (by omega), decide_eq_true (show j < i by omega), Bool.true_and, Bool.eq_iff_iff, inSet_mem]
        unfold ints setTo
        simp only [List.mem_map, List.mem_filter, List.mem_range]
        exact ⟨fun h => ⟨j, ⟨by omega, h⟩, rfl⟩, fun ⟨m, hm, e⟩ => by rw [show j = m from by omega]; exact hm.2⟩)
      rw [e] at h
      exact Ev.bind h (Ev.now _)
    | succ d ih =>
      intro i hi
      have h := ih (i + 1) (by omega)
      have hsl := setTo_le s i
      rw [← keepTo_succ, setTo_succ] at h
      refine Ev_succ ?_
      simp only [spec_l10Set.l0]
      rw [u64_nat i (by omega), bit_at s i (by omega) (by omega), wS (by omega), wS (by omega), Int.toNat_natCast]
      have eb : ((if s.testBit i = true then (1 : Int) else 0) == 1) = s.testBit i := by cases s.testBit i <;> rfl
      rw [eb]
      refine Ev.congr (fun k => if_pos (by rw [keepTo_len]; omega)) (Ev.congr (fun k => if_pos (by omega)) (Ev.congr (fun k => if_pos (by omega)) ?_))
      have er : rdOf false ((keepTo s n i).set i (s.testBit i)) (i : Int) = s.testBit i := by
        unfold rdOf
        rw [Int.toNat_natCast, keepTo_succ, keepTo_at s n (i + 1) i (by omega), decide_eq_true (show i < i + 1 by omega), Bool.true_and]
      simp only [Option.bind_some]
      rw [er]
      by_cases hb : s.testBit i = true
      · rw [if_pos hb, List.length_append, List.length_singleton] at h
        exact Ev.congr (fun k => if_pos hb) h
      · rw [if_neg hb] at h
        exact Ev.congr (fun k => if_neg hb) h
  have e1 : wrap64 ((w.length : Int) / 2) = (n : Int) := by unfold wrap64; omega
  have h0 := key n 0 (by omega)
  have e2 : keepTo s n 0 = List.replicate n false := by
    refine List.ext_getElem (by simp [keepTo]) (fun j h1 h2 => ?_)
    simp [keepTo]
  rw [e2] at h0
  unfold spec_l10Set.f
  rw [e1, Int.toNat_natCast]
  exact Ev.congr (fun k => if_pos (by omega)) (Ev.congr (fun k => if_pos (by omega)) h0)
end Go.Proofs.Ytcnekpdoldljgaa.Pure
end
section
namespace Go.Proofs.Ytcnekpdoldljgaa.F
open Go.RowKit Go.Proofs.YtcnekpdoldljgaaW.PrintWords Go.Proofs.YtcnekpdoldljgaaW.PrintLast Go.Proofs.YtcnekpdoldljgaaW.PrintMore
attribute [local go_sem] max2_int min2_int max_two min_two max_three min_three max_four min_four   
set_option linter.unusedVariables false
set_option linter.unusedSimpArgs false
open Go.Proofs.Ytcnekpdoldljgaa.Pure Go.Proofs.Ytcnekpdoldljgaa.Mem Go.Proofs.Ytcnekpdoldljgaa.Red Go.Proofs.Ytcnekpdoldljgaa.ORows
def spec_l10Interlace.f (l0 : List Int) : Option (List Int) := if isW l0 = true then some (interlaceV l0) else none
set_option maxHeartbeats 16000000 in
set_option maxRecDepth 100000 in
theorem spec_l10Interlace.calls (A0 : Option Addr) (c0 : Nat) (l0 : List Int) (r : List Int) (w : World) (hr0 : Kd.C (Kd.int .i64) w A0 l0.length l0) (hc0 : l0.length ≤ c0) (h : spec_l10Interlace.f l0 = some r) :
  Calls Try.prog 81 #[.slice A0 l0.length c0] w fun e w' => ∃ v0_ : Value, e = .returned v0_ ∧ Kd.R (Kd.int .i64) 2 w' w.heap.size (fun _ => True) v0_ r ∧ Below w.heap.size w w' := by
 have hf : isW l0 = true ∧ r = interlaceV l0 := by
  unfold spec_l10Interlace.f at h
  by_cases hk : isW l0 = true
  rotate_left
  ·rw [if_neg hk] at h; exact absurd h (by simp)
  rw [if_pos hk] at h; exact ⟨hk, (Option.some.inj h).symm⟩
 have hw := (isW_iff l0).1 hf.1
 have hle := hw.le
 have HW := Aside0.mk hw
 have HRR := Aside0.mk hf.2
 obtain ⟨n, hn⟩ : ∃ n, n = l0.length / 2 := ⟨_, rfl⟩
 have hn6 : n ≤ 6 := by omega
 obtain ⟨N, hN⟩ : ∃ N, N = 2 ^ n := ⟨_, rfl⟩
 have hN2 : N ≤ 64 := by rw [hN]; exact Nat.le_trans (Nat.pow_le_pow_right (by decide) hn6) (by decide)
 have hsh := sh_two hn6 hN
 have hlen : wrap64 ((l0.length : Int) / 2) = (n : Int) := by unfold wrap64; omega
 have hmk := make_ints (P := Try.prog) Try.underlying24 info2 ((n : Int) + 1) (n + 1) (by omega) (by omega)
 have HNN := Aside0.mk hN
 have HN := Aside0.mk hn
 have HR := Aside0.mk hr0
 have HC := Aside0.mk hc0
 have HLE := Aside0.mk hle
 clear hr0 hc0 h hf hw hle hn hN
 go_enter Try.func81, Try.ntmps81
 go_wp2
 obtain ⟨Bo, hBo⟩ : ∃ Bo, Bo = w.heap.size := ⟨_, rfl⟩
 have HBO := Aside0.mk hBo
 rw [← hBo]
 simp only [hlen]
 go_loopw [5] (fun s5 wr => ∃ s : Nat, s5 = .int .i64 (s : Int) ∧ Aside0 (s ≤ N) ∧ Aside0 (Below w.heap.size w wr) ∧ Aside0 (wr.heap[Bo]? = some (.cells (nums .i64 (polyTo l0 n s)).toArray 2 (0, 0))))
  (fun s5 _ => N - (intOf s5).toNat)
 case atStart => exact ⟨0, rfl, ⟨Nat.zero_le _⟩, ⟨below_alloc (Below.refl _ _) _⟩, ⟨new_at hBo⟩⟩
 case round =>
  obtain ⟨s, rfl, HS, HB, HH⟩ := hrel
  clear hBo
  by_cases hlt : s < N
  rotate_left
  ·have t1 : decide ((s : Int) < (N : Int)) = false := decide_eq_false (by omega)
   have t2 : decide (s < N) = false := decide_eq_false hlt
   have HSE := Aside0.mk (show s = N from by have := HS.out; omega)
   clear hlt
   go_wp2_with fail
   go_ret
   refine ⟨_, rfl, ?_, (by first | exact HB.out | (rw [HBO.out]; exact HB.out))⟩
   have h := HH.out
   rw [HSE.out, HNN.out, HN.out] at h
   rw [HRR.out, HN.out]
   have hle := HLE.out
   exact R_of_block (xs := interlaceV l0) h (by unfold interlaceV; rw [polyTo_len]) (by unfold maxLen; omega) (by rw [HBO.out]; exact Nat.le_refl _)
  have t1 : decide ((s : Int) < (N : Int)) = true := decide_eq_true (by omega)
  have t2 : decide (s < N) = true := decide_eq_true hlt
  have HLT := Aside0.mk hlt
  have hs64 : s < 64 := by omega
  obtain ⟨ks, hks⟩ := Ev.rounds (set_ev l0 HW.out n HN.out s hs64)
  obtain ⟨hiw, hil⟩ := inner_ok HW.out HN.out s
  obtain ⟨kr, hkr⟩ := Ev.rounds (srows_ev _ hiw)
  obtain ⟨hco, hcn, _⟩ := co_ok HW.out HN.out s
  have hrank := (rkC_rank (rows_bits (innerOf l0 s n)) (by have := hiw.le; omega)).1
  obtain ⟨inner, hinner⟩ : ∃ inner, innerOf l0 s n = inner := ⟨_, rfl⟩
  obtain ⟨q, hq⟩ : ∃ q, (setTo s n).length = q := ⟨_, rfl⟩
  obtain ⟨m, hm⟩ : ∃ m, coOf l0 s n = m := ⟨_, rfl⟩
  obtain ⟨rk, hrk⟩ : ∃ rk, rkC (rowsOf inner) = rk := ⟨_, rfl⟩
  rw [ints_len, hq, hinner, hrk, hm] at hco
  rw [hm] at hcn
  rw [hinner, hrk] at hrank
  rw [hinner, hq] at hks
  rw [hinner] at hkr hiw
  have hsub : wrap64 ((q : Int) - (rk : Int)) = (m : Int) := by unfold wrap64; omega
  have HSUB := Aside0.mk hsub
  have HKS := Aside0.mk hks
  have HKR := Aside0.mk hkr
  have HIW := Aside0.mk hiw
  have HM := Aside0.mk hm
  have HCN := Aside0.mk hcn
  have HRANK := Aside0.mk hrank
  have hrw : ∀ (W0 W : World) (v : Value), Kd.S (Kd.slice 2 (Kd.int .i64)) 24 W W0.heap.size (fun _ => True) v (rowsOf inner) → Below W0.heap.size W0 W → ∃ A c, v = .slice A (inner.length / 2) c ∧ Calls Try.prog 143 #[.slice A (inner.length / 2) c] W fun e w' => e = .returned (.int .i64 (rk : Int)) ∧ Below W0.heap.size W0 w' := fun W0 W v hS hB =>
   l02Rank_walk (W0 := W0) hS hB (rows_bits inner) (rows_length inner) (by have := HIW.out.le; omega) HRANK.out
  have HRW := Aside0.mk hrw
  clear hks hkr hiw hm hcn hrank hrw hinner hq hrk hil hco hsub
  go_wp2_with (first
   | (go_at_call 142; refine (spec_l10Set.calls ks A0 c0 l0 (s : Int) inner (q : Int) _ (Kd.C_below HR.out HB.out) HC.out HKS.out).mono ?_; rintro e w1 ⟨v1, rfl, ho1, hb1⟩; obtain ⟨A1, c1, rfl⟩ := Kd.R_slice ho1; have HR1 := Aside0.mk ho1; have HB1 := Aside0.mk hb1; clear ho1 hb1)
   | ((with_reducible refine gate_dst (N := 32) rfl ?_); refine Kd.R_lit (Kd.int .i64) (w0 := w1) w1.heap.size 2 ?hg (N := 32) ?hd (xs := ([1] : List Int)) (inner := [.int .i64 1]) (ok := fun _ => True) (okp := fun _ => False) ?hr ?hp (fun _ hk => hk.elim) trivial (Below.refl _ _) (Nat.le_refl _) (by simp) ?_; (case hd => rfl); (case hg => rfl); (case hr => first | (go_simp; done) | (go_simp; rfl)); (case hp => exact ((Reps.none _ _).snoc (p := (1 : Int)) rfl rfl)); intro v3 w3 ho hb hg_ hnew_; have HR3 := Aside0.mk ho; have HB3 := Aside0.mk hb; have HG3 := Aside0.mk hg_; clear ho hb hg_ hnew_)
   | (go_at_call 70; refine (spec_l01Cross.calls kr A1 c1 inner (rowsOf inner) _ (Kd.C_below (Kd.R_reads' HR1.out).2.2 HB3.out) (Kd.R_reads' HR1.out).2.1 HKR.out).mono ?_; rintro e w4 ⟨v4, rfl, hS4, hB4⟩; obtain ⟨A4, c4, rfl, hr4⟩ := HRW.out w3 w4 v4 hS4 hB4; have HR4 := Aside0.mk hr4; clear hS4 hB4 hr4)
   | (go_at_call 143; refine HR4.out.mono ?_; rintro e w5 ⟨rfl, hB5⟩; have HB5 := Aside0.mk hB5; clear hB5))
  have hBO : Bo < wr.heap.size := blk_lt HH.out
  have HH5 := Aside0.mk (show w5.heap[Bo]? = some (.cells (nums .i64 (polyTo l0 n s)).toArray 2 (0, 0)) from
   (HB5.out.block Bo (Nat.lt_of_lt_of_le hBO (Nat.le_trans HB1.out.size HB3.out.size))).trans ((HB3.out.block Bo (Nat.lt_of_lt_of_le hBO HB1.out.size)).trans ((HB1.out.block Bo hBO).trans HH.out)))
  have HB05 := Aside0.mk (below_step (below_step (below_step HB.out HB1.out) HB3.out) HB5.out)
  have HR5 := Aside0.mk (show Kd.R (Kd.int .i64) 2 w5 w.heap.size (fun k => k ≠ Bo) v3 (powC 0) from Kd.R_lower (Kd.R_below (Kd.R_mono (ok' := fun k => k ≠ Bo) (Kd.R_bound HR3.out) (fun k hk => by have := hk.2.1; have := HB1.out.size; omega)) HB5.out) (Nat.le_trans HB.out.size HB1.out.size))
  have hHS : wrap64 ((q : Int) - (rk : Int)) = (m : Int) := HSUB.out
  simp only [hHS]
  clear hHS hBO HR1 HB1 HR3 HB3 HG3 HR4 HB5 HRW HRANK HKS HKR HIW HH HB
  have hm6 : m ≤ 6 := by have := HCN.out; omega
  go_loopw [9, 8] (fun s9 s8 wr => ∃ j d : Nat, s9 = .int .i64 (d : Int) ∧ Aside0 (j + d = m) ∧ Aside0 (Below w.heap.size w wr) ∧ Aside0 (wr.heap[Bo]? = some (.cells (nums .i64 (polyTo l0 n s)).toArray 2 (0, 0))) ∧ Aside0 (Kd.R (Kd.int .i64) 2 wr w.heap.size (fun k => k ≠ Bo) s8 (powC j)))
   (fun s9 _ _ => (intOf s9).toNat)
  case atStart => exact ⟨0, m, rfl, ⟨Nat.zero_add m⟩, HB05, HH5, HR5⟩
  case round =>
   clear HB05 HH5 HR5
   obtain ⟨j, d, rfl, HJ, HB, HH, HRJ⟩ := hrel
   obtain ⟨A6, c6, rfl⟩ := Kd.R_slice HRJ.out
   have hlenP : (powC j).length = j + 1 := powC_len j
   have hjm : j ≤ m := by have := HJ.out; omega
   have HJM := Aside0.mk hjm
   obtain ⟨Bn, hBn⟩ : ∃ Bn, Bn = wr.heap.size := ⟨_, rfl⟩
   have HBN := Aside0.mk hBn
   have hBO : Bo < wr.heap.size := blk_lt HH.out
   have HBON := Aside0.mk (show Bo < Bn by omega)
   have HF : Aside0 (Kd.F (Kd.int .i64) wr (fun k => k ≠ Bn) A6 (j + 1) (powC j)) := ⟨by
    have h := Kd.R_F (Kd.R_mono (ok' := fun k => k ≠ Bn) (Kd.R_bound HRJ.out) (fun k hk => by have := hk.2.2; omega))
    rw [hlenP] at h; exact h⟩
   have HF2 : Aside0 (Kd.F (Kd.int .i64) wr (fun k => k ≠ Bo) A6 (j + 1) (powC j)) := ⟨by
    have h := Kd.R_F HRJ.out
    rw [hlenP] at h; exact h⟩
   simp only [hlenP]
   obtain ⟨wo, hwo⟩ : ∃ wo, wo = wr := ⟨wr, rfl⟩
   subst hwo
   rcases Nat.eq_zero_or_pos d with hd | hd
   ·subst hd
    have r1 : decide (((0 : Nat) : Int) > 0) = false := by decide
    have r2 : decide (0 < 0) = false := by decide
    have HJE := Aside0.mk (show j = m from by have := HJ.out; omega)
    clear hjm hBO hBn
    go_wp2_with fail
    have hn1 : (polyTo l0 n s).length = n + 1 := polyTo_len _ _ _
    have HOL := Aside0.mk hn1
    have HOB := Aside0.mk (show ∀ i, -1000000 ≤ (polyTo l0 n s).getD i 0 + (powC m).getD i 0 ∧ (polyTo l0 n s).getD i 0 + (powC m).getD i 0 ≤ 1000000 from fun i => by
     have h1 := polyTo_small l0 n (fun s => by have := (co_ok HW.out HN.out s).2.1; omega) s i
     have h2 := powC_small m hm6 i
     omega)
    obtain ⟨old, hold⟩ : ∃ old, polyTo l0 n s = old := ⟨_, rfl⟩
    have HOLD := Aside0.mk hold
    rw [hold] at HH HOL HOB
    have HF3 : Aside0 (Kd.F (Kd.int .i64) wo (fun k => k ≠ Bo) A6 (m + 1) (powC m)) := ⟨by have h := HF2.out; rw [HJE.out] at h; exact h⟩
    simp only [HJE.out]
    clear hn1 hold HRJ HF HF2 hlenP HJM HJ
    go_loopw [12] (fun s12 wq => ∃ x : Nat, s12 = .int .i64 (x : Int) ∧ Aside0 (x ≤ m + 1) ∧ Aside0 (wo.grownBy wq (some Bo)) ∧ Aside0 (wq.heap[Bo]? = some (.cells (nums .i64 (addTo old (powC m) x)).toArray 2 (0, 0))) ∧ Aside0 (Kd.F (Kd.int .i64) wq (fun k => k ≠ Bo) A6 (m + 1) (powC m)))
     (fun s12 _ => m + 1 - (intOf s12).toNat)
    case atStart => exact ⟨0, rfl, ⟨Nat.zero_le _⟩, ⟨grown_refl _ _⟩, ⟨by rw [addTo_zero]; exact HH.out⟩, HF3⟩
    case round =>
     clear HF3 HH
     obtain ⟨x, rfl, HX, HGX, HHX, HFX⟩ := hrel
     by_cases hx : x < m + 1
     rotate_left
     ·have q1 : decide ((x : Int) < ((m + 1 : Nat) : Int)) = false := decide_eq_false (by omega)
      have q2 : decide (x < m + 1) = false := decide_eq_false hx
      have q3 : decide ((x : Int) < (m : Int) + 1) = false := decide_eq_false (by omega)
      have HXE := Aside0.mk (show x = m + 1 from by have := HX.out; omega)
      go_wp2_with fail
      go_roundw
      case rel => exact ⟨s + 1, (by first | exact congrArg _ (wS_g (by omega)) | exact congrArg _ (by omega : (s : Int) + 1 = ((s + 1 : Nat) : Int))), ⟨hlt⟩, ⟨Go.Proofs.Ytcnekpdoldljgaa.Mem.below_grown HB.out HGX.out (by rw [HBO.out]; exact Nat.le_refl _)⟩, ⟨by rw [polyTo, HM.out, HOLD.out, ← HXE.out]; exact HHX.out⟩⟩
      case measure => (try rw [wS_g (by omega)]); simp [intOf]; omega
     have q1 : decide ((x : Int) < ((m + 1 : Nat) : Int)) = true := decide_eq_true (by omega)
     have q2 : decide (x < m + 1) = true := decide_eq_true hx
     have q3 : decide ((x : Int) < (m : Int) + 1) = true := decide_eq_true (by omega)
     have hxn : x < n + 1 := by have := HCN.out; omega
     have q4 : decide ((x : Int) < ((n + 1 : Nat) : Int)) = true := decide_eq_true (by omega)
     have q5 : decide (x < n + 1) = true := decide_eq_true hxn
     have q6 : decide ((x : Int) < (n : Int) + 1) = true := decide_eq_true (by omega)
     obtain ⟨af, eaf, hcf⟩ := cell_of_C (Kd.F_now HFX.out) x hx
     subst eaf
     have hlen2 : (addTo old (powC m) x).length = n + 1 := by rw [addTo_len, HOL.out]
     have hci : wr.cell? ⟨Bo, x, none⟩ = some (.int .i64 (old.getD x 0)) := by
      rw [← addTo_at old (powC m) x (by rw [HOL.out]; exact hxn)]
      have := nums_get (addTo old (powC m) x) x (by rw [hlen2]; exact hxn)
      simpa [World.cell?, HHX.out] using this
     have hfi : wr.frozen? ⟨Bo, x, none⟩ = false := by simp [World.frozen?, HHX.out]
     obtain ⟨y, hy⟩ : ∃ y, (powC m).getD x 0 = y := ⟨_, rfl⟩
     obtain ⟨z, hz⟩ : ∃ z, old.getD x 0 = z := ⟨_, rfl⟩
     have hsum : wrap64 (z + y) = z + y := by have := HOB.out x; rw [hy, hz] at this; unfold wrap64; omega
     have hset := addTo_succ old (powC m) x (by rw [HOL.out]; exact hxn)
     rw [hy] at hcf hset
     rw [hz] at hci hset
     have HSUM := Aside0.mk hsum
     have HSET := Aside0.mk hset
     have hcf' : wr.drew.cell? (af.add x) = some (.int .i64 y) := hcf
     have hci' : wr.drew.cell? ⟨Bo, x, none⟩ = some (.int .i64 z) := hci
     have hfi' : wr.drew.frozen? ⟨Bo, x, none⟩ = false := hfi
     clear hy hz hsum hset hlen2
     go_wp2_with fail
     go_region
     all_goals
      go_wp2_with fail
      go_roundw
      case rel => exact ⟨x + 1, (by first | exact congrArg _ (wS_g (by omega)) | exact congrArg _ (by omega : (x : Int) + 1 = ((x + 1 : Nat) : Int))), ⟨hx⟩, ⟨grown_drewN (grown_set HGX.out x _) 1⟩, ⟨by refine Eq.trans (blk_drewN (blk_set HHX.out x _) 1) ?_; rw [HSUM.out, nums_set, HSET.out]⟩, ⟨Kd.F_drew (Kd.F_far HFX.out (fun k hk => hk) _)⟩⟩
      case measure => (try rw [wS_g (by omega)]); simp [intOf]; omega
   ·obtain ⟨d', rfl⟩ : ∃ d', d = d' + 1 := ⟨d - 1, by omega⟩
    have r1 : decide (((d' + 1 : Nat) : Int) > 0) = true := decide_eq_true (by omega)
    have r2 : decide (0 < d' + 1) = true := decide_eq_true (by omega)
    have r3 : decide ((0 : Int) < (d' : Int) + 1) = true := decide_eq_true (by omega)
    have hj6 : j < 6 := by have := HJ.out; omega
    have HJ6 := Aside0.mk hj6
    have HWD := Aside0.mk (show wrap64 (d' : Int) = (d' : Int) from by have := HJ.out; unfold wrap64; omega)
    have hmk2 := make_ints (P := Try.prog) Try.underlying24 info2 ((j : Int) + 1 + 1) (j + 2) (by omega) (by omega)
    clear hjm hBO hBn
    go_wp2_with fail
    obtain ⟨wa, hwa⟩ : ∃ wa, wo.alloc (.cells (nums .i64 (List.replicate (j + 2) 0)).toArray 2) = wa := ⟨_, rfl⟩
    rw [hwa, ← HBN.out]
    have HHN := Aside0.mk (show wa.heap[Bn]? = some (.cells (nums .i64 (nxtTo (powC j) 0)).toArray 2 (0, 0)) from by rw [← hwa, nxtTo, hlenP]; exact new_at HBN.out)
    have HGA := Aside0.mk (show wo.grownBy wa (some Bn) from by rw [← hwa]; exact grown_alloc (grown_refl _ _) _)
    have HFA := Aside0.mk (show Kd.F (Kd.int .i64) wa (fun k => k ≠ Bn) A6 (j + 1) (powC j) from by rw [← hwa]; exact Kd.F_alloc HF.out _)
    have HNX := Aside0.mk (nxt_powC j hj6)
    clear hwa HF HF2 HRJ hlenP hmk2
    go_loopw [11] (fun s11 wq => ∃ x : Nat, s11 = .int .i64 (x : Int) ∧ Aside0 (x ≤ j + 1) ∧ Aside0 (wo.grownBy wq (some Bn)) ∧ Aside0 (wq.heap[Bn]? = some (.cells (nums .i64 (nxtTo (powC j) x)).toArray 2 (0, 0))) ∧ Aside0 (Kd.F (Kd.int .i64) wq (fun k => k ≠ Bn) A6 (j + 1) (powC j)))
     (fun s11 _ => j + 1 - (intOf s11).toNat)
    case atStart => exact ⟨0, rfl, ⟨Nat.zero_le _⟩, HGA, HHN, HFA⟩
    case round =>
     clear HGA HHN HFA
     obtain ⟨x, rfl, HX, HGX, HHX, HFX⟩ := hrel
     by_cases hx : x < j + 1
     rotate_left
     ·have q1 : decide ((x : Int) < ((j + 1 : Nat) : Int)) = false := decide_eq_false (by omega)
      have q2 : decide (x < j + 1) = false := decide_eq_false hx
      have q3 : decide ((x : Int) < (j : Int) + 1) = false := decide_eq_false (by omega)
      have HXE := Aside0.mk (show x = j + 1 from by have := HX.out; omega)
      go_wp2_with fail
      go_roundw
      case rel => exact ⟨j + 1, d', (by first | rfl | exact congrArg _ HWD.out), ⟨by have := HJ.out; omega⟩, ⟨Go.Proofs.Ytcnekpdoldljgaa.Mem.below_grown HB.out HGX.out (by have := HBN.out; have := HB.out.size; omega)⟩, ⟨(HGX.out.block Bo (by have := HBN.out; have := HBON.out; omega) (fun e => by have := HBON.out; have := Option.some.inj e; omega)).trans HH.out⟩, ⟨Kd.R_mono (ok' := fun k => k ≠ Bo) (R_of_block_ok (m := j + 2) (by have h := HHX.out; rw [HXE.out, HNX.out] at h; exact h) (by rw [powC_len]) (by unfold maxLen; omega) (by have := HBN.out; have := HB.out.size; omega) (fun k => k = Bn) rfl) (fun k hk => by have := HBON.out; omega)⟩⟩
      case measure => (try rw [HWD.out]); simp [intOf]
     have q1 : decide ((x : Int) < ((j + 1 : Nat) : Int)) = true := decide_eq_true (by omega)
     have q2 : decide (x < j + 1) = true := decide_eq_true hx
     have q3 : decide ((x : Int) < (j : Int) + 1) = true := decide_eq_true (by omega)
     have q4 : decide ((x : Int) < ((j + 2 : Nat) : Int)) = true := decide_eq_true (by omega)
     have q5 : decide (x < j + 2) = true := decide_eq_true (by omega)
     have q6 : decide ((x : Int) < (j : Int) + 2) = true := decide_eq_true (by omega)
     have q7 : decide (x + 1 < j + 2) = true := decide_eq_true (by omega)
     have q8 : decide ((x : Int) + 1 < ((j + 2 : Nat) : Int)) = true := decide_eq_true (by omega)
     have q9 : decide ((x : Int) + 1 < (j : Int) + 2) = true := decide_eq_true (by omega)
     have hpl : (powC j).length = j + 1 := powC_len j
     have hnl : (nxtTo (powC j) x).length = j + 2 := by rw [nxtTo_len, hpl]
     obtain ⟨af, eaf, hcf⟩ := cell_of_C (Kd.F_now HFX.out) x hx
     subst eaf
     obtain ⟨y, hy⟩ : ∃ y, (powC j).getD x 0 = y := ⟨_, rfl⟩
     obtain ⟨old, hold⟩ : ∃ old, nxtTo (powC j) x = old := ⟨_, rfl⟩
     have hS : nxtTo (powC j) (x + 1) = (old.set x (wrap64 (old.getD x 0 - y))).set (x + 1) (wrap64 ((old.set x (wrap64 (old.getD x 0 - y))).getD (x + 1) 0 + y)) := by rw [nxtTo, hold, hy]
     rw [hold] at hnl HHX
     obtain ⟨z, hz⟩ : ∃ z, old.getD x 0 = z := ⟨_, rfl⟩
     obtain ⟨z2, hz2⟩ : ∃ z2, wrap64 (z - y) = z2 := ⟨_, rfl⟩
     rw [hz, hz2] at hS
     obtain ⟨mid, hmid⟩ : ∃ mid, old.set x z2 = mid := ⟨_, rfl⟩
     have hml : mid.length = j + 2 := by rw [← hmid, List.length_set, hnl]
     rw [hmid] at hS
     obtain ⟨z3, hz3⟩ : ∃ z3, mid.getD (x + 1) 0 = z3 := ⟨_, rfl⟩
     rw [hz3] at hS
     have hci : wr.drew.cell? ⟨Bn, x, none⟩ = some (.int .i64 z) := by
      rw [← hz]
      have h1 := nums_get old x (by rw [hnl]; omega)
      have h2 : wr.cell? ⟨Bn, x, none⟩ = some (.int .i64 (old.getD x 0)) := by simpa [World.cell?, HHX.out] using h1
      exact h2
     have hfi : wr.drew.frozen? ⟨Bn, x, none⟩ = false := blk_frozen (blk_drewN HHX.out 1) x
     rw [hy] at hcf
     have hcf' : wr.drew.cell? (af.add x) = some (.int .i64 y) := hcf
     have HZ2 := Aside0.mk hz2
     have HS1 := Aside0.mk hS
     have HHM : Aside0 ((wr.drew.setCell ⟨Bn, x, none⟩ (.int .i64 z2)).heap[Bn]? = some (.cells (nums .i64 mid).toArray 2 (0, 0))) := ⟨by refine Eq.trans (blk_set (blk_drewN HHX.out 1) x _) ?_; rw [nums_set, hmid]⟩
     have HFM : Aside0 (Kd.F (Kd.int .i64) (wr.drew.setCell ⟨Bn, x, none⟩ (.int .i64 z2)) (fun k => k ≠ Bn) (some af) (j + 1) (powC j)) := ⟨Kd.F_far (Kd.F_drew HFX.out) (fun k hk => hk) _⟩
     have HGM : Aside0 (wo.grownBy (wr.drew.setCell ⟨Bn, x, none⟩ (.int .i64 z2)) (some Bn)) := ⟨grown_set (grown_drewN HGX.out 1) x _⟩
     have HML := Aside0.mk hml
     have HY := Aside0.mk hy
     have HZ3 := Aside0.mk hz3
     clear hz hz2 hmid hS hold hnl hml hpl hy hz3
     go_wp2_with fail
     go_region
     all_goals
      go_wp2_with fail
      simp only [HZ2.out]
      obtain ⟨wm, hwm⟩ : ∃ wm, (wr.setCell ⟨Bn, x, none⟩ (.int .i64 z2)).drew = wm := ⟨_, rfl⟩
      rw [hwm]
      have HHM2 := Aside0.mk (show wm.heap[Bn]? = some (.cells (nums .i64 mid).toArray 2 (0, 0)) from by rw [← hwm]; exact HHM.out)
      have HGM2 := Aside0.mk (show wo.grownBy wm (some Bn) from by rw [← hwm]; exact grown_drewN (grown_set HGX.out x _) 1)
      have HFM2 := Aside0.mk (show Kd.F (Kd.int .i64) wm (fun k => k ≠ Bn) (some af) (j + 1) (powC j) from by rw [← hwm]; exact Kd.F_drew (Kd.F_far HFX.out (fun k hk => hk) _))
      clear hwm hci hfi hcf' hcf HHM HFM HGM HFX HHX HGX
      obtain ⟨af2, eaf2, hcf2⟩ := cell_of_C (Kd.F_now HFM2.out) x hx
      cases eaf2
      rw [HY.out] at hcf2
      have hci2 : wm.drew.cell? ⟨Bn, x + 1, none⟩ = some (.int .i64 z3) := by
       rw [← HZ3.out]
       have h1 := nums_get mid (x + 1) (by rw [HML.out]; omega)
       have h2 : wm.cell? ⟨Bn, x + 1, none⟩ = some (.int .i64 (mid.getD (x + 1) 0)) := by simpa [World.cell?, HHM2.out] using h1
       exact h2
      have hfi2 : wm.drew.frozen? ⟨Bn, x + 1, none⟩ = false := blk_frozen (blk_drewN HHM2.out 1) (x + 1)
      have hcf3 : wm.drew.cell? (af.add x) = some (.int .i64 y) := hcf2
      go_wp2_with fail
      go_region
      all_goals
       go_wp2_with fail
       go_roundw
       case rel => exact ⟨x + 1, (by first | exact congrArg _ (wS_g (by omega)) | exact congrArg _ (by omega : (x : Int) + 1 = ((x + 1 : Nat) : Int))), ⟨hx⟩, ⟨grown_drewN (grown_set HGM2.out (x + 1) _) 1⟩, ⟨by refine Eq.trans (blk_drewN (blk_set HHM2.out (x + 1) _) 1) ?_; rw [nums_set, HS1.out]⟩, ⟨Kd.F_drew (Kd.F_far HFM2.out (fun k hk => hk) _)⟩⟩
       case measure => (try rw [wS_g (by omega)]); simp [intOf]; omega
end Go.Proofs.Ytcnekpdoldljgaa.F
end
section
namespace Go.Proofs.Ytcnekpdoldljgaa.F
open Go.RowKit Go.Proofs.YtcnekpdoldljgaaW.PrintWords Go.Proofs.YtcnekpdoldljgaaW.PrintLast Go.Proofs.YtcnekpdoldljgaaW.PrintMore
attribute [local go_sem] max2_int min2_int max_two min_two max_three min_three max_four min_four   
set_option linter.unusedVariables false
set_option linter.unusedSimpArgs false
def spec_l10Value.l0 : Nat → List Int → Int → Int → Int → Option (Int)
  | 0, _, _, _, _ => none
  | k + 1, x0, x1, x5, x6 => if x6 ≥ 0 then (if 0 ≤ x6 then (if x6 < (x0.length : Int) then (spec_l10Value.l0 k x0 x1 (wrap64 ((wrap64 (x5 * x1)) + (rd x0 x6))) (wrap64 (x6 - 1))) else (none)) else (none)) else (some x5)
def spec_l10Value.f (k : Nat) (l0 : List Int) (a1 : Int) : Option (Int) := spec_l10Value.l0 k l0 a1 0 (wrap64 ((l0.length : Int) - 1))
theorem spec_l10Value.mono_l : ∀ k, (∀ y0 y1 y2 y3, LeO (spec_l10Value.l0 k y0 y1 y2 y3) (spec_l10Value.l0 (k + 1) y0 y1 y2 y3))
  | 0 => fun _ _ _ _ r h => by simp [spec_l10Value.l0] at h
  | k + 1 => by
    have ih0 := spec_l10Value.mono_l k
    · intro y0 y1 y2 y3
      unfold spec_l10Value.l0
      repeat' first
      | (with_reducible exact ih0 _ _ _ _)
      | (with_reducible exact LeO.refl _)
      | (with_reducible exact LeO.none _)
      | (with_reducible refine LeO.ite ?_ ?_)
      | (with_reducible refine LeO.bind ?_ (fun _ => ?_))
      | exact ih0 _ _ _ _
      | exact LeO.none _
      | refine LeO.ite ?_ ?_
      | refine LeO.bind ?_ (fun _ => ?_)
theorem spec_l10Value.mono : ∀ a0 a1 k, LeO (spec_l10Value.f k a0 a1) (spec_l10Value.f (k + 1) a0 a1) := by
  intro a0 a1 k
  have ih0 := spec_l10Value.mono_l k
  unfold spec_l10Value.f
  repeat' first
      | (with_reducible exact ih0 _ _ _ _)
      | (with_reducible exact LeO.refl _)
      | (with_reducible exact LeO.none _)
      | (with_reducible refine LeO.ite ?_ ?_)
      | (with_reducible refine LeO.bind ?_ (fun _ => ?_))
      | exact ih0 _ _ _ _
      | exact LeO.none _
      | refine LeO.ite ?_ ?_
      | refine LeO.bind ?_ (fun _ => ?_)
set_option maxHeartbeats 8000000 in
set_option maxRecDepth 100000 in
theorem spec_l10Value.calls (k : Nat) (A0 : Option Addr) (c0 : Nat) (l0 : List Int) (a1 : Int) (r : Int) (w : World) (hr0 : Kd.C (Kd.int .i64) w A0 l0.length l0) (hc0 : l0.length ≤ c0) (h : spec_l10Value.f k l0 a1 = some r) :
    Calls Try.prog 83 #[.slice A0 l0.length c0, .int .i64 a1] w fun e w' => e = .returned (.int .i64 r) ∧ Drawn0 w w' := by
  have HR0 := Aside0.mk hr0
  have HC0 := Aside0.mk hc0
  clear hr0 hc0
  have H : (spec_l10Value.l0 k l0 a1 0 (wrap64 ((l0.length : Int) - 1))) = some r := h
  clear h
  have H' := Aside0.mk H
  clear H
  go_enter Try.func83, Try.ntmps83
  go_wp2
  go_loopg [5, 6] k (fun kq v5 v6 w' => ∃ (x5_1 : Int) (x6_1 : Int), v5 = .int .i64 x5_1 ∧ v6 = .int .i64 x6_1 ∧ Aside0 (spec_l10Value.l0 kq l0 a1 x5_1 x6_1 = some r) ∧ Aside0 (kq ≤ k) ∧ Drawn0 w w')
  case atStart => exact ⟨(0), (wrap64 ((l0.length : Int) - 1)), (by first | rfl | (simp; done) | (simp [*]; done)), (by first | rfl | (simp; done) | (simp [*]; done)), H', ⟨Nat.le_refl _⟩, by repeat (first | exact Drawn0.refl _ | apply Drawn0.step)⟩
  case round =>
    clear H'
    try clear p2
    obtain ⟨x5_1, x6_1, rfl, rfl, HA, HK1, ⟨m1, rfl⟩⟩ := hrel
    cases gk with
    | zero => exact absurd HA.out (by simp [spec_l10Value.l0])
    | succ k1 =>
      have H := HA.out
      clear HA
      simp only [spec_l10Value.l0] at H
      by_cases c3 : x6_1 ≥ 0
      rotate_left
      · rw [if_neg c3] at H
        have c3b0 : decide (0 ≤ x6_1) = false := decide_eq_false c3
        clear c3
        obtain rfl := Option.some.inj H
        go_wp2
        go_ret
        exact ⟨by first | rfl | (simp; done) | (simp [*]; done), by repeat (first | exact Drawn0.refl _ | apply Drawn0.step)⟩
      rw [if_pos c3] at H
      have c3b0 : decide (0 ≤ x6_1) = true := decide_eq_true c3
      clear c3
      by_cases c4 : 0 ≤ x6_1
      rotate_left
      · rw [if_neg c4] at H
        exact absurd H (by simp)
      rw [if_pos c4] at H
      have c4b0 : decide (0 ≤ x6_1) = true := decide_eq_true c4
      clear c4
      by_cases c5 : x6_1 < (l0.length : Int)
      rotate_left
      · rw [if_neg c5] at H
        exact absurd H (by simp)
      rw [if_pos c5] at H
      have c5b0 : decide (x6_1 < (l0.length : Int)) = true := decide_eq_true c5
      clear c5
      have H' := Aside0.mk H
      clear H
      have p831001 : 0 ≤ (x6_1 : Int) := of_decide_eq_true (by first | (with_reducible assumption) | assumption)
      have q831001 : x6_1 < (l0.length : Int) := of_decide_eq_true (by first | (with_reducible assumption) | assumption)
      obtain ⟨ad831001, e831001, hx831001_0⟩ := Kd.at_int HR0.out x6_1 p831001 q831001
      cases e831001
      replace p831001 := eq_true p831001
      replace q831001 := eq_true q831001
      go_wp2
      go_roundg k1
      case measure => have := HK1.out; omega
      case rel => exact ⟨(wrap64 ((wrap64 (x5_1 * a1)) + (rd l0 x6_1))), (wrap64 (x6_1 - 1)), (by first | rfl | (simp; done) | (simp [*]; done)), (by first | rfl | (simp; done) | (simp [*]; done)), H', ⟨by have := HK1.out; omega⟩, by repeat (first | exact Drawn0.refl _ | apply Drawn0.step)⟩
end Go.Proofs.Ytcnekpdoldljgaa.F
end
section
namespace Go.Proofs.Ytcnekpdoldljgaa.F
open Go.RowKit Go.Proofs.YtcnekpdoldljgaaW.PrintWords Go.Proofs.YtcnekpdoldljgaaW.PrintLast Go.Proofs.YtcnekpdoldljgaaW.PrintMore
attribute [local go_sem] max2_int min2_int max_two min_two max_three min_three max_four min_four   
set_option linter.unusedVariables false
set_option linter.unusedSimpArgs false
def spec_ValueOfInterlace.f (k : Nat) (l0 : List Int) (a1 : Int) : Option (Int × Int) := (spec_l01Is.f k l0).bind fun t401001 => (if t401001 = true then ((spec_l01In.f a1 (-100) 100).bind fun t401002 => (if t401002 = true then ((spec_l10Interlace.f l0).bind fun t401003 => ((spec_l10Value.f k t401003 a1).bind fun t401006 => (some (t401006, 0)))) else (some (0, 2)))) else (some (0, 1)))
theorem spec_ValueOfInterlace.mono : ∀ a0 a1 k, LeO (spec_ValueOfInterlace.f k a0 a1) (spec_ValueOfInterlace.f (k + 1) a0 a1) := by
  intro a0 a1 k
  unfold spec_ValueOfInterlace.f
  repeat' first
      | (with_reducible exact spec_l01Is.mono _ _)
      | (with_reducible exact spec_l10Value.mono _ _ _)
      | (with_reducible exact LeO.refl _)
      | (with_reducible exact LeO.none _)
      | (with_reducible refine LeO.ite ?_ ?_)
      | (with_reducible refine LeO.bind ?_ (fun _ => ?_))
      | exact spec_l01Is.mono _ _
      | exact spec_l10Value.mono _ _ _
      | exact LeO.none _
      | refine LeO.ite ?_ ?_
      | refine LeO.bind ?_ (fun _ => ?_)
set_option maxHeartbeats 8000000 in
set_option maxRecDepth 100000 in
theorem spec_ValueOfInterlace.calls (k : Nat) (A0 : Option Addr) (c0 : Nat) (l0 : List Int) (a1 : Int) (r1 : Int) (r2 : Int) (w : World) (hr0 : Kd.C (Kd.int .i64) w A0 l0.length l0) (hc0 : l0.length ≤ c0) (h : spec_ValueOfInterlace.f k l0 a1 = some (r1, r2)) :
    Calls Try.prog 40 #[.slice A0 l0.length c0, .int .i64 a1] w fun e w' => e = .returned (.tuple #[.int .i64 r1, .int .i64 r2]) ∧ Below w.heap.size w w' := by
  have HR0 := Aside0.mk hr0
  have HC0 := Aside0.mk hc0
  clear hr0 hc0
  have HB := Aside0.mk (Below.refl w.heap.size w)
  have H : ((spec_l01Is.f k l0).bind fun t401001 => (if t401001 = true then ((spec_l01In.f a1 (-100) 100).bind fun t401002 => (if t401002 = true then ((spec_l10Interlace.f l0).bind fun t401003 => ((spec_l10Value.f k t401003 a1).bind fun t401006 => (some (t401006, 0)))) else (some (0, 2)))) else (some (0, 1)))) = some (r1, r2) := h
  clear h
  replace H := Option.bind_eq_some_iff.mp H
  obtain ⟨t401001, A30, H⟩ := H
  replace H : (if t401001 = true then ((spec_l01In.f a1 (-100) 100).bind fun t401002 => (if t401002 = true then ((spec_l10Interlace.f l0).bind fun t401003 => ((spec_l10Value.f k t401003 a1).bind fun t401006 => (some (t401006, 0)))) else (some (0, 2)))) else (some (0, 1))) = some (r1, r2) := H
  have A3 := Aside0.mk A30
  clear A30
  by_cases c4 : t401001 = true
  rotate_left
  · replace c4 := Bool.eq_false_iff.mpr c4
    subst c4
    have H1 : (some (0, 1)) = some (r1, r2) := by rw [if_neg (show ¬ (false = true) by decide)] at H; exact H
    clear H
    have H := H1
    clear H1
    simp only [Option.some.injEq, Prod.mk.injEq] at H
    obtain ⟨rfl, rfl⟩ := H
    go_enter Try.func40, Try.ntmps40
    go_wp2_with (first | ((with_reducible refine gate_callee (f := 68) rfl ?_); refine goesL_ (some 8) rfl rfl Try.func68 (by kernel_rfl) rfl #[.slice A0 l0.length c0] rfl (by (try simp only [List.map_toArray, List.map_cons, List.map_nil]); first | done | rfl | (simp only [List.length_drop, List.length_take]; rfl)) ?_; (with_reducible refine (spec_l01Is.calls k _ _ l0 false _ ?side1 ?side2 A3.out).mono ?_); (case side1 => repeat (first | exact HR0.out | (with_reducible refine Kd.C_alloc ?_ _) | (with_reducible refine Kd.C_drewN ?_ _) | (with_reducible refine Kd.C_drew ?_))); (case side2 => exact HC0.out); rintro e w13 ⟨rfl, hb⟩; refine ⟨_, rfl, ?_⟩; have n0_ := Aside0.mk (below_step (by repeat (first | (with_reducible first | exact HB.out | apply below_alloc | apply pw_below_drewN | apply below_drew1) | exact HB.out)) hb); clear HB; have HB := n0_; clear n0_; (try clear hb); (try clear hb2); (try clear hk); (try clear hi)))
    go_ret2
    exact ⟨by first | rfl | (simp [errW_none, errW_some] <;> rfl) | (simp [*, errW_none, errW_some] <;> rfl), by repeat (first | (with_reducible first | exact HB.out | apply below_alloc | apply pw_below_drewN | apply below_drew1) | exact HB.out)⟩
  subst c4
  have H1 : ((spec_l01In.f a1 (-100) 100).bind fun t401002 => (if t401002 = true then ((spec_l10Interlace.f l0).bind fun t401003 => ((spec_l10Value.f k t401003 a1).bind fun t401006 => (some (t401006, 0)))) else (some (0, 2)))) = some (r1, r2) := by rw [if_pos rfl] at H; exact H
  clear H
  have H := H1
  clear H1
  replace H := Option.bind_eq_some_iff.mp H
  obtain ⟨t401002, A50, H⟩ := H
  replace H : (if t401002 = true then ((spec_l10Interlace.f l0).bind fun t401003 => ((spec_l10Value.f k t401003 a1).bind fun t401006 => (some (t401006, 0)))) else (some (0, 2))) = some (r1, r2) := H
  have A5 := Aside0.mk A50
  clear A50
  by_cases c6 : t401002 = true
  rotate_left
  · replace c6 := Bool.eq_false_iff.mpr c6
    subst c6
    have H1 : (some (0, 2)) = some (r1, r2) := by rw [if_neg (show ¬ (false = true) by decide)] at H; exact H
    clear H
    have H := H1
    clear H1
    simp only [Option.some.injEq, Prod.mk.injEq] at H
    obtain ⟨rfl, rfl⟩ := H
    go_enter Try.func40, Try.ntmps40
    go_wp2_with (first | ((with_reducible refine gate_callee (f := 68) rfl ?_); refine goesL_ (some 8) rfl rfl Try.func68 (by kernel_rfl) rfl #[.slice A0 l0.length c0] rfl (by (try simp only [List.map_toArray, List.map_cons, List.map_nil]); first | done | rfl | (simp only [List.length_drop, List.length_take]; rfl)) ?_; (with_reducible refine (spec_l01Is.calls k _ _ l0 true _ ?side1 ?side2 A3.out).mono ?_); (case side1 => repeat (first | exact HR0.out | (with_reducible refine Kd.C_alloc ?_ _) | (with_reducible refine Kd.C_drewN ?_ _) | (with_reducible refine Kd.C_drew ?_))); (case side2 => exact HC0.out); rintro e w12 ⟨rfl, hb⟩; refine ⟨_, rfl, ?_⟩; have n0_ := Aside0.mk (below_step (by repeat (first | (with_reducible first | exact HB.out | apply below_alloc | apply pw_below_drewN | apply below_drew1) | exact HB.out)) hb); clear HB; have HB := n0_; clear n0_; (try clear hb); (try clear hb2); (try clear hk); (try clear hi)) | ((with_reducible refine gate_callee (f := 63) rfl ?_); refine goesL_ (some 12) rfl rfl Try.func63 (by kernel_rfl) rfl #[.int .i64 a1, .int .i64 (-100), .int .i64 100] rfl (by (try simp only [List.map_toArray, List.map_cons, List.map_nil]); first | done | rfl | (simp only [List.length_drop, List.length_take]; rfl)) ?_; (with_reducible refine (spec_l01In.calls a1 (-100) 100 false _ A5.out).mono ?_); rintro e w' ⟨rfl, ⟨nd, rfl⟩⟩; refine ⟨_, rfl, ?_⟩))
    go_ret2
    exact ⟨by first | rfl | (simp [errW_none, errW_some] <;> rfl) | (simp [*, errW_none, errW_some] <;> rfl), by repeat (first | (with_reducible first | exact HB.out | apply below_alloc | apply pw_below_drewN | apply below_drew1) | exact HB.out)⟩
  subst c6
  have H1 : ((spec_l10Interlace.f l0).bind fun t401003 => ((spec_l10Value.f k t401003 a1).bind fun t401006 => (some (t401006, 0)))) = some (r1, r2) := by rw [if_pos rfl] at H; exact H
  clear H
  have H := H1
  clear H1
  replace H := Option.bind_eq_some_iff.mp H
  obtain ⟨t401003, A70, H⟩ := H
  replace H : ((spec_l10Value.f k t401003 a1).bind fun t401006 => (some (t401006, 0))) = some (r1, r2) := H
  have A7 := Aside0.mk A70
  clear A70
  replace H := Option.bind_eq_some_iff.mp H
  obtain ⟨t401006, A80, H⟩ := H
  replace H : (some (t401006, 0)) = some (r1, r2) := H
  have A8 := Aside0.mk A80
  clear A80
  simp only [Option.some.injEq, Prod.mk.injEq] at H
  obtain ⟨rfl, rfl⟩ := H
  go_enter Try.func40, Try.ntmps40
  go_wp2_with (first | ((with_reducible refine gate_callee (f := 68) rfl ?_); refine goesL_ (some 8) rfl rfl Try.func68 (by kernel_rfl) rfl #[.slice A0 l0.length c0] rfl (by (try simp only [List.map_toArray, List.map_cons, List.map_nil]); first | done | rfl | (simp only [List.length_drop, List.length_take]; rfl)) ?_; (with_reducible refine (spec_l01Is.calls k _ _ l0 true _ ?side1 ?side2 A3.out).mono ?_); (case side1 => repeat (first | exact HR0.out | (with_reducible refine Kd.C_alloc ?_ _) | (with_reducible refine Kd.C_drewN ?_ _) | (with_reducible refine Kd.C_drew ?_))); (case side2 => exact HC0.out); rintro e w9 ⟨rfl, hb⟩; refine ⟨_, rfl, ?_⟩; have n0_ := Aside0.mk (below_step (by repeat (first | (with_reducible first | exact HB.out | apply below_alloc | apply pw_below_drewN | apply below_drew1) | exact HB.out)) hb); clear HB; have HB := n0_; clear n0_; (try clear hb); (try clear hb2); (try clear hk); (try clear hi)) | ((with_reducible refine gate_callee (f := 63) rfl ?_); refine goesL_ (some 12) rfl rfl Try.func63 (by kernel_rfl) rfl #[.int .i64 a1, .int .i64 (-100), .int .i64 100] rfl (by (try simp only [List.map_toArray, List.map_cons, List.map_nil]); first | done | rfl | (simp only [List.length_drop, List.length_take]; rfl)) ?_; (with_reducible refine (spec_l01In.calls a1 (-100) 100 true _ A5.out).mono ?_); rintro e w' ⟨rfl, ⟨nd, rfl⟩⟩; refine ⟨_, rfl, ?_⟩) | ((with_reducible refine gate_callee (f := 81) rfl ?_); refine goesL_ (some 15) rfl rfl Try.func81 (by kernel_rfl) rfl #[.slice A0 l0.length c0] rfl (by (try simp only [List.map_toArray, List.map_cons, List.map_nil]); first | done | rfl | (simp only [List.length_drop, List.length_take]; rfl)) ?_; (with_reducible refine (spec_l10Interlace.calls _ _ l0 t401003 _ ?side1 ?side2 A7.out).mono ?_); (case side1 => repeat (first | exact (Kd.C_below HR0.out (by repeat (first | (with_reducible first | exact HB.out | apply below_alloc | apply pw_below_drewN | apply below_drew1) | exact HB.out))) | (with_reducible refine Kd.C_alloc ?_ _) | (with_reducible refine Kd.C_drewN ?_ _) | (with_reducible refine Kd.C_drew ?_))); (case side2 => exact HC0.out); rintro e w10 ⟨v401004, rfl, ho0, hb⟩; refine ⟨_, rfl, ?_⟩; have n0_ := Aside0.mk (Kd.R_lower ho0 (below_size (by repeat (first | (with_reducible first | exact HB.out | apply below_alloc | apply pw_below_drewN | apply below_drew1) | exact HB.out)))); have n1_ := Aside0.mk (below_step (by repeat (first | (with_reducible first | exact HB.out | apply below_alloc | apply pw_below_drewN | apply below_drew1) | exact HB.out)) hb); clear HB; have HO401005 := n0_; have HB := n1_; clear n0_ n1_; (try clear hb); (try clear hb2); (try clear hk); (try clear hi); (try clear ho0); obtain ⟨Ao11, co11, eo11⟩ := Kd.R_slice HO401005.out; subst eo11) | ((with_reducible refine gate_callee (f := 83) rfl ?_); refine goesL_ (some 17) rfl rfl Try.func83 (by kernel_rfl) rfl #[.slice Ao11 t401003.length co11, .int .i64 a1] rfl (by (try simp only [List.map_toArray, List.map_cons, List.map_nil]); first | done | rfl | (simp only [List.length_drop, List.length_take]; rfl)) ?_; (with_reducible refine (spec_l10Value.calls k _ _ t401003 a1 t401006 _ ?side1 ?side2 A8.out).mono ?_); (case side1 => repeat (first | exact (Kd.R_reads' HO401005.out).2.2 | (with_reducible refine Kd.C_alloc ?_ _) | (with_reducible refine Kd.C_drewN ?_ _) | (with_reducible refine Kd.C_drew ?_))); (case side2 => exact (Kd.R_reads' HO401005.out).2.1); rintro e w' ⟨rfl, ⟨nd, rfl⟩⟩; refine ⟨_, rfl, ?_⟩))
  go_ret2
  exact ⟨by first | rfl | (simp [errW_none, errW_some] <;> rfl) | (simp [*, errW_none, errW_some] <;> rfl), by repeat (first | (with_reducible first | exact HB.out | apply below_alloc | apply pw_below_drewN | apply below_drew1) | exact HB.out)⟩
end Go.Proofs.Ytcnekpdoldljgaa.F
end
section
namespace Go.Proofs.Ytcnekpdoldljgaa.F
open Go.RowKit Go.Proofs.YtcnekpdoldljgaaW.PrintWords Go.Proofs.YtcnekpdoldljgaaW.PrintLast Go.Proofs.YtcnekpdoldljgaaW.PrintMore
attribute [local go_sem] max2_int min2_int max_two min_two max_three min_three max_four min_four   
set_option linter.unusedVariables false
set_option linter.unusedSimpArgs false
def slices_Contains_int64_int64.f (k : Nat) (l0 : List Int) (a1 : Int) : Option (Bool) := (slices_Index_int64_int64.f k l0 a1).bind fun t1291001 => (some (decide (t1291001 ≥ 0)))
theorem slices_Contains_int64_int64.mono : ∀ a0 a1 k, LeO (slices_Contains_int64_int64.f k a0 a1) (slices_Contains_int64_int64.f (k + 1) a0 a1) := by
  intro a0 a1 k
  unfold slices_Contains_int64_int64.f
  repeat' first
      | (with_reducible exact slices_Index_int64_int64.mono _ _ _)
      | (with_reducible exact LeO.refl _)
      | (with_reducible exact LeO.none _)
      | (with_reducible refine LeO.ite ?_ ?_)
      | (with_reducible refine LeO.bind ?_ (fun _ => ?_))
      | exact slices_Index_int64_int64.mono _ _ _
      | exact LeO.none _
      | refine LeO.ite ?_ ?_
      | refine LeO.bind ?_ (fun _ => ?_)
set_option maxHeartbeats 8000000 in
set_option maxRecDepth 100000 in
theorem slices_Contains_int64_int64.calls (k : Nat) (A0 : Option Addr) (c0 : Nat) (l0 : List Int) (a1 : Int) (r : Bool) (w : World) (hr0 : Kd.C (Kd.int .i64) w A0 l0.length l0) (hc0 : l0.length ≤ c0) (h : slices_Contains_int64_int64.f k l0 a1 = some r) :
    Calls Try.prog 129 #[.slice A0 l0.length c0, .int .i64 a1] w fun e w' => e = .returned (.bool r) ∧ Drawn0 w w' := by
  have HR0 := Aside0.mk hr0
  have HC0 := Aside0.mk hc0
  clear hr0 hc0
  have H : ((slices_Index_int64_int64.f k l0 a1).bind fun t1291001 => (some (decide (t1291001 ≥ 0)))) = some r := h
  clear h
  replace H := Option.bind_eq_some_iff.mp H
  obtain ⟨t1291001, A30, H⟩ := H
  replace H : (some (decide (t1291001 ≥ 0))) = some r := H
  have A3 := Aside0.mk A30
  clear A30
  obtain rfl := Option.some.inj H
  go_enter Try.func129, Try.ntmps129
  go_wp2_with (first | ((with_reducible refine gate_callee (f := 171) rfl ?_); refine goesL_ (some 7) rfl rfl Try.func171 (by kernel_rfl) rfl #[.slice A0 l0.length c0, .int .i64 a1] rfl (by (try simp only [List.map_toArray, List.map_cons, List.map_nil]); first | done | rfl | (simp only [List.length_drop, List.length_take]; rfl)) ?_; (with_reducible refine (slices_Index_int64_int64.calls k _ _ l0 a1 t1291001 _ ?side1 ?side2 A3.out).mono ?_); (case side1 => repeat (first | exact HR0.out | (with_reducible refine Kd.C_alloc ?_ _) | (with_reducible refine Kd.C_drewN ?_ _) | (with_reducible refine Kd.C_drew ?_))); (case side2 => exact HC0.out); rintro e w' ⟨rfl, ⟨nd, rfl⟩⟩; refine ⟨_, rfl, ?_⟩))
  go_ret
  exact ⟨by first | rfl | (simp; done) | (simp [*]; done), by repeat (first | exact Drawn0.refl _ | apply Drawn0.step)⟩
end Go.Proofs.Ytcnekpdoldljgaa.F
end
section
namespace Go.Proofs.Ytcnekpdoldljgaa.F
section
open Go.RowKit Go.Proofs.YtcnekpdoldljgaaW.PrintWords Go.Proofs.YtcnekpdoldljgaaW.PrintLast Go.Proofs.YtcnekpdoldljgaaW.PrintMore
attribute [local go_sem] max2_int min2_int max_two min_two max_three min_three max_four min_four   
set_option linter.unusedVariables false
set_option linter.unusedSimpArgs false
mutual
def impl_rows.l0 : Nat → List Int → Int → List (List Int) → Int → Int → Option ((List (List Int)))
 | 0, _, _, _, _, _ => none
 | k + 1, x0, x3, x4, x11, x12 => if x12 < x11 then (if 0 ≤ x3 then (if (x3 : Int).toNat ≤ 35184372088832 then (impl_rows.l1 k x0 x3 x4 x12 (List.replicate (x3 : Int).toNat 0) x11 x12 x3 0) else (none)) else (none)) else (some x4)
def impl_rows.l1 : Nat → List Int → Int → List (List Int) → Int → List Int → Int → Int → Int → Int → Option ((List (List Int)))
 | 0, _, _, _, _, _, _, _, _, _ => none
 | k + 1, x0, x3, x4, x5, x6, x11, x12, x17, x18 => if x18 < x17 then ((impl_cross.f k x0 x5 x18).bind fun t711008 => (if t711008 = true then (if 0 ≤ x18 then (if x18 < (x6.length : Int) then (impl_rows.l1 k x0 x3 x4 x5 (x6.set (x18 : Int).toNat 1) x11 x12 x17 (wrap64 (x18 + 1))) else (none)) else (none)) else (impl_rows.l1 k x0 x3 x4 x5 x6 x11 x12 x17 (wrap64 (x18 + 1))))) else (if x4.length < 5864062014805 then (impl_rows.l0 k x0 x3 (x4 ++ [x6]) x11 (wrap64 (x12 + 1))) else (none))
end
def impl_rows.f (k : Nat) (l0 : List Int) : Option ((List (List Int))) := (impl_chords.f l0).bind fun t711001 => (impl_rows.l0 k l0 t711001 (([] : List (List Int))) t711001 0)
theorem impl_rows.mono_l : ∀ k, (∀ y0 y1 y2 y3 y4, LeO (impl_rows.l0 k y0 y1 y2 y3 y4) (impl_rows.l0 (k + 1) y0 y1 y2 y3 y4)) ∧ (∀ y0 y1 y2 y3 y4 y5 y6 y7 y8, LeO (impl_rows.l1 k y0 y1 y2 y3 y4 y5 y6 y7 y8) (impl_rows.l1 (k + 1) y0 y1 y2 y3 y4 y5 y6 y7 y8))
 | 0 => ⟨fun _ _ _ _ _ r h => by simp [impl_rows.l0] at h, fun _ _ _ _ _ _ _ _ _ r h => by simp [impl_rows.l1] at h⟩
 | k + 1 => by
  obtain ⟨ih0, ih1⟩ := impl_rows.mono_l k
  refine ⟨?_, ?_⟩
  ·intro y0 y1 y2 y3 y4
   unfold impl_rows.l0
   repeat' first
   | (with_reducible exact ih0 _ _ _ _ _)
   | (with_reducible exact ih1 _ _ _ _ _ _ _ _ _)
   | (with_reducible exact impl_cross.mono _ _ _ _)
   | (with_reducible exact LeO.refl _)
   | (with_reducible exact LeO.none _)
   | (with_reducible refine LeO.ite ?_ ?_)
   | (with_reducible refine LeO.bind ?_ (fun _ => ?_))
   | exact ih0 _ _ _ _ _
   | exact ih1 _ _ _ _ _ _ _ _ _
   | exact impl_cross.mono _ _ _ _
   | exact LeO.none _
   | refine LeO.ite ?_ ?_
   | refine LeO.bind ?_ (fun _ => ?_)
  ·intro y0 y1 y2 y3 y4 y5 y6 y7 y8
   unfold impl_rows.l1
   repeat' first
   | (with_reducible exact ih0 _ _ _ _ _)
   | (with_reducible exact ih1 _ _ _ _ _ _ _ _ _)
   | (with_reducible exact impl_cross.mono _ _ _ _)
   | (with_reducible exact LeO.refl _)
   | (with_reducible exact LeO.none _)
   | (with_reducible refine LeO.ite ?_ ?_)
   | (with_reducible refine LeO.bind ?_ (fun _ => ?_))
   | exact ih0 _ _ _ _ _
   | exact ih1 _ _ _ _ _ _ _ _ _
   | exact impl_cross.mono _ _ _ _
   | exact LeO.none _
   | refine LeO.ite ?_ ?_
   | refine LeO.bind ?_ (fun _ => ?_)
theorem impl_rows.mono : ∀ a0 k, LeO (impl_rows.f k a0) (impl_rows.f (k + 1) a0) := by
 intro a0 k
 obtain ⟨ih0, ih1⟩ := impl_rows.mono_l k
 unfold impl_rows.f
 repeat' first
   | (with_reducible exact ih0 _ _ _ _ _)
   | (with_reducible exact ih1 _ _ _ _ _ _ _ _ _)
   | (with_reducible exact impl_cross.mono _ _ _ _)
   | (with_reducible exact LeO.refl _)
   | (with_reducible exact LeO.none _)
   | (with_reducible refine LeO.ite ?_ ?_)
   | (with_reducible refine LeO.bind ?_ (fun _ => ?_))
   | exact ih0 _ _ _ _ _
   | exact ih1 _ _ _ _ _ _ _ _ _
   | exact impl_cross.mono _ _ _ _
   | exact LeO.none _
   | refine LeO.ite ?_ ?_
   | refine LeO.bind ?_ (fun _ => ?_)
set_option maxHeartbeats 8000000 in
set_option maxRecDepth 100000 in
theorem impl_rows.calls (k : Nat) (A0 : Option Addr) (c0 : Nat) (l0 : List Int) (r : List (List Int)) (w : World) (hr0 : Kd.C (Kd.int .i64) w A0 l0.length l0) (hc0 : l0.length ≤ c0) (h : impl_rows.f k l0 = some r) :
  Calls Try.prog 71 #[.slice A0 l0.length c0] w fun e w' => ∃ v0_ : Value, e = .returned (v0_) ∧ Kd.S (Kd.slice 2 (Kd.int .i64)) 24 w' w.heap.size (fun _ => True) v0_ r ∧ Below w.heap.size w w' := by
 have HR0 := Aside0.mk hr0
 have HC0 := Aside0.mk hc0
 clear hr0 hc0
 have HB := Aside0.mk (Below.refl w.heap.size w)
 have H : ((impl_chords.f l0).bind fun t711001 => (impl_rows.l0 k l0 t711001 (([] : List (List Int))) t711001 0)) = some r := h
 clear h
 replace H := Option.bind_eq_some_iff.mp H
 obtain ⟨t711001, A20, H⟩ := H
 replace H : (impl_rows.l0 k l0 t711001 (([] : List (List Int))) t711001 0) = some r := H
 have A2 := Aside0.mk A20
 clear A20
 obtain ⟨y711002, hy711002⟩ : ∃ y_ : List (List Int), y_ = (([] : List (List Int))) := ⟨_, rfl⟩
 replace H : (impl_rows.l0 k l0 t711001 y711002 t711001 0) = some r := by first | (rw [hy711002]; with_reducible exact H) | (have H2_ := (Option.bind_some _ _).symm.trans H; rw [hy711002]; with_reducible exact H2_) | (have H2_ := (Option.bind_some _ _).symm.trans H; with_reducible exact H2_) | with_reducible exact H | (rw [hy711002]; exact H) | exact H
 have Ny711002 := Aside0.mk hy711002
 clear hy711002
 have H' := Aside0.mk H
 clear H
 go_enter Try.func71, Try.ntmps71
 go_wp2_with (first | ((with_reducible refine gate_callee (f := 128) rfl ?_); refine goesL_ (some 9) rfl rfl Try.func128 (by kernel_rfl) rfl #[.slice A0 l0.length c0] rfl (by (try simp only [List.map_toArray, List.map_cons, List.map_nil]); first | done | rfl | (simp only [List.length_drop, List.length_take]; rfl)) ?_; (with_reducible refine (impl_chords.calls _ _ l0 t711001 _ ?side1 ?side2 A2.out).mono ?_); (case side1 => repeat (first | exact HR0.out | (with_reducible refine Kd.C_alloc ?_ _) | (with_reducible refine Kd.C_drewN ?_ _) | (with_reducible refine Kd.C_drew ?_))); (case side2 => exact HC0.out); rintro e w' ⟨rfl, ⟨nd, rfl⟩⟩; refine ⟨_, rfl, ?_⟩) | ((with_reducible refine gate_dst (N := 10) rfl ?_); refine Kd.S_lit (Kd.slice 2 (Kd.int .i64)) _ 24 ?hg (N := 10) ?hd (xs := ([] : List (List Int))) (inner := []) (ok := fun _ => True) (okp := fun _ => True) ?hr ?hp (fun _ hk => hk) trivial (Below.refl _ _) (Nat.le_refl _) (by simp) ?_; (case hd => rfl); (case hg => rfl); (case hr => first | (go_simp; done) | (go_simp; rfl)); (case hp => exact (Reps.none _ _)); intro v711003 w3 ho4 hb hg_ hnew_; clear hg_ hnew_; (first | rw [← Ny711002.out] at ho4 | (simp only [Int.reduceToNat] at ho4; rw [← Ny711002.out] at ho4)); have n0_ := Aside0.mk (Kd.S_lower ho4 (below_size (by repeat (first | (with_reducible first | exact HB.out | apply below_alloc | apply pw_below_drewN | apply below_drew1) | exact HB.out)))); have n1_ := Aside0.mk (below_step (by repeat (first | (with_reducible first | exact HB.out | apply below_alloc | apply pw_below_drewN | apply below_drew1) | exact HB.out)) hb); clear HB; have HO711004 := n0_; have HB := n1_; clear n0_ n1_; clear hb ho4))
 go_loopg [4, 12] k (fun kq v4 v12 w' => ∃ (x4_1 : List (List Int)) (x12_1 : Int), v12 = .int .i64 x12_1 ∧ Aside0 (impl_rows.l0 kq l0 t711001 x4_1 t711001 x12_1 = some r) ∧ Aside0 (kq ≤ k) ∧ Aside0 (Kd.S (Kd.slice 2 (Kd.int .i64)) 24 w' w.heap.size (fun _ => True) v4 x4_1) ∧ Aside0 (Below w.heap.size w w'))
 case atStart => exact ⟨(y711002), (0), (by first | rfl | (simp; done) | (simp [*]; done)), H', ⟨Nat.le_refl _⟩, ⟨by (with_reducible repeat (first | apply Kd.S_alloc | apply Kd.S_drewN | apply Kd.S_drew)); exact HO711004.out⟩, ⟨by repeat (first | (with_reducible first | exact HB.out | apply below_alloc | apply pw_below_drewN | apply below_drew1) | exact HB.out)⟩⟩
 case round =>
  clear H'
  try clear c1
  try clear p2
  obtain ⟨x4_1, x12_1, rfl, HA, HK1, HO_4, HB⟩ := hrel
  cases gk with
  | zero => exact absurd HA.out (by simp [impl_rows.l0])
  | succ k1 =>
   have H := HA.out
   clear HA
   simp only [impl_rows.l0] at H
   by_cases c5 : x12_1 < t711001
   rotate_left
   ·rw [if_neg c5] at H
    have c5b0 : decide (x12_1 < t711001) = false := decide_eq_false c5
    clear c5
    obtain rfl := Option.some.inj H
    go_wp2
    go_ret
    exact ⟨_, by first | rfl | (simp [errW_none, errW_some] <;> rfl) | (simp [*, errW_none, errW_some] <;> rfl), by (with_reducible repeat (first | apply Kd.S_alloc | apply Kd.S_drewN | apply Kd.S_drew)); exact HO_4.out, by repeat (first | (with_reducible first | exact HB.out | apply below_alloc | apply pw_below_drewN | apply below_drew1) | exact HB.out)⟩
   rw [if_pos c5] at H
   have c5b0 : decide (x12_1 < t711001) = true := decide_eq_true c5
   clear c5
   by_cases c6 : 0 ≤ t711001
   rotate_left
   ·rw [if_neg c6] at H
    exact absurd H (by simp)
   rw [if_pos c6] at H
   have c6b0 := eq_true c6
   have c6b1 : decide (0 ≤ t711001) = true := decide_eq_true c6
   clear c6
   by_cases c7 : (t711001 : Int).toNat ≤ 35184372088832
   rotate_left
   ·rw [if_neg c7] at H
    exact absurd H (by simp)
   rw [if_pos c7] at H
   have c7b0 := eq_true c7
   have c7b1 : decide ((t711001 : Int).toNat ≤ 35184372088832) = true := decide_eq_true c7
   clear c7
   obtain ⟨y711005, hy711005⟩ : ∃ y_ : List Int, y_ = (List.replicate (t711001 : Int).toNat 0) := ⟨_, rfl⟩
   replace H : (impl_rows.l1 k1 l0 t711001 x4_1 x12_1 y711005 t711001 x12_1 t711001 0) = some r := by first | (rw [hy711005]; with_reducible exact H) | (have H2_ := (Option.bind_some _ _).symm.trans H; rw [hy711005]; with_reducible exact H2_) | (have H2_ := (Option.bind_some _ _).symm.trans H; with_reducible exact H2_) | with_reducible exact H | (rw [hy711005]; exact H) | exact H
   have Ny711005 := Aside0.mk hy711005
   clear hy711005
   have H' := Aside0.mk H
   clear H
   go_wp2_with (first | ((with_reducible refine gate_dst (N := 16) rfl ?_); refine Kd.R_make (Kd.int .i64) _ 2 rfl (N := 16) rfl 24 _ _ rfl t711001 rfl rfl Try.underlying24 (.int .i64 0) 8 info2 rfl (by decide) (by omega) 0 (ok := fun _ => True) (okp := fun _ => True) rfl (fun _ hk => hk) trivial (of_decide_eq_true (by first | (with_reducible assumption) | assumption)) (Nat.le_trans (Nat.mul_le_mul_right _ (of_decide_eq_true (by first | (with_reducible assumption) | assumption) : t711001.toNat ≤ 35184372088832)) (by omega)) (Below.refl _ _) (Nat.le_refl _) ?_; intro v711006 w8 ho9 hb hg_ hnew_; clear hg_ hnew_; (first | rw [← Ny711005.out] at ho9 | (simp only [Int.reduceToNat] at ho9; rw [← Ny711005.out] at ho9)); have n0_ := Aside0.mk (Kd.S_elder' (by (with_reducible repeat (first | apply Kd.S_alloc | apply Kd.S_drewN | apply Kd.S_drew)); exact HO_4.out) (Kd.R_base ho9) hb); have n1_ := Aside0.mk (Kd.R_lower ho9 (below_size (by repeat (first | (with_reducible first | exact HB.out | apply below_alloc | apply pw_below_drewN | apply below_drew1) | exact HB.out)))); have n2_ := Aside0.mk (below_step (by repeat (first | (with_reducible first | exact HB.out | apply below_alloc | apply pw_below_drewN | apply below_drew1) | exact HB.out)) hb); clear HO_4; clear HB; have HO_4 := n0_; have HO711007 := n1_; have HB := n2_; clear n0_ n1_ n2_; clear hb ho9))
   go_loopg [18] k1 (fun kq v18 w' => ∃ (x6_2 : List Int) (x18_2 : Int), v18 = .int .i64 x18_2 ∧ Aside0 (impl_rows.l1 kq l0 t711001 x4_1 x12_1 x6_2 t711001 x12_1 t711001 x18_2 = some r) ∧ Aside0 (kq ≤ k1) ∧ Aside0 (Kd.S (Kd.slice 2 (Kd.int .i64)) 24 w' w.heap.size (fun k_ => some k_ ≠ (v711006 : Value).ownBlock) u4 x4_1) ∧ Aside0 (Kd.R (Kd.int .i64) 2 w' w.heap.size (fun _ => True) v711006 x6_2) ∧ Aside0 (Below w.heap.size w w'))
   case atStart => exact ⟨(y711005), (0), (by first | rfl | (simp; done) | (simp [*]; done)), H', ⟨Nat.le_refl _⟩, ⟨by (with_reducible repeat (first | apply Kd.S_alloc | apply Kd.S_drewN | apply Kd.S_drew)); exact Kd.S_mono HO_4.out (fun _ hk => hk.2)⟩, ⟨by (with_reducible repeat (first | apply Kd.R_alloc | apply Kd.R_drewN | apply Kd.R_drew)); exact HO711007.out⟩, ⟨by repeat (first | (with_reducible first | exact HB.out | apply below_alloc | apply pw_below_drewN | apply below_drew1) | exact HB.out)⟩⟩
   case round =>
    clear H'
    try clear c1
    try clear p2
    try clear c5
    try clear c5b0
    try clear c6
    try clear c6b0
    try clear c6b1
    try clear c7
    try clear c7b0
    try clear c7b1
    try clear p2
    obtain ⟨x6_2, x18_2, rfl, HA, HK2, HO_4, HO_6, HB⟩ := hrel
    cases gk with
    | zero => exact absurd HA.out (by simp [impl_rows.l1])
    | succ k2 =>
     have H := HA.out
     clear HA
     simp only [impl_rows.l1] at H
     by_cases c10 : x18_2 < t711001
     rotate_left
     ·rw [if_neg c10] at H
      have c10b0 : decide (x18_2 < t711001) = false := decide_eq_false c10
      clear c10
      by_cases c18 : x4_1.length < 5864062014805
      rotate_left
      ·rw [if_neg c18] at H
       exact absurd H (by simp)
      rw [if_pos c18] at H
      have LMc18 := Aside0.mk c18
      clear c18
      obtain ⟨y711010, hy711010⟩ : ∃ y_ : List (List Int), y_ = (x4_1 ++ [x6_2]) := ⟨_, rfl⟩
      replace H : (impl_rows.l0 k2 l0 t711001 y711010 t711001 (wrap64 (x12_1 + 1))) = some r := by first | (rw [hy711010]; with_reducible exact H) | (have H2_ := (Option.bind_some _ _).symm.trans H; rw [hy711010]; with_reducible exact H2_) | (have H2_ := (Option.bind_some _ _).symm.trans H; with_reducible exact H2_) | with_reducible exact H | (rw [hy711010]; exact H) | exact H
      have Ny711010 := Aside0.mk hy711010
      clear hy711010
      have H' := Aside0.mk H
      clear H
      obtain ⟨Ao20, co20, eo20⟩ := Kd.R_slice HO_6.out
      subst eo20
      go_wp2_with (first | ((with_reducible refine gate_builtin (b := .append) (xs := #[.tmp 29, .tmp 31]) rfl ?_); at_builtin; refine Kd.S_append (Kd.slice 2 (Kd.int .i64)) (w0 := w) w.heap.size rfl (.tmp 29) (.tmp 31) 39 24 (.slice none 0 0) 24 rfl Try.underlying39 info24 rfl (by decide) (by omega) u4 x4_1 x6_2 [.slice Ao20 x6_2.length co20] (fun _ => True) (fun k_ => some k_ = (.slice Ao20 x6_2.length co20 : Value).ownBlock) rfl rfl ?aP (fun k_ hk_ => ((Kd.R_mono (ok' := fun k_ => ((fun _ => True)) k_ ∧ some k_ ≠ (u4 : Value).ownBlock) (Kd.R_apart' (HO_6.out) (Kd.S_typed HO_4.out) (by decide)) (fun k_ hk => ⟨trivial, hk.2⟩))).1 k_ hk_.symm) ?aF ?aO ?aB ?aS ?aL ?_; (case aP => exact Kd.M_row (Kd.R_mono (Kd.R_tight rfl (Kd.R_mono (ok' := fun k_ => ((fun _ => True)) k_ ∧ some k_ ≠ (u4 : Value).ownBlock) (Kd.R_apart' (HO_6.out) (Kd.S_typed HO_4.out) (by decide)) (fun k_ hk => ⟨trivial, hk.2⟩))) (fun _ h_ => h_))); (case aB => exact (by repeat (first | (with_reducible first | exact HB.out | apply below_alloc | apply pw_below_drewN | apply below_drew1) | exact HB.out))); (case aF => exact (fun _ _ => trivial)); (case aO => exact (by (with_reducible repeat (first | apply Kd.S_alloc | apply Kd.S_drewN | apply Kd.S_drew)); exact Kd.S_mono HO_4.out (fun k_ hk => ⟨trivial, fun e_ => hk e_⟩))); (case aS => exact (below_size (by repeat (first | (with_reducible first | exact HB.out | apply below_alloc | apply pw_below_drewN | apply below_drew1) | exact HB.out)))); (case aL => have := LMc18.out; omega); intro v711011 w19 ho hb hg hat; rw [← Ny711010.out] at ho; have n0_ := Aside0.mk (hb); have n1_ := Aside0.mk (ho); clear HB; clear HO_4; clear HO_6; have HB := n0_; have HO711012 := n1_; clear n0_ n1_; clear ho hb hg hat))
      go_roundg k2
      case measure => have := HK1.out; have := HK2.out; omega
      case rel => exact ⟨(y711010), (wrap64 (x12_1 + 1)), (by first | rfl | (simp; done) | (simp [*]; done)), H', ⟨by have := HK1.out; have := HK2.out; omega⟩, ⟨by (with_reducible repeat (first | apply Kd.S_alloc | apply Kd.S_drewN | apply Kd.S_drew)); exact HO711012.out⟩, ⟨by repeat (first | (with_reducible first | exact HB.out | apply below_alloc | apply pw_below_drewN | apply below_drew1) | exact HB.out)⟩⟩
     rw [if_pos c10] at H
     have c10b0 : decide (x18_2 < t711001) = true := decide_eq_true c10
     clear c10
     replace H := Option.bind_eq_some_iff.mp H
     obtain ⟨t711008, A110, H⟩ := H
     replace H : (if t711008 = true then (if 0 ≤ x18_2 then (if x18_2 < (x6_2.length : Int) then (impl_rows.l1 k2 l0 t711001 x4_1 x12_1 (x6_2.set (x18_2 : Int).toNat 1) t711001 x12_1 t711001 (wrap64 (x18_2 + 1))) else (none)) else (none)) else (impl_rows.l1 k2 l0 t711001 x4_1 x12_1 x6_2 t711001 x12_1 t711001 (wrap64 (x18_2 + 1)))) = some r := H
     have A11 := Aside0.mk A110
     clear A110
     by_cases c12 : t711008 = true
     rotate_left
     ·replace c12 := Bool.eq_false_iff.mpr c12
      subst c12
      have H1 : (impl_rows.l1 k2 l0 t711001 x4_1 x12_1 x6_2 t711001 x12_1 t711001 (wrap64 (x18_2 + 1))) = some r := by rw [if_neg (show ¬ (false = true) by decide)] at H; exact H
      clear H
      have H := H1
      clear H1
      have H' := Aside0.mk H
      clear H
      go_wp2_with (first | ((with_reducible refine gate_callee (f := 122) rfl ?_); refine goesL_ (some 24) rfl rfl Try.func122 (by kernel_rfl) rfl #[.slice A0 l0.length c0, .int .i64 x12_1, .int .i64 x18_2] rfl (by (try simp only [List.map_toArray, List.map_cons, List.map_nil]); first | done | rfl | (simp only [List.length_drop, List.length_take]; rfl)) ?_; (with_reducible refine (impl_cross.calls k2 _ _ l0 x12_1 x18_2 false _ ?side1 ?side2 A11.out).mono ?_); (case side1 => repeat (first | exact (Kd.C_below HR0.out HB.out) | (with_reducible refine Kd.C_alloc ?_ _) | (with_reducible refine Kd.C_drewN ?_ _) | (with_reducible refine Kd.C_drew ?_))); (case side2 => exact HC0.out); rintro e w' ⟨rfl, ⟨nd, rfl⟩⟩; refine ⟨_, rfl, ?_⟩))
      go_roundg k2
      case measure => have := HK1.out; have := HK2.out; omega
      case rel => exact ⟨(x6_2), (wrap64 (x18_2 + 1)), (by first | rfl | (simp; done) | (simp [*]; done)), H', ⟨by have := HK1.out; have := HK2.out; omega⟩, ⟨by (with_reducible repeat (first | apply Kd.S_alloc | apply Kd.S_drewN | apply Kd.S_drew)); exact HO_4.out⟩, ⟨by (with_reducible repeat (first | apply Kd.R_alloc | apply Kd.R_drewN | apply Kd.R_drew)); exact HO_6.out⟩, ⟨by repeat (first | (with_reducible first | exact HB.out | apply below_alloc | apply pw_below_drewN | apply below_drew1) | exact HB.out)⟩⟩
     subst c12
     have H1 : (if 0 ≤ x18_2 then (if x18_2 < (x6_2.length : Int) then (impl_rows.l1 k2 l0 t711001 x4_1 x12_1 (x6_2.set (x18_2 : Int).toNat 1) t711001 x12_1 t711001 (wrap64 (x18_2 + 1))) else (none)) else (none)) = some r := by rw [if_pos rfl] at H; exact H
     clear H
     have H := H1
     clear H1
     by_cases c13 : 0 ≤ x18_2
     rotate_left
     ·rw [if_neg c13] at H
      exact absurd H (by simp)
     rw [if_pos c13] at H
     have c13b0 : decide (0 ≤ x18_2) = true := decide_eq_true c13
     clear c13
     by_cases c14 : x18_2 < (x6_2.length : Int)
     rotate_left
     ·rw [if_neg c14] at H
      exact absurd H (by simp)
     rw [if_pos c14] at H
     have c14b0 : decide (x18_2 < (x6_2.length : Int)) = true := decide_eq_true c14
     clear c14
     obtain ⟨y711009, hy711009⟩ : ∃ y_ : List Int, y_ = (x6_2.set (x18_2 : Int).toNat 1) := ⟨_, rfl⟩
     replace H : (impl_rows.l1 k2 l0 t711001 x4_1 x12_1 y711009 t711001 x12_1 t711001 (wrap64 (x18_2 + 1))) = some r := by first | (rw [hy711009]; with_reducible exact H) | (have H2_ := (Option.bind_some _ _).symm.trans H; rw [hy711009]; with_reducible exact H2_) | (have H2_ := (Option.bind_some _ _).symm.trans H; with_reducible exact H2_) | with_reducible exact H | (rw [hy711009]; exact H) | exact H
     have Ny711009 := Aside0.mk hy711009
     clear hy711009
     have H' := Aside0.mk H
     clear H
     go_wp2_with (first | ((with_reducible refine gate_callee (f := 122) rfl ?_); refine goesL_ (some 24) rfl rfl Try.func122 (by kernel_rfl) rfl #[.slice A0 l0.length c0, .int .i64 x12_1, .int .i64 x18_2] rfl (by (try simp only [List.map_toArray, List.map_cons, List.map_nil]); first | done | rfl | (simp only [List.length_drop, List.length_take]; rfl)) ?_; (with_reducible refine (impl_cross.calls k2 _ _ l0 x12_1 x18_2 true _ ?side1 ?side2 A11.out).mono ?_); (case side1 => repeat (first | exact (Kd.C_below HR0.out HB.out) | (with_reducible refine Kd.C_alloc ?_ _) | (with_reducible refine Kd.C_drewN ?_ _) | (with_reducible refine Kd.C_drew ?_))); (case side2 => exact HC0.out); rintro e w' ⟨rfl, ⟨nd, rfl⟩⟩; refine ⟨_, rfl, ?_⟩; (try (rw [drewN_self wr]; generalize hq_ : World.drewN wr _ = wr; have n0_ : Aside0 (Kd.S (Kd.slice 2 (Kd.int .i64)) 24 wr w.heap.size (fun k_ => some k_ ≠ (v711006 : Value).ownBlock) u4 x4_1) := ⟨by rw [← hq_]; exact (by (with_reducible repeat (first | apply Kd.S_alloc | apply Kd.S_drewN | apply Kd.S_drew)); exact HO_4.out)⟩; have n1_ : Aside0 (Kd.R (Kd.int .i64) 2 wr w.heap.size (fun _ => True) v711006 x6_2) := ⟨by rw [← hq_]; exact (by (with_reducible repeat (first | apply Kd.R_alloc | apply Kd.R_drewN | apply Kd.R_drew)); exact HO_6.out)⟩; have n2_ : Aside0 (Below w.heap.size w wr) := ⟨by rw [← hq_]; exact (by repeat (first | (with_reducible first | exact HB.out | apply below_alloc | apply pw_below_drewN | apply below_drew1) | exact HB.out))⟩; clear HO_4 HO_6 HB hq_; have HO_4 := n0_; have HO_6 := n1_; have HB := n2_; clear n0_ n1_ n2_)); have p15 : 0 ≤ (x18_2 : Int) := of_decide_eq_true (by first | (with_reducible assumption) | assumption); have q15 : (x18_2 : Int) < ((x6_2.length : Int) : Int) := of_decide_eq_true (by first | (with_reducible assumption) | assumption); obtain ⟨go15, co15, eo15, gb15, gl15, cl15, HG15⟩ := Kd.R_form HO_6.out (by omega); (first | cases eo15 | (injection eo15 with ea_ en_ ec_; (first | subst ea_ | (injection ea_ with ea_; subst ea_)); subst ec_; clear en_)); have GB15 := Aside0.mk gb15; have GG15 := Aside0.mk HG15; clear gb15 gl15 HG15; obtain ⟨hx15_0, hf15_0⟩ := Kd.R_celln 0 HO_6.out (x18_2 : Int) p15 q15; replace p15 := eq_true p15; replace q15 := eq_true q15; obtain ⟨hy16_, hz16_⟩ := Kd.R_celln 0 HO_6.out (x18_2 : Int) (of_decide_eq_true (by first | (with_reducible assumption) | assumption)) (of_decide_eq_true (by first | (with_reducible assumption) | assumption)); have HP16 := Kd.R_putg HO_6.out (x18_2 : Int) 1) | ((with_reducible refine gate_store (t := 2) (p := 27) rfl ?_); refine store_event (t := 2) (p := 27) (v := ?vo_w17) (w1 := (wr.setCell ⟨go15, (x18_2 : Int).toNat, none⟩ (.int .i64 1))) ?hg ?ho ?hn ?hr ?_; (case ho => rfl); (case hg => rfl); (case hn => rfl); (case hr => first | (go_simp; done) | (go_simp; rfl)); intro w17 hw; have hg : wr.grownBy w17 (some go15) := (by rw [hw]; exact HP16.2); have hp_ : Kd.R (Kd.int .i64) 2 w17 w.heap.size (fun _ => True) (.slice (some ⟨go15, 0, none⟩) x6_2.length co15) y711009 := (by rw [hw, Ny711009.out]; exact HP16.1); clear HP16; have n0_ := Aside0.mk (Kd.S_after (v := (.slice (some ⟨go15, 0, none⟩) x6_2.length co15)) (v1 := (.slice (some ⟨go15, 0, none⟩) x6_2.length co15)) (ok := (fun _ => True)) (by (with_reducible repeat (first | apply Kd.S_alloc | apply Kd.S_drewN | apply Kd.S_drew)); exact Kd.S_mono HO_4.out (fun _ hk => ⟨trivial, hk⟩)) hg (.inl rfl)); have n1_ := Aside0.mk (hp_); have n2_ := Aside0.mk ((by rw [hw]; exact below_set (HB.out) GB15.out : Below w.heap.size w w17)); clear HO_4; clear HO_6; clear HB; have HO_4 := n0_; have HO_6 := n1_; have HB := n2_; clear n0_ n1_ n2_; clear hg hw hp_))
     go_roundg k2
     case measure => have := HK1.out; have := HK2.out; omega
     case rel => exact ⟨(y711009), (wrap64 (x18_2 + 1)), (by first | rfl | (simp; done) | (simp [*]; done)), H', ⟨by have := HK1.out; have := HK2.out; omega⟩, ⟨by (with_reducible repeat (first | apply Kd.S_alloc | apply Kd.S_drewN | apply Kd.S_drew)); exact Kd.S_mono HO_4.out (fun _ hk => hk.2)⟩, ⟨by (with_reducible repeat (first | apply Kd.R_alloc | apply Kd.R_drewN | apply Kd.R_drew)); exact HO_6.out⟩, ⟨by repeat (first | (with_reducible first | exact HB.out | apply below_alloc | apply pw_below_drewN | apply below_drew1) | exact HB.out)⟩⟩
end
end Go.Proofs.Ytcnekpdoldljgaa.F
end
section
namespace Go.Proofs.Ytcnekpdoldljgaa.F
open Go.RowKit Go.Proofs.YtcnekpdoldljgaaW.PrintWords Go.Proofs.YtcnekpdoldljgaaW.PrintLast Go.Proofs.YtcnekpdoldljgaaW.PrintMore
attribute [local go_sem] max2_int min2_int max_two min_two max_three min_three max_four min_four   
set_option linter.unusedVariables false
set_option linter.unusedSimpArgs false
open Go.Proofs.Ytcnekpdoldljgaa.Pure Go.Proofs.Ytcnekpdoldljgaa.Mem
set_option maxHeartbeats 8000000 in
set_option maxRecDepth 100000 in
theorem sets_interlace (l0 : List Int) (A0 : Option Addr) (c0 n N : Nat) (hn : n = l0.length / 2) (hle : l0.length ≤ 12) (hN : N = 2 ^ n) (hc0 : l0.length ≤ c0) (Bw Bo Br : Nat) (vals : Nat → List Int) (w : World) (hF : Kd.F (Kd.int .i64) w (fun k => k ≠ Br) A0 l0.length l0) (hBr : Br < w.heap.size)
    (hdo : ∀ (s : Nat) (A : Option Addr) (c : Nat) (w1 : World), s < N → w.grownBy w1 (some Br) → w1.heap[Br]? = some (.cells (nums .i64 (vals s)).toArray 2 (0, 0)) → Kd.F (Kd.int .i64) w1 (fun k => k ≠ Br) A (ints (setTo s n)).length (ints (setTo s n)) → (ints (setTo s n)).length ≤ c →
      Calls Try.prog 145 #[.slice A (ints (setTo s n)).length c, .pointer (some ⟨Bw, 0, none⟩), .pointer (some ⟨Bo, 0, none⟩)] w1 fun e w2 => e = .returned (.tuple #[]) ∧ w1.grownBy w2 (some Br) ∧ w2.heap[Br]? = some (.cells (nums .i64 (vals (s + 1))).toArray 2 (0, 0)))
    (hv : w.heap[Br]? = some (.cells (nums .i64 (vals 0)).toArray 2 (0, 0))) :
    Calls Try.prog 144 #[.slice A0 l0.length c0, .func (.func 145) #[] #[.pointer (some ⟨Bw, 0, none⟩), .pointer (some ⟨Bo, 0, none⟩)]] w fun e w2 =>
      e = .returned (.tuple #[]) ∧ w.grownBy w2 (some Br) ∧ w2.heap[Br]? = some (.cells (nums .i64 (vals N)).toArray 2 (0, 0)) := by
  have hn6 : n ≤ 6 := by omega
  have hch : impl_chords.f l0 = some (n : Int) := by rw [hn]; exact chords_f l0 hle
  have hN2 : N ≤ 64 := by rw [hN]; exact Nat.le_trans (Nat.pow_le_pow_right (by decide) hn6) (by decide)
  have CH := Aside0.mk hch
  have HN := Aside0.mk hn
  have HNN := Aside0.mk hN
  have hsh := sh_two hn6 hN
  have HC := Aside0.mk hc0
  have HF := Aside0.mk hF
  have HB0 := Aside0.mk hBr
  have HDO := Aside0.mk hdo
  have HV := Aside0.mk hv
  clear hn hle hN hc0 hF hBr hdo hv hch
  go_enter Try.func144, Try.ntmps144
  go_wp2_with (first | (go_at_call 128; refine (impl_chords.calls A0 c0 l0 _ _ (Kd.F_now HF.out) HC.out CH.out).mono ?_; rintro e w1 ⟨rfl, ⟨nd, rfl⟩⟩))
  simp only [hsh]
  clear hsh
  go_loopw [10] (fun s wr => ∃ k : Nat, s = .int .i64 (k : Int) ∧ Aside0 (k ≤ N) ∧ Aside0 (w.grownBy wr (some Br)) ∧ Aside0 (wr.heap[Br]? = some (.cells (nums .i64 (vals k)).toArray 2 (0, 0))))
    (fun s _ => N - (intOf s).toNat)
  case atStart => exact ⟨0, rfl, ⟨Nat.zero_le _⟩, ⟨grown_drewN (grown_refl _ _) _⟩, ⟨by repeat (first | exact HV.out | refine blk_drewN ?_ _)⟩⟩
  case round =>
    obtain ⟨k, rfl, HK, HG, HH⟩ := hrel
    have HF1 := Aside0.mk (Kd.F_grown HF.out HG.out (fun k hk e => hk (Option.some.inj e)))
    have HB1 := Aside0.mk (Nat.lt_of_lt_of_le HB0.out HG.out.size)
    by_cases hlt : k < N
    rotate_left
    · have t1 : decide ((k : Int) < (N : Int)) = false := decide_eq_false (by omega)
      have t2 : decide (k < N) = false := decide_eq_false hlt
      have HKN := Aside0.mk (show k = N by have := HK.out; omega)
      clear hlt
      go_wp2_with fail
      go_end0
      exact ⟨rfl, HG.out, by rw [← HKN.out]; exact HH.out⟩
    have t1 : decide ((k : Int) < (N : Int)) = true := decide_eq_true (by omega)
    have t2 : decide (k < N) = true := decide_eq_true hlt
    have HLT := Aside0.mk hlt
    clear hlt
    obtain ⟨wo, hwo⟩ : ∃ wo, wo = wr := ⟨wr, rfl⟩
    subst hwo
    go_wp2_with (first
      | ((with_reducible refine gate_dst (N := 13) rfl ?_); refine Kd.R_lit (Kd.int .i64) (w0 := wo) wo.heap.size 2 ?hg (N := 13) ?hd (xs := ([] : List Int)) (inner := []) (ok := fun k => k ≠ Br) (okp := fun _ => False) ?hr ?hp (fun _ hk => hk.elim) (by have := HB1.out; omega) (Below.refl _ _) (Nat.le_refl _) (by simp) ?_; (case hd => rfl); (case hg => rfl); (case hr => first | (go_simp; done) | (go_simp; rfl)); (case hp => exact (Reps.none _ _)); intro v1 w1 ho hb hg_ hnew_; have HO1 := Aside0.mk ho; have HB2 := Aside0.mk hb; clear ho hb hg_ hnew_)
      | (go_at_call 128; refine (impl_chords.calls A0 c0 l0 _ _ (Kd.F_now (Kd.F_below HF1.out HB2.out)) HC.out CH.out).mono ?_; rintro e w2 ⟨rfl, ⟨nd2, rfl⟩⟩))
    go_loopw [5, 16] (fun v i wq => ∃ j : Nat, i = .int .i64 (j : Int) ∧ Aside0 (j ≤ n) ∧ Aside0 (Below wo.heap.size wo wq) ∧ Aside0 (Kd.R (Kd.int .i64) 2 wq wo.heap.size (fun k => k ≠ Br) v (ints (setTo k j))))
      (fun _ i _ => n - (intOf i).toNat)
    case atStart => exact ⟨0, rfl, ⟨Nat.zero_le _⟩, ⟨pw_below_drewN HB2.out _⟩, ⟨Kd.R_drewN HO1.out _⟩⟩
    case round =>
      obtain ⟨j, rfl, HJ, HBQ, HOQ⟩ := hrel
      by_cases hj : j < n
      rotate_left
      · have s1 : decide ((j : Int) < (n : Int)) = false := decide_eq_false (by omega)
        have s2 : decide (j < n) = false := decide_eq_false hj
        have HJN := Aside0.mk (show j = n by have := HJ.out; omega)
        clear hj
        obtain ⟨A5, c5, rfl⟩ := Kd.R_slice HOQ.out
        have HCAP := Aside0.mk (Kd.R_reads' HOQ.out).2.1
        have HFO := Aside0.mk (Kd.R_F HOQ.out)
        have HFJ := Aside0.mk HFO.out
        have hjn : n = j := HJN.out.symm
        subst hjn
        go_wp2_with fail
        refine (HDO.out k A5 c5 wr HLT.out (grown_trans HG.out (gb_of_below HBQ.out _)) ((HBQ.out.block Br HB1.out).trans HH.out) HFO.out HCAP.out).mono ?_
        rintro e w3 ⟨rfl, hg3, hh3⟩
        have HG3 := Aside0.mk hg3
        have HH3 := Aside0.mk hh3
        clear hg3 hh3
        have W2 := Aside0.mk (show wrap64 ((k : Int) + 1) = ((k + 1 : Nat) : Int) from wS (by have := HLT.out; omega))
        go_wp2
        go_roundw
        case rel => exact ⟨k + 1, congrArg _ W2.out, ⟨HLT.out⟩, ⟨grown_trans HG.out (grown_trans (gb_of_below HBQ.out _) HG3.out)⟩, HH3⟩
        case measure => rw [W2.out]; have := HLT.out; simp [intOf]; omega
      have s1 : decide ((j : Int) < (n : Int)) = true := decide_eq_true (by omega)
      have s2 : decide (j < n) = true := decide_eq_true hj
      have HJN := Aside0.mk hj
      clear hj
      have HAL := Aside0.mk (show ((ints (setTo k j)).length + 1) * 8 ≤ 140737488355328 from by rw [ints_len]; have := setTo_le k j; have := HJN.out; omega)
      have hb0 := bit_form k j (by have := HLT.out; omega) (by have := HJN.out; omega)
      have W1 := Aside0.mk (show IntKind.i64.wrap ((j : Int) + 1) = ((j + 1 : Nat) : Int) from (i64_w _).trans (wS (by have := HJN.out; omega)))
      cases hbt : k.testBit j with
      | true =>
        rw [hbt] at hb0
        have HBT := Aside0.mk hbt
        clear hbt
        go_wp2_with (first | (at_builtin; refine Kd.R_append (Kd.int .i64) (w0 := wo) wo.heap.size rfl (.tmp 24) (.tmp 26) 24 2 (.int .i64 0) 8 rfl Try.underlying24 info2 rfl (by decide) (by omega) u5 (ints (setTo k j)) (j : Int) [.int .i64 (j : Int)] (fun k => k ≠ Br) (fun _ => False) rfl rfl ?aP (fun _ hk => hk.elim) ?aF ?aO ?aB ?aS ?aL ?_; (case aP => exact rfl); (case aB => exact HBQ.out); (case aF => exact (fun _ _ => by have := HB1.out; have := HBQ.out.size; omega)); (case aO => exact HOQ.out); (case aS => exact HBQ.out.size); (case aL => exact HAL.out); intro v5 w5 ho hb hg hat; have HO5 := Aside0.mk ho; have HB5 := Aside0.mk hb; clear ho hb hg hat))
        go_roundw
        case rel => exact ⟨j + 1, congrArg _ (wS (by have := HJN.out; omega)), ⟨HJN.out⟩, HB5, ⟨by rw [setTo_succ, if_pos HBT.out, ints_app]; exact HO5.out⟩⟩
        case measure => have := HJN.out; rw [wS (by omega)]; simp [intOf]; omega
      | false =>
        rw [hbt] at hb0
        have HBT := Aside0.mk hbt
        clear hbt
        go_wp2_with fail
        go_roundw
        case rel => exact ⟨j + 1, congrArg _ (wS (by have := HJN.out; omega)), ⟨HJN.out⟩, HBQ, ⟨by rw [setTo_succ, if_neg (by rw [HBT.out]; simp)]; exact HOQ.out⟩⟩
        case measure => have := HJN.out; rw [wS (by omega)]; simp [intOf]; omega
end Go.Proofs.Ytcnekpdoldljgaa.F
end
section
namespace Go.Proofs.Ytcnekpdoldljgaa.F
open Go.RowKit Go.Proofs.YtcnekpdoldljgaaW.PrintWords Go.Proofs.YtcnekpdoldljgaaW.PrintLast Go.Proofs.YtcnekpdoldljgaaW.PrintMore
attribute [local go_sem] max2_int min2_int max_two min_two max_three min_three max_four min_four   
set_option linter.unusedVariables false
set_option linter.unusedSimpArgs false
open Go.Proofs.Ytcnekpdoldljgaa.Mem Go.Sort Go.Lib
def laysDelete_ren : Go.Shelf.Ren := ⟨fun | 10 => 174 | 6 => 188 | n => n, fun | 22 => 24 | 23 => 2 | 25 => 96 | 3 => 3 | 4 => 4 | 0 => 0 | n => n, fun | n => n⟩
theorem laysDelete : Go.Proofs.SlLaysH.n10 Try.prog laysDelete_ren := {
  mixed := by kernel_rfl, f6 := ⟨Try.f188.name, by decide, Try.func188.trans (congrArg some (by kernel_rfl))⟩, f10 := ⟨Try.f174.name, by decide, Try.func174.trans (congrArg some (by kernel_rfl))⟩, t0 := Try.underlying0, a0 := Try.isAgg0, z0 := Try.sizeOf0, v0 := Try.zeroValue0, t3 := Try.underlying3, a3 := Try.isAgg3, z3 := Try.sizeOf3, v3 := Try.zeroValue3, t4 := Try.underlying4, a4 := Try.isAgg4, z4 := Try.sizeOf4, v4 := Try.zeroValue4, t22 := Try.underlying24, a22 := Try.isAgg24, z22 := Try.sizeOf24, v22 := Try.zeroValue24, a23 := Try.isAgg2, z23 := Try.sizeOf2, t25 := Try.underlying96, a25 := Try.isAgg96, z25 := Try.sizeOf96, v25 := Try.zeroValue96 }
theorem C_of_cells {w : World} {blk : Nat} {ys : List Int} (hl : ys.length ≤ 9223372036854775807) (h : ∀ j, j < ys.length → w.cell? ⟨blk, j, none⟩ = some (.int .i64 (ys.getD j 0))) : Kd.C (Kd.int .i64) w (some ⟨blk, 0, none⟩) ys.length ys := by
  refine ⟨rfl, hl, fun _ => ⟨_, rfl, fun j p hj => ⟨[.int .i64 p], rfl, rfl, fun i u hu => ?_⟩⟩⟩
  have hlt := (List.getElem?_eq_some_iff.1 hj).1
  cases i with
  | zero =>
    have hu' : Value.int .i64 p = u := by simpa using hu
    rw [show j * (Kd.int .i64).sz + 0 = j from by show j * 1 + 0 = j; omega, add_plain, h j hlt, List.getD_eq_getElem?_getD, hj, ← hu']; rfl
  | succ i => simp at hu
theorem grownBy_del {α : Type} [Inhabited α] {enc : α → Value} {w : World} {g n : Nat} {os : Array Obj} (d : Array α) : w.grownBy (grow (putRow enc (Sort.ahead w n) g 0 d) os) (some g) := by
  refine ⟨rfl, rfl, rfl, by simp, fun k hk hne => ?_⟩
  rw [heap_grow_old _ _ (by simpa using hk)]
  have : g ≠ k := fun e => hne (by rw [e])
  simp [putRow, mapBlock, Sort.ahead, Array.getElem?_modify, this]
set_option maxHeartbeats 8000000 in
set_option maxRecDepth 100000 in
theorem delete_none (A : Option Addr) (c : Nat) (f : Value) (w : World) : Calls Try.prog 188 #[.slice A 0 c, f] w fun e w' => e = .returned (.int .i64 (-1)) ∧ ∃ nd, w' = w.drewN nd := by
  go_enter Try.func188, Try.ntmps188
  go_wp2
  refine wp_loop_rounds 1 ?_
  rw [rounds_succ]
  go_wp2
  go_ret
  exact ⟨rfl, 0, rfl⟩
set_option maxHeartbeats 8000000 in
set_option maxRecDepth 100000 in
theorem delete_empty (A : Option Addr) (c : Nat) (f : Value) (w : World) : Calls Try.prog 174 #[.slice A 0 c, f] w fun e w' => e = .returned (.slice A 0 c) ∧ ∃ nd, w' = w.drewN nd := by
  go_enter Try.func174, Try.ntmps174
  go_wp2_with (first | (go_at_call 188; refine (delete_none A c f _).mono ?_; rintro e w2 ⟨rfl, nd, rfl⟩))
  go_ret
  exact ⟨rfl, _, rfl⟩
theorem delete_row {base : Nat} {ok : Nat → Prop} {w0 w1 : World} {v : Value} {xs : List Int} (h : Kd.R (Kd.int .i64) 2 w1 base ok v xs) (hb : Below base w0 w1) (hs : xs.length ≤ 9223372036854775807) (p : Int → Bool) (g : Nat) (lb : Array Value) (eg : ∀ args w, (callFunc g args).run Try.prog w = .ok (.enter g args) w)
    (hp : ∀ W : World, (∀ k, k < w1.heap.size → some k ≠ v.ownBlock → W.heap[k]? = w1.heap[k]?) → Below base w0 W → ∀ x : Int, Calls Try.prog g (#[.int .i64 x] ++ lb) W fun e w' => e = .returned (.bool (p x)) ∧ ∃ q, w' = W.drewN q) :
    Calls Try.prog 174 #[v, .func (.func g) #[] lb] w1 fun e w' => ∃ A c, e = .returned (.slice A (xs.filter fun x => !p x).length c) ∧ (xs.filter fun x => !p x).length ≤ c ∧ Kd.C (Kd.int .i64) w' A (xs.filter fun x => !p x).length (xs.filter fun x => !p x) ∧ Below base w0 w' := by
  obtain ⟨A, c, e0, hl, hC⟩ := Kd.R_reads h
  obtain ⟨h0, inner, ho, hr⟩ := h
  rcases ho.2 with ⟨hn, hx⟩ | ⟨g1, cap, cur, hv, hbase, hg, h1, h2, h3, h4⟩
  · have hzl : xs = [] := List.eq_nil_of_length_eq_zero hx
    subst hzl
    rw [e0]
    refine (delete_empty A c _ w1).mono ?_
    rintro e w2 ⟨rfl, nd, rfl⟩
    exact ⟨A, c, rfl, hl, Kd.C_drewN hC nd, pw_below_drewN hb nd⟩
  · have hlt : g1 < w1.heap.size := blk_lt hg
    have hA : A = some ⟨g1, 0, none⟩ ∧ c = cap := by rw [hv] at e0; injection e0 with e1 e2 e3; exact ⟨e1.symm, e3.symm⟩
    obtain ⟨rfl, rfl⟩ := hA
    subst hv
    have hH : Holds (Value.int .i64) w1 g1 0 xs.toArray := fun j hj => by
      have hj' : j < xs.length := by simpa using hj
      obtain ⟨ad, hA, hc⟩ := cell_of_C hC j hj'
      cases hA
      refine ⟨?_, by simp [World.frozen?, hg]⟩
      have e : (xs.toArray[j]! : Int) = xs.getD j 0 := by simp [hj']
      rw [e]
      unfold Addr.add at hc
      by_cases h0 : j = 0
      · subst h0; rw [if_pos rfl] at hc; exact hc
      · rw [if_neg h0] at hc; exact hc
    have hpa : PredAt Try.prog g lb (Value.int .i64) p w1 := fun W x hW => hp W (fun k hk _ => hW.block k hk) (hb.trans ⟨hW.os, hW.tape, hW.output, hW.size, fun i hi => hW.block i (Nat.lt_of_lt_of_le hi (Nat.le_trans (Nat.le_of_lt (Nat.lt_of_le_of_lt hbase hlt)) (Nat.le_refl _)))⟩) x
    have hpo : PredOver Try.prog g lb (Value.int .i64) p g1 0 xs.toArray.size w1 := fun n os dk x hdk => by
      have hgr : w1.grownBy (sortWorld (Value.int .i64) w1 g1 0 n dk os) (some g1) := grownBy_del dk
      exact hp _ (fun k hk hne => hgr.block k hk hne) (hb.grown hgr (Nat.le_trans hbase (Nat.le_of_lt hlt)) (fun j hj => by cases hj; exact hbase)) x
    have hd := AnyE.slices_DeleteFunc laysDelete (Value.int .i64) (fun _ => rfl) p g lb eg 0 Try.zeroValue2 g1 0 c xs.toArray w1 hpa hpo hH (by simpa using hs) (by simpa using h1)
    rw [show xs.toArray.size = xs.length from by simp, show xs.toArray.toList = xs from rfl] at hd
    refine (show Calls Try.prog 174 _ _ _ from hd).mono ?_
    rintro e w2 ⟨rfl, q, rfl⟩
    have hfl : (xs.filter fun x => !p x).length ≤ xs.length := List.length_filter_le _ _
    have hpr := holds_putRow (Value.int .i64) (Sort.ahead w1 q) g1 0 xs.toArray ((xs.filter fun x => !p x) ++ List.replicate (xs.length - (xs.filter fun x => !p x).length) 0).toArray (holds_ahead _ w1 q g1 0 _ hH) (by simp; omega)
    refine ⟨some ⟨g1, 0, none⟩, c, by simp, Nat.le_trans hfl h1, ?_, ?_⟩
    · refine C_of_cells (Nat.le_trans hfl hs) (fun j hj => ?_)
      have := (hpr j (by simp; omega)).1
      rw [Nat.zero_add] at this
      rw [this]
      congr 1
      congr 1
      rw [List.getElem!_toArray, List.getElem!_eq_getElem?_getD, List.getElem?_append_left hj, List.getD_eq_getElem?_getD]
      rfl
    · exact Go.Lib.below_putRow hb hbase
end Go.Proofs.Ytcnekpdoldljgaa.F
end
section
namespace Go.Proofs.Ytcnekpdoldljgaa.F
open Go.RowKit Go.Proofs.YtcnekpdoldljgaaW.PrintWords Go.Proofs.YtcnekpdoldljgaaW.PrintLast Go.Proofs.YtcnekpdoldljgaaW.PrintMore
attribute [local go_sem] max2_int min2_int max_two min_two max_three min_three max_four min_four   
set_option linter.unusedVariables false
set_option linter.unusedSimpArgs false
open Go.Proofs.Ytcnekpdoldljgaa.Mem
set_option maxHeartbeats 4000000 in
set_option maxRecDepth 100000 in
theorem interlace_in (x : Int) (L : List Int) (b : Bool) (k : Nat) (A : Option Addr) (c Bl : Nat) (w : World) (hb : slices_Contains_int64_int64.f k L x = some b) (h1 : w.cell? ⟨Bl, 0, none⟩ = some (.slice A L.length c)) (hC : Kd.C (Kd.int .i64) w A L.length L) (hc : L.length ≤ c) :
    Calls Try.prog 147 #[.int .i64 x, .pointer (some ⟨Bl, 0, none⟩)] w fun e w' => e = .returned (.bool b) ∧ ∃ nd, w' = w.drewN nd := by
  have HCALL := Aside0.mk (slices_Contains_int64_int64.calls k A c L x b w hC hc hb)
  clear hb hC hc
  go_enter Try.func147, Try.ntmps147
  go_wp2_with (first | (go_at_call 129; refine HCALL.out.mono ?_; rintro e w2 ⟨rfl, ⟨nd, rfl⟩⟩))
  go_ret
  exact ⟨rfl, _, rfl⟩
set_option maxHeartbeats 4000000 in
set_option maxRecDepth 100000 in
theorem wordOf_not (x : Int) (b : Bool) (Bi Bl : Nat) (w : World) (h1 : w.cell? ⟨Bi, 0, none⟩ = some (.func (.func 147) #[] #[.pointer (some ⟨Bl, 0, none⟩)])) (hc : Calls Try.prog 147 #[.int .i64 x, .pointer (some ⟨Bl, 0, none⟩)] w fun e w' => e = .returned (.bool b) ∧ ∃ q, w' = w.drewN q) :
    Calls Try.prog 175 #[.int .i64 x, .pointer (some ⟨Bi, 0, none⟩)] w fun e w' => e = .returned (.bool (!b)) ∧ ∃ q, w' = w.drewN q := by
  have HC := Aside0.mk hc
  clear hc
  go_enter Try.func175, Try.ntmps175
  go_wp2_with (first | (go_at_call 147; refine HC.out.mono ?_; rintro e w2 ⟨rfl, ⟨nd, rfl⟩⟩))
  go_ret
  exact ⟨rfl, _, rfl⟩
set_option maxHeartbeats 8000000 in
set_option maxRecDepth 100000 in
theorem wordOf_walk (l0 L : List Int) (p : Int → Bool) (A0 A : Option Addr) (c0 c Bl : Nat) (w : World) (hok : okL (l0.filter p) = true) (hs : l0.length ≤ 1000) (hr0 : Kd.C (Kd.int .i64) w A0 l0.length l0) (hc0 : l0.length ≤ c0)
    (hp : ∀ x, ∃ k, slices_Contains_int64_int64.f k L x = some (p x)) (h1 : w.cell? ⟨Bl, 0, none⟩ = some (.slice A L.length c)) (hC : Kd.C (Kd.int .i64) w A L.length L) (hc : L.length ≤ c) :
    Calls Try.prog 146 #[.slice A0 l0.length c0, .func (.func 147) #[] #[.pointer (some ⟨Bl, 0, none⟩)]] w fun e w' => ∃ v, e = .returned v ∧ Kd.R (Kd.int .i64) 2 w' w.heap.size (fun _ => True) v (nrm (l0.filter p)) ∧ Below w.heap.size w w' := by
  have hBl : Bl < w.heap.size := World.block_lt_of_cell? w _ h1
  obtain ⟨w1, hw1⟩ : ∃ w1, w.alloc (.cells #[.func (.func 147) #[] #[.pointer (some ⟨Bl, 0, none⟩)]] 96) = w1 := ⟨_, rfl⟩
  have hb1 : Below w.heap.size w w1 := by rw [← hw1]; exact below_alloc (Below.refl _ _) _
  have hnew : w1.cell? ⟨w.heap.size, 0, none⟩ = some (.func (.func 147) #[] #[.pointer (some ⟨Bl, 0, none⟩)]) := by
    rw [← hw1]
    have : (w.alloc (.cells #[Value.func (.func 147) #[] #[.pointer (some ⟨Bl, 0, none⟩)]] 96)).heap[w.heap.size]? = some (.cells #[Value.func (.func 147) #[] #[.pointer (some ⟨Bl, 0, none⟩)]] 96 (0, 0)) := new_at rfl
    simp only [World.cell?, this]
    rfl
  have hsz1 : w.heap.size < w1.heap.size := World.block_lt_of_cell? w1 _ hnew
  have hcl := slices_Clone_int64_int64.calls A0 c0 l0 l0 w1 (Kd.C_below hr0 hb1) hc0 (if_pos (by omega))
  have hdel : ∀ (v : Value) (w2 : World), Kd.R (Kd.int .i64) 2 w2 w1.heap.size (fun _ => True) v l0 → Below w1.heap.size w1 w2 →
      Calls Try.prog 174 #[v, .func (.func 175) #[] #[.pointer (some ⟨w.heap.size, 0, none⟩)]] w2 fun e w' => ∃ A c, e = .returned (.slice A (l0.filter p).length c) ∧ (l0.filter p).length ≤ c ∧ Kd.C (Kd.int .i64) w' A (l0.filter p).length (l0.filter p) ∧ Below w1.heap.size w1 w' := by
    intro v w2 hR hB
    have := delete_row hR hB (by omega) (fun x => !p x) 175 #[.pointer (some ⟨w.heap.size, 0, none⟩)] (enters_of Try.func175 (by kernel_rfl) rfl) (fun W _ hW x => by
      obtain ⟨k, hk⟩ := hp x
      have hwW : Below w.heap.size w W := below_step hb1 hW
      have hB1 : W.cell? ⟨Bl, 0, none⟩ = some (.slice A L.length c) := by
        have := hwW.block Bl hBl
        simpa [World.cell?, this] using h1
      have hBi : W.cell? ⟨w.heap.size, 0, none⟩ = some (.func (.func 147) #[] #[.pointer (some ⟨Bl, 0, none⟩)]) := by
        have := hW.block w.heap.size hsz1
        simpa [World.cell?, this] using hnew
      exact wordOf_not x (p x) w.heap.size Bl W hBi (interlace_in x L (p x) k A c Bl W hk hB1 (Kd.C_below hC hwW) hc))
    simp only [Bool.not_not] at this
    exact this
  have HCL := Aside0.mk hcl
  have HDEL := Aside0.mk hdel
  have HOK := Aside0.mk hok
  have HB1 := Aside0.mk hb1
  clear hcl hdel hok hb1 hnew hsz1 hs hr0 hc0 hp h1 hC hc hBl
  go_enter Try.func146, Try.ntmps146
  go_wp2_with (first
    | (go_at_call 127; (try rw [hw1]); refine HCL.out.mono ?_; rintro e w2 ⟨v, rfl, hR, hB⟩; have HD1 := Aside0.mk (HDEL.out v w2 hR hB); have HB2 := Aside0.mk hB; clear hR hB)
    | (go_at_call 174; refine HD1.out.mono ?_; rintro e w3 ⟨A3, c3, rfl, hl3, hC3, hB3⟩; have HN3 := Aside0.mk (impl_normal.calls A3 c3 (l0.filter p) (nrm (l0.filter p)) w3 hC3 hl3 (if_pos HOK.out)); have HB3 := Aside0.mk hB3; clear hl3 hC3 hB3)
    | (go_at_call 125; refine HN3.out.mono ?_; rintro e w4 ⟨v4, rfl, hR4, hB4⟩; have HR4 := Aside0.mk hR4; have HB4 := Aside0.mk hB4; clear hR4 hB4))
  have hB3 := below_step HB1.out HB3.out
  have hB4 := below_step hB3 HB4.out
  have hR := Kd.R_lower HR4.out hB3.size
  clear hB3
  go_ret
  exact ⟨v4, rfl, hR, hB4⟩
end Go.Proofs.Ytcnekpdoldljgaa.F
end
section
namespace Go.Proofs.Ytcnekpdoldljgaa.F
open Go.RowKit Go.Proofs.YtcnekpdoldljgaaW.PrintWords Go.Proofs.YtcnekpdoldljgaaW.PrintLast Go.Proofs.YtcnekpdoldljgaaW.PrintMore
attribute [local go_sem] max2_int min2_int max_two min_two max_three min_three max_four min_four   
set_option linter.unusedVariables false
set_option linter.unusedSimpArgs false
def impl_power.l0 : Nat → Int → Int → Int → Int → Int → Option (Int)
  | 0, _, _, _, _, _ => none
  | k + 1, x0, x2, x7, x8, x9 => if x9 < x8 then (if x2 = 0 then (none) else (impl_power.l0 k x0 x2 (Int.tmod (wrap64 (x7 * x0)) x2) x8 (wrap64 (x9 + 1)))) else (some x7)
def impl_power.f (k : Nat) (a0 : Int) (a1 : Int) (a2 : Int) : Option (Int) := impl_power.l0 k a0 a2 1 a1 0
theorem impl_power.mono_l : ∀ k, (∀ y0 y1 y2 y3 y4, LeO (impl_power.l0 k y0 y1 y2 y3 y4) (impl_power.l0 (k + 1) y0 y1 y2 y3 y4))
  | 0 => fun _ _ _ _ _ r h => by simp [impl_power.l0] at h
  | k + 1 => by
    have ih0 := impl_power.mono_l k
    · intro y0 y1 y2 y3 y4
      unfold impl_power.l0
      repeat' first
      | (with_reducible exact ih0 _ _ _ _ _)
      | (with_reducible exact LeO.refl _)
      | (with_reducible exact LeO.none _)
      | (with_reducible refine LeO.ite ?_ ?_)
      | (with_reducible refine LeO.bind ?_ (fun _ => ?_))
      | exact ih0 _ _ _ _ _
      | exact LeO.none _
      | refine LeO.ite ?_ ?_
      | refine LeO.bind ?_ (fun _ => ?_)
theorem impl_power.mono : ∀ a0 a1 a2 k, LeO (impl_power.f k a0 a1 a2) (impl_power.f (k + 1) a0 a1 a2) := by
  intro a0 a1 a2 k
  have ih0 := impl_power.mono_l k
  unfold impl_power.f
  repeat' first
      | (with_reducible exact ih0 _ _ _ _ _)
      | (with_reducible exact LeO.refl _)
      | (with_reducible exact LeO.none _)
      | (with_reducible refine LeO.ite ?_ ?_)
      | (with_reducible refine LeO.bind ?_ (fun _ => ?_))
      | exact ih0 _ _ _ _ _
      | exact LeO.none _
      | refine LeO.ite ?_ ?_
      | refine LeO.bind ?_ (fun _ => ?_)
set_option maxHeartbeats 8000000 in
set_option maxRecDepth 100000 in
theorem impl_power.calls (k : Nat) (a0 : Int) (a1 : Int) (a2 : Int) (r : Int) (w : World) (h : impl_power.f k a0 a1 a2 = some r) :
    Calls Try.prog 167 #[.int .i64 a0, .int .i64 a1, .int .i64 a2] w fun e w' => e = .returned (.int .i64 r) ∧ Drawn0 w w' := by
  have H : (impl_power.l0 k a0 a2 1 a1 0) = some r := h
  clear h
  have H' := Aside0.mk H
  clear H
  go_enter Try.func167, Try.ntmps167
  go_wp2
  go_loopg [7, 9] k (fun kq v7 v9 w' => ∃ (x7_1 : Int) (x9_1 : Int), v7 = .int .i64 x7_1 ∧ v9 = .int .i64 x9_1 ∧ Aside0 (impl_power.l0 kq a0 a2 x7_1 a1 x9_1 = some r) ∧ Aside0 (kq ≤ k) ∧ Drawn0 w w')
  case atStart => exact ⟨(1), (0), (by first | rfl | (simp; done) | (simp [*]; done)), (by first | rfl | (simp; done) | (simp [*]; done)), H', ⟨Nat.le_refl _⟩, by repeat (first | exact Drawn0.refl _ | apply Drawn0.step)⟩
  case round =>
    clear H'
    try clear c1
    try clear p2
    obtain ⟨x7_1, x9_1, rfl, rfl, HA, HK1, ⟨m1, rfl⟩⟩ := hrel
    cases gk with
    | zero => exact absurd HA.out (by simp [impl_power.l0])
    | succ k1 =>
      have H := HA.out
      clear HA
      simp only [impl_power.l0] at H
      by_cases c4 : x9_1 < a1
      rotate_left
      · rw [if_neg c4] at H
        have c4b0 : decide (x9_1 < a1) = false := decide_eq_false c4
        clear c4
        obtain rfl := Option.some.inj H
        go_wp2
        go_ret
        exact ⟨by first | rfl | (simp; done) | (simp [*]; done), by repeat (first | exact Drawn0.refl _ | apply Drawn0.step)⟩
      rw [if_pos c4] at H
      have c4b0 : decide (x9_1 < a1) = true := decide_eq_true c4
      clear c4
      by_cases c5 : a2 = 0
      · rw [if_pos c5] at H
        exact absurd H (by simp)
      rw [if_neg c5] at H
      have c5b0 : (a2 == 0) = false := beq_eq_false_iff_ne.mpr c5
      have c5b1 : (a2 != 0) = true := bne_iff_ne.mpr c5
      have H' := Aside0.mk H
      clear H
      go_wp2
      go_roundg k1
      case measure => have := HK1.out; omega
      case rel => exact ⟨(Int.tmod (wrap64 (x7_1 * a0)) a2), (wrap64 (x9_1 + 1)), (by first | rfl | (simp; done) | (simp [*]; done)), (by first | rfl | (simp; done) | (simp [*]; done)), H', ⟨by have := HK1.out; omega⟩, by repeat (first | exact Drawn0.refl _ | apply Drawn0.step)⟩
end Go.Proofs.Ytcnekpdoldljgaa.F
end
section
namespace Go.Proofs.Ytcnekpdoldljgaa.F
open Go.RowKit Go.Proofs.YtcnekpdoldljgaaW.PrintWords Go.Proofs.YtcnekpdoldljgaaW.PrintLast Go.Proofs.YtcnekpdoldljgaaW.PrintMore
attribute [local go_sem] max2_int min2_int max_two min_two max_three min_three max_four min_four   
set_option linter.unusedVariables false
set_option linter.unusedSimpArgs false
def impl_inverse.f (k : Nat) (a0 : Int) (a1 : Int) : Option (Int) := (impl_power.f k a0 (wrap64 (a1 - 2)) a1).bind fun t1121001 => (some t1121001)
theorem impl_inverse.mono : ∀ a0 a1 k, LeO (impl_inverse.f k a0 a1) (impl_inverse.f (k + 1) a0 a1) := by
  intro a0 a1 k
  unfold impl_inverse.f
  repeat' first
      | (with_reducible exact impl_power.mono _ _ _ _)
      | (with_reducible exact LeO.refl _)
      | (with_reducible exact LeO.none _)
      | (with_reducible refine LeO.ite ?_ ?_)
      | (with_reducible refine LeO.bind ?_ (fun _ => ?_))
      | exact impl_power.mono _ _ _ _
      | exact LeO.none _
      | refine LeO.ite ?_ ?_
      | refine LeO.bind ?_ (fun _ => ?_)
set_option maxHeartbeats 8000000 in
set_option maxRecDepth 100000 in
theorem impl_inverse.calls (k : Nat) (a0 : Int) (a1 : Int) (r : Int) (w : World) (h : impl_inverse.f k a0 a1 = some r) :
    Calls Try.prog 112 #[.int .i64 a0, .int .i64 a1] w fun e w' => e = .returned (.int .i64 r) ∧ Drawn0 w w' := by
  have H : ((impl_power.f k a0 (wrap64 (a1 - 2)) a1).bind fun t1121001 => (some t1121001)) = some r := h
  clear h
  replace H := Option.bind_eq_some_iff.mp H
  obtain ⟨t1121001, A30, H⟩ := H
  replace H : (some t1121001) = some r := H
  have A3 := Aside0.mk A30
  clear A30
  obtain rfl := Option.some.inj H
  go_enter Try.func112, Try.ntmps112
  go_wp2_with (first | ((with_reducible refine gate_callee (f := 167) rfl ?_); refine goesL_ (some 9) rfl rfl Try.func167 (by kernel_rfl) rfl #[.int .i64 a0, .int .i64 (wrap64 (a1 - 2)), .int .i64 a1] rfl (by (try simp only [List.map_toArray, List.map_cons, List.map_nil]); first | done | rfl | (simp only [List.length_drop, List.length_take]; rfl)) ?_; (with_reducible refine (impl_power.calls k a0 (wrap64 (a1 - 2)) a1 t1121001 _ A3.out).mono ?_); rintro e w' ⟨rfl, ⟨nd, rfl⟩⟩; refine ⟨_, rfl, ?_⟩))
  go_ret
  exact ⟨by first | rfl | (simp; done) | (simp [*]; done), by repeat (first | exact Drawn0.refl _ | apply Drawn0.step)⟩
end Go.Proofs.Ytcnekpdoldljgaa.F
end
section
namespace Go.Proofs.Ytcnekpdoldljgaa.F
open Go.RowKit Go.Proofs.YtcnekpdoldljgaaW.PrintWords Go.Proofs.YtcnekpdoldljgaaW.PrintLast Go.Proofs.YtcnekpdoldljgaaW.PrintMore
attribute [local go_sem] max2_int min2_int max_two min_two max_three min_three max_four min_four   
set_option linter.unusedVariables false
set_option linter.unusedSimpArgs false
open Go.Proofs.Ytcnekpdoldljgaa.ORows Go.Proofs.Ytcnekpdoldljgaa.Mem Go.Sort
def laysSortRows_ren : Go.Shelf.Ren := ⟨fun | 6 => 191 | 15 => 197 | 14 => 199 | 28 => 210 | 29 => 211 | 20 => 212 | 21 => 213 | 22 => 214 | 23 => 215 | 24 => 216 | 25 => 217 | 26 => 218 | 27 => 219 | 46 => 226 | 47 => 222 | 48 => 223 | 49 => 227 | 50 => 228 | 57 => 230 | n => n, fun | 22 => 39 | 24 => 24 | 25 => 156 | 3 => 3 | 39 => 117 | 0 => 0 | 53 => 183 | 55 => 109 | 4 => 4 | 46 => 176 | 45 => 175 | 50 => 180 | 5 => 5 | 9 => 9 | 66 => 190 | 70 => 194 | 76 => 198 | 77 => 145 | n => n, fun | n => n⟩
theorem laysSortRows : Go.Proofs.SlLaysF.n6 Try.prog laysSortRows_ren := {
  mixed := by kernel_rfl, f6 := ⟨Try.f191.name, by decide, Try.func191.trans (congrArg some (by kernel_rfl))⟩, f14 := ⟨Try.f199.name, by decide, Try.func199.trans (congrArg some (by kernel_rfl))⟩, f15 := Try.func197.trans (congrArg some (by kernel_rfl)), f20 := ⟨Try.f212.name, by decide, Try.func212.trans (congrArg some (by kernel_rfl))⟩, f21 := ⟨Try.f213.name, by decide, Try.func213.trans (congrArg some (by kernel_rfl))⟩, f22 := ⟨Try.f214.name, by decide, Try.func214.trans (congrArg some (by kernel_rfl))⟩, f23 := ⟨Try.f215.name, by decide, Try.func215.trans (congrArg some (by kernel_rfl))⟩, f24 := ⟨Try.f216.name, by decide, Try.func216.trans (congrArg some (by kernel_rfl))⟩, f25 := ⟨Try.f217.name, by decide, Try.func217.trans (congrArg some (by kernel_rfl))⟩, f26 := ⟨Try.f218.name, by decide, Try.func218.trans (congrArg some (by kernel_rfl))⟩, f27 := ⟨Try.f219.name, by decide, Try.func219.trans (congrArg some (by kernel_rfl))⟩, f28 := Try.func210.trans (congrArg some (by kernel_rfl)), f29 := Try.func211.trans (congrArg some (by kernel_rfl)), f46 := ⟨Try.f226.name, by decide, Try.func226.trans (congrArg some (by kernel_rfl))⟩, f47 := Try.func222.trans (congrArg some (by kernel_rfl)), f48 := Try.func223.trans (congrArg some (by kernel_rfl)), f49 := ⟨Try.f227.name, by decide, Try.func227.trans (congrArg some (by kernel_rfl))⟩, f50 := ⟨Try.f228.name, by decide, Try.func228.trans (congrArg some (by kernel_rfl))⟩, f57 := ⟨Try.f230.name, by decide, Try.func230.trans (congrArg some (by kernel_rfl))⟩, t0 := Try.underlying0, a0 := Try.isAgg0, z0 := Try.sizeOf0, v0 := Try.zeroValue0, t3 := Try.underlying3, a3 := Try.isAgg3, z3 := Try.sizeOf3, v3 := Try.zeroValue3, t4 := Try.underlying4, a4 := Try.isAgg4, z4 := Try.sizeOf4, v4 := Try.zeroValue4, t5 := Try.underlying5, a5 := Try.isAgg5, z5 := Try.sizeOf5, v5 := Try.zeroValue5, t9 := Try.underlying9, a9 := Try.isAgg9, z9 := Try.sizeOf9, v9 := Try.zeroValue9, t22 := Try.underlying39, a22 := Try.isAgg39, z22 := Try.sizeOf39, v22 := Try.zeroValue39, a24 := Try.isAgg24, z24 := Try.sizeOf24, t25 := Try.underlying156, a25 := Try.isAgg156, z25 := Try.sizeOf156, v25 := Try.zeroValue156, t39 := Try.underlying117, a39 := Try.isAgg117, z39 := Try.sizeOf117, v39 := Try.zeroValue117, t45 := Try.underlying175, a45 := Try.isAgg175, z45 := Try.sizeOf175, v45 := Try.zeroValue175, t46 := Try.underlying176, a46 := Try.isAgg176, z46 := Try.sizeOf176, v46 := Try.zeroValue176, t50 := Try.underlying180, a50 := Try.isAgg180, z50 := Try.sizeOf180, v50 := Try.zeroValue180, t53 := Try.underlying183, a53 := Try.isAgg183, z53 := Try.sizeOf183, v53 := Try.zeroValue183, t55 := Try.underlying109, a55 := Try.isAgg109, z55 := Try.sizeOf109, v55 := Try.zeroValue109, t66 := Try.underlying190, a66 := Try.isAgg190, z66 := Try.sizeOf190, v66 := Try.zeroValue190, t70 := Try.underlying194, a70 := Try.isAgg194, z70 := Try.sizeOf194, v70 := Try.zeroValue194, t76 := Try.underlying198, a76 := Try.isAgg198, z76 := Try.sizeOf198, v76 := Try.zeroValue198, t77 := Try.underlying145, a77 := Try.isAgg145, z77 := Try.sizeOf145, v77 := Try.zeroValue145 }
def laysLen_ren : Go.Shelf.Ren := ⟨fun | 125 => 197 | 128 => 210 | 129 => 211 | n => n, fun | 46 => 117 | 3 => 3 | 51 => 183 | 53 => 109 | 4 => 4 | 5 => 5 | 9 => 9 | n => n, fun | n => n⟩
theorem laysLen : Go.Proofs.Lays.n125 Try.prog laysLen_ren := {
  mixed := by kernel_rfl, f125 := Try.func197.trans (congrArg some (by kernel_rfl)), f128 := Try.func210.trans (congrArg some (by kernel_rfl)), f129 := Try.func211.trans (congrArg some (by kernel_rfl)), t3 := Try.underlying3, a3 := Try.isAgg3, z3 := Try.sizeOf3, v3 := Try.zeroValue3, t4 := Try.underlying4, a4 := Try.isAgg4, z4 := Try.sizeOf4, v4 := Try.zeroValue4, t5 := Try.underlying5, a5 := Try.isAgg5, z5 := Try.sizeOf5, v5 := Try.zeroValue5, t9 := Try.underlying9, a9 := Try.isAgg9, z9 := Try.sizeOf9, v9 := Try.zeroValue9, t46 := Try.underlying117, a46 := Try.isAgg117, z46 := Try.sizeOf117, v46 := Try.zeroValue117, t51 := Try.underlying183, a51 := Try.isAgg183, z51 := Try.sizeOf183, v51 := Try.zeroValue183, t53 := Try.underlying109, a53 := Try.isAgg109, z53 := Try.sizeOf109, v53 := Try.zeroValue109 }
theorem first_bound (l : List Int) : firstV l = -1 ∨ (0 ≤ firstV l ∧ firstV l < (l.length : Int)) := by
  have key : ∀ (l : List Int) (n : Nat), firstFrom l n = -1 ∨ ((n : Int) ≤ firstFrom l n ∧ firstFrom l n < ((n + l.length : Nat) : Int)) := by
    intro l
    induction l with
    | nil => intro n; exact .inl rfl
    | cons x t ih =>
      intro n
      rw [firstFrom]
      split
      · exact .inr ⟨Int.le_refl _, by simp; omega⟩
      · rcases ih (n + 1) with h | ⟨h1, h2⟩
        · exact .inl h
        · refine .inr ⟨by omega, ?_⟩
          rw [List.length_cons]; omega
  rcases key l 0 with h | ⟨h1, h2⟩
  · exact .inl h
  · exact .inr ⟨h1, by unfold firstV; omega⟩
theorem grownBy_sortE {α : Type} [Inhabited α] {enc : α → Value} {w : World} {g n : Nat} {os : Array Obj} (d : Array α) : w.grownBy (grow (putRow enc (Sort.ahead w n) g 0 d) os) (some g) := by
  refine ⟨rfl, rfl, rfl, by simp, fun k hk hne => ?_⟩
  rw [heap_grow_old _ _ (by simpa using hk)]
  have : g ≠ k := fun e => hne (by rw [e])
  simp [putRow, mapBlock, Sort.ahead, Array.getElem?_modify, this]
set_option maxHeartbeats 4000000 in
set_option maxRecDepth 100000 in
theorem reduced_cmp (l m : List Int) (A B : Option Addr) (c d : Nat) (z : Int) (w : World) (hl : Kd.C (Kd.int .i64) w A l.length l) (hm : Kd.C (Kd.int .i64) w B m.length m) (hc : l.length ≤ c) (hd : m.length ≤ d) (h1 : l.length ≤ 1000) (h2 : m.length ≤ 1000) (hz : z = firstV l - firstV m) :
    Calls Try.prog 192 #[.slice A l.length c, .slice B m.length d] w fun e w' => e = .returned (.int .i64 z) ∧ ∃ q, w' = w.drewN q := by
  have hfl : impl_first.f l = some (firstV l) := if_pos (by omega)
  have hfm : impl_first.f m = some (firstV m) := if_pos (by omega)
  have hb1 : firstV l ≤ 1000 ∧ -1 ≤ firstV l := by
    rcases first_bound l with h | ⟨h3, h4⟩ <;> omega
  have hb2 : firstV m ≤ 1000 ∧ -1 ≤ firstV m := by
    rcases first_bound m with h | ⟨h3, h4⟩ <;> omega
  have hw : wrap64 (firstV l - firstV m) = z := by rw [hz]; unfold wrap64; omega
  obtain ⟨x, hx⟩ : ∃ x, x = firstV l := ⟨_, rfl⟩
  obtain ⟨y, hy⟩ : ∃ y, y = firstV m := ⟨_, rfl⟩
  rw [← hx] at hfl hw
  rw [← hy] at hfm hw
  have HC1 := Aside0.mk (impl_first.calls A c l x w hl hc hfl)
  have HC2 := Aside0.mk (fun nd => impl_first.calls B d m y (w.drewN nd) (Kd.C_drewN hm nd) hd hfm)
  have HW := Aside0.mk hw
  clear hl hm hc hd h1 h2 hz hfl hfm hb1 hb2 hw hx hy
  go_enter Try.func192, Try.ntmps192
  go_wp2_with (first | (go_at_call 190; refine (HC1.out).mono ?_; rintro e w2 ⟨rfl, ⟨nd, rfl⟩⟩) | (go_at_call 190; refine (HC2.out _).mono ?_; rintro e w2 ⟨rfl, ⟨nd2, rfl⟩⟩))
  go_ret
  exact ⟨by rw [HW.out]; rfl, _, rfl⟩
theorem sort_rows (n : Nat) (bs : List (Nat × Nat)) (F : Nat → List Int) (base base' : Nat) (ok : Nat → Prop) (w : World) (hOwn : Go.Proofs.Ytcnekpdoldljgaa.ORows.Own n base F bs w) (hn : n ≤ 1000) (g cap : Nat) (obs : List (Nat × Nat)) (hsub : ∀ p ∈ obs, p ∈ bs)
    (hR : (kE n).R 24 w base' ok (.slice (some ⟨g, 0, none⟩) obs.length cap) obs) (h12 : obs.length ≤ 12) (hne : ∀ p ∈ bs, p.1 ≠ g) :
    Calls Try.prog 191 #[.slice (some ⟨g, 0, none⟩) obs.length cap, .func (.func 192) #[] #[]] w fun e w' => e = .returned (.tuple #[]) ∧ w.grownBy w' (some g) := by
  have hC := (Kd.R_reads' hR).2.2
  obtain ⟨_, inner, ⟨_, hv⟩, _⟩ := hR
  rcases hv with ⟨he, _⟩ | ⟨g', cap', cur, he, _, hg, _⟩
  · cases he
  · injection he with e1 e2 e3
    injection e1 with e1
    injection e1 with e1
    subst e1; subst e3
    let enc : Nat × Nat → Value := fun p => if p ∈ bs then rowE n p else .slice none 0 0
    have hO : OneCell enc := fun p => by
      show (if p ∈ bs then rowE n p else Value.slice none 0 0).oneCell' = true
      split <;> rfl
    let G : Nat × Nat → List Int := fun p => if p ∈ bs then F p.1 else []
    have hH : Holds enc w g 0 obs.toArray := fun j hj => by
      have hj' : j < obs.length := by simpa using hj
      obtain ⟨ad, hA, hc⟩ := cell_of_E hC j hj'
      cases hA
      refine ⟨?_, by simp [World.frozen?, hg]⟩
      have e : (obs.toArray[j]! : Nat × Nat) = obs.getD j (0, 0) := by simp [hj', List.getD_eq_getElem?_getD, List.getElem?_eq_getElem hj']
      have hm : obs.getD j (0, 0) ∈ bs := by
        rw [List.getD_eq_getElem?_getD, List.getElem?_eq_getElem hj']
        exact hsub _ (List.getElem_mem hj')
      rw [e, show enc (obs.getD j (0, 0)) = rowE n (obs.getD j (0, 0)) from if_pos hm]
      unfold Addr.add at hc
      by_cases h0 : j = 0
      · subst h0; rw [if_pos rfl] at hc; exact hc
      · rw [if_neg h0] at hc; exact hc
    have hread : ∀ (W : World), (∀ p ∈ bs, W.heap[p.1]? = w.heap[p.1]?) → ∀ p : Nat × Nat, ∃ A c, enc p = .slice A (G p).length c ∧ (G p).length ≤ c ∧ (G p).length ≤ 1000 ∧ Kd.C (Kd.int .i64) W A (G p).length (G p) := by
      intro W hW p
      by_cases hp : p ∈ bs
      rotate_left
      · refine ⟨none, 0, ?_, ?_, ?_, ?_⟩
        · show (if p ∈ bs then rowE n p else _) = Value.slice _ (if p ∈ bs then F p.1 else []).length _
          rw [if_neg hp, if_neg hp]; rfl
        · show (if p ∈ bs then F p.1 else []).length ≤ _
          rw [if_neg hp]; exact Nat.le_refl _
        · show (if p ∈ bs then F p.1 else []).length ≤ _
          rw [if_neg hp]; exact Nat.zero_le _
        · show Kd.C _ _ _ (if p ∈ bs then F p.1 else []).length (if p ∈ bs then F p.1 else [])
          rw [if_neg hp]; exact Kd.C_nil _ _
      have hr := (hOwn.row p hp).move (hW p hp)
      refine ⟨some ⟨p.1, 0, none⟩, p.2, ?_, ?_, ?_, ?_⟩
      · show (if p ∈ bs then rowE n p else _) = Value.slice _ (if p ∈ bs then F p.1 else []).length _
        rw [if_pos hp, if_pos hp, hr.len]; rfl
      · show (if p ∈ bs then F p.1 else []).length ≤ _
        rw [if_pos hp, hr.len]; exact hr.cap
      · show (if p ∈ bs then F p.1 else []).length ≤ _
        rw [if_pos hp, hr.len]; exact hn
      · show Kd.C _ _ _ (if p ∈ bs then F p.1 else []).length (if p ∈ bs then F p.1 else [])
        rw [if_pos hp]; exact hr.C
    have hcmp : CmpReads Try.prog 192 #[] enc (fun p q => firstV (G p) - firstV (G q)) g 0 obs.toArray.size w := fun m os dk hdk p q => by
      have hgrow : w.grownBy (sortWorld enc w g 0 m dk os) (some g) := grownBy_sortE dk
      have hW : ∀ p ∈ bs, (sortWorld enc w g 0 m dk os).heap[p.1]? = w.heap[p.1]? := fun p hp => hgrow.block p.1 (hOwn.row p hp).lt (fun e => hne p hp (Option.some.inj e))
      obtain ⟨A, c, e1, h1, h2, h3⟩ := hread _ hW p
      obtain ⟨B, d, f1, f2, f3, f4⟩ := hread _ hW q
      rw [e1, f1]
      exact reduced_cmp (G p) (G q) A B c d _ _ h3 f4 h1 f2 h2 f3 rfl
    have hlen : ∀ (k : Nat) (W : World), k ≤ 12 → Calls Try.prog (laysSortRows_ren.f 15) #[.int .u64 k] W fun e w' => (∃ l : Int, e = .returned (.int .i64 l)) ∧ w' = W := fun k W hk =>
      (show Calls Try.prog 197 _ _ _ from Any.bits_Len laysLen (k : Int) W (by omega) (by omega)).mono fun e w' h => ⟨⟨_, h.1⟩, h.2⟩
    have hs := Any.slices_SortFunc_small laysSortRows enc hO (fun p q => firstV (G p) - firstV (G q)) 192 #[] g 0 cap obs.toArray w (enters_of Try.func192 (by kernel_rfl) rfl) hcmp hH (by simpa using h12) hlen
    rw [show obs.toArray.size = obs.length from by simp] at hs
    refine (show Calls Try.prog 191 _ _ _ from hs).mono ?_
    rintro e w' ⟨rfl, k, rfl⟩
    refine ⟨rfl, ?_⟩
    have := grownBy_sortE (w := w) (g := g) (n := k) (os := #[]) (enc := enc) (Sort.insertionSort (ltOf fun p q => firstV (G p) - firstV (G q)) obs.toArray 0 obs.length)
    rw [grow_empty] at this
    exact this
end Go.Proofs.Ytcnekpdoldljgaa.F
end
