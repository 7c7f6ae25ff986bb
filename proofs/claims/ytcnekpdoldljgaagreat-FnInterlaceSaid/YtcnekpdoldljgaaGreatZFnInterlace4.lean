/- Words, walks and plain laws that the row of the law FnInterlace uses. -/
import Derived.Test.YtcnekpdoldljgaaGreatZFnInterlace3
import Derived.Shelf.SlSortCmp.Small
import Derived.Shelf.Small.Bits
import Derived.BigQuiet
import Derived.Deep.RegionWith
import Derived.Deep.RegionLawGrows
import Derived.BigRegion
section
namespace Go.Proofs.YtcnekpdoldljgaaGreat.ORows
open Go.RowKit Go.Proofs.YtcnekpdoldljgaaGreatW.PrintWords Go.Proofs.YtcnekpdoldljgaaGreatW.PrintLast Go.Proofs.YtcnekpdoldljgaaGreat.Mem
def rowE (n : Nat) (p : Nat × Nat) : Value := .slice (some ⟨p.1, 0, none⟩) n p.2
def kE (n : Nat) : Kd (Nat × Nat) := Kd.scalar (rowE n) (fun _ => rfl)
def Row (base : Nat) (n : Nat) (p : Nat × Nat) (r : List Int) (w : World) : Prop := Kd.R (Kd.int .i64) 2 w base (fun k => k = p.1) (rowE n p) r
structure Own (n base : Nat) (F : Nat → List Int) (bs : List (Nat × Nat)) (w : World) : Prop where
  one : ∀ p ∈ bs, ∀ q ∈ bs, p.1 = q.1 → p = q
  row : ∀ p ∈ bs, Row base n p (F p.1) w
def upd (F : Nat → List Int) (b : Nat) (r : List Int) : Nat → List Int := fun k => if k = b then r else F k
theorem upd_same (F : Nat → List Int) (b : Nat) (r : List Int) : upd F b r b = r := if_pos rfl
theorem upd_ne (F : Nat → List Int) {b k : Nat} (r : List Int) (h : k ≠ b) : upd F b r k = F k := if_neg h
theorem upd_self (F : Nat → List Int) (b : Nat) : upd F b (F b) = F := by
  funext k; unfold upd; split
  · next h => rw [h]
  · rfl
theorem Row.len {base n : Nat} {p : Nat × Nat} {r : List Int} {w : World} (h : Row base n p r w) : r.length = n := (Kd.R_reads' h).1.symm
theorem Row.cap {base n : Nat} {p : Nat × Nat} {r : List Int} {w : World} (h : Row base n p r w) : n ≤ p.2 := (Kd.R_reads' h).2.1
theorem Row.C {base n : Nat} {p : Nat × Nat} {r : List Int} {w : World} (h : Row base n p r w) : Kd.C (Kd.int .i64) w (some ⟨p.1, 0, none⟩) r.length r := (Kd.R_reads' h).2.2
theorem Row.lt {base n : Nat} {p : Nat × Nat} {r : List Int} {w : World} (h : Row base n p r w) : p.1 < w.heap.size := by
  obtain ⟨_, inner, ho, _⟩ := h
  exact own_lt ho p.1 rfl
theorem Row.low {base n : Nat} {p : Nat × Nat} {r : List Int} {w : World} (h : Row base n p r w) : base ≤ p.1 := by
  obtain ⟨_, inner, ho, _⟩ := h
  exact own_base ho p.1 rfl
theorem Row.move {base n : Nat} {p : Nat × Nat} {r : List Int} {w w1 : World} (h : Row base n p r w) (hm : w1.heap[p.1]? = w.heap[p.1]?) : Row base n p r w1 :=
  Kd.R_step h (fun k hk _ => by subst hk; exact hm)
theorem Row.of {base n : Nat} {p : Nat × Nat} {r : List Int} {w : World} {ok : Nat → Prop} (h : Kd.R (Kd.int .i64) 2 w base ok (rowE n p) r) : Row base n p r w :=
  Kd.R_mono (Kd.R_tight rfl h) (fun _ hk => Option.some.inj hk)
theorem Row.set {base n : Nat} {p : Nat × Nat} {r : List Int} {w : World} (h : Row base n p r w) (j : Nat) (x : Int) (hj : j < n) : Row base n p (r.set j x) (w.setCell ⟨p.1, j, none⟩ (.int .i64 x)) := by
  have hrl : r.length = n := h.len
  obtain ⟨h0, inner, ⟨hl, ho⟩, hr1, hr2⟩ := h
  replace hl : inner.length = r.length := hl.trans (Nat.mul_one _)
  have hr2' : ∀ (i : Nat) (q : Int), r[i]? = some q → (inner.drop i).take 1 = [.int .i64 q] := fun i q hq => by
    have h5 : (inner.drop (i * 1)).take 1 = [.int .i64 q] := hr2 i q hq
    rwa [Nat.mul_one] at h5
  refine ⟨h0, inner.set j (.int .i64 x), ⟨?_, .inr ?_⟩, ?_, fun i q hq => ?_⟩
  · show (inner.set j _).length = (r.set j x).length * 1
    rw [List.length_set, List.length_set, hl, Nat.mul_one]
  · rcases ho with ⟨he, _⟩ | ⟨g, cap, cur, he, hb, hh, h1, h2, h3, h4⟩
    · cases he
    · have he' := he
      unfold rowE at he'
      injection he' with e1 e2 e3
      injection e1 with e1
      injection e1 with e1
      subst e1
      replace h4 : cur.toList.take (r.length * 1) = inner := h4
      refine ⟨p.1, cap, cur.setIfInBounds j (.int .i64 x), by rw [List.length_set]; exact he, hb, ?_, by rw [List.length_set]; exact h1, h2, by rw [Array.size_setIfInBounds]; exact h3, ?_⟩
      · exact blk_set (by simpa using hh) j _
      · show (cur.setIfInBounds j (.int .i64 x)).toList.take ((r.set j x).length * 1) = _
        rw [List.length_set, Array.toList_setIfInBounds, List.take_set, h4]
  · show (inner.set j _).length = (r.set j x).length * 1
    rw [List.length_set, List.length_set, hl, Nat.mul_one]
  · show ((inner.set j (.int .i64 x)).drop (i * 1)).take 1 = [.int .i64 q]
    rw [Nat.mul_one]
    rcases Nat.lt_or_ge i r.length with hi | hi
    · have h6 := hr2' i _ (List.getElem?_eq_getElem hi)
      have hi' : i < inner.length := by rw [hl]; exact hi
      rw [List.drop_eq_getElem_cons (by rw [List.length_set]; exact hi')]
      by_cases hij : i = j
      · subst hij
        rw [List.getElem?_set_self hi] at hq
        obtain rfl := Option.some.inj hq
        rw [List.getElem_set_self]
        rfl
      · rw [List.getElem?_set_ne (Ne.symm hij), List.getElem?_eq_getElem hi] at hq
        obtain rfl := Option.some.inj hq
        rw [List.getElem_set_ne (Ne.symm hij)]
        rw [List.drop_eq_getElem_cons hi'] at h6
        exact h6
    · rw [List.getElem?_eq_none (by rw [List.length_set]; exact hi)] at hq
      cases hq
namespace Own
variable {n base : Nat} {F : Nat → List Int} {bs : List (Nat × Nat)} {w w1 : World}
theorem move (h : Own n base F bs w) (hm : ∀ p ∈ bs, w1.heap[p.1]? = w.heap[p.1]?) : Own n base F bs w1 := ⟨h.one, fun p hp => (h.row p hp).move (hm p hp)⟩
theorem drewN (h : Own n base F bs w) (m : Nat) : Own n base F bs (w.drewN m) := h.move (fun _ _ => rfl)
theorem drew (h : Own n base F bs w) : Own n base F bs w.drew := h.move (fun _ _ => rfl)
theorem alloc (h : Own n base F bs w) (o : Obj) : Own n base F bs (w.alloc o) := h.move (fun p hp => (below_alloc (Below.refl _ _) o).block p.1 (h.row p hp).lt)
theorem below (h : Own n base F bs w) (hb : Below w.heap.size w w1) : Own n base F bs w1 := h.move (fun p hp => hb.block p.1 (h.row p hp).lt)
theorem grown (h : Own n base F bs w) {row : Option Nat} (hg : w.grownBy w1 row) (hne : ∀ p ∈ bs, some p.1 ≠ row) : Own n base F bs w1 := h.move (fun p hp => hg.block p.1 (h.row p hp).lt (hne p hp))
theorem put (h : Own n base F bs w) {p : Nat × Nat} (hp : p ∈ bs) {r : List Int} (hk : Kept w w1 (fun k => k = p.1)) (hr : Row base n p r w1) : Own n base (upd F p.1 r) bs w1 := ⟨h.one, fun q hq => by
  by_cases e : q.1 = p.1
  · obtain rfl := h.one q hq p hp e
    rw [upd_same]; exact hr
  · rw [upd_ne _ _ e]
    exact (h.row q hq).move (hk.2 q.1 (h.row q hq).lt e)⟩
end Own
theorem cell_of_E {n m : Nat} {w : World} {A : Option Addr} {bs : List (Nat × Nat)} (h : Kd.C (kE n) w A m bs) (j : Nat) (hj : j < m) : ∃ ad, A = some ad ∧ w.cell? (ad.add j) = some (rowE n (bs.getD j (0, 0))) := by
  obtain ⟨hl, _, hc⟩ := h
  obtain ⟨ad, e, hc⟩ := hc (by omega)
  have hjl : j < bs.length := by omega
  obtain ⟨c, hc1, hc2, hc3⟩ := hc j _ (List.getElem?_eq_getElem hjl)
  refine ⟨ad, e, ?_⟩
  have hc2' : c = [rowE n bs[j]] := hc2
  have := hc3 0 _ (by rw [hc2']; rfl)
  rw [show (kE n).sz = 1 from rfl, Nat.mul_one, Nat.add_zero] at this
  rw [this, List.getD_eq_getElem?_getD, List.getElem?_eq_getElem hjl]; rfl
theorem own_rows {n base : Nat} {w : World} {ok : Nat → Prop} {v : Value} {rs : List (List Int)} (h : Kd.S (Kd.slice 2 (Kd.int .i64)) 37 w base ok v rs) (hn : ∀ r ∈ rs, r.length = n) (hn0 : 0 < n) :
    ∃ (bs : List (Nat × Nat)) (F : Nat → List Int), (bs.map Prod.fst).Nodup ∧ (kE n).R 37 w base (fun _ => True) v bs ∧ Own n base F bs w ∧ bs.map (fun p => F p.1) = rs ∧ ∀ p ∈ bs, some p.1 ≠ v.ownBlock := by
  obtain ⟨f, h0, inner, ho, hr1, hr2⟩ := h
  rw [List.length_zipIdx] at ho hr1
  have hsz : (Kd.tag f (Kd.slice 2 (Kd.int .i64))).sz = 1 := rfl
  rw [hsz] at hr1 hr2
  have key : ∀ j : Nat, ∃ p : Nat × Nat, j < rs.length → (inner.drop j).take 1 = [rowE n p] ∧ f p.1 = j ∧ some p.1 ≠ v.ownBlock ∧ Row base n p (rs.getD j []) w := by
    intro j
    by_cases hj : j < rs.length
    · have hz : rs.zipIdx[j]? = some (rs[j], j) := Kd.zip_at (List.getElem?_eq_getElem hj)
      obtain ⟨u, hu, hR⟩ := hr2 j _ hz
      rw [Nat.mul_one] at hu
      have hlen := hn _ (List.getElem_mem hj)
      have hR' := hR
      obtain ⟨hok, inner2, ⟨hl2, hv⟩, _⟩ := hR
      rcases hv with ⟨_, hv⟩ | ⟨g, cap, cur, hv, hb, hh, h1, h2, h3, h4⟩
      · have hv' : rs[j].length = 0 := hv
        omega
      · have hv' : u = rowE n (g, cap) := by rw [hv]; show Value.slice _ rs[j].length _ = _; rw [hlen]; rfl
        have hok2 := hok g (by rw [hv']; rfl)
        refine ⟨(g, cap), fun _ => ⟨by rw [hu, hv'], hok2.2, hok2.1.2, ?_⟩⟩
        rw [hv'] at hR'
        rw [List.getD_eq_getElem?_getD, List.getElem?_eq_getElem hj]
        exact Row.of hR'
    · exact ⟨(0, 0), fun h => absurd h hj⟩
  obtain ⟨P, hP⟩ := Classical.axiomOfChoice key
  have hpair : List.Pairwise (fun a b => a ≠ b) ((List.range rs.length).map fun j => (P j).1) := by
    refine List.pairwise_map.2 (List.Pairwise.imp_of_mem ?_ List.nodup_range)
    intro a b ha hb hab e
    have e1 := (hP a (List.mem_range.1 ha)).2.1
    have e2 := (hP b (List.mem_range.1 hb)).2.1
    exact hab (by rw [← e1, ← e2]; show f (P a).1 = f (P b).1; rw [e])
  have hmem : ∀ p, p ∈ (List.range rs.length).map P → ∃ j, j < rs.length ∧ p = P j := by
    intro p hp
    obtain ⟨j, hj, rfl⟩ := List.mem_map.1 hp
    exact ⟨j, List.mem_range.1 hj, rfl⟩
  refine ⟨(List.range rs.length).map P, fun k => rs.getD (f k) [], ?_, ⟨fun _ _ => trivial, inner, by rw [List.length_map, List.length_range]; exact ho, by rw [List.length_map, List.length_range, hr1]; rfl, fun j p hj => ?_⟩, ⟨fun p hp q hq e => ?_, fun p hp => ?_⟩, ?_, fun p hp => ?_⟩
  · rw [List.map_map]; exact hpair
  · have hlt : j < rs.length := by
      have := (List.getElem?_eq_some_iff.1 hj).1
      rwa [List.length_map, List.length_range] at this
    rw [List.getElem?_map, List.getElem?_range hlt] at hj
    obtain rfl := Option.some.inj hj
    show (inner.drop (j * 1)).take 1 = [rowE n (P j)]
    rw [Nat.mul_one]
    exact (hP j hlt).1
  · obtain ⟨i, hi, rfl⟩ := hmem p hp
    obtain ⟨j, hj, rfl⟩ := hmem q hq
    have e1 := (hP i hi).2.1
    have e2 := (hP j hj).2.1
    have : i = j := by rw [← e1, ← e2]; show f (P i).1 = f (P j).1; rw [e]
    rw [this]
  · obtain ⟨i, hi, rfl⟩ := hmem p hp
    show Row base n (P i) (rs.getD (f (P i).1) []) w
    rw [(hP i hi).2.1]
    exact (hP i hi).2.2.2
  · rw [List.map_map]
    refine List.ext_getElem (by rw [List.length_map, List.length_range]) (fun i h1 h2 => ?_)
    rw [List.getElem_map, List.getElem_range]
    show rs.getD (f (P i).1) [] = _
    rw [(hP i h2).2.1, List.getD_eq_getElem?_getD, List.getElem?_eq_getElem h2]; rfl
  · obtain ⟨i, hi, rfl⟩ := hmem p hp
    exact (hP i hi).2.2.1
theorem own_rows0 {n base : Nat} {w : World} {ok : Nat → Prop} {v : Value} {rs : List (List Int)} (h : Kd.S (Kd.slice 2 (Kd.int .i64)) 37 w base ok v rs) (hn : ∀ r ∈ rs, r.length = n) (hn0 : rs = [] ∨ 0 < n) :
    ∃ (bs : List (Nat × Nat)) (F : Nat → List Int), (bs.map Prod.fst).Nodup ∧ (kE n).R 37 w base (fun _ => True) v bs ∧ Own n base F bs w ∧ bs.map (fun p => F p.1) = rs ∧ ∀ p ∈ bs, some p.1 ≠ v.ownBlock := by
  rcases hn0 with rfl | h0
  · obtain ⟨h1, inner, ho, hr⟩ := Kd.S_R h
    exact ⟨[], fun _ => [], List.Pairwise.nil, ⟨fun _ _ => trivial, inner, ho, hr.1, fun j p hj => by simp at hj⟩, ⟨(fun p hp => by cases hp), (fun p hp => by cases hp)⟩, rfl, (fun p hp => by cases hp)⟩
  · exact own_rows h hn h0
end Go.Proofs.YtcnekpdoldljgaaGreat.ORows
end
section
namespace Go.Proofs.YtcnekpdoldljgaaGreat.Red
open Go.Proofs.YtcnekpdoldljgaaGreat.F Go.Proofs.YtcnekpdoldljgaaGreat.ORows
def lessV (row by' : List Int) : List Int := List.zipWith (fun x y => (x - row.getD (firstV by').toNat 0 * y) % 2) row by'
def absF (b : Nat) (F : Nat → List Int) (p : Nat × Nat) : Nat → List Int := upd F b (lessV (F b) (F p.1))
def sprF (b : Nat) (F : Nat → List Int) (p : Nat × Nat) : Nat → List Int := upd F p.1 (lessV (F p.1) (F b))
abbrev St := (Nat → List Int) × List (Nat × Nat)
def absAt (st : St) (b j : Nat) : Nat → List Int := (st.2.take j).foldl (absF b) st.1
def sprAt (st : St) (b j : Nat) : Nat → List Int := (st.2.take j).foldl (sprF b) (absAt st b st.2.length)
def stepF (st : St) (p : Nat × Nat) : St :=
  if firstV (absAt st p.1 st.2.length p.1) < 0 then (absAt st p.1 st.2.length, st.2) else (sprAt st p.1 st.2.length, st.2 ++ [p])
def redAt (F : Nat → List Int) (bs : List (Nat × Nat)) (i : Nat) : St := (bs.take i).foldl stepF (F, [])
def Bits (l : List Int) : Prop := ∀ x ∈ l, x = 0 ∨ x = 1
def LessOk (row by' : List Int) : Prop := ∃ k, impl_less.f k row by' 2 = some (lessV row by')
structure StepOk (st : St) (b : Nat) : Prop where
  abs : ∀ j, j < st.2.length → LessOk (absAt st b j b) (absAt st b j (st.2.getD j (0, 0)).1)
  bit : Bits (absAt st b st.2.length b)
  spr : 0 ≤ firstV (absAt st b st.2.length b) → ∀ j, j < st.2.length → LessOk (sprAt st b j (st.2.getD j (0, 0)).1) (sprAt st b j b)
def RedOk (F : Nat → List Int) (bs : List (Nat × Nat)) : Prop := ∀ i, i < bs.length → StepOk (redAt F bs i) (bs.getD i (0, 0)).1
theorem take_foldl {α β : Type} (f : β → α → β) (a : β) (l : List α) (j : Nat) (d : α) (h : j < l.length) : (l.take (j + 1)).foldl f a = f ((l.take j).foldl f a) (l.getD j d) := by
  rw [List.take_succ_eq_append_getElem h, List.foldl_append, List.getD_eq_getElem?_getD, List.getElem?_eq_getElem h]; rfl
theorem absAt_zero (st : St) (b : Nat) : absAt st b 0 = st.1 := rfl
theorem absAt_succ (st : St) (b : Nat) {j : Nat} (h : j < st.2.length) : absAt st b (j + 1) = absF b (absAt st b j) (st.2.getD j (0, 0)) := take_foldl _ _ _ _ _ h
theorem sprAt_zero (st : St) (b : Nat) : sprAt st b 0 = absAt st b st.2.length := rfl
theorem sprAt_succ (st : St) (b : Nat) {j : Nat} (h : j < st.2.length) : sprAt st b (j + 1) = sprF b (sprAt st b j) (st.2.getD j (0, 0)) := take_foldl _ _ _ _ _ h
theorem redAt_succ (F : Nat → List Int) (bs : List (Nat × Nat)) {i : Nat} (h : i < bs.length) : redAt F bs (i + 1) = stepF (redAt F bs i) (bs.getD i (0, 0)) := take_foldl _ _ _ _ _ h
theorem stepF_neg {st : St} {p : Nat × Nat} (h : firstV (absAt st p.1 st.2.length p.1) < 0) : stepF st p = (absAt st p.1 st.2.length, st.2) := if_pos h
theorem stepF_pos {st : St} {p : Nat × Nat} (h : ¬ firstV (absAt st p.1 st.2.length p.1) < 0) : stepF st p = (sprAt st p.1 st.2.length, st.2 ++ [p]) := if_neg h
theorem stepF_sub (st : St) (p : Nat × Nat) : ∀ q ∈ (stepF st p).2, q ∈ st.2 ∨ q = p := by
  intro q hq
  unfold stepF at hq
  split at hq
  · exact .inl hq
  · rcases List.mem_append.1 hq with h | h
    · exact .inl h
    · exact .inr (List.mem_singleton.1 h)
theorem stepF_len (st : St) (p : Nat × Nat) : (stepF st p).2.length ≤ st.2.length + 1 := by
  unfold stepF
  split
  · exact Nat.le_succ _
  · rw [List.length_append]; exact Nat.le_refl _
theorem redAt_sub (F : Nat → List Int) (bs : List (Nat × Nat)) : ∀ i, i ≤ bs.length → (∀ q ∈ (redAt F bs i).2, q ∈ bs.take i) ∧ (redAt F bs i).2.length ≤ i
  | 0, _ => ⟨fun q hq => hq, Nat.le_refl _⟩
  | i + 1, h => by
    have ih := redAt_sub F bs i (by omega)
    rw [redAt_succ F bs (by omega : i < bs.length)]
    refine ⟨fun q hq => ?_, Nat.le_trans (stepF_len _ _) (by omega)⟩
    rw [List.take_succ_eq_append_getElem (by omega : i < bs.length)]
    rcases stepF_sub _ _ q hq with h1 | h1
    · exact List.mem_append_left _ (ih.1 q h1)
    · refine List.mem_append_right _ (List.mem_singleton.2 ?_)
      rw [h1, List.getD_eq_getElem?_getD, List.getElem?_eq_getElem (by omega : i < bs.length)]; rfl
theorem firstFrom_ge : ∀ (l : List Int) (n : Nat), firstFrom l n = -1 ∨ ∃ j, j < l.length ∧ firstFrom l n = ((n + j : Nat) : Int) ∧ l.getD j 0 ≠ 0 ∧ ∀ i, i < j → l.getD i 0 = 0
  | [], _ => .inl rfl
  | x :: t, n => by
    by_cases hx : x = 0
    · have e : firstFrom (x :: t) n = firstFrom t (n + 1) := by rw [firstFrom, if_neg (by simp [hx])]
      rw [e]
      rcases firstFrom_ge t (n + 1) with h | ⟨j, hj, h1, h2, h3⟩
      · exact .inl h
      · refine .inr ⟨j + 1, by simp; exact hj, by rw [h1]; congr 1; omega, by simpa using h2, fun i hi => ?_⟩
        cases i with
        | zero => simpa using hx
        | succ i => have := h3 i (by omega); simpa using this
    · refine .inr ⟨0, by simp, by rw [firstFrom, if_pos (by simpa using hx)]; rfl, by simpa using hx, fun i hi => absurd hi (by omega)⟩
theorem firstV_at (l : List Int) : firstV l = -1 ∨ ∃ j, j < l.length ∧ firstV l = (j : Int) ∧ l.getD j 0 ≠ 0 ∧ ∀ i, i < j → l.getD i 0 = 0 := by
  rcases firstFrom_ge l 0 with h | ⟨j, hj, h1, h2⟩
  · exact .inl h
  · exact .inr ⟨j, hj, by unfold firstV; rw [h1, Nat.zero_add], h2⟩
end Go.Proofs.YtcnekpdoldljgaaGreat.Red
end
section
namespace Go.Proofs.YtcnekpdoldljgaaGreat.Rank
abbrev Vec := Nat → Bool
def vx (u v : Vec) : Vec := fun j => u j != v j
def v0 : Vec := fun _ => false
theorem vx_zero (u : Vec) : vx u v0 = u := by funext j; simp [vx, v0]
theorem zero_vx (u : Vec) : vx v0 u = u := by funext j; simp [vx, v0]
theorem vx_self (u : Vec) : vx u u = v0 := by funext j; simp [vx, v0]
theorem vx_comm (u v : Vec) : vx u v = vx v u := by funext j; simp only [vx]; cases u j <;> cases v j <;> rfl
theorem vx_assoc (u v t : Vec) : vx (vx u v) t = vx u (vx v t) := by funext j; simp only [vx]; cases u j <;> cases v j <;> cases t j <;> rfl
theorem vx_cancel (u v : Vec) : vx (vx u v) v = u := by rw [vx_assoc, vx_self, vx_zero]
inductive Sp (R : List Vec) : Vec → Prop
  | zero : Sp R v0
  | add (v r : Vec) : Sp R v → r ∈ R → Sp R (vx v r)
theorem Sp.vx {R : List Vec} {u v : Vec} (hu : Sp R u) (hv : Sp R v) : Sp R (Rank.vx u v) := by
  induction hv with
  | zero => rw [vx_zero]; exact hu
  | add t r _ hr ih => rw [← vx_assoc]; exact .add _ _ ih hr
theorem Sp.of_mem {R : List Vec} {r : Vec} (h : r ∈ R) : Sp R r := by
  have := Sp.add v0 r (.zero (R := R)) h
  rw [zero_vx] at this; exact this
theorem Sp.mono {R S : List Vec} (h : ∀ r ∈ R, Sp S r) {v : Vec} (hv : Sp R v) : Sp S v := by
  induction hv with
  | zero => exact .zero
  | add t r _ hr ih => exact ih.vx (h r hr)
theorem Sp.cons {b : Vec} {B : List Vec} {v : Vec} (h : Sp (b :: B) v) : Sp B v ∨ Sp B (Rank.vx v b) := by
  induction h with
  | zero => exact .inl .zero
  | add t r _ hr ih =>
    rcases List.mem_cons.1 hr with e | e
    · subst e
      rcases ih with g | g
      · exact .inr (by rw [vx_cancel]; exact g)
      · exact .inl g
    · rcases ih with g | g
      · exact .inl (.add _ _ g e)
      · refine .inr ?_
        rw [vx_assoc, vx_comm r b, ← vx_assoc]
        exact .add _ _ g e
def Lead (v : Vec) (c : Nat) : Prop := v c = true ∧ ∀ j, j < c → v j = false
theorem Lead.unique {v : Vec} {c d : Nat} (h : Lead v c) (g : Lead v d) : c = d := by
  rcases Nat.lt_trichotomy c d with e | e | e
  · have := g.2 c e; rw [h.1] at this; exact absurd this (by simp)
  · exact e
  · have := h.2 d e; rw [g.1] at this; exact absurd this (by simp)
structure Ech (B : List (Vec × Nat)) : Prop where
  lead : ∀ b ∈ B, Lead b.1 b.2
  nod : (B.map Prod.snd).Nodup
theorem Ech.sp : ∀ {B : List (Vec × Nat)}, Ech B → ∀ {v : Vec}, Sp (B.map Prod.fst) v → v = v0 ∨ ∃ c, c ∈ B.map Prod.snd ∧ Lead v c
  | [], _, v, hv => by
    cases hv with
    | zero => exact .inl rfl
    | add t r _ hr => exact absurd hr (by simp)
  | b :: B, h, v, hv => by
    have hn := List.nodup_cons.1 h.nod
    have hB : Ech B := ⟨fun x hx => h.lead x (List.mem_cons_of_mem _ hx), hn.2⟩
    have hb := h.lead b List.mem_cons_self
    rcases Sp.cons hv with g | g
    · rcases hB.sp g with e | ⟨c, hc, hl⟩
      · exact .inl e
      · exact .inr ⟨c, List.mem_cons_of_mem _ hc, hl⟩
    · have ev : v = vx (vx v b.1) b.1 := (vx_cancel _ _).symm
      rcases hB.sp g with e | ⟨c, hc, hl⟩
      · rw [e, zero_vx] at ev
        exact .inr ⟨b.2, List.mem_cons_self, ev ▸ hb⟩
      · generalize vx v b.1 = u at *
        have hne : c ≠ b.2 := fun e => hn.1 (e ▸ hc)
        rcases Nat.lt_or_gt_of_ne hne with k | k
        · refine .inr ⟨c, List.mem_cons_of_mem _ hc, ?_, fun j hj => ?_⟩
          · rw [ev]; show (u c != b.1 c) = true; rw [hl.1, hb.2 c k]; rfl
          · rw [ev]; show (u j != b.1 j) = false; rw [hl.2 j hj, hb.2 j (by omega)]; rfl
        · refine .inr ⟨b.2, List.mem_cons_self, ?_, fun j hj => ?_⟩
          · rw [ev]; show (u b.2 != b.1 b.2) = true; rw [hl.2 b.2 k, hb.1]; rfl
          · rw [ev]; show (u j != b.1 j) = false; rw [hl.2 j (by omega), hb.2 j hj]; rfl
theorem nodup_le : ∀ {l m : List Nat}, l.Nodup → (∀ x ∈ l, x ∈ m) → l.length ≤ m.length
  | [], _, _, _ => Nat.zero_le _
  | a :: l, m, hd, h => by
    have hn := List.nodup_cons.1 hd
    have ha := h a List.mem_cons_self
    have := nodup_le (m := m.erase a) hn.2 (fun x hx => (List.mem_erase_of_ne (fun (e : x = a) => hn.1 (e ▸ hx))).2 (h x (List.mem_cons_of_mem _ hx)))
    rw [List.length_erase_of_mem ha] at this
    have := List.length_pos_of_mem ha
    rw [List.length_cons]; omega
theorem ech_le {A B : List (Vec × Nat)} (hA : Ech A) (hB : Ech B) (h : ∀ v, Sp (A.map Prod.fst) v → Sp (B.map Prod.fst) v) : A.length ≤ B.length := by
  have := nodup_le (l := A.map Prod.snd) (m := B.map Prod.snd) hA.nod (fun c hc => by
    obtain ⟨b, hb, rfl⟩ := List.mem_map.1 hc
    have hl := hA.lead b hb
    rcases hB.sp (h _ (Sp.of_mem (List.mem_map.2 ⟨b, hb, rfl⟩))) with e | ⟨d, hd, hl2⟩
    · rw [e] at hl; exact absurd hl.1 (by simp [v0])
    · rw [hl.unique hl2]; exact hd)
  simpa using this
theorem ech_eq {A B : List (Vec × Nat)} (hA : Ech A) (hB : Ech B) (h : ∀ v, Sp (A.map Prod.fst) v ↔ Sp (B.map Prod.fst) v) : A.length = B.length :=
  Nat.le_antisymm (ech_le hA hB fun v => (h v).1) (ech_le hB hA fun v => (h v).2)
end Go.Proofs.YtcnekpdoldljgaaGreat.Rank
end
section
namespace Go.Proofs.YtcnekpdoldljgaaGreat.Red
open Go.RowKit Go.Proofs.YtcnekpdoldljgaaGreat.F Go.Proofs.YtcnekpdoldljgaaGreat.ORows Go.Proofs.YtcnekpdoldljgaaGreat.Rank Go.Proofs.YtcnekpdoldljgaaGreatW.PrintWords Go.Proofs.YtcnekpdoldljgaaGreatW.PrintLast
def vec (l : List Int) : Vec := fun j => l.getD j 0 == 1
theorem bits_at {l : List Int} (h : Bits l) (j : Nat) : l.getD j 0 = 0 ∨ l.getD j 0 = 1 := by
  rcases Nat.lt_or_ge j l.length with hj | hj
  · rw [List.getD_eq_getElem?_getD, List.getElem?_eq_getElem hj]; exact h _ (List.getElem_mem hj)
  · rw [List.getD_eq_getElem?_getD, List.getElem?_eq_none hj]; exact .inl rfl
theorem lessV_len {row by' : List Int} (h : by'.length = row.length) : (lessV row by').length = row.length := by
  unfold lessV; rw [List.length_zipWith, h, Nat.min_self]
theorem lessV_at {row by' : List Int} (h : by'.length = row.length) (j : Nat) : (lessV row by').getD j 0 = (row.getD j 0 - row.getD (firstV by').toNat 0 * by'.getD j 0) % 2 ∨ row.length ≤ j := by
  rcases Nat.lt_or_ge j row.length with hj | hj
  · left
    unfold lessV
    have hj2 : j < (List.zipWith (fun x y => (x - row.getD (firstV by').toNat 0 * y) % 2) row by').length := by rw [List.length_zipWith, h, Nat.min_self]; exact hj
    rw [List.getD_eq_getElem?_getD, List.getElem?_eq_getElem hj2, Option.getD_some, List.getElem_zipWith]
    rw [List.getD_eq_getElem?_getD (l := row) (i := j), List.getElem?_eq_getElem hj, List.getD_eq_getElem?_getD (l := by') (i := j), List.getElem?_eq_getElem (by rw [h]; exact hj)]
    rfl
  · exact .inr hj
theorem lessV_bits (row by' : List Int) : Bits (lessV row by') := by
  intro x hx
  unfold lessV at hx
  obtain ⟨i, hi, rfl⟩ := List.mem_iff_getElem.1 hx
  rw [List.getElem_zipWith]
  omega
theorem lessV_vec {row by' : List Int} (h1 : Bits row) (h2 : Bits by') (h : by'.length = row.length) : vec (lessV row by') = if vec row (firstV by').toNat = true then vx (vec row) (vec by') else vec row := by
  funext j
  have key : ((lessV row by').getD j 0 == 1) = if (row.getD (firstV by').toNat 0 == 1) = true then ((row.getD j 0 == 1) != (by'.getD j 0 == 1)) else (row.getD j 0 == 1) := by
    rcases lessV_at h j with e | hj
    · rw [e]
      rcases bits_at h1 (firstV by').toNat with a | a <;> rcases bits_at h1 j with b | b <;> rcases bits_at h2 j with c | c <;> rw [a, b, c] <;> decide
    · rw [List.getD_eq_getElem?_getD (l := lessV row by'), List.getElem?_eq_none (by rw [lessV_len h]; exact hj), List.getD_eq_getElem?_getD (l := row) (i := j), List.getElem?_eq_none hj, List.getD_eq_getElem?_getD (l := by') (i := j), List.getElem?_eq_none (by rw [h]; exact hj)]
      split <;> decide
  show ((lessV row by').getD j 0 == 1) = _
  rw [key]
  show _ = (if vec row (firstV by').toNat = true then vx (vec row) (vec by') else vec row) j
  by_cases hc : vec row (firstV by').toNat = true
  · rw [if_pos hc, if_pos (show (row.getD (firstV by').toNat 0 == 1) = true from hc)]; rfl
  · rw [if_neg hc, if_neg (show ¬ (row.getD (firstV by').toNat 0 == 1) = true from hc)]; rfl
theorem first_lead {l : List Int} (h : Bits l) (h0 : 0 ≤ firstV l) : Lead (vec l) (firstV l).toNat ∧ (firstV l).toNat < l.length := by
  rcases firstV_at l with e | ⟨j, hj, e, hn, hz⟩
  · rw [e] at h0; exact absurd h0 (by decide)
  · rw [e, Int.toNat_natCast]
    refine ⟨⟨?_, fun i hi => ?_⟩, hj⟩
    · show (l.getD j 0 == 1) = true
      rcases bits_at h j with a | a
      · exact absurd a hn
      · rw [a]; rfl
    · show (l.getD i 0 == 1) = false
      rw [hz i hi]; rfl
theorem first_none {l : List Int} (h0 : firstV l < 0) : vec l = v0 := by
  funext j
  show (l.getD j 0 == 1) = false
  rcases Nat.lt_or_ge j l.length with hj | hj
  · rcases firstV_at l with e | ⟨i, _, e, _, _⟩
    · have key : ∀ (l : List Int) (n : Nat), firstFrom l n = -1 → ∀ x ∈ l, x = 0 := by
        intro l
        induction l with
        | nil => intro _ _ x hx; cases hx
        | cons y t ih =>
          intro n he x hx
          rw [firstFrom] at he
          split at he
          · omega
          · next hy =>
            rcases List.mem_cons.1 hx with e | e
            · subst e; simpa using hy
            · exact ih _ he x e
      have := key l 0 e (l.getD j 0) (by rw [List.getD_eq_getElem?_getD, List.getElem?_eq_getElem hj]; exact List.getElem_mem hj)
      rw [this]; rfl
    · rw [e] at h0; omega
  · rw [List.getD_eq_getElem?_getD, List.getElem?_eq_none hj]; rfl
theorem lead_first {l : List Int} (h : Bits l) {c : Nat} (hl : Lead (vec l) c) : firstV l = (c : Int) := by
  rcases Int.lt_or_le (firstV l) 0 with h0 | h0
  · have := first_none h0
    rw [this] at hl; exact absurd hl.1 (by simp [v0])
  · have := (first_lead h h0).1.unique hl
    omega
theorem rest_bits {x f y : Int} (hx : x = 0 ∨ x = 1) (hf : f = 0 ∨ f = 1) (hy : y = 0 ∨ y = 1) : impl_rest.f (wrap64 (x - wrap64 (f * y))) 2 = some ((x - f * y) % 2) := by
  unfold impl_rest.f
  rw [if_neg (by decide)]
  have hfy : f * y = 0 ∨ f * y = 1 := by rcases hf with rfl | rfl <;> rcases hy with rfl | rfl <;> simp
  generalize f * y = z at *
  have e1 : wrap64 z = z := by unfold wrap64; omega
  have e2 : wrap64 (x - z) = x - z := by unfold wrap64; omega
  rw [e1, e2]
  congr 1
  have t2 : Int.tmod (wrap64 2) 2 = 0 := by rw [show wrap64 2 = 2 from by unfold wrap64; omega]; rfl
  have t3 : Int.tmod (wrap64 3) 2 = 1 := by rw [show wrap64 3 = 3 from by unfold wrap64; omega]; rfl
  have t1 : Int.tmod (wrap64 1) 2 = 1 := by rw [show wrap64 1 = 1 from by unfold wrap64; omega]; rfl
  rcases hx with rfl | rfl <;> rcases hfy with rfl | rfl
  · exact t2
  · exact t1
  · exact t3
  · exact t2
theorem less_ok {row by' : List Int} (h1 : Bits row) (h2 : Bits by') (h : by'.length = row.length) (hs : row.length ≤ 1000) (h0 : 0 ≤ firstV by') : LessOk row by' := by
  obtain ⟨hl, hlt⟩ := first_lead h2 h0
  have hf : impl_first.f by' = some (firstV by') := if_pos (by omega)
  obtain ⟨f, hfe⟩ : ∃ f, f = row.getD (firstV by').toNat 0 := ⟨_, rfl⟩
  have hfb : f = 0 ∨ f = 1 := by rw [hfe]; exact bits_at h1 _
  have key : ∀ d j, j + d = row.length → impl_less.l0 (d + 1) ((lessV row by').take j ++ row.drop j) by' 2 f (row.length : Int) (j : Int) = some (lessV row by') := by
    intro d
    induction d with
    | zero =>
      intro j hj
      rw [impl_less.l0, if_neg (by omega), List.drop_eq_nil_of_le (by omega), List.append_nil, List.take_of_length_le (by rw [lessV_len h]; omega)]
    | succ d ih =>
      intro j hj
      have hjl : j < row.length := by omega
      have hll := lessV_len h
      have hlen : ((lessV row by').take j ++ row.drop j).length = row.length := by rw [List.length_append, List.length_take, List.length_drop, hll]; omega
      have e1 : rd ((lessV row by').take j ++ row.drop j) (j : Int) = row.getD j 0 := by
        show List.getD _ (j : Int).toNat 0 = _
        rw [Int.toNat_natCast, List.getD_eq_getElem?_getD, List.getElem?_append_right (by rw [List.length_take, hll]; omega), List.length_take, hll, Nat.min_eq_left (by omega), Nat.sub_self, List.getElem?_drop, Nat.add_zero, List.getD_eq_getElem?_getD]
      have e2 : rd by' (j : Int) = by'.getD j 0 := by show List.getD _ (j : Int).toNat 0 = _; rw [Int.toNat_natCast]
      rw [impl_less.l0, if_pos (by omega), if_pos (by omega), if_pos (by rw [hlen]; omega), if_pos (by rw [h]; omega), e1, e2, rest_bits (bits_at h1 j) hfb (bits_at h2 j), Option.bind_some]
      rw [Int.toNat_natCast]
      have e4 : ((lessV row by').take j ++ row.drop j).set j ((row.getD j 0 - f * by'.getD j 0) % 2) = (lessV row by').take (j + 1) ++ row.drop (j + 1) := by
        rw [List.drop_eq_getElem_cons hjl, List.set_append_right _ _ (by rw [List.length_take, hll]; omega), List.length_take, hll, Nat.min_eq_left (by omega), Nat.sub_self, List.set_cons_zero, List.take_succ_eq_append_getElem (by rw [hll]; exact hjl), List.append_assoc, List.singleton_append]
        congr 2
        rcases lessV_at h j with e | e
        · rw [hfe, ← e, List.getD_eq_getElem?_getD, List.getElem?_eq_getElem (by rw [hll]; exact hjl)]; rfl
        · omega
      have e3 : wrap64 ((j : Int) + 1) = ((j + 1 : Nat) : Int) := by unfold wrap64; omega
      rw [e3, e4]
      exact ih (j + 1) (by omega)
  refine ⟨row.length + 1, ?_⟩
  unfold impl_less.f
  rw [hf, Option.bind_some, if_pos h0, if_pos (by omega)]
  have := key row.length 0 (by omega)
  rw [List.take_zero, List.nil_append, List.drop_zero, hfe] at this
  exact this
end Go.Proofs.YtcnekpdoldljgaaGreat.Red
end
section
namespace Go.Proofs.YtcnekpdoldljgaaGreat.Red
open Go.RowKit Go.Proofs.YtcnekpdoldljgaaGreat.F Go.Proofs.YtcnekpdoldljgaaGreat.ORows Go.Proofs.YtcnekpdoldljgaaGreat.Rank
def IsRank (rs : List (List Int)) (r : Nat) : Prop := ∃ B : List (Vec × Nat), Ech B ∧ (∀ v, Sp (B.map Prod.fst) v ↔ Sp (rs.map vec) v) ∧ B.length = r
theorem IsRank.unique {rs : List (List Int)} {r s : Nat} (h : IsRank rs r) (g : IsRank rs s) : r = s := by
  obtain ⟨A, hA, h1, rfl⟩ := h
  obtain ⟨B, hB, h2, rfl⟩ := g
  exact ech_eq hA hB fun v => (h1 v).trans (h2 v).symm
theorem abs_other {b k : Nat} (h : k ≠ b) : ∀ (l : List (Nat × Nat)) (F : Nat → List Int), (l.foldl (absF b) F) k = F k
  | [], _ => rfl
  | p :: t, F => by rw [List.foldl_cons, abs_other h t]; exact upd_ne _ _ h
theorem spr_other {b k : Nat} : ∀ (l : List (Nat × Nat)) (F : Nat → List Int), (∀ q ∈ l, k ≠ q.1) → (l.foldl (sprF b) F) k = F k
  | [], _, _ => rfl
  | p :: t, F, h => by rw [List.foldl_cons, spr_other t _ (fun q hq => h q (List.mem_cons_of_mem _ hq))]; exact upd_ne _ _ (h p List.mem_cons_self)
theorem spr_at {b : Nat} : ∀ (l : List (Nat × Nat)) (F : Nat → List Int), (∀ q ∈ l, b ≠ q.1) → (l.map Prod.fst).Nodup → ∀ q ∈ l, (l.foldl (sprF b) F) q.1 = lessV (F q.1) (F b)
  | [], _, _, _, _, hq => by cases hq
  | p :: t, F, h, hn, q, hq => by
    have hn2 := List.nodup_cons.1 (show (p.1 :: t.map Prod.fst).Nodup from hn)
    rw [List.foldl_cons]
    rcases List.mem_cons.1 hq with e | e
    · subst e
      rw [spr_other t _ (fun r hr e2 => hn2.1 (List.mem_map.2 ⟨r, hr, e2.symm⟩))]
      exact upd_same _ _ _
    · rw [spr_at t _ (fun r hr => h r (List.mem_cons_of_mem _ hr)) hn2.2 q e]
      have e1 : q.1 ≠ p.1 := fun e2 => hn2.1 (e2 ▸ List.mem_map.2 ⟨q, e, rfl⟩)
      show lessV (upd F p.1 _ q.1) (upd F p.1 _ b) = _
      rw [upd_ne _ _ e1, upd_ne _ _ (h p List.mem_cons_self)]
structure Good (n : Nat) (bs : List (Nat × Nat)) (F : Nat → List Int) (i : Nat) (st : St) : Prop where
  bits : ∀ p ∈ bs, Bits (st.1 p.1) ∧ (st.1 p.1).length = n
  rest : ∀ p ∈ bs.drop i, st.1 p.1 = F p.1
  sub : ∀ q ∈ st.2, q ∈ bs.take i
  nod : (st.2.map Prod.fst).Nodup
  lead : ∀ q ∈ st.2, 0 ≤ firstV (st.1 q.1)
  zero : ∀ q ∈ st.2, ∀ r ∈ st.2, q.1 ≠ r.1 → vec (st.1 r.1) (firstV (st.1 q.1)).toNat = false
  span : ∀ v, Sp (st.2.map fun q => vec (st.1 q.1)) v ↔ Sp ((bs.take i).map fun p => vec (F p.1)) v
theorem take_ne {bs : List (Nat × Nat)} (hnd : (bs.map Prod.fst).Nodup) {x y : Nat} (hxy : x ≤ y) (hy : y < bs.length) {q : Nat × Nat} (hq : q ∈ bs.take x) : q.1 ≠ (bs.getD y (0, 0)).1 := by
  obtain ⟨i, hi, rfl⟩ := List.mem_take_iff_getElem.1 hq
  rw [List.getD_eq_getElem?_getD, List.getElem?_eq_getElem hy]
  exact List.pairwise_iff_getElem.1 (List.pairwise_map.1 hnd) i y (by omega) hy (by omega)
section
variable {n : Nat} {bs : List (Nat × Nat)} {F : Nat → List Int} {i : Nat} {st : St}
theorem abs_val (hg : Good n bs F i st) (hn : n ≤ 1000) {p : Nat × Nat} (hp : p ∈ bs) (hne : ∀ q ∈ st.2, q.1 ≠ p.1) : ∀ j, j ≤ st.2.length →
    (Bits (absAt st p.1 j p.1) ∧ (absAt st p.1 j p.1).length = n) ∧ (∀ q ∈ st.2.take j, vec (absAt st p.1 j p.1) (firstV (st.1 q.1)).toNat = false) ∧
      (∃ u, Sp (st.2.map fun q => vec (st.1 q.1)) u ∧ vec (absAt st p.1 j p.1) = vx (vec (st.1 p.1)) u) ∧ (j < st.2.length → LessOk (absAt st p.1 j p.1) (absAt st p.1 j (st.2.getD j (0, 0)).1)) := by
  have less : ∀ j, j < st.2.length → (Bits (absAt st p.1 j p.1) ∧ (absAt st p.1 j p.1).length = n) → LessOk (absAt st p.1 j p.1) (absAt st p.1 j (st.2.getD j (0, 0)).1) := by
    intro j hj hb
    have hm : st.2.getD j (0, 0) ∈ st.2 := by rw [List.getD_eq_getElem?_getD, List.getElem?_eq_getElem hj]; exact List.getElem_mem hj
    have hq := hg.bits _ (List.mem_of_mem_take (hg.sub _ hm))
    rw [show absAt st p.1 j (st.2.getD j (0, 0)).1 = st.1 (st.2.getD j (0, 0)).1 from abs_other (hne _ hm) _ _]
    exact less_ok hb.1 hq.1 (by rw [hq.2, hb.2]) (by rw [hb.2]; exact hn) (hg.lead _ hm)
  intro j
  induction j with
  | zero =>
    intro _
    have hb := hg.bits p hp
    exact ⟨hb, fun q hq => by simp at hq, ⟨v0, .zero, (vx_zero _).symm⟩, fun h => less 0 h hb⟩
  | succ j ih =>
    intro hj
    have hj' : j < st.2.length := hj
    obtain ⟨hb, hz, ⟨u, hu, he⟩, _⟩ := ih (by omega)
    have hm : st.2.getD j (0, 0) ∈ st.2 := by rw [List.getD_eq_getElem?_getD, List.getElem?_eq_getElem hj']; exact List.getElem_mem hj'
    obtain ⟨q, hqe⟩ : ∃ q, st.2.getD j (0, 0) = q := ⟨_, rfl⟩
    rw [hqe] at hm
    have hq := hg.bits _ (List.mem_of_mem_take (hg.sub _ hm))
    have hv : absAt st p.1 (j + 1) p.1 = lessV (absAt st p.1 j p.1) (st.1 q.1) := by
      rw [absAt_succ st p.1 hj', hqe]
      show upd _ p.1 (lessV (absAt st p.1 j p.1) (absAt st p.1 j q.1)) p.1 = _
      rw [upd_same, show absAt st p.1 j q.1 = st.1 q.1 from abs_other (hne _ hm) _ _]
    have hbits : Bits (absAt st p.1 (j + 1) p.1) ∧ (absAt st p.1 (j + 1) p.1).length = n := by
      rw [hv]; exact ⟨lessV_bits _ _, by rw [lessV_len (by rw [hq.2, hb.2]), hb.2]⟩
    have hvec := lessV_vec hb.1 hq.1 (by rw [hq.2, hb.2])
    rw [← hv] at hvec
    have hlq := (first_lead hq.1 (hg.lead _ hm)).1
    refine ⟨hbits, fun q0 hq0 => ?_, ?_, fun h => less (j + 1) h hbits⟩
    · rw [List.take_succ_eq_append_getElem hj'] at hq0
      rw [hvec]
      have hqj : st.2[j] = q := by rw [← hqe, List.getD_eq_getElem?_getD, List.getElem?_eq_getElem hj']; rfl
      rcases List.mem_append.1 hq0 with h | h
      · have h1 := hz q0 h
        have hne2 : q0.1 ≠ q.1 := by
          obtain ⟨a, ha, rfl⟩ := List.mem_take_iff_getElem.1 h
          rw [← hqj]
          exact List.pairwise_iff_getElem.1 (List.pairwise_map.1 hg.nod) a j (by omega) hj' (by omega)
        have h2 := hg.zero q0 (List.mem_of_mem_take h) q hm hne2
        split
        · show (vec (absAt st p.1 j p.1) _ != vec (st.1 q.1) _) = false
          rw [h1, h2]; rfl
        · exact h1
      · rw [List.mem_singleton.1 h, hqj]
        split
        · next hc =>
          show (vec (absAt st p.1 j p.1) _ != vec (st.1 q.1) _) = false
          rw [hc, hlq.1]; rfl
        · next hc => simpa using hc
    · rw [hvec]
      split
      · refine ⟨vx u (vec (st.1 q.1)), .add _ _ hu (List.mem_map.2 ⟨q, hm, rfl⟩), ?_⟩
        rw [he, vx_assoc]
      · exact ⟨u, hu, he⟩
theorem spanned {A B : List Vec} (h1 : ∀ a ∈ A, Sp B a) (h2 : ∀ b ∈ B, Sp A b) (v : Vec) : Sp A v ↔ Sp B v := ⟨Sp.mono h1, Sp.mono h2⟩
theorem vx_eq_v0 {a b : Vec} (h : vx a b = v0) : a = b := by
  have := congrArg (fun t => vx t b) h
  simp only [vx_cancel, zero_vx] at this
  exact this
theorem good_step (hnd : (bs.map Prod.fst).Nodup) (hn : n ≤ 1000) (hi : i < bs.length) (hg : Good n bs F i st) : StepOk st (bs.getD i (0, 0)).1 ∧ Good n bs F (i + 1) (stepF st (bs.getD i (0, 0))) := by
  obtain ⟨p, hpe⟩ : ∃ p, bs.getD i (0, 0) = p := ⟨_, rfl⟩
  have hpi : bs[i] = p := by rw [← hpe, List.getD_eq_getElem?_getD, List.getElem?_eq_getElem hi]; rfl
  have hp : p ∈ bs := by rw [← hpi]; exact List.getElem_mem hi
  have hne : ∀ q ∈ st.2, q.1 ≠ p.1 := fun q hq => by rw [← hpe]; exact take_ne hnd (Nat.le_refl _) hi (hg.sub q hq)
  have hpF : st.1 p.1 = F p.1 := hg.rest p (by rw [List.drop_eq_getElem_cons hi, hpi]; exact List.mem_cons_self)
  have hdrop : ∀ q ∈ bs.drop (i + 1), q ∈ bs.drop i ∧ q.1 ≠ p.1 ∧ ∀ r ∈ st.2, r.1 ≠ q.1 := fun q hq => by
    obtain ⟨a, ha', rfl⟩ := List.mem_drop_iff_getElem.1 hq
    have ha : i + 1 + a < bs.length := by omega
    have hq2 : bs.getD (i + 1 + a) (0, 0) = bs[i + 1 + a] := by rw [List.getD_eq_getElem?_getD, List.getElem?_eq_getElem ha]; rfl
    refine ⟨by rw [List.drop_eq_getElem_cons hi]; exact List.mem_cons_of_mem _ hq, fun e => ?_, fun r hr => ?_⟩
    · have := List.pairwise_iff_getElem.1 (List.pairwise_map.1 hnd) i (i + 1 + a) hi ha (by omega)
      rw [hpi] at this; exact this e.symm
    · have := take_ne hnd (by omega : i ≤ i + 1 + a) ha (hg.sub r hr)
      rw [hq2] at this; exact this
  have htake : bs.take (i + 1) = bs.take i ++ [p] := by rw [List.take_succ_eq_append_getElem hi, hpi]
  have habs := abs_val hg hn hp hne
  obtain ⟨F1, hF1⟩ : ∃ F1, absAt st p.1 st.2.length = F1 := ⟨_, rfl⟩
  obtain ⟨hcb, hcz, ⟨u, hu, hcu⟩, _⟩ := habs st.2.length (Nat.le_refl _)
  rw [hF1] at hcb hcz hcu
  rw [List.take_length] at hcz
  have hother : ∀ k, k ≠ p.1 → F1 k = st.1 k := fun k hk => by rw [← hF1]; exact abs_other hk _ _
  have hfold : ∀ j, sprAt st p.1 j = (st.2.take j).foldl (sprF p.1) F1 := fun j => by unfold sprAt; rw [hF1]
  have hless : 0 ≤ firstV (F1 p.1) → ∀ j, j < st.2.length → LessOk (sprAt st p.1 j (st.2.getD j (0, 0)).1) (sprAt st p.1 j p.1) := by
    intro h0 j hj
    have hm : st.2.getD j (0, 0) ∈ st.2 := by rw [List.getD_eq_getElem?_getD, List.getElem?_eq_getElem hj]; exact List.getElem_mem hj
    have hq := hg.bits _ (List.mem_of_mem_take (hg.sub _ hm))
    have e1 : sprAt st p.1 j (st.2.getD j (0, 0)).1 = st.1 (st.2.getD j (0, 0)).1 := by
      rw [hfold, spr_other _ _ (fun r hr => (take_ne hg.nod (Nat.le_refl j) hj hr).symm), hother _ (hne _ hm)]
    have e2 : sprAt st p.1 j p.1 = F1 p.1 := by rw [hfold, spr_other _ _ (fun r hr => (hne r (List.mem_of_mem_take hr)).symm)]
    rw [e1, e2]
    exact less_ok hq.1 hcb.1 (by rw [hq.2, hcb.2]) (by rw [hq.2]; exact hn) h0
  have hstep : StepOk st p.1 := ⟨fun j hj => (habs j (Nat.le_of_lt hj)).2.2.2 hj, by rw [hF1]; exact hcb.1, fun h0 => hless (by rw [← hF1]; exact h0)⟩
  have hSi : ∀ v, Sp (st.2.map fun q => vec (st.1 q.1)) v → Sp ((bs.take (i + 1)).map fun p => vec (F p.1)) v := fun v hv =>
    Sp.mono (fun r hr => Sp.of_mem (by rw [htake, List.map_append]; exact List.mem_append_left _ hr)) ((hg.span v).1 hv)
  have hTi : ∀ r, r ∈ (bs.take (i + 1)).map (fun p => vec (F p.1)) → Sp (st.2.map fun q => vec (st.1 q.1)) r ∨ r = vec (st.1 p.1) := fun r hr => by
    rw [htake, List.map_append] at hr
    rcases List.mem_append.1 hr with h | h
    · exact .inl ((hg.span r).2 (Sp.of_mem h))
    · rw [List.map_singleton] at h
      rw [hpF]; exact .inr (List.mem_singleton.1 h)
  rw [hpe]
  refine ⟨hstep, ?_⟩
  by_cases h0 : firstV (F1 p.1) < 0
  · have hz := first_none h0
    rw [hcu] at hz
    have hpu := vx_eq_v0 hz
    rw [stepF_neg (by rw [hF1]; exact h0), hF1]
    have hmap : (st.2.map fun q => vec (F1 q.1)) = st.2.map fun q => vec (st.1 q.1) := List.map_congr_left (fun q hq => by rw [hother _ (hne q hq)])
    refine ⟨fun q hq => ?_, fun q hq => ?_, fun q hq => ?_, hg.nod, fun q hq => ?_, fun q hq r hr hqr => ?_, fun v => ?_⟩
    · by_cases e : q.1 = p.1
      · show Bits (F1 q.1) ∧ (F1 q.1).length = n
        rw [e]; exact hcb
      · show Bits (F1 q.1) ∧ (F1 q.1).length = n
        rw [hother _ e]; exact hg.bits q hq
    · obtain ⟨h1, h2, _⟩ := hdrop q hq
      exact (hother _ h2).trans (hg.rest q h1)
    · rw [htake]; exact List.mem_append_left _ (hg.sub q hq)
    · show 0 ≤ firstV (F1 q.1)
      rw [hother _ (hne q hq)]; exact hg.lead q hq
    · show vec (F1 r.1) (firstV (F1 q.1)).toNat = false
      rw [hother _ (hne q hq), hother _ (hne r hr)]; exact hg.zero q hq r hr hqr
    · show Sp (st.2.map fun q => vec (F1 q.1)) v ↔ _
      rw [hmap]
      refine spanned (fun a ha => hSi a (Sp.of_mem ha)) (fun b hb => ?_) v
      rcases hTi b hb with h | h
      · exact h
      · rw [h, hpu]; exact hu
  · have h0' : 0 ≤ firstV (F1 p.1) := by omega
    obtain ⟨hL, hLn⟩ := first_lead hcb.1 h0'
    rw [stepF_pos (by rw [hF1]; exact h0)]
    obtain ⟨G, hG⟩ : ∃ G, sprAt st p.1 st.2.length = G := ⟨_, rfl⟩
    rw [hG]
    have hGe : G = st.2.foldl (sprF p.1) F1 := by rw [← hG, hfold, List.take_length]
    have hGp : G p.1 = F1 p.1 := by rw [hGe, spr_other _ _ (fun r hr => (hne r hr).symm)]
    have hGq : ∀ q ∈ st.2, G q.1 = lessV (st.1 q.1) (F1 p.1) := fun q hq => by
      rw [hGe, spr_at _ _ (fun r hr => (hne r hr).symm) hg.nod q hq, hother _ (hne q hq)]
    have hGo : ∀ k, k ≠ p.1 → (∀ r ∈ st.2, r.1 ≠ k) → G k = st.1 k := fun k h1 h2 => by
      rw [hGe, spr_other _ _ (fun r hr => (h2 r hr).symm), hother _ h1]
    have hqb : ∀ q ∈ st.2, Bits (st.1 q.1) ∧ (st.1 q.1).length = n := fun q hq => hg.bits _ (List.mem_of_mem_take (hg.sub _ hq))
    have hGv : ∀ q ∈ st.2, vec (G q.1) = if vec (st.1 q.1) (firstV (F1 p.1)).toNat = true then vx (vec (st.1 q.1)) (vec (F1 p.1)) else vec (st.1 q.1) := fun q hq => by
      rw [hGq q hq]; exact lessV_vec (hqb q hq).1 hcb.1 (by rw [hcb.2, (hqb q hq).2])
    have hGb : ∀ q ∈ st.2, Bits (G q.1) ∧ (G q.1).length = n := fun q hq => by
      rw [hGq q hq]; exact ⟨lessV_bits _ _, by rw [lessV_len (by rw [hcb.2, (hqb q hq).2]), (hqb q hq).2]⟩
    have hGl : ∀ q ∈ st.2, firstV (G q.1) = firstV (st.1 q.1) := fun q hq => by
      have hl := (first_lead (hqb q hq).1 (hg.lead q hq)).1
      have hz := hcz q hq
      have : Lead (vec (G q.1)) (firstV (st.1 q.1)).toNat := by
        rw [hGv q hq]
        split
        · next hc =>
          have hlt : (firstV (st.1 q.1)).toNat < (firstV (F1 p.1)).toNat := by
            rcases Nat.lt_trichotomy (firstV (st.1 q.1)).toNat (firstV (F1 p.1)).toNat with h | h | h
            · exact h
            · rw [h, hL.1] at hz; exact absurd hz (by simp)
            · have := hl.2 _ h; rw [this] at hc; exact absurd hc (by simp)
          refine ⟨?_, fun j hj => ?_⟩
          · show (vec (st.1 q.1) _ != vec (F1 p.1) _) = true
            rw [hl.1, hz]; rfl
          · show (vec (st.1 q.1) j != vec (F1 p.1) j) = false
            rw [hl.2 j hj, hL.2 j (by omega)]; rfl
        · exact hl
      rw [lead_first (hGb q hq).1 this]
      have := hg.lead q hq; omega
    have hmapG : ((st.2 ++ [p]).map fun q => vec (G q.1)) = (st.2.map fun q => vec (G q.1)) ++ [vec (F1 p.1)] := by
      rw [List.map_append, List.map_singleton, hGp]
    have hcur : Sp ((st.2 ++ [p]).map fun q => vec (G q.1)) (vec (F1 p.1)) := Sp.of_mem (by rw [hmapG]; exact List.mem_append_right _ (List.mem_singleton.2 rfl))
    have hold : ∀ v, Sp (st.2.map fun q => vec (st.1 q.1)) v → Sp ((st.2 ++ [p]).map fun q => vec (G q.1)) v := fun v hv => by
      refine Sp.mono (fun r hr => ?_) hv
      obtain ⟨q, hq, rfl⟩ := List.mem_map.1 hr
      have hm : Sp ((st.2 ++ [p]).map fun q => vec (G q.1)) (vec (G q.1)) := Sp.of_mem (List.mem_map.2 ⟨q, List.mem_append_left _ hq, rfl⟩)
      have hv := hGv q hq
      split at hv
      · have : vec (st.1 q.1) = vx (vec (G q.1)) (vec (F1 p.1)) := by rw [hv, vx_cancel]
        rw [this]; exact hm.vx hcur
      · rw [← hv]; exact hm
    refine ⟨fun q hq => ?_, fun q hq => ?_, fun q hq => ?_, ?_, fun q hq => ?_, fun q hq r hr hqr => ?_, fun v => ?_⟩
    · show Bits (G q.1) ∧ (G q.1).length = n
      by_cases e : q.1 = p.1
      · rw [e, hGp]; exact hcb
      · by_cases e2 : ∃ r ∈ st.2, r.1 = q.1
        · obtain ⟨r, hr, e3⟩ := e2
          rw [← e3]; exact hGb r hr
        · rw [hGo _ e (fun r hr e3 => e2 ⟨r, hr, e3⟩)]; exact hg.bits q hq
    · obtain ⟨h1, h2, h3⟩ := hdrop q hq
      exact (hGo _ h2 h3).trans (hg.rest q h1)
    · rw [htake]
      rcases List.mem_append.1 hq with h | h
      · exact List.mem_append_left _ (hg.sub q h)
      · exact List.mem_append_right _ h
    · show ((st.2 ++ [p]).map Prod.fst).Nodup
      rw [List.map_append, List.map_singleton]
      refine List.nodup_append.2 ⟨hg.nod, by simp, fun a ha b hb e => ?_⟩
      obtain ⟨q, hq, rfl⟩ := List.mem_map.1 ha
      exact hne q hq (e.trans (List.mem_singleton.1 hb))
    · show 0 ≤ firstV (G q.1)
      rcases List.mem_append.1 hq with h | h
      · rw [hGl q h]; exact hg.lead q h
      · rw [List.mem_singleton.1 h, hGp]; exact h0'
    · show vec (G r.1) (firstV (G q.1)).toNat = false
      rcases List.mem_append.1 hq with hq | hq <;> rcases List.mem_append.1 hr with hr | hr
      · rw [hGl q hq, hGv r hr]
        have h1 := hg.zero q hq r hr hqr
        split
        · show (vec (st.1 r.1) _ != vec (F1 p.1) _) = false
          rw [h1, hcz q hq]; rfl
        · exact h1
      · rw [List.mem_singleton.1 hr, hGp, hGl q hq]; exact hcz q hq
      · rw [List.mem_singleton.1 hq, hGp, hGv r hr]
        split
        · next hc =>
          show (vec (st.1 r.1) _ != vec (F1 p.1) _) = false
          rw [hc, hL.1]; rfl
        · next hc => simpa using hc
      · rw [List.mem_singleton.1 hq, List.mem_singleton.1 hr] at hqr
        exact absurd rfl hqr
    · show Sp ((st.2 ++ [p]).map fun q => vec (G q.1)) v ↔ _
      have hcurS : Sp ((bs.take (i + 1)).map fun p => vec (F p.1)) (vec (F1 p.1)) := by
        rw [hcu, hpF]
        refine Sp.vx (Sp.of_mem ?_) (hSi u hu)
        rw [htake, List.map_append]; exact List.mem_append_right _ (by simp)
      refine spanned (fun a ha => ?_) (fun b hb => ?_) v
      · rw [hmapG] at ha
        rcases List.mem_append.1 ha with h | h
        · obtain ⟨q, hq, rfl⟩ := List.mem_map.1 h
          have hm := hSi (vec (st.1 q.1)) (Sp.of_mem (List.mem_map.2 ⟨q, hq, rfl⟩))
          show Sp _ (vec (G q.1))
          rw [hGv q hq]
          split
          · exact hm.vx hcurS
          · exact hm
        · rw [List.mem_singleton.1 h]; exact hcurS
      · rcases hTi b hb with h | h
        · exact hold b h
        · have : vec (st.1 p.1) = vx (vec (F1 p.1)) u := by rw [hcu, vx_cancel]
          rw [h, this]; exact hcur.vx (hold u hu)
end
theorem red_ok {n : Nat} {bs : List (Nat × Nat)} {F : Nat → List Int} (hnd : (bs.map Prod.fst).Nodup) (hn : n ≤ 1000) (hb : ∀ p ∈ bs, Bits (F p.1) ∧ (F p.1).length = n) :
    RedOk F bs ∧ IsRank (bs.map fun p => F p.1) (redAt F bs bs.length).2.length := by
  have hgood : ∀ i, i ≤ bs.length → Good n bs F i (redAt F bs i) := by
    intro i
    induction i with
    | zero => exact fun _ => ⟨hb, fun _ _ => rfl, fun q hq => hq, List.Pairwise.nil, (fun q hq => by cases hq), (fun q hq => by cases hq), (fun v => by rw [List.take_zero]; exact Iff.rfl)⟩
    | succ i ih =>
      intro hi
      rw [redAt_succ F bs hi]
      exact (good_step hnd hn hi (ih (by omega))).2
  refine ⟨fun i hi => (good_step hnd hn hi (hgood i (Nat.le_of_lt hi))).1, ?_⟩
  have hg := hgood bs.length (Nat.le_refl _)
  obtain ⟨st, hst⟩ : ∃ st, redAt F bs bs.length = st := ⟨_, rfl⟩
  rw [hst] at hg ⊢
  have hq : ∀ q ∈ st.2, Lead (vec (st.1 q.1)) (firstV (st.1 q.1)).toNat := fun q hq => (first_lead (hg.bits q (List.mem_of_mem_take (hg.sub q hq))).1 (hg.lead q hq)).1
  refine ⟨st.2.map fun q => (vec (st.1 q.1), (firstV (st.1 q.1)).toNat), ⟨fun x hx => ?_, ?_⟩, fun v => ?_, List.length_map _⟩
  · obtain ⟨q, hq2, rfl⟩ := List.mem_map.1 hx
    exact hq q hq2
  · rw [List.map_map]
    refine List.pairwise_map.2 (List.Pairwise.imp_of_mem ?_ (List.pairwise_map.1 hg.nod))
    intro a b ha hb hab e
    have h1 := hg.zero a ha b hb hab
    have h2 := (hq b hb).1
    have e' : (firstV (st.1 a.1)).toNat = (firstV (st.1 b.1)).toNat := e
    rw [e', h2] at h1; exact absurd h1 (by simp)
  · have := hg.span v
    rw [List.take_length] at this
    rw [List.map_map, List.map_map]
    exact this
end Go.Proofs.YtcnekpdoldljgaaGreat.Red
end
section
namespace Go.Proofs.YtcnekpdoldljgaaGreat.Pure
open Go.RowKit Go.Proofs.YtcnekpdoldljgaaGreat.F Go.Proofs.YtcnekpdoldljgaaGreatW.PrintWords Go.Proofs.YtcnekpdoldljgaaGreatW.PrintLast
def upN (k : Nat) : List Int := (List.range k).map fun i : Nat => (i : Int)
theorem upN_len (k : Nat) : (upN k).length = k := by simp [upN]
theorem upN_at (k i : Nat) (h : i < (upN k).length) : (upN k)[i] = (i : Int) := by simp [upN]
theorem upN_succ (k : Nat) : upN (k + 1) = upN k ++ [(k : Int)] := by simp [upN, List.range_succ]
theorem upN_mem (k i : Nat) : (upN k).contains (i : Int) = decide (i < k) := by
  rw [Bool.eq_iff_iff, decide_eq_true_iff]
  simp only [List.contains_iff_mem, upN, List.mem_map, List.mem_range]
  exact ⟨fun ⟨j, hj, e⟩ => by omega, fun h => ⟨i, h, rfl⟩⟩
theorem upN_idx (k i : Nat) (h : i < k) : (upN k).idxOf (i : Int) = i := by
  have hm : (i : Int) ∈ upN k := List.mem_map.2 ⟨i, List.mem_range.2 h, rfl⟩
  have hl := List.idxOf_lt_length_of_mem hm
  have h1 := List.getElem_idxOf hl
  rw [upN_at] at h1
  omega
theorem nrm_twice (l : List Int) : mets (nrm l) = upN (mets l).length ∧ nrm (nrm l) = nrm l := by
  refine snocInd (P := fun l => mets (nrm l) = upN (mets l).length ∧ nrm (nrm l) = nrm l) ⟨rfl, rfl⟩ (fun l x ⟨h1, h2⟩ => ?_) l
  rw [nrm_snoc, mets_snoc, mets_snoc, nrm_snoc, h1, h2]
  by_cases hx : (mets l).contains x = true
  · have hlt : (mets l).idxOf x < (mets l).length := List.idxOf_lt_length_of_mem (by simpa using hx)
    rw [if_pos hx, if_pos hx, upN_mem, decide_eq_true hlt, if_pos rfl, if_pos rfl, upN_idx _ _ hlt]
    exact ⟨rfl, rfl⟩
  · rw [if_neg hx, if_neg hx, upN_mem, decide_eq_false (Nat.lt_irrefl _), if_neg (by simp), if_neg (by simp), upN_len, List.length_append, List.length_singleton, upN_succ]
    exact ⟨rfl, rfl⟩
theorem nrm_map (l : List Int) : nrm l = l.map fun x => ((mets l).idxOf x : Int) := by
  refine snocInd (P := fun l => nrm l = l.map fun x => ((mets l).idxOf x : Int)) rfl (fun l x h => ?_) l
  rw [nrm_snoc, mets_snoc, List.map_append, List.map_singleton]
  by_cases hx : (mets l).contains x = true
  · rw [if_pos hx, if_pos hx, ← h]
  · rw [if_neg hx, if_neg hx, h]
    congr 1
    · refine List.map_congr_left (fun y hy => ?_)
      rw [List.idxOf_append, if_pos ((mets_mem l y).2 hy)]
    · have hx' : x ∉ mets l := by simpa using hx
      rw [List.idxOf_append, if_neg hx']
      simp
theorem word_of_two {l : List Int} (hl : l.length ≤ 12) (h2 : ∀ x ∈ l, l.count x = 2) : Word (nrm l) := by
  refine ⟨by rw [nrm_len]; exact hl, fun y hy => ?_, (nrm_twice l).2⟩
  have hm := nrm_map l
  rw [hm] at hy ⊢
  obtain ⟨x, hx, rfl⟩ := List.mem_map.1 hy
  rw [← h2 x hx]
  rw [List.count_eq_countP, List.count_eq_countP, List.countP_map]
  refine List.countP_congr (fun z hz => ?_)
  simp only [Function.comp, beq_iff_eq]
  constructor
  · intro e
    have e' : (mets l).idxOf z = (mets l).idxOf x := by omega
    have hz' := List.idxOf_lt_length_of_mem ((mets_mem l z).2 hz)
    have hx' := List.idxOf_lt_length_of_mem ((mets_mem l x).2 hx)
    have a := List.getElem_idxOf hz'
    have b := List.getElem_idxOf hx'
    rw [← a, ← b]
    congr 1
  · intro e; rw [e]
theorem some_two {w : List Int} (hw : Word w) (p : Int → Bool) : ∀ x ∈ w.filter p, (w.filter p).count x = 2 := by
  intro x hx
  have h := List.mem_filter.1 hx
  rw [List.count_filter h.2]
  exact hw.two x h.1
theorem some_len {w : List Int} (hw : Word w) (p : Int → Bool) (m : List Int) (hn : m.Nodup) (hm : ∀ x, x ∈ m ↔ x ∈ w ∧ p x = true) : (w.filter p).length = 2 * m.length :=
  len_two _ _ hn (fun x hx => (hm x).2 (List.mem_filter.1 hx)) (fun x hx => some_two hw p x (List.mem_filter.2 ((hm x).1 hx)))
end Go.Proofs.YtcnekpdoldljgaaGreat.Pure
end
section
namespace Go.Proofs.YtcnekpdoldljgaaGreat.F
open Go.RowKit Go.Proofs.YtcnekpdoldljgaaGreatW.PrintWords Go.Proofs.YtcnekpdoldljgaaGreatW.PrintLast Go.Proofs.YtcnekpdoldljgaaGreat.Pure Go.Proofs.YtcnekpdoldljgaaGreat.Mem Go.Proofs.YtcnekpdoldljgaaGreat.Red Go.Proofs.YtcnekpdoldljgaaGreat.ORows
def setTo (s i : Nat) : List Nat := (List.range i).filter fun k => s.testBit k
theorem setTo_succ (s i : Nat) : setTo s (i + 1) = if s.testBit i = true then setTo s i ++ [i] else setTo s i := by
  unfold setTo
  rw [List.range_succ, List.filter_append]
  by_cases h : s.testBit i = true
  · rw [if_pos h, List.filter_cons_of_pos (by simpa using h), List.filter_nil]
  · rw [if_neg h, List.filter_cons_of_neg (by simpa using h), List.filter_nil, List.append_nil]
theorem setTo_le (s : Nat) : ∀ i, (setTo s i).length ≤ i
  | 0 => Nat.le_refl _
  | i + 1 => by
    rw [setTo_succ]
    split
    · rw [List.length_append, List.length_singleton]; exact Nat.succ_le_succ (setTo_le s i)
    · exact Nat.le_succ_of_le (setTo_le s i)
theorem bit_form (k j : Nat) (hk : k < 2 ^ 62) (hj : j < 64) : (Go.bits .and .i64 ((k : Int) / 2 ^ min j 64) 1 == 1) = k.testBit j := by
  rw [Nat.min_eq_left (by omega), show ((k : Int) / 2 ^ j) = ((k / 2 ^ j : Nat) : Int) from by rw [Int.natCast_ediv, Int.natCast_pow]; rfl, and1_nat _ (by have := Nat.div_le_self k (2 ^ j); omega), Nat.testBit_eq_decide_div_mod_eq, Bool.eq_iff_iff, beq_iff_eq, decide_eq_true_iff]
  omega
theorem sh_two {n N : Nat} (hn6 : n ≤ 6) (hN : N = 2 ^ n) : wrap64 (2 ^ n) = (N : Int) := by
  subst hN
  have h : 2 ^ n ≤ 64 := Nat.le_trans (Nat.pow_le_pow_right (by decide) hn6) (by decide)
  rw [show ((2 : Int) ^ n) = ((2 ^ n : Nat) : Int) from (Int.natCast_pow 2 n).symm]
  generalize 2 ^ n = m at *
  unfold wrap64; omega
def powC : Nat → List Int
  | 0 => [1]
  | m + 1 => List.zipWith (· - ·) (0 :: powC m) (powC m ++ [0])
theorem powC_len : ∀ m, (powC m).length = m + 1
  | 0 => rfl
  | m + 1 => by rw [powC, List.length_zipWith, List.length_cons, List.length_append, powC_len m]; simp
def addTo (old f : List Int) (j : Nat) : List Int := (List.range old.length).map fun i => if i < j then old.getD i 0 + f.getD i 0 else old.getD i 0
theorem addTo_len (old f : List Int) (j : Nat) : (addTo old f j).length = old.length := by simp [addTo]
theorem addTo_zero (old f : List Int) : addTo old f 0 = old := by
  refine List.ext_getElem (by simp [addTo]) (fun i h1 h2 => ?_)
  simp [addTo, List.getD_eq_getElem?_getD, List.getElem?_eq_getElem h2]
theorem addTo_at (old f : List Int) (j : Nat) (hj : j < old.length) : (addTo old f j).getD j 0 = old.getD j 0 := by
  rw [List.getD_eq_getElem?_getD, List.getElem?_eq_getElem (by rw [addTo_len]; exact hj)]
  simp [addTo]
theorem addTo_succ (old f : List Int) (j : Nat) (_hj : j < old.length) : (addTo old f j).set j (old.getD j 0 + f.getD j 0) = addTo old f (j + 1) := by
  refine List.ext_getElem (by simp [addTo]) (fun i h1 h2 => ?_)
  rw [List.getElem_set]
  split
  · next e => subst e; simp [addTo]
  · next e =>
    simp only [addTo, List.getElem_map, List.getElem_range]
    by_cases h : i < j
    · rw [if_pos h, if_pos (by omega)]
    · rw [if_neg h, if_neg (by omega)]
def rkC (rs : List (List Int)) : Nat := (redAt (fun i => rs.getD i []) ((List.range rs.length).map fun i => (i, 0)) rs.length).2.length
def inSet (s n : Nat) (x : Int) : Bool := (ints (setTo s n)).contains x
def innerOf (l0 : List Int) (s n : Nat) : List Int := nrm (l0.filter (inSet s n))
def coOf (l0 : List Int) (s n : Nat) : Nat := (setTo s n).length - rkC (rowsOf (innerOf l0 s n))
def polyTo (l0 : List Int) (n : Nat) : Nat → List Int
  | 0 => List.replicate (n + 1) 0
  | s + 1 => addTo (polyTo l0 n s) (powC (coOf l0 s n)) (coOf l0 s n + 1)
def interlaceV (l0 : List Int) : List Int := polyTo l0 (l0.length / 2) (2 ^ (l0.length / 2))
theorem polyTo_len (l0 : List Int) (n : Nat) : ∀ s, (polyTo l0 n s).length = n + 1
  | 0 => List.length_replicate
  | s + 1 => by rw [polyTo, addTo_len, polyTo_len l0 n s]
theorem powC_small : ∀ m, m ≤ 6 → ∀ i, -64 ≤ (powC m).getD i 0 ∧ (powC m).getD i 0 ≤ 64 := by
  intro m hm i
  have key : ∀ l : List Int, (l.all fun x => decide (-64 ≤ x) && decide (x ≤ 64)) = true → -64 ≤ l.getD i 0 ∧ l.getD i 0 ≤ 64 := by
    intro l hl
    rcases Nat.lt_or_ge i l.length with h | h
    · have := List.all_eq_true.1 hl _ (List.getElem_mem h)
      rw [List.getD_eq_getElem?_getD, List.getElem?_eq_getElem h]
      simpa using this
    · rw [List.getD_eq_getElem?_getD, List.getElem?_eq_none h]; simp
  have : m = 0 ∨ m = 1 ∨ m = 2 ∨ m = 3 ∨ m = 4 ∨ m = 5 ∨ m = 6 := by omega
  rcases this with rfl | rfl | rfl | rfl | rfl | rfl | rfl <;> exact key _ (by decide)
theorem addTo_get (old f : List Int) (j i : Nat) : (addTo old f j).getD i 0 = old.getD i 0 ∨ (addTo old f j).getD i 0 = old.getD i 0 + f.getD i 0 := by
  rcases Nat.lt_or_ge i old.length with h | h
  · rw [List.getD_eq_getElem?_getD, List.getElem?_eq_getElem (by rw [addTo_len]; exact h)]
    simp only [addTo, List.getElem_map, List.getElem_range, Option.getD_some]
    split
    · exact .inr rfl
    · exact .inl rfl
  · rw [List.getD_eq_getElem?_getD, List.getElem?_eq_none (by rw [addTo_len]; exact h), List.getD_eq_getElem?_getD (l := old), List.getElem?_eq_none h]; exact .inl rfl
theorem polyTo_small (l0 : List Int) (n : Nat) (hn : ∀ s, coOf l0 s n ≤ 6) : ∀ (s i : Nat), -(64 * (s : Int)) ≤ (polyTo l0 n s).getD i 0 ∧ (polyTo l0 n s).getD i 0 ≤ 64 * (s : Int)
  | 0, i => by
    rw [polyTo, List.getD_eq_getElem?_getD, List.getElem?_replicate]
    split <;> simp
  | s + 1, i => by
    have ih := polyTo_small l0 n hn s i
    have h2 := powC_small _ (hn s) i
    rw [polyTo]
    rcases addTo_get (polyTo l0 n s) (powC (coOf l0 s n)) (coOf l0 s n + 1) i with e | e <;> rw [e] <;> omega
theorem rkC_rank {rs : List (List Int)} {n : Nat} (hb : ∀ q ∈ rs, Bits q ∧ q.length = n) (hn : n ≤ 1000) : IsRank rs (rkC rs) ∧ rkC rs ≤ rs.length := by
  obtain ⟨bs, hbs⟩ : ∃ bs, bs = (List.range rs.length).map fun i => ((i, 0) : Nat × Nat) := ⟨_, rfl⟩
  have hlen : bs.length = rs.length := by rw [hbs, List.length_map, List.length_range]
  have hnd : (bs.map Prod.fst).Nodup := by
    rw [hbs, List.map_map, show (Prod.fst ∘ fun i => ((i, 0) : Nat × Nat)) = id from rfl, List.map_id]
    exact List.nodup_range
  have hmap : (bs.map fun p => rs.getD p.1 []) = rs := by
    rw [hbs, List.map_map]
    refine List.ext_getElem (by rw [List.length_map, List.length_range]) (fun i h1 h2 => ?_)
    rw [List.getElem_map, List.getElem_range]
    show rs.getD i [] = _
    rw [List.getD_eq_getElem?_getD, List.getElem?_eq_getElem h2]; rfl
  have h := red_ok (n := n) (F := fun i => rs.getD i []) hnd hn (fun p hp => by
    have hm : (fun p : Nat × Nat => rs.getD p.1 []) p ∈ bs.map (fun p => rs.getD p.1 []) := List.mem_map.2 ⟨p, hp, rfl⟩
    rw [hmap] at hm
    exact hb _ hm)
  rw [hmap, hlen] at h
  unfold rkC
  rw [← hbs]
  exact ⟨h.2, (redAt_sub _ bs rs.length (by omega)).2⟩
theorem inSet_mem (s n : Nat) (x : Int) : inSet s n x = true ↔ x ∈ ints (setTo s n) := by unfold inSet; rw [List.contains_iff_mem]
theorem inner_ok {l0 : List Int} (hw : Word l0) {n : Nat} (hn : n = l0.length / 2) (s : Nat) : Word (innerOf l0 s n) ∧ (innerOf l0 s n).length = 2 * (setTo s n).length := by
  have hle := hw.le
  refine ⟨word_of_two (Nat.le_trans (List.length_filter_le _ _) hle) (some_two hw _), ?_⟩
  unfold innerOf
  rw [nrm_len, some_len hw (inSet s n) (ints (setTo s n)) ?_ (fun x => ?_), ints_len]
  · unfold ints setTo
    refine List.pairwise_map.2 (List.Pairwise.imp ?_ (List.Pairwise.filter _ List.nodup_range))
    intro a b hab e; exact hab (by omega)
  · rw [← inSet_mem s n x]
    refine ⟨fun h => ⟨?_, h⟩, fun h => h.2⟩
    have h' := (inSet_mem s n x).1 h
    unfold ints setTo at h'
    obtain ⟨i, hi, rfl⟩ := List.mem_map.1 h'
    exact (hw.mem _).2 ⟨i, by rw [← hn]; exact List.mem_range.1 (List.mem_filter.1 hi).1, rfl⟩
theorem rows_bits (w : List Int) : ∀ q ∈ rowsOf w, Bits q ∧ q.length = w.length / 2 := by
  intro q hq
  unfold rowsOf rowsTo at hq
  obtain ⟨i, _, rfl⟩ := List.mem_map.1 hq
  refine ⟨fun x hx => ?_, by simp [rowTo]⟩
  unfold rowTo at hx
  obtain ⟨j, _, rfl⟩ := List.mem_map.1 hx
  unfold ent
  split
  · exact .inr rfl
  · exact .inl rfl
theorem rows_length (w : List Int) : (rowsOf w).length = w.length / 2 := by simp [rowsOf, rowsTo]
theorem co_ok {l0 : List Int} (hw : Word l0) {n : Nat} (hn : n = l0.length / 2) (s : Nat) : ((ints (setTo s n)).length : Int) - (rkC (rowsOf (innerOf l0 s n)) : Int) = (coOf l0 s n : Int) ∧ coOf l0 s n ≤ n ∧ n ≤ 6 := by
  have hle := hw.le
  obtain ⟨h1, h2⟩ := inner_ok hw hn s
  have h3 := (rkC_rank (rows_bits (innerOf l0 s n)) (by have := h1.le; omega)).2
  rw [rows_length, h2] at h3
  have h4 := setTo_le s n
  rw [ints_len]
  unfold coOf
  refine ⟨by omega, by omega, by omega⟩
end Go.Proofs.YtcnekpdoldljgaaGreat.F
end
section
namespace Go.Proofs.YtcnekpdoldljgaaGreat.F
open Go.RowKit Go.Proofs.YtcnekpdoldljgaaGreatW.PrintWords Go.Proofs.YtcnekpdoldljgaaGreatW.PrintLast Go.Proofs.YtcnekpdoldljgaaGreatW.PrintMore
attribute [local go_sem] max2_int min2_int max_two min_two max_three min_three max_four min_four   
set_option linter.unusedVariables false
set_option linter.unusedSimpArgs false
open Go.Proofs.YtcnekpdoldljgaaGreat.Pure Go.Proofs.YtcnekpdoldljgaaGreat.Mem
set_option maxHeartbeats 8000000 in
set_option maxRecDepth 100000 in
theorem sets_setNumbers (l0 : List Int) (A0 : Option Addr) (c0 n N : Nat) (hn : n = l0.length / 2) (hle : l0.length ≤ 12) (hN : N = 2 ^ n) (hc0 : l0.length ≤ c0) (Bw Bc Bo Br : Nat) (vals : Nat → List Int) (w : World) (hF : Kd.F (Kd.int .i64) w (fun k => k ≠ Br) A0 l0.length l0) (hBr : Br < w.heap.size)
  (hdo : ∀ (s : Nat) (A : Option Addr) (c : Nat) (w1 : World), s < N → w.grownBy w1 (some Br) → w1.heap[Br]? = some (.cells (nums .i64 (vals s)).toArray 2 (0, 0)) → Kd.F (Kd.int .i64) w1 (fun k => k ≠ Br) A (ints (setTo s n)).length (ints (setTo s n)) → (ints (setTo s n)).length ≤ c →
   Calls Tryz.prog 130 #[.slice A (ints (setTo s n)).length c, .pointer (some ⟨Bw, 0, none⟩), .pointer (some ⟨Bc, 0, none⟩), .pointer (some ⟨Bo, 0, none⟩)] w1 fun e w2 => e = .returned (.tuple #[]) ∧ w1.grownBy w2 (some Br) ∧ w2.heap[Br]? = some (.cells (nums .i64 (vals (s + 1))).toArray 2 (0, 0)))
  (hv : w.heap[Br]? = some (.cells (nums .i64 (vals 0)).toArray 2 (0, 0))) :
  Calls Tryz.prog 116 #[.slice A0 l0.length c0, .func (.func 130) #[] #[.pointer (some ⟨Bw, 0, none⟩), .pointer (some ⟨Bc, 0, none⟩), .pointer (some ⟨Bo, 0, none⟩)]] w fun e w2 =>
   e = .returned (.tuple #[]) ∧ w.grownBy w2 (some Br) ∧ w2.heap[Br]? = some (.cells (nums .i64 (vals N)).toArray 2 (0, 0)) := by
 have hn6 : n ≤ 6 := by omega
 have hch : impl_chords.f l0 = some (n : Int) := by rw [hn]; exact chords_f l0 hle
 have hN2 : N ≤ 64 := by rw [hN]; exact Nat.le_trans (Nat.pow_le_pow_right (by decide) hn6) (by decide)
 have CH := Aside0.mk hch
 have HN := Aside0.mk hn
 have HNN := Aside0.mk hN
 have hsh := sh_two hn6 hN
 have HC := Aside0.mk hc0
 have HF := Aside0.mk hF
 have HB0 := Aside0.mk hBr
 have HDO := Aside0.mk hdo
 have HV := Aside0.mk hv
 clear hn hle hN hc0 hF hBr hdo hv hch
 go_enter Tryz.func116, Tryz.ntmps116
 go_wp2_with (first | (go_at_call 115; refine (impl_chords.calls A0 c0 l0 _ _ (Kd.F_now HF.out) HC.out CH.out).mono ?_; rintro e w1 ⟨rfl, ⟨nd, rfl⟩⟩))
 simp only [hsh]
 clear hsh
 go_loopw [10] (fun s wr => ∃ k : Nat, s = .int .i64 (k : Int) ∧ Aside0 (k ≤ N) ∧ Aside0 (w.grownBy wr (some Br)) ∧ Aside0 (wr.heap[Br]? = some (.cells (nums .i64 (vals k)).toArray 2 (0, 0))))
  (fun s _ => N - (intOf s).toNat)
 case atStart => exact ⟨0, rfl, ⟨Nat.zero_le _⟩, ⟨grown_drewN (grown_refl _ _) _⟩, ⟨by repeat (first | exact HV.out | refine blk_drewN ?_ _)⟩⟩
 case round =>
  obtain ⟨k, rfl, HK, HG, HH⟩ := hrel
  have HF1 := Aside0.mk (Kd.F_grown HF.out HG.out (fun k hk e => hk (Option.some.inj e)))
  have HB1 := Aside0.mk (Nat.lt_of_lt_of_le HB0.out HG.out.size)
  by_cases hlt : k < N
  rotate_left
  ·have t1 : decide ((k : Int) < (N : Int)) = false := decide_eq_false (by omega)
   have t2 : decide (k < N) = false := decide_eq_false hlt
   have HKN := Aside0.mk (show k = N by have := HK.out; omega)
   clear hlt
   go_wp2_with fail
   go_end0
   exact ⟨rfl, HG.out, by rw [← HKN.out]; exact HH.out⟩
  have t1 : decide ((k : Int) < (N : Int)) = true := decide_eq_true (by omega)
  have t2 : decide (k < N) = true := decide_eq_true hlt
  have HLT := Aside0.mk hlt
  clear hlt
  obtain ⟨wo, hwo⟩ : ∃ wo, wo = wr := ⟨wr, rfl⟩
  subst hwo
  go_wp2_with (first
   | ((with_reducible refine gate_dst (N := 13) rfl ?_); refine Kd.R_lit (Kd.int .i64) (w0 := wo) wo.heap.size 2 ?hg (N := 13) ?hd (xs := ([] : List Int)) (inner := []) (ok := fun k => k ≠ Br) (okp := fun _ => False) ?hr ?hp (fun _ hk => hk.elim) (by have := HB1.out; omega) (Below.refl _ _) (Nat.le_refl _) (by simp) ?_; (case hd => rfl); (case hg => rfl); (case hr => first | (go_simp; done) | (go_simp; rfl)); (case hp => exact (Reps.none _ _)); intro v1 w1 ho hb hg_ hnew_; have HO1 := Aside0.mk ho; have HB2 := Aside0.mk hb; clear ho hb hg_ hnew_)
   | (go_at_call 115; refine (impl_chords.calls A0 c0 l0 _ _ (Kd.F_now (Kd.F_below HF1.out HB2.out)) HC.out CH.out).mono ?_; rintro e w2 ⟨rfl, ⟨nd2, rfl⟩⟩))
  go_loopw [5, 16] (fun v i wq => ∃ j : Nat, i = .int .i64 (j : Int) ∧ Aside0 (j ≤ n) ∧ Aside0 (Below wo.heap.size wo wq) ∧ Aside0 (Kd.R (Kd.int .i64) 2 wq wo.heap.size (fun k => k ≠ Br) v (ints (setTo k j))))
   (fun _ i _ => n - (intOf i).toNat)
  case atStart => exact ⟨0, rfl, ⟨Nat.zero_le _⟩, ⟨pw_below_drewN HB2.out _⟩, ⟨Kd.R_drewN HO1.out _⟩⟩
  case round =>
   obtain ⟨j, rfl, HJ, HBQ, HOQ⟩ := hrel
   by_cases hj : j < n
   rotate_left
   ·have s1 : decide ((j : Int) < (n : Int)) = false := decide_eq_false (by omega)
    have s2 : decide (j < n) = false := decide_eq_false hj
    have HJN := Aside0.mk (show j = n by have := HJ.out; omega)
    clear hj
    obtain ⟨A5, c5, rfl⟩ := Kd.R_slice HOQ.out
    have HCAP := Aside0.mk (Kd.R_reads' HOQ.out).2.1
    have HFO := Aside0.mk (Kd.R_F HOQ.out)
    have HFJ := Aside0.mk HFO.out
    have hjn : n = j := HJN.out.symm
    subst hjn
    go_wp2_with fail
    refine (HDO.out k A5 c5 wr HLT.out (grown_trans HG.out (gb_of_below HBQ.out _)) ((HBQ.out.block Br HB1.out).trans HH.out) HFO.out HCAP.out).mono ?_
    rintro e w3 ⟨rfl, hg3, hh3⟩
    have HG3 := Aside0.mk hg3
    have HH3 := Aside0.mk hh3
    clear hg3 hh3
    have W2 := Aside0.mk (show wrap64 ((k : Int) + 1) = ((k + 1 : Nat) : Int) from wS (by have := HLT.out; omega))
    go_wp2
    go_roundw
    case rel => exact ⟨k + 1, congrArg _ W2.out, ⟨HLT.out⟩, ⟨grown_trans HG.out (grown_trans (gb_of_below HBQ.out _) HG3.out)⟩, HH3⟩
    case measure => rw [W2.out]; have := HLT.out; simp [intOf]; omega
   have s1 : decide ((j : Int) < (n : Int)) = true := decide_eq_true (by omega)
   have s2 : decide (j < n) = true := decide_eq_true hj
   have HJN := Aside0.mk hj
   clear hj
   have HAL := Aside0.mk (show ((ints (setTo k j)).length + 1) * 8 ≤ 140737488355328 from by rw [ints_len]; have := setTo_le k j; have := HJN.out; omega)
   have hb0 := bit_form k j (by have := HLT.out; omega) (by have := HJN.out; omega)
   have W1 := Aside0.mk (show IntKind.i64.wrap ((j : Int) + 1) = ((j + 1 : Nat) : Int) from (i64_w _).trans (wS (by have := HJN.out; omega)))
   cases hbt : k.testBit j with
   | true =>
    rw [hbt] at hb0
    have HBT := Aside0.mk hbt
    clear hbt
    go_wp2_with (first | (at_builtin; refine Kd.R_append (Kd.int .i64) (w0 := wo) wo.heap.size rfl (.tmp 24) (.tmp 26) 37 2 (.int .i64 0) 8 rfl Tryz.underlying37 info2 rfl (by decide) (by omega) u5 (ints (setTo k j)) (j : Int) [.int .i64 (j : Int)] (fun k => k ≠ Br) (fun _ => False) rfl rfl ?aP (fun _ hk => hk.elim) ?aF ?aO ?aB ?aS ?aL ?_; (case aP => exact rfl); (case aB => exact HBQ.out); (case aF => exact (fun _ _ => by have := HB1.out; have := HBQ.out.size; omega)); (case aO => exact HOQ.out); (case aS => exact HBQ.out.size); (case aL => exact HAL.out); intro v5 w5 ho hb hg hat; have HO5 := Aside0.mk ho; have HB5 := Aside0.mk hb; clear ho hb hg hat))
    go_roundw
    case rel => exact ⟨j + 1, congrArg _ (wS (by have := HJN.out; omega)), ⟨HJN.out⟩, HB5, ⟨by rw [setTo_succ, if_pos HBT.out, ints_app]; exact HO5.out⟩⟩
    case measure => have := HJN.out; rw [wS (by omega)]; simp [intOf]; omega
   | false =>
    rw [hbt] at hb0
    have HBT := Aside0.mk hbt
    clear hbt
    go_wp2_with fail
    go_roundw
    case rel => exact ⟨j + 1, congrArg _ (wS (by have := HJN.out; omega)), ⟨HJN.out⟩, HBQ, ⟨by rw [setTo_succ, if_neg (by rw [HBT.out]; simp)]; exact HOQ.out⟩⟩
    case measure => have := HJN.out; rw [wS (by omega)]; simp [intOf]; omega
set_option maxHeartbeats 8000000 in
set_option maxRecDepth 100000 in
theorem sets_interlace (l0 : List Int) (A0 : Option Addr) (c0 n N : Nat) (hn : n = l0.length / 2) (hle : l0.length ≤ 12) (hN : N = 2 ^ n) (hc0 : l0.length ≤ c0) (Bw Bo Br : Nat) (vals : Nat → List Int) (w : World) (hF : Kd.F (Kd.int .i64) w (fun k => k ≠ Br) A0 l0.length l0) (hBr : Br < w.heap.size)
  (hdo : ∀ (s : Nat) (A : Option Addr) (c : Nat) (w1 : World), s < N → w.grownBy w1 (some Br) → w1.heap[Br]? = some (.cells (nums .i64 (vals s)).toArray 2 (0, 0)) → Kd.F (Kd.int .i64) w1 (fun k => k ≠ Br) A (ints (setTo s n)).length (ints (setTo s n)) → (ints (setTo s n)).length ≤ c →
   Calls Tryz.prog 117 #[.slice A (ints (setTo s n)).length c, .pointer (some ⟨Bw, 0, none⟩), .pointer (some ⟨Bo, 0, none⟩)] w1 fun e w2 => e = .returned (.tuple #[]) ∧ w1.grownBy w2 (some Br) ∧ w2.heap[Br]? = some (.cells (nums .i64 (vals (s + 1))).toArray 2 (0, 0)))
  (hv : w.heap[Br]? = some (.cells (nums .i64 (vals 0)).toArray 2 (0, 0))) :
  Calls Tryz.prog 116 #[.slice A0 l0.length c0, .func (.func 117) #[] #[.pointer (some ⟨Bw, 0, none⟩), .pointer (some ⟨Bo, 0, none⟩)]] w fun e w2 =>
   e = .returned (.tuple #[]) ∧ w.grownBy w2 (some Br) ∧ w2.heap[Br]? = some (.cells (nums .i64 (vals N)).toArray 2 (0, 0)) := by
 have hn6 : n ≤ 6 := by omega
 have hch : impl_chords.f l0 = some (n : Int) := by rw [hn]; exact chords_f l0 hle
 have hN2 : N ≤ 64 := by rw [hN]; exact Nat.le_trans (Nat.pow_le_pow_right (by decide) hn6) (by decide)
 have CH := Aside0.mk hch
 have HN := Aside0.mk hn
 have HNN := Aside0.mk hN
 have hsh := sh_two hn6 hN
 have HC := Aside0.mk hc0
 have HF := Aside0.mk hF
 have HB0 := Aside0.mk hBr
 have HDO := Aside0.mk hdo
 have HV := Aside0.mk hv
 clear hn hle hN hc0 hF hBr hdo hv hch
 go_enter Tryz.func116, Tryz.ntmps116
 go_wp2_with (first | (go_at_call 115; refine (impl_chords.calls A0 c0 l0 _ _ (Kd.F_now HF.out) HC.out CH.out).mono ?_; rintro e w1 ⟨rfl, ⟨nd, rfl⟩⟩))
 simp only [hsh]
 clear hsh
 go_loopw [10] (fun s wr => ∃ k : Nat, s = .int .i64 (k : Int) ∧ Aside0 (k ≤ N) ∧ Aside0 (w.grownBy wr (some Br)) ∧ Aside0 (wr.heap[Br]? = some (.cells (nums .i64 (vals k)).toArray 2 (0, 0))))
  (fun s _ => N - (intOf s).toNat)
 case atStart => exact ⟨0, rfl, ⟨Nat.zero_le _⟩, ⟨grown_drewN (grown_refl _ _) _⟩, ⟨by repeat (first | exact HV.out | refine blk_drewN ?_ _)⟩⟩
 case round =>
  obtain ⟨k, rfl, HK, HG, HH⟩ := hrel
  have HF1 := Aside0.mk (Kd.F_grown HF.out HG.out (fun k hk e => hk (Option.some.inj e)))
  have HB1 := Aside0.mk (Nat.lt_of_lt_of_le HB0.out HG.out.size)
  by_cases hlt : k < N
  rotate_left
  ·have t1 : decide ((k : Int) < (N : Int)) = false := decide_eq_false (by omega)
   have t2 : decide (k < N) = false := decide_eq_false hlt
   have HKN := Aside0.mk (show k = N by have := HK.out; omega)
   clear hlt
   go_wp2_with fail
   go_end0
   exact ⟨rfl, HG.out, by rw [← HKN.out]; exact HH.out⟩
  have t1 : decide ((k : Int) < (N : Int)) = true := decide_eq_true (by omega)
  have t2 : decide (k < N) = true := decide_eq_true hlt
  have HLT := Aside0.mk hlt
  clear hlt
  obtain ⟨wo, hwo⟩ : ∃ wo, wo = wr := ⟨wr, rfl⟩
  subst hwo
  go_wp2_with (first
   | ((with_reducible refine gate_dst (N := 13) rfl ?_); refine Kd.R_lit (Kd.int .i64) (w0 := wo) wo.heap.size 2 ?hg (N := 13) ?hd (xs := ([] : List Int)) (inner := []) (ok := fun k => k ≠ Br) (okp := fun _ => False) ?hr ?hp (fun _ hk => hk.elim) (by have := HB1.out; omega) (Below.refl _ _) (Nat.le_refl _) (by simp) ?_; (case hd => rfl); (case hg => rfl); (case hr => first | (go_simp; done) | (go_simp; rfl)); (case hp => exact (Reps.none _ _)); intro v1 w1 ho hb hg_ hnew_; have HO1 := Aside0.mk ho; have HB2 := Aside0.mk hb; clear ho hb hg_ hnew_)
   | (go_at_call 115; refine (impl_chords.calls A0 c0 l0 _ _ (Kd.F_now (Kd.F_below HF1.out HB2.out)) HC.out CH.out).mono ?_; rintro e w2 ⟨rfl, ⟨nd2, rfl⟩⟩))
  go_loopw [5, 16] (fun v i wq => ∃ j : Nat, i = .int .i64 (j : Int) ∧ Aside0 (j ≤ n) ∧ Aside0 (Below wo.heap.size wo wq) ∧ Aside0 (Kd.R (Kd.int .i64) 2 wq wo.heap.size (fun k => k ≠ Br) v (ints (setTo k j))))
   (fun _ i _ => n - (intOf i).toNat)
  case atStart => exact ⟨0, rfl, ⟨Nat.zero_le _⟩, ⟨pw_below_drewN HB2.out _⟩, ⟨Kd.R_drewN HO1.out _⟩⟩
  case round =>
   obtain ⟨j, rfl, HJ, HBQ, HOQ⟩ := hrel
   by_cases hj : j < n
   rotate_left
   ·have s1 : decide ((j : Int) < (n : Int)) = false := decide_eq_false (by omega)
    have s2 : decide (j < n) = false := decide_eq_false hj
    have HJN := Aside0.mk (show j = n by have := HJ.out; omega)
    clear hj
    obtain ⟨A5, c5, rfl⟩ := Kd.R_slice HOQ.out
    have HCAP := Aside0.mk (Kd.R_reads' HOQ.out).2.1
    have HFO := Aside0.mk (Kd.R_F HOQ.out)
    have HFJ := Aside0.mk HFO.out
    have hjn : n = j := HJN.out.symm
    subst hjn
    go_wp2_with fail
    refine (HDO.out k A5 c5 wr HLT.out (grown_trans HG.out (gb_of_below HBQ.out _)) ((HBQ.out.block Br HB1.out).trans HH.out) HFO.out HCAP.out).mono ?_
    rintro e w3 ⟨rfl, hg3, hh3⟩
    have HG3 := Aside0.mk hg3
    have HH3 := Aside0.mk hh3
    clear hg3 hh3
    have W2 := Aside0.mk (show wrap64 ((k : Int) + 1) = ((k + 1 : Nat) : Int) from wS (by have := HLT.out; omega))
    go_wp2
    go_roundw
    case rel => exact ⟨k + 1, congrArg _ W2.out, ⟨HLT.out⟩, ⟨grown_trans HG.out (grown_trans (gb_of_below HBQ.out _) HG3.out)⟩, HH3⟩
    case measure => rw [W2.out]; have := HLT.out; simp [intOf]; omega
   have s1 : decide ((j : Int) < (n : Int)) = true := decide_eq_true (by omega)
   have s2 : decide (j < n) = true := decide_eq_true hj
   have HJN := Aside0.mk hj
   clear hj
   have HAL := Aside0.mk (show ((ints (setTo k j)).length + 1) * 8 ≤ 140737488355328 from by rw [ints_len]; have := setTo_le k j; have := HJN.out; omega)
   have hb0 := bit_form k j (by have := HLT.out; omega) (by have := HJN.out; omega)
   have W1 := Aside0.mk (show IntKind.i64.wrap ((j : Int) + 1) = ((j + 1 : Nat) : Int) from (i64_w _).trans (wS (by have := HJN.out; omega)))
   cases hbt : k.testBit j with
   | true =>
    rw [hbt] at hb0
    have HBT := Aside0.mk hbt
    clear hbt
    go_wp2_with (first | (at_builtin; refine Kd.R_append (Kd.int .i64) (w0 := wo) wo.heap.size rfl (.tmp 24) (.tmp 26) 37 2 (.int .i64 0) 8 rfl Tryz.underlying37 info2 rfl (by decide) (by omega) u5 (ints (setTo k j)) (j : Int) [.int .i64 (j : Int)] (fun k => k ≠ Br) (fun _ => False) rfl rfl ?aP (fun _ hk => hk.elim) ?aF ?aO ?aB ?aS ?aL ?_; (case aP => exact rfl); (case aB => exact HBQ.out); (case aF => exact (fun _ _ => by have := HB1.out; have := HBQ.out.size; omega)); (case aO => exact HOQ.out); (case aS => exact HBQ.out.size); (case aL => exact HAL.out); intro v5 w5 ho hb hg hat; have HO5 := Aside0.mk ho; have HB5 := Aside0.mk hb; clear ho hb hg hat))
    go_roundw
    case rel => exact ⟨j + 1, congrArg _ (wS (by have := HJN.out; omega)), ⟨HJN.out⟩, HB5, ⟨by rw [setTo_succ, if_pos HBT.out, ints_app]; exact HO5.out⟩⟩
    case measure => have := HJN.out; rw [wS (by omega)]; simp [intOf]; omega
   | false =>
    rw [hbt] at hb0
    have HBT := Aside0.mk hbt
    clear hbt
    go_wp2_with fail
    go_roundw
    case rel => exact ⟨j + 1, congrArg _ (wS (by have := HJN.out; omega)), ⟨HJN.out⟩, HBQ, ⟨by rw [setTo_succ, if_neg (by rw [HBT.out]; simp)]; exact HOQ.out⟩⟩
    case measure => have := HJN.out; rw [wS (by omega)]; simp [intOf]; omega
end Go.Proofs.YtcnekpdoldljgaaGreat.F
end
section
namespace Go.Proofs.YtcnekpdoldljgaaGreat.F
section
open Go.RowKit Go.Proofs.YtcnekpdoldljgaaGreatW.PrintWords Go.Proofs.YtcnekpdoldljgaaGreatW.PrintLast Go.Proofs.YtcnekpdoldljgaaGreatW.PrintMore
attribute [local go_sem] max2_int min2_int max_two min_two max_three min_three max_four min_four   
set_option linter.unusedVariables false
set_option linter.unusedSimpArgs false
mutual
def impl_rows.l0 : Nat → List Int → Int → List (List Int) → Int → Int → Option ((List (List Int)))
 | 0, _, _, _, _, _ => none
 | k + 1, x0, x3, x4, x11, x12 => if x12 < x11 then (if 0 ≤ x3 then (if (x3 : Int).toNat ≤ 35184372088832 then (impl_rows.l1 k x0 x3 x4 x12 (List.replicate (x3 : Int).toNat 0) x11 x12 x3 0) else (none)) else (none)) else (some x4)
def impl_rows.l1 : Nat → List Int → Int → List (List Int) → Int → List Int → Int → Int → Int → Int → Option ((List (List Int)))
 | 0, _, _, _, _, _, _, _, _, _ => none
 | k + 1, x0, x3, x4, x5, x6, x11, x12, x17, x18 => if x18 < x17 then ((impl_cross.f k x0 x5 x18).bind fun t1461008 => (if t1461008 = true then (if 0 ≤ x18 then (if x18 < (x6.length : Int) then (impl_rows.l1 k x0 x3 x4 x5 (x6.set (x18 : Int).toNat 1) x11 x12 x17 (wrap64 (x18 + 1))) else (none)) else (none)) else (impl_rows.l1 k x0 x3 x4 x5 x6 x11 x12 x17 (wrap64 (x18 + 1))))) else (if x4.length < 5864062014805 then (impl_rows.l0 k x0 x3 (x4 ++ [x6]) x11 (wrap64 (x12 + 1))) else (none))
end
def impl_rows.f (k : Nat) (l0 : List Int) : Option ((List (List Int))) := (impl_chords.f l0).bind fun t1461001 => (impl_rows.l0 k l0 t1461001 (([] : List (List Int))) t1461001 0)
theorem impl_rows.mono_l : ∀ k, (∀ y0 y1 y2 y3 y4, LeO (impl_rows.l0 k y0 y1 y2 y3 y4) (impl_rows.l0 (k + 1) y0 y1 y2 y3 y4)) ∧ (∀ y0 y1 y2 y3 y4 y5 y6 y7 y8, LeO (impl_rows.l1 k y0 y1 y2 y3 y4 y5 y6 y7 y8) (impl_rows.l1 (k + 1) y0 y1 y2 y3 y4 y5 y6 y7 y8))
 | 0 => ⟨fun _ _ _ _ _ r h => by simp [impl_rows.l0] at h, fun _ _ _ _ _ _ _ _ _ r h => by simp [impl_rows.l1] at h⟩
 | k + 1 => by
  obtain ⟨ih0, ih1⟩ := impl_rows.mono_l k
  refine ⟨?_, ?_⟩
  ·intro y0 y1 y2 y3 y4
   unfold impl_rows.l0
   repeat' first
   | (with_reducible exact ih0 _ _ _ _ _)
   | (with_reducible exact ih1 _ _ _ _ _ _ _ _ _)
   | (with_reducible exact impl_cross.mono _ _ _ _)
   | (with_reducible exact LeO.refl _)
   | (with_reducible exact LeO.none _)
   | (with_reducible refine LeO.ite ?_ ?_)
   | (with_reducible refine LeO.bind ?_ (fun _ => ?_))
   | exact ih0 _ _ _ _ _
   | exact ih1 _ _ _ _ _ _ _ _ _
   | exact impl_cross.mono _ _ _ _
   | exact LeO.none _
   | refine LeO.ite ?_ ?_
   | refine LeO.bind ?_ (fun _ => ?_)
  ·intro y0 y1 y2 y3 y4 y5 y6 y7 y8
   unfold impl_rows.l1
   repeat' first
   | (with_reducible exact ih0 _ _ _ _ _)
   | (with_reducible exact ih1 _ _ _ _ _ _ _ _ _)
   | (with_reducible exact impl_cross.mono _ _ _ _)
   | (with_reducible exact LeO.refl _)
   | (with_reducible exact LeO.none _)
   | (with_reducible refine LeO.ite ?_ ?_)
   | (with_reducible refine LeO.bind ?_ (fun _ => ?_))
   | exact ih0 _ _ _ _ _
   | exact ih1 _ _ _ _ _ _ _ _ _
   | exact impl_cross.mono _ _ _ _
   | exact LeO.none _
   | refine LeO.ite ?_ ?_
   | refine LeO.bind ?_ (fun _ => ?_)
theorem impl_rows.mono : ∀ a0 k, LeO (impl_rows.f k a0) (impl_rows.f (k + 1) a0) := by
 intro a0 k
 obtain ⟨ih0, ih1⟩ := impl_rows.mono_l k
 unfold impl_rows.f
 repeat' first
   | (with_reducible exact ih0 _ _ _ _ _)
   | (with_reducible exact ih1 _ _ _ _ _ _ _ _ _)
   | (with_reducible exact impl_cross.mono _ _ _ _)
   | (with_reducible exact LeO.refl _)
   | (with_reducible exact LeO.none _)
   | (with_reducible refine LeO.ite ?_ ?_)
   | (with_reducible refine LeO.bind ?_ (fun _ => ?_))
   | exact ih0 _ _ _ _ _
   | exact ih1 _ _ _ _ _ _ _ _ _
   | exact impl_cross.mono _ _ _ _
   | exact LeO.none _
   | refine LeO.ite ?_ ?_
   | refine LeO.bind ?_ (fun _ => ?_)
set_option maxHeartbeats 8000000 in
set_option maxRecDepth 100000 in
theorem impl_rows.calls (k : Nat) (A0 : Option Addr) (c0 : Nat) (l0 : List Int) (r : List (List Int)) (w : World) (hr0 : Kd.C (Kd.int .i64) w A0 l0.length l0) (hc0 : l0.length ≤ c0) (h : impl_rows.f k l0 = some r) :
  Calls Tryz.prog 146 #[.slice A0 l0.length c0] w fun e w' => ∃ v0_ : Value, e = .returned (v0_) ∧ Kd.S (Kd.slice 2 (Kd.int .i64)) 37 w' w.heap.size (fun _ => True) v0_ r ∧ Below w.heap.size w w' := by
 have HR0 := Aside0.mk hr0
 have HC0 := Aside0.mk hc0
 clear hr0 hc0
 have HB := Aside0.mk (Below.refl w.heap.size w)
 have H : ((impl_chords.f l0).bind fun t1461001 => (impl_rows.l0 k l0 t1461001 (([] : List (List Int))) t1461001 0)) = some r := h
 clear h
 replace H := Option.bind_eq_some_iff.mp H
 obtain ⟨t1461001, A20, H⟩ := H
 replace H : (impl_rows.l0 k l0 t1461001 (([] : List (List Int))) t1461001 0) = some r := H
 have A2 := Aside0.mk A20
 clear A20
 obtain ⟨y1461002, hy1461002⟩ : ∃ y_ : List (List Int), y_ = (([] : List (List Int))) := ⟨_, rfl⟩
 replace H : (impl_rows.l0 k l0 t1461001 y1461002 t1461001 0) = some r := by first | (rw [hy1461002]; with_reducible exact H) | (have H2_ := (Option.bind_some _ _).symm.trans H; rw [hy1461002]; with_reducible exact H2_) | (have H2_ := (Option.bind_some _ _).symm.trans H; with_reducible exact H2_) | with_reducible exact H | (rw [hy1461002]; exact H) | exact H
 have Ny1461002 := Aside0.mk hy1461002
 clear hy1461002
 have H' := Aside0.mk H
 clear H
 go_enter Tryz.func146, Tryz.ntmps146
 go_wp2_with (first | ((with_reducible refine gate_callee (f := 115) rfl ?_); refine goesL_ (some 9) rfl rfl Tryz.func115 (by kernel_rfl) rfl #[.slice A0 l0.length c0] rfl (by (try simp only [List.map_toArray, List.map_cons, List.map_nil]); first | done | rfl | (simp only [List.length_drop, List.length_take]; rfl)) ?_; (with_reducible refine (impl_chords.calls _ _ l0 t1461001 _ ?side1 ?side2 A2.out).mono ?_); (case side1 => repeat (first | exact HR0.out | (with_reducible refine Kd.C_alloc ?_ _) | (with_reducible refine Kd.C_drewN ?_ _) | (with_reducible refine Kd.C_drew ?_))); (case side2 => exact HC0.out); rintro e w' ⟨rfl, ⟨nd, rfl⟩⟩; refine ⟨_, rfl, ?_⟩) | ((with_reducible refine gate_dst (N := 10) rfl ?_); refine Kd.S_lit (Kd.slice 2 (Kd.int .i64)) _ 37 ?hg (N := 10) ?hd (xs := ([] : List (List Int))) (inner := []) (ok := fun _ => True) (okp := fun _ => True) ?hr ?hp (fun _ hk => hk) trivial (Below.refl _ _) (Nat.le_refl _) (by simp) ?_; (case hd => rfl); (case hg => rfl); (case hr => first | (go_simp; done) | (go_simp; rfl)); (case hp => exact (Reps.none _ _)); intro v1461003 w3 ho4 hb hg_ hnew_; clear hg_ hnew_; (first | rw [← Ny1461002.out] at ho4 | (simp only [Int.reduceToNat] at ho4; rw [← Ny1461002.out] at ho4)); have n0_ := Aside0.mk (Kd.S_lower ho4 (below_size (by repeat (first | (with_reducible first | exact HB.out | apply below_alloc | apply pw_below_drewN | apply below_drew1) | exact HB.out)))); have n1_ := Aside0.mk (below_step (by repeat (first | (with_reducible first | exact HB.out | apply below_alloc | apply pw_below_drewN | apply below_drew1) | exact HB.out)) hb); clear HB; have HO1461004 := n0_; have HB := n1_; clear n0_ n1_; clear hb ho4))
 go_loopg [4, 12] k (fun kq v4 v12 w' => ∃ (x4_1 : List (List Int)) (x12_1 : Int), v12 = .int .i64 x12_1 ∧ Aside0 (impl_rows.l0 kq l0 t1461001 x4_1 t1461001 x12_1 = some r) ∧ Aside0 (kq ≤ k) ∧ Aside0 (Kd.S (Kd.slice 2 (Kd.int .i64)) 37 w' w.heap.size (fun _ => True) v4 x4_1) ∧ Aside0 (Below w.heap.size w w'))
 case atStart => exact ⟨(y1461002), (0), (by first | rfl | (simp; done) | (simp [*]; done)), H', ⟨Nat.le_refl _⟩, ⟨by (with_reducible repeat (first | apply Kd.S_alloc | apply Kd.S_drewN | apply Kd.S_drew)); exact HO1461004.out⟩, ⟨by repeat (first | (with_reducible first | exact HB.out | apply below_alloc | apply pw_below_drewN | apply below_drew1) | exact HB.out)⟩⟩
 case round =>
  clear H'
  try clear c1
  try clear p2
  obtain ⟨x4_1, x12_1, rfl, HA, HK1, HO_4, HB⟩ := hrel
  cases gk with
  | zero => exact absurd HA.out (by simp [impl_rows.l0])
  | succ k1 =>
   have H := HA.out
   clear HA
   simp only [impl_rows.l0] at H
   by_cases c5 : x12_1 < t1461001
   rotate_left
   ·rw [if_neg c5] at H
    have c5b0 : decide (x12_1 < t1461001) = false := decide_eq_false c5
    clear c5
    obtain rfl := Option.some.inj H
    go_wp2
    go_ret
    exact ⟨_, by first | rfl | (simp [errW_none, errW_some] <;> rfl) | (simp [*, errW_none, errW_some] <;> rfl), by (with_reducible repeat (first | apply Kd.S_alloc | apply Kd.S_drewN | apply Kd.S_drew)); exact HO_4.out, by repeat (first | (with_reducible first | exact HB.out | apply below_alloc | apply pw_below_drewN | apply below_drew1) | exact HB.out)⟩
   rw [if_pos c5] at H
   have c5b0 : decide (x12_1 < t1461001) = true := decide_eq_true c5
   clear c5
   by_cases c6 : 0 ≤ t1461001
   rotate_left
   ·rw [if_neg c6] at H
    exact absurd H (by simp)
   rw [if_pos c6] at H
   have c6b0 := eq_true c6
   have c6b1 : decide (0 ≤ t1461001) = true := decide_eq_true c6
   clear c6
   by_cases c7 : (t1461001 : Int).toNat ≤ 35184372088832
   rotate_left
   ·rw [if_neg c7] at H
    exact absurd H (by simp)
   rw [if_pos c7] at H
   have c7b0 := eq_true c7
   have c7b1 : decide ((t1461001 : Int).toNat ≤ 35184372088832) = true := decide_eq_true c7
   clear c7
   obtain ⟨y1461005, hy1461005⟩ : ∃ y_ : List Int, y_ = (List.replicate (t1461001 : Int).toNat 0) := ⟨_, rfl⟩
   replace H : (impl_rows.l1 k1 l0 t1461001 x4_1 x12_1 y1461005 t1461001 x12_1 t1461001 0) = some r := by first | (rw [hy1461005]; with_reducible exact H) | (have H2_ := (Option.bind_some _ _).symm.trans H; rw [hy1461005]; with_reducible exact H2_) | (have H2_ := (Option.bind_some _ _).symm.trans H; with_reducible exact H2_) | with_reducible exact H | (rw [hy1461005]; exact H) | exact H
   have Ny1461005 := Aside0.mk hy1461005
   clear hy1461005
   have H' := Aside0.mk H
   clear H
   go_wp2_with (first | ((with_reducible refine gate_dst (N := 16) rfl ?_); refine Kd.R_make (Kd.int .i64) _ 2 rfl (N := 16) rfl 37 _ _ rfl t1461001 rfl rfl Tryz.underlying37 (.int .i64 0) 8 info2 rfl (by decide) (by omega) 0 (ok := fun _ => True) (okp := fun _ => True) rfl (fun _ hk => hk) trivial (of_decide_eq_true (by first | (with_reducible assumption) | assumption)) (Nat.le_trans (Nat.mul_le_mul_right _ (of_decide_eq_true (by first | (with_reducible assumption) | assumption) : t1461001.toNat ≤ 35184372088832)) (by omega)) (Below.refl _ _) (Nat.le_refl _) ?_; intro v1461006 w8 ho9 hb hg_ hnew_; clear hg_ hnew_; (first | rw [← Ny1461005.out] at ho9 | (simp only [Int.reduceToNat] at ho9; rw [← Ny1461005.out] at ho9)); have n0_ := Aside0.mk (Kd.S_elder' (by (with_reducible repeat (first | apply Kd.S_alloc | apply Kd.S_drewN | apply Kd.S_drew)); exact HO_4.out) (Kd.R_base ho9) hb); have n1_ := Aside0.mk (Kd.R_lower ho9 (below_size (by repeat (first | (with_reducible first | exact HB.out | apply below_alloc | apply pw_below_drewN | apply below_drew1) | exact HB.out)))); have n2_ := Aside0.mk (below_step (by repeat (first | (with_reducible first | exact HB.out | apply below_alloc | apply pw_below_drewN | apply below_drew1) | exact HB.out)) hb); clear HO_4; clear HB; have HO_4 := n0_; have HO1461007 := n1_; have HB := n2_; clear n0_ n1_ n2_; clear hb ho9))
   go_loopg [18] k1 (fun kq v18 w' => ∃ (x6_2 : List Int) (x18_2 : Int), v18 = .int .i64 x18_2 ∧ Aside0 (impl_rows.l1 kq l0 t1461001 x4_1 x12_1 x6_2 t1461001 x12_1 t1461001 x18_2 = some r) ∧ Aside0 (kq ≤ k1) ∧ Aside0 (Kd.S (Kd.slice 2 (Kd.int .i64)) 37 w' w.heap.size (fun k_ => some k_ ≠ (v1461006 : Value).ownBlock) u4 x4_1) ∧ Aside0 (Kd.R (Kd.int .i64) 2 w' w.heap.size (fun _ => True) v1461006 x6_2) ∧ Aside0 (Below w.heap.size w w'))
   case atStart => exact ⟨(y1461005), (0), (by first | rfl | (simp; done) | (simp [*]; done)), H', ⟨Nat.le_refl _⟩, ⟨by (with_reducible repeat (first | apply Kd.S_alloc | apply Kd.S_drewN | apply Kd.S_drew)); exact Kd.S_mono HO_4.out (fun _ hk => hk.2)⟩, ⟨by (with_reducible repeat (first | apply Kd.R_alloc | apply Kd.R_drewN | apply Kd.R_drew)); exact HO1461007.out⟩, ⟨by repeat (first | (with_reducible first | exact HB.out | apply below_alloc | apply pw_below_drewN | apply below_drew1) | exact HB.out)⟩⟩
   case round =>
    clear H'
    try clear c1
    try clear p2
    try clear c5
    try clear c5b0
    try clear c6
    try clear c6b0
    try clear c6b1
    try clear c7
    try clear c7b0
    try clear c7b1
    try clear p2
    obtain ⟨x6_2, x18_2, rfl, HA, HK2, HO_4, HO_6, HB⟩ := hrel
    cases gk with
    | zero => exact absurd HA.out (by simp [impl_rows.l1])
    | succ k2 =>
     have H := HA.out
     clear HA
     simp only [impl_rows.l1] at H
     by_cases c10 : x18_2 < t1461001
     rotate_left
     ·rw [if_neg c10] at H
      have c10b0 : decide (x18_2 < t1461001) = false := decide_eq_false c10
      clear c10
      by_cases c18 : x4_1.length < 5864062014805
      rotate_left
      ·rw [if_neg c18] at H
       exact absurd H (by simp)
      rw [if_pos c18] at H
      have LMc18 := Aside0.mk c18
      clear c18
      obtain ⟨y1461010, hy1461010⟩ : ∃ y_ : List (List Int), y_ = (x4_1 ++ [x6_2]) := ⟨_, rfl⟩
      replace H : (impl_rows.l0 k2 l0 t1461001 y1461010 t1461001 (wrap64 (x12_1 + 1))) = some r := by first | (rw [hy1461010]; with_reducible exact H) | (have H2_ := (Option.bind_some _ _).symm.trans H; rw [hy1461010]; with_reducible exact H2_) | (have H2_ := (Option.bind_some _ _).symm.trans H; with_reducible exact H2_) | with_reducible exact H | (rw [hy1461010]; exact H) | exact H
      have Ny1461010 := Aside0.mk hy1461010
      clear hy1461010
      have H' := Aside0.mk H
      clear H
      obtain ⟨Ao20, co20, eo20⟩ := Kd.R_slice HO_6.out
      subst eo20
      go_wp2_with (first | ((with_reducible refine gate_builtin (b := .append) (xs := #[.tmp 29, .tmp 31]) rfl ?_); at_builtin; refine Kd.S_append (Kd.slice 2 (Kd.int .i64)) (w0 := w) w.heap.size rfl (.tmp 29) (.tmp 31) 77 37 (.slice none 0 0) 24 rfl Tryz.underlying77 info37 rfl (by decide) (by omega) u4 x4_1 x6_2 [.slice Ao20 x6_2.length co20] (fun _ => True) (fun k_ => some k_ = (.slice Ao20 x6_2.length co20 : Value).ownBlock) rfl rfl ?aP (fun k_ hk_ => ((Kd.R_mono (ok' := fun k_ => ((fun _ => True)) k_ ∧ some k_ ≠ (u4 : Value).ownBlock) (Kd.R_apart' (HO_6.out) (Kd.S_typed HO_4.out) (by decide)) (fun k_ hk => ⟨trivial, hk.2⟩))).1 k_ hk_.symm) ?aF ?aO ?aB ?aS ?aL ?_; (case aP => exact Kd.M_row (Kd.R_mono (Kd.R_tight rfl (Kd.R_mono (ok' := fun k_ => ((fun _ => True)) k_ ∧ some k_ ≠ (u4 : Value).ownBlock) (Kd.R_apart' (HO_6.out) (Kd.S_typed HO_4.out) (by decide)) (fun k_ hk => ⟨trivial, hk.2⟩))) (fun _ h_ => h_))); (case aB => exact (by repeat (first | (with_reducible first | exact HB.out | apply below_alloc | apply pw_below_drewN | apply below_drew1) | exact HB.out))); (case aF => exact (fun _ _ => trivial)); (case aO => exact (by (with_reducible repeat (first | apply Kd.S_alloc | apply Kd.S_drewN | apply Kd.S_drew)); exact Kd.S_mono HO_4.out (fun k_ hk => ⟨trivial, fun e_ => hk e_⟩))); (case aS => exact (below_size (by repeat (first | (with_reducible first | exact HB.out | apply below_alloc | apply pw_below_drewN | apply below_drew1) | exact HB.out)))); (case aL => have := LMc18.out; omega); intro v1461011 w19 ho hb hg hat; rw [← Ny1461010.out] at ho; have n0_ := Aside0.mk (hb); have n1_ := Aside0.mk (ho); clear HB; clear HO_4; clear HO_6; have HB := n0_; have HO1461012 := n1_; clear n0_ n1_; clear ho hb hg hat))
      go_roundg k2
      case measure => have := HK1.out; have := HK2.out; omega
      case rel => exact ⟨(y1461010), (wrap64 (x12_1 + 1)), (by first | rfl | (simp; done) | (simp [*]; done)), H', ⟨by have := HK1.out; have := HK2.out; omega⟩, ⟨by (with_reducible repeat (first | apply Kd.S_alloc | apply Kd.S_drewN | apply Kd.S_drew)); exact HO1461012.out⟩, ⟨by repeat (first | (with_reducible first | exact HB.out | apply below_alloc | apply pw_below_drewN | apply below_drew1) | exact HB.out)⟩⟩
     rw [if_pos c10] at H
     have c10b0 : decide (x18_2 < t1461001) = true := decide_eq_true c10
     clear c10
     replace H := Option.bind_eq_some_iff.mp H
     obtain ⟨t1461008, A110, H⟩ := H
     replace H : (if t1461008 = true then (if 0 ≤ x18_2 then (if x18_2 < (x6_2.length : Int) then (impl_rows.l1 k2 l0 t1461001 x4_1 x12_1 (x6_2.set (x18_2 : Int).toNat 1) t1461001 x12_1 t1461001 (wrap64 (x18_2 + 1))) else (none)) else (none)) else (impl_rows.l1 k2 l0 t1461001 x4_1 x12_1 x6_2 t1461001 x12_1 t1461001 (wrap64 (x18_2 + 1)))) = some r := H
     have A11 := Aside0.mk A110
     clear A110
     by_cases c12 : t1461008 = true
     rotate_left
     ·replace c12 := Bool.eq_false_iff.mpr c12
      subst c12
      have H1 : (impl_rows.l1 k2 l0 t1461001 x4_1 x12_1 x6_2 t1461001 x12_1 t1461001 (wrap64 (x18_2 + 1))) = some r := by rw [if_neg (show ¬ (false = true) by decide)] at H; exact H
      clear H
      have H := H1
      clear H1
      have H' := Aside0.mk H
      clear H
      go_wp2_with (first | ((with_reducible refine gate_callee (f := 76) rfl ?_); refine goesL_ (some 24) rfl rfl Tryz.func76 (by kernel_rfl) rfl #[.slice A0 l0.length c0, .int .i64 x12_1, .int .i64 x18_2] rfl (by (try simp only [List.map_toArray, List.map_cons, List.map_nil]); first | done | rfl | (simp only [List.length_drop, List.length_take]; rfl)) ?_; (with_reducible refine (impl_cross.calls k2 _ _ l0 x12_1 x18_2 false _ ?side1 ?side2 A11.out).mono ?_); (case side1 => repeat (first | exact (Kd.C_below HR0.out HB.out) | (with_reducible refine Kd.C_alloc ?_ _) | (with_reducible refine Kd.C_drewN ?_ _) | (with_reducible refine Kd.C_drew ?_))); (case side2 => exact HC0.out); rintro e w' ⟨rfl, ⟨nd, rfl⟩⟩; refine ⟨_, rfl, ?_⟩))
      go_roundg k2
      case measure => have := HK1.out; have := HK2.out; omega
      case rel => exact ⟨(x6_2), (wrap64 (x18_2 + 1)), (by first | rfl | (simp; done) | (simp [*]; done)), H', ⟨by have := HK1.out; have := HK2.out; omega⟩, ⟨by (with_reducible repeat (first | apply Kd.S_alloc | apply Kd.S_drewN | apply Kd.S_drew)); exact HO_4.out⟩, ⟨by (with_reducible repeat (first | apply Kd.R_alloc | apply Kd.R_drewN | apply Kd.R_drew)); exact HO_6.out⟩, ⟨by repeat (first | (with_reducible first | exact HB.out | apply below_alloc | apply pw_below_drewN | apply below_drew1) | exact HB.out)⟩⟩
     subst c12
     have H1 : (if 0 ≤ x18_2 then (if x18_2 < (x6_2.length : Int) then (impl_rows.l1 k2 l0 t1461001 x4_1 x12_1 (x6_2.set (x18_2 : Int).toNat 1) t1461001 x12_1 t1461001 (wrap64 (x18_2 + 1))) else (none)) else (none)) = some r := by rw [if_pos rfl] at H; exact H
     clear H
     have H := H1
     clear H1
     by_cases c13 : 0 ≤ x18_2
     rotate_left
     ·rw [if_neg c13] at H
      exact absurd H (by simp)
     rw [if_pos c13] at H
     have c13b0 : decide (0 ≤ x18_2) = true := decide_eq_true c13
     clear c13
     by_cases c14 : x18_2 < (x6_2.length : Int)
     rotate_left
     ·rw [if_neg c14] at H
      exact absurd H (by simp)
     rw [if_pos c14] at H
     have c14b0 : decide (x18_2 < (x6_2.length : Int)) = true := decide_eq_true c14
     clear c14
     obtain ⟨y1461009, hy1461009⟩ : ∃ y_ : List Int, y_ = (x6_2.set (x18_2 : Int).toNat 1) := ⟨_, rfl⟩
     replace H : (impl_rows.l1 k2 l0 t1461001 x4_1 x12_1 y1461009 t1461001 x12_1 t1461001 (wrap64 (x18_2 + 1))) = some r := by first | (rw [hy1461009]; with_reducible exact H) | (have H2_ := (Option.bind_some _ _).symm.trans H; rw [hy1461009]; with_reducible exact H2_) | (have H2_ := (Option.bind_some _ _).symm.trans H; with_reducible exact H2_) | with_reducible exact H | (rw [hy1461009]; exact H) | exact H
     have Ny1461009 := Aside0.mk hy1461009
     clear hy1461009
     have H' := Aside0.mk H
     clear H
     go_wp2_with (first | ((with_reducible refine gate_callee (f := 76) rfl ?_); refine goesL_ (some 24) rfl rfl Tryz.func76 (by kernel_rfl) rfl #[.slice A0 l0.length c0, .int .i64 x12_1, .int .i64 x18_2] rfl (by (try simp only [List.map_toArray, List.map_cons, List.map_nil]); first | done | rfl | (simp only [List.length_drop, List.length_take]; rfl)) ?_; (with_reducible refine (impl_cross.calls k2 _ _ l0 x12_1 x18_2 true _ ?side1 ?side2 A11.out).mono ?_); (case side1 => repeat (first | exact (Kd.C_below HR0.out HB.out) | (with_reducible refine Kd.C_alloc ?_ _) | (with_reducible refine Kd.C_drewN ?_ _) | (with_reducible refine Kd.C_drew ?_))); (case side2 => exact HC0.out); rintro e w' ⟨rfl, ⟨nd, rfl⟩⟩; refine ⟨_, rfl, ?_⟩; (try (rw [drewN_self wr]; generalize hq_ : World.drewN wr _ = wr; have n0_ : Aside0 (Kd.S (Kd.slice 2 (Kd.int .i64)) 37 wr w.heap.size (fun k_ => some k_ ≠ (v1461006 : Value).ownBlock) u4 x4_1) := ⟨by rw [← hq_]; exact (by (with_reducible repeat (first | apply Kd.S_alloc | apply Kd.S_drewN | apply Kd.S_drew)); exact HO_4.out)⟩; have n1_ : Aside0 (Kd.R (Kd.int .i64) 2 wr w.heap.size (fun _ => True) v1461006 x6_2) := ⟨by rw [← hq_]; exact (by (with_reducible repeat (first | apply Kd.R_alloc | apply Kd.R_drewN | apply Kd.R_drew)); exact HO_6.out)⟩; have n2_ : Aside0 (Below w.heap.size w wr) := ⟨by rw [← hq_]; exact (by repeat (first | (with_reducible first | exact HB.out | apply below_alloc | apply pw_below_drewN | apply below_drew1) | exact HB.out))⟩; clear HO_4 HO_6 HB hq_; have HO_4 := n0_; have HO_6 := n1_; have HB := n2_; clear n0_ n1_ n2_)); have p15 : 0 ≤ (x18_2 : Int) := of_decide_eq_true (by first | (with_reducible assumption) | assumption); have q15 : (x18_2 : Int) < ((x6_2.length : Int) : Int) := of_decide_eq_true (by first | (with_reducible assumption) | assumption); obtain ⟨go15, co15, eo15, gb15, gl15, cl15, HG15⟩ := Kd.R_form HO_6.out (by omega); (first | cases eo15 | (injection eo15 with ea_ en_ ec_; (first | subst ea_ | (injection ea_ with ea_; subst ea_)); subst ec_; clear en_)); have GB15 := Aside0.mk gb15; have GG15 := Aside0.mk HG15; clear gb15 gl15 HG15; obtain ⟨hx15_0, hf15_0⟩ := Kd.R_celln 0 HO_6.out (x18_2 : Int) p15 q15; replace p15 := eq_true p15; replace q15 := eq_true q15; obtain ⟨hy16_, hz16_⟩ := Kd.R_celln 0 HO_6.out (x18_2 : Int) (of_decide_eq_true (by first | (with_reducible assumption) | assumption)) (of_decide_eq_true (by first | (with_reducible assumption) | assumption)); have HP16 := Kd.R_putg HO_6.out (x18_2 : Int) 1) | ((with_reducible refine gate_store (t := 2) (p := 27) rfl ?_); refine store_event (t := 2) (p := 27) (v := ?vo_w17) (w1 := (wr.setCell ⟨go15, (x18_2 : Int).toNat, none⟩ (.int .i64 1))) ?hg ?ho ?hn ?hr ?_; (case ho => rfl); (case hg => rfl); (case hn => rfl); (case hr => first | (go_simp; done) | (go_simp; rfl)); intro w17 hw; have hg : wr.grownBy w17 (some go15) := (by rw [hw]; exact HP16.2); have hp_ : Kd.R (Kd.int .i64) 2 w17 w.heap.size (fun _ => True) (.slice (some ⟨go15, 0, none⟩) x6_2.length co15) y1461009 := (by rw [hw, Ny1461009.out]; exact HP16.1); clear HP16; have n0_ := Aside0.mk (Kd.S_after (v := (.slice (some ⟨go15, 0, none⟩) x6_2.length co15)) (v1 := (.slice (some ⟨go15, 0, none⟩) x6_2.length co15)) (ok := (fun _ => True)) (by (with_reducible repeat (first | apply Kd.S_alloc | apply Kd.S_drewN | apply Kd.S_drew)); exact Kd.S_mono HO_4.out (fun _ hk => ⟨trivial, hk⟩)) hg (.inl rfl)); have n1_ := Aside0.mk (hp_); have n2_ := Aside0.mk ((by rw [hw]; exact below_set (HB.out) GB15.out : Below w.heap.size w w17)); clear HO_4; clear HO_6; clear HB; have HO_4 := n0_; have HO_6 := n1_; have HB := n2_; clear n0_ n1_ n2_; clear hg hw hp_))
     go_roundg k2
     case measure => have := HK1.out; have := HK2.out; omega
     case rel => exact ⟨(y1461009), (wrap64 (x18_2 + 1)), (by first | rfl | (simp; done) | (simp [*]; done)), H', ⟨by have := HK1.out; have := HK2.out; omega⟩, ⟨by (with_reducible repeat (first | apply Kd.S_alloc | apply Kd.S_drewN | apply Kd.S_drew)); exact Kd.S_mono HO_4.out (fun _ hk => hk.2)⟩, ⟨by (with_reducible repeat (first | apply Kd.R_alloc | apply Kd.R_drewN | apply Kd.R_drew)); exact HO_6.out⟩, ⟨by repeat (first | (with_reducible first | exact HB.out | apply below_alloc | apply pw_below_drewN | apply below_drew1) | exact HB.out)⟩⟩
end
end Go.Proofs.YtcnekpdoldljgaaGreat.F
end
section
namespace Go.Proofs.YtcnekpdoldljgaaGreat.F
open Go.RowKit Go.Proofs.YtcnekpdoldljgaaGreatW.PrintWords Go.Proofs.YtcnekpdoldljgaaGreatW.PrintLast Go.Proofs.YtcnekpdoldljgaaGreatW.PrintMore
attribute [local go_sem] max2_int min2_int max_two min_two max_three min_three max_four min_four   
set_option linter.unusedVariables false
set_option linter.unusedSimpArgs false
def impl_power.l0 : Nat → Int → Int → Int → Int → Int → Option (Int)
  | 0, _, _, _, _, _ => none
  | k + 1, x0, x2, x7, x8, x9 => if x9 < x8 then (if x2 = 0 then (none) else (impl_power.l0 k x0 x2 (Int.tmod (wrap64 (x7 * x0)) x2) x8 (wrap64 (x9 + 1)))) else (some x7)
def impl_power.f (k : Nat) (a0 : Int) (a1 : Int) (a2 : Int) : Option (Int) := impl_power.l0 k a0 a2 1 a1 0
theorem impl_power.mono_l : ∀ k, (∀ y0 y1 y2 y3 y4, LeO (impl_power.l0 k y0 y1 y2 y3 y4) (impl_power.l0 (k + 1) y0 y1 y2 y3 y4))
  | 0 => fun _ _ _ _ _ r h => by simp [impl_power.l0] at h
  | k + 1 => by
    have ih0 := impl_power.mono_l k
    · intro y0 y1 y2 y3 y4
      unfold impl_power.l0
      repeat' first
      | (with_reducible exact ih0 _ _ _ _ _)
      | (with_reducible exact LeO.refl _)
      | (with_reducible exact LeO.none _)
      | (with_reducible refine LeO.ite ?_ ?_)
      | (with_reducible refine LeO.bind ?_ (fun _ => ?_))
      | exact ih0 _ _ _ _ _
      | exact LeO.none _
      | refine LeO.ite ?_ ?_
      | refine LeO.bind ?_ (fun _ => ?_)
theorem impl_power.mono : ∀ a0 a1 a2 k, LeO (impl_power.f k a0 a1 a2) (impl_power.f (k + 1) a0 a1 a2) := by
  intro a0 a1 a2 k
  have ih0 := impl_power.mono_l k
  unfold impl_power.f
  repeat' first
      | (with_reducible exact ih0 _ _ _ _ _)
      | (with_reducible exact LeO.refl _)
      | (with_reducible exact LeO.none _)
      | (with_reducible refine LeO.ite ?_ ?_)
      | (with_reducible refine LeO.bind ?_ (fun _ => ?_))
      | exact ih0 _ _ _ _ _
      | exact LeO.none _
      | refine LeO.ite ?_ ?_
      | refine LeO.bind ?_ (fun _ => ?_)
set_option maxHeartbeats 8000000 in
set_option maxRecDepth 100000 in
theorem impl_power.calls (k : Nat) (a0 : Int) (a1 : Int) (a2 : Int) (r : Int) (w : World) (h : impl_power.f k a0 a1 a2 = some r) :
    Calls Tryz.prog 171 #[.int .i64 a0, .int .i64 a1, .int .i64 a2] w fun e w' => e = .returned (.int .i64 r) ∧ Drawn0 w w' := by
  have H : (impl_power.l0 k a0 a2 1 a1 0) = some r := h
  clear h
  have H' := Aside0.mk H
  clear H
  go_enter Tryz.func171, Tryz.ntmps171
  go_wp2
  go_loopg [7, 9] k (fun kq v7 v9 w' => ∃ (x7_1 : Int) (x9_1 : Int), v7 = .int .i64 x7_1 ∧ v9 = .int .i64 x9_1 ∧ Aside0 (impl_power.l0 kq a0 a2 x7_1 a1 x9_1 = some r) ∧ Aside0 (kq ≤ k) ∧ Drawn0 w w')
  case atStart => exact ⟨(1), (0), (by first | rfl | (simp; done) | (simp [*]; done)), (by first | rfl | (simp; done) | (simp [*]; done)), H', ⟨Nat.le_refl _⟩, by repeat (first | exact Drawn0.refl _ | apply Drawn0.step)⟩
  case round =>
    clear H'
    try clear c1
    try clear p2
    obtain ⟨x7_1, x9_1, rfl, rfl, HA, HK1, ⟨m1, rfl⟩⟩ := hrel
    cases gk with
    | zero => exact absurd HA.out (by simp [impl_power.l0])
    | succ k1 =>
      have H := HA.out
      clear HA
      simp only [impl_power.l0] at H
      by_cases c4 : x9_1 < a1
      rotate_left
      · rw [if_neg c4] at H
        have c4b0 : decide (x9_1 < a1) = false := decide_eq_false c4
        clear c4
        obtain rfl := Option.some.inj H
        go_wp2
        go_ret
        exact ⟨by first | rfl | (simp; done) | (simp [*]; done), by repeat (first | exact Drawn0.refl _ | apply Drawn0.step)⟩
      rw [if_pos c4] at H
      have c4b0 : decide (x9_1 < a1) = true := decide_eq_true c4
      clear c4
      by_cases c5 : a2 = 0
      · rw [if_pos c5] at H
        exact absurd H (by simp)
      rw [if_neg c5] at H
      have c5b0 : (a2 == 0) = false := beq_eq_false_iff_ne.mpr c5
      have c5b1 : (a2 != 0) = true := bne_iff_ne.mpr c5
      have H' := Aside0.mk H
      clear H
      go_wp2
      go_roundg k1
      case measure => have := HK1.out; omega
      case rel => exact ⟨(Int.tmod (wrap64 (x7_1 * a0)) a2), (wrap64 (x9_1 + 1)), (by first | rfl | (simp; done) | (simp [*]; done)), (by first | rfl | (simp; done) | (simp [*]; done)), H', ⟨by have := HK1.out; omega⟩, by repeat (first | exact Drawn0.refl _ | apply Drawn0.step)⟩
end Go.Proofs.YtcnekpdoldljgaaGreat.F
end
section
namespace Go.Proofs.YtcnekpdoldljgaaGreat.F
open Go.RowKit Go.Proofs.YtcnekpdoldljgaaGreatW.PrintWords Go.Proofs.YtcnekpdoldljgaaGreatW.PrintLast Go.Proofs.YtcnekpdoldljgaaGreatW.PrintMore
attribute [local go_sem] max2_int min2_int max_two min_two max_three min_three max_four min_four   
set_option linter.unusedVariables false
set_option linter.unusedSimpArgs false
def impl_inverse.f (k : Nat) (a0 : Int) (a1 : Int) : Option (Int) := (impl_power.f k a0 (wrap64 (a1 - 2)) a1).bind fun t1381001 => (some t1381001)
theorem impl_inverse.mono : ∀ a0 a1 k, LeO (impl_inverse.f k a0 a1) (impl_inverse.f (k + 1) a0 a1) := by
  intro a0 a1 k
  unfold impl_inverse.f
  repeat' first
      | (with_reducible exact impl_power.mono _ _ _ _)
      | (with_reducible exact LeO.refl _)
      | (with_reducible exact LeO.none _)
      | (with_reducible refine LeO.ite ?_ ?_)
      | (with_reducible refine LeO.bind ?_ (fun _ => ?_))
      | exact impl_power.mono _ _ _ _
      | exact LeO.none _
      | refine LeO.ite ?_ ?_
      | refine LeO.bind ?_ (fun _ => ?_)
set_option maxHeartbeats 8000000 in
set_option maxRecDepth 100000 in
theorem impl_inverse.calls (k : Nat) (a0 : Int) (a1 : Int) (r : Int) (w : World) (h : impl_inverse.f k a0 a1 = some r) :
    Calls Tryz.prog 138 #[.int .i64 a0, .int .i64 a1] w fun e w' => e = .returned (.int .i64 r) ∧ Drawn0 w w' := by
  have H : ((impl_power.f k a0 (wrap64 (a1 - 2)) a1).bind fun t1381001 => (some t1381001)) = some r := h
  clear h
  replace H := Option.bind_eq_some_iff.mp H
  obtain ⟨t1381001, A30, H⟩ := H
  replace H : (some t1381001) = some r := H
  have A3 := Aside0.mk A30
  clear A30
  obtain rfl := Option.some.inj H
  go_enter Tryz.func138, Tryz.ntmps138
  go_wp2_with (first | ((with_reducible refine gate_callee (f := 171) rfl ?_); refine goesL_ (some 9) rfl rfl Tryz.func171 (by kernel_rfl) rfl #[.int .i64 a0, .int .i64 (wrap64 (a1 - 2)), .int .i64 a1] rfl (by (try simp only [List.map_toArray, List.map_cons, List.map_nil]); first | done | rfl | (simp only [List.length_drop, List.length_take]; rfl)) ?_; (with_reducible refine (impl_power.calls k a0 (wrap64 (a1 - 2)) a1 t1381001 _ A3.out).mono ?_); rintro e w' ⟨rfl, ⟨nd, rfl⟩⟩; refine ⟨_, rfl, ?_⟩))
  go_ret
  exact ⟨by first | rfl | (simp; done) | (simp [*]; done), by repeat (first | exact Drawn0.refl _ | apply Drawn0.step)⟩
end Go.Proofs.YtcnekpdoldljgaaGreat.F
end
section
namespace Go.Proofs.YtcnekpdoldljgaaGreat.F
open Go.RowKit Go.Proofs.YtcnekpdoldljgaaGreatW.PrintWords Go.Proofs.YtcnekpdoldljgaaGreatW.PrintLast Go.Proofs.YtcnekpdoldljgaaGreatW.PrintMore
attribute [local go_sem] max2_int min2_int max_two min_two max_three min_three max_four min_four   
set_option linter.unusedVariables false
set_option linter.unusedSimpArgs false
open Go.Proofs.YtcnekpdoldljgaaGreat.ORows Go.Proofs.YtcnekpdoldljgaaGreat.Mem Go.Sort
def laysSortRows_ren : Go.Shelf.Ren := ⟨fun | 6 => 184 | 15 => 179 | 14 => 205 | 28 => 202 | 29 => 203 | 20 => 213 | 21 => 214 | 22 => 215 | 23 => 216 | 24 => 217 | 25 => 218 | 26 => 219 | 27 => 220 | 46 => 222 | 47 => 209 | 48 => 210 | 49 => 223 | 50 => 224 | 57 => 225 | n => n, fun | 22 => 77 | 24 => 37 | 25 => 135 | 3 => 3 | 39 => 132 | 0 => 0 | 53 => 178 | 55 => 46 | 4 => 4 | 46 => 171 | 45 => 170 | 50 => 175 | 5 => 5 | 9 => 9 | 66 => 182 | 70 => 186 | 76 => 193 | 77 => 88 | n => n, fun | n => n⟩
theorem laysSortRows : Go.Proofs.SlLaysF.n6 Tryz.prog laysSortRows_ren := {
  mixed := by kernel_rfl, f6 := ⟨Tryz.f184.name, by decide, Tryz.func184.trans (congrArg some (by kernel_rfl))⟩, f14 := ⟨Tryz.f205.name, by decide, Tryz.func205.trans (congrArg some (by kernel_rfl))⟩, f15 := Tryz.func179.trans (congrArg some (by kernel_rfl)), f20 := ⟨Tryz.f213.name, by decide, Tryz.func213.trans (congrArg some (by kernel_rfl))⟩, f21 := ⟨Tryz.f214.name, by decide, Tryz.func214.trans (congrArg some (by kernel_rfl))⟩, f22 := ⟨Tryz.f215.name, by decide, Tryz.func215.trans (congrArg some (by kernel_rfl))⟩, f23 := ⟨Tryz.f216.name, by decide, Tryz.func216.trans (congrArg some (by kernel_rfl))⟩, f24 := ⟨Tryz.f217.name, by decide, Tryz.func217.trans (congrArg some (by kernel_rfl))⟩, f25 := ⟨Tryz.f218.name, by decide, Tryz.func218.trans (congrArg some (by kernel_rfl))⟩, f26 := ⟨Tryz.f219.name, by decide, Tryz.func219.trans (congrArg some (by kernel_rfl))⟩, f27 := ⟨Tryz.f220.name, by decide, Tryz.func220.trans (congrArg some (by kernel_rfl))⟩, f28 := Tryz.func202.trans (congrArg some (by kernel_rfl)), f29 := Tryz.func203.trans (congrArg some (by kernel_rfl)), f46 := ⟨Tryz.f222.name, by decide, Tryz.func222.trans (congrArg some (by kernel_rfl))⟩, f47 := Tryz.func209.trans (congrArg some (by kernel_rfl)), f48 := Tryz.func210.trans (congrArg some (by kernel_rfl)), f49 := ⟨Tryz.f223.name, by decide, Tryz.func223.trans (congrArg some (by kernel_rfl))⟩, f50 := ⟨Tryz.f224.name, by decide, Tryz.func224.trans (congrArg some (by kernel_rfl))⟩, f57 := ⟨Tryz.f225.name, by decide, Tryz.func225.trans (congrArg some (by kernel_rfl))⟩, t0 := Tryz.underlying0, a0 := Tryz.isAgg0, z0 := Tryz.sizeOf0, v0 := Tryz.zeroValue0, t3 := Tryz.underlying3, a3 := Tryz.isAgg3, z3 := Tryz.sizeOf3, v3 := Tryz.zeroValue3, t4 := Tryz.underlying4, a4 := Tryz.isAgg4, z4 := Tryz.sizeOf4, v4 := Tryz.zeroValue4, t5 := Tryz.underlying5, a5 := Tryz.isAgg5, z5 := Tryz.sizeOf5, v5 := Tryz.zeroValue5, t9 := Tryz.underlying9, a9 := Tryz.isAgg9, z9 := Tryz.sizeOf9, v9 := Tryz.zeroValue9, t22 := Tryz.underlying77, a22 := Tryz.isAgg77, z22 := Tryz.sizeOf77, v22 := Tryz.zeroValue77, a24 := Tryz.isAgg37, z24 := Tryz.sizeOf37, t25 := Tryz.underlying135, a25 := Tryz.isAgg135, z25 := Tryz.sizeOf135, v25 := Tryz.zeroValue135, t39 := Tryz.underlying132, a39 := Tryz.isAgg132, z39 := Tryz.sizeOf132, v39 := Tryz.zeroValue132, t45 := Tryz.underlying170, a45 := Tryz.isAgg170, z45 := Tryz.sizeOf170, v45 := Tryz.zeroValue170, t46 := Tryz.underlying171, a46 := Tryz.isAgg171, z46 := Tryz.sizeOf171, v46 := Tryz.zeroValue171, t50 := Tryz.underlying175, a50 := Tryz.isAgg175, z50 := Tryz.sizeOf175, v50 := Tryz.zeroValue175, t53 := Tryz.underlying178, a53 := Tryz.isAgg178, z53 := Tryz.sizeOf178, v53 := Tryz.zeroValue178, t55 := Tryz.underlying46, a55 := Tryz.isAgg46, z55 := Tryz.sizeOf46, v55 := Tryz.zeroValue46, t66 := Tryz.underlying182, a66 := Tryz.isAgg182, z66 := Tryz.sizeOf182, v66 := Tryz.zeroValue182, t70 := Tryz.underlying186, a70 := Tryz.isAgg186, z70 := Tryz.sizeOf186, v70 := Tryz.zeroValue186, t76 := Tryz.underlying193, a76 := Tryz.isAgg193, z76 := Tryz.sizeOf193, v76 := Tryz.zeroValue193, t77 := Tryz.underlying88, a77 := Tryz.isAgg88, z77 := Tryz.sizeOf88, v77 := Tryz.zeroValue88 }
def laysLen_ren : Go.Shelf.Ren := ⟨fun | 125 => 179 | 128 => 202 | 129 => 203 | n => n, fun | 46 => 132 | 3 => 3 | 51 => 178 | 53 => 46 | 4 => 4 | 5 => 5 | 9 => 9 | n => n, fun | n => n⟩
theorem laysLen : Go.Proofs.Lays.n125 Tryz.prog laysLen_ren := {
  mixed := by kernel_rfl, f125 := Tryz.func179.trans (congrArg some (by kernel_rfl)), f128 := Tryz.func202.trans (congrArg some (by kernel_rfl)), f129 := Tryz.func203.trans (congrArg some (by kernel_rfl)), t3 := Tryz.underlying3, a3 := Tryz.isAgg3, z3 := Tryz.sizeOf3, v3 := Tryz.zeroValue3, t4 := Tryz.underlying4, a4 := Tryz.isAgg4, z4 := Tryz.sizeOf4, v4 := Tryz.zeroValue4, t5 := Tryz.underlying5, a5 := Tryz.isAgg5, z5 := Tryz.sizeOf5, v5 := Tryz.zeroValue5, t9 := Tryz.underlying9, a9 := Tryz.isAgg9, z9 := Tryz.sizeOf9, v9 := Tryz.zeroValue9, t46 := Tryz.underlying132, a46 := Tryz.isAgg132, z46 := Tryz.sizeOf132, v46 := Tryz.zeroValue132, t51 := Tryz.underlying178, a51 := Tryz.isAgg178, z51 := Tryz.sizeOf178, v51 := Tryz.zeroValue178, t53 := Tryz.underlying46, a53 := Tryz.isAgg46, z53 := Tryz.sizeOf46, v53 := Tryz.zeroValue46 }
theorem first_bound (l : List Int) : firstV l = -1 ∨ (0 ≤ firstV l ∧ firstV l < (l.length : Int)) := by
  have key : ∀ (l : List Int) (n : Nat), firstFrom l n = -1 ∨ ((n : Int) ≤ firstFrom l n ∧ firstFrom l n < ((n + l.length : Nat) : Int)) := by
    intro l
    induction l with
    | nil => intro n; exact .inl rfl
    | cons x t ih =>
      intro n
      rw [firstFrom]
      split
      · exact .inr ⟨Int.le_refl _, by simp; omega⟩
      · rcases ih (n + 1) with h | ⟨h1, h2⟩
        · exact .inl h
        · refine .inr ⟨by omega, ?_⟩
          rw [List.length_cons]; omega
  rcases key l 0 with h | ⟨h1, h2⟩
  · exact .inl h
  · exact .inr ⟨h1, by unfold firstV; omega⟩
theorem grownBy_sortE {α : Type} [Inhabited α] {enc : α → Value} {w : World} {g n : Nat} {os : Array Obj} (d : Array α) : w.grownBy (grow (putRow enc (Sort.ahead w n) g 0 d) os) (some g) := by
  refine ⟨rfl, rfl, rfl, by simp, fun k hk hne => ?_⟩
  rw [heap_grow_old _ _ (by simpa using hk)]
  have : g ≠ k := fun e => hne (by rw [e])
  simp [putRow, mapBlock, Sort.ahead, Array.getElem?_modify, this]
set_option maxHeartbeats 4000000 in
set_option maxRecDepth 100000 in
theorem reduced_cmp (l m : List Int) (A B : Option Addr) (c d : Nat) (z : Int) (w : World) (hl : Kd.C (Kd.int .i64) w A l.length l) (hm : Kd.C (Kd.int .i64) w B m.length m) (hc : l.length ≤ c) (hd : m.length ≤ d) (h1 : l.length ≤ 1000) (h2 : m.length ≤ 1000) (hz : z = firstV l - firstV m) :
    Calls Tryz.prog 185 #[.slice A l.length c, .slice B m.length d] w fun e w' => e = .returned (.int .i64 z) ∧ ∃ q, w' = w.drewN q := by
  have hfl : impl_first.f l = some (firstV l) := if_pos (by omega)
  have hfm : impl_first.f m = some (firstV m) := if_pos (by omega)
  have hb1 : firstV l ≤ 1000 ∧ -1 ≤ firstV l := by
    rcases first_bound l with h | ⟨h3, h4⟩ <;> omega
  have hb2 : firstV m ≤ 1000 ∧ -1 ≤ firstV m := by
    rcases first_bound m with h | ⟨h3, h4⟩ <;> omega
  have hw : wrap64 (firstV l - firstV m) = z := by rw [hz]; unfold wrap64; omega
  obtain ⟨x, hx⟩ : ∃ x, x = firstV l := ⟨_, rfl⟩
  obtain ⟨y, hy⟩ : ∃ y, y = firstV m := ⟨_, rfl⟩
  rw [← hx] at hfl hw
  rw [← hy] at hfm hw
  have HC1 := Aside0.mk (impl_first.calls A c l x w hl hc hfl)
  have HC2 := Aside0.mk (fun nd => impl_first.calls B d m y (w.drewN nd) (Kd.C_drewN hm nd) hd hfm)
  have HW := Aside0.mk hw
  clear hl hm hc hd h1 h2 hz hfl hfm hb1 hb2 hw hx hy
  go_enter Tryz.func185, Tryz.ntmps185
  go_wp2_with (first | (go_at_call 183; refine (HC1.out).mono ?_; rintro e w2 ⟨rfl, ⟨nd, rfl⟩⟩) | (go_at_call 183; refine (HC2.out _).mono ?_; rintro e w2 ⟨rfl, ⟨nd2, rfl⟩⟩))
  go_ret
  exact ⟨by rw [HW.out]; rfl, _, rfl⟩
theorem sort_rows (n : Nat) (bs : List (Nat × Nat)) (F : Nat → List Int) (base base' : Nat) (ok : Nat → Prop) (w : World) (hOwn : Go.Proofs.YtcnekpdoldljgaaGreat.ORows.Own n base F bs w) (hn : n ≤ 1000) (g cap : Nat) (obs : List (Nat × Nat)) (hsub : ∀ p ∈ obs, p ∈ bs)
    (hR : (kE n).R 37 w base' ok (.slice (some ⟨g, 0, none⟩) obs.length cap) obs) (h12 : obs.length ≤ 12) (hne : ∀ p ∈ bs, p.1 ≠ g) :
    Calls Tryz.prog 184 #[.slice (some ⟨g, 0, none⟩) obs.length cap, .func (.func 185) #[] #[]] w fun e w' => e = .returned (.tuple #[]) ∧ w.grownBy w' (some g) := by
  have hC := (Kd.R_reads' hR).2.2
  obtain ⟨_, inner, ⟨_, hv⟩, _⟩ := hR
  rcases hv with ⟨he, _⟩ | ⟨g', cap', cur, he, _, hg, _⟩
  · cases he
  · injection he with e1 e2 e3
    injection e1 with e1
    injection e1 with e1
    subst e1; subst e3
    let enc : Nat × Nat → Value := fun p => if p ∈ bs then rowE n p else .slice none 0 0
    have hO : OneCell enc := fun p => by
      show (if p ∈ bs then rowE n p else Value.slice none 0 0).oneCell' = true
      split <;> rfl
    let G : Nat × Nat → List Int := fun p => if p ∈ bs then F p.1 else []
    have hH : Holds enc w g 0 obs.toArray := fun j hj => by
      have hj' : j < obs.length := by simpa using hj
      obtain ⟨ad, hA, hc⟩ := cell_of_E hC j hj'
      cases hA
      refine ⟨?_, by simp [World.frozen?, hg]⟩
      have e : (obs.toArray[j]! : Nat × Nat) = obs.getD j (0, 0) := by simp [hj', List.getD_eq_getElem?_getD, List.getElem?_eq_getElem hj']
      have hm : obs.getD j (0, 0) ∈ bs := by
        rw [List.getD_eq_getElem?_getD, List.getElem?_eq_getElem hj']
        exact hsub _ (List.getElem_mem hj')
      rw [e, show enc (obs.getD j (0, 0)) = rowE n (obs.getD j (0, 0)) from if_pos hm]
      unfold Addr.add at hc
      by_cases h0 : j = 0
      · subst h0; rw [if_pos rfl] at hc; exact hc
      · rw [if_neg h0] at hc; exact hc
    have hread : ∀ (W : World), (∀ p ∈ bs, W.heap[p.1]? = w.heap[p.1]?) → ∀ p : Nat × Nat, ∃ A c, enc p = .slice A (G p).length c ∧ (G p).length ≤ c ∧ (G p).length ≤ 1000 ∧ Kd.C (Kd.int .i64) W A (G p).length (G p) := by
      intro W hW p
      by_cases hp : p ∈ bs
      rotate_left
      · refine ⟨none, 0, ?_, ?_, ?_, ?_⟩
        · show (if p ∈ bs then rowE n p else _) = Value.slice _ (if p ∈ bs then F p.1 else []).length _
          rw [if_neg hp, if_neg hp]; rfl
        · show (if p ∈ bs then F p.1 else []).length ≤ _
          rw [if_neg hp]; exact Nat.le_refl _
        · show (if p ∈ bs then F p.1 else []).length ≤ _
          rw [if_neg hp]; exact Nat.zero_le _
        · show Kd.C _ _ _ (if p ∈ bs then F p.1 else []).length (if p ∈ bs then F p.1 else [])
          rw [if_neg hp]; exact Kd.C_nil _ _
      have hr := (hOwn.row p hp).move (hW p hp)
      refine ⟨some ⟨p.1, 0, none⟩, p.2, ?_, ?_, ?_, ?_⟩
      · show (if p ∈ bs then rowE n p else _) = Value.slice _ (if p ∈ bs then F p.1 else []).length _
        rw [if_pos hp, if_pos hp, hr.len]; rfl
      · show (if p ∈ bs then F p.1 else []).length ≤ _
        rw [if_pos hp, hr.len]; exact hr.cap
      · show (if p ∈ bs then F p.1 else []).length ≤ _
        rw [if_pos hp, hr.len]; exact hn
      · show Kd.C _ _ _ (if p ∈ bs then F p.1 else []).length (if p ∈ bs then F p.1 else [])
        rw [if_pos hp]; exact hr.C
    have hcmp : CmpReads Tryz.prog 185 #[] enc (fun p q => firstV (G p) - firstV (G q)) g 0 obs.toArray.size w := fun m os dk hdk p q => by
      have hgrow : w.grownBy (sortWorld enc w g 0 m dk os) (some g) := grownBy_sortE dk
      have hW : ∀ p ∈ bs, (sortWorld enc w g 0 m dk os).heap[p.1]? = w.heap[p.1]? := fun p hp => hgrow.block p.1 (hOwn.row p hp).lt (fun e => hne p hp (Option.some.inj e))
      obtain ⟨A, c, e1, h1, h2, h3⟩ := hread _ hW p
      obtain ⟨B, d, f1, f2, f3, f4⟩ := hread _ hW q
      rw [e1, f1]
      exact reduced_cmp (G p) (G q) A B c d _ _ h3 f4 h1 f2 h2 f3 rfl
    have hlen : ∀ (k : Nat) (W : World), k ≤ 12 → Calls Tryz.prog (laysSortRows_ren.f 15) #[.int .u64 k] W fun e w' => (∃ l : Int, e = .returned (.int .i64 l)) ∧ w' = W := fun k W hk =>
      (show Calls Tryz.prog 179 _ _ _ from Any.bits_Len laysLen (k : Int) W (by omega) (by omega)).mono fun e w' h => ⟨⟨_, h.1⟩, h.2⟩
    have hs := Any.slices_SortFunc_small laysSortRows enc hO (fun p q => firstV (G p) - firstV (G q)) 185 #[] g 0 cap obs.toArray w (enters_of Tryz.func185 (by kernel_rfl) rfl) hcmp hH (by simpa using h12) hlen
    rw [show obs.toArray.size = obs.length from by simp] at hs
    refine (show Calls Tryz.prog 184 _ _ _ from hs).mono ?_
    rintro e w' ⟨rfl, k, rfl⟩
    refine ⟨rfl, ?_⟩
    have := grownBy_sortE (w := w) (g := g) (n := k) (os := #[]) (enc := enc) (Sort.insertionSort (ltOf fun p q => firstV (G p) - firstV (G q)) obs.toArray 0 obs.length)
    rw [grow_empty] at this
    exact this
end Go.Proofs.YtcnekpdoldljgaaGreat.F
end
section
namespace Go.Proofs.YtcnekpdoldljgaaGreat.Red
open Go.RowKit Go.Proofs.YtcnekpdoldljgaaGreatW.PrintWords Go.Proofs.YtcnekpdoldljgaaGreatW.PrintLast Go.Proofs.YtcnekpdoldljgaaGreatW.PrintMore Go.Proofs.YtcnekpdoldljgaaGreat.F Go.Proofs.YtcnekpdoldljgaaGreat.ORows Go.Proofs.YtcnekpdoldljgaaGreat.Mem
structure RInv (n N0 : Nat) (W0 : World) (bs : List (Nat × Nat)) (A : Option Addr) (F : Nat → List Int) (out : Value) (obs : List (Nat × Nat)) (wr : World) : Prop where
  own : Own n W0.heap.size F bs wr
  lst : Kd.F (kE n) wr (fun k => k < N0 ∧ ∀ p ∈ bs, p.1 ≠ k) A bs.length bs
  out : ∃ g, out.ownBlock = some g ∧ N0 ≤ g ∧ (kE n).R 37 wr W0.heap.size (fun k => k = g) out obs
  bel : Below W0.heap.size W0 wr
  low : ∀ p ∈ bs, p.1 < N0
  size : N0 ≤ wr.heap.size
namespace RInv
variable {n N0 : Nat} {W0 : World} {bs obs : List (Nat × Nat)} {A : Option Addr} {F : Nat → List Int} {out : Value} {w w1 : World}
theorem same (h : RInv n N0 W0 bs A F out obs w) (hh : w1.heap = w.heap) (hb : Below W0.heap.size W0 w1) : RInv n N0 W0 bs A F out obs w1 :=
  ⟨h.own.move (fun _ _ => by rw [hh]), Kd.F_step h.lst (fun _ _ _ => by rw [hh]), by obtain ⟨g, h1, h2, h3⟩ := h.out; exact ⟨g, h1, h2, Kd.R_step h3 (fun _ _ _ => by rw [hh])⟩, hb, h.low, by rw [hh]; exact h.size⟩
theorem drewN (h : RInv n N0 W0 bs A F out obs w) (m : Nat) : RInv n N0 W0 bs A F out obs (w.drewN m) := h.same rfl (pw_below_drewN h.bel m)
theorem drew (h : RInv n N0 W0 bs A F out obs w) : RInv n N0 W0 bs A F out obs w.drew := h.same rfl (below_drew h.bel)
theorem put (h : RInv n N0 W0 bs A F out obs w) {p : Nat × Nat} (hp : p ∈ bs) {r : List Int} (hk : Kept w w1 (fun k => k = p.1)) (hr : Row W0.heap.size n p r w1) (hb : Below W0.heap.size W0 w1) : RInv n N0 W0 bs A (upd F p.1 r) out obs w1 :=
  ⟨h.own.put hp hk hr, Kd.F_step h.lst (fun k hk1 hlt => hk.2 k hlt (fun e => hk1.2 p hp e.symm)), by
    obtain ⟨g, h1, h2, h3⟩ := h.out
    exact ⟨g, h1, h2, Kd.R_step h3 (fun k hk1 hlt => hk.2 k hlt (fun e => by have := h.low p hp; omega))⟩, hb, h.low, Nat.le_trans h.size hk.1⟩
theorem cell (h : RInv n N0 W0 bs A F out obs w) {b c : Nat} (hp : (b, c) ∈ bs) (j : Nat) (hj : j < n) : w.cell? ⟨b, j, none⟩ = some (.int .i64 ((F b).getD j 0)) ∧ w.frozen? ⟨b, j, none⟩ = false := by
  have hr := h.own.row _ hp
  have hl := hr.len
  obtain ⟨ad, e, hc⟩ := cell_of_C hr.C j (by rw [hl]; exact hj)
  cases e
  refine ⟨?_, ?_⟩
  · rw [add_plain] at hc; exact hc
  · obtain ⟨_, inner, ⟨_, hv⟩, _⟩ := hr
    rcases hv with ⟨he, _⟩ | ⟨g', cap', cur, he, _, hg, _⟩
    · cases he
    · unfold rowE at he
      injection he with e1 e2 e3
      injection e1 with e1
      injection e1 with e1
      subst e1
      simp [World.frozen?, hg]
theorem setSame (h : RInv n N0 W0 bs A F out obs w) {b c : Nat} (hp : (b, c) ∈ bs) (j : Nat) (hj : j < n) (x : Int) (hx : (F b).getD j 0 = x) : RInv n N0 W0 bs A F out obs (w.setCell ⟨b, j, none⟩ (.int .i64 x)) := by
  have hr := h.own.row _ hp
  have hs := hr.set j x hj
  have e : (F b).set j x = F b := by
    have hl := hr.len
    refine List.ext_getElem (by rw [List.length_set]) (fun i h1 h2 => ?_)
    rw [List.getElem_set]
    split
    · next e => subst e; rw [← hx, List.getD_eq_getElem?_getD, List.getElem?_eq_getElem h2]; rfl
    · rfl
  rw [show (F (b, c).1) = F b from rfl, e] at hs
  have h1 := h.put hp (Kept.setCell (Kept.refl w (fun k => k = (b, c).1)) (p := ⟨b, j, none⟩) (.inl rfl) (.int .i64 x)) hs (below_set h.bel (by have := hr.low; exact this))
  rw [show ((b, c) : Nat × Nat).1 = b from rfl, upd_self] at h1
  exact h1
theorem app (h : RInv n N0 W0 bs A F out obs w) {v1 : Value} {obs1 : List (Nat × Nat)} (hr : (kE n).R 37 w1 W0.heap.size (fun _ => True) v1 obs1) (hb : Below W0.heap.size W0 w1) (hg : w.grownBy w1 out.ownBlock) (hat : v1.ownBlock = out.ownBlock ∨ ∃ b, v1.ownBlock = some b ∧ w.heap.size ≤ b) : RInv n N0 W0 bs A F v1 obs1 w1 := by
  obtain ⟨g, h1, h2, h3⟩ := h.out
  rw [h1] at hg hat
  have hv : ∃ g', v1.ownBlock = some g' ∧ N0 ≤ g' := by
    rcases hat with e | ⟨b, e, hle⟩
    · exact ⟨g, e, h2⟩
    · exact ⟨b, e, Nat.le_trans h.size hle⟩
  obtain ⟨g', e, hle⟩ := hv
  refine ⟨h.own.grown hg (fun p hp e2 => by have := h.low p hp; have := Option.some.inj e2; omega), Kd.F_grown h.lst hg (fun k hk e2 => by have := hk.1; have := Option.some.inj e2; omega), ⟨g', e, hle, Kd.R_mono (Kd.R_tight rfl hr) (fun k hk => by rw [e] at hk; exact Option.some.inj hk)⟩, hb, h.low, Nat.le_trans h.size hg.size⟩
theorem lessCall (h : RInv n N0 W0 bs A F out obs w) {b c d m : Nat} (hp : (b, c) ∈ bs) (hq : (d, m) ∈ bs) (hne : d ≠ b) (hl : LessOk (F b) (F d)) :
    Calls Tryz.prog 182 #[.slice (some ⟨b, 0, none⟩) n c, .slice (some ⟨d, 0, none⟩) n m, .int .i64 2] w fun e w1 => e = .returned (.tuple #[]) ∧ RInv n N0 W0 bs A (upd F b (lessV (F b) (F d))) out obs w1 := by
  obtain ⟨k, hk⟩ := hl
  have hr := h.own.row _ hp
  have hr2 := h.own.row _ hq
  have hl2 : (F d).length = n := hr2.len
  have hc := impl_less.calls k (fun k => k = b) (rowE n (b, c)) (F b) (some ⟨d, 0, none⟩) m (F d) 2 _ W0 w h.bel hr (fun W_ hW => (hr2.move (hW.2 d hr2.lt hne)).C) (by rw [hl2]; exact hr2.cap) hk
  rw [hl2] at hc
  refine (show Calls Tryz.prog 182 _ _ _ from hc).mono ?_
  rintro e w1 ⟨rfl, h1, h2, h3⟩
  exact ⟨rfl, h.put hp h3 (Row.of h1) h2⟩
theorem firstCall (h : RInv n N0 W0 bs A F out obs w) {b c : Nat} (hp : (b, c) ∈ bs) (hn : n ≤ 1000) :
    Calls Tryz.prog 183 #[.slice (some ⟨b, 0, none⟩) n c] w fun e w1 => e = .returned (.int .i64 (firstV (F b))) ∧ Drawn0 w w1 := by
  have hr := h.own.row _ hp
  have hl : (F b).length = n := hr.len
  have hc := impl_first.calls (some ⟨b, 0, none⟩) c (F b) (firstV (F b)) w hr.C (by rw [hl]; exact hr.cap) (if_pos (by omega))
  rw [hl] at hc
  exact hc
end RInv
theorem taken_ne {bs : List (Nat × Nat)} (hnd : (bs.map Prod.fst).Nodup) {x : Nat} (hx : x < bs.length) {q : Nat × Nat} (hq : q ∈ bs.take x) : q.1 ≠ (bs.getD x (0, 0)).1 := by
  obtain ⟨i, hi, rfl⟩ := List.mem_take_iff_getElem.1 hq
  rw [List.getD_eq_getElem?_getD, List.getElem?_eq_getElem hx]
  have h := List.pairwise_map.1 hnd
  exact List.pairwise_iff_getElem.1 h i x (by omega) hx (by omega)
end Go.Proofs.YtcnekpdoldljgaaGreat.Red
end
section
namespace Go.Proofs.YtcnekpdoldljgaaGreat.F
open Go.RowKit Go.Proofs.YtcnekpdoldljgaaGreatW.PrintWords Go.Proofs.YtcnekpdoldljgaaGreatW.PrintLast Go.Proofs.YtcnekpdoldljgaaGreatW.PrintMore
attribute [local go_sem] max2_int min2_int max_two min_two max_three min_three max_four min_four   
set_option linter.unusedVariables false
set_option linter.unusedSimpArgs false
open Go.Proofs.YtcnekpdoldljgaaGreat.ORows Go.Proofs.YtcnekpdoldljgaaGreat.Red Go.Proofs.YtcnekpdoldljgaaGreat.Mem
theorem inverse_one : impl_inverse.f 5 1 2 = some 1 := by kernel_rfl
theorem wS_r {n : Nat} (h : n < 4611686018427387904) : wrap64 ((n : Int) + 1) = ((n + 1 : Nat) : Int) := by unfold wrap64; omega
theorem bit_times {x : Int} (h : x = 0 ∨ x = 1) : Int.tmod (wrap64 (x * 1)) 2 = x := by
 have e : wrap64 (x * 1) = x := by unfold wrap64; omega
 rw [e]
 rcases h with rfl | rfl <;> rfl
set_option maxHeartbeats 16000000 in
set_option maxRecDepth 100000 in
theorem reduced_walk (n : Nat) (hn : n ≤ 12) (bs : List (Nat × Nat)) (h12 : bs.length ≤ 12) (hnd : (bs.map Prod.fst).Nodup) (F : Nat → List Int) (W0 w : World) (A : Option Addr) (c : Nat) (hB : Below W0.heap.size W0 w)
  (hL : (kE n).R 37 w W0.heap.size (fun _ => True) (.slice A bs.length c) bs) (hO : Go.Proofs.YtcnekpdoldljgaaGreat.ORows.Own n W0.heap.size F bs w) (hne : ∀ p ∈ bs, some p.1 ≠ (Value.slice A bs.length c).ownBlock) (hok : RedOk F bs) :
  Calls Tryz.prog 165 #[.slice A bs.length c, .int .i64 2] w fun e w' => ∃ A' c', e = .returned (.slice A' (redAt F bs bs.length).2.length c') ∧ Below W0.heap.size W0 w' := by
 obtain ⟨N0, hN0⟩ : ∃ N0, N0 = w.heap.size := ⟨_, rfl⟩
 have hlst : Kd.F (kE n) w (fun k => k < N0 ∧ ∀ p ∈ bs, p.1 ≠ k) A bs.length bs := Kd.F_mono (Kd.F_bound (Kd.R_F (Kd.R_tight rfl hL))) (fun k hk => ⟨by rw [hN0]; exact hk.2, fun p hp e => hne p hp (by rw [e]; exact hk.1)⟩)
 have hlow : ∀ p ∈ bs, p.1 < N0 := fun p hp => by rw [hN0]; exact (hO.row p hp).lt
 have HLST := Aside0.mk hlst
 have HLOW := Aside0.mk hlow
 have HO := Aside0.mk hO
 have HB := Aside0.mk hB
 have HN0 := Aside0.mk hN0
 have HN := Aside0.mk hn
 have H12 := Aside0.mk h12
 have HND := Aside0.mk hnd
 have HOK := Aside0.mk hok
 clear hlst hlow hL hO hne hok hB hN0 hn h12 hnd
 go_enter Tryz.func165, Tryz.ntmps165
 go_wp2_with (first
  | ((with_reducible refine gate_dst (N := 15) rfl ?_); refine Kd.R_lit (kE n) (w0 := W0) W0.heap.size 37 ?hg (N := 15) ?hd (xs := ([] : List (Nat × Nat))) (inner := []) (ok := fun _ => True) (okp := fun _ => False) ?hr ?hp (fun _ hk => hk.elim) trivial HB.out HB.out.size (by simp) ?_; (case hd => rfl); (case hg => rfl); (case hr => first | (go_simp; done) | (go_simp; rfl)); (case hp => exact (Reps.none _ _)); intro v1 w1 ho hb hg_ hnew_; have HI1 := Aside0.mk (show RInv n N0 W0 bs A F v1 [] w1 from by
    obtain ⟨b, hb1, hb2⟩ := hnew_
    refine ⟨HO.out.grown hg_ (fun _ _ e => by cases e), Kd.F_grown HLST.out hg_ (fun _ _ e => by cases e), ⟨b, hb1, by rw [HN0.out]; exact hb2, Kd.R_mono (Kd.R_tight rfl ho) (fun k hk => by rw [hb1] at hk; exact Option.some.inj hk)⟩, hb, HLOW.out, by rw [HN0.out]; exact hg_.size⟩); clear ho hb hg_ hnew_))
 go_loopw [18, 5] (fun i out wr => ∃ x : Nat, i = .int .i64 (x : Int) ∧ Aside0 (x ≤ bs.length) ∧ Aside0 (RInv n N0 W0 bs A (redAt F bs x).1 out (redAt F bs x).2 wr))
  (fun i _ _ => bs.length - (intOf i).toNat)
 case atStart => exact ⟨0, rfl, ⟨Nat.zero_le _⟩, ⟨by first | exact HI1.out | exact HI1.out.drewN _ | exact (HI1.out.drewN _).drewN _⟩⟩
 case round =>
  obtain ⟨x, rfl, HX, HI⟩ := hrel
  obtain ⟨Ao, co, rfl⟩ : ∃ Ao co, u5 = .slice Ao (redAt F bs x).2.length co := by
   obtain ⟨g, _, _, hr⟩ := HI.out.out
   exact Kd.R_slice hr
  by_cases hlt : x < bs.length
  rotate_left
  ·have t1 : decide ((x : Int) < (bs.length : Int)) = false := decide_eq_false (by omega)
   have t2 : decide (x < bs.length) = false := decide_eq_false hlt
   have hxe : x = bs.length := by have := HX.out; omega
   rw [hxe] at HI ⊢
   obtain ⟨g, hg1, hg2, hg3⟩ := HI.out.out
   obtain ⟨ad, rfl⟩ : ∃ ad, Ao = some ad := by
    cases Ao with
    | none => cases hg1
    | some ad => exact ⟨ad, rfl⟩
   obtain ⟨g', rfl⟩ := Kd.R_head hg3
   obtain rfl : g' = g := Option.some.inj hg1
   have hsub2 : ∀ p ∈ (redAt F bs bs.length).2, p ∈ bs := fun p hp => List.mem_of_mem_take ((redAt_sub F bs bs.length (Nat.le_refl _)).1 p hp)
   have hlen2 : (redAt F bs bs.length).2.length ≤ 12 := Nat.le_trans (redAt_sub F bs bs.length (Nat.le_refl _)).2 H12.out
   have HSORT := Aside0.mk (sort_rows n bs (redAt F bs bs.length).1 W0.heap.size W0.heap.size _ wr HI.out.own (by have := HN.out; omega) g' co _ hsub2 hg3 hlen2 (fun p hp e => by have := HI.out.low p hp; omega))
   have HGB := Aside0.mk (show W0.heap.size ≤ g' from by have := HB.out.size; have := HN0.out; omega)
   obtain ⟨L, hL⟩ : ∃ L, L = (redAt F bs bs.length).2.length := ⟨_, rfl⟩
   rw [← hL] at HSORT ⊢
   have HL := Aside0.mk hL
   clear hg1 hg2 hg3 hsub2 hlen2 hL hxe
   go_wp2_with (first | (go_at_call 184; refine HSORT.out.mono ?_; rintro e w3 ⟨rfl, hg3⟩; have HG3 := Aside0.mk hg3; clear hg3))
   first | go_end0 | go_ret
   refine ⟨some ⟨g', 0, none⟩, co, by rw [← HL.out]; rfl, ?_⟩
   exact (HI.out.bel.grown HG3.out HI.out.bel.size (fun j hj => by cases hj; exact HGB.out))
  have t1 : decide ((x : Int) < (bs.length : Int)) = true := decide_eq_true (by omega)
  have t2 : decide (x < bs.length) = true := decide_eq_true hlt
  obtain ⟨ad, ead, hcell⟩ := cell_of_E (Kd.F_now HI.out.lst) x hlt
  subst ead
  obtain ⟨b, cb, hbc⟩ : ∃ b cb, bs.getD x (0, 0) = (b, cb) := ⟨_, _, rfl⟩
  have hmem : (b, cb) ∈ bs := by rw [← hbc, List.getD_eq_getElem?_getD, List.getElem?_eq_getElem hlt]; exact List.getElem_mem hlt
  have hSO := HOK.out x hlt
  rw [hbc] at hcell hSO
  replace hcell : wr.cell? (ad.add x) = some (.slice (some ⟨b, 0, none⟩) n cb) := hcell
  obtain ⟨st, hst⟩ : ∃ st, redAt F bs x = st := ⟨_, rfl⟩
  have hnext : redAt F bs (x + 1) = stepF st (b, cb) := by rw [redAt_succ F bs hlt, hst, hbc]
  have hsub : ∀ q ∈ st.2, q ∈ bs ∧ q.1 ≠ b := fun q hq => by
   have := (redAt_sub F bs x (Nat.le_of_lt hlt)).1 q (by rw [hst]; exact hq)
   exact ⟨List.mem_of_mem_take this, by have h := taken_ne HND.out hlt this; rw [hbc] at h; exact h⟩
  have hlen : st.2.length ≤ 12 := by have := (redAt_sub F bs x (Nat.le_of_lt hlt)).2; rw [hst] at this; have := HX.out; have := H12.out; omega
  rw [hst] at HI hSO ⊢
  have HM := Aside0.mk hmem
  have HSO := Aside0.mk hSO
  have HNX := Aside0.mk hnext
  have HSUB := Aside0.mk hsub
  have HLEN := Aside0.mk hlen
  have HLT := Aside0.mk hlt
  clear hmem hSO hnext hsub hlen hst hbc
  obtain ⟨wo, hwo⟩ : ∃ wo, wo = wr := ⟨wr, rfl⟩
  subst hwo
  go_wp2_with fail
  go_loopw [24] (fun j wq => ∃ y : Nat, j = .int .i64 (y : Int) ∧ Aside0 (y ≤ st.2.length) ∧ Aside0 (RInv n N0 W0 bs (some ad) (absAt st b y) (.slice Ao st.2.length co) st.2 wq))
   (fun j _ => st.2.length - (intOf j).toNat)
  case atStart => exact ⟨0, rfl, ⟨Nat.zero_le _⟩, ⟨by rw [absAt_zero]; first | exact HI.out | exact HI.out.drewN _⟩⟩
  case round =>
   obtain ⟨y, rfl, HY, HJ⟩ := hrel
   by_cases hy : y < st.2.length
   ·have s1 : decide ((y : Int) < (st.2.length : Int)) = true := decide_eq_true (by omega)
    have s2 : decide (y < st.2.length) = true := decide_eq_true hy
    obtain ⟨g, hg1, hg2, hg3⟩ := HJ.out.out
    obtain ⟨ao, eao, hcell2⟩ := cell_of_E (Kd.R_reads' hg3).2.2 y hy
    subst eao
    clear hg1 hg2 hg3 g
    obtain ⟨d, m, hdm⟩ : ∃ d m, st.2.getD y (0, 0) = (d, m) := ⟨_, _, rfl⟩
    have hdmem : (d, m) ∈ st.2 := by rw [← hdm, List.getD_eq_getElem?_getD, List.getElem?_eq_getElem hy]; exact List.getElem_mem hy
    have hle := HSO.out.abs y hy
    have hst2 := absAt_succ st b hy
    rw [hdm] at hcell2 hle hst2
    replace hcell2 : wr.cell? (ao.add y) = some (.slice (some ⟨d, 0, none⟩) n m) := hcell2
    have HCALL := Aside0.mk (HJ.out.lessCall HM.out (HSUB.out _ hdmem).1 (HSUB.out _ hdmem).2 hle)
    have HS2 := Aside0.mk (show upd (absAt st b y) b (lessV (absAt st b y b) (absAt st b y d)) = absAt st b (y + 1) from hst2.symm)
    clear hdm hdmem hle hst2
    go_wp2_with (first | (go_at_call 182; refine HCALL.out.mono ?_; rintro e w3 ⟨rfl, hi3⟩; rw [HS2.out] at hi3; have HI3 := Aside0.mk hi3; clear hi3))
    go_roundw
    case rel => exact ⟨y + 1, congrArg _ (wS_r (by have := HLEN.out; omega)), ⟨hy⟩, ⟨by first | exact HI3.out | exact HI3.out.drewN _⟩⟩
    case measure => rw [wS_r (by have := HLEN.out; omega)]; simp [intOf]; omega
   have s1 : decide ((y : Int) < (st.2.length : Int)) = false := decide_eq_false (by omega)
   have s2 : decide (y < st.2.length) = false := decide_eq_false hy
   have hye : y = st.2.length := by have := HY.out; omega
   clear hy HY
   have HYE := Aside0.mk hye
   obtain ⟨F1, hF1⟩ : ∃ F1, absAt st b st.2.length = F1 := ⟨_, rfl⟩
   have hbit := HSO.out.bit
   have hstep := HNX.out
   unfold stepF at hstep
   have hspr := HSO.out.spr
   have hspz := sprAt_zero st b
   have hsps := fun j h => sprAt_succ st b (j := j) h
   rw [show ((b, cb) : Nat × Nat).1 = b from rfl, hF1] at hstep
   rw [hye, hF1] at HJ
   rw [hF1] at hbit hspr hspz
   have HFC := Aside0.mk (HJ.out.firstCall HM.out (by have := HN.out; omega))
   have hlen1 : (F1 b).length = n := (HJ.out.own.row _ HM.out).len
   obtain ⟨wb, hwb⟩ : ∃ wb, wb = wr := ⟨wr, rfl⟩
   subst hwb
   rcases firstV_at (F1 b) with hv | ⟨K, hK, hv, hnz, _⟩
   ·rw [if_pos (by rw [hv]; decide)] at hstep
    rw [hv] at HFC
    have HST := Aside0.mk hstep
    clear hstep hbit hspr hspz hsps hv hF1 hye hlen1
    go_wp2_with (first | (go_at_call 183; refine HFC.out.mono ?_; rintro e w3 ⟨rfl, ⟨nd, rfl⟩⟩))
    go_roundw
    case rel => exact ⟨x + 1, congrArg _ (wS_r (by have := H12.out; omega)), ⟨hlt⟩, ⟨by rw [HST.out]; exact HJ.out.drewN _⟩⟩
    case measure => rw [wS_r (by have := H12.out; omega)]; simp [intOf]; omega
   ·rw [if_neg (by rw [hv]; omega)] at hstep
    rw [hv] at HFC
    rw [hlen1] at hK
    have hone : (F1 b).getD K 0 = 1 := by
     rcases hbit _ (show (F1 b).getD K 0 ∈ F1 b from by rw [List.getD_eq_getElem?_getD, List.getElem?_eq_getElem (by rw [hlen1]; exact hK)]; exact List.getElem_mem _) with h | h
     ·exact absurd h hnz
     ·exact h
    have hcK := (HJ.out.cell HM.out K hK).1
    rw [hone] at hcK
    have HST := Aside0.mk hstep
    have HBIT := Aside0.mk hbit
    have HSPR := Aside0.mk (hspr (by rw [hv]; omega))
    have HSPZ := Aside0.mk hspz
    have HSPS := Aside0.mk hsps
    have HLN1 := Aside0.mk hlen1
    have s3 : decide ((K : Int) < 0) = false := decide_eq_false (by omega)
    have s4 : decide ((K : Int) < (n : Int)) = true := decide_eq_true (by omega)
    have s5 : decide (K < n) = true := decide_eq_true hK
    have HIV := Aside0.mk (fun w => impl_inverse.calls 5 1 2 1 w inverse_one)
    clear hstep hbit hspr hspz hsps hv hF1 hye hlen1 hnz hone
    go_wp2_with (first | (go_at_call 183; refine HFC.out.mono ?_; rintro e w3 ⟨rfl, ⟨nd, rfl⟩⟩) | (go_at_call 138; refine (HIV.out _).mono ?_; rintro e w3 ⟨rfl, ⟨nd2, rfl⟩⟩))
    go_loopw [45] (fun j wq => ∃ z : Nat, j = .int .i64 (z : Int) ∧ Aside0 (z ≤ n) ∧ Aside0 (RInv n N0 W0 bs (some ad) F1 (.slice Ao st.2.length co) st.2 wq))
     (fun j _ => n - (intOf j).toNat)
    case atStart => exact ⟨0, rfl, ⟨Nat.zero_le _⟩, ⟨by first | exact HJ.out.drewN _ | exact (HJ.out.drewN _).drewN _⟩⟩
    case round =>
     obtain ⟨z, rfl, HZ, HQ⟩ := hrel
     by_cases hz : z < n
     ·have r1 : decide ((z : Int) < (n : Int)) = true := decide_eq_true (by omega)
      have r2 : decide (z < n) = true := decide_eq_true hz
      obtain ⟨q, hq⟩ : ∃ q, (F1 b).getD z 0 = q := ⟨_, rfl⟩
      obtain ⟨hcz, hfz⟩ := HQ.out.cell HM.out z hz
      have hqb : q = 0 ∨ q = 1 := by
       rw [← hq]
       exact HBIT.out _ (by rw [List.getD_eq_getElem?_getD, List.getElem?_eq_getElem (by rw [HLN1.out]; exact hz)]; exact List.getElem_mem _)
      rw [hq] at hcz
      have htm := bit_times hqb
      rw [Int.mul_one] at htm
      have HTM := Aside0.mk htm
      have HSET := Aside0.mk (fun m => (HQ.out.drewN m).setSame HM.out z hz q hq)
      have HSET0 := Aside0.mk (HQ.out.setSame HM.out z hz q hq)
      clear hqb hq htm
      go_wp2_with fail
      go_roundw
      case rel => exact ⟨z + 1, congrArg _ (wS_r (by have := HN.out; omega)), ⟨hz⟩, ⟨by rw [HTM.out]; first | exact HSET0.out | exact HSET.out _ | exact HSET0.out.drewN _⟩⟩
      case measure => rw [wS_r (by have := HN.out; omega)]; simp [intOf]; omega
     have r1 : decide ((z : Int) < (n : Int)) = false := decide_eq_false (by omega)
     have r2 : decide (z < n) = false := decide_eq_false hz
     go_wp2_with fail
     go_loopw [62] (fun j wq => ∃ y : Nat, j = .int .i64 (y : Int) ∧ Aside0 (y ≤ st.2.length) ∧ Aside0 (RInv n N0 W0 bs (some ad) (sprAt st b y) (.slice Ao st.2.length co) st.2 wq))
      (fun j _ => st.2.length - (intOf j).toNat)
     case atStart => exact ⟨0, rfl, ⟨Nat.zero_le _⟩, ⟨by rw [HSPZ.out]; first | exact HQ.out | exact HQ.out.drewN _⟩⟩
     case round =>
      obtain ⟨y2, rfl, HY2, HJ2⟩ := hrel
      by_cases hy2 : y2 < st.2.length
      ·have r3 : decide ((y2 : Int) < (st.2.length : Int)) = true := decide_eq_true (by omega)
       have r4 : decide (y2 < st.2.length) = true := decide_eq_true hy2
       obtain ⟨g, hg1, hg2, hg3⟩ := HJ2.out.out
       obtain ⟨ao, eao, hcell2⟩ := cell_of_E (Kd.R_reads' hg3).2.2 y2 hy2
       subst eao
       clear hg1 hg2 hg3 g
       obtain ⟨d, m, hdm⟩ : ∃ d m, st.2.getD y2 (0, 0) = (d, m) := ⟨_, _, rfl⟩
       have hdmem : (d, m) ∈ st.2 := by rw [← hdm, List.getD_eq_getElem?_getD, List.getElem?_eq_getElem hy2]; exact List.getElem_mem hy2
       have hle := HSPR.out y2 hy2
       have hst2 := HSPS.out y2 hy2
       rw [hdm] at hcell2 hle hst2
       replace hcell2 : wr.cell? (ao.add y2) = some (.slice (some ⟨d, 0, none⟩) n m) := hcell2
       have HCALL := Aside0.mk (HJ2.out.lessCall (HSUB.out _ hdmem).1 HM.out (fun e => (HSUB.out _ hdmem).2 e.symm) hle)
       have HS2 := Aside0.mk (show upd (sprAt st b y2) d (lessV (sprAt st b y2 d) (sprAt st b y2 b)) = sprAt st b (y2 + 1) from hst2.symm)
       clear hdm hdmem hle hst2
       go_wp2_with (first | (go_at_call 182; refine HCALL.out.mono ?_; rintro e w3 ⟨rfl, hi3⟩; rw [HS2.out] at hi3; have HI3 := Aside0.mk hi3; clear hi3))
       go_roundw
       case rel => exact ⟨y2 + 1, congrArg _ (wS_r (by have := HLEN.out; omega)), ⟨hy2⟩, ⟨by first | exact HI3.out | exact HI3.out.drewN _⟩⟩
       case measure => rw [wS_r (by have := HLEN.out; omega)]; simp [intOf]; omega
      have r3 : decide ((y2 : Int) < (st.2.length : Int)) = false := decide_eq_false (by omega)
      have r4 : decide (y2 < st.2.length) = false := decide_eq_false hy2
      have hye2 : y2 = st.2.length := by have := HY2.out; omega
      rw [hye2] at HJ2
      have HAL := Aside0.mk (show (st.2.length + 1) * 24 ≤ 140737488355328 from by have := HLEN.out; omega)
      have HRO := Aside0.mk (show (kE n).R 37 wr W0.heap.size (fun _ => True) (.slice Ao st.2.length co) st.2 from by
       obtain ⟨g, _, _, h3⟩ := HJ2.out.out
       exact Kd.R_mono h3 (fun _ _ => trivial))
      go_wp2_with (first | (at_builtin; refine Kd.R_append (kE n) (w0 := W0) W0.heap.size rfl (.tmp 71) (.tmp 73) 77 37 (.slice none 0 0) 24 rfl Tryz.underlying77 info37 rfl (show 0 < 1 from Nat.one_pos) (by omega) (.slice Ao st.2.length co) st.2 (b, cb) [rowE n (b, cb)] (fun _ => True) (fun _ => False) rfl rfl ?aP (fun _ hk => hk.elim) ?aF ?aO ?aB ?aS ?aL ?_; (case aP => exact rfl); (case aB => exact HJ2.out.bel); (case aF => exact (fun _ _ => trivial)); (case aO => exact HRO.out); (case aS => exact HJ2.out.bel.size); (case aL => exact HAL.out); intro v5 w5 ho hb hg hat; have HI5 := Aside0.mk (HJ2.out.app ho hb hg hat); clear ho hb hg hat))
      go_roundw
      case rel => exact ⟨x + 1, congrArg _ (wS_r (by have := H12.out; omega)), ⟨hlt⟩, ⟨by rw [HST.out]; first | exact HI5.out | exact HI5.out.drewN _⟩⟩
      case measure => rw [wS_r (by have := H12.out; omega)]; simp [intOf]; omega
end Go.Proofs.YtcnekpdoldljgaaGreat.F
end
section
namespace Go.Proofs.YtcnekpdoldljgaaGreat.F
open Go.RowKit Go.Proofs.YtcnekpdoldljgaaGreatW.PrintWords Go.Proofs.YtcnekpdoldljgaaGreatW.PrintLast Go.Proofs.YtcnekpdoldljgaaGreatW.PrintMore
attribute [local go_sem] max2_int min2_int max_two min_two max_three min_three max_four min_four   
set_option linter.unusedVariables false
set_option linter.unusedSimpArgs false
open Go.Proofs.YtcnekpdoldljgaaGreat.ORows Go.Proofs.YtcnekpdoldljgaaGreat.Red Go.Proofs.YtcnekpdoldljgaaGreat.Mem
set_option maxHeartbeats 4000000 in
set_option maxRecDepth 100000 in
theorem rank_walk (k : Nat) (l0 : List Int) (rs : List (List Int)) (n r : Nat) (A0 : Option Addr) (c0 : Nat) (w : World) (hr0 : Kd.C (Kd.int .i64) w A0 l0.length l0) (hc0 : l0.length ≤ c0) (hk : impl_rows.f k l0 = some rs) (hb : ∀ q ∈ rs, Bits q ∧ q.length = n) (hl : rs.length = n) (hn : n ≤ 12) (hr : IsRank rs r) :
    Calls Tryz.prog 121 #[.slice A0 l0.length c0] w fun e w' => e = .returned (.int .i64 (r : Int)) ∧ Below w.heap.size w w' := by
  have HROWS := Aside0.mk (impl_rows.calls k A0 c0 l0 rs w hr0 hc0 hk)
  have hred : ∀ (v : Value) (w1 : World), Kd.S (Kd.slice 2 (Kd.int .i64)) 37 w1 w.heap.size (fun _ => True) v rs → Below w.heap.size w w1 → ∃ A c, v = .slice A n c ∧
      Calls Tryz.prog 165 #[.slice A n c, .int .i64 2] w1 fun e w' => ∃ A' c', e = .returned (.slice A' r c') ∧ Below w.heap.size w w' := by
    intro v w1 hS hB
    obtain ⟨bs, F, hnd, hR, hO, hm, hne⟩ := own_rows0 hS (fun q hq => (hb q hq).2) (by
      rcases Nat.eq_zero_or_pos n with h | h
      · exact .inl (List.eq_nil_of_length_eq_zero (hl.trans h))
      · exact .inr h)
    have hbl : bs.length = n := by rw [← hl, ← hm, List.length_map]
    obtain ⟨A, c, rfl⟩ := Kd.R_slice hR
    have hbits : ∀ p ∈ bs, Bits (F p.1) ∧ (F p.1).length = n := fun p hp => hb _ (by rw [← hm]; exact List.mem_map.2 ⟨p, hp, rfl⟩)
    obtain ⟨hok, hrank⟩ := red_ok hnd (by omega) hbits
    rw [hm] at hrank
    have hw := reduced_walk n hn bs (by omega) hnd F w w1 A c hB hR hO hne hok
    rw [hrank.unique hr, hbl] at hw
    exact ⟨A, c, by rw [hbl], hw⟩
  have HRED := Aside0.mk hred
  clear hr0 hc0 hk hb hl hn hr hred
  go_enter Tryz.func121, Tryz.ntmps121
  go_wp2_with (first
    | (go_at_call 146; refine HROWS.out.mono ?_; rintro e w1 ⟨v, rfl, hS, hB⟩; obtain ⟨A1, c1, rfl, hred1⟩ := HRED.out v w1 hS hB; have HR1 := Aside0.mk hred1; clear hS hB hred1)
    | (go_at_call 165; refine HR1.out.mono ?_; rintro e w2 ⟨A2, c2, rfl, hB2⟩; have HB2 := Aside0.mk hB2; clear hB2))
  go_ret
  exact ⟨rfl, HB2.out⟩
end Go.Proofs.YtcnekpdoldljgaaGreat.F
end
section
namespace Go.Proofs.YtcnekpdoldljgaaGreat.F
open Go.RowKit Go.Proofs.YtcnekpdoldljgaaGreatW.PrintWords Go.Proofs.YtcnekpdoldljgaaGreatW.PrintLast Go.Proofs.YtcnekpdoldljgaaGreatW.PrintMore
attribute [local go_sem] max2_int min2_int max_two min_two max_three min_three max_four min_four   
set_option linter.unusedVariables false
set_option linter.unusedSimpArgs false
def impl_times.l0 : Nat → Int → List Int → List Int → Int → Int → Option (List Int)
 | 0, _, _, _, _, _ => none
 | k + 1, x1, x5, x12, x13, x14 => if x14 < x13 then (if 0 ≤ x14 then (if x14 < (x12.length : Int) then (if 0 ≤ (wrap64 (x14 + 1)) then (if (wrap64 (x14 + 1)) < (x5.length : Int) then ((some (x5.set ((wrap64 (x14 + 1)) : Int).toNat (wrap64 ((rd x5 (wrap64 (x14 + 1))) + (rd x12 x14))) : List Int)).bind fun y1221006 => (if x14 < (x5.length : Int) then (impl_times.l0 k x1 (y1221006.set (x14 : Int).toNat (wrap64 ((rd y1221006 x14) - (wrap64 (x1 * (rd x12 x14)))))) x12 x13 (wrap64 (x14 + 1))) else (none))) else (none)) else (none)) else (none)) else (none)) else (some x5)
def impl_times.f (k : Nat) (l0 : List Int) (a1 : Int) : Option (List Int) := if 0 ≤ (wrap64 ((l0.length : Int) + 1)) then (if (wrap64 ((l0.length : Int) + 1) : Int).toNat ≤ 35184372088832 then (impl_times.l0 k a1 (List.replicate (wrap64 ((l0.length : Int) + 1) : Int).toNat 0) l0 (l0.length : Int) 0) else (none)) else (none)
theorem impl_times.mono_l : ∀ k, (∀ y0 y1 y2 y3 y4, LeO (impl_times.l0 k y0 y1 y2 y3 y4) (impl_times.l0 (k + 1) y0 y1 y2 y3 y4))
 | 0 => fun _ _ _ _ _ r h => by simp [impl_times.l0] at h
 | k + 1 => by
  have ih0 := impl_times.mono_l k
  ·intro y0 y1 y2 y3 y4
   unfold impl_times.l0
   repeat' first
   | (with_reducible exact ih0 _ _ _ _ _)
   | (with_reducible exact LeO.refl _)
   | (with_reducible exact LeO.none _)
   | (with_reducible refine LeO.ite ?_ ?_)
   | (with_reducible refine LeO.bind ?_ (fun _ => ?_))
   | exact ih0 _ _ _ _ _
   | exact LeO.none _
   | refine LeO.ite ?_ ?_
   | refine LeO.bind ?_ (fun _ => ?_)
theorem impl_times.mono : ∀ a0 a1 k, LeO (impl_times.f k a0 a1) (impl_times.f (k + 1) a0 a1) := by
 intro a0 a1 k
 have ih0 := impl_times.mono_l k
 unfold impl_times.f
 repeat' first
   | (with_reducible exact ih0 _ _ _ _ _)
   | (with_reducible exact LeO.refl _)
   | (with_reducible exact LeO.none _)
   | (with_reducible refine LeO.ite ?_ ?_)
   | (with_reducible refine LeO.bind ?_ (fun _ => ?_))
   | exact ih0 _ _ _ _ _
   | exact LeO.none _
   | refine LeO.ite ?_ ?_
   | refine LeO.bind ?_ (fun _ => ?_)
set_option maxHeartbeats 8000000 in
set_option maxRecDepth 100000 in
theorem impl_times.calls (k : Nat) (A0 : Option Addr) (c0 : Nat) (l0 : List Int) (a1 : Int) (r : List Int) (w : World) (hr0 : Kd.C (Kd.int .i64) w A0 l0.length l0) (hc0 : l0.length ≤ c0) (h : impl_times.f k l0 a1 = some r) :
  Calls Tryz.prog 122 #[.slice A0 l0.length c0, .int .i64 a1] w fun e w' => ∃ v0_ : Value, e = .returned (v0_) ∧ Kd.R (Kd.int .i64) 2 w' w.heap.size (fun _ => True) v0_ r ∧ Below w.heap.size w w' := by
 have HR0 := Aside0.mk hr0
 have HC0 := Aside0.mk hc0
 clear hr0 hc0
 have HB := Aside0.mk (Below.refl w.heap.size w)
 have H : (if 0 ≤ (wrap64 ((l0.length : Int) + 1)) then (if (wrap64 ((l0.length : Int) + 1) : Int).toNat ≤ 35184372088832 then (impl_times.l0 k a1 (List.replicate (wrap64 ((l0.length : Int) + 1) : Int).toNat 0) l0 (l0.length : Int) 0) else (none)) else (none)) = some r := h
 clear h
 obtain ⟨ji3, hji3⟩ : ∃ j_ : Int, (wrap64 ((l0.length : Int) + 1)) = j_ := ⟨_, rfl⟩
 replace H : (if 0 ≤ (ji3) then (if (ji3 : Int).toNat ≤ 35184372088832 then (impl_times.l0 k a1 (List.replicate (ji3 : Int).toNat 0) l0 (l0.length : Int) 0) else (none)) else (none)) = some r := by first | (rw [hji3] at H; exact H) | (simp only [hji3] at H ⊢; exact H)
 have hji3w : (IntKind.i64.wrap ((l0.length : Int) + 1)) = ji3 := (i64_w _).trans hji3
 by_cases c4 : 0 ≤ (ji3)
 rotate_left
 ·rw [if_neg c4] at H
  exact absurd H (by simp)
 rw [if_pos c4] at H
 have c4b0 := eq_true c4
 have c4b1 : decide (0 ≤ (ji3)) = true := decide_eq_true c4
 clear c4
 by_cases c5 : (ji3 : Int).toNat ≤ 35184372088832
 rotate_left
 ·rw [if_neg c5] at H
  exact absurd H (by simp)
 rw [if_pos c5] at H
 have c5b0 := eq_true c5
 have c5b1 : decide ((ji3 : Int).toNat ≤ 35184372088832) = true := decide_eq_true c5
 clear c5
 obtain ⟨y1221001, hy1221001⟩ : ∃ y_ : List Int, y_ = (List.replicate (ji3 : Int).toNat 0) := ⟨_, rfl⟩
 replace H : (impl_times.l0 k a1 y1221001 l0 (l0.length : Int) 0) = some r := by first | (rw [hy1221001]; with_reducible exact H) | (have H2_ := (Option.bind_some _ _).symm.trans H; rw [hy1221001]; with_reducible exact H2_) | (have H2_ := (Option.bind_some _ _).symm.trans H; with_reducible exact H2_) | with_reducible exact H | (rw [hy1221001]; exact H) | exact H
 have Ny1221001 := Aside0.mk hy1221001
 clear hy1221001
 have H' := Aside0.mk H
 clear H
 go_enter Tryz.func122, Tryz.ntmps122
 go_wp2_with (first | ((with_reducible refine gate_dst (N := 11) rfl ?_); refine Kd.R_make (Kd.int .i64) _ 2 rfl (N := 11) rfl 37 _ _ rfl ji3 rfl rfl Tryz.underlying37 (.int .i64 0) 8 info2 rfl (by decide) (by omega) 0 (ok := fun _ => True) (okp := fun _ => True) rfl (fun _ hk => hk) trivial (of_decide_eq_true (by first | (with_reducible assumption) | assumption)) (Nat.le_trans (Nat.mul_le_mul_right _ (of_decide_eq_true (by first | (with_reducible assumption) | assumption) : ji3.toNat ≤ 35184372088832)) (by omega)) (Below.refl _ _) (Nat.le_refl _) ?_; intro v1221002 w6 ho7 hb hg_ hnew_; clear hg_ hnew_; (first | rw [← Ny1221001.out] at ho7 | (simp only [Int.reduceToNat] at ho7; rw [← Ny1221001.out] at ho7)); have n0_ := Aside0.mk (Kd.R_lower ho7 (below_size (by repeat (first | (with_reducible first | exact HB.out | apply below_alloc | apply pw_below_drewN | apply below_drew1) | exact HB.out)))); have n1_ := Aside0.mk (below_step (by repeat (first | (with_reducible first | exact HB.out | apply below_alloc | apply pw_below_drewN | apply below_drew1) | exact HB.out)) hb); clear HB; have HO1221003 := n0_; have HB := n1_; clear n0_ n1_; clear hb ho7))
 go_loopg [14] k (fun kq v14 w' => ∃ (x5_1 : List Int) (x14_1 : Int), v14 = .int .i64 x14_1 ∧ Aside0 (impl_times.l0 kq a1 x5_1 l0 (l0.length : Int) x14_1 = some r) ∧ Aside0 (kq ≤ k) ∧ Aside0 (Kd.R (Kd.int .i64) 2 w' w.heap.size (fun _ => True) v1221002 x5_1) ∧ Aside0 (Below w.heap.size w w'))
 case atStart => exact ⟨(y1221001), (0), (by first | rfl | (simp; done) | (simp [*]; done)), H', ⟨Nat.le_refl _⟩, ⟨by (with_reducible repeat (first | apply Kd.R_alloc | apply Kd.R_drewN | apply Kd.R_drew)); exact HO1221003.out⟩, ⟨by repeat (first | (with_reducible first | exact HB.out | apply below_alloc | apply pw_below_drewN | apply below_drew1) | exact HB.out)⟩⟩
 case round =>
  clear H'
  try clear c1
  try clear p2
  try clear c4
  try clear c4b0
  try clear c4b1
  try clear c5
  try clear c5b0
  try clear c5b1
  try clear p6
  obtain ⟨x5_1, x14_1, rfl, HA, HK1, HO_5, HB⟩ := hrel
  cases gk with
  | zero => exact absurd HA.out (by simp [impl_times.l0])
  | succ k1 =>
   have H := HA.out
   clear HA
   simp only [impl_times.l0] at H
   by_cases c8 : x14_1 < (l0.length : Int)
   rotate_left
   ·rw [if_neg c8] at H
    have c8b0 : decide (x14_1 < (l0.length : Int)) = false := decide_eq_false c8
    clear c8
    obtain rfl := Option.some.inj H
    go_wp2
    go_ret
    exact ⟨_, by first | rfl | (simp [errW_none, errW_some] <;> rfl) | (simp only [← hji3]; first | rfl | (simp [errW_none, errW_some] <;> rfl)) | (simp [*, errW_none, errW_some] <;> rfl), by (with_reducible repeat (first | apply Kd.R_alloc | apply Kd.R_drewN | apply Kd.R_drew)); exact HO_5.out, by repeat (first | (with_reducible first | exact HB.out | apply below_alloc | apply pw_below_drewN | apply below_drew1) | exact HB.out)⟩
   rw [if_pos c8] at H
   have c8b0 : decide (x14_1 < (l0.length : Int)) = true := decide_eq_true c8
   clear c8
   by_cases c9 : 0 ≤ x14_1
   rotate_left
   ·rw [if_neg c9] at H
    exact absurd H (by simp)
   rw [if_pos c9] at H
   have c9b0 : decide (0 ≤ x14_1) = true := decide_eq_true c9
   clear c9
   by_cases c10 : x14_1 < (l0.length : Int)
   rotate_left
   ·rw [if_neg c10] at H
    exact absurd H (by simp)
   rw [if_pos c10] at H
   have c10b0 : decide (x14_1 < (l0.length : Int)) = true := decide_eq_true c10
   clear c10
   obtain ⟨ji11, hji11⟩ : ∃ j_ : Int, (wrap64 (x14_1 + 1)) = j_ := ⟨_, rfl⟩
   replace H : (if 0 ≤ (ji11) then (if (ji11) < (x5_1.length : Int) then ((some (x5_1.set ((ji11) : Int).toNat (wrap64 ((rd x5_1 (ji11)) + (rd l0 x14_1))) : List Int)).bind fun y1221006 => (if x14_1 < (x5_1.length : Int) then (impl_times.l0 k1 a1 (y1221006.set (x14_1 : Int).toNat (wrap64 ((rd y1221006 x14_1) - (wrap64 (a1 * (rd l0 x14_1)))))) l0 (l0.length : Int) ji11) else (none))) else (none)) else (none)) = some r := by first | (rw [hji11] at H; exact H) | (simp only [hji11] at H ⊢; exact H)
   have hji11w : (IntKind.i64.wrap (x14_1 + 1)) = ji11 := (i64_w _).trans hji11
   by_cases c12 : 0 ≤ (ji11)
   rotate_left
   ·rw [if_neg c12] at H
    exact absurd H (by simp)
   rw [if_pos c12] at H
   have c12b0 : decide (0 ≤ (ji11)) = true := decide_eq_true c12
   clear c12
   by_cases c13 : (ji11) < (x5_1.length : Int)
   rotate_left
   ·rw [if_neg c13] at H
    exact absurd H (by simp)
   rw [if_pos c13] at H
   have c13b0 : decide ((ji11) < (x5_1.length : Int)) = true := decide_eq_true c13
   clear c13
   obtain ⟨y1221006, hy1221006⟩ : ∃ y_ : List Int, y_ = (x5_1.set ((ji11) : Int).toNat (wrap64 ((rd x5_1 (ji11)) + (rd l0 x14_1)))) := ⟨_, rfl⟩
   replace H : (if x14_1 < (x5_1.length : Int) then (impl_times.l0 k1 a1 (y1221006.set (x14_1 : Int).toNat (wrap64 ((rd y1221006 x14_1) - (wrap64 (a1 * (rd l0 x14_1)))))) l0 (l0.length : Int) ji11) else (none)) = some r := by first | (rw [hy1221006]; with_reducible exact H) | (have H2_ := (Option.bind_some _ _).symm.trans H; rw [hy1221006]; with_reducible exact H2_) | (have H2_ := (Option.bind_some _ _).symm.trans H; with_reducible exact H2_) | with_reducible exact H | (rw [hy1221006]; exact H) | exact H
   have Ny1221006 := Aside0.mk hy1221006
   clear hy1221006
   by_cases c15 : x14_1 < (x5_1.length : Int)
   rotate_left
   ·rw [if_neg c15] at H
    exact absurd H (by simp)
   rw [if_pos c15] at H
   have c15b0 : decide (x14_1 < (x5_1.length : Int)) = true := decide_eq_true c15
   clear c15
   obtain ⟨y1221008, hy1221008⟩ : ∃ y_ : List Int, y_ = (y1221006.set (x14_1 : Int).toNat (wrap64 ((rd y1221006 x14_1) - (wrap64 (a1 * (rd l0 x14_1)))))) := ⟨_, rfl⟩
   replace H : (impl_times.l0 k1 a1 y1221008 l0 (l0.length : Int) ji11) = some r := by first | (rw [hy1221008]; with_reducible exact H) | (have H2_ := (Option.bind_some _ _).symm.trans H; rw [hy1221008]; with_reducible exact H2_) | (have H2_ := (Option.bind_some _ _).symm.trans H; with_reducible exact H2_) | with_reducible exact H | (rw [hy1221008]; exact H) | exact H
   have Ny1221008 := Aside0.mk hy1221008
   clear hy1221008
   have H' := Aside0.mk H
   clear H
   have p1221004 : 0 ≤ (x14_1 : Int) := of_decide_eq_true (by first | (with_reducible assumption) | assumption)
   have q1221004 : x14_1 < (l0.length : Int) := of_decide_eq_true (by first | (with_reducible assumption) | assumption)
   obtain ⟨ad1221004, e1221004, hx1221004_0⟩ := Kd.at_int HR0.out x14_1 p1221004 q1221004
   cases e1221004
   replace hx1221004_0 := (HB.out.cell (World.block_lt_of_cell? w _ hx1221004_0)).trans hx1221004_0
   replace p1221004 := eq_true p1221004
   replace q1221004 := eq_true q1221004
   obtain ⟨Ao17, co17, eo17⟩ := Kd.R_slice HO_5.out
   subst eo17
   have p1221005 : 0 ≤ ((ji11) : Int) := of_decide_eq_true (by first | (with_reducible assumption) | assumption)
   have q1221005 : (ji11) < (x5_1.length : Int) := of_decide_eq_true (by first | (with_reducible assumption) | assumption)
   obtain ⟨ad1221005, e1221005, hx1221005_0⟩ := Kd.at_int (Kd.R_reads' HO_5.out).2.2 (ji11) p1221005 q1221005
   cases e1221005
   replace p1221005 := eq_true p1221005
   replace q1221005 := eq_true q1221005
   have p14 : 0 ≤ ((ji11) : Int) := of_decide_eq_true (by first | (with_reducible assumption) | assumption)
   have q14 : ((ji11) : Int) < ((x5_1.length : Int) : Int) := of_decide_eq_true (by first | (with_reducible assumption) | assumption)
   obtain ⟨go14, co14, eo14, gb14, gl14, cl14, HG14⟩ := Kd.R_form HO_5.out (by omega)
   (first | cases eo14 | (injection eo14 with ea_ en_ ec_; (first | subst ea_ | (injection ea_ with ea_; subst ea_)); subst ec_; clear en_))
   have GB14 := Aside0.mk gb14
   have GG14 := Aside0.mk HG14
   clear gb14 gl14 HG14
   (first | simp only [add_plain] at hx1221005_0 | skip)
   obtain ⟨hx14_0, hf14_0⟩ := Kd.R_celln 0 HO_5.out ((ji11) : Int) p14 q14
   replace p14 := eq_true p14
   replace q14 := eq_true q14
   have HP18 := Kd.R_putg HO_5.out ((ji11) : Int) (wrap64 ((rd x5_1 (ji11)) + (rd l0 x14_1)))
   go_wp2_with (first | ((with_reducible refine gate_store (t := 2) (p := 26) rfl ?_); refine store_event (t := 2) (p := 26) (v := ?vo_w19) (w1 := (wr.setCell ⟨go14, ((ji11) : Int).toNat, none⟩ (.int .i64 (wrap64 ((rd x5_1 (ji11)) + (rd l0 x14_1)))))) ?hg ?ho ?hn ?hr ?_; (case ho => rfl); (case hg => rfl); (case hn => rfl); (case hr => first | (go_simp; done) | (go_simp; rfl)); intro w19 hw; have hg : wr.grownBy w19 (some go14) := (by rw [hw]; exact HP18.2); have hp_ : Kd.R (Kd.int .i64) 2 w19 w.heap.size (fun _ => True) (.slice (some ⟨go14, 0, none⟩) x5_1.length co17) y1221006 := (by rw [hw, Ny1221006.out]; exact HP18.1); clear HP18; have n0_ := Aside0.mk (hp_); have n1_ := Aside0.mk ((by rw [hw]; exact below_set (HB.out) GB14.out : Below w.heap.size w w19)); clear HO_5; clear HB; have HO_5 := n0_; have HB := n1_; clear n0_ n1_; clear hg hw hp_; have p1221007 : 0 ≤ (x14_1 : Int) := of_decide_eq_true (by first | (with_reducible assumption) | assumption); have q1221007 : x14_1 < (y1221006.length : Int) := (by have h_ : (x14_1 : Int) < ((x5_1.length : Int) : Int) := of_decide_eq_true (by first | (with_reducible assumption) | assumption); first | (have e_ := (Kd.R_reads' HO_5.out).1; omega) | simpa only [Ny1221006.out, List.length_set] using h_); have ql1221007 : ((x14_1 : Int) < ((x5_1.length : Int) : Int)) = True := eq_true (of_decide_eq_true (by first | (with_reducible assumption) | assumption)); obtain ⟨ad1221007, e1221007, hx1221007_0⟩ := Kd.at_int (Kd.R_reads' HO_5.out).2.2 x14_1 p1221007 q1221007; obtain rfl : (⟨go14, 0, none⟩ : Addr) = ad1221007 := (by injection e1221007); (first | simp only [add_plain] at hx1221007_0 | simp only [add_at] at hx1221007_0 | simp only [Addr.add, Nat.zero_add] at hx1221007_0 | skip); replace p1221007 := eq_true p1221007; replace q1221007 := eq_true q1221007; have p16 : 0 ≤ (x14_1 : Int) := of_decide_eq_true (by first | (with_reducible assumption) | assumption); have q16 : (x14_1 : Int) < ((x5_1.length : Int) : Int) := of_decide_eq_true (by first | (with_reducible assumption) | assumption); obtain ⟨hx16_0, hf16_0⟩ := Kd.R_celln 0 HO_5.out (x14_1 : Int) p16 q16; replace p16 := eq_true p16; replace q16 := eq_true q16; obtain ⟨hy20_, hz20_⟩ := Kd.R_celln 0 HO_5.out (x14_1 : Int) (of_decide_eq_true (by first | (with_reducible assumption) | assumption)) (of_decide_eq_true (by first | (with_reducible assumption) | assumption)); have HP20 := Kd.R_putg HO_5.out (x14_1 : Int) (wrap64 ((rd y1221006 x14_1) - (wrap64 (a1 * (rd l0 x14_1)))))) | ((with_reducible refine gate_store (t := 2) (p := 35) rfl ?_); refine store_event (t := 2) (p := 35) (v := ?vo_w21) (w1 := (w19.setCell ⟨go14, (x14_1 : Int).toNat, none⟩ (.int .i64 (wrap64 ((rd y1221006 x14_1) - (wrap64 (a1 * (rd l0 x14_1)))))))) ?hg ?ho ?hn ?hr ?_; (case ho => rfl); (case hg => rfl); (case hn => rfl); (case hr => first | (go_simp; done) | (go_simp; rfl)); intro w21 hw; have hg : w19.grownBy w21 (some go14) := (by rw [hw]; exact HP20.2); have hp_ : Kd.R (Kd.int .i64) 2 w21 w.heap.size (fun _ => True) (.slice (some ⟨go14, 0, none⟩) x5_1.length co17) y1221008 := (by rw [hw, Ny1221008.out]; exact HP20.1); clear HP20; have n0_ := Aside0.mk (hp_); have n1_ := Aside0.mk ((by rw [hw]; exact below_set (HB.out) GB14.out : Below w.heap.size w w21)); clear HO_5; clear HB; have HO_5 := n0_; have HB := n1_; clear n0_ n1_; clear hg hw hp_))
   go_roundg k1
   case measure => have := HK1.out; omega
   case rel => exact ⟨(y1221008), (ji11), (by first | rfl | (simp; done) | (simp only [← hji11] <;> (first | rfl | simp)) | (simp [*]; done)), H', ⟨by have := HK1.out; omega⟩, ⟨by (with_reducible repeat (first | apply Kd.R_alloc | apply Kd.R_drewN | apply Kd.R_drew)); exact HO_5.out⟩, ⟨by repeat (first | (with_reducible first | exact HB.out | apply below_alloc | apply pw_below_drewN | apply below_drew1) | exact HB.out)⟩⟩
end Go.Proofs.YtcnekpdoldljgaaGreat.F
end
section
namespace Go.Proofs.YtcnekpdoldljgaaGreat.Pure
open Go.RowKit Go.Proofs.YtcnekpdoldljgaaGreat.F Go.Proofs.YtcnekpdoldljgaaGreatW.PrintWords Go.Proofs.YtcnekpdoldljgaaGreatW.PrintLast
theorem irow_l1 (w : List Int) (hw : Word w) (out : List (List Int)) (i : Nat) (hi : i < w.length / 2) (r : List (List Int))
    (hr : Ev (fun k => if out.length < 5864062014805 then impl_rows.l0 k w ((w.length / 2 : Nat) : Int) (out ++ [rowTo w i (w.length / 2)]) ((w.length / 2 : Nat) : Int) ((i + 1 : Nat) : Int) else none) r) :
    ∀ d m, m + d = w.length / 2 → Ev (fun k => impl_rows.l1 k w ((w.length / 2 : Nat) : Int) out (i : Int) (rowTo w i m ++ List.replicate d 0) ((w.length / 2 : Nat) : Int) (i : Int) ((w.length / 2 : Nat) : Int) (m : Int)) r := by
  have hle := hw.le
  intro d
  induction d with
  | zero =>
    intro m hm
    refine Ev.step (fun k => ?_) hr
    simp only [impl_rows.l1]
    rw [if_neg (by omega), wS (by omega), List.replicate_zero, List.append_nil, show m = w.length / 2 from by omega]
  | succ d ih =>
    intro m hm
    have hrow : rowTo w i (m + 1) ++ List.replicate d 0 = rowTo w i m ++ ent w i m :: List.replicate d 0 := by rw [rowTo_succ]; simp
    refine Ev_succ ?_
    simp only [impl_rows.l1]
    refine Ev.congr (fun k => if_pos (by omega)) ?_
    refine Ev.bind (icross_ev w hw i m hi (by omega)) ?_
    have hh := ih (m + 1) (by omega)
    rw [hrow] at hh
    have hl := rowTo_len w i m
    by_cases c : crossB w i m = true
    · refine Ev.congr (fun k => if_pos c) ?_
      rw [show ent w i m = 1 from by unfold ent; rw [if_pos c]] at hh
      refine Ev.congr (fun k => ?_) hh
      rw [if_pos (by omega), if_pos (by rw [List.length_append, hl, List.length_replicate]; omega), wS (by omega), Int.toNat_natCast, set_ent]
    · refine Ev.congr (fun k => if_neg c) ?_
      rw [show ent w i m = 0 from by unfold ent; rw [if_neg c], ← List.replicate_succ] at hh
      exact Ev.congr (fun k => by rw [wS (by omega)]) hh
theorem irow_l0 (w : List Int) (hw : Word w) : ∀ d n, n + d = w.length / 2 → Ev (fun k => impl_rows.l0 k w ((w.length / 2 : Nat) : Int) (rowsTo w n) ((w.length / 2 : Nat) : Int) (n : Int)) (rowsOf w) := by
  have hle := hw.le
  intro d
  induction d with
  | zero =>
    intro n hn
    refine Ev.step (f := fun _ => some (rowsOf w)) (fun k => ?_) (Ev.now _)
    simp only [impl_rows.l0]; rw [if_neg (by omega), show n = w.length / 2 from by omega]; rfl
  | succ d ih =>
    intro n hn
    refine Ev_succ ?_
    simp only [impl_rows.l0]
    refine Ev.congr (fun k => if_pos (by omega)) ?_
    refine Ev.congr (fun k => if_pos (by omega)) ?_
    refine Ev.congr (fun k => if_pos (by omega)) ?_
    have hl := rowsTo_len w n
    have h := irow_l1 w hw (rowsTo w n) n (by omega) _ (Ev.congr (fun k => if_pos (by omega)) (by have h := ih (n + 1) (by omega); rw [rowsTo_succ] at h; exact h)) (w.length / 2) 0 (by omega)
    rw [show rowTo w n 0 = [] from rfl, List.nil_append] at h
    exact Ev.congr (fun k => by rw [Int.toNat_natCast]; rfl) h
theorem irows_ev (w : List Int) (hw : Word w) : Ev (fun k => impl_rows.f k w) (rowsOf w) := by
  have hle := hw.le
  refine Ev.congr (fun k => ?_) (irow_l0 w hw (w.length / 2) 0 (by omega))
  unfold impl_rows.f
  rw [chords_f w hle, Option.bind_some]; rfl
end Go.Proofs.YtcnekpdoldljgaaGreat.Pure
end
section
namespace Go.Proofs.YtcnekpdoldljgaaGreat.Pure
open Go.RowKit Go.Proofs.YtcnekpdoldljgaaGreat.F Go.Proofs.YtcnekpdoldljgaaGreatW.PrintWords Go.Proofs.YtcnekpdoldljgaaGreatW.PrintLast
theorem index_none (l : List Int) (x : Int) (hb : l.length < 4611686018427387904) : ∀ d n, n + d = l.length → x ∉ l.drop n → Ev (fun k => slices_Index_int64_int64.l0 k l x (l.length : Int) (n : Int)) (-1) := by
  intro d
  induction d with
  | zero =>
    intro n hn _
    refine Ev.step (f := fun _ => some _) (fun k => ?_) (Ev.now _)
    simp only [slices_Index_int64_int64.l0]; rw [if_neg (by omega)]
  | succ d ih =>
    intro n hn hx
    rw [drop_cons (by omega)] at hx
    refine Ev.step (fun k => ?_) (ih (n + 1) (by omega) (fun h => hx (List.mem_cons_of_mem _ h)))
    simp only [slices_Index_int64_int64.l0]; rw [if_pos (by omega), if_pos (by omega), if_pos (by omega), rdN, if_neg (fun (e : x = l.getD n 0) => hx (e ▸ List.mem_cons_self)), wS (by omega)]
theorem contains_ev (l : List Int) (x : Int) (hb : l.length < 4611686018427387904) : Ev (fun k => slices_Contains_int64_int64.f k l x) (l.contains x) := by
  unfold slices_Contains_int64_int64.f
  by_cases h : x ∈ l
  · refine Ev.bind (index_ev l x hb h) ?_
    rw [show l.contains x = true from List.contains_iff_mem.2 h]
    exact Ev.congr (fun k => by rw [decide_eq_true (by omega)]) (Ev.now _)
  · have h0 : Ev (fun k => slices_Index_int64_int64.f k l x) (-1) := index_none l x hb l.length 0 (by omega) h
    refine Ev.bind h0 ?_
    rw [show l.contains x = false from by simpa using h]
    exact Ev.congr (fun k => by rw [decide_eq_false (by omega)]) (Ev.now _)
end Go.Proofs.YtcnekpdoldljgaaGreat.Pure
end
section
namespace Go.Proofs.YtcnekpdoldljgaaGreat.F
open Go.RowKit Go.Proofs.YtcnekpdoldljgaaGreatW.PrintWords Go.Proofs.YtcnekpdoldljgaaGreatW.PrintLast Go.Proofs.YtcnekpdoldljgaaGreatW.PrintMore
attribute [local go_sem] max2_int min2_int max_two min_two max_three min_three max_four min_four   
set_option linter.unusedVariables false
set_option linter.unusedSimpArgs false
open Go.Proofs.YtcnekpdoldljgaaGreat.Pure Go.Proofs.YtcnekpdoldljgaaGreat.Mem Go.Proofs.YtcnekpdoldljgaaGreat.Red
theorem times_powC : ∀ m, m < 6 → impl_times.f 10 (powC m) 1 = some (powC (m + 1))
 | 0, _ => by kernel_rfl
 | 1, _ => by kernel_rfl
 | 2, _ => by kernel_rfl
 | 3, _ => by kernel_rfl
 | 4, _ => by kernel_rfl
 | 5, _ => by kernel_rfl
structure IEnv (w : World) (l0 : List Int) (A0 : Option Addr) (c0 n : Nat) (Bw Bo Br : Nat) : Prop where
 cw : w.cell? ⟨Bw, 0, none⟩ = some (.slice A0 l0.length c0)
 co : w.cell? ⟨Bo, 0, none⟩ = some (.slice (some ⟨Br, 0, none⟩) (n + 1) (n + 1))
 n1 : Bw ≠ Br
 n3 : Bo ≠ Br
 rd : Kd.F (Kd.int .i64) w (fun k => k ≠ Br) A0 l0.length l0
 lt : Br < w.heap.size
theorem IEnv.grows {w w' : World} {l0 : List Int} {A0 : Option Addr} {c0 n : Nat} {Bw Bo Br : Nat} (h : IEnv w l0 A0 c0 n Bw Bo Br) (hg : w.grownBy w' (some Br)) : IEnv w' l0 A0 c0 n Bw Bo Br :=
 ⟨hg.cell h.cw (fun e => h.n1 (Option.some.inj e)), hg.cell h.co (fun e => h.n3 (Option.some.inj e)), h.n1, h.n3,
  Kd.F_grown h.rd hg (fun k hk e => hk (Option.some.inj e)), Nat.lt_of_lt_of_le h.lt hg.size⟩
set_option maxHeartbeats 16000000 in
set_option maxRecDepth 100000 in
theorem interlace_1 (l0 Ls : List Int) (p : Int → Bool) (rs : List (List Int)) (kr nr r m n : Nat) (old : List Int) (A0 A : Option Addr) (c0 c Bw Bo Br : Nat) (w : World)
  (hE : IEnv w l0 A0 c0 n Bw Bo Br) (hc0 : l0.length ≤ c0) (hl : l0.length ≤ 12) (hL : Kd.F (Kd.int .i64) w (fun k => k ≠ Br) A Ls.length Ls) (hc : Ls.length ≤ c) (hok : okL (l0.filter p) = true)
  (hp : ∀ x, ∃ k, slices_Contains_int64_int64.f k Ls x = some (p x)) (hrows : impl_rows.f kr (nrm (l0.filter p)) = some rs) (hb : ∀ q ∈ rs, Bits q ∧ q.length = nr) (hrl : rs.length = nr) (hnr : nr ≤ 12) (hr : IsRank rs r)
  (hm : (Ls.length : Int) - (r : Int) = (m : Int)) (hm6 : m ≤ 6) (hmn : m ≤ n) (hn6 : n ≤ 6) (hol : old.length = n + 1) (hob : ∀ i, -1000000 ≤ old.getD i 0 + (powC m).getD i 0 ∧ old.getD i 0 + (powC m).getD i 0 ≤ 1000000)
  (hH : w.heap[Br]? = some (.cells (nums .i64 old).toArray 2 (0, 0))) :
  Calls Tryz.prog 117 #[.slice A Ls.length c, .pointer (some ⟨Bw, 0, none⟩), .pointer (some ⟨Bo, 0, none⟩)] w fun e w2 => e = .returned (.tuple #[]) ∧ w.grownBy w2 (some Br) ∧ w2.heap[Br]? = some (.cells (nums .i64 (addTo old (powC m) (m + 1))).toArray 2 (0, 0)) := by
 obtain ⟨wa, hwa⟩ : ∃ wa, w.alloc (.cells #[.slice A Ls.length c] 37) = wa := ⟨_, rfl⟩
 have hba : Below w.heap.size w wa := by rw [← hwa]; exact below_alloc (Below.refl _ _) _
 have hnew : wa.cell? ⟨w.heap.size, 0, none⟩ = some (.slice A Ls.length c) := by
  rw [← hwa]
  have : (w.alloc (.cells #[.slice A Ls.length c] 37)).heap[w.heap.size]? = some (.cells #[.slice A Ls.length c] 37 (0, 0)) := new_at rfl
  simp only [World.cell?, this]
  rfl
 have hsa : w.heap.size < wa.heap.size := World.block_lt_of_cell? wa _ hnew
 have hword := wordOf_walk l0 Ls p A0 A c0 c w.heap.size wa hok (by omega) (Kd.C_below (Kd.F_now hE.rd) hba) hc0 hp hnew (Kd.C_below (Kd.F_now hL) hba) hc
 have hcw : wa.cell? ⟨Bw, 0, none⟩ = some (.slice A0 l0.length c0) := by
  have := hba.block Bw (World.block_lt_of_cell? w _ hE.cw)
  simpa [World.cell?, this] using hE.cw
 have HWORD := Aside0.mk hword
 have HE := Aside0.mk hE
 have HNEW := Aside0.mk hnew
 have HBA := Aside0.mk hba
 have HSA := Aside0.mk hsa
 have HRANK := Aside0.mk (fun (A : Option Addr) (c : Nat) (W : World) (h1 : Kd.C (Kd.int .i64) W A (nrm (l0.filter p)).length (nrm (l0.filter p))) (h2 : (nrm (l0.filter p)).length ≤ c) => rank_walk kr (nrm (l0.filter p)) rs nr r A c W h1 h2 hrows hb hrl hnr hr)
 have HM := Aside0.mk hm
 have HM6 := Aside0.mk hm6
 have HMN := Aside0.mk hmn
 have HN6 := Aside0.mk hn6
 have HOL := Aside0.mk hol
 have HOB := Aside0.mk hob
 have HH := Aside0.mk hH
 obtain ⟨inner, hinner⟩ : ∃ inner, nrm (l0.filter p) = inner := ⟨_, rfl⟩
 rw [hinner] at HWORD HRANK
 clear hword hE hnew hba hsa hc0 hl hL hc hok hp hrows hb hrl hnr hr hm hm6 hmn hn6 hol hob hH hinner
 go_enter Tryz.func117, Tryz.ntmps117
 go_wp2_with (first
  | (go_at_call 118; (try rw [hwa]); refine HWORD.out.mono ?_; rintro e w2 ⟨v2, rfl, hR2, hB2⟩; have HR2 := Aside0.mk hR2; have HB2 := Aside0.mk hB2; clear hR2 hB2)
  | ((with_reducible refine gate_dst (N := 11) rfl ?_); refine Kd.R_lit (Kd.int .i64) (w0 := w) w.heap.size 2 ?hg (N := 11) ?hd (xs := ([1] : List Int)) (inner := [.int .i64 1]) (ok := fun _ => True) (okp := fun _ => False) ?hr ?hp (fun _ hk => hk.elim) trivial (below_step HBA.out HB2.out) (below_step HBA.out HB2.out).size (by simp) ?_; (case hd => rfl); (case hg => rfl); (case hr => first | (go_simp; done) | (go_simp; rfl)); (case hp => exact ((Reps.none _ _).snoc (p := (1 : Int)) rfl rfl)); intro v3 w3 ho hb hg_ hnew_; have HR3 := Aside0.mk ho; have HB3 := Aside0.mk hb; have HG3 := Aside0.mk hg_; clear ho hb hg_ hnew_))
 obtain ⟨A2, c2, rfl⟩ := Kd.R_slice HR2.out
 have HCAP := Aside0.mk (Kd.R_reads' HR2.out).2.1
 have HC3 := Aside0.mk (Kd.F_now (Kd.F_grown (Kd.R_F HR2.out) HG3.out (fun _ _ e => by cases e)))
 have hq3 : w3.cell? ⟨w.heap.size, 0, none⟩ = some (.slice A Ls.length c) := by
  have h1 := HG3.out.block w.heap.size (Nat.lt_of_lt_of_le HSA.out HB2.out.size) (by simp)
  have h2 := HB2.out.block w.heap.size HSA.out
  have h3 := HNEW.out
  simpa [World.cell?, h1, h2] using h3
 have HQ := Aside0.mk (show ∀ W W' : World, W.heap = w3.heap → Below W.heap.size W W' → W'.cell? ⟨w.heap.size, 0, none⟩ = some (.slice A Ls.length c) from fun W W' hW hb => by
  have h1 := hb.block w.heap.size (by rw [hW]; exact World.block_lt_of_cell? w3 _ hq3)
  rw [hW] at h1
  simpa [World.cell?, h1] using hq3)
 have hsub : wrap64 ((Ls.length : Int) - (r : Int)) = (m : Int) := by rw [HM.out]; have := HM6.out; unfold wrap64; omega
 have HSUB := Aside0.mk hsub
 clear hsub
 go_region_law (first
  | (refine goes_ Tryz.func121 (by kernel_rfl) rfl #[.slice A2 inner.length c2] (by rfl) rfl rfl (by simp [Act.eval, Act.put]) ?_; refine (HRANK.out A2 c2 _ ?s1 HCAP.out).mono ?_; (case s1 => exact Kd.C_drew HC3.out); rintro e w4 ⟨rfl, hB4⟩; refine ⟨_, rfl, ?_⟩; have q4 := HQ.out w3.drew w4 rfl hB4; have HB4 := Aside0.mk (show Below w.heap.size w w4 from below_step (below_drew1 HB3.out) hB4); have HR4 := Aside0.mk (show Kd.R (Kd.int .i64) 2 w4 w.heap.size (fun _ => True) v3 [1] from Kd.R_below (Kd.R_drew HR3.out) hB4); clear hB4))
 all_goals
  go_wp2
  simp only [Act.put, List.getElem_toArray, List.getElem_cons_zero, List.getElem_cons_succ, List.setIfInBounds_toArray, List.set_cons_zero, List.set_cons_succ, i64_w, HSUB.out]
  go_loopw [17, 5] (fun i f wr => ∃ j : Nat, i = .int .i64 (j : Int) ∧ Aside0 (j ≤ m) ∧ Aside0 (Below w.heap.size w wr) ∧ Aside0 (Kd.R (Kd.int .i64) 2 wr w.heap.size (fun _ => True) f (powC j)))
   (fun i _ _ => m - (intOf i).toNat)
  case atStart => exact ⟨0, rfl, ⟨Nat.zero_le _⟩, HB4, HR4⟩
  case round =>
   obtain ⟨j, rfl, HJ, HBJ, HRJ⟩ := hrel
   obtain ⟨A5, c5, rfl⟩ := Kd.R_slice HRJ.out
   by_cases hj : j < m
   ·have t1 : decide ((j : Int) < (m : Int)) = true := decide_eq_true (by omega)
    have t2 : decide (j < m) = true := decide_eq_true hj
    have hrd := Kd.R_reads' HRJ.out
    have HT := Aside0.mk (impl_times.calls 10 A5 c5 (powC j) 1 (powC (j + 1)) wr hrd.2.2 hrd.2.1 (times_powC j (by have := HM6.out; omega)))
    clear hrd
    go_wp2_with (first | (go_at_call 122; refine HT.out.mono ?_; rintro e w5 ⟨v5, rfl, hR5, hB5⟩; have HR5 := Aside0.mk (Kd.R_lower hR5 HBJ.out.size); have HB5 := Aside0.mk (below_step HBJ.out hB5); clear hR5 hB5))
    go_roundw
    case rel => exact ⟨j + 1, congrArg _ (wS (by have := HM6.out; omega)), ⟨hj⟩, HB5, HR5⟩
    case measure => rw [wS (by have := HM6.out; omega)]; simp [intOf]; omega
   ·have t1 : decide ((j : Int) < (m : Int)) = false := decide_eq_false (by omega)
    have t2 : decide (j < m) = false := decide_eq_false hj
    have hjm : j = m := by have := HJ.out; omega
    rw [hjm] at HRJ ⊢
    have hlenP : (powC m).length = m + 1 := powC_len m
    have HF5 := Aside0.mk (Kd.R_F (Kd.R_mono (ok' := fun k => k ≠ Br) (Kd.R_bound HRJ.out) (fun k hk => by have := hk.2.1; have := HE.out.lt; omega)))
    rw [hlenP] at HF5 ⊢
    obtain ⟨wo, hwo⟩ : ∃ wo, wo = wr := ⟨wr, rfl⟩
    subst hwo
    go_wp2_with fail
    go_loopw [24] (fun i wq => ∃ x : Nat, i = .int .i64 (x : Int) ∧ Aside0 (x ≤ m + 1) ∧ Aside0 (w.grownBy wq (some Br)) ∧ Aside0 (wq.heap[Br]? = some (.cells (nums .i64 (addTo old (powC m) x)).toArray 2 (0, 0))) ∧ Aside0 (Kd.F (Kd.int .i64) wq (fun k => k ≠ Br) A5 (m + 1) (powC m)))
     (fun i _ => m + 1 - (intOf i).toNat)
    case atStart => exact ⟨0, rfl, ⟨Nat.zero_le _⟩, ⟨gb_of_below HBJ.out _⟩, ⟨by rw [addTo_zero]; exact (HBJ.out.block Br HE.out.lt).trans HH.out⟩, HF5⟩
    case round =>
     obtain ⟨x, rfl, HX, HGX, HHX, HFX⟩ := hrel
     by_cases hx : x < m + 1
     ·have r1 : decide ((x : Int) < ((m + 1 : Nat) : Int)) = true := decide_eq_true (by omega)
      have r2 : decide (x < m + 1) = true := decide_eq_true hx
      have r3 : decide ((x : Int) < (m : Int) + 1) = true := decide_eq_true (by omega)
      have hxn : x < n + 1 := by have := HMN.out; omega
      have r4 : decide ((x : Int) < ((n + 1 : Nat) : Int)) = true := decide_eq_true (by omega)
      have r5 : decide (x < n + 1) = true := decide_eq_true hxn
      have r6 : decide ((x : Int) < (n : Int) + 1) = true := decide_eq_true (by omega)
      obtain ⟨af, eaf, hcf⟩ := cell_of_C (Kd.F_now HFX.out) x hx
      subst eaf
      have hco := (HE.out.grows HGX.out).co
      have hlen2 : (addTo old (powC m) x).length = n + 1 := by rw [addTo_len, HOL.out]
      have hci : wr.cell? ⟨Br, x, none⟩ = some (.int .i64 (old.getD x 0)) := by
       rw [← addTo_at old (powC m) x (by rw [HOL.out]; exact hxn)]
       have := nums_get (addTo old (powC m) x) x (by rw [hlen2]; exact hxn)
       simpa [World.cell?, HHX.out] using this
      have hfi : wr.frozen? ⟨Br, x, none⟩ = false := by simp [World.frozen?, HHX.out]
      obtain ⟨y, hy⟩ : ∃ y, (powC m).getD x 0 = y := ⟨_, rfl⟩
      obtain ⟨z, hz⟩ : ∃ z, old.getD x 0 = z := ⟨_, rfl⟩
      have hsum : wrap64 (z + y) = z + y := by have := HOB.out x; rw [hy, hz] at this; unfold wrap64; omega
      have hset := addTo_succ old (powC m) x (by rw [HOL.out]; exact hxn)
      rw [hy] at hcf hset
      rw [hz] at hci hset
      have HSUM := Aside0.mk hsum
      have HSET := Aside0.mk hset
      clear hy hz hsum hset hlen2
      go_wp2_with fail
      go_roundw
      case rel => exact ⟨x + 1, congrArg _ (wS (by have := HM6.out; omega)), ⟨hx⟩, ⟨grown_set HGX.out x _⟩, ⟨by rw [blk_set HHX.out x _, HSUM.out, nums_set, HSET.out]⟩, ⟨Kd.F_far HFX.out (fun k hk => hk) _⟩⟩
      case measure => rw [wS (by have := HM6.out; omega)]; simp [intOf]; omega
     ·have r1 : decide ((x : Int) < ((m + 1 : Nat) : Int)) = false := decide_eq_false (by omega)
      have r2 : decide (x < m + 1) = false := decide_eq_false hx
      have r3 : decide ((x : Int) < (m : Int) + 1) = false := decide_eq_false (by omega)
      have HXE := Aside0.mk (show x = m + 1 from by have := HX.out; omega)
      go_wp2_with fail
      go_end0
      exact ⟨rfl, HGX.out, by rw [← HXE.out]; exact HHX.out⟩
def impl_interlace.f (l0 : List Int) : Option (List Int) := if isW l0 = true then some (interlaceV l0) else none
set_option maxHeartbeats 8000000 in
set_option maxRecDepth 100000 in
theorem impl_interlace.calls (A0 : Option Addr) (c0 : Nat) (l0 : List Int) (r : List Int) (w : World) (hr0 : Kd.C (Kd.int .i64) w A0 l0.length l0) (hc0 : l0.length ≤ c0) (h : impl_interlace.f l0 = some r) :
  Calls Tryz.prog 57 #[.slice A0 l0.length c0] w fun e w' => ∃ v0_ : Value, e = .returned v0_ ∧ Kd.R (Kd.int .i64) 2 w' w.heap.size (fun _ => True) v0_ r ∧ Below w.heap.size w w' := by
 have hf : isW l0 = true ∧ r = interlaceV l0 := by
  unfold impl_interlace.f at h
  by_cases hk : isW l0 = true
  rotate_left
  ·rw [if_neg hk] at h; exact absurd h (by simp)
  rw [if_pos hk] at h; exact ⟨hk, (Option.some.inj h).symm⟩
 have hw := (isW_iff l0).1 hf.1
 have hle := hw.le
 have HW := Aside0.mk hw
 have HRR := Aside0.mk hf.2
 obtain ⟨n, hn⟩ : ∃ n, n = l0.length / 2 := ⟨_, rfl⟩
 have hch : impl_chords.f l0 = some (n : Int) := by rw [hn]; exact chords_f l0 hle
 have CH := Aside0.mk hch
 have HN := Aside0.mk hn
 have hn6 : n ≤ 6 := by omega
 have hmk := make_ints (P := Tryz.prog) Tryz.underlying37 info2 ((n : Int) + 1) (n + 1) (by omega) (by omega)
 have HR := Aside0.mk hr0
 have HC := Aside0.mk hc0
 have HLE := Aside0.mk hle
 clear hr0 hc0 h hf hw hle hch hn
 have hmf : ∀ (fn : Fn) (first cap : Array Value) (w : World), (Instr.makeFunc fn first cap).run Tryz.prog w = .ok (.func fn first cap) w := fun _ _ _ _ => rfl
 go_enter Tryz.func57, Tryz.ntmps57
 go_wp2_with (first | (go_at_call 115; refine (impl_chords.calls A0 c0 l0 _ _ (by repeat (first | exact HR.out | refine Kd.C_alloc ?_ _ | refine Kd.C_drewN ?_ _)) HC.out CH.out).mono ?_; rintro e w' ⟨rfl, ⟨nd, rfl⟩⟩))
 obtain ⟨w0, hw0⟩ : ∃ w0, w0 = ((((w.alloc (.cells #[.slice A0 l0.length c0] 37 (0, 0))).drewN nd).alloc (.cells (nums .i64 (List.replicate (n + 1) 0)).toArray 2 (0, 0))).alloc (.cells #[.slice (some ⟨w.heap.size + 1, 0, none⟩) (n + 1) (n + 1)] 37 (0, 0))) := ⟨_, rfl⟩
 have hE : IEnv w0 l0 A0 c0 n w.heap.size (w.heap.size + 1 + 1) (w.heap.size + 1) := by
  rw [hw0]
  exact ⟨cell1 (by repeat (first | exact new_at (by simp) | refine blk_alloc ?_ _ | refine blk_drewN ?_ _)), cell1 (by repeat (first | exact new_at (by simp) | refine blk_alloc ?_ _ | refine blk_drewN ?_ _)), by omega, by omega, by repeat (first | exact Kd.F_mono (F_of_C HR.out) (fun k hk => by omega) | refine Kd.F_alloc ?_ _ | refine Kd.F_drewN ?_ _), by simp⟩
 have hV : w0.heap[w.heap.size + 1]? = some (.cells (nums .i64 (polyTo l0 n 0)).toArray 2 (0, 0)) := by
  rw [hw0]
  repeat (first | exact new_at (by simp) | refine blk_alloc ?_ _ | refine blk_drewN ?_ _)
 have hB0 : Below w.heap.size w w0 := by
  rw [hw0]
  repeat (first | exact Below.refl _ _ | apply below_alloc | apply pw_below_drewN)
 rw [← hw0]
 have HE := Aside0.mk hE
 have HV := Aside0.mk hV
 have HB0 := Aside0.mk hB0
 clear hw0 hE hV hB0 hmk
 refine (sets_interlace l0 A0 c0 n (2 ^ n) HN.out HLE.out rfl HC.out w.heap.size (w.heap.size + 1 + 1) (w.heap.size + 1) (polyTo l0 n) w0 HE.out.rd HE.out.lt (fun s A c w1 hs hg hh hF hc => ?_) HV.out).mono ?_
 ·obtain ⟨hiw, hil⟩ := inner_ok HW.out HN.out s
  obtain ⟨hco, hcn, _⟩ := co_ok HW.out HN.out s
  obtain ⟨kr, hkr⟩ := Ev.rounds (irows_ev _ hiw)
  have hok : okL (l0.filter (inSet s n)) = true := okL_of (by have := List.length_filter_le (inSet s n) l0; have := HLE.out; omega) (fun x hx => by
   obtain ⟨i, hi, rfl⟩ := (HW.out.mem x).1 (List.mem_filter.1 hx).1
   have := HLE.out
   have : i = 0 ∨ i = 1 ∨ i = 2 ∨ i = 3 ∨ i = 4 ∨ i = 5 := by omega
   rcases this with rfl | rfl | rfl | rfl | rfl | rfl <;> rfl)
  have hs64 : s < 64 := Nat.lt_of_lt_of_le hs (Nat.le_trans (Nat.pow_le_pow_right (by decide) hn6) (by decide))
  exact interlace_1 l0 (ints (setTo s n)) (inSet s n) (rowsOf (innerOf l0 s n)) kr ((innerOf l0 s n).length / 2) (rkC (rowsOf (innerOf l0 s n))) (coOf l0 s n) n (polyTo l0 n s) A0 A c0 c _ _ _ w1 (HE.out.grows hg) HC.out HLE.out hF hc hok
   (fun x => by
    obtain ⟨k, hk⟩ := Ev.rounds (contains_ev (ints (setTo s n)) x (by rw [ints_len]; have := setTo_le s n; omega))
    exact ⟨k, hk⟩)
   hkr (rows_bits _) (rows_length _) (by have := hiw.le; omega) (rkC_rank (rows_bits _) (by have := hiw.le; omega)).1 hco (by omega) hcn hn6 (polyTo_len _ _ _)
   (fun i => by
    have h1 := polyTo_small l0 n (fun s => by have := (co_ok HW.out HN.out s).2.1; omega) s i
    have h2 := powC_small (coOf l0 s n) (by omega) i
    omega) hh
 rintro e w2 ⟨rfl, hg, hr⟩
 have hE2 := HE.out.grows hg
 have h2 := hE2.co
 have HG := Aside0.mk hg
 have HH := Aside0.mk hr
 clear hg hr hE2
 go_wp2
 go_ret
 refine ⟨_, rfl, ?_, Go.Proofs.YtcnekpdoldljgaaGreat.Mem.below_grown HB0.out HG.out (by omega)⟩
 have h3 := HH.out
 rw [HRR.out, interlaceV, ← HN.out]
 exact R_of_block h3 (by rw [polyTo_len]) (by unfold maxLen; omega) (by omega)
end Go.Proofs.YtcnekpdoldljgaaGreat.F
end
section
namespace Go.Proofs.YtcnekpdoldljgaaGreat.F
open Go.RowKit Go.Proofs.YtcnekpdoldljgaaGreatW.PrintWords Go.Proofs.YtcnekpdoldljgaaGreatW.PrintLast Go.Proofs.YtcnekpdoldljgaaGreatW.PrintMore
attribute [local go_sem] max2_int min2_int max_two min_two max_three min_three max_four min_four   
set_option linter.unusedVariables false
set_option linter.unusedSimpArgs false
def impl_InterlacePolynomial.f (k : Nat) (l0 : List Int) : Option (List Int × Int) := (impl_IsWord.f k l0).bind fun t => (if t = true then ((impl_interlace.f l0).bind fun t2 => (some (t2, 0))) else (some ([], 1)))
theorem impl_InterlacePolynomial.mono : ∀ a0 k, LeO (impl_InterlacePolynomial.f k a0) (impl_InterlacePolynomial.f (k + 1) a0) := fun _ _ => LeO.bind (impl_IsWord.mono _ _) (fun _ => LeO.ite (LeO.bind (LeO.refl _) fun _ => LeO.refl _) (LeO.refl _))
set_option maxHeartbeats 8000000 in
set_option maxRecDepth 100000 in
theorem changedWord_InterlacePolynomial.calls (k : Nat) (A0 : Option Addr) (c0 : Nat) (l0 : List Int) (r1 : List Int) (r2 : Int) (w : World) (hr0 : Kd.C (Kd.int .i64) w A0 l0.length l0) (hc0 : l0.length ≤ c0) (h : impl_InterlacePolynomial.f k l0 = some (r1, r2)) :
    Calls Tryz.prog 56 #[.slice A0 l0.length c0, .func (.func 57) #[] #[]] w fun e w' => ∃ v0_ : Value, e = .returned (.tuple #[v0_, .int .i64 r2]) ∧ Kd.R (Kd.int .i64) 2 w' w.heap.size (fun _ => True) v0_ r1 ∧ Below w.heap.size w w' := by
  have HR := Aside0.mk hr0
  have HC := Aside0.mk hc0
  clear hr0 hc0
  unfold impl_InterlacePolynomial.f at h
  obtain ⟨t, ht, h⟩ := Option.bind_eq_some_iff.1 h
  have HT := Aside0.mk ht
  clear ht
  cases t with
  | true =>
    rw [if_pos rfl] at h
    obtain ⟨t2, ht2, h⟩ := Option.bind_eq_some_iff.1 h
    have HG := Aside0.mk ht2
    simp only [Option.some.injEq, Prod.mk.injEq] at h
    obtain ⟨rfl, rfl⟩ := h
    clear ht2
    go_enter Tryz.func56, Tryz.ntmps56
    go_wp2_with (first
      | (go_at_call 61; refine (impl_IsWord.calls k A0 c0 l0 true _ HR.out HC.out HT.out).mono ?_; rintro e w1 ⟨rfl, hb1⟩; have HB1 := Aside0.mk hb1; clear hb1)
      | (go_at_call 57; refine (impl_interlace.calls A0 c0 l0 t2 _ (Kd.C_below HR.out HB1.out) HC.out HG.out).mono ?_; rintro e w2 ⟨v0, rfl, ho2, hb2⟩; have HO2 := Aside0.mk ho2; have HB2 := Aside0.mk hb2; clear ho2 hb2))
    go_ret2
    exact ⟨_, rfl, Kd.R_lower HO2.out (below_size HB1.out), below_step HB1.out HB2.out⟩
  | false =>
    rw [if_neg (by simp)] at h
    simp only [Option.some.injEq, Prod.mk.injEq] at h
    obtain ⟨rfl, rfl⟩ := h
    go_enter Tryz.func56, Tryz.ntmps56
    go_wp2_with (first
      | (go_at_call 61; refine (impl_IsWord.calls k A0 c0 l0 false _ HR.out HC.out HT.out).mono ?_; rintro e w1 ⟨rfl, hb1⟩; have HB1 := Aside0.mk hb1; clear hb1))
    go_ret2
    exact ⟨_, rfl, Kd.R_nil _ _ _ _ _, HB1.out⟩
set_option maxHeartbeats 8000000 in
set_option maxRecDepth 100000 in
theorem impl_InterlacePolynomial.calls (k : Nat) (A0 : Option Addr) (c0 : Nat) (l0 : List Int) (r1 : List Int) (r2 : Int) (w : World) (hr0 : Kd.C (Kd.int .i64) w A0 l0.length l0) (hc0 : l0.length ≤ c0) (h : impl_InterlacePolynomial.f k l0 = some (r1, r2)) :
    Calls Tryz.prog 16 #[.slice A0 l0.length c0] w fun e w' => ∃ v0_ : Value, e = .returned (.tuple #[v0_, .int .i64 r2]) ∧ Kd.R (Kd.int .i64) 2 w' w.heap.size (fun _ => True) v0_ r1 ∧ Below w.heap.size w w' := by
  have HR := Aside0.mk hr0
  have HC := Aside0.mk hc0
  have HF := Aside0.mk h
  clear hr0 hc0 h
  go_enter Tryz.func16, Tryz.ntmps16
  go_wp2_with (first
    | (go_at_call 56; refine (changedWord_InterlacePolynomial.calls k A0 c0 l0 r1 r2 _ HR.out HC.out HF.out).mono ?_; rintro e w2 ⟨v0, rfl, ho2, hb2⟩; have HO2 := Aside0.mk ho2; have HB2 := Aside0.mk hb2; clear ho2 hb2))
  go_ret2
  exact ⟨_, rfl, HO2.out, HB2.out⟩
end Go.Proofs.YtcnekpdoldljgaaGreat.F
end
section
namespace Go.Proofs.YtcnekpdoldljgaaGreat.F
open Go.RowKit Go.Proofs.YtcnekpdoldljgaaGreatW.PrintWords Go.Proofs.YtcnekpdoldljgaaGreatW.PrintLast Go.Proofs.YtcnekpdoldljgaaGreatW.PrintMore
attribute [local go_sem] max2_int min2_int max_two min_two max_three min_three max_four min_four   
set_option linter.unusedVariables false
set_option linter.unusedSimpArgs false
def spec_l01Some.l0 : Nat → List Int → List Bool → List Int → Int → Option (List Int)
 | 0, _, _, _, _ => none
 | k + 1, x0, x1, x5, x6 => if x6 < (x0.length : Int) then (if 0 ≤ x6 then (if 0 ≤ (rd x0 x6) then (if (rd x0 x6) < (x1.length : Int) then (if rdOf false x1 (rd x0 x6) = true then (if x5.length < 17592186044416 then (spec_l01Some.l0 k x0 x1 (x5 ++ [rd x0 x6]) (wrap64 (x6 + 1))) else (none)) else (spec_l01Some.l0 k x0 x1 x5 (wrap64 (x6 + 1)))) else (none)) else (none)) else (none)) else ((spec_l01Normal.f k x5).bind fun t1661010 => (some t1661010))
def spec_l01Some.f (k : Nat) (l0 : List Int) (l1 : List Bool) : Option (List Int) := spec_l01Some.l0 k l0 l1 (([] : List Int)) 0
theorem spec_l01Some.mono_l : ∀ k, (∀ y0 y1 y2 y3, LeO (spec_l01Some.l0 k y0 y1 y2 y3) (spec_l01Some.l0 (k + 1) y0 y1 y2 y3))
 | 0 => fun _ _ _ _ r h => by simp [spec_l01Some.l0] at h
 | k + 1 => by
  have ih0 := spec_l01Some.mono_l k
  ·intro y0 y1 y2 y3
   unfold spec_l01Some.l0
   repeat' first
   | (with_reducible exact ih0 _ _ _ _)
   | (with_reducible exact spec_l01Normal.mono _ _)
   | (with_reducible exact LeO.refl _)
   | (with_reducible exact LeO.none _)
   | (with_reducible refine LeO.ite ?_ ?_)
   | (with_reducible refine LeO.bind ?_ (fun _ => ?_))
   | exact ih0 _ _ _ _
   | exact spec_l01Normal.mono _ _
   | exact LeO.none _
   | refine LeO.ite ?_ ?_
   | refine LeO.bind ?_ (fun _ => ?_)
theorem spec_l01Some.mono : ∀ a0 a1 k, LeO (spec_l01Some.f k a0 a1) (spec_l01Some.f (k + 1) a0 a1) := by
 intro a0 a1 k
 have ih0 := spec_l01Some.mono_l k
 unfold spec_l01Some.f
 repeat' first
   | (with_reducible exact ih0 _ _ _ _)
   | (with_reducible exact spec_l01Normal.mono _ _)
   | (with_reducible exact LeO.refl _)
   | (with_reducible exact LeO.none _)
   | (with_reducible refine LeO.ite ?_ ?_)
   | (with_reducible refine LeO.bind ?_ (fun _ => ?_))
   | exact ih0 _ _ _ _
   | exact spec_l01Normal.mono _ _
   | exact LeO.none _
   | refine LeO.ite ?_ ?_
   | refine LeO.bind ?_ (fun _ => ?_)
set_option maxHeartbeats 8000000 in
set_option maxRecDepth 100000 in
theorem spec_l01Some.calls (k : Nat) (A0 : Option Addr) (c0 : Nat) (l0 : List Int) (A1 : Option Addr) (c1 : Nat) (l1 : List Bool) (r : List Int) (w : World) (hr0 : Kd.C (Kd.int .i64) w A0 l0.length l0) (hc0 : l0.length ≤ c0) (hr1 : Kd.C Kd.bool w A1 l1.length l1) (hc1 : l1.length ≤ c1) (h : spec_l01Some.f k l0 l1 = some r) :
  Calls Tryz.prog 166 #[.slice A0 l0.length c0, .slice A1 l1.length c1] w fun e w' => ∃ v0_ : Value, e = .returned (v0_) ∧ Kd.R (Kd.int .i64) 2 w' w.heap.size (fun _ => True) v0_ r ∧ Below w.heap.size w w' := by
 have HR0 := Aside0.mk hr0
 have HC0 := Aside0.mk hc0
 clear hr0 hc0
 have HR1 := Aside0.mk hr1
 have HC1 := Aside0.mk hc1
 clear hr1 hc1
 have HB := Aside0.mk (Below.refl w.heap.size w)
 have H : (spec_l01Some.l0 k l0 l1 (([] : List Int)) 0) = some r := h
 clear h
 obtain ⟨y1661001, hy1661001⟩ : ∃ y_ : List Int, y_ = (([] : List Int)) := ⟨_, rfl⟩
 replace H : (spec_l01Some.l0 k l0 l1 y1661001 0) = some r := by first | (rw [hy1661001]; with_reducible exact H) | (have H2_ := (Option.bind_some _ _).symm.trans H; rw [hy1661001]; with_reducible exact H2_) | (have H2_ := (Option.bind_some _ _).symm.trans H; with_reducible exact H2_) | with_reducible exact H | (rw [hy1661001]; exact H) | exact H
 have Ny1661001 := Aside0.mk hy1661001
 clear hy1661001
 have H' := Aside0.mk H
 clear H
 go_enter Tryz.func166, Tryz.ntmps166
 go_wp2_with (first | ((with_reducible refine gate_dst (N := 7) rfl ?_); refine Kd.R_lit (Kd.int .i64) _ 2 ?hg (N := 7) ?hd (xs := ([] : List Int)) (inner := []) (ok := fun _ => True) (okp := fun _ => True) ?hr ?hp (fun _ hk => hk) trivial (Below.refl _ _) (Nat.le_refl _) (by simp) ?_; (case hd => rfl); (case hg => rfl); (case hr => first | (go_simp; done) | (go_simp; rfl)); (case hp => exact (Reps.none _ _)); intro v1661002 w3 ho4 hb hg_ hnew_; clear hg_ hnew_; (first | rw [← Ny1661001.out] at ho4 | (simp only [Int.reduceToNat] at ho4; rw [← Ny1661001.out] at ho4)); have n0_ := Aside0.mk (Kd.R_lower ho4 (below_size (by repeat (first | (with_reducible first | exact HB.out | apply below_alloc | apply pw_below_drewN | apply below_drew1) | exact HB.out)))); have n1_ := Aside0.mk (below_step (by repeat (first | (with_reducible first | exact HB.out | apply below_alloc | apply pw_below_drewN | apply below_drew1) | exact HB.out)) hb); clear HB; have HO1661003 := n0_; have HB := n1_; clear n0_ n1_; clear hb ho4))
 go_loopg [5, 6] k (fun kq v5 v6 w' => ∃ (x5_1 : List Int) (x6_1 : Int), v6 = .int .i64 x6_1 ∧ Aside0 (spec_l01Some.l0 kq l0 l1 x5_1 x6_1 = some r) ∧ Aside0 (kq ≤ k) ∧ Aside0 (Kd.R (Kd.int .i64) 2 w' w.heap.size (fun _ => True) v5 x5_1) ∧ Aside0 (Below w.heap.size w w'))
 case atStart => exact ⟨(y1661001), (0), (by first | rfl | (simp; done) | (simp [*]; done)), H', ⟨Nat.le_refl _⟩, ⟨by (with_reducible repeat (first | apply Kd.R_alloc | apply Kd.R_drewN | apply Kd.R_drew)); exact HO1661003.out⟩, ⟨by repeat (first | (with_reducible first | exact HB.out | apply below_alloc | apply pw_below_drewN | apply below_drew1) | exact HB.out)⟩⟩
 case round =>
  clear H'
  try clear c1
  try clear p2
  obtain ⟨x5_1, x6_1, rfl, HA, HK1, HO_5, HB⟩ := hrel
  cases gk with
  | zero => exact absurd HA.out (by simp [spec_l01Some.l0])
  | succ k1 =>
   have H := HA.out
   clear HA
   simp only [spec_l01Some.l0] at H
   by_cases c5 : x6_1 < (l0.length : Int)
   rotate_left
   ·rw [if_neg c5] at H
    have c5b0 : decide (x6_1 < (l0.length : Int)) = false := decide_eq_false c5
    clear c5
    replace H := Option.bind_eq_some_iff.mp H
    obtain ⟨t1661010, A130, H⟩ := H
    replace H : (some t1661010) = some r := H
    have A13 := Aside0.mk A130
    clear A130
    obtain rfl := Option.some.inj H
    obtain ⟨Ao14, co14, eo14⟩ := Kd.R_slice HO_5.out
    subst eo14
    go_wp2_with (first | ((with_reducible refine gate_callee (f := 91) rfl ?_); refine goesL_ (some 29) rfl rfl Tryz.func91 (by kernel_rfl) rfl #[.slice Ao14 x5_1.length co14] rfl (by (try simp only [List.map_toArray, List.map_cons, List.map_nil]); first | done | rfl | (simp only [List.length_drop, List.length_take]; rfl)) ?_; (with_reducible refine (spec_l01Normal.calls k1 _ _ x5_1 t1661010 _ ?side1 ?side2 A13.out).mono ?_); (case side1 => repeat (first | exact (Kd.R_reads' HO_5.out).2.2 | (with_reducible refine Kd.C_alloc ?_ _) | (with_reducible refine Kd.C_drewN ?_ _) | (with_reducible refine Kd.C_drew ?_))); (case side2 => exact (Kd.R_reads' HO_5.out).2.1); rintro e w15 ⟨v1661011, rfl, ho0, hb⟩; refine ⟨_, rfl, ?_⟩; have n0_ := Aside0.mk (Kd.R_elder' (by (with_reducible repeat (first | apply Kd.R_alloc | apply Kd.R_drewN | apply Kd.R_drew)); exact HO_5.out) (Kd.R_base ho0) hb); have n1_ := Aside0.mk (Kd.R_lower (Kd.R_new' ho0 (Kd.R_lt (by (with_reducible repeat (first | apply Kd.R_alloc | apply Kd.R_drewN | apply Kd.R_drew)); exact HO_5.out))) (below_size (by repeat (first | (with_reducible first | exact HB.out | apply below_alloc | apply pw_below_drewN | apply below_drew1) | exact HB.out)))); have n2_ := Aside0.mk (below_step (by repeat (first | (with_reducible first | exact HB.out | apply below_alloc | apply pw_below_drewN | apply below_drew1) | exact HB.out)) hb); clear HO_5; clear HB; have HO_5 := n0_; have HO1661012 := n1_; have HB := n2_; clear n0_ n1_ n2_; (try clear hb); (try clear hb2); (try clear hk); (try clear hi); (try clear ho0)))
    go_ret
    exact ⟨_, by first | rfl | (simp [errW_none, errW_some] <;> rfl) | (simp [*, errW_none, errW_some] <;> rfl), by (with_reducible repeat (first | apply Kd.R_alloc | apply Kd.R_drewN | apply Kd.R_drew)); exact Kd.R_mono HO1661012.out (fun _ hk => trivial), by repeat (first | (with_reducible first | exact HB.out | apply below_alloc | apply pw_below_drewN | apply below_drew1) | exact HB.out)⟩
   rw [if_pos c5] at H
   have c5b0 : decide (x6_1 < (l0.length : Int)) = true := decide_eq_true c5
   clear c5
   by_cases c6 : 0 ≤ x6_1
   rotate_left
   ·rw [if_neg c6] at H
    exact absurd H (by simp)
   rw [if_pos c6] at H
   have c6b0 : decide (0 ≤ x6_1) = true := decide_eq_true c6
   clear c6
   by_cases c7 : 0 ≤ (rd l0 x6_1)
   rotate_left
   ·rw [if_neg c7] at H
    exact absurd H (by simp)
   rw [if_pos c7] at H
   have c7b0 : decide (0 ≤ (rd l0 x6_1)) = true := decide_eq_true c7
   clear c7
   by_cases c8 : (rd l0 x6_1) < (l1.length : Int)
   rotate_left
   ·rw [if_neg c8] at H
    exact absurd H (by simp)
   rw [if_pos c8] at H
   have c8b0 : decide ((rd l0 x6_1) < (l1.length : Int)) = true := decide_eq_true c8
   clear c8
   obtain ⟨bq9, hbq9⟩ : ∃ b_ : Bool, b_ = (rdOf false l1 (rd l0 x6_1)) := ⟨_, rfl⟩
   replace H : (if bq9 = true then (if x5_1.length < 17592186044416 then (spec_l01Some.l0 k1 l0 l1 (x5_1 ++ [rd l0 x6_1]) (wrap64 (x6_1 + 1))) else (none)) else (spec_l01Some.l0 k1 l0 l1 x5_1 (wrap64 (x6_1 + 1)))) = some r := by rw [← hbq9] at H; exact H
   have Nbq9 := Aside0.mk hbq9
   clear hbq9
   by_cases c10 : bq9 = true
   rotate_left
   ·replace c10 := Bool.eq_false_iff.mpr c10
    subst c10
    have H1 : (spec_l01Some.l0 k1 l0 l1 x5_1 (wrap64 (x6_1 + 1))) = some r := by rw [if_neg (show ¬ (false = true) by decide)] at H; exact H
    clear H
    have H := H1
    clear H1
    have H' := Aside0.mk H
    clear H
    have p1661004 : 0 ≤ (x6_1 : Int) := of_decide_eq_true (by first | (with_reducible assumption) | assumption)
    have q1661004 : x6_1 < (l0.length : Int) := of_decide_eq_true (by first | (with_reducible assumption) | assumption)
    obtain ⟨ad1661004, e1661004, hx1661004_0⟩ := Kd.at_int HR0.out x6_1 p1661004 q1661004
    cases e1661004
    replace hx1661004_0 := (HB.out.cell (World.block_lt_of_cell? w _ hx1661004_0)).trans hx1661004_0
    replace p1661004 := eq_true p1661004
    replace q1661004 := eq_true q1661004
    have p1661005 : 0 ≤ ((rd l0 x6_1) : Int) := of_decide_eq_true (by first | (with_reducible assumption) | assumption)
    have q1661005 : (rd l0 x6_1) < (l1.length : Int) := of_decide_eq_true (by first | (with_reducible assumption) | assumption)
    obtain ⟨ad1661005, e1661005, hx1661005_0⟩ := Kd.at_bool HR1.out (rd l0 x6_1) p1661005 q1661005
    (try rw [← Nbq9.out] at hx1661005_0)
    cases e1661005
    replace hx1661005_0 := (HB.out.cell (World.block_lt_of_cell? w _ hx1661005_0)).trans hx1661005_0
    replace p1661005 := eq_true p1661005
    replace q1661005 := eq_true q1661005
    go_wp2
    go_roundg k1
    case measure => have := HK1.out; omega
    case rel => exact ⟨(x5_1), (wrap64 (x6_1 + 1)), (by first | rfl | (simp; done) | (simp [*]; done)), H', ⟨by have := HK1.out; omega⟩, ⟨by (with_reducible repeat (first | apply Kd.R_alloc | apply Kd.R_drewN | apply Kd.R_drew)); exact HO_5.out⟩, ⟨by repeat (first | (with_reducible first | exact HB.out | apply below_alloc | apply pw_below_drewN | apply below_drew1) | exact HB.out)⟩⟩
   subst c10
   have H1 : (if x5_1.length < 17592186044416 then (spec_l01Some.l0 k1 l0 l1 (x5_1 ++ [rd l0 x6_1]) (wrap64 (x6_1 + 1))) else (none)) = some r := by rw [if_pos rfl] at H; exact H
   clear H
   have H := H1
   clear H1
   by_cases c11 : x5_1.length < 17592186044416
   rotate_left
   ·rw [if_neg c11] at H
    exact absurd H (by simp)
   rw [if_pos c11] at H
   have LMc11 := Aside0.mk c11
   clear c11
   obtain ⟨y1661007, hy1661007⟩ : ∃ y_ : List Int, y_ = (x5_1 ++ [rd l0 x6_1]) := ⟨_, rfl⟩
   replace H : (spec_l01Some.l0 k1 l0 l1 y1661007 (wrap64 (x6_1 + 1))) = some r := by first | (rw [hy1661007]; with_reducible exact H) | (have H2_ := (Option.bind_some _ _).symm.trans H; rw [hy1661007]; with_reducible exact H2_) | (have H2_ := (Option.bind_some _ _).symm.trans H; with_reducible exact H2_) | with_reducible exact H | (rw [hy1661007]; exact H) | exact H
   have Ny1661007 := Aside0.mk hy1661007
   clear hy1661007
   have H' := Aside0.mk H
   clear H
   have p1661004 : 0 ≤ (x6_1 : Int) := of_decide_eq_true (by first | (with_reducible assumption) | assumption)
   have q1661004 : x6_1 < (l0.length : Int) := of_decide_eq_true (by first | (with_reducible assumption) | assumption)
   obtain ⟨ad1661004, e1661004, hx1661004_0⟩ := Kd.at_int HR0.out x6_1 p1661004 q1661004
   cases e1661004
   replace hx1661004_0 := (HB.out.cell (World.block_lt_of_cell? w _ hx1661004_0)).trans hx1661004_0
   replace p1661004 := eq_true p1661004
   replace q1661004 := eq_true q1661004
   have p1661005 : 0 ≤ ((rd l0 x6_1) : Int) := of_decide_eq_true (by first | (with_reducible assumption) | assumption)
   have q1661005 : (rd l0 x6_1) < (l1.length : Int) := of_decide_eq_true (by first | (with_reducible assumption) | assumption)
   obtain ⟨ad1661005, e1661005, hx1661005_0⟩ := Kd.at_bool HR1.out (rd l0 x6_1) p1661005 q1661005
   (try rw [← Nbq9.out] at hx1661005_0)
   cases e1661005
   replace hx1661005_0 := (HB.out.cell (World.block_lt_of_cell? w _ hx1661005_0)).trans hx1661005_0
   replace p1661005 := eq_true p1661005
   replace q1661005 := eq_true q1661005
   have p1661006 : 0 ≤ (x6_1 : Int) := of_decide_eq_true (by first | (with_reducible assumption) | assumption)
   have q1661006 : x6_1 < (l0.length : Int) := of_decide_eq_true (by first | (with_reducible assumption) | assumption)
   obtain ⟨ad1661006, e1661006, hx1661006_0⟩ := Kd.at_int HR0.out x6_1 p1661006 q1661006
   obtain rfl : ad1661004 = ad1661006 := (by injection e1661006)
   replace hx1661006_0 := (HB.out.cell (World.block_lt_of_cell? w _ hx1661006_0)).trans hx1661006_0
   replace p1661006 := eq_true p1661006
   replace q1661006 := eq_true q1661006
   go_wp2_with (first | ((with_reducible refine gate_builtin (b := .append) (xs := #[.tmp 21, .tmp 26]) rfl ?_); at_builtin; refine Kd.R_append (Kd.int .i64) (w0 := w) w.heap.size rfl (.tmp 21) (.tmp 26) 37 2 (.int .i64 0) 8 rfl Tryz.underlying37 info2 rfl (by decide) (by omega) u5 x5_1 (rd l0 x6_1) [.int .i64 (rd l0 x6_1)] (fun _ => True) (fun _ => False) rfl rfl ?aP (fun _ hk => hk.elim) ?aF ?aO ?aB ?aS ?aL ?_; (case aP => exact rfl); (case aB => exact (by repeat (first | (with_reducible first | exact HB.out | apply below_alloc | apply pw_below_drewN | apply below_drew1) | exact HB.out))); (case aF => exact (fun _ _ => trivial)); (case aO => exact (by (with_reducible repeat (first | apply Kd.R_alloc | apply Kd.R_drewN | apply Kd.R_drew)); exact HO_5.out)); (case aS => exact (below_size (by repeat (first | (with_reducible first | exact HB.out | apply below_alloc | apply pw_below_drewN | apply below_drew1) | exact HB.out)))); (case aL => have := LMc11.out; omega); intro v1661008 w12 ho hb hg hat; rw [← Ny1661007.out] at ho; have n0_ := Aside0.mk (hb); have n1_ := Aside0.mk (ho); clear HB; clear HO_5; have HB := n0_; have HO1661009 := n1_; clear n0_ n1_; clear ho hb hg hat))
   go_roundg k1
   case measure => have := HK1.out; omega
   case rel => exact ⟨(y1661007), (wrap64 (x6_1 + 1)), (by first | rfl | (simp; done) | (simp [*]; done)), H', ⟨by have := HK1.out; omega⟩, ⟨by (with_reducible repeat (first | apply Kd.R_alloc | apply Kd.R_drewN | apply Kd.R_drew)); exact HO1661009.out⟩, ⟨by repeat (first | (with_reducible first | exact HB.out | apply below_alloc | apply pw_below_drewN | apply below_drew1) | exact HB.out)⟩⟩
end Go.Proofs.YtcnekpdoldljgaaGreat.F
end
section
namespace Go.Proofs.YtcnekpdoldljgaaGreat.F
open Go.RowKit Go.Proofs.YtcnekpdoldljgaaGreatW.PrintWords Go.Proofs.YtcnekpdoldljgaaGreatW.PrintLast Go.Proofs.YtcnekpdoldljgaaGreatW.PrintMore
attribute [local go_sem] max2_int min2_int max_two min_two max_three min_three max_four min_four   
set_option linter.unusedVariables false
set_option linter.unusedSimpArgs false
def spec_l10Set.l0 : Nat → List Int → Int → List Bool → Int → Int → Option (List Int × Int)
 | 0, _, _, _, _, _ => none
 | k + 1, x0, x1, x6, x7, x8 => if x8 < (x6.length : Int) then (if 0 ≤ (IntKind.u64.wrap (x8)) then (if 0 ≤ x8 then ((some (x6.set (x8 : Int).toNat ((Go.bits .and .i64 (shr .i64 x1 (IntKind.u64.wrap (x8))) 1) == 1) : List Bool)).bind fun y1231004 => (if rdOf false y1231004 x8 = true then (spec_l10Set.l0 k x0 x1 y1231004 (wrap64 (x7 + 1)) (wrap64 (x8 + 1))) else (spec_l10Set.l0 k x0 x1 y1231004 x7 (wrap64 (x8 + 1))))) else (none)) else (none)) else ((spec_l01Some.f k x0 x6).bind fun t1231006 => (some (t1231006, x7)))
def spec_l10Set.f (k : Nat) (l0 : List Int) (a1 : Int) : Option (List Int × Int) := if 0 ≤ (wrap64 ((l0.length : Int) / 2)) then (if (wrap64 ((l0.length : Int) / 2) : Int).toNat ≤ 281474976710656 then (spec_l10Set.l0 k l0 a1 (List.replicate (wrap64 ((l0.length : Int) / 2) : Int).toNat false) 0 0) else (none)) else (none)
theorem spec_l10Set.mono_l : ∀ k, (∀ y0 y1 y2 y3 y4, LeO (spec_l10Set.l0 k y0 y1 y2 y3 y4) (spec_l10Set.l0 (k + 1) y0 y1 y2 y3 y4))
 | 0 => fun _ _ _ _ _ r h => by simp [spec_l10Set.l0] at h
 | k + 1 => by
  have ih0 := spec_l10Set.mono_l k
  ·intro y0 y1 y2 y3 y4
   unfold spec_l10Set.l0
   repeat' first
   | (with_reducible exact ih0 _ _ _ _ _)
   | (with_reducible exact spec_l01Some.mono _ _ _)
   | (with_reducible exact LeO.refl _)
   | (with_reducible exact LeO.none _)
   | (with_reducible refine LeO.ite ?_ ?_)
   | (with_reducible refine LeO.bind ?_ (fun _ => ?_))
   | exact ih0 _ _ _ _ _
   | exact spec_l01Some.mono _ _ _
   | exact LeO.none _
   | refine LeO.ite ?_ ?_
   | refine LeO.bind ?_ (fun _ => ?_)
theorem spec_l10Set.mono : ∀ a0 a1 k, LeO (spec_l10Set.f k a0 a1) (spec_l10Set.f (k + 1) a0 a1) := by
 intro a0 a1 k
 have ih0 := spec_l10Set.mono_l k
 unfold spec_l10Set.f
 repeat' first
   | (with_reducible exact ih0 _ _ _ _ _)
   | (with_reducible exact spec_l01Some.mono _ _ _)
   | (with_reducible exact LeO.refl _)
   | (with_reducible exact LeO.none _)
   | (with_reducible refine LeO.ite ?_ ?_)
   | (with_reducible refine LeO.bind ?_ (fun _ => ?_))
   | exact ih0 _ _ _ _ _
   | exact spec_l01Some.mono _ _ _
   | exact LeO.none _
   | refine LeO.ite ?_ ?_
   | refine LeO.bind ?_ (fun _ => ?_)
set_option maxHeartbeats 8000000 in
set_option maxRecDepth 100000 in
theorem spec_l10Set.calls (k : Nat) (A0 : Option Addr) (c0 : Nat) (l0 : List Int) (a1 : Int) (r1 : List Int) (r2 : Int) (w : World) (hr0 : Kd.C (Kd.int .i64) w A0 l0.length l0) (hc0 : l0.length ≤ c0) (h : spec_l10Set.f k l0 a1 = some (r1, r2)) :
  Calls Tryz.prog 123 #[.slice A0 l0.length c0, .int .i64 a1] w fun e w' => ∃ v0_ : Value, e = .returned (.tuple #[v0_, .int .i64 r2]) ∧ Kd.R (Kd.int .i64) 2 w' w.heap.size (fun _ => True) v0_ r1 ∧ Below w.heap.size w w' := by
 have HR0 := Aside0.mk hr0
 have HC0 := Aside0.mk hc0
 clear hr0 hc0
 have HB := Aside0.mk (Below.refl w.heap.size w)
 have H : (if 0 ≤ (wrap64 ((l0.length : Int) / 2)) then (if (wrap64 ((l0.length : Int) / 2) : Int).toNat ≤ 281474976710656 then (spec_l10Set.l0 k l0 a1 (List.replicate (wrap64 ((l0.length : Int) / 2) : Int).toNat false) 0 0) else (none)) else (none)) = some (r1, r2) := h
 clear h
 obtain ⟨ji3, hji3⟩ : ∃ j_ : Int, (wrap64 ((l0.length : Int) / 2)) = j_ := ⟨_, rfl⟩
 replace H : (if 0 ≤ (ji3) then (if (ji3 : Int).toNat ≤ 281474976710656 then (spec_l10Set.l0 k l0 a1 (List.replicate (ji3 : Int).toNat false) 0 0) else (none)) else (none)) = some (r1, r2) := by first | (rw [hji3] at H; exact H) | (simp only [hji3] at H ⊢; exact H)
 have hji3w : (IntKind.i64.wrap ((l0.length : Int) / 2)) = ji3 := (i64_w _).trans hji3
 by_cases c4 : 0 ≤ (ji3)
 rotate_left
 ·rw [if_neg c4] at H
  exact absurd H (by simp)
 rw [if_pos c4] at H
 have c4b0 := eq_true c4
 have c4b1 : decide (0 ≤ (ji3)) = true := decide_eq_true c4
 clear c4
 by_cases c5 : (ji3 : Int).toNat ≤ 281474976710656
 rotate_left
 ·rw [if_neg c5] at H
  exact absurd H (by simp)
 rw [if_pos c5] at H
 have c5b0 := eq_true c5
 have c5b1 : decide ((ji3 : Int).toNat ≤ 281474976710656) = true := decide_eq_true c5
 clear c5
 obtain ⟨y1231001, hy1231001⟩ : ∃ y_ : List Bool, y_ = (List.replicate (ji3 : Int).toNat false) := ⟨_, rfl⟩
 replace H : (spec_l10Set.l0 k l0 a1 y1231001 0 0) = some (r1, r2) := by first | (rw [hy1231001]; with_reducible exact H) | (have H2_ := (Option.bind_some _ _).symm.trans H; rw [hy1231001]; with_reducible exact H2_) | (have H2_ := (Option.bind_some _ _).symm.trans H; with_reducible exact H2_) | with_reducible exact H | (rw [hy1231001]; exact H) | exact H
 have Ny1231001 := Aside0.mk hy1231001
 clear hy1231001
 have H' := Aside0.mk H
 clear H
 go_enter Tryz.func123, Tryz.ntmps123
 go_wp2_with (first | ((with_reducible refine gate_dst (N := 12) rfl ?_); refine Kd.R_make Kd.bool _ 4 rfl (N := 12) rfl 146 _ _ rfl ji3 rfl rfl Tryz.underlying146 (.bool false) 1 info4 rfl (by decide) (by omega) false (ok := fun _ => True) (okp := fun _ => True) rfl (fun _ hk => hk) trivial (of_decide_eq_true (by first | (with_reducible assumption) | assumption)) (Nat.le_trans (Nat.mul_le_mul_right _ (of_decide_eq_true (by first | (with_reducible assumption) | assumption) : ji3.toNat ≤ 281474976710656)) (by omega)) (Below.refl _ _) (Nat.le_refl _) ?_; intro v1231002 w6 ho7 hb hg_ hnew_; clear hg_ hnew_; (first | rw [← Ny1231001.out] at ho7 | (simp only [Int.reduceToNat] at ho7; rw [← Ny1231001.out] at ho7)); have n0_ := Aside0.mk (Kd.R_lower ho7 (below_size (by repeat (first | (with_reducible first | exact HB.out | apply below_alloc | apply pw_below_drewN | apply below_drew1) | exact HB.out)))); have n1_ := Aside0.mk (below_step (by repeat (first | (with_reducible first | exact HB.out | apply below_alloc | apply pw_below_drewN | apply below_drew1) | exact HB.out)) hb); clear HB; have HO1231003 := n0_; have HB := n1_; clear n0_ n1_; clear hb ho7))
 go_loopg [7, 8] k (fun kq v7 v8 w' => ∃ (x6_1 : List Bool) (x7_1 : Int) (x8_1 : Int), v7 = .int .i64 x7_1 ∧ v8 = .int .i64 x8_1 ∧ Aside0 (spec_l10Set.l0 kq l0 a1 x6_1 x7_1 x8_1 = some (r1, r2)) ∧ Aside0 (kq ≤ k) ∧ Aside0 (Kd.R Kd.bool 4 w' w.heap.size (fun _ => True) v1231002 x6_1) ∧ Aside0 (Below w.heap.size w w'))
 case atStart => exact ⟨(y1231001), (0), (0), (by first | rfl | (simp; done) | (simp [*]; done)), (by first | rfl | (simp; done) | (simp [*]; done)), H', ⟨Nat.le_refl _⟩, ⟨by (with_reducible repeat (first | apply Kd.R_alloc | apply Kd.R_drewN | apply Kd.R_drew)); exact HO1231003.out⟩, ⟨by repeat (first | (with_reducible first | exact HB.out | apply below_alloc | apply pw_below_drewN | apply below_drew1) | exact HB.out)⟩⟩
 case round =>
  clear H'
  try clear c1
  try clear p2
  try clear c4
  try clear c4b0
  try clear c4b1
  try clear c5
  try clear c5b0
  try clear c5b1
  try clear p6
  obtain ⟨x6_1, x7_1, x8_1, rfl, rfl, HA, HK1, HO_6, HB⟩ := hrel
  cases gk with
  | zero => exact absurd HA.out (by simp [spec_l10Set.l0])
  | succ k1 =>
   have H := HA.out
   clear HA
   simp only [spec_l10Set.l0] at H
   by_cases c8 : x8_1 < (x6_1.length : Int)
   rotate_left
   ·rw [if_neg c8] at H
    have c8b0 : decide (x8_1 < (x6_1.length : Int)) = false := decide_eq_false c8
    clear c8
    replace H := Option.bind_eq_some_iff.mp H
    obtain ⟨t1231006, A220, H⟩ := H
    replace H : (some (t1231006, x7_1)) = some (r1, r2) := H
    have A22 := Aside0.mk A220
    clear A220
    simp only [Option.some.injEq, Prod.mk.injEq] at H
    obtain ⟨rfl, rfl⟩ := H
    obtain ⟨Ao23, co23, eo23⟩ := Kd.R_slice HO_6.out
    subst eo23
    go_wp2_with (first | ((with_reducible refine gate_callee (f := 166) rfl ?_); refine goesL_ (some 36) rfl rfl Tryz.func166 (by kernel_rfl) rfl #[.slice A0 l0.length c0, .slice Ao23 x6_1.length co23] rfl (by (try simp only [List.map_toArray, List.map_cons, List.map_nil]); first | done | rfl | (simp only [List.length_drop, List.length_take]; rfl)) ?_; (with_reducible refine (spec_l01Some.calls k1 _ _ l0 _ _ x6_1 t1231006 _ ?side1 ?side2 ?side3 ?side4 A22.out).mono ?_); (case side1 => repeat (first | exact (Kd.C_below HR0.out HB.out) | (with_reducible refine Kd.C_alloc ?_ _) | (with_reducible refine Kd.C_drewN ?_ _) | (with_reducible refine Kd.C_drew ?_))); (case side2 => exact HC0.out); (case side3 => repeat (first | exact (Kd.R_reads' HO_6.out).2.2 | (with_reducible refine Kd.C_alloc ?_ _) | (with_reducible refine Kd.C_drewN ?_ _) | (with_reducible refine Kd.C_drew ?_))); (case side4 => exact (Kd.R_reads' HO_6.out).2.1); rintro e w24 ⟨v1231007, rfl, ho0, hb⟩; refine ⟨_, rfl, ?_⟩; have n0_ := Aside0.mk (Kd.R_below (by (with_reducible repeat (first | apply Kd.R_alloc | apply Kd.R_drewN | apply Kd.R_drew)); exact HO_6.out) hb); have n1_ := Aside0.mk (Kd.R_lower ho0 (below_size (by repeat (first | (with_reducible first | exact HB.out | apply below_alloc | apply pw_below_drewN | apply below_drew1) | exact HB.out)))); have n2_ := Aside0.mk (below_step (by repeat (first | (with_reducible first | exact HB.out | apply below_alloc | apply pw_below_drewN | apply below_drew1) | exact HB.out)) hb); clear HO_6; clear HB; have HO_6 := n0_; have HO1231008 := n1_; have HB := n2_; clear n0_ n1_ n2_; (try clear hb); (try clear hb2); (try clear hk); (try clear hi); (try clear ho0)))
    go_ret2
    exact ⟨_, by first | rfl | (simp [errW_none, errW_some] <;> rfl) | (simp only [← hji3]; first | rfl | (simp [errW_none, errW_some] <;> rfl)) | (simp [*, errW_none, errW_some] <;> rfl), by (with_reducible repeat (first | apply Kd.R_alloc | apply Kd.R_drewN | apply Kd.R_drew)); exact HO1231008.out, by repeat (first | (with_reducible first | exact HB.out | apply below_alloc | apply pw_below_drewN | apply below_drew1) | exact HB.out)⟩
   rw [if_pos c8] at H
   have c8b0 : decide (x8_1 < (x6_1.length : Int)) = true := decide_eq_true c8
   clear c8
   obtain ⟨ji9, hji9⟩ : ∃ j_ : Int, (IntKind.u64.wrap (x8_1)) = j_ := ⟨_, rfl⟩
   replace H : (if 0 ≤ (ji9) then (if 0 ≤ x8_1 then ((some (x6_1.set (x8_1 : Int).toNat ((Go.bits .and .i64 (shr .i64 a1 (ji9)) 1) == 1) : List Bool)).bind fun y1231004 => (if rdOf false y1231004 x8_1 = true then (spec_l10Set.l0 k1 l0 a1 y1231004 (wrap64 (x7_1 + 1)) (wrap64 (x8_1 + 1))) else (spec_l10Set.l0 k1 l0 a1 y1231004 x7_1 (wrap64 (x8_1 + 1))))) else (none)) else (none)) = some (r1, r2) := by first | (rw [hji9] at H; exact H) | (simp only [hji9] at H ⊢; exact H)
   by_cases c10 : 0 ≤ (ji9)
   rotate_left
   ·rw [if_neg c10] at H
    exact absurd H (by simp)
   rw [if_pos c10] at H
   have c10b0 := eq_true c10
   have c10b1 : decide (0 ≤ (ji9)) = true := decide_eq_true c10
   clear c10
   obtain ⟨ji11, hji11⟩ : ∃ j_ : Int, (shr .i64 a1 (ji9)) = j_ := ⟨_, rfl⟩
   replace H : (if 0 ≤ x8_1 then ((some (x6_1.set (x8_1 : Int).toNat ((Go.bits .and .i64 (ji11) 1) == 1) : List Bool)).bind fun y1231004 => (if rdOf false y1231004 x8_1 = true then (spec_l10Set.l0 k1 l0 a1 y1231004 (wrap64 (x7_1 + 1)) (wrap64 (x8_1 + 1))) else (spec_l10Set.l0 k1 l0 a1 y1231004 x7_1 (wrap64 (x8_1 + 1))))) else (none)) = some (r1, r2) := by first | (rw [hji11] at H; exact H) | (simp only [hji11] at H ⊢; exact H)
   have hji11_ : (a1 / 2 ^ min (ji9).toNat 64) = ji11 := hji11
   have hji11z : (ji9) ≤ 64 → (a1 / 2 ^ (ji9).toNat) = ji11 := shr_small hji11
   by_cases c12 : 0 ≤ x8_1
   rotate_left
   ·rw [if_neg c12] at H
    exact absurd H (by simp)
   rw [if_pos c12] at H
   have c12b0 : decide (0 ≤ x8_1) = true := decide_eq_true c12
   clear c12
   obtain ⟨y1231004, hy1231004⟩ : ∃ y_ : List Bool, y_ = (x6_1.set (x8_1 : Int).toNat ((Go.bits .and .i64 (ji11) 1) == 1)) := ⟨_, rfl⟩
   replace H : (if rdOf false y1231004 x8_1 = true then (spec_l10Set.l0 k1 l0 a1 y1231004 (wrap64 (x7_1 + 1)) (wrap64 (x8_1 + 1))) else (spec_l10Set.l0 k1 l0 a1 y1231004 x7_1 (wrap64 (x8_1 + 1)))) = some (r1, r2) := by first | (rw [hy1231004]; with_reducible exact H) | (have H2_ := (Option.bind_some _ _).symm.trans H; rw [hy1231004]; with_reducible exact H2_) | (have H2_ := (Option.bind_some _ _).symm.trans H; with_reducible exact H2_) | with_reducible exact H | (rw [hy1231004]; exact H) | exact H
   have Ny1231004 := Aside0.mk hy1231004
   clear hy1231004
   obtain ⟨bq14, hbq14⟩ : ∃ b_ : Bool, b_ = (rdOf false y1231004 x8_1) := ⟨_, rfl⟩
   replace H : (if bq14 = true then (spec_l10Set.l0 k1 l0 a1 y1231004 (wrap64 (x7_1 + 1)) (wrap64 (x8_1 + 1))) else (spec_l10Set.l0 k1 l0 a1 y1231004 x7_1 (wrap64 (x8_1 + 1)))) = some (r1, r2) := by rw [← hbq14] at H; exact H
   have Nbq14 := Aside0.mk hbq14
   clear hbq14
   by_cases c15 : bq14 = true
   ·subst c15
    have H1 : (spec_l10Set.l0 k1 l0 a1 y1231004 (wrap64 (x7_1 + 1)) (wrap64 (x8_1 + 1))) = some (r1, r2) := by rw [if_pos rfl] at H; exact H
    clear H
    have H := H1
    clear H1
    have H' := Aside0.mk H
    clear H
    obtain ⟨Ao16, co16, eo16⟩ := Kd.R_slice HO_6.out
    subst eo16
    have p13 : 0 ≤ (x8_1 : Int) := of_decide_eq_true (by first | (with_reducible assumption) | assumption)
    have q13 : (x8_1 : Int) < ((x6_1.length : Int) : Int) := of_decide_eq_true (by first | (with_reducible assumption) | assumption)
    obtain ⟨go13, co13, eo13, gb13, gl13, cl13, HG13⟩ := Kd.R_form HO_6.out (by omega)
    (first | cases eo13 | (injection eo13 with ea_ en_ ec_; (first | subst ea_ | (injection ea_ with ea_; subst ea_)); subst ec_; clear en_))
    have GB13 := Aside0.mk gb13
    have GG13 := Aside0.mk HG13
    clear gb13 gl13 HG13
    obtain ⟨hx13_0, hf13_0⟩ := Kd.R_celln false HO_6.out (x8_1 : Int) p13 q13
    replace p13 := eq_true p13
    replace q13 := eq_true q13
    have HP17 := Kd.R_putg HO_6.out (x8_1 : Int) ((Go.bits .and .i64 (ji11) 1) == 1)
    go_wp2_with (first | ((with_reducible refine gate_store (t := 4) (p := 27) rfl ?_); refine store_event (t := 4) (p := 27) (v := ?vo_w18) (w1 := (wr.setCell ⟨go13, (x8_1 : Int).toNat, none⟩ (.bool ((Go.bits .and .i64 (ji11) 1) == 1)))) ?hg ?ho ?hn ?hr ?_; (case ho => rfl); (case hg => rfl); (case hn => rfl); (case hr => first | (go_simp; done) | (go_simp; rfl)); intro w18 hw; have hg : wr.grownBy w18 (some go13) := (by rw [hw]; exact HP17.2); have hp_ : Kd.R Kd.bool 4 w18 w.heap.size (fun _ => True) (.slice (some ⟨go13, 0, none⟩) x6_1.length co16) y1231004 := (by rw [hw, Ny1231004.out]; exact HP17.1); clear HP17; have n0_ := Aside0.mk (hp_); have n1_ := Aside0.mk ((by rw [hw]; exact below_set (HB.out) GB13.out : Below w.heap.size w w18)); clear HO_6; clear HB; have HO_6 := n0_; have HB := n1_; clear n0_ n1_; clear hg hw hp_; have p1231005 : 0 ≤ (x8_1 : Int) := of_decide_eq_true (by first | (with_reducible assumption) | assumption); have q1231005 : x8_1 < (y1231004.length : Int) := (by have h_ : (x8_1 : Int) < ((x6_1.length : Int) : Int) := of_decide_eq_true (by first | (with_reducible assumption) | assumption); first | (have e_ := (Kd.R_reads' HO_6.out).1; omega) | simpa only [Ny1231004.out, List.length_set] using h_); have ql1231005 : ((x8_1 : Int) < ((x6_1.length : Int) : Int)) = True := eq_true (of_decide_eq_true (by first | (with_reducible assumption) | assumption)); obtain ⟨ad1231005, e1231005, hx1231005_0⟩ := Kd.at_bool (Kd.R_reads' HO_6.out).2.2 x8_1 p1231005 q1231005; (try rw [← Nbq14.out] at hx1231005_0); obtain rfl : (⟨go13, 0, none⟩ : Addr) = ad1231005 := (by injection e1231005); (first | simp only [add_plain] at hx1231005_0 | simp only [add_at] at hx1231005_0 | simp only [Addr.add, Nat.zero_add] at hx1231005_0 | skip); replace p1231005 := eq_true p1231005; replace q1231005 := eq_true q1231005))
    go_roundg k1
    case measure => have := HK1.out; omega
    case rel => exact ⟨(y1231004), (wrap64 (x7_1 + 1)), (wrap64 (x8_1 + 1)), (by first | rfl | (simp; done) | (simp [*]; done)), (by first | rfl | (simp; done) | (simp [*]; done)), H', ⟨by have := HK1.out; omega⟩, ⟨by (with_reducible repeat (first | apply Kd.R_alloc | apply Kd.R_drewN | apply Kd.R_drew)); exact HO_6.out⟩, ⟨by repeat (first | (with_reducible first | exact HB.out | apply below_alloc | apply pw_below_drewN | apply below_drew1) | exact HB.out)⟩⟩
   replace c15 := Bool.eq_false_iff.mpr c15
   subst c15
   have H1 : (spec_l10Set.l0 k1 l0 a1 y1231004 x7_1 (wrap64 (x8_1 + 1))) = some (r1, r2) := by rw [if_neg (show ¬ (false = true) by decide)] at H; exact H
   clear H
   have H := H1
   clear H1
   have H' := Aside0.mk H
   clear H
   obtain ⟨Ao19, co19, eo19⟩ := Kd.R_slice HO_6.out
   subst eo19
   have p13 : 0 ≤ (x8_1 : Int) := of_decide_eq_true (by first | (with_reducible assumption) | assumption)
   have q13 : (x8_1 : Int) < ((x6_1.length : Int) : Int) := of_decide_eq_true (by first | (with_reducible assumption) | assumption)
   obtain ⟨go13, co13, eo13, gb13, gl13, cl13, HG13⟩ := Kd.R_form HO_6.out (by omega)
   (first | cases eo13 | (injection eo13 with ea_ en_ ec_; (first | subst ea_ | (injection ea_ with ea_; subst ea_)); subst ec_; clear en_))
   have GB13 := Aside0.mk gb13
   have GG13 := Aside0.mk HG13
   clear gb13 gl13 HG13
   obtain ⟨hx13_0, hf13_0⟩ := Kd.R_celln false HO_6.out (x8_1 : Int) p13 q13
   replace p13 := eq_true p13
   replace q13 := eq_true q13
   have HP20 := Kd.R_putg HO_6.out (x8_1 : Int) ((Go.bits .and .i64 (ji11) 1) == 1)
   go_wp2_with (first | ((with_reducible refine gate_store (t := 4) (p := 27) rfl ?_); refine store_event (t := 4) (p := 27) (v := ?vo_w21) (w1 := (wr.setCell ⟨go13, (x8_1 : Int).toNat, none⟩ (.bool ((Go.bits .and .i64 (ji11) 1) == 1)))) ?hg ?ho ?hn ?hr ?_; (case ho => rfl); (case hg => rfl); (case hn => rfl); (case hr => first | (go_simp; done) | (go_simp; rfl)); intro w21 hw; have hg : wr.grownBy w21 (some go13) := (by rw [hw]; exact HP20.2); have hp_ : Kd.R Kd.bool 4 w21 w.heap.size (fun _ => True) (.slice (some ⟨go13, 0, none⟩) x6_1.length co19) y1231004 := (by rw [hw, Ny1231004.out]; exact HP20.1); clear HP20; have n0_ := Aside0.mk (hp_); have n1_ := Aside0.mk ((by rw [hw]; exact below_set (HB.out) GB13.out : Below w.heap.size w w21)); clear HO_6; clear HB; have HO_6 := n0_; have HB := n1_; clear n0_ n1_; clear hg hw hp_; have p1231005 : 0 ≤ (x8_1 : Int) := of_decide_eq_true (by first | (with_reducible assumption) | assumption); have q1231005 : x8_1 < (y1231004.length : Int) := (by have h_ : (x8_1 : Int) < ((x6_1.length : Int) : Int) := of_decide_eq_true (by first | (with_reducible assumption) | assumption); first | (have e_ := (Kd.R_reads' HO_6.out).1; omega) | simpa only [Ny1231004.out, List.length_set] using h_); have ql1231005 : ((x8_1 : Int) < ((x6_1.length : Int) : Int)) = True := eq_true (of_decide_eq_true (by first | (with_reducible assumption) | assumption)); obtain ⟨ad1231005, e1231005, hx1231005_0⟩ := Kd.at_bool (Kd.R_reads' HO_6.out).2.2 x8_1 p1231005 q1231005; (try rw [← Nbq14.out] at hx1231005_0); obtain rfl : (⟨go13, 0, none⟩ : Addr) = ad1231005 := (by injection e1231005); (first | simp only [add_plain] at hx1231005_0 | simp only [add_at] at hx1231005_0 | simp only [Addr.add, Nat.zero_add] at hx1231005_0 | skip); replace p1231005 := eq_true p1231005; replace q1231005 := eq_true q1231005))
   go_roundg k1
   case measure => have := HK1.out; omega
   case rel => exact ⟨(y1231004), (x7_1), (wrap64 (x8_1 + 1)), (by first | rfl | (simp; done) | (simp [*]; done)), (by first | rfl | (simp; done) | (simp [*]; done)), H', ⟨by have := HK1.out; omega⟩, ⟨by (with_reducible repeat (first | apply Kd.R_alloc | apply Kd.R_drewN | apply Kd.R_drew)); exact HO_6.out⟩, ⟨by repeat (first | (with_reducible first | exact HB.out | apply below_alloc | apply pw_below_drewN | apply below_drew1) | exact HB.out)⟩⟩
end Go.Proofs.YtcnekpdoldljgaaGreat.F
end
section
namespace Go.Proofs.YtcnekpdoldljgaaGreat.Red
open Go.RowKit Go.Proofs.YtcnekpdoldljgaaGreat.F Go.Proofs.YtcnekpdoldljgaaGreat.ORows Go.Proofs.YtcnekpdoldljgaaGreat.Rank
def addV (row own : List Int) : List Int := List.zipWith (fun x y => (x + y) % 2) row own
abbrev hd (H : List (Nat × Nat)) (i : Nat) : Nat × Nat := H.getD i (0, 0)
def findAt (H : List (Nat × Nat)) (F : Nat → List Int) (c : Nat) : Nat → Nat → Nat
  | 0, k => k
  | d + 1, k => if (F (hd H k).1).getD c 0 = 0 then findAt H F c d (k + 1) else k
def swapH (H : List (Nat × Nat)) (i k : Nat) : List (Nat × Nat) := (H.set i (hd H k)).set k (hd H i)
def elimF (own c : Nat) (F : Nat → List Int) (p : Nat × Nat) : Nat → List Int := if (F p.1).getD c 0 = 0 then F else upd F p.1 (addV (F p.1) (F own))
structure GSt where
  H : List (Nat × Nat)
  F : Nat → List Int
  k : Nat
def elimAt (H : List (Nat × Nat)) (F : Nat → List Int) (own c k j : Nat) : Nat → List Int := ((H.take j).drop (k + 1)).foldl (elimF own c) F
def gStep (st : GSt) (c : Nat) : GSt :=
  let i := findAt st.H st.F c (st.H.length - st.k) st.k
  if i = st.H.length then st else ⟨swapH st.H i st.k, elimAt (swapH st.H i st.k) st.F (hd st.H i).1 c st.k st.H.length, st.k + 1⟩
def gAt (H : List (Nat × Nat)) (F : Nat → List Int) : Nat → GSt
  | 0 => ⟨H, F, 0⟩
  | c + 1 => gStep (gAt H F c) c
theorem swapH_len (H : List (Nat × Nat)) (i k : Nat) : (swapH H i k).length = H.length := by simp [swapH]
theorem gStep_len (st : GSt) (c : Nat) : (gStep st c).H.length = st.H.length := by
  unfold gStep
  dsimp only
  split
  · rfl
  · exact swapH_len _ _ _
theorem findAt_ge (H : List (Nat × Nat)) (F : Nat → List Int) (c : Nat) : ∀ d k, k ≤ findAt H F c d k ∧ findAt H F c d k ≤ k + d ∧ (∀ j, k ≤ j → j < findAt H F c d k → (F (hd H j).1).getD c 0 = 0) ∧ (findAt H F c d k < k + d → (F (hd H (findAt H F c d k)).1).getD c 0 ≠ 0)
  | 0, k => ⟨Nat.le_refl _, Nat.le_refl _, fun j h1 h2 => absurd h2 (by unfold findAt; omega), fun h => absurd h (by unfold findAt; omega)⟩
  | d + 1, k => by
    rw [findAt]
    by_cases h : (F (hd H k).1).getD c 0 = 0
    · rw [if_pos h]
      obtain ⟨a, b, e, f⟩ := findAt_ge H F c d (k + 1)
      refine ⟨by omega, by omega, fun j h1 h2 => ?_, fun h2 => f (by omega)⟩
      rcases Nat.eq_or_lt_of_le h1 with e1 | e1
      · rw [← e1]; exact h
      · exact e j e1 h2
    · rw [if_neg h]
      exact ⟨Nat.le_refl _, by omega, fun j h1 h2 => absurd h2 (by omega), fun _ => h⟩
theorem swapH_at (H : List (Nat × Nat)) {i k : Nat} (hi : i < H.length) (j : Nat) (hj : j < H.length) : hd (swapH H i k) j = if j = k then hd H i else if j = i then hd H k else hd H j := by
  unfold hd swapH
  rw [List.getD_eq_getElem?_getD, List.getElem?_set, List.getElem?_set]
  by_cases h1 : k = j
  · subst h1
    simp [hj]
  · rw [if_neg h1, if_neg (Ne.symm h1)]
    by_cases h2 : i = j
    · subst h2
      simp [hi]
    · rw [if_neg h2, if_neg (Ne.symm h2), List.getD_eq_getElem?_getD (l := H) (i := j)]
theorem addV_len {row own : List Int} (h : own.length = row.length) : (addV row own).length = row.length := by unfold addV; rw [List.length_zipWith, h, Nat.min_self]
theorem addV_bits (row own : List Int) : Bits (addV row own) := by
  intro x hx
  unfold addV at hx
  obtain ⟨i, hi, rfl⟩ := List.mem_iff_getElem.1 hx
  rw [List.getElem_zipWith]
  omega
theorem addV_vec {row own : List Int} (h1 : Bits row) (h2 : Bits own) (h : own.length = row.length) : vec (addV row own) = vx (vec row) (vec own) := by
  funext j
  show ((addV row own).getD j 0 == 1) = ((row.getD j 0 == 1) != (own.getD j 0 == 1))
  rcases Nat.lt_or_ge j row.length with hj | hj
  · have e : (addV row own).getD j 0 = (row.getD j 0 + own.getD j 0) % 2 := by
      unfold addV
      have hj2 : j < (List.zipWith (fun x y => (x + y) % 2) row own).length := by rw [List.length_zipWith, h, Nat.min_self]; exact hj
      rw [List.getD_eq_getElem?_getD, List.getElem?_eq_getElem hj2, Option.getD_some, List.getElem_zipWith]
      rw [List.getD_eq_getElem?_getD (l := row) (i := j), List.getElem?_eq_getElem hj, List.getD_eq_getElem?_getD (l := own) (i := j), List.getElem?_eq_getElem (by rw [h]; exact hj)]
      rfl
    rw [e]
    rcases bits_at h1 j with b | b <;> rcases bits_at h2 j with c | c <;> rw [b, c] <;> decide
  · rw [List.getD_eq_getElem?_getD (l := addV row own), List.getElem?_eq_none (by rw [addV_len h]; exact hj), List.getD_eq_getElem?_getD (l := row) (i := j), List.getElem?_eq_none hj, List.getD_eq_getElem?_getD (l := own) (i := j), List.getElem?_eq_none (by rw [h]; exact hj)]
    rfl
theorem elim_other {own c k : Nat} : ∀ (l : List (Nat × Nat)) (F : Nat → List Int), (∀ q ∈ l, k ≠ q.1) → (l.foldl (elimF own c) F) k = F k
  | [], _, _ => rfl
  | p :: t, F, h => by
    rw [List.foldl_cons, elim_other t _ (fun q hq => h q (List.mem_cons_of_mem _ hq))]
    unfold elimF
    split
    · rfl
    · exact upd_ne _ _ (h p List.mem_cons_self)
theorem elim_at {own c : Nat} : ∀ (l : List (Nat × Nat)) (F : Nat → List Int), (∀ q ∈ l, own ≠ q.1) → (l.map Prod.fst).Nodup → ∀ q ∈ l, (l.foldl (elimF own c) F) q.1 = if (F q.1).getD c 0 = 0 then F q.1 else addV (F q.1) (F own)
  | [], _, _, _, _, hq => by cases hq
  | p :: t, F, h, hn, q, hq => by
    have hn2 := List.nodup_cons.1 (show (p.1 :: t.map Prod.fst).Nodup from hn)
    have hne : ∀ k, k ≠ p.1 → elimF own c F p k = F k := fun k hk => by
      unfold elimF; split
      · rfl
      · exact upd_ne _ _ hk
    rw [List.foldl_cons]
    rcases List.mem_cons.1 hq with e | e
    · subst e
      rw [elim_other t _ (fun r hr e2 => hn2.1 (List.mem_map.2 ⟨r, hr, e2.symm⟩))]
      unfold elimF
      split
      · rfl
      · exact upd_same _ _ _
    · rw [elim_at t _ (fun r hr => h r (List.mem_cons_of_mem _ hr)) hn2.2 q e]
      have e1 : q.1 ≠ p.1 := fun e2 => hn2.1 (e2 ▸ List.mem_map.2 ⟨q, e, rfl⟩)
      rw [hne _ e1, hne _ (h p List.mem_cons_self)]
structure GGood (n : Nat) (bs : List (Nat × Nat)) (F0 : Nat → List Int) (c : Nat) (st : GSt) : Prop where
  inj : ∀ a b, a < st.H.length → b < st.H.length → (hd st.H a).1 = (hd st.H b).1 → a = b
  sur : ∀ p ∈ bs, ∃ a, a < st.H.length ∧ hd st.H a = p
  sub : ∀ a, a < st.H.length → hd st.H a ∈ bs
  bits : ∀ p ∈ bs, Bits (st.F p.1) ∧ (st.F p.1).length = n
  kl : st.k ≤ st.H.length
  lead : ∃ L : Nat → Nat, (∀ i, i < st.k → L i < c ∧ Lead (vec (st.F (hd st.H i).1)) (L i)) ∧ ∀ i j, i < j → j < st.k → L i < L j
  zero : ∀ i, st.k ≤ i → i < st.H.length → ∀ j, j < c → vec (st.F (hd st.H i).1) j = false
  span : ∀ v, Sp (st.H.map fun p => vec (st.F p.1)) v ↔ Sp (bs.map fun p => vec (F0 p.1)) v
theorem vec_zero {l : List Int} {c : Nat} (h : l.getD c 0 = 0) : vec l c = false := by show (l.getD c 0 == 1) = false; rw [h]; rfl
theorem vec_one {l : List Int} (hb : Bits l) {c : Nat} (h : l.getD c 0 ≠ 0) : vec l c = true := by
  show (l.getD c 0 == 1) = true
  rcases bits_at hb c with e | e
  · exact absurd e h
  · rw [e]; rfl
theorem hd_mem {H : List (Nat × Nat)} {a : Nat} (h : a < H.length) : hd H a ∈ H := by
  unfold hd; rw [List.getD_eq_getElem?_getD, List.getElem?_eq_getElem h]; exact List.getElem_mem h
theorem mem_hd {H : List (Nat × Nat)} {p : Nat × Nat} (h : p ∈ H) : ∃ a, a < H.length ∧ hd H a = p := by
  obtain ⟨a, ha, rfl⟩ := List.mem_iff_getElem.1 h
  exact ⟨a, ha, by unfold hd; rw [List.getD_eq_getElem?_getD, List.getElem?_eq_getElem ha]; rfl⟩
theorem mem_drop_hd {H : List (Nat × Nat)} {k : Nat} {p : Nat × Nat} : p ∈ H.drop k ↔ ∃ a, k ≤ a ∧ a < H.length ∧ hd H a = p := by
  constructor
  · intro h
    obtain ⟨a, ha, rfl⟩ := List.mem_drop_iff_getElem.1 h
    exact ⟨k + a, by omega, by omega, by unfold hd; rw [List.getD_eq_getElem?_getD, List.getElem?_eq_getElem (by omega)]; rfl⟩
  · rintro ⟨a, h1, h2, rfl⟩
    refine List.mem_drop_iff_getElem.2 ⟨a - k, by omega, ?_⟩
    unfold hd
    rw [List.getD_eq_getElem?_getD, List.getElem?_eq_getElem h2, Option.getD_some]
    congr 1
    omega
theorem gauss_step {n : Nat} {bs : List (Nat × Nat)} {F0 : Nat → List Int} {c : Nat} {st : GSt} (hg : GGood n bs F0 c st) : GGood n bs F0 (c + 1) (gStep st c) := by
  obtain ⟨H, F, k⟩ := st
  have hkl : k ≤ H.length := hg.kl
  obtain ⟨hf1, hf2, hf3, hf4⟩ := findAt_ge H F c (H.length - k) k
  unfold gStep
  dsimp only
  obtain ⟨i, hi⟩ : ∃ i, findAt H F c (H.length - k) k = i := ⟨_, rfl⟩
  rw [hi] at hf1 hf2 hf3 hf4 ⊢
  obtain ⟨L, hL1, hL2⟩ := hg.lead
  by_cases he : i = H.length
  · rw [if_pos he]
    refine ⟨hg.inj, hg.sur, hg.sub, hg.bits, hg.kl, ⟨L, fun j hj => ⟨Nat.lt_succ_of_lt (hL1 j hj).1, (hL1 j hj).2⟩, hL2⟩, fun j h1 h2 d hd' => ?_, hg.span⟩
    rcases Nat.lt_or_ge d c with e | e
    · exact hg.zero j h1 h2 d e
    · have : d = c := by omega
      subst this
      exact vec_zero (hf3 j h1 (by rw [he]; exact h2))
  · rw [if_neg he]
    have hiN : i < H.length := by omega
    have hkN : k < H.length := by omega
    obtain ⟨H', hH'⟩ : ∃ H', swapH H i k = H' := ⟨_, rfl⟩
    have hlen : H'.length = H.length := by rw [← hH', swapH_len]
    have hat : ∀ j, j < H.length → hd H' j = if j = k then hd H i else if j = i then hd H k else hd H j := fun j hj => by rw [← hH']; exact swapH_at H hiN j hj
    rw [hH']
    have hback : ∀ j, j < H.length → ∃ b, b < H.length ∧ hd H' j = hd H b ∧ (j = k → b = i) ∧ (j < k → b = j) ∧ (k < j → k ≤ b) ∧ (∀ j', j' < H.length → hd H' j' = hd H b → True) := fun j hj => by
      rw [hat j hj]
      by_cases h1 : j = k
      · exact ⟨i, hiN, if_pos h1, fun _ => rfl, fun h => by omega, fun h => by omega, fun _ _ _ => trivial⟩
      · rw [if_neg h1]
        by_cases h2 : j = i
        · exact ⟨k, hkN, if_pos h2, fun h => absurd h h1, fun h => by omega, fun _ => Nat.le_refl _, fun _ _ _ => trivial⟩
        · exact ⟨j, hj, if_neg h2, fun h => absurd h h1, fun _ => rfl, fun h => by omega, fun _ _ _ => trivial⟩
    have hinj : ∀ a b, a < H.length → b < H.length → (hd H' a).1 = (hd H' b).1 → a = b := fun a b ha hb e => by
      rw [hat a ha, hat b hb] at e
      by_cases a1 : a = k <;> by_cases b1 : b = k <;> simp only [a1, b1, if_true, if_false] at e ⊢
      · by_cases b2 : b = i
        · rw [if_pos b2] at e; have := hg.inj _ _ hiN hkN e; omega
        · rw [if_neg b2] at e; have := hg.inj _ _ hiN hb e; omega
      · by_cases a2 : a = i
        · rw [if_pos a2] at e; have := hg.inj _ _ hkN hiN e; omega
        · rw [if_neg a2] at e; have := hg.inj _ _ ha hiN e; omega
      · by_cases a2 : a = i <;> by_cases b2 : b = i
        · omega
        · rw [if_pos a2, if_neg b2] at e; have := hg.inj _ _ hkN hb e; omega
        · rw [if_neg a2, if_pos b2] at e; have := hg.inj _ _ ha hkN e; omega
        · rw [if_neg a2, if_neg b2] at e; exact hg.inj _ _ ha hb e
    have hkk : hd H' k = hd H i := by rw [hat k hkN, if_pos rfl]
    have hsur : ∀ a, a < H.length → ∃ b, b < H.length ∧ hd H' b = hd H a := fun a ha => by
      by_cases h1 : a = i
      · exact ⟨k, hkN, by rw [hkk, h1]⟩
      · by_cases h2 : a = k
        · exact ⟨i, hiN, by rw [hat i hiN, if_neg (by omega), if_pos rfl, h2]⟩
        · exact ⟨a, ha, by rw [hat a ha, if_neg h2, if_neg h1]⟩
    have hsub : ∀ a, a < H.length → hd H' a ∈ bs := fun a ha => by
      obtain ⟨b, hb, e, _⟩ := hback a ha
      rw [e]; exact hg.sub b hb
    obtain ⟨own, hown⟩ : ∃ own, (hd H i).1 = own := ⟨_, rfl⟩
    obtain ⟨F', hF'⟩ : ∃ F', elimAt H' F (hd H i).1 c k H.length = F' := ⟨_, rfl⟩
    rw [hF']
    rw [hown] at hF'
    have hFe : F' = (H'.drop (k + 1)).foldl (elimF own c) F := by rw [← hF']; unfold elimAt; rw [List.take_of_length_le (by omega)]
    have hout : ∀ a, a ≤ k → F' (hd H' a).1 = F (hd H' a).1 := fun a ha => by
      rw [hFe, elim_other]
      intro q hq e
      obtain ⟨b, hb1, hb2, rfl⟩ := mem_drop_hd.1 hq
      have := hinj a b (by omega) (by omega) e
      omega
    have hin : ∀ a, k < a → a < H.length → F' (hd H' a).1 = if (F (hd H' a).1).getD c 0 = 0 then F (hd H' a).1 else addV (F (hd H' a).1) (F own) := fun a h1 h2 => by
      rw [hFe]
      refine elim_at _ _ (fun q hq e => ?_) ?_ _ (mem_drop_hd.2 ⟨a, h1, by omega, rfl⟩)
      · obtain ⟨b, hb1, hb2, rfl⟩ := mem_drop_hd.1 hq
        rw [← hown, ← hkk] at e
        have := hinj k b hkN (by omega) e
        omega
      · refine List.pairwise_map.2 (List.pairwise_iff_getElem.2 (fun a b ha hb hab => ?_))
        rw [List.getElem_drop, List.getElem_drop]
        rw [List.length_drop] at ha hb
        have ea : H'[k + 1 + a] = hd H' (k + 1 + a) := by unfold hd; rw [List.getD_eq_getElem?_getD, List.getElem?_eq_getElem (by omega)]; rfl
        have eb : H'[k + 1 + b] = hd H' (k + 1 + b) := by unfold hd; rw [List.getD_eq_getElem?_getD, List.getElem?_eq_getElem (by omega)]; rfl
        rw [ea, eb]
        intro e
        have := hinj _ _ (by omega) (by omega) e
        omega
    have hob := hg.bits _ (hg.sub i hiN)
    rw [show (hd (GSt.mk H F k).H i).1 = own from hown] at hob
    have hone : vec (F own) c = true := vec_one hob.1 (by rw [← hown]; exact hf4 (by omega))
    have hoz : ∀ j, j < c → vec (F own) j = false := fun j hj => by rw [← hown]; exact hg.zero i hf1 hiN j hj
    have hbH : ∀ a, a < H.length → Bits (F (hd H' a).1) ∧ (F (hd H' a).1).length = n := fun a ha => hg.bits _ (hsub a ha)
    have hvec : ∀ a, k < a → a < H.length → vec (F' (hd H' a).1) = if vec (F (hd H' a).1) c = true then vx (vec (F (hd H' a).1)) (vec (F own)) else vec (F (hd H' a).1) := fun a h1 h2 => by
      rw [hin a h1 h2]
      by_cases hz : (F (hd H' a).1).getD c 0 = 0
      · rw [if_pos hz, vec_zero hz]; rfl
      · rw [if_neg hz, vec_one (hbH a h2).1 hz, if_pos rfl]
        exact addV_vec (hbH a h2).1 hob.1 (by rw [hob.2, (hbH a h2).2])
    have hown' : F' own = F own := by
      have := hout k (Nat.le_refl _)
      rw [hkk, hown] at this; exact this
    refine ⟨?_, fun p hp => ?_, ?_, fun p hp => ?_, ?_, ⟨fun j => if j < k then L j else c, fun j hj => ?_, fun a b hab hb => ?_⟩, fun j h1 h2 d hd' => ?_, fun v => ?_⟩
    · show ∀ a b, a < H'.length → b < H'.length → _
      rw [hlen]; exact hinj
    · obtain ⟨a, ha, rfl⟩ := hg.sur p hp
      obtain ⟨b, hb, e⟩ := hsur a ha
      exact ⟨b, by show b < H'.length; rw [hlen]; exact hb, e⟩
    · show ∀ a, a < H'.length → _
      rw [hlen]; exact hsub
    · show Bits (F' p.1) ∧ (F' p.1).length = n
      obtain ⟨a, ha, rfl⟩ := hg.sur p hp
      obtain ⟨b, hb, e⟩ := hsur a ha
      show Bits (F' (hd H a).1) ∧ (F' (hd H a).1).length = n
      rw [← e]
      rcases Nat.lt_or_ge k b with h | h
      · rw [hin b h hb]
        split
        · exact hbH b hb
        · exact ⟨addV_bits _ _, by rw [addV_len (by rw [hob.2, (hbH b hb).2]), (hbH b hb).2]⟩
      · rw [hout b h]; exact hbH b hb
    · show k + 1 ≤ H'.length
      rw [hlen]; omega
    · show (if j < k then L j else c) < c + 1 ∧ Lead (vec (F' (hd H' j).1)) (if j < k then L j else c)
      have hjk : j ≤ k := by have : j < k + 1 := hj; omega
      rw [hout j hjk]
      by_cases h : j < k
      · rw [if_pos h, hat j (by omega), if_neg (by omega), if_neg (by omega)]
        exact ⟨Nat.lt_succ_of_lt (hL1 j h).1, (hL1 j h).2⟩
      · have : j = k := by omega
        subst this
        rw [if_neg h, hkk, hown]
        exact ⟨Nat.lt_succ_self _, hone, hoz⟩
    · show (if a < k then L a else c) < (if b < k then L b else c)
      have hb' : b < k + 1 := hb
      rw [if_pos (by omega : a < k)]
      by_cases h : b < k
      · rw [if_pos h]; exact hL2 a b hab h
      · rw [if_neg h]; exact (hL1 a (show a < k by omega)).1
    · show vec (F' (hd H' j).1) d = false
      have h1' : k + 1 ≤ j := h1
      have h2' : j < H.length := by rw [← hlen]; exact h2
      obtain ⟨b, hb, e, _, _, hkb, _⟩ := hback j h2'
      have hz : ∀ d, d < c → vec (F (hd H' j).1) d = false := fun d hd2 => by rw [e]; exact hg.zero b (hkb (by omega)) hb d hd2
      rw [hvec j (by omega) h2']
      rcases Nat.lt_or_ge d c with h | h
      · split
        · show (vec (F (hd H' j).1) d != vec (F own) d) = false
          rw [hz d h, hoz d h]; rfl
        · exact hz d h
      · have : d = c := by omega
        subst this
        split
        · next hc =>
          show (vec (F (hd H' j).1) d != vec (F own) d) = false
          rw [hc, hone]; rfl
        · next hc => simpa using hc
    · show Sp (H'.map fun p => vec (F' p.1)) v ↔ _
      refine Iff.trans (spanned (B := H.map fun p => vec (F p.1)) (fun r hr => ?_) (fun r hr => ?_) v) (hg.span v)
      · obtain ⟨p, hp, rfl⟩ := List.mem_map.1 hr
        obtain ⟨a, ha, rfl⟩ := mem_hd hp
        rw [hlen] at ha
        have hold : Sp (H.map fun p => vec (F p.1)) (vec (F (hd H' a).1)) := by
          obtain ⟨b, hb, e, _⟩ := hback a ha
          rw [e]; exact Sp.of_mem (List.mem_map.2 ⟨_, hd_mem hb, rfl⟩)
        have ho : Sp (H.map fun p => vec (F p.1)) (vec (F own)) := by rw [← hown]; exact Sp.of_mem (List.mem_map.2 ⟨_, hd_mem hiN, rfl⟩)
        show Sp _ (vec (F' (hd H' a).1))
        rcases Nat.lt_or_ge k a with h | h
        · rw [hvec a h ha]
          split
          · exact hold.vx ho
          · exact hold
        · rw [hout a h]; exact hold
      · obtain ⟨p, hp, rfl⟩ := List.mem_map.1 hr
        obtain ⟨a, ha, rfl⟩ := mem_hd hp
        obtain ⟨b, hb, e⟩ := hsur a ha
        show Sp _ (vec (F (hd H a).1))
        rw [← e]
        have hnew : Sp (H'.map fun p => vec (F' p.1)) (vec (F' (hd H' b).1)) := Sp.of_mem (List.mem_map.2 ⟨_, hd_mem (by rw [hlen]; exact hb), rfl⟩)
        have ho : Sp (H'.map fun p => vec (F' p.1)) (vec (F own)) := by
          rw [← hown', ← hown, ← hkk]; exact Sp.of_mem (List.mem_map.2 ⟨_, hd_mem (by rw [hlen]; exact hkN), rfl⟩)
        rcases Nat.lt_or_ge k b with h | h
        · have hv := hvec b h hb
          split at hv
          · have e2 : vec (F (hd H' b).1) = vx (vec (F' (hd H' b).1)) (vec (F own)) := by rw [hv, vx_cancel]
            rw [e2]; exact hnew.vx ho
          · rw [← hv]; exact hnew
        · rw [← hout b h]; exact hnew
theorem elimAt_first (H : List (Nat × Nat)) (F : Nat → List Int) (own c k : Nat) : elimAt H F own c k (k + 1) = F := by
  unfold elimAt
  rw [List.drop_eq_nil_of_le (by rw [List.length_take]; omega)]
  rfl
theorem elimAt_succ (H : List (Nat × Nat)) (F : Nat → List Int) (own c k y : Nat) (hk : k + 1 ≤ y) (hy : y < H.length) : elimAt H F own c k (y + 1) = elimF own c (elimAt H F own c k y) (hd H y) := by
  unfold elimAt
  rw [List.take_succ_eq_append_getElem hy, List.drop_append_of_le_length (by rw [List.length_take]; omega), List.foldl_append]
  show elimF own c _ H[y] = _
  unfold hd
  rw [List.getD_eq_getElem?_getD, List.getElem?_eq_getElem hy]
  rfl
theorem gauss_len (bs : List (Nat × Nat)) (F : Nat → List Int) : ∀ c, (gAt bs F c).H.length = bs.length
  | 0 => rfl
  | c + 1 => by rw [gAt, gStep_len]; exact gauss_len bs F c
theorem gauss_good {n : Nat} {bs : List (Nat × Nat)} {F : Nat → List Int} (hnd : (bs.map Prod.fst).Nodup) (hb : ∀ p ∈ bs, Bits (F p.1) ∧ (F p.1).length = n) : ∀ c, GGood n bs F c (gAt bs F c)
  | 0 => by
    refine ⟨fun a b ha hb' e => ?_, fun p hp => mem_hd hp, fun a ha => hd_mem ha, hb, Nat.zero_le _, ⟨fun _ => 0, fun i hi => absurd hi (by show ¬ i < 0; omega), fun i j _ hj => absurd hj (by show ¬ j < 0; omega)⟩, fun i _ _ j hj => absurd hj (by omega), fun v => Iff.rfl⟩
    have ha' : a < bs.length := ha
    have hb2 : b < bs.length := hb'
    have h := List.pairwise_iff_getElem.1 (List.pairwise_map.1 hnd)
    have ea : hd bs a = bs[a] := by unfold hd; rw [List.getD_eq_getElem?_getD, List.getElem?_eq_getElem ha']; rfl
    have eb : hd bs b = bs[b] := by unfold hd; rw [List.getD_eq_getElem?_getD, List.getElem?_eq_getElem hb2]; rfl
    have e' : (hd bs a).1 = (hd bs b).1 := e
    rw [ea, eb] at e'
    rcases Nat.lt_trichotomy a b with h1 | h1 | h1
    · exact absurd e' (h a b ha' hb2 h1)
    · exact h1
    · exact absurd e'.symm (h b a hb2 ha' h1)
  | c + 1 => gauss_step (gauss_good hnd hb c)
theorem gauss_rank {n : Nat} {bs : List (Nat × Nat)} {F : Nat → List Int} (hnd : (bs.map Prod.fst).Nodup) (hb : ∀ p ∈ bs, Bits (F p.1) ∧ (F p.1).length = n) : IsRank (bs.map fun p => F p.1) (gAt bs F n).k := by
  have hg := gauss_good hnd hb n
  obtain ⟨st, hst⟩ : ∃ st, gAt bs F n = st := ⟨_, rfl⟩
  rw [hst] at hg ⊢
  obtain ⟨L, hL1, hL2⟩ := hg.lead
  refine ⟨(List.range st.k).map fun i => (vec (st.F (hd st.H i).1), L i), ⟨fun x hx => ?_, ?_⟩, fun v => ?_, by rw [List.length_map, List.length_range]⟩
  · obtain ⟨i, hi, rfl⟩ := List.mem_map.1 hx
    exact (hL1 i (List.mem_range.1 hi)).2
  · rw [List.map_map]
    refine List.pairwise_map.2 (List.Pairwise.imp_of_mem ?_ (List.pairwise_lt_range (n := st.k)))
    intro a b ha hb2 hab e
    have := hL2 a b hab (List.mem_range.1 hb2)
    have e' : L a = L b := e
    omega
  · rw [List.map_map, List.map_map]
    refine Iff.trans (spanned (B := st.H.map fun p => vec (st.F p.1)) (fun r hr => ?_) (fun r hr => ?_) v) (hg.span v)
    · obtain ⟨i, hi, rfl⟩ := List.mem_map.1 hr
      exact Sp.of_mem (List.mem_map.2 ⟨_, hd_mem (Nat.lt_of_lt_of_le (List.mem_range.1 hi) hg.kl), rfl⟩)
    · obtain ⟨p, hp, rfl⟩ := List.mem_map.1 hr
      obtain ⟨a, ha, rfl⟩ := mem_hd hp
      rcases Nat.lt_or_ge a st.k with h | h
      · exact Sp.of_mem (List.mem_map.2 ⟨a, List.mem_range.2 h, rfl⟩)
      · have hz : vec (st.F (hd st.H a).1) = v0 := by
          funext j
          rcases Nat.lt_or_ge j n with hj | hj
          · exact hg.zero a h ha j hj
          · show ((st.F (hd st.H a).1).getD j 0 == 1) = false
            rw [List.getD_eq_getElem?_getD, List.getElem?_eq_none (by rw [(hg.bits _ (hg.sub a ha)).2]; exact hj)]; rfl
        show Sp _ (vec (st.F (hd st.H a).1))
        rw [hz]; exact .zero
end Go.Proofs.YtcnekpdoldljgaaGreat.Red
end
section
namespace Go.Proofs.YtcnekpdoldljgaaGreat.Red
open Go.RowKit Go.Proofs.YtcnekpdoldljgaaGreatW.PrintWords Go.Proofs.YtcnekpdoldljgaaGreatW.PrintLast Go.Proofs.YtcnekpdoldljgaaGreatW.PrintMore Go.Proofs.YtcnekpdoldljgaaGreat.F Go.Proofs.YtcnekpdoldljgaaGreat.ORows Go.Proofs.YtcnekpdoldljgaaGreat.Mem
theorem scalar_set {α : Type} {enc : α → Value} {h1 : ∀ x, (enc x).oneCell' = true} {e base g cap : Nat} {xs : List α} {w : World} (h : (Kd.scalar enc h1).R e w base (fun k => k = g) (.slice (some ⟨g, 0, none⟩) xs.length cap) xs) (j : Nat) (x : α) (_hj : j < xs.length) :
    (Kd.scalar enc h1).R e (w.setCell ⟨g, j, none⟩ (enc x)) base (fun k => k = g) (.slice (some ⟨g, 0, none⟩) (xs.set j x).length cap) (xs.set j x) := by
  obtain ⟨h0, inner, ⟨hl, ho⟩, hr1, hr2⟩ := h
  replace hl : inner.length = xs.length := hl.trans (Nat.mul_one _)
  have hr2' : ∀ (i : Nat) (q : α), xs[i]? = some q → (inner.drop i).take 1 = [enc q] := fun i q hq => by
    have h5 : (inner.drop (i * 1)).take 1 = [enc q] := hr2 i q hq
    rwa [Nat.mul_one] at h5
  refine ⟨fun k hk => (Option.some.inj hk).symm, inner.set j (enc x), ⟨?_, .inr ?_⟩, ?_, fun i q hq => ?_⟩
  · show (inner.set j _).length = (xs.set j x).length * 1
    rw [List.length_set, List.length_set, hl, Nat.mul_one]
  · rcases ho with ⟨he, _⟩ | ⟨g', cap', cur, he, hb, hh, h1, h2, h3, h4⟩
    · cases he
    · injection he with e1 e2 e3
      injection e1 with e1
      injection e1 with e1
      subst e1; subst e3
      replace h4 : cur.toList.take (xs.length * 1) = inner := h4
      refine ⟨g, cap, cur.setIfInBounds j (enc x), rfl, hb, ?_, by rw [List.length_set]; exact h1, h2, by rw [Array.size_setIfInBounds]; exact h3, ?_⟩
      · exact blk_set (by simpa using hh) j _
      · show (cur.setIfInBounds j (enc x)).toList.take ((xs.set j x).length * 1) = _
        rw [List.length_set, Array.toList_setIfInBounds, List.take_set, h4]
  · show (inner.set j _).length = (xs.set j x).length * 1
    rw [List.length_set, List.length_set, hl, Nat.mul_one]
  · show ((inner.set j (enc x)).drop (i * 1)).take 1 = [enc q]
    rw [Nat.mul_one]
    rcases Nat.lt_or_ge i xs.length with hi | hi
    · have h6 := hr2' i _ (List.getElem?_eq_getElem hi)
      have hi' : i < inner.length := by rw [hl]; exact hi
      rw [List.drop_eq_getElem_cons (by rw [List.length_set]; exact hi')]
      by_cases hij : i = j
      · subst hij
        rw [List.getElem?_set_self hi] at hq
        obtain rfl := Option.some.inj hq
        rw [List.getElem_set_self]
        rfl
      · rw [List.getElem?_set_ne (Ne.symm hij), List.getElem?_eq_getElem hi] at hq
        obtain rfl := Option.some.inj hq
        rw [List.getElem_set_ne (Ne.symm hij)]
        rw [List.drop_eq_getElem_cons hi'] at h6
        exact h6
    · rw [List.getElem?_eq_none (by rw [List.length_set]; exact hi)] at hq
      cases hq
structure GInv (n : Nat) (W0 : World) (bs : List (Nat × Nat)) (g cap : Nat) (F : Nat → List Int) (H : List (Nat × Nat)) (wr : World) : Prop where
  own : Own n W0.heap.size F bs wr
  hdr : (kE n).R 37 wr W0.heap.size (fun k => k = g) (.slice (some ⟨g, 0, none⟩) H.length cap) H
  bel : Below W0.heap.size W0 wr
  ne : ∀ p ∈ bs, p.1 ≠ g
  sub : ∀ p ∈ H, p ∈ bs
theorem ginv_same {n : Nat} {W0 : World} {bs H : List (Nat × Nat)} {g cap : Nat} {F : Nat → List Int} {w w1 : World} (h : GInv n W0 bs g cap F H w) (hh : w1.heap = w.heap) (hb : Below W0.heap.size W0 w1) : GInv n W0 bs g cap F H w1 :=
  ⟨h.own.move (fun _ _ => by rw [hh]), Kd.R_step h.hdr (fun _ _ _ => by rw [hh]), hb, h.ne, h.sub⟩
theorem ginv_drew {n : Nat} {W0 : World} {bs H : List (Nat × Nat)} {g cap : Nat} {F : Nat → List Int} {w : World} (h : GInv n W0 bs g cap F H w) : GInv n W0 bs g cap F H w.drew := ginv_same h rfl (below_drew h.bel)
theorem ginv_low {n : Nat} {W0 : World} {bs H : List (Nat × Nat)} {g cap : Nat} {F : Nat → List Int} {w : World} (h : GInv n W0 bs g cap F H w) : W0.heap.size ≤ g := by
  obtain ⟨_, inner, ho, _⟩ := h.hdr
  exact own_base ho g rfl
theorem ginv_cell {n : Nat} {W0 : World} {bs H : List (Nat × Nat)} {g cap : Nat} {F : Nat → List Int} {w : World} (h : GInv n W0 bs g cap F H w) {b c : Nat} (hp : (b, c) ∈ bs) (j : Nat) (hj : j < n) : w.cell? ⟨b, j, none⟩ = some (.int .i64 ((F b).getD j 0)) ∧ w.frozen? ⟨b, j, none⟩ = false := by
  have hr := h.own.row _ hp
  have hl := hr.len
  obtain ⟨ad, e, hc⟩ := cell_of_C hr.C j (by rw [hl]; exact hj)
  cases e
  refine ⟨by rw [add_plain] at hc; exact hc, ?_⟩
  obtain ⟨_, inner, ⟨_, hv⟩, _⟩ := hr
  rcases hv with ⟨he, _⟩ | ⟨g', cap', cur, he, _, hg, _⟩
  · cases he
  · unfold rowE at he
    injection he with e1 e2 e3
    injection e1 with e1
    injection e1 with e1
    subst e1
    simp [World.frozen?, hg]
theorem ginv_head {n : Nat} {W0 : World} {bs H : List (Nat × Nat)} {g cap : Nat} {F : Nat → List Int} {w : World} (h : GInv n W0 bs g cap F H w) (j : Nat) (hj : j < H.length) : w.cell? ⟨g, j, none⟩ = some (.slice (some ⟨(hd H j).1, 0, none⟩) n (hd H j).2) ∧ w.frozen? ⟨g, j, none⟩ = false := by
  obtain ⟨ad, e, hc⟩ := cell_of_E (Kd.R_reads' h.hdr).2.2 j hj
  cases e
  refine ⟨by rw [add_plain] at hc; exact hc, ?_⟩
  obtain ⟨_, inner, ⟨_, hv⟩, _⟩ := h.hdr
  rcases hv with ⟨he, _⟩ | ⟨g', cap', cur, he, _, hg, _⟩
  · cases he
  · injection he with e1 e2 e3
    injection e1 with e1
    injection e1 with e1
    subst e1
    simp [World.frozen?, hg]
theorem ginv_setH {n : Nat} {W0 : World} {bs H : List (Nat × Nat)} {g cap : Nat} {F : Nat → List Int} {w : World} (h : GInv n W0 bs g cap F H w) (j : Nat) (hj : j < H.length) {p : Nat × Nat} (hp : p ∈ bs) : GInv n W0 bs g cap F (H.set j p) (w.setCell ⟨g, j, none⟩ (.slice (some ⟨p.1, 0, none⟩) n p.2)) :=
  ⟨h.own.move (fun q hq => Below.heap_setCell w ⟨g, j, none⟩ _ q.1 (h.ne q hq)), scalar_set h.hdr j p hj, below_set h.bel (ginv_low h), h.ne, fun q hq => by
    rcases List.mem_or_eq_of_mem_set hq with e | e
    · exact h.sub q e
    · rw [e]; exact hp⟩
theorem ginv_setF {n : Nat} {W0 : World} {bs H : List (Nat × Nat)} {g cap : Nat} {F : Nat → List Int} {w : World} (h : GInv n W0 bs g cap F H w) {p : Nat × Nat} (hp : p ∈ bs) (j : Nat) (hj : j < n) (x : Int) : GInv n W0 bs g cap (upd F p.1 ((F p.1).set j x)) H (w.setCell ⟨p.1, j, none⟩ (.int .i64 x)) :=
  ⟨h.own.put hp (Kept.setCell (Kept.refl w (fun k => k = p.1)) (p := ⟨p.1, j, none⟩) (.inl rfl) _) ((h.own.row p hp).set j x hj), Kd.R_step h.hdr (fun k hk _ => Below.heap_setCell w ⟨p.1, j, none⟩ _ k (fun e => h.ne p hp (by have e' : k = p.1 := e; rw [← e', hk]))), below_set h.bel (h.own.row p hp).low, h.ne, h.sub⟩
end Go.Proofs.YtcnekpdoldljgaaGreat.Red
end
section
namespace Go.Proofs.YtcnekpdoldljgaaGreat.F
open Go.RowKit Go.Proofs.YtcnekpdoldljgaaGreatW.PrintWords Go.Proofs.YtcnekpdoldljgaaGreatW.PrintLast Go.Proofs.YtcnekpdoldljgaaGreatW.PrintMore
attribute [local go_sem] max2_int min2_int max_two min_two max_three min_three max_four min_four   
set_option linter.unusedVariables false
set_option linter.unusedSimpArgs false
open Go.Proofs.YtcnekpdoldljgaaGreat.ORows Go.Proofs.YtcnekpdoldljgaaGreat.Red Go.Proofs.YtcnekpdoldljgaaGreat.Mem
theorem wS_g {n : Nat} (h : n < 4611686018427387904) : wrap64 ((n : Int) + 1) = ((n + 1 : Nat) : Int) := by unfold wrap64; omega
theorem upd_twice (F : Nat → List Int) (d : Nat) (a b : List Int) : upd (upd F d a) d b = upd F d b := by
 funext k; unfold upd; split
 ·rfl
 ·rfl
theorem addV_step {row own : List Int} {e : Nat} (h : own.length = row.length) (he : e < row.length) : ((addV row own).take e ++ row.drop e).set e ((row.getD e 0 + own.getD e 0) % 2) = (addV row own).take (e + 1) ++ row.drop (e + 1) := by
 have hl := addV_len h
 rw [List.drop_eq_getElem_cons he, List.set_append_right _ _ (by rw [List.length_take, hl]; omega), List.length_take, hl, Nat.min_eq_left (by omega), Nat.sub_self, List.set_cons_zero, List.take_succ_eq_append_getElem (by rw [hl]; exact he), List.append_assoc, List.singleton_append]
 congr 2
 unfold addV
 rw [List.getElem_zipWith, List.getD_eq_getElem?_getD, List.getElem?_eq_getElem he, List.getD_eq_getElem?_getD, List.getElem?_eq_getElem (by omega)]
 rfl
theorem addV_at {row own : List Int} {e : Nat} (h : own.length = row.length) (he : e < row.length) : ((addV row own).take e ++ row.drop e).getD e 0 = row.getD e 0 := by
 have hl := addV_len h
 rw [List.getD_eq_getElem?_getD, List.getElem?_append_right (by rw [List.length_take, hl]; omega), List.length_take, hl, Nat.min_eq_left (by omega), Nat.sub_self, List.getElem?_drop, Nat.add_zero, List.getD_eq_getElem?_getD]
theorem addV_bit {x y : Int} (hx : x = 0 ∨ x = 1) (hy : y = 0 ∨ y = 1) : Int.tmod (wrap64 (x + y)) 2 = (x + y) % 2 := by
 have e : wrap64 (x + y) = x + y := by unfold wrap64; omega
 rw [e]
 rcases hx with rfl | rfl <;> rcases hy with rfl | rfl <;> rfl
theorem elim_bits {own c : Nat} : ∀ (l : List (Nat × Nat)) (F : Nat → List Int) (k : Nat), Bits (F k) → Bits ((l.foldl (elimF own c) F) k)
 | [], _, _, h => h
 | p :: t, F, k, h => by
  rw [List.foldl_cons]
  refine elim_bits t _ k ?_
  unfold elimF upd
  split
  ·exact h
  ·show Bits (if k = p.1 then addV (F p.1) (F own) else F k)
   split
   ·exact addV_bits _ _
   ·exact h
theorem findAt_eq {H : List (Nat × Nat)} {F : Nat → List Int} {c k y n : Nat} (hk : k ≤ y) (hy : y ≤ n) (hz : ∀ j, k ≤ j → j < y → (F (hd H j).1).getD c 0 = 0) (he : y = n ∨ (F (hd H y).1).getD c 0 ≠ 0) : findAt H F c (n - k) k = y := by
 obtain ⟨h1, h2, h3, h4⟩ := findAt_ge H F c (n - k) k
 rcases Nat.lt_trichotomy (findAt H F c (n - k) k) y with h | h | h
 ·exact absurd (hz _ h1 h) (h4 (by omega))
 ·exact h
 ·rcases he with e | e
  ·omega
  ·exact absurd (h3 y hk h) e
set_option maxHeartbeats 16000000 in
set_option maxRecDepth 100000 in
theorem gauss_walk (n : Nat) (hn : n ≤ 12) (bs : List (Nat × Nat)) (hbl : bs.length = n) (hnd : (bs.map Prod.fst).Nodup) (F : Nat → List Int) (hbit : ∀ p ∈ bs, Bits (F p.1) ∧ (F p.1).length = n) (W0 w : World) (g cap : Nat) (hI : GInv n W0 bs g cap F bs w) :
  Calls Tryz.prog 124 #[.slice (some ⟨g, 0, none⟩) bs.length cap] w fun e w' => e = .returned (.int .i64 ((gAt bs F n).k : Int)) ∧ Below W0.heap.size W0 w' := by
 have HGOOD := Aside0.mk (fun c => gauss_good (n := n) hnd hbit c)
 have HLEN := Aside0.mk (fun c => (gauss_len bs F c).trans hbl)
 have HI := Aside0.mk hI
 have HN := Aside0.mk hn
 rw [hbl]
 clear hnd hbit hI hbl
 go_enter Tryz.func124, Tryz.ntmps124
 go_wp2
 go_loopw [3, 4] (fun k c wr => ∃ x : Nat, c = .int .i64 (x : Int) ∧ k = .int .i64 ((gAt bs F x).k : Int) ∧ Aside0 (x ≤ n) ∧ Aside0 (GInv n W0 bs g cap (gAt bs F x).F (gAt bs F x).H wr))
  (fun _ c _ => n - (intOf c).toNat)
 case atStart => exact ⟨0, rfl, rfl, ⟨Nat.zero_le _⟩, HI⟩
 case round =>
  obtain ⟨x, rfl, rfl, HX, HG⟩ := hrel
  by_cases hlt : x < n
  rotate_left
  ·have t1 : decide ((x : Int) < (n : Int)) = false := decide_eq_false (by omega)
   have t2 : decide (x < n) = false := decide_eq_false hlt
   have HXE := Aside0.mk (show x = n from by have := HX.out; omega)
   go_wp2_with fail
   go_ret
   exact ⟨by rw [← HXE.out]; rfl, HG.out.bel⟩
  have t1 : decide ((x : Int) < (n : Int)) = true := decide_eq_true (by omega)
  have t2 : decide (x < n) = true := decide_eq_true hlt
  obtain ⟨st, hst⟩ : ∃ st, gAt bs F x = st := ⟨_, rfl⟩
  have hgood := HGOOD.out x
  have hlen := HLEN.out x
  have hnext : gAt bs F (x + 1) = gStep st x := by rw [gAt, hst]
  rw [hst] at HG hgood hlen ⊢
  have HGD := Aside0.mk hgood
  have HLN := Aside0.mk hlen
  have HNX := Aside0.mk hnext
  clear hgood hlen hnext hst
  obtain ⟨wo, hwo⟩ : ∃ wo, wo = wr := ⟨wr, rfl⟩
  subst hwo
  have hkx : st.k ≤ n := by have := HGD.out.kl; have := HLN.out; omega
  have HKX := Aside0.mk hkx
  clear hkx
  go_wp2_with fail
  go_loopw [5] (fun y wq => ∃ i : Nat, y = .int .i64 (i : Int) ∧ Aside0 (st.k ≤ i ∧ i ≤ n) ∧ Aside0 (∀ j, st.k ≤ j → j < i → (st.F (hd st.H j).1).getD x 0 = 0) ∧ Aside0 (GInv n W0 bs g cap st.F st.H wq))
   (fun y _ => n - (intOf y).toNat)
  case atStart => exact ⟨st.k, rfl, ⟨Nat.le_refl _, HKX.out⟩, ⟨fun j h1 h2 => absurd h2 (by omega)⟩, HG⟩
  case round =>
   obtain ⟨i, rfl, HI2, HZ, HG2⟩ := hrel
   have hlink : ∀ (K : Prop), K → K := fun _ h => h
   by_cases hi : i < n
   rotate_left
   ·have s1 : decide ((i : Int) < (n : Int)) = false := decide_eq_false (by omega)
    have s2 : decide (i < n) = false := decide_eq_false hi
    have hin : i = n := by have := HI2.out; omega
    have HF := Aside0.mk (findAt_eq (H := st.H) (F := st.F) (c := x) HI2.out.1 HI2.out.2 HZ.out (.inl hin))
    subst hin
    have HST := Aside0.mk (show gAt bs F (x + 1) = st from by
     rw [HNX.out]; unfold gStep; dsimp only
     rw [HLN.out, HF.out, if_pos rfl])
    go_wp2_with fail
    go_roundw
    case rel => exact ⟨x + 1, (by first | exact congrArg _ (wS_g (by have := HN.out; omega)) | exact congrArg _ (by omega : (x : Int) + 1 = ((x + 1 : Nat) : Int))), by rw [HST.out], ⟨hlt⟩, ⟨by rw [HST.out]; exact HG2.out⟩⟩
    case measure => (try rw [wS_g (by have := HN.out; omega)]); simp [intOf]; omega
   have s1 : decide ((i : Int) < (n : Int)) = true := decide_eq_true (by omega)
   have s2 : decide (i < n) = true := decide_eq_true hi
   obtain ⟨hch, _⟩ := ginv_head HG2.out i (by rw [HLN.out]; exact hi)
   obtain ⟨b, cb, hbc⟩ : ∃ b cb, hd st.H i = (b, cb) := ⟨_, _, rfl⟩
   have hm : (b, cb) ∈ bs := by rw [← hbc]; exact HG2.out.sub _ (hd_mem (by rw [HLN.out]; exact hi))
   rw [hbc] at hch
   replace hch : wr.cell? ⟨g, i, none⟩ = some (.slice (some ⟨b, 0, none⟩) n cb) := hch
   obtain ⟨hcf, _⟩ := ginv_cell HG2.out hm x hlt
   obtain ⟨z, hz⟩ : ∃ z, (st.F b).getD x 0 = z := ⟨_, rfl⟩
   rw [hz] at hcf
   have HZE := Aside0.mk (show (st.F (hd st.H i).1).getD x 0 = z from by rw [hbc]; exact hz)
   have HM := Aside0.mk hm
   have HBC := Aside0.mk hbc
   clear hz hm hbc
   by_cases hzz : z = 0
   ·subst hzz
    go_wp2_with fail
    go_roundw
    case rel => exact ⟨i + 1, (by first | exact congrArg _ (wS_g (by have := HN.out; omega)) | exact congrArg _ (by omega : (i : Int) + 1 = ((i + 1 : Nat) : Int))), ⟨by have := HI2.out; omega, hi⟩, ⟨fun j h1 h2 => by
     rcases Nat.lt_or_ge j i with h | h
     ·exact HZ.out j h1 h
     ·rw [show j = i from by omega]; exact HZE.out⟩, HG2⟩
    case measure => (try rw [wS_g (by have := HN.out; omega)]); simp [intOf]; omega
   have s3 : decide (z = 0) = false := decide_eq_false hzz
   have s4 : (z == 0) = false := by simpa using hzz
   have HF := Aside0.mk (findAt_eq (H := st.H) (F := st.F) (c := x) HI2.out.1 HI2.out.2 HZ.out (.inr (by rw [HZE.out]; exact hzz)))
   have s5 : decide ((i : Int) = (n : Int)) = false := decide_eq_false (by omega)
   have s6 : ((i : Int) == (n : Int)) = false := by simp; omega
   have hkn : st.k < n := by have := HI2.out; omega
   have s7 : decide ((st.k : Int) < (n : Int)) = true := decide_eq_true (by omega)
   have s8 : decide (st.k < n) = true := decide_eq_true hkn
   obtain ⟨hck, _⟩ := ginv_head HG2.out st.k (by rw [HLN.out]; exact hkn)
   obtain ⟨b2, c2, hbc2⟩ : ∃ b2 c2, hd st.H st.k = (b2, c2) := ⟨_, _, rfl⟩
   have hm2 : (b2, c2) ∈ bs := by rw [← hbc2]; exact HG2.out.sub _ (hd_mem (by rw [HLN.out]; exact hkn))
   rw [hbc2] at hck
   replace hck : wr.cell? ⟨g, st.k, none⟩ = some (.slice (some ⟨b2, 0, none⟩) n c2) := hck
   have hfi := (ginv_head HG2.out i (by rw [HLN.out]; exact hi)).2
   have HG3 := Aside0.mk (ginv_setH HG2.out i (by rw [HLN.out]; exact hi) hm2)
   obtain ⟨hck3, hfk3⟩ := ginv_head HG3.out st.k (by rw [List.length_set, HLN.out]; exact hkn)
   have HG4 := Aside0.mk (ginv_setH HG3.out st.k (by rw [List.length_set, HLN.out]; exact hkn) HM.out)
   have HM2 := Aside0.mk hm2
   have HB2 := Aside0.mk hbc2
   clear hm2 hbc2
   go_wp2_with fail
   obtain ⟨H', hH'⟩ : ∃ H', swapH st.H i st.k = H' := ⟨_, rfl⟩
   have hsw : (st.H.set i (b2, c2)).set st.k (b, cb) = H' := by rw [← hH']; unfold swapH; rw [HB2.out, HBC.out]
   rw [hsw] at HG4
   have HL' := Aside0.mk (show H'.length = n from by rw [← hH', swapH_len]; exact HLN.out)
   have HST := Aside0.mk (show gAt bs F (x + 1) = ⟨H', elimAt H' st.F b x st.k n, st.k + 1⟩ from by
    rw [HNX.out]; unfold gStep; dsimp only
    rw [HLN.out, HF.out, if_neg (by omega), hH', HBC.out])
   have HKB := Aside0.mk (show hd H' st.k = (b, cb) from by
    rw [← hsw]; unfold hd; rw [List.getD_eq_getElem?_getD, List.getElem?_set_self (by rw [List.length_set, HLN.out]; exact hkn)]; rfl)
   clear hsw hH'
   go_loopw [7] (fun y wq => ∃ t : Nat, y = .int .i64 (t : Int) ∧ Aside0 (st.k + 1 ≤ t ∧ t ≤ n) ∧ Aside0 (GInv n W0 bs g cap (elimAt H' st.F b x st.k t) H' wq))
    (fun y _ => n - (intOf y).toNat)
   case atStart => exact ⟨st.k + 1, (by first | rfl | exact congrArg _ (wS_g (by have := HN.out; omega)) | exact congrArg _ (by omega : (st.k : Int) + 1 = ((st.k + 1 : Nat) : Int))), ⟨Nat.le_refl _, hkn⟩, ⟨by rw [elimAt_first]; exact HG4.out⟩⟩
   case round =>
    obtain ⟨t, rfl, HT, HG5⟩ := hrel
    by_cases ht : t < n
    rotate_left
    ·have q1 : decide ((t : Int) < (n : Int)) = false := decide_eq_false (by omega)
     have q2 : decide (t < n) = false := decide_eq_false ht
     have htn : t = n := by have := HT.out; omega
     rw [htn] at HG5
     go_wp2_with fail
     go_roundw
     case rel => exact ⟨x + 1, (by first | exact congrArg _ (wS_g (by have := HN.out; omega)) | exact congrArg _ (by omega : (x : Int) + 1 = ((x + 1 : Nat) : Int))), (by rw [HST.out]; first | rfl | exact congrArg _ (wS_g (by have := HN.out; omega)) | exact congrArg _ (by omega : (st.k : Int) + 1 = ((st.k + 1 : Nat) : Int))), ⟨hlt⟩, ⟨by rw [HST.out]; exact HG5.out⟩⟩
     case measure => (try rw [wS_g (by have := HN.out; omega)]); simp [intOf]; omega
    have q1 : decide ((t : Int) < (n : Int)) = true := decide_eq_true (by omega)
    have q2 : decide (t < n) = true := decide_eq_true ht
    obtain ⟨hct, _⟩ := ginv_head HG5.out t (by rw [HL'.out]; exact ht)
    obtain ⟨d, m, hdm⟩ : ∃ d m, hd H' t = (d, m) := ⟨_, _, rfl⟩
    have hm5 : (d, m) ∈ bs := by rw [← hdm]; exact HG5.out.sub _ (hd_mem (by rw [HL'.out]; exact ht))
    rw [hdm] at hct
    replace hct : wr.cell? ⟨g, t, none⟩ = some (.slice (some ⟨d, 0, none⟩) n m) := hct
    obtain ⟨hcd, _⟩ := ginv_cell HG5.out hm5 x hlt
    have hES := elimAt_succ H' st.F b x st.k t HT.out.1 (by rw [HL'.out]; exact ht)
    rw [hdm] at hES
    obtain ⟨F5, hF5⟩ : ∃ F5, elimAt H' st.F b x st.k t = F5 := ⟨_, rfl⟩
    have HBT := Aside0.mk (show ∀ q ∈ bs, Bits (F5 q.1) from fun q hq => by rw [← hF5]; exact elim_bits _ _ _ (HGD.out.bits q hq).1)
    rw [hF5] at hES hcd HG5
    obtain ⟨z5, hz5⟩ : ∃ z5, (F5 d).getD x 0 = z5 := ⟨_, rfl⟩
    rw [hz5] at hcd
    have HES := Aside0.mk hES
    have HZ5 := Aside0.mk hz5
    have HM5 := Aside0.mk hm5
    have HBD := Aside0.mk (show b ≠ d from fun e => by
     have hgd := HGOOD.out (x + 1)
     rw [HST.out] at hgd
     have := hgd.inj st.k t (by show st.k < H'.length; rw [HL'.out]; exact hkn) (by show t < H'.length; rw [HL'.out]; exact ht) (by show (hd H' st.k).1 = (hd H' t).1; rw [HKB.out, hdm]; exact e)
     have := HT.out; omega)
    clear hES hF5 hz5 hm5 hdm
    by_cases hzz5 : z5 = 0
    ·subst hzz5
     go_wp2_with fail
     go_roundw
     case rel => exact ⟨t + 1, (by first | exact congrArg _ (wS_g (by have := HN.out; omega)) | exact congrArg _ (by omega : (t : Int) + 1 = ((t + 1 : Nat) : Int))), ⟨by have := HT.out; omega, ht⟩, ⟨by rw [HES.out]; unfold elimF; rw [if_pos HZ5.out]; exact HG5.out⟩⟩
     case measure => (try rw [wS_g (by have := HN.out; omega)]); simp [intOf]; omega
    have q3 : decide (z5 = 0) = false := decide_eq_false hzz5
    have q4 : (z5 == 0) = false := by simpa using hzz5
    go_wp2_with fail
    have hlb : (F5 b).length = (F5 d).length := (HG5.out.own.row _ HM.out).len.trans (HG5.out.own.row _ HM5.out).len.symm
    have hld : (F5 d).length = n := (HG5.out.own.row _ HM5.out).len
    have HLB := Aside0.mk hlb
    have HLD := Aside0.mk hld
    clear hlb hld
    go_loopw [9] (fun u wq => ∃ e : Nat, u = .int .i64 (e : Int) ∧ Aside0 (e ≤ n) ∧ Aside0 (GInv n W0 bs g cap (upd F5 d ((addV (F5 d) (F5 b)).take e ++ (F5 d).drop e)) H' wq))
     (fun u _ => n - (intOf u).toNat)
    case atStart => exact ⟨0, rfl, ⟨Nat.zero_le _⟩, ⟨by rw [List.take_zero, List.drop_zero, List.nil_append, upd_self]; exact HG5.out⟩⟩
    case round =>
     obtain ⟨e, rfl, HE, HG6⟩ := hrel
     by_cases hee : e < n
     rotate_left
     ·have v1 : decide ((e : Int) < (n : Int)) = false := decide_eq_false (by omega)
      have v2 : decide (e < n) = false := decide_eq_false hee
      have hen : e = n := by have := HE.out; omega
      rw [hen, List.take_of_length_le (by rw [addV_len HLB.out, HLD.out]; omega), List.drop_eq_nil_of_le (by rw [HLD.out]; omega), List.append_nil] at HG6
      go_wp2_with fail
      go_roundw
      case rel => exact ⟨t + 1, (by first | exact congrArg _ (wS_g (by have := HN.out; omega)) | exact congrArg _ (by omega : (t : Int) + 1 = ((t + 1 : Nat) : Int))), ⟨by have := HT.out; omega, ht⟩, ⟨by rw [HES.out]; unfold elimF; rw [if_neg (by rw [HZ5.out]; exact hzz5)]; exact HG6.out⟩⟩
      case measure => (try rw [wS_g (by have := HN.out; omega)]); simp [intOf]; omega
     have v1 : decide ((e : Int) < (n : Int)) = true := decide_eq_true (by omega)
     have v2 : decide (e < n) = true := decide_eq_true hee
     obtain ⟨hcx, hfx⟩ := ginv_cell HG6.out HM5.out e hee
     obtain ⟨hcy, _⟩ := ginv_cell HG6.out HM.out e hee
     rw [upd_same, addV_at HLB.out (by rw [HLD.out]; exact hee)] at hcx
     rw [upd_ne _ _ HBD.out] at hcy
     obtain ⟨xx, hxx⟩ : ∃ xx, (F5 d).getD e 0 = xx := ⟨_, rfl⟩
     obtain ⟨yy, hyy⟩ : ∃ yy, (F5 b).getD e 0 = yy := ⟨_, rfl⟩
     have hx2 : xx = 0 ∨ xx = 1 := by rw [← hxx]; exact bits_at (HBT.out _ HM5.out) e
     have hy2 : yy = 0 ∨ yy = 1 := by rw [← hyy]; exact bits_at (HBT.out _ HM.out) e
     have HAB := Aside0.mk (addV_bit hx2 hy2)
     have hset := ginv_setF (ginv_drew HG6.out) HM5.out e hee ((xx + yy) % 2)
     rw [show ((d, m) : Nat × Nat).1 = d from rfl, upd_same, upd_twice, ← hxx, ← hyy, addV_step HLB.out (by rw [HLD.out]; exact hee), hxx, hyy] at hset
     have HSET := Aside0.mk hset
     rw [hxx] at hcx
     rw [hyy] at hcy
     have hcx' : wr.drew.cell? ⟨d, e, none⟩ = some (.int .i64 xx) := hcx
     have hcy' : wr.drew.cell? ⟨b, e, none⟩ = some (.int .i64 yy) := hcy
     have hfx' : wr.drew.frozen? ⟨d, e, none⟩ = false := hfx
     clear hset hx2 hy2 hxx hyy
     go_wp2_with fail
     go_region
     all_goals
      go_wp2_with fail
      go_roundw
      case rel => exact ⟨e + 1, (by first | exact congrArg _ (wS_g (by have := HN.out; omega)) | exact congrArg _ (by omega : (e : Int) + 1 = ((e + 1 : Nat) : Int))), ⟨hee⟩, ⟨by rw [HAB.out]; exact HSET.out⟩⟩
      case measure => (try rw [wS_g (by have := HN.out; omega)]); simp [intOf]; omega
theorem gauss_none (A : Option Addr) (cap : Nat) (w : World) :
  Calls Tryz.prog 124 #[.slice A 0 cap] w fun e w' => e = .returned (.int .i64 ((0 : Nat) : Int)) ∧ Below w.heap.size w w' := by
 go_enter Tryz.func124, Tryz.ntmps124
 go_wp2
 go_loopw [3, 4] (fun k c wr => c = .int .i64 0 ∧ k = .int .i64 0 ∧ Aside0 (Below w.heap.size w wr)) (fun _ _ _ => 0)
 case atStart => exact ⟨rfl, rfl, ⟨Below.refl _ _⟩⟩
 case round =>
  obtain ⟨rfl, rfl, HB⟩ := hrel
  go_wp2_with fail
  go_ret
  exact ⟨rfl, HB.out⟩
theorem l02Rank_walk {W0 w : World} {ok : Nat → Prop} {v : Value} {rs : List (List Int)} {n r : Nat} (hS : Kd.S (Kd.slice 2 (Kd.int .i64)) 37 w W0.heap.size ok v rs) (hB : Below W0.heap.size W0 w) (hb : ∀ q ∈ rs, Bits q ∧ q.length = n) (hl : rs.length = n) (hn : n ≤ 12) (hr : IsRank rs r) :
  ∃ A c, v = .slice A n c ∧ Calls Tryz.prog 124 #[.slice A n c] w fun e w' => e = .returned (.int .i64 (r : Int)) ∧ Below W0.heap.size W0 w' := by
 obtain ⟨bs, F, hnd, hR, hO, hm, hne⟩ := own_rows0 hS (fun q hq => (hb q hq).2) (by
  rcases Nat.eq_zero_or_pos n with h | h
  ·exact .inl (List.eq_nil_of_length_eq_zero (hl.trans h))
  ·exact .inr h)
 have hbl : bs.length = n := by rw [← hl, ← hm, List.length_map]
 obtain ⟨A, c, rfl⟩ := Kd.R_slice hR
 have hbits : ∀ p ∈ bs, Bits (F p.1) ∧ (F p.1).length = n := fun p hp => hb _ (by rw [← hm]; exact List.mem_map.2 ⟨p, hp, rfl⟩)
 have hrank := gauss_rank hnd hbits
 rw [hm] at hrank
 have hrr := hr.unique hrank
 subst hrr
 refine ⟨A, c, by rw [hbl], ?_⟩
 rcases Nat.eq_zero_or_pos n with h0 | h0
 ·subst h0
  have e : bs = [] := List.eq_nil_of_length_eq_zero hbl
  subst e
  refine (gauss_none A c w).mono ?_
  rintro e w' ⟨rfl, hb'⟩
  exact ⟨rfl, below_step hB hb'⟩
 ·have hR' := hR
  obtain ⟨_, inner, ⟨_, hv⟩, _⟩ := hR
  rcases hv with ⟨he, hz⟩ | ⟨g, cap, cur, he, _⟩
  ·have hz' : bs.length = 0 := hz
   omega
  ·injection he with e1 e2 e3
   subst e1; subst e3
   have hI : GInv n W0 bs g c F bs w := ⟨hO, Kd.R_mono (Kd.R_tight rfl hR') (fun _ hk => Option.some.inj hk), hB, fun p hp e => hne p hp (by rw [e]; rfl), fun _ h => h⟩
   have := gauss_walk n hn bs hbl hnd F hbits W0 w g c hI
   rw [hbl] at this
   exact this
end Go.Proofs.YtcnekpdoldljgaaGreat.F
end
