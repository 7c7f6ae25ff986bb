/- Plain laws: what LongestChain comes to on both sides. -/
import Derived.Test.YtfijnlbkflmkbaaFx112
import Derived.Test.YtfijnlbkflmkbaaFx46
import Derived.Test.YtfijnlbkflmkbaaFx47
import Derived.Test.YtfijnlbkflmkbaaPureE
namespace Go.Proofs.Ytfijnlbkflmkbaa.Pure
open Go.RowKit Go.Proofs.Ytfijnlbkflmkbaa.F Go.Proofs.YtfijnlbkflmkbaaW.PrintWords Go.Proofs.YtfijnlbkflmkbaaW.PrintLast

theorem cross_symm {w : List Int} (hw : Word w) {i k : Nat} (hi : i < w.length / 2) (hk : k < w.length / 2) : crossB w i k = crossB w k i := by
  by_cases e : i = k
  · rw [e]
  · have h1 := places_ne hw e hi hk
    have h2 := places_lt (hw.count hi)
    have h3 := places_lt (hw.count hk)
    unfold crossB
    rw [show (i == k) = false from by simpa using e, show (k == i) = false from by simpa using Ne.symm e]
    generalize pA w i = a at *
    generalize pB w i = b at *
    generalize pA w k = c at *
    generalize pB w k = d at *
    have e2 : ∀ (A B : Prop) [Decidable A] [Decidable B], (decide A != decide B) = decide (¬ (A ↔ B)) := by
      intro A B _ _
      by_cases x : A <;> by_cases y : B <;> simp [x, y]
    simp only [← Bool.decide_and, e2]
    congr 1
    rw [decide_eq_decide]
    omega
theorem rd_rowsL {w : List Int} {i : Nat} (hi : i < w.length / 2) : rd_L1 (rowsOf w) (i : Int) = rowTo w i (w.length / 2) := by
  unfold rd_L1; rw [Int.toNat_natCast]; exact rowsOf_get hi
def updL (a b : List Nat) : List Nat := if a.length > b.length then a else b
theorem upd_assoc (s a b : List Nat) : updL s (updL a b) = updL (updL s a) b := by
  unfold updL
  by_cases h1 : s.length > a.length <;> by_cases h2 : a.length > b.length <;> by_cases h3 : s.length > b.length <;> simp [h1, h2, h3] <;> omega
/-- The first of the longest chains that begin with ch. -/
def longS (X : Nat → Nat → Bool) (n : Nat) : Nat → List Nat → List Nat
  | 0, ch => ch
  | d + 1, ch => (List.range n).foldl (fun b k => if fitB X ch k = true then updL (longS X n d (ch ++ [k])) b else b) ch
def longSTo (X : Nat → Nat → Bool) (n d : Nat) (ch : List Nat) (j : Nat) : List Nat := (List.range j).foldl (fun b k => if fitB X ch k = true then updL (longS X n d (ch ++ [k])) b else b) ch
theorem longSTo_succ (X : Nat → Nat → Bool) (n d : Nat) (ch : List Nat) (j : Nat) : longSTo X n d ch (j + 1) = if fitB X ch j = true then updL (longS X n d (ch ++ [j])) (longSTo X n d ch j) else longSTo X n d ch j := by
  unfold longSTo; rw [List.range_succ, List.foldl_append]; rfl
theorem longW_upd (X : Nat → Nat → Bool) (n : Nat) : ∀ (d : Nat) (ch best : List Nat), ch.length + d = n + 1 → ch.Nodup → (∀ x ∈ ch, x < n) → longW X n d ch best = updL (longS X n d ch) best
  | 0, ch, best, h, hd, hm => by have := nats_len ch n hd hm; omega
  | d + 1, ch, best, h, hd, hm => by
    rw [longW, longS]
    suffices g : ∀ (l : List Nat) (a : List Nat), (∀ x ∈ l, x < n) → l.foldl (fun b k => if fitB X ch k = true then longW X n d (ch ++ [k]) b else b) (updL a best) = updL (l.foldl (fun b k => if fitB X ch k = true then updL (longS X n d (ch ++ [k])) b else b) a) best from g _ ch (fun a ha => List.mem_range.1 ha)
    intro l
    induction l with
    | nil => exact fun _ _ => rfl
    | cons k l ih =>
      intro a hl
      rw [List.foldl_cons, List.foldl_cons]
      by_cases hf : fitB X ch k = true
      · rw [if_pos hf, if_pos hf, longW_upd X n d _ _ (by rw [List.length_append, List.length_singleton]; omega) (nats_app hd (fitTo_contains hf)) (nats_mem hm (hl k List.mem_cons_self)), upd_assoc]
        exact ih _ (fun x hx => hl x (List.mem_cons_of_mem _ hx))
      · rw [if_neg hf, if_neg hf]
        exact ih _ (fun x hx => hl x (List.mem_cons_of_mem _ hx))
theorem longS_len (X : Nat → Nat → Bool) (n : Nat) : ∀ (d : Nat) (ch : List Nat), ch.length + d ≤ n + 1 → ch.length ≤ n → ch.Nodup → (∀ x ∈ ch, x < n) → (longS X n d ch).length ≤ n
  | 0, ch, _, h, _, _ => h
  | d + 1, ch, h, hc, hd, hm => by
    rw [longS]
    suffices g : ∀ (l : List Nat) (b : List Nat), (∀ x ∈ l, x < n) → b.length ≤ n → (l.foldl (fun b k => if fitB X ch k = true then updL (longS X n d (ch ++ [k])) b else b) b).length ≤ n from g _ _ (fun a ha => List.mem_range.1 ha) hc
    intro l
    induction l with
    | nil => exact fun b _ hb => hb
    | cons k l ih =>
      intro b hl hb
      rw [List.foldl_cons]
      refine ih _ (fun x hx => hl x (List.mem_cons_of_mem _ hx)) ?_
      split
      · rename_i hf
        have hn := nats_app hd (fitTo_contains hf)
        have hm' := nats_mem hm (hl k List.mem_cons_self)
        unfold updL
        split
        · exact longS_len X n d _ (by rw [List.length_append, List.length_singleton]; omega) (nats_len _ _ hn hm') hn hm'
        · exact hb
      · exact hb
/-- The same test as the reference makes it. -/
def goodTo (X : Nat → Nat → Bool) (ch : List Nat) (k : Nat) : Nat → Bool
  | 0 => true
  | j + 1 => goodTo X ch k j && !(ch.getD j 0 == k) && (X k (ch.getD j 0) == decide (j + 1 = ch.length))
theorem good_fit (X : Nat → Nat → Bool) (ch : List Nat) (k : Nat) (hs : ∀ x ∈ ch, X k x = X x k) : goodTo X ch k ch.length = fitB X ch k := by
  have key : ∀ j, j ≤ ch.length → fitTo X ch k j = (!ch.contains k && (List.range j).all fun i => X (ch.getD i 0) k == decide (i + 1 = ch.length)) := by
    intro j
    induction j with
    | zero => intro _; rw [fitTo]; simp
    | succ j ih => intro hj; rw [fitTo, ih (by omega), List.range_succ, List.all_append, ← Bool.and_assoc]; simp
  have key2 : ∀ j, j ≤ ch.length → goodTo X ch k j = ((!(ch.take j).contains k) && (List.range j).all fun i => X (ch.getD i 0) k == decide (i + 1 = ch.length)) := by
    intro j
    induction j with
    | zero => intro _; rw [goodTo]; simp
    | succ j ih =>
      intro hj
      have hm : ch.getD j 0 ∈ ch := by rw [List.getD_eq_getElem?_getD, List.getElem?_eq_getElem (by omega)]; exact List.getElem_mem _
      have ht : ch.take (j + 1) = ch.take j ++ [ch.getD j 0] := by rw [List.take_succ_eq_append_getElem (by omega), List.getD_eq_getElem?_getD, List.getElem?_eq_getElem (by omega)]; rfl
      rw [goodTo, ih (by omega), List.range_succ, List.all_append, hs _ hm, ht]
      have hc : (ch.take j ++ [ch.getD j 0]).contains k = ((ch.take j).contains k || (ch.getD j 0 == k)) := by
        rw [Bool.eq_iff_iff]
        simp only [List.contains_iff_mem, List.mem_append, List.mem_singleton, Bool.or_eq_true, beq_iff_eq]
        exact or_congr Iff.rfl eq_comm
      rw [hc]
      generalize (ch.take j).contains k = p
      generalize (ch.getD j 0 == k) = q
      generalize ((List.range j).all fun i => X (ch.getD i 0) k == decide (i + 1 = ch.length)) = s
      simp
      cases p <;> cases q <;> cases s <;> simp
  rw [key2 _ (Nat.le_refl _), fitB, key _ (Nat.le_refl _), List.take_length]
theorem schain_ev (w : List Int) (hw : Word w) (n : Nat) (hn : n = w.length / 2) : ∀ (d : Nat) (ch : List Nat), ch.length + d = n + 1 → ch.Nodup → (∀ x ∈ ch, x < n) →
    Ev (fun k => spec_l09Chain.f k (rowsOf w) (ints ch)) (ints (longS (crossB w) n d ch)) := by
  have hle := hw.le
  have hl : (rowsOf w).length = n := by rw [hn]; exact rowsTo_len w _
  intro d
  induction d with
  | zero => intro ch h hd hm; have := nats_len ch n hd hm; omega
  | succ d ih =>
    intro ch h hd hm
    have hcl := nats_len ch n hd hm
    have hil := ints_len ch
    refine Ev_succ ?_
    simp only [spec_l09Chain.f]
    have key : ∀ q x, x + q = n → Ev (fun k => spec_l09Chain.l0 k (rowsOf w) (ints ch) (ints (longSTo (crossB w) n d ch x)) (x : Int)) (ints (longSTo (crossB w) n d ch n)) := by
      intro q
      induction q with
      | zero =>
        intro x hx
        refine Ev_succ ?_
        simp only [spec_l09Chain.l0]
        refine Ev.congr (fun k => if_neg (by omega)) ?_
        rw [show x = n from by omega]
        exact Ev.now _
      | succ q ihq =>
        intro x hx
        have hh := ihq (x + 1) (by omega)
        rw [longSTo_succ] at hh
        refine Ev_succ ?_
        simp only [spec_l09Chain.l0]
        refine Ev.congr (fun k => if_pos (by omega)) ?_
        have inner : ∀ p j, j + p = ch.length → Ev (fun k => spec_l09Chain.l1 k (rowsOf w) (ints ch) (ints (longSTo (crossB w) n d ch x)) (x : Int) (goodTo (crossB w) ch x j) (j : Int)) (ints (longSTo (crossB w) n d ch n)) := by
          intro p
          induction p with
          | zero =>
            intro j hj
            refine Ev_succ ?_
            simp only [spec_l09Chain.l1]
            refine Ev.congr (fun k => if_neg (by omega)) ?_
            rw [show j = ch.length from by omega, good_fit _ _ _ (fun y hy => cross_symm hw (by omega) (by have := hm y hy; omega)), wS (by omega)]
            by_cases hf : fitB (crossB w) ch x = true
            · rw [if_pos hf] at hh
              refine Ev.congr (fun k => if_pos hf) ?_
              rw [own_f _ (by omega)]
              refine Ev.congr (fun k => (Option.bind_some _ _).trans (if_pos (by omega))) ?_
              rw [show ints ch ++ [(x : Int)] = ints (ch ++ [x]) from (ints_app ch [x]).symm]
              refine Ev.bind (ih (ch ++ [x]) (by rw [List.length_append, List.length_singleton]; omega) (nats_app hd (fitTo_contains hf)) (nats_mem hm (by omega))) ?_
              rw [ints_len, ints_len]
              unfold updL at hh
              by_cases hg : (longS (crossB w) n d (ch ++ [x])).length > (longSTo (crossB w) n d ch x).length
              · rw [if_pos hg] at hh
                exact Ev.congr (fun k => if_pos (by omega)) hh
              · rw [if_neg hg] at hh
                exact Ev.congr (fun k => if_neg (by omega)) hh
            · rw [if_neg hf] at hh
              exact Ev.congr (fun k => if_neg hf) hh
          | succ p ihp =>
            intro j hj
            have hj2 := ihp (j + 1) (by omega)
            rw [goodTo] at hj2
            have hcj : ch.getD j 0 < n := hm _ (by rw [List.getD_eq_getElem?_getD, List.getElem?_eq_getElem (by omega)]; exact List.getElem_mem _)
            have hrd : rd (ints ch) (j : Int) = ((ch.getD j 0 : Nat) : Int) := by rw [rdN]; exact ints_getD ch j (by omega)
            have hrow : rd (rd_L1 (rowsOf w) (x : Int)) ((ch.getD j 0 : Nat) : Int) = ent w x (ch.getD j 0) := by rw [rd_rowsL (by omega), rdN, rowTo_get (by omega)]
            have hrl : (rd_L1 (rowsOf w) (x : Int)).length = n := by rw [rd_rowsL (by omega), rowTo_len, hn]
            refine Ev_succ ?_
            simp only [spec_l09Chain.l1]
            refine Ev.congr (fun k => if_pos (by omega)) ?_
            rw [wS (by omega), show wrap64 (((ints ch).length : Int) - 1) = ((ints ch).length : Int) - 1 from by unfold wrap64; omega, hrd]
            generalize hcc : ch.getD j 0 = cc at *
            rw [hrow, hrl]
            cases hg : goodTo (crossB w) ch x j with
            | false =>
              rw [hg, Bool.false_and, Bool.false_and] at hj2
              by_cases e : (j : Int) = ((ints ch).length : Int) - 1
              · exact Ev.congr (fun k => if_pos e) (Ev.congr (fun k => if_neg (by simp)) hj2)
              · exact Ev.congr (fun k => if_neg e) (Ev.congr (fun k => if_neg (by simp)) hj2)
            | true =>
              rw [hg, Bool.true_and] at hj2
              by_cases e : (j : Int) = ((ints ch).length : Int) - 1
              · refine Ev.congr (fun k => if_pos e) (Ev.congr (fun k => if_pos rfl) (Ev.congr (fun k => if_pos (by omega)) ?_))
                rw [decide_eq_true (show j + 1 = ch.length by omega)] at hj2
                by_cases e2 : cc = x
                · rw [show (cc == x) = true from by simpa using e2] at hj2
                  exact Ev.congr (fun k => if_pos (by omega)) hj2
                · rw [show (cc == x) = false from by simpa using e2] at hj2
                  refine Ev.congr (fun k => if_neg (by omega)) (Ev.congr (fun k => if_pos (by omega)) (Ev.congr (fun k => if_pos (by omega)) (Ev.congr (fun k => if_pos (by omega)) (Ev.congr (fun k => if_pos (by omega)) ?_))))
                  rw [show (ent w x cc == 1) = (crossB w x cc == true) from by unfold ent; cases crossB w x cc <;> rfl]
                  exact hj2
              · refine Ev.congr (fun k => if_neg e) (Ev.congr (fun k => if_pos rfl) (Ev.congr (fun k => if_pos (by omega)) ?_))
                rw [decide_eq_false (show ¬ j + 1 = ch.length by omega)] at hj2
                by_cases e2 : cc = x
                · rw [show (cc == x) = true from by simpa using e2] at hj2
                  exact Ev.congr (fun k => if_pos (by omega)) hj2
                · rw [show (cc == x) = false from by simpa using e2] at hj2
                  refine Ev.congr (fun k => if_neg (by omega)) (Ev.congr (fun k => if_pos (by omega)) (Ev.congr (fun k => if_pos (by omega)) (Ev.congr (fun k => if_pos (by omega)) (Ev.congr (fun k => if_pos (by omega)) ?_))))
                  rw [show (ent w x cc == 0) = (crossB w x cc == false) from by unfold ent; cases crossB w x cc <;> rfl]
                  exact hj2
        exact inner ch.length 0 (by omega)
    exact key n 0 (by omega)
def lonV (w : List Int) : List Int × Int := if isW w = true then (longV w, 0) else ([], 1)
theorem longV_eq (w : List Int) : longV w = ints (longS (crossB w) (w.length / 2) (w.length / 2 + 1) []) := by
  unfold longV
  rw [longW_upd _ _ _ _ _ (by simp) List.nodup_nil (by simp)]
  unfold updL
  split
  · rfl
  · rename_i h
    rw [List.length_nil] at h
    rw [List.eq_nil_of_length_eq_zero (show (longS (crossB w) (w.length / 2) (w.length / 2 + 1) []).length = 0 by omega)]
theorem specLon_ev (w : List Int) : Ev (fun k => spec_LongestChain.f k w) (lonV w) := by
  unfold spec_LongestChain.f lonV
  refine Ev.bind (is_ev w) ?_
  by_cases h : isW w = true
  · rw [if_pos h, longV_eq]
    have hw := (isW_iff w).1 h
    refine Ev.congr (fun k => if_pos h) ?_
    refine Ev.bind (srows_ev w hw) ?_
    refine Ev.bind (schain_ev w hw _ rfl (w.length / 2 + 1) [] (by simp) List.nodup_nil (by simp)) ?_
    exact Ev.now _
  · rw [if_neg h]
    exact Ev.congr (fun k => if_neg h) (Ev.now _)
theorem implLon_ev (w : List Int) (hwf : ∀ x ∈ w, (Lit.int .i64 x).wf = true) : Ev (fun k => impl_LongestChain.f k w) (lonV w) := by
  unfold impl_LongestChain.f lonV
  refine Ev.bind (isWord_ev w hwf) ?_
  by_cases h : isW w = true
  · rw [if_pos h, if_pos h]
    exact Ev.congr (fun k => by unfold impl_longest.f; rw [if_pos h]; rfl) (Ev.now _)
  · rw [if_neg h, if_neg h]
    exact Ev.now _
theorem lonV_len (w : List Int) : (lonV w).1.length ≤ 1048576 := by
  unfold lonV
  split
  · rename_i h
    have := ((isW_iff w).1 h).le
    rw [longV_eq]
    show (ints _).length ≤ _
    rw [ints_len]
    have := longS_len (crossB w) (w.length / 2) (w.length / 2 + 1) [] (by simp) (by simp) List.nodup_nil (by simp)
    omega
  · simp
end Go.Proofs.Ytfijnlbkflmkbaa.Pure
