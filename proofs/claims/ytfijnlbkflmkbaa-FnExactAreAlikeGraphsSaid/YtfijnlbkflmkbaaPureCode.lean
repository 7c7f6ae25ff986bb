/- Plain laws: what CrossingCode comes to on both sides. -/
import Derived.Test.YtfijnlbkflmkbaaFx132
import Derived.Test.YtfijnlbkflmkbaaFx71
import Derived.Test.YtfijnlbkflmkbaaFx72
import Derived.Test.YtfijnlbkflmkbaaPureE
namespace Go.Proofs.Ytfijnlbkflmkbaa.Pure
open Go.RowKit Go.Proofs.Ytfijnlbkflmkbaa.F Go.Proofs.Ytfijnlbkflmkbaa.Mem Go.Proofs.YtfijnlbkflmkbaaW.PrintWords Go.Proofs.YtfijnlbkflmkbaaW.PrintLast
set_option linter.unusedVariables false
set_option linter.unusedSimpArgs false

/-! ### lists compared -/
theorem cmpL_self : ∀ a, cmpL a a = 0
  | [] => rfl
  | x :: a => by rw [cmpL, if_neg (by omega), if_neg (by omega)]; exact cmpL_self a
theorem cmpL_eq : ∀ a b : List Int, a.length = b.length → cmpL a b = 0 → a = b
  | [], [], _, _ => rfl
  | [], _ :: _, h, _ => absurd h (by simp)
  | _ :: _, [], h, _ => absurd h (by simp)
  | x :: a, y :: b, hl, h => by
    rw [cmpL] at h
    by_cases h1 : x < y
    · rw [if_pos h1] at h; exact absurd h (by decide)
    · by_cases h2 : x > y
      · rw [if_neg h1, if_pos h2] at h; exact absurd h (by decide)
      · rw [if_neg h1, if_neg h2] at h
        rw [show x = y from by omega, cmpL_eq a b (by simpa using hl) h]
theorem cmpL_prefix : ∀ (now b t : List Int), now.length ≤ b.length → 0 < cmpL now (b.take now.length) → 0 < cmpL (now ++ t) b
  | [], b, t, _, h => by rw [List.length_nil, List.take_zero] at h; exact absurd h (by decide)
  | x :: now, [], t, hl, h => by simp at hl
  | x :: now, y :: b, t, hl, h => by
    rw [List.length_cons, List.take_succ_cons, cmpL] at h
    rw [List.cons_append, cmpL]
    by_cases h1 : x < y
    · rw [if_pos h1] at h; exact absurd h (by decide)
    · by_cases h2 : x > y
      · rw [if_neg h1, if_pos h2]; decide
      · rw [if_neg h1, if_neg h2] at h ⊢
        exact cmpL_prefix now b t (by simpa using hl) h

/-! ### all orders, and their codes -/
def ordersW (n : Nat) : Nat → List Nat → List (List Nat)
  | 0, order => [order]
  | d + 1, order => (List.range n).flatMap fun i => if order.contains i = true then [] else ordersW n d (order ++ [i])
def leafs (X : Nat → Nat → Bool) (n : Nat) : Nat → List Nat → List Int → List (List Int)
  | 0, _, now => [now]
  | d + 1, order, now => (List.range n).flatMap fun i => if order.contains i = true then [] else leafs X n d (order ++ [i]) (now ++ entsOf X i order)
def minO (best : Option (List Int)) (c : List Int) : Option (List Int) := match best with
  | none => some c
  | some b => if 0 < cmpL c b then some b else some c
theorem leafs_pre (X : Nat → Nat → Bool) (n : Nat) : ∀ (d : Nat) (order : List Nat) (now c : List Int), c ∈ leafs X n d order now → ∃ t, c = now ++ t
  | 0, order, now, c, h => by rw [leafs, List.mem_singleton] at h; exact ⟨[], by rw [h]; simp⟩
  | d + 1, order, now, c, h => by
    rw [leafs, List.mem_flatMap] at h
    obtain ⟨i, _, hi⟩ := h
    split at hi
    · exact absurd hi (by simp)
    · obtain ⟨t, ht⟩ := leafs_pre X n d _ _ _ hi
      exact ⟨entsOf X i order ++ t, by rw [ht, List.append_assoc]⟩
theorem leafs_len (X : Nat → Nat → Bool) (n : Nat) : ∀ (d : Nat) (order : List Nat) (now c : List Int), order.length + d = n → now.length = tri order.length → c ∈ leafs X n d order now → c.length = tri n
  | 0, order, now, c, ho, hn, h => by rw [leafs, List.mem_singleton] at h; rw [h, hn, show order.length = n from by omega]
  | d + 1, order, now, c, ho, hn, h => by
    rw [leafs, List.mem_flatMap] at h
    obtain ⟨i, _, hi⟩ := h
    split at hi
    · exact absurd hi (by simp)
    · exact leafs_len X n d _ _ _ (by rw [List.length_append, List.length_singleton]; omega) (by rw [List.length_append, hn, entsOf_len, List.length_append, List.length_singleton, tri]) hi
theorem minO_stays {best : Option (List Int)} : ∀ l : List (List Int), (∀ c ∈ l, minO best c = best) → l.foldl minO best = best
  | [], _ => rfl
  | c :: l, h => by rw [List.foldl_cons, h c List.mem_cons_self]; exact minO_stays l (fun x hx => h x (List.mem_cons_of_mem _ hx))
theorem codeW_min (X : Nat → Nat → Bool) (n : Nat) : ∀ (d : Nat) (order : List Nat) (now : List Int) (best : Option (List Int)), order.length + d = n → now.length = tri order.length → BestOk n best → codeW X n d order now best = (leafs X n d order now).foldl minO best := by
  intro d
  induction d with
  | zero =>
    intro order now best ho hn hb
    rw [leafs, List.foldl_cons, List.foldl_nil, codeW]
    rcases hb with rfl | ⟨b, rfl, hbl⟩
    · rfl
    · have e : b.take now.length = b := List.take_of_length_le (by rw [hbl, hn, show order.length = n from by omega]; exact Nat.le_refl _)
      show (if decide (0 < cmpL now (b.take now.length)) = true then some b else some now) = if 0 < cmpL now b then some b else some now
      rw [e]
      by_cases h : 0 < cmpL now b
      · simp [h]
      · simp [h]
  | succ d ih =>
    intro order now best ho hn hb
    by_cases hp : pruned best now = true
    · rw [codeW_pruned hp]
      refine (minO_stays _ fun c hc => ?_).symm
      rcases hb with rfl | ⟨b, rfl, hbl⟩
      · exact absurd hp (by simp [pruned])
      · obtain ⟨t, rfl⟩ := leafs_pre X n _ _ _ _ hc
        have h0 : 0 < cmpL now (b.take now.length) := by simpa [pruned] using hp
        unfold minO
        exact if_pos (cmpL_prefix now b t (by rw [hbl, hn]; exact tri_le (by omega)) h0)
    · rw [codeW_node (by simpa using hp), codeTo, leafs]
      suffices g : ∀ (l : List Nat) (b : Option (List Int)), BestOk n b → l.foldl (fun b i => if order.contains i = true then b else codeW X n d (order ++ [i]) (now ++ entsOf X i order) b) b = (l.flatMap fun i => if order.contains i = true then [] else leafs X n d (order ++ [i]) (now ++ entsOf X i order)).foldl minO b from g _ _ hb
      intro l
      induction l with
      | nil => exact fun _ _ => rfl
      | cons i l ihl =>
        intro b hb
        rw [List.foldl_cons, List.flatMap_cons, List.foldl_append]
        have h1 : (order ++ [i]).length + d = n := by rw [List.length_append, List.length_singleton]; omega
        have h2 : (now ++ entsOf X i order).length = tri (order ++ [i]).length := by rw [List.length_append, hn, entsOf_len, List.length_append, List.length_singleton, tri]
        by_cases hc : order.contains i = true
        · rw [if_pos hc, if_pos hc]
          exact ihl b hb
        · rw [if_neg hc, if_neg hc, ← ih _ _ _ h1 h2 hb]
          exact ihl _ (codeW_ok X n d _ _ _ h1 h2 hb)
/-- The code of an order. -/
def codeF (X : Nat → Nat → Bool) : List Nat → List Int → List Nat → List Int
  | _, now, [] => now
  | order, now, i :: rest => codeF X (order ++ [i]) (now ++ entsOf X i order) rest
def codeOf (X : Nat → Nat → Bool) (o : List Nat) : List Int := codeF X [] [] o
theorem codeF_app (X : Nat → Nat → Bool) : ∀ (a b order : List Nat) (now : List Int), codeF X order now (a ++ b) = codeF X (order ++ a) (codeF X order now a) b
  | [], b, order, now => by rw [List.nil_append, List.append_nil]; rfl
  | i :: a, b, order, now => by rw [List.cons_append, codeF, codeF, codeF_app X a b, List.append_assoc]; rfl
theorem codeOf_snoc (X : Nat → Nat → Bool) (o : List Nat) (i : Nat) : codeOf X (o ++ [i]) = codeOf X o ++ entsOf X i o := by
  unfold codeOf; rw [codeF_app]; rfl
theorem leafs_orders (X : Nat → Nat → Bool) (n : Nat) : ∀ (d : Nat) (order : List Nat), leafs X n d order (codeOf X order) = (ordersW n d order).map (codeOf X)
  | 0, order => rfl
  | d + 1, order => by
    rw [leafs, ordersW]
    suffices g : ∀ l : List Nat, (l.flatMap fun i => if order.contains i = true then [] else leafs X n d (order ++ [i]) (codeOf X order ++ entsOf X i order)) = (l.flatMap fun i => if order.contains i = true then [] else ordersW n d (order ++ [i])).map (codeOf X) from g _
    intro l
    induction l with
    | nil => rfl
    | cons i l ih =>
      rw [List.flatMap_cons, List.flatMap_cons, List.map_append, ih]
      congr 1
      by_cases hc : order.contains i = true
      · rw [if_pos hc, if_pos hc]; rfl
      · rw [if_neg hc, if_neg hc, ← codeOf_snoc, leafs_orders X n d]
theorem codeV_eq (w : List Int) : codeV w = (((ordersW (w.length / 2) (w.length / 2) []).map (codeOf (crossB w))).foldl minO none).getD [] := by
  unfold codeV
  rw [codeW_min _ _ _ _ _ _ (by simp) rfl (.inl rfl), ← leafs_orders]
  rfl
theorem orders_mem (n : Nat) : ∀ (d : Nat) (order o : List Nat), order.Nodup → (∀ x ∈ order, x < n) → o ∈ ordersW n d order → o.length = order.length + d ∧ o.Nodup ∧ ∀ x ∈ o, x < n
  | 0, order, o, hd, hm, h => by rw [ordersW, List.mem_singleton] at h; subst h; exact ⟨rfl, hd, hm⟩
  | d + 1, order, o, hd, hm, h => by
    rw [ordersW, List.mem_flatMap] at h
    obtain ⟨i, hi, ho⟩ := h
    split at ho
    · exact absurd ho (by simp)
    · rename_i hc
      have := orders_mem n d _ o (nats_app hd (by simpa using hc)) (nats_mem hm (List.mem_range.1 hi)) ho
      rw [List.length_append, List.length_singleton] at this
      exact ⟨by omega, this.2⟩
theorem orders_len (n : Nat) : ∀ (d : Nat) (order : List Nat), (ordersW n d order).length ≤ n ^ d
  | 0, order => by rw [ordersW]; simp
  | d + 1, order => by
    rw [ordersW]
    suffices g : ∀ l : List Nat, (l.flatMap fun i => if order.contains i = true then [] else ordersW n d (order ++ [i])).length ≤ l.length * n ^ d by
      have := g (List.range n)
      rw [List.length_range] at this
      rw [Nat.pow_succ, Nat.mul_comm]; exact this
    intro l
    induction l with
    | nil => simp
    | cons i l ih =>
      rw [List.flatMap_cons, List.length_append, List.length_cons, Nat.succ_mul]
      have : (if order.contains i = true then [] else ordersW n d (order ++ [i])).length ≤ n ^ d := by
        split
        · exact Nat.zero_le _
        · exact orders_len n d _
      omega
theorem codeOf_len (X : Nat → Nat → Bool) (o : List Nat) : (codeOf X o).length = tri o.length := by
  have g : ∀ (rest order : List Nat) (now : List Int), now.length = tri order.length → (codeF X order now rest).length = tri (order.length + rest.length) := by
    intro rest
    induction rest with
    | nil => intro order now h; exact h
    | cons i rest ih =>
      intro order now h
      rw [codeF, ih _ _ (by rw [List.length_append, h, entsOf_len, List.length_append, List.length_singleton, tri]), List.length_append, List.length_singleton, List.length_cons]
      congr 1; omega
  have := g o [] [] rfl
  rw [List.length_nil, Nat.zero_add] at this
  exact this

/-! ### the reference's side -/
theorem sorders_ev (n : Nat) (hn : n ≤ 6) : ∀ (d : Nat) (order : List Nat), order.length + d = n → order.Nodup → (∀ x ∈ order, x < n) → Ev (fun k => spec_l09Orders.f k (n : Int) (ints order)) ((ordersW n d order).map ints) := by
  intro d
  induction d with
  | zero =>
    intro order ho hd hm
    refine Ev_succ ?_
    simp only [spec_l09Orders.f]
    refine Ev.congr (fun k => if_pos (by rw [ints_len]; omega)) ?_
    exact Ev.now _
  | succ d ih =>
    intro order ho hd hm
    have hil := ints_len order
    refine Ev_succ ?_
    simp only [spec_l09Orders.f]
    refine Ev.congr (fun k => if_neg (by omega)) ?_
    have key : ∀ q x, x + q = n → Ev (fun k => spec_l09Orders.l0 k (n : Int) (ints order) (((List.range x).flatMap fun i => if order.contains i = true then [] else ordersW n d (order ++ [i])).map ints) (x : Int)) ((ordersW n (d + 1) order).map ints) := by
      intro q
      induction q with
      | zero =>
        intro x hx
        refine Ev_succ ?_
        simp only [spec_l09Orders.l0]
        refine Ev.congr (fun k => if_neg (by omega)) ?_
        rw [show x = n from by omega]
        exact Ev.now _
      | succ q ihq =>
        intro x hx
        have hh := ihq (x + 1) (by omega)
        rw [List.range_succ, List.flatMap_append, List.map_append, List.flatMap_cons, List.flatMap_nil, List.append_nil] at hh
        refine Ev_succ ?_
        simp only [spec_l09Orders.l0]
        refine Ev.congr (fun k => if_pos (by omega)) ?_
        have hlen : (((List.range x).flatMap fun i => if order.contains i = true then [] else ordersW n d (order ++ [i])).map ints).length ≤ 6 * 6 ^ 6 := by
          rw [List.length_map]
          have g : ∀ l : List Nat, (l.flatMap fun i => if order.contains i = true then [] else ordersW n d (order ++ [i])).length ≤ l.length * 6 ^ 6 := by
            intro l
            induction l with
            | nil => simp
            | cons i l ihl =>
              rw [List.flatMap_cons, List.length_append, List.length_cons, Nat.succ_mul]
              have : (if order.contains i = true then [] else ordersW n d (order ++ [i])).length ≤ 6 ^ 6 := by
                split
                · exact Nat.zero_le _
                · exact Nat.le_trans (orders_len n d _) (Nat.le_trans (Nat.pow_le_pow_left hn d) (Nat.pow_le_pow_right (by decide) (by omega)))
              omega
          have := g (List.range x)
          rw [List.length_range] at this
          exact Nat.le_trans this (Nat.mul_le_mul_right _ (by omega))
        have inner : ∀ p j, j + p = order.length → Ev (fun k => spec_l09Orders.l1 k (n : Int) (ints order) (((List.range x).flatMap fun i => if order.contains i = true then [] else ordersW n d (order ++ [i])).map ints) (x : Int) ((order.take j).contains x) (j : Int)) ((ordersW n (d + 1) order).map ints) := by
          intro p
          induction p with
          | zero =>
            intro j hj
            refine Ev_succ ?_
            simp only [spec_l09Orders.l1]
            refine Ev.congr (fun k => if_neg (by omega)) ?_
            rw [List.take_of_length_le (by omega), wS (by omega)]
            by_cases hc : order.contains x = true
            · rw [if_pos hc, List.map_nil, List.append_nil] at hh
              exact Ev.congr (fun k => if_pos hc) hh
            · rw [if_neg hc] at hh
              refine Ev.congr (fun k => if_neg hc) ?_
              rw [own_f _ (by omega)]
              refine Ev.congr (fun k => (Option.bind_some _ _).trans (if_pos (by omega))) ?_
              rw [show ints order ++ [(x : Int)] = ints (order ++ [x]) from (ints_app order [x]).symm]
              refine Ev.bind (ih (order ++ [x]) (by rw [List.length_append, List.length_singleton]; omega) (nats_app hd (by simpa using hc)) (nats_mem hm (by omega))) ?_
              refine Ev.congr (fun k => if_pos ?_) hh
              have h1 := orders_len n d (order ++ [x])
              have h2 : n ^ d ≤ 6 ^ 6 := Nat.le_trans (Nat.pow_le_pow_left hn d) (Nat.pow_le_pow_right (by decide) (by omega))
              rw [show ((ordersW n d (order ++ [x])).map ints).length = (ordersW n d (order ++ [x])).length from List.length_map _]
              generalize ((((List.range x).flatMap fun i => if order.contains i = true then [] else ordersW n d (order ++ [i])).map ints)).length = a at *
              have : (6 : Nat) ^ 6 = 46656 := by decide
              omega
          | succ p ihp =>
            intro j hj
            have hj2 := ihp (j + 1) (by omega)
            have ht : order.take (j + 1) = order.take j ++ [order.getD j 0] := by rw [List.take_succ_eq_append_getElem (by omega), List.getD_eq_getElem?_getD, List.getElem?_eq_getElem (by omega)]; rfl
            have hc : (order.take (j + 1)).contains x = ((order.take j).contains x || (order.getD j 0 == x)) := by
              rw [ht, Bool.eq_iff_iff]
              simp only [List.contains_iff_mem, List.mem_append, List.mem_singleton, Bool.or_eq_true, beq_iff_eq]
              exact or_congr Iff.rfl eq_comm
            rw [hc] at hj2
            have hrd : rd (ints order) (j : Int) = ((order.getD j 0 : Nat) : Int) := by rw [rdN]; exact ints_getD order j (by omega)
            refine Ev_succ ?_
            simp only [spec_l09Orders.l1]
            refine Ev.congr (fun k => if_pos (by omega)) ?_
            rw [wS (by omega), hrd]
            by_cases hx' : (order.take j).contains x = true
            · rw [hx', Bool.true_or] at hj2
              exact Ev.congr (fun k => if_pos hx') hj2
            · rw [show (order.take j).contains x = false from by simpa using hx', Bool.false_or] at hj2
              refine Ev.congr (fun k => if_neg hx') (Ev.congr (fun k => if_pos (by omega)) ?_)
              rw [show (((order.getD j 0 : Nat) : Int) == (x : Int)) = (order.getD j 0 == x) from by rw [Bool.eq_iff_iff, beq_iff_eq, beq_iff_eq]; omega]
              exact hj2
        have := inner order.length 0 (by omega)
        rw [List.take_zero] at this
        exact this
    exact key n 0 (by omega)
theorem before_ev (a b : List Int) (hl : a.length = b.length) (hb : a.length < 4611686018427387904) : Ev (fun k => spec_l01Before.f k a b) (decide (cmpL a b < 0)) := by
  unfold spec_l01Before.f
  refine Ev.congr (fun k => if_pos (by omega)) ?_
  have key : ∀ d n, n + d = a.length → Ev (fun k => spec_l01Before.l0 k a b (n : Int)) (decide (cmpL (a.drop n) (b.drop n) < 0)) := by
    intro d
    induction d with
    | zero =>
      intro n hn
      rw [List.drop_of_length_le (l := a) (by omega), List.drop_of_length_le (l := b) (by omega)]
      refine Ev_succ ?_
      simp only [spec_l01Before.l0]
      exact Ev.congr (fun k => if_neg (by omega)) (Ev.now _)
    | succ d ih =>
      intro n hn
      rw [drop_cons (l := a) (by omega), drop_cons (l := b) (by omega), cmpL]
      refine Ev_succ ?_
      simp only [spec_l01Before.l0]
      refine Ev.congr (fun k => if_pos (by omega)) (Ev.congr (fun k => if_pos (by omega)) (Ev.congr (fun k => if_pos (by omega)) ?_))
      rw [rdN, rdN, wS (by omega)]
      by_cases e : a.getD n 0 = b.getD n 0
      · rw [if_neg (by omega), if_neg (by omega)]
        exact Ev.congr (fun k => if_pos e) (ih (n + 1) (by omega))
      · refine Ev.congr (fun k => if_neg e) ?_
        by_cases h1 : a.getD n 0 < b.getD n 0
        · rw [if_pos h1, decide_eq_true h1, decide_eq_true (by decide)]; exact Ev.now _
        · rw [if_neg h1, if_pos (by omega), decide_eq_false h1, decide_eq_false (by decide)]; exact Ev.now _
  exact key a.length 0 (by omega)
def minS (best : Option (List Int)) (c : List Int) : Option (List Int) := match best with
  | none => some c
  | some b => if cmpL c b < 0 then some c else some b
theorem minS_eq {best : Option (List Int)} {c : List Int} (h : ∀ b, best = some b → c.length = b.length) : minS best c = minO best c := by
  cases best with
  | none => rfl
  | some b =>
    unfold minS minO
    by_cases h1 : cmpL c b < 0
    · simp [h1, show ¬ 0 < cmpL c b by omega]
    · by_cases h2 : 0 < cmpL c b
      · simp [h1, h2]
      · simp [h1, h2, cmpL_eq c b (h b rfl) (by omega)]
theorem min_fold (m : Nat) : ∀ (l : List (List Int)) (best : Option (List Int)), (∀ c ∈ l, c.length = m) → (∀ b, best = some b → b.length = m) → l.foldl minS best = l.foldl minO best ∧ ∀ b, l.foldl minS best = some b → b.length = m
  | [], best, _, hb => ⟨rfl, hb⟩
  | c :: l, best, hl, hb => by
    have hc := hl c List.mem_cons_self
    have e : minS best c = minO best c := minS_eq (fun b h => by rw [hc, hb b h])
    rw [List.foldl_cons, List.foldl_cons, e]
    refine (fun h => h) (min_fold m l _ (fun x hx => hl x (List.mem_cons_of_mem _ hx)) (fun b h => ?_))
    cases best with
    | none => cases h; exact hc
    | some b0 =>
      unfold minO at h
      simp only at h
      split at h
      · cases h; exact hb _ rfl
      · cases h; exact hc
theorem take_codeF {X : Nat → Nat → Bool} {o : List Nat} {i : Nat} (h : i < o.length) : codeOf X (o.take (i + 1)) = codeOf X (o.take i) ++ entsOf X (o.getD i 0) (o.take i) := by
  rw [List.take_succ_eq_append_getElem h, codeOf_snoc, List.getD_eq_getElem?_getD, List.getElem?_eq_getElem h]; rfl
theorem rd_rowsC {w : List Int} {i : Nat} (hi : i < w.length / 2) : rd_L1 (rowsOf w) (i : Int) = rowTo w i (w.length / 2) := by
  unfold rd_L1; rw [Int.toNat_natCast]; exact rowsOf_get hi
/-- One order's code, on the reference's side. -/
theorem scode_l1 (w : List Int) (hw : Word w) (n : Nat) (hn : n = w.length / 2) (os : List (List Int)) (best : List Int) (x : Nat) (o : List Nat) (ho : rd_L1 os (x : Int) = ints o) (hx : x < os.length) (hol : o.length = n) (hm : ∀ y ∈ o, y < n) (r : List Int)
    (hr : Ev (fun k => if (x : Int) = 0 then spec_l09Crossing.l0 k (rowsOf w) (codeOf (crossB w) o) os (wrap64 ((x : Int) + 1)) else ((spec_l01Before.f k (codeOf (crossB w) o) best).bind fun t => if t = true then spec_l09Crossing.l0 k (rowsOf w) (codeOf (crossB w) o) os (wrap64 ((x : Int) + 1)) else spec_l09Crossing.l0 k (rowsOf w) best os (wrap64 ((x : Int) + 1)))) r) :
    Ev (fun k => spec_l09Crossing.l1 k (rowsOf w) best os (x : Int) [] 0) r := by
  have hle := hw.le
  have hl : (rowsOf w).length = n := by rw [hn]; exact rowsTo_len w _
  have hget : ∀ i, i < n → o.getD i 0 < n := fun i hi => hm _ (by rw [List.getD_eq_getElem?_getD, List.getElem?_eq_getElem (by omega)]; exact List.getElem_mem _)
  have hrd : ∀ i : Nat, i < n → rd (ints o) (i : Int) = ((o.getD i 0 : Nat) : Int) := fun i hi => by rw [rdN]; exact ints_getD o i (by omega)
  have hil := ints_len o
  have key : ∀ q i, i + q = n → Ev (fun k => spec_l09Crossing.l1 k (rowsOf w) best os (x : Int) (codeOf (crossB w) (o.take i)) (i : Int)) r := by
    intro q
    induction q with
    | zero =>
      intro i hi
      refine Ev_succ ?_
      simp only [spec_l09Crossing.l1]
      refine Ev.congr (fun k => if_neg (by omega)) ?_
      rw [List.take_of_length_le (by omega)]
      exact hr
    | succ q ihq =>
      intro i hi
      have hh := ihq (i + 1) (by omega)
      rw [take_codeF (by omega)] at hh
      refine Ev_succ ?_
      simp only [spec_l09Crossing.l1]
      refine Ev.congr (fun k => if_pos (by omega)) ?_
      have inner : ∀ p j, j + p = i → Ev (fun k => spec_l09Crossing.l2 k (rowsOf w) best os (x : Int) (codeOf (crossB w) (o.take i) ++ entsOf (crossB w) (o.getD i 0) ((o.take i).take j)) (i : Int) (j : Int)) r := by
        intro p
        induction p with
        | zero =>
          intro j hj
          refine Ev_succ ?_
          simp only [spec_l09Crossing.l2]
          refine Ev.congr (fun k => if_neg (by omega)) ?_
          rw [List.take_of_length_le (l := o.take i) (by rw [List.length_take]; omega), wS (by omega)]
          exact hh
        | succ p ihp =>
          intro j hj
          have hj2 := ihp (j + 1) (by omega)
          have hji : j < (o.take i).length := by rw [List.length_take]; omega
          have hgj : (o.take i).getD j 0 = o.getD j 0 := by
            rw [List.getD_eq_getElem?_getD, List.getElem?_take, if_pos (by omega), ← List.getD_eq_getElem?_getD]
          rw [← entsOf_snoc hji, hgj] at hj2
          have c1 := hget i (by omega)
          have c2 := hget j (by omega)
          have b1 : (codeOf (crossB w) (o.take i) ++ entsOf (crossB w) (o.getD i 0) ((o.take i).take j)).length < 17592186044416 := by
            have := tri_le (m := i) (n := 6) (by omega)
            rw [List.length_append, codeOf_len, entsOf_len, List.length_take, List.length_take, Nat.min_eq_left (show i ≤ o.length by omega)]
            have : tri 6 = 15 := by decide
            omega
          refine Ev_succ ?_
          simp only [spec_l09Crossing.l2]
          rw [ho, hrd i (by omega), hrd j (by omega), rd_rowsC (by omega), rowTo_len, rdN, rowTo_get (by omega), wS (by omega)]
          refine Ev.congr (fun k => if_pos (by omega)) (Ev.congr (fun k => if_pos (by omega)) (Ev.congr (fun k => if_pos (by omega)) (Ev.congr (fun k => if_pos (by omega)) (Ev.congr (fun k => if_pos (by omega)) (Ev.congr (fun k => if_pos (by omega)) (Ev.congr (fun k => if_pos (by omega)) (Ev.congr (fun k => if_pos (by omega)) (Ev.congr (fun k => if_pos (by omega)) (Ev.congr (fun k => if_pos (by omega)) (Ev.congr (fun k => if_pos (by omega)) (Ev.congr (fun k => if_pos b1) ?_)))))))))))
          exact hj2
      have := inner i 0 (by omega)
      rw [List.take_zero, show entsOf (crossB w) (o.getD i 0) [] = [] from rfl, List.append_nil] at this
      exact this
  exact key n 0 (by omega)
theorem scode_ev (w : List Int) (hw : Word w) : Ev (fun k => spec_l09Crossing.f k w) (codeV w) := by
  have hle := hw.le
  obtain ⟨n, hn⟩ : ∃ n, n = w.length / 2 := ⟨_, rfl⟩
  have hl : (rowsOf w).length = n := by rw [hn]; exact rowsTo_len w _
  have hom := orders_mem n n [] 
  unfold spec_l09Crossing.f
  refine Ev.bind (srows_ev w hw) ?_
  rw [hl]
  refine Ev.bind (sorders_ev n (by omega) n [] (by simp) List.nodup_nil (by simp)) ?_
  rw [codeV_eq, ← hn]
  have hlen : ((ordersW n n []).map ints).length ≤ 46656 := by
    rw [List.length_map]
    have h6 : n ≤ 6 := by omega
    have e6 : (6 : Nat) ^ 6 = 46656 := by decide
    have := Nat.le_trans (orders_len n n []) (Nat.le_trans (Nat.pow_le_pow_left h6 n) (Nat.pow_le_pow_right (n := 6) (by decide) h6))
    omega
  have hmem : ∀ o ∈ ordersW n n [], o.length = n ∧ ∀ y ∈ o, y < n := fun o ho => by
    have := orders_mem n n [] o List.nodup_nil (by simp) ho
    exact ⟨by simpa using this.1, this.2.2⟩
  have hmin := min_fold (tri n) ((ordersW n n []).map (codeOf (crossB w))) none (fun c hc => by
    obtain ⟨o, ho, rfl⟩ := List.mem_map.1 hc
    rw [codeOf_len, (hmem o ho).1]) (by simp)
  rw [← hmin.1]
  generalize ordersW n n [] = os at *
  have key : ∀ (q x : Nat) (best : List Int), x + q = os.length → (if x = 0 then best = [] else (((os.take x).map (codeOf (crossB w))).foldl minS none = some best)) →
      Ev (fun k => spec_l09Crossing.l0 k (rowsOf w) best (os.map ints) (x : Int)) (((os.map (codeOf (crossB w))).foldl minS none).getD []) := by
    intro q
    induction q with
    | zero =>
      intro x best hx hb
      refine Ev_succ ?_
      simp only [spec_l09Crossing.l0]
      refine Ev.congr (fun k => if_neg (by rw [List.length_map]; omega)) ?_
      by_cases h0 : x = 0
      · rw [if_pos h0] at hb
        rw [List.eq_nil_of_length_eq_zero (show os.length = 0 by omega), hb]
        exact Ev.now _
      · rw [if_neg h0, List.take_of_length_le (by omega)] at hb
        rw [hb]; exact Ev.now _
    | succ q ihq =>
      intro x best hx hb
      refine Ev_succ ?_
      simp only [spec_l09Crossing.l0]
      refine Ev.congr (fun k => if_pos (by rw [List.length_map]; omega)) ?_
      have hxo : x < os.length := by omega
      have hmx := hmem (os[x]'hxo) (List.getElem_mem _)
      have hrdx : rd_L1 (os.map ints) (x : Int) = ints (os[x]'hxo) := by
        unfold rd_L1
        rw [Int.toNat_natCast, List.getD_eq_getElem?_getD, List.getElem?_map, List.getElem?_eq_getElem hxo]; rfl
      refine scode_l1 w hw n hn _ best x (os[x]'hxo) hrdx (by rw [List.length_map]; exact hxo) hmx.1 hmx.2 _ ?_
      have hwx : wrap64 ((x : Int) + 1) = ((x + 1 : Nat) : Int) := by rw [List.length_map] at hlen; exact wS (by omega)
      rw [hwx]
      have ht : ((os.take (x + 1)).map (codeOf (crossB w))).foldl minS none = minS (((os.take x).map (codeOf (crossB w))).foldl minS none) (codeOf (crossB w) (os[x]'hxo)) := by
        rw [List.take_succ_eq_append_getElem hxo, List.map_append, List.foldl_append]; rfl
      by_cases h0 : x = 0
      · refine Ev.congr (fun k => if_pos (by omega)) ?_
        refine ihq (x + 1) _ (by omega) ?_
        rw [if_neg (by omega), ht]
        subst h0; rfl
      · rw [if_neg h0] at hb
        refine Ev.congr (fun k => if_neg (by omega)) ?_
        have hbl : best.length = tri n := by
          have := min_fold (tri n) ((os.take x).map (codeOf (crossB w))) none (fun c hc => by
            obtain ⟨o, ho, rfl⟩ := List.mem_map.1 hc
            rw [codeOf_len, (hmem o (List.mem_of_mem_take ho)).1]) (by simp)
          exact this.2 best hb
        have hcl : (codeOf (crossB w) (os[x]'hxo)).length = tri n := by rw [codeOf_len, hmx.1]
        have htn : tri n ≤ tri 6 := tri_le (by omega)
        have ht6 : tri 6 = 15 := by decide
        refine Ev.bind (before_ev _ best (by omega) (by omega)) ?_
        rw [hb] at ht
        by_cases hc : cmpL (codeOf (crossB w) (os[x]'hxo)) best < 0
        · refine Ev.congr (fun k => if_pos (decide_eq_true hc)) ?_
          refine ihq (x + 1) _ (by omega) ?_
          rw [if_neg (by omega), ht]
          unfold minS
          exact if_pos hc
        · refine Ev.congr (fun k => if_neg (by simpa using hc)) ?_
          refine ihq (x + 1) _ (by omega) ?_
          rw [if_neg (by omega), ht]
          unfold minS
          exact if_neg hc
  exact key os.length 0 [] (by omega) rfl
def codV (w : List Int) : List Int × Int := if isW w = true then (codeV w, 0) else ([], 1)
theorem specCod_ev (w : List Int) : Ev (fun k => spec_CrossingCode.f k w) (codV w) := by
  unfold spec_CrossingCode.f codV
  refine Ev.bind (is_ev w) ?_
  by_cases h : isW w = true
  · rw [if_pos h]
    refine Ev.congr (fun k => if_pos h) ?_
    exact Ev.bind (scode_ev w ((isW_iff w).1 h)) (Ev.now _)
  · rw [if_neg h]
    exact Ev.congr (fun k => if_neg h) (Ev.now _)
theorem implCod_ev (w : List Int) (hwf : ∀ x ∈ w, (Lit.int .i64 x).wf = true) : Ev (fun k => impl_CrossingCode.f k w) (codV w) := by
  unfold impl_CrossingCode.f codV
  refine Ev.bind (isWord_ev w hwf) ?_
  by_cases h : isW w = true
  · rw [if_pos h, if_pos h]
    exact Ev.congr (fun k => by unfold impl_code.f; rw [if_pos h]; rfl) (Ev.now _)
  · rw [if_neg h, if_neg h]
    exact Ev.now _
theorem codeV_len {w : List Int} (h : isW w = true) : (codeV w).length ≤ 15 := by
  have := ((isW_iff w).1 h).le
  have ht6 : tri 6 = 15 := by decide
  unfold codeV
  rcases codeW_ok (crossB w) (w.length / 2) (w.length / 2) [] [] none (by simp) rfl (.inl rfl) with e | ⟨b, e, hb⟩
  · rw [e]; simp
  · rw [e]
    show b.length ≤ 15
    have := tri_le (m := w.length / 2) (n := 6) (by omega)
    omega
theorem codV_len (w : List Int) : (codV w).1.length ≤ 1048576 := by
  unfold codV
  split
  · rename_i h
    have := codeV_len h
    show (codeV w).length ≤ _
    omega
  · simp
end Go.Proofs.Ytfijnlbkflmkbaa.Pure
