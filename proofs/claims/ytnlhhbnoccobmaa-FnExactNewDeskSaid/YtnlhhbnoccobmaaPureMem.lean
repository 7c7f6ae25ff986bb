/- Words on blocks, rows and worlds that the walks by hand use. -/
import Derived.Test.YtnlhhbnoccobmaaWMore
import Derived.Test.YtnlhhbnoccobmaaWTab
import Derived.Test.YtnlhhbnoccobmaaWN
import Derived.Deep.RegionLawGrows
import Derived.ArgAppend
namespace Go.Proofs.Ytnlhhbnoccobmaa.Mem
open Go.RowKit Go.Proofs.YtnlhhbnoccobmaaW.PrintWords Go.Proofs.YtnlhhbnoccobmaaW.PrintLast

theorem nums_get (xs : List Int) (j : Nat) (h : j < xs.length) : (nums .i64 xs).toArray[j]? = some (.int .i64 (xs.getD j 0)) := by
  simp [nums, List.getElem?_eq_getElem h, List.getD_eq_getElem?_getD]
theorem nums_set (xs : List Int) (j : Nat) (x : Int) : (nums .i64 xs).toArray.setIfInBounds j (.int .i64 x) = (nums .i64 (xs.set j x)).toArray := by
  simp [nums, List.map_set]
theorem nums_replicate (n : Nat) : nums .i64 (List.replicate n 0) = List.replicate n (.int .i64 0) := by simp [nums]
theorem grown_refl (w : World) (row : Option Nat) : w.grownBy w row := ⟨rfl, rfl, rfl, Nat.le_refl _, fun _ _ _ => rfl⟩
theorem grown_trans {w w1 w2 : World} {row : Option Nat} (h : w.grownBy w1 row) (g : w1.grownBy w2 row) : w.grownBy w2 row :=
  ⟨g.os.trans h.os, g.tape.trans h.tape, g.output.trans h.output, Nat.le_trans h.size g.size, fun k hk hr => (g.block k (Nat.lt_of_lt_of_le hk h.size) hr).trans (h.block k hk hr)⟩
theorem grown_set {w w1 : World} {B : Nat} (h : w.grownBy w1 (some B)) (i : Nat) (u : Value) : w.grownBy (w1.setCell ⟨B, i, none⟩ u) (some B) :=
  ⟨h.os, h.tape, h.output, by simpa [World.setCell] using h.size, fun k hk hr => (Below.heap_setCell w1 ⟨B, i, none⟩ u k (fun e => hr (by rw [e]))).trans (h.block k hk hr)⟩
theorem grown_alloc {w w1 : World} {row : Option Nat} (h : w.grownBy w1 row) (o : Obj) : w.grownBy (w1.alloc o) row := grown_trans h (World.grownBy_alloc w1 o row)
theorem grown_drewN {w w1 : World} {row : Option Nat} (h : w.grownBy w1 row) (n : Nat) : w.grownBy (w1.drewN n) row := ⟨h.os, h.tape, h.output, h.size, h.block⟩
theorem grown_drew {w w1 : World} {row : Option Nat} (h : w.grownBy w1 row) : w.grownBy w1.drew row := ⟨h.os, h.tape, h.output, h.size, h.block⟩
/-- Only blocks that were made since have been written. -/
theorem grown_below {w w1 : World} (h : w.grownBy w1 none) : Below w.heap.size w w1 := ⟨h.os, h.tape, h.output, h.size, fun k hk => h.block k hk (by simp)⟩
theorem gb_of_below {w w1 : World} (h : Below w.heap.size w w1) (row : Option Nat) : w.grownBy w1 row := ⟨h.os, h.tape, h.output, h.size, fun k hk _ => h.block k hk⟩
theorem grown_of_none {w w1 : World} (h : w.grownBy w1 none) (row : Option Nat) : w.grownBy w1 row := gb_of_below (grown_below h) row
/-- What was written lies behind w0's blocks. -/
theorem below_grown {w0 w w1 : World} {B : Nat} (h : Below w0.heap.size w0 w) (g : w.grownBy w1 (some B)) (hB : w0.heap.size ≤ B) : Below w0.heap.size w0 w1 :=
  h.grown g h.size (fun k hk => by injection hk with hk; omega)
theorem cell_of_C {w : World} {A : Option Addr} {n : Nat} {xs : List Int} (h : Kd.C (Kd.int .i64) w A n xs) (j : Nat) (hj : j < n) : ∃ ad, A = some ad ∧ w.cell? (ad.add j) = some (.int .i64 (xs.getD j 0)) := by
  obtain ⟨hl, _, hc⟩ := h
  obtain ⟨ad, e, hc⟩ := hc (by omega)
  have hjl : j < xs.length := by omega
  obtain ⟨c, hc1, hc2, hc3⟩ := hc j _ (List.getElem?_eq_getElem hjl)
  refine ⟨ad, e, ?_⟩
  have hc2' : c = [.int .i64 xs[j]] := hc2
  have := hc3 0 _ (by rw [hc2']; rfl)
  rw [show (Kd.int .i64).sz = 1 from rfl, Nat.mul_one, Nat.add_zero] at this
  rw [this, List.getD_eq_getElem?_getD, List.getElem?_eq_getElem hjl]; rfl
/-- What reads in w leads to blocks of w. -/
theorem F_of_C {w : World} {A : Option Addr} {n : Nat} {xs : List Int} (h : Kd.C (Kd.int .i64) w A n xs) : Kd.F (Kd.int .i64) w (fun k => k < w.heap.size) A n xs := by
  intro W' hW
  obtain ⟨hl, hm, hc⟩ := h
  refine ⟨hl, hm, fun hn => ?_⟩
  obtain ⟨ad, e, hc⟩ := hc hn
  refine ⟨ad, e, fun j p hj => ?_⟩
  obtain ⟨c, hc1, hc2, hc3⟩ := hc j p hj
  refine ⟨c, hc1, hc2, fun i u hu => ?_⟩
  have hcell := hc3 i u hu
  have hlt := World.block_lt_of_cell? w _ hcell
  rw [World.cell?_of_block (w := w) (hW _ hlt hlt)]; exact hcell
theorem reps_nums {w : World} {base : Nat} {ok : Nat → Prop} (xs : List Int) : Reps ((Kd.int .i64).M w base ok) 1 xs (nums .i64 xs) := by
  refine ⟨by simp [nums], fun j p hj => ?_⟩
  show ((nums .i64 xs).drop (j * 1)).take 1 = [.int .i64 p]
  have hj' := List.getElem?_eq_some_iff.1 hj
  rw [Nat.mul_one, List.drop_eq_getElem_cons (by simp [nums]; exact hj'.1)]
  simp [nums, hj'.2]
theorem R_of_block {w : World} {B m : Nat} {xs : List Int} {e : Nat} (hb : w.heap[B]? = some (.cells (nums .i64 xs).toArray e (0, 0))) (hl : xs.length = m) (hm : m ≤ maxLen) {base : Nat} (hbase : base ≤ B) :
    Kd.R (Kd.int .i64) e w base (fun _ => True) (.slice (some ⟨B, 0, none⟩) m m) xs := by
  refine ⟨fun _ _ => trivial, nums .i64 xs, ⟨?_, .inr ⟨B, m, _, by rw [hl], hbase, hb, by omega, hm, ?_, ?_⟩⟩, ?_⟩
  · show _ = xs.length * 1
    simp [nums]
  · show _ = m * 1
    simp [nums, hl]
  · show List.take (xs.length * 1) _ = _
    rw [Nat.mul_one]
    exact List.take_of_length_le (by simp [nums])
  · exact reps_nums xs
theorem C_none {w : World} {A : Option Addr} {n : Nat} {xs : List Int} (h : Kd.C (Kd.int .i64) w A n xs) (e : A = none) : n = 0 ∧ n = 0 := by
  rcases Nat.eq_zero_or_pos n with h0 | h0
  · exact ⟨h0, h0⟩
  · obtain ⟨ad, he, _⟩ := h.2.2 h0
    rw [e] at he; cases he
theorem C_cells {w : World} {A : Option Addr} {n : Nat} {xs : List Int} (h : Kd.C (Kd.int .i64) w A n xs) (b : Addr) (e : A = some b) (j : Nat) (u : Value) (hu : (nums .i64 xs)[j]? = some u) : w.cell? (b.add j) = some u := by
  have hj := (List.getElem?_eq_some_iff.1 hu)
  obtain ⟨hj, hv⟩ := hj
  have hj' : j < xs.length := by simpa [nums] using hj
  obtain ⟨ad, he, hc⟩ := cell_of_C h j (by have := h.1; omega)
  rw [e] at he
  injection he with he
  subst he
  rw [hc, ← hv, List.getD_eq_getElem?_getD, List.getElem?_eq_getElem hj']
  simp [nums]
theorem news2 {w : World} {B t : Nat} {x y : Value} (h : w.heap[B]? = some (.cells #[x, y] t (0, 0))) (j : Nat) (u : Value) (hu : [x, y][j]? = some u) : w.cell? ((⟨B, 0, none⟩ : Addr).add j) = some u := World.news_of_block h j u hu
theorem news1 {w : World} {B t : Nat} {x : Value} (h : w.heap[B]? = some (.cells #[x] t (0, 0))) (j : Nat) (u : Value) (hu : [x][j]? = some u) : w.cell? ((⟨B, 0, none⟩ : Addr).add j) = some u := World.news_of_block h j u hu
theorem R_of_block_ok {w : World} {B m : Nat} {xs : List Int} {e : Nat} (hb : w.heap[B]? = some (.cells (nums .i64 xs).toArray e (0, 0))) (hl : xs.length = m) (hm : m ≤ maxLen) {base : Nat} (hbase : base ≤ B) (ok : Nat → Prop) (hok : ok B) :
    Kd.R (Kd.int .i64) e w base ok (.slice (some ⟨B, 0, none⟩) m m) xs := by
  obtain ⟨_, inner, ho, _⟩ := R_of_block hb hl hm hbase
  have hi : inner = nums .i64 xs := by
    obtain ⟨h1, h2⟩ := ho
    rcases h2 with ⟨h3, _⟩ | ⟨g, cap, cur, h3, _, h4, _, _, _, h5⟩
    · exact absurd h3 (by simp)
    · injection h3 with h3 _ _
      injection h3 with h3
      injection h3 with h3 _ _
      subst h3
      rw [hb] at h4
      injection h4 with h4
      injection h4 with h4 _ _
      rw [← h5, ← h4]
      exact List.take_of_length_le (by simp [nums]; show xs.length ≤ xs.length * 1; omega)
  subst hi
  exact ⟨fun k hk => by simp [Value.ownBlock] at hk; rw [← hk]; exact hok, nums .i64 xs, ho, reps_nums xs⟩
theorem R_of_own {w : World} {base e : Nat} {v : Value} {xs : List Int} (h : w.ownsRow base e 1 v xs.length (nums .i64 xs)) : Kd.R (Kd.int .i64) e w base (fun k => base ≤ k) v xs :=
  ⟨fun k hk => own_base h k hk, nums .i64 xs, h, reps_nums xs⟩
section
variable {P : Program} {ops : Array Oper} {Q : Exit → Act → World → Prop}
/-- append to a full slice that is read: a new row (as a step of a region that draws its order). -/
theorem step_append_full {o : Oper} {a : Act} {w : World} {K : Act → World → Prop} {E : Prop} (hg : o.guard = none) (s x : Operand) (t e : TypeId)
    (hop : o.op = Op.call { callee := Callee.builtin Builtin.append, args := #[s, x], argTypes := #[t, t] }) (ht : P.underlying t = some (.slice e)) (hinfo : (P.info? e).map (fun i => (i.zero, i.size, i.bytes)) = some (some (.int .i64 0), 1, 8))
    (A : Option Addr) (n m B : Nat) (xs news : List Int) (hs : a.eval s = .slice A n n) (hx : a.eval x = .slice (some ⟨B, 0, none⟩) m m) (hC : Kd.C (Kd.int .i64) w A n xs) (hB : w.heap[B]? = some (.cells (nums .i64 news).toArray e (0, 0))) (hm : news.length = m) (h0 : 0 < m) (hl : n + m ≤ 17592186044416)
    (hK : ∀ v' w', Kd.R (Kd.int .i64) e w' w.heap.size (fun k => w.heap.size ≤ k) v' (xs ++ news) → w.grownBy w' none → K (a.put o.dst v') w') :
    if Region.wanted o (yielded ops a.tmps) = true then Oper.wp P o a w K Q else E := by
  obtain ⟨i0, hi, hzz⟩ := Option.map_eq_some_iff.1 hinfo
  simp only [Prod.mk.injEq] at hzz
  obtain ⟨hz0, hz1, hz2⟩ := hzz
  have hxl : xs.length = n := hC.1
  refine step_append_grows hg s x t hop e i0 (.int .i64 0) 1 8 ht hi hz0 hz1 hz2 rfl (by decide) A n n (nums .i64 xs) hs (C_none hC) (by simp [nums, hxl]) (C_cells hC) ⟨B, 0, none⟩ m m (nums .i64 news) hx (by simp [nums, hm]) (World.news_of_block hB) (by simp [nums]; intro y _; rfl) (by omega) (by unfold maxLen; omega) (by omega) ?_
  intro v' w' hown hgr
  refine hK v' w' (R_of_own ?_) hgr
  rw [show nums .i64 (xs ++ news) = nums .i64 xs ++ nums .i64 news from by simp [nums], List.length_append, hxl, hm]; exact hown
/-- The same in a plain region. -/
theorem wpList_append_full {o : Oper} {rest : List Oper} {a : Act} {w : World} (hg : o.guard = none) (s x : Operand) (t e : TypeId)
    (hop : o.op = Op.call { callee := Callee.builtin Builtin.append, args := #[s, x], argTypes := #[t, t] }) (ht : P.underlying t = some (.slice e)) (hinfo : (P.info? e).map (fun i => (i.zero, i.size, i.bytes)) = some (some (.int .i64 0), 1, 8))
    (A : Option Addr) (n m B : Nat) (xs news : List Int) (hs : a.eval s = .slice A n n) (hx : a.eval x = .slice (some ⟨B, 0, none⟩) m m) (hC : Kd.C (Kd.int .i64) w A n xs) (hB : w.heap[B]? = some (.cells (nums .i64 news).toArray e (0, 0))) (hm : news.length = m) (h0 : 0 < m) (hl : n + m ≤ 17592186044416)
    (hK : ∀ v' w', Kd.R (Kd.int .i64) e w' w.heap.size (fun k => w.heap.size ≤ k) v' (xs ++ news) → w.grownBy w' none → wpList P ops Q rest (a.put o.dst v') w') :
    wpList P ops Q (o :: rest) a w := by
  obtain ⟨i0, hi, hzz⟩ := Option.map_eq_some_iff.1 hinfo
  simp only [Prod.mk.injEq] at hzz
  obtain ⟨hz0, hz1, hz2⟩ := hzz
  have hxl : xs.length = n := hC.1
  refine wpList_append_grows w hg s x t hop e i0 (.int .i64 0) 1 8 ht hi hz0 hz1 hz2 rfl (by decide) A n n (nums .i64 xs) hs (C_none hC) (by simp [nums, hxl]) (C_cells hC) ⟨B, 0, none⟩ m m (nums .i64 news) hx (by simp [nums, hm]) (World.news_of_block hB) (by simp [nums]; intro y _; rfl) (by omega) (by unfold maxLen; omega) (by omega) ?_
  intro v' w' hown hgr
  refine hK v' w' (R_of_own ?_) hgr
  rw [show nums .i64 (xs ++ news) = nums .i64 xs ++ nums .i64 news from by simp [nums], List.length_append, hxl, hm]; exact hown
/-- A call of a function value, as a step of a region that draws its order. -/
theorem callv_ {oi : Oper} {N : Option Tmp} {a : Act} {w : World} {K : Act → World → Prop} {f : FuncId} {fn : Func} {x : Operand} {as : Array Operand} {ts : Array TypeId} (hf : P.funcs[f]? = some fn) (hname : (fn.name == "runtime.NumGoroutine") = false) (hb : fn.body.isSome = true) (cap args all : Array Value)
    (hw : Region.wanted oi (yielded ops a.tmps) = true) (hN : oi.dst = N) (hop : oi.op = .call { callee := .value x, args := as, argTypes := ts }) (hx : a.eval x = .func (.func f) #[] cap) (hargs : as.map a.eval = args) (hall : args ++ cap = all)
    (h : Calls P f all w fun e w' => ∃ v, e = .returned v ∧ K (a.put N v) w') : if Region.wanted oi (yielded ops a.tmps) = true then Oper.wp P oi a w K Q else K (a.put N undef) w := by
  subst hall
  refine call_ f (args ++ cap) hw hN ?_ h
  have he := enters_ hf hname hb (args ++ cap) w
  unfold execOp
  simp [hop, resolve, hx, Deferred.ofValue, invoke, hargs, he]
end
theorem new_at {w : World} {o : Obj} {B : Nat} (h : B = w.heap.size) : (w.alloc o).heap[B]? = some o := by subst h; exact blk_new w o
theorem cell1 {w : World} {B t : Nat} {v : Value} (h : w.heap[B]? = some (.cells #[v] t (0, 0))) : w.cell? ⟨B, 0, none⟩ = some v := (blk_cell h 0).trans rfl
theorem made_nums (m : Nat) : madeCells (Value.cells (.int .i64 0)) m = (nums .i64 (List.replicate m 0)).toArray := by
  apply Array.ext
  · rw [size_madeCells]; simp [nums]
  · intro j h1 h2
    have hj : j < m := by rw [size_madeCells] at h1; exact h1
    simp [madeCells, nums, Value.cells, Nat.mod_one]
/-- make([]int64, x). -/
theorem make_ints {P : Program} {t e : TypeId} (ht : P.underlying t = some (.slice e)) (hinfo : (P.info? e).map (fun i => (i.zero, i.size, i.bytes)) = some (some (.int .i64 0), 1, 8)) (x : Int) (m : Nat) (hx : x = (m : Int)) (hm : m ≤ 35184372088832) (W : World) :
    (Instr.makeSlice t (.int .i64 x) (.int .i64 x)).run P W = .ok (.slice (some ⟨W.heap.size, 0, none⟩) m m) (W.alloc (.cells (nums .i64 (List.replicate m 0)).toArray e)) := by
  subst hx
  obtain ⟨i0, hi, hzz⟩ := Option.map_eq_some_iff.1 hinfo
  simp only [Prod.mk.injEq] at hzz
  obtain ⟨hz0, hz1, hz2⟩ := hzz
  have h := run_make (P := P) W t e i0 (.int .i64 0) ht hi hz0 .i64 .i64 m m (by omega) (Int.le_refl _) (by rw [hz2]; omega) (by omega)
  rw [h, Int.toNat_natCast, hz1, Nat.mul_one, made_nums]
def ints (l : List Nat) : List Int := l.map fun i : Nat => (i : Int)
theorem ints_len (l : List Nat) : (ints l).length = l.length := by simp [ints]
theorem ints_app (l m : List Nat) : ints (l ++ m) = ints l ++ ints m := by simp [ints]
theorem ints_contains (l : List Nat) (k : Nat) : (ints l).contains (k : Int) = l.contains k := by
  rw [Bool.eq_iff_iff, List.contains_iff_mem, List.contains_iff_mem]
  unfold ints
  rw [List.mem_map]
  constructor
  · rintro ⟨a, ha, e⟩
    rw [show k = a from by omega]; exact ha
  · exact fun h => ⟨k, h, rfl⟩
theorem ints_getD (l : List Nat) (j : Nat) (h : j < l.length) : (ints l).getD j 0 = ((l.getD j 0 : Nat) : Int) := by
  unfold ints
  rw [List.getD_eq_getElem?_getD, List.getD_eq_getElem?_getD, List.getElem?_map, List.getElem?_eq_getElem h]; rfl
theorem nats_len : ∀ (l : List Nat) (n : Nat), l.Nodup → (∀ x ∈ l, x < n) → l.length ≤ n := by
  have h : ∀ (l m : List Nat), l.Nodup → (∀ x ∈ l, x ∈ m) → l.length ≤ m.length := by
    intro l
    induction l with
    | nil => intro m _ _; exact Nat.zero_le _
    | cons a l ih =>
      intro m hd h
      have hn := List.nodup_cons.1 hd
      have ha := h a List.mem_cons_self
      have := ih (m.erase a) hn.2 (fun x hx => (List.mem_erase_of_ne (fun (e : x = a) => hn.1 (e ▸ hx))).2 (h x (List.mem_cons_of_mem _ hx)))
      rw [List.length_erase_of_mem ha] at this
      have := List.length_pos_of_mem ha
      rw [List.length_cons]; omega
  intro l n hd hu
  have := h l (List.range n) hd (fun x hx => List.mem_range.2 (hu x hx))
  simpa using this
theorem nats_app {l : List Nat} {k : Nat} (hd : l.Nodup) (h : l.contains k = false) : (l ++ [k]).Nodup := by
  rw [List.nodup_append]
  refine ⟨hd, List.nodup_cons.2 ⟨by simp, List.nodup_nil⟩, fun a hm b hb e => ?_⟩
  rw [List.mem_singleton] at hb; subst hb; subst e
  rw [List.contains_iff_mem.2 hm] at h; exact absurd h (by simp)
theorem nats_mem {l : List Nat} {k n : Nat} (hu : ∀ x ∈ l, x < n) (hk : k < n) : ∀ x ∈ l ++ [k], x < n := by
  intro x hx
  rcases List.mem_append.1 hx with h | h
  · exact hu x h
  · rw [List.mem_singleton] at h; omega
/-- A length by another name. -/
theorem calls_len2 {P : Program} {f : FuncId} {x : Value} {A : Option Addr} {m m' c : Nat} {w : World} {Q : Ending → World → Prop} (h : m' = m) (hc : Calls P f #[x, .slice A m' c] w Q) : Calls P f #[x, .slice A m c] w Q := h ▸ hc
theorem calls_len1 {P : Program} {f : FuncId} {x : Value} {A : Option Addr} {m m' c : Nat} {w : World} {Q : Ending → World → Prop} (h : m' = m) (hc : Calls P f #[.slice A m' c, x] w Q) : Calls P f #[.slice A m c, x] w Q := h ▸ hc
theorem calls_len0 {P : Program} {f : FuncId} {A : Option Addr} {m m' c : Nat} {w : World} {Q : Ending → World → Prop} (h : m' = m) (hc : Calls P f #[.slice A m' c] w Q) : Calls P f #[.slice A m c] w Q := h ▸ hc
end Go.Proofs.Ytnlhhbnoccobmaa.Mem
