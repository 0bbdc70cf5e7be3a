/- The walk's operations on memory, over a list of resources. Generic: no program is named. -/
import Derived.Test.YtgkpdpoblofehaaSl
import Derived.Deep.AppendSrc
set_option maxRecDepth 8000
set_option linter.unusedVariables false
set_option linter.unusedSimpArgs false
set_option linter.unusedSectionVars false
namespace Go.Sl
open Go.RowKit

section
variable {P : Program} {W w : World} {H H' : List SProp} {ops : Array Oper} {rest : List Oper} {a : Act} {Q : Exit → Act → World → Prop} {K : Act → World → Prop}

/-- An operation that is wanted. -/
theorem wl_step {o : Oper} (hg : Region.wanted o (yielded ops a.tmps) = true) (h : ∀ K : Act → World → Prop, (∀ a w, wpList P ops Q rest a w → K a w) → o.wp P a w K Q) : wpList P ops Q (o :: rest) a w :=
  BigFrame.wpList_want hg h

theorem run_load1 {t : TypeId} {ad : Addr} {v : Value} (hT : ∀ w, (isAgg t).run P w = .ok false w) (hv : w.cell? ad = some v) : (loadVar t ad).run P w = .ok v w := by
  simp [loadVar, Sem.run_bind, hT, load, Sem.run, hv]

theorem wl_loadc {dst : Option Tmp} {ty_ : TypeId} {pos : String} {after : Array Edge} {guard : Option (Nat × Bool)} (t : TypeId) (x : Operand) (hg : Region.wanted { dst, op := .load t x, type := ty_, pos, after, guard } (yielded ops a.tmps) = true) (ad : Addr) (hx : a.eval x = .pointer (some ad)) {v : Value} (hv : w.cell? ad = some v)
    (hT : ∀ w, (isAgg t).run P w = .ok false w) (hk : wpList P ops Q rest (a.put dst v) w) : wpList P ops Q ({ dst, op := .load t x, type := ty_, pos, after, guard } :: rest) a w := by
  refine wl_step hg fun K hK => ?_
  unfold Oper.wp execOp
  simp only [hx, Instr.loadAt, Instr.sureAddr, Sem.run_bind, Sem.run_pure, Result.andThen_ok, run_load1 hT hv]
  exact hK _ _ hk

/-- A load of one cell of a row whose cells are known. -/
theorem wl_load {dst : Option Tmp} {ty_ : TypeId} {pos : String} {after : Array Edge} {guard : Option (Nat × Bool)} (t : TypeId) (x : Operand) (hg : Region.wanted { dst, op := .load t x, type := ty_, pos, after, guard } (yielded ops a.tmps) = true) {b off : Nat} (hx : a.eval x = .pointer (some ⟨b, off, none⟩)) (hw : Holds W H w) {T : TypeId} {cs : List Value} (m : Row b T cs ∈ H) {v : Value} (hv : cs[off]? = some v)
    (hT : ∀ w, (isAgg t).run P w = .ok false w) (hk : wpList P ops Q rest (a.put dst v) w) : wpList P ops Q ({ dst, op := .load t x, type := ty_, pos, after, guard } :: rest) a w :=
  wl_loadc t x hg _ hx (hw.cell m hv) hT hk

/-- A load of one cell that lay there before. -/
theorem wl_loadro {dst : Option Tmp} {ty_ : TypeId} {pos : String} {after : Array Edge} {guard : Option (Nat × Bool)} (t : TypeId) (x : Operand) (hg : Region.wanted { dst, op := .load t x, type := ty_, pos, after, guard } (yielded ops a.tmps) = true) {ad : Addr} (hx : a.eval x = .pointer (some ad)) (hw : Holds W H w) {v : Value} (hv : W.cell? ad = some v)
    (hT : ∀ w, (isAgg t).run P w = .ok false w) (hk : wpList P ops Q rest (a.put dst v) w) : wpList P ops Q ({ dst, op := .load t x, type := ty_, pos, after, guard } :: rest) a w :=
  wl_loadc t x hg _ hx (hw.ro hv) hT hk

theorem run_storeVar1 {t : TypeId} {b off : Nat} {v u : Value} (hv1 : v.oneCell' = true) (hS : ∀ w, (sizeOf t).run P w = .ok 1 w) (hc : w.cell? ⟨b, off, none⟩ = some u) (hf : w.frozen? ⟨b, off, none⟩ = false) :
    (storeVar t ⟨b, off, none⟩ v).run P w = .ok () (w.setCell ⟨b, off, none⟩ v) := by
  have e : v.cells = #[v] := by cases v <;> simp_all [Value.oneCell', Value.cells]
  have h0 : (⟨b, off, none⟩ : Addr).add 0 = ⟨b, off, none⟩ := rfl
  simp only [storeVar, Sem.run_bind, hS, Result.andThen_ok, e, List.size_toArray, List.length_cons, List.length_nil, Nat.zero_add, ne_eq, not_true_eq_false, if_false, storeCells, h0]
  cases v <;> simp_all [store, Sem.run, Value.oneCell', pure, Result.andThen]

/-- A store of one cell into a row of ours. -/
theorem wl_store {dst : Option Tmp} {ty_ : TypeId} {pos : String} {after : Array Edge} {guard : Option (Nat × Bool)} (t : TypeId) (x y : Operand) (hg : Region.wanted { dst, op := .store t x y, type := ty_, pos, after, guard } (yielded ops a.tmps) = true) {b off : Nat} (hx : a.eval x = .pointer (some ⟨b, off, none⟩)) {v : Value} (hy : a.eval y = v) (hv : v.oneCell' = true) (hw : Holds W H w)
    {T : TypeId} {cs : List Value} {C : SProp → List SProp} (u : Hole H (Row b T cs) C) (hoff : off < cs.length) (hS : ∀ w, (sizeOf t).run P w = .ok 1 w)
    (hk : ∀ w, Holds W (C (Row b T (cs.set off v))) w → wpList P ops Q rest (a.put dst undef) w) : wpList P ops Q ({ dst, op := .store t x y, type := ty_, pos, after, guard } :: rest) a w := by
  obtain ⟨R, p, q⟩ := u.perm
  have hw1 := hw.perm p
  have hc := hw1.cell (off := off) (.head _) (List.getElem?_eq_getElem hoff)
  have hf := hw1.free (off := off) (.head _)
  refine wl_step hg fun K hK => ?_
  unfold Oper.wp execOp
  simp only [hx, hy, Instr.storeAt, Instr.sureAddr, Sem.run_bind, Sem.run_pure, Result.andThen_ok, run_storeVar1 hv hS hc hf]
  exact hK _ _ (hk _ (hw.store _ u))

/-- A new variable that holds a value. -/
theorem wl_box {dst : Option Tmp} {ty_ : TypeId} {pos : String} {after : Array Edge} {guard : Option (Nat × Bool)} (t : TypeId) (x : Operand) (hg : Region.wanted { dst, op := .box t x, type := ty_, pos, after, guard } (yielded ops a.tmps) = true) {v : Value} (hx : a.eval x = v) {cs : List Value} (hcs : v.cells = cs.toArray) (hw : Holds W H w)
    (hk : ∀ b w, Holds W (Row b t cs :: H) w → wpList P ops Q rest (a.put dst (.pointer (some ⟨b, 0, none⟩))) w) : wpList P ops Q ({ dst, op := .box t x, type := ty_, pos, after, guard } :: rest) a w := by
  refine wl_step hg fun K hK => ?_
  unfold Oper.wp execOp
  simp only [hx, Instr.box, newVar, newRow, newObj, Sem.run_bind, Sem.run, Result.andThen_ok, Sem.run_pure, hcs, Oper.upon]
  exact hK _ _ (hk _ _ hw.alloc)

/-- A new variable of nought. -/
theorem wl_alloc {dst : Option Tmp} {ty_ : TypeId} {pos : String} {after : Array Edge} {guard : Option (Nat × Bool)} (t : TypeId) (hg : Region.wanted { dst, op := .alloc t, type := ty_, pos, after, guard } (yielded ops a.tmps) = true) {z : Value} (hz : ∀ w, (zeroValue t).run P w = .ok z w) {cs : List Value} (hcs : z.cells = cs.toArray) (hw : Holds W H w)
    (hk : ∀ b w, Holds W (Row b t cs :: H) w → wpList P ops Q rest (a.put dst (.pointer (some ⟨b, 0, none⟩))) w) : wpList P ops Q ({ dst, op := .alloc t, type := ty_, pos, after, guard } :: rest) a w := by
  refine wl_step hg fun K hK => ?_
  unfold Oper.wp execOp
  simp only [Instr.alloc, newVar, newRow, newObj, Sem.run_bind, hz, Sem.run, Result.andThen_ok, Sem.run_pure, hcs, Oper.upon]
  exact hK _ _ (hk _ _ hw.alloc)


/-- The cells of a row that is written out, one by one. -/
def cellsAt (w : World) (b : Nat) : Nat → List Value → Prop
  | _, [] => True
  | i, v :: r => w.cell? ⟨b, i, none⟩ = some v ∧ cellsAt w b (i + 1) r
theorem cellsAt_of {b : Nat} : ∀ (cs : List Value) (i : Nat), (∀ j v, cs[j]? = some v → w.cell? ⟨b, i + j, none⟩ = some v) → cellsAt w b i cs
  | [], _, _ => trivial
  | v :: r, i, h => ⟨h 0 v rfl, cellsAt_of r (i + 1) fun j u hj => by have := h (j + 1) u hj; rwa [show i + (j + 1) = i + 1 + j by omega] at this⟩
theorem Holds.cells {b : Nat} {T : TypeId} {cs : List Value} (hw : Holds W H w) (m : Row b T cs ∈ H) : cellsAt w b 0 cs :=
  cellsAt_of cs 0 fun j v hj => by rw [Nat.zero_add]; exact hw.cell m hj

/-! ### Slices of ours -/

/-- What the program's table says of a slice type. -/
structure SliceT (P : Program) (t e : TypeId) (z : Value) (size bytes : Nat) : Prop where
  und : P.underlying t = some (.slice e)
  info : (P.info? e).map (fun i => (i.zero, i.size, i.bytes)) = some (some z, size, bytes)
  zs : z.cells.size = size
  z1 : ∀ u ∈ z.cells.toList, u.oneCell' = true

/-- A slice that is the call's own, from its array's head: n elements of sz cells; what lies behind them is anything. -/
def Own (e : TypeId) (sz : Nat) (v : Value) (n : Nat) (xs : List Value) : SProp := fun h =>
  xs.length = n * sz ∧ ((v = .slice none 0 0 ∧ n = 0) ∨
    ∃ b cap spare, v = .slice (some ⟨b, 0, none⟩) n cap ∧ n ≤ cap ∧ cap ≤ maxLen ∧ (xs ++ spare).length = cap * sz ∧ Row b e (xs ++ spare) h)

theorem Holds.ownNil (e : TypeId) (sz : Nat) (hw : Holds W H w) : Holds W (Own e sz (.slice none 0 0) 0 [] :: H) w :=
  hw.new w _ (fun _ => none) ⟨by simp, .inl ⟨rfl, rfl⟩⟩ rfl rfl rfl (Nat.le_refl _) (fun _ _ => rfl) (fun _ _ h => by cases h)

theorem Holds.ownOpen {e : TypeId} {sz n : Nat} {v : Value} {xs : List Value} {R : List SProp} (hw : Holds W (Own e sz v n xs :: R) w) :
    xs.length = n * sz ∧ ((v = .slice none 0 0 ∧ n = 0 ∧ Holds W R w) ∨
    ∃ b cap spare, v = .slice (some ⟨b, 0, none⟩) n cap ∧ n ≤ cap ∧ cap ≤ maxLen ∧ (xs ++ spare).length = cap * sz ∧ Holds W (Row b e (xs ++ spare) :: R) w) := by
  obtain ⟨hb, h1, h2, a, b, c, ⟨hl, d⟩, k⟩ := hw
  refine ⟨hl, ?_⟩
  rcases d with ⟨rfl, rfl⟩ | ⟨g, cap, spare, rfl, hn, hm, hs, hr⟩
  · exact .inl ⟨rfl, rfl, hb, star.up b k⟩
  · exact .inr ⟨g, cap, spare, rfl, hn, hm, hs, hb, h1, h2, a, b, c, hr, k⟩

theorem Holds.ownShape {e : TypeId} {sz n : Nat} {v : Value} {xs : List Value} {R : List SProp} (hw : Holds W (Own e sz v n xs :: R) w) : ∃ ao cap, v = .slice ao n cap := by
  rcases hw.ownOpen.2 with ⟨rfl, rfl, _⟩ | ⟨b, cap, _, rfl, _⟩
  · exact ⟨_, _, rfl⟩
  · exact ⟨_, _, rfl⟩

theorem Holds.ownShut {e : TypeId} {sz n b cap : Nat} {xs spare : List Value} {R : List SProp} (hl : xs.length = n * sz) (hn : n ≤ cap) (hm : cap ≤ maxLen) (hs : (xs ++ spare).length = cap * sz)
    (hw : Holds W (Row b e (xs ++ spare) :: R) w) : Holds W (Own e sz (.slice (some ⟨b, 0, none⟩) n cap) n xs :: R) w :=
  hw.cons fun _ h => ⟨hl, .inr ⟨b, cap, spare, rfl, hn, hm, hs, h⟩⟩

/-- A slice that can be read. -/
structure Sees (w : World) (sz : Nat) (v : Value) (n : Nat) (xs : List Value) : Prop where
  len : xs.length = n * sz
  one : ∀ u ∈ xs, u.oneCell' = true
  at_ : (∃ c, v = .slice none 0 c ∧ n = 0) ∨ ∃ a c, v = .slice (some a) n c ∧ ∀ j u, xs[j]? = some u → w.cell? (a.add j) = some u

theorem Sees.ro {sz n : Nat} {v : Value} {xs : List Value} (hs : Sees W sz v n xs) (hw : Holds W H w) : Sees w sz v n xs := by
  obtain ⟨hl, h1, h⟩ := hs
  refine ⟨hl, h1, ?_⟩
  rcases h with h | ⟨a, c, rfl, h⟩
  · exact .inl h
  · exact .inr ⟨a, c, rfl, fun j u hj => hw.ro (h j u hj)⟩

theorem Sees.own {e : TypeId} {sz n : Nat} {v : Value} {xs : List Value} (h1 : ∀ u ∈ xs, u.oneCell' = true) (hw : Holds W H w) (m : Own e sz v n xs ∈ H) : Sees w sz v n xs := by
  obtain ⟨R, p⟩ := mem_perm m
  obtain ⟨hl, h⟩ := (hw.perm p).ownOpen
  refine ⟨hl, h1, ?_⟩
  rcases h with ⟨rfl, rfl, _⟩ | ⟨b, cap, spare, rfl, _, _, _, h⟩
  · exact .inl ⟨0, rfl, rfl⟩
  · refine .inr ⟨_, cap, rfl, fun j u hj => ?_⟩
    have hc := h.cell (off := j) (v := u) (.head _) (by rw [List.getElem?_append_left (List.getElem?_eq_some_iff.1 hj).1]; exact hj)
    rwa [show (⟨b, 0, none⟩ : Addr).add j = ⟨b, j, none⟩ by unfold Addr.add; split <;> simp_all]

theorem Sees.row {e : TypeId} {sz n b cap : Nat} {xs ys : List Value} (h1 : ∀ u ∈ xs, u.oneCell' = true) (hl : xs.length = n * sz) (hw : Holds W H w) (m : Row b e (xs ++ ys) ∈ H) : Sees w sz (.slice (some ⟨b, 0, none⟩) n cap) n xs := by
  refine ⟨hl, h1, .inr ⟨_, cap, rfl, fun j u hj => ?_⟩⟩
  have hc := hw.cell (off := j) (v := u) m (by rw [List.getElem?_append_left (List.getElem?_eq_some_iff.1 hj).1]; exact hj)
  rwa [show (⟨b, 0, none⟩ : Addr).add j = ⟨b, j, none⟩ by unfold Addr.add; split <;> simp_all]

theorem Sees.drew {sz n : Nat} {v : Value} {xs : List Value} (hs : Sees w sz v n xs) : Sees w.drew sz v n xs := ⟨hs.len, hs.one, hs.at_⟩

theorem Sees.src {sz n : Nat} {v : Value} {xs : List Value} (hs : Sees w sz v n xs) {tx e' : TypeId} (hk : P.underlying tx = some (.slice e')) : Src P sz tx v n xs w := by
  obtain ⟨hl, h1, h⟩ := hs
  rcases h with ⟨c, rfl, rfl⟩ | ⟨a, c, rfl, h⟩
  · have : xs = [] := List.eq_nil_of_length_eq_zero (by simpa using hl)
    subst this
    exact Src.ofNil w hk c
  · exact Src.ofSlice w hk a n c xs hl h h1

theorem setCells_row {b : Nat} {T : TypeId} : ∀ (vs : List Value) (o : Nat) (cs : List Value) (w : World), w.heap[b]? = some (.cells cs.toArray T (0, 0)) → o + vs.length ≤ cs.length →
    (w.setCells b o vs).heap[b]? = some (.cells (cs.take o ++ vs ++ cs.drop (o + vs.length)).toArray T (0, 0)) ∧ (∀ k, k ≠ b → (w.setCells b o vs).heap[k]? = w.heap[k]?) ∧
      (w.setCells b o vs).heap.size = w.heap.size ∧ (w.setCells b o vs).os = w.os ∧ (w.setCells b o vs).tape = w.tape ∧ (w.setCells b o vs).output = w.output
  | [], o, cs, w, h, _ => by simp [World.setCells, h]
  | v :: r, o, cs, w, h, ho => by
    have h' := heap_setCell_same w b o cs.toArray T v h
    simp only [List.setIfInBounds_toArray] at h'
    simp only [List.length_cons] at ho
    obtain ⟨a1, a2, a3, a4, a5, a6⟩ := setCells_row r (o + 1) (cs.set o v) _ h' (by simp; omega)
    refine ⟨?_, fun k hk => ?_, ?_, a4, a5, a6⟩
    · rw [World.setCells, a1]
      congr 3
      have ho' : o < cs.length := by omega
      have e1 : (cs.set o v).take (o + 1) = cs.take o ++ [v] := by
        rw [List.take_succ_eq_append_getElem (by simpa using ho')]; simp [List.take_set_of_le]
      have e2 : (cs.set o v).drop (o + 1 + r.length) = cs.drop (o + (v :: r).length) := by
        rw [List.drop_set_of_lt (by omega)]; simp; congr 1; omega
      rw [e1, e2]; simp
    · rw [World.setCells, a2 k hk]; exact heap_setCell_other w _ k v hk
    · rw [World.setCells, a3]; simp

/-- A run of cells of a row of ours is written. -/
theorem Holds.setCells {b o : Nat} {T : TypeId} {cs vs : List Value} {C : SProp → List SProp} (h : Holds W H w) (u : Hole H (Row b T cs) C) (ho : o + vs.length ≤ cs.length) :
    Holds W (C (Row b T (cs.take o ++ vs ++ cs.drop (o + vs.length)))) (w.setCells b o vs) := by
  obtain ⟨R, p, q⟩ := u.perm
  have hb := ((h.perm p).at (.head _)).2
  obtain ⟨a1, a2, a3, a4, a5, a6⟩ := setCells_row vs o cs w hb ho
  exact h.put u a4 a5 a6 a3 a2 a1

theorem Holds.append {t tx e ty : TypeId} {z : Value} {sz by_ n m : Nat} {v x : Value} {xs news : List Value} {R : List SProp} (st : SliceT P t e z sz by_) (hw : Holds W (Own e sz v n xs :: R) w) (hs : Src P sz tx x m news w)
    (h63 : n + m ≤ maxLen) (hb : (n + m) * by_ ≤ 140737488355328) :
    ∃ v' w', (Builtin.append_ #[t, tx] ty #[v, x]).run P w = .ok v' w' ∧ Holds W (Own e sz v' (n + m) (xs ++ news) :: R) w' := by
  obtain ⟨i, hi, hz, hsz, hby⟩ := info_parts st.info
  subst hsz; subst hby
  have hsmall : n + m ≤ 9223372036854775807 := by simp only [maxLen] at h63; omega
  obtain ⟨hl, hv⟩ := hw.ownOpen
  have hlen : (xs ++ news).length = (n + m) * i.size := by rw [List.length_append, hl, hs.newsLen, Nat.add_mul]
  -- a new row
  have grown : ∀ old, old < n + m → Holds W R w → Holds W (Own e i.size (.slice (some ⟨w.heap.size, 0, none⟩) (n + m) (grownCap w (n + m) old e)) (n + m) (xs ++ news) :: R)
      (w.drew.alloc (.cells ((xs ++ news).toArray ++ Builtin.zeroCells z.cells (grownCap w (n + m) old e - (n + m))) e)) := by
    intro old ho hR
    have hge := grownCap_ge w (n + m) old e
    have hcm : grownCap w (n + m) old e ≤ maxLen := grownCap_le_maxLen w (n + m) old e h63
    have ha := (hR.drew).alloc (T := e) (cs := (xs ++ news) ++ (Builtin.zeroCells z.cells (grownCap w (n + m) old e - (n + m))).toList)
    have ee : ((xs ++ news) ++ (Builtin.zeroCells z.cells (grownCap w (n + m) old e - (n + m))).toList).toArray = (xs ++ news).toArray ++ Builtin.zeroCells z.cells (grownCap w (n + m) old e - (n + m)) := by
      apply Array.ext'; simp
    rw [← ee]
    refine Holds.ownShut hlen hge hcm ?_ ha
    rw [List.length_append, hlen]
    simp only [Array.length_toList, size_zeroCells, st.zs, ← Nat.add_mul]
    congr 1; omega
  rcases hv with ⟨rfl, rfl, hR⟩ | ⟨b, cap, spare, rfl, hn, hm, hc, hR⟩
  · have hx : xs = [] := List.eq_nil_of_length_eq_zero (by simpa using hl)
    subst hx
    by_cases h0 : m = 0
    · subst h0
      have hn : news = [] := List.eq_nil_of_length_eq_zero (by simpa using hs.newsLen)
      subst hn
      refine ⟨.slice none 0 0, w, ?_, by simpa using hw⟩
      rcases hs.kind with ⟨e', hk⟩ | hk <;> simp [Builtin.append_, run_underlying st.und, run_underlying hk, sizeOf, typeInfo, hi, hs.len, hs.cells]
    · refine ⟨_, _, run_append_grow_src w t tx ty e i z st.und hi hz none 0 0 [] (run_firstCells_none _ _ _ _ _) x m news hs (by omega) (by omega) (growslice_fits (by omega) hb), ?_⟩
      exact grown 0 (by omega) hR
  · by_cases hroom : n + m ≤ cap
    · have hfit : n * i.size + news.length ≤ (xs ++ spare).length := by rw [hs.newsLen, hc, ← Nat.add_mul]; exact Nat.mul_le_mul_right _ hroom
      refine ⟨_, _, run_append_room_src w t tx ty e i st.und hi b 0 n cap x m news hs hroom (fun j hj => ?_) (fun j hj => hR.free (.head _)), ?_⟩
      · have hj' : 0 + n * i.size + j < (xs ++ spare).length := by omega
        rw [hR.cell (.head _) (List.getElem?_eq_getElem hj')]; rfl
      · have h2 := hR.setCells (o := n * i.size) (vs := news) .head hfit
        have e1 : (xs ++ spare).take (n * i.size) = xs := by rw [← hl]; simp
        rw [e1] at h2
        rw [Nat.zero_add]
        refine Holds.ownShut hlen hroom hm ?_ h2
        rw [← hc]
        simp only [List.length_append, List.length_drop] at hfit ⊢
        omega
    · have hold : (Builtin.firstCells i.size n (.slice (some ⟨b, 0, none⟩) n cap)).run P w.drew = .ok xs.toArray w.drew := by
        refine run_firstCells_some w.drew i.size n _ n cap xs hl fun j u hj => ?_
        have := hR.cell (off := j) (v := u) (.head _) (by rw [List.getElem?_append_left (List.getElem?_eq_some_iff.1 hj).1]; exact hj)
        rwa [show (⟨b, 0, none⟩ : Addr).add j = ⟨b, j, none⟩ by unfold Addr.add; split <;> simp_all]
      refine ⟨_, _, run_append_grow_src w t tx ty e i z st.und hi hz _ n cap xs hold x m news hs (by omega) (by omega) (growslice_fits (by omega) hb), ?_⟩
      exact grown cap (by omega) hR.tail

theorem wl_append {dst : Option Tmp} {ty_ : TypeId} {pos : String} {after : Array Edge} {guard : Option (Nat × Bool)} (s x : Operand) (t tx : TypeId) (hg : Region.wanted { dst, op := .call { callee := .builtin .append, args := #[s, x], argTypes := #[t, tx] }, type := ty_, pos, after, guard } (yielded ops a.tmps) = true)
    {e : TypeId} {z : Value} {sz by_ n m : Nat} {v vx : Value} {xs news : List Value} (st : SliceT P t e z sz by_) (hs : a.eval s = v) (hx : a.eval x = vx) (hw : Holds W H w) {C : SProp → List SProp}
    (u : Hole H (Own e sz v n xs) C) (hsrc : Src P sz tx vx m news w)
    (h63 : n + m ≤ maxLen) (hb : (n + m) * by_ ≤ 140737488355328) (hk : ∀ ao cap w, Holds W (C (Own e sz (.slice ao (n + m) cap) (n + m) (xs ++ news))) w → wpList P ops Q rest (a.put dst (.slice ao (n + m) cap)) w) : wpList P ops Q ({ dst, op := .call { callee := .builtin .append, args := #[s, x], argTypes := #[t, tx] }, type := ty_, pos, after, guard } :: rest) a w := by
  refine wl_step hg fun K hK => ?_
  obtain ⟨R, p, q⟩ := u.perm
  obtain ⟨v', w', hr, h2⟩ := Holds.append (ty := ty_) st (hw.perm p) hsrc h63 hb
  unfold Oper.wp execOp
  simp only [resolve, invoke, builtin, Sem.run_bind, Sem.run_pure, Result.andThen_ok, List.map_toArray, List.map_cons, List.map_nil, hs, hx, hr]
  obtain ⟨ao, cap, rfl⟩ := h2.ownShape
  exact hK _ _ (hk _ _ _ (h2.perm (q _)))

end
end Go.Sl
