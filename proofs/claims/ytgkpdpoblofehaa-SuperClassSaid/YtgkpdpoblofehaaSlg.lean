/- The engine: maps from int to int, arrays, function values. Generic: no program is named. -/
import Derived.Test.YtgkpdpoblofehaaSlf
import Derived.MapKept
import Derived.Carry
set_option maxRecDepth 8000
set_option linter.unusedVariables false
set_option linter.unusedSimpArgs false
set_option linter.unusedSectionVars false
namespace Go.Sl
open Go Go.RowKit Go.MapKept
section
variable {W : World} {P : Program} {n : Nat} {c : Code} {Q : Exit → Act → World → Prop} {H H' L S : List SProp} {f F : Fr} {C : SProp → List SProp}
variable {N : List SProp → Fr → Prop} {dst : Option Tmp} {d : Nat} {ty_ : TypeId} {pos : String} {after : Array Edge} {guard : Option (Nat × Bool)}

/-! ### Maps from int to int -/

/-- The entries read as this function. -/
structure ReadsAs (l : List MapEntry) (m : Int → Option Int) : Prop where
  each : ∀ e ∈ l, ∃ a v, e.key = .int .i64 a ∧ e.val = .int .i64 v ∧ m a = some v
  all : ∀ a v, m a = some v → ∃ e ∈ l, e.key = .int .i64 a
  one : ∀ (i j : Nat) (e e' : MapEntry), l[i]? = some e → l[j]? = some e' → e.key = e'.key → i = j

def MapR (b : Nat) (m : Int → Option Int) : SProp := ex fun x : Array MapEntry × Nat => Sl.star [fact (ReadsAs x.1.toList m), At b (.map x.1 x.2)]
theorem MapR.open {w : World} {b : Nat} {m : Int → Option Int} {R : List SProp} (hw : Holds W (MapR b m :: R) w) : ∃ es cl, ReadsAs es.toList m ∧ Holds W (At b (.map es cl) :: R) w := by
  obtain ⟨⟨es, cl⟩, h⟩ := hw.exOpen
  have h := h.join
  exact ⟨es, cl, h.factOpen, h.tail⟩
theorem MapR.shut {b : Nat} {m : Int → Option Int} {R : List SProp} {w : World} {es : Array MapEntry} {cl : Nat} (hr : ReadsAs es.toList m) (hw : Holds W (At b (.map es cl) :: R) w) : Holds W (MapR b m :: R) w :=
  Holds.exShut (es, cl) (Holds.nest (L := [_, _]) (hw.factShut hr))

theorem ReadsAs.nil : ReadsAs [] (fun _ => none) := by
  constructor
  · intro e h; cases h
  · intro a v h; cases h
  · intro i j e e' h; simp at h
theorem ReadsAs.find {l : List MapEntry} {m : Int → Option Int} (h : ReadsAs l m) (k : Int) :
    (Instr.findNow (.int .i64) (.int .i64 k) l 0 = some none ∧ m k = none ∧ ∀ e ∈ l, e.key ≠ .int .i64 k) ∨
    ∃ j e v, Instr.findNow (.int .i64) (.int .i64 k) l 0 = some (some (j, .int .i64 v)) ∧ m k = some v ∧ l[j]? = some e ∧ e.key = .int .i64 k := by
  rcases findNow_spec (d := .int .i64) (k := .int .i64 k) rfl l 0 (fun e he => by obtain ⟨a, v, h1, _, _⟩ := h.each e he; rw [h1]; rfl) with ⟨h1, h2⟩ | ⟨j, e, h1, h2, h3⟩
  · refine .inl ⟨h1, ?_, h2⟩
    cases hm : m k with
    | none => rfl
    | some v => obtain ⟨e, he, hk⟩ := h.all k v hm; exact absurd hk (h2 e he)
  · obtain ⟨a, v, k1, k2, k3⟩ := h.each e (List.mem_of_getElem? h2)
    rw [h3] at k1; cases k1
    exact .inr ⟨j, e, v, by rw [h1, Nat.zero_add, k2], k3, h2, h3⟩

theorem OpV.makeMap {t : TypeId} (hd : Nat.blt d n = true) (h : ∀ b, N (MapR b (fun _ => none) :: H) ((d, .map (some b)) :: f)) :
    OpV W P n { dst := some d, op := .makeMap t none, type := ty_, pos, after, guard } Q H f N := by
  refine OpV.run hd (fun tm w hk hw => ⟨w.heap.size, _, ?_, MapR.shut (es := #[]) (cl := 0) ReadsAs.nil hw.allocObj⟩) h
  unfold execOp
  simp only [Option.map_none, Sem.run_bind, run_makeMap, Result.andThen_ok, Sem.run_pure]

theorem Holds.mapAt {b : Nat} {m : Int → Option Int} {w : World} (hw : Holds W H w) (hm : MapR b m ∈ H) : ∃ es cl, ReadsAs es.toList m ∧ w.heap[b]? = some (.map es cl) := by
  obtain ⟨R, p⟩ := mem_perm hm
  obtain ⟨es, cl, h1, h2⟩ := MapR.open (hw.perm p)
  exact ⟨es, cl, h1, (h2.at (.head _)).2⟩

theorem PureAt.lookup {t kt et : TypeId} {x y : Operand} {b : Nat} {k : Int} {m : Int → Option Int} (ht : P.underlying t = some (.map kt et)) (hkt : P.underlying kt = some (.int .i64)) (hz : ∀ w, (zeroValue et).run P w = .ok (.int .i64 0) w)
    (hx : evalX f x = some (.map (some b))) (hy : evalX f y = some (.int .i64 k)) (hm : MapR b m ∈ H) :
    PureAt W P n H f { dst, op := .lookup t x y true, type := ty_, pos, after, guard } (.tuple #[.int .i64 ((m k).getD 0), .bool (m k).isSome]) := by
  unfold PureAt
  intro tm w hk hw
  obtain ⟨es, cl, hr, hb⟩ := hw.mapAt hm
  have hck := Go.MapKept.run_checkKey (P := P) (w := w) (kt := kt) (k := .int .i64 k) hkt rfl es.isEmpty 9999
  rcases hr.find k with ⟨h1, h2, _⟩ | ⟨j, e, v, h1, h2, _, _⟩
  · have hf := Go.MapKept.run_findKey (P := P) (w := w) (kt := kt) hkt h1
    simp [execOp, Instr.lookup, hk.eval hx, hk.eval hy, Sem.run_bind, run_underlying ht, Go.MapKept.run_getObj_map hb, hck, hf, hz, h2]
  · have hf := Go.MapKept.run_findKey (P := P) (w := w) (kt := kt) hkt h1
    simp [execOp, Instr.lookup, hk.eval hx, hk.eval hy, Sem.run_bind, run_underlying ht, Go.MapKept.run_getObj_map hb, hck, hf, h2]

def updM (m : Int → Option Int) (k v : Int) : Int → Option Int := fun a => if a = k then some v else m a
theorem ReadsAs.push {l : List MapEntry} {m : Int → Option Int} (h : ReadsAs l m) (k v : Int) (cl : Nat) (hn : ∀ e ∈ l, e.key ≠ .int .i64 k) : ReadsAs (l ++ [⟨.int .i64 k, .int .i64 v, cl⟩]) (updM m k v) := by
  refine ⟨fun e he => ?_, fun a u hu => ?_, fun i j e e' hi hj hk => ?_⟩
  · rcases List.mem_append.1 he with he | he
    · obtain ⟨a, u, h1, h2, h3⟩ := h.each e he
      refine ⟨a, u, h1, h2, ?_⟩
      unfold updM; rw [if_neg (fun q => hn e he (by rw [h1, q]))]; exact h3
    · rw [List.mem_singleton] at he; subst he
      exact ⟨k, v, rfl, rfl, by simp [updM]⟩
  · by_cases q : a = k
    · subst q; exact ⟨_, List.mem_append_right _ (List.mem_singleton.2 rfl), rfl⟩
    · unfold updM at hu; rw [if_neg q] at hu
      obtain ⟨e, he, hk⟩ := h.all a u hu
      exact ⟨e, List.mem_append_left _ he, hk⟩
  · by_cases hi' : i < l.length
    · by_cases hj' : j < l.length
      · rw [List.getElem?_append_left hi'] at hi; rw [List.getElem?_append_left hj'] at hj
        exact h.one i j e e' hi hj hk
      · rw [List.getElem?_append_left hi'] at hi; rw [List.getElem?_append_right (by omega)] at hj
        have : e' = ⟨.int .i64 k, .int .i64 v, cl⟩ := by
          have := List.mem_of_getElem? hj; simpa using this
        subst this
        exact absurd hk (hn e (List.mem_of_getElem? hi))
    · by_cases hj' : j < l.length
      · rw [List.getElem?_append_left hj'] at hj; rw [List.getElem?_append_right (by omega)] at hi
        have : e = ⟨.int .i64 k, .int .i64 v, cl⟩ := by
          have := List.mem_of_getElem? hi; simpa using this
        subst this
        exact absurd hk.symm (hn e' (List.mem_of_getElem? hj))
      · rw [List.getElem?_append_right (by omega)] at hi hj
        have := (List.getElem?_eq_some_iff.1 hi).1
        have := (List.getElem?_eq_some_iff.1 hj).1
        simp at *; omega
theorem ReadsAs.set {l : List MapEntry} {m : Int → Option Int} (h : ReadsAs l m) (k v : Int) {j : Nat} {e0 : MapEntry} (hj : l[j]? = some e0) (hk0 : e0.key = .int .i64 k) :
    ReadsAs (l.modify j fun e => { e with key := .int .i64 k, val := .int .i64 v }) (updM m k v) := by
  have hg (i : Nat) (e : MapEntry) (hi : (l.modify j fun e => { e with key := .int .i64 k, val := .int .i64 v })[i]? = some e) :
      (i = j ∧ e.key = .int .i64 k ∧ e.val = .int .i64 v) ∨ (i ≠ j ∧ l[i]? = some e) := by
    rw [List.getElem?_modify] at hi
    by_cases q : j = i
    · subst q
      rw [hj] at hi
      simp at hi
      subst hi
      exact .inl ⟨rfl, rfl, rfl⟩
    · simp [q] at hi
      exact .inr ⟨fun r => q r.symm, hi⟩
  refine ⟨fun e he => ?_, fun a u hu => ?_, fun i i' e e' hi hi' hk => ?_⟩
  · obtain ⟨i, hi⟩ := List.getElem?_of_mem he
    rcases hg i e hi with ⟨_, h1, h2⟩ | ⟨hne, h1⟩
    · exact ⟨k, v, h1, h2, by simp [updM]⟩
    · obtain ⟨a, u, k1, k2, k3⟩ := h.each e (List.mem_of_getElem? h1)
      refine ⟨a, u, k1, k2, ?_⟩
      unfold updM; rw [if_neg]; exact k3
      intro q; subst q
      exact hne (h.one i j e e0 h1 hj (by rw [k1, hk0]))
  · have hjl := (List.getElem?_eq_some_iff.1 hj).1
    by_cases q : a = k
    · subst q
      refine ⟨{ e0 with key := .int .i64 a, val := .int .i64 v }, List.mem_of_getElem? (i := j) ?_, rfl⟩
      rw [List.getElem?_modify, hj]; simp
    · unfold updM at hu; rw [if_neg q] at hu
      obtain ⟨e, he, hk⟩ := h.all a u hu
      obtain ⟨i, hi⟩ := List.getElem?_of_mem he
      refine ⟨e, List.mem_of_getElem? (i := i) ?_, hk⟩
      rw [List.getElem?_modify, hi]
      have : j ≠ i := by
        intro r; subst r; rw [hj] at hi; cases hi; rw [hk0] at hk; cases hk; exact q rfl
      simp [this]
  · rcases hg i e hi with ⟨h1, h2, _⟩ | ⟨h1, h2⟩ <;> rcases hg i' e' hi' with ⟨g1, g2, _⟩ | ⟨g1, g2⟩
    · omega
    · exact absurd (h.one i' j e' e0 g2 hj (by rw [← hk, h2, hk0])) g1
    · exact absurd (h.one i j e e0 h2 hj (by rw [hk, g2, hk0])) h1
    · exact h.one i i' e e' h2 g2 hk

theorem Holds.setMap {w : World} {b : Nat} {m m' : Int → Option Int} {es : Array MapEntry} {cl cl' : Nat} {es' : Array MapEntry} (hw : Holds W H w) (u : Hole H (MapR b m) C) (hb : w.heap[b]? = some (.map es cl)) (hr : ReadsAs es'.toList m') :
    Holds W (C (MapR b m')) { w with heap := w.heap.setIfInBounds b (.map es' cl') } := by
  obtain ⟨R, p, q⟩ := u.perm
  obtain ⟨es0, cl0, _, h2⟩ := MapR.open (hw.perm p)
  have hb2 := (h2.at (.head _)).2
  obtain ⟨s1, s2⟩ := Go.MapKept.heap_set (o' := .map es' cl') hb
  refine Holds.perm (q _) (MapR.shut hr (h2.put .head rfl rfl rfl (by simp) (fun k hk => s2 k hk) s1))

theorem OpV.mapUpdate {t kt et : TypeId} {x y z : Operand} {b : Nat} {k v : Int} {m : Int → Option Int} (ht : P.underlying t = some (.map kt et)) (hkt : P.underlying kt = some (.int .i64))
    (hx : evalX f x = some (.map (some b))) (hy : evalX f y = some (.int .i64 k)) (hz : evalX f z = some (.int .i64 v)) (u : Hole H (MapR b m) C) (h : N (C (MapR b (updM m k v))) f) :
    OpV W P n { dst := none, op := .mapUpdate t x y z, type := ty_, pos, after, guard } Q H f N := by
  unfold OpV
  intro tm w hk hw K hK
  obtain ⟨R, p, q⟩ := u.perm
  obtain ⟨es, cl, hr, hb⟩ := (hw.perm p).mapAt (.head _)
  have hck := Go.MapKept.run_checkKey (P := P) (w := w) (kt := kt) (k := .int .i64 k) hkt rfl false 9999
  unfold Oper.wp execOp
  rcases hr.find k with ⟨h1, h2, h3⟩ | ⟨j, e, v0, h1, h2, h3, h4⟩
  · have hf := Go.MapKept.run_findKey (P := P) (w := w) (kt := kt) hkt h1
    simp only [Instr.mapUpdate, hk.eval hx, hk.eval hy, hk.eval hz, Sem.run_bind, run_underlying ht, Go.MapKept.run_getObj_map hb, hck, hf, Result.andThen_ok, Go.MapKept.run_setObj_map _ hb, Sem.run_pure]
    refine hK _ _ h _ _ hk (hw.setMap u hb ?_)
    have := hr.push k v cl h3
    simpa using this
  · have hf := Go.MapKept.run_findKey (P := P) (w := w) (kt := kt) hkt h1
    have hks : (Instr.keyThatStays (((es[j]?).map (·.key)).getD (.int .i64 k)) (.int .i64 k)).run P w = .ok (.int .i64 k) w := by
      rw [Array.getElem?_toList] at h3
      simp [h3, h4, Instr.keyThatStays, Instr.sameBits]
    simp only [Instr.mapUpdate, hk.eval hx, hk.eval hy, hk.eval hz, Sem.run_bind, run_underlying ht, Go.MapKept.run_getObj_map hb, hck, hf, hks, Result.andThen_ok, Go.MapKept.run_setObj_map _ hb, Sem.run_pure]
    refine hK _ _ h _ _ hk (hw.setMap u hb ?_)
    have := hr.set k v h3 h4
    simpa using this

theorem OpV.clearMap {t kt et : TypeId} {x : Operand} {b : Nat} {m : Int → Option Int} (ht : P.underlying t = some (.map kt et))
    (hx : evalX f x = some (.map (some b))) (u : Hole H (MapR b m) C) (h : N (C (MapR b (fun _ => none))) f) :
    OpV W P n { dst := none, op := .call { callee := .builtin .clear, args := #[x], argTypes := #[t] }, type := ty_, pos, after, guard } Q H f N := by
  unfold OpV
  intro tm w hk hw K hK
  obtain ⟨R, p, q⟩ := u.perm
  obtain ⟨es, cl, hr, hb⟩ := (hw.perm p).mapAt (.head _)
  have hc : (Builtin.clear_ #[t] ty_ #[.map (some b)]).run P w = .ok (.tuple #[]) { w with heap := w.heap.setIfInBounds b (.map #[] cl) } := by
    simp [Builtin.clear_, Sem.run_bind, run_underlying ht, Go.MapKept.run_getObj_map hb, Go.MapKept.run_setObj_map _ hb]
  unfold Oper.wp execOp
  simp only [resolve, invoke, builtin, Sem.run_bind, Sem.run_pure, Result.andThen_ok, List.map_toArray, List.map_cons, List.map_nil, hk.eval hx, hc]
  exact hK _ _ h _ _ hk (hw.setMap u hb ReadsAs.nil)

/-! ### Arrays, function values -/

theorem PureAt.makeFunc1 {g : FuncId} {x : Operand} {v : Value} (hx : evalX f x = some v) : PureAt W P n H f { dst, op := .makeFunc (.func g) #[] #[x], type := ty_, pos, after, guard } (.func (.func g) #[] #[v]) := by
  unfold PureAt
  intro tm w hk hw
  simp [execOp, Instr.makeFunc, hk.eval hx]
theorem PureAt.toArray {t e : TypeId} {x : Operand} {a : Option Addr} {m len cap : Nat} (ht : P.underlying t = some (.array m e)) (hx : evalX f x = some (.slice a len cap)) (hl : m ≤ len) :
    PureAt W P n H f { dst, op := .sliceToArrayPointer t x, type := ty_, pos, after, guard } (.pointer a) := by
  unfold PureAt
  intro tm w hk hw
  simp [execOp, Instr.arrayAt, hk.eval hx, Sem.run_bind, run_underlying ht, Nat.not_lt.2 hl]
theorem PureAt.sliceArr {t e sz : TypeId} {x : Operand} {a : Addr} {m : Nat} (ht : P.underlying t = some (.array m e)) (hm : m ≠ 0) (hs : ∀ w, (sizeOf e).run P w = .ok sz w) (hx : evalX f x = some (.pointer (some a))) :
    PureAt W P n H f { dst, op := .slice t x none none none, type := ty_, pos, after, guard } (.slice (some (a.add 0)) m m) := by
  unfold PureAt
  intro tm w hk hw
  simp [execOp, Instr.sliceAt, Instr.sureAddr, Instr.sliceBounds, hk.eval hx, Sem.run_bind, run_underlying ht, hs, hm]

theorem OpV.allocE {t e : TypeId} {z : Value} {sz by_ : Nat} {cs : List Value} (st : SliceT P t e z sz by_) (hcs : z.cells = cs.toArray) (hd : Nat.blt d n = true)
    (h : ∀ b, N (Row b e cs :: H) ((d, .pointer (some ⟨b, 0, none⟩)) :: f)) : OpV W P n { dst := some d, op := .alloc e, type := ty_, pos, after, guard } Q H f N := by
  refine OpV.alloc (z := z) (fun w => ?_) hcs hd h
  obtain ⟨i, hi, hz, hsz, hby⟩ := info_parts st.info
  simp [zeroValue, typeInfo, hi, hz]
end

theorem Holds.ownMax {W w : World} {H : List SProp} {e sz k : Nat} {v : Value} {xs : List Value} (hw : Holds W H w) (m : Own e sz v k xs ∈ H) : k ≤ maxLen := by
  obtain ⟨R, p⟩ := mem_perm m
  obtain ⟨hl, hv⟩ := (hw.perm p).ownOpen
  rcases hv with ⟨_, rfl, _⟩ | ⟨b, cap', spare, he, hn, hm, hc, hR⟩
  · exact Nat.zero_le _
  · omega

/-! ### Lists of parts of one size -/

section
variable {α β : Type}
theorem flat_length {g : α → List β} {w : Nat} : ∀ (l : List α), (∀ a ∈ l, (g a).length = w) → (l.flatMap g).length = l.length * w
  | [], _ => by simp
  | a :: r, h => by
    rw [List.flatMap_cons, List.length_append, h a (.head _), flat_length r (fun x hx => h x (.tail _ hx)), List.length_cons, Nat.add_mul]; omega
theorem flat_part {g : α → List β} {w : Nat} : ∀ (l : List α) (j : Nat) (h : j < l.length), (∀ a ∈ l, (g a).length = w) → ((l.flatMap g).drop (j * w)).take w = g l[j]
  | a :: r, 0, _, h => by
    rw [List.flatMap_cons, Nat.zero_mul, List.drop_zero, List.take_append_of_le_length (by rw [h a (.head _)]; exact Nat.le_refl _), List.take_of_length_le (by rw [h a (.head _)]; exact Nat.le_refl _)]; rfl
  | a :: r, j + 1, hj, h => by
    have := flat_part r j (by simpa using hj) (fun x hx => h x (.tail _ hx))
    rw [List.flatMap_cons, Nat.add_mul, Nat.one_mul, Nat.add_comm (j * w) w, ← h a (.head _), List.drop_append, h a (.head _)]
    rw [show (g a).drop (w + j * w) = [] from List.drop_of_length_le (by rw [h a (.head _)]; omega), List.nil_append, Nat.add_sub_cancel_left]
    simpa using this
theorem flat_set {g : α → List β} {w : Nat} (b : α) : ∀ (l : List α) (j : Nat), j < l.length → (∀ a ∈ l, (g a).length = w) → (l.flatMap g).take (j * w) ++ g b ++ (l.flatMap g).drop (j * w + w) = (l.set j b).flatMap g
  | a :: r, 0, _, h => by
    rw [List.flatMap_cons, Nat.zero_mul, List.take_zero, List.nil_append, Nat.zero_add, List.drop_append, h a (.head _), List.drop_of_length_le (by rw [h a (.head _)]; exact Nat.le_refl _)]
    simp
  | a :: r, j + 1, hj, h => by
    have := flat_set b r j (by simpa using hj) (fun x hx => h x (.tail _ hx))
    have e1 : (g a ++ r.flatMap g).take ((j + 1) * w) = g a ++ (r.flatMap g).take (j * w) := by
      rw [List.take_append, List.take_of_length_le (by rw [h a (.head _), Nat.add_mul]; omega), h a (.head _), Nat.add_mul, Nat.one_mul, Nat.add_sub_cancel]
    have e2 : (g a ++ r.flatMap g).drop ((j + 1) * w + w) = (r.flatMap g).drop (j * w + w) := by
      rw [List.drop_append, List.drop_of_length_le (by rw [h a (.head _), Nat.add_mul]; omega), h a (.head _), List.nil_append]; congr 1; rw [Nat.add_mul]; omega
    rw [List.flatMap_cons, e1, e2, List.set_cons_succ, List.flatMap_cons, ← this]; simp
end
attribute [irreducible] MapR
end Go.Sl
