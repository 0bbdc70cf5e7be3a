import Derived.Test.YtpmmkmcbimnigaaM3
import Derived.DeepKeys3
import Derived.WideKeyRuns
/-! Text Ya. -/
/- The engine: maps by any key, interface values, calls through interfaces. Generic: no program is named. -/
set_option maxRecDepth 8000
set_option linter.unusedVariables false
set_option linter.unusedSimpArgs false
set_option linter.unusedSectionVars false
namespace Go.Sl
open Go Go.RowKit Go.MapKept

/-! ### Keys -/
/-- Keys of a type: how they look, and that they can be looked for. -/
structure KeyT (P : Program) (kt : TypeId) (κ : Type) [DecidableEq κ] (kv : κ → Value) (good : κ → Prop) : Prop where
  inj : ∀ a b, kv a = kv b → a = b
  check : ∀ (w : World) (em : Bool) k, good k → (Instr.checkKey em 10000 kt (kv k)).run P w = .ok () w
  find : ∀ (w : World) k, good k → ∀ es : List MapEntry, (∀ e ∈ es, ∃ a, good a ∧ e.key = kv a) →
    ((Instr.findKey kt (kv k) es).run P w = .ok none w ∧ ∀ e ∈ es, e.key ≠ kv k) ∨ ∃ j e, (Instr.findKey kt (kv k) es).run P w = .ok (some (j, e.val)) w ∧ es[j]? = some e ∧ e.key = kv k
  stays : ∀ (w : World) k, good k → (Instr.keyThatStays (kv k) (kv k)).run P w = .ok (kv k) w
/-- Structs of two ints. -/
abbrev pairV (k : Int × Int) : Value := .agg #[.int .i64 k.1, .int .i64 k.2]
def pairG (k : Int × Int) : Prop := (Lit.int .i64 k.1).wf = true ∧ (Lit.int .i64 k.2).wf = true
theorem KeyT.pair {P : Program} {kt : TypeId} (hB : flatB P kt [some .i64, some .i64] = true) (hwide : (match P.underlying kt with | some (.array _ _) | some (.struct _) => true | _ => false) = true) : KeyT P kt (Int × Int) pairV pairG := by
  have lits : ∀ k : Int × Int, pairG k → P.keyLits 2 kt [.int .i64 k.1, .int .i64 k.2] = some [.int .i64 k.1, .int .i64 k.2] ∧ (pairV k).formed P kt = true := fun k hk =>
    flat_lits (cs := [.int .i64 k.1, .int .i64 k.2]) hB rfl rfl (by
      intro l hl
      simp only [List.mem_cons, List.not_mem_nil, or_false] at hl
      rcases hl with h | h <;> subst h
      · exact hk.1
      · exact hk.2)
  have hkt : P.keyTypeAt 2 kt = true := by simp only [flatB, Bool.and_eq_true] at hB; exact hB.1.2
  have heq : ∀ (w : World) (a b : Int × Int), pairG a → pairG b → (Op.equal kt (pairV a) (pairV b)).run P w = .ok (decide (a = b)) w := by
    intro w a b ha hb
    obtain ⟨a1, a2⟩ := lits a ha
    obtain ⟨b1, b2⟩ := lits b hb
    obtain ⟨r, hr, hiff⟩ := Go.run_equalIn_deep 9998 2 kt hkt w 2 2 (pairV a) (pairV b) _ _ a2 b2 a1 b1
    have hrb : r = decide (a = b) := by
      rw [Bool.eq_iff_iff, hiff, decide_eq_true_iff]
      constructor
      · intro h
        simp only [List.cons.injEq, Lit.int.injEq, true_and, and_true] at h
        exact Prod.ext h.1 h.2
      · intro h; subst h; rfl
    rw [← hrb]; exact hr
  have asking : ∀ (w : World) (k : Int × Int), pairG k → ∀ (es : List MapEntry) (i : Nat), (∀ e ∈ es, ∃ a, pairG a ∧ e.key = pairV a) →
      ((Instr.findAsking kt (pairV k) es i).run P w = .ok none w ∧ ∀ e ∈ es, e.key ≠ pairV k) ∨ ∃ j e, (Instr.findAsking kt (pairV k) es i).run P w = .ok (some (i + j, e.val)) w ∧ es[j]? = some e ∧ e.key = pairV k := by
    intro w k hk es
    induction es with
    | nil => intro i _; exact .inl ⟨by simp [Instr.findAsking], fun e he => (by cases he)⟩
    | cons e r ih =>
      intro i hall
      obtain ⟨a, ha, hae⟩ := hall e (.head _)
      have he := heq w k a hk ha
      rw [← hae] at he
      by_cases hka : k = a
      · rw [decide_eq_true hka] at he
        exact .inr ⟨0, e, by simp [Instr.findAsking, he], rfl, by rw [hae, hka]⟩
      · rw [decide_eq_false hka] at he
        rcases ih (i + 1) (fun x hx => hall x (.tail _ hx)) with ⟨h1, h2⟩ | ⟨j, x, h1, h2, h3⟩
        · refine .inl ⟨by simp [Instr.findAsking, he, h1], fun x hx => ?_⟩
          cases hx with
          | head => rw [hae]; intro q; apply hka; simp only [pairV, Value.agg.injEq, Array.mk.injEq, List.cons.injEq, Value.int.injEq, true_and, and_true] at q; exact Prod.ext q.1.symm q.2.symm
          | tail _ hx => exact h2 x hx
        · exact .inr ⟨j + 1, x, by simp [Instr.findAsking, he, h1, Nat.add_assoc, Nat.add_comm 1 j], by simpa using h2, h3⟩
  refine ⟨fun a b h => ?_, fun w em k hk => ?_, fun w k hk es hall => ?_, fun w k hk => ?_⟩
  · simp only [pairV, Value.agg.injEq, Array.mk.injEq, List.cons.injEq, Value.int.injEq, true_and, and_true] at h
    exact Prod.ext h.1 h.2
  · obtain ⟨a1, a2⟩ := lits k hk
    exact Go.run_checkKey_deep em 9998 2 kt hkt w 2 (pairV k) _ a2 a1
  · rw [Go.run_findKey_eq (w := w) hwide]
    rcases asking w k hk es 0 hall with h | ⟨j, e, h1, h2, h3⟩
    · exact .inl h
    · exact .inr ⟨j, e, by rw [h1, Nat.zero_add], h2, h3⟩
  · simp [Instr.keyThatStays, Instr.sameBits]
abbrev boolV (k : Bool) : Value := .bool k
theorem KeyT.bool {P : Program} {kt : TypeId} (hkt : P.underlying kt = some .bool) : KeyT P kt Bool boolV (fun _ => True) := by
  refine ⟨fun a b h => by simpa using h, fun w em k _ => ?_, fun w k _ es hall => ?_, fun w k _ => ?_⟩
  · exact Go.MapKept.run_checkKey (P := P) (w := w) (kt := kt) (k := .bool k) hkt trivial em 9999
  · rcases findNow_spec (d := .bool) (k := .bool k) trivial es 0 (fun e he => by obtain ⟨a, _, h1⟩ := hall e he; rw [h1]; exact trivial) with ⟨h1, h2⟩ | ⟨j, e, h1, h2, h3⟩
    · exact .inl ⟨Go.MapKept.run_findKey (P := P) (w := w) (kt := kt) hkt h1, h2⟩
    · exact .inr ⟨j, e, by rw [Go.MapKept.run_findKey (P := P) (w := w) (kt := kt) hkt h1, Nat.zero_add], h2, h3⟩
  · simp [Instr.keyThatStays, Instr.sameBits]

/-! ### Maps -/
section
variable {κ : Type} [DecidableEq κ] {kv : κ → Value} {good : κ → Prop}
/-- The entries are these, in some order. -/
structure MRel (kv : κ → Value) (good : κ → Prop) (es : List MapEntry) (D : List (κ × Value)) : Prop where
  perm : List.Perm (es.map fun e => (e.key, e.val)) (D.map fun x => (kv x.1, x.2))
  one : (D.map (·.1)).Nodup
  good : ∀ x ∈ D, good x.1
def MapL (kv : κ → Value) (good : κ → Prop) (b : Nat) (D : List (κ × Value)) : SProp := ex fun x : Array MapEntry × Nat => Sl.star [fact (MRel kv good x.1.toList D), At b (.map x.1 x.2)]
theorem MapL.open {W w : World} {b : Nat} {D : List (κ × Value)} {R : List SProp} (hw : Holds W (MapL kv good b D :: R) w) : ∃ es cl, MRel kv good es.toList D ∧ Holds W (At b (.map es cl) :: R) w := by
  obtain ⟨⟨es, cl⟩, h⟩ := hw.exOpen
  have h := h.join
  exact ⟨es, cl, h.factOpen, h.tail⟩
theorem MapL.shut {W w : World} {b : Nat} {D : List (κ × Value)} {R : List SProp} {es : Array MapEntry} {cl : Nat} (hr : MRel kv good es.toList D) (hw : Holds W (At b (.map es cl) :: R) w) : Holds W (MapL kv good b D :: R) w :=
  Holds.exShut (es, cl) (Holds.nest (L := [_, _]) (hw.factShut hr))
theorem MRel.nil : MRel kv good [] [] := ⟨.refl _, List.nodup_nil, fun x h => (by cases h)⟩
def getD (D : List (κ × Value)) (k : κ) : Option Value := (D.find? fun x => x.1 = k).map (·.2)
def putD (D : List (κ × Value)) (k : κ) (v : Value) : List (κ × Value) := D.filter (fun x => x.1 ≠ k) ++ [(k, v)]
def delD (D : List (κ × Value)) (k : κ) : List (κ × Value) := D.filter fun x => x.1 ≠ k
theorem getD_none {D : List (κ × Value)} {k : κ} (h : ∀ x ∈ D, x.1 ≠ k) : getD D k = none := by
  unfold getD
  rw [List.find?_eq_none.2 (fun x hx => by simpa using h x hx)]; rfl
theorem getD_some {D : List (κ × Value)} {k : κ} {v : Value} (h1 : (D.map (·.1)).Nodup) (h : (k, v) ∈ D) : getD D k = some v := by
  unfold getD
  induction D with
  | nil => cases h
  | cons x r ih =>
    rw [List.map_cons, List.nodup_cons] at h1
    by_cases q : x.1 = k
    · rw [List.find?_cons_of_pos (by simpa using q)]
      cases h with
      | head => rfl
      | tail _ h => exact absurd (q ▸ List.mem_map_of_mem h : x.1 ∈ r.map (·.1)) h1.1
    · rw [List.find?_cons_of_neg (by simpa using q)]
      cases h with
      | head => exact absurd rfl q
      | tail _ h => exact ih h1.2 h
theorem delD_of_not {D : List (κ × Value)} {k : κ} (h : ∀ x ∈ D, x.1 ≠ k) : delD D k = D := List.filter_eq_self.2 fun x hx => by simpa using h x hx
theorem perm_erase {α : Type} {l : List α} {i : Nat} {a : α} (h : l[i]? = some a) : List.Perm l (a :: l.eraseIdx i) := by
  obtain ⟨hi, rfl⟩ := List.getElem?_eq_some_iff.1 h
  rw [List.eraseIdx_eq_take_drop_succ]
  have : l = l.take i ++ l[i] :: l.drop (i + 1) := by rw [← List.drop_eq_getElem_cons hi, List.take_append_drop]
  exact (List.Perm.of_eq this).trans List.perm_middle
/-- What is looked for, and what the entries are without it. -/
theorem MRel.at {P : Program} {kt : TypeId} (K : KeyT P kt κ kv good) {es : List MapEntry} {D : List (κ × Value)} (h : MRel kv good es D) (w : World) (k : κ) (hk : good k) :
    ((Instr.findKey kt (kv k) es).run P w = .ok none w ∧ getD D k = none ∧ (∀ x ∈ D, x.1 ≠ k)) ∨
    ∃ j e v, (Instr.findKey kt (kv k) es).run P w = .ok (some (j, v)) w ∧ getD D k = some v ∧ es[j]? = some e ∧ e.key = kv k ∧ e.val = v ∧ List.Perm ((es.eraseIdx j).map fun e => (e.key, e.val)) ((delD D k).map fun x => (kv x.1, x.2)) := by
  have hall : ∀ e ∈ es, ∃ a, good a ∧ e.key = kv a := by
    intro e he
    have := h.perm.subset (List.mem_map_of_mem he)
    obtain ⟨x, hx, hxe⟩ := List.mem_map.1 this
    exact ⟨x.1, h.good x hx, by have := congrArg Prod.fst hxe; exact this.symm⟩
  rcases K.find w k hk es hall with ⟨h1, h2⟩ | ⟨j, e, h1, h2, h3⟩
  · have hn : ∀ x ∈ D, x.1 ≠ k := by
      intro x hx q
      have := h.perm.symm.subset (List.mem_map_of_mem hx)
      obtain ⟨e, he, hxe⟩ := List.mem_map.1 this
      exact h2 e he (by have := congrArg Prod.fst hxe; rw [← q]; exact this)
    exact .inl ⟨h1, getD_none hn, hn⟩
  · have hm : (kv k, e.val) ∈ D.map fun x => (kv x.1, x.2) := by
      have := h.perm.subset (List.mem_map_of_mem (List.mem_of_getElem? h2))
      rwa [h3] at this
    obtain ⟨x, hx, hxe⟩ := List.mem_map.1 hm
    have hxk : x.1 = k := K.inj _ _ (congrArg Prod.fst hxe)
    have hxv : x.2 = e.val := congrArg Prod.snd hxe
    have hxD : (k, e.val) ∈ D := by rw [← hxk, ← hxv]; exact hx
    refine .inr ⟨j, e, e.val, h1, getD_some h.one hxD, h2, h3, rfl, ?_⟩
    have p1 : List.Perm (es.map fun e => (e.key, e.val)) ((kv k, e.val) :: (es.eraseIdx j).map fun e => (e.key, e.val)) := by
      have := (perm_erase h2).map fun e => (e.key, e.val)
      rwa [List.map_cons, h3] at this
    have p2 : ∀ (D : List (κ × Value)), (D.map (·.1)).Nodup → (k, e.val) ∈ D → List.Perm D ((k, e.val) :: delD D k) := by
      intro D
      induction D with
      | nil => intro _ h; cases h
      | cons y r ih =>
        intro hd hm
        rw [List.map_cons, List.nodup_cons] at hd
        by_cases q : y.1 = k
        · have hr : ∀ z ∈ r, z.1 ≠ k := fun z hz q2 => hd.1 (by rw [q, ← q2]; exact List.mem_map_of_mem hz)
          have hy : y = (k, e.val) := by
            cases hm with
            | head => rfl
            | tail _ hm => exact absurd rfl (hr _ hm)
          have : delD (y :: r) k = r := by
            unfold delD
            rw [List.filter_cons_of_neg (by simpa using q)]
            exact delD_of_not hr
          rw [this, hy]
        · have : delD (y :: r) k = y :: delD r k := by unfold delD; rw [List.filter_cons_of_pos (by simpa using q)]
          rw [this]
          cases hm with
          | head => exact absurd rfl q
          | tail _ hm => exact ((ih hd.2 hm).cons y).trans (List.Perm.swap _ _ _)
    have p3 := (p2 D h.one hxD).map fun x : κ × Value => (kv x.1, x.2)
    rw [List.map_cons] at p3
    exact (p1.symm.trans (h.perm.trans p3)).cons_inv
theorem nodup_del {D : List (κ × Value)} (h : (D.map (·.1)).Nodup) (k : κ) : ((delD D k).map (·.1)).Nodup := h.sublist ((List.filter_sublist).map _)
theorem MRel.put {P : Program} {kt : TypeId} {es es' : List MapEntry} {D : List (κ × Value)} (h : MRel kv good es D) (k : κ) (hk : good k) (v : Value) (hp : List.Perm (es'.map fun e => (e.key, e.val)) ((kv k, v) :: (delD D k).map fun x => (kv x.1, x.2))) : MRel kv good es' (putD D k v) := by
  refine ⟨?_, ?_, ?_⟩
  · unfold putD
    rw [List.map_append, List.map_singleton]
    exact hp.trans (List.perm_append_comm (l₁ := [(kv k, v)]))
  · unfold putD
    rw [List.map_append, List.map_singleton]
    refine List.nodup_append.2 ⟨nodup_del h.one k, by simp, ?_⟩
    intro a ha b hb
    rw [List.mem_singleton] at hb
    obtain ⟨x, hx, rfl⟩ := List.mem_map.1 ha
    have := (List.mem_filter.1 hx).2
    rw [hb]
    simpa using this
  · intro x hx
    rcases List.mem_append.1 hx with hx | hx
    · exact h.good x (List.mem_filter.1 hx).1
    · rw [List.mem_singleton] at hx; subst hx; exact hk
theorem MRel.del {es' es : List MapEntry} {D : List (κ × Value)} (h : MRel kv good es D) (k : κ) (hp : List.Perm (es'.map fun e => (e.key, e.val)) ((delD D k).map fun x => (kv x.1, x.2))) : MRel kv good es' (delD D k) :=
  ⟨hp, nodup_del h.one k, fun x hx => h.good x (List.mem_filter.1 hx).1⟩
end
section
variable {W : World} {P : Program} {n : Nat} {c : Code} {Q : Exit → Act → World → Prop} {H H' L S : List SProp} {f F : Fr} {C : SProp → List SProp}
variable {N : List SProp → Fr → Prop} {dst : Option Tmp} {d : Nat} {ty_ : TypeId} {pos : String} {after : Array Edge} {guard : Option (Nat × Bool)}
variable {κ : Type} [DecidableEq κ] {kv : κ → Value} {good : κ → Prop} {D : List (κ × Value)}

theorem OpV.makeMapL {t : TypeId} (kv : κ → Value) (good : κ → Prop) (hd : Nat.blt d n = true) (h : ∀ b, N (MapL kv good b [] :: H) ((d, .map (some b)) :: f)) :
    OpV W P n { dst := some d, op := .makeMap t none, type := ty_, pos, after, guard } Q H f N := by
  refine OpV.run hd (fun tm w hk hw => ⟨w.heap.size, _, ?_, MapL.shut (es := #[]) (cl := 0) MRel.nil hw.allocObj⟩) h
  unfold execOp
  simp only [Option.map_none, Sem.run_bind, run_makeMap, Result.andThen_ok, Sem.run_pure]
theorem Holds.mapL {b : Nat} {w : World} (hw : Holds W H w) (hm : MapL kv good b D ∈ H) : ∃ es cl, MRel kv good es.toList D ∧ w.heap[b]? = some (.map es cl) := by
  obtain ⟨R, p⟩ := mem_perm hm
  obtain ⟨es, cl, h1, h2⟩ := MapL.open (hw.perm p)
  exact ⟨es, cl, h1, (h2.at (.head _)).2⟩
theorem PureAt.lookupOk {t kt et : TypeId} {x y : Operand} {b : Nat} {k : κ} {z : Value} (ht : P.underlying t = some (.map kt et)) (K : KeyT P kt κ kv good) (hg : good k) (hz : ∀ w, (zeroValue et).run P w = .ok z w)
    (hx : evalX f x = some (.map (some b))) (hy : evalX f y = some (kv k)) (hm : MapL kv good b D ∈ H) :
    PureAt W P n H f { dst, op := .lookup t x y true, type := ty_, pos, after, guard } (.tuple #[(getD D k).getD z, .bool (getD D k).isSome]) := by
  unfold PureAt
  intro tm w hk hw
  obtain ⟨es, cl, hr, hb⟩ := hw.mapL hm
  have hck := K.check w es.isEmpty k hg
  rcases hr.at K w k hg with ⟨h1, h2, _⟩ | ⟨j, e, v, h1, h2, _⟩
  · simp [execOp, Instr.lookup, hk.eval hx, hk.eval hy, Sem.run_bind, run_underlying ht, Go.MapKept.run_getObj_map hb, hck, h1, hz, h2]
  · simp [execOp, Instr.lookup, hk.eval hx, hk.eval hy, Sem.run_bind, run_underlying ht, Go.MapKept.run_getObj_map hb, hck, h1, h2]
theorem PureAt.lookup1 {t kt et : TypeId} {x y : Operand} {b : Nat} {k : κ} {z : Value} (ht : P.underlying t = some (.map kt et)) (K : KeyT P kt κ kv good) (hg : good k) (hz : ∀ w, (zeroValue et).run P w = .ok z w)
    (hx : evalX f x = some (.map (some b))) (hy : evalX f y = some (kv k)) (hm : MapL kv good b D ∈ H) :
    PureAt W P n H f { dst, op := .lookup t x y false, type := ty_, pos, after, guard } ((getD D k).getD z) := by
  unfold PureAt
  intro tm w hk hw
  obtain ⟨es, cl, hr, hb⟩ := hw.mapL hm
  have hck := K.check w es.isEmpty k hg
  rcases hr.at K w k hg with ⟨h1, h2, _⟩ | ⟨j, e, v, h1, h2, _⟩
  · simp [execOp, Instr.lookup, hk.eval hx, hk.eval hy, Sem.run_bind, run_underlying ht, Go.MapKept.run_getObj_map hb, hck, h1, hz, h2]
  · simp [execOp, Instr.lookup, hk.eval hx, hk.eval hy, Sem.run_bind, run_underlying ht, Go.MapKept.run_getObj_map hb, hck, h1, h2]
theorem PureAt.lenMap {t kt et : TypeId} {x : Operand} {b : Nat} (ht : P.underlying t = some (.map kt et)) (hx : evalX f x = some (.map (some b))) (hm : MapL kv good b D ∈ H) :
    PureAt W P n H f { dst, op := .call { callee := .builtin .len, args := #[x], argTypes := #[t] }, type := ty_, pos, after, guard } (.int .i64 (D.length : Int)) := by
  unfold PureAt
  intro tm w hk hw
  obtain ⟨es, cl, hr, hb⟩ := hw.mapL hm
  have hl : es.size = D.length := by have := hr.perm.length_eq; simpa using this
  unfold execOp
  simp [resolve, invoke, builtin, hk.eval hx, Builtin.len_, run_underlying ht, goInt, Go.MapKept.run_getObj_map hb, hl]
theorem Holds.setMapL {w : World} {b : Nat} {D' : List (κ × Value)} {es : Array MapEntry} {cl cl' : Nat} {es' : Array MapEntry} (hw : Holds W H w) (u : Hole H (MapL kv good b D) C) (hb : w.heap[b]? = some (.map es cl)) (hr : MRel kv good es'.toList D') :
    Holds W (C (MapL kv good b D')) { w with heap := w.heap.setIfInBounds b (.map es' cl') } := by
  obtain ⟨R, p, q⟩ := u.perm
  obtain ⟨es0, cl0, _, h2⟩ := MapL.open (hw.perm p)
  obtain ⟨s1, s2⟩ := Go.MapKept.heap_set (o' := .map es' cl') hb
  exact Holds.perm (q _) (MapL.shut hr (h2.put .head rfl rfl rfl (by simp) (fun k hk => s2 k hk) s1))
theorem mapStore {t kt et : TypeId} {b : Nat} {k : κ} {v : Value} (ht : P.underlying t = some (.map kt et)) (K : KeyT P kt κ kv good) (hg : good k) (u : Hole H (MapL kv good b D) C) {w : World} (hw : Holds W H w) :
    ∃ w', (Instr.mapUpdate t (.map (some b)) (kv k) v).run P w = .ok () w' ∧ Holds W (C (MapL kv good b (putD D k v))) w' := by
  obtain ⟨R, p, q⟩ := u.perm
  obtain ⟨es, cl, hr, hb⟩ := (hw.perm p).mapL (.head _)
  have hck := K.check w false k hg
  rcases hr.at K w k hg with ⟨h1, h2, h3⟩ | ⟨j, e, v0, h1, h2, h3, h4, h5, h6⟩
  · refine ⟨{ w with heap := w.heap.setIfInBounds b (.map (es.push ⟨kv k, v, cl⟩) (cl + 1)) }, by simp only [Instr.mapUpdate, Sem.run_bind, run_underlying ht, Go.MapKept.run_getObj_map hb, hck, h1, Result.andThen_ok, Go.MapKept.run_setObj_map _ hb], hw.setMapL u hb (hr.put (P := P) (kt := kt) k hg v ?_)⟩
    rw [delD_of_not h3, Array.toList_push, List.map_append, List.map_singleton]
    exact (List.perm_append_comm (l₂ := [(kv k, v)])).trans (hr.perm.cons _)
  · have hks : (Instr.keyThatStays (((es[j]?).map (·.key)).getD (kv k)) (kv k)).run P w = .ok (kv k) w := by
      rw [Array.getElem?_toList] at h3
      simp only [h3, h4, Option.map_some, Option.getD_some]
      exact K.stays w k hg
    refine ⟨{ w with heap := w.heap.setIfInBounds b (.map (es.modify j fun e => { e with key := kv k, val := v }) cl) }, by simp only [Instr.mapUpdate, Sem.run_bind, run_underlying ht, Go.MapKept.run_getObj_map hb, hck, h1, hks, Result.andThen_ok, Go.MapKept.run_setObj_map _ hb], hw.setMapL u hb (hr.put (P := P) (kt := kt) k hg v ?_)⟩
    rw [Array.toList_modify]
    have hm : (es.toList.modify j fun e => { e with key := kv k, val := v })[j]? = some { e with key := kv k, val := v } := by
      rw [List.getElem?_modify, h3]; simp
    have he : (es.toList.modify j fun e => { e with key := kv k, val := v }).eraseIdx j = es.toList.eraseIdx j := by
      rw [List.eraseIdx_modify_of_eq]
    have := (perm_erase hm).map fun e => (e.key, e.val)
    rw [List.map_cons, he] at this
    exact this.trans (h6.cons _)
theorem OpV.mapUpdateL {t kt et : TypeId} {x y z : Operand} {b : Nat} {k : κ} {v : Value} (ht : P.underlying t = some (.map kt et)) (K : KeyT P kt κ kv good) (hg : good k)
    (hx : evalX f x = some (.map (some b))) (hy : evalX f y = some (kv k)) (hz : evalX f z = some v) (u : Hole H (MapL kv good b D) C) (h : N (C (MapL kv good b (putD D k v))) f) :
    OpV W P n { dst := none, op := .mapUpdate t x y z, type := ty_, pos, after, guard } Q H f N := by
  unfold OpV
  intro tm w hk hw K0 hK
  obtain ⟨w', hr, h2⟩ := mapStore (v := v) ht K hg u hw
  unfold Oper.wp execOp
  simp only [hk.eval hx, hk.eval hy, hk.eval hz, hr, Sem.run_bind, Result.andThen_ok, Sem.run_pure]
  exact hK _ _ h _ _ hk h2
theorem OpV.insertL {t kt et : TypeId} {x y z : Operand} {b : Nat} {k : κ} {v : Value} (ht : P.underlying t = some (.map kt et)) (K : KeyT P kt κ kv good) (hg : good k)
    (hx : evalX f x = some (.map (some b))) (hy : evalX f y = some (kv k)) (hz : evalX f z = some v) (u : Hole H (MapL kv good b D) C) (h : N (C (MapL kv good b (putD D k v))) f) :
    OpV W P n { dst := none, op := .insert t x y z, type := ty_, pos, after, guard } Q H f N := by
  unfold OpV
  intro tm w hk hw K0 hK
  obtain ⟨w', hr, h2⟩ := mapStore (v := v) ht K hg u hw
  unfold Oper.wp execOp
  simp only [hk.eval hx, hk.eval hy, hk.eval hz, hr, Sem.run_bind, Result.andThen_ok, Sem.run_pure]
  exact hK _ _ h _ _ hk h2
theorem OpV.deleteL {t kt et ta : TypeId} {x y : Operand} {b : Nat} {k : κ} (ht : P.underlying t = some (.map kt et)) (K : KeyT P kt κ kv good) (hg : good k)
    (hx : evalX f x = some (.map (some b))) (hy : evalX f y = some (kv k)) (u : Hole H (MapL kv good b D) C) (h : N (C (MapL kv good b (delD D k))) f) :
    OpV W P n { dst := none, op := .call { callee := .builtin .delete, args := #[x, y], argTypes := #[t, ta] }, type := ty_, pos, after, guard } Q H f N := by
  unfold OpV
  intro tm w hk hw K0 hK
  obtain ⟨R, p, q⟩ := u.perm
  obtain ⟨es, cl, hr, hb⟩ := (hw.perm p).mapL (.head _)
  have hck := K.check w es.isEmpty k hg
  unfold Oper.wp execOp
  rcases hr.at K w k hg with ⟨h1, h2, h3⟩ | ⟨j, e, v0, h1, h2, h3, h4, h5, h6⟩
  · have hc : (Builtin.delete_ #[t, ta] ty_ #[.map (some b), kv k]).run P w = .ok (.tuple #[]) { w with heap := w.heap.setIfInBounds b (.map es cl) } := by
      simp [Builtin.delete_, Sem.run_bind, run_underlying ht, Go.MapKept.run_getObj_map hb, hck, h1, Go.MapKept.run_setObj_map _ hb]
    simp only [resolve, invoke, builtin, Sem.run_bind, Sem.run_pure, Result.andThen_ok, List.map_toArray, List.map_cons, List.map_nil, hk.eval hx, hk.eval hy, hc]
    refine hK _ _ h _ _ hk (hw.setMapL u hb (hr.del k ?_))
    rw [delD_of_not h3]; exact hr.perm
  · have hc : (Builtin.delete_ #[t, ta] ty_ #[.map (some b), kv k]).run P w = .ok (.tuple #[]) { w with heap := w.heap.setIfInBounds b (.map (es.eraseIdxIfInBounds j) cl) } := by
      simp [Builtin.delete_, Sem.run_bind, run_underlying ht, Go.MapKept.run_getObj_map hb, hck, h1, Go.MapKept.run_setObj_map _ hb]
    simp only [resolve, invoke, builtin, Sem.run_bind, Sem.run_pure, Result.andThen_ok, List.map_toArray, List.map_cons, List.map_nil, hk.eval hx, hk.eval hy, hc]
    refine hK _ _ h _ _ hk (hw.setMapL u hb (hr.del k ?_))
    have : (es.eraseIdxIfInBounds j).toList = es.toList.eraseIdx j := by
      simp [Array.eraseIdxIfInBounds]
      split
      · simp
      · rename_i hj
        rw [List.eraseIdx_of_length_le (by simpa using hj)]
    rw [this]; exact h6

/-! ### Interface values, calls through them -/
theorem PureAt.makeIface {t : TypeId} {x : Operand} {v : Value} {dsc : TypeDesc} (hu : P.underlying t = some dsc) (hn : ∀ ms, dsc ≠ .interface ms) (hx : evalX f x = some v) :
    PureAt W P n H f { dst, op := .makeInterface t x, type := ty_, pos, after, guard } (.iface t v) := by
  unfold PureAt
  intro tm w hk hw
  cases dsc <;> first | exact absurd rfl (hn _) | simp [execOp, Instr.makeInterface, hk.eval hx, Sem.run_bind, run_underlying hu]
theorem PureAt.assertIface {x : Operand} {xt t : TypeId} {v : Value} {dsc : TypeDesc} (hu : P.underlying t = some dsc) (hn : ∀ ms, dsc ≠ .interface ms) (hx : evalX f x = some (.iface t v)) :
    PureAt W P n H f { dst, op := .typeAssert x xt t false, type := ty_, pos, after, guard } v := by
  unfold PureAt
  intro tm w hk hw
  cases dsc <;> first | exact absurd rfl (hn _) | simp [execOp, Instr.typeAssert, hk.eval hx, Sem.run_bind, run_underlying hu]
theorem OpV.invoke {x : Operand} {name : String} {xs : Array Operand} {ats : Array TypeId} {g : FuncId} {t : TypeId} {v recv : Value} {vs : List Value} {β : Type} {A : β → Prop} {r : β → Value} {G : β → List SProp}
    (hx : evalX f x = some (.iface t v)) (ha : argsX f xs.toList = some vs) (hc : ∀ w, Holds W H w → (callMethod (.iface t v) name vs.toArray).run P w = .ok (.enter g (recv :: vs).toArray) w) (spec : Does W P g (recv :: vs) L A r G)
    (hL : Ent W H L) (hd : Nat.blt d n = true) (h : ∀ y, A y → N (G y) ((d, r y) :: f)) :
    OpV W P n { dst := some d, op := .call { callee := .invoke x name, args := xs, argTypes := ats }, type := ty_, pos, after, guard } Q H f N := by
  unfold OpV
  intro tm w hk hw K hK
  have hargs : xs.map (Act.eval ⟨tm, []⟩) = vs.toArray := by
    have := hk.args ha
    apply Array.ext'
    simpa using this
  unfold Does at spec
  have hs := spec w (hL w hw)
  have hcw := hc w hw
  have hex : (#[Value.iface t v] ++ vs.toArray).extract 1 (#[Value.iface t v] ++ vs.toArray).size = vs.toArray := by
    apply Array.ext'; simp
  unfold Oper.wp execOp
  simp only [resolve, hk.eval hx, hargs, Go.invoke, Sem.run_bind, Sem.run_pure, Result.andThen_ok]
  have h0 : (#[Value.iface t v] ++ vs.toArray)[0]? = some (Value.iface t v) := by simp
  simp only [h0, hex, hcw, Oper.upon]
  refine Calls.mono hs ?_
  rintro e w' ⟨y, hA, rfl, hG⟩
  exact hK _ _ (h y hA) _ _ (hk.put hd) hG
end
attribute [irreducible] MapL
end Go.Sl

/-! Text Yb. -/
/- A heap of places, as package heap keeps it: plain lists, no program in sight. -/
set_option maxRecDepth 8000
set_option linter.unusedVariables false
set_option linter.unusedSimpArgs false
namespace Go.Sl
/-- A member and a row: by rows, then by members. -/
abbrev Pl := Int × Int
def plt (a b : Pl) : Prop := a.2 < b.2 ∨ (a.2 = b.2 ∧ a.1 < b.1)
instance (a b : Pl) : Decidable (plt a b) := by unfold plt; infer_instance
theorem plt_irrefl (a : Pl) : ¬ plt a a := by unfold plt; omega
theorem nplt_trans {a b c : Pl} (h1 : ¬ plt b a) (h2 : ¬ plt c b) : ¬ plt c a := by unfold plt at *; omega
theorem plt_asymm {a b : Pl} (h1 : plt a b) : ¬ plt b a := by unfold plt at *; omega
theorem plt_anti {a b : Pl} (h1 : ¬ plt a b) (h2 : ¬ plt b a) : a = b := by
  unfold plt at *
  exact Prod.ext (by omega) (by omega)
def pl (l : List Pl) (i : Nat) : Pl := l.getD i (0, 0)
theorem pl_at {l : List Pl} {i : Nat} (h : i < l.length) : pl l i = l[i] := by unfold pl; rw [List.getD_eq_getElem?_getD, List.getElem?_eq_getElem h]; rfl
def swp (l : List Pl) (i j : Nat) : List Pl := (l.set i (pl l j)).set j (pl l i)
theorem swp_length (l : List Pl) (i j : Nat) : (swp l i j).length = l.length := by simp [swp]
theorem pl_swp {l : List Pl} {i j : Nat} (hi : i < l.length) (hj : j < l.length) (k : Nat) : pl (swp l i j) k = if k = j then pl l i else if k = i then pl l j else pl l k := by
  have gD : ∀ (l : List Pl) (k : Nat), pl l k = (l[k]?).getD (0, 0) := fun l k => by unfold pl; rw [List.getD_eq_getElem?_getD]
  rw [gD (swp l i j)]
  unfold swp
  rw [List.getElem?_set, List.getElem?_set]
  simp only [List.length_set]
  by_cases h1 : j = k
  · subst h1
    rw [if_pos rfl, if_pos hj, if_pos rfl]; rfl
  · by_cases h2 : i = k
    · subst h2
      rw [if_neg h1, if_pos rfl, if_pos hi, if_neg (Ne.symm h1), if_pos rfl]; rfl
    · rw [if_neg h1, if_neg h2, if_neg (Ne.symm h1), if_neg (Ne.symm h2), gD]
theorem swp_perm {l : List Pl} {i j : Nat} (hi : i < l.length) (hj : j < l.length) : List.Perm (swp l i j) l := by
  have h := (Array.swap_perm (xs := l.toArray) (i := i) (j := j) (by simpa using hi) (by simpa using hj)).toList
  have e : (l.toArray.swap i j (by simpa using hi) (by simpa using hj)).toList = swp l i j := by
    unfold swp
    simp [pl_at hi, pl_at hj]
  rw [e] at h
  exact h
/-- The first n keep the order: none is below the one above it. -/
def Heap (l : List Pl) (n : Nat) : Prop := ∀ c, 0 < c → c < n → ¬ plt (pl l c) (pl l ((c - 1) / 2))
theorem Heap.least {l : List Pl} {n : Nat} (h : Heap l n) : ∀ c, c < n → ¬ plt (pl l c) (pl l 0) := by
  intro c
  induction c using Nat.strongRecOn with
  | ind c ih =>
    intro hc
    rcases Nat.eq_zero_or_pos c with rfl | hp
    · exact plt_irrefl _
    · exact nplt_trans (ih ((c - 1) / 2) (by omega) (by omega)) (h c hp hc)
theorem Heap.nil : Heap [] 0 := fun c _ h => (by omega)
/-- On the way up: all but the one at j. -/
structure UpInv (l : List Pl) (j : Nat) : Prop where
  at_ : j < l.length
  all : ∀ c, 0 < c → c < l.length → c ≠ j → ¬ plt (pl l c) (pl l ((c - 1) / 2))
  kids : ∀ c, 0 < c → c < l.length → (c - 1) / 2 = j → 0 < j → ¬ plt (pl l c) (pl l ((j - 1) / 2))
theorem UpInv.start {l : List Pl} (h : Heap l l.length) (x : Pl) : UpInv (l ++ [x]) l.length := by
  have e : ∀ c, c < l.length → pl (l ++ [x]) c = pl l c := fun c hc => by unfold pl; rw [List.getD_eq_getElem?_getD, List.getD_eq_getElem?_getD, List.getElem?_append_left hc]
  refine ⟨by simp, fun c h0 hc hn => ?_, fun c h0 hc hk _ => ?_⟩
  · simp only [List.length_append, List.length_singleton] at hc
    rw [e c (by omega), e _ (by omega)]
    exact h c h0 (by omega)
  · simp only [List.length_append, List.length_singleton] at hc
    omega
theorem UpInv.step {l : List Pl} {j : Nat} (h : UpInv l j) (hj : 0 < j) (hlt : plt (pl l j) (pl l ((j - 1) / 2))) : UpInv (swp l ((j - 1) / 2) j) ((j - 1) / 2) := by
  obtain ⟨h1, h2, h3⟩ := h
  have hp : (j - 1) / 2 < l.length := by omega
  refine ⟨by rw [swp_length]; exact hp, fun c h0 hc hn => ?_, fun c h0 hc hk hp0 => ?_⟩
  · rw [swp_length] at hc
    rw [pl_swp hp h1, pl_swp hp h1]
    by_cases q : c = j
    · subst q
      rw [if_pos rfl, if_neg (by omega), if_pos rfl]
      exact plt_asymm hlt
    · rw [if_neg q, if_neg hn]
      by_cases q1 : (c - 1) / 2 = j
      · rw [if_pos q1]
        exact h3 c h0 hc q1 hj
      · rw [if_neg q1]
        by_cases q2 : (c - 1) / 2 = (j - 1) / 2
        · rw [if_pos q2]
          exact nplt_trans (plt_asymm hlt) (by have := h2 c h0 hc q; rwa [q2] at this)
        · rw [if_neg q2]
          exact h2 c h0 hc q
  · rw [swp_length] at hc
    have hgp := h2 ((j - 1) / 2) hp0 hp (by omega)
    rw [pl_swp hp h1, pl_swp hp h1, if_neg (c := ((j - 1) / 2 - 1) / 2 = j) (by omega), if_neg (c := ((j - 1) / 2 - 1) / 2 = (j - 1) / 2) (by omega)]
    by_cases q : c = j
    · rw [if_pos q]; exact hgp
    · rw [if_neg q, if_neg (by omega)]
      exact nplt_trans hgp (by have := h2 c h0 hc q; rwa [hk] at this)
theorem UpInv.done {l : List Pl} {j : Nat} (h : UpInv l j) (hd : j = 0 ∨ ¬ plt (pl l j) (pl l ((j - 1) / 2))) : Heap l l.length := by
  intro c h0 hc
  by_cases q : c = j
  · subst q
    rcases hd with hd | hd
    · omega
    · exact hd
  · exact h.all c h0 hc q
/-- On the way down: all but those below i. -/
structure DownInv (l : List Pl) (i n : Nat) : Prop where
  few : n ≤ l.length
  all : ∀ c, 0 < c → c < n → (c - 1) / 2 ≠ i → ¬ plt (pl l c) (pl l ((c - 1) / 2))
  kids : ∀ c, 0 < c → c < n → (c - 1) / 2 = i → 0 < i → ¬ plt (pl l c) (pl l ((i - 1) / 2))
theorem DownInv.start {l : List Pl} {n : Nat} (h : Heap l (n + 1)) (hl : n + 1 ≤ l.length) : DownInv (swp l 0 n) 0 n := by
  refine ⟨by rw [swp_length]; omega, fun c h0 hc hn => ?_, fun c h0 hc _ h => absurd h (by omega)⟩
  rw [pl_swp (by omega) (by omega), pl_swp (by omega) (by omega), if_neg (by omega), if_neg (by omega), if_neg (by omega), if_neg hn]
  exact h c h0 (by omega)
theorem DownInv.step {l : List Pl} {i j n : Nat} (h : DownInv l i n) (hi : j < n) (hj : 0 < j) (hk : (j - 1) / 2 = i) (hleast : ∀ c, 0 < c → c < n → (c - 1) / 2 = i → ¬ plt (pl l c) (pl l j)) (hlt : plt (pl l j) (pl l i)) : DownInv (swp l i j) j n := by
  obtain ⟨h1, h2, h3⟩ := h
  have hi2 : i < l.length := by omega
  have hj2 : j < l.length := by omega
  refine ⟨by rw [swp_length]; omega, fun c h0 hc hn => ?_, fun c h0 hc hk2 _ => ?_⟩
  · rw [pl_swp hi2 hj2, pl_swp hi2 hj2, if_neg hn]
    by_cases q : c = j
    · subst q
      rw [if_pos rfl, if_pos hk]
      exact plt_asymm hlt
    · rw [if_neg q]
      by_cases q1 : c = i
      · subst q1
        rw [if_pos rfl, if_neg (by omega)]
        exact h3 j hj hi hk h0
      · rw [if_neg q1]
        by_cases q2 : (c - 1) / 2 = i
        · rw [if_pos q2]
          exact hleast c h0 hc q2
        · rw [if_neg q2]
          exact h2 c h0 hc q2
  · have hci : c ≠ i := by omega
    have hcj : c ≠ j := by omega
    rw [pl_swp hi2 hj2, pl_swp hi2 hj2, if_neg hcj, if_neg hci, if_neg (by omega), if_pos hk]
    have := h2 c h0 hc (by omega)
    rwa [hk2] at this
theorem DownInv.done {l : List Pl} {i n : Nat} (h : DownInv l i n) (hd : ∀ c, 0 < c → c < n → (c - 1) / 2 = i → ¬ plt (pl l c) (pl l i)) : Heap l n := by
  intro c h0 hc
  by_cases q : (c - 1) / 2 = i
  · rw [q]; exact hd c h0 hc q
  · exact h.all c h0 hc q
/-- What lies behind is not moved. -/
theorem Heap.take {l : List Pl} {n : Nat} (h : Heap l n) (hn : n ≤ l.length) : Heap (l.take n) (l.take n).length := by
  have e : ∀ c, c < n → pl (l.take n) c = pl l c := fun c hc => by unfold pl; rw [List.getD_eq_getElem?_getD, List.getD_eq_getElem?_getD, List.getElem?_take_of_lt hc]
  intro c h0 hc
  rw [List.length_take] at hc
  rw [e c (by omega), e _ (by omega)]
  exact h c h0 (by omega)
end Go.Sl

/-! Text Yf. -/
/- What lift's two ways hold: plain lists of places, no program in sight. -/
set_option maxRecDepth 8000
set_option linter.unusedVariables false
set_option linter.unusedSimpArgs false
namespace Go.Sl
theorem nodup_rest {K A : List Pl} {k : Pl} (h : K.Nodup) (hp : List.Perm K (k :: A)) : List.Perm A (K.filter fun x => x ≠ k) := by
  have hn := hp.nodup h
  rw [List.nodup_cons] at hn
  have h1 := hp.filter (fun x => decide (x ≠ k))
  have h2 : (A.filter fun x => decide (x ≠ k)) = A := List.filter_eq_self.2 (fun x hx => by simp; intro e; exact hn.1 (e ▸ hx))
  rw [List.filter_cons_of_neg (by simp), h2] at h1
  exact h1.symm
theorem nodup_back {K : List Pl} {k : Pl} (h : K.Nodup) (hk : k ∈ K) : List.Perm ((K.filter fun x => x ≠ k) ++ [k]) K := by
  obtain ⟨R, p⟩ : ∃ R, List.Perm K (k :: R) := by
    obtain ⟨s, t, rfl⟩ := List.append_of_mem hk
    exact ⟨s ++ t, List.perm_middle⟩
  exact (List.perm_append_comm (l₂ := [k])).trans (((nodup_rest h p).symm.cons k).trans p.symm)
/-- Two ways: what is not below the row, and what is. -/
structure LiftOk (r : Int) (K A B : List Pl) : Prop where
  ahead : List.Perm A (K.filter fun x => r ≤ x.2)
  below : List.Perm B (K.filter fun x => x.2 < r)
  hA : Heap A A.length
  hB : Heap B B.length
  one : K.Nodup
  pos : ∀ x ∈ K, 0 ≤ x.2
theorem LiftOk.nil (r : Int) : LiftOk r [] [] [] := ⟨.refl _, .refl _, Heap.nil, Heap.nil, List.nodup_nil, fun x h => (by cases h)⟩
theorem LiftOk.perm {r : Int} {K K' A B : List Pl} (h : LiftOk r K A B) (p : List.Perm K K') : LiftOk r K' A B :=
  ⟨h.ahead.trans (p.filter _), h.below.trans (p.filter _), h.hA, h.hB, p.nodup h.one, fun x hx => h.pos x (p.symm.subset hx)⟩
theorem LiftOk.old {r : Int} {K A B : List Pl} {k : Pl} (h : LiftOk r K A B) (hk : k ∈ K) : LiftOk r ((K.filter fun x => x ≠ k) ++ [k]) A B := h.perm (nodup_back h.one hk).symm
theorem LiftOk.newA {r : Int} {K A B A' : List Pl} {k : Pl} (h : LiftOk r K A B) (hk : k ∉ K) (hr : r ≤ k.2) (h0 : 0 ≤ k.2) (hp : List.Perm A' (k :: A)) (hh : Heap A' A'.length) : LiftOk r (K ++ [k]) A' B := by
  refine ⟨?_, ?_, hh, h.hB, ?_, ?_⟩
  · rw [List.filter_append, List.filter_cons_of_pos (by simpa using hr), List.filter_nil]
    exact hp.trans ((h.ahead.cons k).trans (List.perm_append_comm (l₁ := [k])))
  · rw [List.filter_append, List.filter_cons_of_neg (by simp; omega), List.filter_nil, List.append_nil]
    exact h.below
  · exact List.nodup_append.2 ⟨h.one, by simp, fun a ha b hb => by rw [List.mem_singleton] at hb; subst hb; intro e; exact hk (e ▸ ha)⟩
  · intro x hx
    rcases List.mem_append.1 hx with hx | hx
    · exact h.pos x hx
    · rw [List.mem_singleton] at hx; subst hx; exact h0
theorem LiftOk.newB {r : Int} {K A B B' : List Pl} {k : Pl} (h : LiftOk r K A B) (hk : k ∉ K) (hr : k.2 < r) (h0 : 0 ≤ k.2) (hp : List.Perm B' (k :: B)) (hh : Heap B' B'.length) : LiftOk r (K ++ [k]) A B' := by
  refine ⟨?_, ?_, h.hA, hh, ?_, ?_⟩
  · rw [List.filter_append, List.filter_cons_of_neg (by simp; omega), List.filter_nil, List.append_nil]
    exact h.ahead
  · rw [List.filter_append, List.filter_cons_of_pos (by simpa using hr), List.filter_nil]
    exact hp.trans ((h.below.cons k).trans (List.perm_append_comm (l₁ := [k])))
  · exact List.nodup_append.2 ⟨h.one, by simp, fun a ha b hb => by rw [List.mem_singleton] at hb; subst hb; intro e; exact hk (e ▸ ha)⟩
  · intro x hx
    rcases List.mem_append.1 hx with hx | hx
    · exact h.pos x hx
    · rw [List.mem_singleton] at hx; subst hx; exact h0
theorem notin_filter {K : List Pl} {k : Pl} (hk : k ∉ K) : (K.filter fun x => x ≠ k) = K := List.filter_eq_self.2 fun x hx => by simp; intro e; exact hk (e ▸ hx)
/-- With none ahead, those below are all. -/
theorem LiftOk.wrap {r : Int} {K B : List Pl} (h : LiftOk r K [] B) : LiftOk 0 K B [] ∧ ∀ x ∈ K, x.2 < r := by
  have hall : ∀ x ∈ K, x.2 < r := fun x hx => by
    have := h.ahead.length_eq
    have h2 := List.length_eq_zero_iff.1 this.symm
    have h3 := List.filter_eq_nil_iff.1 h2 x hx
    simpa using h3
  refine ⟨⟨?_, ?_, h.hB, Heap.nil, h.one, h.pos⟩, hall⟩
  · rw [List.filter_eq_self.2 (fun x hx => by simpa using h.pos x hx)]
    have := h.below
    rwa [List.filter_eq_self.2 (fun x hx => by simpa using hall x hx)] at this
  · rw [List.filter_eq_nil_iff.2 (fun x hx => by have := h.pos x hx; simp; omega)]
/-- The row from which on the next one is asked for. -/
def base (r : Int) (K : List Pl) : Int := if (K.any fun x => decide (r ≤ x.2)) then r else 0
structure IsNext (r : Int) (K : List Pl) (k : Pl) : Prop where
  mem : k ∈ K
  low : base r K ≤ k.2
  least : ∀ x ∈ K, base r K ≤ x.2 → ¬ plt x k
theorem IsNext.one {r : Int} {K : List Pl} {k k' : Pl} (h : IsNext r K k) (h' : IsNext r K k') : k = k' := plt_anti (h'.least k h.mem h.low) (h.least k' h'.mem h'.low)
theorem base_pos {r : Int} {K : List Pl} {k : Pl} (hk : k ∈ K) (h : r ≤ k.2) : base r K = r := by
  unfold base
  rw [if_pos (List.any_eq_true.2 ⟨k, hk, by simpa using h⟩)]
theorem base_neg {r : Int} {K : List Pl} (h : ∀ x ∈ K, x.2 < r) : base r K = 0 := by
  unfold base
  rw [if_neg]
  intro h1
  obtain ⟨x, hx, h2⟩ := List.any_eq_true.1 h1
  have := h x hx
  have h3 : r ≤ x.2 := by simpa using h2
  omega
theorem LiftOk.next {r : Int} {K A B A' : List Pl} {k : Pl} (h : LiftOk r K A B) (hk : k = pl A 0) (hp : List.Perm (k :: A') A) (hh : Heap A' A'.length) :
    LiftOk k.2 (K.filter fun x => x ≠ k) A' B ∧ k ∈ K ∧ r ≤ k.2 ∧ ∀ x ∈ K, r ≤ x.2 → ¬ plt x k := by
  have hleast : ∀ x ∈ A, ¬ plt x k := by
    intro x hx
    obtain ⟨i, hi, rfl⟩ := List.mem_iff_getElem.1 hx
    rw [← pl_at hi, hk]
    exact h.hA.least i hi
  have hkA : k ∈ A := hp.subset (.head _)
  have hkK := h.ahead.subset hkA
  rw [List.mem_filter] at hkK
  have hr : r ≤ k.2 := by simpa using hkK.2
  have hall : ∀ x ∈ K, r ≤ x.2 → ¬ plt x k := fun x hx h1 => hleast x (h.ahead.symm.subset (List.mem_filter.2 ⟨hx, by simpa using h1⟩))
  have hge : ∀ x ∈ K, r ≤ x.2 → k.2 ≤ x.2 := fun x hx h1 => by have := hall x hx h1; unfold plt at this; omega
  refine ⟨⟨?_, ?_, hh, h.hB, h.one.filter _, fun x hx => h.pos x (List.mem_filter.1 hx).1⟩, hkK.1, hr, hall⟩
  · have h1 := nodup_rest (h.one.filter _) (h.ahead.symm.trans hp.symm)
    refine h1.trans (.of_eq ?_)
    rw [List.filter_filter, List.filter_filter]
    refine List.filter_congr fun x hx => ?_
    by_cases q : x = k
    · simp [q]
    · have e : (r ≤ x.2) = (k.2 ≤ x.2) := propext ⟨hge x hx, fun h => by omega⟩
      simp [q, e]
  · refine h.below.trans (.of_eq ?_)
    rw [List.filter_filter]
    refine List.filter_congr fun x hx => ?_
    have e : (x.2 < r) = (x.2 < k.2 ∧ x ≠ k) := propext ⟨fun h => ⟨by omega, fun q => by subst q; omega⟩, fun h => by
      rcases Int.lt_or_le x.2 r with q | q
      · exact q
      · have := hge x hx q; omega⟩
    rw [Bool.eq_iff_iff]
    simp [e]
end Go.Sl

/-! Text Le. -/
/- What the packer's and the reader's functions do, over resources. -/
set_option maxRecDepth 8000
set_option linter.unusedVariables false
set_option linter.unusedSimpArgs false
set_option linter.unusedSectionVars false
namespace Go.Proofs.Ytpmmkmcbimnigaa
open Go.RowKit Go.Sl

def byteV (c : UInt8) : Value := .int .u8 (c.toNat : Int)
@[simp] theorem byteV_one (c : UInt8) : (byteV c).oneCell' = true := rfl
def bytes (l : List UInt8) : List Value := l.map byteV
@[simp] theorem bytes_one (l : List UInt8) : ∀ u ∈ bytes l, u.oneCell' = true := by
  intro u hu; obtain ⟨c, _, rfl⟩ := List.mem_map.1 hu; rfl
@[simp] theorem bytes_length (l : List UInt8) : (bytes l).length = l.length := by simp [bytes]
structure Pk where
  size : Nat
  had : List UInt8
  bad : Int

def Pk.ok (k : Pk) : Prop := k.had.length ≤ k.size ∧ k.size ≤ 4096 ∧ (k.bad = 0 ∨ k.bad = 10)

def Pk.room (k : Pk) (n : Int) : Pk := if k.bad = 0 ∧ (k.size : Int) - k.had.length < n then { k with bad := 10 } else k

/-- The lowest j bytes of v. -/
def lowBytes (v : Nat) : Nat → List UInt8
  | 0 => []
  | j + 1 => lowBytes v j ++ [UInt8.ofNat (v / 256 ^ j)]
theorem lowBytes_length (v j : Nat) : (lowBytes v j).length = j := by induction j <;> simp [lowBytes, *]

def Pk.number (k : Pk) (v width : Nat) : Pk := if (k.room width).bad = 0 then { k with had := k.had ++ lowBytes v width } else k.room width

theorem ldB {W : World} {P : Program} {n : Nat} {H : List SProp} {f : Fr} {dst : Option Tmp} {ty_ : TypeId} {pos : String} {after : Array Edge} {guard : Option (Nat × Bool)} {T : TabData} {x : Operand} {s : TypeId} {a : Addr} {k j : Nat} {l : List UInt8} (hT : T.ok P = true) (hx : evalX f x = some (.pointer (some (a.add j)))) (hl : assoc T.leaf s = some ()) (hr : Rds W H 1 (some a) k (bytes l)) (hj : j < l.length) :
    PureAt W P n H f { dst, op := .load s x, type := ty_, pos, after, guard } (.int .u8 (l[j].toNat : Int)) :=
  PureAt.ldR hT hx hl hr (by simp [bytes, byteV, hj])

theorem same_any {W : World} {R : List SProp} {ao ao' : Option Addr} {n n' cap cap' : Nat} {a b : List UInt8} (ha : Rds W R 1 ao n (bytes a)) (hb : Rds W R 1 ao' n' (bytes b)) (hn : n ≤ maxLen) :
    Does1 W Try.prog 28 [.slice ao n cap, .slice ao' n' cap'] R (.bool (decide (a = b))) R := by
  have la : a.length = n := by have := ha.len; simpa using this
  have lb : b.length = n' := by have := hb.len; simpa using this
  unfold maxLen at hn
  (refine Does.enter Try.func28 Try.ntmps28 rfl rfl ?_)
  (refine w ?_; repeat ((first | refine VO.step rfl rfl ?_ | refine VD.end rfl rfl rfl ?_ | refine VD.mid rfl rfl rfl ?_); refine OpV.box rfl rfl rfl ?_; intro _; refine w ?_))
  by_cases hl : n = n'
  · subst hl
    (refine VC.condFe rfl rfl (by simp) ?_)
    (refine w ?_; repeat ((first | refine VO.step rfl rfl ?_ | refine VD.end rfl rfl rfl ?_ | refine VD.mid rfl rfl rfl ?_); refine OpV.box rfl rfl rfl ?_; intro _; refine w ?_))
    refine VC.loop (α := Nat) (fun j => j ≤ n ∧ ∀ i (h : i < a.length) (h' : i < b.length), i < j → a[i] = b[i]) (fun j => R)
      (fun j => [(0, .slice ao n cap), (1, .slice ao' n cap'), (5, .int .i64 j)]) (fun j => n - j) rfl 0 ⟨Nat.zero_le _, fun _ _ _ h => absurd h (by omega)⟩ Ent.refl ⟨rfl, rfl, rfl, trivial⟩ ?_
    rintro j ⟨hj, hi⟩
    (refine w ?_; repeat ((first | refine VO.step rfl rfl ?_ | refine VD.end rfl rfl rfl ?_ | refine VD.mid rfl rfl rfl ?_); refine OpV.box rfl rfl rfl ?_; intro _; refine w ?_))
    (refine VC.cond rfl rfl ?_ ?_ <;> intro hc)
    · have hlt : j < n := by simpa using hc
      obtain ⟨a0, rfl⟩ : ∃ a0, ao = some a0 := by cases ao with | none => have := ha.nil rfl; omega | some a0 => exact ⟨a0, rfl⟩
      obtain ⟨b0, rfl⟩ : ∃ b0, ao' = some b0 := by cases ao' with | none => have := hb.nil rfl; omega | some b0 => exact ⟨b0, rfl⟩
      have hb1 := ha
      have hb2 := hb
      (refine w ?_; repeat ((first | refine VO.step rfl rfl ?_ | refine VD.end rfl rfl rfl ?_ | refine VD.mid rfl rfl rfl ?_); refine OpV.box rfl rfl rfl ?_; intro _; refine w ?_))
      ((refine VC.quiet rfl (by kernel_rfl) (by kernel_rfl) ?_); (refine w ?_; repeat ((first | refine VO.step rfl rfl ?_ | refine VD.end rfl rfl rfl ?_ | refine VD.mid rfl rfl rfl ?_); refine OpV.box rfl rfl rfl ?_; intro _; refine w ?_)))
      (refine VC.cond rfl rfl ?_ ?_ <;> intro hc)
      · (refine w ?_; repeat ((first | refine VO.step rfl rfl ?_ | refine VD.end rfl rfl rfl ?_ | refine VD.mid rfl rfl rfl ?_); refine OpV.box rfl rfl rfl ?_; intro _; refine w ?_))
        (refine VE.done1 rfl ?_ ?_)
        · have hne : a[j]'(by omega) ≠ b[j]'(by omega) := by
            intro e; rw [e] at hc; simp at hc
          have : a ≠ b := fun e => hne (by subst e; rfl)
          simp [this]
        · exact Ent.refl
      · (refine w ?_; repeat ((first | refine VO.step rfl rfl ?_ | refine VD.end rfl rfl rfl ?_ | refine VD.mid rfl rfl rfl ?_); refine OpV.box rfl rfl rfl ?_; intro _; refine w ?_))
        have he : a[j]'(by omega) = b[j]'(by omega) := by
          have : ((a[j]'(by omega)).toNat : Int) = ((b[j]'(by omega)).toNat : Int) := by simpa using hc
          exact UInt8.toNat_inj.1 (by omega)
        refine VE.round (j + 1) ⟨by omega, fun i h h' hij => ?_⟩ (by omega) ⟨rfl, rfl, rfl, trivial⟩ Ent.refl
        by_cases e : i = j
        · subst e; exact he
        · exact hi i h h' (by omega)
    · have hge : j = n := by have : ¬ j < n := by simpa using hc
                             omega
      (refine w ?_; repeat ((first | refine VO.step rfl rfl ?_ | refine VD.end rfl rfl rfl ?_ | refine VD.mid rfl rfl rfl ?_); refine OpV.box rfl rfl rfl ?_; intro _; refine w ?_))
      (refine VE.done1 rfl ?_ ?_)
      · have : a = b := List.ext_getElem (by omega) fun i h h' => hi i h h' (by omega)
        simp [this]
      · exact Ent.refl
  · (refine VC.condTe rfl rfl (by simp; omega) ?_)
    (refine w ?_; repeat ((first | refine VO.step rfl rfl ?_ | refine VD.end rfl rfl rfl ?_ | refine VD.mid rfl rfl rfl ?_); refine OpV.box rfl rfl rfl ?_; intro _; refine w ?_))
    (refine VE.done1 rfl ?_ ?_)
    · have : a ≠ b := fun e => hl (by subst e; omega)
      simp [this]
    · exact Ent.refl

end Go.Proofs.Ytpmmkmcbimnigaa

/-! Text Na. -/
/- Lists that lead to lists: rows of bytes, patches, batches: what they are in memory. -/
set_option maxRecDepth 8000
set_option linter.unusedVariables false
set_option linter.unusedSimpArgs false
set_option linter.unusedSectionVars false
namespace Go.Sl
open Go Go.RowKit
section
variable {W w : World} {H R L M : List SProp} {α : Type} {res : α → SProp}
/-- What many things have, as one resource. -/
def pile (res : α → SProp) (l : List α) : SProp := star (l.map res)
theorem pile_nil (h : Holds W R w) : Holds W (pile res [] :: R) w := h.nest (L := [])
theorem pile_push {l : List α} {a : α} (h : Holds W (res a :: pile res l :: R) w) : Holds W (pile res (l ++ [a]) :: R) w := by
  have h2 := (h.swap).join
  refine Holds.nest ?_
  rw [List.map_append]
  refine h2.perm ?_
  simp
theorem pile_join {l m : List α} (h : Holds W (pile res l :: pile res m :: R) w) : Holds W (pile res (l ++ m) :: R) w := by
  have h2 := (h.join).perm List.perm_append_comm
  have h3 : Holds W (pile res m :: (R ++ l.map res)) w := h2
  have h4 := h3.join
  refine Holds.nest ?_
  rw [List.map_append]
  refine h4.perm ?_
  rw [List.append_assoc]
  refine (List.perm_append_comm (l₁ := m.map res)).trans ?_
  rw [List.append_assoc]
  refine (List.perm_append_comm (l₁ := R)).trans ?_
  rw [List.append_assoc]
theorem pile_out {l : List α} {i : Nat} (hi : i < l.length) (h : Holds W (pile res l :: R) w) : Holds W (res l[i] :: pile res (l.eraseIdx i) :: R) w := by
  have h2 := h.join
  have e : List.Perm l (l[i] :: l.eraseIdx i) := by
    rw [List.eraseIdx_eq_take_drop_succ]
    have : l = l.take i ++ l[i] :: l.drop (i + 1) := by rw [← List.drop_eq_getElem_cons hi, List.take_append_drop]
    exact (List.Perm.of_eq this).trans List.perm_middle
  have h3 : Holds W (res l[i] :: ((l.eraseIdx i).map res ++ R)) w := h2.perm (by simpa using ((e.map res).append_right R))
  have h4 : Holds W ((l.eraseIdx i).map res ++ (R ++ [res l[i]])) w := h3.perm (by
    refine (List.perm_append_comm (l₁ := [res l[i]]) (l₂ := (l.eraseIdx i).map res ++ R)).trans ?_
    rw [List.append_assoc])
  have h5 : Holds W (pile res (l.eraseIdx i) :: (R ++ [res l[i]])) w := h4.nest
  exact h5.perm (List.perm_append_comm (l₁ := pile res (l.eraseIdx i) :: R) (l₂ := [res l[i]]))
/-- What lies within a group of resources is read. -/
theorem Rds.star {sz k : Nat} {ao : Option Addr} {xs : List Value} (m : Sl.star L ∈ H) (h : ∀ R, Rds W (L ++ R) sz ao k xs) : Rds W H sz ao k xs := by
  have h0 := h []
  refine ⟨h0.len, h0.one, h0.nil, fun w hw => ?_⟩
  obtain ⟨R, p⟩ := mem_perm m
  exact (h R).cell w (hw.perm p).join
theorem Rds.pile {sz k : Nat} {ao : Option Addr} {xs : List Value} {l : List α} {a : α} (m : Sl.pile res l ∈ H) (ha : a ∈ l) (h : ∀ R, res a ∈ R → Rds W R sz ao k xs) : Rds W H sz ao k xs :=
  Rds.star (L := l.map res) m (fun R => h _ (List.mem_append_left _ (List.mem_map_of_mem ha)))
end
end Go.Sl
namespace Go.Proofs.Ytpmmkmcbimnigaa
open Go.RowKit Go.Sl
attribute [local irreducible] Own

/-! ### Rows of bytes -/
structure RowE where
  ao : Option Addr
  cap : Nat
  data : List UInt8
abbrev RowE.hdr (e : RowE) : Value := .slice e.ao e.data.length e.cap
def RowE.res (e : RowE) : SProp := Own 5 1 (.slice e.ao e.data.length e.cap) e.data.length (bytes e.data)
structure RowE.ok (e : RowE) : Prop where
  nil : e.ao = none → e.data.length = 0
  cap : e.data.length ≤ e.cap
theorem rowhdr_one (l : List RowE) : ∀ u ∈ l.map RowE.hdr, u.oneCell' = true := by
  intro u hu; obtain ⟨e, _, rfl⟩ := List.mem_map.1 hu; rfl
theorem RowE.rds {W : World} {H : List SProp} {e : RowE} (h : e.ok) (m : e.res ∈ H) : Rds W H 1 e.ao e.data.length (bytes e.data) := Rds.own (bytes_one _) m (by simp) h.nil
theorem RowE.know {W w : World} {R : List SProp} {e : RowE} (h : Holds W (e.res :: R) w) : e.ok := ⟨h.ownNone (.head _), h.ownCap (.head _)⟩
/-- Rows that can be read. -/
structure RdRows (W : World) (R : List SProp) (ao : Option Addr) (l : List RowE) : Prop where
  rds : Rds W R 1 ao l.length (l.map RowE.hdr)
  each : ∀ e ∈ l, Rds W R 1 e.ao e.data.length (bytes e.data)
  ok : ∀ e ∈ l, e.ok
abbrev RowsO (x : Option Addr × Nat) (l : List RowE) : SProp := Own 47 1 (.slice x.1 l.length x.2) l.length (l.map RowE.hdr)
abbrev PilR (l : List RowE) : SProp := pile RowE.res l
theorem RdRows.own {W : World} {H : List SProp} {x : Option Addr × Nat} {l : List RowE} (hn : x.1 = none → l.length = 0) (hok : ∀ e ∈ l, e.ok) (m1 : RowsO x l ∈ H) (m2 : PilR l ∈ H) : RdRows W H x.1 l :=
  ⟨Rds.own (rowhdr_one l) m1 (by simp) hn, fun e he => Rds.pile m2 he (fun R hR => RowE.rds (hok e he) hR), hok⟩
theorem RdRows.ent {W : World} {H R : List SProp} {ao : Option Addr} {l : List RowE} (h : RdRows W R ao l) (e : Ent W H R) : RdRows W H ao l := ⟨h.rds.ent e, fun x hx => (h.each x hx).ent e, h.ok⟩
theorem PilR.know {W w : World} {R : List SProp} {l : List RowE} (h : Holds W (PilR l :: R) w) : ∀ e ∈ l, e.ok := by
  intro e he
  obtain ⟨i, hi, rfl⟩ := List.mem_iff_getElem.1 he
  exact RowE.know (pile_out hi h)
/-! ### Patches -/
structure PatE where
  member : Int
  row : Int
  d : RowE
abbrev PatE.cells (p : PatE) : List Value := [.int .i64 p.member, .int .i64 p.row, p.d.hdr]
def patCells (l : List PatE) : List Value := l.flatMap PatE.cells
def PatE.res (p : PatE) : SProp := p.d.res
theorem pat_one (p : PatE) : ∀ u ∈ p.cells, u.oneCell' = true := by simp [Value.oneCell']
theorem pats_one (l : List PatE) : ∀ u ∈ patCells l, u.oneCell' = true := by
  intro u hu; obtain ⟨p, _, h⟩ := List.mem_flatMap.1 hu; exact pat_one p u h
theorem pats_len (l : List PatE) : (patCells l).length = l.length * 3 := flat_length l (fun _ _ => rfl)
theorem pat_get (l : List PatE) (j i : Nat) (h : j < l.length) (hi : i < 3) : (patCells l)[j * 3 + i]? = (l[j].cells)[i]? := flat_at l j i h (fun _ _ => rfl) hi
theorem pat_at (l : List PatE) (j : Nat) (h : j < l.length) : ((patCells l).drop (j * 3)).take 3 = l[j].cells := flat_part l j h (fun _ _ => rfl)
structure RdPats (W : World) (R : List SProp) (ao : Option Addr) (l : List PatE) : Prop where
  rds : Rds W R 3 ao l.length (patCells l)
  each : ∀ p ∈ l, Rds W R 1 p.d.ao p.d.data.length (bytes p.d.data)
  ok : ∀ p ∈ l, p.d.ok
abbrev PatsO (x : Option Addr × Nat) (l : List PatE) : SProp := Own 49 3 (.slice x.1 l.length x.2) l.length (patCells l)
abbrev PilP (l : List PatE) : SProp := pile PatE.res l
theorem RdPats.own {W : World} {H : List SProp} {x : Option Addr × Nat} {l : List PatE} (hn : x.1 = none → l.length = 0) (hok : ∀ p ∈ l, p.d.ok) (m1 : PatsO x l ∈ H) (m2 : PilP l ∈ H) : RdPats W H x.1 l :=
  ⟨Rds.own (pats_one l) m1 (pats_len l) hn, fun p hp => Rds.pile m2 hp (fun R hR => RowE.rds (hok p hp) hR), hok⟩
theorem RdPats.ent {W : World} {H R : List SProp} {ao : Option Addr} {l : List PatE} (h : RdPats W R ao l) (e : Ent W H R) : RdPats W H ao l := ⟨h.rds.ent e, fun x hx => (h.each x hx).ent e, h.ok⟩
theorem PilP.know {W w : World} {R : List SProp} {l : List PatE} (h : Holds W (PilP l :: R) w) : ∀ p ∈ l, p.d.ok := by
  intro e he
  obtain ⟨i, hi, rfl⟩ := List.mem_iff_getElem.1 he
  exact RowE.know (pile_out hi h)
/-! ### Batches -/
structure TxnE where
  seq : Nat
  ao : Option Addr
  cap : Nat
  pats : List PatE
abbrev TxnE.cells (t : TxnE) : List Value := [.int .u64 t.seq, .slice t.ao t.pats.length t.cap]
def txnCells (l : List TxnE) : List Value := l.flatMap TxnE.cells
def TxnE.res (t : TxnE) : SProp := Sl.star [PatsO (t.ao, t.cap) t.pats, PilP t.pats]
structure TxnE.ok (t : TxnE) : Prop where
  nil : t.ao = none → t.pats.length = 0
  cap : t.pats.length ≤ t.cap
  each : ∀ p ∈ t.pats, p.d.ok
theorem txn_one (p : TxnE) : ∀ u ∈ p.cells, u.oneCell' = true := by simp [Value.oneCell']
theorem txns_one (l : List TxnE) : ∀ u ∈ txnCells l, u.oneCell' = true := by
  intro u hu; obtain ⟨p, _, h⟩ := List.mem_flatMap.1 hu; exact txn_one p u h
theorem txns_len (l : List TxnE) : (txnCells l).length = l.length * 2 := flat_length l (fun _ _ => rfl)
structure RdTxns (W : World) (R : List SProp) (ao : Option Addr) (l : List TxnE) : Prop where
  rds : Rds W R 2 ao l.length (txnCells l)
  each : ∀ t ∈ l, RdPats W R t.ao t.pats
  ok : ∀ t ∈ l, t.ok
abbrev TxnsO (x : Option Addr × Nat) (l : List TxnE) : SProp := Own 170 2 (.slice x.1 l.length x.2) l.length (txnCells l)
abbrev PilT (l : List TxnE) : SProp := pile TxnE.res l
theorem TxnE.know {W w : World} {R : List SProp} {t : TxnE} (h : Holds W (t.res :: R) w) : t.ok := by
  have h2 : Holds W (PatsO (t.ao, t.cap) t.pats :: PilP t.pats :: R) w := h.join
  exact ⟨h2.ownNone (.head _), h2.ownCap (.head _), PilP.know h2.tail⟩
theorem PilT.know {W w : World} {R : List SProp} {l : List TxnE} (h : Holds W (PilT l :: R) w) : ∀ t ∈ l, t.ok := by
  intro e he
  obtain ⟨i, hi, rfl⟩ := List.mem_iff_getElem.1 he
  exact TxnE.know (pile_out hi h)
theorem TxnE.rd {W : World} {H : List SProp} {t : TxnE} (h : t.ok) (m : t.res ∈ H) : RdPats W H t.ao t.pats := by
  have q : ∀ R, RdPats W ([PatsO (t.ao, t.cap) t.pats, PilP t.pats] ++ R) t.ao t.pats := fun R => RdPats.own (x := (t.ao, t.cap)) h.nil h.each (by simp) (by simp)
  exact ⟨Rds.star m fun R => (q R).rds, fun p hp => Rds.star m fun R => (q R).each p hp, h.each⟩
theorem RdTxns.own {W : World} {H : List SProp} {x : Option Addr × Nat} {l : List TxnE} (hn : x.1 = none → l.length = 0) (hok : ∀ t ∈ l, t.ok) (m1 : TxnsO x l ∈ H) (m2 : PilT l ∈ H) : RdTxns W H x.1 l := by
  refine ⟨Rds.own (txns_one l) m1 (txns_len l) hn, fun t ht => ?_, hok⟩
  exact ⟨Rds.pile m2 ht (fun R hR => (TxnE.rd (hok t ht) hR).rds), fun p hp => Rds.pile m2 ht (fun R hR => (TxnE.rd (hok t ht) hR).each p hp), (hok t ht).each⟩
theorem RdTxns.ent {W : World} {H R : List SProp} {ao : Option Addr} {l : List TxnE} (h : RdTxns W R ao l) (e : Ent W H R) : RdTxns W H ao l := ⟨h.rds.ent e, fun x hx => (h.each x hx).ent e, h.ok⟩
/-- A batch that is put together. -/
theorem TxnE.shut {W w : World} {R : List SProp} (t : TxnE) (h : Holds W (PatsO (t.ao, t.cap) t.pats :: PilP t.pats :: R) w) : Holds W (t.res :: R) w := h.nest (L := [PatsO (t.ao, t.cap) t.pats, PilP t.pats])
end Go.Proofs.Ytpmmkmcbimnigaa

/-! Text Lr. -/
/- What the reader's functions do, over resources. -/
set_option maxRecDepth 8000
set_option linter.unusedVariables false
set_option linter.unusedSimpArgs false
set_option linter.unusedSectionVars false
namespace Go.Proofs.Ytpmmkmcbimnigaa
open Go.RowKit Go.Sl

theorem clone_ok {W : World} {R : List SProp} {ao : Option Addr} {n cap : Nat} {xs : List Value} (ha : Rds W R 1 ao n xs) (hn : n ≤ 1099511627776) :
    Does W Try.prog 44 [.slice ao n cap] R (β := Option Addr × Nat) (fun _ => True) (fun x => .slice x.1 n x.2) (fun x => Own 5 1 (.slice x.1 n x.2) n xs :: R) := by
  (refine Does.enter Try.func44 Try.ntmps44 rfl rfl ?_)
  (refine w ?_; repeat ((first | refine VO.step rfl rfl ?_ | refine VD.end rfl rfl rfl ?_ | refine VD.mid rfl rfl rfl ?_); refine OpV.box rfl rfl rfl ?_; intro _; refine w ?_))
  cases ao with
  | none =>
    have h0 := ha.nil rfl
    subst h0
    have hx : xs = [] := List.eq_nil_of_length_eq_zero (by simpa using ha.len)
    subst hx
    (refine VC.condTe rfl rfl (rfl) ?_)
    (refine w ?_; repeat ((first | refine VO.step rfl rfl ?_ | refine VD.end rfl rfl rfl ?_ | refine VD.mid rfl rfl rfl ?_); refine OpV.box rfl rfl rfl ?_; intro _; refine w ?_))
    exact VE.done (none, 0) rfl trivial rfl fun w hw => hw.ownNil _ _
  | some a =>
    (refine VC.condFe rfl rfl (rfl) ?_)
    (refine w ?_; repeat ((first | refine VO.step rfl rfl ?_ | refine VD.end rfl rfl rfl ?_ | refine VD.mid rfl rfl rfl ?_); refine OpV.box rfl rfl rfl ?_; intro _; refine w ?_))
    ((first | refine VO.step rfl rfl ?_ | refine VD.end rfl rfl rfl ?_ | refine VD.mid rfl rfl rfl ?_); refine OpV.buildSlice1 st_47 rfl rfl (by first | (simp; done) | simp [Value.oneCell']) (by decide) rfl ?_; intro nb)
    refine VO.ent (H' := Own 5 1 (.slice (some ⟨nb, 0, none⟩) 0 0) 0 [] :: R) (fun w hw => Holds.ownShut rfl (Nat.le_refl _) (by decide) rfl hw) ?_
    (refine w ?_; repeat ((first | refine VO.step rfl rfl ?_ | refine VD.end rfl rfl rfl ?_ | refine VD.mid rfl rfl rfl ?_); refine OpV.box rfl rfl rfl ?_; intro _; refine w ?_))
    refine VO.step rfl rfl ?_
    refine OpV.append st_47 rfl rfl .head (fun w hw => (ha.sees (cap := cap) hw.tail).src st_47.und) (by simp only [maxLen]; omega) (by omega) rfl ?_
    intro ao' cap'
    simp only [Nat.zero_add, List.nil_append]
    (refine w ?_; repeat ((first | refine VO.step rfl rfl ?_ | refine VD.end rfl rfl rfl ?_ | refine VD.mid rfl rfl rfl ?_); refine OpV.box rfl rfl rfl ?_; intro _; refine w ?_))
    exact VE.done (ao', cap') rfl trivial rfl Ent.refl

structure Rk where
  b : List UInt8
  at_ : Nat
  err : Int
  wh : Int

def Rk.ok (k : Rk) : Prop := k.at_ ≤ k.b.length ∧ k.b.length ≤ 1099511627776

abbrev ReaderO (p : Nat) (k : Rk) (ao : Option Addr) (cap : Nat) (R : List SProp) : List SProp :=
  Row p 172 [.slice ao k.b.length cap, .int .i64 k.at_, .int .u16 k.err, .int .i64 k.wh] :: Own 5 1 (.slice ao k.b.length cap) k.b.length (bytes k.b) :: R
def ReaderR (p : Nat) (k : Rk) : SProp := ex fun ac : Option Addr × Nat => Sl.star (fact k.ok :: ReaderO p k ac.1 ac.2 [])

theorem ReaderR.open {W w : World} {p : Nat} {k : Rk} {R : List SProp} (hw : Holds W (ReaderR p k :: R) w) : ∃ x : { ac : Option Addr × Nat // k.ok }, Holds W (ReaderO p k x.1.1 x.1.2 R) w := by
  obtain ⟨ac, h⟩ := hw.exOpen
  have h := h.join
  exact ⟨⟨ac, h.factOpen⟩, h.tail⟩
theorem ReaderR.shut {W : World} {p : Nat} {k : Rk} {R : List SProp} (hk : k.ok) {ao : Option Addr} {cap : Nat} : Ent W (ReaderO p k ao cap R) (ReaderR p k :: R) := fun _ hw =>
  Holds.exShut (ao, cap) (Holds.nest (L := [_, _, _]) (hw.factShut hk))
theorem ReaderR.know {W w : World} {p : Nat} {k : Rk} {R : List SProp} (hw : Holds W (ReaderR p k :: R) w) : k.ok := by
  obtain ⟨⟨_, h⟩, _⟩ := ReaderR.open hw
  exact h

/-- Is there so much? If not, it is short for good. -/
def Rk.short (k : Rk) (n : Nat) : Rk := if k.err = 0 ∧ k.b.length - k.at_ < n then { k with err := 11, wh := k.at_ } else k
/-- The next so many bytes; none where something is wrong. -/
def Rk.got (k : Rk) (n : Nat) : List UInt8 := if (k.short n).err = 0 then (k.b.drop k.at_).take n else []
/-- A number, its lowest byte first. -/
def leVal : List UInt8 → Nat
  | [] => 0
  | c :: r => c.toNat + 256 * leVal r
def Rk.number (k : Rk) (width : Nat) : Rk := if (k.short width).err = 0 then { k with at_ := k.at_ + width } else k.short width

end Go.Proofs.Ytpmmkmcbimnigaa

/-! Text Ca. -/
/- Checksums: the plain law of shifts by a polynomial: a run of at most 32 bits that has changed is told. No program is named. -/
set_option maxRecDepth 8000
set_option linter.unusedVariables false
set_option linter.unusedSimpArgs false
set_option linter.unusedSectionVars false
namespace Go.Sl

def crcPoly : BitVec 32 := 0x82f63b78#32
def stp (n : BitVec 32) : BitVec 32 := (n >>> 1) ^^^ (if n.getLsbD 0 then crcPoly else 0#32)
def stpN : Nat → BitVec 32 → BitVec 32
  | 0, n => n
  | k + 1, n => stpN k (stp n)
/-- A byte more. -/
def crcB (n : BitVec 32) (b : UInt8) : BitVec 32 := stpN 8 (n ^^^ BitVec.ofNat 32 b.toNat)
def crcF (n : BitVec 32) (l : List UInt8) : BitVec 32 := l.foldl crcB n
def crcM (n : BitVec 32) (l : List UInt8) : BitVec 32 := ~~~(crcF (~~~n) l)
def crcS (l : List UInt8) : BitVec 32 := crcM 0#32 l
/-! ### Bit by bit -/
/-! ### Bytes as bits -/
end Go.Sl

/-! Text Ea. -/
/- The journal's sectors: what they are, what is read of them: the plain law. -/
set_option maxRecDepth 8000
set_option linter.unusedVariables false
set_option linter.unusedSimpArgs false
set_option linter.unusedSectionVars false
namespace Go.Proofs.Ytpmmkmcbimnigaa
open Go.RowKit Go.Sl

def padTo (n : Nat) (l : List UInt8) : List UInt8 := l ++ List.replicate (n - l.length) 0
theorem padTo_length {n : Nat} {l : List UInt8} (h : l.length ≤ n) : (padTo n l).length = n := by simp [padTo]; omega
def magicL : List UInt8 := [83, 80, 74, 76]
def begunL (kind epoch seq : Nat) : List UInt8 := magicL ++ lowBytes kind 4 ++ lowBytes epoch 8 ++ lowBytes seq 8
theorem begunL_length (kind epoch seq : Nat) : (begunL kind epoch seq).length = 24 := by simp [begunL, lowBytes_length, magicL]
def sealS (b : List UInt8) : List UInt8 := b ++ lowBytes (crcS b).toNat 4
def sectB (kind epoch seq : Nat) (rest : List UInt8) : List UInt8 := padTo 124 (begunL kind epoch seq ++ rest)
theorem sectB_length {kind epoch seq : Nat} {rest : List UInt8} (h : rest.length ≤ 100) : (sectB kind epoch seq rest).length = 124 := padTo_length (by rw [List.length_append, begunL_length]; omega)
theorem sealS_length {b : List UInt8} (h : b.length = 124) : (sealS b).length = 128 := by simp [sealS, lowBytes_length, h]
def numAt (b : List UInt8) (a w : Nat) : Nat := leVal ((b.drop a).take w)
def kindB (b : List UInt8) : UInt8 := if b.length = 128 ∧ b.take 4 = magicL ∧ (b.getD 4 0).toNat ≤ 3 then b.getD 4 0 else 0
/-- The errors that all kinds have. -/
def looksM (b : List UInt8) (kind : UInt8) : Int := if b.length ≠ 128 then 4 else if kindB b ≠ kind then 80 else if numAt b 124 4 ≠ (crcS (b.take 124)).toNat then 81 else 0

theorem lowBytes_cons : ∀ (w v : Nat), lowBytes v (w + 1) = UInt8.ofNat v :: lowBytes (v / 256) w
  | 0, v => by simp [lowBytes]
  | w + 1, v => by
    rw [lowBytes, lowBytes_cons w v, lowBytes, List.cons_append, Nat.div_div_eq_div_mul, Nat.pow_succ, Nat.mul_comm]
theorem leVal_low : ∀ (w v : Nat), v < 256 ^ w → leVal (lowBytes v w) = v
  | 0, v, h => by simp at h; subst h; rfl
  | w + 1, v, h => by
    rw [lowBytes_cons, leVal, leVal_low w (v / 256) (by rw [Nat.pow_succ] at h; exact Nat.div_lt_of_lt_mul (by omega)), UInt8.toNat_ofNat']
    have := Nat.mod_add_div v 256
    omega
/-! ### Numbers side by side -/
def flds (fs : List (Nat × Nat)) : List UInt8 := fs.flatMap fun p => lowBytes p.1 p.2
def offs (fs : List (Nat × Nat)) (k : Nat) : Nat := ((fs.take k).map (·.2)).sum
theorem flds_append (a b : List (Nat × Nat)) : flds (a ++ b) = flds a ++ flds b := by simp [flds]
theorem flds_length : ∀ (fs : List (Nat × Nat)), (flds fs).length = (fs.map (·.2)).sum
  | [] => rfl
  | p :: r => by rw [flds, List.flatMap_cons, List.length_append, lowBytes_length, List.map_cons, List.sum_cons, ← flds_length r]; rfl
theorem numAt_skip (a l : List UInt8) (i w : Nat) : numAt (a ++ l) (a.length + i) w = numAt l i w := by
  unfold numAt; rw [List.drop_append, List.drop_of_length_le (by omega)]; simp
theorem numAt_here (v w : Nat) (c : List UInt8) (hv : v < 256 ^ w) : numAt (lowBytes v w ++ c) 0 w = v := by
  unfold numAt; rw [List.drop_zero, List.take_left' (lowBytes_length v w), leVal_low w v hv]
theorem numAt_flds : ∀ (fs : List (Nat × Nat)) (k : Nat) (p : Nat × Nat) (c : List UInt8), fs[k]? = some p → p.1 < 256 ^ p.2 → numAt (flds fs ++ c) (offs fs k) p.2 = p.1
  | [], k, p, c, h, _ => by simp at h
  | q :: r, 0, p, c, h, hv => by
    simp at h; subst h
    show numAt (lowBytes q.1 q.2 ++ flds r ++ c) 0 q.2 = q.1
    rw [List.append_assoc]; exact numAt_here _ _ _ hv
  | q :: r, k + 1, p, c, h, hv => by
    have ih := numAt_flds r k p c (by simpa using h) hv
    have e : offs (q :: r) (k + 1) = (lowBytes q.1 q.2).length + offs r k := by simp [offs, lowBytes_length]
    rw [e]
    show numAt (lowBytes q.1 q.2 ++ flds r ++ c) _ _ = _
    rw [List.append_assoc, numAt_skip]; exact ih
theorem low_zero : ∀ n, lowBytes 0 n = List.replicate n 0
  | 0 => rfl
  | n + 1 => by rw [lowBytes_cons, Nat.zero_div, low_zero n]; rfl

/-! ### The three kinds -/
structure HdrD where
  epoch : Nat
  seq : Nat
  index : Int
  count : Int
  member : Int
  row : Int
  escaped : Bool
  sum : Nat
abbrev HdrD.cells (h : HdrD) : List Value := [.int .u64 h.epoch, .int .u64 h.seq, .int .i64 h.index, .int .i64 h.count, .int .i64 h.member, .int .i64 h.row, .bool h.escaped, .int .u32 h.sum]
structure CmtD where
  epoch : Nat
  seq : Nat
  count : Int
  sum : Nat
abbrev CmtD.cells (h : CmtD) : List Value := [.int .u64 h.epoch, .int .u64 h.seq, .int .i64 h.count, .int .u32 h.sum]
structure ChkD where
  epoch : Nat
  seq : Nat
  tail : Int
abbrev ChkD.cells (h : ChkD) : List Value := [.int .u64 h.epoch, .int .u64 h.seq, .int .i64 h.tail]
def cntOk (epoch seq : Nat) : Prop := epoch ≤ 4611686018427387904 ∧ 1 ≤ seq ∧ seq ≤ 4611686018427387904
instance (a b : Nat) : Decidable (cntOk a b) := by unfold cntOk; exact inferInstance
def HdrD.good (h : HdrD) : Prop := cntOk h.epoch h.seq ∧ (1 ≤ h.count ∧ h.count ≤ 1023) ∧ (0 ≤ h.index ∧ h.index ≤ h.count - 1) ∧ (0 ≤ h.member ∧ h.member ≤ 15) ∧ 0 ≤ h.row ∧ h.row ≤ 4095
def CmtD.good (h : CmtD) : Prop := cntOk h.epoch h.seq ∧ 1 ≤ h.count ∧ h.count ≤ 1023
def ChkD.good (h : ChkD) : Prop := cntOk h.epoch h.seq ∧ 0 ≤ h.tail ∧ h.tail ≤ 2047
instance (h : HdrD) : Decidable h.good := by unfold HdrD.good; exact inferInstance
instance (h : CmtD) : Decidable h.good := by unfold CmtD.good; exact inferInstance
instance (h : ChkD) : Decidable h.good := by unfold ChkD.good; exact inferInstance
def bitN (b : Bool) : Nat := if b then 1 else 0
def HdrD.rest (h : HdrD) : List (Nat × Nat) := [(h.index.toNat, 4), (h.count.toNat, 4), (h.member.toNat, 4), (h.row.toNat, 4), (bitN h.escaped, 4), (h.sum, 4)]
def CmtD.rest (h : CmtD) : List (Nat × Nat) := [(h.count.toNat, 4), (h.sum, 4)]
def ChkD.rest (h : ChkD) : List (Nat × Nat) := [(h.tail.toNat, 4)]
/-- A sector of a kind, with these numbers. -/
def sectF (kind epoch seq : Nat) (rest : List (Nat × Nat)) : List UInt8 := sealS (sectB kind epoch seq (flds rest))
def HdrD.enc (h : HdrD) : Int × List UInt8 := if h.good then (0, sectF 1 h.epoch h.seq h.rest) else (80, [])
def CmtD.enc (h : CmtD) : Int × List UInt8 := if h.good then (0, sectF 2 h.epoch h.seq h.rest) else (80, [])
def ChkD.enc (h : ChkD) : Int × List UInt8 := if h.good then (0, sectF 3 h.epoch h.seq h.rest) else (80, [])
def HdrD.parse (b : List UInt8) : HdrD := ⟨numAt b 8 8, numAt b 16 8, numAt b 24 4, numAt b 28 4, numAt b 32 4, numAt b 36 4, decide (numAt b 40 4 = 1), numAt b 44 4⟩
def CmtD.parse (b : List UInt8) : CmtD := ⟨numAt b 8 8, numAt b 16 8, numAt b 24 4, numAt b 28 4⟩
def ChkD.parse (b : List UInt8) : ChkD := ⟨numAt b 8 8, numAt b 16 8, numAt b 24 4⟩
def zeroH : HdrD := ⟨0, 0, 0, 0, 0, 0, false, 0⟩
def zeroC : CmtD := ⟨0, 0, 0, 0⟩
def zeroK : ChkD := ⟨0, 0, 0⟩
def HdrD.dec (b : List UInt8) : Int × HdrD := if looksM b 1 ≠ 0 then (looksM b 1, zeroH) else if (HdrD.parse b).good ∧ (HdrD.parse b).enc.2 = b then (0, HdrD.parse b) else (80, zeroH)
def CmtD.dec (b : List UInt8) : Int × CmtD := if looksM b 2 ≠ 0 then (looksM b 2, zeroC) else if (CmtD.parse b).good ∧ (CmtD.parse b).enc.2 = b then (0, CmtD.parse b) else (80, zeroC)
def ChkD.dec (b : List UInt8) : Int × ChkD := if looksM b 3 ≠ 0 then (looksM b 3, zeroK) else if (ChkD.parse b).good ∧ (ChkD.parse b).enc.2 = b then (0, ChkD.parse b) else (80, zeroK)

theorem magic_low : magicL = lowBytes 1279938643 4 := by decide
theorem sectF_flds (kind epoch seq : Nat) (rest : List (Nat × Nat)) (h : (rest.map (·.2)).sum ≤ 100) :
    sectF kind epoch seq rest = flds ([(1279938643, 4), (kind, 4), (epoch, 8), (seq, 8)] ++ rest) ++ (lowBytes 0 (100 - (rest.map (·.2)).sum) ++ lowBytes (crcS (sectB kind epoch seq (flds rest))).toNat 4) := by
  have hlen : 124 - (begunL kind epoch seq ++ flds rest).length = 100 - (rest.map (·.2)).sum := by
    rw [List.length_append, begunL_length, flds_length]; omega
  unfold sectF sealS
  rw [← List.append_assoc]
  congr 1
  unfold sectB padTo
  rw [hlen, low_zero, flds_append]
  simp only [begunL, magic_low, flds, List.flatMap_cons, List.flatMap_nil, List.append_nil, List.append_assoc]
theorem sectF_length (kind epoch seq : Nat) (rest : List (Nat × Nat)) (h : (rest.map (·.2)).sum ≤ 100) : (sectF kind epoch seq rest).length = 128 :=
  sealS_length (sectB_length (by rw [flds_length]; exact h))
theorem crcS_lt (b : List UInt8) : (crcS b).toNat < 256 ^ 4 := (crcS b).isLt
theorem sectF_num (kind epoch seq : Nat) (rest : List (Nat × Nat)) (h : (rest.map (·.2)).sum ≤ 100) (k : Nat) (p : Nat × Nat) (hk : ([(1279938643, 4), (kind, 4), (epoch, 8), (seq, 8)] ++ rest)[k]? = some p) (hv : p.1 < 256 ^ p.2) :
    numAt (sectF kind epoch seq rest) (offs ([(1279938643, 4), (kind, 4), (epoch, 8), (seq, 8)] ++ rest) k) p.2 = p.1 := by
  rw [sectF_flds _ _ _ _ h]; exact numAt_flds _ k p _ hk hv
theorem sectF_looks (kind : UInt8) (hk : 1 ≤ kind.toNat ∧ kind.toNat ≤ 3) (epoch seq : Nat) (rest : List (Nat × Nat)) (h : (rest.map (·.2)).sum ≤ 100) : looksM (sectF kind.toNat epoch seq rest) kind = 0 := by
  have hl := sectF_length kind.toNat epoch seq rest h
  have hb : (sectB kind.toNat epoch seq (flds rest)).length = 124 := sectB_length (by rw [flds_length]; exact h)
  have hcons : ∃ r, sectF kind.toNat epoch seq rest = magicL ++ (kind :: r) := by
    unfold sectF sealS sectB padTo begunL
    rw [lowBytes_cons 3 kind.toNat]
    refine ⟨_, by rw [List.append_assoc, List.append_assoc, List.append_assoc, List.append_assoc, List.append_assoc, List.cons_append]; congr 2; simp⟩
  have hkb : kindB (sectF kind.toNat epoch seq rest) = kind := by
    obtain ⟨r, hr⟩ := hcons
    have h4 : (sectF kind.toNat epoch seq rest).getD 4 0 = kind := by rw [hr]; rfl
    unfold kindB
    rw [h4, if_pos ⟨hl, by rw [hr]; rfl, hk.2⟩]
  have htk : (sectF kind.toNat epoch seq rest).take 124 = sectB kind.toNat epoch seq (flds rest) := by unfold sectF sealS; rw [List.take_left' hb]
  have hn : numAt (sectF kind.toNat epoch seq rest) 124 4 = (crcS (sectB kind.toNat epoch seq (flds rest))).toNat := by
    unfold sectF sealS
    have := numAt_skip (sectB kind.toNat epoch seq (flds rest)) (lowBytes (crcS (sectB kind.toNat epoch seq (flds rest))).toNat 4) 0 4
    rw [hb] at this
    rw [this]
    have := numAt_here (crcS (sectB kind.toNat epoch seq (flds rest))).toNat 4 [] (crcS_lt _)
    rwa [List.append_nil] at this
  unfold looksM
  rw [if_neg (by simp [hl]), hkb, if_neg (by simp), htk, hn, if_neg (by simp)]

/-! ### What is written is read -/
theorem hdr_sum (h : HdrD) : (h.rest.map (·.2)).sum ≤ 100 := by simp [HdrD.rest]
theorem cmt_sum (h : CmtD) : (h.rest.map (·.2)).sum ≤ 100 := by simp [CmtD.rest]
theorem hdr_parse (h : HdrD) (hg : h.good) (hs : h.sum < 4294967296) : HdrD.parse (sectF 1 h.epoch h.seq h.rest) = h := by
  obtain ⟨⟨g1, g2, g3⟩, ⟨g4, g5⟩, ⟨g6, g7⟩, ⟨g8, g9⟩, g10, g11⟩ := hg
  have n := fun k p => sectF_num 1 h.epoch h.seq h.rest (hdr_sum h) k p
  have e2 := n 2 _ rfl (show h.epoch < 256 ^ 8 by omega)
  have e3 := n 3 _ rfl (show h.seq < 256 ^ 8 by omega)
  have e4 := n 4 _ rfl (show h.index.toNat < 256 ^ 4 by omega)
  have e5 := n 5 _ rfl (show h.count.toNat < 256 ^ 4 by omega)
  have e6 := n 6 _ rfl (show h.member.toNat < 256 ^ 4 by omega)
  have e7 := n 7 _ rfl (show h.row.toNat < 256 ^ 4 by omega)
  have e8 := n 8 _ rfl (show bitN h.escaped < 256 ^ 4 by unfold bitN; split <;> omega)
  have e9 := n 9 _ rfl (show h.sum < 256 ^ 4 by omega)
  change numAt _ 8 8 = _ at e2
  change numAt _ 16 8 = _ at e3
  change numAt _ 24 4 = _ at e4
  change numAt _ 28 4 = _ at e5
  change numAt _ 32 4 = _ at e6
  change numAt _ 36 4 = _ at e7
  change numAt _ 40 4 = _ at e8
  change numAt _ 44 4 = _ at e9
  unfold HdrD.parse
  rw [e2, e3, e4, e5, e6, e7, e8, e9]
  obtain ⟨a, b, c, d, e, f, g, i⟩ := h
  simp only [HdrD.mk.injEq, true_and, and_true] at *
  refine ⟨by omega, by omega, by omega, by omega, ?_⟩
  cases g <;> simp [bitN]
theorem cmt_parse (h : CmtD) (hg : h.good) (hs : h.sum < 4294967296) : CmtD.parse (sectF 2 h.epoch h.seq h.rest) = h := by
  obtain ⟨⟨g1, g2, g3⟩, g4, g5⟩ := hg
  have n := fun k p => sectF_num 2 h.epoch h.seq h.rest (cmt_sum h) k p
  have e2 := n 2 _ rfl (show h.epoch < 256 ^ 8 by omega)
  have e3 := n 3 _ rfl (show h.seq < 256 ^ 8 by omega)
  have e4 := n 4 _ rfl (show h.count.toNat < 256 ^ 4 by omega)
  have e5 := n 5 _ rfl (show h.sum < 256 ^ 4 by omega)
  change numAt _ 8 8 = _ at e2
  change numAt _ 16 8 = _ at e3
  change numAt _ 24 4 = _ at e4
  change numAt _ 28 4 = _ at e5
  unfold CmtD.parse
  rw [e2, e3, e4, e5]
  obtain ⟨a, b, c, d⟩ := h
  simp only [CmtD.mk.injEq, true_and, and_true] at *
  omega
theorem hdr_back (h : HdrD) (hg : h.good) (hs : h.sum < 4294967296) : HdrD.dec h.enc.2 = (0, h) := by
  have e : h.enc.2 = sectF 1 h.epoch h.seq h.rest := by unfold HdrD.enc; rw [if_pos hg]
  unfold HdrD.dec
  rw [e, if_neg (by rw [show sectF 1 h.epoch h.seq h.rest = sectF (1 : UInt8).toNat h.epoch h.seq h.rest from rfl, sectF_looks 1 (by decide) _ _ _ (hdr_sum h)]; simp), hdr_parse h hg hs, if_pos ⟨hg, e⟩]
theorem cmt_back (h : CmtD) (hg : h.good) (hs : h.sum < 4294967296) : CmtD.dec h.enc.2 = (0, h) := by
  have e : h.enc.2 = sectF 2 h.epoch h.seq h.rest := by unfold CmtD.enc; rw [if_pos hg]
  unfold CmtD.dec
  rw [e, if_neg (by rw [show sectF 2 h.epoch h.seq h.rest = sectF (2 : UInt8).toNat h.epoch h.seq h.rest from rfl, sectF_looks 2 (by decide) _ _ _ (cmt_sum h)]; simp), cmt_parse h hg hs, if_pos ⟨hg, e⟩]
end Go.Proofs.Ytpmmkmcbimnigaa

/-! Text Eb. -/
/- Checksums: the program's half, More, Sum; the document's through, More, Sum. -/
set_option maxRecDepth 8000
set_option linter.unusedVariables false
set_option linter.unusedSimpArgs false
set_option linter.unusedSectionVars false
namespace Go.Sl
open Go Go.RowKit
section
variable {W : World} {P : Program} {n : Nat} {H : List SProp} {f : Fr} {dst : Option Tmp} {ty_ : TypeId} {pos : String} {after : Array Edge} {guard : Option (Nat × Bool)}
end
end Go.Sl
namespace Go.Proofs.Ytpmmkmcbimnigaa
open Go.RowKit Go.Sl
attribute [local irreducible] Own

/-! ### The program's, by a table -/
end Go.Proofs.Ytpmmkmcbimnigaa

/-! Text Ec. -/
/- The document's record: put, numbers, begun, ended; the program's counts, in. -/
set_option maxRecDepth 8000
set_option linter.unusedVariables false
set_option linter.unusedSimpArgs false
set_option linter.unusedSectionVars false
namespace Go.Proofs.Ytpmmkmcbimnigaa
open Go.RowKit Go.Sl
attribute [local irreducible] Own

end Go.Proofs.Ytpmmkmcbimnigaa

/-! Text Ed. -/
/- The document's record: get. -/
set_option maxRecDepth 8000
set_option linter.unusedVariables false
set_option linter.unusedSimpArgs false
set_option linter.unusedSectionVars false
namespace Go.Proofs.Ytpmmkmcbimnigaa
open Go.RowKit Go.Sl
attribute [local irreducible] Own

end Go.Proofs.Ytpmmkmcbimnigaa

/-! Text Ef. -/
/- The document's record: begun, ended. -/
set_option maxRecDepth 8000
set_option linter.unusedVariables false
set_option linter.unusedSimpArgs false
set_option linter.unusedSectionVars false
namespace Go.Proofs.Ytpmmkmcbimnigaa
open Go.RowKit Go.Sl
attribute [local irreducible] Own

end Go.Proofs.Ytpmmkmcbimnigaa

/-! Text Eg. -/
/- Sectors of the journal: what they look like (Kind, looks), the document's and the program's. -/
set_option maxRecDepth 8000
set_option linter.unusedVariables false
set_option linter.unusedSimpArgs false
set_option linter.unusedSectionVars false
namespace Go.Proofs.Ytpmmkmcbimnigaa
open Go.RowKit Go.Sl
attribute [local irreducible] Own

end Go.Proofs.Ytpmmkmcbimnigaa

/-! Text Eh. -/
/- The document's EncodeHeader, EncodeCommit, EncodeCheck. -/
set_option maxRecDepth 8000
set_option linter.unusedVariables false
set_option linter.unusedSimpArgs false
set_option linter.unusedSectionVars false
namespace Go.Proofs.Ytpmmkmcbimnigaa
open Go.RowKit Go.Sl
attribute [local irreducible] Own

structure HdrD.fit (h : HdrD) : Prop where
  epoch : h.epoch < 2 ^ 64
  seq : h.seq < 2 ^ 64
  index : -9223372036854775808 ≤ h.index ∧ h.index ≤ 9223372036854775807
  count : -9223372036854775808 ≤ h.count ∧ h.count ≤ 9223372036854775807
  member : -9223372036854775808 ≤ h.member ∧ h.member ≤ 9223372036854775807
  row : -9223372036854775808 ≤ h.row ∧ h.row ≤ 9223372036854775807
  sum : h.sum < 4294967296
structure CmtD.fit (h : CmtD) : Prop where
  epoch : h.epoch < 2 ^ 64
  seq : h.seq < 2 ^ 64
  count : -9223372036854775808 ≤ h.count ∧ h.count ≤ 9223372036854775807
  sum : h.sum < 4294967296
structure ChkD.fit (h : ChkD) : Prop where
  epoch : h.epoch < 2 ^ 64
  seq : h.seq < 2 ^ 64
  tail : -9223372036854775808 ≤ h.tail ∧ h.tail ≤ 9223372036854775807
theorem hdr_ok {h : HdrD} (g : h.good) : h.enc = (0, sectF 1 h.epoch h.seq h.rest) := if_pos g
theorem cmt_ok {h : CmtD} (g : h.good) : h.enc = (0, sectF 2 h.epoch h.seq h.rest) := if_pos g
end Go.Proofs.Ytpmmkmcbimnigaa

/-! Text Ei. -/
/- The document's DecodeHeader, DecodeCommit, DecodeCheck. -/
set_option maxRecDepth 8000
set_option linter.unusedVariables false
set_option linter.unusedSimpArgs false
set_option linter.unusedSectionVars false
namespace Go.Proofs.Ytpmmkmcbimnigaa
open Go.RowKit Go.Sl
attribute [local irreducible] Own

end Go.Proofs.Ytpmmkmcbimnigaa

/-! Text Lp. -/
/- Raw bytes, fills, and the law's own call of a packer. -/
set_option maxRecDepth 8000
set_option linter.unusedVariables false
set_option linter.unusedSimpArgs false
set_option linter.unusedSectionVars false
namespace Go.Proofs.Ytpmmkmcbimnigaa
open Go.RowKit Go.Sl

def Pk.fill (k : Pk) (n : Int) (c : UInt8) : Pk := if n ≤ 0 then k else if (k.room n).bad = 0 then { k with had := k.had ++ List.replicate n.toNat c } else k.room n

end Go.Proofs.Ytpmmkmcbimnigaa

/-! Text Lq. -/
/- Scripts of calls: the law's data, 'much', 'puts'. -/
set_option maxRecDepth 8000
set_option linter.unusedVariables false
set_option linter.unusedSimpArgs false
set_option linter.unusedSectionVars false
namespace Go.Proofs.Ytpmmkmcbimnigaa
open Go.RowKit Go.Sl

structure OpD where
  kind : Int
  v : Nat
  n : Int
  ao : Option Addr
  cap : Nat
  b : List UInt8
abbrev OpD.cells (o : OpD) : List Value := [.int .i64 o.kind, .int .u64 o.v, .int .i64 o.n, .slice o.ao o.b.length o.cap]
structure OpD.wf (W : World) (o : OpD) : Prop where
  v : o.v < 2 ^ 64
  n1 : -9223372036854775808 ≤ o.n
  n2 : o.n ≤ 9223372036854775807
  b : RdsA W 1 o.ao o.b.length (bytes o.b)
  big : o.b.length ≤ 140737488355328
end Go.Proofs.Ytpmmkmcbimnigaa

/-! Text Ls. -/
/- The reader's Raw, Noughts, End. -/
set_option maxRecDepth 8000
set_option linter.unusedVariables false
set_option linter.unusedSimpArgs false
set_option linter.unusedSectionVars false
namespace Go.Proofs.Ytpmmkmcbimnigaa
open Go.RowKit Go.Sl

/-- The first byte that is no nought. -/
def firstOdd (l : List UInt8) : Int := match l.findIdx? (· != 0) with
  | some j => j
  | none => -1

def Rk.noughts (k : Rk) (n : Int) : Rk :=
  if n ≤ 0 then k else if (k.short n.toNat).err ≠ 0 then k.short n.toNat else
  if 0 ≤ firstOdd (k.got n.toNat) then { k with err := 12, wh := k.at_ + firstOdd (k.got n.toNat) } else { k with at_ := k.at_ + n.toNat }

end Go.Proofs.Ytpmmkmcbimnigaa

/-! Text Ej. -/
/- The program's EncodeHeader, EncodeCommit, EncodeCheck. -/
set_option maxRecDepth 8000
set_option linter.unusedVariables false
set_option linter.unusedSimpArgs false
set_option linter.unusedSectionVars false
namespace Go.Proofs.Ytpmmkmcbimnigaa
open Go.RowKit Go.Sl
attribute [local irreducible] Own

end Go.Proofs.Ytpmmkmcbimnigaa

/-! Text Ek. -/
/- The program's read, DecodeHeader, DecodeCommit, DecodeCheck. -/
set_option maxRecDepth 8000
set_option linter.unusedVariables false
set_option linter.unusedSimpArgs false
set_option linter.unusedSectionVars false
namespace Go.Proofs.Ytpmmkmcbimnigaa
open Go.RowKit Go.Sl
attribute [local irreducible] Own

end Go.Proofs.Ytpmmkmcbimnigaa

/-! Text Em. -/
/- The program's DecodeHeader, DecodeCommit, DecodeCheck. -/
set_option maxRecDepth 8000
set_option linter.unusedVariables false
set_option linter.unusedSimpArgs false
set_option linter.unusedSectionVars false
namespace Go.Proofs.Ytpmmkmcbimnigaa
open Go.RowKit Go.Sl
attribute [local irreducible] Own

end Go.Proofs.Ytpmmkmcbimnigaa

/-! Text En. -/
/- Escape and Unescape, the document's and the program's. -/
set_option maxRecDepth 8000
set_option linter.unusedVariables false
set_option linter.unusedSimpArgs false
set_option linter.unusedSectionVars false
namespace Go.Proofs.Ytpmmkmcbimnigaa
open Go.RowKit Go.Sl
attribute [local irreducible] Own

def nought4 : List UInt8 := [0, 0, 0, 0]
/-- What is logged; is it marked? -/
def escM (b : List UInt8) : List UInt8 := if b.take 4 = magicL then nought4 ++ b.drop 4 else b
def isEsc (b : List UInt8) : Bool := decide (b.take 4 = magicL)
def unD (b : List UInt8) (e : Bool) : List UInt8 × Int :=
  if b.length ≠ 128 then ([], 4) else if e = false then (if b.take 4 = magicL then ([], 80) else (b, 0)) else (if b.take 4 = nought4 then (magicL ++ b.drop 4, 0) else ([], 80))

end Go.Proofs.Ytpmmkmcbimnigaa

/-! Text Np. -/
/- Batches in a ring: what they are as sectors, when one counts, what a scan finds: the plain law. -/
set_option maxRecDepth 8000
set_option linter.unusedVariables false
set_option linter.unusedSimpArgs false
set_option linter.unusedSectionVars false
namespace Go.Proofs.Ytpmmkmcbimnigaa
open Go.RowKit Go.Sl
attribute [local irreducible] Own

/-! ### Sums -/
/-! ### What is decoded is what was encoded -/
theorem hdr_decO {b : List UInt8} (h : (HdrD.dec b).1 = 0) : looksM b 1 = 0 ∧ (HdrD.dec b).2.good ∧ (HdrD.dec b).2.enc = (0, b) ∧ (HdrD.dec b).2 = HdrD.parse b := by
  unfold HdrD.dec at h ⊢
  split at h
  · rename_i h1; exact absurd h h1
  · rename_i h1
    split at h
    · rename_i h2
      rw [if_neg h1, if_pos h2]
      exact ⟨Decidable.of_not_not h1, h2.1, by rw [hdr_ok h2.1]; have := h2.2; rw [hdr_ok h2.1] at this; exact congrArg (Prod.mk 0) this, rfl⟩
    · cases h
theorem cmt_decO {b : List UInt8} (h : (CmtD.dec b).1 = 0) : looksM b 2 = 0 ∧ (CmtD.dec b).2.good ∧ (CmtD.dec b).2.enc = (0, b) := by
  unfold CmtD.dec at h ⊢
  split at h
  · rename_i h1; exact absurd h h1
  · rename_i h1
    split at h
    · rename_i h2
      rw [if_neg h1, if_pos h2]
      exact ⟨Decidable.of_not_not h1, h2.1, by rw [cmt_ok h2.1]; have := h2.2; rw [cmt_ok h2.1] at this; exact congrArg (Prod.mk 0) this⟩
    · cases h
/-! ### Escapes -/
theorem nought_magic : magicL ≠ nought4 := by decide
theorem escN_length {b : List UInt8} (h : b.length = 128) : (escM b).length = 128 := by
  unfold escM; split
  · simp [nought4]; omega
  · exact h
theorem escN_head {l : List UInt8} : (escM l).take 4 ≠ magicL := by
  unfold escM; split
  · rw [List.take_left' (by rfl)]; exact fun h => nought_magic h.symm
  · assumption
theorem unN_back {l : List UInt8} (h : l.length = 128) : unD (escM l) (isEsc l) = (l, 0) := by
  have hl := escN_length h
  have hh := escN_head (l := l)
  unfold unD isEsc
  rw [if_neg (by omega)]
  by_cases hm : l.take 4 = magicL
  · rw [decide_eq_true hm, if_neg (by simp)]
    have e : escM l = nought4 ++ l.drop 4 := if_pos hm
    rw [e, List.take_left' (by rfl), if_pos rfl, List.drop_left' (by rfl), ← hm, List.take_append_drop]
  · rw [decide_eq_false hm, if_pos rfl, if_neg hh, show escM l = l from if_neg hm]
/-- What is unescaped is escaped back. -/
theorem unN_esc {b : List UInt8} {e : Bool} (h : (unD b e).2 = 0) : (unD b e).1.length = 128 ∧ escM (unD b e).1 = b ∧ isEsc (unD b e).1 = e := by
  unfold unD at h ⊢
  split at h
  · cases h
  · rename_i h1
    have h128 : b.length = 128 := Decidable.of_not_not h1
    rw [if_neg h1]
    split at h
    · rename_i h2
      rw [if_pos h2]
      split at h
      · cases h
      · rename_i h3
        rw [if_neg h3]
        exact ⟨h128, if_neg h3, by rw [h2]; exact decide_eq_false h3⟩
    · rename_i h2
      rw [if_neg h2]
      split at h
      · rename_i h3
        rw [if_pos h3]
        have ht : (magicL ++ b.drop 4).take 4 = magicL := List.take_left' (by rfl)
        have hd : (magicL ++ b.drop 4).drop 4 = b.drop 4 := List.drop_left' (by rfl)
        refine ⟨by simp [magicL]; omega, ?_, ?_⟩
        · show escM (magicL ++ b.drop 4) = b
          unfold escM
          rw [if_pos ht, hd, ← h3, List.take_append_drop]
        · show isEsc (magicL ++ b.drop 4) = e
          cases e with
          | true => exact decide_eq_true ht
          | false => exact absurd rfl h2
      · cases h
/-! ### Batches as sectors -/
structure PatD where
  member : Int
  row : Int
  data : List UInt8
def PatD.far (p : PatD) : Prop := p.member < 0 ∨ 15 < p.member ∨ p.row < 0 ∨ 4095 < p.row
instance (p : PatD) : Decidable p.far := by unfold PatD.far; exact inferInstance
def hdrP (e s n i : Nat) (p : PatD) : HdrD := ⟨e, s, i, n, p.member, p.row, isEsc p.data, (crcS (escM p.data)).toNat⟩
def headP (e s n i : Nat) (p : PatD) : List UInt8 := (hdrP e s n i p).enc.2
/-- The first so many pairs. -/
def pairsP (e s n : Nat) : List PatD → Nat → List (List UInt8)
  | [], _ => []
  | p :: r, i => headP e s n i p :: escM p.data :: pairsP e s n r (i + 1)
def headsP (e s n : Nat) : List PatD → Nat → List UInt8
  | [], _ => []
  | p :: r, i => headP e s n i p ++ headsP e s n r (i + 1)
def cmtP (e s : Nat) (l : List PatD) : CmtD := ⟨e, s, l.length, (crcS (headsP e s l.length l 0)).toNat⟩
theorem pairsP_length (e s n : Nat) : ∀ (l : List PatD) (i : Nat), (pairsP e s n l i).length = 2 * l.length
  | [], _ => rfl
  | _ :: r, i => by simp only [pairsP, List.length_cons, pairsP_length e s n r]; omega
theorem pairsP_get (e s n : Nat) : ∀ (l : List PatD) (i j : Nat) (h : j < l.length), (pairsP e s n l i)[2 * j]? = some (headP e s n (i + j) l[j]) ∧ (pairsP e s n l i)[2 * j + 1]? = some (escM l[j].data)
  | p :: r, i, 0, _ => ⟨rfl, rfl⟩
  | p :: r, i, j + 1, h => by
    have ih := pairsP_get e s n r (i + 1) j (by simpa using h)
    rw [show 2 * (j + 1) = 2 * j + 2 by omega, show 2 * j + 2 + 1 = (2 * j + 1) + 2 by omega]
    simp only [pairsP, List.getElem?_cons_succ, List.getElem_cons_succ]
    rw [show i + (j + 1) = i + 1 + j by omega]
    exact ih
theorem headsP_append (e s n : Nat) : ∀ (l m : List PatD) (i : Nat), headsP e s n (l ++ m) i = headsP e s n l i ++ headsP e s n m (i + l.length)
  | [], m, i => by simp [headsP]
  | p :: r, m, i => by simp only [List.cons_append, headsP, headsP_append e s n r, List.append_assoc, List.length_cons]; rw [show i + 1 + r.length = i + (r.length + 1) by omega]
/-- What is asked of a batch that has sectors. -/
structure Fine (e s : Nat) (l : List PatD) : Prop where
  cnt : cntOk e s
  n1 : 1 ≤ l.length
  n2 : l.length ≤ 1023
  pat : ∀ p ∈ l, (0 ≤ p.member ∧ p.member ≤ 15) ∧ (0 ≤ p.row ∧ p.row ≤ 4095) ∧ p.data.length = 128
def rowsP (e s : Nat) (l : List PatD) : List (List UInt8) := pairsP e s l.length l 0 ++ [(cmtP e s l).enc.2]
theorem rowsP_length (e s : Nat) (l : List PatD) : (rowsP e s l).length = 2 * l.length + 1 := by simp [rowsP, pairsP_length]
theorem hdrP_good {e s : Nat} {l : List PatD} (h : Fine e s l) {i : Nat} (hi : i < l.length) : (hdrP e s l.length i l[i]).good := by
  have hp := h.pat l[i] (List.getElem_mem hi)
  have := h.n2
  exact ⟨h.cnt, ⟨by simp only [hdrP]; omega, by simp only [hdrP]; omega⟩, ⟨by simp only [hdrP]; omega, by simp only [hdrP]; omega⟩, hp.1, hp.2.1⟩
theorem hdrP_sum (e s n i : Nat) (p : PatD) : (hdrP e s n i p).sum < 4294967296 := (crcS (escM p.data)).isLt
theorem cmtP_good {e s : Nat} {l : List PatD} (h : Fine e s l) : (cmtP e s l).good := ⟨h.cnt, by have := h.n1; simp only [cmtP]; omega, by have := h.n2; simp only [cmtP]; omega⟩
theorem cmtP_sum (e s : Nat) (l : List PatD) : (cmtP e s l).sum < 4294967296 := (crcS _).isLt
theorem headP_dec {e s : Nat} {l : List PatD} (h : Fine e s l) {i : Nat} (hi : i < l.length) : HdrD.dec (headP e s l.length i l[i]) = (0, hdrP e s l.length i l[i]) := hdr_back _ (hdrP_good h hi) (hdrP_sum _ _ _ _ _)
theorem headP_length {e s : Nat} {l : List PatD} (h : Fine e s l) {i : Nat} (hi : i < l.length) : (headP e s l.length i l[i]).length = 128 := by
  unfold headP; rw [hdr_ok (hdrP_good h hi)]; exact sectF_length _ _ _ _ (hdr_sum _)
theorem cmtP_dec {e s : Nat} {l : List PatD} (h : Fine e s l) : CmtD.dec (cmtP e s l).enc.2 = (0, cmtP e s l) := cmt_back _ (cmtP_good h) (cmtP_sum _ _ _)
theorem cmtP_length {e s : Nat} {l : List PatD} (h : Fine e s l) : (cmtP e s l).enc.2.length = 128 := by
  rw [cmt_ok (cmtP_good h)]; exact sectF_length _ _ _ _ (cmt_sum _)
theorem rowsP_even {e s : Nat} {l : List PatD} {i : Nat} (hi : i < l.length) : (rowsP e s l)[2 * i]? = some (headP e s l.length i l[i]) := by
  unfold rowsP
  rw [List.getElem?_append_left (by rw [pairsP_length]; omega), (pairsP_get e s l.length l 0 i hi).1, Nat.zero_add]
theorem rowsP_odd {e s : Nat} {l : List PatD} {i : Nat} (hi : i < l.length) : (rowsP e s l)[2 * i + 1]? = some (escM l[i].data) := by
  unfold rowsP
  rw [List.getElem?_append_left (by rw [pairsP_length]; omega), (pairsP_get e s l.length l 0 i hi).2]
theorem rowsP_last (e s : Nat) (l : List PatD) : (rowsP e s l)[2 * l.length]? = some (cmtP e s l).enc.2 := by
  unfold rowsP
  rw [List.getElem?_append_right (by rw [pairsP_length]; exact Nat.le_refl _), pairsP_length]; simp
theorem rowsP_128 {e s : Nat} {l : List PatD} (h : Fine e s l) : ∀ r ∈ rowsP e s l, r.length = 128 := by
  intro r hr
  obtain ⟨j, hj⟩ := List.mem_iff_getElem?.1 hr
  have hlt := (List.getElem?_eq_some_iff.1 hj).1
  rw [rowsP_length] at hlt
  rcases Nat.lt_or_ge j (2 * l.length) with h1 | h1
  · rcases Nat.mod_two_eq_zero_or_one j with h2 | h2
    · rw [show j = 2 * (j / 2) by omega, rowsP_even (by omega)] at hj
      injection hj with hj; rw [← hj]; exact headP_length h _
    · rw [show j = 2 * (j / 2) + 1 by omega, rowsP_odd (by omega)] at hj
      injection hj with hj; rw [← hj]; exact escN_length (h.pat _ (List.getElem_mem _)).2.2
  · rw [show j = 2 * l.length by omega, rowsP_last] at hj
    injection hj with hj; rw [← hj]; exact cmtP_length h
/-! ### When one counts -/
abbrev SecF := Nat → List UInt8
/-- The i-th pair of sectors is as it must be. -/
def stepOk (sec : SecF) (e s : Nat) (n : Int) (i : Nat) : Prop :=
  (HdrD.dec (sec (2 * i))).1 = 0 ∧ (HdrD.dec (sec (2 * i))).2.epoch = e ∧ (HdrD.dec (sec (2 * i))).2.seq = s ∧ (HdrD.dec (sec (2 * i))).2.index = i ∧ (HdrD.dec (sec (2 * i))).2.count = n ∧
  (unD (sec (2 * i + 1)) (HdrD.dec (sec (2 * i))).2.escaped).2 = 0 ∧ (crcS (sec (2 * i + 1))).toNat = (HdrD.dec (sec (2 * i))).2.sum
instance (sec : SecF) (e s : Nat) (n : Int) (i : Nat) : Decidable (stepOk sec e s n i) := by unfold stepOk; exact inferInstance
def patAt (sec : SecF) (i : Nat) : PatD := ⟨(HdrD.dec (sec (2 * i))).2.member, (HdrD.dec (sec (2 * i))).2.row, (unD (sec (2 * i + 1)) (HdrD.dec (sec (2 * i))).2.escaped).1⟩
def headsF (sec : SecF) : Nat → List UInt8
  | 0 => []
  | i + 1 => headsF sec i ++ sec (2 * i)
def batN (sec : SecF) : Int := (HdrD.dec (sec 0)).2.count
def batOk (sec : SecF) (room e s : Nat) : Prop :=
  (HdrD.dec (sec 0)).1 = 0 ∧ 2 * batN sec + 1 ≤ room ∧ (∀ i, i < (batN sec).toNat → stepOk sec e s (batN sec) i) ∧
  (CmtD.dec (sec (2 * (batN sec).toNat))) = (0, ⟨e, s, batN sec, (crcS (headsF sec (batN sec).toNat)).toNat⟩)
instance instCmtN : DecidableEq CmtD := fun a b => if h : a.epoch = b.epoch ∧ a.seq = b.seq ∧ a.count = b.count ∧ a.sum = b.sum then isTrue (by cases a; cases b; simp_all) else isFalse (fun q => h (by rw [q]; exact ⟨rfl, rfl, rfl, rfl⟩))
instance (sec : SecF) (room e s : Nat) : Decidable (batOk sec room e s) := by unfold batOk; exact inferInstance
def batM (sec : SecF) (room e s : Nat) : Option (List PatD) := if batOk sec room e s then some ((List.range (batN sec).toNat).map (patAt sec)) else none
theorem headsP_map (e s : Nat) (sec : SecF) (n : Nat) : ∀ (m : Nat), (∀ i, i < m → sec (2 * i) = headP e s n i (patAt sec i)) → headsP e s n ((List.range m).map (patAt sec)) 0 = headsF sec m
  | 0, _ => rfl
  | m + 1, h => by
    rw [List.range_succ, List.map_append, headsP_append, headsP_map e s sec n m (fun i hi => h i (by omega))]
    simp only [List.map_cons, List.map_nil, headsP, List.append_nil, List.length_map, List.length_range, Nat.zero_add, headsF]
    rw [h m (by omega)]
/-- WHEN A BATCH COUNTS: just if its own sectors stand there. -/
theorem bat_iff (sec : SecF) (room e s : Nat) (l : List PatD) : batM sec room e s = some l ↔ Fine e s l ∧ 2 * l.length + 1 ≤ room ∧ ∀ j, j < 2 * l.length + 1 → (rowsP e s l)[j]? = some (sec j) := by
  constructor
  · intro h
    unfold batM at h
    split at h
    · rename_i hb
      injection h with h
      obtain ⟨h0, hroom, hst, hc⟩ := hb
      have g0 := (hdr_decO h0).2.1
      have hn1 : 1 ≤ batN sec ∧ batN sec ≤ 1023 := g0.2.1
      obtain ⟨N, hN⟩ : ∃ N : Nat, batN sec = N := ⟨(batN sec).toNat, by omega⟩
      rw [hN] at hst hc hroom hn1
      rw [hN] at h
      rw [Int.toNat_natCast] at hst hc h
      have hl : l.length = N := by rw [← h]; simp
      have hget : ∀ (i : Nat) (hi : i < l.length), l[i] = patAt sec i := by
        intro i hi; simp only [← h, List.getElem_map, List.getElem_range]
      have hs : ∀ i, i < N → sec (2 * i) = headP e s N i (patAt sec i) ∧ sec (2 * i + 1) = escM (patAt sec i).data ∧ (patAt sec i).data.length = 128 ∧ (0 ≤ (patAt sec i).member ∧ (patAt sec i).member ≤ 15) ∧ (0 ≤ (patAt sec i).row ∧ (patAt sec i).row ≤ 4095) ∧ cntOk e s := by
        intro i hi
        obtain ⟨a1, a2, a3, a4, a5, a6, a7⟩ := hst i hi
        obtain ⟨_, b2, b3, b4⟩ := hdr_decO a1
        obtain ⟨c1, c2, c3⟩ := unN_esc a6
        have hh : (HdrD.dec (sec (2 * i))).2 = hdrP e s N i (patAt sec i) := by
          unfold hdrP patAt
          dsimp only
          rw [c2, c3, a7, ← a2, ← a3, ← a4, ← a5]
        refine ⟨?_, c2.symm, c1, b2.2.2.2.1, b2.2.2.2.2, by rw [← a2, ← a3]; exact b2.1⟩
        unfold headP
        rw [← hh, b3]
      have hfine : Fine e s l := by
        refine ⟨(hs 0 (by omega)).2.2.2.2.2, by omega, by omega, fun p hp => ?_⟩
        obtain ⟨i, hi, rfl⟩ := List.mem_iff_getElem.1 hp
        rw [hget i hi]
        have := hs i (by omega)
        exact ⟨this.2.2.2.1, this.2.2.2.2.1, this.2.2.1⟩
      refine ⟨hfine, by omega, fun j hj => ?_⟩
      rcases Nat.lt_or_ge j (2 * l.length) with h1 | h1
      · rcases Nat.mod_two_eq_zero_or_one j with h2 | h2
        · obtain ⟨i, rfl⟩ : ∃ i, j = 2 * i := ⟨j / 2, by omega⟩
          rw [rowsP_even (by omega), hget i (by omega), hl, ← (hs i (by omega)).1]
        · obtain ⟨i, rfl⟩ : ∃ i, j = 2 * i + 1 := ⟨j / 2, by omega⟩
          rw [rowsP_odd (by omega), hget i (by omega), ← (hs i (by omega)).2.1]
      · obtain rfl : j = 2 * l.length := by omega
        rw [rowsP_last]
        have hcm : cmtP e s l = ⟨e, s, N, (crcS (headsF sec N)).toNat⟩ := by
          unfold cmtP
          rw [hl, ← h, headsP_map e s sec N N (fun i hi => (hs i hi).1)]
        have hd := cmt_decO (b := sec (2 * N)) (by rw [hc])
        rw [hc] at hd
        rw [hcm, hd.2.2, hl]
    · cases h
  · rintro ⟨hf, hroom, hrow⟩
    have hn1 := hf.n1
    have he : ∀ (i : Nat) (hi : i < l.length), sec (2 * i) = headP e s l.length i l[i] ∧ sec (2 * i + 1) = escM l[i].data := by
      intro i hi
      have h1 := hrow (2 * i) (by omega)
      have h2 := hrow (2 * i + 1) (by omega)
      rw [rowsP_even hi] at h1
      rw [rowsP_odd hi] at h2
      injection h1 with h1; injection h2 with h2
      exact ⟨h1.symm, h2.symm⟩
    have hd : ∀ (i : Nat) (hi : i < l.length), HdrD.dec (sec (2 * i)) = (0, hdrP e s l.length i l[i]) := fun i hi => by rw [(he i hi).1]; exact headP_dec hf hi
    have hu : ∀ (i : Nat) (hi : i < l.length), unD (sec (2 * i + 1)) (hdrP e s l.length i l[i]).escaped = (l[i].data, 0) := fun i hi => by rw [(he i hi).2]; exact unN_back (hf.pat _ (List.getElem_mem hi)).2.2
    have h0 := hd 0 (by omega)
    rw [Nat.mul_zero] at h0
    have hN : batN sec = l.length := by unfold batN; rw [h0]; rfl
    have hp : ∀ (i : Nat) (hi : i < l.length), patAt sec i = l[i] := by
      intro i hi
      unfold patAt
      rw [hd i hi]; dsimp only
      rw [hu i hi]; rfl
    have hm : (List.range l.length).map (patAt sec) = l := by
      apply List.ext_getElem
      · simp
      · intro i h1 h2; simp only [List.getElem_map, List.getElem_range]; exact hp i h2
    unfold batM
    rw [if_pos]
    · rw [hN, Int.toNat_natCast, hm]
    · refine ⟨by rw [h0], by rw [hN]; omega, ?_, ?_⟩
      · intro i hi
        rw [hN, Int.toNat_natCast] at hi
        unfold stepOk
        rw [hN, hd i hi]
        dsimp only
        rw [hu i hi, (he i hi).2]
        exact ⟨rfl, rfl, rfl, rfl, rfl, rfl, rfl⟩
      · have h1 := hrow (2 * l.length) (by omega)
        rw [rowsP_last] at h1
        injection h1 with h1
        rw [hN, Int.toNat_natCast, ← h1, cmtP_dec hf]
        congr 1
        unfold cmtP
        congr 3
        rw [← headsP_map e s sec l.length l.length (fun i hi => by rw [hp i hi]; exact (he i hi).1), hm]
/-! ### What a scan finds -/
def rotF (sec : SecF) (size hd : Nat) : SecF := fun j => sec ((hd + j) % size)
def ofM (sec : SecF) (size e : Nat) : Nat → Nat → Nat → Nat → List (Nat × List PatD)
  | 0, _, _, _ => []
  | f + 1, nx, us, hd => if nx ≤ 4611686018427387904 then match batM (rotF sec size hd) (size - us) e nx with
    | none => []
    | some l => (nx, l) :: ofM sec size e f (nx + 1) (us + (2 * l.length + 1)) ((hd + (2 * l.length + 1)) % size)
    else []
end Go.Proofs.Ytpmmkmcbimnigaa

/-! Text Nq. -/
/- What a scan finds: the plain law. -/
set_option maxRecDepth 8000
set_option linter.unusedVariables false
set_option linter.unusedSimpArgs false
set_option linter.unusedSectionVars false
namespace Go.Proofs.Ytpmmkmcbimnigaa
open Go.RowKit Go.Sl
attribute [local irreducible] Own

def mostC : Nat := 4611686018427387904
/-- Batches, numbered one behind the other. -/
def numb (s : Nat) : List (List PatD) → List (Nat × List PatD)
  | [] => []
  | l :: r => (s, l) :: numb (s + 1) r
def costL (ls : List (List PatD)) : Nat := (ls.map fun l => 2 * l.length + 1).sum
theorem costL_cons (l : List PatD) (r : List (List PatD)) : costL (l :: r) = (2 * l.length + 1) + costL r := by simp [costL]
theorem costL_append (a b : List (List PatD)) : costL (a ++ b) = costL a + costL b := by simp [costL]
theorem numb_length : ∀ (ls : List (List PatD)) (s : Nat), (numb s ls).length = ls.length
  | [], _ => rfl
  | _ :: r, s => by simp [numb, numb_length r]
theorem rotF_mod (sec : SecF) (size hd : Nat) : rotF sec size (hd % size) = rotF sec size hd := by
  funext j; unfold rotF; rw [Nat.mod_add_mod]
section
variable {sec : SecF} {size e : Nat}
theorem bat_room {room s : Nat} {l : List PatD} (h : batM sec room e s = some l) : 2 * l.length + 1 ≤ room ∧ 1 ≤ l.length := by
  have := (bat_iff sec room e s l).1 h
  exact ⟨this.2.1, this.1.n1⟩
/-- Batches that count, one behind the other, are found. -/
theorem of_prefix : ∀ (ls : List (List PatD)) (f nx us hd : Nat), (∀ (k : Nat) (h : k < ls.length), nx + k ≤ mostC ∧ batM (rotF sec size (hd + costL (ls.take k))) (size - (us + costL (ls.take k))) e (nx + k) = some ls[k]) → ls.length ≤ f →
    ofM sec size e f nx us hd = numb nx ls ++ ofM sec size e (f - ls.length) (nx + ls.length) (us + costL ls) (if ls = [] then hd else (hd + costL ls) % size)
  | [], f, nx, us, hd, _, _ => by simp [numb, costL]
  | l :: r, 0, nx, us, hd, _, h => by simp at h
  | l :: r, f + 1, nx, us, hd, h, hf => by
    obtain ⟨h1, h2⟩ := h 0 (by simp)
    simp only [List.take_zero, Nat.add_zero, List.getElem_cons_zero, show costL [] = 0 from rfl] at h1 h2
    have ih := of_prefix r f (nx + 1) (us + (2 * l.length + 1)) ((hd + (2 * l.length + 1)) % size) (fun k hk => by
      obtain ⟨h3, h4⟩ := h (k + 1) (by simpa using hk)
      rw [List.take_succ_cons, costL_cons, List.getElem_cons_succ] at h4
      refine ⟨by omega, ?_⟩
      rw [← rotF_mod, Nat.mod_add_mod, rotF_mod, show hd + (2 * l.length + 1) + costL (r.take k) = hd + (2 * l.length + 1 + costL (r.take k)) by omega, show us + (2 * l.length + 1) + costL (r.take k) = us + (2 * l.length + 1 + costL (r.take k)) by omega, show nx + 1 + k = nx + (k + 1) by omega]
      exact h4) (by simpa using hf)
    rw [ofM, if_pos (show nx ≤ 4611686018427387904 from h1), h2]
    dsimp only
    rw [ih]
    simp only [numb, List.cons_append, List.length_cons, costL_cons, reduceCtorEq, if_false, List.cons.injEq, true_and]
    congr 2
    · omega
    · omega
    · omega
    · by_cases hr : r = []
      · subst hr; simp [costL]
      · rw [if_neg hr, Nat.mod_add_mod]; congr 1; omega
end
/-! ### Batches laid side by side -/
def flatR (e s : Nat) : List (List PatD) → List (List UInt8)
  | [] => []
  | l :: r => rowsP e s l ++ flatR e (s + 1) r
theorem flatR_length (e : Nat) : ∀ (ls : List (List PatD)) (s : Nat), (flatR e s ls).length = costL ls
  | [], _ => rfl
  | l :: r, s => by rw [flatR, List.length_append, rowsP_length, flatR_length e r, costL_cons]
theorem flatR_append (e : Nat) : ∀ (a b : List (List PatD)) (s : Nat), flatR e s (a ++ b) = flatR e s a ++ flatR e (s + a.length) b
  | [], b, s => rfl
  | l :: r, b, s => by
    simp only [List.cons_append, flatR, flatR_append e r, List.append_assoc, List.length_cons]
    rw [show s + 1 + r.length = s + (r.length + 1) by omega]
theorem flatR_get (e : Nat) (ls : List (List PatD)) (s k j : Nat) (h : k < ls.length) (hj : j < 2 * ls[k].length + 1) : (flatR e s ls)[costL (ls.take k) + j]? = (rowsP e (s + k) ls[k])[j]? := by
  have e1 : ls = ls.take k ++ ls[k] :: ls.drop (k + 1) := by rw [← List.drop_eq_getElem_cons h, List.take_append_drop]
  have e2 : flatR e s ls = flatR e s (ls.take k) ++ (rowsP e (s + k) ls[k] ++ flatR e (s + k + 1) (ls.drop (k + 1))) := by
    conv => lhs; rw [e1]
    rw [flatR_append, flatR, List.length_take, Nat.min_eq_left (by omega)]
  rw [e2, List.getElem?_append_right (by rw [flatR_length]; omega), flatR_length, show costL (ls.take k) + j - costL (ls.take k) = j by omega, List.getElem?_append_left (by rw [rowsP_length]; exact hj)]
theorem costL_take_le (ls : List (List PatD)) (k : Nat) (h : k < ls.length) : costL (ls.take k) + (2 * ls[k].length + 1) ≤ costL ls := by
  have e1 : ls = ls.take k ++ ls[k] :: ls.drop (k + 1) := by rw [← List.drop_eq_getElem_cons h, List.take_append_drop]
  have : costL ls = costL (ls.take k) + ((2 * ls[k].length + 1) + costL (ls.drop (k + 1))) := by
    conv => lhs; rw [e1]
    rw [costL_append, costL_cons]
  omega
/-- All of them fine, by their numbers. -/
def FineL (e s : Nat) (ls : List (List PatD)) : Prop := ∀ (k : Nat) (h : k < ls.length), Fine e (s + k) ls[k]
/-- WHAT IS LAID IS FOUND. -/
theorem laid_found {sec : SecF} {size e s at_ : Nat} {ls : List (List PatD)} (hf : FineL e s ls) (hc : costL ls ≤ size) (hs : ∀ j, j < costL ls → (flatR e s ls)[j]? = some (sec ((at_ + j) % size))) :
    ∀ (k : Nat) (h : k < ls.length), s + k ≤ mostC ∧ batM (rotF sec size (at_ + costL (ls.take k))) (size - (0 + costL (ls.take k))) e (s + k) = some ls[k] := by
  intro k h
  have hk := hf k h
  have hle := costL_take_le ls k h
  refine ⟨hk.cnt.2.2, (bat_iff _ _ _ _ _).2 ⟨hk, by omega, fun j hj => ?_⟩⟩
  rw [← flatR_get e ls s k j h hj, hs _ (by omega)]
  unfold rotF
  rw [Nat.add_assoc]
theorem of_laid {sec : SecF} {size e s at_ f : Nat} {ls : List (List PatD)} (hf : FineL e s ls) (hc : costL ls ≤ size) (hs : ∀ j, j < costL ls → (flatR e s ls)[j]? = some (sec ((at_ + j) % size))) (hl : ls.length ≤ f) :
    ofM sec size e f s 0 at_ = numb s ls ++ ofM sec size e (f - ls.length) (s + ls.length) (costL ls) (if ls = [] then at_ else (at_ + costL ls) % size) := by
  have := of_prefix ls f s 0 at_ (laid_found hf hc hs) hl
  rwa [Nat.zero_add] at this
theorem costL_len : ∀ (ls : List (List PatD)), ls.length ≤ costL ls
  | [] => Nat.le_refl _
  | l :: r => by have := costL_len r; rw [costL_cons, List.length_cons]; omega
/-- Where nothing counts, nothing more is found. -/
theorem of_none {sec : SecF} {size e f nx us hd : Nat} (h : batM (rotF sec size hd) (size - us) e nx = none) : ofM sec size e f nx us hd = [] := by
  cases f with
  | zero => rfl
  | succ f => unfold ofM; split
              · rw [h]
              · rfl
/-- A place that does not begin a batch. -/
theorem bat_no {sec : SecF} {room e s : Nat} (h : (HdrD.dec (sec 0)).1 ≠ 0) : batM sec room e s = none := by
  unfold batM; rw [if_neg (fun q => h q.1)]
theorem bat_head {sec : SecF} {room e s : Nat} {l : List PatD} (h : batM sec room e s = some l) : (HdrD.dec (sec 0)).1 = 0 ∧ (HdrD.dec (sec 0)).2.epoch = e ∧ (HdrD.dec (sec 0)).2.seq = s := by
  obtain ⟨h1, h2, h3⟩ := (bat_iff _ _ _ _ _).1 h
  have h4 := h3 0 (by omega)
  have hn := h1.n1
  have h5 := rowsP_even (e := e) (s := s) (l := l) (i := 0) (by omega)
  rw [Nat.mul_zero] at h5
  rw [h5] at h4
  injection h4 with h4
  rw [← h4, headP_dec h1 (by omega)]
  exact ⟨rfl, rfl, rfl⟩
theorem bat_other {sec : SecF} {room e s e' s' : Nat} {l : List PatD} {room' : Nat} (h : batM sec room e s = some l) (hne : e' ≠ e ∨ s' ≠ s) : batM sec room' e' s' = none := by
  cases h2 : batM sec room' e' s' with
  | none => rfl
  | some l' =>
    have a := bat_head h
    have b := bat_head h2
    omega
theorem kind_nought {b : List UInt8} (h : b.take 4 ≠ magicL) (k : UInt8) (hk : k ≠ 0) : looksM b k ≠ 0 := by
  unfold looksM
  split
  · decide
  · have : kindB b = 0 := by unfold kindB; rw [if_neg (fun q => h q.2.1)]
    rw [this, if_pos (fun q => hk q.symm)]; decide
theorem dec_nought {b : List UInt8} (h : b.take 4 ≠ magicL) : (HdrD.dec b).1 ≠ 0 ∧ (CmtD.dec b).1 ≠ 0 := by
  constructor
  · intro q; exact kind_nought h 1 (by decide) (hdr_decO q).1
  · intro q; exact kind_nought h 2 (by decide) (cmt_decO q).1
/-- ONE SECTOR HURT: the batch that it stands in counts no more (but where a sector of data can't be told by its sum). -/
theorem hurt_none {sec was : SecF} {room room' e s : Nat} {l : List PatD} {j : Nat} {z : List UInt8} (h : batM sec room e s = some l) (hj : j < 2 * l.length + 1) (hz : z.take 4 ≠ magicL) (hw : was j = z) (hk : ∀ i, i < 2 * l.length + 1 → i ≠ j → was i = sec i)
    (hu : (crcS (sec j)).toNat ≠ (crcS z).toNat) : batM was room' e s = none := by
  cases h2 : batM was room' e s with
  | none => rfl
  | some l' =>
    exfalso
    obtain ⟨f1, _, r1⟩ := (bat_iff _ _ _ _ _).1 h
    obtain ⟨f2, _, r2⟩ := (bat_iff _ _ _ _ _).1 h2
    have n1 := f1.n1
    have n2 := f2.n1
    have head : ∀ {x : Nat} {m : List PatD} {q : SecF} (f : Fine e s m) (r : ∀ j, j < 2 * m.length + 1 → (rowsP e s m)[j]? = some (q j)) (hx : x < m.length), HdrD.dec (q (2 * x)) = (0, hdrP e s m.length x m[x]) := by
      intro x m q f r hx
      have := r (2 * x) (by omega)
      rw [rowsP_even hx] at this
      injection this with this
      rw [← this, headP_dec f hx]
    by_cases h0 : j = 0
    · subst h0
      have := head f2 r2 (x := 0) (by omega)
      rw [Nat.mul_zero, hw] at this
      exact (dec_nought hz).1 (by rw [this])
    · have a1 := head f1 r1 (x := 0) (by omega)
      have a2 := head f2 r2 (x := 0) (by omega)
      rw [Nat.mul_zero] at a1 a2
      rw [hk 0 (by omega) (fun q => h0 q.symm), a1] at a2
      have hlen : l.length = l'.length := by
        injection a2 with _ a2
        have : ((l.length : Nat) : Int) = (l'.length : Nat) := congrArg HdrD.count a2
        omega
      rcases Nat.mod_two_eq_zero_or_one j with hp | hp
      · obtain ⟨x, rfl⟩ : ∃ x, j = 2 * x := ⟨j / 2, by omega⟩
        by_cases hx : x < l'.length
        · have := head f2 r2 hx
          rw [hw] at this
          exact (dec_nought hz).1 (by rw [this])
        · have hx2 : x = l'.length := by omega
          subst hx2
          have := r2 (2 * l'.length) (by omega)
          rw [rowsP_last] at this
          injection this with this
          rw [hw] at this
          exact (dec_nought hz).2 (by rw [← this, cmtP_dec f2])
      · obtain ⟨x, rfl⟩ : ∃ x, j = 2 * x + 1 := ⟨j / 2, by omega⟩
        have hx : x < l.length := by omega
        have hx' : x < l'.length := by omega
        have b1 := head f1 r1 hx
        have b2 := head f2 r2 hx'
        rw [hk (2 * x) (by omega) (by omega), b1] at b2
        injection b2 with _ b2
        have hs : (crcS (escM l[x].data)).toNat = (crcS (escM l'[x].data)).toNat := congrArg HdrD.sum b2
        have c1 := r1 (2 * x + 1) (by omega)
        have c2 := r2 (2 * x + 1) (by omega)
        rw [rowsP_odd hx] at c1
        rw [rowsP_odd hx'] at c2
        injection c1 with c1; injection c2 with c2
        rw [hw] at c2
        rw [c1, c2] at hs
        exact hu hs
/-! ### A ring as bytes -/
theorem mod_inj {a i j n : Nat} (hi : i < n) (hj : j < n) (h : (a + i) % n = (a + j) % n) : i = j := by
  have h1 := Nat.mod_add_div (a + i) n
  have h2 := Nat.mod_add_div (a + j) n
  rw [h] at h1
  generalize (a + i) / n = x at *
  generalize (a + j) / n = y at *
  rcases Nat.lt_trichotomy x y with hxy | hxy | hxy
  · have : n * x + n ≤ n * y := by rw [← Nat.mul_succ]; exact Nat.mul_le_mul_left _ hxy
    omega
  · subst hxy; omega
  · have : n * y + n ≤ n * x := by rw [← Nat.mul_succ]; exact Nat.mul_le_mul_left _ hxy
    omega
end Go.Proofs.Ytpmmkmcbimnigaa

