import Derived.Test.YtpmmkmcbimnigaaGreatM5
import Derived.DeepKeys3
import Derived.WideKeyRuns
/-! Text Ya. -/
/- The engine: maps by any key, interface values, calls through interfaces. Generic: no program is named. -/
set_option maxRecDepth 8000
set_option linter.unusedVariables false
set_option linter.unusedSimpArgs false
set_option linter.unusedSectionVars false
namespace Go.Sl
open Go Go.RowKit Go.MapKept

/-! ### Keys -/
/-- Keys of a type: how they look, and that they can be looked for. -/
structure KeyT (P : Program) (kt : TypeId) (κ : Type) [DecidableEq κ] (kv : κ → Value) (good : κ → Prop) : Prop where
  inj : ∀ a b, kv a = kv b → a = b
  check : ∀ (w : World) (em : Bool) k, good k → (Instr.checkKey em 10000 kt (kv k)).run P w = .ok () w
  find : ∀ (w : World) k, good k → ∀ es : List MapEntry, (∀ e ∈ es, ∃ a, good a ∧ e.key = kv a) →
    ((Instr.findKey kt (kv k) es).run P w = .ok none w ∧ ∀ e ∈ es, e.key ≠ kv k) ∨ ∃ j e, (Instr.findKey kt (kv k) es).run P w = .ok (some (j, e.val)) w ∧ es[j]? = some e ∧ e.key = kv k
  stays : ∀ (w : World) k, good k → (Instr.keyThatStays (kv k) (kv k)).run P w = .ok (kv k) w
/-- Structs of two ints. -/
abbrev pairV (k : Int × Int) : Value := .agg #[.int .i64 k.1, .int .i64 k.2]
def pairG (k : Int × Int) : Prop := (Lit.int .i64 k.1).wf = true ∧ (Lit.int .i64 k.2).wf = true
theorem KeyT.pair {P : Program} {kt : TypeId} (hB : flatB P kt [some .i64, some .i64] = true) (hwide : (match P.underlying kt with | some (.array _ _) | some (.struct _) => true | _ => false) = true) : KeyT P kt (Int × Int) pairV pairG := by
  have lits : ∀ k : Int × Int, pairG k → P.keyLits 2 kt [.int .i64 k.1, .int .i64 k.2] = some [.int .i64 k.1, .int .i64 k.2] ∧ (pairV k).formed P kt = true := fun k hk =>
    flat_lits (cs := [.int .i64 k.1, .int .i64 k.2]) hB rfl rfl (by
      intro l hl
      simp only [List.mem_cons, List.not_mem_nil, or_false] at hl
      rcases hl with h | h <;> subst h
      · exact hk.1
      · exact hk.2)
  have hkt : P.keyTypeAt 2 kt = true := by simp only [flatB, Bool.and_eq_true] at hB; exact hB.1.2
  have heq : ∀ (w : World) (a b : Int × Int), pairG a → pairG b → (Op.equal kt (pairV a) (pairV b)).run P w = .ok (decide (a = b)) w := by
    intro w a b ha hb
    obtain ⟨a1, a2⟩ := lits a ha
    obtain ⟨b1, b2⟩ := lits b hb
    obtain ⟨r, hr, hiff⟩ := Go.run_equalIn_deep 9998 2 kt hkt w 2 2 (pairV a) (pairV b) _ _ a2 b2 a1 b1
    have hrb : r = decide (a = b) := by
      rw [Bool.eq_iff_iff, hiff, decide_eq_true_iff]
      constructor
      · intro h
        simp only [List.cons.injEq, Lit.int.injEq, true_and, and_true] at h
        exact Prod.ext h.1 h.2
      · intro h; subst h; rfl
    rw [← hrb]; exact hr
  have asking : ∀ (w : World) (k : Int × Int), pairG k → ∀ (es : List MapEntry) (i : Nat), (∀ e ∈ es, ∃ a, pairG a ∧ e.key = pairV a) →
      ((Instr.findAsking kt (pairV k) es i).run P w = .ok none w ∧ ∀ e ∈ es, e.key ≠ pairV k) ∨ ∃ j e, (Instr.findAsking kt (pairV k) es i).run P w = .ok (some (i + j, e.val)) w ∧ es[j]? = some e ∧ e.key = pairV k := by
    intro w k hk es
    induction es with
    | nil => intro i _; exact .inl ⟨by simp [Instr.findAsking], fun e he => (by cases he)⟩
    | cons e r ih =>
      intro i hall
      obtain ⟨a, ha, hae⟩ := hall e (.head _)
      have he := heq w k a hk ha
      rw [← hae] at he
      by_cases hka : k = a
      · rw [decide_eq_true hka] at he
        exact .inr ⟨0, e, by simp [Instr.findAsking, he], rfl, by rw [hae, hka]⟩
      · rw [decide_eq_false hka] at he
        rcases ih (i + 1) (fun x hx => hall x (.tail _ hx)) with ⟨h1, h2⟩ | ⟨j, x, h1, h2, h3⟩
        · refine .inl ⟨by simp [Instr.findAsking, he, h1], fun x hx => ?_⟩
          cases hx with
          | head => rw [hae]; intro q; apply hka; simp only [pairV, Value.agg.injEq, Array.mk.injEq, List.cons.injEq, Value.int.injEq, true_and, and_true] at q; exact Prod.ext q.1.symm q.2.symm
          | tail _ hx => exact h2 x hx
        · exact .inr ⟨j + 1, x, by simp [Instr.findAsking, he, h1, Nat.add_assoc, Nat.add_comm 1 j], by simpa using h2, h3⟩
  refine ⟨fun a b h => ?_, fun w em k hk => ?_, fun w k hk es hall => ?_, fun w k hk => ?_⟩
  · simp only [pairV, Value.agg.injEq, Array.mk.injEq, List.cons.injEq, Value.int.injEq, true_and, and_true] at h
    exact Prod.ext h.1 h.2
  · obtain ⟨a1, a2⟩ := lits k hk
    exact Go.run_checkKey_deep em 9998 2 kt hkt w 2 (pairV k) _ a2 a1
  · rw [Go.run_findKey_eq (w := w) hwide]
    rcases asking w k hk es 0 hall with h | ⟨j, e, h1, h2, h3⟩
    · exact .inl h
    · exact .inr ⟨j, e, by rw [h1, Nat.zero_add], h2, h3⟩
  · simp [Instr.keyThatStays, Instr.sameBits]
abbrev boolV (k : Bool) : Value := .bool k
theorem KeyT.bool {P : Program} {kt : TypeId} (hkt : P.underlying kt = some .bool) : KeyT P kt Bool boolV (fun _ => True) := by
  refine ⟨fun a b h => by simpa using h, fun w em k _ => ?_, fun w k _ es hall => ?_, fun w k _ => ?_⟩
  · exact Go.MapKept.run_checkKey (P := P) (w := w) (kt := kt) (k := .bool k) hkt trivial em 9999
  · rcases findNow_spec (d := .bool) (k := .bool k) trivial es 0 (fun e he => by obtain ⟨a, _, h1⟩ := hall e he; rw [h1]; exact trivial) with ⟨h1, h2⟩ | ⟨j, e, h1, h2, h3⟩
    · exact .inl ⟨Go.MapKept.run_findKey (P := P) (w := w) (kt := kt) hkt h1, h2⟩
    · exact .inr ⟨j, e, by rw [Go.MapKept.run_findKey (P := P) (w := w) (kt := kt) hkt h1, Nat.zero_add], h2, h3⟩
  · simp [Instr.keyThatStays, Instr.sameBits]

/-! ### Maps -/
section
variable {κ : Type} [DecidableEq κ] {kv : κ → Value} {good : κ → Prop}
/-- The entries are these, in some order. -/
structure MRel (kv : κ → Value) (good : κ → Prop) (es : List MapEntry) (D : List (κ × Value)) : Prop where
  perm : List.Perm (es.map fun e => (e.key, e.val)) (D.map fun x => (kv x.1, x.2))
  one : (D.map (·.1)).Nodup
  good : ∀ x ∈ D, good x.1
def MapL (kv : κ → Value) (good : κ → Prop) (b : Nat) (D : List (κ × Value)) : SProp := ex fun x : Array MapEntry × Nat => Sl.star [fact (MRel kv good x.1.toList D), At b (.map x.1 x.2)]
theorem MapL.open {W w : World} {b : Nat} {D : List (κ × Value)} {R : List SProp} (hw : Holds W (MapL kv good b D :: R) w) : ∃ es cl, MRel kv good es.toList D ∧ Holds W (At b (.map es cl) :: R) w := by
  obtain ⟨⟨es, cl⟩, h⟩ := hw.exOpen
  have h := h.join
  exact ⟨es, cl, h.factOpen, h.tail⟩
theorem MapL.shut {W w : World} {b : Nat} {D : List (κ × Value)} {R : List SProp} {es : Array MapEntry} {cl : Nat} (hr : MRel kv good es.toList D) (hw : Holds W (At b (.map es cl) :: R) w) : Holds W (MapL kv good b D :: R) w :=
  Holds.exShut (es, cl) (Holds.nest (L := [_, _]) (hw.factShut hr))
theorem MRel.nil : MRel kv good [] [] := ⟨.refl _, List.nodup_nil, fun x h => (by cases h)⟩
def getD (D : List (κ × Value)) (k : κ) : Option Value := (D.find? fun x => x.1 = k).map (·.2)
def putD (D : List (κ × Value)) (k : κ) (v : Value) : List (κ × Value) := D.filter (fun x => x.1 ≠ k) ++ [(k, v)]
def delD (D : List (κ × Value)) (k : κ) : List (κ × Value) := D.filter fun x => x.1 ≠ k
theorem getD_none {D : List (κ × Value)} {k : κ} (h : ∀ x ∈ D, x.1 ≠ k) : getD D k = none := by
  unfold getD
  rw [List.find?_eq_none.2 (fun x hx => by simpa using h x hx)]; rfl
theorem getD_some {D : List (κ × Value)} {k : κ} {v : Value} (h1 : (D.map (·.1)).Nodup) (h : (k, v) ∈ D) : getD D k = some v := by
  unfold getD
  induction D with
  | nil => cases h
  | cons x r ih =>
    rw [List.map_cons, List.nodup_cons] at h1
    by_cases q : x.1 = k
    · rw [List.find?_cons_of_pos (by simpa using q)]
      cases h with
      | head => rfl
      | tail _ h => exact absurd (q ▸ List.mem_map_of_mem h : x.1 ∈ r.map (·.1)) h1.1
    · rw [List.find?_cons_of_neg (by simpa using q)]
      cases h with
      | head => exact absurd rfl q
      | tail _ h => exact ih h1.2 h
theorem delD_of_not {D : List (κ × Value)} {k : κ} (h : ∀ x ∈ D, x.1 ≠ k) : delD D k = D := List.filter_eq_self.2 fun x hx => by simpa using h x hx
theorem perm_erase {α : Type} {l : List α} {i : Nat} {a : α} (h : l[i]? = some a) : List.Perm l (a :: l.eraseIdx i) := by
  obtain ⟨hi, rfl⟩ := List.getElem?_eq_some_iff.1 h
  rw [List.eraseIdx_eq_take_drop_succ]
  have : l = l.take i ++ l[i] :: l.drop (i + 1) := by rw [← List.drop_eq_getElem_cons hi, List.take_append_drop]
  exact (List.Perm.of_eq this).trans List.perm_middle
/-- What is looked for, and what the entries are without it. -/
theorem MRel.at {P : Program} {kt : TypeId} (K : KeyT P kt κ kv good) {es : List MapEntry} {D : List (κ × Value)} (h : MRel kv good es D) (w : World) (k : κ) (hk : good k) :
    ((Instr.findKey kt (kv k) es).run P w = .ok none w ∧ getD D k = none ∧ (∀ x ∈ D, x.1 ≠ k)) ∨
    ∃ j e v, (Instr.findKey kt (kv k) es).run P w = .ok (some (j, v)) w ∧ getD D k = some v ∧ es[j]? = some e ∧ e.key = kv k ∧ e.val = v ∧ List.Perm ((es.eraseIdx j).map fun e => (e.key, e.val)) ((delD D k).map fun x => (kv x.1, x.2)) := by
  have hall : ∀ e ∈ es, ∃ a, good a ∧ e.key = kv a := by
    intro e he
    have := h.perm.subset (List.mem_map_of_mem he)
    obtain ⟨x, hx, hxe⟩ := List.mem_map.1 this
    exact ⟨x.1, h.good x hx, by have := congrArg Prod.fst hxe; exact this.symm⟩
  rcases K.find w k hk es hall with ⟨h1, h2⟩ | ⟨j, e, h1, h2, h3⟩
  · have hn : ∀ x ∈ D, x.1 ≠ k := by
      intro x hx q
      have := h.perm.symm.subset (List.mem_map_of_mem hx)
      obtain ⟨e, he, hxe⟩ := List.mem_map.1 this
      exact h2 e he (by have := congrArg Prod.fst hxe; rw [← q]; exact this)
    exact .inl ⟨h1, getD_none hn, hn⟩
  · have hm : (kv k, e.val) ∈ D.map fun x => (kv x.1, x.2) := by
      have := h.perm.subset (List.mem_map_of_mem (List.mem_of_getElem? h2))
      rwa [h3] at this
    obtain ⟨x, hx, hxe⟩ := List.mem_map.1 hm
    have hxk : x.1 = k := K.inj _ _ (congrArg Prod.fst hxe)
    have hxv : x.2 = e.val := congrArg Prod.snd hxe
    have hxD : (k, e.val) ∈ D := by rw [← hxk, ← hxv]; exact hx
    refine .inr ⟨j, e, e.val, h1, getD_some h.one hxD, h2, h3, rfl, ?_⟩
    have p1 : List.Perm (es.map fun e => (e.key, e.val)) ((kv k, e.val) :: (es.eraseIdx j).map fun e => (e.key, e.val)) := by
      have := (perm_erase h2).map fun e => (e.key, e.val)
      rwa [List.map_cons, h3] at this
    have p2 : ∀ (D : List (κ × Value)), (D.map (·.1)).Nodup → (k, e.val) ∈ D → List.Perm D ((k, e.val) :: delD D k) := by
      intro D
      induction D with
      | nil => intro _ h; cases h
      | cons y r ih =>
        intro hd hm
        rw [List.map_cons, List.nodup_cons] at hd
        by_cases q : y.1 = k
        · have hr : ∀ z ∈ r, z.1 ≠ k := fun z hz q2 => hd.1 (by rw [q, ← q2]; exact List.mem_map_of_mem hz)
          have hy : y = (k, e.val) := by
            cases hm with
            | head => rfl
            | tail _ hm => exact absurd rfl (hr _ hm)
          have : delD (y :: r) k = r := by
            unfold delD
            rw [List.filter_cons_of_neg (by simpa using q)]
            exact delD_of_not hr
          rw [this, hy]
        · have : delD (y :: r) k = y :: delD r k := by unfold delD; rw [List.filter_cons_of_pos (by simpa using q)]
          rw [this]
          cases hm with
          | head => exact absurd rfl q
          | tail _ hm => exact ((ih hd.2 hm).cons y).trans (List.Perm.swap _ _ _)
    have p3 := (p2 D h.one hxD).map fun x : κ × Value => (kv x.1, x.2)
    rw [List.map_cons] at p3
    exact (p1.symm.trans (h.perm.trans p3)).cons_inv
theorem nodup_del {D : List (κ × Value)} (h : (D.map (·.1)).Nodup) (k : κ) : ((delD D k).map (·.1)).Nodup := h.sublist ((List.filter_sublist).map _)
theorem MRel.put {P : Program} {kt : TypeId} {es es' : List MapEntry} {D : List (κ × Value)} (h : MRel kv good es D) (k : κ) (hk : good k) (v : Value) (hp : List.Perm (es'.map fun e => (e.key, e.val)) ((kv k, v) :: (delD D k).map fun x => (kv x.1, x.2))) : MRel kv good es' (putD D k v) := by
  refine ⟨?_, ?_, ?_⟩
  · unfold putD
    rw [List.map_append, List.map_singleton]
    exact hp.trans (List.perm_append_comm (l₁ := [(kv k, v)]))
  · unfold putD
    rw [List.map_append, List.map_singleton]
    refine List.nodup_append.2 ⟨nodup_del h.one k, by simp, ?_⟩
    intro a ha b hb
    rw [List.mem_singleton] at hb
    obtain ⟨x, hx, rfl⟩ := List.mem_map.1 ha
    have := (List.mem_filter.1 hx).2
    rw [hb]
    simpa using this
  · intro x hx
    rcases List.mem_append.1 hx with hx | hx
    · exact h.good x (List.mem_filter.1 hx).1
    · rw [List.mem_singleton] at hx; subst hx; exact hk
end
section
variable {W : World} {P : Program} {n : Nat} {c : Code} {Q : Exit → Act → World → Prop} {H H' L S : List SProp} {f F : Fr} {C : SProp → List SProp}
variable {N : List SProp → Fr → Prop} {dst : Option Tmp} {d : Nat} {ty_ : TypeId} {pos : String} {after : Array Edge} {guard : Option (Nat × Bool)}
variable {κ : Type} [DecidableEq κ] {kv : κ → Value} {good : κ → Prop} {D : List (κ × Value)}

/-! ### Interface values, calls through them -/
theorem PureAt.makeIface {t : TypeId} {x : Operand} {v : Value} {dsc : TypeDesc} (hu : P.underlying t = some dsc) (hn : ∀ ms, dsc ≠ .interface ms) (hx : evalX f x = some v) :
    PureAt W P n H f { dst, op := .makeInterface t x, type := ty_, pos, after, guard } (.iface t v) := by
  unfold PureAt
  intro tm w hk hw
  cases dsc <;> first | exact absurd rfl (hn _) | simp [execOp, Instr.makeInterface, hk.eval hx, Sem.run_bind, run_underlying hu]
theorem PureAt.assertIface {x : Operand} {xt t : TypeId} {v : Value} {dsc : TypeDesc} (hu : P.underlying t = some dsc) (hn : ∀ ms, dsc ≠ .interface ms) (hx : evalX f x = some (.iface t v)) :
    PureAt W P n H f { dst, op := .typeAssert x xt t false, type := ty_, pos, after, guard } v := by
  unfold PureAt
  intro tm w hk hw
  cases dsc <;> first | exact absurd rfl (hn _) | simp [execOp, Instr.typeAssert, hk.eval hx, Sem.run_bind, run_underlying hu]
theorem OpV.invoke {x : Operand} {name : String} {xs : Array Operand} {ats : Array TypeId} {g : FuncId} {t : TypeId} {v recv : Value} {vs : List Value} {β : Type} {A : β → Prop} {r : β → Value} {G : β → List SProp}
    (hx : evalX f x = some (.iface t v)) (ha : argsX f xs.toList = some vs) (hc : ∀ w, Holds W H w → (callMethod (.iface t v) name vs.toArray).run P w = .ok (.enter g (recv :: vs).toArray) w) (spec : Does W P g (recv :: vs) L A r G)
    (hL : Ent W H L) (hd : Nat.blt d n = true) (h : ∀ y, A y → N (G y) ((d, r y) :: f)) :
    OpV W P n { dst := some d, op := .call { callee := .invoke x name, args := xs, argTypes := ats }, type := ty_, pos, after, guard } Q H f N := by
  unfold OpV
  intro tm w hk hw K hK
  have hargs : xs.map (Act.eval ⟨tm, []⟩) = vs.toArray := by
    have := hk.args ha
    apply Array.ext'
    simpa using this
  unfold Does at spec
  have hs := spec w (hL w hw)
  have hcw := hc w hw
  have hex : (#[Value.iface t v] ++ vs.toArray).extract 1 (#[Value.iface t v] ++ vs.toArray).size = vs.toArray := by
    apply Array.ext'; simp
  unfold Oper.wp execOp
  simp only [resolve, hk.eval hx, hargs, Go.invoke, Sem.run_bind, Sem.run_pure, Result.andThen_ok]
  have h0 : (#[Value.iface t v] ++ vs.toArray)[0]? = some (Value.iface t v) := by simp
  simp only [h0, hex, hcw, Oper.upon]
  refine Calls.mono hs ?_
  rintro e w' ⟨y, hA, rfl, hG⟩
  exact hK _ _ (h y hA) _ _ (hk.put hd) hG
end
attribute [irreducible] MapL
end Go.Sl

/-! Text Na. -/
/- Lists that lead to lists: rows of bytes, patches, batches: what they are in memory. -/
set_option maxRecDepth 8000
set_option linter.unusedVariables false
set_option linter.unusedSimpArgs false
set_option linter.unusedSectionVars false
namespace Go.Sl
open Go Go.RowKit
section
variable {W w : World} {H R L M : List SProp} {α : Type} {res : α → SProp}
/-- What many things have, as one resource. -/
def pile (res : α → SProp) (l : List α) : SProp := star (l.map res)
theorem pile_nil (h : Holds W R w) : Holds W (pile res [] :: R) w := h.nest (L := [])
theorem pile_push {l : List α} {a : α} (h : Holds W (res a :: pile res l :: R) w) : Holds W (pile res (l ++ [a]) :: R) w := by
  have h2 := (h.swap).join
  refine Holds.nest ?_
  rw [List.map_append]
  refine h2.perm ?_
  simp
theorem pile_out {l : List α} {i : Nat} (hi : i < l.length) (h : Holds W (pile res l :: R) w) : Holds W (res l[i] :: pile res (l.eraseIdx i) :: R) w := by
  have h2 := h.join
  have e : List.Perm l (l[i] :: l.eraseIdx i) := by
    rw [List.eraseIdx_eq_take_drop_succ]
    have : l = l.take i ++ l[i] :: l.drop (i + 1) := by rw [← List.drop_eq_getElem_cons hi, List.take_append_drop]
    exact (List.Perm.of_eq this).trans List.perm_middle
  have h3 : Holds W (res l[i] :: ((l.eraseIdx i).map res ++ R)) w := h2.perm (by simpa using ((e.map res).append_right R))
  have h4 : Holds W ((l.eraseIdx i).map res ++ (R ++ [res l[i]])) w := h3.perm (by
    refine (List.perm_append_comm (l₁ := [res l[i]]) (l₂ := (l.eraseIdx i).map res ++ R)).trans ?_
    rw [List.append_assoc])
  have h5 : Holds W (pile res (l.eraseIdx i) :: (R ++ [res l[i]])) w := h4.nest
  exact h5.perm (List.perm_append_comm (l₁ := pile res (l.eraseIdx i) :: R) (l₂ := [res l[i]]))
/-- What lies within a group of resources is read. -/
theorem Rds.star {sz k : Nat} {ao : Option Addr} {xs : List Value} (m : Sl.star L ∈ H) (h : ∀ R, Rds W (L ++ R) sz ao k xs) : Rds W H sz ao k xs := by
  have h0 := h []
  refine ⟨h0.len, h0.one, h0.nil, fun w hw => ?_⟩
  obtain ⟨R, p⟩ := mem_perm m
  exact (h R).cell w (hw.perm p).join
theorem Rds.pile {sz k : Nat} {ao : Option Addr} {xs : List Value} {l : List α} {a : α} (m : Sl.pile res l ∈ H) (ha : a ∈ l) (h : ∀ R, res a ∈ R → Rds W R sz ao k xs) : Rds W H sz ao k xs :=
  Rds.star (L := l.map res) m (fun R => h _ (List.mem_append_left _ (List.mem_map_of_mem ha)))
end
end Go.Sl
namespace Go.Proofs.YtpmmkmcbimnigaaGreat
open Go.RowKit Go.Sl
attribute [local irreducible] Own

/-! ### Rows of bytes -/
structure RowE where
  ao : Option Addr
  cap : Nat
  data : List UInt8
abbrev RowE.hdr (e : RowE) : Value := .slice e.ao e.data.length e.cap
def RowE.res (e : RowE) : SProp := Own 5 1 (.slice e.ao e.data.length e.cap) e.data.length (bytes e.data)
structure RowE.ok (e : RowE) : Prop where
  nil : e.ao = none → e.data.length = 0
  cap : e.data.length ≤ e.cap
theorem rowhdr_one (l : List RowE) : ∀ u ∈ l.map RowE.hdr, u.oneCell' = true := by
  intro u hu; obtain ⟨e, _, rfl⟩ := List.mem_map.1 hu; rfl
theorem RowE.rds {W : World} {H : List SProp} {e : RowE} (h : e.ok) (m : e.res ∈ H) : Rds W H 1 e.ao e.data.length (bytes e.data) := Rds.own (bytes_one _) m (by simp) h.nil
theorem RowE.know {W w : World} {R : List SProp} {e : RowE} (h : Holds W (e.res :: R) w) : e.ok := ⟨h.ownNone (.head _), h.ownCap (.head _)⟩
/-- Rows that can be read. -/
structure RdRows (W : World) (R : List SProp) (ao : Option Addr) (l : List RowE) : Prop where
  rds : Rds W R 1 ao l.length (l.map RowE.hdr)
  each : ∀ e ∈ l, Rds W R 1 e.ao e.data.length (bytes e.data)
  ok : ∀ e ∈ l, e.ok
abbrev RowsO (x : Option Addr × Nat) (l : List RowE) : SProp := Own 22 1 (.slice x.1 l.length x.2) l.length (l.map RowE.hdr)
abbrev PilR (l : List RowE) : SProp := pile RowE.res l
theorem RdRows.own {W : World} {H : List SProp} {x : Option Addr × Nat} {l : List RowE} (hn : x.1 = none → l.length = 0) (hok : ∀ e ∈ l, e.ok) (m1 : RowsO x l ∈ H) (m2 : PilR l ∈ H) : RdRows W H x.1 l :=
  ⟨Rds.own (rowhdr_one l) m1 (by simp) hn, fun e he => Rds.pile m2 he (fun R hR => RowE.rds (hok e he) hR), hok⟩
theorem RdRows.ent {W : World} {H R : List SProp} {ao : Option Addr} {l : List RowE} (h : RdRows W R ao l) (e : Ent W H R) : RdRows W H ao l := ⟨h.rds.ent e, fun x hx => (h.each x hx).ent e, h.ok⟩
theorem PilR.know {W w : World} {R : List SProp} {l : List RowE} (h : Holds W (PilR l :: R) w) : ∀ e ∈ l, e.ok := by
  intro e he
  obtain ⟨i, hi, rfl⟩ := List.mem_iff_getElem.1 he
  exact RowE.know (pile_out hi h)
/-! ### Patches -/
structure PatE where
  member : Int
  row : Int
  d : RowE
abbrev PatE.cells (p : PatE) : List Value := [.int .i64 p.member, .int .i64 p.row, p.d.hdr]
def patCells (l : List PatE) : List Value := l.flatMap PatE.cells
def PatE.res (p : PatE) : SProp := p.d.res
theorem pat_one (p : PatE) : ∀ u ∈ p.cells, u.oneCell' = true := by simp [Value.oneCell']
theorem pats_one (l : List PatE) : ∀ u ∈ patCells l, u.oneCell' = true := by
  intro u hu; obtain ⟨p, _, h⟩ := List.mem_flatMap.1 hu; exact pat_one p u h
theorem pats_len (l : List PatE) : (patCells l).length = l.length * 3 := flat_length l (fun _ _ => rfl)
structure RdPats (W : World) (R : List SProp) (ao : Option Addr) (l : List PatE) : Prop where
  rds : Rds W R 3 ao l.length (patCells l)
  each : ∀ p ∈ l, Rds W R 1 p.d.ao p.d.data.length (bytes p.d.data)
  ok : ∀ p ∈ l, p.d.ok
abbrev PatsO (x : Option Addr × Nat) (l : List PatE) : SProp := Own 178 3 (.slice x.1 l.length x.2) l.length (patCells l)
abbrev PilP (l : List PatE) : SProp := pile PatE.res l
theorem RdPats.own {W : World} {H : List SProp} {x : Option Addr × Nat} {l : List PatE} (hn : x.1 = none → l.length = 0) (hok : ∀ p ∈ l, p.d.ok) (m1 : PatsO x l ∈ H) (m2 : PilP l ∈ H) : RdPats W H x.1 l :=
  ⟨Rds.own (pats_one l) m1 (pats_len l) hn, fun p hp => Rds.pile m2 hp (fun R hR => RowE.rds (hok p hp) hR), hok⟩
theorem RdPats.ent {W : World} {H R : List SProp} {ao : Option Addr} {l : List PatE} (h : RdPats W R ao l) (e : Ent W H R) : RdPats W H ao l := ⟨h.rds.ent e, fun x hx => (h.each x hx).ent e, h.ok⟩
theorem PilP.know {W w : World} {R : List SProp} {l : List PatE} (h : Holds W (PilP l :: R) w) : ∀ p ∈ l, p.d.ok := by
  intro e he
  obtain ⟨i, hi, rfl⟩ := List.mem_iff_getElem.1 he
  exact RowE.know (pile_out hi h)
/-! ### Batches -/
structure TxnE where
  seq : Nat
  ao : Option Addr
  cap : Nat
  pats : List PatE
abbrev TxnE.cells (t : TxnE) : List Value := [.int .u64 t.seq, .slice t.ao t.pats.length t.cap]
def txnCells (l : List TxnE) : List Value := l.flatMap TxnE.cells
def TxnE.res (t : TxnE) : SProp := Sl.star [PatsO (t.ao, t.cap) t.pats, PilP t.pats]
structure TxnE.ok (t : TxnE) : Prop where
  nil : t.ao = none → t.pats.length = 0
  cap : t.pats.length ≤ t.cap
  each : ∀ p ∈ t.pats, p.d.ok
theorem txn_one (p : TxnE) : ∀ u ∈ p.cells, u.oneCell' = true := by simp [Value.oneCell']
theorem txns_one (l : List TxnE) : ∀ u ∈ txnCells l, u.oneCell' = true := by
  intro u hu; obtain ⟨p, _, h⟩ := List.mem_flatMap.1 hu; exact txn_one p u h
theorem txns_len (l : List TxnE) : (txnCells l).length = l.length * 2 := flat_length l (fun _ _ => rfl)
structure RdTxns (W : World) (R : List SProp) (ao : Option Addr) (l : List TxnE) : Prop where
  rds : Rds W R 2 ao l.length (txnCells l)
  each : ∀ t ∈ l, RdPats W R t.ao t.pats
  ok : ∀ t ∈ l, t.ok
abbrev TxnsO (x : Option Addr × Nat) (l : List TxnE) : SProp := Own 181 2 (.slice x.1 l.length x.2) l.length (txnCells l)
abbrev PilT (l : List TxnE) : SProp := pile TxnE.res l
theorem TxnE.know {W w : World} {R : List SProp} {t : TxnE} (h : Holds W (t.res :: R) w) : t.ok := by
  have h2 : Holds W (PatsO (t.ao, t.cap) t.pats :: PilP t.pats :: R) w := h.join
  exact ⟨h2.ownNone (.head _), h2.ownCap (.head _), PilP.know h2.tail⟩
theorem PilT.know {W w : World} {R : List SProp} {l : List TxnE} (h : Holds W (PilT l :: R) w) : ∀ t ∈ l, t.ok := by
  intro e he
  obtain ⟨i, hi, rfl⟩ := List.mem_iff_getElem.1 he
  exact TxnE.know (pile_out hi h)
theorem TxnE.rd {W : World} {H : List SProp} {t : TxnE} (h : t.ok) (m : t.res ∈ H) : RdPats W H t.ao t.pats := by
  have q : ∀ R, RdPats W ([PatsO (t.ao, t.cap) t.pats, PilP t.pats] ++ R) t.ao t.pats := fun R => RdPats.own (x := (t.ao, t.cap)) h.nil h.each (by simp) (by simp)
  exact ⟨Rds.star m fun R => (q R).rds, fun p hp => Rds.star m fun R => (q R).each p hp, h.each⟩
theorem RdTxns.own {W : World} {H : List SProp} {x : Option Addr × Nat} {l : List TxnE} (hn : x.1 = none → l.length = 0) (hok : ∀ t ∈ l, t.ok) (m1 : TxnsO x l ∈ H) (m2 : PilT l ∈ H) : RdTxns W H x.1 l := by
  refine ⟨Rds.own (txns_one l) m1 (txns_len l) hn, fun t ht => ?_, hok⟩
  exact ⟨Rds.pile m2 ht (fun R hR => (TxnE.rd (hok t ht) hR).rds), fun p hp => Rds.pile m2 ht (fun R hR => (TxnE.rd (hok t ht) hR).each p hp), (hok t ht).each⟩
theorem RdTxns.ent {W : World} {H R : List SProp} {ao : Option Addr} {l : List TxnE} (h : RdTxns W R ao l) (e : Ent W H R) : RdTxns W H ao l := ⟨h.rds.ent e, fun x hx => (h.each x hx).ent e, h.ok⟩
/-- A batch that is put together. -/
theorem TxnE.shut {W w : World} {R : List SProp} (t : TxnE) (h : Holds W (PatsO (t.ao, t.cap) t.pats :: PilP t.pats :: R) w) : Holds W (t.res :: R) w := h.nest (L := [PatsO (t.ao, t.cap) t.pats, PilP t.pats])
end Go.Proofs.YtpmmkmcbimnigaaGreat

/-! Text Es. -/
/- A run of at most 32 bits of a sector turned over: the plain law. -/
set_option maxRecDepth 8000
set_option linter.unusedVariables false
set_option linter.unusedSimpArgs false
set_option linter.unusedSectionVars false
namespace Go.Proofs.YtpmmkmcbimnigaaGreat
open Go.RowKit Go.Sl

end Go.Proofs.YtpmmkmcbimnigaaGreat

/-! Text Qz. -/
/- Lists of structs that somebody owns. -/
set_option maxRecDepth 8000
set_option linter.unusedVariables false
set_option linter.unusedSimpArgs false
set_option linter.unusedSectionVars false
namespace Go.Proofs.YtpmmkmcbimnigaaGreat
open Go.RowKit Go.Sl
attribute [local irreducible] Own

structure ListN where
  ao : Option Addr
  cap : Nat
  n : Nat
  xs : List Value
abbrev ListN.hdr (e : ListN) : Value := .slice e.ao e.n e.cap
theorem ListN.hdrs_one (l : List ListN) : ∀ u ∈ l.map ListN.hdr, u.oneCell' = true := by
  intro u hu; obtain ⟨e, _, rfl⟩ := List.mem_map.1 hu; rfl
end Go.Proofs.YtpmmkmcbimnigaaGreat

/-! Text Qb. -/
/- The document's book: lists of patches that are its owner's own. Written by gen_own.py. -/
set_option maxRecDepth 8000
set_option linter.unusedVariables false
set_option linter.unusedSimpArgs false
set_option linter.unusedSectionVars false
namespace Go.Proofs.YtpmmkmcbimnigaaGreat
open Go.RowKit Go.Sl
attribute [local irreducible] Own
namespace Pt

def mk (z : Int) : List Value := [.int .i64 0, .int .i64 z, .slice none 0 0]
abbrev val (z : Int) : Value := .int .i64 z
def marks (a m : Nat) : List Value := (List.range m).flatMap fun (k : Nat) => mk ((a : Int) * 1000 + (k : Int))
def marks2 (a m : Nat) : List Value := (List.range m).flatMap fun (k : Nat) => mk ((-1 - (a : Int)) * 1000 + (k : Int))
theorem marks_length (a m : Nat) : (marks a m).length = m * 3 := by
  have := flat_length (w := 3) (g := fun (k : Nat) => mk ((a : Int) * 1000 + (k : Int))) (List.range m) (fun _ _ => rfl); rwa [List.length_range] at this
theorem marks2_length (a m : Nat) : (marks2 a m).length = m * 3 := by
  have := flat_length (w := 3) (g := fun (k : Nat) => mk ((-1 - (a : Int)) * 1000 + (k : Int))) (List.range m) (fun _ _ => rfl); rwa [List.length_range] at this
theorem marks_succ (a m : Nat) : marks a (m + 1) = marks a m ++ mk ((a : Int) * 1000 + (m : Int)) := by unfold marks; rw [List.range_succ, List.flatMap_append]; simp
theorem marks2_succ (a m : Nat) : marks2 a (m + 1) = marks2 a m ++ mk ((-1 - (a : Int)) * 1000 + (m : Int)) := by unfold marks2; rw [List.range_succ, List.flatMap_append]; simp
theorem mk_one (z : Int) : ∀ u ∈ mk z, u.oneCell' = true := by simp [mk, Value.oneCell']
theorem marks_one (a m : Nat) : ∀ u ∈ marks a m, u.oneCell' = true := by
  intro u hu; obtain ⟨k, _, h⟩ := List.mem_flatMap.1 hu; exact mk_one _ u h
theorem marks2_one (a m : Nat) : ∀ u ∈ marks2 a m, u.oneCell' = true := by
  intro u hu; obtain ⟨k, _, h⟩ := List.mem_flatMap.1 hu; exact mk_one _ u h
theorem marks_get (a m k : Nat) (h : k < m) : (marks a m)[k * 3 + 1]? = some (val ((a : Int) * 1000 + (k : Int))) := by
  have := flat_at (w := 3) (g := fun (k : Nat) => mk ((a : Int) * 1000 + (k : Int))) (List.range m) k 1 (by rw [List.length_range]; exact h) (fun _ _ => rfl) (by decide)
  rw [List.getElem_range] at this
  exact this
theorem marks2_get (a m k : Nat) (h : k < m) : (marks2 a m)[k * 3 + 1]? = some (val ((-1 - (a : Int)) * 1000 + (k : Int))) := by
  have := flat_at (w := 3) (g := fun (k : Nat) => mk ((-1 - (a : Int)) * 1000 + (k : Int))) (List.range m) k 1 (by rw [List.length_range]; exact h) (fun _ _ => rfl) (by decide)
  rw [List.getElem_range] at this
  exact this
def res (e : ListN) : SProp := Own 178 3 (.slice e.ao e.n e.cap) e.n e.xs
/-- The lists, the first so many of them marked. -/
def mkd (E : List ListN) (a : Nat) : List ListN := E.mapIdx fun j e => if j < a then ⟨e.ao, e.cap, e.n, marks j e.n⟩ else e
theorem mkd_length (E : List ListN) (a : Nat) : (mkd E a).length = E.length := by simp [mkd]
theorem mkd_get (E : List ListN) (a j : Nat) (h : j < E.length) : (mkd E a)[j]'(by rw [mkd_length]; exact h) = if j < a then ⟨E[j].ao, E[j].cap, E[j].n, marks j E[j].n⟩ else E[j] := by simp [mkd]
theorem mkd_zero (E : List ListN) : mkd E 0 = E := by
  unfold mkd; apply List.ext_getElem (by simp); intro i h1 h2; simp
theorem mkd_set (E : List ListN) (a : Nat) (h : a < E.length) : (mkd E a).set a ⟨E[a].ao, E[a].cap, E[a].n, marks a E[a].n⟩ = mkd E (a + 1) := by
  apply List.ext_getElem (by simp [mkd_length])
  intro j h1 h2
  have hj : j < E.length := by simpa [mkd_length] using h2
  rw [List.getElem_set, mkd_get E (a + 1) j hj]
  split
  · rename_i q; subst q; rw [if_pos (Nat.lt_succ_self _)]
  · rename_i q
    rw [mkd_get E a j hj]
    by_cases q2 : j < a
    · rw [if_pos q2, if_pos (by omega)]
    · rw [if_neg q2, if_neg (by omega)]
/-- The lists, the first of them with what has grown out of them. -/
def twin (j : Nat) (e : ListN) (g : Option Addr × Nat) (m : Nat) : SProp := TwinR 178 3 e.ao e.cap e.n e.xs g.1 g.2 (e.n + m) (e.xs ++ marks2 j m)
def grs (M : List ListN) (Gs : List (Option Addr × Nat)) : List SProp := M.mapIdx fun j e => match Gs[j]? with
  | some g => twin j e g 16
  | none => res e
theorem grs_length (M : List ListN) (Gs : List (Option Addr × Nat)) : (grs M Gs).length = M.length := by simp [grs]
theorem grs_nil (M : List ListN) : grs M [] = M.map res := by
  unfold grs; apply List.ext_getElem (by simp); intro i h1 h2; simp
theorem grs_get (M : List ListN) (Gs : List (Option Addr × Nat)) (j : Nat) (h : j < M.length) : (grs M Gs)[j]'(by rw [grs_length]; exact h) = match Gs[j]? with
  | some g => twin j M[j] g 16
  | none => res M[j] := by simp [grs]
theorem grs_set (M : List ListN) (Gs : List (Option Addr × Nat)) (g : Option Addr × Nat) (h : Gs.length < M.length) : (grs M Gs).set Gs.length (twin Gs.length M[Gs.length] g 16) = grs M (Gs ++ [g]) := by
  apply List.ext_getElem (by simp [grs_length])
  intro j h1 h2
  have hj : j < M.length := by simpa [grs_length] using h2
  rw [List.getElem_set, grs_get M (Gs ++ [g]) j hj]
  split
  · rename_i q; subst q; rw [List.getElem?_append_right (Nat.le_refl _)]; simp
  · rename_i q
    rw [grs_get M Gs j hj]
    by_cases q2 : j < Gs.length
    · rw [List.getElem?_append_left q2]
    · rw [List.getElem?_eq_none (by omega), List.getElem?_eq_none (by simp; omega)]
def longH (M : List ListN) (Gs : List (Option Addr × Nat)) : List Value := Gs.mapIdx fun j g => .slice g.1 (((M[j]?).map fun e => e.n).getD 0 + 16) g.2
theorem longH_length (M : List ListN) (Gs : List (Option Addr × Nat)) : (longH M Gs).length = Gs.length := by simp [longH]
theorem longH_snoc (M : List ListN) (Gs : List (Option Addr × Nat)) (g : Option Addr × Nat) (h : Gs.length < M.length) : longH M (Gs ++ [g]) = longH M Gs ++ [.slice g.1 (M[Gs.length].n + 16) g.2] := by
  unfold longH
  rw [List.mapIdx_append]
  congr 1
  simp [List.getElem?_eq_getElem h]
theorem longH_one (M : List ListN) (Gs : List (Option Addr × Nat)) : ∀ u ∈ longH M Gs, u.oneCell' = true := by
  intro u hu
  obtain ⟨j, hj, rfl⟩ := List.mem_iff_getElem.1 hu
  simp [longH, Value.oneCell']
set_option maxHeartbeats 8000000 in
theorem own_ok {W : World} {R : List SProp} {lo : Option Addr} {lc : Nat} {E : List ListN} (hn : E.length ≤ 1000000000) (hl : ∀ e ∈ E, e.n ≤ 1000000000) :
    Does1 W Tryz.prog 83 [.slice lo E.length lc] (Own 176 1 (.slice lo E.length lc) E.length (E.map ListN.hdr) :: (E.map res ++ R)) (.bool true) R := by
  (refine Does.enter Tryz.func83 Tryz.ntmps83 rfl rfl ?_)
  refine VC.know (p := lo = none → E.length = 0) (fun w hw => hw.ownNone (.head _)) ?_
  intro hln
  (refine w ?_; repeat ((first | refine VO.step rfl rfl ?_ | refine VD.end rfl rfl rfl ?_ | refine VD.mid rfl rfl rfl ?_); refine OpV.box rfl rfl rfl ?_; intro _; refine w ?_))
  refine VC.loop (α := Nat) (fun a => a ≤ E.length) (fun a => Own 176 1 (.slice lo E.length lc) E.length (E.map ListN.hdr) :: ((mkd E a).map res ++ R)) (fun a => [(0, .slice lo E.length lc), (3, .int .i64 a)]) (fun a => E.length - a) rfl 0 (Nat.zero_le _) (by rw [mkd_zero]; exact Ent.refl) ⟨rfl, rfl, trivial⟩ ?_
  intro a ha
  (refine w ?_; repeat ((first | refine VO.step rfl rfl ?_ | refine VD.end rfl rfl rfl ?_ | refine VD.mid rfl rfl rfl ?_); refine OpV.box rfl rfl rfl ?_; intro _; refine w ?_))
  (refine VC.cond rfl rfl ?_ ?_ <;> intro hc)
  · have hlt : a < E.length := by have := of_decide_eq_true hc; omega
    obtain ⟨lb, rfl⟩ : ∃ lb, lo = some lb := by cases lo with | none => have := hln rfl; omega | some lb => exact ⟨lb, rfl⟩
    have hla := hl _ (List.getElem_mem hlt)
    have hget : (E.map ListN.hdr)[a]? = some (.slice E[a].ao E[a].n E[a].cap) := by rw [List.getElem?_map, List.getElem?_eq_getElem hlt]; rfl
    have hmlen : ((mkd E a).map res).length = E.length := by rw [List.length_map, mkd_length]
    have hself : (mkd E a).map res = ((mkd E a).map res).set a (Own 178 3 (.slice E[a].ao E[a].n E[a].cap) E[a].n (marks a 0 ++ E[a].xs.drop (0 * 3))) := by
      have e1 : ((mkd E a).map res)[a]'(by rw [hmlen]; exact hlt) = Own 178 3 (.slice E[a].ao E[a].n E[a].cap) E[a].n (marks a 0 ++ E[a].xs.drop (0 * 3)) := by
        rw [List.getElem_map, mkd_get E a a hlt, if_neg (Nat.lt_irrefl _)]; rfl
      rw [← e1, List.set_getElem_self]
    have hnext : ((mkd E a).map res).set a (Own 178 3 (.slice E[a].ao E[a].n E[a].cap) E[a].n (marks a E[a].n)) = (mkd E (a + 1)).map res := by
      rw [← mkd_set E a hlt, List.map_set]; rfl
    generalize hL : (mkd E a).map res = L at *
    (refine w ?_; repeat ((first | refine VO.step rfl rfl ?_ | refine VD.end rfl rfl rfl ?_ | refine VD.mid rfl rfl rfl ?_); refine OpV.box rfl rfl rfl ?_; intro _; refine w ?_))
    refine VC.loop (α := Nat) (fun k => k ≤ E[a].n) (fun k => Own 176 1 (.slice (some lb) E.length lc) E.length (E.map ListN.hdr) :: (L.set a (Own 178 3 (.slice E[a].ao E[a].n E[a].cap) E[a].n (marks a k ++ E[a].xs.drop (k * 3))) ++ R))
      (fun k => [(0, .slice (some lb) E.length lc), (3, .int .i64 a), (4, .int .i64 k)]) (fun k => E[a].n - k) rfl 0 (Nat.zero_le _) (by rw [← hself]; exact Ent.refl) ⟨rfl, rfl, rfl, trivial⟩ ?_
    intro k hk
    refine VC.know (p := E[a].ao = none → E[a].n = 0) (fun w hw => Holds.ownNone hw (.tail _ (mem_set L a _ (by omega)))) ?_
    intro han
    refine VC.know (fun w hw => Holds.ownLen hw (.tail _ (mem_set L a _ (by omega)))) ?_
    intro hlen
    (refine w ?_; repeat ((first | refine VO.step rfl rfl ?_ | refine VD.end rfl rfl rfl ?_ | refine VD.mid rfl rfl rfl ?_); refine OpV.box rfl rfl rfl ?_; intro _; refine w ?_))
    (first | refine VO.pure rfl rfl (PureAt.ldR tab_ok rfl rfl (Rds.own (ListN.hdrs_one E) (.head _) (by rw [List.length_map, Nat.mul_one]) (fun h => by cases h)) hget) rfl ?_ | refine VD.take rfl rfl rfl (PureAt.ldR tab_ok rfl rfl (Rds.own (ListN.hdrs_one E) (.head _) (by rw [List.length_map, Nat.mul_one]) (fun h => by cases h)) hget) rfl ?_ | refine VQ.pure rfl rfl (PureAt.ldR tab_ok rfl rfl (Rds.own (ListN.hdrs_one E) (.head _) (by rw [List.length_map, Nat.mul_one]) (fun h => by cases h)) hget) rfl ?_ | refine VD.end rfl rfl rfl (OpV.pure (PureAt.ldR tab_ok rfl rfl (Rds.own (ListN.hdrs_one E) (.head _) (by rw [List.length_map, Nat.mul_one]) (fun h => by cases h)) hget) rfl ?_))
    (refine w ?_; repeat ((first | refine VO.step rfl rfl ?_ | refine VD.end rfl rfl rfl ?_ | refine VD.mid rfl rfl rfl ?_); refine OpV.box rfl rfl rfl ?_; intro _; refine w ?_))
    (refine VC.cond rfl rfl ?_ ?_ <;> intro hc)
    · have hkt : k < E[a].n := by have := of_decide_eq_true hc; omega
      obtain ⟨xa, hxa⟩ : ∃ xa, E[a].ao = some xa := by cases h : E[a].ao with | none => have := han h; omega | some xa => exact ⟨xa, rfl⟩
      rw [hxa] at hget ⊢
      (refine w ?_; repeat ((first | refine VO.step rfl rfl ?_ | refine VD.end rfl rfl rfl ?_ | refine VD.mid rfl rfl rfl ?_); refine OpV.box rfl rfl rfl ?_; intro _; refine w ?_))
      (first | refine VO.pure rfl rfl (PureAt.ldR tab_ok rfl rfl (Rds.own (ListN.hdrs_one E) (.head _) (by rw [List.length_map, Nat.mul_one]) (fun h => by cases h)) hget) rfl ?_ | refine VD.take rfl rfl rfl (PureAt.ldR tab_ok rfl rfl (Rds.own (ListN.hdrs_one E) (.head _) (by rw [List.length_map, Nat.mul_one]) (fun h => by cases h)) hget) rfl ?_ | refine VQ.pure rfl rfl (PureAt.ldR tab_ok rfl rfl (Rds.own (ListN.hdrs_one E) (.head _) (by rw [List.length_map, Nat.mul_one]) (fun h => by cases h)) hget) rfl ?_ | refine VD.end rfl rfl rfl (OpV.pure (PureAt.ldR tab_ok rfl rfl (Rds.own (ListN.hdrs_one E) (.head _) (by rw [List.length_map, Nat.mul_one]) (fun h => by cases h)) hget) rfl ?_))
      (refine w ?_; repeat ((first | refine VO.step rfl rfl ?_ | refine VD.end rfl rfl rfl ?_ | refine VD.mid rfl rfl rfl ?_); refine OpV.box rfl rfl rfl ?_; intro _; refine w ?_))
      (apply VO.pure rfl rfl; apply PureAt.build sb_178 rfl; (simp [buildX, setL, Value.cells]; rfl); rfl)
      (refine w ?_; repeat ((first | refine VO.step rfl rfl ?_ | refine VD.end rfl rfl rfl ?_ | refine VD.mid rfl rfl rfl ?_); refine OpV.box rfl rfl rfl ?_; intro _; refine w ?_))
      (first | refine VO.step rfl rfl ?_ | refine VD.end rfl rfl rfl ?_ | refine VD.mid rfl rfl rfl ?_)
      refine OpV.stOA (vs := mk ((a : Int) * 1000 + (k : Int))) tab_ok rfl rfl rfl rfl (mk_one _) (.tail (hole_set L a _ (by omega))) (by rw [hlen]; omega) ?_
      have hset : (marks a k ++ E[a].xs.drop (k * 3)).take (k * 3) ++ mk ((a : Int) * 1000 + (k : Int)) ++ (marks a k ++ E[a].xs.drop (k * 3)).drop (k * 3 + 3) = marks a (k + 1) ++ E[a].xs.drop ((k + 1) * 3) := by
        rw [List.take_left' (marks_length a k), marks_succ, List.drop_append, marks_length, List.drop_of_length_le (by rw [marks_length]; omega), List.nil_append, List.drop_drop]
        congr 2
        omega
      rw [hset]
      (refine w ?_; repeat ((first | refine VO.step rfl rfl ?_ | refine VD.end rfl rfl rfl ?_ | refine VD.mid rfl rfl rfl ?_); refine OpV.box rfl rfl rfl ?_; intro _; refine w ?_))
      exact VE.round (k + 1) hkt (by omega) ⟨rfl, rfl, rfl, trivial⟩ Ent.refl
    · have hge : k = E[a].n := by have := of_decide_eq_false hc; omega
      rw [List.length_append, marks_length] at hlen
      have hz : E[a].xs.drop (k * 3) = [] := List.eq_nil_of_length_eq_zero (by rw [hge] at hlen ⊢; omega)
      rw [hz, List.append_nil, hge, hnext]
      (refine w ?_; repeat ((first | refine VO.step rfl rfl ?_ | refine VD.end rfl rfl rfl ?_ | refine VD.mid rfl rfl rfl ?_); refine OpV.box rfl rfl rfl ?_; intro _; refine w ?_))
      exact VE.round (a + 1) hlt (by omega) ⟨rfl, rfl, trivial⟩ Ent.refl
  have hge : a = E.length := by have := of_decide_eq_false hc; omega
  subst hge
  clear hc ha
  -- every list is marked
  obtain ⟨M, hM⟩ : ∃ M, M = mkd E E.length := ⟨_, rfl⟩
  have hML : M.length = E.length := by rw [hM]; exact mkd_length _ _
  have hMg : ∀ j (h : j < M.length), M[j] = ⟨(E[j]'(by omega)).ao, (E[j]'(by omega)).cap, (E[j]'(by omega)).n, marks j (E[j]'(by omega)).n⟩ := fun j h => by
    subst hM; rw [mkd_get E _ j (by omega), if_pos (by omega)]
  have hMh : E.map ListN.hdr = M.map ListN.hdr := by
    apply List.ext_getElem (by simp [hML])
    intro j h1 h2
    have hj : j < M.length := by simpa using h2
    rw [List.getElem_map, List.getElem_map, hMg j hj]
  have hMl : ∀ j (h : j < M.length), M[j].n ≤ 1000000000 ∧ M[j].xs = marks j M[j].n := fun j h => by
    rw [hMg j h]; exact ⟨hl (E[j]'(by omega)) (List.getElem_mem _), rfl⟩
  (refine w ?_; repeat ((first | refine VO.step rfl rfl ?_ | refine VD.end rfl rfl rfl ?_ | refine VD.mid rfl rfl rfl ?_); refine OpV.box rfl rfl rfl ?_; intro _; refine w ?_))
  rw [← hM, hMh, ← hML]
  rw [← hML] at hln hn
  clear hMh hMg hl hML hM E
  refine VC.ent (H' := Own 176 1 (.slice none 0 0) 0 (longH M []) :: Own 176 1 (.slice lo M.length lc) M.length (M.map ListN.hdr) :: (grs M [] ++ R)) (fun w hw => by rw [grs_nil]; exact hw.ownNil _ _) ?_
  refine VC.loop (α := List (Option Addr × Nat) × Option Addr × Nat) (fun g => g.1.length ≤ M.length)
    (fun g => Own 176 1 (.slice g.2.1 g.1.length g.2.2) g.1.length (longH M g.1) :: Own 176 1 (.slice lo M.length lc) M.length (M.map ListN.hdr) :: (grs M g.1 ++ R))
    (fun g => [(0, .slice lo M.length lc), (5, .slice g.2.1 g.1.length g.2.2), (6, .int .i64 g.1.length)]) (fun g => M.length - g.1.length) rfl ([], none, 0) (Nat.zero_le _) Ent.refl ⟨rfl, rfl, rfl, trivial⟩ ?_
  rintro ⟨Gs, go, gc⟩ ha
  dsimp only at ha ⊢
  (refine w ?_; repeat ((first | refine VO.step rfl rfl ?_ | refine VD.end rfl rfl rfl ?_ | refine VD.mid rfl rfl rfl ?_); refine OpV.box rfl rfl rfl ?_; intro _; refine w ?_))
  (refine VC.cond rfl rfl ?_ ?_ <;> intro hc)
  · have hlt : Gs.length < M.length := by have := of_decide_eq_true hc; omega
    obtain ⟨lb, rfl⟩ : ∃ lb, lo = some lb := by cases lo with | none => have := hln rfl; omega | some lb => exact ⟨lb, rfl⟩
    obtain ⟨hla, hxs⟩ := hMl Gs.length hlt
    have hget : (M.map ListN.hdr)[Gs.length]? = some (.slice M[Gs.length].ao M[Gs.length].n M[Gs.length].cap) := by rw [List.getElem?_map, List.getElem?_eq_getElem hlt]; rfl
    have hself : grs M Gs = (grs M Gs).set Gs.length (res M[Gs.length]) := by
      have e1 : (grs M Gs)[Gs.length]'(by rw [grs_length]; exact hlt) = res M[Gs.length] := by
        rw [grs_get M Gs _ hlt, List.getElem?_eq_none (Nat.le_refl _)]
      rw [← e1, List.set_getElem_self]
    have hnext (g : Option Addr × Nat) := grs_set M Gs g hlt
    have hlnext (g : Option Addr × Nat) := longH_snoc M Gs g hlt
    have hgl := grs_length M Gs
    generalize hL : grs M Gs = L at *
    (refine w ?_; repeat ((first | refine VO.step rfl rfl ?_ | refine VD.end rfl rfl rfl ?_ | refine VD.mid rfl rfl rfl ?_); refine OpV.box rfl rfl rfl ?_; intro _; refine w ?_))
    (first | refine VO.pure rfl rfl (PureAt.ldR tab_ok rfl rfl (Rds.own (ListN.hdrs_one M) (.tail _ (.head _)) (by rw [List.length_map, Nat.mul_one]) (fun h => by cases h)) hget) rfl ?_ | refine VD.take rfl rfl rfl (PureAt.ldR tab_ok rfl rfl (Rds.own (ListN.hdrs_one M) (.tail _ (.head _)) (by rw [List.length_map, Nat.mul_one]) (fun h => by cases h)) hget) rfl ?_ | refine VQ.pure rfl rfl (PureAt.ldR tab_ok rfl rfl (Rds.own (ListN.hdrs_one M) (.tail _ (.head _)) (by rw [List.length_map, Nat.mul_one]) (fun h => by cases h)) hget) rfl ?_ | refine VD.end rfl rfl rfl (OpV.pure (PureAt.ldR tab_ok rfl rfl (Rds.own (ListN.hdrs_one M) (.tail _ (.head _)) (by rw [List.length_map, Nat.mul_one]) (fun h => by cases h)) hget) rfl ?_))
    (refine w ?_; repeat ((first | refine VO.step rfl rfl ?_ | refine VD.end rfl rfl rfl ?_ | refine VD.mid rfl rfl rfl ?_); refine OpV.box rfl rfl rfl ?_; intro _; refine w ?_))
    refine VC.loop (α := Nat × Option Addr × Nat) (fun g => g.1 ≤ 16)
      (fun g => Own 176 1 (.slice go Gs.length gc) Gs.length (longH M Gs) :: Own 176 1 (.slice (some lb) M.length lc) M.length (M.map ListN.hdr) :: (L.set Gs.length (twin Gs.length M[Gs.length] g.2 g.1) ++ R))
      (fun g => [(0, .slice (some lb) M.length lc), (5, .slice go Gs.length gc), (6, .int .i64 Gs.length), (7, .slice g.2.1 (M[Gs.length].n + g.1) g.2.2), (8, .int .i64 g.1)]) (fun g => 16 - g.1) rfl (0, M[Gs.length].ao, M[Gs.length].cap) (Nat.zero_le _)
      (by
        rw [hself, List.set_set]
        refine Ent.hole (Hole.tail (Hole.tail (hole_set L Gs.length _ (by omega)))) (fun R w hw => ?_)
        have := TwinR.start hw
        simpa [twin, marks2] using this) ⟨rfl, rfl, rfl, rfl, rfl, trivial⟩ ?_
    rintro ⟨k, xo, xc⟩ hk
    dsimp only at hk ⊢
    (refine w ?_; repeat ((first | refine VO.step rfl rfl ?_ | refine VD.end rfl rfl rfl ?_ | refine VD.mid rfl rfl rfl ?_); refine OpV.box rfl rfl rfl ?_; intro _; refine w ?_))
    (refine VC.cond rfl rfl ?_ ?_ <;> intro hc)
    · have hkt : k < 16 := by have := of_decide_eq_true hc; omega
      (refine w ?_; repeat ((first | refine VO.step rfl rfl ?_ | refine VD.end rfl rfl rfl ?_ | refine VD.mid rfl rfl rfl ?_); refine OpV.box rfl rfl rfl ?_; intro _; refine w ?_))
      (apply VO.pure rfl rfl; apply PureAt.build sb_178 rfl; (simp [buildX, setL, Value.cells]; rfl); rfl)
      (first | refine VO.step rfl rfl ?_ | refine VD.end rfl rfl rfl ?_ | refine VD.mid rfl rfl rfl ?_)
      refine OpV.buildSlice (cs := mk ((-1 - (Gs.length : Int)) * 1000 + (k : Int))) st_176 rfl rfl (by simp [Value.cells]) (by simp [Value.cells, mk]) (by decide) rfl ?_
      intro nb
      (first | refine VO.step rfl rfl ?_ | refine VD.end rfl rfl rfl ?_ | refine VD.mid rfl rfl rfl ?_)
      refine OpV.appendT (news := mk ((-1 - (Gs.length : Int)) * 1000 + (k : Int))) (m := 1) st_176 rfl rfl (.tail (.tail (.tail (hole_set L Gs.length _ (by omega))))) (fun w hw => (Sees.row (ys := []) (mk_one _) rfl (by simpa using hw) (.head _)).src st_176.und) ?_ ?_ rfl ?_
      · simp only [maxLen]; omega
      · omega
      intro xo' xc'
      (refine w ?_; repeat ((first | refine VO.step rfl rfl ?_ | refine VD.end rfl rfl rfl ?_ | refine VD.mid rfl rfl rfl ?_); refine OpV.box rfl rfl rfl ?_; intro _; refine w ?_))
      refine VE.round (k + 1, xo', xc') hkt (by simp only; omega) ⟨rfl, rfl, rfl, rfl, rfl, trivial⟩ ?_
      unfold twin
      rw [marks2_succ, ← List.append_assoc]
      exact Reord.ent (Reord.drop .refl)
    · have hge : k = 16 := by have := of_decide_eq_false hc; omega
      subst hge
      rw [hnext]
      (refine w ?_; repeat ((first | refine VO.step rfl rfl ?_ | refine VD.end rfl rfl rfl ?_ | refine VD.mid rfl rfl rfl ?_); refine OpV.box rfl rfl rfl ?_; intro _; refine w ?_))
      ((first | refine VO.step rfl rfl ?_ | refine VD.end rfl rfl rfl ?_ | refine VD.mid rfl rfl rfl ?_); refine OpV.buildSlice1 st_55 rfl rfl (by first | (simp; done) | simp [Value.oneCell']) (by decide) rfl ?_; intro nb)
      ((first | refine VO.step rfl rfl ?_ | refine VD.end rfl rfl rfl ?_ | refine VD.mid rfl rfl rfl ?_); refine OpV.appendRow st_55 rfl rfl (by (repeat first | exact .head | apply Hole.tail)) (by (focus repeat first | exact .head _ | apply List.Mem.tail)) rfl (by first | (simp; done) | simp [Value.oneCell']) ?_ ?_ rfl ?_)
      · simp only [maxLen]; omega
      · omega
      intro go' gc'
      rw [← hlnext (xo, xc)]
      (refine w ?_; repeat ((first | refine VO.step rfl rfl ?_ | refine VD.end rfl rfl rfl ?_ | refine VD.mid rfl rfl rfl ?_); refine OpV.box rfl rfl rfl ?_; intro _; refine w ?_))
      refine VE.round (Gs ++ [(xo, xc)], go', gc') (by rw [List.length_append]; exact hlt) (by simp only [List.length_append, List.length_singleton]; omega) ⟨rfl, asV rfl (by rw [List.length_append]; rfl), asV rfl (by rw [List.length_append]; rfl), trivial⟩ ?_
      dsimp only
      rw [List.length_append]
      exact Ent.re
  have hge : Gs.length = M.length := by have := of_decide_eq_false hc; omega
  clear hc ha
  (refine w ?_; repeat ((first | refine VO.step rfl rfl ?_ | refine VD.end rfl rfl rfl ?_ | refine VD.mid rfl rfl rfl ?_); refine OpV.box rfl rfl rfl ?_; intro _; refine w ?_))
  refine VC.know (p := go = none → Gs.length = 0) (fun w hw => Holds.ownNone hw (.head _)) ?_
  intro hgn
  generalize hH : (Own 176 1 (.slice go Gs.length gc) Gs.length (longH M Gs) :: Own 176 1 (.slice lo M.length lc) M.length (M.map ListN.hdr) :: (grs M Gs ++ R)) = HH
  have hr1 : Rds W HH 1 lo M.length (M.map ListN.hdr) := by subst hH; exact Rds.own (ListN.hdrs_one M) (.tail _ (.head _)) (by rw [List.length_map, Nat.mul_one]) hln
  have hr2 : Rds W HH 1 go Gs.length (longH M Gs) := by subst hH; exact Rds.own (longH_one M Gs) (.head _) (by rw [longH_length, Nat.mul_one]) hgn
  have hend : Ent W HH R := by
    subst hH
    exact Ent.drop (Ent.drop (fun w hw => by
      have : ∀ (X : List SProp) w, Holds W (X ++ R) w → Holds W R w := fun X => by
        induction X with
        | nil => exact fun w h => h
        | cons a r ih => exact fun w h => ih w h.tail
      exact this _ w hw))
  have htw : ∀ a (h : a < M.length), twin a M[a] (Gs[a]'(by omega)) 16 ∈ HH := fun a h => by
    subst hH
    refine .tail _ (.tail _ (List.mem_append_left _ (List.mem_iff_getElem.2 ⟨a, by rw [grs_length]; exact h, ?_⟩)))
    rw [grs_get M Gs a h, List.getElem?_eq_getElem (by omega)]
  have hlg : ∀ a (h : a < M.length), (longH M Gs)[a]? = some (.slice (Gs[a]'(by omega)).1 (M[a].n + 16) (Gs[a]'(by omega)).2) := fun a h => by
    unfold longH
    rw [List.getElem?_mapIdx, List.getElem?_eq_getElem h, List.getElem?_eq_getElem (l := Gs) (by omega)]; rfl
  clear hH
  refine VC.loop (α := Nat) (fun a => a ≤ M.length) (fun _ => HH)
    (fun a => [(0, .slice lo M.length lc), (5, .slice go Gs.length gc), (9, .int .i64 a)]) (fun a => M.length - a) rfl 0 (Nat.zero_le _) Ent.refl ⟨rfl, rfl, rfl, trivial⟩ ?_
  intro a ha
  (refine w ?_; repeat ((first | refine VO.step rfl rfl ?_ | refine VD.end rfl rfl rfl ?_ | refine VD.mid rfl rfl rfl ?_); refine OpV.box rfl rfl rfl ?_; intro _; refine w ?_))
  (refine VC.cond rfl rfl ?_ ?_ <;> intro hc)
  · have hlt : a < M.length := by have := of_decide_eq_true hc; omega
    obtain ⟨lb, rfl⟩ : ∃ lb, lo = some lb := by cases lo with | none => have := hln rfl; omega | some lb => exact ⟨lb, rfl⟩
    obtain ⟨gb, rfl⟩ : ∃ gb, go = some gb := by cases go with | none => have := hgn rfl; omega | some gb => exact ⟨gb, rfl⟩
    obtain ⟨hla, hxs⟩ := hMl a hlt
    have hget : (M.map ListN.hdr)[a]? = some (.slice M[a].ao M[a].n M[a].cap) := by rw [List.getElem?_map, List.getElem?_eq_getElem hlt]; rfl
    have htw := htw a hlt
    have hlg := hlg a hlt
    have hgl : a < Gs.length := by omega
    generalize Gs[a] = g at *
    generalize M[a] = e at *
    have hel : e.xs.length = e.n * 3 := by rw [hxs, marks_length]
    have h1 : ∀ u ∈ e.xs, u.oneCell' = true := by rw [hxs]; exact marks_one _ _
    have h2 : ∀ u ∈ e.xs ++ marks2 a 16, u.oneCell' = true := fun u hu => by
      rcases List.mem_append.1 hu with q | q
      · exact h1 u q
      · exact marks2_one _ _ u q
    refine VC.know (fun w hw => TwinR.none hw htw) ?_
    rintro ⟨hon, hnn⟩
    have ho : Rds W HH 3 e.ao e.n e.xs := TwinR.rdsOld htw h1 hel hon
    have hw' : Rds W HH 3 g.1 (e.n + 16) (e.xs ++ marks2 a 16) := TwinR.rdsNew htw h2 (by rw [List.length_append, marks2_length, hel]; omega) hnn
    obtain ⟨gx, hgx⟩ : ∃ gx, g.1 = some gx := by cases h : g.1 with | none => have := hnn h; omega | some gx => exact ⟨gx, rfl⟩
    rw [hgx] at hlg hw'
    (refine w ?_; repeat ((first | refine VO.step rfl rfl ?_ | refine VD.end rfl rfl rfl ?_ | refine VD.mid rfl rfl rfl ?_); refine OpV.box rfl rfl rfl ?_; intro _; refine w ?_))
    (first | refine VO.pure rfl rfl (PureAt.ldR tab_ok rfl rfl hr1 hget) rfl ?_ | refine VD.take rfl rfl rfl (PureAt.ldR tab_ok rfl rfl hr1 hget) rfl ?_ | refine VQ.pure rfl rfl (PureAt.ldR tab_ok rfl rfl hr1 hget) rfl ?_ | refine VD.end rfl rfl rfl (OpV.pure (PureAt.ldR tab_ok rfl rfl hr1 hget) rfl ?_))
    (refine w ?_; repeat ((first | refine VO.step rfl rfl ?_ | refine VD.end rfl rfl rfl ?_ | refine VD.mid rfl rfl rfl ?_); refine OpV.box rfl rfl rfl ?_; intro _; refine w ?_))
    refine VC.loop (α := Nat) (fun k => k ≤ e.n) (fun _ => HH)
      (fun k => [(0, .slice (some lb) M.length lc), (5, .slice (some gb) Gs.length gc), (9, .int .i64 a), (10, .int .i64 e.n), (11, .int .i64 k)]) (fun k => e.n - k) rfl 0 (Nat.zero_le _) Ent.refl ⟨rfl, rfl, rfl, rfl, rfl, trivial⟩ ?_
    intro k hk
    (refine w ?_; repeat ((first | refine VO.step rfl rfl ?_ | refine VD.end rfl rfl rfl ?_ | refine VD.mid rfl rfl rfl ?_); refine OpV.box rfl rfl rfl ?_; intro _; refine w ?_))
    (refine VC.cond rfl rfl ?_ ?_ <;> intro hc)
    · have hkt : k < e.n := by have := of_decide_eq_true hc; omega
      obtain ⟨ox, hox⟩ : ∃ ox, e.ao = some ox := by cases h : e.ao with | none => have := hon h; omega | some ox => exact ⟨ox, rfl⟩
      rw [hox] at hget ho
      have hk1 : e.xs[k * 3 + 1]? = some (val ((a : Int) * 1000 + (k : Int))) := by rw [hxs]; exact marks_get a _ k hkt
      have hk2 : (e.xs ++ marks2 a 16)[k * 3 + 1]? = some (val ((a : Int) * 1000 + (k : Int))) := by rw [List.getElem?_append_left (by omega)]; exact hk1
      (refine w ?_; repeat ((first | refine VO.step rfl rfl ?_ | refine VD.end rfl rfl rfl ?_ | refine VD.mid rfl rfl rfl ?_); refine OpV.box rfl rfl rfl ?_; intro _; refine w ?_))
      (first | refine VO.pure rfl rfl (PureAt.ldR tab_ok rfl rfl hr1 hget) rfl ?_ | refine VD.take rfl rfl rfl (PureAt.ldR tab_ok rfl rfl hr1 hget) rfl ?_ | refine VQ.pure rfl rfl (PureAt.ldR tab_ok rfl rfl hr1 hget) rfl ?_ | refine VD.end rfl rfl rfl (OpV.pure (PureAt.ldR tab_ok rfl rfl hr1 hget) rfl ?_))
      (refine w ?_; repeat ((first | refine VO.step rfl rfl ?_ | refine VD.end rfl rfl rfl ?_ | refine VD.mid rfl rfl rfl ?_); refine OpV.box rfl rfl rfl ?_; intro _; refine w ?_))
      (first | refine VO.pure rfl rfl (PureAt.ldRc tab_ok rfl rfl ho hk1) rfl ?_ | refine VD.take rfl rfl rfl (PureAt.ldRc tab_ok rfl rfl ho hk1) rfl ?_ | refine VQ.pure rfl rfl (PureAt.ldRc tab_ok rfl rfl ho hk1) rfl ?_ | refine VD.end rfl rfl rfl (OpV.pure (PureAt.ldRc tab_ok rfl rfl ho hk1) rfl ?_))
      (refine w ?_; repeat ((first | refine VO.step rfl rfl ?_ | refine VD.end rfl rfl rfl ?_ | refine VD.mid rfl rfl rfl ?_); refine OpV.box rfl rfl rfl ?_; intro _; refine w ?_))
      (first | refine VO.gF rfl rfl rfl (by simp) ?_ | refine VD.gF rfl rfl rfl (by simp) ?_)
      (refine w ?_; repeat ((first | refine VO.step rfl rfl ?_ | refine VD.end rfl rfl rfl ?_ | refine VD.mid rfl rfl rfl ?_); refine OpV.box rfl rfl rfl ?_; intro _; refine w ?_))
      (first | refine VO.pure rfl rfl (PureAt.ldR tab_ok rfl rfl hr2 hlg) rfl ?_ | refine VD.take rfl rfl rfl (PureAt.ldR tab_ok rfl rfl hr2 hlg) rfl ?_ | refine VQ.pure rfl rfl (PureAt.ldR tab_ok rfl rfl hr2 hlg) rfl ?_ | refine VD.end rfl rfl rfl (OpV.pure (PureAt.ldR tab_ok rfl rfl hr2 hlg) rfl ?_))
      (refine w ?_; repeat ((first | refine VO.step rfl rfl ?_ | refine VD.end rfl rfl rfl ?_ | refine VD.mid rfl rfl rfl ?_); refine OpV.box rfl rfl rfl ?_; intro _; refine w ?_))
      (first | refine VO.pure rfl rfl (PureAt.ldRc tab_ok rfl rfl hw' hk2) rfl ?_ | refine VD.take rfl rfl rfl (PureAt.ldRc tab_ok rfl rfl hw' hk2) rfl ?_ | refine VQ.pure rfl rfl (PureAt.ldRc tab_ok rfl rfl hw' hk2) rfl ?_ | refine VD.end rfl rfl rfl (OpV.pure (PureAt.ldRc tab_ok rfl rfl hw' hk2) rfl ?_))
      (refine w ?_; repeat ((first | refine VO.step rfl rfl ?_ | refine VD.end rfl rfl rfl ?_ | refine VD.mid rfl rfl rfl ?_); refine OpV.box rfl rfl rfl ?_; intro _; refine w ?_))
      (refine VC.condFe rfl rfl (by simp) ?_)
      (refine w ?_; repeat ((first | refine VO.step rfl rfl ?_ | refine VD.end rfl rfl rfl ?_ | refine VD.mid rfl rfl rfl ?_); refine OpV.box rfl rfl rfl ?_; intro _; refine w ?_))
      exact VE.round (k + 1) hkt (by omega) ⟨rfl, rfl, rfl, rfl, rfl, trivial⟩ Ent.refl
    · (refine w ?_; repeat ((first | refine VO.step rfl rfl ?_ | refine VD.end rfl rfl rfl ?_ | refine VD.mid rfl rfl rfl ?_); refine OpV.box rfl rfl rfl ?_; intro _; refine w ?_))
      refine VC.loop (α := Nat) (fun k => k ≤ 16) (fun _ => HH)
        (fun k => [(0, .slice (some lb) M.length lc), (5, .slice (some gb) Gs.length gc), (9, .int .i64 a), (10, .int .i64 e.n), (12, .int .i64 k)]) (fun k => 16 - k) rfl 0 (Nat.zero_le _) Ent.refl ⟨rfl, rfl, rfl, rfl, rfl, trivial⟩ ?_
      intro k hk
      (refine w ?_; repeat ((first | refine VO.step rfl rfl ?_ | refine VD.end rfl rfl rfl ?_ | refine VD.mid rfl rfl rfl ?_); refine OpV.box rfl rfl rfl ?_; intro _; refine w ?_))
      (refine VC.cond rfl rfl ?_ ?_ <;> intro hc)
      · have hkt : k < 16 := by have := of_decide_eq_true hc; omega
        have hk2 : (e.xs ++ marks2 a 16)[(e.n + k) * 3 + 1]? = some (val ((-1 - (a : Int)) * 1000 + (k : Int))) := by
          rw [List.getElem?_append_right (by omega), hel, show (e.n + k) * 3 + 1 - e.n * 3 = k * 3 + 1 by omega]; exact marks2_get a 16 k hkt
        (refine w ?_; repeat ((first | refine VO.step rfl rfl ?_ | refine VD.end rfl rfl rfl ?_ | refine VD.mid rfl rfl rfl ?_); refine OpV.box rfl rfl rfl ?_; intro _; refine w ?_))
        (first | refine VO.pure rfl rfl (PureAt.ldR tab_ok rfl rfl hr2 hlg) rfl ?_ | refine VD.take rfl rfl rfl (PureAt.ldR tab_ok rfl rfl hr2 hlg) rfl ?_ | refine VQ.pure rfl rfl (PureAt.ldR tab_ok rfl rfl hr2 hlg) rfl ?_ | refine VD.end rfl rfl rfl (OpV.pure (PureAt.ldR tab_ok rfl rfl hr2 hlg) rfl ?_))
        (first | (first | refine VO.nil rfl ?_ | refine VQ.nil rfl ?_ | refine VD.nil ?_ | ((first | apply VO.pure rfl rfl | apply VQ.pure rfl rfl | apply VD.take rfl rfl rfl | (refine VD.end rfl rfl rfl ?_; apply OpV.pure)); (first | (apply PureAt.ar64 rfl rfl rfl; omega) | exact .eval tab_ok rfl | (apply PureAt.ld tab_ok rfl rfl; (focus repeat first | exact .head _ | apply List.Mem.tail); rfl) | (apply PureAt.shr rfl rfl (by decide) (by decide)) | (apply PureAt.shr rfl rfl (by omega) (by simp only [IntKind.bits]; omega)) | exact .fieldAddrA tab_ok rfl rfl | exact .sliceLH tab_ok rfl rfl rfl rfl (by omega) (by omega) | exact .sliceH tab_ok rfl rfl rfl (by omega) | exact .sliceL tab_ok rfl rfl rfl (by omega) | (first | exact .indexAddr tab_ok rfl rfl rfl rfl (by omega) | exact .indexAddrN tab_ok rfl rfl rfl rfl (by omega) | exact .indexAddrI tab_ok rfl rfl rfl rfl (toNatLit _) (by decide) (by omega) | exact .indexAddrNI tab_ok rfl rfl rfl rfl (toNatLit _) (by decide) (by omega) | exact .ldR tab_ok rfl rfl hr1 (List.getElem?_eq_getElem (by omega)) | exact .ldR tab_ok rfl rfl hr2 (List.getElem?_eq_getElem (by omega)) | exact ldB tab_ok rfl rfl hb1 (by omega) | exact ldB tab_ok rfl rfl hb2 (by omega)) | exact .sliceHI tab_ok rfl rfl rfl (toNatLit _) (by decide) (by omega) | exact .sliceLI tab_ok rfl rfl rfl (toNatLit _) (by decide) (by omega) | (apply PureAt.ldA tab_ok rfl rfl; (focus repeat first | exact .head _ | apply List.Mem.tail); rfl; rfl) | exact .ldro tab_ok rfl rfl (by assumption)); rfl) | refine VO.skip rfl rfl rfl rfl ?_ | refine VQ.skip rfl rfl rfl rfl ?_ | refine VD.skip rfl rfl rfl rfl rfl ?_ | refine VD.skipM rfl rfl Ent.refl rfl rfl rfl ?_ | ((first | refine VO.step rfl rfl ?_ | refine VD.end rfl rfl rfl ?_ | refine VD.mid rfl rfl rfl ?_); (first | (apply OpV.st tab_ok rfl rfl rfl rfl (by (repeat first | exact .head | apply Hole.tail); first | done | fail) (by first | (simp; done) | fail)) | (refine OpV.box rfl rfl rfl ?_; intro _))) | refine ⟨Ent.re, ?_⟩) | (first | refine VC.seq rfl ?_ | refine VC.region rfl ?_ | refine VC.condT rfl rfl ?_ | refine VC.condF rfl rfl ?_ | refine VC.block rfl ?_ | refine VC.skip rfl ?_ | refine VC.ret rfl ?_ | refine VC.exit rfl ?_ | refine VC.scope rfl ?_ | refine VC.label rfl ?_) | (first | refine VE.next ?_ | refine VE.passRet ?_ | refine VE.passExit ?_ | refine VE.blockNormal ?_ | refine VE.blockHit ?_ | refine VE.blockMiss rfl ?_ | refine VE.blockRet ?_ | refine VE.loopRet ?_ | refine VE.loopExit ?_ | refine VE.scopeNormal ?_ | refine VE.scopeRet ?_ | refine VE.scopeExit ?_))
        (first | (first | refine VO.nil rfl ?_ | refine VQ.nil rfl ?_ | refine VD.nil ?_ | ((first | apply VO.pure rfl rfl | apply VQ.pure rfl rfl | apply VD.take rfl rfl rfl | (refine VD.end rfl rfl rfl ?_; apply OpV.pure)); (first | (apply PureAt.ar64 rfl rfl rfl; omega) | exact .eval tab_ok rfl | (apply PureAt.ld tab_ok rfl rfl; (focus repeat first | exact .head _ | apply List.Mem.tail); rfl) | (apply PureAt.shr rfl rfl (by decide) (by decide)) | (apply PureAt.shr rfl rfl (by omega) (by simp only [IntKind.bits]; omega)) | exact .fieldAddrA tab_ok rfl rfl | exact .sliceLH tab_ok rfl rfl rfl rfl (by omega) (by omega) | exact .sliceH tab_ok rfl rfl rfl (by omega) | exact .sliceL tab_ok rfl rfl rfl (by omega) | (first | exact .indexAddr tab_ok rfl rfl rfl rfl (by omega) | exact .indexAddrN tab_ok rfl rfl rfl rfl (by omega) | exact .indexAddrI tab_ok rfl rfl rfl rfl (toNatLit _) (by decide) (by omega) | exact .indexAddrNI tab_ok rfl rfl rfl rfl (toNatLit _) (by decide) (by omega) | exact .ldR tab_ok rfl rfl hr1 (List.getElem?_eq_getElem (by omega)) | exact .ldR tab_ok rfl rfl hr2 (List.getElem?_eq_getElem (by omega)) | exact ldB tab_ok rfl rfl hb1 (by omega) | exact ldB tab_ok rfl rfl hb2 (by omega)) | exact .sliceHI tab_ok rfl rfl rfl (toNatLit _) (by decide) (by omega) | exact .sliceLI tab_ok rfl rfl rfl (toNatLit _) (by decide) (by omega) | (apply PureAt.ldA tab_ok rfl rfl; (focus repeat first | exact .head _ | apply List.Mem.tail); rfl; rfl) | exact .ldro tab_ok rfl rfl (by assumption)); rfl) | refine VO.skip rfl rfl rfl rfl ?_ | refine VQ.skip rfl rfl rfl rfl ?_ | refine VD.skip rfl rfl rfl rfl rfl ?_ | refine VD.skipM rfl rfl Ent.refl rfl rfl rfl ?_ | ((first | refine VO.step rfl rfl ?_ | refine VD.end rfl rfl rfl ?_ | refine VD.mid rfl rfl rfl ?_); (first | (apply OpV.st tab_ok rfl rfl rfl rfl (by (repeat first | exact .head | apply Hole.tail); first | done | fail) (by first | (simp; done) | fail)) | (refine OpV.box rfl rfl rfl ?_; intro _))) | refine ⟨Ent.re, ?_⟩) | (first | refine VC.seq rfl ?_ | refine VC.region rfl ?_ | refine VC.condT rfl rfl ?_ | refine VC.condF rfl rfl ?_ | refine VC.block rfl ?_ | refine VC.skip rfl ?_ | refine VC.ret rfl ?_ | refine VC.exit rfl ?_ | refine VC.scope rfl ?_ | refine VC.label rfl ?_) | (first | refine VE.next ?_ | refine VE.passRet ?_ | refine VE.passExit ?_ | refine VE.blockNormal ?_ | refine VE.blockHit ?_ | refine VE.blockMiss rfl ?_ | refine VE.blockRet ?_ | refine VE.loopRet ?_ | refine VE.loopExit ?_ | refine VE.scopeNormal ?_ | refine VE.scopeRet ?_ | refine VE.scopeExit ?_))
        (first | (first | refine VO.nil rfl ?_ | refine VQ.nil rfl ?_ | refine VD.nil ?_ | ((first | apply VO.pure rfl rfl | apply VQ.pure rfl rfl | apply VD.take rfl rfl rfl | (refine VD.end rfl rfl rfl ?_; apply OpV.pure)); (first | (apply PureAt.ar64 rfl rfl rfl; omega) | exact .eval tab_ok rfl | (apply PureAt.ld tab_ok rfl rfl; (focus repeat first | exact .head _ | apply List.Mem.tail); rfl) | (apply PureAt.shr rfl rfl (by decide) (by decide)) | (apply PureAt.shr rfl rfl (by omega) (by simp only [IntKind.bits]; omega)) | exact .fieldAddrA tab_ok rfl rfl | exact .sliceLH tab_ok rfl rfl rfl rfl (by omega) (by omega) | exact .sliceH tab_ok rfl rfl rfl (by omega) | exact .sliceL tab_ok rfl rfl rfl (by omega) | (first | exact .indexAddr tab_ok rfl rfl rfl rfl (by omega) | exact .indexAddrN tab_ok rfl rfl rfl rfl (by omega) | exact .indexAddrI tab_ok rfl rfl rfl rfl (toNatLit _) (by decide) (by omega) | exact .indexAddrNI tab_ok rfl rfl rfl rfl (toNatLit _) (by decide) (by omega) | exact .ldR tab_ok rfl rfl hr1 (List.getElem?_eq_getElem (by omega)) | exact .ldR tab_ok rfl rfl hr2 (List.getElem?_eq_getElem (by omega)) | exact ldB tab_ok rfl rfl hb1 (by omega) | exact ldB tab_ok rfl rfl hb2 (by omega)) | exact .sliceHI tab_ok rfl rfl rfl (toNatLit _) (by decide) (by omega) | exact .sliceLI tab_ok rfl rfl rfl (toNatLit _) (by decide) (by omega) | (apply PureAt.ldA tab_ok rfl rfl; (focus repeat first | exact .head _ | apply List.Mem.tail); rfl; rfl) | exact .ldro tab_ok rfl rfl (by assumption)); rfl) | refine VO.skip rfl rfl rfl rfl ?_ | refine VQ.skip rfl rfl rfl rfl ?_ | refine VD.skip rfl rfl rfl rfl rfl ?_ | refine VD.skipM rfl rfl Ent.refl rfl rfl rfl ?_ | ((first | refine VO.step rfl rfl ?_ | refine VD.end rfl rfl rfl ?_ | refine VD.mid rfl rfl rfl ?_); (first | (apply OpV.st tab_ok rfl rfl rfl rfl (by (repeat first | exact .head | apply Hole.tail); first | done | fail) (by first | (simp; done) | fail)) | (refine OpV.box rfl rfl rfl ?_; intro _))) | refine ⟨Ent.re, ?_⟩) | (first | refine VC.seq rfl ?_ | refine VC.region rfl ?_ | refine VC.condT rfl rfl ?_ | refine VC.condF rfl rfl ?_ | refine VC.block rfl ?_ | refine VC.skip rfl ?_ | refine VC.ret rfl ?_ | refine VC.exit rfl ?_ | refine VC.scope rfl ?_ | refine VC.label rfl ?_) | (first | refine VE.next ?_ | refine VE.passRet ?_ | refine VE.passExit ?_ | refine VE.blockNormal ?_ | refine VE.blockHit ?_ | refine VE.blockMiss rfl ?_ | refine VE.blockRet ?_ | refine VE.loopRet ?_ | refine VE.loopExit ?_ | refine VE.scopeNormal ?_ | refine VE.scopeRet ?_ | refine VE.scopeExit ?_))
        refine VO.re 120 (.int .i64 ((e.n + k : Nat) : Int)) rfl (by congr 1) ?_
        (refine w ?_; repeat ((first | refine VO.step rfl rfl ?_ | refine VD.end rfl rfl rfl ?_ | refine VD.mid rfl rfl rfl ?_); refine OpV.box rfl rfl rfl ?_; intro _; refine w ?_))
        (first | refine VO.pure rfl rfl (PureAt.ldRc tab_ok rfl rfl hw' hk2) rfl ?_ | refine VD.take rfl rfl rfl (PureAt.ldRc tab_ok rfl rfl hw' hk2) rfl ?_ | refine VQ.pure rfl rfl (PureAt.ldRc tab_ok rfl rfl hw' hk2) rfl ?_ | refine VD.end rfl rfl rfl (OpV.pure (PureAt.ldRc tab_ok rfl rfl hw' hk2) rfl ?_))
        (refine w ?_; repeat ((first | refine VO.step rfl rfl ?_ | refine VD.end rfl rfl rfl ?_ | refine VD.mid rfl rfl rfl ?_); refine OpV.box rfl rfl rfl ?_; intro _; refine w ?_))
        (refine VC.condFe rfl rfl (by simp) ?_)
        (refine w ?_; repeat ((first | refine VO.step rfl rfl ?_ | refine VD.end rfl rfl rfl ?_ | refine VD.mid rfl rfl rfl ?_); refine OpV.box rfl rfl rfl ?_; intro _; refine w ?_))
        exact VE.round (k + 1) hkt (by omega) ⟨rfl, rfl, rfl, rfl, rfl, trivial⟩ Ent.refl
      · (refine w ?_; repeat ((first | refine VO.step rfl rfl ?_ | refine VD.end rfl rfl rfl ?_ | refine VD.mid rfl rfl rfl ?_); refine OpV.box rfl rfl rfl ?_; intro _; refine w ?_))
        exact VE.round (a + 1) hlt (by omega) ⟨rfl, rfl, rfl, trivial⟩ Ent.refl
  · (refine w ?_; repeat ((first | refine VO.step rfl rfl ?_ | refine VD.end rfl rfl rfl ?_ | refine VD.mid rfl rfl rfl ?_); refine OpV.box rfl rfl rfl ?_; intro _; refine w ?_))
    (refine VE.done1 rfl ?_ ?_)
    · rfl
    · exact hend
end Pt
end Go.Proofs.YtpmmkmcbimnigaaGreat

/-! Text Qc. -/
/- The document's book: lists of batches that are its owner's own. Written by gen_own.py. -/
set_option maxRecDepth 8000
set_option linter.unusedVariables false
set_option linter.unusedSimpArgs false
set_option linter.unusedSectionVars false
namespace Go.Proofs.YtpmmkmcbimnigaaGreat
open Go.RowKit Go.Sl
attribute [local irreducible] Own
namespace Tx

def mk (z : Int) : List Value := [.int .u64 (IntKind.u64.wrap z), .slice none 0 0]
abbrev val (z : Int) : Value := .int .u64 (IntKind.u64.wrap z)
def marks (a m : Nat) : List Value := (List.range m).flatMap fun (k : Nat) => mk ((a : Int) * 1000 + (k : Int) + 7000000)
def marks2 (a m : Nat) : List Value := (List.range m).flatMap fun (k : Nat) => mk ((-1 - (a : Int)) * 1000 + (k : Int) + 7000000)
theorem marks_length (a m : Nat) : (marks a m).length = m * 2 := by
  have := flat_length (w := 2) (g := fun (k : Nat) => mk ((a : Int) * 1000 + (k : Int) + 7000000)) (List.range m) (fun _ _ => rfl); rwa [List.length_range] at this
theorem marks2_length (a m : Nat) : (marks2 a m).length = m * 2 := by
  have := flat_length (w := 2) (g := fun (k : Nat) => mk ((-1 - (a : Int)) * 1000 + (k : Int) + 7000000)) (List.range m) (fun _ _ => rfl); rwa [List.length_range] at this
theorem marks_succ (a m : Nat) : marks a (m + 1) = marks a m ++ mk ((a : Int) * 1000 + (m : Int) + 7000000) := by unfold marks; rw [List.range_succ, List.flatMap_append]; simp
theorem marks2_succ (a m : Nat) : marks2 a (m + 1) = marks2 a m ++ mk ((-1 - (a : Int)) * 1000 + (m : Int) + 7000000) := by unfold marks2; rw [List.range_succ, List.flatMap_append]; simp
theorem mk_one (z : Int) : ∀ u ∈ mk z, u.oneCell' = true := by simp [mk, Value.oneCell']
theorem marks_one (a m : Nat) : ∀ u ∈ marks a m, u.oneCell' = true := by
  intro u hu; obtain ⟨k, _, h⟩ := List.mem_flatMap.1 hu; exact mk_one _ u h
theorem marks2_one (a m : Nat) : ∀ u ∈ marks2 a m, u.oneCell' = true := by
  intro u hu; obtain ⟨k, _, h⟩ := List.mem_flatMap.1 hu; exact mk_one _ u h
theorem marks_get (a m k : Nat) (h : k < m) : (marks a m)[k * 2 + 0]? = some (val ((a : Int) * 1000 + (k : Int) + 7000000)) := by
  have := flat_at (w := 2) (g := fun (k : Nat) => mk ((a : Int) * 1000 + (k : Int) + 7000000)) (List.range m) k 0 (by rw [List.length_range]; exact h) (fun _ _ => rfl) (by decide)
  rw [List.getElem_range] at this
  exact this
theorem marks2_get (a m k : Nat) (h : k < m) : (marks2 a m)[k * 2 + 0]? = some (val ((-1 - (a : Int)) * 1000 + (k : Int) + 7000000)) := by
  have := flat_at (w := 2) (g := fun (k : Nat) => mk ((-1 - (a : Int)) * 1000 + (k : Int) + 7000000)) (List.range m) k 0 (by rw [List.length_range]; exact h) (fun _ _ => rfl) (by decide)
  rw [List.getElem_range] at this
  exact this
def res (e : ListN) : SProp := Own 181 2 (.slice e.ao e.n e.cap) e.n e.xs
/-- The lists, the first so many of them marked. -/
def mkd (E : List ListN) (a : Nat) : List ListN := E.mapIdx fun j e => if j < a then ⟨e.ao, e.cap, e.n, marks j e.n⟩ else e
theorem mkd_length (E : List ListN) (a : Nat) : (mkd E a).length = E.length := by simp [mkd]
theorem mkd_get (E : List ListN) (a j : Nat) (h : j < E.length) : (mkd E a)[j]'(by rw [mkd_length]; exact h) = if j < a then ⟨E[j].ao, E[j].cap, E[j].n, marks j E[j].n⟩ else E[j] := by simp [mkd]
theorem mkd_zero (E : List ListN) : mkd E 0 = E := by
  unfold mkd; apply List.ext_getElem (by simp); intro i h1 h2; simp
theorem mkd_set (E : List ListN) (a : Nat) (h : a < E.length) : (mkd E a).set a ⟨E[a].ao, E[a].cap, E[a].n, marks a E[a].n⟩ = mkd E (a + 1) := by
  apply List.ext_getElem (by simp [mkd_length])
  intro j h1 h2
  have hj : j < E.length := by simpa [mkd_length] using h2
  rw [List.getElem_set, mkd_get E (a + 1) j hj]
  split
  · rename_i q; subst q; rw [if_pos (Nat.lt_succ_self _)]
  · rename_i q
    rw [mkd_get E a j hj]
    by_cases q2 : j < a
    · rw [if_pos q2, if_pos (by omega)]
    · rw [if_neg q2, if_neg (by omega)]
/-- The lists, the first of them with what has grown out of them. -/
def twin (j : Nat) (e : ListN) (g : Option Addr × Nat) (m : Nat) : SProp := TwinR 181 2 e.ao e.cap e.n e.xs g.1 g.2 (e.n + m) (e.xs ++ marks2 j m)
def grs (M : List ListN) (Gs : List (Option Addr × Nat)) : List SProp := M.mapIdx fun j e => match Gs[j]? with
  | some g => twin j e g 16
  | none => res e
theorem grs_length (M : List ListN) (Gs : List (Option Addr × Nat)) : (grs M Gs).length = M.length := by simp [grs]
theorem grs_nil (M : List ListN) : grs M [] = M.map res := by
  unfold grs; apply List.ext_getElem (by simp); intro i h1 h2; simp
theorem grs_get (M : List ListN) (Gs : List (Option Addr × Nat)) (j : Nat) (h : j < M.length) : (grs M Gs)[j]'(by rw [grs_length]; exact h) = match Gs[j]? with
  | some g => twin j M[j] g 16
  | none => res M[j] := by simp [grs]
theorem grs_set (M : List ListN) (Gs : List (Option Addr × Nat)) (g : Option Addr × Nat) (h : Gs.length < M.length) : (grs M Gs).set Gs.length (twin Gs.length M[Gs.length] g 16) = grs M (Gs ++ [g]) := by
  apply List.ext_getElem (by simp [grs_length])
  intro j h1 h2
  have hj : j < M.length := by simpa [grs_length] using h2
  rw [List.getElem_set, grs_get M (Gs ++ [g]) j hj]
  split
  · rename_i q; subst q; rw [List.getElem?_append_right (Nat.le_refl _)]; simp
  · rename_i q
    rw [grs_get M Gs j hj]
    by_cases q2 : j < Gs.length
    · rw [List.getElem?_append_left q2]
    · rw [List.getElem?_eq_none (by omega), List.getElem?_eq_none (by simp; omega)]
def longH (M : List ListN) (Gs : List (Option Addr × Nat)) : List Value := Gs.mapIdx fun j g => .slice g.1 (((M[j]?).map fun e => e.n).getD 0 + 16) g.2
theorem longH_length (M : List ListN) (Gs : List (Option Addr × Nat)) : (longH M Gs).length = Gs.length := by simp [longH]
theorem longH_snoc (M : List ListN) (Gs : List (Option Addr × Nat)) (g : Option Addr × Nat) (h : Gs.length < M.length) : longH M (Gs ++ [g]) = longH M Gs ++ [.slice g.1 (M[Gs.length].n + 16) g.2] := by
  unfold longH
  rw [List.mapIdx_append]
  congr 1
  simp [List.getElem?_eq_getElem h]
theorem longH_one (M : List ListN) (Gs : List (Option Addr × Nat)) : ∀ u ∈ longH M Gs, u.oneCell' = true := by
  intro u hu
  obtain ⟨j, hj, rfl⟩ := List.mem_iff_getElem.1 hu
  simp [longH, Value.oneCell']
set_option maxHeartbeats 8000000 in
theorem own_ok {W : World} {R : List SProp} {lo : Option Addr} {lc : Nat} {E : List ListN} (hn : E.length ≤ 1000000000) (hl : ∀ e ∈ E, e.n ≤ 1000000000) :
    Does1 W Tryz.prog 84 [.slice lo E.length lc] (Own 179 1 (.slice lo E.length lc) E.length (E.map ListN.hdr) :: (E.map res ++ R)) (.bool true) R := by
  (refine Does.enter Tryz.func84 Tryz.ntmps84 rfl rfl ?_)
  refine VC.know (p := lo = none → E.length = 0) (fun w hw => hw.ownNone (.head _)) ?_
  intro hln
  (refine w ?_; repeat ((first | refine VO.step rfl rfl ?_ | refine VD.end rfl rfl rfl ?_ | refine VD.mid rfl rfl rfl ?_); refine OpV.box rfl rfl rfl ?_; intro _; refine w ?_))
  refine VC.loop (α := Nat) (fun a => a ≤ E.length) (fun a => Own 179 1 (.slice lo E.length lc) E.length (E.map ListN.hdr) :: ((mkd E a).map res ++ R)) (fun a => [(0, .slice lo E.length lc), (3, .int .i64 a)]) (fun a => E.length - a) rfl 0 (Nat.zero_le _) (by rw [mkd_zero]; exact Ent.refl) ⟨rfl, rfl, trivial⟩ ?_
  intro a ha
  (refine w ?_; repeat ((first | refine VO.step rfl rfl ?_ | refine VD.end rfl rfl rfl ?_ | refine VD.mid rfl rfl rfl ?_); refine OpV.box rfl rfl rfl ?_; intro _; refine w ?_))
  (refine VC.cond rfl rfl ?_ ?_ <;> intro hc)
  · have hlt : a < E.length := by have := of_decide_eq_true hc; omega
    obtain ⟨lb, rfl⟩ : ∃ lb, lo = some lb := by cases lo with | none => have := hln rfl; omega | some lb => exact ⟨lb, rfl⟩
    have hla := hl _ (List.getElem_mem hlt)
    have hget : (E.map ListN.hdr)[a]? = some (.slice E[a].ao E[a].n E[a].cap) := by rw [List.getElem?_map, List.getElem?_eq_getElem hlt]; rfl
    have hmlen : ((mkd E a).map res).length = E.length := by rw [List.length_map, mkd_length]
    have hself : (mkd E a).map res = ((mkd E a).map res).set a (Own 181 2 (.slice E[a].ao E[a].n E[a].cap) E[a].n (marks a 0 ++ E[a].xs.drop (0 * 2))) := by
      have e1 : ((mkd E a).map res)[a]'(by rw [hmlen]; exact hlt) = Own 181 2 (.slice E[a].ao E[a].n E[a].cap) E[a].n (marks a 0 ++ E[a].xs.drop (0 * 2)) := by
        rw [List.getElem_map, mkd_get E a a hlt, if_neg (Nat.lt_irrefl _)]; rfl
      rw [← e1, List.set_getElem_self]
    have hnext : ((mkd E a).map res).set a (Own 181 2 (.slice E[a].ao E[a].n E[a].cap) E[a].n (marks a E[a].n)) = (mkd E (a + 1)).map res := by
      rw [← mkd_set E a hlt, List.map_set]; rfl
    generalize hL : (mkd E a).map res = L at *
    (refine w ?_; repeat ((first | refine VO.step rfl rfl ?_ | refine VD.end rfl rfl rfl ?_ | refine VD.mid rfl rfl rfl ?_); refine OpV.box rfl rfl rfl ?_; intro _; refine w ?_))
    refine VC.loop (α := Nat) (fun k => k ≤ E[a].n) (fun k => Own 179 1 (.slice (some lb) E.length lc) E.length (E.map ListN.hdr) :: (L.set a (Own 181 2 (.slice E[a].ao E[a].n E[a].cap) E[a].n (marks a k ++ E[a].xs.drop (k * 2))) ++ R))
      (fun k => [(0, .slice (some lb) E.length lc), (3, .int .i64 a), (4, .int .i64 k)]) (fun k => E[a].n - k) rfl 0 (Nat.zero_le _) (by rw [← hself]; exact Ent.refl) ⟨rfl, rfl, rfl, trivial⟩ ?_
    intro k hk
    refine VC.know (p := E[a].ao = none → E[a].n = 0) (fun w hw => Holds.ownNone hw (.tail _ (mem_set L a _ (by omega)))) ?_
    intro han
    refine VC.know (fun w hw => Holds.ownLen hw (.tail _ (mem_set L a _ (by omega)))) ?_
    intro hlen
    (refine w ?_; repeat ((first | refine VO.step rfl rfl ?_ | refine VD.end rfl rfl rfl ?_ | refine VD.mid rfl rfl rfl ?_); refine OpV.box rfl rfl rfl ?_; intro _; refine w ?_))
    (first | refine VO.pure rfl rfl (PureAt.ldR tab_ok rfl rfl (Rds.own (ListN.hdrs_one E) (.head _) (by rw [List.length_map, Nat.mul_one]) (fun h => by cases h)) hget) rfl ?_ | refine VD.take rfl rfl rfl (PureAt.ldR tab_ok rfl rfl (Rds.own (ListN.hdrs_one E) (.head _) (by rw [List.length_map, Nat.mul_one]) (fun h => by cases h)) hget) rfl ?_ | refine VQ.pure rfl rfl (PureAt.ldR tab_ok rfl rfl (Rds.own (ListN.hdrs_one E) (.head _) (by rw [List.length_map, Nat.mul_one]) (fun h => by cases h)) hget) rfl ?_ | refine VD.end rfl rfl rfl (OpV.pure (PureAt.ldR tab_ok rfl rfl (Rds.own (ListN.hdrs_one E) (.head _) (by rw [List.length_map, Nat.mul_one]) (fun h => by cases h)) hget) rfl ?_))
    (refine w ?_; repeat ((first | refine VO.step rfl rfl ?_ | refine VD.end rfl rfl rfl ?_ | refine VD.mid rfl rfl rfl ?_); refine OpV.box rfl rfl rfl ?_; intro _; refine w ?_))
    (refine VC.cond rfl rfl ?_ ?_ <;> intro hc)
    · have hkt : k < E[a].n := by have := of_decide_eq_true hc; omega
      obtain ⟨xa, hxa⟩ : ∃ xa, E[a].ao = some xa := by cases h : E[a].ao with | none => have := han h; omega | some xa => exact ⟨xa, rfl⟩
      rw [hxa] at hget ⊢
      (refine w ?_; repeat ((first | refine VO.step rfl rfl ?_ | refine VD.end rfl rfl rfl ?_ | refine VD.mid rfl rfl rfl ?_); refine OpV.box rfl rfl rfl ?_; intro _; refine w ?_))
      (first | refine VO.pure rfl rfl (PureAt.ldR tab_ok rfl rfl (Rds.own (ListN.hdrs_one E) (.head _) (by rw [List.length_map, Nat.mul_one]) (fun h => by cases h)) hget) rfl ?_ | refine VD.take rfl rfl rfl (PureAt.ldR tab_ok rfl rfl (Rds.own (ListN.hdrs_one E) (.head _) (by rw [List.length_map, Nat.mul_one]) (fun h => by cases h)) hget) rfl ?_ | refine VQ.pure rfl rfl (PureAt.ldR tab_ok rfl rfl (Rds.own (ListN.hdrs_one E) (.head _) (by rw [List.length_map, Nat.mul_one]) (fun h => by cases h)) hget) rfl ?_ | refine VD.end rfl rfl rfl (OpV.pure (PureAt.ldR tab_ok rfl rfl (Rds.own (ListN.hdrs_one E) (.head _) (by rw [List.length_map, Nat.mul_one]) (fun h => by cases h)) hget) rfl ?_))
      (refine w ?_; repeat ((first | refine VO.step rfl rfl ?_ | refine VD.end rfl rfl rfl ?_ | refine VD.mid rfl rfl rfl ?_); refine OpV.box rfl rfl rfl ?_; intro _; refine w ?_))
      (apply VO.pure rfl rfl; apply PureAt.build sb_181 rfl; (simp [buildX, setL, Value.cells]; rfl); rfl)
      (refine w ?_; repeat ((first | refine VO.step rfl rfl ?_ | refine VD.end rfl rfl rfl ?_ | refine VD.mid rfl rfl rfl ?_); refine OpV.box rfl rfl rfl ?_; intro _; refine w ?_))
      (first | refine VO.step rfl rfl ?_ | refine VD.end rfl rfl rfl ?_ | refine VD.mid rfl rfl rfl ?_)
      refine OpV.stOA (vs := mk ((a : Int) * 1000 + (k : Int) + 7000000)) tab_ok rfl rfl rfl rfl (mk_one _) (.tail (hole_set L a _ (by omega))) (by rw [hlen]; omega) ?_
      have hset : (marks a k ++ E[a].xs.drop (k * 2)).take (k * 2) ++ mk ((a : Int) * 1000 + (k : Int) + 7000000) ++ (marks a k ++ E[a].xs.drop (k * 2)).drop (k * 2 + 2) = marks a (k + 1) ++ E[a].xs.drop ((k + 1) * 2) := by
        rw [List.take_left' (marks_length a k), marks_succ, List.drop_append, marks_length, List.drop_of_length_le (by rw [marks_length]; omega), List.nil_append, List.drop_drop]
        congr 2
        omega
      rw [hset]
      (refine w ?_; repeat ((first | refine VO.step rfl rfl ?_ | refine VD.end rfl rfl rfl ?_ | refine VD.mid rfl rfl rfl ?_); refine OpV.box rfl rfl rfl ?_; intro _; refine w ?_))
      exact VE.round (k + 1) hkt (by omega) ⟨rfl, rfl, rfl, trivial⟩ Ent.refl
    · have hge : k = E[a].n := by have := of_decide_eq_false hc; omega
      rw [List.length_append, marks_length] at hlen
      have hz : E[a].xs.drop (k * 2) = [] := List.eq_nil_of_length_eq_zero (by rw [hge] at hlen ⊢; omega)
      rw [hz, List.append_nil, hge, hnext]
      (refine w ?_; repeat ((first | refine VO.step rfl rfl ?_ | refine VD.end rfl rfl rfl ?_ | refine VD.mid rfl rfl rfl ?_); refine OpV.box rfl rfl rfl ?_; intro _; refine w ?_))
      exact VE.round (a + 1) hlt (by omega) ⟨rfl, rfl, trivial⟩ Ent.refl
  have hge : a = E.length := by have := of_decide_eq_false hc; omega
  subst hge
  clear hc ha
  -- every list is marked
  obtain ⟨M, hM⟩ : ∃ M, M = mkd E E.length := ⟨_, rfl⟩
  have hML : M.length = E.length := by rw [hM]; exact mkd_length _ _
  have hMg : ∀ j (h : j < M.length), M[j] = ⟨(E[j]'(by omega)).ao, (E[j]'(by omega)).cap, (E[j]'(by omega)).n, marks j (E[j]'(by omega)).n⟩ := fun j h => by
    subst hM; rw [mkd_get E _ j (by omega), if_pos (by omega)]
  have hMh : E.map ListN.hdr = M.map ListN.hdr := by
    apply List.ext_getElem (by simp [hML])
    intro j h1 h2
    have hj : j < M.length := by simpa using h2
    rw [List.getElem_map, List.getElem_map, hMg j hj]
  have hMl : ∀ j (h : j < M.length), M[j].n ≤ 1000000000 ∧ M[j].xs = marks j M[j].n := fun j h => by
    rw [hMg j h]; exact ⟨hl (E[j]'(by omega)) (List.getElem_mem _), rfl⟩
  (refine w ?_; repeat ((first | refine VO.step rfl rfl ?_ | refine VD.end rfl rfl rfl ?_ | refine VD.mid rfl rfl rfl ?_); refine OpV.box rfl rfl rfl ?_; intro _; refine w ?_))
  rw [← hM, hMh, ← hML]
  rw [← hML] at hln hn
  clear hMh hMg hl hML hM E
  refine VC.ent (H' := Own 179 1 (.slice none 0 0) 0 (longH M []) :: Own 179 1 (.slice lo M.length lc) M.length (M.map ListN.hdr) :: (grs M [] ++ R)) (fun w hw => by rw [grs_nil]; exact hw.ownNil _ _) ?_
  refine VC.loop (α := List (Option Addr × Nat) × Option Addr × Nat) (fun g => g.1.length ≤ M.length)
    (fun g => Own 179 1 (.slice g.2.1 g.1.length g.2.2) g.1.length (longH M g.1) :: Own 179 1 (.slice lo M.length lc) M.length (M.map ListN.hdr) :: (grs M g.1 ++ R))
    (fun g => [(0, .slice lo M.length lc), (5, .slice g.2.1 g.1.length g.2.2), (6, .int .i64 g.1.length)]) (fun g => M.length - g.1.length) rfl ([], none, 0) (Nat.zero_le _) Ent.refl ⟨rfl, rfl, rfl, trivial⟩ ?_
  rintro ⟨Gs, go, gc⟩ ha
  dsimp only at ha ⊢
  (refine w ?_; repeat ((first | refine VO.step rfl rfl ?_ | refine VD.end rfl rfl rfl ?_ | refine VD.mid rfl rfl rfl ?_); refine OpV.box rfl rfl rfl ?_; intro _; refine w ?_))
  (refine VC.cond rfl rfl ?_ ?_ <;> intro hc)
  · have hlt : Gs.length < M.length := by have := of_decide_eq_true hc; omega
    obtain ⟨lb, rfl⟩ : ∃ lb, lo = some lb := by cases lo with | none => have := hln rfl; omega | some lb => exact ⟨lb, rfl⟩
    obtain ⟨hla, hxs⟩ := hMl Gs.length hlt
    have hget : (M.map ListN.hdr)[Gs.length]? = some (.slice M[Gs.length].ao M[Gs.length].n M[Gs.length].cap) := by rw [List.getElem?_map, List.getElem?_eq_getElem hlt]; rfl
    have hself : grs M Gs = (grs M Gs).set Gs.length (res M[Gs.length]) := by
      have e1 : (grs M Gs)[Gs.length]'(by rw [grs_length]; exact hlt) = res M[Gs.length] := by
        rw [grs_get M Gs _ hlt, List.getElem?_eq_none (Nat.le_refl _)]
      rw [← e1, List.set_getElem_self]
    have hnext (g : Option Addr × Nat) := grs_set M Gs g hlt
    have hlnext (g : Option Addr × Nat) := longH_snoc M Gs g hlt
    have hgl := grs_length M Gs
    generalize hL : grs M Gs = L at *
    (refine w ?_; repeat ((first | refine VO.step rfl rfl ?_ | refine VD.end rfl rfl rfl ?_ | refine VD.mid rfl rfl rfl ?_); refine OpV.box rfl rfl rfl ?_; intro _; refine w ?_))
    (first | refine VO.pure rfl rfl (PureAt.ldR tab_ok rfl rfl (Rds.own (ListN.hdrs_one M) (.tail _ (.head _)) (by rw [List.length_map, Nat.mul_one]) (fun h => by cases h)) hget) rfl ?_ | refine VD.take rfl rfl rfl (PureAt.ldR tab_ok rfl rfl (Rds.own (ListN.hdrs_one M) (.tail _ (.head _)) (by rw [List.length_map, Nat.mul_one]) (fun h => by cases h)) hget) rfl ?_ | refine VQ.pure rfl rfl (PureAt.ldR tab_ok rfl rfl (Rds.own (ListN.hdrs_one M) (.tail _ (.head _)) (by rw [List.length_map, Nat.mul_one]) (fun h => by cases h)) hget) rfl ?_ | refine VD.end rfl rfl rfl (OpV.pure (PureAt.ldR tab_ok rfl rfl (Rds.own (ListN.hdrs_one M) (.tail _ (.head _)) (by rw [List.length_map, Nat.mul_one]) (fun h => by cases h)) hget) rfl ?_))
    (refine w ?_; repeat ((first | refine VO.step rfl rfl ?_ | refine VD.end rfl rfl rfl ?_ | refine VD.mid rfl rfl rfl ?_); refine OpV.box rfl rfl rfl ?_; intro _; refine w ?_))
    refine VC.loop (α := Nat × Option Addr × Nat) (fun g => g.1 ≤ 16)
      (fun g => Own 179 1 (.slice go Gs.length gc) Gs.length (longH M Gs) :: Own 179 1 (.slice (some lb) M.length lc) M.length (M.map ListN.hdr) :: (L.set Gs.length (twin Gs.length M[Gs.length] g.2 g.1) ++ R))
      (fun g => [(0, .slice (some lb) M.length lc), (5, .slice go Gs.length gc), (6, .int .i64 Gs.length), (7, .slice g.2.1 (M[Gs.length].n + g.1) g.2.2), (8, .int .i64 g.1)]) (fun g => 16 - g.1) rfl (0, M[Gs.length].ao, M[Gs.length].cap) (Nat.zero_le _)
      (by
        rw [hself, List.set_set]
        refine Ent.hole (Hole.tail (Hole.tail (hole_set L Gs.length _ (by omega)))) (fun R w hw => ?_)
        have := TwinR.start hw
        simpa [twin, marks2] using this) ⟨rfl, rfl, rfl, rfl, rfl, trivial⟩ ?_
    rintro ⟨k, xo, xc⟩ hk
    dsimp only at hk ⊢
    (refine w ?_; repeat ((first | refine VO.step rfl rfl ?_ | refine VD.end rfl rfl rfl ?_ | refine VD.mid rfl rfl rfl ?_); refine OpV.box rfl rfl rfl ?_; intro _; refine w ?_))
    (refine VC.cond rfl rfl ?_ ?_ <;> intro hc)
    · have hkt : k < 16 := by have := of_decide_eq_true hc; omega
      (refine w ?_; repeat ((first | refine VO.step rfl rfl ?_ | refine VD.end rfl rfl rfl ?_ | refine VD.mid rfl rfl rfl ?_); refine OpV.box rfl rfl rfl ?_; intro _; refine w ?_))
      (apply VO.pure rfl rfl; apply PureAt.build sb_181 rfl; (simp [buildX, setL, Value.cells]; rfl); rfl)
      (first | refine VO.step rfl rfl ?_ | refine VD.end rfl rfl rfl ?_ | refine VD.mid rfl rfl rfl ?_)
      refine OpV.buildSlice (cs := mk ((-1 - (Gs.length : Int)) * 1000 + (k : Int) + 7000000)) st_179 rfl rfl (by simp [Value.cells]) (by simp [Value.cells, mk]) (by decide) rfl ?_
      intro nb
      (first | refine VO.step rfl rfl ?_ | refine VD.end rfl rfl rfl ?_ | refine VD.mid rfl rfl rfl ?_)
      refine OpV.appendT (news := mk ((-1 - (Gs.length : Int)) * 1000 + (k : Int) + 7000000)) (m := 1) st_179 rfl rfl (.tail (.tail (.tail (hole_set L Gs.length _ (by omega))))) (fun w hw => (Sees.row (ys := []) (mk_one _) rfl (by simpa using hw) (.head _)).src st_179.und) ?_ ?_ rfl ?_
      · simp only [maxLen]; omega
      · omega
      intro xo' xc'
      (refine w ?_; repeat ((first | refine VO.step rfl rfl ?_ | refine VD.end rfl rfl rfl ?_ | refine VD.mid rfl rfl rfl ?_); refine OpV.box rfl rfl rfl ?_; intro _; refine w ?_))
      refine VE.round (k + 1, xo', xc') hkt (by simp only; omega) ⟨rfl, rfl, rfl, rfl, rfl, trivial⟩ ?_
      unfold twin
      rw [marks2_succ, ← List.append_assoc]
      exact Reord.ent (Reord.drop .refl)
    · have hge : k = 16 := by have := of_decide_eq_false hc; omega
      subst hge
      rw [hnext]
      (refine w ?_; repeat ((first | refine VO.step rfl rfl ?_ | refine VD.end rfl rfl rfl ?_ | refine VD.mid rfl rfl rfl ?_); refine OpV.box rfl rfl rfl ?_; intro _; refine w ?_))
      ((first | refine VO.step rfl rfl ?_ | refine VD.end rfl rfl rfl ?_ | refine VD.mid rfl rfl rfl ?_); refine OpV.buildSlice1 st_56 rfl rfl (by first | (simp; done) | simp [Value.oneCell']) (by decide) rfl ?_; intro nb)
      ((first | refine VO.step rfl rfl ?_ | refine VD.end rfl rfl rfl ?_ | refine VD.mid rfl rfl rfl ?_); refine OpV.appendRow st_56 rfl rfl (by (repeat first | exact .head | apply Hole.tail)) (by (focus repeat first | exact .head _ | apply List.Mem.tail)) rfl (by first | (simp; done) | simp [Value.oneCell']) ?_ ?_ rfl ?_)
      · simp only [maxLen]; omega
      · omega
      intro go' gc'
      rw [← hlnext (xo, xc)]
      (refine w ?_; repeat ((first | refine VO.step rfl rfl ?_ | refine VD.end rfl rfl rfl ?_ | refine VD.mid rfl rfl rfl ?_); refine OpV.box rfl rfl rfl ?_; intro _; refine w ?_))
      refine VE.round (Gs ++ [(xo, xc)], go', gc') (by rw [List.length_append]; exact hlt) (by simp only [List.length_append, List.length_singleton]; omega) ⟨rfl, asV rfl (by rw [List.length_append]; rfl), asV rfl (by rw [List.length_append]; rfl), trivial⟩ ?_
      dsimp only
      rw [List.length_append]
      exact Ent.re
  have hge : Gs.length = M.length := by have := of_decide_eq_false hc; omega
  clear hc ha
  (refine w ?_; repeat ((first | refine VO.step rfl rfl ?_ | refine VD.end rfl rfl rfl ?_ | refine VD.mid rfl rfl rfl ?_); refine OpV.box rfl rfl rfl ?_; intro _; refine w ?_))
  refine VC.know (p := go = none → Gs.length = 0) (fun w hw => Holds.ownNone hw (.head _)) ?_
  intro hgn
  generalize hH : (Own 179 1 (.slice go Gs.length gc) Gs.length (longH M Gs) :: Own 179 1 (.slice lo M.length lc) M.length (M.map ListN.hdr) :: (grs M Gs ++ R)) = HH
  have hr1 : Rds W HH 1 lo M.length (M.map ListN.hdr) := by subst hH; exact Rds.own (ListN.hdrs_one M) (.tail _ (.head _)) (by rw [List.length_map, Nat.mul_one]) hln
  have hr2 : Rds W HH 1 go Gs.length (longH M Gs) := by subst hH; exact Rds.own (longH_one M Gs) (.head _) (by rw [longH_length, Nat.mul_one]) hgn
  have hend : Ent W HH R := by
    subst hH
    exact Ent.drop (Ent.drop (fun w hw => by
      have : ∀ (X : List SProp) w, Holds W (X ++ R) w → Holds W R w := fun X => by
        induction X with
        | nil => exact fun w h => h
        | cons a r ih => exact fun w h => ih w h.tail
      exact this _ w hw))
  have htw : ∀ a (h : a < M.length), twin a M[a] (Gs[a]'(by omega)) 16 ∈ HH := fun a h => by
    subst hH
    refine .tail _ (.tail _ (List.mem_append_left _ (List.mem_iff_getElem.2 ⟨a, by rw [grs_length]; exact h, ?_⟩)))
    rw [grs_get M Gs a h, List.getElem?_eq_getElem (by omega)]
  have hlg : ∀ a (h : a < M.length), (longH M Gs)[a]? = some (.slice (Gs[a]'(by omega)).1 (M[a].n + 16) (Gs[a]'(by omega)).2) := fun a h => by
    unfold longH
    rw [List.getElem?_mapIdx, List.getElem?_eq_getElem h, List.getElem?_eq_getElem (l := Gs) (by omega)]; rfl
  clear hH
  refine VC.loop (α := Nat) (fun a => a ≤ M.length) (fun _ => HH)
    (fun a => [(0, .slice lo M.length lc), (5, .slice go Gs.length gc), (9, .int .i64 a)]) (fun a => M.length - a) rfl 0 (Nat.zero_le _) Ent.refl ⟨rfl, rfl, rfl, trivial⟩ ?_
  intro a ha
  (refine w ?_; repeat ((first | refine VO.step rfl rfl ?_ | refine VD.end rfl rfl rfl ?_ | refine VD.mid rfl rfl rfl ?_); refine OpV.box rfl rfl rfl ?_; intro _; refine w ?_))
  (refine VC.cond rfl rfl ?_ ?_ <;> intro hc)
  · have hlt : a < M.length := by have := of_decide_eq_true hc; omega
    obtain ⟨lb, rfl⟩ : ∃ lb, lo = some lb := by cases lo with | none => have := hln rfl; omega | some lb => exact ⟨lb, rfl⟩
    obtain ⟨gb, rfl⟩ : ∃ gb, go = some gb := by cases go with | none => have := hgn rfl; omega | some gb => exact ⟨gb, rfl⟩
    obtain ⟨hla, hxs⟩ := hMl a hlt
    have hget : (M.map ListN.hdr)[a]? = some (.slice M[a].ao M[a].n M[a].cap) := by rw [List.getElem?_map, List.getElem?_eq_getElem hlt]; rfl
    have htw := htw a hlt
    have hlg := hlg a hlt
    have hgl : a < Gs.length := by omega
    generalize Gs[a] = g at *
    generalize M[a] = e at *
    have hel : e.xs.length = e.n * 2 := by rw [hxs, marks_length]
    have h1 : ∀ u ∈ e.xs, u.oneCell' = true := by rw [hxs]; exact marks_one _ _
    have h2 : ∀ u ∈ e.xs ++ marks2 a 16, u.oneCell' = true := fun u hu => by
      rcases List.mem_append.1 hu with q | q
      · exact h1 u q
      · exact marks2_one _ _ u q
    refine VC.know (fun w hw => TwinR.none hw htw) ?_
    rintro ⟨hon, hnn⟩
    have ho : Rds W HH 2 e.ao e.n e.xs := TwinR.rdsOld htw h1 hel hon
    have hw' : Rds W HH 2 g.1 (e.n + 16) (e.xs ++ marks2 a 16) := TwinR.rdsNew htw h2 (by rw [List.length_append, marks2_length, hel]; omega) hnn
    obtain ⟨gx, hgx⟩ : ∃ gx, g.1 = some gx := by cases h : g.1 with | none => have := hnn h; omega | some gx => exact ⟨gx, rfl⟩
    rw [hgx] at hlg hw'
    (refine w ?_; repeat ((first | refine VO.step rfl rfl ?_ | refine VD.end rfl rfl rfl ?_ | refine VD.mid rfl rfl rfl ?_); refine OpV.box rfl rfl rfl ?_; intro _; refine w ?_))
    (first | refine VO.pure rfl rfl (PureAt.ldR tab_ok rfl rfl hr1 hget) rfl ?_ | refine VD.take rfl rfl rfl (PureAt.ldR tab_ok rfl rfl hr1 hget) rfl ?_ | refine VQ.pure rfl rfl (PureAt.ldR tab_ok rfl rfl hr1 hget) rfl ?_ | refine VD.end rfl rfl rfl (OpV.pure (PureAt.ldR tab_ok rfl rfl hr1 hget) rfl ?_))
    (refine w ?_; repeat ((first | refine VO.step rfl rfl ?_ | refine VD.end rfl rfl rfl ?_ | refine VD.mid rfl rfl rfl ?_); refine OpV.box rfl rfl rfl ?_; intro _; refine w ?_))
    refine VC.loop (α := Nat) (fun k => k ≤ e.n) (fun _ => HH)
      (fun k => [(0, .slice (some lb) M.length lc), (5, .slice (some gb) Gs.length gc), (9, .int .i64 a), (10, .int .i64 e.n), (11, .int .i64 k)]) (fun k => e.n - k) rfl 0 (Nat.zero_le _) Ent.refl ⟨rfl, rfl, rfl, rfl, rfl, trivial⟩ ?_
    intro k hk
    (refine w ?_; repeat ((first | refine VO.step rfl rfl ?_ | refine VD.end rfl rfl rfl ?_ | refine VD.mid rfl rfl rfl ?_); refine OpV.box rfl rfl rfl ?_; intro _; refine w ?_))
    (refine VC.cond rfl rfl ?_ ?_ <;> intro hc)
    · have hkt : k < e.n := by have := of_decide_eq_true hc; omega
      obtain ⟨ox, hox⟩ : ∃ ox, e.ao = some ox := by cases h : e.ao with | none => have := hon h; omega | some ox => exact ⟨ox, rfl⟩
      rw [hox] at hget ho
      have hk1 : e.xs[k * 2 + 0]? = some (val ((a : Int) * 1000 + (k : Int) + 7000000)) := by rw [hxs]; exact marks_get a _ k hkt
      have hk2 : (e.xs ++ marks2 a 16)[k * 2 + 0]? = some (val ((a : Int) * 1000 + (k : Int) + 7000000)) := by rw [List.getElem?_append_left (by omega)]; exact hk1
      (refine w ?_; repeat ((first | refine VO.step rfl rfl ?_ | refine VD.end rfl rfl rfl ?_ | refine VD.mid rfl rfl rfl ?_); refine OpV.box rfl rfl rfl ?_; intro _; refine w ?_))
      (first | refine VO.pure rfl rfl (PureAt.ldR tab_ok rfl rfl hr1 hget) rfl ?_ | refine VD.take rfl rfl rfl (PureAt.ldR tab_ok rfl rfl hr1 hget) rfl ?_ | refine VQ.pure rfl rfl (PureAt.ldR tab_ok rfl rfl hr1 hget) rfl ?_ | refine VD.end rfl rfl rfl (OpV.pure (PureAt.ldR tab_ok rfl rfl hr1 hget) rfl ?_))
      (refine w ?_; repeat ((first | refine VO.step rfl rfl ?_ | refine VD.end rfl rfl rfl ?_ | refine VD.mid rfl rfl rfl ?_); refine OpV.box rfl rfl rfl ?_; intro _; refine w ?_))
      (first | refine VO.pure rfl rfl (PureAt.ldRc tab_ok rfl rfl ho hk1) rfl ?_ | refine VD.take rfl rfl rfl (PureAt.ldRc tab_ok rfl rfl ho hk1) rfl ?_ | refine VQ.pure rfl rfl (PureAt.ldRc tab_ok rfl rfl ho hk1) rfl ?_ | refine VD.end rfl rfl rfl (OpV.pure (PureAt.ldRc tab_ok rfl rfl ho hk1) rfl ?_))
      obtain ⟨Z, hZ⟩ : ∃ Z, Z = (a : Int) * 1000 + (k : Int) + 7000000 := ⟨_, rfl⟩
      (first | (first | refine VO.nil rfl ?_ | refine VQ.nil rfl ?_ | refine VD.nil ?_ | ((first | apply VO.pure rfl rfl | apply VQ.pure rfl rfl | apply VD.take rfl rfl rfl | (refine VD.end rfl rfl rfl ?_; apply OpV.pure)); (first | (apply PureAt.ar64 rfl rfl rfl; omega) | exact .eval tab_ok rfl | (apply PureAt.ld tab_ok rfl rfl; (focus repeat first | exact .head _ | apply List.Mem.tail); rfl) | (apply PureAt.shr rfl rfl (by decide) (by decide)) | (apply PureAt.shr rfl rfl (by omega) (by simp only [IntKind.bits]; omega)) | exact .fieldAddrA tab_ok rfl rfl | exact .sliceLH tab_ok rfl rfl rfl rfl (by omega) (by omega) | exact .sliceH tab_ok rfl rfl rfl (by omega) | exact .sliceL tab_ok rfl rfl rfl (by omega) | (first | exact .indexAddr tab_ok rfl rfl rfl rfl (by omega) | exact .indexAddrN tab_ok rfl rfl rfl rfl (by omega) | exact .indexAddrI tab_ok rfl rfl rfl rfl (toNatLit _) (by decide) (by omega) | exact .indexAddrNI tab_ok rfl rfl rfl rfl (toNatLit _) (by decide) (by omega) | exact .ldR tab_ok rfl rfl hr1 (List.getElem?_eq_getElem (by omega)) | exact .ldR tab_ok rfl rfl hr2 (List.getElem?_eq_getElem (by omega)) | exact ldB tab_ok rfl rfl hb1 (by omega) | exact ldB tab_ok rfl rfl hb2 (by omega)) | exact .sliceHI tab_ok rfl rfl rfl (toNatLit _) (by decide) (by omega) | exact .sliceLI tab_ok rfl rfl rfl (toNatLit _) (by decide) (by omega) | (apply PureAt.ldA tab_ok rfl rfl; (focus repeat first | exact .head _ | apply List.Mem.tail); rfl; rfl) | exact .ldro tab_ok rfl rfl (by assumption)); rfl) | refine VO.skip rfl rfl rfl rfl ?_ | refine VQ.skip rfl rfl rfl rfl ?_ | refine VD.skip rfl rfl rfl rfl rfl ?_ | refine VD.skipM rfl rfl Ent.refl rfl rfl rfl ?_ | ((first | refine VO.step rfl rfl ?_ | refine VD.end rfl rfl rfl ?_ | refine VD.mid rfl rfl rfl ?_); (first | (apply OpV.st tab_ok rfl rfl rfl rfl (by (repeat first | exact .head | apply Hole.tail); first | done | fail) (by first | (simp; done) | fail)) | (refine OpV.box rfl rfl rfl ?_; intro _))) | refine ⟨Ent.re, ?_⟩) | (first | refine VC.seq rfl ?_ | refine VC.region rfl ?_ | refine VC.condT rfl rfl ?_ | refine VC.condF rfl rfl ?_ | refine VC.block rfl ?_ | refine VC.skip rfl ?_ | refine VC.ret rfl ?_ | refine VC.exit rfl ?_ | refine VC.scope rfl ?_ | refine VC.label rfl ?_) | (first | refine VE.next ?_ | refine VE.passRet ?_ | refine VE.passExit ?_ | refine VE.blockNormal ?_ | refine VE.blockHit ?_ | refine VE.blockMiss rfl ?_ | refine VE.blockRet ?_ | refine VE.loopRet ?_ | refine VE.loopExit ?_ | refine VE.scopeNormal ?_ | refine VE.scopeRet ?_ | refine VE.scopeExit ?_))
      (first | (first | refine VO.nil rfl ?_ | refine VQ.nil rfl ?_ | refine VD.nil ?_ | ((first | apply VO.pure rfl rfl | apply VQ.pure rfl rfl | apply VD.take rfl rfl rfl | (refine VD.end rfl rfl rfl ?_; apply OpV.pure)); (first | (apply PureAt.ar64 rfl rfl rfl; omega) | exact .eval tab_ok rfl | (apply PureAt.ld tab_ok rfl rfl; (focus repeat first | exact .head _ | apply List.Mem.tail); rfl) | (apply PureAt.shr rfl rfl (by decide) (by decide)) | (apply PureAt.shr rfl rfl (by omega) (by simp only [IntKind.bits]; omega)) | exact .fieldAddrA tab_ok rfl rfl | exact .sliceLH tab_ok rfl rfl rfl rfl (by omega) (by omega) | exact .sliceH tab_ok rfl rfl rfl (by omega) | exact .sliceL tab_ok rfl rfl rfl (by omega) | (first | exact .indexAddr tab_ok rfl rfl rfl rfl (by omega) | exact .indexAddrN tab_ok rfl rfl rfl rfl (by omega) | exact .indexAddrI tab_ok rfl rfl rfl rfl (toNatLit _) (by decide) (by omega) | exact .indexAddrNI tab_ok rfl rfl rfl rfl (toNatLit _) (by decide) (by omega) | exact .ldR tab_ok rfl rfl hr1 (List.getElem?_eq_getElem (by omega)) | exact .ldR tab_ok rfl rfl hr2 (List.getElem?_eq_getElem (by omega)) | exact ldB tab_ok rfl rfl hb1 (by omega) | exact ldB tab_ok rfl rfl hb2 (by omega)) | exact .sliceHI tab_ok rfl rfl rfl (toNatLit _) (by decide) (by omega) | exact .sliceLI tab_ok rfl rfl rfl (toNatLit _) (by decide) (by omega) | (apply PureAt.ldA tab_ok rfl rfl; (focus repeat first | exact .head _ | apply List.Mem.tail); rfl; rfl) | exact .ldro tab_ok rfl rfl (by assumption)); rfl) | refine VO.skip rfl rfl rfl rfl ?_ | refine VQ.skip rfl rfl rfl rfl ?_ | refine VD.skip rfl rfl rfl rfl rfl ?_ | refine VD.skipM rfl rfl Ent.refl rfl rfl rfl ?_ | ((first | refine VO.step rfl rfl ?_ | refine VD.end rfl rfl rfl ?_ | refine VD.mid rfl rfl rfl ?_); (first | (apply OpV.st tab_ok rfl rfl rfl rfl (by (repeat first | exact .head | apply Hole.tail); first | done | fail) (by first | (simp; done) | fail)) | (refine OpV.box rfl rfl rfl ?_; intro _))) | refine ⟨Ent.re, ?_⟩) | (first | refine VC.seq rfl ?_ | refine VC.region rfl ?_ | refine VC.condT rfl rfl ?_ | refine VC.condF rfl rfl ?_ | refine VC.block rfl ?_ | refine VC.skip rfl ?_ | refine VC.ret rfl ?_ | refine VC.exit rfl ?_ | refine VC.scope rfl ?_ | refine VC.label rfl ?_) | (first | refine VE.next ?_ | refine VE.passRet ?_ | refine VE.passExit ?_ | refine VE.blockNormal ?_ | refine VE.blockHit ?_ | refine VE.blockMiss rfl ?_ | refine VE.blockRet ?_ | refine VE.loopRet ?_ | refine VE.loopExit ?_ | refine VE.scopeNormal ?_ | refine VE.scopeRet ?_ | refine VE.scopeExit ?_))
      (first | (first | refine VO.nil rfl ?_ | refine VQ.nil rfl ?_ | refine VD.nil ?_ | ((first | apply VO.pure rfl rfl | apply VQ.pure rfl rfl | apply VD.take rfl rfl rfl | (refine VD.end rfl rfl rfl ?_; apply OpV.pure)); (first | (apply PureAt.ar64 rfl rfl rfl; omega) | exact .eval tab_ok rfl | (apply PureAt.ld tab_ok rfl rfl; (focus repeat first | exact .head _ | apply List.Mem.tail); rfl) | (apply PureAt.shr rfl rfl (by decide) (by decide)) | (apply PureAt.shr rfl rfl (by omega) (by simp only [IntKind.bits]; omega)) | exact .fieldAddrA tab_ok rfl rfl | exact .sliceLH tab_ok rfl rfl rfl rfl (by omega) (by omega) | exact .sliceH tab_ok rfl rfl rfl (by omega) | exact .sliceL tab_ok rfl rfl rfl (by omega) | (first | exact .indexAddr tab_ok rfl rfl rfl rfl (by omega) | exact .indexAddrN tab_ok rfl rfl rfl rfl (by omega) | exact .indexAddrI tab_ok rfl rfl rfl rfl (toNatLit _) (by decide) (by omega) | exact .indexAddrNI tab_ok rfl rfl rfl rfl (toNatLit _) (by decide) (by omega) | exact .ldR tab_ok rfl rfl hr1 (List.getElem?_eq_getElem (by omega)) | exact .ldR tab_ok rfl rfl hr2 (List.getElem?_eq_getElem (by omega)) | exact ldB tab_ok rfl rfl hb1 (by omega) | exact ldB tab_ok rfl rfl hb2 (by omega)) | exact .sliceHI tab_ok rfl rfl rfl (toNatLit _) (by decide) (by omega) | exact .sliceLI tab_ok rfl rfl rfl (toNatLit _) (by decide) (by omega) | (apply PureAt.ldA tab_ok rfl rfl; (focus repeat first | exact .head _ | apply List.Mem.tail); rfl; rfl) | exact .ldro tab_ok rfl rfl (by assumption)); rfl) | refine VO.skip rfl rfl rfl rfl ?_ | refine VQ.skip rfl rfl rfl rfl ?_ | refine VD.skip rfl rfl rfl rfl rfl ?_ | refine VD.skipM rfl rfl Ent.refl rfl rfl rfl ?_ | ((first | refine VO.step rfl rfl ?_ | refine VD.end rfl rfl rfl ?_ | refine VD.mid rfl rfl rfl ?_); (first | (apply OpV.st tab_ok rfl rfl rfl rfl (by (repeat first | exact .head | apply Hole.tail); first | done | fail) (by first | (simp; done) | fail)) | (refine OpV.box rfl rfl rfl ?_; intro _))) | refine ⟨Ent.re, ?_⟩) | (first | refine VC.seq rfl ?_ | refine VC.region rfl ?_ | refine VC.condT rfl rfl ?_ | refine VC.condF rfl rfl ?_ | refine VC.block rfl ?_ | refine VC.skip rfl ?_ | refine VC.ret rfl ?_ | refine VC.exit rfl ?_ | refine VC.scope rfl ?_ | refine VC.label rfl ?_) | (first | refine VE.next ?_ | refine VE.passRet ?_ | refine VE.passExit ?_ | refine VE.blockNormal ?_ | refine VE.blockHit ?_ | refine VE.blockMiss rfl ?_ | refine VE.blockRet ?_ | refine VE.loopRet ?_ | refine VE.loopExit ?_ | refine VE.scopeNormal ?_ | refine VE.scopeRet ?_ | refine VE.scopeExit ?_))
      (first | (first | refine VO.nil rfl ?_ | refine VQ.nil rfl ?_ | refine VD.nil ?_ | ((first | apply VO.pure rfl rfl | apply VQ.pure rfl rfl | apply VD.take rfl rfl rfl | (refine VD.end rfl rfl rfl ?_; apply OpV.pure)); (first | (apply PureAt.ar64 rfl rfl rfl; omega) | exact .eval tab_ok rfl | (apply PureAt.ld tab_ok rfl rfl; (focus repeat first | exact .head _ | apply List.Mem.tail); rfl) | (apply PureAt.shr rfl rfl (by decide) (by decide)) | (apply PureAt.shr rfl rfl (by omega) (by simp only [IntKind.bits]; omega)) | exact .fieldAddrA tab_ok rfl rfl | exact .sliceLH tab_ok rfl rfl rfl rfl (by omega) (by omega) | exact .sliceH tab_ok rfl rfl rfl (by omega) | exact .sliceL tab_ok rfl rfl rfl (by omega) | (first | exact .indexAddr tab_ok rfl rfl rfl rfl (by omega) | exact .indexAddrN tab_ok rfl rfl rfl rfl (by omega) | exact .indexAddrI tab_ok rfl rfl rfl rfl (toNatLit _) (by decide) (by omega) | exact .indexAddrNI tab_ok rfl rfl rfl rfl (toNatLit _) (by decide) (by omega) | exact .ldR tab_ok rfl rfl hr1 (List.getElem?_eq_getElem (by omega)) | exact .ldR tab_ok rfl rfl hr2 (List.getElem?_eq_getElem (by omega)) | exact ldB tab_ok rfl rfl hb1 (by omega) | exact ldB tab_ok rfl rfl hb2 (by omega)) | exact .sliceHI tab_ok rfl rfl rfl (toNatLit _) (by decide) (by omega) | exact .sliceLI tab_ok rfl rfl rfl (toNatLit _) (by decide) (by omega) | (apply PureAt.ldA tab_ok rfl rfl; (focus repeat first | exact .head _ | apply List.Mem.tail); rfl; rfl) | exact .ldro tab_ok rfl rfl (by assumption)); rfl) | refine VO.skip rfl rfl rfl rfl ?_ | refine VQ.skip rfl rfl rfl rfl ?_ | refine VD.skip rfl rfl rfl rfl rfl ?_ | refine VD.skipM rfl rfl Ent.refl rfl rfl rfl ?_ | ((first | refine VO.step rfl rfl ?_ | refine VD.end rfl rfl rfl ?_ | refine VD.mid rfl rfl rfl ?_); (first | (apply OpV.st tab_ok rfl rfl rfl rfl (by (repeat first | exact .head | apply Hole.tail); first | done | fail) (by first | (simp; done) | fail)) | (refine OpV.box rfl rfl rfl ?_; intro _))) | refine ⟨Ent.re, ?_⟩) | (first | refine VC.seq rfl ?_ | refine VC.region rfl ?_ | refine VC.condT rfl rfl ?_ | refine VC.condF rfl rfl ?_ | refine VC.block rfl ?_ | refine VC.skip rfl ?_ | refine VC.ret rfl ?_ | refine VC.exit rfl ?_ | refine VC.scope rfl ?_ | refine VC.label rfl ?_) | (first | refine VE.next ?_ | refine VE.passRet ?_ | refine VE.passExit ?_ | refine VE.blockNormal ?_ | refine VE.blockHit ?_ | refine VE.blockMiss rfl ?_ | refine VE.blockRet ?_ | refine VE.loopRet ?_ | refine VE.loopExit ?_ | refine VE.scopeNormal ?_ | refine VE.scopeRet ?_ | refine VE.scopeExit ?_))
      (first | (first | refine VO.nil rfl ?_ | refine VQ.nil rfl ?_ | refine VD.nil ?_ | ((first | apply VO.pure rfl rfl | apply VQ.pure rfl rfl | apply VD.take rfl rfl rfl | (refine VD.end rfl rfl rfl ?_; apply OpV.pure)); (first | (apply PureAt.ar64 rfl rfl rfl; omega) | exact .eval tab_ok rfl | (apply PureAt.ld tab_ok rfl rfl; (focus repeat first | exact .head _ | apply List.Mem.tail); rfl) | (apply PureAt.shr rfl rfl (by decide) (by decide)) | (apply PureAt.shr rfl rfl (by omega) (by simp only [IntKind.bits]; omega)) | exact .fieldAddrA tab_ok rfl rfl | exact .sliceLH tab_ok rfl rfl rfl rfl (by omega) (by omega) | exact .sliceH tab_ok rfl rfl rfl (by omega) | exact .sliceL tab_ok rfl rfl rfl (by omega) | (first | exact .indexAddr tab_ok rfl rfl rfl rfl (by omega) | exact .indexAddrN tab_ok rfl rfl rfl rfl (by omega) | exact .indexAddrI tab_ok rfl rfl rfl rfl (toNatLit _) (by decide) (by omega) | exact .indexAddrNI tab_ok rfl rfl rfl rfl (toNatLit _) (by decide) (by omega) | exact .ldR tab_ok rfl rfl hr1 (List.getElem?_eq_getElem (by omega)) | exact .ldR tab_ok rfl rfl hr2 (List.getElem?_eq_getElem (by omega)) | exact ldB tab_ok rfl rfl hb1 (by omega) | exact ldB tab_ok rfl rfl hb2 (by omega)) | exact .sliceHI tab_ok rfl rfl rfl (toNatLit _) (by decide) (by omega) | exact .sliceLI tab_ok rfl rfl rfl (toNatLit _) (by decide) (by omega) | (apply PureAt.ldA tab_ok rfl rfl; (focus repeat first | exact .head _ | apply List.Mem.tail); rfl; rfl) | exact .ldro tab_ok rfl rfl (by assumption)); rfl) | refine VO.skip rfl rfl rfl rfl ?_ | refine VQ.skip rfl rfl rfl rfl ?_ | refine VD.skip rfl rfl rfl rfl rfl ?_ | refine VD.skipM rfl rfl Ent.refl rfl rfl rfl ?_ | ((first | refine VO.step rfl rfl ?_ | refine VD.end rfl rfl rfl ?_ | refine VD.mid rfl rfl rfl ?_); (first | (apply OpV.st tab_ok rfl rfl rfl rfl (by (repeat first | exact .head | apply Hole.tail); first | done | fail) (by first | (simp; done) | fail)) | (refine OpV.box rfl rfl rfl ?_; intro _))) | refine ⟨Ent.re, ?_⟩) | (first | refine VC.seq rfl ?_ | refine VC.region rfl ?_ | refine VC.condT rfl rfl ?_ | refine VC.condF rfl rfl ?_ | refine VC.block rfl ?_ | refine VC.skip rfl ?_ | refine VC.ret rfl ?_ | refine VC.exit rfl ?_ | refine VC.scope rfl ?_ | refine VC.label rfl ?_) | (first | refine VE.next ?_ | refine VE.passRet ?_ | refine VE.passExit ?_ | refine VE.blockNormal ?_ | refine VE.blockHit ?_ | refine VE.blockMiss rfl ?_ | refine VE.blockRet ?_ | refine VE.loopRet ?_ | refine VE.loopExit ?_ | refine VE.scopeNormal ?_ | refine VE.scopeRet ?_ | refine VE.scopeExit ?_))
      refine VO.re 98 (.int .i64 Z) rfl (by rw [hZ]) ?_
      (refine w ?_; repeat ((first | refine VO.step rfl rfl ?_ | refine VD.end rfl rfl rfl ?_ | refine VD.mid rfl rfl rfl ?_); refine OpV.box rfl rfl rfl ?_; intro _; refine w ?_))
      (first | refine VO.gF rfl rfl rfl (by simp [hZ]) ?_ | refine VD.gF rfl rfl rfl (by simp [hZ]) ?_)
      (refine w ?_; repeat ((first | refine VO.step rfl rfl ?_ | refine VD.end rfl rfl rfl ?_ | refine VD.mid rfl rfl rfl ?_); refine OpV.box rfl rfl rfl ?_; intro _; refine w ?_))
      (first | refine VO.pure rfl rfl (PureAt.ldR tab_ok rfl rfl hr2 hlg) rfl ?_ | refine VD.take rfl rfl rfl (PureAt.ldR tab_ok rfl rfl hr2 hlg) rfl ?_ | refine VQ.pure rfl rfl (PureAt.ldR tab_ok rfl rfl hr2 hlg) rfl ?_ | refine VD.end rfl rfl rfl (OpV.pure (PureAt.ldR tab_ok rfl rfl hr2 hlg) rfl ?_))
      (refine w ?_; repeat ((first | refine VO.step rfl rfl ?_ | refine VD.end rfl rfl rfl ?_ | refine VD.mid rfl rfl rfl ?_); refine OpV.box rfl rfl rfl ?_; intro _; refine w ?_))
      (first | refine VO.pure rfl rfl (PureAt.ldRc tab_ok rfl rfl hw' hk2) rfl ?_ | refine VD.take rfl rfl rfl (PureAt.ldRc tab_ok rfl rfl hw' hk2) rfl ?_ | refine VQ.pure rfl rfl (PureAt.ldRc tab_ok rfl rfl hw' hk2) rfl ?_ | refine VD.end rfl rfl rfl (OpV.pure (PureAt.ldRc tab_ok rfl rfl hw' hk2) rfl ?_))
      (first | (first | refine VO.nil rfl ?_ | refine VQ.nil rfl ?_ | refine VD.nil ?_ | ((first | apply VO.pure rfl rfl | apply VQ.pure rfl rfl | apply VD.take rfl rfl rfl | (refine VD.end rfl rfl rfl ?_; apply OpV.pure)); (first | (apply PureAt.ar64 rfl rfl rfl; omega) | exact .eval tab_ok rfl | (apply PureAt.ld tab_ok rfl rfl; (focus repeat first | exact .head _ | apply List.Mem.tail); rfl) | (apply PureAt.shr rfl rfl (by decide) (by decide)) | (apply PureAt.shr rfl rfl (by omega) (by simp only [IntKind.bits]; omega)) | exact .fieldAddrA tab_ok rfl rfl | exact .sliceLH tab_ok rfl rfl rfl rfl (by omega) (by omega) | exact .sliceH tab_ok rfl rfl rfl (by omega) | exact .sliceL tab_ok rfl rfl rfl (by omega) | (first | exact .indexAddr tab_ok rfl rfl rfl rfl (by omega) | exact .indexAddrN tab_ok rfl rfl rfl rfl (by omega) | exact .indexAddrI tab_ok rfl rfl rfl rfl (toNatLit _) (by decide) (by omega) | exact .indexAddrNI tab_ok rfl rfl rfl rfl (toNatLit _) (by decide) (by omega) | exact .ldR tab_ok rfl rfl hr1 (List.getElem?_eq_getElem (by omega)) | exact .ldR tab_ok rfl rfl hr2 (List.getElem?_eq_getElem (by omega)) | exact ldB tab_ok rfl rfl hb1 (by omega) | exact ldB tab_ok rfl rfl hb2 (by omega)) | exact .sliceHI tab_ok rfl rfl rfl (toNatLit _) (by decide) (by omega) | exact .sliceLI tab_ok rfl rfl rfl (toNatLit _) (by decide) (by omega) | (apply PureAt.ldA tab_ok rfl rfl; (focus repeat first | exact .head _ | apply List.Mem.tail); rfl; rfl) | exact .ldro tab_ok rfl rfl (by assumption)); rfl) | refine VO.skip rfl rfl rfl rfl ?_ | refine VQ.skip rfl rfl rfl rfl ?_ | refine VD.skip rfl rfl rfl rfl rfl ?_ | refine VD.skipM rfl rfl Ent.refl rfl rfl rfl ?_ | ((first | refine VO.step rfl rfl ?_ | refine VD.end rfl rfl rfl ?_ | refine VD.mid rfl rfl rfl ?_); (first | (apply OpV.st tab_ok rfl rfl rfl rfl (by (repeat first | exact .head | apply Hole.tail); first | done | fail) (by first | (simp; done) | fail)) | (refine OpV.box rfl rfl rfl ?_; intro _))) | refine ⟨Ent.re, ?_⟩) | (first | refine VC.seq rfl ?_ | refine VC.region rfl ?_ | refine VC.condT rfl rfl ?_ | refine VC.condF rfl rfl ?_ | refine VC.block rfl ?_ | refine VC.skip rfl ?_ | refine VC.ret rfl ?_ | refine VC.exit rfl ?_ | refine VC.scope rfl ?_ | refine VC.label rfl ?_) | (first | refine VE.next ?_ | refine VE.passRet ?_ | refine VE.passExit ?_ | refine VE.blockNormal ?_ | refine VE.blockHit ?_ | refine VE.blockMiss rfl ?_ | refine VE.blockRet ?_ | refine VE.loopRet ?_ | refine VE.loopExit ?_ | refine VE.scopeNormal ?_ | refine VE.scopeRet ?_ | refine VE.scopeExit ?_))
      (first | (first | refine VO.nil rfl ?_ | refine VQ.nil rfl ?_ | refine VD.nil ?_ | ((first | apply VO.pure rfl rfl | apply VQ.pure rfl rfl | apply VD.take rfl rfl rfl | (refine VD.end rfl rfl rfl ?_; apply OpV.pure)); (first | (apply PureAt.ar64 rfl rfl rfl; omega) | exact .eval tab_ok rfl | (apply PureAt.ld tab_ok rfl rfl; (focus repeat first | exact .head _ | apply List.Mem.tail); rfl) | (apply PureAt.shr rfl rfl (by decide) (by decide)) | (apply PureAt.shr rfl rfl (by omega) (by simp only [IntKind.bits]; omega)) | exact .fieldAddrA tab_ok rfl rfl | exact .sliceLH tab_ok rfl rfl rfl rfl (by omega) (by omega) | exact .sliceH tab_ok rfl rfl rfl (by omega) | exact .sliceL tab_ok rfl rfl rfl (by omega) | (first | exact .indexAddr tab_ok rfl rfl rfl rfl (by omega) | exact .indexAddrN tab_ok rfl rfl rfl rfl (by omega) | exact .indexAddrI tab_ok rfl rfl rfl rfl (toNatLit _) (by decide) (by omega) | exact .indexAddrNI tab_ok rfl rfl rfl rfl (toNatLit _) (by decide) (by omega) | exact .ldR tab_ok rfl rfl hr1 (List.getElem?_eq_getElem (by omega)) | exact .ldR tab_ok rfl rfl hr2 (List.getElem?_eq_getElem (by omega)) | exact ldB tab_ok rfl rfl hb1 (by omega) | exact ldB tab_ok rfl rfl hb2 (by omega)) | exact .sliceHI tab_ok rfl rfl rfl (toNatLit _) (by decide) (by omega) | exact .sliceLI tab_ok rfl rfl rfl (toNatLit _) (by decide) (by omega) | (apply PureAt.ldA tab_ok rfl rfl; (focus repeat first | exact .head _ | apply List.Mem.tail); rfl; rfl) | exact .ldro tab_ok rfl rfl (by assumption)); rfl) | refine VO.skip rfl rfl rfl rfl ?_ | refine VQ.skip rfl rfl rfl rfl ?_ | refine VD.skip rfl rfl rfl rfl rfl ?_ | refine VD.skipM rfl rfl Ent.refl rfl rfl rfl ?_ | ((first | refine VO.step rfl rfl ?_ | refine VD.end rfl rfl rfl ?_ | refine VD.mid rfl rfl rfl ?_); (first | (apply OpV.st tab_ok rfl rfl rfl rfl (by (repeat first | exact .head | apply Hole.tail); first | done | fail) (by first | (simp; done) | fail)) | (refine OpV.box rfl rfl rfl ?_; intro _))) | refine ⟨Ent.re, ?_⟩) | (first | refine VC.seq rfl ?_ | refine VC.region rfl ?_ | refine VC.condT rfl rfl ?_ | refine VC.condF rfl rfl ?_ | refine VC.block rfl ?_ | refine VC.skip rfl ?_ | refine VC.ret rfl ?_ | refine VC.exit rfl ?_ | refine VC.scope rfl ?_ | refine VC.label rfl ?_) | (first | refine VE.next ?_ | refine VE.passRet ?_ | refine VE.passExit ?_ | refine VE.blockNormal ?_ | refine VE.blockHit ?_ | refine VE.blockMiss rfl ?_ | refine VE.blockRet ?_ | refine VE.loopRet ?_ | refine VE.loopExit ?_ | refine VE.scopeNormal ?_ | refine VE.scopeRet ?_ | refine VE.scopeExit ?_))
      (first | (first | refine VO.nil rfl ?_ | refine VQ.nil rfl ?_ | refine VD.nil ?_ | ((first | apply VO.pure rfl rfl | apply VQ.pure rfl rfl | apply VD.take rfl rfl rfl | (refine VD.end rfl rfl rfl ?_; apply OpV.pure)); (first | (apply PureAt.ar64 rfl rfl rfl; omega) | exact .eval tab_ok rfl | (apply PureAt.ld tab_ok rfl rfl; (focus repeat first | exact .head _ | apply List.Mem.tail); rfl) | (apply PureAt.shr rfl rfl (by decide) (by decide)) | (apply PureAt.shr rfl rfl (by omega) (by simp only [IntKind.bits]; omega)) | exact .fieldAddrA tab_ok rfl rfl | exact .sliceLH tab_ok rfl rfl rfl rfl (by omega) (by omega) | exact .sliceH tab_ok rfl rfl rfl (by omega) | exact .sliceL tab_ok rfl rfl rfl (by omega) | (first | exact .indexAddr tab_ok rfl rfl rfl rfl (by omega) | exact .indexAddrN tab_ok rfl rfl rfl rfl (by omega) | exact .indexAddrI tab_ok rfl rfl rfl rfl (toNatLit _) (by decide) (by omega) | exact .indexAddrNI tab_ok rfl rfl rfl rfl (toNatLit _) (by decide) (by omega) | exact .ldR tab_ok rfl rfl hr1 (List.getElem?_eq_getElem (by omega)) | exact .ldR tab_ok rfl rfl hr2 (List.getElem?_eq_getElem (by omega)) | exact ldB tab_ok rfl rfl hb1 (by omega) | exact ldB tab_ok rfl rfl hb2 (by omega)) | exact .sliceHI tab_ok rfl rfl rfl (toNatLit _) (by decide) (by omega) | exact .sliceLI tab_ok rfl rfl rfl (toNatLit _) (by decide) (by omega) | (apply PureAt.ldA tab_ok rfl rfl; (focus repeat first | exact .head _ | apply List.Mem.tail); rfl; rfl) | exact .ldro tab_ok rfl rfl (by assumption)); rfl) | refine VO.skip rfl rfl rfl rfl ?_ | refine VQ.skip rfl rfl rfl rfl ?_ | refine VD.skip rfl rfl rfl rfl rfl ?_ | refine VD.skipM rfl rfl Ent.refl rfl rfl rfl ?_ | ((first | refine VO.step rfl rfl ?_ | refine VD.end rfl rfl rfl ?_ | refine VD.mid rfl rfl rfl ?_); (first | (apply OpV.st tab_ok rfl rfl rfl rfl (by (repeat first | exact .head | apply Hole.tail); first | done | fail) (by first | (simp; done) | fail)) | (refine OpV.box rfl rfl rfl ?_; intro _))) | refine ⟨Ent.re, ?_⟩) | (first | refine VC.seq rfl ?_ | refine VC.region rfl ?_ | refine VC.condT rfl rfl ?_ | refine VC.condF rfl rfl ?_ | refine VC.block rfl ?_ | refine VC.skip rfl ?_ | refine VC.ret rfl ?_ | refine VC.exit rfl ?_ | refine VC.scope rfl ?_ | refine VC.label rfl ?_) | (first | refine VE.next ?_ | refine VE.passRet ?_ | refine VE.passExit ?_ | refine VE.blockNormal ?_ | refine VE.blockHit ?_ | refine VE.blockMiss rfl ?_ | refine VE.blockRet ?_ | refine VE.loopRet ?_ | refine VE.loopExit ?_ | refine VE.scopeNormal ?_ | refine VE.scopeRet ?_ | refine VE.scopeExit ?_))
      (first | (first | refine VO.nil rfl ?_ | refine VQ.nil rfl ?_ | refine VD.nil ?_ | ((first | apply VO.pure rfl rfl | apply VQ.pure rfl rfl | apply VD.take rfl rfl rfl | (refine VD.end rfl rfl rfl ?_; apply OpV.pure)); (first | (apply PureAt.ar64 rfl rfl rfl; omega) | exact .eval tab_ok rfl | (apply PureAt.ld tab_ok rfl rfl; (focus repeat first | exact .head _ | apply List.Mem.tail); rfl) | (apply PureAt.shr rfl rfl (by decide) (by decide)) | (apply PureAt.shr rfl rfl (by omega) (by simp only [IntKind.bits]; omega)) | exact .fieldAddrA tab_ok rfl rfl | exact .sliceLH tab_ok rfl rfl rfl rfl (by omega) (by omega) | exact .sliceH tab_ok rfl rfl rfl (by omega) | exact .sliceL tab_ok rfl rfl rfl (by omega) | (first | exact .indexAddr tab_ok rfl rfl rfl rfl (by omega) | exact .indexAddrN tab_ok rfl rfl rfl rfl (by omega) | exact .indexAddrI tab_ok rfl rfl rfl rfl (toNatLit _) (by decide) (by omega) | exact .indexAddrNI tab_ok rfl rfl rfl rfl (toNatLit _) (by decide) (by omega) | exact .ldR tab_ok rfl rfl hr1 (List.getElem?_eq_getElem (by omega)) | exact .ldR tab_ok rfl rfl hr2 (List.getElem?_eq_getElem (by omega)) | exact ldB tab_ok rfl rfl hb1 (by omega) | exact ldB tab_ok rfl rfl hb2 (by omega)) | exact .sliceHI tab_ok rfl rfl rfl (toNatLit _) (by decide) (by omega) | exact .sliceLI tab_ok rfl rfl rfl (toNatLit _) (by decide) (by omega) | (apply PureAt.ldA tab_ok rfl rfl; (focus repeat first | exact .head _ | apply List.Mem.tail); rfl; rfl) | exact .ldro tab_ok rfl rfl (by assumption)); rfl) | refine VO.skip rfl rfl rfl rfl ?_ | refine VQ.skip rfl rfl rfl rfl ?_ | refine VD.skip rfl rfl rfl rfl rfl ?_ | refine VD.skipM rfl rfl Ent.refl rfl rfl rfl ?_ | ((first | refine VO.step rfl rfl ?_ | refine VD.end rfl rfl rfl ?_ | refine VD.mid rfl rfl rfl ?_); (first | (apply OpV.st tab_ok rfl rfl rfl rfl (by (repeat first | exact .head | apply Hole.tail); first | done | fail) (by first | (simp; done) | fail)) | (refine OpV.box rfl rfl rfl ?_; intro _))) | refine ⟨Ent.re, ?_⟩) | (first | refine VC.seq rfl ?_ | refine VC.region rfl ?_ | refine VC.condT rfl rfl ?_ | refine VC.condF rfl rfl ?_ | refine VC.block rfl ?_ | refine VC.skip rfl ?_ | refine VC.ret rfl ?_ | refine VC.exit rfl ?_ | refine VC.scope rfl ?_ | refine VC.label rfl ?_) | (first | refine VE.next ?_ | refine VE.passRet ?_ | refine VE.passExit ?_ | refine VE.blockNormal ?_ | refine VE.blockHit ?_ | refine VE.blockMiss rfl ?_ | refine VE.blockRet ?_ | refine VE.loopRet ?_ | refine VE.loopExit ?_ | refine VE.scopeNormal ?_ | refine VE.scopeRet ?_ | refine VE.scopeExit ?_))
      (first | (first | refine VO.nil rfl ?_ | refine VQ.nil rfl ?_ | refine VD.nil ?_ | ((first | apply VO.pure rfl rfl | apply VQ.pure rfl rfl | apply VD.take rfl rfl rfl | (refine VD.end rfl rfl rfl ?_; apply OpV.pure)); (first | (apply PureAt.ar64 rfl rfl rfl; omega) | exact .eval tab_ok rfl | (apply PureAt.ld tab_ok rfl rfl; (focus repeat first | exact .head _ | apply List.Mem.tail); rfl) | (apply PureAt.shr rfl rfl (by decide) (by decide)) | (apply PureAt.shr rfl rfl (by omega) (by simp only [IntKind.bits]; omega)) | exact .fieldAddrA tab_ok rfl rfl | exact .sliceLH tab_ok rfl rfl rfl rfl (by omega) (by omega) | exact .sliceH tab_ok rfl rfl rfl (by omega) | exact .sliceL tab_ok rfl rfl rfl (by omega) | (first | exact .indexAddr tab_ok rfl rfl rfl rfl (by omega) | exact .indexAddrN tab_ok rfl rfl rfl rfl (by omega) | exact .indexAddrI tab_ok rfl rfl rfl rfl (toNatLit _) (by decide) (by omega) | exact .indexAddrNI tab_ok rfl rfl rfl rfl (toNatLit _) (by decide) (by omega) | exact .ldR tab_ok rfl rfl hr1 (List.getElem?_eq_getElem (by omega)) | exact .ldR tab_ok rfl rfl hr2 (List.getElem?_eq_getElem (by omega)) | exact ldB tab_ok rfl rfl hb1 (by omega) | exact ldB tab_ok rfl rfl hb2 (by omega)) | exact .sliceHI tab_ok rfl rfl rfl (toNatLit _) (by decide) (by omega) | exact .sliceLI tab_ok rfl rfl rfl (toNatLit _) (by decide) (by omega) | (apply PureAt.ldA tab_ok rfl rfl; (focus repeat first | exact .head _ | apply List.Mem.tail); rfl; rfl) | exact .ldro tab_ok rfl rfl (by assumption)); rfl) | refine VO.skip rfl rfl rfl rfl ?_ | refine VQ.skip rfl rfl rfl rfl ?_ | refine VD.skip rfl rfl rfl rfl rfl ?_ | refine VD.skipM rfl rfl Ent.refl rfl rfl rfl ?_ | ((first | refine VO.step rfl rfl ?_ | refine VD.end rfl rfl rfl ?_ | refine VD.mid rfl rfl rfl ?_); (first | (apply OpV.st tab_ok rfl rfl rfl rfl (by (repeat first | exact .head | apply Hole.tail); first | done | fail) (by first | (simp; done) | fail)) | (refine OpV.box rfl rfl rfl ?_; intro _))) | refine ⟨Ent.re, ?_⟩) | (first | refine VC.seq rfl ?_ | refine VC.region rfl ?_ | refine VC.condT rfl rfl ?_ | refine VC.condF rfl rfl ?_ | refine VC.block rfl ?_ | refine VC.skip rfl ?_ | refine VC.ret rfl ?_ | refine VC.exit rfl ?_ | refine VC.scope rfl ?_ | refine VC.label rfl ?_) | (first | refine VE.next ?_ | refine VE.passRet ?_ | refine VE.passExit ?_ | refine VE.blockNormal ?_ | refine VE.blockHit ?_ | refine VE.blockMiss rfl ?_ | refine VE.blockRet ?_ | refine VE.loopRet ?_ | refine VE.loopExit ?_ | refine VE.scopeNormal ?_ | refine VE.scopeRet ?_ | refine VE.scopeExit ?_))
      refine VO.re 114 (.int .i64 Z) rfl (by rw [hZ]) ?_
      (refine w ?_; repeat ((first | refine VO.step rfl rfl ?_ | refine VD.end rfl rfl rfl ?_ | refine VD.mid rfl rfl rfl ?_); refine OpV.box rfl rfl rfl ?_; intro _; refine w ?_))
      (refine VC.condFe rfl rfl (by simp [hZ]) ?_)
      (refine w ?_; repeat ((first | refine VO.step rfl rfl ?_ | refine VD.end rfl rfl rfl ?_ | refine VD.mid rfl rfl rfl ?_); refine OpV.box rfl rfl rfl ?_; intro _; refine w ?_))
      exact VE.round (k + 1) hkt (by omega) ⟨rfl, rfl, rfl, rfl, rfl, trivial⟩ Ent.refl
    · (refine w ?_; repeat ((first | refine VO.step rfl rfl ?_ | refine VD.end rfl rfl rfl ?_ | refine VD.mid rfl rfl rfl ?_); refine OpV.box rfl rfl rfl ?_; intro _; refine w ?_))
      refine VC.loop (α := Nat) (fun k => k ≤ 16) (fun _ => HH)
        (fun k => [(0, .slice (some lb) M.length lc), (5, .slice (some gb) Gs.length gc), (9, .int .i64 a), (10, .int .i64 e.n), (12, .int .i64 k)]) (fun k => 16 - k) rfl 0 (Nat.zero_le _) Ent.refl ⟨rfl, rfl, rfl, rfl, rfl, trivial⟩ ?_
      intro k hk
      (refine w ?_; repeat ((first | refine VO.step rfl rfl ?_ | refine VD.end rfl rfl rfl ?_ | refine VD.mid rfl rfl rfl ?_); refine OpV.box rfl rfl rfl ?_; intro _; refine w ?_))
      (refine VC.cond rfl rfl ?_ ?_ <;> intro hc)
      · have hkt : k < 16 := by have := of_decide_eq_true hc; omega
        have hk2 : (e.xs ++ marks2 a 16)[(e.n + k) * 2 + 0]? = some (val ((-1 - (a : Int)) * 1000 + (k : Int) + 7000000)) := by
          rw [List.getElem?_append_right (by omega), hel, show (e.n + k) * 2 + 0 - e.n * 2 = k * 2 + 0 by omega]; exact marks2_get a 16 k hkt
        (refine w ?_; repeat ((first | refine VO.step rfl rfl ?_ | refine VD.end rfl rfl rfl ?_ | refine VD.mid rfl rfl rfl ?_); refine OpV.box rfl rfl rfl ?_; intro _; refine w ?_))
        (first | refine VO.pure rfl rfl (PureAt.ldR tab_ok rfl rfl hr2 hlg) rfl ?_ | refine VD.take rfl rfl rfl (PureAt.ldR tab_ok rfl rfl hr2 hlg) rfl ?_ | refine VQ.pure rfl rfl (PureAt.ldR tab_ok rfl rfl hr2 hlg) rfl ?_ | refine VD.end rfl rfl rfl (OpV.pure (PureAt.ldR tab_ok rfl rfl hr2 hlg) rfl ?_))
        (first | (first | refine VO.nil rfl ?_ | refine VQ.nil rfl ?_ | refine VD.nil ?_ | ((first | apply VO.pure rfl rfl | apply VQ.pure rfl rfl | apply VD.take rfl rfl rfl | (refine VD.end rfl rfl rfl ?_; apply OpV.pure)); (first | (apply PureAt.ar64 rfl rfl rfl; omega) | exact .eval tab_ok rfl | (apply PureAt.ld tab_ok rfl rfl; (focus repeat first | exact .head _ | apply List.Mem.tail); rfl) | (apply PureAt.shr rfl rfl (by decide) (by decide)) | (apply PureAt.shr rfl rfl (by omega) (by simp only [IntKind.bits]; omega)) | exact .fieldAddrA tab_ok rfl rfl | exact .sliceLH tab_ok rfl rfl rfl rfl (by omega) (by omega) | exact .sliceH tab_ok rfl rfl rfl (by omega) | exact .sliceL tab_ok rfl rfl rfl (by omega) | (first | exact .indexAddr tab_ok rfl rfl rfl rfl (by omega) | exact .indexAddrN tab_ok rfl rfl rfl rfl (by omega) | exact .indexAddrI tab_ok rfl rfl rfl rfl (toNatLit _) (by decide) (by omega) | exact .indexAddrNI tab_ok rfl rfl rfl rfl (toNatLit _) (by decide) (by omega) | exact .ldR tab_ok rfl rfl hr1 (List.getElem?_eq_getElem (by omega)) | exact .ldR tab_ok rfl rfl hr2 (List.getElem?_eq_getElem (by omega)) | exact ldB tab_ok rfl rfl hb1 (by omega) | exact ldB tab_ok rfl rfl hb2 (by omega)) | exact .sliceHI tab_ok rfl rfl rfl (toNatLit _) (by decide) (by omega) | exact .sliceLI tab_ok rfl rfl rfl (toNatLit _) (by decide) (by omega) | (apply PureAt.ldA tab_ok rfl rfl; (focus repeat first | exact .head _ | apply List.Mem.tail); rfl; rfl) | exact .ldro tab_ok rfl rfl (by assumption)); rfl) | refine VO.skip rfl rfl rfl rfl ?_ | refine VQ.skip rfl rfl rfl rfl ?_ | refine VD.skip rfl rfl rfl rfl rfl ?_ | refine VD.skipM rfl rfl Ent.refl rfl rfl rfl ?_ | ((first | refine VO.step rfl rfl ?_ | refine VD.end rfl rfl rfl ?_ | refine VD.mid rfl rfl rfl ?_); (first | (apply OpV.st tab_ok rfl rfl rfl rfl (by (repeat first | exact .head | apply Hole.tail); first | done | fail) (by first | (simp; done) | fail)) | (refine OpV.box rfl rfl rfl ?_; intro _))) | refine ⟨Ent.re, ?_⟩) | (first | refine VC.seq rfl ?_ | refine VC.region rfl ?_ | refine VC.condT rfl rfl ?_ | refine VC.condF rfl rfl ?_ | refine VC.block rfl ?_ | refine VC.skip rfl ?_ | refine VC.ret rfl ?_ | refine VC.exit rfl ?_ | refine VC.scope rfl ?_ | refine VC.label rfl ?_) | (first | refine VE.next ?_ | refine VE.passRet ?_ | refine VE.passExit ?_ | refine VE.blockNormal ?_ | refine VE.blockHit ?_ | refine VE.blockMiss rfl ?_ | refine VE.blockRet ?_ | refine VE.loopRet ?_ | refine VE.loopExit ?_ | refine VE.scopeNormal ?_ | refine VE.scopeRet ?_ | refine VE.scopeExit ?_))
        (first | (first | refine VO.nil rfl ?_ | refine VQ.nil rfl ?_ | refine VD.nil ?_ | ((first | apply VO.pure rfl rfl | apply VQ.pure rfl rfl | apply VD.take rfl rfl rfl | (refine VD.end rfl rfl rfl ?_; apply OpV.pure)); (first | (apply PureAt.ar64 rfl rfl rfl; omega) | exact .eval tab_ok rfl | (apply PureAt.ld tab_ok rfl rfl; (focus repeat first | exact .head _ | apply List.Mem.tail); rfl) | (apply PureAt.shr rfl rfl (by decide) (by decide)) | (apply PureAt.shr rfl rfl (by omega) (by simp only [IntKind.bits]; omega)) | exact .fieldAddrA tab_ok rfl rfl | exact .sliceLH tab_ok rfl rfl rfl rfl (by omega) (by omega) | exact .sliceH tab_ok rfl rfl rfl (by omega) | exact .sliceL tab_ok rfl rfl rfl (by omega) | (first | exact .indexAddr tab_ok rfl rfl rfl rfl (by omega) | exact .indexAddrN tab_ok rfl rfl rfl rfl (by omega) | exact .indexAddrI tab_ok rfl rfl rfl rfl (toNatLit _) (by decide) (by omega) | exact .indexAddrNI tab_ok rfl rfl rfl rfl (toNatLit _) (by decide) (by omega) | exact .ldR tab_ok rfl rfl hr1 (List.getElem?_eq_getElem (by omega)) | exact .ldR tab_ok rfl rfl hr2 (List.getElem?_eq_getElem (by omega)) | exact ldB tab_ok rfl rfl hb1 (by omega) | exact ldB tab_ok rfl rfl hb2 (by omega)) | exact .sliceHI tab_ok rfl rfl rfl (toNatLit _) (by decide) (by omega) | exact .sliceLI tab_ok rfl rfl rfl (toNatLit _) (by decide) (by omega) | (apply PureAt.ldA tab_ok rfl rfl; (focus repeat first | exact .head _ | apply List.Mem.tail); rfl; rfl) | exact .ldro tab_ok rfl rfl (by assumption)); rfl) | refine VO.skip rfl rfl rfl rfl ?_ | refine VQ.skip rfl rfl rfl rfl ?_ | refine VD.skip rfl rfl rfl rfl rfl ?_ | refine VD.skipM rfl rfl Ent.refl rfl rfl rfl ?_ | ((first | refine VO.step rfl rfl ?_ | refine VD.end rfl rfl rfl ?_ | refine VD.mid rfl rfl rfl ?_); (first | (apply OpV.st tab_ok rfl rfl rfl rfl (by (repeat first | exact .head | apply Hole.tail); first | done | fail) (by first | (simp; done) | fail)) | (refine OpV.box rfl rfl rfl ?_; intro _))) | refine ⟨Ent.re, ?_⟩) | (first | refine VC.seq rfl ?_ | refine VC.region rfl ?_ | refine VC.condT rfl rfl ?_ | refine VC.condF rfl rfl ?_ | refine VC.block rfl ?_ | refine VC.skip rfl ?_ | refine VC.ret rfl ?_ | refine VC.exit rfl ?_ | refine VC.scope rfl ?_ | refine VC.label rfl ?_) | (first | refine VE.next ?_ | refine VE.passRet ?_ | refine VE.passExit ?_ | refine VE.blockNormal ?_ | refine VE.blockHit ?_ | refine VE.blockMiss rfl ?_ | refine VE.blockRet ?_ | refine VE.loopRet ?_ | refine VE.loopExit ?_ | refine VE.scopeNormal ?_ | refine VE.scopeRet ?_ | refine VE.scopeExit ?_))
        (first | (first | refine VO.nil rfl ?_ | refine VQ.nil rfl ?_ | refine VD.nil ?_ | ((first | apply VO.pure rfl rfl | apply VQ.pure rfl rfl | apply VD.take rfl rfl rfl | (refine VD.end rfl rfl rfl ?_; apply OpV.pure)); (first | (apply PureAt.ar64 rfl rfl rfl; omega) | exact .eval tab_ok rfl | (apply PureAt.ld tab_ok rfl rfl; (focus repeat first | exact .head _ | apply List.Mem.tail); rfl) | (apply PureAt.shr rfl rfl (by decide) (by decide)) | (apply PureAt.shr rfl rfl (by omega) (by simp only [IntKind.bits]; omega)) | exact .fieldAddrA tab_ok rfl rfl | exact .sliceLH tab_ok rfl rfl rfl rfl (by omega) (by omega) | exact .sliceH tab_ok rfl rfl rfl (by omega) | exact .sliceL tab_ok rfl rfl rfl (by omega) | (first | exact .indexAddr tab_ok rfl rfl rfl rfl (by omega) | exact .indexAddrN tab_ok rfl rfl rfl rfl (by omega) | exact .indexAddrI tab_ok rfl rfl rfl rfl (toNatLit _) (by decide) (by omega) | exact .indexAddrNI tab_ok rfl rfl rfl rfl (toNatLit _) (by decide) (by omega) | exact .ldR tab_ok rfl rfl hr1 (List.getElem?_eq_getElem (by omega)) | exact .ldR tab_ok rfl rfl hr2 (List.getElem?_eq_getElem (by omega)) | exact ldB tab_ok rfl rfl hb1 (by omega) | exact ldB tab_ok rfl rfl hb2 (by omega)) | exact .sliceHI tab_ok rfl rfl rfl (toNatLit _) (by decide) (by omega) | exact .sliceLI tab_ok rfl rfl rfl (toNatLit _) (by decide) (by omega) | (apply PureAt.ldA tab_ok rfl rfl; (focus repeat first | exact .head _ | apply List.Mem.tail); rfl; rfl) | exact .ldro tab_ok rfl rfl (by assumption)); rfl) | refine VO.skip rfl rfl rfl rfl ?_ | refine VQ.skip rfl rfl rfl rfl ?_ | refine VD.skip rfl rfl rfl rfl rfl ?_ | refine VD.skipM rfl rfl Ent.refl rfl rfl rfl ?_ | ((first | refine VO.step rfl rfl ?_ | refine VD.end rfl rfl rfl ?_ | refine VD.mid rfl rfl rfl ?_); (first | (apply OpV.st tab_ok rfl rfl rfl rfl (by (repeat first | exact .head | apply Hole.tail); first | done | fail) (by first | (simp; done) | fail)) | (refine OpV.box rfl rfl rfl ?_; intro _))) | refine ⟨Ent.re, ?_⟩) | (first | refine VC.seq rfl ?_ | refine VC.region rfl ?_ | refine VC.condT rfl rfl ?_ | refine VC.condF rfl rfl ?_ | refine VC.block rfl ?_ | refine VC.skip rfl ?_ | refine VC.ret rfl ?_ | refine VC.exit rfl ?_ | refine VC.scope rfl ?_ | refine VC.label rfl ?_) | (first | refine VE.next ?_ | refine VE.passRet ?_ | refine VE.passExit ?_ | refine VE.blockNormal ?_ | refine VE.blockHit ?_ | refine VE.blockMiss rfl ?_ | refine VE.blockRet ?_ | refine VE.loopRet ?_ | refine VE.loopExit ?_ | refine VE.scopeNormal ?_ | refine VE.scopeRet ?_ | refine VE.scopeExit ?_))
        refine VO.re 128 (.int .i64 ((e.n + k : Nat) : Int)) rfl (by congr 1) ?_
        (refine w ?_; repeat ((first | refine VO.step rfl rfl ?_ | refine VD.end rfl rfl rfl ?_ | refine VD.mid rfl rfl rfl ?_); refine OpV.box rfl rfl rfl ?_; intro _; refine w ?_))
        (first | refine VO.pure rfl rfl (PureAt.ldRc tab_ok rfl rfl hw' hk2) rfl ?_ | refine VD.take rfl rfl rfl (PureAt.ldRc tab_ok rfl rfl hw' hk2) rfl ?_ | refine VQ.pure rfl rfl (PureAt.ldRc tab_ok rfl rfl hw' hk2) rfl ?_ | refine VD.end rfl rfl rfl (OpV.pure (PureAt.ldRc tab_ok rfl rfl hw' hk2) rfl ?_))
        obtain ⟨Z, hZ⟩ : ∃ Z, Z = (-1 - (a : Int)) * 1000 + (k : Int) + 7000000 := ⟨_, rfl⟩
        (first | (first | refine VO.nil rfl ?_ | refine VQ.nil rfl ?_ | refine VD.nil ?_ | ((first | apply VO.pure rfl rfl | apply VQ.pure rfl rfl | apply VD.take rfl rfl rfl | (refine VD.end rfl rfl rfl ?_; apply OpV.pure)); (first | (apply PureAt.ar64 rfl rfl rfl; omega) | exact .eval tab_ok rfl | (apply PureAt.ld tab_ok rfl rfl; (focus repeat first | exact .head _ | apply List.Mem.tail); rfl) | (apply PureAt.shr rfl rfl (by decide) (by decide)) | (apply PureAt.shr rfl rfl (by omega) (by simp only [IntKind.bits]; omega)) | exact .fieldAddrA tab_ok rfl rfl | exact .sliceLH tab_ok rfl rfl rfl rfl (by omega) (by omega) | exact .sliceH tab_ok rfl rfl rfl (by omega) | exact .sliceL tab_ok rfl rfl rfl (by omega) | (first | exact .indexAddr tab_ok rfl rfl rfl rfl (by omega) | exact .indexAddrN tab_ok rfl rfl rfl rfl (by omega) | exact .indexAddrI tab_ok rfl rfl rfl rfl (toNatLit _) (by decide) (by omega) | exact .indexAddrNI tab_ok rfl rfl rfl rfl (toNatLit _) (by decide) (by omega) | exact .ldR tab_ok rfl rfl hr1 (List.getElem?_eq_getElem (by omega)) | exact .ldR tab_ok rfl rfl hr2 (List.getElem?_eq_getElem (by omega)) | exact ldB tab_ok rfl rfl hb1 (by omega) | exact ldB tab_ok rfl rfl hb2 (by omega)) | exact .sliceHI tab_ok rfl rfl rfl (toNatLit _) (by decide) (by omega) | exact .sliceLI tab_ok rfl rfl rfl (toNatLit _) (by decide) (by omega) | (apply PureAt.ldA tab_ok rfl rfl; (focus repeat first | exact .head _ | apply List.Mem.tail); rfl; rfl) | exact .ldro tab_ok rfl rfl (by assumption)); rfl) | refine VO.skip rfl rfl rfl rfl ?_ | refine VQ.skip rfl rfl rfl rfl ?_ | refine VD.skip rfl rfl rfl rfl rfl ?_ | refine VD.skipM rfl rfl Ent.refl rfl rfl rfl ?_ | ((first | refine VO.step rfl rfl ?_ | refine VD.end rfl rfl rfl ?_ | refine VD.mid rfl rfl rfl ?_); (first | (apply OpV.st tab_ok rfl rfl rfl rfl (by (repeat first | exact .head | apply Hole.tail); first | done | fail) (by first | (simp; done) | fail)) | (refine OpV.box rfl rfl rfl ?_; intro _))) | refine ⟨Ent.re, ?_⟩) | (first | refine VC.seq rfl ?_ | refine VC.region rfl ?_ | refine VC.condT rfl rfl ?_ | refine VC.condF rfl rfl ?_ | refine VC.block rfl ?_ | refine VC.skip rfl ?_ | refine VC.ret rfl ?_ | refine VC.exit rfl ?_ | refine VC.scope rfl ?_ | refine VC.label rfl ?_) | (first | refine VE.next ?_ | refine VE.passRet ?_ | refine VE.passExit ?_ | refine VE.blockNormal ?_ | refine VE.blockHit ?_ | refine VE.blockMiss rfl ?_ | refine VE.blockRet ?_ | refine VE.loopRet ?_ | refine VE.loopExit ?_ | refine VE.scopeNormal ?_ | refine VE.scopeRet ?_ | refine VE.scopeExit ?_))
        (first | (first | refine VO.nil rfl ?_ | refine VQ.nil rfl ?_ | refine VD.nil ?_ | ((first | apply VO.pure rfl rfl | apply VQ.pure rfl rfl | apply VD.take rfl rfl rfl | (refine VD.end rfl rfl rfl ?_; apply OpV.pure)); (first | (apply PureAt.ar64 rfl rfl rfl; omega) | exact .eval tab_ok rfl | (apply PureAt.ld tab_ok rfl rfl; (focus repeat first | exact .head _ | apply List.Mem.tail); rfl) | (apply PureAt.shr rfl rfl (by decide) (by decide)) | (apply PureAt.shr rfl rfl (by omega) (by simp only [IntKind.bits]; omega)) | exact .fieldAddrA tab_ok rfl rfl | exact .sliceLH tab_ok rfl rfl rfl rfl (by omega) (by omega) | exact .sliceH tab_ok rfl rfl rfl (by omega) | exact .sliceL tab_ok rfl rfl rfl (by omega) | (first | exact .indexAddr tab_ok rfl rfl rfl rfl (by omega) | exact .indexAddrN tab_ok rfl rfl rfl rfl (by omega) | exact .indexAddrI tab_ok rfl rfl rfl rfl (toNatLit _) (by decide) (by omega) | exact .indexAddrNI tab_ok rfl rfl rfl rfl (toNatLit _) (by decide) (by omega) | exact .ldR tab_ok rfl rfl hr1 (List.getElem?_eq_getElem (by omega)) | exact .ldR tab_ok rfl rfl hr2 (List.getElem?_eq_getElem (by omega)) | exact ldB tab_ok rfl rfl hb1 (by omega) | exact ldB tab_ok rfl rfl hb2 (by omega)) | exact .sliceHI tab_ok rfl rfl rfl (toNatLit _) (by decide) (by omega) | exact .sliceLI tab_ok rfl rfl rfl (toNatLit _) (by decide) (by omega) | (apply PureAt.ldA tab_ok rfl rfl; (focus repeat first | exact .head _ | apply List.Mem.tail); rfl; rfl) | exact .ldro tab_ok rfl rfl (by assumption)); rfl) | refine VO.skip rfl rfl rfl rfl ?_ | refine VQ.skip rfl rfl rfl rfl ?_ | refine VD.skip rfl rfl rfl rfl rfl ?_ | refine VD.skipM rfl rfl Ent.refl rfl rfl rfl ?_ | ((first | refine VO.step rfl rfl ?_ | refine VD.end rfl rfl rfl ?_ | refine VD.mid rfl rfl rfl ?_); (first | (apply OpV.st tab_ok rfl rfl rfl rfl (by (repeat first | exact .head | apply Hole.tail); first | done | fail) (by first | (simp; done) | fail)) | (refine OpV.box rfl rfl rfl ?_; intro _))) | refine ⟨Ent.re, ?_⟩) | (first | refine VC.seq rfl ?_ | refine VC.region rfl ?_ | refine VC.condT rfl rfl ?_ | refine VC.condF rfl rfl ?_ | refine VC.block rfl ?_ | refine VC.skip rfl ?_ | refine VC.ret rfl ?_ | refine VC.exit rfl ?_ | refine VC.scope rfl ?_ | refine VC.label rfl ?_) | (first | refine VE.next ?_ | refine VE.passRet ?_ | refine VE.passExit ?_ | refine VE.blockNormal ?_ | refine VE.blockHit ?_ | refine VE.blockMiss rfl ?_ | refine VE.blockRet ?_ | refine VE.loopRet ?_ | refine VE.loopExit ?_ | refine VE.scopeNormal ?_ | refine VE.scopeRet ?_ | refine VE.scopeExit ?_))
        (first | (first | refine VO.nil rfl ?_ | refine VQ.nil rfl ?_ | refine VD.nil ?_ | ((first | apply VO.pure rfl rfl | apply VQ.pure rfl rfl | apply VD.take rfl rfl rfl | (refine VD.end rfl rfl rfl ?_; apply OpV.pure)); (first | (apply PureAt.ar64 rfl rfl rfl; omega) | exact .eval tab_ok rfl | (apply PureAt.ld tab_ok rfl rfl; (focus repeat first | exact .head _ | apply List.Mem.tail); rfl) | (apply PureAt.shr rfl rfl (by decide) (by decide)) | (apply PureAt.shr rfl rfl (by omega) (by simp only [IntKind.bits]; omega)) | exact .fieldAddrA tab_ok rfl rfl | exact .sliceLH tab_ok rfl rfl rfl rfl (by omega) (by omega) | exact .sliceH tab_ok rfl rfl rfl (by omega) | exact .sliceL tab_ok rfl rfl rfl (by omega) | (first | exact .indexAddr tab_ok rfl rfl rfl rfl (by omega) | exact .indexAddrN tab_ok rfl rfl rfl rfl (by omega) | exact .indexAddrI tab_ok rfl rfl rfl rfl (toNatLit _) (by decide) (by omega) | exact .indexAddrNI tab_ok rfl rfl rfl rfl (toNatLit _) (by decide) (by omega) | exact .ldR tab_ok rfl rfl hr1 (List.getElem?_eq_getElem (by omega)) | exact .ldR tab_ok rfl rfl hr2 (List.getElem?_eq_getElem (by omega)) | exact ldB tab_ok rfl rfl hb1 (by omega) | exact ldB tab_ok rfl rfl hb2 (by omega)) | exact .sliceHI tab_ok rfl rfl rfl (toNatLit _) (by decide) (by omega) | exact .sliceLI tab_ok rfl rfl rfl (toNatLit _) (by decide) (by omega) | (apply PureAt.ldA tab_ok rfl rfl; (focus repeat first | exact .head _ | apply List.Mem.tail); rfl; rfl) | exact .ldro tab_ok rfl rfl (by assumption)); rfl) | refine VO.skip rfl rfl rfl rfl ?_ | refine VQ.skip rfl rfl rfl rfl ?_ | refine VD.skip rfl rfl rfl rfl rfl ?_ | refine VD.skipM rfl rfl Ent.refl rfl rfl rfl ?_ | ((first | refine VO.step rfl rfl ?_ | refine VD.end rfl rfl rfl ?_ | refine VD.mid rfl rfl rfl ?_); (first | (apply OpV.st tab_ok rfl rfl rfl rfl (by (repeat first | exact .head | apply Hole.tail); first | done | fail) (by first | (simp; done) | fail)) | (refine OpV.box rfl rfl rfl ?_; intro _))) | refine ⟨Ent.re, ?_⟩) | (first | refine VC.seq rfl ?_ | refine VC.region rfl ?_ | refine VC.condT rfl rfl ?_ | refine VC.condF rfl rfl ?_ | refine VC.block rfl ?_ | refine VC.skip rfl ?_ | refine VC.ret rfl ?_ | refine VC.exit rfl ?_ | refine VC.scope rfl ?_ | refine VC.label rfl ?_) | (first | refine VE.next ?_ | refine VE.passRet ?_ | refine VE.passExit ?_ | refine VE.blockNormal ?_ | refine VE.blockHit ?_ | refine VE.blockMiss rfl ?_ | refine VE.blockRet ?_ | refine VE.loopRet ?_ | refine VE.loopExit ?_ | refine VE.scopeNormal ?_ | refine VE.scopeRet ?_ | refine VE.scopeExit ?_))
        (first | (first | refine VO.nil rfl ?_ | refine VQ.nil rfl ?_ | refine VD.nil ?_ | ((first | apply VO.pure rfl rfl | apply VQ.pure rfl rfl | apply VD.take rfl rfl rfl | (refine VD.end rfl rfl rfl ?_; apply OpV.pure)); (first | (apply PureAt.ar64 rfl rfl rfl; omega) | exact .eval tab_ok rfl | (apply PureAt.ld tab_ok rfl rfl; (focus repeat first | exact .head _ | apply List.Mem.tail); rfl) | (apply PureAt.shr rfl rfl (by decide) (by decide)) | (apply PureAt.shr rfl rfl (by omega) (by simp only [IntKind.bits]; omega)) | exact .fieldAddrA tab_ok rfl rfl | exact .sliceLH tab_ok rfl rfl rfl rfl (by omega) (by omega) | exact .sliceH tab_ok rfl rfl rfl (by omega) | exact .sliceL tab_ok rfl rfl rfl (by omega) | (first | exact .indexAddr tab_ok rfl rfl rfl rfl (by omega) | exact .indexAddrN tab_ok rfl rfl rfl rfl (by omega) | exact .indexAddrI tab_ok rfl rfl rfl rfl (toNatLit _) (by decide) (by omega) | exact .indexAddrNI tab_ok rfl rfl rfl rfl (toNatLit _) (by decide) (by omega) | exact .ldR tab_ok rfl rfl hr1 (List.getElem?_eq_getElem (by omega)) | exact .ldR tab_ok rfl rfl hr2 (List.getElem?_eq_getElem (by omega)) | exact ldB tab_ok rfl rfl hb1 (by omega) | exact ldB tab_ok rfl rfl hb2 (by omega)) | exact .sliceHI tab_ok rfl rfl rfl (toNatLit _) (by decide) (by omega) | exact .sliceLI tab_ok rfl rfl rfl (toNatLit _) (by decide) (by omega) | (apply PureAt.ldA tab_ok rfl rfl; (focus repeat first | exact .head _ | apply List.Mem.tail); rfl; rfl) | exact .ldro tab_ok rfl rfl (by assumption)); rfl) | refine VO.skip rfl rfl rfl rfl ?_ | refine VQ.skip rfl rfl rfl rfl ?_ | refine VD.skip rfl rfl rfl rfl rfl ?_ | refine VD.skipM rfl rfl Ent.refl rfl rfl rfl ?_ | ((first | refine VO.step rfl rfl ?_ | refine VD.end rfl rfl rfl ?_ | refine VD.mid rfl rfl rfl ?_); (first | (apply OpV.st tab_ok rfl rfl rfl rfl (by (repeat first | exact .head | apply Hole.tail); first | done | fail) (by first | (simp; done) | fail)) | (refine OpV.box rfl rfl rfl ?_; intro _))) | refine ⟨Ent.re, ?_⟩) | (first | refine VC.seq rfl ?_ | refine VC.region rfl ?_ | refine VC.condT rfl rfl ?_ | refine VC.condF rfl rfl ?_ | refine VC.block rfl ?_ | refine VC.skip rfl ?_ | refine VC.ret rfl ?_ | refine VC.exit rfl ?_ | refine VC.scope rfl ?_ | refine VC.label rfl ?_) | (first | refine VE.next ?_ | refine VE.passRet ?_ | refine VE.passExit ?_ | refine VE.blockNormal ?_ | refine VE.blockHit ?_ | refine VE.blockMiss rfl ?_ | refine VE.blockRet ?_ | refine VE.loopRet ?_ | refine VE.loopExit ?_ | refine VE.scopeNormal ?_ | refine VE.scopeRet ?_ | refine VE.scopeExit ?_))
        (first | (first | refine VO.nil rfl ?_ | refine VQ.nil rfl ?_ | refine VD.nil ?_ | ((first | apply VO.pure rfl rfl | apply VQ.pure rfl rfl | apply VD.take rfl rfl rfl | (refine VD.end rfl rfl rfl ?_; apply OpV.pure)); (first | (apply PureAt.ar64 rfl rfl rfl; omega) | exact .eval tab_ok rfl | (apply PureAt.ld tab_ok rfl rfl; (focus repeat first | exact .head _ | apply List.Mem.tail); rfl) | (apply PureAt.shr rfl rfl (by decide) (by decide)) | (apply PureAt.shr rfl rfl (by omega) (by simp only [IntKind.bits]; omega)) | exact .fieldAddrA tab_ok rfl rfl | exact .sliceLH tab_ok rfl rfl rfl rfl (by omega) (by omega) | exact .sliceH tab_ok rfl rfl rfl (by omega) | exact .sliceL tab_ok rfl rfl rfl (by omega) | (first | exact .indexAddr tab_ok rfl rfl rfl rfl (by omega) | exact .indexAddrN tab_ok rfl rfl rfl rfl (by omega) | exact .indexAddrI tab_ok rfl rfl rfl rfl (toNatLit _) (by decide) (by omega) | exact .indexAddrNI tab_ok rfl rfl rfl rfl (toNatLit _) (by decide) (by omega) | exact .ldR tab_ok rfl rfl hr1 (List.getElem?_eq_getElem (by omega)) | exact .ldR tab_ok rfl rfl hr2 (List.getElem?_eq_getElem (by omega)) | exact ldB tab_ok rfl rfl hb1 (by omega) | exact ldB tab_ok rfl rfl hb2 (by omega)) | exact .sliceHI tab_ok rfl rfl rfl (toNatLit _) (by decide) (by omega) | exact .sliceLI tab_ok rfl rfl rfl (toNatLit _) (by decide) (by omega) | (apply PureAt.ldA tab_ok rfl rfl; (focus repeat first | exact .head _ | apply List.Mem.tail); rfl; rfl) | exact .ldro tab_ok rfl rfl (by assumption)); rfl) | refine VO.skip rfl rfl rfl rfl ?_ | refine VQ.skip rfl rfl rfl rfl ?_ | refine VD.skip rfl rfl rfl rfl rfl ?_ | refine VD.skipM rfl rfl Ent.refl rfl rfl rfl ?_ | ((first | refine VO.step rfl rfl ?_ | refine VD.end rfl rfl rfl ?_ | refine VD.mid rfl rfl rfl ?_); (first | (apply OpV.st tab_ok rfl rfl rfl rfl (by (repeat first | exact .head | apply Hole.tail); first | done | fail) (by first | (simp; done) | fail)) | (refine OpV.box rfl rfl rfl ?_; intro _))) | refine ⟨Ent.re, ?_⟩) | (first | refine VC.seq rfl ?_ | refine VC.region rfl ?_ | refine VC.condT rfl rfl ?_ | refine VC.condF rfl rfl ?_ | refine VC.block rfl ?_ | refine VC.skip rfl ?_ | refine VC.ret rfl ?_ | refine VC.exit rfl ?_ | refine VC.scope rfl ?_ | refine VC.label rfl ?_) | (first | refine VE.next ?_ | refine VE.passRet ?_ | refine VE.passExit ?_ | refine VE.blockNormal ?_ | refine VE.blockHit ?_ | refine VE.blockMiss rfl ?_ | refine VE.blockRet ?_ | refine VE.loopRet ?_ | refine VE.loopExit ?_ | refine VE.scopeNormal ?_ | refine VE.scopeRet ?_ | refine VE.scopeExit ?_))
        (first | (first | refine VO.nil rfl ?_ | refine VQ.nil rfl ?_ | refine VD.nil ?_ | ((first | apply VO.pure rfl rfl | apply VQ.pure rfl rfl | apply VD.take rfl rfl rfl | (refine VD.end rfl rfl rfl ?_; apply OpV.pure)); (first | (apply PureAt.ar64 rfl rfl rfl; omega) | exact .eval tab_ok rfl | (apply PureAt.ld tab_ok rfl rfl; (focus repeat first | exact .head _ | apply List.Mem.tail); rfl) | (apply PureAt.shr rfl rfl (by decide) (by decide)) | (apply PureAt.shr rfl rfl (by omega) (by simp only [IntKind.bits]; omega)) | exact .fieldAddrA tab_ok rfl rfl | exact .sliceLH tab_ok rfl rfl rfl rfl (by omega) (by omega) | exact .sliceH tab_ok rfl rfl rfl (by omega) | exact .sliceL tab_ok rfl rfl rfl (by omega) | (first | exact .indexAddr tab_ok rfl rfl rfl rfl (by omega) | exact .indexAddrN tab_ok rfl rfl rfl rfl (by omega) | exact .indexAddrI tab_ok rfl rfl rfl rfl (toNatLit _) (by decide) (by omega) | exact .indexAddrNI tab_ok rfl rfl rfl rfl (toNatLit _) (by decide) (by omega) | exact .ldR tab_ok rfl rfl hr1 (List.getElem?_eq_getElem (by omega)) | exact .ldR tab_ok rfl rfl hr2 (List.getElem?_eq_getElem (by omega)) | exact ldB tab_ok rfl rfl hb1 (by omega) | exact ldB tab_ok rfl rfl hb2 (by omega)) | exact .sliceHI tab_ok rfl rfl rfl (toNatLit _) (by decide) (by omega) | exact .sliceLI tab_ok rfl rfl rfl (toNatLit _) (by decide) (by omega) | (apply PureAt.ldA tab_ok rfl rfl; (focus repeat first | exact .head _ | apply List.Mem.tail); rfl; rfl) | exact .ldro tab_ok rfl rfl (by assumption)); rfl) | refine VO.skip rfl rfl rfl rfl ?_ | refine VQ.skip rfl rfl rfl rfl ?_ | refine VD.skip rfl rfl rfl rfl rfl ?_ | refine VD.skipM rfl rfl Ent.refl rfl rfl rfl ?_ | ((first | refine VO.step rfl rfl ?_ | refine VD.end rfl rfl rfl ?_ | refine VD.mid rfl rfl rfl ?_); (first | (apply OpV.st tab_ok rfl rfl rfl rfl (by (repeat first | exact .head | apply Hole.tail); first | done | fail) (by first | (simp; done) | fail)) | (refine OpV.box rfl rfl rfl ?_; intro _))) | refine ⟨Ent.re, ?_⟩) | (first | refine VC.seq rfl ?_ | refine VC.region rfl ?_ | refine VC.condT rfl rfl ?_ | refine VC.condF rfl rfl ?_ | refine VC.block rfl ?_ | refine VC.skip rfl ?_ | refine VC.ret rfl ?_ | refine VC.exit rfl ?_ | refine VC.scope rfl ?_ | refine VC.label rfl ?_) | (first | refine VE.next ?_ | refine VE.passRet ?_ | refine VE.passExit ?_ | refine VE.blockNormal ?_ | refine VE.blockHit ?_ | refine VE.blockMiss rfl ?_ | refine VE.blockRet ?_ | refine VE.loopRet ?_ | refine VE.loopExit ?_ | refine VE.scopeNormal ?_ | refine VE.scopeRet ?_ | refine VE.scopeExit ?_))
        refine VO.re 137 (.int .i64 Z) rfl (by rw [hZ]) ?_
        (refine w ?_; repeat ((first | refine VO.step rfl rfl ?_ | refine VD.end rfl rfl rfl ?_ | refine VD.mid rfl rfl rfl ?_); refine OpV.box rfl rfl rfl ?_; intro _; refine w ?_))
        (refine VC.condFe rfl rfl (by simp [hZ]) ?_)
        (refine w ?_; repeat ((first | refine VO.step rfl rfl ?_ | refine VD.end rfl rfl rfl ?_ | refine VD.mid rfl rfl rfl ?_); refine OpV.box rfl rfl rfl ?_; intro _; refine w ?_))
        exact VE.round (k + 1) hkt (by omega) ⟨rfl, rfl, rfl, rfl, rfl, trivial⟩ Ent.refl
      · (refine w ?_; repeat ((first | refine VO.step rfl rfl ?_ | refine VD.end rfl rfl rfl ?_ | refine VD.mid rfl rfl rfl ?_); refine OpV.box rfl rfl rfl ?_; intro _; refine w ?_))
        exact VE.round (a + 1) hlt (by omega) ⟨rfl, rfl, rfl, trivial⟩ Ent.refl
  · (refine w ?_; repeat ((first | refine VO.step rfl rfl ?_ | refine VD.end rfl rfl rfl ?_ | refine VD.mid rfl rfl rfl ?_); refine OpV.box rfl rfl rfl ?_; intro _; refine w ?_))
    (refine VE.done1 rfl ?_ ?_)
    · rfl
    · exact hend
end Tx
end Go.Proofs.YtpmmkmcbimnigaaGreat

/-! Text Qd. -/
/- The document's book: lists of rows that are their owner's own (ownRows). -/
set_option maxRecDepth 8000
set_option linter.unusedVariables false
set_option linter.unusedSimpArgs false
set_option linter.unusedSectionVars false
namespace Go.Proofs.YtpmmkmcbimnigaaGreat
open Go.RowKit Go.Sl
attribute [local irreducible] Own
namespace Rw

theorem shrI {W : World} {P : Program} {n : Nat} {H : List SProp} {f : Fr} {dst : Option Tmp} {ty_ : TypeId} {pos : String} {after : Array Edge} {guard : Option (Nat × Bool)} {x y : Operand} {s u : TypeId} {k k' : IntKind} {m : Int} {j : Int} (hx : evalX f x = some (.int k m)) (hy : evalX f y = some (.int k' j)) (h0 : 0 ≤ j) (hb : j.toNat ≤ k.bits) :
    PureAt W P n H f { dst, op := .binOp .shr s x y u, type := ty_, pos, after, guard } (.int k (m.fdiv (2 ^ j.toNat))) := by
  unfold PureAt
  intro tm w hk _
  have e1 : ¬ j < 0 := by omega
  simp [execOp, hk.eval hx, hk.eval hy, eqGuard, binOp, Op.shift, e1, Nat.min_eq_left hb]
def ub (z : Int) : UInt8 := UInt8.ofNat (z % 256).toNat
theorem ub_of (z : Int) : byteV (ub z) = Value.int .u8 (IntKind.u8.wrap z) := by
  have h : IntKind.u8.wrap z = z % 256 := by
    simp only [IntKind.wrap, IntKind.bits, IntKind.signed, Bool.false_and, Bool.false_eq_true, if_false]
    omega
  unfold byteV ub
  rw [h]
  congr 1
  have : (z % 256).toNat < 256 := by omega
  rw [UInt8.toNat_ofNat', Nat.mod_eq_of_lt (by simpa using this)]
  omega
def rb (x y k : Int) : List UInt8 := [ub x, ub y, ub k, 5]
theorem rb_bytes (x y k : Int) : bytes (rb x y k) = [.int .u8 (IntKind.u8.wrap x), .int .u8 (IntKind.u8.wrap y), .int .u8 (IntKind.u8.wrap k), .int .u8 5] := by
  show [byteV (ub x), byteV (ub y), byteV (ub k), byteV 5] = _
  rw [ub_of, ub_of, ub_of]; rfl
abbrev rb1 (a k : Nat) : List UInt8 := rb (a : Int) (((a / 2 ^ 8 : Nat)) : Int) (k : Int)
abbrev rb2 (a k : Nat) : List UInt8 := rb (-1 - (a : Int)) ((-1 - (a : Int)).fdiv (2 ^ 8)) (k : Int)
abbrev hd (b : Nat) : Value := .slice (some ⟨b, 0, none⟩) 4 4
abbrev hdrs (bs : List Nat) : List Value := bs.map hd
theorem hdrs_one (bs : List Nat) : ∀ u ∈ hdrs bs, u.oneCell' = true := by
  intro u hu; obtain ⟨b, _, rfl⟩ := List.mem_map.1 hu; rfl
abbrev Pool := List (Nat × List UInt8)
def rowR (x : Nat × List UInt8) : SProp := Row x.1 5 (bytes x.2)
abbrev poolR (p : Pool) : SProp := pile rowR p
theorem pool_rds {W : World} {H : List SProp} {p : Pool} {b : Nat} {l : List UInt8} (m : poolR p ∈ H) (h : (b, l) ∈ p) : Rds W H 1 (some ⟨b, 0, none⟩) l.length (bytes l) :=
  Rds.pile m h fun R hR => Rds.row (bytes_one _) hR (by simp)
def res (e : ListN) : SProp := Own 22 1 (.slice e.ao e.n e.cap) e.n e.xs
/-- The lists, the first so many of them with new rows. -/
def mkd (E : List ListN) (Bs : List (List Nat)) : List ListN := E.mapIdx fun j e => match Bs[j]? with
  | some bs => ⟨e.ao, e.cap, e.n, hdrs bs⟩
  | none => e
theorem mkd_length (E : List ListN) (Bs : List (List Nat)) : (mkd E Bs).length = E.length := by simp [mkd]
theorem mkd_get (E : List ListN) (Bs : List (List Nat)) (j : Nat) (h : j < E.length) : (mkd E Bs)[j]'(by rw [mkd_length]; exact h) = match Bs[j]? with
  | some bs => ⟨E[j].ao, E[j].cap, E[j].n, hdrs bs⟩
  | none => E[j] := by simp [mkd]
theorem mkd_nil (E : List ListN) : mkd E [] = E := by
  unfold mkd; apply List.ext_getElem (by simp); intro i h1 h2; simp
theorem mkd_set (E : List ListN) (Bs : List (List Nat)) (bs : List Nat) (h : Bs.length < E.length) : (mkd E Bs).set Bs.length ⟨E[Bs.length].ao, E[Bs.length].cap, E[Bs.length].n, hdrs bs⟩ = mkd E (Bs ++ [bs]) := by
  apply List.ext_getElem (by simp [mkd_length])
  intro j h1 h2
  have hj : j < E.length := by simpa [mkd_length] using h2
  rw [List.getElem_set, mkd_get E (Bs ++ [bs]) j hj]
  split
  · rename_i q; subst q; rw [List.getElem?_append_right (Nat.le_refl _)]; simp
  · rename_i q
    rw [mkd_get E Bs j hj]
    by_cases q2 : j < Bs.length
    · rw [List.getElem?_append_left q2]
    · rw [List.getElem?_eq_none (by omega), List.getElem?_eq_none (by simp; omega)]
structure In (a : Nat) (n : Nat) (bs : List Nat) (p : Pool) (g : Nat → Nat → List UInt8) : Prop where
  len : bs.length = n
  all : ∀ k b, bs[k]? = some b → (b, g a k) ∈ p
theorem In.more {a n : Nat} {bs : List Nat} {p : Pool} {g : Nat → Nat → List UInt8} (h : In a n bs p g) {q : Pool} (hs : ∀ x ∈ p, x ∈ q) : In a n bs q g := ⟨h.len, fun k b hk => hs _ (h.all k b hk)⟩
theorem In.push {a : Nat} {bs : List Nat} {p : Pool} {g : Nat → Nat → List UInt8} (h : In a bs.length bs p g) (b : Nat) : In a (bs ++ [b]).length (bs ++ [b]) (p ++ [(b, g a bs.length)]) g := by
  refine ⟨rfl, fun k c hk => ?_⟩
  by_cases q : k < bs.length
  · rw [List.getElem?_append_left q] at hk
    exact List.mem_append_left _ (h.all k c hk)
  · rw [List.getElem?_append_right (by omega)] at hk
    have hkk : k - bs.length = 0 := by
      cases hz : k - bs.length with
      | zero => rfl
      | succ z => rw [hz] at hk; cases hk
    rw [hkk] at hk
    injection hk with hk
    subst hk
    rw [show k = bs.length by omega]
    simp
/-- The lists, the first of them with what has grown out of them. -/
abbrev Grn := Option Addr × Nat × List Nat
def twin (e : ListN) (g : Grn) : SProp := TwinR 22 1 e.ao e.cap e.n e.xs g.1 g.2.1 (e.n + g.2.2.length) (e.xs ++ hdrs g.2.2)
def grs (M : List ListN) (Gs : List Grn) : List SProp := M.mapIdx fun j e => match Gs[j]? with
  | some g => twin e g
  | none => res e
theorem grs_length (M : List ListN) (Gs : List Grn) : (grs M Gs).length = M.length := by simp [grs]
theorem grs_nil (M : List ListN) : grs M [] = M.map res := by
  unfold grs; apply List.ext_getElem (by simp); intro i h1 h2; simp
theorem grs_get (M : List ListN) (Gs : List Grn) (j : Nat) (h : j < M.length) : (grs M Gs)[j]'(by rw [grs_length]; exact h) = match Gs[j]? with
  | some g => twin M[j] g
  | none => res M[j] := by simp [grs]
theorem grs_set (M : List ListN) (Gs : List Grn) (g : Grn) (h : Gs.length < M.length) : (grs M Gs).set Gs.length (twin M[Gs.length] g) = grs M (Gs ++ [g]) := by
  apply List.ext_getElem (by simp [grs_length])
  intro j h1 h2
  have hj : j < M.length := by simpa [grs_length] using h2
  rw [List.getElem_set, grs_get M (Gs ++ [g]) j hj]
  split
  · rename_i q; subst q; rw [List.getElem?_append_right (Nat.le_refl _)]; simp
  · rename_i q
    rw [grs_get M Gs j hj]
    by_cases q2 : j < Gs.length
    · rw [List.getElem?_append_left q2]
    · rw [List.getElem?_eq_none (by omega), List.getElem?_eq_none (by simp; omega)]
def longH (M : List ListN) (Gs : List Grn) : List Value := Gs.mapIdx fun j g => .slice g.1 (((M[j]?).map fun e => e.n).getD 0 + g.2.2.length) g.2.1
theorem longH_length (M : List ListN) (Gs : List Grn) : (longH M Gs).length = Gs.length := by simp [longH]
theorem longH_snoc (M : List ListN) (Gs : List Grn) (g : Grn) (h : Gs.length < M.length) : longH M (Gs ++ [g]) = longH M Gs ++ [.slice g.1 (M[Gs.length].n + g.2.2.length) g.2.1] := by
  unfold longH
  rw [List.mapIdx_append]
  congr 1
  simp [List.getElem?_eq_getElem h]
theorem longH_one (M : List ListN) (Gs : List Grn) : ∀ u ∈ longH M Gs, u.oneCell' = true := by
  intro u hu
  obtain ⟨j, hj, rfl⟩ := List.mem_iff_getElem.1 hu
  simp [longH, Value.oneCell']
theorem hdrs_set {bs : List Nat} {xs : List Value} {k : Nat} (hk : bs.length = k) (h : k < xs.length) (b : Nat) : (hdrs bs ++ xs.drop k).set k (hd b) = hdrs (bs ++ [b]) ++ xs.drop (k + 1) := by
  subst hk
  rw [List.set_append_right _ _ (by rw [List.length_map]; exact Nat.le_refl _), List.length_map, Nat.sub_self, List.drop_eq_getElem_cons h, List.set_cons_zero, hdrs, hdrs, List.map_append, List.append_assoc]; rfl
set_option maxHeartbeats 8000000 in
theorem own_ok {W : World} {R : List SProp} {lo : Option Addr} {lc : Nat} {E : List ListN} (hn : E.length ≤ 1000000000) (hl : ∀ e ∈ E, e.n ≤ 1000000000) :
    Does1 W Tryz.prog 81 [.slice lo E.length lc] (Own 45 1 (.slice lo E.length lc) E.length (E.map ListN.hdr) :: (E.map res ++ R)) (.bool true) R := by
  (refine Does.enter Tryz.func81 Tryz.ntmps81 rfl rfl ?_)
  refine VC.know (p := lo = none → E.length = 0) (fun w hw => hw.ownNone (.head _)) ?_
  intro hln
  (refine w ?_; repeat ((first | refine VO.step rfl rfl ?_ | refine VD.end rfl rfl rfl ?_ | refine VD.mid rfl rfl rfl ?_); refine OpV.box rfl rfl rfl ?_; intro _; refine w ?_))
  refine VC.loop (α := List (List Nat) × Pool) (fun y => y.1.length ≤ E.length ∧ ∀ j bs, y.1[j]? = some bs → ∀ e, E[j]? = some e → In j e.n bs y.2 rb1)
    (fun y => Own 45 1 (.slice lo E.length lc) E.length (E.map ListN.hdr) :: poolR y.2 :: ((mkd E y.1).map res ++ R)) (fun y => [(0, .slice lo E.length lc), (3, .int .i64 y.1.length)]) (fun y => E.length - y.1.length) rfl ([], []) ⟨Nat.zero_le _, fun j bs h => (by cases h)⟩
    (by rw [mkd_nil]; exact fun w hw => (pile_nil (res := rowR) hw).swap) ⟨rfl, rfl, trivial⟩ ?_
  rintro ⟨Bs, pool⟩ ⟨ha, hin⟩
  dsimp only at ha hin ⊢
  (refine w ?_; repeat ((first | refine VO.step rfl rfl ?_ | refine VD.end rfl rfl rfl ?_ | refine VD.mid rfl rfl rfl ?_); refine OpV.box rfl rfl rfl ?_; intro _; refine w ?_))
  (refine VC.cond rfl rfl ?_ ?_ <;> intro hc)
  · have hlt : Bs.length < E.length := by have := of_decide_eq_true hc; omega
    obtain ⟨lb, rfl⟩ : ∃ lb, lo = some lb := by cases lo with | none => have := hln rfl; omega | some lb => exact ⟨lb, rfl⟩
    have hla := hl _ (List.getElem_mem hlt)
    have hget : (E.map ListN.hdr)[Bs.length]? = some (.slice E[Bs.length].ao E[Bs.length].n E[Bs.length].cap) := by rw [List.getElem?_map, List.getElem?_eq_getElem hlt]; rfl
    have hmlen : ((mkd E Bs).map res).length = E.length := by rw [List.length_map, mkd_length]
    have hself : (mkd E Bs).map res = ((mkd E Bs).map res).set Bs.length (Own 22 1 (.slice E[Bs.length].ao E[Bs.length].n E[Bs.length].cap) E[Bs.length].n (hdrs [] ++ E[Bs.length].xs.drop 0)) := by
      have e1 : ((mkd E Bs).map res)[Bs.length]'(by rw [hmlen]; exact hlt) = Own 22 1 (.slice E[Bs.length].ao E[Bs.length].n E[Bs.length].cap) E[Bs.length].n (hdrs [] ++ E[Bs.length].xs.drop 0) := by
        rw [List.getElem_map, mkd_get E Bs _ hlt, List.getElem?_eq_none (Nat.le_refl _)]; rfl
      rw [← e1, List.set_getElem_self]
    have hnext : ∀ bs, ((mkd E Bs).map res).set Bs.length (Own 22 1 (.slice E[Bs.length].ao E[Bs.length].n E[Bs.length].cap) E[Bs.length].n (hdrs bs)) = (mkd E (Bs ++ [bs])).map res := fun bs => by
      rw [← mkd_set E Bs bs hlt, List.map_set]; rfl
    generalize hL : (mkd E Bs).map res = L at *
    (refine w ?_; repeat ((first | refine VO.step rfl rfl ?_ | refine VD.end rfl rfl rfl ?_ | refine VD.mid rfl rfl rfl ?_); refine OpV.box rfl rfl rfl ?_; intro _; refine w ?_))
    refine VC.loop (α := List Nat × Pool) (fun y => y.1.length ≤ E[Bs.length].n ∧ In Bs.length y.1.length y.1 y.2 rb1 ∧ ∀ x ∈ pool, x ∈ y.2)
      (fun y => Own 45 1 (.slice (some lb) E.length lc) E.length (E.map ListN.hdr) :: poolR y.2 :: (L.set Bs.length (Own 22 1 (.slice E[Bs.length].ao E[Bs.length].n E[Bs.length].cap) E[Bs.length].n (hdrs y.1 ++ E[Bs.length].xs.drop y.1.length)) ++ R))
      (fun y => [(0, .slice (some lb) E.length lc), (3, .int .i64 Bs.length), (4, .int .i64 y.1.length)]) (fun y => E[Bs.length].n - y.1.length) rfl ([], pool) ⟨Nat.zero_le _, ⟨rfl, fun k b h => (by cases h)⟩, fun _ h => h⟩ (by dsimp only [List.length_nil]; rw [← hself]; exact Ent.refl) ⟨rfl, rfl, rfl, trivial⟩ ?_
    rintro ⟨bs, pl⟩ ⟨hk, hb, hs⟩
    dsimp only at hk hb hs ⊢
    refine VC.know (p := E[Bs.length].ao = none → E[Bs.length].n = 0) (fun w hw => Holds.ownNone hw (.tail _ (.tail _ (mem_set L _ _ (by omega))))) ?_
    intro han
    refine VC.know (fun w hw => Holds.ownLen hw (.tail _ (.tail _ (mem_set L _ _ (by omega))))) ?_
    intro hlen
    (refine w ?_; repeat ((first | refine VO.step rfl rfl ?_ | refine VD.end rfl rfl rfl ?_ | refine VD.mid rfl rfl rfl ?_); refine OpV.box rfl rfl rfl ?_; intro _; refine w ?_))
    (first | refine VO.pure rfl rfl (PureAt.ldR tab_ok rfl rfl (Rds.own (ListN.hdrs_one E) (.head _) (by rw [List.length_map, Nat.mul_one]) (fun h => by cases h)) hget) rfl ?_ | refine VD.take rfl rfl rfl (PureAt.ldR tab_ok rfl rfl (Rds.own (ListN.hdrs_one E) (.head _) (by rw [List.length_map, Nat.mul_one]) (fun h => by cases h)) hget) rfl ?_ | refine VQ.pure rfl rfl (PureAt.ldR tab_ok rfl rfl (Rds.own (ListN.hdrs_one E) (.head _) (by rw [List.length_map, Nat.mul_one]) (fun h => by cases h)) hget) rfl ?_ | refine VD.end rfl rfl rfl (OpV.pure (PureAt.ldR tab_ok rfl rfl (Rds.own (ListN.hdrs_one E) (.head _) (by rw [List.length_map, Nat.mul_one]) (fun h => by cases h)) hget) rfl ?_))
    (refine w ?_; repeat ((first | refine VO.step rfl rfl ?_ | refine VD.end rfl rfl rfl ?_ | refine VD.mid rfl rfl rfl ?_); refine OpV.box rfl rfl rfl ?_; intro _; refine w ?_))
    (refine VC.cond rfl rfl ?_ ?_ <;> intro hc)
    · have hkt : bs.length < E[Bs.length].n := by have := of_decide_eq_true hc; omega
      obtain ⟨xa, hxa⟩ : ∃ xa, E[Bs.length].ao = some xa := by cases h : E[Bs.length].ao with | none => have := han h; omega | some xa => exact ⟨xa, rfl⟩
      rw [hxa] at hget ⊢
      (refine w ?_; repeat ((first | refine VO.step rfl rfl ?_ | refine VD.end rfl rfl rfl ?_ | refine VD.mid rfl rfl rfl ?_); refine OpV.box rfl rfl rfl ?_; intro _; refine w ?_))
      (first | refine VO.pure rfl rfl (PureAt.ldR tab_ok rfl rfl (Rds.own (ListN.hdrs_one E) (.head _) (by rw [List.length_map, Nat.mul_one]) (fun h => by cases h)) hget) rfl ?_ | refine VD.take rfl rfl rfl (PureAt.ldR tab_ok rfl rfl (Rds.own (ListN.hdrs_one E) (.head _) (by rw [List.length_map, Nat.mul_one]) (fun h => by cases h)) hget) rfl ?_ | refine VQ.pure rfl rfl (PureAt.ldR tab_ok rfl rfl (Rds.own (ListN.hdrs_one E) (.head _) (by rw [List.length_map, Nat.mul_one]) (fun h => by cases h)) hget) rfl ?_ | refine VD.end rfl rfl rfl (OpV.pure (PureAt.ldR tab_ok rfl rfl (Rds.own (ListN.hdrs_one E) (.head _) (by rw [List.length_map, Nat.mul_one]) (fun h => by cases h)) hget) rfl ?_))
      (refine w ?_; repeat ((first | refine VO.step rfl rfl ?_ | refine VD.end rfl rfl rfl ?_ | refine VD.mid rfl rfl rfl ?_); refine OpV.box rfl rfl rfl ?_; intro _; refine w ?_))
      ((first | refine VO.step rfl rfl ?_ | refine VD.end rfl rfl rfl ?_ | refine VD.mid rfl rfl rfl ?_); refine OpV.buildSlice1 st_22 rfl rfl (by first | (simp; done) | simp [Value.oneCell']) (by decide) rfl ?_; intro nb)
      (refine w ?_; repeat ((first | refine VO.step rfl rfl ?_ | refine VD.end rfl rfl rfl ?_ | refine VD.mid rfl rfl rfl ?_); refine OpV.box rfl rfl rfl ?_; intro _; refine w ?_))
      (first | refine VO.step rfl rfl ?_ | refine VD.end rfl rfl rfl ?_ | refine VD.mid rfl rfl rfl ?_)
      refine OpV.stO tab_ok rfl rfl rfl rfl (.tail (.tail (.tail (hole_set L _ _ (by omega))))) (by rw [hlen]; omega) ?_
      rw [hdrs_set rfl (by rw [List.length_append, List.length_map, List.length_drop] at hlen; omega) nb]
      (refine w ?_; repeat ((first | refine VO.step rfl rfl ?_ | refine VD.end rfl rfl rfl ?_ | refine VD.mid rfl rfl rfl ?_); refine OpV.box rfl rfl rfl ?_; intro _; refine w ?_))
      refine VE.round (bs ++ [nb], pl ++ [(nb, rb1 Bs.length bs.length)]) ⟨by simp only [List.length_append, List.length_singleton]; omega, hb.push nb, fun x hx => List.mem_append_left _ (hs x hx)⟩ (by simp only [List.length_append, List.length_singleton]; omega) ⟨rfl, rfl, asV rfl (by simp), trivial⟩ ?_
      dsimp only
      rw [List.length_append, List.length_singleton]
      have hrow : Row nb 5 [.int .u8 (IntKind.u8.wrap (Bs.length : Int)), .int .u8 (IntKind.u8.wrap ((Bs.length / 2 ^ 8 : Nat) : Int)), .int .u8 (IntKind.u8.wrap (bs.length : Int)), .int .u8 5] = rowR (nb, rb1 Bs.length bs.length) := by
        unfold rowR; rw [rb_bytes]
      refine Ent.trans (H' := rowR (nb, rb1 Bs.length bs.length) :: poolR pl :: Own 45 1 (.slice (some lb) E.length lc) E.length (E.map ListN.hdr) :: (L.set Bs.length (Own 22 1 (.slice (some xa) E[Bs.length].n E[Bs.length].cap) E[Bs.length].n (hdrs (bs ++ [nb]) ++ E[Bs.length].xs.drop (bs.length + 1))) ++ R)) (by rw [← hrow]; exact Ent.re) (fun w hw => (pile_push (res := rowR) hw).swap)
    · have hge : bs.length = E[Bs.length].n := by have := of_decide_eq_false hc; omega
      rw [List.length_append, List.length_map] at hlen
      have hz : E[Bs.length].xs.drop bs.length = [] := List.eq_nil_of_length_eq_zero (by omega)
      rw [hz, List.append_nil, hnext]
      (refine w ?_; repeat ((first | refine VO.step rfl rfl ?_ | refine VD.end rfl rfl rfl ?_ | refine VD.mid rfl rfl rfl ?_); refine OpV.box rfl rfl rfl ?_; intro _; refine w ?_))
      refine VE.round (Bs ++ [bs], pl) ⟨by simp only [List.length_append, List.length_singleton]; omega, fun j cs hj e he => ?_⟩ (by simp only [List.length_append, List.length_singleton]; omega) ⟨rfl, asV rfl (by simp), trivial⟩ Ent.refl
      by_cases q : j < Bs.length
      · dsimp only at hj
        rw [List.getElem?_append_left q] at hj
        exact (hin j cs hj e he).more hs
      · dsimp only at hj
        rw [List.getElem?_append_right (by omega)] at hj
        have hz : j - Bs.length = 0 := by
          cases hz : j - Bs.length with
          | zero => rfl
          | succ z => rw [hz] at hj; cases hj
        rw [hz] at hj
        injection hj with hj
        subst hj
        obtain rfl : j = Bs.length := by omega
        rw [List.getElem?_eq_getElem hlt] at he
        injection he with he
        subst he
        exact ⟨hge, hb.all⟩
  have hge : Bs.length = E.length := by have := of_decide_eq_false hc; omega
  clear hc ha
  -- every list has new rows
  obtain ⟨M, hM⟩ : ∃ M, M = mkd E Bs := ⟨_, rfl⟩
  have hML : M.length = E.length := by rw [hM]; exact mkd_length _ _
  have hMg : ∀ j (h : j < M.length), M[j] = ⟨(E[j]'(by omega)).ao, (E[j]'(by omega)).cap, (E[j]'(by omega)).n, hdrs (Bs[j]'(by omega))⟩ := fun j h => by
    subst hM; rw [mkd_get E _ j (by omega), List.getElem?_eq_getElem (by omega)]
  have hMh : E.map ListN.hdr = M.map ListN.hdr := by
    apply List.ext_getElem (by simp [hML])
    intro j h1 h2
    have hj : j < M.length := by simpa using h2
    rw [List.getElem_map, List.getElem_map, hMg j hj]
  have hMl : ∀ j (h : j < M.length), M[j].n ≤ 1000000000 ∧ ∃ bs, M[j].xs = hdrs bs ∧ In j M[j].n bs pool rb1 := fun j h => by
    have := hin j (Bs[j]'(by omega)) (List.getElem?_eq_getElem _) (E[j]'(by omega)) (List.getElem?_eq_getElem _)
    rw [hMg j h]; exact ⟨hl (E[j]'(by omega)) (List.getElem_mem _), _, rfl, this⟩
  (refine w ?_; repeat ((first | refine VO.step rfl rfl ?_ | refine VD.end rfl rfl rfl ?_ | refine VD.mid rfl rfl rfl ?_); refine OpV.box rfl rfl rfl ?_; intro _; refine w ?_))
  rw [← hM, hMh, ← hML]
  rw [← hML] at hln hn
  clear hMh hMg hl hML hM hin hge
  refine VC.ent (H' := Own 45 1 (.slice none 0 0) 0 (longH M []) :: Own 45 1 (.slice lo M.length lc) M.length (M.map ListN.hdr) :: poolR pool :: (grs M [] ++ R)) (fun w hw => by rw [grs_nil]; exact hw.ownNil _ _) ?_
  refine VC.loop (α := List Grn × Pool × Option Addr × Nat) (fun g => g.1.length ≤ M.length ∧ (∀ x ∈ pool, x ∈ g.2.1) ∧ ∀ j c, g.1[j]? = some c → In j 16 c.2.2 g.2.1 rb2)
    (fun g => Own 45 1 (.slice g.2.2.1 g.1.length g.2.2.2) g.1.length (longH M g.1) :: Own 45 1 (.slice lo M.length lc) M.length (M.map ListN.hdr) :: poolR g.2.1 :: (grs M g.1 ++ R))
    (fun g => [(0, .slice lo M.length lc), (5, .slice g.2.2.1 g.1.length g.2.2.2), (6, .int .i64 g.1.length)]) (fun g => M.length - g.1.length) rfl ([], pool, none, 0) ⟨Nat.zero_le _, fun _ h => h, fun j c h => (by cases h)⟩ Ent.refl ⟨rfl, rfl, rfl, trivial⟩ ?_
  rintro ⟨Gs, pl, go, gc⟩ ⟨ha, hsub, hgin⟩
  dsimp only at ha hsub hgin ⊢
  (refine w ?_; repeat ((first | refine VO.step rfl rfl ?_ | refine VD.end rfl rfl rfl ?_ | refine VD.mid rfl rfl rfl ?_); refine OpV.box rfl rfl rfl ?_; intro _; refine w ?_))
  (refine VC.cond rfl rfl ?_ ?_ <;> intro hc)
  · have hlt : Gs.length < M.length := by have := of_decide_eq_true hc; omega
    obtain ⟨lb, rfl⟩ : ∃ lb, lo = some lb := by cases lo with | none => have := hln rfl; omega | some lb => exact ⟨lb, rfl⟩
    obtain ⟨hla, -⟩ := hMl Gs.length hlt
    have hget : (M.map ListN.hdr)[Gs.length]? = some (.slice M[Gs.length].ao M[Gs.length].n M[Gs.length].cap) := by rw [List.getElem?_map, List.getElem?_eq_getElem hlt]; rfl
    have hself : grs M Gs = (grs M Gs).set Gs.length (res M[Gs.length]) := by
      have e1 : (grs M Gs)[Gs.length]'(by rw [grs_length]; exact hlt) = res M[Gs.length] := by
        rw [grs_get M Gs _ hlt, List.getElem?_eq_none (Nat.le_refl _)]
      rw [← e1, List.set_getElem_self]
    have hnext (g : Grn) := grs_set M Gs g hlt
    have hlnext (g : Grn) := longH_snoc M Gs g hlt
    have hgl := grs_length M Gs
    generalize hL : grs M Gs = L at *
    (refine w ?_; repeat ((first | refine VO.step rfl rfl ?_ | refine VD.end rfl rfl rfl ?_ | refine VD.mid rfl rfl rfl ?_); refine OpV.box rfl rfl rfl ?_; intro _; refine w ?_))
    (first | refine VO.pure rfl rfl (PureAt.ldR tab_ok rfl rfl (Rds.own (ListN.hdrs_one M) (.tail _ (.head _)) (by rw [List.length_map, Nat.mul_one]) (fun h => by cases h)) hget) rfl ?_ | refine VD.take rfl rfl rfl (PureAt.ldR tab_ok rfl rfl (Rds.own (ListN.hdrs_one M) (.tail _ (.head _)) (by rw [List.length_map, Nat.mul_one]) (fun h => by cases h)) hget) rfl ?_ | refine VQ.pure rfl rfl (PureAt.ldR tab_ok rfl rfl (Rds.own (ListN.hdrs_one M) (.tail _ (.head _)) (by rw [List.length_map, Nat.mul_one]) (fun h => by cases h)) hget) rfl ?_ | refine VD.end rfl rfl rfl (OpV.pure (PureAt.ldR tab_ok rfl rfl (Rds.own (ListN.hdrs_one M) (.tail _ (.head _)) (by rw [List.length_map, Nat.mul_one]) (fun h => by cases h)) hget) rfl ?_))
    (refine w ?_; repeat ((first | refine VO.step rfl rfl ?_ | refine VD.end rfl rfl rfl ?_ | refine VD.mid rfl rfl rfl ?_); refine OpV.box rfl rfl rfl ?_; intro _; refine w ?_))
    refine VC.loop (α := Grn × Pool) (fun g => g.1.2.2.length ≤ 16 ∧ In Gs.length g.1.2.2.length g.1.2.2 g.2 rb2 ∧ ∀ x ∈ pl, x ∈ g.2)
      (fun g => Own 45 1 (.slice go Gs.length gc) Gs.length (longH M Gs) :: Own 45 1 (.slice (some lb) M.length lc) M.length (M.map ListN.hdr) :: poolR g.2 :: (L.set Gs.length (twin M[Gs.length] g.1) ++ R))
      (fun g => [(0, .slice (some lb) M.length lc), (5, .slice go Gs.length gc), (6, .int .i64 Gs.length), (7, .slice g.1.1 (M[Gs.length].n + g.1.2.2.length) g.1.2.1), (8, .int .i64 g.1.2.2.length)]) (fun g => 16 - g.1.2.2.length) rfl ((M[Gs.length].ao, M[Gs.length].cap, []), pl) ⟨Nat.zero_le _, ⟨rfl, fun k b h => (by cases h)⟩, fun _ h => h⟩
      (by
        rw [hself, List.set_set]
        refine Ent.hole (Hole.tail (Hole.tail (Hole.tail (hole_set L Gs.length _ (by omega))))) (fun R w hw => ?_)
        have := TwinR.start hw
        simpa [twin] using this) ⟨rfl, rfl, rfl, rfl, rfl, trivial⟩ ?_
    rintro ⟨⟨xo, xc, cs⟩, pm⟩ ⟨hk, hb, hs⟩
    dsimp only at hk hb hs ⊢
    (refine w ?_; repeat ((first | refine VO.step rfl rfl ?_ | refine VD.end rfl rfl rfl ?_ | refine VD.mid rfl rfl rfl ?_); refine OpV.box rfl rfl rfl ?_; intro _; refine w ?_))
    (refine VC.cond rfl rfl ?_ ?_ <;> intro hc)
    · have hkt : cs.length < 16 := by have := of_decide_eq_true hc; omega
      (refine w ?_; repeat ((first | refine VO.step rfl rfl ?_ | refine VD.end rfl rfl rfl ?_ | refine VD.mid rfl rfl rfl ?_); refine OpV.box rfl rfl rfl ?_; intro _; refine w ?_))
      (first | refine VO.pure rfl rfl (shrI rfl rfl (by decide) (by decide)) rfl ?_ | refine VD.take rfl rfl rfl (shrI rfl rfl (by decide) (by decide)) rfl ?_ | refine VQ.pure rfl rfl (shrI rfl rfl (by decide) (by decide)) rfl ?_ | refine VD.end rfl rfl rfl (OpV.pure (shrI rfl rfl (by decide) (by decide)) rfl ?_))
      (refine w ?_; repeat ((first | refine VO.step rfl rfl ?_ | refine VD.end rfl rfl rfl ?_ | refine VD.mid rfl rfl rfl ?_); refine OpV.box rfl rfl rfl ?_; intro _; refine w ?_))
      ((first | refine VO.step rfl rfl ?_ | refine VD.end rfl rfl rfl ?_ | refine VD.mid rfl rfl rfl ?_); refine OpV.buildSlice1 st_22 rfl rfl (by first | (simp; done) | simp [Value.oneCell']) (by decide) rfl ?_; intro n4)
      ((first | refine VO.step rfl rfl ?_ | refine VD.end rfl rfl rfl ?_ | refine VD.mid rfl rfl rfl ?_); refine OpV.buildSlice1 st_45 rfl rfl (by first | (simp; done) | simp [Value.oneCell']) (by decide) rfl ?_; intro nb)
      (first | refine VO.step rfl rfl ?_ | refine VD.end rfl rfl rfl ?_ | refine VD.mid rfl rfl rfl ?_)
      refine OpV.appendT (news := [hd n4]) (m := 1) st_45 rfl rfl (.tail (.tail (.tail (.tail (.tail (hole_set L Gs.length _ (by omega))))))) (fun w hw => (Sees.row (ys := []) (by simp [Value.oneCell']) rfl hw (.head _)).src st_45.und) ?_ ?_ rfl ?_
      · simp only [maxLen]; omega
      · omega
      intro xo' xc'
      (refine w ?_; repeat ((first | refine VO.step rfl rfl ?_ | refine VD.end rfl rfl rfl ?_ | refine VD.mid rfl rfl rfl ?_); refine OpV.box rfl rfl rfl ?_; intro _; refine w ?_))
      refine VE.round ((xo', xc', cs ++ [n4]), pm ++ [(n4, rb2 Gs.length cs.length)]) ⟨by simp only [List.length_append, List.length_singleton]; omega, hb.push n4, fun x hx => List.mem_append_left _ (hs x hx)⟩ (by simp only [List.length_append, List.length_singleton]; omega) ⟨rfl, rfl, rfl, asV rfl (by simp [Nat.add_assoc]), asV rfl (by simp), trivial⟩ ?_
      dsimp only
      have hrow : Row n4 5 [.int .u8 (IntKind.u8.wrap (-1 - (Gs.length : Int))), .int .u8 (IntKind.u8.wrap ((-1 - (Gs.length : Int)).fdiv (2 ^ 8))), .int .u8 (IntKind.u8.wrap (cs.length : Int)), .int .u8 5] = rowR (n4, rb2 Gs.length cs.length) := by
        unfold rowR; rw [rb_bytes]
      have htw : twin M[Gs.length] (xo', xc', cs ++ [n4]) = TwinR 22 1 M[Gs.length].ao M[Gs.length].cap M[Gs.length].n M[Gs.length].xs xo' xc' (M[Gs.length].n + cs.length + 1) (M[Gs.length].xs ++ hdrs cs ++ [hd n4]) := by
        unfold twin
        dsimp only
        rw [List.length_append, List.length_singleton, hdrs, List.map_append, ← List.append_assoc, ← Nat.add_assoc]; rfl
      rw [htw]
      refine Ent.trans (H' := rowR (n4, rb2 Gs.length cs.length) :: poolR pm :: Own 45 1 (.slice go Gs.length gc) Gs.length (longH M Gs) :: Own 45 1 (.slice (some lb) M.length lc) M.length (M.map ListN.hdr) :: (L.set Gs.length (TwinR 22 1 M[Gs.length].ao M[Gs.length].cap M[Gs.length].n M[Gs.length].xs xo' xc' (M[Gs.length].n + cs.length + 1) (M[Gs.length].xs ++ hdrs cs ++ [hd n4])) ++ R)) (by rw [← hrow]; exact Ent.re) (fun w hw => ?_)
      exact (pile_push (res := rowR) hw).perm ((List.Perm.swap _ _ _).trans ((List.Perm.swap _ _ _).cons _))
    · have hge : cs.length = 16 := by have := of_decide_eq_false hc; omega
      rw [hnext]
      (refine w ?_; repeat ((first | refine VO.step rfl rfl ?_ | refine VD.end rfl rfl rfl ?_ | refine VD.mid rfl rfl rfl ?_); refine OpV.box rfl rfl rfl ?_; intro _; refine w ?_))
      ((first | refine VO.step rfl rfl ?_ | refine VD.end rfl rfl rfl ?_ | refine VD.mid rfl rfl rfl ?_); refine OpV.buildSlice1 st_53 rfl rfl (by first | (simp; done) | simp [Value.oneCell']) (by decide) rfl ?_; intro nb)
      ((first | refine VO.step rfl rfl ?_ | refine VD.end rfl rfl rfl ?_ | refine VD.mid rfl rfl rfl ?_); refine OpV.appendRow st_53 rfl rfl (by (repeat first | exact .head | apply Hole.tail)) (by (focus repeat first | exact .head _ | apply List.Mem.tail)) rfl (by first | (simp; done) | simp [Value.oneCell']) ?_ ?_ rfl ?_)
      · simp only [maxLen]; omega
      · omega
      intro go' gc'
      rw [← hlnext (xo, xc, cs)]
      (refine w ?_; repeat ((first | refine VO.step rfl rfl ?_ | refine VD.end rfl rfl rfl ?_ | refine VD.mid rfl rfl rfl ?_); refine OpV.box rfl rfl rfl ?_; intro _; refine w ?_))
      refine VE.round (Gs ++ [(xo, xc, cs)], pm, go', gc') ⟨by rw [List.length_append]; exact hlt, fun x hx => hs x (hsub x hx), fun j c hj => ?_⟩ (by simp only [List.length_append, List.length_singleton]; omega) ⟨rfl, asV rfl (by rw [List.length_append]; rfl), asV rfl (by rw [List.length_append]; rfl), trivial⟩ ?_
      · dsimp only at hj
        by_cases q : j < Gs.length
        · rw [List.getElem?_append_left q] at hj
          exact (hgin j c hj).more hs
        · rw [List.getElem?_append_right (by omega)] at hj
          have hz : j - Gs.length = 0 := by
            cases hz : j - Gs.length with
            | zero => rfl
            | succ z => rw [hz] at hj; cases hj
          rw [hz] at hj
          injection hj with hj
          subst hj
          obtain rfl : j = Gs.length := by omega
          exact ⟨hge, hb.all⟩
      dsimp only
      rw [List.length_append]
      exact Ent.re
  have hge : Gs.length = M.length := by have := of_decide_eq_false hc; omega
  clear hc ha
  (refine w ?_; repeat ((first | refine VO.step rfl rfl ?_ | refine VD.end rfl rfl rfl ?_ | refine VD.mid rfl rfl rfl ?_); refine OpV.box rfl rfl rfl ?_; intro _; refine w ?_))
  refine VC.know (p := go = none → Gs.length = 0) (fun w hw => Holds.ownNone hw (.head _)) ?_
  intro hgn
  generalize hH : (Own 45 1 (.slice go Gs.length gc) Gs.length (longH M Gs) :: Own 45 1 (.slice lo M.length lc) M.length (M.map ListN.hdr) :: poolR pl :: (grs M Gs ++ R)) = HH
  have hr1 : Rds W HH 1 lo M.length (M.map ListN.hdr) := by subst hH; exact Rds.own (ListN.hdrs_one M) (.tail _ (.head _)) (by rw [List.length_map, Nat.mul_one]) hln
  have hr2 : Rds W HH 1 go Gs.length (longH M Gs) := by subst hH; exact Rds.own (longH_one M Gs) (.head _) (by rw [longH_length, Nat.mul_one]) hgn
  have hpm : poolR pl ∈ HH := by subst hH; exact .tail _ (.tail _ (.head _))
  have hend : Ent W HH R := by
    subst hH
    exact Ent.drop (Ent.drop (Ent.drop (fun w hw => by
      have : ∀ (X : List SProp) w, Holds W (X ++ R) w → Holds W R w := fun X => by
        induction X with
        | nil => exact fun w h => h
        | cons a r ih => exact fun w h => ih w h.tail
      exact this _ w hw)))
  have htw : ∀ a (h : a < M.length), twin M[a] (Gs[a]'(by omega)) ∈ HH := fun a h => by
    subst hH
    refine .tail _ (.tail _ (.tail _ (List.mem_append_left _ (List.mem_iff_getElem.2 ⟨a, by rw [grs_length]; exact h, ?_⟩))))
    rw [grs_get M Gs a h, List.getElem?_eq_getElem (by omega)]
  have hlg : ∀ a (h : a < M.length), (longH M Gs)[a]? = some (.slice (Gs[a]'(by omega)).1 (M[a].n + (Gs[a]'(by omega)).2.2.length) (Gs[a]'(by omega)).2.1) := fun a h => by
    unfold longH
    rw [List.getElem?_mapIdx, List.getElem?_eq_getElem h, List.getElem?_eq_getElem (l := Gs) (by omega)]; rfl
  clear hH
  refine VC.loop (α := Nat) (fun a => a ≤ M.length) (fun _ => HH)
    (fun a => [(0, .slice lo M.length lc), (5, .slice go Gs.length gc), (9, .int .i64 a)]) (fun a => M.length - a) rfl 0 (Nat.zero_le _) Ent.refl ⟨rfl, rfl, rfl, trivial⟩ ?_
  intro a ha
  (refine w ?_; repeat ((first | refine VO.step rfl rfl ?_ | refine VD.end rfl rfl rfl ?_ | refine VD.mid rfl rfl rfl ?_); refine OpV.box rfl rfl rfl ?_; intro _; refine w ?_))
  (refine VC.cond rfl rfl ?_ ?_ <;> intro hc)
  · have hlt : a < M.length := by have := of_decide_eq_true hc; omega
    obtain ⟨lb, rfl⟩ : ∃ lb, lo = some lb := by cases lo with | none => have := hln rfl; omega | some lb => exact ⟨lb, rfl⟩
    obtain ⟨gb, rfl⟩ : ∃ gb, go = some gb := by cases go with | none => have := hgn rfl; omega | some gb => exact ⟨gb, rfl⟩
    obtain ⟨hla, bs, hxs, hbs⟩ := hMl a hlt
    have hget : (M.map ListN.hdr)[a]? = some (.slice M[a].ao M[a].n M[a].cap) := by rw [List.getElem?_map, List.getElem?_eq_getElem hlt]; rfl
    have htw := htw a hlt
    have hlg := hlg a hlt
    have hgl : a < Gs.length := by omega
    have hgs := hgin a (Gs[a]'hgl) (List.getElem?_eq_getElem hgl)
    generalize Gs[a] = g at *
    generalize M[a] = e at *
    obtain ⟨g1, g2, cs⟩ := g
    dsimp only at hgs hlg htw
    have hcl := hgs.len
    rw [hcl] at hlg
    have hel : e.xs.length = e.n := by rw [hxs, List.length_map, hbs.len]
    have h1 : ∀ u ∈ e.xs, u.oneCell' = true := by rw [hxs]; exact hdrs_one _
    have h2 : ∀ u ∈ e.xs ++ hdrs cs, u.oneCell' = true := fun u hu => by
      rcases List.mem_append.1 hu with q | q
      · exact h1 u q
      · exact hdrs_one _ u q
    refine VC.know (fun w hw => TwinR.none hw htw) ?_
    rintro ⟨hon, hnn⟩
    dsimp only at hnn
    have ho : Rds W HH 1 e.ao e.n e.xs := TwinR.rdsOld htw h1 (by rw [hel, Nat.mul_one]) hon
    have hw' : Rds W HH 1 g1 (e.n + 16) (e.xs ++ hdrs cs) := by
      have := TwinR.rdsNew (W := W) htw h2 (by rw [List.length_append, List.length_map, hel, Nat.mul_one]) hnn
      dsimp only at this
      rwa [hcl] at this
    obtain ⟨gx, rfl⟩ : ∃ gx, g1 = some gx := by cases h : g1 with | none => have := hnn h; omega | some gx => exact ⟨gx, rfl⟩
    (refine w ?_; repeat ((first | refine VO.step rfl rfl ?_ | refine VD.end rfl rfl rfl ?_ | refine VD.mid rfl rfl rfl ?_); refine OpV.box rfl rfl rfl ?_; intro _; refine w ?_))
    (first | refine VO.pure rfl rfl (PureAt.ldR tab_ok rfl rfl hr1 hget) rfl ?_ | refine VD.take rfl rfl rfl (PureAt.ldR tab_ok rfl rfl hr1 hget) rfl ?_ | refine VQ.pure rfl rfl (PureAt.ldR tab_ok rfl rfl hr1 hget) rfl ?_ | refine VD.end rfl rfl rfl (OpV.pure (PureAt.ldR tab_ok rfl rfl hr1 hget) rfl ?_))
    (refine w ?_; repeat ((first | refine VO.step rfl rfl ?_ | refine VD.end rfl rfl rfl ?_ | refine VD.mid rfl rfl rfl ?_); refine OpV.box rfl rfl rfl ?_; intro _; refine w ?_))
    refine VC.loop (α := Nat) (fun k => k ≤ e.n) (fun _ => HH)
      (fun k => [(0, .slice (some lb) M.length lc), (5, .slice (some gb) Gs.length gc), (9, .int .i64 a), (10, .int .i64 e.n), (11, .int .i64 k)]) (fun k => e.n - k) rfl 0 (Nat.zero_le _) Ent.refl ⟨rfl, rfl, rfl, rfl, rfl, trivial⟩ ?_
    intro k hk
    (refine w ?_; repeat ((first | refine VO.step rfl rfl ?_ | refine VD.end rfl rfl rfl ?_ | refine VD.mid rfl rfl rfl ?_); refine OpV.box rfl rfl rfl ?_; intro _; refine w ?_))
    (refine VC.cond rfl rfl ?_ ?_ <;> intro hc)
    · have hkt : k < e.n := by have := of_decide_eq_true hc; omega
      obtain ⟨ox, hox⟩ : ∃ ox, e.ao = some ox := by cases h : e.ao with | none => have := hon h; omega | some ox => exact ⟨ox, rfl⟩
      rw [hox] at hget ho
      have hbk : k < bs.length := by rw [hbs.len]; exact hkt
      have hk1 : e.xs[k]? = some (.slice (some ⟨bs[k], 0, none⟩) 4 4) := by rw [hxs, List.getElem?_map, List.getElem?_eq_getElem hbk]; rfl
      have hk2 : (e.xs ++ hdrs cs)[k]? = some (.slice (some ⟨bs[k], 0, none⟩) 4 4) := by rw [List.getElem?_append_left (by omega)]; exact hk1
      have hpk : Rds W HH 1 (some ⟨bs[k], 0, none⟩) 4 (bytes (rb1 a k)) := pool_rds hpm (hsub _ (hbs.all k _ (List.getElem?_eq_getElem hbk)))
      (refine w ?_; repeat ((first | refine VO.step rfl rfl ?_ | refine VD.end rfl rfl rfl ?_ | refine VD.mid rfl rfl rfl ?_); refine OpV.box rfl rfl rfl ?_; intro _; refine w ?_))
      (first | refine VO.pure rfl rfl (PureAt.ldR tab_ok rfl rfl hr1 hget) rfl ?_ | refine VD.take rfl rfl rfl (PureAt.ldR tab_ok rfl rfl hr1 hget) rfl ?_ | refine VQ.pure rfl rfl (PureAt.ldR tab_ok rfl rfl hr1 hget) rfl ?_ | refine VD.end rfl rfl rfl (OpV.pure (PureAt.ldR tab_ok rfl rfl hr1 hget) rfl ?_))
      (refine w ?_; repeat ((first | refine VO.step rfl rfl ?_ | refine VD.end rfl rfl rfl ?_ | refine VD.mid rfl rfl rfl ?_); refine OpV.box rfl rfl rfl ?_; intro _; refine w ?_))
      (first | refine VO.pure rfl rfl (PureAt.ldR tab_ok rfl rfl ho hk1) rfl ?_ | refine VD.take rfl rfl rfl (PureAt.ldR tab_ok rfl rfl ho hk1) rfl ?_ | refine VQ.pure rfl rfl (PureAt.ldR tab_ok rfl rfl ho hk1) rfl ?_ | refine VD.end rfl rfl rfl (OpV.pure (PureAt.ldR tab_ok rfl rfl ho hk1) rfl ?_))
      (refine w ?_; repeat ((first | refine VO.step rfl rfl ?_ | refine VD.end rfl rfl rfl ?_ | refine VD.mid rfl rfl rfl ?_); refine OpV.box rfl rfl rfl ?_; intro _; refine w ?_))
      ((first | refine VO.step rfl rfl ?_ | refine VD.end rfl rfl rfl ?_ | refine VD.mid rfl rfl rfl ?_); refine OpV.buildSlice1 st_22 rfl rfl (by first | (simp; done) | simp [Value.oneCell']) (by decide) rfl ?_; intro n1)
      refine VO.ent (H' := Row n1 5 (bytes (rb1 a k)) :: HH) (by rw [rb_bytes]; exact Ent.refl) ?_
      (refine w ?_; repeat ((first | refine VO.step rfl rfl ?_ | refine VD.end rfl rfl rfl ?_ | refine VD.mid rfl rfl rfl ?_); refine OpV.box rfl rfl rfl ?_; intro _; refine w ?_))
      ((first | refine VO.step rfl rfl ?_ | refine VD.end rfl rfl rfl ?_ | refine VD.mid rfl rfl rfl ?_); refine OpV.call rfl rfl (fun _ _ => by simp) (same_any (a := rb1 a k) (b := rb1 a k) (hpk.ent (Ent.drop Ent.refl)) (Rds.row (bytes_one _) (.head _) (by simp [rb])) (by decide)) Ent.refl rfl ?_)
      intro _ _
      (refine w ?_; repeat ((first | refine VO.step rfl rfl ?_ | refine VD.end rfl rfl rfl ?_ | refine VD.mid rfl rfl rfl ?_); refine OpV.box rfl rfl rfl ?_; intro _; refine w ?_))
      (first | refine VO.gF rfl rfl rfl (by simp) ?_ | refine VD.gF rfl rfl rfl (by simp) ?_)
      (refine w ?_; repeat ((first | refine VO.step rfl rfl ?_ | refine VD.end rfl rfl rfl ?_ | refine VD.mid rfl rfl rfl ?_); refine OpV.box rfl rfl rfl ?_; intro _; refine w ?_))
      (first | refine VO.pure rfl rfl (PureAt.ldR tab_ok rfl rfl (hr2.ent (Ent.drop Ent.refl)) hlg) rfl ?_ | refine VD.take rfl rfl rfl (PureAt.ldR tab_ok rfl rfl (hr2.ent (Ent.drop Ent.refl)) hlg) rfl ?_ | refine VQ.pure rfl rfl (PureAt.ldR tab_ok rfl rfl (hr2.ent (Ent.drop Ent.refl)) hlg) rfl ?_ | refine VD.end rfl rfl rfl (OpV.pure (PureAt.ldR tab_ok rfl rfl (hr2.ent (Ent.drop Ent.refl)) hlg) rfl ?_))
      (refine w ?_; repeat ((first | refine VO.step rfl rfl ?_ | refine VD.end rfl rfl rfl ?_ | refine VD.mid rfl rfl rfl ?_); refine OpV.box rfl rfl rfl ?_; intro _; refine w ?_))
      (first | refine VO.pure rfl rfl (PureAt.ldR tab_ok rfl rfl (hw'.ent (Ent.drop Ent.refl)) hk2) rfl ?_ | refine VD.take rfl rfl rfl (PureAt.ldR tab_ok rfl rfl (hw'.ent (Ent.drop Ent.refl)) hk2) rfl ?_ | refine VQ.pure rfl rfl (PureAt.ldR tab_ok rfl rfl (hw'.ent (Ent.drop Ent.refl)) hk2) rfl ?_ | refine VD.end rfl rfl rfl (OpV.pure (PureAt.ldR tab_ok rfl rfl (hw'.ent (Ent.drop Ent.refl)) hk2) rfl ?_))
      (refine w ?_; repeat ((first | refine VO.step rfl rfl ?_ | refine VD.end rfl rfl rfl ?_ | refine VD.mid rfl rfl rfl ?_); refine OpV.box rfl rfl rfl ?_; intro _; refine w ?_))
      ((first | refine VO.step rfl rfl ?_ | refine VD.end rfl rfl rfl ?_ | refine VD.mid rfl rfl rfl ?_); refine OpV.buildSlice1 st_22 rfl rfl (by first | (simp; done) | simp [Value.oneCell']) (by decide) rfl ?_; intro n2)
      refine VO.ent (H' := Row n2 5 (bytes (rb1 a k)) :: Row n1 5 (bytes (rb1 a k)) :: HH) (by rw [rb_bytes]; exact Ent.refl) ?_
      (refine w ?_; repeat ((first | refine VO.step rfl rfl ?_ | refine VD.end rfl rfl rfl ?_ | refine VD.mid rfl rfl rfl ?_); refine OpV.box rfl rfl rfl ?_; intro _; refine w ?_))
      ((first | refine VO.step rfl rfl ?_ | refine VD.end rfl rfl rfl ?_ | refine VD.mid rfl rfl rfl ?_); refine OpV.call rfl rfl (fun _ _ => by simp) (same_any (a := rb1 a k) (b := rb1 a k) (hpk.ent (Ent.drop (Ent.drop Ent.refl))) (Rds.row (bytes_one _) (.head _) (by simp [rb])) (by decide)) Ent.refl rfl ?_)
      intro _ _
      (refine w ?_; repeat ((first | refine VO.step rfl rfl ?_ | refine VD.end rfl rfl rfl ?_ | refine VD.mid rfl rfl rfl ?_); refine OpV.box rfl rfl rfl ?_; intro _; refine w ?_))
      (refine VC.condFe rfl rfl (by simp) ?_)
      (refine w ?_; repeat ((first | refine VO.step rfl rfl ?_ | refine VD.end rfl rfl rfl ?_ | refine VD.mid rfl rfl rfl ?_); refine OpV.box rfl rfl rfl ?_; intro _; refine w ?_))
      exact VE.round (k + 1) hkt (by omega) ⟨rfl, rfl, rfl, rfl, rfl, trivial⟩ (Ent.drop (Ent.drop Ent.refl))
    · (refine w ?_; repeat ((first | refine VO.step rfl rfl ?_ | refine VD.end rfl rfl rfl ?_ | refine VD.mid rfl rfl rfl ?_); refine OpV.box rfl rfl rfl ?_; intro _; refine w ?_))
      refine VC.loop (α := Nat) (fun k => k ≤ 16) (fun _ => HH)
        (fun k => [(0, .slice (some lb) M.length lc), (5, .slice (some gb) Gs.length gc), (9, .int .i64 a), (10, .int .i64 e.n), (12, .int .i64 k)]) (fun k => 16 - k) rfl 0 (Nat.zero_le _) Ent.refl ⟨rfl, rfl, rfl, rfl, rfl, trivial⟩ ?_
      intro k hk
      (refine w ?_; repeat ((first | refine VO.step rfl rfl ?_ | refine VD.end rfl rfl rfl ?_ | refine VD.mid rfl rfl rfl ?_); refine OpV.box rfl rfl rfl ?_; intro _; refine w ?_))
      (refine VC.cond rfl rfl ?_ ?_ <;> intro hc)
      · have hkt : k < 16 := by have := of_decide_eq_true hc; omega
        have hck : k < cs.length := by omega
        have hk2 : (e.xs ++ hdrs cs)[e.n + k]? = some (.slice (some ⟨cs[k], 0, none⟩) 4 4) := by
          rw [List.getElem?_append_right (by omega), hel, Nat.add_sub_cancel_left, List.getElem?_map, List.getElem?_eq_getElem hck]; rfl
        have hpk : Rds W HH 1 (some ⟨cs[k], 0, none⟩) 4 (bytes (rb2 a k)) := pool_rds hpm (hgs.all k _ (List.getElem?_eq_getElem hck))
        (refine w ?_; repeat ((first | refine VO.step rfl rfl ?_ | refine VD.end rfl rfl rfl ?_ | refine VD.mid rfl rfl rfl ?_); refine OpV.box rfl rfl rfl ?_; intro _; refine w ?_))
        (first | refine VO.pure rfl rfl (PureAt.ldR tab_ok rfl rfl hr2 hlg) rfl ?_ | refine VD.take rfl rfl rfl (PureAt.ldR tab_ok rfl rfl hr2 hlg) rfl ?_ | refine VQ.pure rfl rfl (PureAt.ldR tab_ok rfl rfl hr2 hlg) rfl ?_ | refine VD.end rfl rfl rfl (OpV.pure (PureAt.ldR tab_ok rfl rfl hr2 hlg) rfl ?_))
        (first | (first | refine VO.nil rfl ?_ | refine VQ.nil rfl ?_ | refine VD.nil ?_ | ((first | apply VO.pure rfl rfl | apply VQ.pure rfl rfl | apply VD.take rfl rfl rfl | (refine VD.end rfl rfl rfl ?_; apply OpV.pure)); (first | (apply PureAt.ar64 rfl rfl rfl; omega) | exact .eval tab_ok rfl | (apply PureAt.ld tab_ok rfl rfl; (focus repeat first | exact .head _ | apply List.Mem.tail); rfl) | (apply PureAt.shr rfl rfl (by decide) (by decide)) | (apply PureAt.shr rfl rfl (by omega) (by simp only [IntKind.bits]; omega)) | exact .fieldAddrA tab_ok rfl rfl | exact .sliceLH tab_ok rfl rfl rfl rfl (by omega) (by omega) | exact .sliceH tab_ok rfl rfl rfl (by omega) | exact .sliceL tab_ok rfl rfl rfl (by omega) | (first | exact .indexAddr tab_ok rfl rfl rfl rfl (by omega) | exact .indexAddrN tab_ok rfl rfl rfl rfl (by omega) | exact .indexAddrI tab_ok rfl rfl rfl rfl (toNatLit _) (by decide) (by omega) | exact .indexAddrNI tab_ok rfl rfl rfl rfl (toNatLit _) (by decide) (by omega) | exact .ldR tab_ok rfl rfl hr1 (List.getElem?_eq_getElem (by omega)) | exact .ldR tab_ok rfl rfl hr2 (List.getElem?_eq_getElem (by omega)) | exact ldB tab_ok rfl rfl hb1 (by omega) | exact ldB tab_ok rfl rfl hb2 (by omega)) | exact .sliceHI tab_ok rfl rfl rfl (toNatLit _) (by decide) (by omega) | exact .sliceLI tab_ok rfl rfl rfl (toNatLit _) (by decide) (by omega) | (apply PureAt.ldA tab_ok rfl rfl; (focus repeat first | exact .head _ | apply List.Mem.tail); rfl; rfl) | exact .ldro tab_ok rfl rfl (by assumption)); rfl) | refine VO.skip rfl rfl rfl rfl ?_ | refine VQ.skip rfl rfl rfl rfl ?_ | refine VD.skip rfl rfl rfl rfl rfl ?_ | refine VD.skipM rfl rfl Ent.refl rfl rfl rfl ?_ | ((first | refine VO.step rfl rfl ?_ | refine VD.end rfl rfl rfl ?_ | refine VD.mid rfl rfl rfl ?_); (first | (apply OpV.st tab_ok rfl rfl rfl rfl (by (repeat first | exact .head | apply Hole.tail); first | done | fail) (by first | (simp; done) | fail)) | (refine OpV.box rfl rfl rfl ?_; intro _))) | refine ⟨Ent.re, ?_⟩) | (first | refine VC.seq rfl ?_ | refine VC.region rfl ?_ | refine VC.condT rfl rfl ?_ | refine VC.condF rfl rfl ?_ | refine VC.block rfl ?_ | refine VC.skip rfl ?_ | refine VC.ret rfl ?_ | refine VC.exit rfl ?_ | refine VC.scope rfl ?_ | refine VC.label rfl ?_) | (first | refine VE.next ?_ | refine VE.passRet ?_ | refine VE.passExit ?_ | refine VE.blockNormal ?_ | refine VE.blockHit ?_ | refine VE.blockMiss rfl ?_ | refine VE.blockRet ?_ | refine VE.loopRet ?_ | refine VE.loopExit ?_ | refine VE.scopeNormal ?_ | refine VE.scopeRet ?_ | refine VE.scopeExit ?_))
        (first | (first | refine VO.nil rfl ?_ | refine VQ.nil rfl ?_ | refine VD.nil ?_ | ((first | apply VO.pure rfl rfl | apply VQ.pure rfl rfl | apply VD.take rfl rfl rfl | (refine VD.end rfl rfl rfl ?_; apply OpV.pure)); (first | (apply PureAt.ar64 rfl rfl rfl; omega) | exact .eval tab_ok rfl | (apply PureAt.ld tab_ok rfl rfl; (focus repeat first | exact .head _ | apply List.Mem.tail); rfl) | (apply PureAt.shr rfl rfl (by decide) (by decide)) | (apply PureAt.shr rfl rfl (by omega) (by simp only [IntKind.bits]; omega)) | exact .fieldAddrA tab_ok rfl rfl | exact .sliceLH tab_ok rfl rfl rfl rfl (by omega) (by omega) | exact .sliceH tab_ok rfl rfl rfl (by omega) | exact .sliceL tab_ok rfl rfl rfl (by omega) | (first | exact .indexAddr tab_ok rfl rfl rfl rfl (by omega) | exact .indexAddrN tab_ok rfl rfl rfl rfl (by omega) | exact .indexAddrI tab_ok rfl rfl rfl rfl (toNatLit _) (by decide) (by omega) | exact .indexAddrNI tab_ok rfl rfl rfl rfl (toNatLit _) (by decide) (by omega) | exact .ldR tab_ok rfl rfl hr1 (List.getElem?_eq_getElem (by omega)) | exact .ldR tab_ok rfl rfl hr2 (List.getElem?_eq_getElem (by omega)) | exact ldB tab_ok rfl rfl hb1 (by omega) | exact ldB tab_ok rfl rfl hb2 (by omega)) | exact .sliceHI tab_ok rfl rfl rfl (toNatLit _) (by decide) (by omega) | exact .sliceLI tab_ok rfl rfl rfl (toNatLit _) (by decide) (by omega) | (apply PureAt.ldA tab_ok rfl rfl; (focus repeat first | exact .head _ | apply List.Mem.tail); rfl; rfl) | exact .ldro tab_ok rfl rfl (by assumption)); rfl) | refine VO.skip rfl rfl rfl rfl ?_ | refine VQ.skip rfl rfl rfl rfl ?_ | refine VD.skip rfl rfl rfl rfl rfl ?_ | refine VD.skipM rfl rfl Ent.refl rfl rfl rfl ?_ | ((first | refine VO.step rfl rfl ?_ | refine VD.end rfl rfl rfl ?_ | refine VD.mid rfl rfl rfl ?_); (first | (apply OpV.st tab_ok rfl rfl rfl rfl (by (repeat first | exact .head | apply Hole.tail); first | done | fail) (by first | (simp; done) | fail)) | (refine OpV.box rfl rfl rfl ?_; intro _))) | refine ⟨Ent.re, ?_⟩) | (first | refine VC.seq rfl ?_ | refine VC.region rfl ?_ | refine VC.condT rfl rfl ?_ | refine VC.condF rfl rfl ?_ | refine VC.block rfl ?_ | refine VC.skip rfl ?_ | refine VC.ret rfl ?_ | refine VC.exit rfl ?_ | refine VC.scope rfl ?_ | refine VC.label rfl ?_) | (first | refine VE.next ?_ | refine VE.passRet ?_ | refine VE.passExit ?_ | refine VE.blockNormal ?_ | refine VE.blockHit ?_ | refine VE.blockMiss rfl ?_ | refine VE.blockRet ?_ | refine VE.loopRet ?_ | refine VE.loopExit ?_ | refine VE.scopeNormal ?_ | refine VE.scopeRet ?_ | refine VE.scopeExit ?_))
        (first | (first | refine VO.nil rfl ?_ | refine VQ.nil rfl ?_ | refine VD.nil ?_ | ((first | apply VO.pure rfl rfl | apply VQ.pure rfl rfl | apply VD.take rfl rfl rfl | (refine VD.end rfl rfl rfl ?_; apply OpV.pure)); (first | (apply PureAt.ar64 rfl rfl rfl; omega) | exact .eval tab_ok rfl | (apply PureAt.ld tab_ok rfl rfl; (focus repeat first | exact .head _ | apply List.Mem.tail); rfl) | (apply PureAt.shr rfl rfl (by decide) (by decide)) | (apply PureAt.shr rfl rfl (by omega) (by simp only [IntKind.bits]; omega)) | exact .fieldAddrA tab_ok rfl rfl | exact .sliceLH tab_ok rfl rfl rfl rfl (by omega) (by omega) | exact .sliceH tab_ok rfl rfl rfl (by omega) | exact .sliceL tab_ok rfl rfl rfl (by omega) | (first | exact .indexAddr tab_ok rfl rfl rfl rfl (by omega) | exact .indexAddrN tab_ok rfl rfl rfl rfl (by omega) | exact .indexAddrI tab_ok rfl rfl rfl rfl (toNatLit _) (by decide) (by omega) | exact .indexAddrNI tab_ok rfl rfl rfl rfl (toNatLit _) (by decide) (by omega) | exact .ldR tab_ok rfl rfl hr1 (List.getElem?_eq_getElem (by omega)) | exact .ldR tab_ok rfl rfl hr2 (List.getElem?_eq_getElem (by omega)) | exact ldB tab_ok rfl rfl hb1 (by omega) | exact ldB tab_ok rfl rfl hb2 (by omega)) | exact .sliceHI tab_ok rfl rfl rfl (toNatLit _) (by decide) (by omega) | exact .sliceLI tab_ok rfl rfl rfl (toNatLit _) (by decide) (by omega) | (apply PureAt.ldA tab_ok rfl rfl; (focus repeat first | exact .head _ | apply List.Mem.tail); rfl; rfl) | exact .ldro tab_ok rfl rfl (by assumption)); rfl) | refine VO.skip rfl rfl rfl rfl ?_ | refine VQ.skip rfl rfl rfl rfl ?_ | refine VD.skip rfl rfl rfl rfl rfl ?_ | refine VD.skipM rfl rfl Ent.refl rfl rfl rfl ?_ | ((first | refine VO.step rfl rfl ?_ | refine VD.end rfl rfl rfl ?_ | refine VD.mid rfl rfl rfl ?_); (first | (apply OpV.st tab_ok rfl rfl rfl rfl (by (repeat first | exact .head | apply Hole.tail); first | done | fail) (by first | (simp; done) | fail)) | (refine OpV.box rfl rfl rfl ?_; intro _))) | refine ⟨Ent.re, ?_⟩) | (first | refine VC.seq rfl ?_ | refine VC.region rfl ?_ | refine VC.condT rfl rfl ?_ | refine VC.condF rfl rfl ?_ | refine VC.block rfl ?_ | refine VC.skip rfl ?_ | refine VC.ret rfl ?_ | refine VC.exit rfl ?_ | refine VC.scope rfl ?_ | refine VC.label rfl ?_) | (first | refine VE.next ?_ | refine VE.passRet ?_ | refine VE.passExit ?_ | refine VE.blockNormal ?_ | refine VE.blockHit ?_ | refine VE.blockMiss rfl ?_ | refine VE.blockRet ?_ | refine VE.loopRet ?_ | refine VE.loopExit ?_ | refine VE.scopeNormal ?_ | refine VE.scopeRet ?_ | refine VE.scopeExit ?_))
        refine VO.re 135 (.int .i64 ((e.n + k : Nat) : Int)) rfl (by congr 1) ?_
        (refine w ?_; repeat ((first | refine VO.step rfl rfl ?_ | refine VD.end rfl rfl rfl ?_ | refine VD.mid rfl rfl rfl ?_); refine OpV.box rfl rfl rfl ?_; intro _; refine w ?_))
        (first | refine VO.pure rfl rfl (PureAt.ldR tab_ok rfl rfl hw' hk2) rfl ?_ | refine VD.take rfl rfl rfl (PureAt.ldR tab_ok rfl rfl hw' hk2) rfl ?_ | refine VQ.pure rfl rfl (PureAt.ldR tab_ok rfl rfl hw' hk2) rfl ?_ | refine VD.end rfl rfl rfl (OpV.pure (PureAt.ldR tab_ok rfl rfl hw' hk2) rfl ?_))
        (refine w ?_; repeat ((first | refine VO.step rfl rfl ?_ | refine VD.end rfl rfl rfl ?_ | refine VD.mid rfl rfl rfl ?_); refine OpV.box rfl rfl rfl ?_; intro _; refine w ?_))
        (first | refine VO.pure rfl rfl (shrI rfl rfl (by decide) (by decide)) rfl ?_ | refine VD.take rfl rfl rfl (shrI rfl rfl (by decide) (by decide)) rfl ?_ | refine VQ.pure rfl rfl (shrI rfl rfl (by decide) (by decide)) rfl ?_ | refine VD.end rfl rfl rfl (OpV.pure (shrI rfl rfl (by decide) (by decide)) rfl ?_))
        (refine w ?_; repeat ((first | refine VO.step rfl rfl ?_ | refine VD.end rfl rfl rfl ?_ | refine VD.mid rfl rfl rfl ?_); refine OpV.box rfl rfl rfl ?_; intro _; refine w ?_))
        ((first | refine VO.step rfl rfl ?_ | refine VD.end rfl rfl rfl ?_ | refine VD.mid rfl rfl rfl ?_); refine OpV.buildSlice1 st_22 rfl rfl (by first | (simp; done) | simp [Value.oneCell']) (by decide) rfl ?_; intro n1)
        refine VO.ent (H' := Row n1 5 (bytes (rb2 a k)) :: HH) (by rw [rb_bytes]; exact Ent.refl) ?_
        (refine w ?_; repeat ((first | refine VO.step rfl rfl ?_ | refine VD.end rfl rfl rfl ?_ | refine VD.mid rfl rfl rfl ?_); refine OpV.box rfl rfl rfl ?_; intro _; refine w ?_))
        ((first | refine VO.step rfl rfl ?_ | refine VD.end rfl rfl rfl ?_ | refine VD.mid rfl rfl rfl ?_); refine OpV.call rfl rfl (fun _ _ => by simp) (same_any (a := rb2 a k) (b := rb2 a k) (hpk.ent (Ent.drop Ent.refl)) (Rds.row (bytes_one _) (.head _) (by simp [rb])) (by decide)) Ent.refl rfl ?_)
        intro _ _
        (refine w ?_; repeat ((first | refine VO.step rfl rfl ?_ | refine VD.end rfl rfl rfl ?_ | refine VD.mid rfl rfl rfl ?_); refine OpV.box rfl rfl rfl ?_; intro _; refine w ?_))
        (refine VC.condFe rfl rfl (by simp) ?_)
        (refine w ?_; repeat ((first | refine VO.step rfl rfl ?_ | refine VD.end rfl rfl rfl ?_ | refine VD.mid rfl rfl rfl ?_); refine OpV.box rfl rfl rfl ?_; intro _; refine w ?_))
        exact VE.round (k + 1) hkt (by omega) ⟨rfl, rfl, rfl, rfl, rfl, trivial⟩ (Ent.drop Ent.refl)
      · (refine w ?_; repeat ((first | refine VO.step rfl rfl ?_ | refine VD.end rfl rfl rfl ?_ | refine VD.mid rfl rfl rfl ?_); refine OpV.box rfl rfl rfl ?_; intro _; refine w ?_))
        exact VE.round (a + 1) hlt (by omega) ⟨rfl, rfl, rfl, trivial⟩ Ent.refl
  · (refine w ?_; repeat ((first | refine VO.step rfl rfl ?_ | refine VD.end rfl rfl rfl ?_ | refine VD.mid rfl rfl rfl ?_); refine OpV.box rfl rfl rfl ?_; intro _; refine w ?_))
    (refine VE.done1 rfl ?_ ?_)
    · rfl
    · exact hend
end Rw
end Go.Proofs.YtpmmkmcbimnigaaGreat

/-! Text Ei. -/
/- The document's DecodeHeader, DecodeCommit, DecodeCheck. -/
set_option maxRecDepth 8000
set_option linter.unusedVariables false
set_option linter.unusedSimpArgs false
set_option linter.unusedSectionVars false
namespace Go.Proofs.YtpmmkmcbimnigaaGreat
open Go.RowKit Go.Sl
attribute [local irreducible] Own

end Go.Proofs.YtpmmkmcbimnigaaGreat

/-! Text Ej. -/
/- The program's EncodeHeader, EncodeCommit, EncodeCheck. -/
set_option maxRecDepth 8000
set_option linter.unusedVariables false
set_option linter.unusedSimpArgs false
set_option linter.unusedSectionVars false
namespace Go.Proofs.YtpmmkmcbimnigaaGreat
open Go.RowKit Go.Sl
attribute [local irreducible] Own

end Go.Proofs.YtpmmkmcbimnigaaGreat

/-! Text Ek. -/
/- The program's read, DecodeHeader, DecodeCommit, DecodeCheck. -/
set_option maxRecDepth 8000
set_option linter.unusedVariables false
set_option linter.unusedSimpArgs false
set_option linter.unusedSectionVars false
namespace Go.Proofs.YtpmmkmcbimnigaaGreat
open Go.RowKit Go.Sl
attribute [local irreducible] Own

end Go.Proofs.YtpmmkmcbimnigaaGreat

/-! Text Em. -/
/- The program's DecodeHeader, DecodeCommit, DecodeCheck. -/
set_option maxRecDepth 8000
set_option linter.unusedVariables false
set_option linter.unusedSimpArgs false
set_option linter.unusedSectionVars false
namespace Go.Proofs.YtpmmkmcbimnigaaGreat
open Go.RowKit Go.Sl
attribute [local irreducible] Own

end Go.Proofs.YtpmmkmcbimnigaaGreat

/-! Text En. -/
/- Escape and Unescape, the document's and the program's. -/
set_option maxRecDepth 8000
set_option linter.unusedVariables false
set_option linter.unusedSimpArgs false
set_option linter.unusedSectionVars false
namespace Go.Proofs.YtpmmkmcbimnigaaGreat
open Go.RowKit Go.Sl
attribute [local irreducible] Own

def nought4 : List UInt8 := [0, 0, 0, 0]
def unD (b : List UInt8) (e : Bool) : List UInt8 × Int :=
  if b.length ≠ 128 then ([], 4) else if e = false then (if b.take 4 = magicL then ([], 80) else (b, 0)) else (if b.take 4 = nought4 then (magicL ++ b.drop 4, 0) else ([], 80))

end Go.Proofs.YtpmmkmcbimnigaaGreat

/-! Text Np. -/
/- Batches in a ring: what they are as sectors, when one counts, what a scan finds: the plain law. -/
set_option maxRecDepth 8000
set_option linter.unusedVariables false
set_option linter.unusedSimpArgs false
set_option linter.unusedSectionVars false
namespace Go.Proofs.YtpmmkmcbimnigaaGreat
open Go.RowKit Go.Sl
attribute [local irreducible] Own

/-! ### Sums -/
/-! ### What is decoded is what was encoded -/
/-! ### Escapes -/
/-! ### Batches as sectors -/
structure PatD where
  member : Int
  row : Int
  data : List UInt8
def PatD.far (p : PatD) : Prop := p.member < 0 ∨ 15 < p.member ∨ p.row < 0 ∨ 4095 < p.row
instance (p : PatD) : Decidable p.far := by unfold PatD.far; exact inferInstance
/-! ### When one counts -/
abbrev SecF := Nat → List UInt8
/-- The i-th pair of sectors is as it must be. -/
def stepOk (sec : SecF) (e s : Nat) (n : Int) (i : Nat) : Prop :=
  (HdrD.dec (sec (2 * i))).1 = 0 ∧ (HdrD.dec (sec (2 * i))).2.epoch = e ∧ (HdrD.dec (sec (2 * i))).2.seq = s ∧ (HdrD.dec (sec (2 * i))).2.index = i ∧ (HdrD.dec (sec (2 * i))).2.count = n ∧
  (unD (sec (2 * i + 1)) (HdrD.dec (sec (2 * i))).2.escaped).2 = 0 ∧ (crcS (sec (2 * i + 1))).toNat = (HdrD.dec (sec (2 * i))).2.sum
instance (sec : SecF) (e s : Nat) (n : Int) (i : Nat) : Decidable (stepOk sec e s n i) := by unfold stepOk; exact inferInstance
def headsF (sec : SecF) : Nat → List UInt8
  | 0 => []
  | i + 1 => headsF sec i ++ sec (2 * i)
def batN (sec : SecF) : Int := (HdrD.dec (sec 0)).2.count
def batOk (sec : SecF) (room e s : Nat) : Prop :=
  (HdrD.dec (sec 0)).1 = 0 ∧ 2 * batN sec + 1 ≤ room ∧ (∀ i, i < (batN sec).toNat → stepOk sec e s (batN sec) i) ∧
  (CmtD.dec (sec (2 * (batN sec).toNat))) = (0, ⟨e, s, batN sec, (crcS (headsF sec (batN sec).toNat)).toNat⟩)
instance instCmtN : DecidableEq CmtD := fun a b => if h : a.epoch = b.epoch ∧ a.seq = b.seq ∧ a.count = b.count ∧ a.sum = b.sum then isTrue (by cases a; cases b; simp_all) else isFalse (fun q => h (by rw [q]; exact ⟨rfl, rfl, rfl, rfl⟩))
instance (sec : SecF) (room e s : Nat) : Decidable (batOk sec room e s) := by unfold batOk; exact inferInstance
/-! ### What a scan finds -/
end Go.Proofs.YtpmmkmcbimnigaaGreat

/-! Text Nq. -/
/- What a scan finds: the plain law. -/
set_option maxRecDepth 8000
set_option linter.unusedVariables false
set_option linter.unusedSimpArgs false
set_option linter.unusedSectionVars false
namespace Go.Proofs.YtpmmkmcbimnigaaGreat
open Go.RowKit Go.Sl
attribute [local irreducible] Own

section
variable {sec : SecF} {size e : Nat}
end
/-! ### Batches laid side by side -/
/-! ### A ring as bytes -/
end Go.Proofs.YtpmmkmcbimnigaaGreat

/-! Text Sq. -/
/- A call that asks for nothing of one's own: from the memory as it is. Generic: no program is named. -/
set_option maxRecDepth 8000
set_option linter.unusedVariables false
set_option linter.unusedSimpArgs false
set_option linter.unusedSectionVars false
namespace Go.Sl
open Go Go.RowKit
section
variable {W w : World} {P : Program} {R H : List SProp}
theorem frag_sub {w' : World} (h : Below W.heap.size W w) (h' : Below w.heap.size w w') : Frag.sub (frag W w) (frag W w') ∧ Frag.sub (frag w w') (frag W w') ∧ Frag.disj (frag w w') (frag W w) := by
  refine ⟨fun k o hk => ?_, fun k o hk => ?_, fun k => ?_⟩
  · unfold frag at hk ⊢
    split at hk
    · cases hk
    · rename_i h1
      rw [if_neg h1, h'.block k ?_]
      · exact hk
      · exact (Array.getElem?_eq_some_iff.1 hk).1
  · unfold frag at hk ⊢
    split at hk
    · cases hk
    · rename_i h1
      have := h.size
      rw [if_neg (by omega)]; exact hk
  · unfold frag
    by_cases h1 : k < w.heap.size
    · left; rw [if_pos h1]
    · right
      split
      · rfl
      · exact Array.getElem?_eq_none (by omega)
/-- What a call does from the memory as it is: all that is one's own ahead of it stays. -/
theorem Holds.onto {w' : World} {L : List SProp} (h : Holds W R w) (h' : Holds w L w') : Holds W (L ++ R) w' := by
  obtain ⟨s1, s2, s3⟩ := frag_sub h.below h'.below
  exact ⟨h.below.trans (h'.below.mono h.below.size), star.join ⟨_, _, s2, s1, s3, h'.star, h.star⟩⟩
theorem Does.frame {g : FuncId} {args : List Value} {β : Type} {A : β → Prop} {r : β → Value} {G : β → List SProp} (h : ∀ w, Holds W R w → Does w P g args [] A r G) : Does W P g args R A r (fun x => G x ++ R) := by
  unfold Does
  intro w hw
  have h1 := h w hw
  unfold Does at h1
  refine Calls.mono (h1 w (Holds.start w)) ?_
  rintro e w' ⟨x, hA, rfl, hG⟩
  exact ⟨x, hA, rfl, hw.onto hG⟩
theorem Rds.base {sz n : Nat} {ao : Option Addr} {xs : List Value} (r : Rds W H sz ao n xs) (hw : Holds W H w) : RdsA w sz ao n xs :=
  fun _ => ⟨r.len, r.one, r.nil, fun _ hw' a ha j u hj => hw'.ro (r.cell w hw a ha j u hj)⟩
end
end Go.Sl

/-! Text Eo. -/
/- The journal's sectors: what the chapter's example fixes; arguments; comparisons of structs. -/
set_option maxRecDepth 8000
set_option linter.unusedVariables false
set_option linter.unusedSimpArgs false
set_option linter.unusedSectionVars false
namespace Go.Proofs.YtpmmkmcbimnigaaGreat
open Go.RowKit Go.Sl
attribute [local irreducible] Own

theorem hdr_same (a b : HdrD) : a = b ↔ a.epoch = b.epoch ∧ a.seq = b.seq ∧ a.index = b.index ∧ a.count = b.count ∧ a.member = b.member ∧ a.row = b.row ∧ a.escaped = b.escaped ∧ a.sum = b.sum := by cases a; cases b; simp
theorem cmt_same (a b : CmtD) : a = b ↔ a.epoch = b.epoch ∧ a.seq = b.seq ∧ a.count = b.count ∧ a.sum = b.sum := by cases a; cases b; simp
theorem chk_same (a b : ChkD) : a = b ↔ a.epoch = b.epoch ∧ a.seq = b.seq ∧ a.tail = b.tail := by cases a; cases b; simp
instance : DecidableEq HdrD := fun a b => decidable_of_iff _ (hdr_same a b).symm
instance : DecidableEq CmtD := fun a b => decidable_of_iff _ (cmt_same a b).symm
instance : DecidableEq ChkD := fun a b => decidable_of_iff _ (chk_same a b).symm
section
variable {W : World} {n : Nat} {H : List SProp} {f : Fr} {dst : Option Tmp} {ty_ : TypeId} {pos : String} {after : Array Edge} {guard : Option (Nat × Bool)} {op : BinOp} {x y : Operand} {u : TypeId} {v : Value}
end
/-! ### Arguments -/
/-! ### What the example fixes -/
def h0 : HdrD := ⟨1, 2, 0, 2, 3, 5, false, 9⟩
end Go.Proofs.YtpmmkmcbimnigaaGreat

/-! Text Ep. -/
/- RecordLogged, RecordReads: the walks of the laws. -/
set_option maxRecDepth 8000
set_option linter.unusedVariables false
set_option linter.unusedSimpArgs false
set_option linter.unusedSectionVars false
namespace Go.Proofs.YtpmmkmcbimnigaaGreat
open Go.RowKit Go.Sl
attribute [local irreducible] Own

theorem flatMap_byteV (l : List UInt8) : l.flatMap (fun c => [byteV c]) = bytes l := by
  induction l with
  | nil => rfl
  | cons a r ih => simp only [List.flatMap_cons, ih]; rfl
theorem bytesC_of {W : World} {ao : Option Addr} {n cap : Nat} (h : InT Tryz.prog W 22 [.slice ao n cap]) : ∃ l : List UInt8, l.length = n ∧ RdsA W 1 ao n (bytes l) ∧ n ≤ 140737488351232 ∧ n ≤ cap := by
  obtain ⟨l, h1, h2, -, h4, h5⟩ := h.list (fun c : UInt8 => [byteV c]) (fun _ => True) 0 Tryz.underlying22 (by kernel_rfl) (fun o _ u hu => by simp at hu; subst hu; rfl) (fun cs hc => by
    obtain ⟨m, rfl, hw⟩ := hc.int_inv Tryz.underlying5
    obtain ⟨c, rfl⟩ := byte_of hw
    exact ⟨c, rfl, trivial⟩)
  have b1 : Tryz.prog.bytesOf 5 = 1 := by kernel_rfl
  rw [b1] at h5
  rw [flatMap_byteV] at h2
  exact ⟨l, h1, h2, by simp only [reachBytes] at h5; omega, h4⟩
end Go.Proofs.YtpmmkmcbimnigaaGreat

