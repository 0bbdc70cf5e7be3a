import Derived.Test.YtpmmkmcbimnigaaM3
import Derived.DeepKeys3
import Derived.WideKeyRuns
/-! Text Ya. -/
/- The engine: maps by any key, interface values, calls through interfaces. Generic: no program is named. -/
set_option maxRecDepth 8000
set_option linter.unusedVariables false
set_option linter.unusedSimpArgs false
set_option linter.unusedSectionVars false
namespace Go.Sl
open Go Go.RowKit Go.MapKept

/-! ### Keys -/
/-- Keys of a type: how they look, and that they can be looked for. -/
structure KeyT (P : Program) (kt : TypeId) (κ : Type) [DecidableEq κ] (kv : κ → Value) (good : κ → Prop) : Prop where
  inj : ∀ a b, kv a = kv b → a = b
  check : ∀ (w : World) (em : Bool) k, good k → (Instr.checkKey em 10000 kt (kv k)).run P w = .ok () w
  find : ∀ (w : World) k, good k → ∀ es : List MapEntry, (∀ e ∈ es, ∃ a, good a ∧ e.key = kv a) →
    ((Instr.findKey kt (kv k) es).run P w = .ok none w ∧ ∀ e ∈ es, e.key ≠ kv k) ∨ ∃ j e, (Instr.findKey kt (kv k) es).run P w = .ok (some (j, e.val)) w ∧ es[j]? = some e ∧ e.key = kv k
  stays : ∀ (w : World) k, good k → (Instr.keyThatStays (kv k) (kv k)).run P w = .ok (kv k) w
abbrev boolV (k : Bool) : Value := .bool k
theorem KeyT.bool {P : Program} {kt : TypeId} (hkt : P.underlying kt = some .bool) : KeyT P kt Bool boolV (fun _ => True) := by
  refine ⟨fun a b h => by simpa using h, fun w em k _ => ?_, fun w k _ es hall => ?_, fun w k _ => ?_⟩
  · exact Go.MapKept.run_checkKey (P := P) (w := w) (kt := kt) (k := .bool k) hkt trivial em 9999
  · rcases findNow_spec (d := .bool) (k := .bool k) trivial es 0 (fun e he => by obtain ⟨a, _, h1⟩ := hall e he; rw [h1]; exact trivial) with ⟨h1, h2⟩ | ⟨j, e, h1, h2, h3⟩
    · exact .inl ⟨Go.MapKept.run_findKey (P := P) (w := w) (kt := kt) hkt h1, h2⟩
    · exact .inr ⟨j, e, by rw [Go.MapKept.run_findKey (P := P) (w := w) (kt := kt) hkt h1, Nat.zero_add], h2, h3⟩
  · simp [Instr.keyThatStays, Instr.sameBits]

/-! ### Maps -/
section
variable {κ : Type} [DecidableEq κ] {kv : κ → Value} {good : κ → Prop}
/-- The entries are these, in some order. -/
structure MRel (kv : κ → Value) (good : κ → Prop) (es : List MapEntry) (D : List (κ × Value)) : Prop where
  perm : List.Perm (es.map fun e => (e.key, e.val)) (D.map fun x => (kv x.1, x.2))
  one : (D.map (·.1)).Nodup
  good : ∀ x ∈ D, good x.1
def MapL (kv : κ → Value) (good : κ → Prop) (b : Nat) (D : List (κ × Value)) : SProp := ex fun x : Array MapEntry × Nat => Sl.star [fact (MRel kv good x.1.toList D), At b (.map x.1 x.2)]
theorem MapL.open {W w : World} {b : Nat} {D : List (κ × Value)} {R : List SProp} (hw : Holds W (MapL kv good b D :: R) w) : ∃ es cl, MRel kv good es.toList D ∧ Holds W (At b (.map es cl) :: R) w := by
  obtain ⟨⟨es, cl⟩, h⟩ := hw.exOpen
  have h := h.join
  exact ⟨es, cl, h.factOpen, h.tail⟩
theorem MapL.shut {W w : World} {b : Nat} {D : List (κ × Value)} {R : List SProp} {es : Array MapEntry} {cl : Nat} (hr : MRel kv good es.toList D) (hw : Holds W (At b (.map es cl) :: R) w) : Holds W (MapL kv good b D :: R) w :=
  Holds.exShut (es, cl) (Holds.nest (L := [_, _]) (hw.factShut hr))
theorem MRel.nil : MRel kv good [] [] := ⟨.refl _, List.nodup_nil, fun x h => (by cases h)⟩
def getD (D : List (κ × Value)) (k : κ) : Option Value := (D.find? fun x => x.1 = k).map (·.2)
def putD (D : List (κ × Value)) (k : κ) (v : Value) : List (κ × Value) := D.filter (fun x => x.1 ≠ k) ++ [(k, v)]
def delD (D : List (κ × Value)) (k : κ) : List (κ × Value) := D.filter fun x => x.1 ≠ k
theorem getD_none {D : List (κ × Value)} {k : κ} (h : ∀ x ∈ D, x.1 ≠ k) : getD D k = none := by
  unfold getD
  rw [List.find?_eq_none.2 (fun x hx => by simpa using h x hx)]; rfl
theorem getD_some {D : List (κ × Value)} {k : κ} {v : Value} (h1 : (D.map (·.1)).Nodup) (h : (k, v) ∈ D) : getD D k = some v := by
  unfold getD
  induction D with
  | nil => cases h
  | cons x r ih =>
    rw [List.map_cons, List.nodup_cons] at h1
    by_cases q : x.1 = k
    · rw [List.find?_cons_of_pos (by simpa using q)]
      cases h with
      | head => rfl
      | tail _ h => exact absurd (q ▸ List.mem_map_of_mem h : x.1 ∈ r.map (·.1)) h1.1
    · rw [List.find?_cons_of_neg (by simpa using q)]
      cases h with
      | head => exact absurd rfl q
      | tail _ h => exact ih h1.2 h
theorem delD_of_not {D : List (κ × Value)} {k : κ} (h : ∀ x ∈ D, x.1 ≠ k) : delD D k = D := List.filter_eq_self.2 fun x hx => by simpa using h x hx
theorem perm_erase {α : Type} {l : List α} {i : Nat} {a : α} (h : l[i]? = some a) : List.Perm l (a :: l.eraseIdx i) := by
  obtain ⟨hi, rfl⟩ := List.getElem?_eq_some_iff.1 h
  rw [List.eraseIdx_eq_take_drop_succ]
  have : l = l.take i ++ l[i] :: l.drop (i + 1) := by rw [← List.drop_eq_getElem_cons hi, List.take_append_drop]
  exact (List.Perm.of_eq this).trans List.perm_middle
/-- What is looked for, and what the entries are without it. -/
theorem MRel.at {P : Program} {kt : TypeId} (K : KeyT P kt κ kv good) {es : List MapEntry} {D : List (κ × Value)} (h : MRel kv good es D) (w : World) (k : κ) (hk : good k) :
    ((Instr.findKey kt (kv k) es).run P w = .ok none w ∧ getD D k = none ∧ (∀ x ∈ D, x.1 ≠ k)) ∨
    ∃ j e v, (Instr.findKey kt (kv k) es).run P w = .ok (some (j, v)) w ∧ getD D k = some v ∧ es[j]? = some e ∧ e.key = kv k ∧ e.val = v ∧ List.Perm ((es.eraseIdx j).map fun e => (e.key, e.val)) ((delD D k).map fun x => (kv x.1, x.2)) := by
  have hall : ∀ e ∈ es, ∃ a, good a ∧ e.key = kv a := by
    intro e he
    have := h.perm.subset (List.mem_map_of_mem he)
    obtain ⟨x, hx, hxe⟩ := List.mem_map.1 this
    exact ⟨x.1, h.good x hx, by have := congrArg Prod.fst hxe; exact this.symm⟩
  rcases K.find w k hk es hall with ⟨h1, h2⟩ | ⟨j, e, h1, h2, h3⟩
  · have hn : ∀ x ∈ D, x.1 ≠ k := by
      intro x hx q
      have := h.perm.symm.subset (List.mem_map_of_mem hx)
      obtain ⟨e, he, hxe⟩ := List.mem_map.1 this
      exact h2 e he (by have := congrArg Prod.fst hxe; rw [← q]; exact this)
    exact .inl ⟨h1, getD_none hn, hn⟩
  · have hm : (kv k, e.val) ∈ D.map fun x => (kv x.1, x.2) := by
      have := h.perm.subset (List.mem_map_of_mem (List.mem_of_getElem? h2))
      rwa [h3] at this
    obtain ⟨x, hx, hxe⟩ := List.mem_map.1 hm
    have hxk : x.1 = k := K.inj _ _ (congrArg Prod.fst hxe)
    have hxv : x.2 = e.val := congrArg Prod.snd hxe
    have hxD : (k, e.val) ∈ D := by rw [← hxk, ← hxv]; exact hx
    refine .inr ⟨j, e, e.val, h1, getD_some h.one hxD, h2, h3, rfl, ?_⟩
    have p1 : List.Perm (es.map fun e => (e.key, e.val)) ((kv k, e.val) :: (es.eraseIdx j).map fun e => (e.key, e.val)) := by
      have := (perm_erase h2).map fun e => (e.key, e.val)
      rwa [List.map_cons, h3] at this
    have p2 : ∀ (D : List (κ × Value)), (D.map (·.1)).Nodup → (k, e.val) ∈ D → List.Perm D ((k, e.val) :: delD D k) := by
      intro D
      induction D with
      | nil => intro _ h; cases h
      | cons y r ih =>
        intro hd hm
        rw [List.map_cons, List.nodup_cons] at hd
        by_cases q : y.1 = k
        · have hr : ∀ z ∈ r, z.1 ≠ k := fun z hz q2 => hd.1 (by rw [q, ← q2]; exact List.mem_map_of_mem hz)
          have hy : y = (k, e.val) := by
            cases hm with
            | head => rfl
            | tail _ hm => exact absurd rfl (hr _ hm)
          have : delD (y :: r) k = r := by
            unfold delD
            rw [List.filter_cons_of_neg (by simpa using q)]
            exact delD_of_not hr
          rw [this, hy]
        · have : delD (y :: r) k = y :: delD r k := by unfold delD; rw [List.filter_cons_of_pos (by simpa using q)]
          rw [this]
          cases hm with
          | head => exact absurd rfl q
          | tail _ hm => exact ((ih hd.2 hm).cons y).trans (List.Perm.swap _ _ _)
    have p3 := (p2 D h.one hxD).map fun x : κ × Value => (kv x.1, x.2)
    rw [List.map_cons] at p3
    exact (p1.symm.trans (h.perm.trans p3)).cons_inv
theorem nodup_del {D : List (κ × Value)} (h : (D.map (·.1)).Nodup) (k : κ) : ((delD D k).map (·.1)).Nodup := h.sublist ((List.filter_sublist).map _)
theorem MRel.put {P : Program} {kt : TypeId} {es es' : List MapEntry} {D : List (κ × Value)} (h : MRel kv good es D) (k : κ) (hk : good k) (v : Value) (hp : List.Perm (es'.map fun e => (e.key, e.val)) ((kv k, v) :: (delD D k).map fun x => (kv x.1, x.2))) : MRel kv good es' (putD D k v) := by
  refine ⟨?_, ?_, ?_⟩
  · unfold putD
    rw [List.map_append, List.map_singleton]
    exact hp.trans (List.perm_append_comm (l₁ := [(kv k, v)]))
  · unfold putD
    rw [List.map_append, List.map_singleton]
    refine List.nodup_append.2 ⟨nodup_del h.one k, by simp, ?_⟩
    intro a ha b hb
    rw [List.mem_singleton] at hb
    obtain ⟨x, hx, rfl⟩ := List.mem_map.1 ha
    have := (List.mem_filter.1 hx).2
    rw [hb]
    simpa using this
  · intro x hx
    rcases List.mem_append.1 hx with hx | hx
    · exact h.good x (List.mem_filter.1 hx).1
    · rw [List.mem_singleton] at hx; subst hx; exact hk
end
section
variable {W : World} {P : Program} {n : Nat} {c : Code} {Q : Exit → Act → World → Prop} {H H' L S : List SProp} {f F : Fr} {C : SProp → List SProp}
variable {N : List SProp → Fr → Prop} {dst : Option Tmp} {d : Nat} {ty_ : TypeId} {pos : String} {after : Array Edge} {guard : Option (Nat × Bool)}
variable {κ : Type} [DecidableEq κ] {kv : κ → Value} {good : κ → Prop} {D : List (κ × Value)}

/-! ### Interface values, calls through them -/
theorem PureAt.makeIface {t : TypeId} {x : Operand} {v : Value} {dsc : TypeDesc} (hu : P.underlying t = some dsc) (hn : ∀ ms, dsc ≠ .interface ms) (hx : evalX f x = some v) :
    PureAt W P n H f { dst, op := .makeInterface t x, type := ty_, pos, after, guard } (.iface t v) := by
  unfold PureAt
  intro tm w hk hw
  cases dsc <;> first | exact absurd rfl (hn _) | simp [execOp, Instr.makeInterface, hk.eval hx, Sem.run_bind, run_underlying hu]
theorem PureAt.assertIface {x : Operand} {xt t : TypeId} {v : Value} {dsc : TypeDesc} (hu : P.underlying t = some dsc) (hn : ∀ ms, dsc ≠ .interface ms) (hx : evalX f x = some (.iface t v)) :
    PureAt W P n H f { dst, op := .typeAssert x xt t false, type := ty_, pos, after, guard } v := by
  unfold PureAt
  intro tm w hk hw
  cases dsc <;> first | exact absurd rfl (hn _) | simp [execOp, Instr.typeAssert, hk.eval hx, Sem.run_bind, run_underlying hu]
theorem OpV.invoke {x : Operand} {name : String} {xs : Array Operand} {ats : Array TypeId} {g : FuncId} {t : TypeId} {v recv : Value} {vs : List Value} {β : Type} {A : β → Prop} {r : β → Value} {G : β → List SProp}
    (hx : evalX f x = some (.iface t v)) (ha : argsX f xs.toList = some vs) (hc : ∀ w, Holds W H w → (callMethod (.iface t v) name vs.toArray).run P w = .ok (.enter g (recv :: vs).toArray) w) (spec : Does W P g (recv :: vs) L A r G)
    (hL : Ent W H L) (hd : Nat.blt d n = true) (h : ∀ y, A y → N (G y) ((d, r y) :: f)) :
    OpV W P n { dst := some d, op := .call { callee := .invoke x name, args := xs, argTypes := ats }, type := ty_, pos, after, guard } Q H f N := by
  unfold OpV
  intro tm w hk hw K hK
  have hargs : xs.map (Act.eval ⟨tm, []⟩) = vs.toArray := by
    have := hk.args ha
    apply Array.ext'
    simpa using this
  unfold Does at spec
  have hs := spec w (hL w hw)
  have hcw := hc w hw
  have hex : (#[Value.iface t v] ++ vs.toArray).extract 1 (#[Value.iface t v] ++ vs.toArray).size = vs.toArray := by
    apply Array.ext'; simp
  unfold Oper.wp execOp
  simp only [resolve, hk.eval hx, hargs, Go.invoke, Sem.run_bind, Sem.run_pure, Result.andThen_ok]
  have h0 : (#[Value.iface t v] ++ vs.toArray)[0]? = some (Value.iface t v) := by simp
  simp only [h0, hex, hcw, Oper.upon]
  refine Calls.mono hs ?_
  rintro e w' ⟨y, hA, rfl, hG⟩
  exact hK _ _ (h y hA) _ _ (hk.put hd) hG
end
attribute [irreducible] MapL
end Go.Sl

/-! Text Na. -/
/- Lists that lead to lists: rows of bytes, patches, batches: what they are in memory. -/
set_option maxRecDepth 8000
set_option linter.unusedVariables false
set_option linter.unusedSimpArgs false
set_option linter.unusedSectionVars false
namespace Go.Sl
open Go Go.RowKit
section
variable {W w : World} {H R L M : List SProp} {α : Type} {res : α → SProp}
/-- What many things have, as one resource. -/
def pile (res : α → SProp) (l : List α) : SProp := star (l.map res)
theorem pile_nil (h : Holds W R w) : Holds W (pile res [] :: R) w := h.nest (L := [])
theorem pile_push {l : List α} {a : α} (h : Holds W (res a :: pile res l :: R) w) : Holds W (pile res (l ++ [a]) :: R) w := by
  have h2 := (h.swap).join
  refine Holds.nest ?_
  rw [List.map_append]
  refine h2.perm ?_
  simp
theorem pile_out {l : List α} {i : Nat} (hi : i < l.length) (h : Holds W (pile res l :: R) w) : Holds W (res l[i] :: pile res (l.eraseIdx i) :: R) w := by
  have h2 := h.join
  have e : List.Perm l (l[i] :: l.eraseIdx i) := by
    rw [List.eraseIdx_eq_take_drop_succ]
    have : l = l.take i ++ l[i] :: l.drop (i + 1) := by rw [← List.drop_eq_getElem_cons hi, List.take_append_drop]
    exact (List.Perm.of_eq this).trans List.perm_middle
  have h3 : Holds W (res l[i] :: ((l.eraseIdx i).map res ++ R)) w := h2.perm (by simpa using ((e.map res).append_right R))
  have h4 : Holds W ((l.eraseIdx i).map res ++ (R ++ [res l[i]])) w := h3.perm (by
    refine (List.perm_append_comm (l₁ := [res l[i]]) (l₂ := (l.eraseIdx i).map res ++ R)).trans ?_
    rw [List.append_assoc])
  have h5 : Holds W (pile res (l.eraseIdx i) :: (R ++ [res l[i]])) w := h4.nest
  exact h5.perm (List.perm_append_comm (l₁ := pile res (l.eraseIdx i) :: R) (l₂ := [res l[i]]))
/-- What lies within a group of resources is read. -/
theorem Rds.star {sz k : Nat} {ao : Option Addr} {xs : List Value} (m : Sl.star L ∈ H) (h : ∀ R, Rds W (L ++ R) sz ao k xs) : Rds W H sz ao k xs := by
  have h0 := h []
  refine ⟨h0.len, h0.one, h0.nil, fun w hw => ?_⟩
  obtain ⟨R, p⟩ := mem_perm m
  exact (h R).cell w (hw.perm p).join
theorem Rds.pile {sz k : Nat} {ao : Option Addr} {xs : List Value} {l : List α} {a : α} (m : Sl.pile res l ∈ H) (ha : a ∈ l) (h : ∀ R, res a ∈ R → Rds W R sz ao k xs) : Rds W H sz ao k xs :=
  Rds.star (L := l.map res) m (fun R => h _ (List.mem_append_left _ (List.mem_map_of_mem ha)))
end
end Go.Sl
namespace Go.Proofs.Ytpmmkmcbimnigaa
open Go.RowKit Go.Sl
attribute [local irreducible] Own

/-! ### Rows of bytes -/
structure RowE where
  ao : Option Addr
  cap : Nat
  data : List UInt8
abbrev RowE.hdr (e : RowE) : Value := .slice e.ao e.data.length e.cap
def RowE.res (e : RowE) : SProp := Own 5 1 (.slice e.ao e.data.length e.cap) e.data.length (bytes e.data)
structure RowE.ok (e : RowE) : Prop where
  nil : e.ao = none → e.data.length = 0
  cap : e.data.length ≤ e.cap
theorem rowhdr_one (l : List RowE) : ∀ u ∈ l.map RowE.hdr, u.oneCell' = true := by
  intro u hu; obtain ⟨e, _, rfl⟩ := List.mem_map.1 hu; rfl
theorem RowE.rds {W : World} {H : List SProp} {e : RowE} (h : e.ok) (m : e.res ∈ H) : Rds W H 1 e.ao e.data.length (bytes e.data) := Rds.own (bytes_one _) m (by simp) h.nil
theorem RowE.know {W w : World} {R : List SProp} {e : RowE} (h : Holds W (e.res :: R) w) : e.ok := ⟨h.ownNone (.head _), h.ownCap (.head _)⟩
/-- Rows that can be read. -/
structure RdRows (W : World) (R : List SProp) (ao : Option Addr) (l : List RowE) : Prop where
  rds : Rds W R 1 ao l.length (l.map RowE.hdr)
  each : ∀ e ∈ l, Rds W R 1 e.ao e.data.length (bytes e.data)
  ok : ∀ e ∈ l, e.ok
abbrev RowsO (x : Option Addr × Nat) (l : List RowE) : SProp := Own 47 1 (.slice x.1 l.length x.2) l.length (l.map RowE.hdr)
abbrev PilR (l : List RowE) : SProp := pile RowE.res l
theorem RdRows.own {W : World} {H : List SProp} {x : Option Addr × Nat} {l : List RowE} (hn : x.1 = none → l.length = 0) (hok : ∀ e ∈ l, e.ok) (m1 : RowsO x l ∈ H) (m2 : PilR l ∈ H) : RdRows W H x.1 l :=
  ⟨Rds.own (rowhdr_one l) m1 (by simp) hn, fun e he => Rds.pile m2 he (fun R hR => RowE.rds (hok e he) hR), hok⟩
theorem RdRows.ent {W : World} {H R : List SProp} {ao : Option Addr} {l : List RowE} (h : RdRows W R ao l) (e : Ent W H R) : RdRows W H ao l := ⟨h.rds.ent e, fun x hx => (h.each x hx).ent e, h.ok⟩
theorem PilR.know {W w : World} {R : List SProp} {l : List RowE} (h : Holds W (PilR l :: R) w) : ∀ e ∈ l, e.ok := by
  intro e he
  obtain ⟨i, hi, rfl⟩ := List.mem_iff_getElem.1 he
  exact RowE.know (pile_out hi h)
/-! ### Patches -/
structure PatE where
  member : Int
  row : Int
  d : RowE
abbrev PatE.cells (p : PatE) : List Value := [.int .i64 p.member, .int .i64 p.row, p.d.hdr]
def patCells (l : List PatE) : List Value := l.flatMap PatE.cells
def PatE.res (p : PatE) : SProp := p.d.res
theorem pat_one (p : PatE) : ∀ u ∈ p.cells, u.oneCell' = true := by simp [Value.oneCell']
theorem pats_one (l : List PatE) : ∀ u ∈ patCells l, u.oneCell' = true := by
  intro u hu; obtain ⟨p, _, h⟩ := List.mem_flatMap.1 hu; exact pat_one p u h
theorem pats_len (l : List PatE) : (patCells l).length = l.length * 3 := flat_length l (fun _ _ => rfl)
structure RdPats (W : World) (R : List SProp) (ao : Option Addr) (l : List PatE) : Prop where
  rds : Rds W R 3 ao l.length (patCells l)
  each : ∀ p ∈ l, Rds W R 1 p.d.ao p.d.data.length (bytes p.d.data)
  ok : ∀ p ∈ l, p.d.ok
abbrev PatsO (x : Option Addr × Nat) (l : List PatE) : SProp := Own 49 3 (.slice x.1 l.length x.2) l.length (patCells l)
abbrev PilP (l : List PatE) : SProp := pile PatE.res l
theorem RdPats.own {W : World} {H : List SProp} {x : Option Addr × Nat} {l : List PatE} (hn : x.1 = none → l.length = 0) (hok : ∀ p ∈ l, p.d.ok) (m1 : PatsO x l ∈ H) (m2 : PilP l ∈ H) : RdPats W H x.1 l :=
  ⟨Rds.own (pats_one l) m1 (pats_len l) hn, fun p hp => Rds.pile m2 hp (fun R hR => RowE.rds (hok p hp) hR), hok⟩
theorem RdPats.ent {W : World} {H R : List SProp} {ao : Option Addr} {l : List PatE} (h : RdPats W R ao l) (e : Ent W H R) : RdPats W H ao l := ⟨h.rds.ent e, fun x hx => (h.each x hx).ent e, h.ok⟩
theorem PilP.know {W w : World} {R : List SProp} {l : List PatE} (h : Holds W (PilP l :: R) w) : ∀ p ∈ l, p.d.ok := by
  intro e he
  obtain ⟨i, hi, rfl⟩ := List.mem_iff_getElem.1 he
  exact RowE.know (pile_out hi h)
/-! ### Batches -/
structure TxnE where
  seq : Nat
  ao : Option Addr
  cap : Nat
  pats : List PatE
abbrev TxnE.cells (t : TxnE) : List Value := [.int .u64 t.seq, .slice t.ao t.pats.length t.cap]
def txnCells (l : List TxnE) : List Value := l.flatMap TxnE.cells
def TxnE.res (t : TxnE) : SProp := Sl.star [PatsO (t.ao, t.cap) t.pats, PilP t.pats]
structure TxnE.ok (t : TxnE) : Prop where
  nil : t.ao = none → t.pats.length = 0
  cap : t.pats.length ≤ t.cap
  each : ∀ p ∈ t.pats, p.d.ok
theorem txn_one (p : TxnE) : ∀ u ∈ p.cells, u.oneCell' = true := by simp [Value.oneCell']
theorem txns_one (l : List TxnE) : ∀ u ∈ txnCells l, u.oneCell' = true := by
  intro u hu; obtain ⟨p, _, h⟩ := List.mem_flatMap.1 hu; exact txn_one p u h
theorem txns_len (l : List TxnE) : (txnCells l).length = l.length * 2 := flat_length l (fun _ _ => rfl)
structure RdTxns (W : World) (R : List SProp) (ao : Option Addr) (l : List TxnE) : Prop where
  rds : Rds W R 2 ao l.length (txnCells l)
  each : ∀ t ∈ l, RdPats W R t.ao t.pats
  ok : ∀ t ∈ l, t.ok
abbrev TxnsO (x : Option Addr × Nat) (l : List TxnE) : SProp := Own 170 2 (.slice x.1 l.length x.2) l.length (txnCells l)
abbrev PilT (l : List TxnE) : SProp := pile TxnE.res l
theorem TxnE.know {W w : World} {R : List SProp} {t : TxnE} (h : Holds W (t.res :: R) w) : t.ok := by
  have h2 : Holds W (PatsO (t.ao, t.cap) t.pats :: PilP t.pats :: R) w := h.join
  exact ⟨h2.ownNone (.head _), h2.ownCap (.head _), PilP.know h2.tail⟩
theorem PilT.know {W w : World} {R : List SProp} {l : List TxnE} (h : Holds W (PilT l :: R) w) : ∀ t ∈ l, t.ok := by
  intro e he
  obtain ⟨i, hi, rfl⟩ := List.mem_iff_getElem.1 he
  exact TxnE.know (pile_out hi h)
theorem TxnE.rd {W : World} {H : List SProp} {t : TxnE} (h : t.ok) (m : t.res ∈ H) : RdPats W H t.ao t.pats := by
  have q : ∀ R, RdPats W ([PatsO (t.ao, t.cap) t.pats, PilP t.pats] ++ R) t.ao t.pats := fun R => RdPats.own (x := (t.ao, t.cap)) h.nil h.each (by simp) (by simp)
  exact ⟨Rds.star m fun R => (q R).rds, fun p hp => Rds.star m fun R => (q R).each p hp, h.each⟩
theorem RdTxns.own {W : World} {H : List SProp} {x : Option Addr × Nat} {l : List TxnE} (hn : x.1 = none → l.length = 0) (hok : ∀ t ∈ l, t.ok) (m1 : TxnsO x l ∈ H) (m2 : PilT l ∈ H) : RdTxns W H x.1 l := by
  refine ⟨Rds.own (txns_one l) m1 (txns_len l) hn, fun t ht => ?_, hok⟩
  exact ⟨Rds.pile m2 ht (fun R hR => (TxnE.rd (hok t ht) hR).rds), fun p hp => Rds.pile m2 ht (fun R hR => (TxnE.rd (hok t ht) hR).each p hp), (hok t ht).each⟩
theorem RdTxns.ent {W : World} {H R : List SProp} {ao : Option Addr} {l : List TxnE} (h : RdTxns W R ao l) (e : Ent W H R) : RdTxns W H ao l := ⟨h.rds.ent e, fun x hx => (h.each x hx).ent e, h.ok⟩
/-- A batch that is put together. -/
theorem TxnE.shut {W w : World} {R : List SProp} (t : TxnE) (h : Holds W (PatsO (t.ao, t.cap) t.pats :: PilP t.pats :: R) w) : Holds W (t.res :: R) w := h.nest (L := [PatsO (t.ao, t.cap) t.pats, PilP t.pats])
end Go.Proofs.Ytpmmkmcbimnigaa

/-! Text Es. -/
/- A run of at most 32 bits of a sector turned over: the plain law. -/
set_option maxRecDepth 8000
set_option linter.unusedVariables false
set_option linter.unusedSimpArgs false
set_option linter.unusedSectionVars false
namespace Go.Proofs.Ytpmmkmcbimnigaa
open Go.RowKit Go.Sl

def bitL (l : List UInt8) (j : Nat) : Bool := (l.getD (j / 8) 0).toNat.testBit (j % 8)
theorem bitsOf_get (b : UInt8) (i : Nat) (h : i < 8) : (bitsOf b)[i]? = some (b.toNat.testBit i) := by
  simp [bitsOf, h, BitVec.getLsbD_ofNat]; omega
theorem allBits_get (l : List UInt8) (j : Nat) (h : j < l.length * 8) : (allBits l)[j]? = some (bitL l j) := by
  have h1 : j / 8 < l.length := by omega
  have := flat_at (g := bitsOf) (w := 8) l (j / 8) (j % 8) h1 (fun a _ => bitsOf_length a) (Nat.mod_lt _ (by decide))
  rw [show j / 8 * 8 + j % 8 = j by omega] at this
  unfold allBits
  rw [this, bitsOf_get _ _ (Nat.mod_lt _ (by decide))]
  unfold bitL
  simp [List.getD, h1]
theorem xorL_get : ∀ (u v : List Bool) (j : Nat) (a b : Bool), u[j]? = some a → v[j]? = some b → (xorL u v)[j]? = some (a ^^ b)
  | x :: u, y :: v, 0, a, b, h, k => by simp at h k; subst h; subst k; rfl
  | x :: u, y :: v, j + 1, a, b, h, k => by
    have := xorL_get u v j a b (by simpa using h) (by simpa using k)
    show (_ :: xorL u v)[j + 1]? = _
    simpa using this
theorem xorL_length : ∀ (u v : List Bool), u.length = v.length → (xorL u v).length = u.length
  | [], [], _ => rfl
  | x :: u, y :: v, h => by
    have := xorL_length u v (by simpa using h)
    show (_ :: xorL u v).length = _
    simp [this]
def flipB (b : UInt8) (r : Nat) : UInt8 := UInt8.ofNat (b.toNat ^^^ 2 ^ r)
theorem flipB_toNat (b : UInt8) (r : Nat) (h : r < 8) : (flipB b r).toNat = b.toNat ^^^ 2 ^ r := by
  unfold flipB
  have h1 : b.toNat < 2 ^ 8 := b.toNat_lt
  have h2 : 2 ^ r < 2 ^ 8 := Nat.pow_lt_pow_right (by decide) h
  have := Nat.xor_lt_two_pow h1 h2
  rw [UInt8.toNat_ofNat', Nat.mod_eq_of_lt this]
def turnS (x : List UInt8) (p : Nat) : List UInt8 := x.set (p / 8) (flipB (x.getD (p / 8) 0) (p % 8))
def turnM (a : List UInt8) (f ch : Nat) : Nat → List UInt8
  | 0 => a
  | i + 1 => if ch.testBit i = true ∧ f + i < 8 * a.length then turnS (turnM a f ch i) (f + i) else turnM a f ch i
theorem turnM_length (a : List UInt8) (f ch : Nat) : ∀ i, (turnM a f ch i).length = a.length
  | 0 => rfl
  | i + 1 => by
    have := turnM_length a f ch i
    unfold turnM; split
    · simp [turnS, this]
    · exact this
theorem bit_turnS (x : List UInt8) (p j : Nat) (hp : p < 8 * x.length) : bitL (turnS x p) j = (bitL x j ^^ decide (j = p)) := by
  have hq : p / 8 < x.length := by omega
  unfold bitL turnS
  by_cases h : j / 8 = p / 8
  · rw [h]
    have e : (x.set (p / 8) (flipB (x.getD (p / 8) 0) (p % 8))).getD (p / 8) 0 = flipB (x.getD (p / 8) 0) (p % 8) := by
      simp [List.getD, hq]
    rw [e, flipB_toNat _ _ (Nat.mod_lt _ (by decide)), Nat.testBit_xor, Nat.testBit_two_pow]
    congr 1
    rw [decide_eq_decide]; omega
  · have e : (x.set (p / 8) (flipB (x.getD (p / 8) 0) (p % 8))).getD (j / 8) 0 = x.getD (j / 8) 0 := by
      simp only [List.getD, List.getElem?_set_ne (Ne.symm h)]
    rw [e, decide_eq_false (fun h2 => h (by rw [h2]))]; simp
theorem bit_turnM (a : List UInt8) (f ch : Nat) : ∀ (i j : Nat), j < 8 * a.length → bitL (turnM a f ch i) j = (bitL a j ^^ (decide (f ≤ j ∧ j < f + i) && ch.testBit (j - f)))
  | 0, j, h => by
    rw [decide_eq_false (by omega)]; simp [turnM]
  | i + 1, j, h => by
    have ih := bit_turnM a f ch i j h
    unfold turnM; split
    · rename_i hc
      rw [bit_turnS _ _ _ (by rw [turnM_length]; exact hc.2), ih]
      by_cases e : j = f + i
      · subst e
        rw [decide_eq_false (p := f ≤ f + i ∧ f + i < f + i) (by omega), decide_eq_true (p := f ≤ f + i ∧ f + i < f + (i + 1)) (by omega), show f + i - f = i by omega, hc.1]
        simp
      · rw [decide_eq_false e, show decide (f ≤ j ∧ j < f + (i + 1)) = decide (f ≤ j ∧ j < f + i) by rw [decide_eq_decide]; omega]
        simp
    · rename_i hc
      rw [ih]
      by_cases e : j = f + i
      · subst e
        have hb : ch.testBit i = false := by
          cases hb : ch.testBit i with
          | false => rfl
          | true => exact absurd ⟨hb, h⟩ hc
        rw [show f + i - f = i by omega, hb]; simp
      · rw [show decide (f ≤ j ∧ j < f + (i + 1)) = decide (f ≤ j ∧ j < f + i) by rw [decide_eq_decide]; omega]
theorem byte_bits {b c : UInt8} (h : ∀ i, i < 8 → b.toNat.testBit i = c.toNat.testBit i) : b = c := by
  apply UInt8.toNat_inj.1
  apply Nat.eq_of_testBit_eq
  intro i
  by_cases hi : i < 8
  · exact h i hi
  · have hb : b.toNat < 2 ^ i := Nat.lt_of_lt_of_le b.toNat_lt (by rw [show (2 : Nat) ^ 8 = 2 ^ 8 from rfl]; exact Nat.pow_le_pow_right (by decide) (by omega))
    have hc : c.toNat < 2 ^ i := Nat.lt_of_lt_of_le c.toNat_lt (by rw [show (2 : Nat) ^ 8 = 2 ^ 8 from rfl]; exact Nat.pow_le_pow_right (by decide) (by omega))
    rw [Nat.testBit_lt_two_pow hb, Nat.testBit_lt_two_pow hc]
theorem bits_same {a x : List UInt8} (hl : a.length = x.length) (h : ∀ j, j < 8 * a.length → bitL a j = bitL x j) : a = x := by
  apply List.ext_getElem hl
  intro q h1 h2
  apply byte_bits
  intro i hi
  have := h (q * 8 + i) (by omega)
  unfold bitL at this
  rw [show (q * 8 + i) / 8 = q by omega, show (q * 8 + i) % 8 = i by omega] at this
  simpa [List.getD, h1, h2] using this
theorem list_parts {L : List Bool} {f : Nat} (h1 : ∀ (j : Nat) b, j < f → L[j]? = some b → b = false) (h2 : ∀ (j : Nat) b, f + 32 ≤ j → L[j]? = some b → b = false) :
    ∃ w : List Bool, w.length ≤ 32 ∧ (∃ p m, L = List.replicate p false ++ (w ++ List.replicate m false)) ∧ ∀ i, i < 32 → L[f + i]? = w[i]? := by
  refine ⟨(L.drop f).take 32, by rw [List.length_take]; exact Nat.min_le_left _ _, ⟨(L.take f).length, (L.drop (f + 32)).length, ?_⟩, fun i hi => by rw [List.getElem?_take, if_pos hi, List.getElem?_drop]⟩
  have e1 : L.take f = List.replicate (L.take f).length false := by
    apply List.eq_replicate_of_mem
    intro b hb
    obtain ⟨j, hj⟩ := List.mem_iff_getElem?.1 hb
    rw [List.getElem?_take] at hj
    split at hj
    · exact h1 j b (by assumption) hj
    · cases hj
  have e2 : L.drop (f + 32) = List.replicate (L.drop (f + 32)).length false := by
    apply List.eq_replicate_of_mem
    intro b hb
    obtain ⟨j, hj⟩ := List.mem_iff_getElem?.1 hb
    rw [List.getElem?_drop] at hj
    exact h2 (f + 32 + j) b (by omega) hj
  rw [← e1, ← e2, ← List.drop_drop, List.take_append_drop, List.take_append_drop]
end Go.Proofs.Ytpmmkmcbimnigaa

/-! Text Ei. -/
/- The document's DecodeHeader, DecodeCommit, DecodeCheck. -/
set_option maxRecDepth 8000
set_option linter.unusedVariables false
set_option linter.unusedSimpArgs false
set_option linter.unusedSectionVars false
namespace Go.Proofs.Ytpmmkmcbimnigaa
open Go.RowKit Go.Sl
attribute [local irreducible] Own

end Go.Proofs.Ytpmmkmcbimnigaa

/-! Text Ej. -/
/- The program's EncodeHeader, EncodeCommit, EncodeCheck. -/
set_option maxRecDepth 8000
set_option linter.unusedVariables false
set_option linter.unusedSimpArgs false
set_option linter.unusedSectionVars false
namespace Go.Proofs.Ytpmmkmcbimnigaa
open Go.RowKit Go.Sl
attribute [local irreducible] Own

end Go.Proofs.Ytpmmkmcbimnigaa

/-! Text Ek. -/
/- The program's read, DecodeHeader, DecodeCommit, DecodeCheck. -/
set_option maxRecDepth 8000
set_option linter.unusedVariables false
set_option linter.unusedSimpArgs false
set_option linter.unusedSectionVars false
namespace Go.Proofs.Ytpmmkmcbimnigaa
open Go.RowKit Go.Sl
attribute [local irreducible] Own

end Go.Proofs.Ytpmmkmcbimnigaa

/-! Text Em. -/
/- The program's DecodeHeader, DecodeCommit, DecodeCheck. -/
set_option maxRecDepth 8000
set_option linter.unusedVariables false
set_option linter.unusedSimpArgs false
set_option linter.unusedSectionVars false
namespace Go.Proofs.Ytpmmkmcbimnigaa
open Go.RowKit Go.Sl
attribute [local irreducible] Own

end Go.Proofs.Ytpmmkmcbimnigaa

/-! Text En. -/
/- Escape and Unescape, the document's and the program's. -/
set_option maxRecDepth 8000
set_option linter.unusedVariables false
set_option linter.unusedSimpArgs false
set_option linter.unusedSectionVars false
namespace Go.Proofs.Ytpmmkmcbimnigaa
open Go.RowKit Go.Sl
attribute [local irreducible] Own

end Go.Proofs.Ytpmmkmcbimnigaa

