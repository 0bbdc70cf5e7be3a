import Derived.Test.YtjebagmjcdaegaaGreatM3
import Derived.DeepKeys3
import Derived.WideKeyRuns
/-! Text Ya. -/
set_option maxRecDepth 8000
set_option maxHeartbeats 16000000
set_option linter.unusedVariables false
set_option linter.unusedSimpArgs false
set_option linter.unusedSectionVars false
namespace Go.Sl
open Go Go.RowKit Go.MapKept
structure KeyT (P : Program) (kt : TypeId) (κ : Type) [DecidableEq κ] (kv : κ -> Value) (good : κ -> Prop) : Prop where
  inj : ∀ a b, kv a = kv b -> a = b
  check : ∀ (w : World) (em : Bool) k, good k -> (Instr.checkKey em 10000 kt (kv k)).run P w = .ok () w
  find : ∀ (w : World) k, good k -> ∀ es : List MapEntry, (∀ e ∈ es, ∃ a, good a /\ e.key = kv a) ->
    ((Instr.findKey kt (kv k) es).run P w = .ok none w /\ ∀ e ∈ es, e.key ≠ kv k) \/ ∃ j e, (Instr.findKey kt (kv k) es).run P w = .ok (some (j, e.val)) w /\ es[j]? = some e /\ e.key = kv k
  stays : ∀ (w : World) k, good k -> (Instr.keyThatStays (kv k) (kv k)).run P w = .ok (kv k) w
abbrev pairV (k : Int × Int) : Value := .agg #[.int .i64 k.1, .int .i64 k.2]
def pairG (k : Int × Int) : Prop := (Lit.int .i64 k.1).wf = true /\ (Lit.int .i64 k.2).wf = true
theorem KeyT.pair {P : Program} {kt : TypeId} (hB : flatB P kt [some .i64, some .i64] = true) (hwide : (match P.underlying kt with | some (.array _ _) | some (.struct _) => true | _ => false) = true) : KeyT P kt (Int × Int) pairV pairG := by
  have lits : ∀ k : Int × Int, pairG k -> P.keyLits 2 kt [.int .i64 k.1, .int .i64 k.2] = some [.int .i64 k.1, .int .i64 k.2] /\ (pairV k).formed P kt = true := fun k hk =>
    flat_lits (cs := [.int .i64 k.1, .int .i64 k.2]) hB rfl rfl (by
      intro l hl
      simp only [List.mem_cons, List.not_mem_nil, or_false] at hl
      rcases hl with h | h <;> subst h
      · exact hk.1
      · exact hk.2)
  have hkt : P.keyTypeAt 2 kt = true := by simp only [flatB, Bool.and_eq_true] at hB; exact hB.1.2
  have heq : ∀ (w : World) (a b : Int × Int), pairG a -> pairG b -> (Op.equal kt (pairV a) (pairV b)).run P w = .ok (decide (a = b)) w := by
    intro w a b ha hb
    obtain ⟨a1, a2⟩ := lits a ha
    obtain ⟨b1, b2⟩ := lits b hb
    obtain ⟨r, hr, hiff⟩ := Go.run_equalIn_deep 9998 2 kt hkt w 2 2 (pairV a) (pairV b) _ _ a2 b2 a1 b1
    have hrb : r = decide (a = b) := by
      rw [Bool.eq_iff_iff, hiff, decide_eq_true_iff]
      constructor
      · intro h
        simp only [List.cons.injEq, Lit.int.injEq, true_and, and_true] at h
        exact Prod.ext h.1 h.2
      · intro h; subst h; rfl
    rw [<- hrb]; exact hr
  have asking : ∀ (w : World) (k : Int × Int), pairG k -> ∀ (es : List MapEntry) (i : Nat), (∀ e ∈ es, ∃ a, pairG a /\ e.key = pairV a) ->
      ((Instr.findAsking kt (pairV k) es i).run P w = .ok none w /\ ∀ e ∈ es, e.key ≠ pairV k) \/ ∃ j e, (Instr.findAsking kt (pairV k) es i).run P w = .ok (some (i + j, e.val)) w /\ es[j]? = some e /\ e.key = pairV k := by
    intro w k hk es
    induction es with
    | nil => intro i _; exact .inl ⟨by simp [Instr.findAsking], fun e he => (by cases he)⟩
    | cons e r ih =>
      intro i hall
      obtain ⟨a, ha, hae⟩ := hall e (.head _)
      have he := heq w k a hk ha
      rw [<- hae] at he
      by_cases hka : k = a
      · rw [decide_eq_true hka] at he
        exact .inr ⟨0, e, by simp [Instr.findAsking, he], rfl, by rw [hae, hka]⟩
      · rw [decide_eq_false hka] at he
        rcases ih (i + 1) (fun x hx => hall x (.tail _ hx)) with ⟨h1, h2⟩ | ⟨j, x, h1, h2, h3⟩
        · refine .inl ⟨by simp [Instr.findAsking, he, h1], fun x hx => ?_⟩
          cases hx with
          | head => rw [hae]; intro q; apply hka; simp only [pairV, Value.agg.injEq, Array.mk.injEq, List.cons.injEq, Value.int.injEq, true_and, and_true] at q; exact Prod.ext q.1.symm q.2.symm
          | tail _ hx => exact h2 x hx
        · exact .inr ⟨j + 1, x, by simp [Instr.findAsking, he, h1, Nat.add_assoc, Nat.add_comm 1 j], by simpa using h2, h3⟩
  refine ⟨fun a b h => ?_, fun w em k hk => ?_, fun w k hk es hall => ?_, fun w k hk => ?_⟩
  · simp only [pairV, Value.agg.injEq, Array.mk.injEq, List.cons.injEq, Value.int.injEq, true_and, and_true] at h
    exact Prod.ext h.1 h.2
  · obtain ⟨a1, a2⟩ := lits k hk
    exact Go.run_checkKey_deep em 9998 2 kt hkt w 2 (pairV k) _ a2 a1
  · rw [Go.run_findKey_eq (w := w) hwide]
    rcases asking w k hk es 0 hall with h | ⟨j, e, h1, h2, h3⟩
    · exact .inl h
    · exact .inr ⟨j, e, by rw [h1, Nat.zero_add], h2, h3⟩
  · simp [Instr.keyThatStays, Instr.sameBits]
abbrev boolV (k : Bool) : Value := .bool k
theorem KeyT.bool {P : Program} {kt : TypeId} (hkt : P.underlying kt = some .bool) : KeyT P kt Bool boolV (fun _ => True) := by
 refine ⟨fun a b h => by simpa using h, fun w em k _ => ?_, fun w k _ es hall => ?_, fun w k _ => ?_⟩
 · exact Go.MapKept.run_checkKey (P := P) (w := w) (kt := kt) (k := .bool k) hkt trivial em 9999
 ·
  rcases findNow_spec (d := .bool) (k := .bool k) trivial es 0 (fun e he => by obtain ⟨a, _, h1⟩ := hall e he; rw [h1]; exact trivial) with ⟨h1, h2⟩ | ⟨j, e, h1, h2, h3⟩
  · exact .inl ⟨Go.MapKept.run_findKey (P := P) (w := w) (kt := kt) hkt h1, h2⟩
  · exact .inr ⟨j, e, by rw [Go.MapKept.run_findKey (P := P) (w := w) (kt := kt) hkt h1, Nat.zero_add], h2, h3⟩
 · simp [Instr.keyThatStays, Instr.sameBits]
section
variable {κ : Type} [DecidableEq κ] {kv : κ -> Value} {good : κ -> Prop}
structure MRel (kv : κ -> Value) (good : κ -> Prop) (es : List MapEntry) (D : List (κ × Value)) : Prop where
  perm : List.Perm (es.map fun e => (e.key, e.val)) (D.map fun x => (kv x.1, x.2))
  one : (D.map (·.1)).Nodup
  good : ∀ x ∈ D, good x.1
def MapL (kv : κ -> Value) (good : κ -> Prop) (b : Nat) (D : List (κ × Value)) : SProp := ex fun x : Array MapEntry × Nat => Sl.star [fact (MRel kv good x.1.toList D), At b (.map x.1 x.2)]
theorem MapL.open {W w : World} {b : Nat} {D : List (κ × Value)} {R : List SProp} (hw : Holds W (MapL kv good b D :: R) w) : ∃ es cl, MRel kv good es.toList D /\ Holds W (At b (.map es cl) :: R) w := by
 obtain ⟨⟨es, cl⟩, h⟩ := hw.exOpen
 have h := h.join
 exact ⟨es, cl, h.factOpen, h.tail⟩
theorem MapL.shut {W w : World} {b : Nat} {D : List (κ × Value)} {R : List SProp} {es : Array MapEntry} {cl : Nat} (hr : MRel kv good es.toList D) (hw : Holds W (At b (.map es cl) :: R) w) : Holds W (MapL kv good b D :: R) w :=
 Holds.exShut (es, cl) (Holds.nest (L := [_, _]) (hw.factShut hr))
theorem MRel.nil : MRel kv good [] [] := ⟨.refl _, List.nodup_nil, fun x h => (by cases h)⟩
def getD (D : List (κ × Value)) (k : κ) : Option Value := (D.find? fun x => x.1 = k).map (·.2)
def putD (D : List (κ × Value)) (k : κ) (v : Value) : List (κ × Value) := D.filter (fun x => x.1 ≠ k) ++ [(k, v)]
def delD (D : List (κ × Value)) (k : κ) : List (κ × Value) := D.filter fun x => x.1 ≠ k
theorem getD_none {D : List (κ × Value)} {k : κ} (h : ∀ x ∈ D, x.1 ≠ k) : getD D k = none := by
 unfold getD
 rw [List.find?_eq_none.2 (fun x hx => by simpa using h x hx)]; rfl
theorem getD_some {D : List (κ × Value)} {k : κ} {v : Value} (h1 : (D.map (·.1)).Nodup) (h : (k, v) ∈ D) : getD D k = some v := by
  unfold getD
  induction D with
  | nil => cases h
  | cons x r ih =>
    rw [List.map_cons, List.nodup_cons] at h1
    by_cases q : x.1 = k
    · rw [List.find?_cons_of_pos (by simpa using q)]
      cases h with
      | head => rfl
      | tail _ h => exact absurd (q ▸ List.mem_map_of_mem h : x.1 ∈ r.map (·.1)) h1.1
    · rw [List.find?_cons_of_neg (by simpa using q)]
      cases h with
      | head => exact absurd rfl q
      | tail _ h => exact ih h1.2 h
theorem delD_of_not {D : List (κ × Value)} {k : κ} (h : ∀ x ∈ D, x.1 ≠ k) : delD D k = D := List.filter_eq_self.2 fun x hx => by simpa using h x hx
theorem perm_erase {α : Type} {l : List α} {i : Nat} {a : α} (h : l[i]? = some a) : List.Perm l (a :: l.eraseIdx i) := by
 obtain ⟨hi, rfl⟩ := List.getElem?_eq_some_iff.1 h
 rw [List.eraseIdx_eq_take_drop_succ]
 have : l = l.take i ++ l[i] :: l.drop (i + 1) := by rw [<- List.drop_eq_getElem_cons hi, List.take_append_drop]
 exact (List.Perm.of_eq this).trans List.perm_middle
theorem MRel.at {P : Program} {kt : TypeId} (K : KeyT P kt κ kv good) {es : List MapEntry} {D : List (κ × Value)} (h : MRel kv good es D) (w : World) (k : κ) (hk : good k) :
    ((Instr.findKey kt (kv k) es).run P w = .ok none w /\ getD D k = none /\ (∀ x ∈ D, x.1 ≠ k)) \/
    ∃ j e v, (Instr.findKey kt (kv k) es).run P w = .ok (some (j, v)) w /\ getD D k = some v /\ es[j]? = some e /\ e.key = kv k /\ e.val = v /\ List.Perm ((es.eraseIdx j).map fun e => (e.key, e.val)) ((delD D k).map fun x => (kv x.1, x.2)) := by
  have hall : ∀ e ∈ es, ∃ a, good a /\ e.key = kv a := by
    intro e he
    have := h.perm.subset (List.mem_map_of_mem he)
    obtain ⟨x, hx, hxe⟩ := List.mem_map.1 this
    exact ⟨x.1, h.good x hx, by have := congrArg Prod.fst hxe; exact this.symm⟩
  rcases K.find w k hk es hall with ⟨h1, h2⟩ | ⟨j, e, h1, h2, h3⟩
  · have hn : ∀ x ∈ D, x.1 ≠ k := by
      intro x hx q
      have := h.perm.symm.subset (List.mem_map_of_mem hx)
      obtain ⟨e, he, hxe⟩ := List.mem_map.1 this
      exact h2 e he (by have := congrArg Prod.fst hxe; rw [<- q]; exact this)
    exact .inl ⟨h1, getD_none hn, hn⟩
  · have hm : (kv k, e.val) ∈ D.map fun x => (kv x.1, x.2) := by
      have := h.perm.subset (List.mem_map_of_mem (List.mem_of_getElem? h2))
      rwa [h3] at this
    obtain ⟨x, hx, hxe⟩ := List.mem_map.1 hm
    have hxk : x.1 = k := K.inj _ _ (congrArg Prod.fst hxe)
    have hxv : x.2 = e.val := congrArg Prod.snd hxe
    have hxD : (k, e.val) ∈ D := by rw [<- hxk, <- hxv]; exact hx
    refine .inr ⟨j, e, e.val, h1, getD_some h.one hxD, h2, h3, rfl, ?_⟩
    have p1 : List.Perm (es.map fun e => (e.key, e.val)) ((kv k, e.val) :: (es.eraseIdx j).map fun e => (e.key, e.val)) := by
      have := (perm_erase h2).map fun e => (e.key, e.val)
      rwa [List.map_cons, h3] at this
    have p2 : ∀ (D : List (κ × Value)), (D.map (·.1)).Nodup -> (k, e.val) ∈ D -> List.Perm D ((k, e.val) :: delD D k) := by
      intro D
      induction D with
      | nil => intro _ h; cases h
      | cons y r ih =>
        intro hd hm
        rw [List.map_cons, List.nodup_cons] at hd
        by_cases q : y.1 = k
        · have hr : ∀ z ∈ r, z.1 ≠ k := fun z hz q2 => hd.1 (by rw [q, <- q2]; exact List.mem_map_of_mem hz)
          have hy : y = (k, e.val) := by
            cases hm with
            | head => rfl
            | tail _ hm => exact absurd rfl (hr _ hm)
          have : delD (y :: r) k = r := by
            unfold delD
            rw [List.filter_cons_of_neg (by simpa using q)]
            exact delD_of_not hr
          rw [this, hy]
        · have : delD (y :: r) k = y :: delD r k := by unfold delD; rw [List.filter_cons_of_pos (by simpa using q)]
          rw [this]
          cases hm with
          | head => exact absurd rfl q
          | tail _ hm => exact ((ih hd.2 hm).cons y).trans (List.Perm.swap _ _ _)
    have p3 := (p2 D h.one hxD).map fun x : κ × Value => (kv x.1, x.2)
    rw [List.map_cons] at p3
    exact (p1.symm.trans (h.perm.trans p3)).cons_inv
theorem nodup_del {D : List (κ × Value)} (h : (D.map (·.1)).Nodup) (k : κ) : ((delD D k).map (·.1)).Nodup := h.sublist ((List.filter_sublist).map _)
theorem MRel.put {P : Program} {kt : TypeId} {es es' : List MapEntry} {D : List (κ × Value)} (h : MRel kv good es D) (k : κ) (hk : good k) (v : Value) (hp : List.Perm (es'.map fun e => (e.key, e.val)) ((kv k, v) :: (delD D k).map fun x => (kv x.1, x.2))) : MRel kv good es' (putD D k v) := by
 refine ⟨?_, ?_, ?_⟩
 ·
  unfold putD
  rw [List.map_append, List.map_singleton]
  exact hp.trans (List.perm_append_comm (l₁ := [(kv k, v)]))
 ·
  unfold putD
  rw [List.map_append, List.map_singleton]
  refine List.nodup_append.2 ⟨nodup_del h.one k, by simp, ?_⟩
  intro a ha b hb
  rw [List.mem_singleton] at hb
  obtain ⟨x, hx, rfl⟩ := List.mem_map.1 ha
  have := (List.mem_filter.1 hx).2
  rw [hb]
  simpa using this
 ·
  intro x hx
  rcases List.mem_append.1 hx with hx | hx
  · exact h.good x (List.mem_filter.1 hx).1
  · rw [List.mem_singleton] at hx; subst hx; exact hk
theorem MRel.del {es' es : List MapEntry} {D : List (κ × Value)} (h : MRel kv good es D) (k : κ) (hp : List.Perm (es'.map fun e => (e.key, e.val)) ((delD D k).map fun x => (kv x.1, x.2))) : MRel kv good es' (delD D k) :=
 ⟨hp, nodup_del h.one k, fun x hx => h.good x (List.mem_filter.1 hx).1⟩
end
section
variable {W : World} {P : Program} {n : Nat} {c : Code} {Q : Exit -> Act -> World -> Prop} {H H' L S : List SProp} {f F : Fr} {C : SProp -> List SProp}
variable {N : List SProp -> Fr -> Prop} {dst : Option Tmp} {d : Nat} {ty_ : TypeId} {pos : String} {after : Array Edge} {guard : Option (Nat × Bool)}
variable {κ : Type} [DecidableEq κ] {kv : κ -> Value} {good : κ -> Prop} {D : List (κ × Value)}
theorem OpV.makeMapL {t : TypeId} (kv : κ -> Value) (good : κ -> Prop) (hd : Nat.blt d n = true) (h : ∀ b, N (MapL kv good b [] :: H) ((d, .map (some b)) :: f)) :
  OpV W P n { dst := some d, op := .makeMap t none, type := ty_, pos, after, guard } Q H f N := by
 refine OpV.run hd (fun tm w hk hw => ⟨w.heap.size, _, ?_, MapL.shut (es := #[]) (cl := 0) MRel.nil hw.allocObj⟩) h
 unfold execOp
 simp only [Option.map_none, Sem.run_bind, run_makeMap, Result.andThen_ok, Sem.run_pure]
theorem Holds.mapL {b : Nat} {w : World} (hw : Holds W H w) (hm : MapL kv good b D ∈ H) : ∃ es cl, MRel kv good es.toList D /\ w.heap[b]? = some (.map es cl) := by
 obtain ⟨R, p⟩ := mem_perm hm
 obtain ⟨es, cl, h1, h2⟩ := MapL.open (hw.perm p)
 exact ⟨es, cl, h1, (h2.at (.head _)).2⟩
theorem PureAt.lookupOk {t kt et : TypeId} {x y : Operand} {b : Nat} {k : κ} {z : Value} (ht : P.underlying t = some (.map kt et)) (K : KeyT P kt κ kv good) (hg : good k) (hz : ∀ w, (zeroValue et).run P w = .ok z w)
  (hx : evalX f x = some (.map (some b))) (hy : evalX f y = some (kv k)) (hm : MapL kv good b D ∈ H) :
  PureAt W P n H f { dst, op := .lookup t x y true, type := ty_, pos, after, guard } (.tuple #[(getD D k).getD z, .bool (getD D k).isSome]) := by
 unfold PureAt
 intro tm w hk hw
 obtain ⟨es, cl, hr, hb⟩ := hw.mapL hm
 have hck := K.check w es.isEmpty k hg
 rcases hr.at K w k hg with ⟨h1, h2, _⟩ | ⟨j, e, v, h1, h2, _⟩
 · simp [execOp, Instr.lookup, hk.eval hx, hk.eval hy, Sem.run_bind, run_underlying ht, Go.MapKept.run_getObj_map hb, hck, h1, hz, h2]
 · simp [execOp, Instr.lookup, hk.eval hx, hk.eval hy, Sem.run_bind, run_underlying ht, Go.MapKept.run_getObj_map hb, hck, h1, h2]
theorem PureAt.lookup1 {t kt et : TypeId} {x y : Operand} {b : Nat} {k : κ} {z : Value} (ht : P.underlying t = some (.map kt et)) (K : KeyT P kt κ kv good) (hg : good k) (hz : ∀ w, (zeroValue et).run P w = .ok z w)
  (hx : evalX f x = some (.map (some b))) (hy : evalX f y = some (kv k)) (hm : MapL kv good b D ∈ H) :
  PureAt W P n H f { dst, op := .lookup t x y false, type := ty_, pos, after, guard } ((getD D k).getD z) := by
 unfold PureAt
 intro tm w hk hw
 obtain ⟨es, cl, hr, hb⟩ := hw.mapL hm
 have hck := K.check w es.isEmpty k hg
 rcases hr.at K w k hg with ⟨h1, h2, _⟩ | ⟨j, e, v, h1, h2, _⟩
 · simp [execOp, Instr.lookup, hk.eval hx, hk.eval hy, Sem.run_bind, run_underlying ht, Go.MapKept.run_getObj_map hb, hck, h1, hz, h2]
 · simp [execOp, Instr.lookup, hk.eval hx, hk.eval hy, Sem.run_bind, run_underlying ht, Go.MapKept.run_getObj_map hb, hck, h1, h2]
theorem Holds.setMapL {w : World} {b : Nat} {D' : List (κ × Value)} {es : Array MapEntry} {cl cl' : Nat} {es' : Array MapEntry} (hw : Holds W H w) (u : Hole H (MapL kv good b D) C) (hb : w.heap[b]? = some (.map es cl)) (hr : MRel kv good es'.toList D') :
  Holds W (C (MapL kv good b D')) { w with heap := w.heap.setIfInBounds b (.map es' cl') } := by
 obtain ⟨R, p, q⟩ := u.perm
 obtain ⟨es0, cl0, _, h2⟩ := MapL.open (hw.perm p)
 obtain ⟨s1, s2⟩ := Go.MapKept.heap_set (o' := .map es' cl') hb
 exact Holds.perm (q _) (MapL.shut hr (h2.put .head rfl rfl rfl (by simp) (fun k hk => s2 k hk) s1))
theorem mapStore {t kt et : TypeId} {b : Nat} {k : κ} {v : Value} (ht : P.underlying t = some (.map kt et)) (K : KeyT P kt κ kv good) (hg : good k) (u : Hole H (MapL kv good b D) C) {w : World} (hw : Holds W H w) :
  ∃ w', (Instr.mapUpdate t (.map (some b)) (kv k) v).run P w = .ok () w' /\ Holds W (C (MapL kv good b (putD D k v))) w' := by
 obtain ⟨R, p, q⟩ := u.perm
 obtain ⟨es, cl, hr, hb⟩ := (hw.perm p).mapL (.head _)
 have hck := K.check w false k hg
 rcases hr.at K w k hg with ⟨h1, h2, h3⟩ | ⟨j, e, v0, h1, h2, h3, h4, h5, h6⟩
 ·
  refine ⟨{ w with heap := w.heap.setIfInBounds b (.map (es.push ⟨kv k, v, cl⟩) (cl + 1)) }, by simp only [Instr.mapUpdate, Sem.run_bind, run_underlying ht, Go.MapKept.run_getObj_map hb, hck, h1, Result.andThen_ok, Go.MapKept.run_setObj_map _ hb], hw.setMapL u hb (hr.put (P := P) (kt := kt) k hg v ?_)⟩
  rw [delD_of_not h3, Array.toList_push, List.map_append, List.map_singleton]
  exact (List.perm_append_comm (l₂ := [(kv k, v)])).trans (hr.perm.cons _)
 ·
  have hks : (Instr.keyThatStays (((es[j]?).map (·.key)).getD (kv k)) (kv k)).run P w = .ok (kv k) w := by
   rw [Array.getElem?_toList] at h3
   simp only [h3, h4, Option.map_some, Option.getD_some]
   exact K.stays w k hg
  refine ⟨{ w with heap := w.heap.setIfInBounds b (.map (es.modify j fun e => { e with key := kv k, val := v }) cl) }, by simp only [Instr.mapUpdate, Sem.run_bind, run_underlying ht, Go.MapKept.run_getObj_map hb, hck, h1, hks, Result.andThen_ok, Go.MapKept.run_setObj_map _ hb], hw.setMapL u hb (hr.put (P := P) (kt := kt) k hg v ?_)⟩
  rw [Array.toList_modify]
  have hm : (es.toList.modify j fun e => { e with key := kv k, val := v })[j]? = some { e with key := kv k, val := v } := by
   rw [List.getElem?_modify, h3]; simp
  have he : (es.toList.modify j fun e => { e with key := kv k, val := v }).eraseIdx j = es.toList.eraseIdx j := by
   rw [List.eraseIdx_modify_of_eq]
  have := (perm_erase hm).map fun e => (e.key, e.val)
  rw [List.map_cons, he] at this
  exact this.trans (h6.cons _)
theorem OpV.mapUpdateL {t kt et : TypeId} {x y z : Operand} {b : Nat} {k : κ} {v : Value} (ht : P.underlying t = some (.map kt et)) (K : KeyT P kt κ kv good) (hg : good k)
  (hx : evalX f x = some (.map (some b))) (hy : evalX f y = some (kv k)) (hz : evalX f z = some v) (u : Hole H (MapL kv good b D) C) (h : N (C (MapL kv good b (putD D k v))) f) :
  OpV W P n { dst := none, op := .mapUpdate t x y z, type := ty_, pos, after, guard } Q H f N := by
 unfold OpV
 intro tm w hk hw K0 hK
 obtain ⟨w', hr, h2⟩ := mapStore (v := v) ht K hg u hw
 unfold Oper.wp execOp
 simp only [hk.eval hx, hk.eval hy, hk.eval hz, hr, Sem.run_bind, Result.andThen_ok, Sem.run_pure]
 exact hK _ _ h _ _ hk h2
theorem OpV.insertL {t kt et : TypeId} {x y z : Operand} {b : Nat} {k : κ} {v : Value} (ht : P.underlying t = some (.map kt et)) (K : KeyT P kt κ kv good) (hg : good k)
  (hx : evalX f x = some (.map (some b))) (hy : evalX f y = some (kv k)) (hz : evalX f z = some v) (u : Hole H (MapL kv good b D) C) (h : N (C (MapL kv good b (putD D k v))) f) :
  OpV W P n { dst := none, op := .insert t x y z, type := ty_, pos, after, guard } Q H f N := by
 unfold OpV
 intro tm w hk hw K0 hK
 obtain ⟨w', hr, h2⟩ := mapStore (v := v) ht K hg u hw
 unfold Oper.wp execOp
 simp only [hk.eval hx, hk.eval hy, hk.eval hz, hr, Sem.run_bind, Result.andThen_ok, Sem.run_pure]
 exact hK _ _ h _ _ hk h2
theorem OpV.deleteL {t kt et ta : TypeId} {x y : Operand} {b : Nat} {k : κ} (ht : P.underlying t = some (.map kt et)) (K : KeyT P kt κ kv good) (hg : good k)
  (hx : evalX f x = some (.map (some b))) (hy : evalX f y = some (kv k)) (u : Hole H (MapL kv good b D) C) (h : N (C (MapL kv good b (delD D k))) f) :
  OpV W P n { dst := none, op := .call { callee := .builtin .delete, args := #[x, y], argTypes := #[t, ta] }, type := ty_, pos, after, guard } Q H f N := by
 unfold OpV
 intro tm w hk hw K0 hK
 obtain ⟨R, p, q⟩ := u.perm
 obtain ⟨es, cl, hr, hb⟩ := (hw.perm p).mapL (.head _)
 have hck := K.check w es.isEmpty k hg
 unfold Oper.wp execOp
 rcases hr.at K w k hg with ⟨h1, h2, h3⟩ | ⟨j, e, v0, h1, h2, h3, h4, h5, h6⟩
 ·
  have hc : (Builtin.delete_ #[t, ta] ty_ #[.map (some b), kv k]).run P w = .ok (.tuple #[]) { w with heap := w.heap.setIfInBounds b (.map es cl) } := by
   simp [Builtin.delete_, Sem.run_bind, run_underlying ht, Go.MapKept.run_getObj_map hb, hck, h1, Go.MapKept.run_setObj_map _ hb]
  simp only [resolve, invoke, builtin, Sem.run_bind, Sem.run_pure, Result.andThen_ok, List.map_toArray, List.map_cons, List.map_nil, hk.eval hx, hk.eval hy, hc]
  refine hK _ _ h _ _ hk (hw.setMapL u hb (hr.del k ?_))
  rw [delD_of_not h3]; exact hr.perm
 ·
  have hc : (Builtin.delete_ #[t, ta] ty_ #[.map (some b), kv k]).run P w = .ok (.tuple #[]) { w with heap := w.heap.setIfInBounds b (.map (es.eraseIdxIfInBounds j) cl) } := by
   simp [Builtin.delete_, Sem.run_bind, run_underlying ht, Go.MapKept.run_getObj_map hb, hck, h1, Go.MapKept.run_setObj_map _ hb]
  simp only [resolve, invoke, builtin, Sem.run_bind, Sem.run_pure, Result.andThen_ok, List.map_toArray, List.map_cons, List.map_nil, hk.eval hx, hk.eval hy, hc]
  refine hK _ _ h _ _ hk (hw.setMapL u hb (hr.del k ?_))
  have : (es.eraseIdxIfInBounds j).toList = es.toList.eraseIdx j := by
   simp [Array.eraseIdxIfInBounds]
   split
   · simp
   ·
    rename_i hj
    rw [List.eraseIdx_of_length_le (by simpa using hj)]
  rw [this]; exact h6
theorem PureAt.makeIface {t : TypeId} {x : Operand} {v : Value} {dsc : TypeDesc} (hu : P.underlying t = some dsc) (hn : ∀ ms, dsc ≠ .interface ms) (hx : evalX f x = some v) :
  PureAt W P n H f { dst, op := .makeInterface t x, type := ty_, pos, after, guard } (.iface t v) := by
 unfold PureAt
 intro tm w hk hw
 cases dsc <;> first | exact absurd rfl (hn _) | simp [execOp, Instr.makeInterface, hk.eval hx, Sem.run_bind, run_underlying hu]
theorem PureAt.assertIface {x : Operand} {xt t : TypeId} {v : Value} {dsc : TypeDesc} (hu : P.underlying t = some dsc) (hn : ∀ ms, dsc ≠ .interface ms) (hx : evalX f x = some (.iface t v)) :
  PureAt W P n H f { dst, op := .typeAssert x xt t false, type := ty_, pos, after, guard } v := by
 unfold PureAt
 intro tm w hk hw
 cases dsc <;> first | exact absurd rfl (hn _) | simp [execOp, Instr.typeAssert, hk.eval hx, Sem.run_bind, run_underlying hu]
theorem OpV.invoke {x : Operand} {name : String} {xs : Array Operand} {ats : Array TypeId} {g : FuncId} {t : TypeId} {v recv : Value} {vs : List Value} {β : Type} {A : β -> Prop} {r : β -> Value} {G : β -> List SProp}
  (hx : evalX f x = some (.iface t v)) (ha : argsX f xs.toList = some vs) (hc : ∀ w, Holds W H w -> (callMethod (.iface t v) name vs.toArray).run P w = .ok (.enter g (recv :: vs).toArray) w) (spec : Does W P g (recv :: vs) L A r G)
  (hL : Ent W H L) (hd : Nat.blt d n = true) (h : ∀ y, A y -> N (G y) ((d, r y) :: f)) :
  OpV W P n { dst := some d, op := .call { callee := .invoke x name, args := xs, argTypes := ats }, type := ty_, pos, after, guard } Q H f N := by
 unfold OpV
 intro tm w hk hw K hK
 have hargs : xs.map (Act.eval ⟨tm, []⟩) = vs.toArray := by
  have := hk.args ha
  apply Array.ext'
  simpa using this
 unfold Does at spec
 have hs := spec w (hL w hw)
 have hcw := hc w hw
 have hex : (#[Value.iface t v] ++ vs.toArray).extract 1 (#[Value.iface t v] ++ vs.toArray).size = vs.toArray := by
  apply Array.ext'; simp
 unfold Oper.wp execOp
 simp only [resolve, hk.eval hx, hargs, Go.invoke, Sem.run_bind, Sem.run_pure, Result.andThen_ok]
 have h0 : (#[Value.iface t v] ++ vs.toArray)[0]? = some (Value.iface t v) := by simp
 simp only [h0, hex, hcw, Oper.upon]
 refine Calls.mono hs ?_
 rintro e w' ⟨y, hA, rfl, hG⟩
 exact hK _ _ (h y hA) _ _ (hk.put hd) hG
end
attribute [irreducible] MapL
end Go.Sl
/-! Text Ei. -/
namespace Go.Proofs.YtjebagmjcdaegaaGreat
open Go.RowKit Go.Sl
attribute [local irreducible] Own
variable {W : World} {R : List SProp}
theorem numAt_lt (b : List UInt8) (a w : Nat) : numAt b a w < 256 ^ w := by
 unfold numAt
 refine Nat.lt_of_lt_of_le (leVal_lt _) (Nat.pow_le_pow_right (by decide) ?_)
 rw [List.length_take]; exact Nat.min_le_left _ _
theorem cmt_dec2 {b : List UInt8} (hl : looksM b 2 = 0) : CmtD.dec b = if (CmtD.parse b).good /\ (CmtD.parse b).enc.2 = b then (0, CmtD.parse b) else (80, zeroC) := by
 unfold CmtD.dec; rw [if_neg (by rw [hl]; simp)]
theorem chk_dec2 {b : List UInt8} (hl : looksM b 3 = 0) : ChkD.dec b = if (ChkD.parse b).good /\ (ChkD.parse b).enc.2 = b then (0, ChkD.parse b) else (80, zeroK) := by
 unfold ChkD.dec; rw [if_neg (by rw [hl]; simp)]
theorem hdr_decB {b : List UInt8} (hl : looksM b 1 ≠ 0) : HdrD.dec b = (looksM b 1, zeroH) := by unfold HdrD.dec; rw [if_pos hl]
theorem cmt_decB {b : List UInt8} (hl : looksM b 2 ≠ 0) : CmtD.dec b = (looksM b 2, zeroC) := by unfold CmtD.dec; rw [if_pos hl]
theorem chk_decB {b : List UInt8} (hl : looksM b 3 ≠ 0) : ChkD.dec b = (looksM b 3, zeroK) := by unfold ChkD.dec; rw [if_pos hl]
theorem hdr_one (h : HdrD) : ∀ u ∈ h.cells, u.oneCell' = true := by
 intro u hu; simp only [HdrD.cells, List.mem_cons, List.not_mem_nil, or_false] at hu
 rcases hu with h | h | h | h | h | h | h | h <;> subst h <;> rfl
theorem cmt_one (h : CmtD) : ∀ u ∈ h.cells, u.oneCell' = true := by
 intro u hu; simp only [CmtD.cells, List.mem_cons, List.not_mem_nil, or_false] at hu
 rcases hu with h | h | h | h <;> subst h <;> rfl
theorem chk_one (h : ChkD) : ∀ u ∈ h.cells, u.oneCell' = true := by
 intro u hu; simp only [ChkD.cells, List.mem_cons, List.not_mem_nil, or_false] at hu
 rcases hu with h | h | h <;> subst h <;> rfl
theorem hdr_fit (b : List UInt8) : (HdrD.parse b).fit := by
 have h := numAt_lt b
 refine ⟨h 8 8, h 16 8, ?_, ?_, ?_, ?_, h 44 4⟩
 · have := h 24 4; simp only [HdrD.parse]; omega
 · have := h 28 4; simp only [HdrD.parse]; omega
 · have := h 32 4; simp only [HdrD.parse]; omega
 · have := h 36 4; simp only [HdrD.parse]; omega
theorem cmt_fit (b : List UInt8) : (CmtD.parse b).fit := by
 have h := numAt_lt b
 refine ⟨h 8 8, h 16 8, ?_, h 28 4⟩
 have := h 24 4; simp only [CmtD.parse]; omega
theorem chk_fit (b : List UInt8) : (ChkD.parse b).fit := by
 have h := numAt_lt b
 refine ⟨h 8 8, h 16 8, ?_⟩
 have := h 24 4; simp only [ChkD.parse]; omega
theorem looks_len {b : List UInt8} {k : UInt8} (h : looksM b k = 0) : b.length = 128 := by
 unfold looksM at h; split at h
 · cases h
 · omega
theorem enc_bad {h : HdrD} : h.enc.1 ≠ 0 ↔ ¬ h.good := by unfold HdrD.enc; split <;> simp_all
theorem encc_bad {h : CmtD} : h.enc.1 ≠ 0 ↔ ¬ h.good := by unfold CmtD.enc; split <;> simp_all
theorem encs_bad {h : ChkD} : h.enc.1 ≠ 0 ↔ ¬ h.good := by unfold ChkD.enc; split <;> simp_all
theorem own_rds {H : List SProp} {x : Option Addr × Nat} {l : List UInt8} (hn : x.1 = none -> l.length = 0) (m : OwnB x l ∈ H) : Rds W H 1 x.1 l.length (bytes l) := Rds.own (bytes_one _) m (by simp) hn
theorem rawR_ok {ao : Option Addr} {cap n : Nat} {l : List UInt8} (p : Nat) (k : Pk) (hb : Rds W R 1 ao n (bytes l)) :
  Does1 W Tryz.prog 161 [.pointer (some ⟨p, 0, none⟩), .slice ao n cap] (PackerR p k :: R) (.tuple #[]) (PackerR p (k.raw l) :: R) := by
 have hl : l.length = n := by have := hb.len; simpa using this
 subst hl
 (refine Does.enter Tryz.func161 Tryz.ntmps161 rfl rfl ?_)
 refine VC.know (fun w => PackerR.know) ?_
 intro ⟨h1, h2, h3⟩
 refine w ?_
 ((refine zq ?_; refine zd rfl rfl (room_ok p k l.length) ?_); intro _ _)
 refine w ?_
 refine zk ?_ ?_ <;> intro hc
 ·
  have hr : (k.room l.length).bad = 0 := by simpa using hc
  obtain ⟨e1, e2, e3⟩ := Pk.room_zero hr
  rw [e1]
  refine VC.obtain (fun w => PackerR.open) ?_
  rintro ⟨⟨ao, cap⟩, -⟩
  refine w ?_
  refine zq ?_
  refine OpV.append st_22 rfl rfl zh (fun w hw => (hb.sees hw.tail.tail).src st_22.und) (by simp only [maxLen]; omega) (by omega) rfl ?_
  intro ao' cap'
  refine w ?_
  (refine VE.done1N rfl rfl ?_)
  rw [show k.raw l = { k with had := k.had ++ l } by unfold Pk.raw; rw [if_pos hr]]
  exact PackerR.shut' (k := { k with had := k.had ++ l }) ⟨by simp; omega, h2, h3⟩ (by simp) (by simp [bytes])
 ·
  have hr : ¬ (k.room l.length).bad = 0 := by simpa using hc
  refine w ?_
  (refine VE.done1N rfl rfl ?_)
  rw [show k.raw l = k.room l.length by unfold Pk.raw; rw [if_neg hr]]
  exact Ent.refl
theorem Pk.raw_good {k : Pk} {l : List UInt8} (h1 : k.bad = 0) (h2 : k.had.length + l.length <= k.size) : k.raw l = { k with had := k.had ++ l } := by
 have e : k.room l.length = k := by unfold Pk.room; rw [if_neg]; omega
 unfold Pk.raw; rw [e, if_pos h1]
theorem image_pad (k : Pk) : k.image = padTo k.size k.had := rfl
theorem written_ok (kind : UInt8) (e s : Nat) (he : e < 2 ^ 64) (hs : s < 2 ^ 64) (rest : List UInt8) (hrest : rest.length <= 100) (g : FuncId) (hg : ∀ a w, (callFunc g a).run Tryz.prog w = .ok (.enter g a) w) (cap : Array Value)
  (spec : ∀ p, Does1 W Tryz.prog g (.pointer (some ⟨p, 0, none⟩) :: cap.toList) (PackerR p ⟨124, begunL kind.toNat e s, 0⟩ :: R) (.tuple #[]) (PackerR p ⟨124, begunL kind.toNat e s ++ rest, 0⟩ :: R)) :
  Does W Tryz.prog 201 [.int .u8 (kind.toNat : Int), .int .u64 e, .int .u64 s, .func (.func g) #[] cap] R (β := Option Addr × Nat) (fun _ => True) (fun x => .tuple #[.slice x.1 (sealS (sectB kind.toNat e s rest)).length x.2, .int .u16 0])
   (fun x => OwnB x (sealS (sectB kind.toNat e s rest)) :: R) := by
 have hlB := begunL_length kind.toNat e s
 have hk8 := kind.toNat_lt
 (refine Does.enter Tryz.func201 Tryz.ntmps201 rfl rfl ?_)
 refine w ?_
 (refine zq ?_; refine zd rfl rfl (new_ok 124 (by decide)) ?_)
 intro p _
 refine w ?_
 (refine zq ?_; refine OpV.buildSlice1 st_22 rfl rfl (by first | (simp; done) | simp [Value.oneCell']) (by decide) rfl ?_; intro nb)
 refine zq ?_
 refine OpV.markConst tab_ok rfl rfl rfl zh rfl ?_
 refine zq ?_
 refine zd rfl rfl (rawR_ok (R := MRow nb 5 (bytes magicL) :: R) (l := magicL) p ⟨124, [], 0⟩ (Rds.mrow (bytes_one _) (.head _) rfl)) ?_
 intro _ _
 rw [Pk.raw_good rfl (by decide)]
 dsimp only
 refine w ?_
 refine VO.re 26 (.int .u32 (kind.toNat : Nat)) rfl (by rw [u32_nat (by omega)]) ?_
 ((refine zq ?_; refine zd rfl rfl (u32_ok p ⟨124, [] ++ magicL, 0⟩ kind.toNat (by omega)) ?_); intro _ _)
 rw [Pk.number_good rfl (by simp [magicL])]
 dsimp only
 refine w ?_
 ((refine zq ?_; refine zd rfl rfl (u64_ok p ⟨124, [] ++ magicL ++ lowBytes kind.toNat 4, 0⟩ e) ?_); intro _ _)
 rw [Pk.number_good rfl (by simp [magicL, lowBytes_length])]
 dsimp only
 refine w ?_
 ((refine zq ?_; refine zd rfl rfl (u64_ok p ⟨124, [] ++ magicL ++ lowBytes kind.toNat 4 ++ lowBytes e 8, 0⟩ s) ?_); intro _ _)
 rw [Pk.number_good rfl (by simp [magicL, lowBytes_length])]
 dsimp only
 rw [show [] ++ magicL ++ lowBytes kind.toNat 4 ++ lowBytes e 8 ++ lowBytes s 8 = begunL kind.toNat e s from rfl]
 refine w ?_
 refine zq ?_
 refine OpV.call rfl rfl hg (spec p) Ent.re rfl ?_
 intro _ _
 refine w ?_
 (refine zq ?_; refine zd rfl rfl (bytes_ok p ⟨124, begunL kind.toNat e s ++ rest, 0⟩ rfl) ?_)
 intro b _
 rw [image_pad]
 dsimp only
 rw [show padTo 124 (begunL kind.toNat e s ++ rest) = sectB kind.toNat e s rest from rfl]
 have hl124 : (sectB kind.toNat e s rest).length = 124 := sectB_length hrest
 generalize sectB kind.toNat e s rest = B at *
 refine w ?_
 (refine zq ?_; refine zd rfl rfl (new_ok 128 (by decide)) ?_)
 intro q _
 refine w ?_
 have hrB : Rds W (Own 5 1 (.slice (some ⟨b, 0, none⟩) 124 124) 124 (bytes B) :: R) 1 (some ⟨b, 0, none⟩) 124 (bytes B) := Rds.own (bytes_one _) (.head _) (by simp [hl124]) (by simp)
 refine zq ?_
 refine zd rfl rfl (rawR_ok q ⟨128, [], 0⟩ hrB) ?_
 intro _ _
 rw [Pk.raw_good rfl (by simp [hl124])]
 dsimp only
 refine w ?_
 have hsum := sum_ok (W := W) (cap := 124) (l := B) (R := PackerR q ⟨128, [] ++ B, 0⟩ :: Own 5 1 (.slice (some ⟨b, 0, none⟩) 124 124) 124 (bytes B) :: R) (ao := some ⟨b, 0, none⟩) (by rw [hl124]; exact hrB.ent (Ent.drop Ent.refl)) (by omega)
 rw [hl124] at hsum
 (refine zq ?_; refine zy rfl rfl (hsum) ?_)
 intro _ _
 refine w ?_
 have hcr := (crcS B).isLt
 ((refine zq ?_; refine zd rfl rfl (u32_ok q ⟨128, [] ++ B, 0⟩ (crcS B).toNat (by omega)) ?_); intro _ _)
 rw [Pk.number_good rfl (by simp [hl124])]
 dsimp only
 rw [show [] ++ B ++ lowBytes (crcS B).toNat 4 = sealS B from rfl]
 refine w ?_
 (refine zq ?_; refine zd rfl rfl (bytes_ok q ⟨128, sealS B, 0⟩ rfl) ?_)
 intro o _
 have hl128 := sealS_length hl124
 have him : (Pk.mk 128 (sealS B) 0).image = sealS B := by
  rw [image_pad]; unfold padTo; dsimp only; rw [hl128]; simp
 rw [him]
 dsimp only
 refine w ?_
 refine VE.done (some ⟨o, 0, none⟩, 128) rfl trivial (by rw [hl128]; rfl) ?_
 rw [show OwnB (some ⟨o, 0, none⟩, 128) (sealS B) = Own 5 1 (.slice (some ⟨o, 0, none⟩) 128 128) 128 (bytes (sealS B)) by unfold OwnB; rw [hl128]]
 exact Ent.re
def hadH (B : List UInt8) (vs : List Nat) (i : Nat) : List UInt8 := B ++ (vs.take i).flatMap (lowBytes · 4)
theorem hadH_zero (B : List UInt8) (vs : List Nat) : hadH B vs 0 = B := by simp [hadH]
theorem hadH_succ (B : List UInt8) (vs : List Nat) (i : Nat) (h : i < vs.length) : hadH B vs (i + 1) = hadH B vs i ++ lowBytes vs[i] 4 := by
 unfold hadH; rw [List.take_succ_eq_append_getElem h, List.flatMap_append, <- List.append_assoc, List.flatMap_cons, List.flatMap_nil, List.append_nil]
theorem low_flat_length (vs : List Nat) : (vs.flatMap (lowBytes · 4)).length = 4 * vs.length := by
 induction vs with
 | nil => rfl
 | cons v r ih => rw [List.flatMap_cons, List.length_append, lowBytes_length, ih, List.length_cons]; omega
theorem hadH_length (B : List UInt8) (vs : List Nat) (i : Nat) (h : i <= vs.length) : (hadH B vs i).length = B.length + 4 * i := by
 unfold hadH; rw [List.length_append, low_flat_length, List.length_take, Nat.min_eq_left h]
theorem hdr1_ok (h : HdrD) (hg : h.good) (hf : h.fit) (B : List UInt8) (hB : B.length = 24) (p hb : Nat) :
  Does1 W Tryz.prog 254 [.pointer (some ⟨p, 0, none⟩), .pointer (some ⟨hb, 0, none⟩)] (PackerR p ⟨124, B, 0⟩ :: Row hb 300 h.cells :: R) (.tuple #[]) (PackerR p ⟨124, B ++ flds h.rest, 0⟩ :: Row hb 300 h.cells :: R) := by
 have hiff := (hdr_iff h).1 hg
 obtain ⟨ep, sq, ix, ct, mb, rw_, es, sm⟩ := h
 dsimp only at hiff
 obtain ⟨ix, rfl⟩ := Int.eq_ofNat_of_zero_le (show 0 <= ix by omega)
 obtain ⟨ct, rfl⟩ := Int.eq_ofNat_of_zero_le (show 0 <= ct by omega)
 obtain ⟨mb, rfl⟩ := Int.eq_ofNat_of_zero_le (show 0 <= mb by omega)
 obtain ⟨rw_, rfl⟩ := Int.eq_ofNat_of_zero_le (show 0 <= rw_ by omega)
 have hsm : sm < 4294967296 := hf.sum
 clear hf hg
 (refine Does.enter Tryz.func254 Tryz.ntmps254 rfl rfl ?_)
 refine w ?_
 (refine zq ?_; refine OpV.buildSlice1 st_47 rfl rfl (by first | (simp; done) | simp [Value.oneCell']) (by decide) rfl ?_; intro nb)
 refine w ?_
 have hvs : ∀ v ∈ [ix, ct, mb, rw_], v < 4294967296 := by
  intro v hv; simp only [List.mem_cons, List.not_mem_nil, or_false] at hv; omega
 have hvl : [ix, ct, mb, rw_].length = 4 := rfl
 have hrow : ∀ (i : Nat) (h : i < [ix, ct, mb, rw_].length), [Value.int .i64 (ix : Int), .int .i64 (ct : Int), .int .i64 (mb : Int), .int .i64 (rw_ : Int)][i]? = some (.int .i64 (([ix, ct, mb, rw_][i] : Nat) : Int)) := by
  intro i h
  match i, h with
  | 0, _ => rfl
  | 1, _ => rfl
  | 2, _ => rfl
  | 3, _ => rfl
 refine VC.loop (α := Nat) (fun i => i <= 4) (fun i => Row nb 3 [Value.int .i64 (ix : Int), .int .i64 (ct : Int), .int .i64 (mb : Int), .int .i64 (rw_ : Int)] :: PackerR p ⟨124, hadH B [ix, ct, mb, rw_] i, 0⟩ :: Row hb 300 (HdrD.mk ep sq ix ct mb rw_ es sm).cells :: R)
  (fun i => [(0, .pointer (some ⟨p, 0, none⟩)), (1, .pointer (some ⟨hb, 0, none⟩)), (14, .slice (some ⟨nb, 0, none⟩) 4 4), (15, .int .i64 4), (16, .int .i64 i)]) (fun i => 4 - i) rfl 0 (Nat.zero_le _) (by rw [hadH_zero]; exact Ent.refl) ⟨rfl, rfl, rfl, rfl, rfl, trivial⟩ ?_
 intro i hi
 have hll := hadH_length B [ix, ct, mb, rw_] i hi
 refine w ?_
 refine zk ?_ ?_ <;> intro hc
 ·
  have hlt : i < 4 := by have := of_decide_eq_true hc; omega
  have hr1 : Rds W (Row nb 3 [Value.int .i64 (ix : Int), .int .i64 (ct : Int), .int .i64 (mb : Int), .int .i64 (rw_ : Int)] :: PackerR p ⟨124, hadH B [ix, ct, mb, rw_] i, 0⟩ :: Row hb 300 (HdrD.mk ep sq ix ct mb rw_ es sm).cells :: R) 1 (some ⟨nb, 0, none⟩) 4 [Value.int .i64 (ix : Int), .int .i64 (ct : Int), .int .i64 (mb : Int), .int .i64 (rw_ : Int)] :=
   Rds.row (by simp [Value.oneCell']) (.head _) rfl
  have hsucc := hadH_succ B [ix, ct, mb, rw_] i hlt
  have hrow := hrow i hlt
  have hv := hvs _ (List.getElem_mem (l := [ix, ct, mb, rw_]) hlt)
  generalize [ix, ct, mb, rw_][i]'hlt = v at *
  generalize hgl : [Value.int .i64 (ix : Int), .int .i64 (ct : Int), .int .i64 (mb : Int), .int .i64 (rw_ : Int)] = cs at *
  refine w ?_
  refine VO.pure rfl rfl (PureAt.ldR tab_ok rfl rfl hr1 hrow) rfl ?_
  refine w ?_
  refine VO.re 22 (.int .u32 v) rfl (by rw [u32_nat hv]) ?_
  ((refine zq ?_; refine zd rfl rfl (u32_ok p ⟨124, hadH B [ix, ct, mb, rw_] i, 0⟩ v (by omega)) ?_); intro _ _)
  rw [Pk.number_good rfl (by dsimp only; omega)]
  dsimp only
  rw [<- hsucc]
  refine w ?_
  exact VE.round (i + 1) (by omega) (by omega) ⟨rfl, rfl, rfl, rfl, asV rfl (by congr 1), trivial⟩ Ent.re
 ·
  have hge : i = 4 := by have := of_decide_eq_false hc; omega
  subst hge
  have hfl : hadH B [ix, ct, mb, rw_] 4 ++ lowBytes (bitN es) 4 ++ lowBytes sm 4 = B ++ flds (HdrD.mk ep sq ix ct mb rw_ es sm).rest := by
   simp [hadH, flds, HdrD.rest]
  rw [<- hfl]
  generalize hadH B [ix, ct, mb, rw_] 4 = D at *
  cases es
  ·
   refine w ?_
   refine VO.re 28 (.int .u32 (bitN false)) rfl rfl ?_
   ((refine zq ?_; refine zd rfl rfl (u32_ok p ⟨124, D, 0⟩ (bitN false) (bitN_lt _)) ?_); intro _ _)
   rw [Pk.number_good rfl (by dsimp only; omega)]
   dsimp only
   refine w ?_
   refine VO.re 32 (.int .u32 sm) rfl rfl ?_
   ((refine zq ?_; refine zd rfl rfl (u32_ok p ⟨124, D ++ lowBytes (bitN false) 4, 0⟩ sm (by omega)) ?_); intro _ _)
   rw [Pk.number_good rfl (by simp [lowBytes_length]; omega)]
   refine w ?_
   (refine VE.done1N rfl rfl ?_)
   exact Ent.re
  ·
   refine w ?_
   refine VO.re 28 (.int .u32 (bitN true)) rfl rfl ?_
   ((refine zq ?_; refine zd rfl rfl (u32_ok p ⟨124, D, 0⟩ (bitN true) (bitN_lt _)) ?_); intro _ _)
   rw [Pk.number_good rfl (by dsimp only; omega)]
   dsimp only
   refine w ?_
   refine VO.re 32 (.int .u32 sm) rfl rfl ?_
   ((refine zq ?_; refine zd rfl rfl (u32_ok p ⟨124, D ++ lowBytes (bitN true) 4, 0⟩ sm (by omega)) ?_); intro _ _)
   rw [Pk.number_good rfl (by simp [lowBytes_length]; omega)]
   refine w ?_
   (refine VE.done1N rfl rfl ?_)
   exact Ent.re
theorem cmt1_ok (h : CmtD) (hg : h.good) (hf : h.fit) (B : List UInt8) (hB : B.length = 24) (p hb : Nat) :
  Does1 W Tryz.prog 253 [.pointer (some ⟨p, 0, none⟩), .pointer (some ⟨hb, 0, none⟩)] (PackerR p ⟨124, B, 0⟩ :: Row hb 307 h.cells :: R) (.tuple #[]) (PackerR p ⟨124, B ++ flds h.rest, 0⟩ :: Row hb 307 h.cells :: R) := by
 have hiff := (cmt_iff h).1 hg
 obtain ⟨ep, sq, ct, sm⟩ := h
 dsimp only at hiff
 obtain ⟨ct, rfl⟩ := Int.eq_ofNat_of_zero_le (show 0 <= ct by omega)
 have hsm : sm < 4294967296 := hf.sum
 clear hf hg
 have hfl : B ++ lowBytes ct 4 ++ lowBytes sm 4 = B ++ flds (CmtD.mk ep sq ct sm).rest := by simp [flds, CmtD.rest]
 rw [<- hfl]
 (refine Does.enter Tryz.func253 Tryz.ntmps253 rfl rfl ?_)
 refine w ?_
 refine VO.re 6 (.int .u32 ct) rfl (by show Value.int .u32 (IntKind.u32.wrap (ct : Int)) = _; rw [u32_nat (by omega)]) ?_
 ((refine zq ?_; refine zd rfl rfl (u32_ok p ⟨124, B, 0⟩ ct (by omega)) ?_); intro _ _)
 rw [Pk.number_good rfl (by dsimp only; omega)]
 dsimp only
 refine w ?_
 refine VO.re 10 (.int .u32 sm) rfl rfl ?_
 ((refine zq ?_; refine zd rfl rfl (u32_ok p ⟨124, B ++ lowBytes ct 4, 0⟩ sm (by omega)) ?_); intro _ _)
 rw [Pk.number_good rfl (by simp [lowBytes_length]; omega)]
 refine w ?_
 (refine VE.done1N rfl rfl ?_)
 exact Ent.re
theorem chk1_ok (h : ChkD) (hg : h.good) (hf : h.fit) (B : List UInt8) (hB : B.length = 24) (p hb : Nat) :
  Does1 W Tryz.prog 202 [.pointer (some ⟨p, 0, none⟩), .pointer (some ⟨hb, 0, none⟩)] (PackerR p ⟨124, B, 0⟩ :: Row hb 155 h.cells :: R) (.tuple #[]) (PackerR p ⟨124, B ++ flds h.rest, 0⟩ :: Row hb 155 h.cells :: R) := by
 have hiff := (chk_iff h).1 hg
 obtain ⟨ep, sq, ct⟩ := h
 dsimp only at hiff
 obtain ⟨ct, rfl⟩ := Int.eq_ofNat_of_zero_le (show 0 <= ct by omega)
 clear hf hg
 have hfl : B ++ lowBytes ct 4 = B ++ flds (ChkD.mk ep sq ct).rest := by simp [flds, ChkD.rest]
 rw [<- hfl]
 (refine Does.enter Tryz.func202 Tryz.ntmps202 rfl rfl ?_)
 refine w ?_
 refine VO.re 6 (.int .u32 ct) rfl (by show Value.int .u32 (IntKind.u32.wrap (ct : Int)) = _; rw [u32_nat (by omega)]) ?_
 ((refine zq ?_; refine zd rfl rfl (u32_ok p ⟨124, B, 0⟩ ct (by omega)) ?_); intro _ _)
 rw [Pk.number_good rfl (by dsimp only; omega)]
 dsimp only
 refine w ?_
 (refine VE.done1N rfl rfl ?_)
 exact Ent.re
theorem ench_ok (h : HdrD) (hf : h.fit) :
  Does W Tryz.prog 240 [.agg h.cells.toArray] R (β := Option Addr × Nat) (fun _ => True) (fun x => .tuple #[.slice x.1 h.enc.2.length x.2, .int .u16 h.enc.1]) (fun x => OwnB x h.enc.2 :: R) := by
 have hct := hf.count
 (refine Does.enter Tryz.func240 Tryz.ntmps240 rfl rfl ?_)
 refine w ?_; repeat (refine zj fun _ => ?_; refine w ?_)
 rename_i hbx
 (refine zq ?_; refine zy rfl rfl (counts_ok h.epoch h.seq) ?_)
 intro _ _
 refine w ?_; repeat (refine zj fun _ => ?_; refine w ?_)
 refine zg ?_ ?_ <;> intro hb
 ·
  have hb : ¬ cntOk h.epoch h.seq := by simpa using hb
  have hbad := hdr_bad (h := h) (fun g => hb g.1)
  refine w ?_; repeat (refine zj fun _ => ?_; refine w ?_)
  refine VE.done (none, 0) rfl trivial (by rw [hbad]; rfl) ?_
  rw [hbad]; exact Ent.trans (Ent.re (L := R)) (fun w hw => hw.ownNil _ _)
 have h0 : cntOk h.epoch h.seq := by simpa using hb
 refine w ?_; repeat (refine zj fun _ => ?_; refine w ?_)
 (refine zq ?_; refine zy rfl rfl (in_ok h.count 1 1023) ?_)
 intro _ _
 refine w ?_; repeat (refine zj fun _ => ?_; refine w ?_)
 refine zg ?_ ?_ <;> intro hb
 ·
  have hb : ¬ (1 <= h.count /\ h.count <= 1023) := by have hq := hb; simp at hq; omega
  have hbad := hdr_bad (h := h) (fun g => hb g.2.1)
  refine w ?_; repeat (refine zj fun _ => ?_; refine w ?_)
  refine VE.done (none, 0) rfl trivial (by rw [hbad]; rfl) ?_
  rw [hbad]; exact Ent.trans (Ent.re (L := R)) (fun w hw => hw.ownNil _ _)
 have h1 : 1 <= h.count /\ h.count <= 1023 := by simpa using hb
 refine w ?_; repeat (refine zj fun _ => ?_; refine w ?_)
 (refine zq ?_; refine zy rfl rfl (in_ok h.index 0 (h.count - 1)) ?_)
 intro _ _
 refine w ?_; repeat (refine zj fun _ => ?_; refine w ?_)
 refine zg ?_ ?_ <;> intro hb
 ·
  have hb : ¬ (0 <= h.index /\ h.index <= h.count - 1) := by have hq := hb; simp at hq; omega
  have hbad := hdr_bad (h := h) (fun g => hb g.2.2.1)
  refine w ?_; repeat (refine zj fun _ => ?_; refine w ?_)
  refine VE.done (none, 0) rfl trivial (by rw [hbad]; rfl) ?_
  rw [hbad]; exact Ent.trans (Ent.re (L := R)) (fun w hw => hw.ownNil _ _)
 have h2 : 0 <= h.index /\ h.index <= h.count - 1 := by simpa using hb
 refine w ?_; repeat (refine zj fun _ => ?_; refine w ?_)
 (refine zq ?_; refine zy rfl rfl (in_ok h.member 0 15) ?_)
 intro _ _
 refine w ?_; repeat (refine zj fun _ => ?_; refine w ?_)
 refine zg ?_ ?_ <;> intro hb
 ·
  have hb : ¬ (0 <= h.member /\ h.member <= 15) := by have hq := hb; simp at hq; omega
  have hbad := hdr_bad (h := h) (fun g => hb g.2.2.2.1)
  refine w ?_; repeat (refine zj fun _ => ?_; refine w ?_)
  refine VE.done (none, 0) rfl trivial (by rw [hbad]; rfl) ?_
  rw [hbad]; exact Ent.trans (Ent.re (L := R)) (fun w hw => hw.ownNil _ _)
 have h3 : 0 <= h.member /\ h.member <= 15 := by simpa using hb
 refine w ?_; repeat (refine zj fun _ => ?_; refine w ?_)
 (refine zq ?_; refine zy rfl rfl (in_ok h.row 0 4095) ?_)
 intro _ _
 refine w ?_; repeat (refine zj fun _ => ?_; refine w ?_)
 refine zk ?_ ?_ <;> intro hc
 ·
  have hb : ¬ (0 <= h.row /\ h.row <= 4095) := by have hq := hc; simp at hq; omega
  have hbad := hdr_bad (h := h) (fun g => hb g.2.2.2.2)
  refine w ?_; repeat (refine zj fun _ => ?_; refine w ?_)
  refine VE.done (none, 0) rfl trivial (by rw [hbad]; rfl) ?_
  rw [hbad]; exact Ent.trans (Ent.re (L := R)) (fun w hw => hw.ownNil _ _)
 have h4 : 0 <= h.row /\ h.row <= 4095 := by simpa using hc
 have hg : h.good := ⟨h0, h1, h2, h3, h4⟩
 have he := hdr_ok hg
 rw [he]
 refine w ?_; repeat (refine zj fun _ => ?_; refine w ?_)
 refine VO.pure rfl rfl (PureAt.makeFuncN rfl) rfl ?_
 (refine zq ?_; refine zd rfl rfl (written_ok 1 h.epoch h.seq hf.epoch hf.seq (flds h.rest) (by rw [flds_length]; exact hdr_sum h) 254 (fun _ _ => by simp) #[.pointer (some ⟨hbx, 0, none⟩)] (fun p => hdr1_ok h hg hf _ (begunL_length _ _ _) p hbx)) ?_)
 rintro ⟨a1, c1⟩ -
 refine w ?_; repeat (refine zj fun _ => ?_; refine w ?_)
 exact VE.done (a1, c1) rfl trivial rfl Ent.re
theorem encc_ok (h : CmtD) (hf : h.fit) :
  Does W Tryz.prog 237 [.agg h.cells.toArray] R (β := Option Addr × Nat) (fun _ => True) (fun x => .tuple #[.slice x.1 h.enc.2.length x.2, .int .u16 h.enc.1]) (fun x => OwnB x h.enc.2 :: R) := by
 (refine Does.enter Tryz.func237 Tryz.ntmps237 rfl rfl ?_)
 refine w ?_; repeat (refine zj fun _ => ?_; refine w ?_)
 rename_i hbx
 (refine zq ?_; refine zy rfl rfl (counts_ok h.epoch h.seq) ?_)
 intro _ _
 refine w ?_; repeat (refine zj fun _ => ?_; refine w ?_)
 refine zg ?_ ?_ <;> intro hb
 ·
  have hb : ¬ cntOk h.epoch h.seq := by simpa using hb
  have hbad := cmt_bad (h := h) (fun g => hb g.1)
  refine w ?_; repeat (refine zj fun _ => ?_; refine w ?_)
  refine VE.done (none, 0) rfl trivial (by rw [hbad]; rfl) ?_
  rw [hbad]; exact Ent.trans (Ent.re (L := R)) (fun w hw => hw.ownNil _ _)
 have h0 : cntOk h.epoch h.seq := by simpa using hb
 refine w ?_; repeat (refine zj fun _ => ?_; refine w ?_)
 (refine zq ?_; refine zy rfl rfl (in_ok h.count 1 1023) ?_)
 intro _ _
 refine w ?_; repeat (refine zj fun _ => ?_; refine w ?_)
 refine zk ?_ ?_ <;> intro hc
 ·
  have hb : ¬ (1 <= h.count /\ h.count <= 1023) := by have hq := hc; simp at hq; omega
  have hbad := cmt_bad (h := h) (fun g => hb g.2)
  refine w ?_; repeat (refine zj fun _ => ?_; refine w ?_)
  refine VE.done (none, 0) rfl trivial (by rw [hbad]; rfl) ?_
  rw [hbad]; exact Ent.trans (Ent.re (L := R)) (fun w hw => hw.ownNil _ _)
 have h4 : 1 <= h.count /\ h.count <= 1023 := by simpa using hc
 have hg : h.good := ⟨h0, h4⟩
 have he := cmt_ok hg
 rw [he]
 refine w ?_; repeat (refine zj fun _ => ?_; refine w ?_)
 refine VO.pure rfl rfl (PureAt.makeFuncN rfl) rfl ?_
 (refine zq ?_; refine zd rfl rfl (written_ok 2 h.epoch h.seq hf.epoch hf.seq (flds h.rest) (by rw [flds_length]; exact cmt_sum h) 253 (fun _ _ => by simp) #[.pointer (some ⟨hbx, 0, none⟩)] (fun p => cmt1_ok h hg hf _ (begunL_length _ _ _) p hbx)) ?_)
 rintro ⟨a1, c1⟩ -
 refine w ?_; repeat (refine zj fun _ => ?_; refine w ?_)
 exact VE.done (a1, c1) rfl trivial rfl Ent.re
theorem encs_ok (h : ChkD) (hf : h.fit) :
  Does W Tryz.prog 138 [.agg h.cells.toArray] R (β := Option Addr × Nat) (fun _ => True) (fun x => .tuple #[.slice x.1 h.enc.2.length x.2, .int .u16 h.enc.1]) (fun x => OwnB x h.enc.2 :: R) := by
 (refine Does.enter Tryz.func138 Tryz.ntmps138 rfl rfl ?_)
 refine w ?_; repeat (refine zj fun _ => ?_; refine w ?_)
 rename_i hbx
 (refine zq ?_; refine zy rfl rfl (counts_ok h.epoch h.seq) ?_)
 intro _ _
 refine w ?_; repeat (refine zj fun _ => ?_; refine w ?_)
 refine zg ?_ ?_ <;> intro hb
 ·
  have hb : ¬ cntOk h.epoch h.seq := by simpa using hb
  have hbad := chk_bad (h := h) (fun g => hb g.1)
  refine w ?_; repeat (refine zj fun _ => ?_; refine w ?_)
  refine VE.done (none, 0) rfl trivial (by rw [hbad]; rfl) ?_
  rw [hbad]; exact Ent.trans (Ent.re (L := R)) (fun w hw => hw.ownNil _ _)
 have h0 : cntOk h.epoch h.seq := by simpa using hb
 refine w ?_; repeat (refine zj fun _ => ?_; refine w ?_)
 (refine zq ?_; refine zy rfl rfl (in_ok h.tail 0 2047) ?_)
 intro _ _
 refine w ?_; repeat (refine zj fun _ => ?_; refine w ?_)
 refine zk ?_ ?_ <;> intro hc
 ·
  have hb : ¬ (0 <= h.tail /\ h.tail <= 2047) := by have hq := hc; simp at hq; omega
  have hbad := chk_bad (h := h) (fun g => hb g.2)
  refine w ?_; repeat (refine zj fun _ => ?_; refine w ?_)
  refine VE.done (none, 0) rfl trivial (by rw [hbad]; rfl) ?_
  rw [hbad]; exact Ent.trans (Ent.re (L := R)) (fun w hw => hw.ownNil _ _)
 have h4 : 0 <= h.tail /\ h.tail <= 2047 := by simpa using hc
 have hg : h.good := ⟨h0, h4⟩
 have he := chk_ok hg
 rw [he]
 refine w ?_; repeat (refine zj fun _ => ?_; refine w ?_)
 refine VO.pure rfl rfl (PureAt.makeFuncN rfl) rfl ?_
 (refine zq ?_; refine zd rfl rfl (written_ok 3 h.epoch h.seq hf.epoch hf.seq (flds h.rest) (by rw [flds_length]; exact chk_sum h) 202 (fun _ _ => by simp) #[.pointer (some ⟨hbx, 0, none⟩)] (fun p => chk1_ok h hg hf _ (begunL_length _ _ _) p hbx)) ?_)
 rintro ⟨a1, c1⟩ -
 refine w ?_; repeat (refine zj fun _ => ?_; refine w ?_)
 exact VE.done (a1, c1) rfl trivial rfl Ent.re
theorem equal_ok {ao ao' : Option Addr} {cap cap' : Nat} {a b : List UInt8} (ha : Rds W R 1 ao a.length (bytes a)) (hb : Rds W R 1 ao' b.length (bytes b)) :
  Does1 W Tryz.prog 126 [.slice ao a.length cap, .slice ao' b.length cap'] R (.bool (decide (a = b))) R := by
 (refine Does.enter Tryz.func126 Tryz.ntmps126 rfl rfl ?_)
 refine w ?_
 refine VO.pure rfl rfl (PureAt.toStr (l := a) tab_ok rfl rfl rfl rfl ha rfl) rfl ?_
 refine w ?_
 refine VO.pure rfl rfl (PureAt.toStr (l := b) tab_ok rfl rfl rfl rfl hb rfl) rfl ?_
 refine VO.pure rfl rfl (PureAt.strEq tab_ok rfl rfl rfl rfl) rfl ?_
 refine w ?_
 refine VE.done1 rfl ?_ ?_
 · rfl
 · exact Ent.refl
theorem read_bad {ao : Option Addr} {cap : Nat} {l : List UInt8} (hr : Rds W R 1 ao l.length (bytes l)) (hcap : l.length <= cap) (k : UInt8) (hbad : looksM l k ≠ 0) (f1 f2 : Value) :
  Does1 W Tryz.prog 135 [.slice ao l.length cap, .int .u8 (k.toNat : Int), f1, f2] R (.int .u16 (looksM l k)) R := by
 (refine Does.enter Tryz.func135 Tryz.ntmps135 rfl rfl ?_)
 refine w ?_
 refine zk ?_ ?_ <;> intro hc
 ·
  have hb : l.length ≠ 128 := by have := hc; simp at this; omega
  refine w ?_
  refine VE.done1 rfl ?_ ?_
  · unfold looksM; rw [if_pos hb]
  · exact Ent.refl
 have h128 : l.length = 128 := by have := hc; simp at this; omega
 refine w ?_
 (refine zq ?_; refine zy rfl rfl (kind_ok hr hcap) ?_)
 intro _ _
 refine w ?_
 refine zk ?_ ?_ <;> intro hc
 ·
  have hb : kindB l ≠ k := by intro h; rw [h] at hc; simp at hc
  refine w ?_
  refine VE.done1 rfl ?_ ?_
  · unfold looksM; rw [if_neg (by omega), if_pos hb]
  · exact Ent.refl
 have hk : kindB l = k := by
  have h1 : ((kindB l).toNat : Int) = (k.toNat : Int) := by simpa using hc
  exact UInt8.toNat_inj.1 (by omega)
 have hn : numAt l 124 4 ≠ (crcS (l.take 124)).toNat := by
  intro h; apply hbad; unfold looksM; rw [if_neg (by omega), if_neg (fun h => h hk), if_neg (fun h2 => h2 h)]
 obtain ⟨a, rfl⟩ : ∃ a, ao = some a := by cases ao with | none => have := hr.nil rfl; omega | some a => exact ⟨a, rfl⟩
 have hp := rds_part hr 124 128 (by omega) (by omega) hcap
 rw [show 128 - 124 = 4 from rfl] at hp
 have hlt := numAt_lt l 124 4
 have h124 : (l.take 124).length = 124 := by rw [List.length_take]; omega
 refine w ?_
 refine VO.re 22 (.slice (subA (some a) cap 124 1) 4 (cap - 124)) rfl (by rw [h128]) ?_
 (refine zq ?_; refine zd rfl rfl (read_ok hp (by omega)) ?_)
 intro q _
 refine w ?_
 have hr2 := hr.ent (H := ReaderR q ⟨(l.drop 124).take 4, 0, 0, 0⟩ :: R) (Ent.drop Ent.refl)
 have hg := Rk.got_good (k := ⟨(l.drop 124).take 4, 0, 0, 0⟩) (n := 4) rfl (by simp; omega)
 have hsum := sum_ok (cap := cap) (l := l.take 124) (W := W) (R := ReaderR q ⟨(l.drop 124).take 4, 4, 0, 0⟩ :: R) (ao := some a) (by rw [h124]; exact rds_head (hr.ent (Ent.drop Ent.refl)) 124 (by omega)) (by omega)
 rw [h124] at hsum
 (refine VC.drawn [1] 4 [0, 2, 3, 1, 4, 5] R rfl (by kernel_rfl) (by kernel_rfl) Ent.re ?_)
 refine w ?_
 ((refine zq ?_; refine zd rfl rfl (r32_ok q ⟨(l.drop 124).take 4, 0, 0, 0⟩) ?_); intro _ _)
 rw [hg.1, hg.2.2]
 dsimp only
 rw [show leVal (List.take 4 (List.drop 0 (List.take 4 (List.drop 124 l)))) = numAt l 124 4 by unfold numAt; rw [List.drop_zero, List.take_take]; rfl, Nat.zero_add]
 refine w ?_
 (refine zq ?_; refine zy rfl rfl (hsum) ?_)
 intro _ _
 refine w ?_
 (refine VC.condTe rfl rfl (by simpa using fun h => hn (by omega)) ?_)
 refine w ?_
 refine VE.done1 rfl ?_ ?_
 · unfold looksM; rw [if_neg (by omega), if_neg (fun h => h hk), if_pos hn]
 · exact Ent.re
theorem read_good {R0 R1 : List SProp} {ao : Option Addr} {cap : Nat} {l : List UInt8} (hr : Rds W R0 1 ao l.length (bytes l)) (hr1 : Rds W R1 1 ao l.length (bytes l)) (hcap : l.length <= cap) (k : UInt8) (hlk : looksM l k = 0)
  (g1 g2 : FuncId) (cap1 cap2 : Array Value) (hg1 : ∀ a w, (callFunc g1 a).run Tryz.prog w = .ok (.enter g1 a) w) (hg2 : ∀ a w, (callFunc g2 a).run Tryz.prog w = .ok (.enter g2 a) w) (C : List UInt8) (eC : Int)
  (rest : ∀ p, Does1 W Tryz.prog g1 ([.pointer (some ⟨p, 0, none⟩), .int .u64 (numAt l 8 8 : Nat), .int .u64 (numAt l 16 8 : Nat)] ++ cap1.toList) (ReaderR p ⟨l, 24, 0, 0⟩ :: R0) (.tuple #[]) R1)
  (again : Does W Tryz.prog g2 ([] ++ cap2.toList) R1 (β := Option Addr × Nat) (fun _ => True) (fun x => .tuple #[.slice x.1 C.length x.2, .int .u16 eC]) (fun x => OwnB x C :: R1)) :
  Does1 W Tryz.prog 135 [.slice ao l.length cap, .int .u8 (k.toNat : Int), .func (.func g1) #[] cap1, .func (.func g2) #[] cap2] R0 (.int .u16 (if eC = 0 /\ C = l then 0 else 80)) R1 := by
 have h128 := looks_len hlk
 have hk : kindB l = k := by
  unfold looksM at hlk; rw [if_neg (by omega)] at hlk; split at hlk
  · cases hlk
  · rename_i h; exact Decidable.of_not_not h
 have hn : numAt l 124 4 = (crcS (l.take 124)).toNat := by
  unfold looksM at hlk; rw [if_neg (by omega), if_neg (fun h => h hk)] at hlk; split at hlk
  · cases hlk
  · rename_i h; exact Decidable.of_not_not h
 obtain ⟨a, rfl⟩ : ∃ a, ao = some a := by cases ao with | none => have := hr.nil rfl; omega | some a => exact ⟨a, rfl⟩
 have hp := rds_part hr 124 128 (by omega) (by omega) hcap
 rw [show 128 - 124 = 4 from rfl] at hp
 have hlt := numAt_lt l 124 4
 have h124 : (l.take 124).length = 124 := by rw [List.length_take]; omega
 (refine Does.enter Tryz.func135 Tryz.ntmps135 rfl rfl ?_)
 refine w ?_
 (refine VC.condFe rfl rfl (by simp; omega) ?_)
 refine w ?_
 (refine zq ?_; refine zy rfl rfl (kind_ok hr hcap) ?_)
 intro _ _
 rw [hk]
 refine w ?_
 (refine VC.condFe rfl rfl (by simp) ?_)
 refine w ?_
 refine VO.re 22 (.slice (subA (some a) cap 124 1) 4 (cap - 124)) rfl (by rw [h128]) ?_
 (refine zq ?_; refine zd rfl rfl (read_ok hp (by omega)) ?_)
 intro q _
 refine w ?_
 have hr2 := hr.ent (H := ReaderR q ⟨(l.drop 124).take 4, 0, 0, 0⟩ :: R0) (Ent.drop Ent.refl)
 have hg := Rk.got_good (k := ⟨(l.drop 124).take 4, 0, 0, 0⟩) (n := 4) rfl (by simp; omega)
 have hsum := sum_ok (cap := cap) (l := l.take 124) (W := W) (R := ReaderR q ⟨(l.drop 124).take 4, 4, 0, 0⟩ :: R0) (ao := some a) (by rw [h124]; exact rds_head (hr.ent (Ent.drop Ent.refl)) 124 (by omega)) (by omega)
 rw [h124] at hsum
 (refine VC.drawn [1] 4 [0, 2, 3, 1, 4, 5] R0 rfl (by kernel_rfl) (by kernel_rfl) Ent.re ?_)
 refine w ?_
 ((refine zq ?_; refine zd rfl rfl (r32_ok q ⟨(l.drop 124).take 4, 0, 0, 0⟩) ?_); intro _ _)
 rw [hg.1, hg.2.2]
 dsimp only
 rw [show leVal (List.take 4 (List.drop 0 (List.take 4 (List.drop 124 l)))) = numAt l 124 4 by unfold numAt; rw [List.drop_zero, List.take_take]; rfl, Nat.zero_add]
 refine w ?_
 (refine zq ?_; refine zy rfl rfl (hsum) ?_)
 intro _ _
 refine w ?_
 (refine VC.condFe rfl rfl (by simp; omega) ?_)
 refine w ?_
 refine zq ?_
 refine zd rfl rfl (read_ok (R := R0) hr (by omega)) ?_
 intro p _
 refine w ?_
 (refine zq ?_; refine zd rfl rfl (rraw_ok p ⟨l, 0, 0, 0⟩ 8) ?_)
 rintro ⟨ra, rc⟩ -
 rw [show (Rk.mk l 0 0 0).raw 8 = ⟨l, 8, 0, 0⟩ by unfold Rk.raw; rw [if_neg (by decide)]; exact (Rk.got_good (k := ⟨l, 0, 0, 0⟩) (n := 8) rfl (by simp only; omega)).2.2]
 have g8 := Rk.got_good (k := ⟨l, 8, 0, 0⟩) (n := 8) rfl (by simp only; omega)
 have g16 := Rk.got_good (k := ⟨l, 16, 0, 0⟩) (n := 8) rfl (by simp only; omega)
 refine w ?_
 (refine zq ?_; refine zd rfl rfl (r64_ok p ⟨l, 8, 0, 0⟩) ?_)
 intro _ _
 rw [g8.1, g8.2.2]
 dsimp only
 refine w ?_
 (refine zq ?_; refine zd rfl rfl (r64_ok p ⟨l, 16, 0, 0⟩) ?_)
 intro _ _
 rw [g16.1, g16.2.2]
 dsimp only
 refine w ?_
 refine zq ?_
 refine OpV.call rfl rfl hg1 (rest p) Ent.re rfl ?_
 intro _ _
 refine w ?_
 refine zq ?_
 refine OpV.call rfl rfl hg2 again Ent.re rfl ?_
 rintro ⟨xa, xc⟩ -
 refine VO.know (p := xa = none -> C.length = 0) (fun w hw => hw.ownNone (.head _)) ?_
 intro hxn
 refine w ?_
 refine zg ?_ ?_ <;> intro hb
 ·
  have hb : eC ≠ 0 := by simpa using hb
  refine w ?_
  refine VE.done1 rfl ?_ ?_
  · rw [if_neg (fun h => hb h.1)]
  · exact Ent.re
 have hb : eC = 0 := by simpa using hb
 refine w ?_
 (refine zq ?_; refine zy rfl rfl (equal_ok (hr1.ent (Ent.drop Ent.refl)) (own_rds (x := (xa, xc)) hxn (.head _))) ?_)
 intro _ _
 refine w ?_
 refine zk ?_ ?_ <;> intro hc
 ·
  have hne : ¬ C = l := by have hc := hc; simp at hc; exact fun h => hc h.symm
  refine w ?_
  refine VE.done1 rfl ?_ ?_
  · rw [if_neg (fun h => hne h.2)]
  · exact Ent.re
 ·
  have he : C = l := by have hc := hc; simp at hc; exact hc.symm
  refine w ?_
  refine VE.done1 rfl ?_ ?_
  · rw [if_pos ⟨hb, he⟩]
  · exact Ent.re
theorem hdr2_ok (h : HdrD) (hf : h.fit) (hb : Nat) :
  Does W Tryz.prog 239 [.pointer (some ⟨hb, 0, none⟩)] (Row hb 300 h.cells :: R) (β := Option Addr × Nat) (fun _ => True) (fun x => .tuple #[.slice x.1 h.enc.2.length x.2, .int .u16 h.enc.1]) (fun x => OwnB x h.enc.2 :: Row hb 300 h.cells :: R) := by
 (refine Does.enter Tryz.func239 Tryz.ntmps239 rfl rfl ?_)
 refine w ?_
 (refine zq ?_; refine zd rfl rfl (ench_ok h hf) ?_)
 rintro ⟨a1, c1⟩ -
 refine w ?_
 exact VE.done (a1, c1) rfl trivial rfl Ent.re
theorem cmt2_ok (h : CmtD) (hf : h.fit) (hb : Nat) :
  Does W Tryz.prog 236 [.pointer (some ⟨hb, 0, none⟩)] (Row hb 307 h.cells :: R) (β := Option Addr × Nat) (fun _ => True) (fun x => .tuple #[.slice x.1 h.enc.2.length x.2, .int .u16 h.enc.1]) (fun x => OwnB x h.enc.2 :: Row hb 307 h.cells :: R) := by
 (refine Does.enter Tryz.func236 Tryz.ntmps236 rfl rfl ?_)
 refine w ?_
 (refine zq ?_; refine zd rfl rfl (encc_ok h hf) ?_)
 rintro ⟨a1, c1⟩ -
 refine w ?_
 exact VE.done (a1, c1) rfl trivial rfl Ent.re
theorem chk2_ok (h : ChkD) (hf : h.fit) (hb : Nat) :
  Does W Tryz.prog 137 [.pointer (some ⟨hb, 0, none⟩)] (Row hb 155 h.cells :: R) (β := Option Addr × Nat) (fun _ => True) (fun x => .tuple #[.slice x.1 h.enc.2.length x.2, .int .u16 h.enc.1]) (fun x => OwnB x h.enc.2 :: Row hb 155 h.cells :: R) := by
 (refine Does.enter Tryz.func137 Tryz.ntmps137 rfl rfl ?_)
 refine w ?_
 (refine zq ?_; refine zd rfl rfl (encs_ok h hf) ?_)
 rintro ⟨a1, c1⟩ -
 refine w ?_
 exact VE.done (a1, c1) rfl trivial rfl Ent.re
theorem cmtR_ok {l : List UInt8} (hl : l.length = 128) (p hb : Nat) :
  Does1 W Tryz.prog 235 [.pointer (some ⟨p, 0, none⟩), .int .u64 (numAt l 8 8 : Nat), .int .u64 (numAt l 16 8 : Nat), .pointer (some ⟨hb, 0, none⟩)] (ReaderR p ⟨l, 24, 0, 0⟩ :: Row hb 307 zeroC.cells :: R) (.tuple #[]) (Row hb 307 (CmtD.parse l).cells :: R) := by
 have g24 := Rk.got_good (k := ⟨l, 24, 0, 0⟩) (n := 4) rfl (by simp only; omega)
 have g28 := Rk.got_good (k := ⟨l, 28, 0, 0⟩) (n := 4) rfl (by simp only; omega)
 have hlt := numAt_lt l
 (refine Does.enter Tryz.func235 Tryz.ntmps235 rfl rfl ?_)
 refine w ?_
 ((refine zq ?_; refine zd rfl rfl (r32_ok p ⟨l, 24, 0, 0⟩) ?_); intro _ _)
 rw [g24.1, g24.2.2]
 dsimp only
 refine w ?_
 refine VO.re 11 (.int .i64 (CmtD.parse l).count) rfl (by rw [show leVal (List.take 4 (List.drop 24 l)) = numAt l 24 4 from rfl, i64_nat (hlt 24 4)]; rfl) ?_
 ((refine zq ?_; refine zd rfl rfl (r32_ok p ⟨l, 28, 0, 0⟩) ?_); intro _ _)
 rw [g28.1, g28.2.2]
 dsimp only
 refine w ?_
 (apply VO.pure rfl rfl; apply PureAt.build sb_307 rfl; (simp [buildX, setL, Value.cells]; rfl); rfl)
 refine zq ?_
 refine OpV.stA (vs := (CmtD.parse l).cells) tab_ok rfl rfl rfl rfl (cmt_one _) zh (by simp) ?_
 refine w ?_
 (refine VE.done1N rfl rfl ?_)
 exact Ent.re (L := Row hb 307 (CmtD.parse l).cells :: R)
theorem chkR_ok {l : List UInt8} (hl : l.length = 128) (p hb : Nat) :
  Does1 W Tryz.prog 136 [.pointer (some ⟨p, 0, none⟩), .int .u64 (numAt l 8 8 : Nat), .int .u64 (numAt l 16 8 : Nat), .pointer (some ⟨hb, 0, none⟩)] (ReaderR p ⟨l, 24, 0, 0⟩ :: Row hb 155 zeroK.cells :: R) (.tuple #[]) (Row hb 155 (ChkD.parse l).cells :: R) := by
 have g24 := Rk.got_good (k := ⟨l, 24, 0, 0⟩) (n := 4) rfl (by simp only; omega)
 have hlt := numAt_lt l
 (refine Does.enter Tryz.func136 Tryz.ntmps136 rfl rfl ?_)
 refine w ?_
 ((refine zq ?_; refine zd rfl rfl (r32_ok p ⟨l, 24, 0, 0⟩) ?_); intro _ _)
 rw [g24.1, g24.2.2]
 dsimp only
 refine w ?_
 refine VO.re 11 (.int .i64 (ChkD.parse l).tail) rfl (by rw [show leVal (List.take 4 (List.drop 24 l)) = numAt l 24 4 from rfl, i64_nat (hlt 24 4)]; rfl) ?_
 (apply VO.pure rfl rfl; apply PureAt.build sb_155 rfl; (simp [buildX, setL, Value.cells]; rfl); rfl)
 refine zq ?_
 refine OpV.stA (vs := (ChkD.parse l).cells) tab_ok rfl rfl rfl rfl (chk_one _) zh (by simp) ?_
 refine w ?_
 (refine VE.done1N rfl rfl ?_)
 exact Ent.re (L := Row hb 155 (ChkD.parse l).cells :: R)
def cellsH (l : List UInt8) (i : Nat) : List Value :=
  [.int .u64 (numAt l 8 8 : Nat), .int .u64 (numAt l 16 8 : Nat)] ++ ((List.range 4).map fun j => .int .i64 (if j < i then ((numAt l (24 + 4 * j) 4 : Nat) : Int) else 0)) ++ [.bool false, .int .u32 0]
theorem cellsH_length (l : List UInt8) (i : Nat) : (cellsH l i).length = 8 := by simp [cellsH]
theorem cellsH_set (l : List UInt8) (i : Nat) (h : i < 4) : (cellsH l i).set (2 + i) (.int .i64 (numAt l (24 + 4 * i) 4 : Nat)) = cellsH l (i + 1) := by
 match i, h with
 | 0, _ => rfl
 | 1, _ => rfl
 | 2, _ => rfl
 | 3, _ => rfl
theorem nat_one (v : Nat) : ((v : Int) == 1) = decide (v = 1) := by
 rw [Bool.eq_iff_iff]; simp only [beq_iff_eq, decide_eq_true_eq]; omega
theorem hdrR_ok {l : List UInt8} (hl : l.length = 128) (p hb : Nat) :
  Does1 W Tryz.prog 238 [.pointer (some ⟨p, 0, none⟩), .int .u64 (numAt l 8 8 : Nat), .int .u64 (numAt l 16 8 : Nat), .pointer (some ⟨hb, 0, none⟩)] (ReaderR p ⟨l, 24, 0, 0⟩ :: Row hb 300 zeroH.cells :: R) (.tuple #[]) (Row hb 300 (HdrD.parse l).cells :: R) := by
 have hlt := numAt_lt l
 (refine Does.enter Tryz.func238 Tryz.ntmps238 rfl rfl ?_)
 refine w ?_
 (refine zq ?_; refine OpV.buildSlice1 st_336 rfl rfl (by first | (simp; done) | simp [Value.oneCell']) (by decide) rfl ?_; intro nb)
 refine w ?_
 have hrow : ∀ (i : Nat) (h : i < 4), [Value.pointer (some ⟨hb, 2, none⟩), .pointer (some ⟨hb, 3, none⟩), .pointer (some ⟨hb, 4, none⟩), .pointer (some ⟨hb, 5, none⟩)][i]? = some (.pointer (some ⟨hb, 2 + i, none⟩)) := by
  intro i h
  match i, h with
  | 0, _ => rfl
  | 1, _ => rfl
  | 2, _ => rfl
  | 3, _ => rfl
 refine VC.loop (α := Nat) (fun i => i <= 4) (fun i => Row nb 262 [Value.pointer (some ⟨hb, 2, none⟩), .pointer (some ⟨hb, 3, none⟩), .pointer (some ⟨hb, 4, none⟩), .pointer (some ⟨hb, 5, none⟩)] :: ReaderR p ⟨l, 24 + 4 * i, 0, 0⟩ :: Row hb 300 (cellsH l i) :: R)
  (fun i => [(0, .pointer (some ⟨p, 0, none⟩)), (3, .pointer (some ⟨hb, 0, none⟩)), (17, .slice (some ⟨nb, 0, none⟩) 4 4), (18, .int .i64 4), (19, .int .i64 i)]) (fun i => 4 - i) rfl 0 (Nat.zero_le _) Ent.re ⟨rfl, rfl, rfl, rfl, rfl, trivial⟩ ?_
 intro i hi
 refine w ?_
 refine zk ?_ ?_ <;> intro hc
 ·
  have hlt4 : i < 4 := by have := of_decide_eq_true hc; omega
  have g24 := Rk.got_good (k := ⟨l, 24 + 4 * i, 0, 0⟩) (n := 4) rfl (by simp only; omega)
  have hrow := hrow i hlt4
  generalize hgl : [Value.pointer (some ⟨hb, 2, none⟩), .pointer (some ⟨hb, 3, none⟩), .pointer (some ⟨hb, 4, none⟩), .pointer (some ⟨hb, 5, none⟩)] = cs at *
  have hr1 : Rds W (Row nb 262 cs :: ReaderR p ⟨l, 24 + 4 * i, 0, 0⟩ :: Row hb 300 (cellsH l i) :: R) 1 (some ⟨nb, 0, none⟩) 4 cs := Rds.row (by rw [<- hgl]; simp [Value.oneCell']) (.head _) (by rw [<- hgl]; rfl)
  refine w ?_
  refine VO.pure rfl rfl (PureAt.ldR tab_ok rfl rfl hr1 hrow) rfl ?_
  refine w ?_
  ((refine zq ?_; refine zd rfl rfl (r32_ok p ⟨l, 24 + 4 * i, 0, 0⟩) ?_); intro _ _)
  rw [g24.1, g24.2.2]
  dsimp only
  refine w ?_
  refine VO.re 26 (.int .i64 (numAt l (24 + 4 * i) 4 : Nat)) rfl (by rw [show leVal (List.take 4 (List.drop (24 + 4 * i) l)) = numAt l (24 + 4 * i) 4 from rfl, i64_nat (hlt _ 4)]) ?_
  refine zq ?_
  refine OpV.st (cs := cellsH l i) tab_ok rfl rfl rfl rfl zh (by rw [cellsH_length]; omega) ?_
  rw [cellsH_set l i hlt4]
  refine w ?_
  refine VE.round (i + 1) (by omega) (by omega) ⟨rfl, rfl, rfl, rfl, asV rfl (by congr 1), trivial⟩ ?_
  rw [show 24 + 4 * (i + 1) = 24 + 4 * i + 4 by omega]
  exact Ent.re
 ·
  have hge : i = 4 := by have := of_decide_eq_false hc; omega
  subst hge
  have g40 := Rk.got_good (k := ⟨l, 40, 0, 0⟩) (n := 4) rfl (by simp only; omega)
  have g44 := Rk.got_good (k := ⟨l, 44, 0, 0⟩) (n := 4) rfl (by simp only; omega)
  refine VC.ent (Ent.re (L := ReaderR p ⟨l, 40, 0, 0⟩ :: Row hb 300 (HdrD.mk (numAt l 8 8) (numAt l 16 8) (numAt l 24 4) (numAt l 28 4) (numAt l 32 4) (numAt l 36 4) false 0).cells :: R)) ?_
  refine w ?_
  ((refine zq ?_; refine zd rfl rfl (r32_ok p ⟨l, 40, 0, 0⟩) ?_); intro _ _)
  rw [g40.1, g40.2.2]
  dsimp only
  refine zv ?_
  refine VO.re 31 (.bool (HdrD.parse l).escaped) rfl (by rw [show leVal (List.take 4 (List.drop 40 l)) = numAt l 40 4 from rfl]; show Value.bool _ = Value.bool (decide (numAt l 40 4 = 1)); rw [nat_one]) ?_
  refine w ?_
  ((refine zq ?_; refine zd rfl rfl (r32_ok p ⟨l, 44, 0, 0⟩) ?_); intro _ _)
  rw [g44.1, g44.2.2]
  dsimp only
  refine w ?_
  (refine VE.done1N rfl rfl ?_)
  exact Ent.re (L := Row hb 300 (HdrD.parse l).cells :: R)
theorem dech_ok {ao : Option Addr} {cap : Nat} {l : List UInt8} (hr : Rds W R 1 ao l.length (bytes l)) (hcap : l.length <= cap) :
  Does1 W Tryz.prog 207 [.slice ao l.length cap] R (.tuple #[.agg (HdrD.dec l).2.cells.toArray, .int .u16 (HdrD.dec l).1]) R := by
 (refine Does.enter Tryz.func207 Tryz.ntmps207 rfl rfl ?_)
 refine w ?_
 refine zq ?_; refine OpV.allocS sb_300 rfl ?_; intro nz
 refine w ?_
 refine VO.pure rfl rfl (PureAt.makeFuncN rfl) rfl ?_
 refine VO.pure rfl rfl (PureAt.makeFuncN rfl) rfl ?_
 have hr1 : ∀ cs, Rds W (Row nz 300 cs :: R) 1 ao l.length (bytes l) := fun cs => hr.ent (Ent.drop Ent.refl)
 by_cases hl : looksM l 1 = 0
 ·
  have h128 := looks_len hl
  have e := show HdrD.dec l = if (HdrD.parse l).good /\ (HdrD.parse l).enc.2 = l then (0, HdrD.parse l) else (80, zeroH) by unfold HdrD.dec; rw [if_neg (by rw [hl]; simp)]
  (refine zq ?_; refine zy rfl rfl (read_good (hr1 zeroH.cells) (hr1 (HdrD.parse l).cells) hcap 1 hl 238 239 #[.pointer (some ⟨nz, 0, none⟩)] #[.pointer (some ⟨nz, 0, none⟩)] (fun _ _ => by simp) (fun _ _ => by simp) (HdrD.parse l).enc.2 (HdrD.parse l).enc.1 (fun p => hdrR_ok h128 p nz) (hdr2_ok (HdrD.parse l) (hdr_fit l) nz)) ?_)
  intro _ _
  by_cases hg : (HdrD.parse l).good /\ (HdrD.parse l).enc.2 = l
  ·
   rw [if_pos hg] at e
   rw [if_pos ⟨Decidable.of_not_not (fun h => enc_bad.1 h hg.1), hg.2⟩, e]
   refine w ?_
   refine zq ?_
   refine OpV.stA (vs := (HdrD.parse l).cells) tab_ok rfl rfl rfl rfl (hdr_one _) zh (by simp) ?_
   refine w ?_
   exact VE.results2 (.inl rfl) () rfl (ResIs.agg (vs := (HdrD.parse l).cells) tab_ok rfl rfl zm rfl rfl) (.tmp rfl) trivial rfl (Ent.re (L := R))
  ·
   rw [if_neg hg] at e
   rw [if_neg (fun h => hg ⟨Decidable.of_not_not (fun h2 => enc_bad.2 h2 h.1), h.2⟩), e]
   refine w ?_
   (apply VO.pure rfl rfl; apply PureAt.build sb_300 (pv := []) rfl; rfl; rfl)
   refine w ?_
   refine zq ?_
   refine OpV.stA (vs := zeroH.cells) tab_ok rfl rfl rfl rfl (hdr_one _) zh (by simp) ?_
   refine w ?_
   exact VE.results2 (.inl rfl) () rfl (ResIs.agg (vs := zeroH.cells) tab_ok rfl rfl zm rfl rfl) (.tmp rfl) trivial rfl (Ent.re (L := R))
 ·
  rw [hdr_decB hl]
  (refine zq ?_; refine zy rfl rfl (read_bad (hr1 zeroH.cells) hcap 1 hl _ _) ?_)
  intro _ _
  refine w ?_
  (refine VC.condTe rfl rfl (by simpa using hl) ?_)
  refine w ?_
  (apply VO.pure rfl rfl; apply PureAt.build sb_300 (pv := []) rfl; rfl; rfl)
  refine w ?_
  refine zq ?_
  refine OpV.stA (vs := zeroH.cells) tab_ok rfl rfl rfl rfl (hdr_one _) zh (by simp) ?_
  refine w ?_
  exact VE.results2 (.inl rfl) () rfl (ResIs.agg (vs := zeroH.cells) tab_ok rfl rfl zm rfl rfl) (.tmp rfl) trivial rfl (Ent.re (L := R))
theorem decc_ok {ao : Option Addr} {cap : Nat} {l : List UInt8} (hr : Rds W R 1 ao l.length (bytes l)) (hcap : l.length <= cap) :
  Does1 W Tryz.prog 205 [.slice ao l.length cap] R (.tuple #[.agg (CmtD.dec l).2.cells.toArray, .int .u16 (CmtD.dec l).1]) R := by
 (refine Does.enter Tryz.func205 Tryz.ntmps205 rfl rfl ?_)
 refine w ?_
 refine zq ?_; refine OpV.allocS sb_307 rfl ?_; intro nz
 refine w ?_
 refine VO.pure rfl rfl (PureAt.makeFuncN rfl) rfl ?_
 refine VO.pure rfl rfl (PureAt.makeFuncN rfl) rfl ?_
 have hr1 : ∀ cs, Rds W (Row nz 307 cs :: R) 1 ao l.length (bytes l) := fun cs => hr.ent (Ent.drop Ent.refl)
 by_cases hl : looksM l 2 = 0
 ·
  have h128 := looks_len hl
  have e := cmt_dec2 hl
  (refine zq ?_; refine zy rfl rfl (read_good (hr1 zeroC.cells) (hr1 (CmtD.parse l).cells) hcap 2 hl 235 236 #[.pointer (some ⟨nz, 0, none⟩)] #[.pointer (some ⟨nz, 0, none⟩)] (fun _ _ => by simp) (fun _ _ => by simp) (CmtD.parse l).enc.2 (CmtD.parse l).enc.1 (fun p => cmtR_ok h128 p nz) (cmt2_ok (CmtD.parse l) (cmt_fit l) nz)) ?_)
  intro _ _
  by_cases hg : (CmtD.parse l).good /\ (CmtD.parse l).enc.2 = l
  ·
   rw [if_pos hg] at e
   rw [if_pos ⟨Decidable.of_not_not (fun h => encc_bad.1 h hg.1), hg.2⟩, e]
   refine w ?_
   refine zq ?_
   refine OpV.stA (vs := (CmtD.parse l).cells) tab_ok rfl rfl rfl rfl (cmt_one _) zh (by simp) ?_
   refine w ?_
   exact VE.results2 (.inl rfl) () rfl (ResIs.agg (vs := (CmtD.parse l).cells) tab_ok rfl rfl zm rfl rfl) (.tmp rfl) trivial rfl (Ent.re (L := R))
  ·
   rw [if_neg hg] at e
   rw [if_neg (fun h => hg ⟨Decidable.of_not_not (fun h2 => encc_bad.2 h2 h.1), h.2⟩), e]
   refine w ?_
   (apply VO.pure rfl rfl; apply PureAt.build sb_307 (pv := []) rfl; rfl; rfl)
   refine w ?_
   refine zq ?_
   refine OpV.stA (vs := zeroC.cells) tab_ok rfl rfl rfl rfl (cmt_one _) zh (by simp) ?_
   refine w ?_
   exact VE.results2 (.inl rfl) () rfl (ResIs.agg (vs := zeroC.cells) tab_ok rfl rfl zm rfl rfl) (.tmp rfl) trivial rfl (Ent.re (L := R))
 ·
  rw [cmt_decB hl]
  (refine zq ?_; refine zy rfl rfl (read_bad (hr1 zeroC.cells) hcap 2 hl _ _) ?_)
  intro _ _
  refine w ?_
  (refine VC.condTe rfl rfl (by simpa using hl) ?_)
  refine w ?_
  (apply VO.pure rfl rfl; apply PureAt.build sb_307 (pv := []) rfl; rfl; rfl)
  refine w ?_
  refine zq ?_
  refine OpV.stA (vs := zeroC.cells) tab_ok rfl rfl rfl rfl (cmt_one _) zh (by simp) ?_
  refine w ?_
  exact VE.results2 (.inl rfl) () rfl (ResIs.agg (vs := zeroC.cells) tab_ok rfl rfl zm rfl rfl) (.tmp rfl) trivial rfl (Ent.re (L := R))
theorem decs_ok {ao : Option Addr} {cap : Nat} {l : List UInt8} (hr : Rds W R 1 ao l.length (bytes l)) (hcap : l.length <= cap) :
  Does1 W Tryz.prog 85 [.slice ao l.length cap] R (.tuple #[.agg (ChkD.dec l).2.cells.toArray, .int .u16 (ChkD.dec l).1]) R := by
 (refine Does.enter Tryz.func85 Tryz.ntmps85 rfl rfl ?_)
 refine w ?_
 refine zq ?_; refine OpV.allocS sb_155 rfl ?_; intro nz
 refine w ?_
 refine VO.pure rfl rfl (PureAt.makeFuncN rfl) rfl ?_
 refine VO.pure rfl rfl (PureAt.makeFuncN rfl) rfl ?_
 have hr1 : ∀ cs, Rds W (Row nz 155 cs :: R) 1 ao l.length (bytes l) := fun cs => hr.ent (Ent.drop Ent.refl)
 by_cases hl : looksM l 3 = 0
 ·
  have h128 := looks_len hl
  have e := chk_dec2 hl
  (refine zq ?_; refine zy rfl rfl (read_good (hr1 zeroK.cells) (hr1 (ChkD.parse l).cells) hcap 3 hl 136 137 #[.pointer (some ⟨nz, 0, none⟩)] #[.pointer (some ⟨nz, 0, none⟩)] (fun _ _ => by simp) (fun _ _ => by simp) (ChkD.parse l).enc.2 (ChkD.parse l).enc.1 (fun p => chkR_ok h128 p nz) (chk2_ok (ChkD.parse l) (chk_fit l) nz)) ?_)
  intro _ _
  by_cases hg : (ChkD.parse l).good /\ (ChkD.parse l).enc.2 = l
  ·
   rw [if_pos hg] at e
   rw [if_pos ⟨Decidable.of_not_not (fun h => encs_bad.1 h hg.1), hg.2⟩, e]
   refine w ?_
   refine zq ?_
   refine OpV.stA (vs := (ChkD.parse l).cells) tab_ok rfl rfl rfl rfl (chk_one _) zh (by simp) ?_
   refine w ?_
   exact VE.results2 (.inl rfl) () rfl (ResIs.agg (vs := (ChkD.parse l).cells) tab_ok rfl rfl zm rfl rfl) (.tmp rfl) trivial rfl (Ent.re (L := R))
  ·
   rw [if_neg hg] at e
   rw [if_neg (fun h => hg ⟨Decidable.of_not_not (fun h2 => encs_bad.2 h2 h.1), h.2⟩), e]
   refine w ?_
   (apply VO.pure rfl rfl; apply PureAt.build sb_155 (pv := []) rfl; rfl; rfl)
   refine w ?_
   refine zq ?_
   refine OpV.stA (vs := zeroK.cells) tab_ok rfl rfl rfl rfl (chk_one _) zh (by simp) ?_
   refine w ?_
   exact VE.results2 (.inl rfl) () rfl (ResIs.agg (vs := zeroK.cells) tab_ok rfl rfl zm rfl rfl) (.tmp rfl) trivial rfl (Ent.re (L := R))
 ·
  rw [chk_decB hl]
  (refine zq ?_; refine zy rfl rfl (read_bad (hr1 zeroK.cells) hcap 3 hl _ _) ?_)
  intro _ _
  refine w ?_
  (refine VC.condTe rfl rfl (by simpa using hl) ?_)
  refine w ?_
  (apply VO.pure rfl rfl; apply PureAt.build sb_155 (pv := []) rfl; rfl; rfl)
  refine w ?_
  refine zq ?_
  refine OpV.stA (vs := zeroK.cells) tab_ok rfl rfl rfl rfl (chk_one _) zh (by simp) ?_
  refine w ?_
  exact VE.results2 (.inl rfl) () rfl (ResIs.agg (vs := zeroK.cells) tab_ok rfl rfl zm rfl rfl) (.tmp rfl) trivial rfl (Ent.re (L := R))
def nought4 : List UInt8 := [0, 0, 0, 0]
def escM (b : List UInt8) : List UInt8 := if b.take 4 = magicL then nought4 ++ b.drop 4 else b
def isEsc (b : List UInt8) : Bool := decide (b.take 4 = magicL)
def unD (b : List UInt8) (e : Bool) : List UInt8 × Int :=
  if b.length ≠ 128 then ([], 4) else if e = false then (if b.take 4 = magicL then ([], 80) else (b, 0)) else (if b.take 4 = nought4 then (magicL ++ b.drop 4, 0) else ([], 80))
theorem unesc_ok {ao : Option Addr} {cap : Nat} {l : List UInt8} (hr : Rds W R 1 ao l.length (bytes l)) (hcap : l.length <= cap) (b : Bool) :
  Does W Tryz.prog 209 [.slice ao l.length cap, .bool b] R (β := Option Addr × Nat) (fun _ => True) (fun x => .tuple #[.slice x.1 (unD l b).1.length x.2, .int .u16 (unD l b).2]) (fun x => OwnB x (unD l b).1 :: R) := by
 (refine Does.enter Tryz.func209 Tryz.ntmps209 rfl rfl ?_)
 refine w ?_
 refine zk ?_ ?_ <;> intro hc
 ·
  have hb : l.length ≠ 128 := by have := hc; simp at this; omega
  have e : unD l b = ([], 4) := if_pos hb
  rw [e]
  refine w ?_
  refine VE.done (none, 0) rfl trivial rfl ?_; exact fun w hw => hw.ownNil _ _
 have h128 : l.length = 128 := by have := hc; simp at this; omega
 have e0 : unD l b = if b = false then (if l.take 4 = magicL then ([], 80) else (l, 0)) else (if l.take 4 = nought4 then (magicL ++ l.drop 4, 0) else ([], 80)) := if_neg (fun h => h h128)
 rw [e0]
 cases b
 ·
  rw [if_pos rfl]
  refine w ?_
  refine VO.pure rfl rfl (PureAt.toStr (l := l.take 4) tab_ok rfl rfl rfl rfl (rds_head hr 4 (by omega)) rfl) rfl ?_
  refine VO.pure rfl rfl (PureAt.strEq (b := magicL) tab_ok rfl rfl rfl rfl) rfl ?_
  refine w ?_
  refine zk ?_ ?_ <;> intro hc
  ·
   have hm : l.take 4 = magicL := by simpa using hc
   rw [if_pos hm]
   refine w ?_
   (refine VC.condTe rfl rfl (decide_eq_true hm) ?_)
   refine w ?_
   refine VE.done (none, 0) rfl trivial rfl ?_; exact fun w hw => hw.ownNil _ _
  ·
   have hm : ¬ l.take 4 = magicL := by simpa using hc
   rw [if_neg hm]
   refine w ?_
   (refine zq ?_; refine zd rfl rfl (clone_ok hr (by omega)) ?_)
   rintro ⟨a1, c1⟩ -
   refine w ?_
   exact VE.done (a1, c1) rfl trivial rfl Ent.re
 ·
  rw [if_neg (by decide)]
  refine w ?_
  refine VO.pure rfl rfl (PureAt.toStr (l := l.take 4) tab_ok rfl rfl rfl rfl (rds_head hr 4 (by omega)) rfl) rfl ?_
  refine VO.pure rfl rfl (PureAt.strEq (b := nought4) tab_ok rfl rfl rfl rfl) rfl ?_
  refine w ?_
  refine zk ?_ ?_ <;> intro hc
  ·
   have hm : ¬ l.take 4 = nought4 := by simpa using hc
   rw [if_neg hm]
   refine w ?_
   refine VE.done (none, 0) rfl trivial rfl ?_; exact fun w hw => hw.ownNil _ _
  ·
   have hm : l.take 4 = nought4 := by simpa using hc
   rw [if_pos hm]
   refine w ?_
   (refine zq ?_; refine zd rfl rfl (clone_ok hr (by omega)) ?_)
   rintro ⟨a1, c1⟩ -
   refine w ?_
   refine zq ?_
   refine OpV.copyStr (l := magicL) st_22 rfl rfl zh (by simp [magicL]; omega) rfl ?_
   have hx : (magicL.map fun (c : UInt8) => Value.int .u8 (c.toNat : Int)) ++ (bytes l).drop magicL.length = bytes (magicL ++ l.drop 4) := by
    rw [bytes_append]; exact congrArg (bytes magicL ++ ·) (by simp [bytes, magicL])
   rw [hx]
   refine w ?_
   have : (magicL ++ l.drop 4).length = l.length := by simp [magicL]; omega
   refine VE.done (a1, c1) rfl trivial ?_ ?_
   · rw [this]
   ·
    rw [show OwnB (a1, c1) (magicL ++ l.drop 4) = Own 5 1 (.slice a1 l.length c1) l.length (bytes (magicL ++ l.drop 4)) by unfold OwnB; rw [this]]
    exact Ent.re
theorem crcF_append (n : BitVec 32) (a b : List UInt8) : crcF n (a ++ b) = crcF (crcF n a) b := by simp [crcF]
theorem crcM_append (n : BitVec 32) (a b : List UInt8) : crcM n (a ++ b) = crcM (crcM n a) b := by
 unfold crcM; rw [crcF_append]; simp
theorem crcM_nil (n : BitVec 32) : crcM n [] = n := by simp [crcM, crcF]
theorem hdr_decO {b : List UInt8} (h : (HdrD.dec b).1 = 0) : looksM b 1 = 0 /\ (HdrD.dec b).2.good /\ (HdrD.dec b).2.enc = (0, b) /\ (HdrD.dec b).2 = HdrD.parse b := by
 unfold HdrD.dec at h ⊢
 split at h
 · rename_i h1; exact absurd h h1
 ·
  rename_i h1
  split at h
  ·
   rename_i h2
   rw [if_neg h1, if_pos h2]
   exact ⟨Decidable.of_not_not h1, h2.1, by rw [hdr_ok h2.1]; have := h2.2; rw [hdr_ok h2.1] at this; exact congrArg (Prod.mk 0) this, rfl⟩
  · cases h
theorem cmt_decO {b : List UInt8} (h : (CmtD.dec b).1 = 0) : looksM b 2 = 0 /\ (CmtD.dec b).2.good /\ (CmtD.dec b).2.enc = (0, b) := by
 unfold CmtD.dec at h ⊢
 split at h
 · rename_i h1; exact absurd h h1
 ·
  rename_i h1
  split at h
  ·
   rename_i h2
   rw [if_neg h1, if_pos h2]
   exact ⟨Decidable.of_not_not h1, h2.1, by rw [cmt_ok h2.1]; have := h2.2; rw [cmt_ok h2.1] at this; exact congrArg (Prod.mk 0) this⟩
  · cases h
theorem nought_magic : magicL ≠ nought4 := by decide
theorem escN_length {b : List UInt8} (h : b.length = 128) : (escM b).length = 128 := by
 unfold escM; split
 · simp [nought4]; omega
 · exact h
theorem escN_head {l : List UInt8} : (escM l).take 4 ≠ magicL := by
 unfold escM; split
 · rw [List.take_left' (by rfl)]; exact fun h => nought_magic h.symm
 · assumption
theorem unN_back {l : List UInt8} (h : l.length = 128) : unD (escM l) (isEsc l) = (l, 0) := by
 have hl := escN_length h
 have hh := escN_head (l := l)
 unfold unD isEsc
 rw [if_neg (by omega)]
 by_cases hm : l.take 4 = magicL
 ·
  rw [decide_eq_true hm, if_neg (by simp)]
  have e : escM l = nought4 ++ l.drop 4 := if_pos hm
  rw [e, List.take_left' (by rfl), if_pos rfl, List.drop_left' (by rfl), <- hm, List.take_append_drop]
 · rw [decide_eq_false hm, if_pos rfl, if_neg hh, show escM l = l from if_neg hm]
theorem unN_esc {b : List UInt8} {e : Bool} (h : (unD b e).2 = 0) : (unD b e).1.length = 128 /\ escM (unD b e).1 = b /\ isEsc (unD b e).1 = e := by
 unfold unD at h ⊢
 split at h
 · cases h
 ·
  rename_i h1
  have h128 : b.length = 128 := Decidable.of_not_not h1
  rw [if_neg h1]
  split at h
  ·
   rename_i h2
   rw [if_pos h2]
   split at h
   · cases h
   ·
    rename_i h3
    rw [if_neg h3]
    exact ⟨h128, if_neg h3, by rw [h2]; exact decide_eq_false h3⟩
  ·
   rename_i h2
   rw [if_neg h2]
   split at h
   ·
    rename_i h3
    rw [if_pos h3]
    have ht : (magicL ++ b.drop 4).take 4 = magicL := List.take_left' (by rfl)
    have hd : (magicL ++ b.drop 4).drop 4 = b.drop 4 := List.drop_left' (by rfl)
    refine ⟨by simp [magicL]; omega, ?_, ?_⟩
    ·
     show escM (magicL ++ b.drop 4) = b
     unfold escM
     rw [if_pos ht, hd, <- h3, List.take_append_drop]
    ·
     show isEsc (magicL ++ b.drop 4) = e
     cases e with
     | true => exact decide_eq_true ht
     | false => exact absurd rfl h2
   · cases h
structure PatD where
  member : Int
  row : Int
  data : List UInt8
def PatD.far (p : PatD) : Prop := p.member < 0 \/ 15 < p.member \/ p.row < 0 \/ 4095 < p.row
instance (p : PatD) : Decidable p.far := by unfold PatD.far; exact inferInstance
def hdrP (e s n i : Nat) (p : PatD) : HdrD := ⟨e, s, i, n, p.member, p.row, isEsc p.data, (crcS (escM p.data)).toNat⟩
def headP (e s n i : Nat) (p : PatD) : List UInt8 := (hdrP e s n i p).enc.2
def pairsP (e s n : Nat) : List PatD -> Nat -> List (List UInt8)
  | [], _ => []
  | p :: r, i => headP e s n i p :: escM p.data :: pairsP e s n r (i + 1)
def headsP (e s n : Nat) : List PatD -> Nat -> List UInt8
  | [], _ => []
  | p :: r, i => headP e s n i p ++ headsP e s n r (i + 1)
def cmtP (e s : Nat) (l : List PatD) : CmtD := ⟨e, s, l.length, (crcS (headsP e s l.length l 0)).toNat⟩
theorem pairsP_length (e s n : Nat) : ∀ (l : List PatD) (i : Nat), (pairsP e s n l i).length = 2 * l.length
 | [], _ => rfl
 | _ :: r, i => by simp only [pairsP, List.length_cons, pairsP_length e s n r]; omega
theorem pairsP_get (e s n : Nat) : ∀ (l : List PatD) (i j : Nat) (h : j < l.length), (pairsP e s n l i)[2 * j]? = some (headP e s n (i + j) l[j]) /\ (pairsP e s n l i)[2 * j + 1]? = some (escM l[j].data)
  | p :: r, i, 0, _ => ⟨rfl, rfl⟩
  | p :: r, i, j + 1, h => by
    have ih := pairsP_get e s n r (i + 1) j (by simpa using h)
    rw [show 2 * (j + 1) = 2 * j + 2 by omega, show 2 * j + 2 + 1 = (2 * j + 1) + 2 by omega]
    simp only [pairsP, List.getElem?_cons_succ, List.getElem_cons_succ]
    rw [show i + (j + 1) = i + 1 + j by omega]
    exact ih
theorem headsP_append (e s n : Nat) : ∀ (l m : List PatD) (i : Nat), headsP e s n (l ++ m) i = headsP e s n l i ++ headsP e s n m (i + l.length)
 | [], m, i => by simp [headsP]
 | p :: r, m, i => by simp only [List.cons_append, headsP, headsP_append e s n r, List.append_assoc, List.length_cons]; rw [show i + 1 + r.length = i + (r.length + 1) by omega]
structure Fine (e s : Nat) (l : List PatD) : Prop where
  cnt : cntOk e s
  n1 : 1 <= l.length
  n2 : l.length <= 1023
  pat : ∀ p ∈ l, (0 <= p.member /\ p.member <= 15) /\ (0 <= p.row /\ p.row <= 4095) /\ p.data.length = 128
def rowsP (e s : Nat) (l : List PatD) : List (List UInt8) := pairsP e s l.length l 0 ++ [(cmtP e s l).enc.2]
theorem rowsP_length (e s : Nat) (l : List PatD) : (rowsP e s l).length = 2 * l.length + 1 := by simp [rowsP, pairsP_length]
theorem hdrP_good {e s : Nat} {l : List PatD} (h : Fine e s l) {i : Nat} (hi : i < l.length) : (hdrP e s l.length i l[i]).good := by
 have hp := h.pat l[i] (List.getElem_mem hi)
 have := h.n2
 exact ⟨h.cnt, ⟨by simp only [hdrP]; omega, by simp only [hdrP]; omega⟩, ⟨by simp only [hdrP]; omega, by simp only [hdrP]; omega⟩, hp.1, hp.2.1⟩
theorem hdrP_sum (e s n i : Nat) (p : PatD) : (hdrP e s n i p).sum < 4294967296 := (crcS (escM p.data)).isLt
theorem cmtP_good {e s : Nat} {l : List PatD} (h : Fine e s l) : (cmtP e s l).good := ⟨h.cnt, by have := h.n1; simp only [cmtP]; omega, by have := h.n2; simp only [cmtP]; omega⟩
theorem cmtP_sum (e s : Nat) (l : List PatD) : (cmtP e s l).sum < 4294967296 := (crcS _).isLt
theorem headP_dec {e s : Nat} {l : List PatD} (h : Fine e s l) {i : Nat} (hi : i < l.length) : HdrD.dec (headP e s l.length i l[i]) = (0, hdrP e s l.length i l[i]) := hdr_back _ (hdrP_good h hi) (hdrP_sum _ _ _ _ _)
theorem headP_length {e s : Nat} {l : List PatD} (h : Fine e s l) {i : Nat} (hi : i < l.length) : (headP e s l.length i l[i]).length = 128 := by
 unfold headP; rw [hdr_ok (hdrP_good h hi)]; exact sectF_length _ _ _ _ (hdr_sum _)
theorem cmtP_dec {e s : Nat} {l : List PatD} (h : Fine e s l) : CmtD.dec (cmtP e s l).enc.2 = (0, cmtP e s l) := cmt_back _ (cmtP_good h) (cmtP_sum _ _ _)
theorem cmtP_length {e s : Nat} {l : List PatD} (h : Fine e s l) : (cmtP e s l).enc.2.length = 128 := by
 rw [cmt_ok (cmtP_good h)]; exact sectF_length _ _ _ _ (cmt_sum _)
theorem rowsP_even {e s : Nat} {l : List PatD} {i : Nat} (hi : i < l.length) : (rowsP e s l)[2 * i]? = some (headP e s l.length i l[i]) := by
 unfold rowsP
 rw [List.getElem?_append_left (by rw [pairsP_length]; omega), (pairsP_get e s l.length l 0 i hi).1, Nat.zero_add]
theorem rowsP_odd {e s : Nat} {l : List PatD} {i : Nat} (hi : i < l.length) : (rowsP e s l)[2 * i + 1]? = some (escM l[i].data) := by
 unfold rowsP
 rw [List.getElem?_append_left (by rw [pairsP_length]; omega), (pairsP_get e s l.length l 0 i hi).2]
theorem rowsP_last (e s : Nat) (l : List PatD) : (rowsP e s l)[2 * l.length]? = some (cmtP e s l).enc.2 := by
 unfold rowsP
 rw [List.getElem?_append_right (by rw [pairsP_length]; exact Nat.le_refl _), pairsP_length]; simp
theorem rowsP_128 {e s : Nat} {l : List PatD} (h : Fine e s l) : ∀ r ∈ rowsP e s l, r.length = 128 := by
 intro r hr
 obtain ⟨j, hj⟩ := List.mem_iff_getElem?.1 hr
 have hlt := (List.getElem?_eq_some_iff.1 hj).1
 rw [rowsP_length] at hlt
 rcases Nat.lt_or_ge j (2 * l.length) with h1 | h1
 ·
  rcases Nat.mod_two_eq_zero_or_one j with h2 | h2
  ·
   rw [show j = 2 * (j / 2) by omega, rowsP_even (by omega)] at hj
   injection hj with hj; rw [<- hj]; exact headP_length h _
  ·
   rw [show j = 2 * (j / 2) + 1 by omega, rowsP_odd (by omega)] at hj
   injection hj with hj; rw [<- hj]; exact escN_length (h.pat _ (List.getElem_mem _)).2.2
 ·
  rw [show j = 2 * l.length by omega, rowsP_last] at hj
  injection hj with hj; rw [<- hj]; exact cmtP_length h
abbrev SecF := Nat -> List UInt8
def stepOk (sec : SecF) (e s : Nat) (n : Int) (i : Nat) : Prop :=
  (HdrD.dec (sec (2 * i))).1 = 0 /\ (HdrD.dec (sec (2 * i))).2.epoch = e /\ (HdrD.dec (sec (2 * i))).2.seq = s /\ (HdrD.dec (sec (2 * i))).2.index = i /\ (HdrD.dec (sec (2 * i))).2.count = n /\
  (unD (sec (2 * i + 1)) (HdrD.dec (sec (2 * i))).2.escaped).2 = 0 /\ (crcS (sec (2 * i + 1))).toNat = (HdrD.dec (sec (2 * i))).2.sum
instance (sec : SecF) (e s : Nat) (n : Int) (i : Nat) : Decidable (stepOk sec e s n i) := by unfold stepOk; exact inferInstance
def patAt (sec : SecF) (i : Nat) : PatD := ⟨(HdrD.dec (sec (2 * i))).2.member, (HdrD.dec (sec (2 * i))).2.row, (unD (sec (2 * i + 1)) (HdrD.dec (sec (2 * i))).2.escaped).1⟩
def headsF (sec : SecF) : Nat -> List UInt8
  | 0 => []
  | i + 1 => headsF sec i ++ sec (2 * i)
def batN (sec : SecF) : Int := (HdrD.dec (sec 0)).2.count
def batOk (sec : SecF) (room e s : Nat) : Prop :=
  (HdrD.dec (sec 0)).1 = 0 /\ 2 * batN sec + 1 <= room /\ (∀ i, i < (batN sec).toNat -> stepOk sec e s (batN sec) i) /\
  (CmtD.dec (sec (2 * (batN sec).toNat))) = (0, ⟨e, s, batN sec, (crcS (headsF sec (batN sec).toNat)).toNat⟩)
instance instCmtN : DecidableEq CmtD := fun a b => if h : a.epoch = b.epoch /\ a.seq = b.seq /\ a.count = b.count /\ a.sum = b.sum then isTrue (by cases a; cases b; simp_all) else isFalse (fun q => h (by rw [q]; exact ⟨rfl, rfl, rfl, rfl⟩))
instance (sec : SecF) (room e s : Nat) : Decidable (batOk sec room e s) := by unfold batOk; exact inferInstance
def batM (sec : SecF) (room e s : Nat) : Option (List PatD) := if batOk sec room e s then some ((List.range (batN sec).toNat).map (patAt sec)) else none
theorem headsP_map (e s : Nat) (sec : SecF) (n : Nat) : ∀ (m : Nat), (∀ i, i < m -> sec (2 * i) = headP e s n i (patAt sec i)) -> headsP e s n ((List.range m).map (patAt sec)) 0 = headsF sec m
  | 0, _ => rfl
  | m + 1, h => by
    rw [List.range_succ, List.map_append, headsP_append, headsP_map e s sec n m (fun i hi => h i (by omega))]
    simp only [List.map_cons, List.map_nil, headsP, List.append_nil, List.length_map, List.length_range, Nat.zero_add, headsF]
    rw [h m (by omega)]
theorem bat_iff (sec : SecF) (room e s : Nat) (l : List PatD) : batM sec room e s = some l ↔ Fine e s l /\ 2 * l.length + 1 <= room /\ ∀ j, j < 2 * l.length + 1 -> (rowsP e s l)[j]? = some (sec j) := by
 constructor
 ·
  intro h
  unfold batM at h
  split at h
  ·
   rename_i hb
   injection h with h
   obtain ⟨h0, hroom, hst, hc⟩ := hb
   have g0 := (hdr_decO h0).2.1
   have hn1 : 1 <= batN sec /\ batN sec <= 1023 := g0.2.1
   obtain ⟨N, hN⟩ : ∃ N : Nat, batN sec = N := ⟨(batN sec).toNat, by omega⟩
   rw [hN] at hst hc hroom hn1
   rw [hN] at h
   rw [Int.toNat_natCast] at hst hc h
   have hl : l.length = N := by rw [<- h]; simp
   have hget : ∀ (i : Nat) (hi : i < l.length), l[i] = patAt sec i := by
    intro i hi; simp only [<- h, List.getElem_map, List.getElem_range]
   have hs : ∀ i, i < N -> sec (2 * i) = headP e s N i (patAt sec i) /\ sec (2 * i + 1) = escM (patAt sec i).data /\ (patAt sec i).data.length = 128 /\ (0 <= (patAt sec i).member /\ (patAt sec i).member <= 15) /\ (0 <= (patAt sec i).row /\ (patAt sec i).row <= 4095) /\ cntOk e s := by
    intro i hi
    obtain ⟨a1, a2, a3, a4, a5, a6, a7⟩ := hst i hi
    obtain ⟨_, b2, b3, b4⟩ := hdr_decO a1
    obtain ⟨c1, c2, c3⟩ := unN_esc a6
    have hh : (HdrD.dec (sec (2 * i))).2 = hdrP e s N i (patAt sec i) := by
     unfold hdrP patAt
     dsimp only
     rw [c2, c3, a7, <- a2, <- a3, <- a4, <- a5]
    refine ⟨?_, c2.symm, c1, b2.2.2.2.1, b2.2.2.2.2, by rw [<- a2, <- a3]; exact b2.1⟩
    unfold headP
    rw [<- hh, b3]
   have hfine : Fine e s l := by
    refine ⟨(hs 0 (by omega)).2.2.2.2.2, by omega, by omega, fun p hp => ?_⟩
    obtain ⟨i, hi, rfl⟩ := List.mem_iff_getElem.1 hp
    rw [hget i hi]
    have := hs i (by omega)
    exact ⟨this.2.2.2.1, this.2.2.2.2.1, this.2.2.1⟩
   refine ⟨hfine, by omega, fun j hj => ?_⟩
   rcases Nat.lt_or_ge j (2 * l.length) with h1 | h1
   ·
    rcases Nat.mod_two_eq_zero_or_one j with h2 | h2
    ·
     obtain ⟨i, rfl⟩ : ∃ i, j = 2 * i := ⟨j / 2, by omega⟩
     rw [rowsP_even (by omega), hget i (by omega), hl, <- (hs i (by omega)).1]
    ·
     obtain ⟨i, rfl⟩ : ∃ i, j = 2 * i + 1 := ⟨j / 2, by omega⟩
     rw [rowsP_odd (by omega), hget i (by omega), <- (hs i (by omega)).2.1]
   ·
    obtain rfl : j = 2 * l.length := by omega
    rw [rowsP_last]
    have hcm : cmtP e s l = ⟨e, s, N, (crcS (headsF sec N)).toNat⟩ := by
     unfold cmtP
     rw [hl, <- h, headsP_map e s sec N N (fun i hi => (hs i hi).1)]
    have hd := cmt_decO (b := sec (2 * N)) (by rw [hc])
    rw [hc] at hd
    rw [hcm, hd.2.2, hl]
  · cases h
 ·
  rintro ⟨hf, hroom, hrow⟩
  have hn1 := hf.n1
  have he : ∀ (i : Nat) (hi : i < l.length), sec (2 * i) = headP e s l.length i l[i] /\ sec (2 * i + 1) = escM l[i].data := by
   intro i hi
   have h1 := hrow (2 * i) (by omega)
   have h2 := hrow (2 * i + 1) (by omega)
   rw [rowsP_even hi] at h1
   rw [rowsP_odd hi] at h2
   injection h1 with h1; injection h2 with h2
   exact ⟨h1.symm, h2.symm⟩
  have hd : ∀ (i : Nat) (hi : i < l.length), HdrD.dec (sec (2 * i)) = (0, hdrP e s l.length i l[i]) := fun i hi => by rw [(he i hi).1]; exact headP_dec hf hi
  have hu : ∀ (i : Nat) (hi : i < l.length), unD (sec (2 * i + 1)) (hdrP e s l.length i l[i]).escaped = (l[i].data, 0) := fun i hi => by rw [(he i hi).2]; exact unN_back (hf.pat _ (List.getElem_mem hi)).2.2
  have h0 := hd 0 (by omega)
  rw [Nat.mul_zero] at h0
  have hN : batN sec = l.length := by unfold batN; rw [h0]; rfl
  have hp : ∀ (i : Nat) (hi : i < l.length), patAt sec i = l[i] := by
   intro i hi
   unfold patAt
   rw [hd i hi]; dsimp only
   rw [hu i hi]; rfl
  have hm : (List.range l.length).map (patAt sec) = l := by
   apply List.ext_getElem
   · simp
   · intro i h1 h2; simp only [List.getElem_map, List.getElem_range]; exact hp i h2
  unfold batM
  rw [if_pos]
  · rw [hN, Int.toNat_natCast, hm]
  ·
   refine ⟨by rw [h0], by rw [hN]; omega, ?_, ?_⟩
   ·
    intro i hi
    rw [hN, Int.toNat_natCast] at hi
    unfold stepOk
    rw [hN, hd i hi]
    dsimp only
    rw [hu i hi, (he i hi).2]
    exact ⟨rfl, rfl, rfl, rfl, rfl, rfl, rfl⟩
   ·
    have h1 := hrow (2 * l.length) (by omega)
    rw [rowsP_last] at h1
    injection h1 with h1
    rw [hN, Int.toNat_natCast, <- h1, cmtP_dec hf]
    congr 1
    unfold cmtP
    congr 3
    rw [<- headsP_map e s sec l.length l.length (fun i hi => by rw [hp i hi]; exact (he i hi).1), hm]
def rotF (sec : SecF) (size hd : Nat) : SecF := fun j => sec ((hd + j) % size)
def ofM (sec : SecF) (size e : Nat) : Nat -> Nat -> Nat -> Nat -> List (Nat × List PatD)
  | 0, _, _, _ => []
  | f + 1, nx, us, hd => if nx <= 4611686018427387904 then match batM (rotF sec size hd) (size - us) e nx with
    | none => []
    | some l => (nx, l) :: ofM sec size e f (nx + 1) (us + (2 * l.length + 1)) ((hd + (2 * l.length + 1)) % size)
    else []
def costT (ts : List (Nat × List PatD)) : Nat := (ts.map fun t => 2 * t.2.length + 1).sum
def mostC : Nat := 4611686018427387904
def numb (s : Nat) : List (List PatD) -> List (Nat × List PatD)
  | [] => []
  | l :: r => (s, l) :: numb (s + 1) r
def costL (ls : List (List PatD)) : Nat := (ls.map fun l => 2 * l.length + 1).sum
theorem costL_cons (l : List PatD) (r : List (List PatD)) : costL (l :: r) = (2 * l.length + 1) + costL r := by simp [costL]
theorem costL_append (a b : List (List PatD)) : costL (a ++ b) = costL a + costL b := by simp [costL]
theorem costT_cons (t : Nat × List PatD) (r : List (Nat × List PatD)) : costT (t :: r) = (2 * t.2.length + 1) + costT r := by simp [costT]
theorem costT_append (a b : List (Nat × List PatD)) : costT (a ++ b) = costT a + costT b := by simp [costT]
theorem costT_numb : ∀ (ls : List (List PatD)) (s : Nat), costT (numb s ls) = costL ls
 | [], _ => rfl
 | l :: r, s => by rw [numb, costT_cons, costL_cons, costT_numb r]
theorem numb_length : ∀ (ls : List (List PatD)) (s : Nat), (numb s ls).length = ls.length
 | [], _ => rfl
 | _ :: r, s => by simp [numb, numb_length r]
theorem rotF_mod (sec : SecF) (size hd : Nat) : rotF sec size (hd % size) = rotF sec size hd := by
 funext j; unfold rotF; rw [Nat.mod_add_mod]
section
variable {sec : SecF} {size e : Nat}
theorem bat_room {room s : Nat} {l : List PatD} (h : batM sec room e s = some l) : 2 * l.length + 1 <= room /\ 1 <= l.length := by
 have := (bat_iff sec room e s l).1 h
 exact ⟨this.2.1, this.1.n1⟩
theorem of_cost : ∀ (f nx us hd : Nat), us <= size -> us + costT (ofM sec size e f nx us hd) <= size
  | 0, _, us, _, h => by simpa [ofM, costT] using h
  | f + 1, nx, us, hd, h => by
    unfold ofM
    split
    · split
      · simpa [costT] using h
      · rename_i l hl
        have hr := bat_room hl
        have ih := of_cost f (nx + 1) (us + (2 * l.length + 1)) ((hd + (2 * l.length + 1)) % size) (by omega)
        rw [costT_cons]; dsimp only; omega
    · simpa [costT] using h
theorem of_each : ∀ (f nx us hd i : Nat) (t : Nat × List PatD), (ofM sec size e f nx us hd)[i]? = some t -> t.1 = nx + i /\ nx + i <= mostC /\
    batM (rotF sec size (hd + costT ((ofM sec size e f nx us hd).take i))) (size - (us + costT ((ofM sec size e f nx us hd).take i))) e (nx + i) = some t.2
  | 0, _, _, _, i, t, h => by simp [ofM] at h
  | f + 1, nx, us, hd, i, t, h => by
    unfold ofM at h ⊢
    split at h
    · rename_i hm
      rw [if_pos hm]
      split at h
      · simp at h
      · rename_i l hl
        cases i with
        | zero =>
          simp only [List.getElem?_cons_zero, Option.some.injEq] at h
          subst h
          exact ⟨rfl, hm, by simpa [costT] using hl⟩
        | succ i =>
          simp only [List.getElem?_cons_succ] at h
          obtain ⟨h1, h2, h3⟩ := of_each f _ _ _ i t h
          refine ⟨by omega, by omega, ?_⟩
          rw [List.take_succ_cons, costT_cons]
          rw [<- rotF_mod] at h3
          rw [Nat.mod_add_mod, rotF_mod] at h3
          rw [show hd + ((2 * (nx, l).2.length + 1) + costT ((ofM sec size e f (nx + 1) (us + (2 * l.length + 1)) ((hd + (2 * l.length + 1)) % size)).take i)) = hd + (2 * l.length + 1) + costT ((ofM sec size e f (nx + 1) (us + (2 * l.length + 1)) ((hd + (2 * l.length + 1)) % size)).take i) by simp only; omega,
            show us + ((2 * (nx, l).2.length + 1) + costT ((ofM sec size e f (nx + 1) (us + (2 * l.length + 1)) ((hd + (2 * l.length + 1)) % size)).take i)) = us + (2 * l.length + 1) + costT ((ofM sec size e f (nx + 1) (us + (2 * l.length + 1)) ((hd + (2 * l.length + 1)) % size)).take i) by simp only; omega,
            show nx + (i + 1) = nx + 1 + i by omega]
          exact h3
    · simp at h
theorem of_prefix : ∀ (ls : List (List PatD)) (f nx us hd : Nat), (∀ (k : Nat) (h : k < ls.length), nx + k <= mostC /\ batM (rotF sec size (hd + costL (ls.take k))) (size - (us + costL (ls.take k))) e (nx + k) = some ls[k]) -> ls.length <= f ->
    ofM sec size e f nx us hd = numb nx ls ++ ofM sec size e (f - ls.length) (nx + ls.length) (us + costL ls) (if ls = [] then hd else (hd + costL ls) % size)
  | [], f, nx, us, hd, _, _ => by simp [numb, costL]
  | l :: r, 0, nx, us, hd, _, h => by simp at h
  | l :: r, f + 1, nx, us, hd, h, hf => by
    obtain ⟨h1, h2⟩ := h 0 (by simp)
    simp only [List.take_zero, Nat.add_zero, List.getElem_cons_zero, show costL [] = 0 from rfl] at h1 h2
    have ih := of_prefix r f (nx + 1) (us + (2 * l.length + 1)) ((hd + (2 * l.length + 1)) % size) (fun k hk => by
      obtain ⟨h3, h4⟩ := h (k + 1) (by simpa using hk)
      rw [List.take_succ_cons, costL_cons, List.getElem_cons_succ] at h4
      refine ⟨by omega, ?_⟩
      rw [<- rotF_mod, Nat.mod_add_mod, rotF_mod, show hd + (2 * l.length + 1) + costL (r.take k) = hd + (2 * l.length + 1 + costL (r.take k)) by omega, show us + (2 * l.length + 1) + costL (r.take k) = us + (2 * l.length + 1 + costL (r.take k)) by omega, show nx + 1 + k = nx + (k + 1) by omega]
      exact h4) (by simpa using hf)
    rw [ofM, if_pos (show nx <= 4611686018427387904 from h1), h2]
    dsimp only
    rw [ih]
    simp only [numb, List.cons_append, List.length_cons, costL_cons, reduceCtorEq, if_false, List.cons.injEq, true_and]
    congr 2
    · omega
    · omega
    · omega
    · by_cases hr : r = []
      · subst hr; simp [costL]
      · rw [if_neg hr, Nat.mod_add_mod]; congr 1; omega
end
def flatR (e s : Nat) : List (List PatD) -> List (List UInt8)
  | [] => []
  | l :: r => rowsP e s l ++ flatR e (s + 1) r
theorem flatR_length (e : Nat) : ∀ (ls : List (List PatD)) (s : Nat), (flatR e s ls).length = costL ls
 | [], _ => rfl
 | l :: r, s => by rw [flatR, List.length_append, rowsP_length, flatR_length e r, costL_cons]
theorem flatR_append (e : Nat) : ∀ (a b : List (List PatD)) (s : Nat), flatR e s (a ++ b) = flatR e s a ++ flatR e (s + a.length) b
  | [], b, s => rfl
  | l :: r, b, s => by
    simp only [List.cons_append, flatR, flatR_append e r, List.append_assoc, List.length_cons]
    rw [show s + 1 + r.length = s + (r.length + 1) by omega]
theorem flatR_get (e : Nat) (ls : List (List PatD)) (s k j : Nat) (h : k < ls.length) (hj : j < 2 * ls[k].length + 1) : (flatR e s ls)[costL (ls.take k) + j]? = (rowsP e (s + k) ls[k])[j]? := by
 have e1 : ls = ls.take k ++ ls[k] :: ls.drop (k + 1) := by rw [<- List.drop_eq_getElem_cons h, List.take_append_drop]
 have e2 : flatR e s ls = flatR e s (ls.take k) ++ (rowsP e (s + k) ls[k] ++ flatR e (s + k + 1) (ls.drop (k + 1))) := by
  conv => lhs; rw [e1]
  rw [flatR_append, flatR, List.length_take, Nat.min_eq_left (by omega)]
 rw [e2, List.getElem?_append_right (by rw [flatR_length]; omega), flatR_length, show costL (ls.take k) + j - costL (ls.take k) = j by omega, List.getElem?_append_left (by rw [rowsP_length]; exact hj)]
theorem costL_take_le (ls : List (List PatD)) (k : Nat) (h : k < ls.length) : costL (ls.take k) + (2 * ls[k].length + 1) <= costL ls := by
 have e1 : ls = ls.take k ++ ls[k] :: ls.drop (k + 1) := by rw [<- List.drop_eq_getElem_cons h, List.take_append_drop]
 have : costL ls = costL (ls.take k) + ((2 * ls[k].length + 1) + costL (ls.drop (k + 1))) := by
  conv => lhs; rw [e1]
  rw [costL_append, costL_cons]
 omega
def FineL (e s : Nat) (ls : List (List PatD)) : Prop := ∀ (k : Nat) (h : k < ls.length), Fine e (s + k) ls[k]
theorem laid_found {sec : SecF} {size e s at_ : Nat} {ls : List (List PatD)} (hf : FineL e s ls) (hc : costL ls <= size) (hs : ∀ j, j < costL ls -> (flatR e s ls)[j]? = some (sec ((at_ + j) % size))) :
  ∀ (k : Nat) (h : k < ls.length), s + k <= mostC /\ batM (rotF sec size (at_ + costL (ls.take k))) (size - (0 + costL (ls.take k))) e (s + k) = some ls[k] := by
 intro k h
 have hk := hf k h
 have hle := costL_take_le ls k h
 refine ⟨hk.cnt.2.2, (bat_iff _ _ _ _ _).2 ⟨hk, by omega, fun j hj => ?_⟩⟩
 rw [<- flatR_get e ls s k j h hj, hs _ (by omega)]
 unfold rotF
 rw [Nat.add_assoc]
theorem of_laid {sec : SecF} {size e s at_ f : Nat} {ls : List (List PatD)} (hf : FineL e s ls) (hc : costL ls <= size) (hs : ∀ j, j < costL ls -> (flatR e s ls)[j]? = some (sec ((at_ + j) % size))) (hl : ls.length <= f) :
  ofM sec size e f s 0 at_ = numb s ls ++ ofM sec size e (f - ls.length) (s + ls.length) (costL ls) (if ls = [] then at_ else (at_ + costL ls) % size) := by
 have := of_prefix ls f s 0 at_ (laid_found hf hc hs) hl
 rwa [Nat.zero_add] at this
theorem costL_len : ∀ (ls : List (List PatD)), ls.length <= costL ls
 | [] => Nat.le_refl _
 | l :: r => by have := costL_len r; rw [costL_cons, List.length_cons]; omega
theorem of_none {sec : SecF} {size e f nx us hd : Nat} (h : batM (rotF sec size hd) (size - us) e nx = none) : ofM sec size e f nx us hd = [] := by
  cases f with
  | zero => rfl
  | succ f => unfold ofM; split
              · rw [h]
              · rfl
theorem bat_no {sec : SecF} {room e s : Nat} (h : (HdrD.dec (sec 0)).1 ≠ 0) : batM sec room e s = none := by
 unfold batM; rw [if_neg (fun q => h q.1)]
theorem bat_head {sec : SecF} {room e s : Nat} {l : List PatD} (h : batM sec room e s = some l) : (HdrD.dec (sec 0)).1 = 0 /\ (HdrD.dec (sec 0)).2.epoch = e /\ (HdrD.dec (sec 0)).2.seq = s := by
 obtain ⟨h1, h2, h3⟩ := (bat_iff _ _ _ _ _).1 h
 have h4 := h3 0 (by omega)
 have hn := h1.n1
 have h5 := rowsP_even (e := e) (s := s) (l := l) (i := 0) (by omega)
 rw [Nat.mul_zero] at h5
 rw [h5] at h4
 injection h4 with h4
 rw [<- h4, headP_dec h1 (by omega)]
 exact ⟨rfl, rfl, rfl⟩
theorem bat_other {sec : SecF} {room e s e' s' : Nat} {l : List PatD} {room' : Nat} (h : batM sec room e s = some l) (hne : e' ≠ e \/ s' ≠ s) : batM sec room' e' s' = none := by
  cases h2 : batM sec room' e' s' with
  | none => rfl
  | some l' =>
    have a := bat_head h
    have b := bat_head h2
    omega
theorem kind_nought {b : List UInt8} (h : b.take 4 ≠ magicL) (k : UInt8) (hk : k ≠ 0) : looksM b k ≠ 0 := by
 unfold looksM
 split
 · decide
 ·
  have : kindB b = 0 := by unfold kindB; rw [if_neg (fun q => h q.2.1)]
  rw [this, if_pos (fun q => hk q.symm)]; decide
theorem dec_nought {b : List UInt8} (h : b.take 4 ≠ magicL) : (HdrD.dec b).1 ≠ 0 /\ (CmtD.dec b).1 ≠ 0 := by
 constructor
 · intro q; exact kind_nought h 1 (by decide) (hdr_decO q).1
 · intro q; exact kind_nought h 2 (by decide) (cmt_decO q).1
theorem hurt_none {sec was : SecF} {room room' e s : Nat} {l : List PatD} {j : Nat} {z : List UInt8} (h : batM sec room e s = some l) (hj : j < 2 * l.length + 1) (hz : z.take 4 ≠ magicL) (hw : was j = z) (hk : ∀ i, i < 2 * l.length + 1 -> i ≠ j -> was i = sec i)
    (hu : (crcS (sec j)).toNat ≠ (crcS z).toNat) : batM was room' e s = none := by
  cases h2 : batM was room' e s with
  | none => rfl
  | some l' =>
    exfalso
    obtain ⟨f1, _, r1⟩ := (bat_iff _ _ _ _ _).1 h
    obtain ⟨f2, _, r2⟩ := (bat_iff _ _ _ _ _).1 h2
    have n1 := f1.n1
    have n2 := f2.n1
    have head : ∀ {x : Nat} {m : List PatD} {q : SecF} (f : Fine e s m) (r : ∀ j, j < 2 * m.length + 1 -> (rowsP e s m)[j]? = some (q j)) (hx : x < m.length), HdrD.dec (q (2 * x)) = (0, hdrP e s m.length x m[x]) := by
      intro x m q f r hx
      have := r (2 * x) (by omega)
      rw [rowsP_even hx] at this
      injection this with this
      rw [<- this, headP_dec f hx]
    by_cases h0 : j = 0
    · subst h0
      have := head f2 r2 (x := 0) (by omega)
      rw [Nat.mul_zero, hw] at this
      exact (dec_nought hz).1 (by rw [this])
    · have a1 := head f1 r1 (x := 0) (by omega)
      have a2 := head f2 r2 (x := 0) (by omega)
      rw [Nat.mul_zero] at a1 a2
      rw [hk 0 (by omega) (fun q => h0 q.symm), a1] at a2
      have hlen : l.length = l'.length := by
        injection a2 with _ a2
        have : ((l.length : Nat) : Int) = (l'.length : Nat) := congrArg HdrD.count a2
        omega
      rcases Nat.mod_two_eq_zero_or_one j with hp | hp
      · obtain ⟨x, rfl⟩ : ∃ x, j = 2 * x := ⟨j / 2, by omega⟩
        by_cases hx : x < l'.length
        · have := head f2 r2 hx
          rw [hw] at this
          exact (dec_nought hz).1 (by rw [this])
        · have hx2 : x = l'.length := by omega
          subst hx2
          have := r2 (2 * l'.length) (by omega)
          rw [rowsP_last] at this
          injection this with this
          rw [hw] at this
          exact (dec_nought hz).2 (by rw [<- this, cmtP_dec f2])
      · obtain ⟨x, rfl⟩ : ∃ x, j = 2 * x + 1 := ⟨j / 2, by omega⟩
        have hx : x < l.length := by omega
        have hx' : x < l'.length := by omega
        have b1 := head f1 r1 hx
        have b2 := head f2 r2 hx'
        rw [hk (2 * x) (by omega) (by omega), b1] at b2
        injection b2 with _ b2
        have hs : (crcS (escM l[x].data)).toNat = (crcS (escM l'[x].data)).toNat := congrArg HdrD.sum b2
        have c1 := r1 (2 * x + 1) (by omega)
        have c2 := r2 (2 * x + 1) (by omega)
        rw [rowsP_odd hx] at c1
        rw [rowsP_odd hx'] at c2
        injection c1 with c1; injection c2 with c2
        rw [hw] at c2
        rw [c1, c2] at hs
        exact hu hs
def secB (ring : List UInt8) : SecF := fun k => (ring.drop (128 * k)).take 128
structure FndD where
  txns : List (Nat × List PatD)
  next : Nat
  head : Nat
  used : Nat
def foundM (ring : List UInt8) (c : ChkD) : Int × FndD :=
  if c.enc.1 ≠ 0 \/ ring.length % 128 ≠ 0 \/ ring.length / 128 < 5 \/ 2048 < ring.length / 128 \/ ((ring.length / 128 : Nat) : Int) <= c.tail then (1, ⟨[], 0, 0, 0⟩) else
  let ts := ofM (secB ring) (ring.length / 128) c.epoch (ring.length / 128 + 1) c.seq 0 c.tail.toNat
  (0, ⟨ts, c.seq + ts.length, (c.tail.toNat + costT ts) % (ring.length / 128), costT ts⟩)
theorem mod_inj {a i j n : Nat} (hi : i < n) (hj : j < n) (h : (a + i) % n = (a + j) % n) : i = j := by
 have h1 := Nat.mod_add_div (a + i) n
 have h2 := Nat.mod_add_div (a + j) n
 rw [h] at h1
 generalize (a + i) / n = x at *
 generalize (a + j) / n = y at *
 rcases Nat.lt_trichotomy x y with hxy | hxy | hxy
 ·
  have : n * x + n <= n * y := by rw [<- Nat.mul_succ]; exact Nat.mul_le_mul_left _ hxy
  omega
 · subst hxy; omega
 ·
  have : n * y + n <= n * x := by rw [<- Nat.mul_succ]; exact Nat.mul_le_mul_left _ hxy
  omega
end Go.Proofs.YtjebagmjcdaegaaGreat
