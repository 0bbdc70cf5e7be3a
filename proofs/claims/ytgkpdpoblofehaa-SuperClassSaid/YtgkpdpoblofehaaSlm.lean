/- The engine: equality of flat structs, results that lie in cells, function values that hold several. Generic: no program is named. -/
import Derived.Test.YtgkpdpoblofehaaSlk
import Derived.DeepKeys
set_option maxRecDepth 8000
set_option linter.unusedVariables false
set_option linter.unusedSimpArgs false
set_option linter.unusedSectionVars false
namespace Go.Sl
open Go.RowKit

/-! ### Equality of flat structs -/

/-- What a cell of a flat struct is: an integer of this kind, or a bool. -/
def flatCell (k : Option IntKind) (v : Value) : Option Lit :=
  match k, v with
  | some q, .int q' n => if q' = q then some (.int q n) else none
  | none, .bool b => some (.bool b)
  | _, _ => none
def litOk : Lit → Bool
  | .int q n => (Lit.int q n).wf
  | _ => true
def flatCells : List (Option IntKind) → List Value → Option (List Lit)
  | [], [] => some []
  | k :: ks, v :: vs => match flatCell k v, flatCells ks vs with
    | some l, some ls => some (l :: ls)
    | _, _ => none
  | _, _ => none
def flatField (P : Program) (k : Option IntKind) (i : Nat) (f : Field) : Bool :=
  f.name != "_" && Nat.beq f.offset i && Nat.beq (P.cellsOf f.type) 1 && (match P.underlying f.type, k with
    | some (.int q), some q' => decide (q = q')
    | some .bool, none => true
    | _, _ => false)
def flatFields (P : Program) : List (Option IntKind) → Nat → List Field → Bool
  | [], _, [] => true
  | k :: ks, i, f :: fs => flatField P k i f && flatFields P ks (i + 1) fs
  | _, _, _ => false
def flatB (P : Program) (t : TypeId) (ks : List (Option IntKind)) : Bool :=
  (match P.underlying t with
  | some (.struct fs) => Nat.beq (P.cellsOf t) ks.length && flatFields P ks 0 fs.toList
  | _ => false) && P.keyTypeAt 2 t && !(P.eqGuardType P.depth t)

theorem flat_mapM {P : Program} {cs : List Value} : ∀ {ks : List (Option IntKind)} {vs : List Value} {i : Nat} {fs : List Field} {ls : List Lit}, flatFields P ks i fs = true → cs.drop i = vs → flatCells ks vs = some ls → (∀ l ∈ ls, litOk l = true) →
    ∃ as : List (List Lit), fs.mapM (fun f => P.keyLits 1 f.type ((cs.drop f.offset).take (P.cellsOf f.type))) = some as ∧ as.flatten = ls
  | [], [], _, [], ls, _, _, h, _ => by simp [flatCells] at h; subst h; exact ⟨[], by simp, rfl⟩
  | [], _ :: _, _, _, _, _, _, h, _ => by simp [flatCells] at h
  | [], [], _, _ :: _, _, h, _, _, _ => by simp [flatFields] at h
  | _ :: _, [], _, _, _, _, _, h, _ => by simp [flatCells] at h
  | _ :: _, _ :: _, _, [], _, h, _, _, _ => by simp [flatFields] at h
  | k :: ks, v :: vs, i, f :: fs, ls, hf, hd, hc, hw => by
    simp only [flatFields, flatField, Bool.and_eq_true, bne_iff_ne, ne_eq] at hf
    obtain ⟨⟨⟨⟨h1, h2⟩, h3⟩, h4⟩, hr⟩ := hf
    have h2 := Nat.eq_of_beq_eq_true h2
    have h3 := Nat.eq_of_beq_eq_true h3
    unfold flatCells at hc
    split at hc
    · rename_i l ls' e1 e2
      cases hc
      have hd' : cs.drop (i + 1) = vs := by rw [← List.drop_drop, hd]; rfl
      obtain ⟨as, ha, hfl⟩ := flat_mapM hr hd' e2 fun x hx => hw x (.tail _ hx)
      have e : P.keyLits 1 f.type ((cs.drop f.offset).take (P.cellsOf f.type)) = some [l] := by
        rw [h2, h3, hd]
        have hl := hw l (.head _)
        unfold flatCell at e1
        split at e1
        · split at e1
          · rename_i q q' n hq; cases e1; subst hq
            split at h4
            · rename_i q2 q3 hu hk; cases hk
              have : q2 = q' := of_decide_eq_true h4
              subst this
              unfold Program.keyLits
              rw [hu]
              simp only [List.take_succ_cons, List.take_zero, true_and]
              rw [if_pos (show (Lit.int q2 n).wf = true from hl)]
            · rename_i hk; cases hk
            · cases h4
          · cases e1
        · cases e1
          split at h4
          · rename_i hk; cases hk
          · rename_i hu _
            unfold Program.keyLits
            rw [hu]
            rfl
          · cases h4
        · cases e1
      refine ⟨[l] :: as, ?_, by simp [hfl]⟩
      rw [List.mapM_cons, e, ha]
      rfl
    · cases hc

theorem flat_lits {P : Program} {t : TypeId} {ks : List (Option IntKind)} {cs : List Value} {ls : List Lit} (h : flatB P t ks = true) (hc : flatCells ks cs = some ls) (hl : cs.length = ks.length) (hw : ∀ l ∈ ls, litOk l = true) : P.keyLits 2 t cs = some ls ∧ (Value.agg cs.toArray).formed P t = true := by
  simp only [flatB, Bool.and_eq_true] at h
  obtain ⟨⟨h, _⟩, _⟩ := h
  split at h
  · rename_i fs hu
    simp only [Bool.and_eq_true] at h
    obtain ⟨h1, h2⟩ := h
    have h1 := Nat.eq_of_beq_eq_true h1
    have hn : fs.all (·.name != "_") = true := by
      rw [Array.all_eq_true_iff_forall_mem]
      intro f hf
      have : ∀ (ks : List (Option IntKind)) (i : Nat) (l : List Field), flatFields P ks i l = true → ∀ f ∈ l, (f.name != "_") = true := by
        intro ks i l
        induction l generalizing ks i with
        | nil => intro _ f hf; cases hf
        | cons g r ih =>
          intro hh f hf
          cases ks with
          | nil => simp [flatFields] at hh
          | cons k ks =>
            simp only [flatFields, flatField, Bool.and_eq_true] at hh
            cases hf with
            | head => exact hh.1.1.1.1
            | tail _ hf => exact ih _ _ hh.2 f hf
      exact this _ _ _ h2 f (Array.mem_toList_iff.2 hf)
    obtain ⟨as, ha, hfl⟩ := flat_mapM (cs := cs) h2 rfl hc hw
    refine ⟨?_, ?_⟩
    · unfold Program.keyLits
      rw [hu]
      show (if cs.length = P.cellsOf t ∧ _ then _ else _) = _
      rw [if_pos ⟨by rw [hl, h1], hn⟩, ha]
      simp [hfl]
    · simp [Value.formed, hu, hl, h1]
  · cases h

section
variable {W : World} {P : Program} {n : Nat} {H : List SProp} {f : Fr} {dst : Option Tmp} {d : Nat} {ty_ : TypeId} {pos : String} {after : Array Edge} {guard : Option (Nat × Bool)}

theorem PureAt.eqFlat {op : BinOp} {x y : Operand} {t u : TypeId} {ks : List (Option IntKind)} {cs ds : List Value} {la lb : List Lit} {v : Value} {b : Bool} (hB : flatB P t ks = true) (hx : evalX f x = some (.agg cs.toArray)) (hy : evalX f y = some (.agg ds.toArray))
    (hc : flatCells ks cs = some la) (hd : flatCells ks ds = some lb) (hl : cs.length = ks.length) (hl2 : ds.length = ks.length) (hwa : ∀ l ∈ la, litOk l = true) (hwb : ∀ l ∈ lb, litOk l = true) (hb : b = true ↔ la = lb) (hv : eqB op b = some v) :
    PureAt W P n H f { dst, op := .binOp op t x y u, type := ty_, pos, after, guard } v := by
  unfold PureAt
  intro tm w hk _
  obtain ⟨a1, a2⟩ := flat_lits hB hc hl hwa
  obtain ⟨b1, b2⟩ := flat_lits hB hd hl2 hwb
  have hkt : P.keyTypeAt 2 t = true := by simp only [flatB, Bool.and_eq_true] at hB; exact hB.1.2
  have hg : P.eqGuardType P.depth t = false := by simp only [flatB, Bool.and_eq_true, Bool.not_eq_true'] at hB; exact hB.2
  obtain ⟨r, hr, hiff⟩ := Go.run_equalIn_deep 9998 2 t hkt w 2 2 (.agg cs.toArray) (.agg ds.toArray) la lb a2 b2 a1 b1
  have hrb : r = b := by rw [Bool.eq_iff_iff, hiff, hb]
  have he : (Op.equal t (.agg cs.toArray) (.agg ds.toArray)).run P w = .ok b w := by rw [← hrb]; exact hr
  cases op <;> simp only [eqB, Option.some.injEq, reduceCtorEq] at hv <;> subst hv <;> unfold execOp
  · simp only [hk.eval hx, hk.eval hy, eqGuard, binOp, Sem.run_bind, Sem.run, Result.andThen_ok, hg]
    simp [he, hg, Sem.run_bind, Sem.run]
    done
  · simp only [hk.eval hx, hk.eval hy, eqGuard, binOp, Sem.run_bind, Sem.run, Result.andThen_ok, hg]
    simp [he, hg, Sem.run_bind, Sem.run]
    done

/-- A store of one cell into a slice of ours, what it holds then spelled otherwise. -/
theorem OpV.stO2 {Q : Exit → Act → World → Prop} {C : SProp → List SProp} {N : List SProp → Fr → Prop} {T : TabData} {t e : TypeId} {x y : Operand} {a : Addr} {sz m cap j : Nat} {v : Value} {xs xs' : List Value} (hT : T.ok P = true) (hx : evalX f x = some (.pointer (some (a.add j)))) (hy : evalX f y = some v) (hv : v.oneCell' = true) (hl : assoc T.leaf t = some ())
    (u : Hole H (Own e sz (.slice (some a) m cap) m xs) C) (ho : j < xs.length) (hs : xs.set j v = xs') (h : N (C (Own e sz (.slice (some a) m cap) m xs')) f) :
    OpV W P n { dst := none, op := .store t x y, type := ty_, pos, after, guard } Q H f N :=
  OpV.stO hT hx hy hv hl u ho (by rw [hs]; exact h)

/-! ### Function values that hold several -/
theorem PureAt.makeFuncN {g : FuncId} {xs : Array Operand} {vs : List Value} (hx : argsX f xs.toList = some vs) : PureAt W P n H f { dst, op := .makeFunc (.func g) #[] xs, type := ty_, pos, after, guard } (.func (.func g) #[] vs.toArray) := by
  unfold PureAt
  intro tm w hk hw
  have hargs : xs.map (Act.eval ⟨tm, []⟩) = vs.toArray := by
    have := hk.args hx
    apply Array.ext'
    simpa using this
  simp [execOp, Instr.makeFunc, hargs]

/-! ### Results that lie in cells -/
inductive ResIs (W : World) (P : Program) (H : List SProp) (f : Fr) : ResultVar → Value → Prop
  | tmp {a : Nat} {v : Value} (h : look f a = some v) : ResIs W P H f (.tmp a) v
  | cell {a : Nat} {t : TypeId} {ad : Addr} {v : Value} (h : look f a = some (.pointer (some ad))) (hv : ∀ w, Holds W H w → (loadVar t ad).run P w = .ok v w) : ResIs W P H f (.cell a t) v
theorem ResIs.leaf {T : TabData} {a : Nat} {t U : TypeId} {b off : Nat} {cs : List Value} {v : Value} (hT : T.ok P = true) (h : look f a = some (.pointer (some ⟨b, off, none⟩))) (hl : assoc T.leaf t = some ()) (m : Row b U cs ∈ H) (hv : cs[off]? = some v) : ResIs W P H f (.cell a t) v :=
  .cell h fun w hw => run_load1 (T.leaf_ok hT hl).1 (hw.cell m hv)
theorem ResIs.agg {T : TabData} {a : Nat} {t U sz : TypeId} {b off : Nat} {cs vs : List Value} (hT : T.ok P = true) (h : look f a = some (.pointer (some ⟨b, off, none⟩))) (hs : assoc T.aggs t = some sz) (m : Row b U cs ∈ H) (hv : (cs.drop off).take sz = vs) (hl : vs.length = sz) : ResIs W P H f (.cell a t) (.agg vs.toArray) :=
  .cell h fun w hw => by
    obtain ⟨h1, h2⟩ := T.agg_ok hT hs
    subst hl
    have hc : ∀ j v, vs[j]? = some v → w.cell? ((⟨b, off, none⟩ : Addr).add j) = some v := by
      intro j v hj
      rw [Addr.add_lit]
      refine hw.cell m ?_
      rw [← hv, List.getElem?_take] at hj
      split at hj
      · rw [List.getElem?_drop] at hj; exact hj
      · cases hj
    simp [loadVar, Sem.run_bind, h1, h2, run_loadCells_list w _ vs hc]
theorem ResIs.run {rv : ResultVar} {v : Value} (h : ResIs W P H f rv v) {t : Array Value} (hk : Knows n f t) {w : World} (hw : Holds W H w) :
    ((match rv with | .tmp a => Pure.pure (t.getD a undef) | .cell a ty => do loadVar ty (← asAddr (t.getD a undef))) : Sem Value).run P w = .ok v w := by
  cases h with
  | tmp h => have := hk.get _ _ h; simp [this]
  | cell h hv => have := hk.get _ _ h; simp [this, asAddr, hv w hw]
theorem VE.results1 {fn : Func} {β : Type} {A : β → Prop} {r : β → Value} {G : β → List SProp} {rv : ResultVar} {v : Value} {e : Exit} (he : e = .ret ∨ e = .normal) (x : β) (hn : fn.results = #[rv]) (h1 : ResIs W P H f rv v) (hA : A x) (hv : v = r x) (hH : Ent W H (G x)) : VE W n (bodyPost P fn (Post W A r G)) e H f := by
  unfold VE
  intro t w hk hw
  have hr : (results fn t).run P w = .ok v w := by
    have := h1.run hk hw
    cases rv <;> simp_all [results]
  rcases he with rfl | rfl <;> exact ⟨rfl, _, hr, x, hA, by rw [hv], hH w hw⟩
theorem VE.results2 {fn : Func} {β : Type} {A : β → Prop} {r : β → Value} {G : β → List SProp} {rv rv2 : ResultVar} {v v2 : Value} {e : Exit} (he : e = .ret ∨ e = .normal) (x : β) (hn : fn.results = #[rv, rv2]) (h1 : ResIs W P H f rv v) (h2 : ResIs W P H f rv2 v2) (hA : A x) (hv : .tuple #[v, v2] = r x) (hH : Ent W H (G x)) : VE W n (bodyPost P fn (Post W A r G)) e H f := by
  unfold VE
  intro t w hk hw
  have hr : (results fn t).run P w = .ok (.tuple #[v, v2]) w := by
    cases h1 with
    | tmp k1 =>
      have g1 := hk.get _ _ k1
      cases h2 with
      | tmp k2 => have g2 := hk.get _ _ k2; simp [results, hn, g1, g2]
      | cell k2 l2 => have g2 := hk.get _ _ k2; simp [results, hn, g1, g2, asAddr, l2 w hw]
    | cell k1 l1 =>
      have g1 := hk.get _ _ k1
      cases h2 with
      | tmp k2 => have g2 := hk.get _ _ k2; simp [results, hn, g1, g2, asAddr, l1 w hw]
      | cell k2 l2 => have g2 := hk.get _ _ k2; simp [results, hn, g1, g2, asAddr, l1 w hw, l2 w hw]
  rcases he with rfl | rfl <;> exact ⟨rfl, _, hr, x, hA, by rw [hv], hH w hw⟩
end
end Go.Sl
