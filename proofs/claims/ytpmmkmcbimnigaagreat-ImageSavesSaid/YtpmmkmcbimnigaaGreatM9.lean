import Derived.Test.YtpmmkmcbimnigaaGreatM8
import Derived.Recover
/-! Text Sp. -/
/- The engine: calls that die of a panic; functions that lay a deferred call; deferred closures that recover. Generic: no program is named. -/
set_option maxRecDepth 8000
set_option linter.unusedVariables false
set_option linter.unusedSimpArgs false
set_option linter.unusedSectionVars false
namespace Go.Sl
open Go Go.RowKit
section
variable {W : World} {P : Program} {n : Nat} {m : Md} {c : Code} {Q : Exit → Act → World → Prop} {H H' L R G G' : List SProp} {f F : Fr} {N : List SProp → Fr → Prop}
variable {dst : Option Tmp} {d : Nat} {ty_ : TypeId} {pos : String} {after : Array Edge} {guard : Option (Nat × Bool)}
/-- A panic as it starts. -/
abbrev pan (v : Value) : List PanicEntry := [{ v, recovered := false }]
abbrev panR (v : Value) : List PanicEntry := [{ v, recovered := true }]
def DiesP (W : World) (v : Value) (G : List SProp) : Ending → World → Prop := fun e w' => e = .panicked (pan v) ∧ Holds W G w'
/-- The call dies with this value. -/
def Dies (W : World) (P : Program) (g : FuncId) (args : List Value) (H : List SProp) (v : Value) (G : List SProp) : Prop := ∀ w, Holds W H w → Calls P g args.toArray w (DiesP W v G)
theorem Dies.enter {g : FuncId} {fn : Func} {args : List Value} {v : Value} (hf : P.funcs[g]? = some fn) (hn : fn.ntmps = n) (hb : fn.body.isSome = true) (hl : Nat.ble args.length n = true)
    (h : VC W P n (bodyOf fn) (bodyPost P fn (DiesP W v G)) H (argF 0 args)) : Dies W P g args H v G := by
  unfold VC at h
  intro w hw
  obtain ⟨c, hc⟩ := Option.isSome_iff_exists.1 hb
  refine calls_of_wp hf hc ?_
  have hk := Knows.start args n (by simpa [Nat.ble_eq] using hl)
  rw [hn]
  have := h _ w hk hw
  rw [bodyOf, hc] at this
  exact this
theorem VE.dies {fn : Func} {v : Value} (hH : Ent W H G) : VE W n (bodyPost P fn (DiesP W v G)) (.panic (pan v)) H f := by
  unfold VE
  exact fun t w hk hw => ⟨rfl, rfl, hH w hw⟩
theorem VE.passPanic {ch : List PanicEntry} (h : VE W n Q (.panic ch) H f) : VE W n (thenC P c Q) (.panic ch) H f := by
  unfold VE at *; unfold thenC; exact h
theorem VE.blockPanic {ch : List PanicEntry} {i : Nat} (h : VE W n Q (.panic ch) H f) : VE W n (blockC i Q) (.panic ch) H f := by
  unfold VE at *; unfold blockC; exact h
theorem VE.loopPanic {ch : List PanicEntry} {α : Type} {A : α → Prop} {G : α → List SProp} {F : α → Fr} {μ : α → Nat} {k : Nat} (h : VE W n Q (.panic ch) H f) : VE W n (loopC W n A G F μ k Q) (.panic ch) H f := by
  unfold VE at *; unfold loopC; exact h
theorem VF.passPanic {ch : List PanicEntry} {r : Option Nat} (h : VF W n m Q (.panic ch) H f) : VF W n m (thenR r P c Q) (.panic ch) H f := by
  unfold VF at *; unfold thenR; exact fun hno t w hk hw => h hno t w hk hw
theorem VF.blockPanic {ch : List PanicEntry} {i : Nat} (h : VF W n m Q (.panic ch) H f) : VF W n m (blockR i Q) (.panic ch) H f := by
  unfold VF at *; unfold blockR; exact fun hno t w hk hw => h hno t w hk hw
theorem VF.loopPanic {ch : List PanicEntry} {α : Type} {A : α → Prop} {G : α → List SProp} {F : α → Fr} {μ : α → Nat} {k : Nat} (h : VF W n m Q (.panic ch) H f) : VF W n m (loopR W n m A G F μ k Q) (.panic ch) H f := by
  unfold VF at *; unfold loopR; exact fun hno t w hk hw => h hno t w hk hw
/-- A call that dies. -/
theorem OpV.callDies {x : Operand} {xs : Array Operand} {ats : Array TypeId} {g : FuncId} {cap : Array Value} {vs : List Value} {v : Value}
    (hx : evalX f x = some (.func (.func g) #[] cap)) (ha : argsX f xs.toList = some vs) (hc : ∀ a w, (callFunc g a).run P w = .ok (.enter g a) w) (spec : Dies W P g (vs ++ cap.toList) L v G)
    (hL : Ent W H L) (h : VE W n Q (.panic (pan v)) G f) :
    OpV W P n { dst := some d, op := .call { callee := .value x, args := xs, argTypes := ats }, type := ty_, pos, after, guard } Q H f N := by
  unfold VE at h
  unfold OpV
  intro t w hk hw K hK
  have hargs : xs.map (Act.eval ⟨t, []⟩) = vs.toArray := by
    have := hk.args ha
    apply Array.ext'
    simpa using this
  have hs := spec w (hL w hw)
  unfold Oper.wp execOp
  simp only [resolve, hk.eval hx, hargs, Deferred.ofValue, Go.invoke, Sem.run_bind, Sem.run_pure, Result.andThen_ok, hc, Oper.upon]
  have e : #[] ++ vs.toArray ++ cap = (vs ++ cap.toList).toArray := by simp
  rw [e]
  refine Calls.mono hs ?_
  rintro e w' ⟨rfl, hG⟩
  exact h t w' hk hG
/-- The text's own panic. -/
theorem OpV.panic {x : Operand} {t : TypeId} {v : Value} (hx : evalX f x = some (.iface t v)) (h : VE W n Q (.panic (pan (.iface t v))) H f) : OpV W P n { dst, op := .panic x, type := ty_, pos, after, guard } Q H f N := by
  unfold VE at h
  unfold OpV
  intro tm w hk hw K hK
  unfold Oper.wp execOp
  simp only [hk.eval hx, Sem.run_bind, run_panic_iface, Result.andThen, Oper.upon]
  exact h tm w hk hw
/-! ### A function that lays a deferred call -/
theorem Does.enterD {g : FuncId} {fn : Func} {args : List Value} {β : Type} {A : β → Prop} {r : β → Value} {G : β → List SProp} (hf : P.funcs[g]? = some fn) (hn : fn.ntmps = n) (hb : fn.body.isSome = true) (hl : Nat.ble args.length n = true)
    (h : VR W P n ⟨none, []⟩ (bodyOf fn) (bodyPostD P fn (Post W A r G)) H (argF 0 args)) : Does W P g args H A r G := by
  unfold Does
  unfold VR at h
  intro w hw
  obtain ⟨c, hc⟩ := Option.isSome_iff_exists.1 hb
  refine calls_of_wp_defers hf hc ?_
  have h2 := h (fun a w q => by obtain ⟨_, _, e, _⟩ := q; cases e) _ w (Knows.start args n (Nat.le_of_ble_eq_true hl)) hw
  rw [← hn] at h2
  have h3 := wpIn_wide.1 h2
  simpa [bodyOf, hc] using h3
theorem VR.regionD (hc : regDraw c = some false) (h : VO W P n c 0 (shR [] Q) H f) : VR W P n ⟨none, []⟩ c Q H f := by
  have h := VC.region hc h
  unfold VC at h
  unfold VR
  intro hno t w hk hw
  refine wpIn_wide.2 (Code.wp_mono ?_ (h t w hk hw))
  intro e a w' q
  unfold shR at q
  have q := q hno
  have e2 : plusA a [] = a := by unfold plusA; rw [List.append_nil]
  rwa [e2] at q
theorem VO.deferLast {k : Nat} {x : Operand} {ats : Array TypeId} {fn : Fn} {cap : Array Value} (ho : (regOps c)[k]? = some { dst := none, op := .defer { callee := .value x, args := #[], argTypes := ats }, type := ty_, pos, after, guard := none }) (hl : (regOps c)[k + 1]? = none)
    (hx : evalX f x = some (.func fn #[] cap)) (h : VF W n ⟨none, [{ target := .fn fn cap, args := #[] }]⟩ Q .normal H f) : VO W P n c k (shR [] Q) H f := by
  unfold VF at h
  unfold VO
  intro t w hk hw
  rw [drop_at ho, List.drop_eq_nil_of_le (by simpa using hl)]
  unfold wpList
  rw [if_pos (by unfold Region.wanted; rfl)]
  left
  unfold Oper.wp execOp
  simp only [resolve, hk.eval hx, Deferred.ofValue, Sem.run_bind, Sem.run_pure, Result.andThen_ok, Oper.upon, wpList, Act.put, Array.map_empty, Array.empty_append]
  unfold shR
  intro hno
  exact h hno t w hk hw
/-! ### The door -/
/-- What a deferred call does to the frame's mode, and to memory. -/
def DoesD (W : World) (P : Program) (g : FuncId) (args : List Value) (H : List SProp) (u u' : FrameMode) (G : List SProp) : Prop := ∀ w, Holds W H w → CallsD P g args.toArray u w (fun e u2 w' => u2 = u' ∧ (∃ v, e = .returned v) ∧ Holds W G w')
theorem run_results2 {fn : Func} {rv rv2 : ResultVar} {v v2 : Value} (hn : fn.results = #[rv, rv2]) (h1 : ResIs W P G' f rv v) (h2 : ResIs W P G' f rv2 v2) {t : Array Value} {w : World} (hk : Knows n f t) (hw : Holds W G' w) : (results fn t).run P w = .ok (.tuple #[v, v2]) w := by
  cases h1 with
  | tmp k1 =>
    have g1 := hk.get _ _ k1
    cases h2 with
    | tmp k2 => have g2 := hk.get _ _ k2; simp [results, hn, g1, g2]
    | cell k2 l2 => have g2 := hk.get _ _ k2; simp [results, hn, g1, g2, asAddr, l2 _ hw]
  | cell k1 l1 =>
    have g1 := hk.get _ _ k1
    cases h2 with
    | tmp k2 => have g2 := hk.get _ _ k2; simp [results, hn, g1, g2, asAddr, l1 _ hw]
    | cell k2 l2 => have g2 := hk.get _ _ k2; simp [results, hn, g1, g2, asAddr, l1 _ hw, l2 _ hw]
theorem leaves_one {fn : Func} {g : FuncId} {cap : Array Value} {t : Array Value} {u u' : FrameMode} {rv rv2 : ResultVar} {v v2 : Value} {β : Type} {A : β → Prop} {r : β → Value} {G : β → List SProp} {w : World} (hu : u ≠ .run) (hs : settle u' = .returning)
    (hc : ∀ a w, (callFunc g a).run P w = .ok (.enter g a) w) (spec : DoesD W P g cap.toList H u u' G') (x : β) (hn : fn.results = #[rv, rv2]) (h1 : ResIs W P G' f rv v) (h2 : ResIs W P G' f rv2 v2) (hA : A x) (hv : .tuple #[v, v2] = r x) (hH : Ent W G' (G x))
    (hk : Knows n f t) (hw : Holds W H w) : Leaves P fn t (Post W A r G) [{ target := .fn (.func g) cap, args := #[] }] u w := by
  refine leaves_cons (f := g) (args := cap) hu (by simp [Go.invoke, hc]) ?_
  have hs2 := spec w hw
  simp only [Array.toArray_toList] at hs2
  refine CallsD.mono hs2 ?_
  rintro e u2 w' ⟨rfl, ⟨v0, rfl⟩, hG⟩
  simp only
  rw [hs]
  exact ⟨_, run_results2 hn h1 h2 hk hG, x, hA, by rw [hv], hH _ hG⟩
theorem VF.leaveRet {fn : Func} {g : FuncId} {cap : Array Value} {rv rv2 : ResultVar} {v v2 : Value} {e : Exit} {β : Type} {A : β → Prop} {r : β → Value} {G : β → List SProp} (he : e = .ret ∨ e = .normal)
    (hc : ∀ a w, (callFunc g a).run P w = .ok (.enter g a) w) (spec : DoesD W P g cap.toList H .returning .returning G') (x : β) (hn : fn.results = #[rv, rv2]) (h1 : ResIs W P G' f rv v) (h2 : ResIs W P G' f rv2 v2) (hA : A x) (hv : .tuple #[v, v2] = r x) (hH : Ent W G' (G x)) :
    VF W n ⟨none, [{ target := .fn (.func g) cap, args := #[] }]⟩ (bodyPostD P fn (Post W A r G)) e H f := by
  unfold VF
  intro _ t w hk hw
  rcases he with rfl | rfl <;> exact leaves_one (by simp) rfl hc spec x hn h1 h2 hA hv hH hk hw
theorem VF.leavePanic {fn : Func} {g : FuncId} {cap : Array Value} {rv rv2 : ResultVar} {v v2 pv : Value} {β : Type} {A : β → Prop} {r : β → Value} {G : β → List SProp}
    (hc : ∀ a w, (callFunc g a).run P w = .ok (.enter g a) w) (spec : DoesD W P g cap.toList H (.panicking (pan pv)) (.panicking (panR pv)) G') (x : β) (hn : fn.results = #[rv, rv2]) (h1 : ResIs W P G' f rv v) (h2 : ResIs W P G' f rv2 v2) (hA : A x) (hv : .tuple #[v, v2] = r x) (hH : Ent W G' (G x)) :
    VF W n ⟨none, [{ target := .fn (.func g) cap, args := #[] }]⟩ (bodyPostD P fn (Post W A r G)) (.panic (pan pv)) H f := by
  unfold VF
  intro _ t w hk hw
  exact leaves_one (by simp) rfl hc spec x hn h1 h2 hA hv hH hk hw
/-- A deferred closure whose first operation is recover. -/
theorem DoesD.enterS {g : FuncId} {fn : Func} {args : List Value} {u u' : FrameMode} {v1 : Value} {d1 d2 : Nat} {t1 t2 : TypeId} {p1 p2 : String} {a1 a2 : Array Edge} (hf : P.funcs[g]? = some fn) (hn : fn.ntmps = n) (hb : fn.body.isSome = true) (hl : Nat.ble args.length n = true) (hsq : isSeq (bodyOf fn) = true)
    (hr : regDraw (Cd.l (bodyOf fn)) = some false) (ho : regOps (Cd.l (bodyOf fn)) = [{ dst := some d1, op := .call { callee := .builtin .recover, args := #[], argTypes := #[] }, type := t1, pos := p1, after := a1, guard := none }, { dst := some d2, op := .assign (.tmp d1), type := t2, pos := p2, after := a2, guard := none }])
    (hd1 : Nat.blt d1 n = true) (hd2 : Nat.blt d2 n = true) (hu : (∃ v, u = .panicking (pan v) ∧ u' = .panicking (panR v) ∧ v1 = v) ∨ (u = .returning ∧ u' = .returning ∧ v1 = .nilIface))
    (h : VC W P n (Cd.r (bodyOf fn)) (bodyPost P fn (fun e w' => (∃ v, e = .returned v) ∧ Holds W G w')) H ((d2, v1) :: (d1, v1) :: argF 0 args)) : DoesD W P g args H u u' G := by
  unfold VC at h
  intro w hw
  obtain ⟨c, hc⟩ := Option.isSome_iff_exists.1 hb
  refine callsD_of_wpS hf hc fun c₀ cs hm => ?_
  have hbo : bodyOf fn = c := by rw [bodyOf, hc]; rfl
  rw [hbo] at hsq hr ho h
  cases c <;> simp [isSeq] at hsq
  rename_i x y
  simp only [Cd.l, Cd.r] at hr ho h
  cases x <;> simp [regDraw] at hr
  rename_i id ops dr
  subst hr
  simp only [regOps] at ho
  have hops : ops = #[{ dst := some d1, op := .call { callee := .builtin .recover, args := #[], argTypes := #[] }, type := t1, pos := p1, after := a1, guard := none }, { dst := some d2, op := .assign (.tmp d1), type := t2, pos := p2, after := a2, guard := none }] := by
    apply Array.ext'; simpa using ho
  subst hops
  have hk := Knows.start args n (Nat.le_of_ble_eq_true hl)
  rw [hn] at *
  obtain ⟨cs', hrec, hcs⟩ : ∃ cs', (recoverD (c₀ :: cs) = some (v1, cs') ∨ (recoverD (c₀ :: cs) = none ∧ v1 = .nilIface ∧ cs' = c₀ :: cs)) ∧ cs' = { c₀ with mode := u' } :: cs := by
    rcases hu with ⟨v, h1, h2, h3⟩ | ⟨h1, h2, h3⟩
    · refine ⟨_, .inl ?_, rfl⟩
      rw [h1] at hm
      unfold recoverD
      simp only [hm, h2, h3]
    · refine ⟨_, .inr ⟨?_, h3, rfl⟩, ?_⟩
      · rw [h1] at hm
        unfold recoverD
        simp only [hm]
      · rw [h2]; rw [h1] at hm; cases c₀; simp_all
  apply wpS_seq
  apply wpS_region
  have k1 := hk.put (v := v1) hd1
  have k2 := k1.put (v := v1) hd2
  have ev : Act.eval ⟨(args.toArray ++ Array.replicate (n - args.toArray.size) undef).setIfInBounds d1 v1, []⟩ (.tmp d1) = v1 := k1.eval (by simp [evalX, look])
  have h2 := h _ w k2 hw
  have hfin : y.wpS P (bodyPostS P fn c₀ cs fun e u2 w' => u2 = u' ∧ (∃ v, e = .returned v) ∧ Holds W G w') ⟨((args.toArray ++ Array.replicate (n - args.toArray.size) undef).setIfInBounds d1 v1).setIfInBounds d2 v1, []⟩ cs' w := by
    refine wpS_of_wp (Code.wp_mono ?_ h2)
    intro e a w' q
    cases e with
    | normal =>
      obtain ⟨q1, v, q2, q3⟩ := q
      exact ⟨q1, u', hcs, v, q2, rfl, ⟨v, rfl⟩, q3.2⟩
    | ret =>
      obtain ⟨q1, v, q2, q3⟩ := q
      exact ⟨q1, u', hcs, v, q2, rfl, ⟨v, rfl⟩, q3.2⟩
    | panic ch => obtain ⟨_, ⟨v, e⟩, _⟩ := q; cases e
    | outgrown => obtain ⟨⟨v, e⟩, _⟩ := q; cases e
    | exit i => exact q.elim
    | goto l => exact q.elim
  have hsnd : wpOpsS P #[{ dst := some d1, op := .call { callee := .builtin .recover, args := #[], argTypes := #[] }, type := t1, pos := p1, after := a1, guard := none }, { dst := some d2, op := .assign (.tmp d1), type := t2, pos := p2, after := a2, guard := none }]
      (Exit.thenS (y.wpS P (bodyPostS P fn c₀ cs fun e u2 w' => u2 = u' ∧ (∃ v, e = .returned v) ∧ Holds W G w')) (bodyPostS P fn c₀ cs fun e u2 w' => u2 = u' ∧ (∃ v, e = .returned v) ∧ Holds W G w')) [1] ⟨(args.toArray ++ Array.replicate (n - args.toArray.size) undef).setIfInBounds d1 v1, []⟩ cs' w := by
    unfold wpOpsS
    simp only [List.getElem?_toArray, List.getElem?_cons_zero, List.getElem?_cons_succ, Region.wanted]
    rw [if_pos trivial]
    have e2 : (execOp (Act.eval ⟨(args.toArray ++ Array.replicate (n - args.toArray.size) undef).setIfInBounds d1 v1, []⟩) { dst := some d2, op := .assign (.tmp d1), type := t2, pos := p2, after := a2, guard := none }).run P w = .ok (.value v1) w := by
      unfold execOp
      simp only [ev, Sem.run_pure]
    rw [e2]
    simp only [Oper.upon, wpOpsS, Act.put, Exit.thenS]
    exact hfin
  show wpOpsS P _ _ [0, 1] _ _ _
  unfold wpOpsS
  simp only [List.getElem?_toArray, List.getElem?_cons_zero, Region.wanted]
  rw [if_pos trivial]
  have e1 : (execOp (Act.eval ⟨args.toArray ++ Array.replicate (n - args.toArray.size) undef, []⟩) { dst := some d1, op := .call { callee := .builtin .recover, args := #[], argTypes := #[] }, type := t1, pos := p1, after := a1, guard := none }).run P w = .ok .recover w := by
    unfold execOp
    simp only [resolve, Go.invoke, builtin, Sem.run_bind, Sem.run_pure, Result.andThen_ok]
  rw [e1]
  simp only
  rcases hrec with h3 | ⟨h3, rfl, rfl⟩
  · rw [h3]
    exact hsnd
  · rw [h3]
    exact hsnd
end
attribute [irreducible] Dies DoesD
/-! ### append to a slice that is full and is only read -/
section
variable {W w : World} {P : Program} {n : Nat} {Q : Exit → Act → World → Prop} {H : List SProp} {f : Fr} {N : List SProp → Fr → Prop} {d : Nat} {ty_ : TypeId} {pos : String} {after : Array Edge} {guard : Option (Nat × Bool)}
theorem Holds.appendFull {t tx e ty : TypeId} {z : Value} {sz by_ k m : Nat} {a : Addr} {x : Value} {xs news : List Value} (st : SliceT P t e z sz by_) (hw : Holds W H w) (hr : Rds W H sz (some a) k xs) (hs : Src P sz tx x m news w) (h0 : 0 < m)
    (h63 : k + m ≤ maxLen) (hb : (k + m) * by_ ≤ 140737488355328) :
    ∃ ao cap w', (Builtin.append_ #[t, tx] ty #[.slice (some a) k k, x]).run P w = .ok (.slice ao (k + m) cap) w' ∧ Holds W (Own e sz (.slice ao (k + m) cap) (k + m) (xs ++ news) :: H) w' := by
  obtain ⟨i, hi, hz, hsz, hby⟩ := info_parts st.info
  subst hsz; subst hby
  have hsmall : k + m ≤ 9223372036854775807 := by simp only [maxLen] at h63; omega
  have hl := hr.len
  have hlen : (xs ++ news).length = (k + m) * i.size := by rw [List.length_append, hl, hs.newsLen, Nat.add_mul]
  have hge := grownCap_ge w (k + m) k e
  have hcm : grownCap w (k + m) k e ≤ maxLen := grownCap_le_maxLen w (k + m) k e h63
  have ha := (hw.drew).alloc (T := e) (cs := (xs ++ news) ++ (Builtin.zeroCells z.cells (grownCap w (k + m) k e - (k + m))).toList)
  have ee : ((xs ++ news) ++ (Builtin.zeroCells z.cells (grownCap w (k + m) k e - (k + m))).toList).toArray = (xs ++ news).toArray ++ Builtin.zeroCells z.cells (grownCap w (k + m) k e - (k + m)) := by
    apply Array.ext'; simp
  rw [ee] at ha
  have hold : (Builtin.firstCells i.size k (.slice (some a) k k)).run P w.drew = .ok xs.toArray w.drew :=
    run_firstCells_some w.drew i.size k _ k k xs hl fun j u hj => hr.cell w.drew hw.drew a rfl j u hj
  refine ⟨_, _, _, run_append_grow_src w t tx ty e i z st.und hi hz _ k k xs hold x m news hs (by omega) (by omega) (growslice_fits (by omega) hb), ?_⟩
  have ha2 : Holds W (Row w.heap.size e ((xs ++ news) ++ (Builtin.zeroCells z.cells (grownCap w (k + m) k e - (k + m))).toList) :: H) (w.drew.alloc (.cells ((xs ++ news).toArray ++ Builtin.zeroCells z.cells (grownCap w (k + m) k e - (k + m))) e)) := by
    have : (Row w.drew.heap.size e ((xs ++ news) ++ (Builtin.zeroCells z.cells (grownCap w (k + m) k e - (k + m))).toList)) = At w.heap.size (.cells ((xs ++ news).toArray ++ Builtin.zeroCells z.cells (grownCap w (k + m) k e - (k + m))) e (0, 0)) := by
      show At _ _ = _
      rw [ee]; rfl
    rw [this] at *
    exact ha
  refine Holds.ownShut hlen hge hcm ?_ ha2
  rw [List.length_append, hlen]
  simp only [Array.length_toList, size_zeroCells, st.zs, ← Nat.add_mul]
  congr 1; omega
theorem OpV.appendFull {s x : Operand} {t tx e : TypeId} {z : Value} {sz by_ k m : Nat} {a : Addr} {vx : Value} {xs news : List Value} (st : SliceT P t e z sz by_) (hs : evalX f s = some (.slice (some a) k k)) (hx : evalX f x = some vx)
    (hr : Rds W H sz (some a) k xs) (hsrc : ∀ w, Holds W H w → Src P sz tx vx m news w) (h0 : 0 < m) (h63 : k + m ≤ maxLen) (hb : (k + m) * by_ ≤ 140737488355328) (hd : Nat.blt d n = true)
    (h : ∀ ao cap, N (Own e sz (.slice ao (k + m) cap) (k + m) (xs ++ news) :: H) ((d, .slice ao (k + m) cap) :: f)) :
    OpV W P n { dst := some d, op := .call { callee := .builtin .append, args := #[s, x], argTypes := #[t, tx] }, type := ty_, pos, after, guard } Q H f N := by
  refine OpV.run (α := Option Addr × Nat) (v := fun y => .slice y.1 (k + m) y.2) (G := fun y => Own e sz (.slice y.1 (k + m) y.2) (k + m) (xs ++ news) :: H) hd (fun tm w hk hw => ?_) (fun y => h y.1 y.2)
  obtain ⟨ao, cap, w', hr, h2⟩ := Holds.appendFull (ty := ty_) st hw hr (hsrc w hw) h0 h63 hb
  refine ⟨(ao, cap), w', ?_, h2⟩
  unfold execOp
  simp only [resolve, Go.invoke, builtin, Sem.run_bind, Sem.run_pure, Result.andThen_ok, List.map_toArray, List.map_cons, List.map_nil, hk.eval hs, hk.eval hx, hr]
end
end Go.Sl

/-! Text Ia. -/
/- Package image: need, two, the bay's Load of bytes of one's own. -/
set_option maxRecDepth 8000
set_option linter.unusedVariables false
set_option linter.unusedSimpArgs false
set_option linter.unusedSectionVars false
namespace Go.Proofs.YtpmmkmcbimnigaaGreat
open Go.RowKit Go.Sl
attribute [local irreducible] Sl.Own

theorem loadfR_ok {W : World} {R : List SProp} {ao : Option Addr} {cap : Nat} {l : List UInt8} (bx : Nat) (hl : Rds W R 1 ao l.length (bytes l)) (hlen : l.length ≤ 1000000000) (hcap : l.length ≤ cap) (X : List SProp) :
    Does W Tryz.prog 103 [.pointer (some ⟨bx, 0, none⟩)] (X ++ (Row bx 22 [.slice ao l.length cap] :: R)) (β := Nat) (fun _ => True) (fun d => if loadE l.length = 0 then .tuple #[.pointer (some ⟨d, 0, none⟩), .int .u16 0] else .tuple #[.pointer none, .int .u16 (loadE l.length)])
      (fun d => if loadE l.length = 0 then DiskR d ⟨chunks l (l.length / 128), [], false⟩ :: (X ++ (Row bx 22 [.slice ao l.length cap] :: R)) else X ++ (Row bx 22 [.slice ao l.length cap] :: R)) := by
  have pm : Ent W (X ++ (Row bx 22 [.slice ao l.length cap] :: R)) (Row bx 22 [.slice ao l.length cap] :: (X ++ R)) := fun w hw => hw.perm List.perm_middle
  have mp : Ent W (Row bx 22 [.slice ao l.length cap] :: (X ++ R)) (X ++ (Row bx 22 [.slice ao l.length cap] :: R)) := fun w hw => hw.perm List.perm_middle.symm
  (refine Does.enter Tryz.func103 Tryz.ntmps103 rfl rfl ?_)
  refine VC.ent pm ?_
  (refine w ?_; repeat ((first | refine VO.step rfl rfl ?_ | refine VD.end rfl rfl rfl ?_ | refine VD.mid rfl rfl rfl ?_); refine OpV.box rfl rfl rfl ?_; intro _; refine w ?_))
  unfold loadE
  by_cases h : l.length % 128 = 0 ∧ 1 ≤ l.length / 128 ∧ l.length / 128 ≤ 8192
  · obtain ⟨g1, g2, g3⟩ := h
    have hm : l.length / 128 * 128 = l.length := by omega
    simp only [if_pos (show l.length % 128 = 0 ∧ 1 ≤ l.length / 128 ∧ l.length / 128 ≤ 8192 from ⟨g1, g2, g3⟩), if_true]
    have hr : Rds W (Row bx 22 [.slice ao l.length cap] :: (X ++ R)) 1 ao (l.length / 128 * 128) (bytes l) := by rw [hm]; exact hl.ent (Ent.drop (Ent.dropAll X))
    have key := load_ok (cap := cap) hr g2 g3 (by omega)
    rw [hm] at key
    ((first | refine VO.step rfl rfl ?_ | refine VD.end rfl rfl rfl ?_ | refine VD.mid rfl rfl rfl ?_); refine OpV.call rfl rfl (fun _ _ => by simp) (key) Ent.refl rfl ?_)
    intro d _
    (refine w ?_; repeat ((first | refine VO.step rfl rfl ?_ | refine VD.end rfl rfl rfl ?_ | refine VD.mid rfl rfl rfl ?_); refine OpV.box rfl rfl rfl ?_; intro _; refine w ?_))
    exact VE.done d rfl trivial rfl (fun w hw => hw.perm (List.Perm.cons _ List.perm_middle.symm))
  · simp only [if_neg h, show ¬ ((40 : Int) = 0) by decide, if_false]
    have lb : ∀ {X : List SProp}, Does1 W Tryz.prog 104 [.slice ao l.length cap] X (.tuple #[.pointer none, .int .u16 40]) X := by
      intro X
      by_cases h : l.length % 128 = 0
      · exact load_big h (by omega) (by omega)
      · exact load_odd h
    ((first | refine VO.step rfl rfl ?_ | refine VD.end rfl rfl rfl ?_ | refine VD.mid rfl rfl rfl ?_); refine OpV.call rfl rfl (fun _ _ => by simp) (lb) Ent.refl rfl ?_; intro _ _)
    (refine w ?_; repeat ((first | refine VO.step rfl rfl ?_ | refine VD.end rfl rfl rfl ?_ | refine VD.mid rfl rfl rfl ?_); refine OpV.box rfl rfl rfl ?_; intro _; refine w ?_))
    exact VE.done 0 rfl trivial rfl mp
theorem bayloadR_ok {W : World} {R : List SProp} {ao : Option Addr} {cap : Nat} {l : List UInt8} (b : Nat) (D : BayD) (k : Int) (hl : Rds W R 1 ao l.length (bytes l)) (hlen : l.length ≤ 1000000000) (hcap : l.length ≤ cap) :
    Does1 W Tryz.prog 68 [.pointer (some ⟨b, 0, none⟩), .int .i64 k, .slice ao l.length cap] (BayR b D :: R) (.int .u16 (D.load k l).1) (BayR b (D.load k l).2 :: R) := by
  (refine Does.enter Tryz.func68 Tryz.ntmps68 rfl rfl ?_)
  (refine w ?_; repeat ((first | refine VO.step rfl rfl ?_ | refine VD.end rfl rfl rfl ?_ | refine VD.mid rfl rfl rfl ?_); refine OpV.box rfl rfl rfl ?_; intro _; refine w ?_))
  rename_i bx
  unfold BayD.load
  (first | refine VO.pure rfl rfl (PureAt.makeFuncN rfl) rfl ?_ | refine VD.take rfl rfl rfl (PureAt.makeFuncN rfl) rfl ?_ | refine VQ.pure rfl rfl (PureAt.makeFuncN rfl) rfl ?_ | refine VD.end rfl rfl rfl (OpV.pure (PureAt.makeFuncN rfl) rfl ?_))
  (refine w ?_; repeat ((first | refine VO.step rfl rfl ?_ | refine VD.end rfl rfl rfl ?_ | refine VD.mid rfl rfl rfl ?_); refine OpV.box rfl rfl rfl ?_; intro _; refine w ?_))
  refine VO.ent (Ent.re (L := BayR b D :: Row bx 22 [.slice ao l.length cap] :: R)) ?_
  ((first | refine VO.step rfl rfl ?_ | refine VD.end rfl rfl rfl ?_ | refine VD.mid rfl rfl rfl ?_); refine OpV.call rfl rfl (fun _ _ => by simp) (lay_ok (R := Row bx 22 [.slice ao l.length cap] :: R) (gm := 103) (cp := #[.pointer (some ⟨bx, 0, none⟩)]) b D k (loadE l.length) ⟨chunks l (l.length / 128), [], false⟩ (fun _ _ => by simp) (loadE_cases _) (fun X => loadfR_ok bx hl hlen hcap X)) Ent.refl rfl ?_)
  intro _ _
  (refine w ?_; repeat ((first | refine VO.step rfl rfl ?_ | refine VD.end rfl rfl rfl ?_ | refine VD.mid rfl rfl rfl ?_); refine OpV.box rfl rfl rfl ?_; intro _; refine w ?_))
  (refine VE.done1 rfl ?_ ?_)
  · rfl
  · exact Ent.re


/-! ### need, two -/
abbrev errI (e : Nat) : Value := .iface 27 (.int .u16 e)
theorem need_ok {W : World} {R : List SProp} (e : Value) (h : e.oneCell' = true) : Does1 W Tryz.prog 60 [.bool true, e] R (.tuple #[]) R := by
  (refine Does.enter Tryz.func60 Tryz.ntmps60 rfl rfl ?_)
  (refine w ?_; repeat ((first | refine VO.step rfl rfl ?_ | refine VD.end rfl rfl rfl ?_ | refine VD.mid rfl rfl rfl ?_); refine OpV.box rfl rfl rfl ?_; intro _; refine w ?_))
  (refine VE.done1N rfl ?_ ?_)
  · rfl
  · exact Ent.refl
theorem need_dies {W : World} {R : List SProp} (e : Nat) : Dies W Tryz.prog 60 [.bool false, .int .u16 e] R (errI e) R := by
  refine Dies.enter Tryz.func60 Tryz.ntmps60 rfl rfl ?_
  (refine w ?_; repeat ((first | refine VO.step rfl rfl ?_ | refine VD.end rfl rfl rfl ?_ | refine VD.mid rfl rfl rfl ?_); refine OpV.box rfl rfl rfl ?_; intro _; refine w ?_))
  obtain ⟨dsc, hu⟩ : ∃ k, Tryz.prog.underlying 27 = some (.int k) := ⟨_, rfl⟩
  (first | refine VO.pure rfl rfl (PureAt.makeIface hu (fun ms h => by cases h) rfl) rfl ?_ | refine VD.take rfl rfl rfl (PureAt.makeIface hu (fun ms h => by cases h) rfl) rfl ?_ | refine VQ.pure rfl rfl (PureAt.makeIface hu (fun ms h => by cases h) rfl) rfl ?_ | refine VD.end rfl rfl rfl (OpV.pure (PureAt.makeIface hu (fun ms h => by cases h) rfl) rfl ?_))
  (first | refine VO.step rfl rfl ?_ | refine VD.end rfl rfl rfl ?_ | refine VD.mid rfl rfl rfl ?_)
  refine OpV.panic rfl ?_
  exact VE.dies Ent.refl
theorem bayslots_ok {W : World} {R : List SProp} (b : Nat) (D : BayD) : Does1 W Tryz.prog 29 [.pointer (some ⟨b, 0, none⟩)] (BayR b D :: R) (.int .i64 (D.slots.length : Nat)) (BayR b D :: R) := by
  (refine Does.enter Tryz.func29 Tryz.ntmps29 rfl rfl ?_)
  refine VC.obtain (fun w => BayR.open) ?_
  rintro ⟨⟨a, sp⟩, h1, h2⟩
  dsimp only at h1 h2 ⊢
  (refine w ?_; repeat ((first | refine VO.step rfl rfl ?_ | refine VD.end rfl rfl rfl ?_ | refine VD.mid rfl rfl rfl ?_); refine OpV.box rfl rfl rfl ?_; intro _; refine w ?_))
  (refine VE.done1 rfl ?_ ?_)
  · rw [h1, List.length_map]
  · exact BayR.shut h1 h2
theorem bayOkI {W w : World} {R : List SProp} {b : Nat} {D : BayD} (h : Holds W (BayR b D :: R) w) (k : Int) (v : DevD) (hv : D.dev k = some v) : v.k.ok := by
  obtain ⟨⟨⟨a, sp⟩, h1, h2⟩, h3⟩ := BayR.open h
  dsimp only at h1 h2 h3
  rw [inP_D h1] at hv
  cases hp : inP sp k with
  | none => rw [hp] at hv; cases hv
  | some p =>
    rw [hp] at hv
    have hv : p.v = v := by injection hv
    obtain ⟨l1, s, l2, rfl, -, hs⟩ := inP_split hp
    have h4 := bayOutP hs w h3
    have := h4.tail
    rw [← hv]
    exact DiskR.know this
theorem two_ok {W : World} {R : List SProp} {ao : Option Addr} {cap : Nat} {l : List UInt8} (n : Nat) (hn : n < 65536) (hl : l.length ≤ 1000000000) :
    Does W Tryz.prog 50 [.slice ao l.length cap, .int .i64 n] (OwnB (ao, cap) l :: R) (β := Option Addr × Nat) (fun _ => True) (fun x => sliceB x (l ++ lowBytes n 2)) (fun x => OwnB x (l ++ lowBytes n 2) :: R) := by
  (refine Does.enter Tryz.func50 Tryz.ntmps50 rfl rfl ?_)
  (refine w ?_; repeat ((first | refine VO.step rfl rfl ?_ | refine VD.end rfl rfl rfl ?_ | refine VD.mid rfl rfl rfl ?_); refine OpV.box rfl rfl rfl ?_; intro _; refine w ?_))
  have e7 : Value.int .u8 (IntKind.u8.wrap (n : Int)) = byteV (UInt8.ofNat n) := by rw [wrap8_of]; simp [byteV]
  have e10 : Value.int .u8 (IntKind.u8.wrap ((n / 2 ^ Int.toNat 8 : Nat) : Int)) = byteV (UInt8.ofNat (n / 256)) := by rw [wrap8_of]; simp [byteV]
  refine VO.re 7 (byteV (UInt8.ofNat n)) rfl e7 ?_
  refine VO.re 10 (byteV (UInt8.ofNat (n / 256))) rfl e10 ?_
  ((first | refine VO.step rfl rfl ?_ | refine VD.end rfl rfl rfl ?_ | refine VD.mid rfl rfl rfl ?_); refine OpV.buildSlice1 st_22 rfl rfl (by first | (simp; done) | simp [Value.oneCell']) (by decide) rfl ?_; intro nb)
  ((first | refine VO.step rfl rfl ?_ | refine VD.end rfl rfl rfl ?_ | refine VD.mid rfl rfl rfl ?_); refine OpV.appendRow st_22 rfl rfl (by (repeat first | exact .head | apply Hole.tail)) (by (focus repeat first | exact .head _ | apply List.Mem.tail)) rfl (by first | (simp; done) | simp [Value.oneCell']) ?_ ?_ rfl ?_)
  · simp only [maxLen]; omega
  · omega
  intro ao' cap'
  (refine w ?_; repeat ((first | refine VO.step rfl rfl ?_ | refine VD.end rfl rfl rfl ?_ | refine VD.mid rfl rfl rfl ?_); refine OpV.box rfl rfl rfl ?_; intro _; refine w ?_))
  have e : bytes (l ++ lowBytes n 2) = bytes l ++ [byteV (UInt8.ofNat n), byteV (UInt8.ofNat (n / 256))] := by
    unfold bytes
    rw [List.map_append]
    simp [lowBytes]
  have el : (l ++ lowBytes n 2).length = l.length + 2 := by rw [List.length_append, lowBytes_length]
  refine VE.done (ao', cap') rfl trivial (by rw [sliceB, el]) ?_
  unfold OwnB
  rw [e, el]
  exact Ent.re
theorem and32lo (a : BitVec 32) : IntKind.u32.wrap ((BitVec.ofInt IntKind.u32.bits (a.toNat : Int) &&& BitVec.ofInt IntKind.u32.bits 65535).toNat : Int) = ((a.toNat % 65536 : Nat) : Int) := by
  have h1 := and32 a 65535#32
  have h2 : (a &&& 65535#32).toNat = a.toNat % 65536 := by
    rw [BitVec.toNat_and]
    exact Nat.and_two_pow_sub_one_eq_mod _ 16
  rw [h2] at h1
  exact h1
theorem lowBytes_two (S : Nat) : lowBytes (S % 65536) 2 ++ lowBytes (S / 65536) 2 = lowBytes S 4 := by
  have e0 : UInt8.ofNat (S % 65536) = UInt8.ofNat S := by apply UInt8.toNat_inj.1; simp; try omega
  have e1 : UInt8.ofNat (S % 65536 / 256) = UInt8.ofNat (S / 256) := by apply UInt8.toNat_inj.1; simp; try omega
  have e2 : UInt8.ofNat (S / 65536 / 256) = UInt8.ofNat (S / 16777216) := by rw [Nat.div_div_eq_div_mul]
  simp only [lowBytes, Nat.pow_zero, Nat.div_one, Nat.pow_one, List.nil_append, List.cons_append, e0, e1, e2, Nat.reducePow]
/-! ### Save -/
def magicI : List UInt8 := [83, 80, 73, 77, 1]
/-- What a slot's disk would bring through a cut. -/
def diskB (D : BayD) (k : Nat) : List UInt8 := if (D.dev k).any (fun v => !v.k.failed) then (D.image k).1 else []
def slotB (D : BayD) (k : Nat) : List UInt8 := lowBytes ((diskB D k).length / 128) 2 ++ diskB D k
def imgBody (D : BayD) : List UInt8 := magicI ++ [UInt8.ofNat D.slots.length] ++ (List.range D.slots.length).flatMap (slotB D)
def sealI (b : List UInt8) : List UInt8 := b ++ lowBytes (crcS b).toNat 4
def imgS (D : BayD) : List UInt8 := sealI (imgBody D)
theorem diskB_len {W w : World} {R : List SProp} {b : Nat} {D : BayD} (h : Holds W (BayR b D :: R) w) (k : Nat) : (diskB D k).length ≤ 1048576 := by
  unfold diskB
  split
  · unfold BayD.image
    cases hd : D.dev (k : Int) with
    | none => simp
    | some v =>
      have hk := bayOkI h k v hd
      show v.k.img.length ≤ _
      unfold DiskD.img
      split
      · simp
      · rw [img_len hk]
        have := hk.size
        omega
  · simp
set_option maxHeartbeats 4000000 in
theorem save_ok {W : World} {R : List SProp} (b : Nat) (D : BayD) :
    Does W Tryz.prog 16 [.pointer (some ⟨b, 0, none⟩)] (BayR b D :: R) (β := Option Addr × Nat) (fun _ => True) (fun x => .tuple #[sliceB x (imgS D), .int .u16 0]) (fun x => OwnB x (imgS D) :: BayR b D :: R) := by
  (refine Does.enter Tryz.func16 Tryz.ntmps16 rfl rfl ?_)
  refine VC.know (fun w hw => BayR.know hw) ?_
  intro hn17
  refine VC.know (p := ∀ k, (diskB D k).length ≤ 1048576) (fun w hw => diskB_len hw) ?_
  intro hdl
  (refine w ?_; repeat ((first | refine VO.step rfl rfl ?_ | refine VD.end rfl rfl rfl ?_ | refine VD.mid rfl rfl rfl ?_); refine OpV.box rfl rfl rfl ?_; intro _; refine w ?_))
  ((first | refine VO.step rfl rfl ?_ | refine VD.end rfl rfl rfl ?_ | refine VD.mid rfl rfl rfl ?_); refine OpV.buildSlice1 st_22 rfl rfl (by first | (simp; done) | simp [Value.oneCell']) (by decide) rfl ?_; intro nb)
  (first | refine VO.step rfl rfl ?_ | refine VD.end rfl rfl rfl ?_ | refine VD.mid rfl rfl rfl ?_)
  refine OpV.markConst tab_ok rfl rfl rfl (by (repeat first | exact .head | apply Hole.tail)) rfl ?_
  (refine w ?_; repeat ((first | refine VO.step rfl rfl ?_ | refine VD.end rfl rfl rfl ?_ | refine VD.mid rfl rfl rfl ?_); refine OpV.box rfl rfl rfl ?_; intro _; refine w ?_))
  refine VO.ent (H' := BayR b D :: MRow nb 5 (bytes magicI) :: R) Ent.re ?_
  ((first | refine VO.step rfl rfl ?_ | refine VD.end rfl rfl rfl ?_ | refine VD.mid rfl rfl rfl ?_); refine OpV.call rfl rfl (fun _ _ => by simp) (bayslots_ok b D) Ent.refl rfl ?_)
  intro _ _
  (refine w ?_; repeat ((first | refine VO.step rfl rfl ?_ | refine VD.end rfl rfl rfl ?_ | refine VD.mid rfl rfl rfl ?_); refine OpV.box rfl rfl rfl ?_; intro _; refine w ?_))
  refine VO.re 12 (byteV (UInt8.ofNat D.slots.length)) rfl (by rw [wrap8_of]; simp [byteV]) ?_
  ((first | refine VO.step rfl rfl ?_ | refine VD.end rfl rfl rfl ?_ | refine VD.mid rfl rfl rfl ?_); refine OpV.buildSlice1 st_22 rfl rfl (by first | (simp; done) | simp [Value.oneCell']) (by decide) rfl ?_; intro nb2)
  (first | refine VO.step rfl rfl ?_ | refine VD.end rfl rfl rfl ?_ | refine VD.mid rfl rfl rfl ?_)
  refine OpV.appendFull (k := 5) (m := 1) (news := [byteV (UInt8.ofNat D.slots.length)]) st_22 rfl rfl (Rds.mrow (bytes_one _) (by (focus repeat first | exact .head _ | apply List.Mem.tail)) rfl) (fun w hw => (Sees.row (ys := []) (by simp [byteV, Value.oneCell']) rfl hw (by (focus repeat first | exact .head _ | apply List.Mem.tail))).src st_22.und) (by decide) (by decide) (by decide) rfl ?_
  intro ao cap
  (refine w ?_; repeat ((first | refine VO.step rfl rfl ?_ | refine VD.end rfl rfl rfl ?_ | refine VD.mid rfl rfl rfl ?_); refine OpV.box rfl rfl rfl ?_; intro _; refine w ?_))
  refine VO.ent (H' := BayR b D :: OwnB (ao, cap) (magicI ++ [UInt8.ofNat D.slots.length]) :: R) Ent.re ?_
  ((first | refine VO.step rfl rfl ?_ | refine VD.end rfl rfl rfl ?_ | refine VD.mid rfl rfl rfl ?_); refine OpV.call rfl rfl (fun _ _ => by simp) (bayslots_ok b D) Ent.refl rfl ?_)
  intro _ _
  (refine w ?_; repeat ((first | refine VO.step rfl rfl ?_ | refine VD.end rfl rfl rfl ?_ | refine VD.mid rfl rfl rfl ?_); refine OpV.box rfl rfl rfl ?_; intro _; refine w ?_))
  refine VC.loop (α := Nat × Option Addr × Nat) (fun y => y.1 ≤ D.slots.length) (fun y => OwnB (y.2.1, y.2.2) (magicI ++ [UInt8.ofNat D.slots.length] ++ (List.range y.1).flatMap (slotB D)) :: BayR b D :: R)
    (fun y => [(0, .pointer (some ⟨b, 0, none⟩)), (4, .slice y.2.1 (magicI ++ [UInt8.ofNat D.slots.length] ++ (List.range y.1).flatMap (slotB D)).length y.2.2), (16, .int .i64 D.slots.length), (17, .int .i64 y.1)]) (fun y => D.slots.length - y.1) rfl
    (0, ao, cap) (Nat.zero_le _) (by rw [List.range_zero, List.flatMap_nil, List.append_nil]; exact Ent.re) ⟨rfl, rfl, rfl, rfl, trivial⟩ ?_
  rintro ⟨i, yo, yc⟩ hi
  dsimp only at hi ⊢
  have hLb : (magicI ++ [UInt8.ofNat D.slots.length] ++ (List.range i).flatMap (slotB D)).length ≤ 100000000 := by
    rw [List.length_append]
    have h1 : ((List.range i).flatMap (slotB D)).length ≤ i * 1048578 := by
      clear hi
      induction i with
      | zero => simp
      | succ i ih =>
        rw [List.range_succ, List.flatMap_append, List.length_append]
        have := hdl i
        simp only [List.flatMap_cons, List.flatMap_nil, List.append_nil, slotB, List.length_append, lowBytes_length]
        omega
    have h2 : (magicI ++ [UInt8.ofNat D.slots.length]).length = 6 := rfl
    rw [h2]
    have h3 : i * 1048578 ≤ 17 * 1048578 := Nat.mul_le_mul_right _ (by omega)
    omega
  have hst : (List.range (i + 1)).flatMap (slotB D) = (List.range i).flatMap (slotB D) ++ slotB D i := by rw [List.range_succ, List.flatMap_append]; simp
  generalize hL : magicI ++ [UInt8.ofNat D.slots.length] ++ (List.range i).flatMap (slotB D) = L at hLb ⊢
  (refine w ?_; repeat ((first | refine VO.step rfl rfl ?_ | refine VD.end rfl rfl rfl ?_ | refine VD.mid rfl rfl rfl ?_); refine OpV.box rfl rfl rfl ?_; intro _; refine w ?_))
  (refine VC.cond rfl rfl ?_ ?_ <;> intro hc)
  · have hlt : i < D.slots.length := by have := of_decide_eq_true hc; omega
    clear hc
    (refine w ?_; repeat ((first | refine VO.step rfl rfl ?_ | refine VD.end rfl rfl rfl ?_ | refine VD.mid rfl rfl rfl ?_); refine OpV.box rfl rfl rfl ?_; intro _; refine w ?_))
    refine VO.ent (H' := BayR b D :: OwnB (yo, yc) L :: R) Ent.re ?_
    ((first | refine VO.step rfl rfl ?_ | refine VD.end rfl rfl rfl ?_ | refine VD.mid rfl rfl rfl ?_); refine OpV.call rfl rfl (fun _ _ => by simp) (bayhas_ok b D (i : Int)) Ent.refl rfl ?_)
    intro _ _
    (refine w ?_; repeat ((first | refine VO.step rfl rfl ?_ | refine VD.end rfl rfl rfl ?_ | refine VD.mid rfl rfl rfl ?_); refine OpV.box rfl rfl rfl ?_; intro _; refine w ?_))
    (refine VC.join (α := (Option Addr × Nat)) (fun z => z.1 = none → (diskB D i).length = 0) (fun z => OwnB z (diskB D i) :: BayR b D :: OwnB (yo, yc) L :: R) (fun z => [(0, .pointer (some ⟨b, 0, none⟩)), (4, .slice yo L.length yc), (6, sliceB z (diskB D i)), (16, .int .i64 D.slots.length), (17, .int .i64 i)]) ?_ ?_)
    · intro Q2 jn
      have hdb : diskB D i = if (D.dev i).any (fun v => !v.k.failed) then (D.image i).1 else [] := rfl
      (refine VC.cond rfl rfl ?_ ?_ <;> intro hc)
      · rw [hc, if_pos rfl] at hdb
        (refine w ?_; repeat ((first | refine VO.step rfl rfl ?_ | refine VD.end rfl rfl rfl ?_ | refine VD.mid rfl rfl rfl ?_); refine OpV.box rfl rfl rfl ?_; intro _; refine w ?_))
        ((first | refine VO.step rfl rfl ?_ | refine VD.end rfl rfl rfl ?_ | refine VD.mid rfl rfl rfl ?_); refine OpV.call rfl rfl (fun _ _ => by simp) (bayimage_ok b D (i : Int)) Ent.refl rfl ?_)
        rintro ⟨xo, xc⟩ hx
        rw [← hdb] at hx ⊢
        (refine w ?_; repeat ((first | refine VO.step rfl rfl ?_ | refine VD.end rfl rfl rfl ?_ | refine VD.mid rfl rfl rfl ?_); refine OpV.box rfl rfl rfl ?_; intro _; refine w ?_))
        (refine jn.to ((xo, xc) : Option Addr × Nat) hx ⟨rfl, rfl, rfl, rfl, rfl, trivial⟩ ?_; (try dsimp only); exact Ent.re)
      · rw [hc, if_neg (by decide)] at hdb
        (refine w ?_; repeat ((first | refine VO.step rfl rfl ?_ | refine VD.end rfl rfl rfl ?_ | refine VD.mid rfl rfl rfl ?_); refine OpV.box rfl rfl rfl ?_; intro _; refine w ?_))
        refine VE.ent (fun w hw => Holds.ownNil 5 1 hw) ?_
        refine jn.to ((none, 0) : Option Addr × Nat) (fun _ => by rw [hdb]; rfl) ⟨rfl, rfl, asV rfl (by rw [hdb]; rfl), rfl, rfl, trivial⟩ ?_
        rw [hdb]
        exact Ent.re
    · rintro ⟨zo, zc⟩ hz
      have hdi := hdl i
      (refine w ?_; repeat ((first | refine VO.step rfl rfl ?_ | refine VD.end rfl rfl rfl ?_ | refine VD.mid rfl rfl rfl ?_); refine OpV.box rfl rfl rfl ?_; intro _; refine w ?_))
      (first | refine VO.pure rfl rfl (PureAt.quo (a := (diskB D i).length) (b := 128) rfl rfl (by decide) (IntWalk.i64_in _ ⟨by omega, by omega⟩)) rfl ?_ | refine VD.take rfl rfl rfl (PureAt.quo (a := (diskB D i).length) (b := 128) rfl rfl (by decide) (IntWalk.i64_in _ ⟨by omega, by omega⟩)) rfl ?_ | refine VQ.pure rfl rfl (PureAt.quo (a := (diskB D i).length) (b := 128) rfl rfl (by decide) (IntWalk.i64_in _ ⟨by omega, by omega⟩)) rfl ?_ | refine VD.end rfl rfl rfl (OpV.pure (PureAt.quo (a := (diskB D i).length) (b := 128) rfl rfl (by decide) (IntWalk.i64_in _ ⟨by omega, by omega⟩)) rfl ?_))
      (refine w ?_; repeat ((first | refine VO.step rfl rfl ?_ | refine VD.end rfl rfl rfl ?_ | refine VD.mid rfl rfl rfl ?_); refine OpV.box rfl rfl rfl ?_; intro _; refine w ?_))
      refine VO.ent (H' := OwnB (yo, yc) L :: OwnB (zo, zc) (diskB D i) :: BayR b D :: R) Ent.re ?_
      ((first | refine VO.step rfl rfl ?_ | refine VD.end rfl rfl rfl ?_ | refine VD.mid rfl rfl rfl ?_); refine OpV.call rfl rfl (fun _ _ => by simp) (two_ok ((diskB D i).length / 128) (by omega) (by omega)) Ent.refl rfl ?_)
      rintro ⟨ao2, cap2⟩ _
      (refine w ?_; repeat ((first | refine VO.step rfl rfl ?_ | refine VD.end rfl rfl rfl ?_ | refine VD.mid rfl rfl rfl ?_); refine OpV.box rfl rfl rfl ?_; intro _; refine w ?_))
      (first | refine VO.step rfl rfl ?_ | refine VD.end rfl rfl rfl ?_ | refine VD.mid rfl rfl rfl ?_)
      have hl2 : (L ++ lowBytes ((diskB D i).length / 128) 2).length ≤ 100000002 := by rw [List.length_append, lowBytes_length]; omega
      refine OpV.append st_22 rfl rfl .head (fun w hw => (Sees.own (e := 5) (bytes_one _) hw (.tail _ (.head _)) : Sees w 1 (sliceB (zo, zc) (diskB D i)) (diskB D i).length (bytes (diskB D i))).src st_22.und) (by simp only [maxLen]; omega) (by omega) rfl ?_
      intro ao3 cap3
      (refine w ?_; repeat ((first | refine VO.step rfl rfl ?_ | refine VD.end rfl rfl rfl ?_ | refine VD.mid rfl rfl rfl ?_); refine OpV.box rfl rfl rfl ?_; intro _; refine w ?_))
      have e : L ++ lowBytes ((diskB D i).length / 128) 2 ++ diskB D i = magicI ++ [UInt8.ofNat D.slots.length] ++ (List.range (i + 1)).flatMap (slotB D) := by
        rw [hst, ← hL, slotB]; simp only [List.append_assoc]
      have el : (L ++ lowBytes ((diskB D i).length / 128) 2).length + (diskB D i).length = (magicI ++ [UInt8.ofNat D.slots.length] ++ (List.range (i + 1)).flatMap (slotB D)).length := by rw [← e]; simp only [List.length_append]
      refine VE.round (i + 1, ao3, cap3) hlt (by dsimp only; omega) ⟨rfl, asV rfl (by rw [el]), rfl, asV rfl (by congr 1), trivial⟩ ?_
      dsimp only
      rw [el, show bytes (L ++ lowBytes ((diskB D i).length / 128) 2) ++ bytes (diskB D i) = bytes (magicI ++ [UInt8.ofNat D.slots.length] ++ (List.range (i + 1)).flatMap (slotB D)) by rw [← e]; unfold bytes; simp only [List.map_append]]
      exact Ent.re
  · have hge : i = D.slots.length := by have := of_decide_eq_false hc; omega
    clear hc
    subst hge
    have hL2 : L = imgBody D := hL.symm
    subst hL2
    have hs32 := crcS_lt (imgBody D)
    (refine w ?_; repeat ((first | refine VO.step rfl rfl ?_ | refine VD.end rfl rfl rfl ?_ | refine VD.mid rfl rfl rfl ?_); refine OpV.box rfl rfl rfl ?_; intro _; refine w ?_))
    refine VO.know (p := yo = none → (imgBody D).length = 0) (fun w hw => Holds.ownNone hw (.head _)) ?_
    intro hyn
    ((first | refine VO.step rfl rfl ?_ | refine VD.end rfl rfl rfl ?_ | refine VD.mid rfl rfl rfl ?_); refine OpV.call rfl rfl (fun _ _ => by simp) (sum_ok (cap := yc) (Rds.own (bytes_one _) (.head _) (by simp) hyn) (by omega)) Ent.refl rfl ?_)
    intro _ _
    (refine w ?_; repeat ((first | refine VO.step rfl rfl ?_ | refine VD.end rfl rfl rfl ?_ | refine VD.mid rfl rfl rfl ?_); refine OpV.box rfl rfl rfl ?_; intro _; refine w ?_))
    refine VO.re 42 (.int .i64 (((crcS (imgBody D)).toNat % 65536 : Nat) : Int)) rfl (by rw [and32lo, IntWalk.i64_in _ ⟨by omega, by omega⟩]) ?_
    generalize hS : (crcS (imgBody D)).toNat = S at *
    have hS2 : S < 4294967296 := hs32
    ((first | refine VO.step rfl rfl ?_ | refine VD.end rfl rfl rfl ?_ | refine VD.mid rfl rfl rfl ?_); refine OpV.call rfl rfl (fun _ _ => by simp) (two_ok (S % 65536) (by omega) (by omega)) Ent.refl rfl ?_)
    rintro ⟨ao2, cap2⟩ _
    (refine w ?_; repeat ((first | refine VO.step rfl rfl ?_ | refine VD.end rfl rfl rfl ?_ | refine VD.mid rfl rfl rfl ?_); refine OpV.box rfl rfl rfl ?_; intro _; refine w ?_))
    refine VO.re 46 (.int .i64 ((S / 65536 : Nat) : Int)) rfl (by rw [show (2 ^ Int.toNat 16 : Nat) = 65536 from rfl, IntWalk.i64_in _ ⟨by omega, by omega⟩]) ?_
    ((first | refine VO.step rfl rfl ?_ | refine VD.end rfl rfl rfl ?_ | refine VD.mid rfl rfl rfl ?_); refine OpV.call rfl rfl (fun _ _ => by simp) (two_ok (l := imgBody D ++ lowBytes (S % 65536) 2) (S / 65536) (by omega) (by rw [List.length_append, lowBytes_length]; omega)) Ent.refl rfl ?_)
    rintro ⟨ao3, cap3⟩ _
    (refine w ?_; repeat ((first | refine VO.step rfl rfl ?_ | refine VD.end rfl rfl rfl ?_ | refine VD.mid rfl rfl rfl ?_); refine OpV.box rfl rfl rfl ?_; intro _; refine w ?_))
    have e : imgBody D ++ lowBytes (S % 65536) 2 ++ lowBytes (S / 65536) 2 = imgS D := by
      unfold imgS sealI
      rw [hS, List.append_assoc, lowBytes_two]
    rw [e]
    exact VE.done (ao3, cap3) rfl trivial rfl Ent.refl
end Go.Proofs.YtpmmkmcbimnigaaGreat

