import Derived.Test.YtjebagmjcdaegaaGreatM7
import Derived.Recover
import Derived.WalkKit
import Derived.ProofKit
import Derived.OpenShut
/-! Text Sp. -/
set_option maxRecDepth 8000
set_option maxHeartbeats 16000000
set_option linter.unusedVariables false
set_option linter.unusedSimpArgs false
set_option linter.unusedSectionVars false
namespace Go.Sl
open Go Go.RowKit
section
variable {W : World} {P : Program} {n : Nat} {m : Md} {c : Code} {Q : Exit -> Act -> World -> Prop} {H H' L R G G' : List SProp} {f F : Fr} {N : List SProp -> Fr -> Prop}
variable {dst : Option Tmp} {d : Nat} {ty_ : TypeId} {pos : String} {after : Array Edge} {guard : Option (Nat × Bool)}
abbrev pan (v : Value) : List PanicEntry := [{ v, recovered := false }]
abbrev panR (v : Value) : List PanicEntry := [{ v, recovered := true }]
def DiesP (W : World) (v : Value) (G : List SProp) : Ending -> World -> Prop := fun e w' => e = .panicked (pan v) /\ Holds W G w'
def Dies (W : World) (P : Program) (g : FuncId) (args : List Value) (H : List SProp) (v : Value) (G : List SProp) : Prop := ∀ w, Holds W H w -> Calls P g args.toArray w (DiesP W v G)
theorem Dies.enter {g : FuncId} {fn : Func} {args : List Value} {v : Value} (hf : P.funcs[g]? = some fn) (hn : fn.ntmps = n) (hb : fn.body.isSome = true) (hl : Nat.ble args.length n = true)
  (h : VC W P n (bodyOf fn) (bodyPost P fn (DiesP W v G)) H (argF 0 args)) : Dies W P g args H v G := by
 unfold VC at h
 intro w hw
 obtain ⟨c, hc⟩ := Option.isSome_iff_exists.1 hb
 refine calls_of_wp hf hc ?_
 have hk := Knows.start args n (by simpa [Nat.ble_eq] using hl)
 rw [hn]
 have := h _ w hk hw
 rw [bodyOf, hc] at this
 exact this
theorem VE.dies {fn : Func} {v : Value} (hH : Ent W H G) : VE W n (bodyPost P fn (DiesP W v G)) (.panic (pan v)) H f := by
 unfold VE
 exact fun t w hk hw => ⟨rfl, rfl, hH w hw⟩
theorem VE.passPanic {ch : List PanicEntry} (h : VE W n Q (.panic ch) H f) : VE W n (thenC P c Q) (.panic ch) H f := by
 unfold VE at *; unfold thenC; exact h
theorem VE.blockPanic {ch : List PanicEntry} {i : Nat} (h : VE W n Q (.panic ch) H f) : VE W n (blockC i Q) (.panic ch) H f := by
 unfold VE at *; unfold blockC; exact h
theorem VE.loopPanic {ch : List PanicEntry} {α : Type} {A : α -> Prop} {G : α -> List SProp} {F : α -> Fr} {μ : α -> Nat} {k : Nat} (h : VE W n Q (.panic ch) H f) : VE W n (loopC W n A G F μ k Q) (.panic ch) H f := by
 unfold VE at *; unfold loopC; exact h
theorem VF.passPanic {ch : List PanicEntry} {r : Option Nat} (h : VF W n m Q (.panic ch) H f) : VF W n m (thenR r P c Q) (.panic ch) H f := by
 unfold VF at *; unfold thenR; exact fun hno t w hk hw => h hno t w hk hw
theorem VF.blockPanic {ch : List PanicEntry} {i : Nat} (h : VF W n m Q (.panic ch) H f) : VF W n m (blockR i Q) (.panic ch) H f := by
 unfold VF at *; unfold blockR; exact fun hno t w hk hw => h hno t w hk hw
theorem VF.loopPanic {ch : List PanicEntry} {α : Type} {A : α -> Prop} {G : α -> List SProp} {F : α -> Fr} {μ : α -> Nat} {k : Nat} (h : VF W n m Q (.panic ch) H f) : VF W n m (loopR W n m A G F μ k Q) (.panic ch) H f := by
 unfold VF at *; unfold loopR; exact fun hno t w hk hw => h hno t w hk hw
theorem OpV.callDies {x : Operand} {xs : Array Operand} {ats : Array TypeId} {g : FuncId} {cap : Array Value} {vs : List Value} {v : Value}
  (hx : evalX f x = some (.func (.func g) #[] cap)) (ha : argsX f xs.toList = some vs) (hc : ∀ a w, (callFunc g a).run P w = .ok (.enter g a) w) (spec : Dies W P g (vs ++ cap.toList) L v G)
  (hL : Ent W H L) (h : VE W n Q (.panic (pan v)) G f) :
  OpV W P n { dst := some d, op := .call { callee := .value x, args := xs, argTypes := ats }, type := ty_, pos, after, guard } Q H f N := by
 unfold VE at h
 unfold OpV
 intro t w hk hw K hK
 have hargs : xs.map (Act.eval ⟨t, []⟩) = vs.toArray := by
  have := hk.args ha
  apply Array.ext'
  simpa using this
 have hs := spec w (hL w hw)
 unfold Oper.wp execOp
 simp only [resolve, hk.eval hx, hargs, Deferred.ofValue, Go.invoke, Sem.run_bind, Sem.run_pure, Result.andThen_ok, hc, Oper.upon]
 have e : #[] ++ vs.toArray ++ cap = (vs ++ cap.toList).toArray := by simp
 rw [e]
 refine Calls.mono hs ?_
 rintro e w' ⟨rfl, hG⟩
 exact h t w' hk hG
theorem OpV.panic {x : Operand} {t : TypeId} {v : Value} (hx : evalX f x = some (.iface t v)) (h : VE W n Q (.panic (pan (.iface t v))) H f) : OpV W P n { dst, op := .panic x, type := ty_, pos, after, guard } Q H f N := by
 unfold VE at h
 unfold OpV
 intro tm w hk hw K hK
 unfold Oper.wp execOp
 simp only [hk.eval hx, Sem.run_bind, run_panic_iface, Result.andThen, Oper.upon]
 exact h tm w hk hw
theorem Does.enterD {g : FuncId} {fn : Func} {args : List Value} {β : Type} {A : β -> Prop} {r : β -> Value} {G : β -> List SProp} (hf : P.funcs[g]? = some fn) (hn : fn.ntmps = n) (hb : fn.body.isSome = true) (hl : Nat.ble args.length n = true)
  (h : VR W P n ⟨none, []⟩ (bodyOf fn) (bodyPostD P fn (Post W A r G)) H (argF 0 args)) : Does W P g args H A r G := by
 unfold Does
 unfold VR at h
 intro w hw
 obtain ⟨c, hc⟩ := Option.isSome_iff_exists.1 hb
 refine calls_of_wp_defers hf hc ?_
 have h2 := h (fun a w q => by obtain ⟨_, _, e, _⟩ := q; cases e) _ w (Knows.start args n (Nat.le_of_ble_eq_true hl)) hw
 rw [<- hn] at h2
 have h3 := wpIn_wide.1 h2
 simpa [bodyOf, hc] using h3
theorem VR.regionD (hc : regDraw c = some false) (h : VO W P n c 0 (shR [] Q) H f) : VR W P n ⟨none, []⟩ c Q H f := by
 have h := VC.region hc h
 unfold VC at h
 unfold VR
 intro hno t w hk hw
 refine wpIn_wide.2 (Code.wp_mono ?_ (h t w hk hw))
 intro e a w' q
 unfold shR at q
 have q := q hno
 have e2 : plusA a [] = a := by unfold plusA; rw [List.append_nil]
 rwa [e2] at q
theorem VO.deferLast {k : Nat} {x : Operand} {ats : Array TypeId} {fn : Fn} {cap : Array Value} (ho : (regOps c)[k]? = some { dst := none, op := .defer { callee := .value x, args := #[], argTypes := ats }, type := ty_, pos, after, guard := none }) (hl : (regOps c)[k + 1]? = none)
  (hx : evalX f x = some (.func fn #[] cap)) (h : VF W n ⟨none, [{ target := .fn fn cap, args := #[] }]⟩ Q .normal H f) : VO W P n c k (shR [] Q) H f := by
 unfold VF at h
 unfold VO
 intro t w hk hw
 rw [drop_at ho, List.drop_eq_nil_of_le (by simpa using hl)]
 unfold wpList
 rw [if_pos (by unfold Region.wanted; rfl)]
 left
 unfold Oper.wp execOp
 simp only [resolve, hk.eval hx, Deferred.ofValue, Sem.run_bind, Sem.run_pure, Result.andThen_ok, Oper.upon, wpList, Act.put, Array.map_empty, Array.empty_append]
 unfold shR
 intro hno
 exact h hno t w hk hw
def DoesD (W : World) (P : Program) (g : FuncId) (args : List Value) (H : List SProp) (u u' : FrameMode) (G : List SProp) : Prop := ∀ w, Holds W H w -> CallsD P g args.toArray u w (fun e u2 w' => u2 = u' /\ (∃ v, e = .returned v) /\ Holds W G w')
theorem run_results2 {fn : Func} {rv rv2 : ResultVar} {v v2 : Value} (hn : fn.results = #[rv, rv2]) (h1 : ResIs W P G' f rv v) (h2 : ResIs W P G' f rv2 v2) {t : Array Value} {w : World} (hk : Knows n f t) (hw : Holds W G' w) : (results fn t).run P w = .ok (.tuple #[v, v2]) w := by
  cases h1 with
  | tmp k1 =>
    have g1 := hk.get _ _ k1
    cases h2 with
    | tmp k2 => have g2 := hk.get _ _ k2; simp [results, hn, g1, g2]
    | cell k2 l2 => have g2 := hk.get _ _ k2; simp [results, hn, g1, g2, asAddr, l2 _ hw]
  | cell k1 l1 =>
    have g1 := hk.get _ _ k1
    cases h2 with
    | tmp k2 => have g2 := hk.get _ _ k2; simp [results, hn, g1, g2, asAddr, l1 _ hw]
    | cell k2 l2 => have g2 := hk.get _ _ k2; simp [results, hn, g1, g2, asAddr, l1 _ hw, l2 _ hw]
theorem leaves_one {fn : Func} {g : FuncId} {cap : Array Value} {t : Array Value} {u u' : FrameMode} {rv rv2 : ResultVar} {v v2 : Value} {β : Type} {A : β -> Prop} {r : β -> Value} {G : β -> List SProp} {w : World} (hu : u ≠ .run) (hs : settle u' = .returning)
  (hc : ∀ a w, (callFunc g a).run P w = .ok (.enter g a) w) (spec : DoesD W P g cap.toList H u u' G') (x : β) (hn : fn.results = #[rv, rv2]) (h1 : ResIs W P G' f rv v) (h2 : ResIs W P G' f rv2 v2) (hA : A x) (hv : .tuple #[v, v2] = r x) (hH : Ent W G' (G x))
  (hk : Knows n f t) (hw : Holds W H w) : Leaves P fn t (Post W A r G) [{ target := .fn (.func g) cap, args := #[] }] u w := by
 refine leaves_cons (f := g) (args := cap) hu (by simp [Go.invoke, hc]) ?_
 have hs2 := spec w hw
 simp only [Array.toArray_toList] at hs2
 refine CallsD.mono hs2 ?_
 rintro e u2 w' ⟨rfl, ⟨v0, rfl⟩, hG⟩
 simp only
 rw [hs]
 exact ⟨_, run_results2 hn h1 h2 hk hG, x, hA, by rw [hv], hH _ hG⟩
theorem VF.leaveRet {fn : Func} {g : FuncId} {cap : Array Value} {rv rv2 : ResultVar} {v v2 : Value} {e : Exit} {β : Type} {A : β -> Prop} {r : β -> Value} {G : β -> List SProp} (he : e = .ret \/ e = .normal)
  (hc : ∀ a w, (callFunc g a).run P w = .ok (.enter g a) w) (spec : DoesD W P g cap.toList H .returning .returning G') (x : β) (hn : fn.results = #[rv, rv2]) (h1 : ResIs W P G' f rv v) (h2 : ResIs W P G' f rv2 v2) (hA : A x) (hv : .tuple #[v, v2] = r x) (hH : Ent W G' (G x)) :
  VF W n ⟨none, [{ target := .fn (.func g) cap, args := #[] }]⟩ (bodyPostD P fn (Post W A r G)) e H f := by
 unfold VF
 intro _ t w hk hw
 rcases he with rfl | rfl <;> exact leaves_one (by simp) rfl hc spec x hn h1 h2 hA hv hH hk hw
theorem VF.leavePanic {fn : Func} {g : FuncId} {cap : Array Value} {rv rv2 : ResultVar} {v v2 pv : Value} {β : Type} {A : β -> Prop} {r : β -> Value} {G : β -> List SProp}
  (hc : ∀ a w, (callFunc g a).run P w = .ok (.enter g a) w) (spec : DoesD W P g cap.toList H (.panicking (pan pv)) (.panicking (panR pv)) G') (x : β) (hn : fn.results = #[rv, rv2]) (h1 : ResIs W P G' f rv v) (h2 : ResIs W P G' f rv2 v2) (hA : A x) (hv : .tuple #[v, v2] = r x) (hH : Ent W G' (G x)) :
  VF W n ⟨none, [{ target := .fn (.func g) cap, args := #[] }]⟩ (bodyPostD P fn (Post W A r G)) (.panic (pan pv)) H f := by
 unfold VF
 intro _ t w hk hw
 exact leaves_one (by simp) rfl hc spec x hn h1 h2 hA hv hH hk hw
theorem DoesD.enterS {g : FuncId} {fn : Func} {args : List Value} {u u' : FrameMode} {v1 : Value} {d1 d2 : Nat} {t1 t2 : TypeId} {p1 p2 : String} {a1 a2 : Array Edge} (hf : P.funcs[g]? = some fn) (hn : fn.ntmps = n) (hb : fn.body.isSome = true) (hl : Nat.ble args.length n = true) (hsq : isSeq (bodyOf fn) = true)
    (hr : regDraw (Cd.l (bodyOf fn)) = some false) (ho : regOps (Cd.l (bodyOf fn)) = [{ dst := some d1, op := .call { callee := .builtin .recover, args := #[], argTypes := #[] }, type := t1, pos := p1, after := a1, guard := none }, { dst := some d2, op := .assign (.tmp d1), type := t2, pos := p2, after := a2, guard := none }])
    (hd1 : Nat.blt d1 n = true) (hd2 : Nat.blt d2 n = true) (hu : (∃ v, u = .panicking (pan v) /\ u' = .panicking (panR v) /\ v1 = v) \/ (u = .returning /\ u' = .returning /\ v1 = .nilIface))
    (h : VC W P n (Cd.r (bodyOf fn)) (bodyPost P fn (fun e w' => (∃ v, e = .returned v) /\ Holds W G w')) H ((d2, v1) :: (d1, v1) :: argF 0 args)) : DoesD W P g args H u u' G := by
  unfold VC at h
  intro w hw
  obtain ⟨c, hc⟩ := Option.isSome_iff_exists.1 hb
  refine callsD_of_wpS hf hc fun c₀ cs hm => ?_
  have hbo : bodyOf fn = c := by rw [bodyOf, hc]; rfl
  rw [hbo] at hsq hr ho h
  cases c <;> simp [isSeq] at hsq
  rename_i x y
  simp only [Cd.l, Cd.r] at hr ho h
  cases x <;> simp [regDraw] at hr
  rename_i id ops dr
  subst hr
  simp only [regOps] at ho
  have hops : ops = #[{ dst := some d1, op := .call { callee := .builtin .recover, args := #[], argTypes := #[] }, type := t1, pos := p1, after := a1, guard := none }, { dst := some d2, op := .assign (.tmp d1), type := t2, pos := p2, after := a2, guard := none }] := by
    apply Array.ext'; simpa using ho
  subst hops
  have hk := Knows.start args n (Nat.le_of_ble_eq_true hl)
  rw [hn] at *
  obtain ⟨cs', hrec, hcs⟩ : ∃ cs', (recoverD (c₀ :: cs) = some (v1, cs') \/ (recoverD (c₀ :: cs) = none /\ v1 = .nilIface /\ cs' = c₀ :: cs)) /\ cs' = { c₀ with mode := u' } :: cs := by
    rcases hu with ⟨v, h1, h2, h3⟩ | ⟨h1, h2, h3⟩
    · refine ⟨_, .inl ?_, rfl⟩
      rw [h1] at hm
      unfold recoverD
      simp only [hm, h2, h3]
    · refine ⟨_, .inr ⟨?_, h3, rfl⟩, ?_⟩
      · rw [h1] at hm
        unfold recoverD
        simp only [hm]
      · rw [h2]; rw [h1] at hm; cases c₀; simp_all
  apply wpS_seq
  apply wpS_region
  have k1 := hk.put (v := v1) hd1
  have k2 := k1.put (v := v1) hd2
  have ev : Act.eval ⟨(args.toArray ++ Array.replicate (n - args.toArray.size) undef).setIfInBounds d1 v1, []⟩ (.tmp d1) = v1 := k1.eval (by simp [evalX, look])
  have h2 := h _ w k2 hw
  have hfin : y.wpS P (bodyPostS P fn c₀ cs fun e u2 w' => u2 = u' /\ (∃ v, e = .returned v) /\ Holds W G w') ⟨((args.toArray ++ Array.replicate (n - args.toArray.size) undef).setIfInBounds d1 v1).setIfInBounds d2 v1, []⟩ cs' w := by
    refine wpS_of_wp (Code.wp_mono ?_ h2)
    intro e a w' q
    cases e with
    | normal =>
      obtain ⟨q1, v, q2, q3⟩ := q
      exact ⟨q1, u', hcs, v, q2, rfl, ⟨v, rfl⟩, q3.2⟩
    | ret =>
      obtain ⟨q1, v, q2, q3⟩ := q
      exact ⟨q1, u', hcs, v, q2, rfl, ⟨v, rfl⟩, q3.2⟩
    | panic ch => obtain ⟨_, ⟨v, e⟩, _⟩ := q; cases e
    | outgrown => obtain ⟨⟨v, e⟩, _⟩ := q; cases e
    | exit i => exact q.elim
    | goto l => exact q.elim
  have hsnd : wpOpsS P #[{ dst := some d1, op := .call { callee := .builtin .recover, args := #[], argTypes := #[] }, type := t1, pos := p1, after := a1, guard := none }, { dst := some d2, op := .assign (.tmp d1), type := t2, pos := p2, after := a2, guard := none }]
      (Exit.thenS (y.wpS P (bodyPostS P fn c₀ cs fun e u2 w' => u2 = u' /\ (∃ v, e = .returned v) /\ Holds W G w')) (bodyPostS P fn c₀ cs fun e u2 w' => u2 = u' /\ (∃ v, e = .returned v) /\ Holds W G w')) [1] ⟨(args.toArray ++ Array.replicate (n - args.toArray.size) undef).setIfInBounds d1 v1, []⟩ cs' w := by
    unfold wpOpsS
    simp only [List.getElem?_toArray, List.getElem?_cons_zero, List.getElem?_cons_succ, Region.wanted]
    rw [if_pos trivial]
    have e2 : (execOp (Act.eval ⟨(args.toArray ++ Array.replicate (n - args.toArray.size) undef).setIfInBounds d1 v1, []⟩) { dst := some d2, op := .assign (.tmp d1), type := t2, pos := p2, after := a2, guard := none }).run P w = .ok (.value v1) w := by
      unfold execOp
      simp only [ev, Sem.run_pure]
    rw [e2]
    simp only [Oper.upon, wpOpsS, Act.put, Exit.thenS]
    exact hfin
  show wpOpsS P _ _ [0, 1] _ _ _
  unfold wpOpsS
  simp only [List.getElem?_toArray, List.getElem?_cons_zero, Region.wanted]
  rw [if_pos trivial]
  have e1 : (execOp (Act.eval ⟨args.toArray ++ Array.replicate (n - args.toArray.size) undef, []⟩) { dst := some d1, op := .call { callee := .builtin .recover, args := #[], argTypes := #[] }, type := t1, pos := p1, after := a1, guard := none }).run P w = .ok .recover w := by
    unfold execOp
    simp only [resolve, Go.invoke, builtin, Sem.run_bind, Sem.run_pure, Result.andThen_ok]
  rw [e1]
  simp only
  rcases hrec with h3 | ⟨h3, rfl, rfl⟩
  · rw [h3]
    exact hsnd
  · rw [h3]
    exact hsnd
end
attribute [irreducible] Dies DoesD
section
variable {W w : World} {P : Program} {n : Nat} {Q : Exit -> Act -> World -> Prop} {H : List SProp} {f : Fr} {N : List SProp -> Fr -> Prop} {d : Nat} {ty_ : TypeId} {pos : String} {after : Array Edge} {guard : Option (Nat × Bool)}
theorem Holds.appendFull {t tx e ty : TypeId} {z : Value} {sz by_ k m : Nat} {a : Addr} {x : Value} {xs news : List Value} (st : SliceT P t e z sz by_) (hw : Holds W H w) (hr : Rds W H sz (some a) k xs) (hs : Src P sz tx x m news w) (h0 : 0 < m)
  (h63 : k + m <= maxLen) (hb : (k + m) * by_ <= 140737488355328) :
  ∃ ao cap w', (Builtin.append_ #[t, tx] ty #[.slice (some a) k k, x]).run P w = .ok (.slice ao (k + m) cap) w' /\ Holds W (Own e sz (.slice ao (k + m) cap) (k + m) (xs ++ news) :: H) w' := by
 obtain ⟨i, hi, hz, hsz, hby⟩ := info_parts st.info
 subst hsz; subst hby
 have hsmall : k + m <= 9223372036854775807 := by simp only [maxLen] at h63; omega
 have hl := hr.len
 have hlen : (xs ++ news).length = (k + m) * i.size := by rw [List.length_append, hl, hs.newsLen, Nat.add_mul]
 have hge := grownCap_ge w (k + m) k e
 have hcm : grownCap w (k + m) k e <= maxLen := grownCap_le_maxLen w (k + m) k e h63
 have ha := (hw.drew).alloc (T := e) (cs := (xs ++ news) ++ (Builtin.zeroCells z.cells (grownCap w (k + m) k e - (k + m))).toList)
 have ee : ((xs ++ news) ++ (Builtin.zeroCells z.cells (grownCap w (k + m) k e - (k + m))).toList).toArray = (xs ++ news).toArray ++ Builtin.zeroCells z.cells (grownCap w (k + m) k e - (k + m)) := by
  apply Array.ext'; simp
 rw [ee] at ha
 have hold : (Builtin.firstCells i.size k (.slice (some a) k k)).run P w.drew = .ok xs.toArray w.drew :=
  run_firstCells_some w.drew i.size k _ k k xs hl fun j u hj => hr.cell w.drew hw.drew a rfl j u hj
 refine ⟨_, _, _, run_append_grow_src w t tx ty e i z st.und hi hz _ k k xs hold x m news hs (by omega) (by omega) (growslice_fits (by omega) hb), ?_⟩
 have ha2 : Holds W (Row w.heap.size e ((xs ++ news) ++ (Builtin.zeroCells z.cells (grownCap w (k + m) k e - (k + m))).toList) :: H) (w.drew.alloc (.cells ((xs ++ news).toArray ++ Builtin.zeroCells z.cells (grownCap w (k + m) k e - (k + m))) e)) := by
  have : (Row w.drew.heap.size e ((xs ++ news) ++ (Builtin.zeroCells z.cells (grownCap w (k + m) k e - (k + m))).toList)) = At w.heap.size (.cells ((xs ++ news).toArray ++ Builtin.zeroCells z.cells (grownCap w (k + m) k e - (k + m))) e (0, 0)) := by
   show At _ _ = _
   rw [ee]; rfl
  rw [this] at *
  exact ha
 refine Holds.ownShut hlen hge hcm ?_ ha2
 rw [List.length_append, hlen]
 simp only [Array.length_toList, size_zeroCells, st.zs, <- Nat.add_mul]
 congr 1; omega
theorem OpV.appendFull {s x : Operand} {t tx e : TypeId} {z : Value} {sz by_ k m : Nat} {a : Addr} {vx : Value} {xs news : List Value} (st : SliceT P t e z sz by_) (hs : evalX f s = some (.slice (some a) k k)) (hx : evalX f x = some vx)
  (hr : Rds W H sz (some a) k xs) (hsrc : ∀ w, Holds W H w -> Src P sz tx vx m news w) (h0 : 0 < m) (h63 : k + m <= maxLen) (hb : (k + m) * by_ <= 140737488355328) (hd : Nat.blt d n = true)
  (h : ∀ ao cap, N (Own e sz (.slice ao (k + m) cap) (k + m) (xs ++ news) :: H) ((d, .slice ao (k + m) cap) :: f)) :
  OpV W P n { dst := some d, op := .call { callee := .builtin .append, args := #[s, x], argTypes := #[t, tx] }, type := ty_, pos, after, guard } Q H f N := by
 refine OpV.run (α := Option Addr × Nat) (v := fun y => .slice y.1 (k + m) y.2) (G := fun y => Own e sz (.slice y.1 (k + m) y.2) (k + m) (xs ++ news) :: H) hd (fun tm w hk hw => ?_) (fun y => h y.1 y.2)
 obtain ⟨ao, cap, w', hr, h2⟩ := Holds.appendFull (ty := ty_) st hw hr (hsrc w hw) h0 h63 hb
 refine ⟨(ao, cap), w', ?_, h2⟩
 unfold execOp
 simp only [resolve, Go.invoke, builtin, Sem.run_bind, Sem.run_pure, Result.andThen_ok, List.map_toArray, List.map_cons, List.map_nil, hk.eval hs, hk.eval hx, hr]
end
end Go.Sl
/-! Text Sr. -/
namespace Go.Sl
open Go Go.RowKit
section
variable {W : World} {P : Program} {n : Nat} {m : Md} {c : Code} {Q : Exit -> Act -> World -> Prop} {H H' L R G G' : List SProp} {f F : Fr} {N : List SProp -> Fr -> Prop}
variable {dst : Option Tmp} {d : Nat} {ty_ : TypeId} {pos : String} {after : Array Edge} {guard : Option (Nat × Bool)}
theorem VO.deferA {k : Nat} {x : Operand} {xs : Array Operand} {ats : Array TypeId} {fn : Fn} {cap : Array Value} {vs : List Value} (ho : (regOps c)[k]? = some { dst := none, op := .defer { callee := .value x, args := xs, argTypes := ats }, type := ty_, pos, after, guard := none }) (hl : (regOps c)[k + 1]? = none)
  (hx : evalX f x = some (.func fn #[] cap)) (ha : argsX f xs.toList = some vs) (h : VF W n ⟨none, [{ target := .fn fn cap, args := vs.toArray }]⟩ Q .normal H f) : VO W P n c k (shR [] Q) H f := by
 unfold VF at h
 unfold VO
 intro t w hk hw
 have hargs : xs.map (Act.eval ⟨t, []⟩) = vs.toArray := by
  have := hk.args ha
  apply Array.ext'
  simpa using this
 rw [drop_at ho, List.drop_eq_nil_of_le (by simpa using hl)]
 unfold wpList
 rw [if_pos (by unfold Region.wanted; rfl)]
 left
 unfold Oper.wp execOp
 simp only [resolve, hk.eval hx, hargs, Deferred.ofValue, Sem.run_bind, Sem.run_pure, Result.andThen_ok, Oper.upon, wpList, Act.put, Array.empty_append]
 unfold shR
 intro hno
 exact h hno t w hk hw
theorem leaves_oneA {fn : Func} {g : FuncId} {cap : Array Value} {vs : List Value} {t : Array Value} {u u' : FrameMode} {rv rv2 : ResultVar} {v v2 : Value} {β : Type} {A : β -> Prop} {r : β -> Value} {G : β -> List SProp} {w : World} (hu : u ≠ .run) (hs : settle u' = .returning)
  (hc : ∀ a w, (callFunc g a).run P w = .ok (.enter g a) w) (spec : DoesD W P g (vs ++ cap.toList) H u u' G') (x : β) (hn : fn.results = #[rv, rv2]) (h1 : ResIs W P G' f rv v) (h2 : ResIs W P G' f rv2 v2) (hA : A x) (hv : .tuple #[v, v2] = r x) (hH : Ent W G' (G x))
  (hk : Knows n f t) (hw : Holds W H w) : Leaves P fn t (Post W A r G) [{ target := .fn (.func g) cap, args := vs.toArray }] u w := by
 refine leaves_cons (f := g) (args := vs.toArray ++ cap) hu (by simp [Go.invoke, hc]) ?_
 unfold DoesD at spec
 have hs2 := spec w hw
 rw [show (vs ++ cap.toList).toArray = vs.toArray ++ cap by apply Array.ext'; simp] at hs2
 refine CallsD.mono hs2 ?_
 rintro e u2 w' ⟨rfl, ⟨v0, rfl⟩, hG⟩
 simp only
 rw [hs]
 exact ⟨_, run_results2 hn h1 h2 hk hG, x, hA, by rw [hv], hH _ hG⟩
theorem VF.leaveRetA {fn : Func} {g : FuncId} {cap : Array Value} {vs : List Value} {rv rv2 : ResultVar} {v v2 : Value} {e : Exit} {β : Type} {A : β -> Prop} {r : β -> Value} {G : β -> List SProp} (he : e = .ret \/ e = .normal)
  (hc : ∀ a w, (callFunc g a).run P w = .ok (.enter g a) w) (spec : DoesD W P g (vs ++ cap.toList) H .returning .returning G') (x : β) (hn : fn.results = #[rv, rv2]) (h1 : ResIs W P G' f rv v) (h2 : ResIs W P G' f rv2 v2) (hA : A x) (hv : .tuple #[v, v2] = r x) (hH : Ent W G' (G x)) :
  VF W n ⟨none, [{ target := .fn (.func g) cap, args := vs.toArray }]⟩ (bodyPostD P fn (Post W A r G)) e H f := by
 unfold VF
 intro _ t w hk hw
 rcases he with rfl | rfl <;> exact leaves_oneA (by simp) rfl hc spec x hn h1 h2 hA hv hH hk hw
theorem VF.leavePanicA {fn : Func} {g : FuncId} {cap : Array Value} {vs : List Value} {rv rv2 : ResultVar} {v v2 pv : Value} {β : Type} {A : β -> Prop} {r : β -> Value} {G : β -> List SProp}
  (hc : ∀ a w, (callFunc g a).run P w = .ok (.enter g a) w) (spec : DoesD W P g (vs ++ cap.toList) H (.panicking (pan pv)) (.panicking (panR pv)) G') (x : β) (hn : fn.results = #[rv, rv2]) (h1 : ResIs W P G' f rv v) (h2 : ResIs W P G' f rv2 v2) (hA : A x) (hv : .tuple #[v, v2] = r x) (hH : Ent W G' (G x)) :
  VF W n ⟨none, [{ target := .fn (.func g) cap, args := vs.toArray }]⟩ (bodyPostD P fn (Post W A r G)) (.panic (pan pv)) H f := by
 unfold VF
 intro _ t w hk hw
 exact leaves_oneA (by simp) rfl hc spec x hn h1 h2 hA hv hH hk hw
theorem VF.leaveRet2 {fn : Func} {g g2 : FuncId} {cap cap2 : Array Value} {vs vs2 : List Value} {G2 : List SProp} {rv rv2 : ResultVar} {v v2 : Value} {e : Exit} {β : Type} {A : β -> Prop} {r : β -> Value} {G : β -> List SProp} (he : e = .ret \/ e = .normal)
  (hc : ∀ a w, (callFunc g a).run P w = .ok (.enter g a) w) (hc2 : ∀ a w, (callFunc g2 a).run P w = .ok (.enter g2 a) w) (spec : DoesD W P g (vs ++ cap.toList) H .returning .returning G2) (spec2 : DoesD W P g2 (vs2 ++ cap2.toList) G2 .returning .returning G') (x : β) (hn : fn.results = #[rv, rv2]) (h1 : ResIs W P G' f rv v) (h2 : ResIs W P G' f rv2 v2) (hA : A x) (hv : .tuple #[v, v2] = r x) (hH : Ent W G' (G x)) :
  VF W n ⟨none, [{ target := .fn (.func g) cap, args := vs.toArray }, { target := .fn (.func g2) cap2, args := vs2.toArray }]⟩ (bodyPostD P fn (Post W A r G)) e H f := by
 unfold VF
 intro _ t w hk hw
 have key : Leaves P fn t (Post W A r G) [{ target := .fn (.func g) cap, args := vs.toArray }, { target := .fn (.func g2) cap2, args := vs2.toArray }] .returning w := by
  refine leaves_cons (f := g) (args := vs.toArray ++ cap) (by simp) (by simp [Go.invoke, hc]) ?_
  unfold DoesD at spec
  have hs2 := spec w hw
  rw [show (vs ++ cap.toList).toArray = vs.toArray ++ cap by apply Array.ext'; simp] at hs2
  refine CallsD.mono hs2 ?_
  rintro e u2 w' ⟨rfl, ⟨v0, rfl⟩, hG⟩
  exact leaves_oneA (by simp [settle]) rfl hc2 spec2 x hn h1 h2 hA hv hH hk hG
 rcases he with rfl | rfl <;> exact key
theorem VR.deferOnly {df : List Deferred} {x : Operand} {xs : Array Operand} {ats : Array TypeId} {fn : Fn} {cap : Array Value} {vs : List Value} (hc : regDraw c = some false) (ho : regOps c = [{ dst := none, op := .defer { callee := .value x, args := xs, argTypes := ats }, type := ty_, pos, after, guard := none }])
  (hx : evalX f x = some (.func fn #[] cap)) (ha : argsX f xs.toList = some vs) (h : VF W n ⟨none, { target := .fn fn cap, args := vs.toArray } :: df⟩ Q .normal H f) : VR W P n ⟨none, df⟩ c Q H f := by
 unfold VF at h
 unfold VR
 cases c <;> simp [regDraw] at hc
 subst hc
 intro hno t w hk hw
 have ee : (Act.mk t df).eval = (Act.mk t []).eval := plusA_eval ⟨t, []⟩ df
 have hargs : xs.map (Act.eval ⟨t, df⟩) = vs.toArray := by
  rw [ee]
  have := hk.args ha
  apply Array.ext'
  simpa using this
 have hev : Act.eval ⟨t, df⟩ x = .func fn #[] cap := by rw [ee]; exact hk.eval hx
 simp only [regOps] at ho
 refine wpIn_region_list ?_
 rw [ho]
 unfold wpListIn
 rw [if_pos (by unfold Region.wanted; rfl)]
 unfold Oper.wpIn
 refine ⟨fun g _ => fen_fn _ g, ?_⟩
 rw [show (Oper.semAt (fen (Md.mk none df).r).round (Act.eval ⟨t, (Md.mk none df).df⟩) { dst := none, op := .defer { callee := .value x, args := xs, argTypes := ats }, type := ty_, pos, after, guard := none }).run P w = .ok (.defer { target := .fn fn cap, args := vs.toArray }) w by
  simp only [fen_round]
  unfold Oper.semAt execOp
  simp only [resolve, hev, hargs, Deferred.ofValue, Sem.run_bind, Sem.run_pure, Result.andThen_ok, Array.empty_append]]
 rw [Oper.uponIn_defer]
 unfold wpListIn
 exact h hno t w hk hw
theorem DoesD.enterP {g : FuncId} {fn : Func} {args : List Value} {u : FrameMode} (hf : P.funcs[g]? = some fn) (hn : fn.ntmps = n) (hb : fn.body.isSome = true) (hl : Nat.ble args.length n = true)
    (h : VC W P n (bodyOf fn) (bodyPost P fn (fun e w' => (∃ v, e = .returned v) /\ Holds W G w')) H (argF 0 args)) : DoesD W P g args H u u G := by
  unfold VC at h
  unfold DoesD
  intro w hw
  obtain ⟨c, hc⟩ := Option.isSome_iff_exists.1 hb
  refine callsD_of_wpS hf hc fun c₀ cs hm => ?_
  have hbo : bodyOf fn = c := by rw [bodyOf, hc]; rfl
  rw [hbo] at h
  have hk := Knows.start args n (Nat.le_of_ble_eq_true hl)
  rw [hn] at *
  have hcs : c₀ :: cs = { c₀ with mode := u } :: cs := by cases c₀; simp_all
  have h2 := h _ w hk hw
  refine wpS_of_wp (Code.wp_mono ?_ h2)
  intro e a w' q
  cases e with
  | normal =>
    obtain ⟨q1, v, q2, q3⟩ := q
    exact ⟨q1, u, hcs, v, q2, rfl, ⟨v, rfl⟩, q3.2⟩
  | ret =>
    obtain ⟨q1, v, q2, q3⟩ := q
    exact ⟨q1, u, hcs, v, q2, rfl, ⟨v, rfl⟩, q3.2⟩
  | panic ch => obtain ⟨_, ⟨v, e⟩, _⟩ := q; cases e
  | outgrown => obtain ⟨⟨v, e⟩, _⟩ := q; cases e
  | exit i => exact q.elim
  | goto l => exact q.elim
end
end Go.Sl
/-! Text Ia. -/
namespace Go.Proofs.YtjebagmjcdaegaaGreat
open Go.RowKit Go.Sl
attribute [local irreducible] Sl.Own
variable {W : World} {R : List SProp}
theorem loadfR_ok {ao : Option Addr} {cap : Nat} {l : List UInt8} (bx : Nat) (hl : Rds W R 1 ao l.length (bytes l)) (hlen : l.length <= 1000000000) (hcap : l.length <= cap) (X : List SProp) :
  Does W Tryz.prog 61 [.pointer (some ⟨bx, 0, none⟩)] (X ++ (Row bx 22 [.slice ao l.length cap] :: R)) (β := Nat) (fun _ => True) (fun d => if loadE l.length = 0 then .tuple #[.pointer (some ⟨d, 0, none⟩), .int .u16 0] else .tuple #[.pointer none, .int .u16 (loadE l.length)])
   (fun d => if loadE l.length = 0 then DiskR d ⟨chunks l (l.length / 128), [], false⟩ :: (X ++ (Row bx 22 [.slice ao l.length cap] :: R)) else X ++ (Row bx 22 [.slice ao l.length cap] :: R)) := by
 have pm : Ent W (X ++ (Row bx 22 [.slice ao l.length cap] :: R)) (Row bx 22 [.slice ao l.length cap] :: (X ++ R)) := fun w hw => hw.perm List.perm_middle
 have mp : Ent W (Row bx 22 [.slice ao l.length cap] :: (X ++ R)) (X ++ (Row bx 22 [.slice ao l.length cap] :: R)) := fun w hw => hw.perm List.perm_middle.symm
 (refine Does.enter Tryz.func61 Tryz.ntmps61 rfl rfl ?_)
 refine VC.ent pm ?_
 refine w ?_
 unfold loadE
 by_cases h : l.length % 128 = 0 /\ 1 <= l.length / 128 /\ l.length / 128 <= 8192
 ·
  obtain ⟨g1, g2, g3⟩ := h
  have hm : l.length / 128 * 128 = l.length := by omega
  simp only [if_pos (show l.length % 128 = 0 /\ 1 <= l.length / 128 /\ l.length / 128 <= 8192 from ⟨g1, g2, g3⟩), if_true]
  have hr : Rds W (Row bx 22 [.slice ao l.length cap] :: (X ++ R)) 1 ao (l.length / 128 * 128) (bytes l) := by rw [hm]; exact hl.ent (Ent.drop (Ent.dropAll X))
  have key := load_ok (cap := cap) hr g2 g3 (by omega)
  rw [hm] at key
  (refine zq ?_; refine zy rfl rfl (key) ?_)
  intro d _
  refine w ?_
  exact VE.done d rfl trivial rfl (fun w hw => hw.perm (List.Perm.cons _ List.perm_middle.symm))
 ·
  simp only [if_neg h, show ¬ ((40 : Int) = 0) by decide, if_false]
  have lb : ∀ {X : List SProp}, Does1 W Tryz.prog 62 [.slice ao l.length cap] X (.tuple #[.pointer none, .int .u16 40]) X := by
   intro X
   by_cases h : l.length % 128 = 0
   · exact load_big h (by omega) (by omega)
   · exact load_odd h
  (refine zq ?_; refine zy rfl rfl (lb) ?_; intro _ _)
  refine w ?_
  exact VE.done 0 rfl trivial rfl mp
theorem bayloadR_ok {ao : Option Addr} {cap : Nat} {l : List UInt8} (b : Nat) (D : BayD) (k : Int) (hl : Rds W R 1 ao l.length (bytes l)) (hlen : l.length <= 1000000000) (hcap : l.length <= cap) :
  Does1 W Tryz.prog 23 [.pointer (some ⟨b, 0, none⟩), .int .i64 k, .slice ao l.length cap] (BayR b D :: R) (.int .u16 (D.load k l).1) (BayR b (D.load k l).2 :: R) := by
 (refine Does.enter Tryz.func23 Tryz.ntmps23 rfl rfl ?_)
 refine w ?_; repeat (refine zj fun _ => ?_; refine w ?_)
 rename_i bx
 unfold BayD.load
 refine VO.pure rfl rfl (PureAt.makeFuncN rfl) rfl ?_
 refine w ?_; repeat (refine zj fun _ => ?_; refine w ?_)
 refine VO.ent (Ent.re (L := BayR b D :: Row bx 22 [.slice ao l.length cap] :: R)) ?_
 (refine zq ?_; refine zy rfl rfl (lay_ok (R := Row bx 22 [.slice ao l.length cap] :: R) (gm := 61) (cp := #[.pointer (some ⟨bx, 0, none⟩)]) b D k (loadE l.length) ⟨chunks l (l.length / 128), [], false⟩ (fun _ _ => by simp) (loadE_cases _) (fun X => loadfR_ok bx hl hlen hcap X)) ?_)
 intro _ _
 refine w ?_; repeat (refine zj fun _ => ?_; refine w ?_)
 refine VE.done1 rfl ?_ ?_
 · rfl
 · exact Ent.re
abbrev errI (e : Nat) : Value := .iface 25 (.int .u16 e)
theorem need_ok (e : Value) (h : e.oneCell' = true) : Does1 W Tryz.prog 13 [.bool true, e] R (.tuple #[]) R := by
 (refine Does.enter Tryz.func13 Tryz.ntmps13 rfl rfl ?_)
 refine w ?_
 (refine VE.done1N rfl ?_ ?_)
 · rfl
 · exact Ent.refl
theorem need_dies (e : Nat) : Dies W Tryz.prog 13 [.bool false, .int .u16 e] R (errI e) R := by
 refine Dies.enter Tryz.func13 Tryz.ntmps13 rfl rfl ?_
 refine w ?_
 obtain ⟨dsc, hu⟩ : ∃ k, Tryz.prog.underlying 25 = some (.int k) := ⟨_, rfl⟩
 refine VO.pure rfl rfl (PureAt.makeIface hu (fun ms h => by cases h) rfl) rfl ?_
 refine zq ?_
 refine OpV.panic rfl ?_
 exact VE.dies Ent.refl
theorem bayslots_ok (b : Nat) (D : BayD) : Does1 W Tryz.prog 25 [.pointer (some ⟨b, 0, none⟩)] (BayR b D :: R) (.int .i64 (D.slots.length : Nat)) (BayR b D :: R) := by
 (refine Does.enter Tryz.func25 Tryz.ntmps25 rfl rfl ?_)
 refine VC.obtain (fun w => BayR.open) ?_
 rintro ⟨⟨a, sp⟩, h1, h2⟩
 dsimp only at h1 h2 ⊢
 refine w ?_
 refine VE.done1 rfl ?_ ?_
 · rw [h1, List.length_map]
 · exact BayR.shut h1 h2
theorem bayOkI {W w : World} {R : List SProp} {b : Nat} {D : BayD} (h : Holds W (BayR b D :: R) w) (k : Int) (v : DevD) (hv : D.dev k = some v) : v.k.ok := by
  obtain ⟨⟨⟨a, sp⟩, h1, h2⟩, h3⟩ := BayR.open h
  dsimp only at h1 h2 h3
  rw [inP_D h1] at hv
  cases hp : inP sp k with
  | none => rw [hp] at hv; cases hv
  | some p =>
    rw [hp] at hv
    have hv : p.v = v := by injection hv
    obtain ⟨l1, s, l2, rfl, -, hs⟩ := inP_split hp
    have h4 := bayOutP hs w h3
    have := h4.tail
    rw [<- hv]
    exact DiskR.know this
theorem two_ok {ao : Option Addr} {cap : Nat} {l : List UInt8} (n : Nat) (hn : n < 65536) (hl : l.length <= 1000000000) :
  Does W Tryz.prog 64 [.slice ao l.length cap, .int .i64 n] (OwnB (ao, cap) l :: R) (β := Option Addr × Nat) (fun _ => True) (fun x => sliceB x (l ++ lowBytes n 2)) (fun x => OwnB x (l ++ lowBytes n 2) :: R) := by
 (refine Does.enter Tryz.func64 Tryz.ntmps64 rfl rfl ?_)
 refine w ?_
 have e7 : Value.int .u8 (IntKind.u8.wrap (n : Int)) = byteV (UInt8.ofNat n) := by rw [wrap8_of]; simp [byteV]
 have e10 : Value.int .u8 (IntKind.u8.wrap ((n / 2 ^ Int.toNat 8 : Nat) : Int)) = byteV (UInt8.ofNat (n / 256)) := by rw [wrap8_of]; simp [byteV]
 refine VO.re 7 (byteV (UInt8.ofNat n)) rfl e7 ?_
 refine VO.re 10 (byteV (UInt8.ofNat (n / 256))) rfl e10 ?_
 (refine zq ?_; refine OpV.buildSlice1 st_22 rfl rfl (by first | (simp; done) | simp [Value.oneCell']) (by decide) rfl ?_; intro nb)
 (refine zq ?_; refine OpV.appendRow st_22 rfl rfl zh zm rfl (by first | (simp; done) | simp [Value.oneCell']) ?_ ?_ rfl ?_)
 · simp only [maxLen]; omega
 · omega
 intro ao' cap'
 refine w ?_
 have e : bytes (l ++ lowBytes n 2) = bytes l ++ [byteV (UInt8.ofNat n), byteV (UInt8.ofNat (n / 256))] := by
  unfold bytes
  rw [List.map_append]
  simp [lowBytes]
 have el : (l ++ lowBytes n 2).length = l.length + 2 := by rw [List.length_append, lowBytes_length]
 refine VE.done (ao', cap') rfl trivial (by rw [sliceB, el]) ?_
 unfold OwnB
 rw [e, el]
 exact Ent.re
theorem and32lo (a : BitVec 32) : IntKind.u32.wrap ((BitVec.ofInt IntKind.u32.bits (a.toNat : Int) &&& BitVec.ofInt IntKind.u32.bits 65535).toNat : Int) = ((a.toNat % 65536 : Nat) : Int) := by
 have h1 := and32 a 65535#32
 have h2 : (a &&& 65535#32).toNat = a.toNat % 65536 := by
  rw [BitVec.toNat_and]
  exact Nat.and_two_pow_sub_one_eq_mod _ 16
 rw [h2] at h1
 exact h1
theorem lowBytes_two (S : Nat) : lowBytes (S % 65536) 2 ++ lowBytes (S / 65536) 2 = lowBytes S 4 := by
 have e0 : UInt8.ofNat (S % 65536) = UInt8.ofNat S := by apply UInt8.toNat_inj.1; simp; try omega
 have e1 : UInt8.ofNat (S % 65536 / 256) = UInt8.ofNat (S / 256) := by apply UInt8.toNat_inj.1; simp; try omega
 have e2 : UInt8.ofNat (S / 65536 / 256) = UInt8.ofNat (S / 16777216) := by rw [Nat.div_div_eq_div_mul]
 simp only [lowBytes, Nat.pow_zero, Nat.div_one, Nat.pow_one, List.nil_append, List.cons_append, e0, e1, e2, Nat.reducePow]
def magicI : List UInt8 := [83, 80, 73, 77, 1]
def diskB (D : BayD) (k : Nat) : List UInt8 := if (D.dev k).any (fun v => !v.k.failed) then (D.image k).1 else []
def slotB (D : BayD) (k : Nat) : List UInt8 := lowBytes ((diskB D k).length / 128) 2 ++ diskB D k
def imgBody (D : BayD) : List UInt8 := magicI ++ [UInt8.ofNat D.slots.length] ++ (List.range D.slots.length).flatMap (slotB D)
def sealI (b : List UInt8) : List UInt8 := b ++ lowBytes (crcS b).toNat 4
def imgS (D : BayD) : List UInt8 := sealI (imgBody D)
theorem diskB_len {W w : World} {R : List SProp} {b : Nat} {D : BayD} (h : Holds W (BayR b D :: R) w) (k : Nat) : (diskB D k).length <= 1048576 := by
  unfold diskB
  split
  · unfold BayD.image
    cases hd : D.dev (k : Int) with
    | none => simp
    | some v =>
      have hk := bayOkI h k v hd
      show v.k.img.length <= _
      unfold DiskD.img
      split
      · simp
      · rw [img_len hk]
        have := hk.size
        omega
  · simp
theorem save_ok (b : Nat) (D : BayD) :
    Does W Tryz.prog 24 [.pointer (some ⟨b, 0, none⟩)] (BayR b D :: R) (β := Option Addr × Nat) (fun _ => True) (fun x => .tuple #[sliceB x (imgS D), .int .u16 0]) (fun x => OwnB x (imgS D) :: BayR b D :: R) := by
  (refine Does.enter Tryz.func24 Tryz.ntmps24 rfl rfl ?_)
  refine VC.know (fun w hw => BayR.know hw) ?_
  intro hn17
  refine VC.know (p := ∀ k, (diskB D k).length <= 1048576) (fun w hw => diskB_len hw) ?_
  intro hdl
  refine w ?_
  (refine zq ?_; refine OpV.buildSlice1 st_22 rfl rfl (by first | (simp; done) | simp [Value.oneCell']) (by decide) rfl ?_; intro nb)
  refine zq ?_
  refine OpV.markConst tab_ok rfl rfl rfl zh rfl ?_
  refine w ?_
  refine VO.ent (H' := BayR b D :: MRow nb 5 (bytes magicI) :: R) Ent.re ?_
  (refine zq ?_; refine zy rfl rfl (bayslots_ok b D) ?_)
  intro _ _
  refine w ?_
  refine VO.re 12 (byteV (UInt8.ofNat D.slots.length)) rfl (by rw [wrap8_of]; simp [byteV]) ?_
  (refine zq ?_; refine OpV.buildSlice1 st_22 rfl rfl (by first | (simp; done) | simp [Value.oneCell']) (by decide) rfl ?_; intro nb2)
  refine zq ?_
  refine OpV.appendFull (k := 5) (m := 1) (news := [byteV (UInt8.ofNat D.slots.length)]) st_22 rfl rfl (Rds.mrow (bytes_one _) zm rfl) (fun w hw => (Sees.row (ys := []) (by simp [byteV, Value.oneCell']) rfl hw zm).src st_22.und) (by decide) (by decide) (by decide) rfl ?_
  intro ao cap
  refine w ?_
  refine VO.ent (H' := BayR b D :: OwnB (ao, cap) (magicI ++ [UInt8.ofNat D.slots.length]) :: R) Ent.re ?_
  (refine zq ?_; refine zy rfl rfl (bayslots_ok b D) ?_)
  intro _ _
  refine w ?_
  refine VC.loop (α := Nat × Option Addr × Nat) (fun y => y.1 <= D.slots.length) (fun y => OwnB (y.2.1, y.2.2) (magicI ++ [UInt8.ofNat D.slots.length] ++ (List.range y.1).flatMap (slotB D)) :: BayR b D :: R)
    (fun y => [(0, .pointer (some ⟨b, 0, none⟩)), (4, .slice y.2.1 (magicI ++ [UInt8.ofNat D.slots.length] ++ (List.range y.1).flatMap (slotB D)).length y.2.2), (16, .int .i64 D.slots.length), (17, .int .i64 y.1)]) (fun y => D.slots.length - y.1) rfl
    (0, ao, cap) (Nat.zero_le _) (by rw [List.range_zero, List.flatMap_nil, List.append_nil]; exact Ent.re) ⟨rfl, rfl, rfl, rfl, trivial⟩ ?_
  rintro ⟨i, yo, yc⟩ hi
  dsimp only at hi ⊢
  have hLb : (magicI ++ [UInt8.ofNat D.slots.length] ++ (List.range i).flatMap (slotB D)).length <= 100000000 := by
    rw [List.length_append]
    have h1 : ((List.range i).flatMap (slotB D)).length <= i * 1048578 := by
      clear hi
      induction i with
      | zero => simp
      | succ i ih =>
        rw [List.range_succ, List.flatMap_append, List.length_append]
        have := hdl i
        simp only [List.flatMap_cons, List.flatMap_nil, List.append_nil, slotB, List.length_append, lowBytes_length]
        omega
    have h2 : (magicI ++ [UInt8.ofNat D.slots.length]).length = 6 := rfl
    rw [h2]
    have h3 : i * 1048578 <= 17 * 1048578 := Nat.mul_le_mul_right _ (by omega)
    omega
  have hst : (List.range (i + 1)).flatMap (slotB D) = (List.range i).flatMap (slotB D) ++ slotB D i := by rw [List.range_succ, List.flatMap_append]; simp
  generalize hL : magicI ++ [UInt8.ofNat D.slots.length] ++ (List.range i).flatMap (slotB D) = L at hLb ⊢
  refine w ?_
  refine zk ?_ ?_ <;> intro hc
  · have hlt : i < D.slots.length := by have := of_decide_eq_true hc; omega
    clear hc
    refine w ?_
    refine VO.ent (H' := BayR b D :: OwnB (yo, yc) L :: R) Ent.re ?_
    (refine zq ?_; refine zy rfl rfl (bayhas_ok b D (i : Int)) ?_)
    intro _ _
    refine w ?_
    (refine VC.join (α := (Option Addr × Nat)) (fun z => z.1 = none -> (diskB D i).length = 0) (fun z => OwnB z (diskB D i) :: BayR b D :: OwnB (yo, yc) L :: R) (fun z => [(0, .pointer (some ⟨b, 0, none⟩)), (4, .slice yo L.length yc), (6, sliceB z (diskB D i)), (16, .int .i64 D.slots.length), (17, .int .i64 i)]) ?_ ?_)
    · intro Q2 jn
      have hdb : diskB D i = if (D.dev i).any (fun v => !v.k.failed) then (D.image i).1 else [] := rfl
      refine zk ?_ ?_ <;> intro hc
      · rw [hc, if_pos rfl] at hdb
        refine w ?_
        (refine zq ?_; refine zy rfl rfl (bayimage_ok b D (i : Int)) ?_)
        rintro ⟨xo, xc⟩ hx
        rw [<- hdb] at hx ⊢
        refine w ?_
        (refine jn.to ((xo, xc) : Option Addr × Nat) hx ⟨rfl, rfl, rfl, rfl, rfl, trivial⟩ ?_; (try dsimp only); exact Ent.re)
      · rw [hc, if_neg (by decide)] at hdb
        refine w ?_
        refine VE.ent (fun w hw => Holds.ownNil 5 1 hw) ?_
        refine jn.to ((none, 0) : Option Addr × Nat) (fun _ => by rw [hdb]; rfl) ⟨rfl, rfl, asV rfl (by rw [hdb]; rfl), rfl, rfl, trivial⟩ ?_
        rw [hdb]
        exact Ent.re
    · rintro ⟨zo, zc⟩ hz
      have hdi := hdl i
      refine w ?_
      refine VO.pure rfl rfl (PureAt.quo (a := (diskB D i).length) (b := 128) rfl rfl (by decide) (IntWalk.i64_in _ ⟨by omega, by omega⟩)) rfl ?_
      refine w ?_
      refine VO.ent (H' := OwnB (yo, yc) L :: OwnB (zo, zc) (diskB D i) :: BayR b D :: R) Ent.re ?_
      (refine zq ?_; refine zy rfl rfl (two_ok ((diskB D i).length / 128) (by omega) (by omega)) ?_)
      rintro ⟨ao2, cap2⟩ _
      refine w ?_
      refine zq ?_
      have hl2 : (L ++ lowBytes ((diskB D i).length / 128) 2).length <= 100000002 := by rw [List.length_append, lowBytes_length]; omega
      refine OpV.append st_22 rfl rfl .head (fun w hw => (Sees.own (e := 5) (bytes_one _) hw (.tail _ (.head _)) : Sees w 1 (sliceB (zo, zc) (diskB D i)) (diskB D i).length (bytes (diskB D i))).src st_22.und) (by simp only [maxLen]; omega) (by omega) rfl ?_
      intro ao3 cap3
      refine w ?_
      have e : L ++ lowBytes ((diskB D i).length / 128) 2 ++ diskB D i = magicI ++ [UInt8.ofNat D.slots.length] ++ (List.range (i + 1)).flatMap (slotB D) := by
        rw [hst, <- hL, slotB]; simp only [List.append_assoc]
      have el : (L ++ lowBytes ((diskB D i).length / 128) 2).length + (diskB D i).length = (magicI ++ [UInt8.ofNat D.slots.length] ++ (List.range (i + 1)).flatMap (slotB D)).length := by rw [<- e]; simp only [List.length_append]
      refine VE.round (i + 1, ao3, cap3) hlt (by dsimp only; omega) ⟨rfl, asV rfl (by rw [el]), rfl, asV rfl (by congr 1), trivial⟩ ?_
      dsimp only
      rw [el, show bytes (L ++ lowBytes ((diskB D i).length / 128) 2) ++ bytes (diskB D i) = bytes (magicI ++ [UInt8.ofNat D.slots.length] ++ (List.range (i + 1)).flatMap (slotB D)) by rw [<- e]; unfold bytes; simp only [List.map_append]]
      exact Ent.re
  · have hge : i = D.slots.length := by have := of_decide_eq_false hc; omega
    clear hc
    subst hge
    have hL2 : L = imgBody D := hL.symm
    subst hL2
    have hs32 := crcS_lt (imgBody D)
    refine w ?_
    refine VO.know (p := yo = none -> (imgBody D).length = 0) (fun w hw => Holds.ownNone hw (.head _)) ?_
    intro hyn
    (refine zq ?_; refine zy rfl rfl (sum_ok (cap := yc) (Rds.own (bytes_one _) (.head _) (by simp) hyn) (by omega)) ?_)
    intro _ _
    refine w ?_
    refine VO.re 42 (.int .i64 (((crcS (imgBody D)).toNat % 65536 : Nat) : Int)) rfl (by rw [and32lo, IntWalk.i64_in _ ⟨by omega, by omega⟩]) ?_
    generalize hS : (crcS (imgBody D)).toNat = S at *
    have hS2 : S < 4294967296 := hs32
    (refine zq ?_; refine zy rfl rfl (two_ok (S % 65536) (by omega) (by omega)) ?_)
    rintro ⟨ao2, cap2⟩ _
    refine w ?_
    refine VO.re 46 (.int .i64 ((S / 65536 : Nat) : Int)) rfl (by rw [show (2 ^ Int.toNat 16 : Nat) = 65536 from rfl, IntWalk.i64_in _ ⟨by omega, by omega⟩]) ?_
    (refine zq ?_; refine zy rfl rfl (two_ok (l := imgBody D ++ lowBytes (S % 65536) 2) (S / 65536) (by omega) (by rw [List.length_append, lowBytes_length]; omega)) ?_)
    rintro ⟨ao3, cap3⟩ _
    refine w ?_
    have e : imgBody D ++ lowBytes (S % 65536) 2 ++ lowBytes (S / 65536) 2 = imgS D := by
      unfold imgS sealI
      rw [hS, List.append_assoc, lowBytes_two]
    rw [e]
    exact VE.done (ao3, cap3) rfl trivial rfl Ent.refl
theorem pureEx {P : Program} {n : Nat} {α : Type} {F : α -> SProp} {R : List SProp} {f : Fr} {o : Oper} {v : Value} (h : ∀ x, PureAt W P n (F x :: R) f o v) : PureAt W P n (ex F :: R) f o v := by
 unfold PureAt at h ⊢
 intro t w hk hw
 obtain ⟨x, hx⟩ := hw.exOpen
 exact h x t w hk hx
def DigR (d : Nat) (c : BitVec 32) : SProp := ex fun m : Int => Row d 333 [.int .u32 (c.toNat : Int), .int .i64 m]
theorem dignew_ok : Does W Tryz.prog 203 [] R (β := Nat) (fun _ => True) (fun d => .pointer (some ⟨d, 0, none⟩)) (fun d => DigR d 0#32 :: R) := by
 (refine Does.enter Tryz.func203 Tryz.ntmps203 rfl rfl ?_)
 refine w ?_; repeat (refine zj fun _ => ?_; refine w ?_)
 (apply VO.pure rfl rfl; apply PureAt.build sb_333 (pv := []) rfl; rfl; rfl)
 refine w ?_; repeat (refine zj fun _ => ?_; refine w ?_)
 rename_i d
 refine VE.done d rfl trivial rfl ?_
 exact fun w hw => Holds.exShut (P := fun m : Int => Row d 333 [.int .u32 ((0#32 : BitVec 32).toNat : Int), .int .i64 m]) 0 hw
theorem digadd_ok {ao : Option Addr} {cap : Nat} {l : List UInt8} (d : Nat) (c : BitVec 32) (hr : Rds W R 1 ao l.length (bytes l)) (hl : l.length <= 1099511627776) :
  Does W Tryz.prog 208 [.pointer (some ⟨d, 0, none⟩), .slice ao l.length cap] (DigR d c :: R) (β := Int) (fun _ => True) (fun k => .int .i64 k) (fun _ => DigR d (crcM c l) :: R) := by
 refine DoesO (α := Int) (H' := fun m => Row d 333 [.int .u32 (c.toNat : Int), .int .i64 m] :: R) (fun w hw => Holds.exOpen hw) (fun m => ?_)
 (refine Does.enter Tryz.func208 Tryz.ntmps208 rfl rfl ?_)
 refine w ?_
 refine VC.drawn [5, 7, 17] 18 [0, 1, 2, 3, 4, 6, 8, 9, 10, 11, 12, 13, 14, 5, 7, 15, 16, 17, 18, 19, 20] ((ex fun x : Int => Row d 333 [.int .u32 x, .int .i64 m]) :: R) rfl (by kernel_rfl) (by kernel_rfl) (fun w hw => Holds.exShut (P := fun x : Int => Row d 333 [.int .u32 x, .int .i64 m]) _ hw) ?_
 refine w ?_
 ((first | apply VO.pure rfl rfl | apply VQ.pure rfl rfl | apply VD.take rfl rfl rfl | (refine VD.end rfl rfl rfl ?_; apply OpV.pure)); exact pureEx fun x => PureAt.ld tab_ok rfl rfl (.head _) rfl; rfl)
 refine w ?_
 refine VD.mid rfl rfl rfl (OpV.pure (PureAt.ld tab_ok rfl rfl (.head _) rfl) rfl ⟨fun w hw => Holds.exShut (P := fun x : Int => Row d 333 [.int .u32 x, .int .i64 m]) _ hw, ?_⟩)
 refine w ?_
 (refine zq ?_; refine zy rfl rfl (more_ok c (hr.ent (Ent.drop Ent.refl)) hl) ?_)
 intro _ _
 refine ⟨fun w hw => Holds.exShut (P := fun x : Int => Row d 333 [.int .u32 x, .int .i64 m]) _ hw, ?_⟩
 iterate 2 (apply VD.take rfl rfl rfl; (exact zp); rfl)
 refine VD.mid rfl rfl rfl ?_
 apply OpV.st tab_ok rfl rfl rfl rfl zh (by simp)
 refine ⟨fun w hw => Holds.exShut (P := fun x : Int => Row d 333 [.int .u32 x, .int .i64 m]) _ hw, ?_⟩
 refine w ?_
 refine VE.done (IntKind.i64.wrap (m + (l.length : Int))) rfl trivial rfl ?_
 exact fun w hw => Holds.exShut (P := fun m : Int => Row d 333 [.int .u32 ((crcM c l).toNat : Int), .int .i64 m]) (IntKind.i64.wrap (m + (l.length : Int))) hw
theorem digsum_ok (d : Nat) (c : BitVec 32) : Does1 W Tryz.prog 206 [.pointer (some ⟨d, 0, none⟩)] (DigR d c :: R) (.int .u32 (c.toNat : Int)) (DigR d c :: R) := by
 refine DoesO (α := Int) (H' := fun m => Row d 333 [.int .u32 (c.toNat : Int), .int .i64 m] :: R) (fun w hw => Holds.exOpen hw) (fun m => ?_)
 (refine Does.enter Tryz.func206 Tryz.ntmps206 rfl rfl ?_)
 refine w ?_
 refine VE.done1 rfl ?_ ?_
 · rfl
 · exact fun w hw => Holds.exShut (P := fun m : Int => Row d 333 [.int .u32 (c.toNat : Int), .int .i64 m]) m hw
abbrev PatE.D (p : PatE) : PatD := ⟨p.member, p.row, p.d.data⟩
structure PatE.fit (p : PatE) : Prop where
  member : -9223372036854775808 <= p.member /\ p.member <= 9223372036854775807
  row : -9223372036854775808 <= p.row /\ p.row <= 9223372036854775807
  len : p.d.data.length <= 140737488351232
theorem size_ok {ao : Option Addr} {k cap n : Nat} (hk : k = n * 128) (hn : n <= 1099511627776) : Does1 W Tryz.prog 139 [.slice ao k cap] R (.int .i64 (n : Int)) R := by
 subst hk
 (refine Does.enter Tryz.func139 Tryz.ntmps139 rfl rfl ?_)
 refine w ?_
 refine VO.pure rfl rfl (PureAt.quo rfl rfl (by decide) (by rw [Nat.mul_div_cancel n (by decide)]; exact IntWalk.i64_in _ ⟨by omega, by omega⟩)) rfl ?_
 refine w ?_
 refine VE.done1 rfl (by rw [Nat.mul_div_cancel n (by decide)]) Ent.re
theorem from_ok {ao : Option Addr} {k cap : Nat} (at_ : Int) : Does W Tryz.prog 204 [.slice ao k cap, .int .i64 at_] R (β := Nat × Nat) (fun _ => True) (fun x => .func (.func 234) #[] #[.pointer (some ⟨x.1, 0, none⟩), .pointer (some ⟨x.2, 0, none⟩)]) (fun x => Row x.1 245 [.slice ao k cap] :: Row x.2 3 [.int .i64 at_] :: R) := by
 (refine Does.enter Tryz.func204 Tryz.ntmps204 rfl rfl ?_)
 refine w ?_; repeat (refine zj fun _ => ?_; refine w ?_)
 rename_i b1 b2
 refine VO.pure rfl rfl (PureAt.makeFuncN rfl) rfl ?_
 refine w ?_; repeat (refine zj fun _ => ?_; refine w ?_)
 exact VE.done (b1, b2) rfl trivial rfl Ent.re
theorem from1_ok {τ : Type} {la : Addr} {cap n : Nat} (hn : n <= 2048) (hcap : n * 128 <= cap) (at_ : Nat) (ha : at_ < n) (l b1 b2 : Nat) (b : Loop) (A2 : τ -> Prop) (G : Nat -> List SProp) (G2 : τ -> List SProp)
  (yld : ∀ i, i < n -> DoesR W Tryz.prog l [.int .i64 i, .slice (some (la.add ((at_ + i) % n * 128))) 128 (cap - (at_ + i) % n * 128)]
   (LoopR l b :: Row b1 245 [.slice (some la) (n * 128) cap] :: Row b2 3 [.int .i64 at_] :: G i) (LoopR l b :: Row b1 245 [.slice (some la) (n * 128) cap] :: Row b2 3 [.int .i64 at_] :: G (i + 1)) A2 (fun x => LoopR l (Loop.done b) :: G2 x)) :
  Does W Tryz.prog 234 [.func (.yield l) #[] #[], .pointer (some ⟨b1, 0, none⟩), .pointer (some ⟨b2, 0, none⟩)] (LoopR l b :: Row b1 245 [.slice (some la) (n * 128) cap] :: Row b2 3 [.int .i64 at_] :: G 0) (β := Option τ) (fun o => o.elim True A2) (fun _ => .tuple #[])
   (fun o => o.elim (LoopR l b :: Row b1 245 [.slice (some la) (n * 128) cap] :: Row b2 3 [.int .i64 at_] :: G n) fun x => LoopR l (Loop.done b) :: G2 x) := by
 (refine Does.enterI Tryz.func234 Tryz.ntmps234 rfl rfl ?_)
 refine wr ?_
 (refine zq ?_; refine zy rfl rfl (size_ok rfl (by omega)) ?_)
 intro _ _
 refine wr ?_
 refine VR.loop (α := Nat) (fun i => i <= n) (fun i => LoopR l b :: Row b1 245 [.slice (some la) (n * 128) cap] :: Row b2 3 [.int .i64 at_] :: G i)
  (fun i => [(0, .func (.yield l) #[] #[]), (1, .pointer (some ⟨b1, 0, none⟩)), (2, .pointer (some ⟨b2, 0, none⟩)), (7, .int .i64 n), (8, .int .i64 i)]) (fun i => n - i) rfl 0 (Nat.zero_le _) Ent.re ⟨rfl, rfl, rfl, rfl, rfl, trivial⟩ ?_
 intro i hi
 refine wr ?_
 (refine VR.cond rfl rfl ?_ ?_ <;> intro hc)
 ·
  have hlt : i < n := by have := of_decide_eq_true hc; omega
  refine wr ?_
  (refine VR.quiet rfl (by kernel_rfl) (by kernel_rfl) ?_)
  refine wr ?_
  (refine VQ.call rfl rfl rfl rfl (fun _ _ => by simp) (size_ok rfl (by omega)) Ent.refl Ent.refl rfl ?_)
  apply VQ.pure rfl rfl
  · exact PureAt.rem (a := at_ + i) (b := n) rfl rfl (by omega)
  · rfl
  have hr : (at_ + i) % n < n := Nat.mod_lt _ (by omega)
  (first | refine VO.nil rfl ?_ | refine VQ.nil rfl ?_ | refine VD.nil ?_ | ((first | apply VO.pure rfl rfl | apply VQ.pure rfl rfl | apply VD.take rfl rfl rfl | (refine VD.end rfl rfl rfl ?_; apply OpV.pure)); (exact zp); rfl) | refine VO.skip rfl rfl rfl rfl ?_ | refine VQ.skip rfl rfl rfl rfl ?_ | refine VD.skip rfl rfl rfl rfl rfl ?_ | refine VD.skipM rfl rfl Ent.refl rfl rfl rfl ?_ | (refine zq ?_; (first | (apply OpV.st tab_ok rfl rfl rfl rfl (by (repeat first | exact .head | apply Hole.tail); first | done | fail) (by first | (simp; done) | fail)) | (refine OpV.box rfl rfl rfl ?_; intro _))) | refine ⟨Ent.re, ?_⟩)
  (first | refine VO.nil rfl ?_ | refine VQ.nil rfl ?_ | refine VD.nil ?_ | ((first | apply VO.pure rfl rfl | apply VQ.pure rfl rfl | apply VD.take rfl rfl rfl | (refine VD.end rfl rfl rfl ?_; apply OpV.pure)); (exact zp); rfl) | refine VO.skip rfl rfl rfl rfl ?_ | refine VQ.skip rfl rfl rfl rfl ?_ | refine VD.skip rfl rfl rfl rfl rfl ?_ | refine VD.skipM rfl rfl Ent.refl rfl rfl rfl ?_ | (refine zq ?_; (first | (apply OpV.st tab_ok rfl rfl rfl rfl (by (repeat first | exact .head | apply Hole.tail); first | done | fail) (by first | (simp; done) | fail)) | (refine OpV.box rfl rfl rfl ?_; intro _))) | refine ⟨Ent.re, ?_⟩)
  refine VQ.re 5 (.int .i64 (((at_ + i) % n * 128 : Nat) : Int)) rfl (by congr 1) ?_
  refine VQ.nil rfl ?_
  refine VE.sh ?_
  refine VF.next ?_
  refine VR.seq rfl ?_
  refine VR.regionI rfl ?_
  iterate 6 (first | (apply VI.pure rfl rfl; (exact zp); rfl))
  have hk : (at_ + i) % n * 128 + 128 <= cap := by omega
  have hsl : ∀ {f : Fr} {H : List SProp} {m : Nat} {x y z : Operand} {dst : Option Tmp} {ty_ : TypeId} {pos : String} {after : Array Edge} {guard : Option (Nat × Bool)} {k k' : IntKind} {t : TypeId}, evalX f x = some (.slice (some la) m cap) -> evalX f y = some (.int k (((at_ + i) % n * 128 : Nat) : Int)) -> evalX f z = some (.int k' (((at_ + i) % n * 128 + 128 : Nat) : Int)) -> TabData.esz tab t = some 1 ->
    PureAt W Tryz.prog 28 H f { dst, op := .slice t x (some y) (some z) none, type := ty_, pos, after, guard } (.slice (some (la.add ((at_ + i) % n * 128))) 128 (cap - (at_ + i) % n * 128)) := by
   intro f H m x y z dst ty_ pos after guard k k' t h1 h2 h3 h4
   have h5 := PureAt.sliceLH (W := W) (n := 28) (H := H) (dst := dst) (ty_ := ty_) (pos := pos) (after := after) (guard := guard) tab_ok h1 h2 h3 h4 (by omega) hk
   rw [subA_some (by omega), Nat.mul_one, Nat.add_sub_cancel_left] at h5
   exact h5
  apply VI.pure rfl rfl
  · exact hsl rfl rfl rfl rfl
  · rfl
  refine VI.yield rfl rfl rfl rfl (yld i hlt) Ent.refl rfl ?_ (fun x hx => ?_)
  ·
   (first | (apply VI.pure rfl rfl; (exact zp); rfl))
   refine VI.nil rfl ?_
   refine wr ?_
   exact VF.round (i + 1) (by omega) (by omega) ⟨rfl, rfl, rfl, rfl, asV rfl (by congr 1), trivial⟩ Ent.re
  ·
   (first | (apply VI.pure rfl rfl; (exact zp); rfl))
   refine VI.nil rfl ?_
   refine wr ?_
   exact VF.done (.inl rfl) (some x) resOf_none hx rfl Ent.refl
 have hend : i = n := by have := of_decide_eq_false hc; omega
 subst hend
 refine wr ?_
 exact VF.done (.inr rfl) none resOf_none trivial rfl Ent.re
abbrev RingR (r size tail used : Nat) : SProp := Row r 249 [.int .i64 size, .int .i64 tail, .int .i64 used]
structure RingOk (size tail used : Nat) : Prop where
  lo : 5 <= size
  hi : size <= 2048
  tl : tail < size
  us : used <= size
theorem ringnew_ok {size tail used : Nat} (h : RingOk size tail used) :
  Does W Tryz.prog 87 [.int .i64 size, .int .i64 tail, .int .i64 used] R (β := Nat) (fun _ => True) (fun r => .tuple #[.pointer (some ⟨r, 0, none⟩), .int .u16 0]) (fun r => RingR r size tail used :: R) := by
 have h1 := h.lo; have h2 := h.hi; have h3 := h.tl; have h4 := h.us
 (refine Does.enter Tryz.func87 Tryz.ntmps87 rfl rfl ?_)
 refine w ?_; repeat (refine zj fun _ => ?_; refine w ?_)
 (first | refine VO.gF rfl rfl rfl (decide_eq_false (by omega)) ?_ | refine VD.gF rfl rfl rfl (decide_eq_false (by omega)) ?_)
 refine w ?_; repeat (refine zj fun _ => ?_; refine w ?_)
 (first | refine VO.gF rfl rfl rfl (decide_eq_false (by omega)) ?_ | refine VD.gF rfl rfl rfl (decide_eq_false (by omega)) ?_)
 refine w ?_; repeat (refine zj fun _ => ?_; refine w ?_)
 (first | refine VO.gF rfl rfl rfl (decide_eq_false (by omega)) ?_ | refine VD.gF rfl rfl rfl (decide_eq_false (by omega)) ?_)
 refine w ?_; repeat (refine zj fun _ => ?_; refine w ?_)
 (refine VC.condFe rfl rfl (decide_eq_false (by omega)) ?_)
 refine w ?_; repeat (refine zj fun _ => ?_; refine w ?_)
 (apply VO.pure rfl rfl; apply PureAt.build sb_249 rfl; (simp [buildX, setL, Value.cells]; rfl); rfl)
 refine w ?_; repeat (refine zj fun _ => ?_; refine w ?_)
 rename_i r
 exact VE.done r rfl trivial rfl Ent.re
theorem ringused_ok (r size tail used : Nat) : Does1 W Tryz.prog 155 [.pointer (some ⟨r, 0, none⟩)] (RingR r size tail used :: R) (.int .i64 used) (RingR r size tail used :: R) := by
 (refine Does.enter Tryz.func155 Tryz.ntmps155 rfl rfl ?_)
 refine w ?_
 exact VE.done1 rfl rfl Ent.re
theorem ringbehind_ok (r : Nat) {size tail used : Nat} (h : RingOk size tail used) (n : Nat) (hn : n <= 4096) : Does1 W Tryz.prog 215 [.pointer (some ⟨r, 0, none⟩), .int .i64 n] (RingR r size tail used :: R) (.int .i64 (((tail + n) % size : Nat) : Int)) (RingR r size tail used :: R) := by
 have h1 := h.lo; have h2 := h.hi; have h3 := h.tl; have h4 := h.us
 (refine Does.enter Tryz.func215 Tryz.ntmps215 rfl rfl ?_)
 refine w ?_
 ((refine VC.quiet rfl (by kernel_rfl) (by kernel_rfl) ?_); refine w ?_)
 ((first | apply VO.pure rfl rfl | apply VQ.pure rfl rfl | apply VD.take rfl rfl rfl | (refine VD.end rfl rfl rfl ?_; apply OpV.pure)); exact PureAt.rem (a := tail + n) (b := size) rfl rfl (by omega); rfl)
 refine w ?_
 exact VE.done1 rfl rfl Ent.re
theorem ringhead_ok (r : Nat) {size tail used : Nat} (h : RingOk size tail used) : Does1 W Tryz.prog 153 [.pointer (some ⟨r, 0, none⟩)] (RingR r size tail used :: R) (.int .i64 (((tail + used) % size : Nat) : Int)) (RingR r size tail used :: R) := by
 have h1 := h.lo; have h2 := h.hi; have h3 := h.tl; have h4 := h.us
 (refine Does.enter Tryz.func153 Tryz.ntmps153 rfl rfl ?_)
 refine w ?_
 (refine zq ?_; refine zy rfl rfl (ringbehind_ok r h used (by omega)) ?_)
 intro _ _
 refine w ?_
 exact VE.done1 rfl rfl Ent.re
def spanB (n2 : Nat) (i : Nat) : SProp := ex fun x : (Option Addr × Nat) × List Value => star [Row n2 256 [.slice x.1.1 i x.1.2], Sl.Own 319 2 (.slice x.1.1 i x.1.2) i x.2]
theorem spans1_ok {size tail used n0 from0 : Nat} (hr : RingOk size tail used) (hn : n0 <= 4096) (hf : from0 < size) (l b1 b2 b3 r : Nat) (b : Loop) (G : Nat -> List SProp)
  (yld : ∀ (i a k x y : Nat), i <= 4096 -> DoesR W Tryz.prog l [.agg #[.int .i64 a, .int .i64 k]]
   (LoopR l b :: Row b1 3 [.int .i64 x] :: Row b2 162 [.pointer (some ⟨r, 0, none⟩)] :: Row b3 3 [.int .i64 y] :: RingR r size tail used :: G i)
   (LoopR l b :: Row b1 3 [.int .i64 x] :: Row b2 162 [.pointer (some ⟨r, 0, none⟩)] :: Row b3 3 [.int .i64 y] :: RingR r size tail used :: G (i + 1)) (fun _ : Unit => False) (fun _ => LoopR l (Loop.done b) :: [])) :
  Does W Tryz.prog 247 [.func (.yield l) #[] #[], .pointer (some ⟨b1, 0, none⟩), .pointer (some ⟨b2, 0, none⟩), .pointer (some ⟨b3, 0, none⟩)]
   (LoopR l b :: Row b1 3 [.int .i64 n0] :: Row b2 162 [.pointer (some ⟨r, 0, none⟩)] :: Row b3 3 [.int .i64 from0] :: RingR r size tail used :: G 0) (β := Option Unit) (fun o => o.elim True fun _ => False) (fun _ => .tuple #[])
   (fun o => o.elim (LoopR l b :: RingR r size tail used :: ex (fun i : Nat => star (G i)) :: []) fun x => LoopR l (Loop.done b) :: []) := by
 have h1 := hr.lo; have h2 := hr.hi; have h3 := hr.tl; have h4 := hr.us
 (refine Does.enterI Tryz.func247 Tryz.ntmps247 rfl rfl ?_)
 refine wr ?_
 refine VR.loop (α := Nat × Nat × Nat) (fun y => y.1 + y.2.1 <= 4096 /\ y.2.2 < size) (fun y => LoopR l b :: Row b1 3 [.int .i64 y.2.1] :: Row b2 162 [.pointer (some ⟨r, 0, none⟩)] :: Row b3 3 [.int .i64 y.2.2] :: RingR r size tail used :: G y.1)
  (fun y => [(0, .func (.yield l) #[] #[]), (1, .pointer (some ⟨b1, 0, none⟩)), (2, .pointer (some ⟨b2, 0, none⟩)), (3, .pointer (some ⟨b3, 0, none⟩))]) (fun y => y.2.1) rfl (0, n0, from0) ⟨by simp only; omega, hf⟩ Ent.re ⟨rfl, rfl, rfl, rfl, trivial⟩ ?_
 rintro ⟨i, n, fr⟩ ⟨hi, hfr⟩
 dsimp only at hi hfr ⊢
 refine wr ?_
 (refine VR.cond rfl rfl ?_ ?_ <;> intro hc)
 ·
  have hn0 : 0 < n := by have := of_decide_eq_true hc; omega
  clear hc
  refine wr ?_
  (refine VR.quiet rfl (by kernel_rfl) (by kernel_rfl) ?_)
  iterate 9 (first | refine VO.nil rfl ?_ | refine VQ.nil rfl ?_ | refine VD.nil ?_ | ((first | apply VO.pure rfl rfl | apply VQ.pure rfl rfl | apply VD.take rfl rfl rfl | (refine VD.end rfl rfl rfl ?_; apply OpV.pure)); (exact zp); rfl) | refine VO.skip rfl rfl rfl rfl ?_ | refine VQ.skip rfl rfl rfl rfl ?_ | refine VD.skip rfl rfl rfl rfl rfl ?_ | refine VD.skipM rfl rfl Ent.refl rfl rfl rfl ?_ | (refine zq ?_; (apply OpV.st tab_ok rfl rfl rfl rfl (by (repeat first | exact .head | apply Hole.tail); first | done | fail) (by first | (simp; done) | fail))) | refine ⟨Ent.re, ?_⟩)
  have hmin : 1 <= min n (size - fr) := by omega
  refine VQ.re 5 (.int .i64 ((min n (size - fr) : Nat) : Int)) rfl (by congr 1; omega) ?_
  generalize hk : min n (size - fr) = k at hmin ⊢
  refine VQ.nil rfl ?_
  refine VE.sh ?_
  refine VF.next ?_
  (first | refine VR.regionI rfl ?_ | (refine VR.seq rfl ?_; refine VR.regionI rfl ?_) | (refine VR.seq rfl ?_; refine VR.seq rfl ?_; refine VR.regionI rfl ?_) | (refine VR.seq rfl ?_; refine VR.block rfl ?_; refine VR.regionI rfl ?_) | (refine VR.seq rfl ?_; refine VR.block rfl ?_; refine VR.seq rfl ?_; refine VR.regionI rfl ?_) | (refine VR.block rfl ?_; refine VR.seq rfl ?_; refine VR.regionI rfl ?_))
  iterate 3 (first | (apply VI.pure rfl rfl; (exact zp); rfl))
  apply VI.pure rfl rfl
  · exact PureAt.build (cs := [.int .i64 fr, .int .i64 k]) sb_319 rfl rfl
  · rfl
  refine VI.yield rfl rfl rfl rfl (yld i fr k n fr (by omega)) Ent.refl rfl ?_ (fun x hx => hx.elim)
  (first | (apply VI.pure rfl rfl; (exact zp); rfl))
  refine VI.nil rfl ?_
  refine wr ?_
  (refine VR.drawn [3] 4 [0, 1, 2, 3, 4] [Row b1 3 [.int .i64 n]] rfl (by kernel_rfl) (by kernel_rfl) Ent.re ?_)
  refine wr ?_
  refine VF.round (i + 1, n - k, 0) ⟨by simp only; omega, by simp only; omega⟩ (by simp only; omega) ⟨rfl, rfl, rfl, rfl, trivial⟩ ?_
  dsimp only
  rw [show ((n - k : Nat) : Int) = (n : Int) - k by omega]
  exact Ent.re
 have hn0 : n = 0 := by have := of_decide_eq_false hc; omega
 refine wr ?_
 refine VF.done (.inr rfl) none resOf_none trivial rfl ?_
 exact Ent.trans (Ent.re (L := LoopR l b :: RingR r size tail used :: G i)) fun w hw => by
  have h9 : Holds W (G i ++ [LoopR l b, RingR r size tail used]) w := hw.perm (by
   have : List.Perm (LoopR l b :: RingR r size tail used :: G i) ([LoopR l b, RingR r size tail used] ++ G i) := .refl _
   exact this.trans List.perm_append_comm)
  exact (Holds.exShut (P := fun i : Nat => star (G i)) i h9.nest).reord (by (repeat first | exact .refl | (apply Reord.cons; focus repeat first | exact .head | apply Del.tail) | exact .nil | apply Reord.drop))
theorem spanB_open {W w : World} {R : List SProp} {n2 i : Nat} (h : Holds W (spanB n2 i :: R) w) : ∃ x : (Option Addr × Nat) × List Value, Holds W (Row n2 256 [.slice x.1.1 i x.1.2] :: Sl.Own 319 2 (.slice x.1.1 i x.1.2) i x.2 :: R) w := by
 obtain ⟨x, h⟩ := h.exOpen
 exact ⟨x, h.join⟩
theorem spanB_shut {n2 i : Nat} (x : (Option Addr × Nat) × List Value) : Ent W (Row n2 256 [.slice x.1.1 i x.1.2] :: Sl.Own 319 2 (.slice x.1.1 i x.1.2) i x.2 :: R) (spanB n2 i :: R) := fun w hw =>
 Holds.exShut x (hw.nest (L := [Row n2 256 [.slice x.1.1 i x.1.2], Sl.Own 319 2 (.slice x.1.1 i x.1.2) i x.2]))
theorem spanB_end {n2 : Nat} {A B D : SProp} : Ent W (A :: B :: ex (fun i : Nat => star (D :: spanB n2 i :: R)) :: []) (A :: D :: B :: ex (fun i : Nat => spanB n2 i) :: R) := fun w hw => by
 have h1 : Holds W (ex (fun i : Nat => star (D :: spanB n2 i :: R)) :: [A, B]) w := hw.reord (by (repeat first | exact .refl | (apply Reord.cons; focus repeat first | exact .head | apply Del.tail) | exact .nil | apply Reord.drop))
 obtain ⟨i, h2⟩ := h1.exOpen
 have h3 := h2.join
 have h4 : Holds W ([A, B] ++ (D :: spanB n2 i :: R)) w := h3.perm List.perm_append_comm
 have h5 : Holds W (spanB n2 i :: A :: D :: B :: R) w := h4.reord (by
  show Reord (A :: B :: D :: spanB n2 i :: R) _
  (repeat first | exact .refl | (apply Reord.cons; focus repeat first | exact .head | apply Del.tail) | exact .nil | apply Reord.drop))
 exact (Holds.exShut (P := fun i : Nat => spanB n2 i) i h5).reord (by (repeat first | exact .refl | (apply Reord.cons; focus repeat first | exact .head | apply Del.tail) | exact .nil | apply Reord.drop))
theorem spanscollect_ok {size tail used n0 from0 : Nat} (hr : RingOk size tail used) (hn : n0 <= 4096) (hf : from0 < size) (b1 b2 b3 r : Nat) :
  Does W Tryz.prog 246 [.slice none 0 0, .func (.func 247) #[] #[.pointer (some ⟨b1, 0, none⟩), .pointer (some ⟨b2, 0, none⟩), .pointer (some ⟨b3, 0, none⟩)]]
   (Row b1 3 [.int .i64 n0] :: Row b2 162 [.pointer (some ⟨r, 0, none⟩)] :: Row b3 3 [.int .i64 from0] :: RingR r size tail used :: R) (β := (Option Addr × Nat) × Nat) (fun _ => True) (fun x => .slice x.1.1 x.2 x.1.2) (fun _ => RingR r size tail used :: R) := by
 (refine Does.enterM Tryz.func246 Tryz.ntmps246 rfl rfl ?_)
 refine wr ?_; repeat (refine zq ?_; refine OpV.box rfl rfl rfl ?_; intro _; refine wr ?_)
 rename_i n2
 refine VR.ent (H' := spanB n2 0 :: Row b1 3 [.int .i64 n0] :: Row b2 162 [.pointer (some ⟨r, 0, none⟩)] :: Row b3 3 [.int .i64 from0] :: RingR r size tail used :: R) (Ent.trans (fun w hw => (hw.ownNil 319 2).swap) (spanB_shut ((none, 0), []))) ?_
 refine VR.range (τ := Unit) (gf := 247) (cap := #[.pointer (some ⟨b1, 0, none⟩), .pointer (some ⟨b2, 0, none⟩), .pointer (some ⟨b3, 0, none⟩)]) (fun _ => False)
  (RingR r size tail used :: ex (fun i : Nat => spanB n2 i) :: R) (fun _ => []) rfl rfl (fun _ _ => by simp) ?_ ?_ (fun D x hx => hx.elim)
 ·
  intro l D b h1 h2 h3 h4 h5 hk
  refine DoesE (H' := LoopR l b :: Row b1 3 [.int .i64 n0] :: Row b2 162 [.pointer (some ⟨r, 0, none⟩)] :: Row b3 3 [.int .i64 from0] :: RingR r size tail used :: At D (.deferred (some [])) :: spanB n2 0 :: R) Ent.re ?_
  refine Does.mono (spans1_ok hr hn hf l b1 b2 b3 r b (fun i => At D (.deferred (some [])) :: spanB n2 i :: R) ?_) id (fun o h => by cases o with | none => trivial | some x => exact h.elim) (fun _ _ => rfl) ?_
  ·
   intro i a k x y hi
   refine DoesR.body (τ := Unit) (A2 := fun _ => False) (G2 := fun _ => []) hk h1 h2 (by rw [h3]; rfl) (by rw [h3]; rfl) ?_
   rw [h3, h4, h5]
   refine wr ?_; repeat (refine zq ?_; refine OpV.box rfl rfl rfl ?_; intro _; refine wr ?_)
   refine zq ?_; refine OpV.allocS sb_319 rfl ?_; intro ns
   refine zq ?_
   refine OpV.stA (vs := [.int .i64 a, .int .i64 k]) tab_ok rfl rfl rfl rfl (by simp [Value.oneCell']) zh (by simp) ?_
   refine wr ?_; repeat (refine zq ?_; refine OpV.box rfl rfl rfl ?_; intro _; refine wr ?_)
   refine VF.ent (H' := LoopR l b :: spanB n2 i :: Row ns 319 [.int .i64 a, .int .i64 k] :: Row b1 3 [.int .i64 x] :: Row b2 162 [.pointer (some ⟨r, 0, none⟩)] :: Row b3 3 [.int .i64 y] :: RingR r size tail used :: At D (.deferred (some [])) :: R) Ent.re ?_
   refine VF.begin (τ := Unit) (A2 := fun _ => False) (G2 := fun _ => []) (G1 := []) h1 ?_
   refine VR.ent (H' := spanB n2 i :: LoopR l (Loop.busy b) :: Row ns 319 [.int .i64 a, .int .i64 k] :: Row b1 3 [.int .i64 x] :: Row b2 162 [.pointer (some ⟨r, 0, none⟩)] :: Row b3 3 [.int .i64 y] :: RingR r size tail used :: At D (.deferred (some [])) :: R) Ent.re ?_
   refine VR.obtain (fun w hw => spanB_open hw) ?_
   rintro ⟨⟨so, sc⟩, xs⟩
   dsimp only
   refine wr ?_; repeat (refine zq ?_; refine OpV.box rfl rfl rfl ?_; intro _; refine wr ?_)
   refine zq ?_
   refine OpV.buildSlice (cs := [.int .i64 a, .int .i64 k]) st_256 rfl rfl (by simp [Value.cells]) (by simp [Value.cells]) (by decide) rfl ?_
   intro nb
   refine zq ?_
   refine OpV.appendRow st_256 rfl rfl zh zm rfl (by simp [Value.oneCell']) (by simp only [maxLen]; omega) (by omega) rfl ?_
   intro so2 sc2
   refine wr ?_; repeat (refine zq ?_; refine OpV.box rfl rfl rfl ?_; intro _; refine wr ?_)
   refine VF.on (τ := Unit) h1 h2 ?_
   exact Ent.trans (Ent.re (L := Row n2 256 [.slice so2 (i + 1) sc2] :: Sl.Own 319 2 (.slice so2 (i + 1) sc2) (i + 1) (xs ++ [.int .i64 a, .int .i64 k]) :: LoopR l (Loop.busy b) :: Row b1 3 [.int .i64 x] :: Row b2 162 [.pointer (some ⟨r, 0, none⟩)] :: Row b3 3 [.int .i64 y] :: RingR r size tail used :: At D (.deferred (some [])) :: R))
    (Ent.trans (spanB_shut ((so2, sc2), xs ++ [.int .i64 a, .int .i64 k])) Ent.re)
  ·
   rintro (_ | x) hx
   · exact spanB_end
   · exact hx.elim
 ·
  intro D
  refine wr ?_; repeat (refine zq ?_; refine OpV.box rfl rfl rfl ?_; intro _; refine wr ?_)
  refine VO.ent (H' := ex (fun i : Nat => spanB n2 i) :: At D (.deferred (some [])) :: RingR r size tail used :: R) Ent.re ?_
  refine VO.obtain (fun w hw => hw.exOpen) ?_
  intro i
  refine VO.obtain (fun w hw => spanB_open hw) ?_
  rintro ⟨⟨so, sc⟩, xs⟩
  dsimp only
  refine wr ?_; repeat (refine zq ?_; refine OpV.box rfl rfl rfl ?_; intro _; refine wr ?_)
  refine VE.sh (m := ⟨none, [markD D]⟩) ?_
  refine VF.next (m := ⟨none, [markD D]⟩) ?_
  refine wr ?_; repeat (refine zq ?_; refine OpV.box rfl rfl rfl ?_; intro _; refine wr ?_)
  refine VF.result (A := fun _ : (Option Addr × Nat) × Nat => True) (r := fun x => .slice x.1.1 x.2 x.1.2) (G := fun _ => RingR r size tail used :: R) (.inl rfl) ((so, sc), i) rfl (.tail (.tail .head)) trivial rfl ?_
  exact Ent.re
theorem spans_ok (r fr n : Nat) :
  Does W Tryz.prog 217 [.pointer (some ⟨r, 0, none⟩), .int .i64 fr, .int .i64 n] R (β := Nat × Nat × Nat) (fun _ => True) (fun x => .func (.func 247) #[] #[.pointer (some ⟨x.1, 0, none⟩), .pointer (some ⟨x.2.1, 0, none⟩), .pointer (some ⟨x.2.2, 0, none⟩)])
   (fun x => Row x.1 3 [.int .i64 n] :: Row x.2.1 162 [.pointer (some ⟨r, 0, none⟩)] :: Row x.2.2 3 [.int .i64 fr] :: R) := by
 (refine Does.enter Tryz.func217 Tryz.ntmps217 rfl rfl ?_)
 refine w ?_; repeat (refine zj fun _ => ?_; refine w ?_)
 rename_i b2 b3 b1
 refine VO.pure rfl rfl (PureAt.makeFuncN rfl) rfl ?_
 refine w ?_; repeat (refine zj fun _ => ?_; refine w ?_)
 exact VE.done (b1, b2, b3) rfl trivial rfl Ent.re
theorem spancollect_ok {size tail used n0 from0 : Nat} (hr : RingOk size tail used) (hn : n0 <= 4096) (hf : from0 < size) (b1 b2 b3 r : Nat) :
  Does W Tryz.prog 216 [.func (.func 247) #[] #[.pointer (some ⟨b1, 0, none⟩), .pointer (some ⟨b2, 0, none⟩), .pointer (some ⟨b3, 0, none⟩)]]
   (Row b1 3 [.int .i64 n0] :: Row b2 162 [.pointer (some ⟨r, 0, none⟩)] :: Row b3 3 [.int .i64 from0] :: RingR r size tail used :: R) (β := (Option Addr × Nat) × Nat) (fun _ => True) (fun x => .slice x.1.1 x.2 x.1.2) (fun _ => RingR r size tail used :: R) := by
 (refine Does.enter Tryz.func216 Tryz.ntmps216 rfl rfl ?_)
 refine w ?_
 (refine zq ?_; refine zy rfl rfl (spanscollect_ok hr hn hf b1 b2 b3 r) ?_)
 intro x _
 refine w ?_
 exact VE.done x rfl trivial rfl Ent.re
theorem ringgive_ok (r : Nat) {size tail used : Nat} (h : RingOk size tail used) (n : Nat) (hn : n <= used) :
  Does W Tryz.prog 154 [.pointer (some ⟨r, 0, none⟩), .int .i64 n] (RingR r size tail used :: R) (β := (Option Addr × Nat) × Nat) (fun _ => True) (fun x => .tuple #[.slice x.1.1 x.2 x.1.2, .int .u16 0]) (fun _ => RingR r size ((tail + n) % size) (used - n) :: R) := by
 have h1 := h.lo; have h2 := h.hi; have h3 := h.tl; have h4 := h.us
 (refine Does.enter Tryz.func154 Tryz.ntmps154 rfl rfl ?_)
 refine w ?_
 (refine VC.condFe rfl rfl (decide_eq_false (by omega)) ?_)
 refine w ?_
 (refine zq ?_; refine zy rfl rfl (spans_ok r tail n) ?_)
 rintro ⟨b1, b2, b3⟩ -
 refine w ?_
 (refine zq ?_; refine zy rfl rfl (spancollect_ok h (by omega) h3 b1 b2 b3 r) ?_)
 rintro x -
 refine w ?_
 refine VC.drawn [4, 13] 14 [0, 1, 2, 3, 5, 6, 7, 8, 9, 10, 4, 11, 12, 13, 14, 15, 16] [ex fun v : Value => Row r 249 [.int .i64 size, v, .int .i64 used]] rfl (by kernel_rfl) (by kernel_rfl) (fun w hw => Holds.exShut (P := fun v : Value => Row r 249 [.int .i64 size, v, .int .i64 used]) (.int .i64 tail) (hw.reord (.cons .head .nil))) ?_
 refine w ?_
 ((first | apply VO.pure rfl rfl | apply VQ.pure rfl rfl | apply VD.take rfl rfl rfl | (refine VD.end rfl rfl rfl ?_; apply OpV.pure)); exact pureEx (fun v => PureAt.ld tab_ok rfl rfl (.head _) rfl); rfl)
 refine w ?_
 (refine zq ?_; refine zy rfl rfl (ringbehind_ok r h n (by omega)) ?_)
 intro _ _
 refine ⟨fun w hw => Holds.exShut (P := fun v : Value => Row r 249 [.int .i64 size, v, .int .i64 used]) (.int .i64 tail) (hw.reord (.cons .head .nil)), ?_⟩
 iterate 2 (first | refine VO.nil rfl ?_ | refine VQ.nil rfl ?_ | refine VD.nil ?_ | ((first | apply VO.pure rfl rfl | apply VQ.pure rfl rfl | apply VD.take rfl rfl rfl | (refine VD.end rfl rfl rfl ?_; apply OpV.pure)); (exact zp); rfl) | refine VO.skip rfl rfl rfl rfl ?_ | refine VQ.skip rfl rfl rfl rfl ?_ | refine VD.skip rfl rfl rfl rfl rfl ?_ | refine VD.skipM rfl rfl Ent.refl rfl rfl rfl ?_ | (refine zq ?_; (apply OpV.st tab_ok rfl rfl rfl rfl (by (repeat first | exact .head | apply Hole.tail); first | done | fail) (by first | (simp; done) | fail))) | refine ⟨Ent.re, ?_⟩)
 refine VD.mid rfl rfl rfl ?_
 refine OpV.st tab_ok rfl rfl rfl rfl .head (by simp) ?_
 refine ⟨fun w hw => Holds.exShut (P := fun v : Value => Row r 249 [.int .i64 size, v, .int .i64 used]) (.int .i64 (((tail + n) % size : Nat) : Int)) (hw.reord (.cons .head .nil)), ?_⟩
 refine w ?_
 refine VE.done x rfl trivial rfl ?_
 rw [show RingR r size ((tail + n) % size) (used - n) = Row r 249 [.int .i64 size, .int .i64 (((tail + n) % size : Nat) : Int), .int .i64 ((used : Int) - n)] by rw [show (used : Int) - n = ((used - n : Nat) : Int) by omega]]
 exact Ent.re
theorem wfUN {z : Nat} (h : z < 2 ^ 64) : (Lit.int .u64 (z : Int)).wf = true := by simp [Lit.wf, IntKind.min, IntKind.max, IntKind.signed, IntKind.bits]; omega
theorem wfWN {z : Nat} (h : z < 4294967296) : (Lit.int .u32 (z : Int)).wf = true := by simp [Lit.wf, IntKind.min, IntKind.max, IntKind.signed, IntKind.bits]; omega
theorem wfIN {z : Int} (h : -9223372036854775808 <= z /\ z <= 9223372036854775807) : (Lit.int .i64 z).wf = true := by simp [Lit.wf, IntKind.min, IntKind.max, IntKind.signed, IntKind.bits]; omega
theorem cmt_sameN (a b : CmtD) : a = b ↔ a.epoch = b.epoch /\ a.seq = b.seq /\ a.count = b.count /\ a.sum = b.sum := by cases a; cases b; simp
theorem cmt_eqN {n : Nat} {H : List SProp} {f : Fr} {dst : Option Tmp} {ty_ : TypeId} {pos : String} {after : Array Edge} {guard : Option (Nat × Bool)} {op : BinOp} {x y : Operand} {u : TypeId} {v : Value} {a b : CmtD} (hx : evalX f x = some (.agg a.cells.toArray)) (hy : evalX f y = some (.agg b.cells.toArray)) (ha : a.fit) (hb : b.fit) (hv : eqB op (decide (a = b)) = some v) :
  PureAt W Tryz.prog n H f { dst, op := .binOp op 307 x y u, type := ty_, pos, after, guard } v := by
 refine PureAt.eqFlat (ks := [some .u64, some .u64, some .i64, some .u32]) (cs := a.cells) (ds := b.cells) (by kernel_rfl) hx hy rfl rfl rfl rfl ?_ ?_ ?_ hv
 ·
  intro l hl; simp only [List.mem_cons, List.not_mem_nil, or_false] at hl
  rcases hl with h | h | h | h <;> subst h <;> first | exact wfUN ha.epoch | exact wfUN ha.seq | exact wfIN ha.count | exact wfWN ha.sum
 ·
  intro l hl; simp only [List.mem_cons, List.not_mem_nil, or_false] at hl
  rcases hl with h | h | h | h <;> subst h <;> first | exact wfUN hb.epoch | exact wfUN hb.seq | exact wfIN hb.count | exact wfWN hb.sum
 · rw [decide_eq_true_iff, cmt_sameN]; simp; omega
theorem dec_fitC (b : List UInt8) : (CmtD.dec b).2.fit := by
 have hz : zeroC.fit := ⟨by decide, by decide, by decide, by decide⟩
 unfold CmtD.dec
 split
 · exact hz
 ·
  split
  · exact cmt_fit b
  · exact hz
theorem dec_countB (b : List UInt8) : 0 <= (HdrD.dec b).2.count /\ (HdrD.dec b).2.count <= 1023 := by
 by_cases h : (HdrD.dec b).1 = 0
 · have := (hdr_decO h).2.1.2.1; omega
 ·
  unfold HdrD.dec at h ⊢
  split
  · exact ⟨by show (0:Int) <= zeroH.count; decide, by show zeroH.count <= 1023; decide⟩
  ·
   rename_i h1
   rw [if_neg h1] at h
   split
   · rename_i h2; rw [if_pos h2] at h; exact absurd rfl h
   · exact ⟨by show (0:Int) <= zeroH.count; decide, by show zeroH.count <= 1023; decide⟩
structure BSt where
  pats : List PatE
  x : Option Addr × Nat
  head : HdrD
  cnt : Int
def hdOk (sec : SecF) (e s : Nat) (n : Int) (j : Nat) : Prop :=
  (HdrD.dec (sec (2 * j))).1 = 0 /\ (HdrD.dec (sec (2 * j))).2.epoch = e /\ (HdrD.dec (sec (2 * j))).2.seq = s /\ (HdrD.dec (sec (2 * j))).2.index = j /\ (HdrD.dec (sec (2 * j))).2.count = n
structure BInv (sec : SecF) (room e s i : Nat) (st : BSt) : Prop where
  zero : i = 0 -> st.cnt = 0
  pos : 0 < i -> st.cnt = batN sec /\ 1 <= batN sec /\ batN sec <= 1023 /\ (HdrD.dec (sec 0)).1 = 0 /\ 2 * batN sec + 1 <= room /\ (i : Int) <= 2 * batN sec
  each : ∀ j, 2 * j + 1 < i -> stepOk sec e s (batN sec) j
  odd : ∀ j, i = 2 * j + 1 -> hdOk sec e s (batN sec) j /\ st.head = (HdrD.dec (sec (2 * j))).2
  pats : st.pats.map PatE.D = (List.range (i / 2)).map (patAt sec)
theorem BInv.start (sec : SecF) (room e s : Nat) (x : Option Addr × Nat) : BInv sec room e s 0 ⟨[], x, zeroH, 0⟩ :=
 ⟨fun _ => rfl, fun h => absurd h (by omega), fun j h => absurd h (by omega), fun j h => absurd h (by omega), rfl⟩
theorem dec_count {sec : SecF} (h : (HdrD.dec (sec 0)).1 = 0) : 1 <= batN sec /\ batN sec <= 1023 := (hdr_decO h).2.1.2.1
theorem bat_room0 {sec : SecF} {room e s i : Nat} {st : BSt} (h : BInv sec room e s i st) (hr : i = room) : batM sec room e s = none := by
 unfold batM
 rw [if_neg]
 rintro ⟨h0, h1, _⟩
 have hc := dec_count h0
 rcases Nat.eq_zero_or_pos i with hi | hi
 · omega
 · have := h.pos hi; omega
theorem bat_head0 {sec : SecF} {room e s i j : Nat} {st : BSt} (h : BInv sec room e s i st) (hj : i = 2 * j) (hn : 0 < i -> i ≠ 2 * (batN sec).toNat) (hbad : ¬ (hdOk sec e s (batN sec) j /\ 2 * batN sec + 1 <= room)) : batM sec room e s = none := by
 unfold batM
 rw [if_neg]
 rintro ⟨h0, h1, h2, _⟩
 have hc := dec_count h0
 refine hbad ⟨?_, h1⟩
 have hlt : j < (batN sec).toNat := by
  rcases Nat.eq_zero_or_pos i with hi | hi
  · omega
  · have := h.pos hi; have := hn hi; omega
 have := h2 j hlt
 exact ⟨this.1, this.2.1, this.2.2.1, this.2.2.2.1, this.2.2.2.2.1⟩
theorem bat_data0 {sec : SecF} {room e s i j : Nat} {st : BSt} (h : BInv sec room e s i st) (hj : i = 2 * j + 1) (hbad : ¬ ((unD (sec (2 * j + 1)) (HdrD.dec (sec (2 * j))).2.escaped).2 = 0 /\ (crcS (sec (2 * j + 1))).toNat = (HdrD.dec (sec (2 * j))).2.sum)) : batM sec room e s = none := by
 unfold batM
 rw [if_neg]
 rintro ⟨h0, h1, h2, _⟩
 have hp := h.pos (by omega)
 have := h2 j (by omega)
 exact hbad this.2.2.2.2.2
theorem bat_end {sec : SecF} {room e s i : Nat} {st : BSt} (h : BInv sec room e s i st) (hi : 0 < i) (hn : (i : Int) = 2 * batN sec) :
  (batM sec room e s).isSome = decide (CmtD.dec (sec i) = (0, ⟨e, s, batN sec, (crcS (headsF sec (batN sec).toNat)).toNat⟩)) /\ ∀ l, batM sec room e s = some l -> st.pats.map PatE.D = l := by
 have hp := h.pos hi
 have hi2 : i = 2 * (batN sec).toNat := by omega
 unfold batM
 constructor
 ·
  by_cases hc : CmtD.dec (sec i) = (0, ⟨e, s, batN sec, (crcS (headsF sec (batN sec).toNat)).toNat⟩)
  ·
   rw [if_pos, decide_eq_true hc]; · rfl
   exact ⟨hp.2.2.2.1, hp.2.2.2.2.1, fun j hj => h.each j (by omega), by rw [<- hi2]; exact hc⟩
  ·
   rw [if_neg, decide_eq_false hc]; · rfl
   rintro ⟨_, _, _, q⟩
   rw [<- hi2] at q; exact hc q
 ·
  intro l hl
  split at hl
  ·
   injection hl with hl
   rw [<- hl, h.pats, show i / 2 = (batN sec).toNat by omega]
  · cases hl
theorem BInv.head_next {sec : SecF} {room e s i j : Nat} {st : BSt} (h : BInv sec room e s i st) (hj : i = 2 * j) (hok : hdOk sec e s (batN sec) j) (hroom : 2 * batN sec + 1 <= room) (hlt : (j : Int) < batN sec) (h0 : (HdrD.dec (sec 0)).1 = 0) :
  BInv sec room e s (i + 1) ⟨st.pats, st.x, (HdrD.dec (sec (2 * j))).2, batN sec⟩ := by
 have hc := dec_count h0
 refine ⟨fun q => absurd q (by omega), fun _ => ⟨rfl, hc.1, hc.2, h0, hroom, by omega⟩, fun k hk => h.each k (by omega), fun k hk => ?_, ?_⟩
 ·
  obtain rfl : k = j := by omega
  exact ⟨hok, rfl⟩
 ·
  show st.pats.map PatE.D = _
  rw [h.pats, show (i + 1) / 2 = i / 2 by omega]
theorem BInv.data_next {sec : SecF} {room e s i j : Nat} {st : BSt} (h : BInv sec room e s i st) (hj : i = 2 * j + 1) (x : Option Addr × Nat) (p : PatE) (hp : p.D = patAt sec j)
  (hok : (unD (sec (2 * j + 1)) (HdrD.dec (sec (2 * j))).2.escaped).2 = 0 /\ (crcS (sec (2 * j + 1))).toNat = (HdrD.dec (sec (2 * j))).2.sum) : BInv sec room e s (i + 1) ⟨st.pats ++ [p], x, st.head, st.cnt⟩ := by
 have h1 := h.pos (by omega)
 have h2 := h.odd j hj
 refine ⟨fun q => absurd q (by omega), fun _ => ⟨h1.1, h1.2.1, h1.2.2.1, h1.2.2.2.1, h1.2.2.2.2.1, by omega⟩, fun k hk => ?_, fun k hk => absurd hk (by omega), ?_⟩
 ·
  by_cases hkj : k = j
  ·
   subst hkj
   exact ⟨h2.1.1, h2.1.2.1, h2.1.2.2.1, h2.1.2.2.2.1, h2.1.2.2.2.2, hok.1, hok.2⟩
  · exact h.each k (by omega)
 ·
  show (st.pats ++ [p]).map PatE.D = _
  rw [List.map_append, h.pats, show i / 2 = j by omega, show (i + 1) / 2 = j + 1 by omega, List.range_succ, List.map_append, List.map_cons, List.map_nil, hp]
  rfl
theorem doesPre {P : Program} {g : FuncId} {args : List Value} {H H' : List SProp} {β : Type} {A : β -> Prop} {r : β -> Value} {G : β -> List SProp} (e : Ent W H H') (h : Does W P g args H' A r G) : Does W P g args H A r G := by
 unfold Does at h ⊢
 exact fun w hw => h w (e w hw)
structure BBl where
  n7 : Nat
  n8 : Nat
  n9 : Nat
  n10 : Nat
  n11 : Nat
  n12 : Nat
  n13 : Nat
  n14 : Nat
  n15 : Nat
  d : Nat
def bFix (room e s : Nat) (B : BBl) (R : List SProp) : List SProp :=
  Row B.n7 3 [.int .i64 room] :: Row B.n8 62 [.int .u64 e] :: Row B.n9 62 [.int .u64 s] :: Row B.n15 301 [.pointer (some ⟨B.d, 0, none⟩)] :: R
def bMov (sec : SecF) (s : Nat) (B : BBl) (i : Nat) (st : BSt) : List SProp :=
  [Row B.n12 86 [.int .u64 s, .slice st.x.1 st.pats.length st.x.2], Row B.n13 300 st.head.cells, Row B.n14 3 [.int .i64 st.cnt], DigR B.d (crcS (headsF sec ((i + 1) / 2))), PatsO st.x st.pats, PilP st.pats]
def bSt (sec : SecF) (room e s : Nat) (B : BBl) (i : Nat) : SProp := ex fun st : BSt => star (fact (BInv sec room e s i st) :: bMov sec s B i st)
theorem bSt_shut {sec : SecF} {room e s i : Nat} {B : BBl} {st : BSt} (h : BInv sec room e s i st) : Ent W (bMov sec s B i st ++ R) (bSt sec room e s B i :: R) := fun w hw =>
 Holds.exShut st (Holds.nest (L := fact (BInv sec room e s i st) :: bMov sec s B i st) (Holds.factShut h hw))
theorem bSt_open {W w : World} {R : List SProp} {sec : SecF} {room e s i : Nat} {B : BBl} (h : Holds W (bSt sec room e s B i :: R) w) : ∃ st : { st : BSt // BInv sec room e s i st }, Holds W (bMov sec s B i st.1 ++ R) w := by
 obtain ⟨st, h1⟩ := h.exOpen
 have h2 : Holds W (fact (BInv sec room e s i st) :: (bMov sec s B i st ++ R)) w := h1.join
 exact ⟨⟨st, h2.factOpen⟩, h2.tail⟩
theorem bSt_start {sec : SecF} {room e s : Nat} {B : BBl} :
  Ent W (Row B.n12 86 [.int .u64 s, .slice none 0 0] :: Row B.n13 300 zeroH.cells :: Row B.n14 3 [.int .i64 0] :: DigR B.d 0#32 :: R) (bSt sec room e s B 0 :: R) := fun w hw => by
 have h1 := (pile_nil (res := PatE.res) hw).ownNil 88 3
 refine bSt_shut (BInv.start sec room e s (none, 0)) w ?_
 have e1 : crcS (headsF sec ((0 + 1) / 2)) = 0#32 := crcM_nil _
 unfold bMov
 rw [e1]
 exact (Ent.re : Ent W _ _) w h1
def bRes (B : BBl) (t : TxnE) (ok : Bool) : List SProp := [Row B.n10 86 t.cells, Row B.n11 4 [.bool ok]]
theorem vfAbsurd {n : Nat} {m : Md} {Q : Exit -> Act -> World -> Prop} {e : Exit} {H : List SProp} {f : Fr} (h : ∀ w, Holds W H w -> False) : VF W n m Q e H f := by
 unfold VF
 exact fun _ t w hk hw => (h w hw).elim
theorem batch_ok {la : Addr} {cap n : Nat} {data : List UInt8} (hn : n <= 2048) (hcap : n * 128 <= cap) (at_ room e s : Nat) (ha : at_ < n) (hroom : room <= n) (he : e < 2 ^ 64) (hs : s < 2 ^ 64) (hd : data.length = n * 128) (hr : Rds W R 1 (some la) (n * 128) (bytes data)) (sec : SecF) (hsec : ∀ i, sec i = (data.drop ((at_ + i) % n * 128)).take 128) :
    Does W Tryz.prog 140 [.slice (some la) (n * 128) cap, .int .i64 at_, .int .i64 room, .int .u64 e, .int .u64 s] R (β := TxnE) (fun t => t.seq = s /\ ∀ l, batM sec room e s = some l -> t.pats.map PatE.D = l) (fun t => .tuple #[.agg t.cells.toArray, .bool (batM sec room e s).isSome]) (fun t => PatsO (t.ao, t.cap) t.pats :: PilP t.pats :: R) := by
  have hsl : ∀ i, (sec i).length = 128 := by
    intro i
    have hm : (at_ + i) % n < n := Nat.mod_lt _ (by omega)
    rw [hsec, List.length_take, List.length_drop, hd]; omega
  have hsr : ∀ i, Rds W R 1 (some (la.add ((at_ + i) % n * 128))) (sec i).length (bytes (sec i)) := by
    intro i
    have hm : (at_ + i) % n < n := Nat.mod_lt _ (by omega)
    have h1 := hr.sub (cap := cap) (l := (at_ + i) % n * 128) (h := (at_ + i) % n * 128 + 128) (by omega) (by omega) hcap
    rw [subA_some (by omega), Nat.add_sub_cancel_left, Nat.mul_one, Nat.mul_one] at h1
    rw [hsl i, hsec]
    have e1 : bytes ((data.drop ((at_ + i) % n * 128)).take 128) = ((bytes data).drop ((at_ + i) % n * 128)).take 128 := by simp [bytes, List.map_take, List.map_drop]
    rw [e1]; exact h1
  (refine Does.enterM Tryz.func140 Tryz.ntmps140 rfl rfl ?_)
  refine wr ?_; repeat (refine zq ?_; refine OpV.box rfl rfl rfl ?_; intro _; refine wr ?_)
  rename_i n7 n8 n9
  refine zq ?_; refine OpV.allocS sb_86 rfl ?_; intro n10
  refine wr ?_; repeat (refine zq ?_; refine OpV.box rfl rfl rfl ?_; intro _; refine wr ?_)
  (refine zq ?_; refine OpV.alloc (z := .bool false) (fun w => by simp) rfl rfl ?_; intro n11)
  refine wr ?_; repeat (refine zq ?_; refine OpV.box rfl rfl rfl ?_; intro _; refine wr ?_)
  (apply VO.pure rfl rfl; apply PureAt.build sb_86 rfl; (simp [buildX, setL, Value.cells]; rfl); rfl)
  refine zq ?_; refine OpV.allocS sb_86 rfl ?_; intro n12
  refine wr ?_; repeat (refine zq ?_; refine OpV.box rfl rfl rfl ?_; intro _; refine wr ?_)
  refine zq ?_
  refine OpV.stA (vs := [.int .u64 s, .slice none 0 0]) tab_ok rfl rfl rfl rfl (by simp [Value.oneCell']) zh (by simp) ?_
  refine wr ?_; repeat (refine zq ?_; refine OpV.box rfl rfl rfl ?_; intro _; refine wr ?_)
  refine zq ?_; refine OpV.allocS sb_300 rfl ?_; intro n13
  refine wr ?_; repeat (refine zq ?_; refine OpV.box rfl rfl rfl ?_; intro _; refine wr ?_)
  (refine zq ?_; refine OpV.alloc (z := .int .i64 0) (fun w => by simp) rfl rfl ?_; intro n14)
  refine wr ?_; repeat (refine zq ?_; refine OpV.box rfl rfl rfl ?_; intro _; refine wr ?_)
  (refine zq ?_; refine zy rfl rfl (dignew_ok) ?_)
  intro d _
  refine wr ?_; repeat (refine zq ?_; refine OpV.box rfl rfl rfl ?_; intro _; refine wr ?_)
  (refine zq ?_; refine OpV.alloc (z := .pointer none) (fun w => by simp) rfl rfl ?_; intro n15)
  refine wr ?_; repeat (refine zq ?_; refine OpV.box rfl rfl rfl ?_; intro _; refine wr ?_)
  (refine zq ?_; refine zy rfl rfl (from_ok at_) ?_)
  rintro ⟨b1, b2⟩ -
  refine wr ?_; repeat (refine zq ?_; refine OpV.box rfl rfl rfl ?_; intro _; refine wr ?_)
  refine VR.ent (H' := bSt sec room e s ⟨n7, n8, n9, n10, n11, n12, n13, n14, n15, d⟩ 0 :: Row b1 245 [.slice (some la) (n * 128) cap] :: Row b2 3 [.int .i64 at_] :: Row n10 86 [.int .u64 0, .slice none 0 0] :: Row n11 4 [.bool false] :: bFix room e s ⟨n7, n8, n9, n10, n11, n12, n13, n14, n15, d⟩ R) (Ent.trans ?_ (bSt_start (B := ⟨n7, n8, n9, n10, n11, n12, n13, n14, n15, d⟩))) ?_
  · unfold bFix; exact Ent.re
  refine VR.range (τ := TxnE) (gf := 234) (cap := #[.pointer (some ⟨b1, 0, none⟩), .pointer (some ⟨b2, 0, none⟩)]) (fun t => t.seq = s /\ ∀ l, batM sec room e s = some l -> t.pats.map PatE.D = l)
    (Row b1 245 [.slice (some la) (n * 128) cap] :: Row b2 3 [.int .i64 at_] :: bSt sec room e s (BBl.mk n7 n8 n9 n10 n11 n12 n13 n14 n15 d) n :: Row n10 86 [.int .u64 0, .slice none 0 0] :: Row n11 4 [.bool false] :: bFix room e s (BBl.mk n7 n8 n9 n10 n11 n12 n13 n14 n15 d) R)
    (fun t => bRes (BBl.mk n7 n8 n9 n10 n11 n12 n13 n14 n15 d) t (batM sec room e s).isSome ++ (PatsO (t.ao, t.cap) t.pats :: PilP t.pats :: R)) rfl rfl (fun _ _ => by simp) ?_ ?_ ?_
  · intro l D b h1 h2 h3 h4 h5 hk
    refine doesPre (H' := LoopR l b :: Row b1 245 [.slice (some la) (n * 128) cap] :: Row b2 3 [.int .i64 at_] :: At D (.deferred (some [])) :: bSt sec room e s (BBl.mk n7 n8 n9 n10 n11 n12 n13 n14 n15 d) 0 :: Row n10 86 [.int .u64 0, .slice none 0 0] :: Row n11 4 [.bool false] :: bFix room e s (BBl.mk n7 n8 n9 n10 n11 n12 n13 n14 n15 d) R) Ent.re ?_
    refine Does.mono (from1_ok hn hcap at_ ha l b1 b2 b (fun t : TxnE => t.seq = s /\ ∀ l, batM sec room e s = some l -> t.pats.map PatE.D = l)
      (fun i => At D (.deferred (some [])) :: bSt sec room e s (BBl.mk n7 n8 n9 n10 n11 n12 n13 n14 n15 d) i :: Row n10 86 [.int .u64 0, .slice none 0 0] :: Row n11 4 [.bool false] :: bFix room e s (BBl.mk n7 n8 n9 n10 n11 n12 n13 n14 n15 d) R)
      (fun t => At D (.deferred (some [])) :: (bRes (BBl.mk n7 n8 n9 n10 n11 n12 n13 n14 n15 d) t (batM sec room e s).isSome ++ (PatsO (t.ao, t.cap) t.pats :: PilP t.pats :: R))) ?_) id (fun _ h => h) (fun _ _ => rfl) ?_
    · intro i hi
      refine DoesR.body hk h1 h2 (by rw [h3]; rfl) (by rw [h3]; rfl) ?_
      rw [h3, h4, h5]
      refine wr ?_; repeat (refine zq ?_; refine OpV.box rfl rfl rfl ?_; intro _; refine wr ?_)
      refine VF.begin (τ := Unit) (A2 := fun _ => True) (G2 := fun _ => []) (G1 := []) h1 ?_
      refine VR.ent (H' := bSt sec room e s (BBl.mk n7 n8 n9 n10 n11 n12 n13 n14 n15 d) i :: LoopR l (Loop.busy b) :: Row b1 245 [.slice (some la) (n * 128) cap] :: Row b2 3 [.int .i64 at_] :: At D (.deferred (some [])) :: Row n10 86 [.int .u64 0, .slice none 0 0] :: Row n11 4 [.bool false] :: bFix room e s (BBl.mk n7 n8 n9 n10 n11 n12 n13 n14 n15 d) R) Ent.re ?_
      refine VR.obtain (fun w hw => bSt_open hw) ?_
      rintro ⟨st, hI⟩
      obtain ⟨pats, x, hdr, cnt⟩ := st
      dsimp only [bMov, bFix, List.cons_append, List.nil_append]
      refine VR.re 17 (.slice (some (la.add ((at_ + i) % n * 128))) (sec i).length (cap - (at_ + i) % n * 128)) rfl (by rw [hsl i]) ?_
      refine wr ?_; repeat (refine zq ?_; refine OpV.box rfl rfl rfl ?_; intro _; refine wr ?_)
      (refine VR.cond rfl rfl ?_ ?_ <;> intro hc)
      · have hz := bat_room0 hI (by have := hc; simp at this; omega)
        ((refine wr ?_; repeat (refine zq ?_; refine OpV.box rfl rfl rfl ?_; intro _; refine wr ?_)); (refine zq ?_); refine OpV.stA (vs := [.int .u64 s, .slice x.1 pats.length x.2]) tab_ok rfl rfl rfl rfl (by simp [Value.oneCell']) zh (by simp) ?_; (refine wr ?_; repeat (refine zq ?_; refine OpV.box rfl rfl rfl ?_; intro _; refine wr ?_)); refine VF.stop (⟨s, x.1, x.2, pats⟩ : TxnE) ⟨rfl, fun l hl => by rw [hz] at hl; cases hl⟩ ?_; rw [hz]; exact Ent.re)
      have hne : i ≠ room := by have := hc; simp at this; omega
      clear hc
      have hcb : 0 <= cnt /\ cnt <= 1023 := by
        rcases Nat.eq_zero_or_pos i with h0 | h0
        · have := hI.zero h0; simp only at this; omega
        · have := hI.pos h0; simp only at this; omega
      have hmod : (at_ + i) % n < n := Nat.mod_lt _ (by omega)
      have hkc : (sec i).length <= cap - (at_ + i) % n * 128 := by rw [hsl]; omega
      refine VR.seq rfl ?_
      refine VR.joinH [(65, .bool (decide (0 < cnt /\ (i : Int) = 2 * cnt))), (7, .pointer (some ⟨n7, 0, none⟩)), (8, .pointer (some ⟨n8, 0, none⟩)), (9, .pointer (some ⟨n9, 0, none⟩)), (10, .pointer (some ⟨n10, 0, none⟩)), (11, .pointer (some ⟨n11, 0, none⟩)), (12, .pointer (some ⟨n12, 0, none⟩)), (13, .pointer (some ⟨n13, 0, none⟩)), (14, .pointer (some ⟨n14, 0, none⟩)), (15, .pointer (some ⟨n15, 0, none⟩)), (16, .int .i64 i), (17, .slice (some (la.add ((at_ + i) % n * 128))) (sec i).length (cap - (at_ + i) % n * 128))] ?_ ?_
      · intro Q2 jn
        refine wr ?_; repeat (refine zq ?_; refine OpV.box rfl rfl rfl ?_; intro _; refine wr ?_)
        refine zg ?_ ?_ <;> intro hb
        · refine wr ?_; repeat (refine zq ?_; refine OpV.box rfl rfl rfl ?_; intro _; refine wr ?_)
          exact jn.to () trivial ⟨asV rfl (by have h0 : 0 < cnt := by simpa using hb
                                              congr 1; rw [Bool.eq_iff_iff]; simp [h0]), rfl, rfl, rfl, rfl, rfl, rfl, rfl, rfl, rfl, rfl, rfl, trivial⟩ Ent.re
        · refine wr ?_; repeat (refine zq ?_; refine OpV.box rfl rfl rfl ?_; intro _; refine wr ?_)
          exact jn.to () trivial ⟨asV rfl (by have h0 : ¬ 0 < cnt := by simpa using hb
                                              congr 1; rw [Bool.eq_iff_iff]; simp [h0]), rfl, rfl, rfl, rfl, rfl, rfl, rfl, rfl, rfl, rfl, rfl, trivial⟩ Ent.re
      refine wr ?_; repeat (refine zq ?_; refine OpV.box rfl rfl rfl ?_; intro _; refine wr ?_)
      (refine VR.cond rfl rfl ?_ ?_ <;> intro hc)
      · have hcc : 0 < cnt /\ (i : Int) = 2 * cnt := by simpa using hc
        have hi0 : 0 < i := by omega
        have hcn := (hI.pos hi0).1
        refine wr ?_; repeat (refine zq ?_; refine OpV.box rfl rfl rfl ?_; intro _; refine wr ?_)
        (refine zq ?_; refine zy rfl rfl (decc_ok ((hsr i).ent Ent.re) hkc) ?_)
        intro _ _
        refine wr ?_; repeat (refine zq ?_; refine OpV.box rfl rfl rfl ?_; intro _; refine wr ?_)
        refine zq ?_; refine OpV.allocS sb_307 rfl ?_; intro n18
        refine wr ?_; repeat (refine zq ?_; refine OpV.box rfl rfl rfl ?_; intro _; refine wr ?_)
        refine zq ?_
        refine OpV.stA (vs := (CmtD.dec (sec i)).2.cells) tab_ok rfl rfl rfl rfl (by simp [Value.oneCell']) zh (by simp) ?_
        refine wr ?_; repeat (refine zq ?_; refine OpV.box rfl rfl rfl ?_; intro _; refine wr ?_)
        refine VR.ent (H' := DigR d (crcS (headsF sec ((i + 1) / 2))) :: Row n18 307 (CmtD.dec (sec i)).2.cells :: Row n12 86 [.int .u64 s, .slice x.1 pats.length x.2] :: Row n14 3 [.int .i64 cnt] :: PatsO x pats :: PilP pats :: LoopR l (Loop.busy b) :: Row b1 245 [.slice (some la) (n * 128) cap] :: Row b2 3 [.int .i64 at_] :: At D (.deferred (some [])) :: Row n10 86 [.int .u64 0, .slice none 0 0] :: Row n11 4 [.bool false] :: Row n8 62 [.int .u64 e] :: Row n9 62 [.int .u64 s] :: Row n15 301 [.pointer (some ⟨d, 0, none⟩)] :: R) Ent.re ?_
        (refine VR.drawn [9, 13] 14 [0, 1, 2, 3, 4, 5, 6, 7, 8, 9, 10, 11, 12, 13, 14] (DigR d (crcS (headsF sec ((i + 1) / 2))) :: Row n18 307 (CmtD.dec (sec i)).2.cells :: Row n12 86 [.int .u64 s, .slice x.1 pats.length x.2] :: Row n14 3 [.int .i64 cnt] :: Row n8 62 [.int .u64 e] :: Row n9 62 [.int .u64 s] :: Row n15 301 [.pointer (some ⟨d, 0, none⟩)] :: []) rfl (by kernel_rfl) (by kernel_rfl) Ent.re ?_)
        refine wr ?_; repeat (refine zq ?_; refine OpV.box rfl rfl rfl ?_; intro _; refine wr ?_)
        obtain ⟨hok, hlist⟩ := bat_end hI hi0 (by rw [<- hcn]; exact hcc.2)
        have hcf : (CmtD.dec (sec i)).2.fit := dec_fitC _
        have hio : (i + 1) / 2 = (batN sec).toNat := by rw [<- hcn]; simp only; omega
        have hcq : (CmtD.mk e s cnt (crcS (headsF sec ((i + 1) / 2))).toNat).fit := ⟨he, hs, by simp only; omega, (crcS _).isLt⟩
        have hq : (batM sec room e s).isSome = decide (CmtD.dec (sec i) = (0, CmtD.mk e s cnt (crcS (headsF sec ((i + 1) / 2))).toNat)) := by rw [hok, hio, <- hcn]
        refine zg ?_ ?_ <;> intro hb
        · have h0 : (CmtD.dec (sec i)).1 = 0 := by simpa using hb
          refine wr ?_; repeat (refine zq ?_; refine OpV.box rfl rfl rfl ?_; intro _; refine wr ?_)
          (refine zq ?_; refine zd rfl rfl (digsum_ok d _) ?_)
          intro _ _
          refine ⟨Ent.re, ?_⟩
          refine wr ?_; repeat (refine zq ?_; refine OpV.box rfl rfl rfl ?_; intro _; refine wr ?_)
          ((first | apply VO.pure rfl rfl | apply VD.take rfl rfl rfl | (refine VD.end rfl rfl rfl ?_; apply OpV.pure)); apply PureAt.build sb_307 rfl; (simp [buildX, setL, Value.cells]; rfl); rfl)
          refine wr ?_; repeat (refine zq ?_; refine OpV.box rfl rfl rfl ?_; intro _; refine wr ?_)
          ((first | apply VO.pure rfl rfl | apply VQ.pure rfl rfl | apply VD.take rfl rfl rfl | (refine VD.end rfl rfl rfl ?_; apply OpV.pure)); exact cmt_eqN (a := (CmtD.dec (sec i)).2) (b := CmtD.mk e s cnt (crcS (headsF sec ((i + 1) / 2))).toNat) rfl rfl hcf hcq rfl; rfl)
          refine VD.re 90 (.bool (batM sec room e s).isSome) rfl (by
            rw [hq]; congr 1; rw [Bool.eq_iff_iff, decide_eq_true_iff, decide_eq_true_iff]
            constructor
            · intro q; rw [<- h0, <- q]
            · intro q; rw [q]) ?_
          refine wr ?_; repeat (refine zq ?_; refine OpV.box rfl rfl rfl ?_; intro _; refine wr ?_)
          refine VD.mid rfl rfl rfl ?_
          refine OpV.stA (vs := [.int .u64 s, .slice x.1 pats.length x.2]) tab_ok rfl rfl rfl rfl (by simp [Value.oneCell']) zh (by simp) ?_
          refine ⟨Ent.re, ?_⟩
          refine wr ?_; repeat (refine zq ?_; refine OpV.box rfl rfl rfl ?_; intro _; refine wr ?_)
          refine VF.stop (⟨s, x.1, x.2, pats⟩ : TxnE) ⟨rfl, hlist⟩ ?_
          exact Ent.re
        · have h0 : (CmtD.dec (sec i)).1 ≠ 0 := by simpa using hb
          have hq2 : (batM sec room e s).isSome = false := by rw [hq, decide_eq_false_iff_not]; intro q; rw [q] at h0; exact h0 rfl
          refine wr ?_; repeat (refine zq ?_; refine OpV.box rfl rfl rfl ?_; intro _; refine wr ?_)
          refine VD.skipM rfl rfl Ent.re rfl rfl rfl ?_
          refine wr ?_; repeat (refine zq ?_; refine OpV.box rfl rfl rfl ?_; intro _; refine wr ?_)
          refine VD.mid rfl rfl rfl ?_
          refine OpV.stA (vs := [.int .u64 s, .slice x.1 pats.length x.2]) tab_ok rfl rfl rfl rfl (by simp [Value.oneCell']) zh (by simp) ?_
          refine ⟨Ent.re, ?_⟩
          refine wr ?_; repeat (refine zq ?_; refine OpV.box rfl rfl rfl ?_; intro _; refine wr ?_)
          refine VF.stop (⟨s, x.1, x.2, pats⟩ : TxnE) ⟨rfl, hlist⟩ ?_
          rw [hq2]
          exact Ent.re
      have hnc : ¬ (0 < cnt /\ (i : Int) = 2 * cnt) := by simpa using hc
      clear hc
      refine wr ?_; repeat (refine zq ?_; refine OpV.box rfl rfl rfl ?_; intro _; refine wr ?_)
      ((first | apply VO.pure rfl rfl | apply VQ.pure rfl rfl | apply VD.take rfl rfl rfl | (refine VD.end rfl rfl rfl ?_; apply OpV.pure)); exact PureAt.rem (a := i) (b := 2) rfl rfl (by decide); rfl)
      refine wr ?_; repeat (refine zq ?_; refine OpV.box rfl rfl rfl ?_; intro _; refine wr ?_)
      (refine VR.cond rfl rfl ?_ ?_ <;> intro hc)
      · obtain ⟨j, rfl⟩ : ∃ j, i = 2 * j := ⟨i / 2, by have := hc; simp at this; omega⟩
        clear hc
        have hn2 : 0 < 2 * j -> 2 * j ≠ 2 * (batN sec).toNat := by
          intro h0 h3
          have h4 := hI.pos h0
          simp only at h4
          exact hnc ⟨by omega, by omega⟩
        have hNb : 0 <= batN sec /\ batN sec <= 1023 := dec_countB _
        refine wr ?_; repeat (refine zq ?_; refine OpV.box rfl rfl rfl ?_; intro _; refine wr ?_)
        (refine zq ?_; refine zy rfl rfl (dech_ok ((hsr (2 * j)).ent Ent.re) hkc) ?_)
        intro _ _
        refine wr ?_; repeat (refine zq ?_; refine OpV.box rfl rfl rfl ?_; intro _; refine wr ?_)
        refine zq ?_; refine OpV.allocS sb_300 rfl ?_; intro n20
        refine wr ?_; repeat (refine zq ?_; refine OpV.box rfl rfl rfl ?_; intro _; refine wr ?_)
        refine zq ?_
        refine OpV.stA (vs := (HdrD.dec (sec (2 * j))).2.cells) tab_ok rfl rfl rfl rfl (by simp [Value.oneCell']) zh (by simp) ?_
        refine wr ?_; repeat (refine zq ?_; refine OpV.box rfl rfl rfl ?_; intro _; refine wr ?_)
        refine VR.join (α := Unit) (fun _ => True) (fun _ => Row n20 300 (HdrD.dec (sec (2 * j))).2.cells :: Row n12 86 [.int .u64 s, .slice x.1 pats.length x.2] :: Row n13 300 hdr.cells :: Row n14 3 [.int .i64 (batN sec)] :: DigR d (crcS (headsF sec ((2 * j + 1) / 2))) :: PatsO x pats :: PilP pats :: LoopR l (Loop.busy b) :: Row b1 245 [.slice (some la) (n * 128) cap] :: Row b2 3 [.int .i64 at_] :: At D (.deferred (some [])) :: Row n10 86 [.int .u64 0, .slice none 0 0] :: Row n11 4 [.bool false] :: Row n7 3 [.int .i64 room] :: Row n8 62 [.int .u64 e] :: Row n9 62 [.int .u64 s] :: Row n15 301 [.pointer (some ⟨d, 0, none⟩)] :: R) (fun _ => [(7, .pointer (some ⟨n7, 0, none⟩)), (8, .pointer (some ⟨n8, 0, none⟩)), (9, .pointer (some ⟨n9, 0, none⟩)), (10, .pointer (some ⟨n10, 0, none⟩)), (11, .pointer (some ⟨n11, 0, none⟩)), (12, .pointer (some ⟨n12, 0, none⟩)), (13, .pointer (some ⟨n13, 0, none⟩)), (14, .pointer (some ⟨n14, 0, none⟩)), (15, .pointer (some ⟨n15, 0, none⟩)), (16, .int .i64 ((2 * j : Nat) : Int)), (17, .slice (some (la.add ((at_ + 2 * j) % n * 128))) (sec (2 * j)).length (cap - (at_ + 2 * j) % n * 128)), (20, .pointer (some ⟨n20, 0, none⟩)), (21, .int .u16 (HdrD.dec (sec (2 * j))).1)]) ?_ (fun _ _ => ?_)
        · intro Q2 jn
          (refine VR.cond rfl rfl ?_ ?_ <;> intro hc)
          · have hj0 : j = 0 := by have := hc; simp at this; omega
            refine wr ?_; repeat (refine zq ?_; refine OpV.box rfl rfl rfl ?_; intro _; refine wr ?_)
            refine jn.to () trivial ⟨rfl, rfl, rfl, rfl, rfl, rfl, rfl, rfl, rfl, rfl, rfl, rfl, rfl, trivial⟩ ?_
            rw [show batN sec = (HdrD.dec (sec (2 * j))).2.count by rw [hj0]; rfl]
            exact Ent.re
          · have hj0 : 0 < 2 * j := by have := hc; simp at this; omega
            refine wr ?_; repeat (refine zq ?_; refine OpV.box rfl rfl rfl ?_; intro _; refine wr ?_)
            refine jn.to () trivial ⟨rfl, rfl, rfl, rfl, rfl, rfl, rfl, rfl, rfl, rfl, rfl, rfl, rfl, trivial⟩ ?_
            rw [<- (hI.pos hj0).1]
            exact Ent.re
        refine wr ?_; repeat (refine zq ?_; refine OpV.box rfl rfl rfl ?_; intro _; refine wr ?_)
        have bad : ∀ {p : Prop}, p -> (p -> ¬ (hdOk sec e s (batN sec) j /\ 2 * batN sec + 1 <= room)) -> batM sec room e s = none := fun hp h => bat_head0 hI rfl hn2 (h hp)
        refine zg ?_ ?_ <;> intro hb
        · have hz := bad hb (fun hb q => by have := hb; simp at this; exact this q.1.1)
          ((refine wr ?_; repeat (refine zq ?_; refine OpV.box rfl rfl rfl ?_; intro _; refine wr ?_)); (refine zq ?_); refine OpV.stA (vs := [.int .u64 s, .slice x.1 pats.length x.2]) tab_ok rfl rfl rfl rfl (by simp [Value.oneCell']) zh (by simp) ?_; (refine wr ?_; repeat (refine zq ?_; refine OpV.box rfl rfl rfl ?_; intro _; refine wr ?_)); refine VF.stop (⟨s, x.1, x.2, pats⟩ : TxnE) ⟨rfl, fun l hl => by rw [hz] at hl; cases hl⟩ ?_; rw [hz]; exact Ent.re)
        have g1 : (HdrD.dec (sec (2 * j))).1 = 0 := by simpa using hb
        clear hb
        refine wr ?_; repeat (refine zq ?_; refine OpV.box rfl rfl rfl ?_; intro _; refine wr ?_)
        refine zg ?_ ?_ <;> intro hb
        · have hz := bad hb (fun hb q => by have := hb; simp at this; have := q.1.2.1; omega)
          ((refine wr ?_; repeat (refine zq ?_; refine OpV.box rfl rfl rfl ?_; intro _; refine wr ?_)); (refine zq ?_); refine OpV.stA (vs := [.int .u64 s, .slice x.1 pats.length x.2]) tab_ok rfl rfl rfl rfl (by simp [Value.oneCell']) zh (by simp) ?_; (refine wr ?_; repeat (refine zq ?_; refine OpV.box rfl rfl rfl ?_; intro _; refine wr ?_)); refine VF.stop (⟨s, x.1, x.2, pats⟩ : TxnE) ⟨rfl, fun l hl => by rw [hz] at hl; cases hl⟩ ?_; rw [hz]; exact Ent.re)
        have g2 : (HdrD.dec (sec (2 * j))).2.epoch = e := by have := hb; simp at this; omega
        clear hb
        refine wr ?_; repeat (refine zq ?_; refine OpV.box rfl rfl rfl ?_; intro _; refine wr ?_)
        refine zg ?_ ?_ <;> intro hb
        · have hz := bad hb (fun hb q => by have := hb; simp at this; have := q.1.2.2.1; omega)
          ((refine wr ?_; repeat (refine zq ?_; refine OpV.box rfl rfl rfl ?_; intro _; refine wr ?_)); (refine zq ?_); refine OpV.stA (vs := [.int .u64 s, .slice x.1 pats.length x.2]) tab_ok rfl rfl rfl rfl (by simp [Value.oneCell']) zh (by simp) ?_; (refine wr ?_; repeat (refine zq ?_; refine OpV.box rfl rfl rfl ?_; intro _; refine wr ?_)); refine VF.stop (⟨s, x.1, x.2, pats⟩ : TxnE) ⟨rfl, fun l hl => by rw [hz] at hl; cases hl⟩ ?_; rw [hz]; exact Ent.re)
        have g3 : (HdrD.dec (sec (2 * j))).2.seq = s := by have := hb; simp at this; omega
        clear hb
        refine wr ?_; repeat (refine zq ?_; refine OpV.box rfl rfl rfl ?_; intro _; refine wr ?_)
        ((first | apply VO.pure rfl rfl | apply VQ.pure rfl rfl | apply VD.take rfl rfl rfl | (refine VD.end rfl rfl rfl ?_; apply OpV.pure)); exact PureAt.quo (a := 2 * j) (b := 2) rfl rfl (by decide) (IntWalk.i64_in _ ⟨by omega, by omega⟩); rfl)
        refine wr ?_; repeat (refine zq ?_; refine OpV.box rfl rfl rfl ?_; intro _; refine wr ?_)
        refine zg ?_ ?_ <;> intro hb
        · have hz := bad hb (fun hb q => by have := hb; simp at this; have := q.1.2.2.2.1; omega)
          ((refine wr ?_; repeat (refine zq ?_; refine OpV.box rfl rfl rfl ?_; intro _; refine wr ?_)); (refine zq ?_); refine OpV.stA (vs := [.int .u64 s, .slice x.1 pats.length x.2]) tab_ok rfl rfl rfl rfl (by simp [Value.oneCell']) zh (by simp) ?_; (refine wr ?_; repeat (refine zq ?_; refine OpV.box rfl rfl rfl ?_; intro _; refine wr ?_)); refine VF.stop (⟨s, x.1, x.2, pats⟩ : TxnE) ⟨rfl, fun l hl => by rw [hz] at hl; cases hl⟩ ?_; rw [hz]; exact Ent.re)
        have g4 : (HdrD.dec (sec (2 * j))).2.index = j := by have := hb; simp at this; omega
        clear hb
        refine wr ?_; repeat (refine zq ?_; refine OpV.box rfl rfl rfl ?_; intro _; refine wr ?_)
        refine zg ?_ ?_ <;> intro hb
        · have hz := bad hb (fun hb q => by have := hb; simp at this; have := q.1.2.2.2.2; omega)
          ((refine wr ?_; repeat (refine zq ?_; refine OpV.box rfl rfl rfl ?_; intro _; refine wr ?_)); (refine zq ?_); refine OpV.stA (vs := [.int .u64 s, .slice x.1 pats.length x.2]) tab_ok rfl rfl rfl rfl (by simp [Value.oneCell']) zh (by simp) ?_; (refine wr ?_; repeat (refine zq ?_; refine OpV.box rfl rfl rfl ?_; intro _; refine wr ?_)); refine VF.stop (⟨s, x.1, x.2, pats⟩ : TxnE) ⟨rfl, fun l hl => by rw [hz] at hl; cases hl⟩ ?_; rw [hz]; exact Ent.re)
        have g5 : (HdrD.dec (sec (2 * j))).2.count = batN sec := by have := hb; simp at this; omega
        clear hb
        refine wr ?_; repeat (refine zq ?_; refine OpV.box rfl rfl rfl ?_; intro _; refine wr ?_)
        (refine VR.cond rfl rfl ?_ ?_ <;> intro hc)
        · have hz := bad hc (fun hc q => by have := hc; simp at this; have := q.2; omega)
          ((refine wr ?_; repeat (refine zq ?_; refine OpV.box rfl rfl rfl ?_; intro _; refine wr ?_)); (refine zq ?_); refine OpV.stA (vs := [.int .u64 s, .slice x.1 pats.length x.2]) tab_ok rfl rfl rfl rfl (by simp [Value.oneCell']) zh (by simp) ?_; (refine wr ?_; repeat (refine zq ?_; refine OpV.box rfl rfl rfl ?_; intro _; refine wr ?_)); refine VF.stop (⟨s, x.1, x.2, pats⟩ : TxnE) ⟨rfl, fun l hl => by rw [hz] at hl; cases hl⟩ ?_; rw [hz]; exact Ent.re)
        have g6 : 2 * batN sec + 1 <= room := by have := hc; simp at this; omega
        clear hc
        refine wr ?_; repeat (refine zq ?_; refine OpV.box rfl rfl rfl ?_; intro _; refine wr ?_)
        refine zq ?_
        refine OpV.stA (vs := (HdrD.dec (sec (2 * j))).2.cells) tab_ok rfl rfl rfl rfl (by simp [Value.oneCell']) zh (by simp) ?_
        refine wr ?_; repeat (refine zq ?_; refine OpV.box rfl rfl rfl ?_; intro _; refine wr ?_)
        refine VO.ent (H' := DigR d (crcS (headsF sec ((2 * j + 1) / 2))) :: Row n12 86 [.int .u64 s, .slice x.1 pats.length x.2] :: Row n13 300 (HdrD.dec (sec (2 * j))).2.cells :: Row n14 3 [.int .i64 (batN sec)] :: PatsO x pats :: PilP pats :: LoopR l (Loop.busy b) :: Row b1 245 [.slice (some la) (n * 128) cap] :: Row b2 3 [.int .i64 at_] :: At D (.deferred (some [])) :: Row n10 86 [.int .u64 0, .slice none 0 0] :: Row n11 4 [.bool false] :: Row n7 3 [.int .i64 room] :: Row n8 62 [.int .u64 e] :: Row n9 62 [.int .u64 s] :: Row n15 301 [.pointer (some ⟨d, 0, none⟩)] :: R) Ent.re ?_
        (refine zq ?_; refine zy rfl rfl (digadd_ok d (crcS (headsF sec ((2 * j + 1) / 2))) ((hsr (2 * j)).ent Ent.re) (by rw [hsl]; omega)) ?_)
        intro _ _
        refine wr ?_; repeat (refine zq ?_; refine OpV.box rfl rfl rfl ?_; intro _; refine wr ?_)
        have hdc := hdr_decO g1
        have h0' : (HdrD.dec (sec 0)).1 = 0 := by
          rcases Nat.eq_zero_or_pos j with q | q
          · rw [q] at g1; exact g1
          · exact (hI.pos (by omega)).2.2.2.1
        have hlt : (j : Int) < batN sec := by have := hdc.2.1.2.2.1; omega
        refine VF.on (τ := TxnE) h1 h2 ?_
        refine Ent.trans (Ent.trans (H' := bMov sec s (BBl.mk n7 n8 n9 n10 n11 n12 n13 n14 n15 d) (2 * j + 1) ⟨pats, x, (HdrD.dec (sec (2 * j))).2, batN sec⟩ ++ (LoopR l (Loop.busy b) :: Row b1 245 [.slice (some la) (n * 128) cap] :: Row b2 3 [.int .i64 at_] :: At D (.deferred (some [])) :: Row n10 86 [.int .u64 0, .slice none 0 0] :: Row n11 4 [.bool false] :: bFix room e s (BBl.mk n7 n8 n9 n10 n11 n12 n13 n14 n15 d) R)) ?_ (bSt_shut (hI.head_next rfl ⟨g1, g2, g3, g4, g5⟩ g6 hlt h0'))) Ent.re
        unfold bMov bFix
        dsimp only [List.cons_append, List.nil_append]
        rw [show crcM (crcS (headsF sec ((2 * j + 1) / 2))) (sec (2 * j)) = crcS (headsF sec ((2 * j + 1 + 1) / 2)) by
          rw [show (2 * j + 1) / 2 = j by omega, show (2 * j + 1 + 1) / 2 = j + 1 by omega]; exact (crcM_append _ _ _).symm]
        exact Ent.re
      obtain ⟨j, rfl⟩ : ∃ j, i = 2 * j + 1 := ⟨i / 2, by have := hc; simp at this; omega⟩
      clear hc
      obtain ⟨hok, hhd⟩ := hI.odd j rfl
      simp only at hhd
      subst hhd
      refine wr ?_; repeat (refine zq ?_; refine OpV.box rfl rfl rfl ?_; intro _; refine wr ?_)
      (refine zq ?_; refine zy rfl rfl (unesc_ok ((hsr (2 * j + 1)).ent Ent.re) hkc (HdrD.dec (sec (2 * j))).2.escaped) ?_)
      rintro ⟨ua, uc⟩ -
      refine VO.know (p := ua = none -> (unD (sec (2 * j + 1)) (HdrD.dec (sec (2 * j))).2.escaped).1.length = 0) (fun w hw => hw.ownNone (.head _)) ?_
      intro hun
      refine wr ?_; repeat (refine zq ?_; refine OpV.box rfl rfl rfl ?_; intro _; refine wr ?_)
      have bad : ∀ {p : Prop}, p -> (p -> ¬ ((unD (sec (2 * j + 1)) (HdrD.dec (sec (2 * j))).2.escaped).2 = 0 /\ (crcS (sec (2 * j + 1))).toNat = (HdrD.dec (sec (2 * j))).2.sum)) -> batM sec room e s = none := fun hp h => bat_data0 hI rfl (h hp)
      refine VR.joinH [(47, .bool (decide (¬ ((unD (sec (2 * j + 1)) (HdrD.dec (sec (2 * j))).2.escaped).2 = 0 /\ (crcS (sec (2 * j + 1))).toNat = (HdrD.dec (sec (2 * j))).2.sum)))), (7, .pointer (some ⟨n7, 0, none⟩)), (8, .pointer (some ⟨n8, 0, none⟩)), (9, .pointer (some ⟨n9, 0, none⟩)), (10, .pointer (some ⟨n10, 0, none⟩)), (11, .pointer (some ⟨n11, 0, none⟩)), (12, .pointer (some ⟨n12, 0, none⟩)), (13, .pointer (some ⟨n13, 0, none⟩)), (14, .pointer (some ⟨n14, 0, none⟩)), (15, .pointer (some ⟨n15, 0, none⟩)), (16, .int .i64 ((2 * j + 1 : Nat) : Int)), (22, .slice ua (unD (sec (2 * j + 1)) (HdrD.dec (sec (2 * j))).2.escaped).1.length uc)] ?_ ?_
      · intro Q2 jn
        (refine VR.drawn [4] 7 [0, 1, 2, 3, 5, 6, 4, 7, 8] _ rfl (by kernel_rfl) (by kernel_rfl) Ent.re ?_)
        refine wr ?_; repeat (refine zq ?_; refine OpV.box rfl rfl rfl ?_; intro _; refine wr ?_)
        refine zg ?_ ?_ <;> intro hb
        · have h0 : (unD (sec (2 * j + 1)) (HdrD.dec (sec (2 * j))).2.escaped).2 ≠ 0 := by simpa using hb
          refine wr ?_; repeat (refine zq ?_; refine OpV.box rfl rfl rfl ?_; intro _; refine wr ?_)
          exact jn.to () trivial ⟨asV rfl (by simp [h0]), rfl, rfl, rfl, rfl, rfl, rfl, rfl, rfl, rfl, rfl, rfl, trivial⟩ Ent.re
        · have h0 : (unD (sec (2 * j + 1)) (HdrD.dec (sec (2 * j))).2.escaped).2 = 0 := by simpa using hb
          refine wr ?_; repeat (refine zq ?_; refine OpV.box rfl rfl rfl ?_; intro _; refine wr ?_)
          have hle : (sec (2 * j + 1)).length <= 1099511627776 := by rw [hsl]; omega
          (refine zq ?_; refine zy rfl rfl (sum_ok ((hsr (2 * j + 1)).ent (Ent.drop (Ent.drop (Ent.drop (Ent.drop (Ent.drop (Ent.drop (Ent.drop (Ent.drop (Ent.drop (Ent.drop (Ent.drop (Ent.drop (Ent.drop (Ent.drop (Ent.drop (Ent.drop (Ent.drop Ent.refl)))))))))))))))))) hle) ?_)
          intro _ _
          refine ⟨Ent.re, ?_⟩
          refine wr ?_; repeat (refine zq ?_; refine OpV.box rfl rfl rfl ?_; intro _; refine wr ?_)
          exact jn.to () trivial ⟨asV rfl (by
            congr 1; rw [Bool.eq_iff_iff]; simp only [h0, true_and, decide_eq_true_iff, bne_iff_ne, ne_eq]
            constructor
            · intro q z; exact q (by rw [z])
            · intro q z; exact q (by omega)), rfl, rfl, rfl, rfl, rfl, rfl, rfl, rfl, rfl, rfl, rfl, trivial⟩ Ent.re
      refine wr ?_; repeat (refine zq ?_; refine OpV.box rfl rfl rfl ?_; intro _; refine wr ?_)
      (refine VR.cond rfl rfl ?_ ?_ <;> intro hc)
      · have hz := bad hc (fun hc => of_decide_eq_true hc)
        ((refine wr ?_; repeat (refine zq ?_; refine OpV.box rfl rfl rfl ?_; intro _; refine wr ?_)); (refine zq ?_); refine OpV.stA (vs := [.int .u64 s, .slice x.1 pats.length x.2]) tab_ok rfl rfl rfl rfl (by simp [Value.oneCell']) zh (by simp) ?_; (refine wr ?_; repeat (refine zq ?_; refine OpV.box rfl rfl rfl ?_; intro _; refine wr ?_)); refine VF.stop (⟨s, x.1, x.2, pats⟩ : TxnE) ⟨rfl, fun l hl => by rw [hz] at hl; cases hl⟩ ?_; rw [hz]; exact Ent.re)
      have hgd : (unD (sec (2 * j + 1)) (HdrD.dec (sec (2 * j))).2.escaped).2 = 0 /\ (crcS (sec (2 * j + 1))).toNat = (HdrD.dec (sec (2 * j))).2.sum := by have := hc; simp only [decide_eq_false_iff_not, Decidable.not_not] at this; exact this
      clear hc
      have hpl : pats.length = j := by
        have h5 := congrArg List.length hI.pats
        rw [List.length_map, List.length_map, List.length_range] at h5
        simp only at h5
        omega
      have hjN := (hI.pos (by omega)).2.2.2.2
      refine wr ?_; repeat (refine zq ?_; refine OpV.box rfl rfl rfl ?_; intro _; refine wr ?_)
      ((first | apply VO.pure rfl rfl | apply VD.take rfl rfl rfl | (refine VD.end rfl rfl rfl ?_; apply OpV.pure)); apply PureAt.build sb_88 rfl; (simp [buildX, setL, Value.cells]; rfl); rfl)
      refine zq ?_
      refine OpV.buildSlice (cs := PatE.cells ⟨(HdrD.dec (sec (2 * j))).2.member, (HdrD.dec (sec (2 * j))).2.row, ⟨ua, uc, (unD (sec (2 * j + 1)) (HdrD.dec (sec (2 * j))).2.escaped).1⟩⟩) st_84 rfl rfl (by simp [Value.cells]) rfl (by decide) rfl ?_
      intro nc
      refine zq ?_
      refine OpV.appendRow st_84 rfl rfl zh zm rfl (pat_one _) (by simp only [maxLen]; omega) (by omega) rfl ?_
      intro so sc
      refine wr ?_; repeat (refine zq ?_; refine OpV.box rfl rfl rfl ?_; intro _; refine wr ?_)
      refine VF.on (τ := TxnE) h1 h2 ?_
      refine Ent.trans (Ent.re (L := OwnB (ua, uc) (unD (sec (2 * j + 1)) (HdrD.dec (sec (2 * j))).2.escaped).1 :: PilP pats :: Row n12 86 [.int .u64 s, .slice so (pats.length + 1) sc] :: Row n13 300 (HdrD.dec (sec (2 * j))).2.cells :: Row n14 3 [.int .i64 cnt] :: DigR d (crcS (headsF sec ((2 * j + 1 + 1) / 2))) :: Sl.Own 88 3 (.slice so (pats.length + 1) sc) (pats.length + 1) (patCells pats ++ PatE.cells ⟨(HdrD.dec (sec (2 * j))).2.member, (HdrD.dec (sec (2 * j))).2.row, ⟨ua, uc, (unD (sec (2 * j + 1)) (HdrD.dec (sec (2 * j))).2.escaped).1⟩⟩) :: LoopR l (Loop.busy b) :: Row b1 245 [.slice (some la) (n * 128) cap] :: Row b2 3 [.int .i64 at_] :: At D (.deferred (some [])) :: Row n10 86 [.int .u64 0, .slice none 0 0] :: Row n11 4 [.bool false] ::  bFix room e s (BBl.mk n7 n8 n9 n10 n11 n12 n13 n14 n15 d) R)) ?_
      refine Ent.trans (fun w hw => pile_push (res := PatE.res) (a := (⟨(HdrD.dec (sec (2 * j))).2.member, (HdrD.dec (sec (2 * j))).2.row, ⟨ua, uc, (unD (sec (2 * j + 1)) (HdrD.dec (sec (2 * j))).2.escaped).1⟩⟩ : PatE)) hw) ?_
      have hp1 : PatsO (so, sc) (pats ++ [⟨(HdrD.dec (sec (2 * j))).2.member, (HdrD.dec (sec (2 * j))).2.row, ⟨ua, uc, (unD (sec (2 * j + 1)) (HdrD.dec (sec (2 * j))).2.escaped).1⟩⟩]) = Sl.Own 88 3 (.slice so (pats.length + 1) sc) (pats.length + 1) (patCells pats ++ PatE.cells ⟨(HdrD.dec (sec (2 * j))).2.member, (HdrD.dec (sec (2 * j))).2.row, ⟨ua, uc, (unD (sec (2 * j + 1)) (HdrD.dec (sec (2 * j))).2.escaped).1⟩⟩) := by
        show Sl.Own 88 3 (.slice so (pats ++ [(⟨(HdrD.dec (sec (2 * j))).2.member, (HdrD.dec (sec (2 * j))).2.row, ⟨ua, uc, (unD (sec (2 * j + 1)) (HdrD.dec (sec (2 * j))).2.escaped).1⟩⟩ : PatE)]).length sc) (pats ++ [(⟨(HdrD.dec (sec (2 * j))).2.member, (HdrD.dec (sec (2 * j))).2.row, ⟨ua, uc, (unD (sec (2 * j + 1)) (HdrD.dec (sec (2 * j))).2.escaped).1⟩⟩ : PatE)]).length (patCells (pats ++ [(⟨(HdrD.dec (sec (2 * j))).2.member, (HdrD.dec (sec (2 * j))).2.row, ⟨ua, uc, (unD (sec (2 * j + 1)) (HdrD.dec (sec (2 * j))).2.escaped).1⟩⟩ : PatE)])) = _
        rw [List.length_append, show patCells (pats ++ [(⟨(HdrD.dec (sec (2 * j))).2.member, (HdrD.dec (sec (2 * j))).2.row, ⟨ua, uc, (unD (sec (2 * j + 1)) (HdrD.dec (sec (2 * j))).2.escaped).1⟩⟩ : PatE)]) = patCells pats ++ PatE.cells ⟨(HdrD.dec (sec (2 * j))).2.member, (HdrD.dec (sec (2 * j))).2.row, ⟨ua, uc, (unD (sec (2 * j + 1)) (HdrD.dec (sec (2 * j))).2.escaped).1⟩⟩ by simp [patCells]]; rfl
      refine Ent.trans (Ent.trans (H' := bMov sec s (BBl.mk n7 n8 n9 n10 n11 n12 n13 n14 n15 d) (2 * j + 1 + 1) ⟨pats ++ [⟨(HdrD.dec (sec (2 * j))).2.member, (HdrD.dec (sec (2 * j))).2.row, ⟨ua, uc, (unD (sec (2 * j + 1)) (HdrD.dec (sec (2 * j))).2.escaped).1⟩⟩], (so, sc), (HdrD.dec (sec (2 * j))).2, cnt⟩ ++ (LoopR l (Loop.busy b) :: Row b1 245 [.slice (some la) (n * 128) cap] :: Row b2 3 [.int .i64 at_] :: At D (.deferred (some [])) :: Row n10 86 [.int .u64 0, .slice none 0 0] :: Row n11 4 [.bool false] ::  bFix room e s (BBl.mk n7 n8 n9 n10 n11 n12 n13 n14 n15 d) R)) ?_ (bSt_shut (hI.data_next rfl (so, sc) ⟨(HdrD.dec (sec (2 * j))).2.member, (HdrD.dec (sec (2 * j))).2.row, ⟨ua, uc, (unD (sec (2 * j + 1)) (HdrD.dec (sec (2 * j))).2.escaped).1⟩⟩ rfl hgd))) Ent.re
      unfold bMov bFix
      dsimp only [List.cons_append, List.nil_append]
      rw [hp1, List.length_append, show (2 * j + 1 + 1 + 1) / 2 = (2 * j + 1 + 1) / 2 by omega]
      exact Ent.re
    · rintro (_ | t) _
      · exact Ent.re
      · exact Ent.refl
  · intro D
    refine vfAbsurd fun w hw => ?_
    have h1 : Holds W (bSt sec room e s (BBl.mk n7 n8 n9 n10 n11 n12 n13 n14 n15 d) n :: At D (.deferred (some [])) :: []) w := (Ent.re : Ent W _ _) w hw
    obtain ⟨⟨st, hI⟩, _⟩ := bSt_open h1
    have := hI.pos (by omega)
    omega
  · intro D t ht
    refine wr ?_; repeat (refine zq ?_; refine OpV.box rfl rfl rfl ?_; intro _; refine wr ?_)
    refine VF.results2 (.inl rfl) t rfl .head (ResIs.agg (vs := t.cells) tab_ok rfl rfl (by unfold bRes; (focus repeat first | exact .head _ | apply List.Mem.tail)) rfl rfl) (ResIs.leaf tab_ok rfl rfl (by unfold bRes; (focus repeat first | exact .head _ | apply List.Mem.tail)) rfl) ht rfl ?_
    unfold bRes
    exact Ent.re
end Go.Proofs.YtjebagmjcdaegaaGreat
/-! Text Sy. -/
namespace Go.Sl
open Go Go.RowKit
section
variable {P : Program} {ops : Array Oper} {Q : Exit -> Act -> World -> Prop} {md : Region.Mode} {I : Array Bool -> World -> Prop}
def wpAnyI (P : Program) (md : Region.Mode) (ops : Array Oper) (Q : Exit -> Act -> World -> Prop) (I : Array Bool -> World -> Prop) : Nat -> Array Bool -> Act -> World -> Prop
  | 0, listed, a, w => Region.ready md ops listed = [] /\ Q .normal a w
  | fuel + 1, listed, a, w =>
    (Region.ready md ops listed = [] -> Q .normal a w) /\
    ∀ i ∈ Region.ready md ops listed, wpOp P ops Q i (fun a' w' => I (listed.setIfInBounds i true) w' /\ wpAnyI P md ops Q I fuel (listed.setIfInBounds i true) a' w') a w
theorem wpAny_of_I : ∀ (fuel : Nat) (listed : Array Bool) (a : Act) (w : World), wpAnyI P md ops Q I fuel listed a w -> wpAny P md ops Q fuel listed a w
 | 0, _, _, _, h => h
 | fuel + 1, _, _, _, h => ⟨h.1, fun i hi => wpOp_mono (fun a' w' h' => wpAny_of_I fuel _ a' w' h'.2) (h.2 i hi)⟩
theorem wpAnyI_first {i : Nat} {oi : Oper} {v : Value} {Si : World -> Prop} (hi : ops[i]? = some oi) (hsel : ∀ (j : Nat) (o : Oper) cs b, ops[j]? = some o -> o.op ≠ .select cs b)
    (hQ : ∀ c a w, ¬ Q (.panic c) a w)
    (hIi : ∀ listed w, HeadInv md ops ops.size listed -> listed.getD i true = false -> I listed w -> Si w)
    (hI1 : ∀ listed w, I listed w -> I (listed.setIfInBounds i true) w) (hI2 : ∀ listed w, I (listed.setIfInBounds i true) w -> I listed w) :
    ∀ (fuel : Nat) (listed : Array Bool) (a : Act) (w : World), HeadInv md ops ops.size listed ->
      (∀ j oj, ops[j]? = some oj -> j ≠ i -> listed.getD j true = false -> (∀ e ∈ oj.after, Region.binds md e = true -> e.on ≠ i) -> oi.apart ops oj = true) ->
      i ∈ Region.ready md ops listed -> YieldsIf P ops Si oi v a -> I listed w ->
      wpAnyI P md ops Q I fuel (listed.setIfInBounds i true) (a.put oi.dst v) w -> wpAnyI P md ops Q I (fuel + 1) listed a w := by
  intro fuel
  induction fuel with
  | zero =>
    intro listed a w inv _ hr hy hS H
    refine ⟨fun h => (by rw [h] at hr; cases hr), fun j hj => ?_⟩
    by_cases hji : j = i
    · subst hji; exact hy.wpOp hi (hIi _ _ inv (mem_ready.1 hr).1 hS) ⟨hI1 _ _ hS, H⟩
    · have := ready_mono hj hji
      rw [H.1] at this
      cases this
  | succ fuel ih =>
    intro listed a w inv hfree hr hy hS H
    refine ⟨fun h => (by rw [h] at hr; cases hr), fun j hj => ?_⟩
    by_cases hji : j = i
    · subst hji; exact hy.wpOp hi (hIi _ _ inv (mem_ready.1 hr).1 hS) ⟨hI1 _ _ hS, H⟩
    · have h1 := H.2 j (ready_mono hj hji)
      obtain ⟨hjun, oj, hoj, hall⟩ := mem_ready.1 hj
      have hjlt : j < ops.size := (Array.getElem?_eq_some_iff.1 hoj).1
      have hnot : ∀ e ∈ oj.after, Region.binds md e = true -> e.on ≠ i := fun e he hb heq => by
        have h1 := hall e he hb
        have h0 := (mem_ready.1 hr).1
        rw [heq] at h1
        rw [getD_both h0] at h1
        cases h1
      have h2 := wpOp_putIf hoj (hfree j oj hoj hji hjun hnot) (fun cs b => hsel i oi cs b hi) (fun cs b => hsel j oj cs b hoj) (fun c a w h => absurd h (hQ c _ w)) hy h1
      have hfree' : ∀ k ok, ops[k]? = some ok -> k ≠ i -> (listed.setIfInBounds j true).getD k true = false ->
          (∀ e ∈ ok.after, Region.binds md e = true -> e.on ≠ i) -> oi.apart ops ok = true := fun k ok hk hki hun hno => by
        refine hfree k ok hk hki ?_ hno
        by_cases hjk : j = k
        · subst hjk; exact hjun
        · rw [getD_set_ne true hjk] at hun; exact hun
      refine wpOp_mono (fun a' w' h3 => ?_) h2
      have hc : (listed.setIfInBounds i true).setIfInBounds j true = (listed.setIfInBounds j true).setIfInBounds i true := Array.setIfInBounds_comm _ _ (Ne.symm hji)
      have h4 := h3.2.1
      have h5 := h3.2.2
      rw [hc] at h4 h5
      exact ⟨hI2 _ _ h4, ih (listed.setIfInBounds j true) a' w' (inv.set hj hjlt) hfree' (ready_mono hr (Ne.symm hji)) h3.1 (hI2 _ _ h4) h5⟩
def levN (tv : List (Nat × Nat)) (listed : Array Bool) : Nat := tv.foldl (fun k p => bif listed.getD p.1 false then max k p.2 else k) 0
def wpSchedI (P : Program) (ops : Array Oper) (Q : Exit -> Act -> World -> Prop) (I : Array Bool -> World -> Prop) (Sy : Nat -> World -> Prop) (mv : List Nat) : List Nat -> Array Bool -> Act -> World -> Prop
  | [], _, a, w => Q .normal a w
  | i :: r, listed, a, w =>
    (mv.contains i = true /\ wpOp P ops (calmQ Q) i (fun a' w' => I (listed.setIfInBounds i true) w' /\ wpSchedI P ops Q I Sy mv r (listed.setIfInBounds i true) a' w') a w) \/
    (mv.contains i = false /\ ∃ o v, ops[i]? = some o /\ YieldsIf P ops (Sy i) o v a /\ wpSchedI P ops Q I Sy mv r (listed.setIfInBounds i true) (a.put o.dst v) w)
def headI (ops : Array Oper) (mv : List Nat) : List Nat -> Array Bool -> Bool
  | [], listed => (Region.ready .any ops listed).isEmpty
  | i :: r, listed =>
    bif mv.contains i then oneB ops listed i && headI ops mv r (listed.setIfInBounds i true) else
    Region.free .any ops listed i && (Region.ready .any ops listed).contains i && headI ops mv r (listed.setIfInBounds i true)
theorem sched_I {mv : List Nat} {Sy : Nat -> World -> Prop} (hs : Region.noSelect ops = true)
    (hIi : ∀ i listed w, mv.contains i = false -> i < ops.size -> HeadInv .any ops ops.size listed -> listed.getD i true = false -> I listed w -> Sy i w)
    (hI1 : ∀ i listed w, mv.contains i = false -> I listed w -> I (listed.setIfInBounds i true) w) (hI2 : ∀ i listed w, mv.contains i = false -> I (listed.setIfInBounds i true) w -> I listed w) :
    ∀ (r : List Nat) (listed : Array Bool) (a : Act) (w : World), HeadInv .any ops ops.size listed -> headI ops mv r listed = true -> I listed w -> wpSchedI P ops Q I Sy mv r listed a w -> wpAnyI P .any ops (calmQ Q) I r.length listed a w
  | [], listed, a, w, _, h, _, hw => by
    simp only [headI, List.isEmpty_iff] at h
    exact ⟨h, rfl, hw⟩
  | i :: r, listed, a, w, inv, h, hS, hw => by
    unfold headI at h
    cases h2 : mv.contains i with
    | true =>
      rw [h2] at h
      simp only [cond_true, Bool.and_eq_true] at h
      have hr := oneB_spec h.1
      rcases hw with ⟨_, hw⟩ | ⟨hm, _⟩
      · refine ⟨fun h0 => (by rw [hr] at h0; cases h0), fun j hj => ?_⟩
        have hj' := hj
        rw [hr, List.mem_singleton] at hj'
        subst hj'
        obtain ⟨_, oj, hoj, _⟩ := mem_ready.1 hj
        exact wpOp_mono (fun a' w' h' => ⟨h'.1, sched_I hs hIi hI1 hI2 r _ a' w' (inv.set hj (Array.getElem?_eq_some_iff.1 hoj).1) h.2 h'.1 h'.2⟩) hw
      · rw [h2] at hm; cases hm
    | false =>
      rw [h2] at h
      simp only [cond_false, Bool.and_eq_true] at h
      have hr : i ∈ Region.ready .any ops listed := by simpa using h.1.2
      rcases hw with ⟨hm, _⟩ | ⟨_, o, v, ho, hy, hw⟩
      · rw [h2] at hm; cases hm
      · have hlt : i < ops.size := (Array.getElem?_eq_some_iff.1 ho).1
        exact wpAnyI_first ho (Region.noSelect_spec hs) (fun c a w hc => by cases hc.1) (fun l w a b c => hIi i l w h2 hlt a b c) (fun l w => hI1 i l w h2) (fun l w => hI2 i l w h2) r.length listed a w inv (Region.free_spec ho h.1.1) hr hy hS (sched_I hs hIi hI1 hI2 r _ _ w (inv.set hr hlt) h.2 (hI1 i _ _ h2 hS) hw)
theorem lev_le {tv : List (Nat × Nat)} {listed : Array Bool} {k : Nat} (h : ∀ p ∈ tv, listed.getD p.1 false = true -> p.2 <= k) : levN tv listed <= k := by
  have key : ∀ (l : List (Nat × Nat)) (m : Nat), m <= k -> (∀ p ∈ l, listed.getD p.1 false = true -> p.2 <= k) -> l.foldl (fun k p => bif listed.getD p.1 false then max k p.2 else k) m <= k := by
    intro l
    induction l with
    | nil => exact fun m hm _ => hm
    | cons p l ih =>
      intro m hm hl
      rw [List.foldl_cons]
      refine ih _ ?_ (fun q hq => hl q (.tail _ hq))
      cases hp : listed.getD p.1 false with
      | true => have := hl p (.head _) hp; simp only [cond_true]; omega
      | false => exact hm
  exact key tv 0 (Nat.zero_le _) h
theorem lev_set {tv : List (Nat × Nat)} {listed : Array Bool} {i : Nat} (h : ∀ p ∈ tv, p.1 ≠ i) : levN tv (listed.setIfInBounds i true) = levN tv listed := by
  have key : ∀ (l : List (Nat × Nat)) (m : Nat), (∀ p ∈ l, p.1 ≠ i) -> l.foldl (fun k p => bif (listed.setIfInBounds i true).getD p.1 false then max k p.2 else k) m = l.foldl (fun k p => bif listed.getD p.1 false then max k p.2 else k) m := by
    intro l
    induction l with
    | nil => exact fun m _ => rfl
    | cons p l ih =>
      intro m hl
      rw [List.foldl_cons, List.foldl_cons, getD_set_ne false (Ne.symm (hl p (.head _)))]
      exact ih _ (fun q hq => hl q (.tail _ hq))
  exact key tv 0 h
theorem getD_replicate_false2 {n k : Nat} : (Array.replicate n false).getD k false = false := by
 simp only [Array.getD, Array.size_replicate]
 split
 · simp
 · rfl
def waitsT (ops : Array Oper) : Nat -> Nat -> Nat -> Bool
  | 0, _, _ => false
  | k + 1, m, i => match ops[m]? with
    | some o => o.after.any fun e => Region.binds .any e && (e.on == i || waitsT ops k e.on i)
    | none => false
theorem waits_listed {listed : Array Bool} (inv : HeadInv .any ops ops.size listed) : ∀ (k m i : Nat), waitsT ops k m i = true -> listed.getD m false = true -> listed.getD i false = true
  | 0, _, _, h, _ => by cases h
  | k + 1, m, i, h, hm => by
    unfold waitsT at h
    cases ho : ops[m]? with
    | none => rw [ho] at h; cases h
    | some o =>
      rw [ho] at h
      simp only [Array.any_eq_true', Bool.and_eq_true, Bool.or_eq_true, beq_iff_eq] at h
      obtain ⟨e, he, hb, h1⟩ := h
      have h2 := inv.closed m o ho hm e he hb
      rcases h1 with h1 | h1
      · rw [<- h1]; exact h2
      · exact waits_listed inv k _ i h1 h2
def lvOf (lv : List (Nat × Nat)) (top i : Nat) : Nat := match lv.find? (fun p => Nat.beq p.1 i) with
  | some p => p.2
  | none => top
def drawL (ops : Array Oper) (mv : List Nat) (tv lv : List (Nat × Nat)) (top : Nat) (ord : List Nat) : Bool :=
  Nat.beq ord.length ops.size && Region.noSelect ops && headI ops mv ord (Array.replicate ops.size false) && (tv.all fun p => mv.contains p.1) &&
  ((List.range ops.size).all fun i => mv.contains i || tv.all fun p => Nat.ble p.2 (lvOf lv top i) || waitsT ops ops.size p.1 i)
variable {W : World} {n : Nat} {c : Code} {H H' : List SProp} {RL : Nat -> List SProp} {mv r : List Nat} {tv lv : List (Nat × Nat)} {top i d : Nat} {listed : Array Bool} {f : Fr}
variable {dst : Option Tmp} {ty_ : TypeId} {pos : String} {after : Array Edge} {guard : Option (Nat × Bool)}
def VL (W : World) (P : Program) (n : Nat) (c : Code) (RL : Nat -> List SProp) (mv : List Nat) (tv lv : List (Nat × Nat)) (top : Nat) (r : List Nat) (listed : Array Bool) (Q : Exit -> Act -> World -> Prop) (H : List SProp) (f : Fr) : Prop :=
  ∀ t w, Knows n f t -> Holds W H w -> wpSchedI P (regOps c).toArray Q (fun listed w => Holds W (RL (levN tv listed)) w) (fun i => Holds W (RL (lvOf lv top i))) mv r listed ⟨t, []⟩ w
theorem VC.drawnL (RL : Nat -> List SProp) (mv : List Nat) (tv lv : List (Nat × Nat)) (top : Nat) (ord : List Nat) (hc : regDraw c = some true) (hm : P.follows .mixedOrders = true) (hB : drawL (regOps c).toArray mv tv lv top ord = true)
  (hR : Ent W H (RL 0)) (hE : ∀ k, Ent W (RL k) (RL (k + 1))) (h : VL W P n c RL mv tv lv top ord (Array.replicate (regOps c).length false) Q H f) : VC W P n c Q H f := by
 have hmono : ∀ a b, Ent W (RL a) (RL (a + b)) := by
  intro a b
  induction b with
  | zero => exact Ent.refl
  | succ b ih => exact Ent.trans ih (hE _)
 unfold VC
 cases c <;> simp [regDraw] at hc
 subst hc
 intro t w hk hw
 have h' := h t w.drew hk hw.drew
 simp only [regOps, Array.toArray_toList, Array.length_toList] at h' hB
 simp only [drawL, Bool.and_eq_true] at hB
 obtain ⟨⟨⟨⟨hl, hs⟩, hh⟩, ht⟩, hi⟩ := hB
 have hl' := Nat.eq_of_beq_eq_true hl
 have htv : ∀ i, mv.contains i = false -> ∀ p ∈ tv, p.1 ≠ i := by
  intro i hi p hp e
  have := List.all_eq_true.1 ht p hp
  rw [e, hi] at this; cases this
 have h1 := sched_I (P := P) (Q := Q) (I := fun listed w => Holds W (RL (levN tv listed)) w) (Sy := fun i => Holds W (RL (lvOf lv top i))) (mv := mv) hs
  (fun i listed w hm hlt inv hun hI => by
   have h2 := List.all_eq_true.1 hi i (List.mem_range.2 hlt)
   rw [hm, Bool.false_or] at h2
   have h3 : levN tv listed <= lvOf lv top i := lev_le fun p hp hpl => by
    have h4 := List.all_eq_true.1 h2 p hp
    rw [Bool.or_eq_true] at h4
    rcases h4 with h4 | h4
    · exact Nat.le_of_ble_eq_true h4
    ·
     have := waits_listed inv _ _ _ h4 hpl
     rw [getD_both hun] at this; cases this
   have h5 := hmono (levN tv listed) (lvOf lv top i - levN tv listed) w hI
   rwa [Nat.add_sub_cancel' h3] at h5)
  (fun i listed w hm hI => by show Holds W (RL (levN tv _)) w; rw [lev_set (htv i hm)]; exact hI)
  (fun i listed w hm hI => by have : Holds W (RL (levN tv (listed.setIfInBounds i true))) w := hI; rw [lev_set (htv i hm)] at this; exact this)
  ord _ _ w.drew (HeadInv.start _) hh (by
   show Holds W (RL (levN tv _)) w.drew
   have h0 : ∀ m, levN tv (Array.replicate m false) = 0 := fun m => Nat.le_zero.1 (lev_le fun p hp hpl => by rw [getD_replicate_false2] at hpl; cases hpl)
   rw [h0]; exact hR _ hw.drew) h'
 rw [hl'] at h1
 refine Code.wp_mono ?_ (wp_region_any (Q := calmQ Q) hm (wpAny_of_I _ _ _ _ h1))
 rintro e a w ⟨rfl, hq⟩
 exact hq
theorem VL.nil (h : VE W n Q .normal H f) : VL W P n c RL mv tv lv top [] listed Q H f := by
 unfold VE at h
 exact fun t w hk hw => h t w hk hw
theorem VL.take {op : Op} {v : Value} (ho : (regOps c)[i]? = some { dst := some d, op, type := ty_, pos, after, guard }) (hm : mv.contains i = false) (hg : wantX (regOps c) guard f = some true) (k : Nat) (hl : lvOf lv top i = k)
  (hp : PureAt W P n (RL k) f { dst := some d, op, type := ty_, pos, after, guard } v) (hd : Nat.blt d n = true) (h : VL W P n c RL mv tv lv top r (listed.setIfInBounds i true) Q H ((d, v) :: f)) : VL W P n c RL mv tv lv top (i :: r) listed Q H f := by
 subst hl
 unfold PureAt at hp
 intro t w hk hw
 exact .inr ⟨hm, _, v, by simpa using ho, .inl ⟨hk.wanted (o := { dst := some d, op, type := ty_, pos, after, guard }) hg, fun w hS => hp t w hk hS⟩, h _ w (hk.put hd) hw⟩
theorem VL.mid {o : Oper} (ho : (regOps c)[i]? = some o) (hm : mv.contains i = true) (hg : wantX (regOps c) o.guard f = some true) (k : Nat) (hl : levN tv (listed.setIfInBounds i true) = k)
  (h : OpV W P n o (calmQ Q) H f (fun H' f' => Ent W H' (RL k) /\ VL W P n c RL mv tv lv top r (listed.setIfInBounds i true) Q H' f')) : VL W P n c RL mv tv lv top (i :: r) listed Q H f := by
 subst hl
 unfold OpV at h
 intro t w hk hw
 refine .inl ⟨hm, ?_⟩
 unfold wpOp
 simp only [List.getElem?_toArray, ho]
 rw [if_pos (hk.wanted hg)]
 exact .inl (h t w hk hw _ (fun H' f' hN t' w' hk' hw' => ⟨hN.1 w' hw', hN.2 t' w' hk' hw'⟩))
theorem VL.re {v : Value} (k : Nat) (v' : Value) (hl : look f k = some v) (e : v = v') (h : VL W P n c RL mv tv lv top r listed Q H ((k, v') :: f)) : VL W P n c RL mv tv lv top r listed Q H f := fun t w hk hw => h t w (hk.again (e ▸ hl)) hw
end
attribute [irreducible] VL
end Go.Sl
/-! Text Ng. -/
namespace Go.Sl
open Go Go.RowKit
section
variable {W : World} {P : Program} {n : Nat} {c : Code} {Q : Exit -> Act -> World -> Prop} {H H' L R : List SProp} {f F : Fr} {mv ord r : List Nat} {tl i x d e : Nat} {X : Nat -> SProp} {vx : Nat -> Value}
variable {dst : Option Tmp} {ty_ : TypeId} {pos : String} {after : Array Edge} {guard : Option (Nat × Bool)}
theorem VX.callD {ox : Oper} {y : Operand} {xs : Array Operand} {ats : Array TypeId} {g : FuncId} {cap : Array Value} {vs : List Value} {β : Type} {A : β -> Prop} {rv : β -> Value} {S : β -> List SProp}
  (ho : (regOps c)[i]? = some { dst := some e, op := .call { callee := .value y, args := xs, argTypes := ats }, type := ty_, pos, after, guard }) (hix : Nat.beq i x = false) (hm : mv.contains i = true) (hg : wantX (regOps c) guard f = some true)
  (hx : evalX f y = some (.func (.func g) #[] cap)) (ha : argsX f xs.toList = some vs) (hc : ∀ a w, (callFunc g a).run P w = .ok (.enter g a) w) (spec : ∀ L, Ent W L H -> Does W P g (vs ++ cap.toList) L A rv (fun x => S x ++ L))
  (hox : (regOps c)[x]? = some ox) (fx : FloatX W P n ox d X vx) (hR : Ent W H R) (hd : Nat.blt e n = true) (hfd : look f d = none) (hed : Nat.beq e d = false) (h : ∀ z, A z -> VX W P n c R mv tl x d X vx r Q (S z ++ H) ((e, rv z) :: f)) : VX W P n c R mv tl x d X vx (i :: r) Q H f := by
 have hne : i ≠ x := by intro q; subst q; simp at hix
 have hdrop : ∀ (A B : List SProp), Ent W (A ++ B) B := by
  intro A
  induction A with
  | nil => exact fun _ => Ent.refl
  | cons a A ih => exact fun B => Ent.trans (Ent.drop Ent.refl) (ih B)
 have second : ∀ b t w, Knows n ((d, vx b) :: f) t -> Holds W (X b :: H) w -> wpSched P (regOps c).toArray Q (Holds W R) mv tl (i :: r.erase x) ⟨t, []⟩ w := by
  intro b t w hk hw
  have hk' := hk.under hfd
  refine .inl ⟨by unfold mvB; rw [hm]; rfl, ?_⟩
  unfold wpOp
  simp only [List.getElem?_toArray, ho]
  rw [if_pos (hk'.wanted (o := { dst := some e, op := .call { callee := .value y, args := xs, argTypes := ats }, type := ty_, pos, after, guard }) hg)]
  have hE : Ent W (X b :: H) H := Ent.drop Ent.refl
  have hs := spec _ hE
  refine .inl ?_
  have hargs : xs.map (Act.eval ⟨t, []⟩) = vs.toArray := by
   have := hk'.args ha
   apply Array.ext'
   simpa using this
  unfold Does at hs
  have hs := hs w hw
  unfold Oper.wp execOp
  simp only [resolve, hk'.eval hx, hargs, Deferred.ofValue, invoke, Sem.run_bind, Sem.run_pure, Result.andThen_ok, hc, Oper.upon]
  have e9 : #[] ++ vs.toArray ++ cap = (vs ++ cap.toList).toArray := by simp
  rw [e9]
  refine Calls.mono hs ?_
  rintro e8 w' ⟨z, hA, rfl, hG⟩
  have h2 := h z hA
  unfold VX at h2
  exact ⟨fun _ => hR _ (hdrop _ _ _ hG).tail, h2.2 b _ w' ((hk.put hd).swap hed) (hG.perm List.perm_middle)⟩
 unfold VX
 refine ⟨fun t w hk hw => .inr (.inl ⟨hne, hm, ?_, ?_⟩), fun b t w hk hw => by rw [List.erase_cons_tail (by simpa using hne)]; exact second b t w hk hw⟩
 ·
  unfold wpOp
  simp only [List.getElem?_toArray, ho]
  rw [if_pos (hk.wanted (o := { dst := some e, op := .call { callee := .value y, args := xs, argTypes := ats }, type := ty_, pos, after, guard }) hg)]
  have := OpV.call (W := W) (n := n) (d := e) (ty_ := ty_) (pos := pos) (after := after) (guard := guard) (ats := ats) (Q := calmQ Q) (f := f) (H := H) (N := fun H' f' => ∃ z, A z /\ H' = S z ++ H /\ f' = (e, rv z) :: f) hx ha hc (spec _ Ent.refl) Ent.refl hd (fun z hz => ⟨z, hz, rfl, rfl⟩)
  unfold OpV at this
  refine .inl (this t w hk hw _ ?_)
  rintro H' f' ⟨z, hz, rfl, rfl⟩ t' w' hk' hw'
  have h2 := h z hz
  unfold VX at h2
  exact ⟨hR _ (hdrop _ _ _ hw'), h2.1 t' w' hk' hw'⟩
 ·
  unfold wpOp
  simp only [List.getElem?_toArray, hox]
  rw [if_pos (by unfold Region.wanted; rw [fx.guard])]
  have := fx.run (calmQ Q) H f (fun H' f' => ∃ b, H' = X b :: H /\ f' = (d, vx b) :: f) (fun b => ⟨b, rfl, rfl⟩)
  unfold OpV at this
  refine .inl (this t w hk hw _ ?_)
  rintro H' f' ⟨b, rfl, rfl⟩ t' w' hk' hw'
  exact ⟨hR _ hw'.tail, second b t' w' hk' hw'⟩
end
end Go.Sl
namespace Go.Proofs.YtjebagmjcdaegaaGreat
open Go.RowKit Go.Sl
attribute [local irreducible] Own
variable {W : World} {R : List SProp}
theorem txnsO_one {l : List TxnE} (t : TxnE) (so : Option Addr) (sc : Nat) : TxnsO (so, sc) (l ++ [t]) = Sl.Own 86 2 (.slice so (l.length + 1) sc) (l.length + 1) (txnCells l ++ t.cells) := by
 show Sl.Own 86 2 (.slice so (l ++ [t]).length sc) (l ++ [t]).length (txnCells (l ++ [t])) = _
 rw [List.length_append, show txnCells (l ++ [t]) = txnCells l ++ t.cells by simp [txnCells]]; rfl
def levF (b : Nat) (A B C D : Value) : Nat -> List SProp
  | 0 => [Row b 159 [A, B, C, D]]
  | 1 => [ex fun v : Value => Row b 159 [A, v, C, D]]
  | 2 => [ex fun v : Value × Value => Row b 159 [A, v.1, C, v.2]]
  | _ => []
theorem levF_step (b : Nat) (A B C D : Value) : ∀ k, Ent W (levF b A B C D k) (levF b A B C D (k + 1))
  | 0 => fun w hw => Holds.exShut (P := fun v : Value => Row b 159 [A, v, C, D]) B hw
  | 1 => fun w hw => by
    obtain ⟨v, h⟩ := hw.exOpen
    exact Holds.exShut (P := fun v : Value × Value => Row b 159 [A, v.1, C, v.2]) (v, D) h
  | 2 => fun w hw => hw.tail
  | _ + 3 => fun w hw => hw
abbrev TxnE.T (t : TxnE) : Nat × List PatD := (t.seq, t.pats.map PatE.D)
def badM (data : List UInt8) (c : ChkD) : Prop := c.enc.1 ≠ 0 \/ data.length % 128 ≠ 0 \/ data.length / 128 < 5 \/ 2048 < data.length / 128 \/ ((data.length / 128 : Nat) : Int) <= c.tail
instance (data : List UInt8) (c : ChkD) : Decidable (badM data c) := by unfold badM; exact inferInstance
theorem of_ok {ao : Option Addr} {cap : Nat} {data : List UInt8} (hr : Rds W R 1 ao data.length (bytes data)) (hcap : data.length <= cap) (hlen : data.length <= 140737488351232) (c : ChkD) (hf : c.fit) :
    Does W Tryz.prog 86 [.slice ao data.length cap, .agg c.cells.toArray] R (β := (Option Addr × Nat) × List TxnE) (fun y => y.2.map TxnE.T = (foundM data c).2.txns)
      (fun y => .tuple #[.agg [.slice y.1.1 y.2.length y.1.2, .int .u64 ((foundM data c).2.next : Int), .int .i64 ((foundM data c).2.head : Int), .int .i64 ((foundM data c).2.used : Int)].toArray, .int .u16 (foundM data c).1]) (fun y => TxnsO y.1 y.2 :: PilT y.2 :: R) := by
  (refine Does.enter Tryz.func86 Tryz.ntmps86 rfl rfl ?_)
  refine w ?_; repeat (refine zj fun _ => ?_; refine w ?_)
  rename_i n3
  refine zq ?_; refine OpV.allocS sb_159 rfl ?_; intro n4
  refine w ?_; repeat (refine zj fun _ => ?_; refine w ?_)
  (refine zq ?_; refine zy rfl rfl (encs_ok c hf) ?_)
  rintro ⟨ea, ec⟩ -
  refine w ?_; repeat (refine zj fun _ => ?_; refine w ?_)
  refine VC.ent (H' := Row n4 159 [.slice none 0 0, .int .u64 0, .int .i64 0, .int .i64 0] :: Row n3 155 c.cells :: R) Ent.re ?_
  refine VC.joinH [(43, .bool (decide (badM data c))), (3, .pointer (some ⟨n3, 0, none⟩)), (4, .pointer (some ⟨n4, 0, none⟩)), (6, .slice ao data.length cap)] ?_ ?_
  · intro Q2 jn
    (refine VC.drawn [10, 15, 22] 23 [0, 1, 2, 3, 4, 5, 6, 7, 8, 9, 10, 11, 12, 13, 14, 15, 16, 17, 18, 19, 20, 21, 22, 23, 24] _ rfl (by kernel_rfl) (by kernel_rfl) Ent.re ?_)
    refine w ?_; repeat (refine zj fun _ => ?_; refine w ?_)
    refine zg ?_ ?_ <;> intro hb
    · have hz : badM data c := .inl (by simpa using hb)
      refine w ?_; repeat (refine zj fun _ => ?_; refine w ?_)
      exact jn.to () trivial ⟨asV rfl (by simp [hz]), rfl, rfl, rfl, trivial⟩ Ent.re
    have b1 : c.enc.1 = 0 := by simpa using hb
    clear hb
    refine w ?_; repeat (refine zj fun _ => ?_; refine w ?_)
    ((first | apply VO.pure rfl rfl | apply VQ.pure rfl rfl | apply VD.take rfl rfl rfl | (refine VD.end rfl rfl rfl ?_; apply OpV.pure)); exact PureAt.rem (a := data.length) (b := 128) rfl rfl (by decide); rfl)
    refine w ?_; repeat (refine zj fun _ => ?_; refine w ?_)
    refine zg ?_ ?_ <;> intro hb
    · have hz : badM data c := .inr (.inl (by have := hb; simp at this; omega))
      refine w ?_; repeat (refine zj fun _ => ?_; refine w ?_)
      exact jn.to () trivial ⟨asV rfl (by simp [hz]), rfl, rfl, rfl, trivial⟩ Ent.re
    have b2 : data.length % 128 = 0 := by have := hb; simp at this; omega
    have hnn : data.length = data.length / 128 * 128 := by omega
    clear hb
    refine w ?_; repeat (refine zj fun _ => ?_; refine w ?_)
    (refine zq ?_; refine zy rfl rfl (size_ok hnn (by omega)) ?_)
    intro _ _
    refine ⟨Ent.re, ?_⟩
    refine w ?_; repeat (refine zj fun _ => ?_; refine w ?_)
    refine zg ?_ ?_ <;> intro hb
    · have hz : badM data c := .inr (.inr (.inl (by have := hb; simp at this; omega)))
      refine w ?_; repeat (refine zj fun _ => ?_; refine w ?_)
      exact jn.to () trivial ⟨asV rfl (by simp [hz]), rfl, rfl, rfl, trivial⟩ Ent.re
    have b3 : ¬ data.length / 128 < 5 := by have := hb; simp at this; omega
    clear hb
    refine w ?_; repeat (refine zj fun _ => ?_; refine w ?_)
    (refine zq ?_; refine zy rfl rfl (size_ok hnn (by omega)) ?_)
    intro _ _
    refine ⟨Ent.re, ?_⟩
    refine w ?_; repeat (refine zj fun _ => ?_; refine w ?_)
    refine zg ?_ ?_ <;> intro hb
    · have hz : badM data c := .inr (.inr (.inr (.inl (by have := hb; simp at this; omega))))
      refine w ?_; repeat (refine zj fun _ => ?_; refine w ?_)
      exact jn.to () trivial ⟨asV rfl (by simp [hz]), rfl, rfl, rfl, trivial⟩ Ent.re
    have b4 : ¬ 2048 < data.length / 128 := by have := hb; simp at this; omega
    clear hb
    refine w ?_; repeat (refine zj fun _ => ?_; refine w ?_)
    (refine zq ?_; refine zy rfl rfl (size_ok hnn (by omega)) ?_)
    intro _ _
    refine ⟨Ent.re, ?_⟩
    refine w ?_; repeat (refine zj fun _ => ?_; refine w ?_)
    refine jn.to () trivial ⟨asV rfl (by
      congr 1; rw [Bool.eq_iff_iff]; unfold badM; simp only [b1, b2, b3, b4, decide_eq_true_iff, ne_eq, not_true_eq_false, false_or]), rfl, rfl, rfl, trivial⟩ Ent.re
  refine w ?_; repeat (refine zj fun _ => ?_; refine w ?_)
  refine zk ?_ ?_ <;> intro hc
  · have hz : foundM data c = (1, ⟨[], 0, 0, 0⟩) := if_pos (of_decide_eq_true hc)
    refine w ?_; repeat (refine zj fun _ => ?_; refine w ?_)
    (apply VO.pure rfl rfl; apply PureAt.build sb_159 (pv := []) rfl; rfl; rfl)
    refine w ?_; repeat (refine zj fun _ => ?_; refine w ?_)
    refine zq ?_
    refine OpV.stA (vs := [.slice none 0 0, .int .u64 0, .int .i64 0, .int .i64 0]) tab_ok rfl rfl rfl rfl (by simp [Value.oneCell']) zh (by simp) ?_
    refine w ?_; repeat (refine zj fun _ => ?_; refine w ?_)
    refine VE.results2 (.inl rfl) ((none, 0), []) rfl (ResIs.agg (vs := [.slice none 0 0, .int .u64 0, .int .i64 0, .int .i64 0]) tab_ok rfl rfl (.head _) rfl rfl) (.tmp rfl) (by rw [hz]; rfl) (by rw [hz]; rfl) ?_
    exact Ent.trans (Ent.re (L := R)) (fun w hw => (pile_nil (res := TxnE.res) hw).ownNil _ _)
  have hnb : ¬ badM data c := of_decide_eq_false hc
  clear hc
  obtain ⟨n, hn⟩ : ∃ n, n = data.length / 128 := ⟨_, rfl⟩
  have hfnd : foundM data c = (0, ⟨ofM (secB data) n c.epoch (n + 1) c.seq 0 c.tail.toNat, c.seq + (ofM (secB data) n c.epoch (n + 1) c.seq 0 c.tail.toNat).length, (c.tail.toNat + costT (ofM (secB data) n c.epoch (n + 1) c.seq 0 c.tail.toNat)) % n, costT (ofM (secB data) n c.epoch (n + 1) c.seq 0 c.tail.toNat)⟩) := by
    rw [hn]; exact if_neg hnb
  have hen : c.enc.1 = 0 := Decidable.byContradiction fun q => hnb (.inl q)
  have hgood : c.good := by
    by_cases g : c.good
    · exact g
    · rw [chk_bad g] at hen; cases hen
  have hct := (chk_iff c).1 hgood
  have b2 : data.length % 128 = 0 := Decidable.byContradiction fun q => hnb (.inr (.inl q))
  have b3 : ¬ n < 5 := fun q => hnb (.inr (.inr (.inl (hn ▸ q))))
  have b4 : ¬ 2048 < n := fun q => hnb (.inr (.inr (.inr (.inl (hn ▸ q)))))
  have b5 : ¬ (n : Int) <= c.tail := fun q => hnb (.inr (.inr (.inr (.inr (hn ▸ q)))))
  have hdn : data.length = n * 128 := by omega
  obtain ⟨tl, htl⟩ : ∃ tl : Nat, c.tail = tl := ⟨c.tail.toNat, by omega⟩
  rw [htl, Int.toNat_natCast] at hfnd
  obtain ⟨la, rfl⟩ : ∃ a, ao = some a := by cases ao with | none => have := hr.nil rfl; omega | some a => exact ⟨a, rfl⟩
  refine w ?_; repeat (refine zj fun _ => ?_; refine w ?_)
  ((first | apply VO.pure rfl rfl | apply VD.take rfl rfl rfl | (refine VD.end rfl rfl rfl ?_; apply OpV.pure)); apply PureAt.build sb_159 rfl; (simp [buildX, setL, Value.cells]; rfl); rfl)
  refine zq ?_; refine OpV.allocS sb_159 rfl ?_; intro n9
  refine w ?_; repeat (refine zj fun _ => ?_; refine w ?_)
  refine zq ?_
  refine OpV.stA (vs := [.slice none 0 0, .int .u64 c.seq, .int .i64 c.tail, .int .i64 0]) tab_ok rfl rfl rfl rfl (by simp [Value.oneCell']) zh (by simp) ?_
  refine w ?_; repeat (refine zj fun _ => ?_; refine w ?_)
  refine VC.loop (α := List TxnE × (Option Addr × Nat) × Nat) (fun y => ofM (secB data) n c.epoch (n + 1) c.seq 0 tl = y.1.map TxnE.T ++ ofM (secB data) n c.epoch y.2.2 (c.seq + y.1.length) (costT (y.1.map TxnE.T)) ((tl + costT (y.1.map TxnE.T)) % n) /\ costT (y.1.map TxnE.T) <= n /\ n < costT (y.1.map TxnE.T) + y.2.2 /\ y.1.length <= costT (y.1.map TxnE.T))
    (fun y => Row n9 159 [.slice y.2.1.1 y.1.length y.2.1.2, .int .u64 ((c.seq + y.1.length : Nat) : Int), .int .i64 (((tl + costT (y.1.map TxnE.T)) % n : Nat) : Int), .int .i64 ((costT (y.1.map TxnE.T) : Nat) : Int)] :: TxnsO y.2.1 y.1 :: PilT y.1 :: Row n4 159 [.slice none 0 0, .int .u64 0, .int .i64 0, .int .i64 0] :: Row n3 155 c.cells :: R)
    (fun y => [(3, .pointer (some ⟨n3, 0, none⟩)), (4, .pointer (some ⟨n4, 0, none⟩)), (6, .slice (some la) (n * 128) cap), (9, .pointer (some ⟨n9, 0, none⟩))]) (fun y => y.2.2) rfl ([], (none, 0), n + 1) ?_ ?_ ⟨rfl, rfl, asV rfl (by rw [hdn]), rfl, trivial⟩ ?_
  · have h1 : tl % n = tl := Nat.mod_eq_of_lt (by omega)
    refine ⟨?_, Nat.zero_le _, by show n < 0 + (n + 1); omega, Nat.zero_le _⟩
    show _ = [] ++ ofM (secB data) n c.epoch (n + 1) (c.seq + 0) 0 ((tl + 0) % n)
    rw [List.nil_append]; simp only [Nat.add_zero]; rw [h1]
  · have h1 : tl % n = tl := Nat.mod_eq_of_lt (by omega)
    dsimp only
    rw [show (tl + costT (([] : List TxnE).map TxnE.T)) % n = tl from h1, <- htl]
    exact Ent.trans (fun w hw => (pile_nil (res := TxnE.res) hw).ownNil 86 2) Ent.re
  rintro ⟨l, x, f⟩ ⟨hof, hus, hfu, hll⟩
  dsimp only at hof hus hfu hll ⊢
  have hr' : Rds W R 1 (some la) (n * 128) (bytes data) := hdn ▸ hr
  refine w ?_; repeat (refine zj fun _ => ?_; refine w ?_)
  refine zk ?_ ?_ <;> intro hc
  · have hmx : c.seq + l.length <= 4611686018427387904 := by have := of_decide_eq_true hc; omega
    clear hc
    have hhd : (tl + costT (l.map TxnE.T)) % n < n := Nat.mod_lt _ (by omega)
    refine w ?_; repeat (refine zj fun _ => ?_; refine w ?_)
    refine VC.drawnX [4, 12, 16, 17] 18 16 [0, 1, 2, 3, 5, 6, 8, 9, 10, 11, 4, 7, 12, 13, 14, 15, 16, 17, 18] _ 10 (fun b => Row b 86 [.int .u64 0, .slice none 0 0]) (fun b => .pointer (some ⟨b, 0, none⟩)) rfl (by kernel_rfl) (by kernel_rfl) Ent.refl ?_
    (repeat (apply VX.take rfl rfl rfl rfl; (exact zp); rfl; rfl; rfl))
    (refine VX.call rfl rfl rfl rfl rfl rfl (fun _ _ => by simp) (fun L hL => size_ok rfl (by omega)) rfl (FloatX.alloc sb_86 rfl) Ent.refl rfl rfl rfl ?_)
    (repeat (apply VX.take rfl rfl rfl rfl; (exact zp); rfl; rfl; rfl))
    refine VX.re 61 (.int .i64 ((n - costT (l.map TxnE.T) : Nat) : Int)) rfl (by congr 1; omega) rfl rfl ?_
    have hE : Ent W (Row n9 159 [.slice x.1 l.length x.2, .int .u64 ((c.seq + l.length : Nat) : Int), .int .i64 (((tl + costT (l.map TxnE.T)) % n : Nat) : Int), .int .i64 ((costT (l.map TxnE.T) : Nat) : Int)] :: TxnsO x l :: PilT l :: Row n4 159 [.slice none 0 0, .int .u64 0, .int .i64 0, .int .i64 0] :: Row n3 155 c.cells :: R) R := Ent.re
    refine VX.callD (S := fun t : TxnE => [PatsO (t.ao, t.cap) t.pats, PilP t.pats]) rfl rfl rfl rfl rfl rfl (fun _ _ => by simp)
      (fun L hL => batch_ok (R := L) (by omega) (by omega) ((tl + costT (l.map TxnE.T)) % n) (n - costT (l.map TxnE.T)) c.epoch (c.seq + l.length) hhd (by omega) hf.epoch (by omega) hdn (hr'.ent (Ent.trans hL hE)) (rotF (secB data) n ((tl + costT (l.map TxnE.T)) % n)) (fun i => by unfold rotF secB; rw [Nat.mul_comm])) rfl (FloatX.alloc sb_86 rfl) Ent.refl rfl rfl rfl ?_
    rintro t ⟨hts, htp⟩
    (repeat (apply VX.take rfl rfl rfl rfl; (exact zp); rfl; rfl; rfl))
    refine VX.float rfl rfl (FloatX.alloc sb_86 rfl) Ent.re ?_
    intro n10
    refine VD.mid rfl rfl rfl ?_
    refine OpV.stA (vs := t.cells) tab_ok rfl rfl rfl rfl (txn_one _) zh (by simp) ?_
    refine ⟨Ent.re, ?_⟩
    refine w ?_; repeat (refine zj fun _ => ?_; refine w ?_)
    cases hbm : batM (rotF (secB data) n ((tl + costT (l.map TxnE.T)) % n)) (n - costT (l.map TxnE.T)) c.epoch (c.seq + l.length) with
    | none =>
      have hfull : ofM (secB data) n c.epoch (n + 1) c.seq 0 tl = l.map TxnE.T := by rw [hof, of_none hbm]; exact List.append_nil _
      refine w ?_; repeat (refine zj fun _ => ?_; refine w ?_)
      refine zq ?_
      refine OpV.stA (vs := [.slice x.1 l.length x.2, .int .u64 ((c.seq + l.length : Nat) : Int), .int .i64 (((tl + costT (l.map TxnE.T)) % n : Nat) : Int), .int .i64 ((costT (l.map TxnE.T) : Nat) : Int)]) tab_ok rfl rfl rfl rfl (by simp [Value.oneCell']) zh (by simp) ?_
      refine w ?_; repeat (refine zj fun _ => ?_; refine w ?_)
      refine VE.results2 (.inl rfl) (x, l) rfl (ResIs.agg (vs := [.slice x.1 l.length x.2, .int .u64 ((c.seq + l.length : Nat) : Int), .int .i64 (((tl + costT (l.map TxnE.T)) % n : Nat) : Int), .int .i64 ((costT (l.map TxnE.T) : Nat) : Int)]) tab_ok rfl rfl zm rfl rfl) (.tmp rfl) (by rw [hfnd]; exact hfull.symm) (by rw [hfnd]; simp only [hfull, List.length_map]) ?_
      exact Ent.re
    | some lp =>
      have htd := htp lp hbm
      have hbr := bat_room hbm
      have hpl : t.pats.length = lp.length := by rw [<- htd, List.length_map]
      refine w ?_; repeat (refine zj fun _ => ?_; refine w ?_)
      refine VO.re 78 (.agg t.cells.toArray) rfl (by simp) ?_
      refine zq ?_
      refine OpV.buildSlice (cs := t.cells) st_78 rfl rfl (by simp [Value.cells]) (by simp [Value.cells]) (by decide) rfl ?_
      intro nc
      refine zq ?_
      refine OpV.appendRow st_78 rfl rfl zh zm rfl (txn_one _) (by simp only [maxLen]; omega) (by omega) rfl ?_
      intro so sc
      refine w ?_; repeat (refine zj fun _ => ?_; refine w ?_)
      refine VC.ent (H' := Row n9 159 [.slice so (l.length + 1) sc, .int .u64 ((c.seq + l.length : Nat) : Int), .int .i64 (((tl + costT (l.map TxnE.T)) % n : Nat) : Int), .int .i64 ((costT (l.map TxnE.T) : Nat) : Int)] :: Sl.Own 86 2 (.slice so (l.length + 1) sc) (l.length + 1) (txnCells l ++ t.cells) :: PilT l :: PatsO (t.ao, t.cap) t.pats :: PilP t.pats :: Row n4 159 [.slice none 0 0, .int .u64 0, .int .i64 0, .int .i64 0] :: Row n3 155 c.cells :: R) Ent.re ?_
      have hlen2 : t.pats.length <= 1023 := by omega
      refine VC.drawnL (levF n9 (.slice so (l.length + 1) sc) (.int .u64 ((c.seq + l.length : Nat) : Int)) (.int .i64 (((tl + costT (l.map TxnE.T)) % n : Nat) : Int)) (.int .i64 ((costT (l.map TxnE.T) : Nat) : Int))) [12, 15, 17, 19] [(15, 1), (17, 2), (19, 3)] [(1, 0), (4, 1), (8, 2)] 3 [0, 1, 2, 3, 4, 5, 6, 7, 8, 9, 10, 11, 14, 12, 13, 15, 16, 17, 18, 19] rfl (by kernel_rfl) (by kernel_rfl) Ent.re (levF_step _ _ _ _ _) ?_
      (apply VL.take rfl rfl rfl 3 rfl; (exact zp); rfl)
      apply VL.take rfl rfl rfl 0 rfl
      · exact PureAt.ld tab_ok rfl rfl (.head _) rfl
      · rfl
      (apply VL.take rfl rfl rfl 3 rfl; (exact zp); rfl)
      refine VL.re 84 (.int .u64 (((c.seq + l.length : Nat) : Int) + 1)) rfl (by rw [IntWalk.u64_in _ ⟨by omega, by omega⟩]) ?_
      (apply VL.take rfl rfl rfl 3 rfl; (exact zp); rfl)
      apply VL.take rfl rfl rfl 1 rfl
      · exact pureEx fun v => PureAt.ld tab_ok rfl rfl (.head _) rfl
      · rfl
      (apply VL.take rfl rfl rfl 3 rfl; (exact zp); rfl)
      (apply VL.take rfl rfl rfl 3 rfl; (exact zp); rfl)
      (apply VL.take rfl rfl rfl 3 rfl; (exact zp); rfl)
      apply VL.take rfl rfl rfl 2 rfl
      · exact pureEx fun v => PureAt.ld tab_ok rfl rfl (.head _) rfl
      · rfl
      (apply VL.take rfl rfl rfl 3 rfl; (exact zp); rfl)
      (apply VL.take rfl rfl rfl 3 rfl; (exact zp); rfl)
      (apply VL.take rfl rfl rfl 3 rfl; (exact zp); rfl)
      (apply VL.take rfl rfl rfl 3 rfl; (exact zp); rfl)
      refine VL.mid rfl rfl rfl 0 rfl ?_
      refine zy rfl rfl (size_ok rfl (by omega)) ?_
      intro _ _
      refine ⟨(show Ent W _ [Row n9 159 [.slice so (l.length + 1) sc, .int .u64 ((c.seq + l.length : Nat) : Int), .int .i64 (((tl + costT (l.map TxnE.T)) % n : Nat) : Int), .int .i64 ((costT (l.map TxnE.T) : Nat) : Int)]] from Ent.re), ?_⟩
      apply VL.take rfl rfl rfl 3 rfl
      · exact PureAt.rem (a := (tl + costT (l.map TxnE.T)) % n + (2 * t.pats.length + 1)) (b := n) rfl rfl (by omega)
      · rfl
      refine VL.mid rfl rfl rfl 1 rfl ?_
      apply OpV.st tab_ok rfl rfl rfl rfl zh (by simp)
      refine ⟨Ent.trans (Ent.re (L := [Row n9 159 [.slice so (l.length + 1) sc, .int .u64 (((c.seq + l.length : Nat) : Int) + 1), .int .i64 (((tl + costT (l.map TxnE.T)) % n : Nat) : Int), .int .i64 ((costT (l.map TxnE.T) : Nat) : Int)]])) (fun w hw => Holds.exShut (P := fun v : Value => Row n9 159 [.slice so (l.length + 1) sc, v, .int .i64 (((tl + costT (l.map TxnE.T)) % n : Nat) : Int), .int .i64 ((costT (l.map TxnE.T) : Nat) : Int)]) _ hw), ?_⟩
      (apply VL.take rfl rfl rfl 3 rfl; (exact zp); rfl)
      refine VL.mid rfl rfl rfl 2 rfl ?_
      apply OpV.st tab_ok rfl rfl rfl rfl zh (by simp)
      refine ⟨Ent.trans (Ent.re (L := [Row n9 159 [.slice so (l.length + 1) sc, .int .u64 (((c.seq + l.length : Nat) : Int) + 1), .int .i64 (((tl + costT (l.map TxnE.T)) % n : Nat) : Int), .int .i64 (((costT (l.map TxnE.T) : Nat) : Int) + (2 * (t.pats.length : Int) + 1))]])) (fun w hw => Holds.exShut (P := fun v : Value × Value => Row n9 159 [.slice so (l.length + 1) sc, v.1, .int .i64 (((tl + costT (l.map TxnE.T)) % n : Nat) : Int), v.2]) (.int .u64 (((c.seq + l.length : Nat) : Int) + 1), .int .i64 (((costT (l.map TxnE.T) : Nat) : Int) + (2 * (t.pats.length : Int) + 1))) hw), ?_⟩
      (apply VL.take rfl rfl rfl 3 rfl; (exact zp); rfl)
      refine VL.mid rfl rfl rfl 3 rfl ?_
      apply OpV.st tab_ok rfl rfl rfl rfl zh (by simp)
      refine ⟨(show Ent W _ [] from Ent.re), ?_⟩
      refine VL.nil ?_
      refine w ?_; repeat (refine zj fun _ => ?_; refine w ?_)
      have hT : (l ++ [t]).map TxnE.T = l.map TxnE.T ++ [(c.seq + l.length, lp)] := by rw [List.map_append, List.map_cons, List.map_nil]; unfold TxnE.T; rw [hts, htd]
      have hcost : costT ((l ++ [t]).map TxnE.T) = costT (l.map TxnE.T) + (2 * lp.length + 1) := by rw [hT, costT_append, costT_cons]; simp [costT]
      obtain ⟨g, rfl⟩ : ∃ g, f = g + 1 := ⟨f - 1, by omega⟩
      have hmod : ((tl + costT (l.map TxnE.T)) % n + (2 * lp.length + 1)) % n = (tl + (costT (l.map TxnE.T) + (2 * lp.length + 1))) % n := by rw [Nat.mod_add_mod, Nat.add_assoc]
      refine VE.round (l ++ [t], (so, sc), g) ⟨?_, ?_, ?_, ?_⟩ (by simp only; omega) ⟨rfl, rfl, rfl, rfl, trivial⟩ ?_
      · simp only
        rw [hcost, hT, hof, List.length_append, List.length_singleton, ofM, if_pos hmx, hbm]
        dsimp only
        rw [List.append_assoc, List.singleton_append, hmod, Nat.add_assoc c.seq]
      · simp only; rw [hcost]; omega
      · simp only; rw [hcost]; omega
      · simp only; rw [hcost, List.length_append, List.length_singleton]; omega
      dsimp only
      have e1 : (((c.seq + l.length : Nat) : Int) + 1) = ((c.seq + (l.length + 1) : Nat) : Int) := by omega
      have e2 : ((((tl + costT (l.map TxnE.T)) % n + (2 * t.pats.length + 1)) % n : Nat) : Int) = (((tl + (costT (l.map TxnE.T) + (2 * lp.length + 1))) % n : Nat) : Int) := by rw [hpl, hmod]
      have e3 : (((costT (l.map TxnE.T) : Nat) : Int) + (2 * (t.pats.length : Int) + 1)) = ((costT (l.map TxnE.T) + (2 * lp.length + 1) : Nat) : Int) := by rw [hpl]; omega
      refine Ent.trans (Ent.re (L := PatsO (t.ao, t.cap) t.pats :: PilP t.pats :: PilT l :: Row n9 159 [.slice so (l.length + 1) sc, .int .u64 (((c.seq + l.length : Nat) : Int) + 1), .int .i64 ((((tl + costT (l.map TxnE.T)) % n + (2 * t.pats.length + 1)) % n : Nat) : Int), .int .i64 (((costT (l.map TxnE.T) : Nat) : Int) + (2 * (t.pats.length : Int) + 1))] :: Sl.Own 86 2 (.slice so (l.length + 1) sc) (l.length + 1) (txnCells l ++ t.cells) :: Row n4 159 [.slice none 0 0, .int .u64 0, .int .i64 0, .int .i64 0] :: Row n3 155 c.cells :: R)) ?_
      refine Ent.trans (fun w hw => pile_push (res := TxnE.res) (TxnE.shut t hw)) ?_
      rw [txnsO_one, hcost, List.length_append, List.length_singleton, <- e1, <- e2, <- e3]
      exact Ent.re
  · have hmx : ¬ c.seq + l.length <= 4611686018427387904 := by have := of_decide_eq_false hc; omega
    have hfull : ofM (secB data) n c.epoch (n + 1) c.seq 0 tl = l.map TxnE.T := by
      rw [hof]
      cases f with
      | zero => exact List.append_nil _
      | succ f => unfold ofM; rw [if_neg hmx]; exact List.append_nil _
    refine w ?_; repeat (refine zj fun _ => ?_; refine w ?_)
    refine zq ?_
    refine OpV.stA (vs := [.slice x.1 l.length x.2, .int .u64 ((c.seq + l.length : Nat) : Int), .int .i64 (((tl + costT (l.map TxnE.T)) % n : Nat) : Int), .int .i64 ((costT (l.map TxnE.T) : Nat) : Int)]) tab_ok rfl rfl rfl rfl (by simp [Value.oneCell']) zh (by simp) ?_
    refine w ?_; repeat (refine zj fun _ => ?_; refine w ?_)
    refine VE.results2 (.inl rfl) (x, l) rfl (ResIs.agg (vs := [.slice x.1 l.length x.2, .int .u64 ((c.seq + l.length : Nat) : Int), .int .i64 (((tl + costT (l.map TxnE.T)) % n : Nat) : Int), .int .i64 ((costT (l.map TxnE.T) : Nat) : Int)]) tab_ok rfl rfl zm rfl rfl) (.tmp rfl) (by rw [hfnd]; exact hfull.symm) (by rw [hfnd]; simp only [hfull, List.length_map]) ?_
    exact Ent.re
theorem chk_fine {e s t : Nat} (he : e <= 4611686018427387904) (hs : 1 <= s /\ s <= 4611686018427387904) (ht : t <= 2047) : (ChkD.mk e s t).enc.1 = 0 := by
 rw [chk_ok ((chk_iff _).2 ⟨⟨he, hs.1, hs.2⟩, by simp only; omega, by simp only; omega⟩)]
theorem found_good {ring : List UInt8} {n e s t : Nat} (hl : ring.length = 128 * n) (hn : 5 <= n /\ n <= 2048) (he : e <= 4611686018427387904) (hs : 1 <= s /\ s <= 4611686018427387904) (ht : t < n) :
  foundM ring ⟨e, s, t⟩ = (0, ⟨ofM (secB ring) n e (n + 1) s 0 t, s + (ofM (secB ring) n e (n + 1) s 0 t).length, (t + costT (ofM (secB ring) n e (n + 1) s 0 t)) % n, costT (ofM (secB ring) n e (n + 1) s 0 t)⟩) := by
 have hd : ring.length / 128 = n := by omega
 unfold foundM
 rw [if_neg, hd]
 · rfl
 ·
  rintro (h | h | h | h | h)
  · exact h (chk_fine he hs (by omega))
  · omega
  · omega
  · omega
  · simp only at h; omega
theorem found_facts {data : List UInt8} {c : ChkD} (h : (foundM data c).1 = 0) : ∃ n tl : Nat, data.length = n * 128 /\ (5 <= n /\ n <= 2048) /\ c.tail = tl /\ tl < n /\ c.good /\
  foundM data c = (0, ⟨ofM (secB data) n c.epoch (n + 1) c.seq 0 tl, c.seq + (ofM (secB data) n c.epoch (n + 1) c.seq 0 tl).length, (tl + costT (ofM (secB data) n c.epoch (n + 1) c.seq 0 tl)) % n, costT (ofM (secB data) n c.epoch (n + 1) c.seq 0 tl)⟩) := by
 have hnb : ¬ badM data c := fun q => by
  have : foundM data c = (1, ⟨[], 0, 0, 0⟩) := if_pos q
  rw [this] at h; cases h
 have hen : c.enc.1 = 0 := Decidable.byContradiction fun q => hnb (.inl q)
 have hgood : c.good := by
  by_cases g : c.good
  · exact g
  · rw [chk_bad g] at hen; cases hen
 have hct := (chk_iff c).1 hgood
 have b2 : data.length % 128 = 0 := Decidable.byContradiction fun q => hnb (.inr (.inl q))
 have b3 : ¬ data.length / 128 < 5 := fun q => hnb (.inr (.inr (.inl q)))
 have b4 : ¬ 2048 < data.length / 128 := fun q => hnb (.inr (.inr (.inr (.inl q))))
 have b5 : ¬ ((data.length / 128 : Nat) : Int) <= c.tail := fun q => hnb (.inr (.inr (.inr (.inr q))))
 have hf : foundM data c = (0, ⟨ofM (secB data) (data.length / 128) c.epoch (data.length / 128 + 1) c.seq 0 c.tail.toNat, c.seq + (ofM (secB data) (data.length / 128) c.epoch (data.length / 128 + 1) c.seq 0 c.tail.toNat).length, (c.tail.toNat + costT (ofM (secB data) (data.length / 128) c.epoch (data.length / 128 + 1) c.seq 0 c.tail.toNat)) % (data.length / 128), costT (ofM (secB data) (data.length / 128) c.epoch (data.length / 128 + 1) c.seq 0 c.tail.toNat)⟩) := if_neg hnb
 exact ⟨data.length / 128, c.tail.toNat, by omega, by omega, by omega, by omega, hgood, hf⟩
end Go.Proofs.YtjebagmjcdaegaaGreat
/-! Text Nk. -/
namespace Go.Proofs.YtjebagmjcdaegaaGreat
end Go.Proofs.YtjebagmjcdaegaaGreat
/-! Text Nl. -/
namespace Go.Proofs.YtjebagmjcdaegaaGreat
open Go.RowKit Go.Sl
attribute [local irreducible] Own
variable {W : World} {R : List SProp}
structure Lays (sec : SecF) (n e s at_ : Nat) (ls : List (List PatD)) : Prop where
  fine : FineL e s ls
  cost : costL ls <= n
  sec : ∀ j, j < costL ls -> (flatR e s ls)[j]? = some (sec ((at_ + j) % n))
theorem FineL.rows {e s : Nat} {ls : List (List PatD)} (h : FineL e s ls) : ∀ r ∈ flatR e s ls, r.length = 128 := by
  induction ls generalizing s with
  | nil => intro r hr; cases hr
  | cons l ls ih =>
    intro r hr
    rw [flatR, List.mem_append] at hr
    rcases hr with hr | hr
    · exact rowsP_128 (h 0 (by simp)) r hr
    · refine ih (fun k hk => ?_) r hr
      have := h (k + 1) (by simpa using hk)
      rw [show s + (k + 1) = s + 1 + k by omega] at this
      simpa using this
variable {sec was : SecF} {n e s at_ : Nat} {ls : List (List PatD)}
theorem Lays.found (h : Lays sec n e s at_ ls) {k : Nat} (hk : k < ls.length) : s + k <= mostC /\ batM (rotF sec n (at_ + costL (ls.take k))) (n - (0 + costL (ls.take k))) e (s + k) = some ls[k] :=
 laid_found h.fine h.cost h.sec k hk
theorem Lays.all (h : Lays sec n e s at_ ls) : (ofM sec n e (n + 1) s 0 at_).take ls.length = numb s ls := by
 rw [of_laid h.fine h.cost h.sec (by have := costL_len ls; have := h.cost; omega), List.take_left' (numb_length ls s)]
theorem Lays.other (h : Lays sec n e s at_ ls) (hl : ls ≠ []) (e' : Nat) (he : e' ≠ e) (hat : at_ < n) : ofM sec n e' (n + 1) s 0 at_ = [] := by
 have h0 : 0 < ls.length := List.length_pos_iff.2 hl
 have := (h.found h0).2
 rw [List.take_zero, show costL [] = 0 from rfl, Nat.add_zero, Nat.add_zero] at this
 exact of_none (bat_other this (.inl he))
theorem bat_congr {sec was : SecF} {room room' e s : Nat} {l : List PatD} (h : batM sec room e s = some l) (hr : 2 * l.length + 1 <= room') (hw : ∀ j, j < 2 * l.length + 1 -> was j = sec j) : batM was room' e s = some l := by
 obtain ⟨a, b, c⟩ := (bat_iff _ _ _ _ _).1 h
 exact (bat_iff _ _ _ _ _).2 ⟨a, hr, fun j hj => by rw [c j hj, hw j hj]⟩
theorem Lays.hurt (h : Lays sec n e s at_ ls) {bad m : Nat} {z : List UInt8} (hm : m < ls.length) (h1 : costL (ls.take m) <= bad) (h2 : bad < costL (ls.take m) + (2 * (ls[m]'hm).length + 1)) (hz : z.take 4 ≠ magicL)
  (hw : ∀ j, was j = if j = (at_ + bad) % n then z else sec j) (hu : (crcS (sec ((at_ + bad) % n))).toNat ≠ (crcS z).toNat) : ofM was n e (n + 1) s 0 at_ = numb s (ls.take m) := by
 have hall := costL_take_le ls m hm
 have hcost := h.cost
 have hlen : (ls.take m).length = m := by rw [List.length_take]; omega
 have hlenc := costL_len ls
 have hmono : ∀ k, k < m -> costL (ls.take k) + (2 * (ls[k]?.getD []).length + 1) <= costL (ls.take m) := by
  intro k hk
  have h3 := costL_take_le (ls.take m) k (by omega)
  rw [List.take_take, show min k m = k by omega] at h3
  rw [List.getElem?_eq_getElem (by omega), Option.getD_some]
  simpa using h3
 have hsec : ∀ (k j : Nat), k <= m -> costL (ls.take k) + j < n -> costL (ls.take k) + j ≠ bad -> rotF was n (at_ + costL (ls.take k)) j = rotF sec n (at_ + costL (ls.take k)) j := by
  intro k j hk hj hne
  unfold rotF
  rw [hw, if_neg]
  intro q
  rw [Nat.add_assoc] at q
  exact hne (mod_inj hj (by omega) q)
 have hpre : ∀ (k : Nat) (hk : k < (ls.take m).length), s + k <= mostC /\ batM (rotF was n (at_ + costL ((ls.take m).take k))) (n - (0 + costL ((ls.take m).take k))) e (s + k) = some (ls.take m)[k] := by
  intro k hk
  rw [hlen] at hk
  have hf := h.found (k := k) (by omega)
  have hb := bat_room hf.2
  have hk2 := hmono k hk
  rw [List.getElem?_eq_getElem (by omega), Option.getD_some] at hk2
  rw [List.take_take, show min k m = k by omega, List.getElem_take]
  refine ⟨hf.1, bat_congr hf.2 hb.1 fun j hj => hsec k j (by omega) (by omega) (by omega)⟩
 rw [of_prefix (ls.take m) (n + 1) s 0 at_ hpre (by omega), hlen]
 have hlast : ofM was n e (n + 1 - m) (s + m) (0 + costL (ls.take m)) (if ls.take m = [] then at_ else (at_ + costL (ls.take m)) % n) = [] := by
  refine of_none ?_
  have e1 : rotF was n (if ls.take m = [] then at_ else (at_ + costL (ls.take m)) % n) = rotF was n (at_ + costL (ls.take m)) := by
   split
   · rename_i q; rw [q]; rfl
   · exact rotF_mod ..
  rw [e1]
  refine hurt_none (j := bad - costL (ls.take m)) (z := z) (h.found hm).2 (by omega) hz ?_ ?_ ?_
  · unfold rotF; rw [hw, if_pos]; congr 1; omega
  ·
   intro i hi hne
   exact hsec m i (Nat.le_refl _) (by omega) (by omega)
  · unfold rotF; rw [show at_ + costL (ls.take m) + (bad - costL (ls.take m)) = at_ + bad by omega]; exact hu
 rw [hlast, List.append_nil]
theorem Lays.drop (h : Lays sec n e s at_ ls) (i : Nat) : Lays sec n e (s + i) ((at_ + costL (ls.take i)) % n) (ls.drop i) := by
 have hsum : costL (ls.take i) + costL (ls.drop i) = costL ls := by rw [<- costL_append, List.take_append_drop]
 refine ⟨fun k hk => ?_, by have := h.cost; omega, fun j hj => ?_⟩
 ·
  have := h.fine (i + k) (by rw [List.length_drop] at hk; omega)
  rw [List.getElem_drop, show s + i + k = s + (i + k) by omega]
  exact this
 ·
  have h1 := h.sec (costL (ls.take i) + j) (by omega)
  rw [Nat.mod_add_mod, Nat.add_assoc]
  rw [<- h1]
  have h2 := flatR_append e (ls.take i) (ls.drop i) s
  rw [List.take_append_drop] at h2
  by_cases hi : i <= ls.length
  ·
   rw [List.length_take, Nat.min_eq_left hi] at h2
   rw [h2, List.getElem?_append_right (by rw [flatR_length]; omega), flatR_length]
   congr 1; omega
  · rw [List.drop_eq_nil_of_le (by omega)] at hj; exact absurd hj (by simp [costL])
theorem Lays.just (h : Lays sec n e s at_ ls) (hz : ∀ j, costL ls <= j -> j < n -> (sec ((at_ + j) % n)).take 4 ≠ magicL) (hat : at_ < n) {i : Nat} (hi : i < ls.length) :
  ofM sec n e (n + 1) (s + i) 0 ((at_ + costL (ls.take i)) % n) = numb (s + i) (ls.drop i) := by
 have hd := h.drop i
 have hsum : costL (ls.take i) + costL (ls.drop i) = costL ls := by rw [<- costL_append, List.take_append_drop]
 have hne : ls.drop i ≠ [] := fun q => by have := congrArg List.length q; rw [List.length_drop] at this; simp at this; omega
 have hlenc := costL_len (ls.drop i)
 have hcost := h.cost
 rw [of_laid hd.fine hd.cost hd.sec (by omega), if_neg hne]
 have hlast : batM (rotF sec n (((at_ + costL (ls.take i)) % n + costL (ls.drop i)) % n)) (n - costL (ls.drop i)) e (s + i + (ls.drop i).length) = none := by
  rw [Nat.mod_add_mod, Nat.add_assoc, hsum, rotF_mod]
  by_cases hfull : costL ls < n
  ·
   refine bat_no (dec_nought ?_).1
   show (sec ((at_ + costL ls + 0) % n)).take 4 ≠ magicL
   exact hz (costL ls) (Nat.le_refl _) hfull
  ·
   have hn : costL ls = n := by omega
   rw [hn, <- rotF_mod, Nat.add_mod_right, rotF_mod]
   have h0 := (h.found (k := 0) (by omega)).2
   rw [List.take_zero, show costL [] = 0 from rfl, Nat.add_zero, Nat.add_zero] at h0
   refine bat_other h0 (.inr ?_)
   rw [List.length_drop]; omega
 rw [of_none hlast, List.append_nil]
instance : DecidableEq PatD := fun a b => decidable_of_iff (a.member = b.member /\ a.row = b.row /\ a.data = b.data) (by cases a; cases b; simp)
structure PatE.wf (W : World) (p : PatE) : Prop where
  rd : RdsA W 1 p.d.ao p.d.data.length (bytes p.d.data)
  ok : p.d.ok
  fit : p.fit
structure PlsE where
  ao : Option Addr
  cap : Nat
  pats : List PatE
abbrev PlsE.hdr (e : PlsE) : Value := .slice e.ao e.pats.length e.cap
structure PlsE.wf (W : World) (e : PlsE) : Prop where
  rd : ∀ R, RdPats W R e.ao e.pats
  fit : ∀ p ∈ e.pats, p.fit
  len : e.pats.length <= 140737488351232
  cap : e.pats.length <= e.cap
structure LogD where
  cost : Nat
  commit : List UInt8
structure WalD where
  slot : Int
  epoch : Nat
  size : Nat
  tail : Nat
  used : Nat
  next : Nat
  sure : Bool
  log : Option LogD
  broken : Int
abbrev WS := WalD × BayD
def WalD.head (v : WalD) : Nat := (v.tail + v.used) % v.size
def wWrite (s : WS) (a : Int) (l : List UInt8) : Int × WS :=
  if s.1.broken = 0 then ((s.2.write s.1.slot a l).1, ({ s.1 with broken := (s.2.write s.1.slot a l).1 }, (s.2.write s.1.slot a l).2)) else (s.1.broken, s)
def wFlush (s : WS) : Int × WS :=
  if s.1.broken = 0 then ((s.2.flush s.1.slot).1, ({ s.1 with broken := (s.2.flush s.1.slot).1 }, (s.2.flush s.1.slot).2)) else (s.1.broken, s)
def wCheck (s : WS) (c : ChkD) : Int × WS :=
  if c.enc.1 ≠ 0 then (c.enc.1, s) else if (wWrite s 1 c.enc.2).1 ≠ 0 then wWrite s 1 c.enc.2 else wFlush (wWrite s 1 c.enc.2).2
abbrev lgPtr (lp : Option (Nat × (Option Addr × Nat))) : Value := .pointer (lp.map fun x => ⟨x.1, 0, none⟩)
def logRes : Option LogD -> Option (Nat × (Option Addr × Nat)) -> SProp
  | none, none => fact True
  | some g, some x => star [Row x.1 363 [.int .i64 g.cost, .slice x.2.1 g.commit.length x.2.2], OwnB x.2 g.commit]
  | _, _ => fact False
abbrev walRow (w b r : Nat) (lp : Option (Nat × (Option Addr × Nat))) (v : WalD) : SProp :=
  Row w 167 [.pointer (some ⟨b, 0, none⟩), .int .i64 v.slot, .int .u64 v.epoch, .pointer (some ⟨r, 0, none⟩), .int .u64 v.next, .bool v.sure, lgPtr lp, .int .u16 v.broken]
abbrev WalO (w b r : Nat) (lp : Option (Nat × (Option Addr × Nat))) (v : WalD) (R : List SProp) : List SProp :=
  walRow w b r lp v :: RingR r v.size v.tail v.used :: logRes v.log lp :: R
def WalR (w b : Nat) (v : WalD) : SProp := ex fun x : Nat × Option (Nat × (Option Addr × Nat)) => star (WalO w b x.1 x.2 v [])
theorem WalR.open {W w' : World} {R : List SProp} {w b : Nat} {v : WalD} (h : Holds W (WalR w b v :: R) w') : ∃ x : Nat × Option (Nat × (Option Addr × Nat)), Holds W (WalO w b x.1 x.2 v R) w' := by
 obtain ⟨x, h⟩ := h.exOpen
 exact ⟨x, h.join⟩
theorem WalR.shut {w b : Nat} {v : WalD} (r : Nat) (lp : Option (Nat × (Option Addr × Nat))) : Ent W (WalO w b r lp v R) (WalR w b v :: R) := fun w' h =>
 Holds.exShut (r, lp) (h.nest (L := WalO w b r lp v []))
theorem walDoes {P : Program} {g : FuncId} {args : List Value} {R : List SProp} {w b : Nat} {v : WalD} {D : BayD} {β : Type} {A : β -> Prop} {r : β -> Value} {G : β -> List SProp}
  (h : ∀ rp lp, Does W P g args (BayR b D :: WalO w b rp lp v R) A r G) : Does W P g args (WalR w b v :: BayR b D :: R) A r G :=
 DoesO (fun w hw => WalR.open hw) fun x => DoesE (Ent.trans (Ent.re (H := walRow w b x.1 x.2 v :: RingR x.1 v.size v.tail v.used :: logRes v.log x.2 :: BayR b D :: R) (L := BayR b D :: WalO w b x.1 x.2 v R)) Ent.refl) (h x.1 x.2)
theorem waltry_ok {gd : FuncId} {cp : Array Value} {D D' : BayD} {e : Int} (wp b r : Nat) (lp : Option (Nat × (Option Addr × Nat))) (v : WalD) (hdf : ∀ a w, (callFunc gd a).run Tryz.prog w = .ok (.enter gd a) w)
  (hdo : v.broken = 0 -> Does1 W Tryz.prog gd cp.toList (BayR b D :: WalO wp b r lp v R) (.int .u16 e) (BayR b D' :: WalO wp b r lp v R)) :
  Does1 W Tryz.prog 243 [.pointer (some ⟨wp, 0, none⟩), .func (.func gd) #[] cp] (BayR b D :: WalO wp b r lp v R) (.int .u16 (if v.broken = 0 then e else v.broken)) (BayR b (if v.broken = 0 then D' else D) :: WalO wp b r lp { v with broken := if v.broken = 0 then e else v.broken } R) := by
 (refine Does.enter Tryz.func243 Tryz.ntmps243 rfl rfl ?_)
 refine w ?_
 refine zk ?_ ?_ <;> intro hc
 ·
  have h0 : v.broken = 0 := by simpa using hc
  rw [if_pos h0, if_pos h0]
  refine w ?_
  refine zq ?_
  refine OpV.call rfl rfl (fun a w => hdf a w) (hdo h0) Ent.refl rfl ?_
  intro _ _
  refine w ?_
  exact VE.done1 rfl rfl Ent.re
 ·
  have h0 : ¬ v.broken = 0 := by simpa using hc
  rw [if_neg h0, if_neg h0]
  refine w ?_
  exact VE.done1 rfl rfl Ent.re
theorem write1_ok {ao : Option Addr} {cap : Nat} {l : List UInt8} {D : BayD} (wp b r b3 b4 b5 : Nat) (lp : Option (Nat × (Option Addr × Nat))) (v : WalD) (a : Int) (hc : (D.dv v.slot).k.cache.length <= 1000000000) (hl : Rds W (WalO wp b r lp v R) 1 ao l.length (bytes l)) :
  Does1 W Tryz.prog 244 [.pointer (some ⟨b3, 0, none⟩), .pointer (some ⟨b4, 0, none⟩), .pointer (some ⟨b5, 0, none⟩)]
   (BayR b D :: WalO wp b r lp v (Row b3 73 [.pointer (some ⟨wp, 0, none⟩)] :: Row b4 3 [.int .i64 a] :: Row b5 22 [.slice ao l.length cap] :: R)) (.int .u16 (D.write v.slot a l).1)
   (BayR b (D.write v.slot a l).2 :: WalO wp b r lp v (Row b3 73 [.pointer (some ⟨wp, 0, none⟩)] :: Row b4 3 [.int .i64 a] :: Row b5 22 [.slice ao l.length cap] :: R)) := by
 (refine Does.enter Tryz.func244 Tryz.ntmps244 rfl rfl ?_)
 refine w ?_
 refine VC.drawn [10] 10 [0, 1, 2, 3, 4, 5, 6, 7, 8, 9, 10, 11] (WalO wp b r lp v (Row b3 73 [.pointer (some ⟨wp, 0, none⟩)] :: Row b4 3 [.int .i64 a] :: Row b5 22 [.slice ao l.length cap] :: R)) rfl (by kernel_rfl) (by kernel_rfl) (Ent.drop Ent.refl) ?_
 refine w ?_
 (refine zq ?_; refine zy rfl rfl (baywrite_ok b D v.slot a hc (.inr (hl.ent Ent.re))) ?_)
 intro _ _
 refine w ?_
 exact VE.done1 rfl rfl Ent.re
theorem flush1_ok {D : BayD} (wp b r b1 : Nat) (lp : Option (Nat × (Option Addr × Nat))) (v : WalD) :
  Does1 W Tryz.prog 245 [.pointer (some ⟨b1, 0, none⟩)] (BayR b D :: WalO wp b r lp v (Row b1 73 [.pointer (some ⟨wp, 0, none⟩)] :: R)) (.int .u16 (D.flush v.slot).1)
   (BayR b (D.flush v.slot).2 :: WalO wp b r lp v (Row b1 73 [.pointer (some ⟨wp, 0, none⟩)] :: R)) := by
 (refine Does.enter Tryz.func245 Tryz.ntmps245 rfl rfl ?_)
 refine w ?_
 refine VC.drawn [8] 8 [0, 1, 2, 3, 4, 5, 6, 7, 8, 9] (WalO wp b r lp v (Row b1 73 [.pointer (some ⟨wp, 0, none⟩)] :: R)) rfl (by kernel_rfl) (by kernel_rfl) (Ent.drop Ent.refl) ?_
 refine w ?_
 (refine zq ?_; refine zy rfl rfl (bayflush_ok b D v.slot) ?_)
 intro _ _
 refine w ?_
 exact VE.done1 rfl rfl Ent.re
theorem wWrite_eq (v : WalD) (D : BayD) (a : Int) (l : List UInt8) : wWrite (v, D) a l = (if v.broken = 0 then (D.write v.slot a l).1 else v.broken, { v with broken := if v.broken = 0 then (D.write v.slot a l).1 else v.broken }, if v.broken = 0 then (D.write v.slot a l).2 else D) := by
 unfold wWrite; dsimp only; split <;> rfl
theorem wFlush_eq (v : WalD) (D : BayD) : wFlush (v, D) = (if v.broken = 0 then (D.flush v.slot).1 else v.broken, { v with broken := if v.broken = 0 then (D.flush v.slot).1 else v.broken }, if v.broken = 0 then (D.flush v.slot).2 else D) := by
 unfold wFlush; dsimp only; split <;> rfl
theorem walwrite_ok {ao : Option Addr} {cap : Nat} {l : List UInt8} {D : BayD} (wp b r : Nat) (lp : Option (Nat × (Option Addr × Nat))) (v : WalD) (a : Int) (hc : (D.dv v.slot).k.cache.length <= 1000000000) (hl : Rds W (WalO wp b r lp v R) 1 ao l.length (bytes l)) :
  Does1 W Tryz.prog 213 [.pointer (some ⟨wp, 0, none⟩), .int .i64 a, .slice ao l.length cap] (BayR b D :: WalO wp b r lp v R) (.int .u16 (wWrite (v, D) a l).1) (BayR b (wWrite (v, D) a l).2.2 :: WalO wp b r lp (wWrite (v, D) a l).2.1 R) := by
 rw [wWrite_eq]
 (refine Does.enter Tryz.func213 Tryz.ntmps213 rfl rfl ?_)
 refine w ?_; repeat (refine zj fun _ => ?_; refine w ?_)
 rename_i b3 b4 b5
 refine VO.pure rfl rfl (PureAt.makeFuncN rfl) rfl ?_
 refine VO.ent (H' := BayR b D :: WalO wp b r lp v (Row b3 73 [.pointer (some ⟨wp, 0, none⟩)] :: Row b4 3 [.int .i64 a] :: Row b5 22 [.slice ao l.length cap] :: R)) Ent.re ?_
 (refine zq ?_; refine zy rfl rfl (waltry_ok wp b r lp v (fun _ _ => by simp) (fun _ => write1_ok wp b r b3 b4 b5 lp v a hc hl)) ?_)
 intro _ _
 refine w ?_; repeat (refine zj fun _ => ?_; refine w ?_)
 exact VE.done1 rfl rfl Ent.re
theorem walflush_ok {D : BayD} (wp b r : Nat) (lp : Option (Nat × (Option Addr × Nat))) (v : WalD) :
  Does1 W Tryz.prog 214 [.pointer (some ⟨wp, 0, none⟩)] (BayR b D :: WalO wp b r lp v R) (.int .u16 (wFlush (v, D)).1) (BayR b (wFlush (v, D)).2.2 :: WalO wp b r lp (wFlush (v, D)).2.1 R) := by
 rw [wFlush_eq]
 (refine Does.enter Tryz.func214 Tryz.ntmps214 rfl rfl ?_)
 refine w ?_; repeat (refine zj fun _ => ?_; refine w ?_)
 rename_i b1
 refine VO.pure rfl rfl (PureAt.makeFuncN rfl) rfl ?_
 refine VO.ent (H' := BayR b D :: WalO wp b r lp v (Row b1 73 [.pointer (some ⟨wp, 0, none⟩)] :: R)) Ent.re ?_
 (refine zq ?_; refine zy rfl rfl (waltry_ok wp b r lp v (fun _ _ => by simp) (fun _ => flush1_ok wp b r b1 lp v)) ?_)
 intro _ _
 refine w ?_; repeat (refine zj fun _ => ?_; refine w ?_)
 exact VE.done1 rfl rfl Ent.re
structure WalD.ok (v : WalD) : Prop where
  ring : RingOk v.size v.tail v.used
  epoch : v.epoch <= 4611686018427387904
  next : 1 <= v.next /\ v.next <= 4611686018427387905
  log : ∀ g, v.log = some g -> g.cost <= 2047 /\ 1 <= g.cost /\ g.commit.length = 128 /\ v.next <= 4611686018427387904
theorem wWrite_same {v : WalD} {D : BayD} {a : Int} {l : List UInt8} (h : (wWrite (v, D) a l).1 = 0) : (wWrite (v, D) a l).2.1 = v /\ v.broken = 0 := by
 unfold wWrite at *
 dsimp only at *
 split at h
 ·
  rename_i h0
  rw [if_pos h0]
  dsimp only at *
  refine ⟨?_, h0⟩
  rw [h, <- h0]
 ·
  rename_i h0
  exact absurd h h0
theorem wFlush_same {v : WalD} {D : BayD} (h : (wFlush (v, D)).1 = 0) : (wFlush (v, D)).2.1 = v /\ v.broken = 0 := by
 unfold wFlush at *
 dsimp only at *
 split at h
 ·
  rename_i h0
  rw [if_pos h0]
  dsimp only at *
  refine ⟨?_, h0⟩
  rw [h, <- h0]
 ·
  rename_i h0
  exact absurd h h0
def wEmpty (s : WS) (e : Nat) : Int × WS :=
  if s.1.broken ≠ 0 then (s.1.broken, s) else if s.1.sure = false then (1, s) else
  if (wCheck s ⟨e, s.1.next, s.1.head⟩).1 ≠ 0 then wCheck s ⟨e, s.1.next, s.1.head⟩ else
  (0, { s.1 with epoch := e, tail := s.1.head, used := 0, log := none }, (wCheck s ⟨e, s.1.next, s.1.head⟩).2.2)
theorem walcheck_ok {D : BayD} {c0 : Nat} (wp b r : Nat) (lp : Option (Nat × (Option Addr × Nat))) (v : WalD) (c : ChkD) (hf : c.fit) (hcp : D.capd c0) (hc0 : c0 <= 999999000) :
  Does1 W Tryz.prog 152 [.pointer (some ⟨wp, 0, none⟩), .agg c.cells.toArray] (BayR b D :: WalO wp b r lp v R) (.int .u16 (wCheck (v, D) c).1) (BayR b (wCheck (v, D) c).2.2 :: WalO wp b r lp (wCheck (v, D) c).2.1 R) := by
 (refine Does.enter Tryz.func152 Tryz.ntmps152 rfl rfl ?_)
 refine w ?_; repeat (refine zj fun _ => ?_; refine w ?_)
 rename_i b3
 have hE := encs_ok (W := W) (R := Row b3 155 c.cells :: BayR b D :: WalO wp b r lp v R) c hf
 (refine zq ?_; refine zy rfl rfl (hE) ?_)
 rintro ⟨xo, xc⟩ -
 refine VO.know (p := xo = none -> c.enc.2.length = 0) (fun w hw => hw.ownNone (.head _)) ?_
 intro hxn
 refine w ?_; repeat (refine zj fun _ => ?_; refine w ?_)
 refine zk ?_ ?_ <;> intro hc
 ·
  have h0 : c.enc.1 ≠ 0 := by simpa using hc
  have hz : wCheck (v, D) c = (c.enc.1, (v, D)) := if_pos h0
  rw [hz]
  refine w ?_; repeat (refine zj fun _ => ?_; refine w ?_)
  exact VE.done1 rfl rfl Ent.re
 have h0 : c.enc.1 = 0 := by simpa using hc
 clear hc
 have hz : wCheck (v, D) c = if (wWrite (v, D) 1 c.enc.2).1 ≠ 0 then wWrite (v, D) 1 c.enc.2 else wFlush (wWrite (v, D) 1 c.enc.2).2 := if_neg (by simpa using h0)
 rw [hz]
 refine w ?_; repeat (refine zj fun _ => ?_; refine w ?_)
 refine VO.ent (H' := BayR b D :: WalO wp b r lp v (OwnB (xo, xc) c.enc.2 :: R)) Ent.re ?_
 (refine zq ?_; refine zy rfl rfl (walwrite_ok wp b r lp v 1 (Nat.le_trans (dv_cap hcp _) (by omega)) (Rds.own (bytes_one _) (.tail _ (.tail _ (.tail _ (.head _)))) (by simp) hxn)) ?_)
 intro _ _
 refine w ?_; repeat (refine zj fun _ => ?_; refine w ?_)
 refine zk ?_ ?_ <;> intro hc
 ·
  have h1 : (wWrite (v, D) 1 c.enc.2).1 ≠ 0 := by simpa using hc
  rw [if_pos h1]
  refine w ?_; repeat (refine zj fun _ => ?_; refine w ?_)
  exact VE.done1 rfl rfl Ent.re
 have h1 : (wWrite (v, D) 1 c.enc.2).1 = 0 := by simpa using hc
 rw [if_neg (by simpa using h1)]
 refine w ?_; repeat (refine zj fun _ => ?_; refine w ?_)
 (refine zq ?_; refine zy rfl rfl (walflush_ok wp b r lp (wWrite (v, D) 1 c.enc.2).2.1) ?_)
 intro _ _
 refine w ?_; repeat (refine zj fun _ => ?_; refine w ?_)
 exact VE.done1 rfl rfl Ent.re
theorem walNone {wp b r : Nat} {v : WalD} (hg : v.log = none) : Ent W (walRow wp b r none v :: RingR r v.size v.tail v.used :: R) (WalR wp b v :: R) := by
 refine Ent.trans ?_ (WalR.shut r none)
 intro w hw
 have h1 : Holds W (logRes v.log none :: walRow wp b r none v :: RingR r v.size v.tail v.used :: R) w := by rw [hg]; exact hw.factShut trivial
 exact h1.reord (by unfold WalO; (repeat first | exact .refl | (apply Reord.cons; focus repeat first | exact .head | apply Del.tail) | exact .nil | apply Reord.drop))
theorem wCheck_same {v : WalD} {D : BayD} {c : ChkD} (h : (wCheck (v, D) c).1 = 0) : (wCheck (v, D) c).2.1 = v := by
 unfold wCheck at *
 split at h
 · rename_i h0; exact absurd h h0
 ·
  rename_i h0
  rw [if_neg h0]
  split at h
  · rename_i h1; exact absurd h h1
  ·
   rename_i h1
   rw [if_neg h1]
   have h2 : (wWrite (v, D) 1 c.enc.2).1 = 0 := Decidable.byContradiction h1
   have h3 : (wWrite (v, D) 1 c.enc.2).2 = (v, (wWrite (v, D) 1 c.enc.2).2.2) := Prod.ext (wWrite_same h2).1 rfl
   rw [h3] at h ⊢
   exact (wFlush_same h).1
theorem wCheck_shut {wp b : Nat} {v : WalD} (r : Nat) (lp : Option (Nat × (Option Addr × Nat))) : Ent W (WalO wp b r lp v R) (WalR wp b v :: R) := WalR.shut r lp
theorem walempty_ok {D : BayD} {c0 : Nat} (wp b : Nat) (v : WalD) (e : Nat) (he : e < 2 ^ 64) (hv : v.ok) (hcp : D.capd c0) (hc0 : c0 <= 999990000) :
  Does1 W Tryz.prog 106 [.pointer (some ⟨wp, 0, none⟩), .int .u64 e] (WalR wp b v :: BayR b D :: R) (.int .u16 (wEmpty (v, D) e).1) (WalR wp b (wEmpty (v, D) e).2.1 :: BayR b (wEmpty (v, D) e).2.2 :: R) := by
 have hr1 := hv.ring.lo; have hr2 := hv.ring.hi; have hr3 := hv.ring.tl; have hr4 := hv.ring.us
 have hm : (v.tail + v.used) % v.size < v.size := Nat.mod_lt _ (by omega)
 have hnx := hv.next
 refine walDoes fun r lp => ?_
 (refine Does.enter Tryz.func106 Tryz.ntmps106 rfl rfl ?_)
 refine w ?_
 refine zk ?_ ?_ <;> intro hc
 ·
  have h0 : v.broken ≠ 0 := by simpa using hc
  have hz : wEmpty (v, D) e = (v.broken, (v, D)) := if_pos h0
  rw [hz]
  refine w ?_
  refine VE.done1 rfl rfl ?_
  exact Ent.trans (Ent.re (L := WalO wp b r lp v (BayR b D :: R))) (WalR.shut r lp)
 have h0 : v.broken = 0 := by simpa using hc
 clear hc
 refine w ?_
 refine zk ?_ ?_ <;> intro hc
 ·
  have h1 : v.sure = false := by simpa using hc
  have hz : wEmpty (v, D) e = (1, (v, D)) := by unfold wEmpty; rw [if_neg (by simpa using h0), if_pos h1]
  rw [hz]
  refine w ?_
  refine VE.done1 rfl rfl ?_
  exact Ent.trans (Ent.re (L := WalO wp b r lp v (BayR b D :: R))) (WalR.shut r lp)
 have h1 : v.sure = true := by simpa using hc
 clear hc
 have hz : wEmpty (v, D) e = if (wCheck (v, D) ⟨e, v.next, v.head⟩).1 ≠ 0 then wCheck (v, D) ⟨e, v.next, v.head⟩ else
   (0, { v with epoch := e, tail := v.head, used := 0, log := none }, (wCheck (v, D) ⟨e, v.next, v.head⟩).2.2) := by
  unfold wEmpty
  rw [if_neg (by simpa using h0), if_neg (by dsimp only; rw [h1]; simp)]
 rw [hz]
 refine w ?_
 refine VC.drawn [10] 12 [0, 1, 2, 3, 4, 5, 6, 7, 8, 9, 10, 11, 12, 13] (BayR b D :: WalO wp b r lp v R) rfl (by kernel_rfl) (by kernel_rfl) Ent.refl ?_
 refine w ?_
 refine VD.ent (H' := RingR r v.size v.tail v.used :: BayR b D :: walRow wp b r lp v :: logRes v.log lp :: R) Ent.re ?_
 (refine zq ?_; refine zy rfl rfl (ringhead_ok r hv.ring) ?_)
 intro _ _
 refine ⟨Ent.re, ?_⟩
 refine w ?_
 ((first | apply VO.pure rfl rfl | apply VD.take rfl rfl rfl | (refine VD.end rfl rfl rfl ?_; apply OpV.pure)); apply PureAt.build sb_155 rfl; (simp [buildX, setL, Value.cells]; rfl); rfl)
 refine VD.ent (H' := BayR b D :: WalO wp b r lp v R) Ent.re ?_
 (refine zq ?_; refine zy rfl rfl (walcheck_ok wp b r lp v ⟨e, v.next, v.head⟩ ⟨he, by dsimp only; omega, by dsimp only [WalD.head]; omega⟩ hcp (by omega)) ?_)
 intro _ _
 refine w ?_
 refine zk ?_ ?_ <;> intro hc
 ·
  have h9 : (wCheck (v, D) ⟨e, v.next, v.head⟩).1 ≠ 0 := by simpa using hc
  rw [if_pos h9]
  refine w ?_
  refine VE.done1 rfl rfl ?_
  exact Ent.trans (Ent.re (L := WalO wp b r lp (wCheck (v, D) ⟨e, v.next, v.head⟩).2.1 (BayR b (wCheck (v, D) ⟨e, v.next, v.head⟩).2.2 :: R))) (wCheck_shut r lp)
 have h9 : (wCheck (v, D) ⟨e, v.next, v.head⟩).1 = 0 := by simpa using hc
 clear hc
 rw [if_neg (by simpa using h9), wCheck_same h9]
 refine w ?_
 refine VC.drawn [8, 9] 14 [0, 1, 2, 3, 4, 5, 6, 7, 8, 9, 10, 11, 12, 13, 14] [walRow wp b r lp v] rfl (by kernel_rfl) (by kernel_rfl) Ent.re ?_
 refine w ?_
 refine VD.ent (H' := RingR r v.size v.tail v.used :: BayR b (wCheck (v, D) ⟨e, v.next, v.head⟩).2.2 :: walRow wp b r lp v :: logRes v.log lp :: R) Ent.re ?_
 (refine zq ?_; refine zy rfl rfl (ringused_ok r v.size v.tail v.used) ?_)
 intro _ _
 refine ⟨Ent.re, ?_⟩
 refine w ?_
 (refine zq ?_; refine zy rfl rfl (ringgive_ok r hv.ring v.used (Nat.le_refl _)) ?_)
 intro x9 _
 refine ⟨Ent.re, ?_⟩
 refine w ?_
 refine VE.done1 rfl rfl ?_
 dsimp only
 refine Ent.trans (Ent.re (L := walRow wp b r none { v with epoch := e, tail := v.head, used := 0, log := none } :: RingR r v.size v.head 0 :: BayR b (wCheck (v, D) ⟨e, v.next, v.head⟩).2.2 :: R) (by
  unfold WalD.head
  rw [show v.used - v.used = 0 by omega]
  (repeat first | exact .refl | (apply Reord.cons; focus repeat first | exact .head | apply Del.tail) | exact .nil | apply Reord.drop))) (walNone rfl)
theorem walrenew_ok {D : BayD} {c0 : Nat} (wp b : Nat) (v : WalD) (hv : v.ok) (hcp : D.capd c0) (hc0 : c0 <= 999990000) :
  Does1 W Tryz.prog 45 [.pointer (some ⟨wp, 0, none⟩)] (WalR wp b v :: BayR b D :: R) (.int .u16 (wEmpty (v, D) (v.epoch + 1)).1) (WalR wp b (wEmpty (v, D) (v.epoch + 1)).2.1 :: BayR b (wEmpty (v, D) (v.epoch + 1)).2.2 :: R) := by
 have hepo := hv.epoch
 refine walDoes fun r lp => ?_
 (refine Does.enter Tryz.func45 Tryz.ntmps45 rfl rfl ?_)
 refine w ?_
 refine VO.re 8 (.int .u64 ((v.epoch + 1 : Nat) : Int)) rfl (by congr 1; rw [show ((v.epoch : Int) + 1) = ((v.epoch + 1 : Nat) : Int) by omega, wrap64_of (by omega)]) ?_
 refine VO.ent (Ent.trans (Ent.re (L := WalO wp b r lp v (BayR b D :: R))) (WalR.shut r lp)) ?_
 (refine zq ?_; refine zy rfl rfl (walempty_ok wp b v (v.epoch + 1) (by omega) hv hcp hc0) ?_)
 intro _ _
 refine w ?_
 exact VE.done1 rfl rfl Ent.re
theorem bayOkk {W w : World} {R : List SProp} {b : Nat} {D : BayD} (h : Holds W (BayR b D :: R) w) (k : Int) (v : DevD) (hv : D.dev k = some v) : v.k.ok := by
  obtain ⟨⟨⟨a, sp⟩, h1, h2⟩, h3⟩ := BayR.open h
  dsimp only at h1 h2 h3
  rw [inP_D h1] at hv
  cases hp : inP sp k with
  | none => rw [hp] at hv; cases hv
  | some p =>
    rw [hp] at hv
    have hv : p.v = v := by injection hv
    obtain ⟨l1, s, l2, rfl, -, hs⟩ := inP_split hp
    have h4 := bayOutP hs w h3
    have := h4.tail
    rw [<- hv]
    exact DiskR.know this
theorem rd_128 {k : DiskD} (hk : k.ok) {a : Int} (h : (k.rd a).2 = 0) : (k.rd a).1.length = 128 := by
 unfold DiskD.rd at *
 split at h
 ·
  rename_i h0
  rw [if_pos h0]
  have := may_zero h0
  exact DiskD.look_128 hk (by omega)
 · rename_i h0; exact absurd h h0
theorem refuse_devU {D : BayD} {k : Int} (h : D.refuse k = 0) : ∃ v, D.dev k = some v := by
  unfold BayD.refuse at h
  split at h
  · cases h
  · split at h
    · cases h
    · rename_i h1 h2
      cases hd : D.dev k with
      | some v => exact ⟨v, rfl⟩
      | none =>
        rw [hd] at h
        unfold thereE at h
        simp only [Option.isSome_none] at h
        split at h
        · cases h
        · cases h
theorem use_okk {v : DevD} (h : v.k.ok) : v.use.k.ok := by
 unfold DevD.use
 split
 · exact h
 ·
  split
  · exact DiskD.settle_okk (k := ⟨v.k.last, v.k.cache, true⟩) ⟨h.last, h.cache, h.size⟩
  · exact h
theorem read_128 {D : BayD} {k a : Int} (hk : ∀ v, D.dev k = some v -> v.k.ok) (h : (D.read k a).1.2 = 0) : (D.read k a).1.1.length = 128 := by
 unfold BayD.read at *
 split at h
 ·
  rename_i h0
  rw [if_pos h0]
  obtain ⟨v, hv⟩ := refuse_devU h0
  dsimp only at *
  refine rd_128 ?_ h
  unfold BayD.dv
  rw [hv]
  exact use_okk (hk v hv)
 · rename_i h0; exact absurd h h0
def sizedB (n : Int) : Bool := decide (5 <= n /\ n <= 2048)
theorem sized_ok (n : Int) : Does1 W Tryz.prog 84 [.int .i64 n] R (.bool (sizedB n)) R := by
 (refine Does.enter Tryz.func84 Tryz.ntmps84 rfl rfl ?_)
 refine w ?_
 refine zg ?_ ?_ <;> intro hb
 ·
  refine w ?_
  exact VE.done1 rfl (by unfold sizedB; congr 1; rw [decide_eq_decide]; have := of_decide_eq_true hb; omega) Ent.re
 ·
  refine w ?_
  exact VE.done1 rfl (by unfold sizedB; congr 1; symm; apply decide_eq_false; have := of_decide_eq_false hb; omega) Ent.re
def fresh0 (slot : Int) (epoch n : Nat) : WalD := ⟨slot, epoch, n, 0, 0, 1, true, none, 0⟩
def bReads (D : BayD) (slot : Int) : List Int -> List UInt8 -> (List UInt8 × Int) × BayD
  | [], acc => ((acc, 0), D)
  | a :: r, acc => if (D.read slot a).1.2 ≠ 0 then (([], (D.read slot a).1.2), (D.read slot a).2) else bReads (D.read slot a).2 slot r (acc ++ (D.read slot a).1.1)
def ringL (n : Nat) : List Int := (List.range n).map fun p => ((2 + p : Nat) : Int)
def openW (slot places : Int) (c : ChkD) (f : FndD) : WalD := ⟨slot, c.epoch, places.toNat, c.tail.toNat, f.used, f.next, true, none, 0⟩
def wOpen (D : BayD) (slot places : Int) : ((Option WalD × List (Nat × List PatD)) × Int) × BayD :=
  if sizedB places = false then (((none, []), 1), D) else
  if (D.read slot 1).1.2 ≠ 0 then (((none, []), (D.read slot 1).1.2), (D.read slot 1).2) else
  if (ChkD.dec (D.read slot 1).1.1).1 ≠ 0 \/ places <= (ChkD.dec (D.read slot 1).1.1).2.tail then (((none, []), 120), (D.read slot 1).2) else
  if (bReads (D.read slot 1).2 slot (ringL places.toNat) []).1.2 ≠ 0 then (((none, []), (bReads (D.read slot 1).2 slot (ringL places.toNat) []).1.2), (bReads (D.read slot 1).2 slot (ringL places.toNat) []).2) else
  if (foundM (bReads (D.read slot 1).2 slot (ringL places.toNat) []).1.1 (ChkD.dec (D.read slot 1).1.1).2).1 ≠ 0 then (((none, []), (foundM (bReads (D.read slot 1).2 slot (ringL places.toNat) []).1.1 (ChkD.dec (D.read slot 1).1.1).2).1), (bReads (D.read slot 1).2 slot (ringL places.toNat) []).2) else
  (((some (openW slot places (ChkD.dec (D.read slot 1).1.1).2 (foundM (bReads (D.read slot 1).2 slot (ringL places.toNat) []).1.1 (ChkD.dec (D.read slot 1).1.1).2).2), (foundM (bReads (D.read slot 1).2 slot (ringL places.toNat) []).1.1 (ChkD.dec (D.read slot 1).1.1).2).2.txns), 0), (bReads (D.read slot 1).2 slot (ringL places.toNat) []).2)
theorem dec_fitS (b : List UInt8) : (ChkD.dec b).2.fit := by
 have hz : zeroK.fit := ⟨by decide, by decide, by decide⟩
 unfold ChkD.dec
 split
 · exact hz
 ·
  split
  · exact chk_fit b
  · exact hz
structure OpnE where
  w : Option Nat
  x : Option Addr × Nat
  ts : List TxnE
theorem walopen_ok {D : BayD} (b : Nat) (slot places : Int) :
  Does W Tryz.prog 32 [.pointer (some ⟨b, 0, none⟩), .int .i64 slot, .int .i64 places] (BayR b D :: R) (β := OpnE) (fun y => y.w.isSome = (wOpen D slot places).1.1.1.isSome /\ y.ts.map TxnE.T = (wOpen D slot places).1.1.2)
   (fun y => .tuple #[.pointer (y.w.map fun w => ⟨w, 0, none⟩), .slice y.x.1 y.ts.length y.x.2, .int .u16 (wOpen D slot places).1.2])
   (fun y => TxnsO y.x y.ts :: PilT y.ts :: y.w.elim (BayR b (wOpen D slot places).2 :: R) fun w => WalR w b ((wOpen D slot places).1.1.1.getD (fresh0 0 0 0)) :: BayR b (wOpen D slot places).2 :: R) := by
 have hnone : ∀ (D' : BayD), Ent W (BayR b D' :: R) (TxnsO (none, 0) [] :: PilT [] :: BayR b D' :: R) := fun D' w hw => (pile_nil (res := TxnE.res) hw).ownNil _ _
 (refine Does.enter Tryz.func32 Tryz.ntmps32 rfl rfl ?_)
 refine w ?_; repeat (refine zj fun _ => ?_; refine w ?_)
 (refine zq ?_; refine zy rfl rfl (sized_ok places) ?_)
 intro _ _
 refine w ?_; repeat (refine zj fun _ => ?_; refine w ?_)
 by_cases hs : sizedB places = true
 rotate_left
 ·
  have hs : sizedB places = false := by simpa using hs
  have hz : wOpen D slot places = (((none, []), 1), D) := if_pos hs
  rw [hs, hz]
  refine w ?_; repeat (refine zj fun _ => ?_; refine w ?_)
  exact VE.done ⟨none, (none, 0), []⟩ rfl ⟨rfl, rfl⟩ rfl (hnone D)
 rw [hs]
 have hs2 := of_decide_eq_true (show decide (5 <= places /\ places <= 2048) = true from hs)
 obtain ⟨n, rfl⟩ : ∃ n : Nat, places = n := ⟨places.toNat, by omega⟩
 have hO : wOpen D slot n = if (D.read slot 1).1.2 ≠ 0 then (((none, []), (D.read slot 1).1.2), (D.read slot 1).2) else
   if (ChkD.dec (D.read slot 1).1.1).1 ≠ 0 \/ (n : Int) <= (ChkD.dec (D.read slot 1).1.1).2.tail then (((none, []), 120), (D.read slot 1).2) else
   if (bReads (D.read slot 1).2 slot (ringL n) []).1.2 ≠ 0 then (((none, []), (bReads (D.read slot 1).2 slot (ringL n) []).1.2), (bReads (D.read slot 1).2 slot (ringL n) []).2) else
   if (foundM (bReads (D.read slot 1).2 slot (ringL n) []).1.1 (ChkD.dec (D.read slot 1).1.1).2).1 ≠ 0 then (((none, []), (foundM (bReads (D.read slot 1).2 slot (ringL n) []).1.1 (ChkD.dec (D.read slot 1).1.1).2).1), (bReads (D.read slot 1).2 slot (ringL n) []).2) else
   (((some (openW slot n (ChkD.dec (D.read slot 1).1.1).2 (foundM (bReads (D.read slot 1).2 slot (ringL n) []).1.1 (ChkD.dec (D.read slot 1).1.1).2).2), (foundM (bReads (D.read slot 1).2 slot (ringL n) []).1.1 (ChkD.dec (D.read slot 1).1.1).2).2.txns), 0), (bReads (D.read slot 1).2 slot (ringL n) []).2) := by
  unfold wOpen
  rw [if_neg (by rw [hs]; simp), Int.toNat_natCast]
 refine w ?_; repeat (refine zj fun _ => ?_; refine w ?_)
 (refine zq ?_; refine zy rfl rfl (bayread_ok b D slot 1) ?_)
 rintro ⟨xo, xc⟩ hxn
 dsimp only at hxn
 refine VO.know (p := ∀ v, (D.read slot 1).2.dev slot = some v -> v.k.ok) (fun w hw => bayOkk hw.tail slot) ?_
 intro hokk
 refine VO.know (p := (D.read slot 1).1.1.length <= xc) (fun w hw => hw.ownCap (.head _)) ?_
 intro hxc
 obtain ⟨D1, hD1⟩ : ∃ D1, D1 = (D.read slot 1).2 := ⟨_, rfl⟩
 obtain ⟨l1, hl1⟩ : ∃ l1, l1 = (D.read slot 1).1.1 := ⟨_, rfl⟩
 obtain ⟨e1, he1⟩ : ∃ e1, e1 = (D.read slot 1).1.2 := ⟨_, rfl⟩
 rw [<- hl1, <- he1, <- hD1] at hO
 rw [<- hD1] at hokk
 rw [<- hl1] at hxc hxn
 rw [<- hl1, <- he1, <- hD1]
 refine w ?_; repeat (refine zj fun _ => ?_; refine w ?_)
 refine zk ?_ ?_ <;> intro hc
 ·
  have h9 : e1 ≠ 0 := by simpa using hc
  rw [if_pos h9] at hO
  rw [hO]
  refine w ?_; repeat (refine zj fun _ => ?_; refine w ?_)
  refine VE.done ⟨none, (none, 0), []⟩ rfl ⟨rfl, rfl⟩ rfl ?_
  exact Ent.trans (Ent.re (L := BayR b D1 :: R)) (hnone D1)
 have h9 : e1 = 0 := by simpa using hc
 clear hc
 rw [if_neg (by simpa using h9)] at hO
 have hdf := dec_fitS l1
 obtain ⟨c, hcc⟩ : ∃ c, c = (ChkD.dec l1).2 := ⟨_, rfl⟩
 rw [<- hcc] at hO hdf
 refine w ?_; repeat (refine zj fun _ => ?_; refine w ?_)
 (refine zq ?_; refine zy rfl rfl (decs_ok (Rds.own (bytes_one _) (.head _) (by simp) hxn) hxc) ?_)
 intro _ _
 rw [<- hcc]
 refine w ?_; repeat (refine zj fun _ => ?_; refine w ?_)
 refine zq ?_; refine OpV.allocS sb_155 rfl ?_; intro n11
 refine w ?_; repeat (refine zj fun _ => ?_; refine w ?_)
 refine zq ?_
 refine OpV.stA (vs := c.cells) tab_ok rfl rfl rfl rfl (by simp [Value.oneCell']) zh (by simp) ?_
 refine VO.ent (H' := Row n11 155 c.cells :: BayR b D1 :: R) Ent.re ?_
 refine w ?_; repeat (refine zj fun _ => ?_; refine w ?_)
 refine zg ?_ ?_ <;> intro hb
 ·
  have h8 : (ChkD.dec l1).1 ≠ 0 := by simpa using hb
  rw [if_pos (.inl h8)] at hO
  rw [hO]
  refine w ?_; repeat (refine zj fun _ => ?_; refine w ?_)
  refine VE.done ⟨none, (none, 0), []⟩ rfl ⟨rfl, rfl⟩ rfl ?_
  exact Ent.trans (Ent.re (L := BayR b D1 :: R)) (hnone D1)
 have h8 : (ChkD.dec l1).1 = 0 := by simpa using hb
 clear hb
 refine w ?_; repeat (refine zj fun _ => ?_; refine w ?_)
 refine zk ?_ ?_ <;> intro hc
 ·
  have h7 : (n : Int) <= c.tail := of_decide_eq_true hc
  rw [if_pos (.inr h7)] at hO
  rw [hO]
  refine w ?_; repeat (refine zj fun _ => ?_; refine w ?_)
  refine VE.done ⟨none, (none, 0), []⟩ rfl ⟨rfl, rfl⟩ rfl ?_
  exact Ent.trans (Ent.re (L := BayR b D1 :: R)) (hnone D1)
 have h7 : ¬ (n : Int) <= c.tail := of_decide_eq_false hc
 clear hc
 rw [if_neg (by rintro (q | q); exact q h8; exact h7 q)] at hO
 obtain ⟨L, hL⟩ : ∃ L, L = ringL n := ⟨_, rfl⟩
 have hLl : L.length = n := by rw [hL]; simp [ringL]
 have hLg : ∀ i (h : i < L.length), L[i] = ((2 + i : Nat) : Int) := by intro i h; subst hL; simp [ringL]
 rw [<- hL] at hO
 refine w ?_; repeat (refine zj fun _ => ?_; refine w ?_)
 refine VC.loop (α := Nat × BayD × List UInt8 × (Option Addr × Nat)) (fun y => y.1 <= n /\ y.2.2.1.length = 128 * y.1 /\ bReads D1 slot L [] = bReads y.2.1 slot (L.drop y.1) y.2.2.1) (fun y => OwnB y.2.2.2 y.2.2.1 :: BayR b y.2.1 :: Row n11 155 c.cells :: R)
  (fun y => [(0, .pointer (some ⟨b, 0, none⟩)), (1, .int .i64 slot), (2, .int .i64 n), (11, .pointer (some ⟨n11, 0, none⟩)), (12, .slice y.2.2.2.1 y.2.2.1.length y.2.2.2.2), (43, .int .i64 n), (44, .int .i64 y.1)]) (fun y => n - y.1) rfl (0, D1, [], none, 0) ⟨Nat.zero_le _, rfl, by rw [List.drop_zero]⟩
  (Ent.trans (Ent.re (L := BayR b D1 :: Row n11 155 c.cells :: R)) (fun w hw => hw.ownNil 5 1)) ⟨rfl, rfl, rfl, rfl, rfl, rfl, rfl, trivial⟩ ?_
 rintro ⟨i, Di, acc, ⟨ao, ac⟩⟩ ⟨hi, hal, hmi⟩
 dsimp only at hi hal hmi ⊢
 refine w ?_; repeat (refine zj fun _ => ?_; refine w ?_)
 refine zk ?_ ?_ <;> intro hc
 ·
  have hlt : i < n := by have := of_decide_eq_true hc; omega
  clear hc
  have hstep : bReads Di slot (L.drop i) acc = if (Di.read slot ((2 + i : Nat) : Int)).1.2 ≠ 0 then (([], (Di.read slot ((2 + i : Nat) : Int)).1.2), (Di.read slot ((2 + i : Nat) : Int)).2) else bReads (Di.read slot ((2 + i : Nat) : Int)).2 slot (L.drop (i + 1)) (acc ++ (Di.read slot ((2 + i : Nat) : Int)).1.1) := by
   rw [List.drop_eq_getElem_cons (by omega), hLg i (by omega)]; rfl
  refine VC.know (p := ∀ v, Di.dev slot = some v -> v.k.ok) (fun w hw => bayOkk hw.tail slot) ?_
  intro hokd
  refine w ?_; repeat (refine zj fun _ => ?_; refine w ?_)
  refine VO.re 51 (.int .i64 ((2 + i : Nat) : Int)) rfl (by congr 1) ?_
  refine VO.ent (H' := BayR b Di :: OwnB (ao, ac) acc :: Row n11 155 c.cells :: R) Ent.re ?_
  (refine zq ?_; refine zy rfl rfl (bayread_ok b Di slot ((2 + i : Nat) : Int)) ?_)
  rintro ⟨yo, yc⟩ hyn
  dsimp only at hyn
  refine w ?_; repeat (refine zj fun _ => ?_; refine w ?_)
  refine zk ?_ ?_ <;> intro hc
  ·
   have h9' : (Di.read slot ((2 + i : Nat) : Int)).1.2 ≠ 0 := by simpa using hc
   rw [if_pos h9'] at hstep
   rw [hmi, hstep, if_pos h9'] at hO
   rw [hO]
   refine w ?_; repeat (refine zj fun _ => ?_; refine w ?_)
   refine VE.done ⟨none, (none, 0), []⟩ rfl ⟨rfl, rfl⟩ rfl ?_
   exact Ent.trans (Ent.re (L := BayR b (Di.read slot ((2 + i : Nat) : Int)).2 :: R)) (hnone _)
  have h9' : (Di.read slot ((2 + i : Nat) : Int)).1.2 = 0 := by simpa using hc
  clear hc
  rw [if_neg (by simpa using h9')] at hstep
  have h128 := read_128 hokd h9'
  refine w ?_; repeat (refine zj fun _ => ?_; refine w ?_)
  refine zq ?_
  refine OpV.append (m := (Di.read slot ((2 + i : Nat) : Int)).1.1.length) (news := bytes (Di.read slot ((2 + i : Nat) : Int)).1.1) st_22 rfl rfl zh (fun w hw => (show Sees w 1 (.slice yo (Di.read slot ((2 + i : Nat) : Int)).1.1.length yc) (Di.read slot ((2 + i : Nat) : Int)).1.1.length (bytes (Di.read slot ((2 + i : Nat) : Int)).1.1) from Sees.own (e := 5) (bytes_one _) hw zm).src st_22.und) (by simp only [maxLen]; omega) (by omega) rfl ?_
  intro so sc
  refine w ?_; repeat (refine zj fun _ => ?_; refine w ?_)
  refine VE.round (i + 1, (Di.read slot ((2 + i : Nat) : Int)).2, acc ++ (Di.read slot ((2 + i : Nat) : Int)).1.1, so, sc) ⟨hlt, by simp only [List.length_append]; omega, by rw [hmi, hstep]⟩ (by simp only; omega) ⟨rfl, rfl, rfl, rfl, asV rfl (by rw [List.length_append]), rfl, asV rfl (by congr 1), trivial⟩ ?_
  dsimp only
  rw [show OwnB (so, sc) (acc ++ (Di.read slot ((2 + i : Nat) : Int)).1.1) = Sl.Own 5 1 (.slice so (acc.length + (Di.read slot ((2 + i : Nat) : Int)).1.1.length) sc) (acc.length + (Di.read slot ((2 + i : Nat) : Int)).1.1.length) (bytes acc ++ bytes (Di.read slot ((2 + i : Nat) : Int)).1.1) by
   show Sl.Own _ _ (.slice so (_ ++ _ : List UInt8).length sc) (_ ++ _ : List UInt8).length (bytes (_ ++ _)) = _
   rw [List.length_append]; unfold bytes; rw [List.map_append]]
  exact Ent.re
 have hie : i = n := by have := of_decide_eq_false hc; omega
 clear hc
 rw [hie, <- hLl, List.drop_length] at hmi
 have hrd : bReads D1 slot L [] = ((acc, 0), Di) := hmi
 rw [hrd] at hO
 dsimp only at hO
 rw [if_neg (by simp)] at hO
 rw [hie] at hal
 refine VC.know (p := ao = none -> acc.length = 0) (fun w hw => hw.ownNone (.head _)) ?_
 intro hcn
 refine VC.know (p := acc.length <= ac) (fun w hw => hw.ownCap (.head _)) ?_
 intro hcc2
 obtain ⟨e2, f2, hf2⟩ : ∃ e f, foundM acc c = (e, f) := ⟨_, _, rfl⟩
 rw [hf2] at hO
 dsimp only at hO
 have hOF := of_ok (W := W) (R := OwnB (ao, ac) acc :: BayR b Di :: Row n11 155 c.cells :: R) (ao := ao) (cap := ac) (data := acc) (Rds.own (bytes_one _) (.head _) (by simp) hcn) hcc2 (by omega) c hdf
 rw [hf2] at hOF
 refine w ?_; repeat (refine zj fun _ => ?_; refine w ?_)
 (refine zq ?_; refine zy rfl rfl (hOF) ?_)
 rintro ⟨⟨o1, c1⟩, ts⟩ hts
 dsimp only at hts ⊢
 refine w ?_; repeat (refine zj fun _ => ?_; refine w ?_)
 refine zq ?_; refine OpV.allocS sb_159 rfl ?_; intro n16
 refine w ?_; repeat (refine zj fun _ => ?_; refine w ?_)
 refine zq ?_
 refine OpV.stA (vs := [.slice o1 ts.length c1, .int .u64 (f2.next : Int), .int .i64 (f2.head : Int), .int .i64 (f2.used : Int)]) tab_ok rfl rfl rfl rfl (by simp [Value.oneCell']) zh (by simp) ?_
 refine w ?_; repeat (refine zj fun _ => ?_; refine w ?_)
 refine zk ?_ ?_ <;> intro hc
 ·
  have h6 : e2 ≠ 0 := by simpa using hc
  rw [if_pos h6] at hO
  rw [hO]
  refine w ?_; repeat (refine zj fun _ => ?_; refine w ?_)
  refine VE.done ⟨none, (none, 0), []⟩ rfl ⟨rfl, rfl⟩ rfl ?_
  exact Ent.trans (Ent.re (L := BayR b Di :: R)) (hnone _)
 have h6 : e2 = 0 := by simpa using hc
 clear hc
 rw [if_neg (by simpa using h6)] at hO
 subst h6
 obtain ⟨n', tl, hdn, hn5, htl, htn, hgood, hfd⟩ := found_facts (data := acc) (c := c) (by rw [hf2])
 obtain rfl : n' = n := by omega
 have hus : f2.used <= n' := by
  have h5 : f2 = ⟨ofM (secB acc) n' c.epoch (n' + 1) c.seq 0 tl, c.seq + (ofM (secB acc) n' c.epoch (n' + 1) c.seq 0 tl).length, (tl + costT (ofM (secB acc) n' c.epoch (n' + 1) c.seq 0 tl)) % n', costT (ofM (secB acc) n' c.epoch (n' + 1) c.seq 0 tl)⟩ := by
   rw [hf2] at hfd; exact congrArg Prod.snd hfd
  rw [h5]
  have := of_cost (sec := secB acc) (size := n') (e := c.epoch) (n' + 1) c.seq 0 tl (Nat.zero_le _)
  dsimp only; omega
 have hro : RingOk n' tl f2.used := ⟨by omega, by omega, htn, hus⟩
 refine w ?_; repeat (refine zj fun _ => ?_; refine w ?_)
 refine VO.re 74 (.int .i64 (tl : Int)) rfl (by rw [<- htl]) ?_
 (refine zq ?_; refine zy rfl rfl (ringnew_ok hro) ?_)
 intro r _
 refine w ?_; repeat (refine zj fun _ => ?_; refine w ?_)
 (refine VC.drawn [8] 12 [0, 1, 2, 3, 4, 5, 6, 7, 9, 10, 8, 11, 12, 13] _ rfl (by kernel_rfl) (by kernel_rfl) Ent.re ?_)
 refine w ?_; repeat (refine zj fun _ => ?_; refine w ?_)
 ((first | apply VO.pure rfl rfl | apply VD.take rfl rfl rfl | (refine VD.end rfl rfl rfl ?_; apply OpV.pure)); apply PureAt.build sb_167 rfl; (simp [buildX, setL, Value.cells]; rfl); rfl)
 refine w ?_; repeat (refine zj fun _ => ?_; refine w ?_)
 rename_i wp
 have hop : openW slot n' c f2 = ⟨slot, c.epoch, n', tl, f2.used, f2.next, true, none, 0⟩ := by unfold openW; rw [htl]; rfl
 rw [hO, hop]
 refine VE.done ⟨some wp, (o1, c1), ts⟩ rfl ⟨rfl, hts⟩ rfl ?_
 refine Ent.trans (Ent.re (L := walRow wp b r none ⟨slot, c.epoch, n', tl, f2.used, f2.next, true, none, 0⟩ :: RingR r n' tl f2.used :: TxnsO (o1, c1) ts :: PilT ts :: BayR b Di :: R)) ?_
 refine Ent.trans (walNone rfl) ?_
 exact Ent.re
end Go.Proofs.YtjebagmjcdaegaaGreat
