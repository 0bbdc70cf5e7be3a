import Derived.Test.YtjebagmjcdaegaaGreatM6
import Derived.ControlIn
/-! Text Si. -/
set_option maxRecDepth 8000
set_option maxHeartbeats 16000000
set_option linter.unusedVariables false
set_option linter.unusedSimpArgs false
set_option linter.unusedSectionVars false
namespace Go.Sl
open Go Go.RowKit
section
variable {W : World} {P : Program} {n : Nat} {m : Md} {c : Code} {Q : Exit -> Act -> World -> Prop} {H H' L R : List SProp} {f F : Fr}
def loopR {α : Type} (W : World) (n : Nat) (m : Md) (A : α -> Prop) (G : α -> List SProp) (F : α -> Fr) (μ : α -> Nat) (k : Nat) (Q : Exit -> Act -> World -> Prop) : Exit -> Act -> World -> Prop :=
  Exit.then (fun a' w' => ∃ y t', a' = ⟨t', m.df⟩ /\ A y /\ μ y < k /\ Knows n (F y) t' /\ Holds W (G y) w') Q
theorem VR.loop {α : Type} (A : α -> Prop) (G : α -> List SProp) (F : α -> Fr) (μ : α -> Nat) (hc : isLoop c = true) (x0 : α) (h0 : A x0) (hH : Ent W H (G x0)) (hF : SubF (F x0) f)
    (round : ∀ x, A x -> VR W P n m (Cd.l c) (loopR W n m A G F μ (μ x) Q) (G x) (F x)) : VR W P n m c Q H f := by
  unfold VR at *
  cases c <;> simp [isLoop] at hc
  intro hno t w hk hw
  refine wpIn_loop (fun a w => ∃ x t', a = ⟨t', m.df⟩ /\ A x /\ Knows n (F x) t' /\ Holds W (G x) w) (fun a w => leastOf (fun k => ∃ x t', a = ⟨t', m.df⟩ /\ A x /\ μ x = k /\ Knows n (F x) t' /\ Holds W (G x) w)) ⟨x0, t, rfl, h0, hk.sub hF, hH w hw⟩ ?_
  rintro a w ⟨x', t', rfl, hA', hk', hw'⟩
  obtain ⟨⟨x, t2, e2, hA, hm, hkx, hwx⟩, hmin⟩ := leastOf_spec (p := fun k => ∃ x t'', (⟨t', m.df⟩ : Act) = ⟨t'', m.df⟩ /\ A x /\ μ x = k /\ Knows n (F x) t'' /\ Holds W (G x) w) ⟨μ x', x', t', rfl, hA', rfl, hk', hw'⟩
  have e3 : t2 = t' := by injection e2 with e2; exact e2.symm
  subst e3
  refine wpIn_mono (round x hA (fun a w q => hno a w q) t2 w hkx hwx) ?_
  intro e a w1 q
  cases e with
  | normal =>
    obtain ⟨y, t'', rfl, h1, h2, h3, h4⟩ := q
    refine ⟨⟨y, t'', rfl, h1, h3, h4⟩, ?_⟩
    refine Nat.lt_of_le_of_lt ((leastOf_spec (p := fun k => ∃ x t', (⟨t'', m.df⟩ : Act) = ⟨t', m.df⟩ /\ A x /\ μ x = k /\ Knows n (F x) t' /\ Holds W (G x) w1) ⟨μ y, y, t'', rfl, h1, rfl, h3, h4⟩).2 (μ y) ⟨y, t'', rfl, h1, rfl, h3, h4⟩) ?_
    rw [<- hm]; exact h2
  | _ => exact q
theorem VF.round {α : Type} {A : α -> Prop} {G : α -> List SProp} {F : α -> Fr} {μ : α -> Nat} {k : Nat} (y : α) (hA : A y) (hm : μ y < k) (hF : SubF (F y) f) (hH : Ent W H (G y)) :
  VF W n m (loopR W n m A G F μ k Q) .normal H f := by
 unfold VF
 exact fun _ t w hk hw => ⟨y, t, rfl, hA, hm, hk.sub hF, hH w hw⟩
theorem VF.loopRet {α : Type} {A : α -> Prop} {G : α -> List SProp} {F : α -> Fr} {μ : α -> Nat} {k : Nat} (h : VF W n m Q .ret H f) : VF W n m (loopR W n m A G F μ k Q) .ret H f := by
 unfold VF at *
 exact fun hno t w hk hw => h hno t w hk hw
theorem VF.loopExit {α : Type} {A : α -> Prop} {G : α -> List SProp} {F : α -> Fr} {μ : α -> Nat} {k i : Nat} (h : VF W n m Q (.exit i) H f) : VF W n m (loopR W n m A G F μ k Q) (.exit i) H f := by
 unfold VF at *
 exact fun hno t w hk hw => h hno t w hk hw
attribute [irreducible] loopR
theorem Does.enterI {g : FuncId} {fn : Func} {args : List Value} {β : Type} {A : β -> Prop} {r : β -> Value} {G : β -> List SProp} (hf : P.funcs[g]? = some fn) (hn : fn.ntmps = n) (hb : fn.body.isSome = true) (hl : Nat.ble args.length n = true)
  (h : VR W P n ⟨none, []⟩ (bodyOf fn) (bodyPost P fn (Post W A r G)) H (argF 0 args)) : Does W P g args H A r G := by
 unfold Does
 unfold VR at h
 intro w hw
 obtain ⟨c, hc⟩ := Option.isSome_iff_exists.1 hb
 refine calls_of_wp hf hc ?_
 have h2 := h (fun a w q => by obtain ⟨_, _, e, _⟩ := q; cases e) _ w (Knows.start args n (Nat.le_of_ble_eq_true hl)) hw
 rw [<- hn] at h2
 have h3 := wpIn_wide.1 h2
 simpa [bodyOf, hc] using h3
theorem VF.done {fn : Func} {β : Type} {A : β -> Prop} {r : β -> Value} {G : β -> List SProp} {v : Value} {e : Exit} (he : e = .ret \/ e = .normal) (x : β) (hr : resOf f fn.results.toList = some v) (hA : A x) (hv : v = r x) (hH : Ent W H (G x)) :
  VF W n ⟨none, []⟩ (bodyPost P fn (Post W A r G)) e H f := by
 unfold VF
 intro _ t w hk hw
 rcases he with rfl | rfl <;> exact ⟨rfl, _, resOf_run hk hr _, x, hA, by rw [hv], hH w hw⟩
theorem resOf_none : resOf f [] = some (.tuple #[]) := rfl
def VI (W : World) (P : Program) (n : Nat) (m : Md) (c : Code) (k : Nat) (Q : Exit -> Act -> World -> Prop) (H : List SProp) (f : Fr) : Prop :=
  (∀ a w, ¬ Q .outgrown a w) -> ∀ t w, Knows n f t -> Holds W H w -> wpListIn (fen m.r) 0 P (regOps c).toArray Q ((regOps c).drop k) ⟨t, m.df⟩ w
theorem VR.regionI (hc : regDraw c = some false) (h : VI W P n m c 0 Q H f) : VR W P n m c Q H f := by
 unfold VR
 cases c <;> simp [regDraw] at hc
 subst hc
 intro hno t w hk hw
 have := h hno t w hk hw
 simp only [regOps, List.drop_zero, Array.toArray_toList] at this
 exact wpIn_region_list this
theorem VI.nil {k : Nat} (ho : (regOps c)[k]? = none) (h : VF W n m Q .normal H f) : VI W P n m c k Q H f := by
 unfold VF at h
 intro hno t w hk hw
 rw [List.drop_eq_nil_of_le (by simpa using ho)]
 exact h hno t w hk hw
variable {dst : Option Tmp} {d : Nat} {ty_ : TypeId} {pos : String} {after : Array Edge} {guard : Option (Nat × Bool)}
theorem wantedR {o : Oper} {ops : List Oper} {t : Array Value} {df : List Deferred} {b : Bool} (hk : Knows n f t) (hg : wantX ops o.guard f = some b) : Region.wanted o (yielded ops.toArray (Act.mk t df).tmps) = b := hk.wanted hg
theorem VI.step {k : Nat} {o : Oper} (ho : (regOps c)[k]? = some o) (hg : wantX (regOps c) o.guard f = some true) (h : OpV W P n o (fun _ _ _ => False) H f (fun H' f' => VI W P n m c (k + 1) Q H' f')) (hnd : noDefer [o] = true := by rfl) : VI W P n m c k Q H f := by
 unfold OpV at h
 intro hno t w hk hw
 rw [drop_at ho]
 unfold wpListIn
 rw [if_pos (by rw [wantedR hk hg])]
 have h2 := h t w hk hw (fun a w => wpListIn (fen m.r) 0 P (regOps c).toArray Q ((regOps c).drop (k + 1)) (plusA a m.df) w) (fun H' f' hN t' w' hk' hw' => hN hno t' w' hk' hw')
 exact opIn (a := ⟨t, []⟩) (noDefer_spec hnd).1 (fun _ _ q => q) (fun _ _ _ q => q.elim) h2
theorem VI.pure {k : Nat} {op : Op} {v : Value} (ho : (regOps c)[k]? = some { dst := some d, op, type := ty_, pos, after, guard }) (hg : wantX (regOps c) guard f = some true)
  (hp : PureAt W P n H f { dst := some d, op, type := ty_, pos, after, guard } v) (hd : Nat.blt d n = true) (h : VI W P n m c (k + 1) Q H ((d, v) :: f)) (hnd : noDefer [{ dst := some d, op, type := ty_, pos, after, guard }] = true := by rfl) : VI W P n m c k Q H f :=
 VI.step ho hg (OpV.pure hp hd h) hnd
theorem VI.ent {k : Nat} (hh : Ent W H H') (h : VI W P n m c k Q H' f) : VI W P n m c k Q H f := fun hno t w hk hw => h hno t w hk (hh w hw)
theorem VI.yield {k l : Nat} {x : Operand} {xs : Array Operand} {ats : Array TypeId} {vs : List Value} {τ : Type} {A2 : τ -> Prop} {G1 : List SProp} {G2 : τ -> List SProp}
  (ho : (regOps c)[k]? = some { dst := some d, op := .call { callee := .value x, args := xs, argTypes := ats }, type := ty_, pos, after, guard }) (hg : wantX (regOps c) guard f = some true)
  (hx : evalX f x = some (.func (.yield l) #[] #[])) (ha : argsX f xs.toList = some vs) (spec : DoesR W P l vs L G1 A2 G2) (hL : Ent W H L) (hd : Nat.blt d n = true)
  (h1 : VI W P n m c (k + 1) Q G1 ((d, .bool true) :: f)) (h2 : ∀ x, A2 x -> VI W P n m c (k + 1) Q (G2 x) ((d, .bool false) :: f)) (hr : m = ⟨none, []⟩ := by rfl) : VI W P n m c k Q H f := by
 subst hr
 unfold DoesR at spec
 intro hno t w hk hw
 rw [drop_at ho]
 unfold wpListIn
 rw [if_pos (by rw [wantedR (o := { dst := some d, op := .call { callee := .value x, args := xs, argTypes := ats }, type := ty_, pos, after, guard }) hk hg])]
 obtain ⟨fn, tmps, assign, body, hy, hR⟩ := spec w (hL w hw)
 have hargs : xs.map (Act.eval ⟨t, []⟩) = vs.toArray := by
  have := hk.args ha
  apply Array.ext'
  simpa using this
 unfold Oper.wpIn
 refine ⟨fun _ _ => fen_fn _ _, ?_⟩
 have e : (Oper.semAt (fen none).round (Act.eval ⟨t, []⟩) { dst := some d, op := .call { callee := .value x, args := xs, argTypes := ats }, type := ty_, pos, after, guard }).run P w = .ok (.round l fn tmps assign body) w := by
  rw [Oper.semAt_eq _ _ _ (fun c e => by cases e)]
  unfold execOp
  simp only [resolve, hk.eval hx, hargs, Deferred.ofValue, invoke, Sem.run_bind, Sem.run_pure, Result.andThen_ok, Array.append_empty, Array.empty_append]
  exact hy
 rw [e]
 simp only [Oper.uponIn]
 refine ⟨(fun hd => by rw [fen_depth] at hd; cases hd), RoundIn.mono hR ?_⟩
 rintro e w' (⟨rfl, hG⟩ | ⟨x, hA, rfl, hG⟩)
 · exact h1 hno _ _ (hk.put hd) hG
 · exact h2 x hA hno _ _ (hk.put hd) hG
structure MetR (W : World) (n : Nat) (m : Md) (Q Q2 : Exit -> Act -> World -> Prop) {α : Type} (A : α -> Prop) (G : α -> List SProp) (F : α -> Fr) : Prop where
  to : ∀ (x : α) {f : Fr} {H : List SProp}, A x -> SubF (F x) f -> Ent W H (G x) -> VF W n m Q2 .normal H f
  ret : ∀ {f : Fr} {H : List SProp}, VF W n m Q .ret H f -> VF W n m Q2 .ret H f
  exit : ∀ {f : Fr} {H : List SProp} {i : Nat}, VF W n m Q (.exit i) H f -> VF W n m Q2 (.exit i) H f
theorem VR.join {α : Type} {c2 : Code} (A : α -> Prop) (G : α -> List SProp) (F : α -> Fr) (h1 : ∀ Q2, MetR W n m Q Q2 A G F -> VR W P n m c Q2 H f) (h2 : ∀ x, A x -> VR W P n m c2 Q (G x) (F x)) :
  VR W P n m c (thenR m.r P c2 Q) H f := by
 refine h1 _ ⟨fun x f H hA hF hE => VF.next (VR.weak hF hE (h2 x hA)), fun h => VF.passRet h, fun h => VF.passExit h⟩
theorem VR.joinH {c2 : Code} (F : Fr) (h1 : ∀ Q2, MetR W n m Q Q2 (fun _ : Unit => True) (fun _ => H) (fun _ => F) -> VR W P n m c Q2 H f) (h2 : VR W P n m c2 Q H F) : VR W P n m c (thenR m.r P c2 Q) H f :=
 VR.join _ _ _ h1 (fun _ _ => h2)
end
attribute [irreducible] VI
theorem wr {A B : Prop} (hb : B) (hab : Hid B -> A := by intro zz; (repeat (first | (first | refine VO.nil rfl ?_ | refine VQ.nil rfl ?_ | refine VD.nil ?_ | ((first | apply VO.pure rfl rfl | apply VQ.pure rfl rfl | apply VD.take rfl rfl rfl | (refine VD.end rfl rfl rfl ?_; apply OpV.pure)); (exact zp); rfl) | refine VO.skip rfl rfl rfl rfl ?_ | refine VQ.skip rfl rfl rfl rfl ?_ | refine VD.skip rfl rfl rfl rfl rfl ?_ | refine VD.skipM rfl rfl Ent.refl rfl rfl rfl ?_ | (refine zq ?_; (apply OpV.st tab_ok rfl rfl rfl rfl (by (repeat first | exact .head | apply Hole.tail); first | done | fail) (by first | (simp; done) | fail))) | refine ⟨Ent.re, ?_⟩) | (first | refine VR.seq rfl ?_ | refine VR.region rfl ?_ | refine VR.condT rfl rfl ?_ | refine VR.condF rfl rfl ?_ | refine VR.block rfl ?_ | refine VR.skip rfl ?_ | refine VR.ret rfl ?_ | refine VR.exit rfl ?_) | (first | refine VE.sh ?_ | refine VF.next ?_ | refine VF.passRet ?_ | refine VF.passExit ?_ | refine VF.blockNormal ?_ | refine VF.blockHit ?_ | refine VF.blockMiss rfl ?_ | refine VF.blockRet ?_ | refine VF.loopRet ?_ | refine VF.loopExit ?_))); exact zz.out) : A := hab ⟨hb⟩
end Go.Sl
