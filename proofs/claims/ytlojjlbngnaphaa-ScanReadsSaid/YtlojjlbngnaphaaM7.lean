import Derived.Test.YtlojjlbngnaphaaM6
import Derived.ControlIn
import Derived.WalkKit
import Derived.ProofKit
import Derived.OpenShut
/-! Text Si. -/
/- The engine: iterators: a loop that calls yield; branches that meet in such code. Generic: no program is named. -/
set_option maxRecDepth 8000
set_option linter.unusedVariables false
set_option linter.unusedSimpArgs false
set_option linter.unusedSectionVars false
namespace Go.Sl
open Go Go.RowKit
section
variable {W : World} {P : Program} {n : Nat} {m : Md} {c : Code} {Q : Exit → Act → World → Prop} {H H' L R : List SProp} {f F : Fr}
def loopR {α : Type} (W : World) (n : Nat) (m : Md) (A : α → Prop) (G : α → List SProp) (F : α → Fr) (μ : α → Nat) (k : Nat) (Q : Exit → Act → World → Prop) : Exit → Act → World → Prop :=
  Exit.then (fun a' w' => ∃ y t', a' = ⟨t', m.df⟩ ∧ A y ∧ μ y < k ∧ Knows n (F y) t' ∧ Holds W (G y) w') Q
theorem VR.loop {α : Type} (A : α → Prop) (G : α → List SProp) (F : α → Fr) (μ : α → Nat) (hc : isLoop c = true) (x0 : α) (h0 : A x0) (hH : Ent W H (G x0)) (hF : SubF (F x0) f)
    (round : ∀ x, A x → VR W P n m (Cd.l c) (loopR W n m A G F μ (μ x) Q) (G x) (F x)) : VR W P n m c Q H f := by
  unfold VR at *
  cases c <;> simp [isLoop] at hc
  intro hno t w hk hw
  refine wpIn_loop (fun a w => ∃ x t', a = ⟨t', m.df⟩ ∧ A x ∧ Knows n (F x) t' ∧ Holds W (G x) w) (fun a w => leastOf (fun k => ∃ x t', a = ⟨t', m.df⟩ ∧ A x ∧ μ x = k ∧ Knows n (F x) t' ∧ Holds W (G x) w)) ⟨x0, t, rfl, h0, hk.sub hF, hH w hw⟩ ?_
  rintro a w ⟨x', t', rfl, hA', hk', hw'⟩
  obtain ⟨⟨x, t2, e2, hA, hm, hkx, hwx⟩, hmin⟩ := leastOf_spec (p := fun k => ∃ x t'', (⟨t', m.df⟩ : Act) = ⟨t'', m.df⟩ ∧ A x ∧ μ x = k ∧ Knows n (F x) t'' ∧ Holds W (G x) w) ⟨μ x', x', t', rfl, hA', rfl, hk', hw'⟩
  have e3 : t2 = t' := by injection e2 with e2; exact e2.symm
  subst e3
  refine wpIn_mono (round x hA (fun a w q => hno a w q) t2 w hkx hwx) ?_
  intro e a w1 q
  cases e with
  | normal =>
    obtain ⟨y, t'', rfl, h1, h2, h3, h4⟩ := q
    refine ⟨⟨y, t'', rfl, h1, h3, h4⟩, ?_⟩
    refine Nat.lt_of_le_of_lt ((leastOf_spec (p := fun k => ∃ x t', (⟨t'', m.df⟩ : Act) = ⟨t', m.df⟩ ∧ A x ∧ μ x = k ∧ Knows n (F x) t' ∧ Holds W (G x) w1) ⟨μ y, y, t'', rfl, h1, rfl, h3, h4⟩).2 (μ y) ⟨y, t'', rfl, h1, rfl, h3, h4⟩) ?_
    rw [← hm]; exact h2
  | _ => exact q
theorem VF.round {α : Type} {A : α → Prop} {G : α → List SProp} {F : α → Fr} {μ : α → Nat} {k : Nat} (y : α) (hA : A y) (hm : μ y < k) (hF : SubF (F y) f) (hH : Ent W H (G y)) :
    VF W n m (loopR W n m A G F μ k Q) .normal H f := by
  unfold VF
  exact fun _ t w hk hw => ⟨y, t, rfl, hA, hm, hk.sub hF, hH w hw⟩
theorem VF.loopRet {α : Type} {A : α → Prop} {G : α → List SProp} {F : α → Fr} {μ : α → Nat} {k : Nat} (h : VF W n m Q .ret H f) : VF W n m (loopR W n m A G F μ k Q) .ret H f := by
  unfold VF at *
  exact fun hno t w hk hw => h hno t w hk hw
theorem VF.loopExit {α : Type} {A : α → Prop} {G : α → List SProp} {F : α → Fr} {μ : α → Nat} {k i : Nat} (h : VF W n m Q (.exit i) H f) : VF W n m (loopR W n m A G F μ k Q) (.exit i) H f := by
  unfold VF at *
  exact fun hno t w hk hw => h hno t w hk hw
attribute [irreducible] loopR
/-! ### An iterator's own function -/
theorem Does.enterI {g : FuncId} {fn : Func} {args : List Value} {β : Type} {A : β → Prop} {r : β → Value} {G : β → List SProp} (hf : P.funcs[g]? = some fn) (hn : fn.ntmps = n) (hb : fn.body.isSome = true) (hl : Nat.ble args.length n = true)
    (h : VR W P n ⟨none, []⟩ (bodyOf fn) (bodyPost P fn (Post W A r G)) H (argF 0 args)) : Does W P g args H A r G := by
  unfold Does
  unfold VR at h
  intro w hw
  obtain ⟨c, hc⟩ := Option.isSome_iff_exists.1 hb
  refine calls_of_wp hf hc ?_
  have h2 := h (fun a w q => by obtain ⟨_, _, e, _⟩ := q; cases e) _ w (Knows.start args n (Nat.le_of_ble_eq_true hl)) hw
  rw [← hn] at h2
  have h3 := wpIn_wide.1 h2
  simpa [bodyOf, hc] using h3
theorem VF.done {fn : Func} {β : Type} {A : β → Prop} {r : β → Value} {G : β → List SProp} {v : Value} {e : Exit} (he : e = .ret ∨ e = .normal) (x : β) (hr : resOf f fn.results.toList = some v) (hA : A x) (hv : v = r x) (hH : Ent W H (G x)) :
    VF W n ⟨none, []⟩ (bodyPost P fn (Post W A r G)) e H f := by
  unfold VF
  intro _ t w hk hw
  rcases he with rfl | rfl <;> exact ⟨rfl, _, resOf_run hk hr _, x, hA, by rw [hv], hH w hw⟩
/-- No results. -/
theorem resOf_none : resOf f [] = some (.tuple #[]) := rfl
/-! ### A region that calls yield -/
def VI (W : World) (P : Program) (n : Nat) (m : Md) (c : Code) (k : Nat) (Q : Exit → Act → World → Prop) (H : List SProp) (f : Fr) : Prop :=
  (∀ a w, ¬ Q .outgrown a w) → ∀ t w, Knows n f t → Holds W H w → wpListIn (fen m.r) 0 P (regOps c).toArray Q ((regOps c).drop k) ⟨t, m.df⟩ w
theorem VR.regionI (hc : regDraw c = some false) (h : VI W P n m c 0 Q H f) : VR W P n m c Q H f := by
  unfold VR
  cases c <;> simp [regDraw] at hc
  subst hc
  intro hno t w hk hw
  have := h hno t w hk hw
  simp only [regOps, List.drop_zero, Array.toArray_toList] at this
  exact wpIn_region_list this
theorem VI.nil {k : Nat} (ho : (regOps c)[k]? = none) (h : VF W n m Q .normal H f) : VI W P n m c k Q H f := by
  unfold VF at h
  intro hno t w hk hw
  rw [List.drop_eq_nil_of_le (by simpa using ho)]
  exact h hno t w hk hw
variable {dst : Option Tmp} {d : Nat} {ty_ : TypeId} {pos : String} {after : Array Edge} {guard : Option (Nat × Bool)}
theorem wantedR {o : Oper} {ops : List Oper} {t : Array Value} {df : List Deferred} {b : Bool} (hk : Knows n f t) (hg : wantX ops o.guard f = some b) : Region.wanted o (yielded ops.toArray (Act.mk t df).tmps) = b := hk.wanted hg
theorem VI.step {k : Nat} {o : Oper} (ho : (regOps c)[k]? = some o) (hg : wantX (regOps c) o.guard f = some true) (h : OpV W P n o (fun _ _ _ => False) H f (fun H' f' => VI W P n m c (k + 1) Q H' f')) (hnd : noDefer [o] = true := by rfl) : VI W P n m c k Q H f := by
  unfold OpV at h
  intro hno t w hk hw
  rw [drop_at ho]
  unfold wpListIn
  rw [if_pos (by rw [wantedR hk hg])]
  have h2 := h t w hk hw (fun a w => wpListIn (fen m.r) 0 P (regOps c).toArray Q ((regOps c).drop (k + 1)) (plusA a m.df) w) (fun H' f' hN t' w' hk' hw' => hN hno t' w' hk' hw')
  exact opIn (a := ⟨t, []⟩) (noDefer_spec hnd).1 (fun _ _ q => q) (fun _ _ _ q => q.elim) h2
theorem VI.pure {k : Nat} {op : Op} {v : Value} (ho : (regOps c)[k]? = some { dst := some d, op, type := ty_, pos, after, guard }) (hg : wantX (regOps c) guard f = some true)
    (hp : PureAt W P n H f { dst := some d, op, type := ty_, pos, after, guard } v) (hd : Nat.blt d n = true) (h : VI W P n m c (k + 1) Q H ((d, v) :: f)) (hnd : noDefer [{ dst := some d, op, type := ty_, pos, after, guard }] = true := by rfl) : VI W P n m c k Q H f :=
  VI.step ho hg (OpV.pure hp hd h) hnd
theorem VI.ent {k : Nat} (hh : Ent W H H') (h : VI W P n m c k Q H' f) : VI W P n m c k Q H f := fun hno t w hk hw => h hno t w hk (hh w hw)
/-- THE CALL OF yield. -/
theorem VI.yield {k l : Nat} {x : Operand} {xs : Array Operand} {ats : Array TypeId} {vs : List Value} {τ : Type} {A2 : τ → Prop} {G1 : List SProp} {G2 : τ → List SProp}
    (ho : (regOps c)[k]? = some { dst := some d, op := .call { callee := .value x, args := xs, argTypes := ats }, type := ty_, pos, after, guard }) (hg : wantX (regOps c) guard f = some true)
    (hx : evalX f x = some (.func (.yield l) #[] #[])) (ha : argsX f xs.toList = some vs) (spec : DoesR W P l vs L G1 A2 G2) (hL : Ent W H L) (hd : Nat.blt d n = true)
    (h1 : VI W P n m c (k + 1) Q G1 ((d, .bool true) :: f)) (h2 : ∀ x, A2 x → VI W P n m c (k + 1) Q (G2 x) ((d, .bool false) :: f)) (hr : m = ⟨none, []⟩ := by rfl) : VI W P n m c k Q H f := by
  subst hr
  unfold DoesR at spec
  intro hno t w hk hw
  rw [drop_at ho]
  unfold wpListIn
  rw [if_pos (by rw [wantedR (o := { dst := some d, op := .call { callee := .value x, args := xs, argTypes := ats }, type := ty_, pos, after, guard }) hk hg])]
  obtain ⟨fn, tmps, assign, body, hy, hR⟩ := spec w (hL w hw)
  have hargs : xs.map (Act.eval ⟨t, []⟩) = vs.toArray := by
    have := hk.args ha
    apply Array.ext'
    simpa using this
  unfold Oper.wpIn
  refine ⟨fun _ _ => fen_fn _ _, ?_⟩
  have e : (Oper.semAt (fen none).round (Act.eval ⟨t, []⟩) { dst := some d, op := .call { callee := .value x, args := xs, argTypes := ats }, type := ty_, pos, after, guard }).run P w = .ok (.round l fn tmps assign body) w := by
    rw [Oper.semAt_eq _ _ _ (fun c e => by cases e)]
    unfold execOp
    simp only [resolve, hk.eval hx, hargs, Deferred.ofValue, invoke, Sem.run_bind, Sem.run_pure, Result.andThen_ok, Array.append_empty, Array.empty_append]
    exact hy
  rw [e]
  simp only [Oper.uponIn]
  refine ⟨(fun hd => by rw [fen_depth] at hd; cases hd), RoundIn.mono hR ?_⟩
  rintro e w' (⟨rfl, hG⟩ | ⟨x, hA, rfl, hG⟩)
  · exact h1 hno _ _ (hk.put hd) hG
  · exact h2 x hA hno _ _ (hk.put hd) hG
/-! ### Where branches meet -/
structure MetR (W : World) (n : Nat) (m : Md) (Q Q2 : Exit → Act → World → Prop) {α : Type} (A : α → Prop) (G : α → List SProp) (F : α → Fr) : Prop where
  to : ∀ (x : α) {f : Fr} {H : List SProp}, A x → SubF (F x) f → Ent W H (G x) → VF W n m Q2 .normal H f
  ret : ∀ {f : Fr} {H : List SProp}, VF W n m Q .ret H f → VF W n m Q2 .ret H f
  exit : ∀ {f : Fr} {H : List SProp} {i : Nat}, VF W n m Q (.exit i) H f → VF W n m Q2 (.exit i) H f
theorem VR.join {α : Type} {c2 : Code} (A : α → Prop) (G : α → List SProp) (F : α → Fr) (h1 : ∀ Q2, MetR W n m Q Q2 A G F → VR W P n m c Q2 H f) (h2 : ∀ x, A x → VR W P n m c2 Q (G x) (F x)) :
    VR W P n m c (thenR m.r P c2 Q) H f := by
  refine h1 _ ⟨fun x f H hA hF hE => VF.next (VR.weak hF hE (h2 x hA)), fun h => VF.passRet h, fun h => VF.passExit h⟩
theorem VR.joinH {c2 : Code} (F : Fr) (h1 : ∀ Q2, MetR W n m Q Q2 (fun _ : Unit => True) (fun _ => H) (fun _ => F) → VR W P n m c Q2 H f) (h2 : VR W P n m c2 Q H F) : VR W P n m c (thenR m.r P c2 Q) H f :=
  VR.join _ _ _ h1 (fun _ _ => h2)
end
attribute [irreducible] VI
theorem wr {A B : Prop} (hb : B) (hab : Hid B → A := by intro zz; (repeat (first | (first | refine VO.nil rfl ?_ | refine VQ.nil rfl ?_ | refine VD.nil ?_ | ((first | apply VO.pure rfl rfl | apply VQ.pure rfl rfl | apply VD.take rfl rfl rfl | (refine VD.end rfl rfl rfl ?_; apply OpV.pure)); (first | (apply PureAt.ar64 rfl rfl rfl; omega) | exact .eval tab_ok rfl | (apply PureAt.ld tab_ok rfl rfl; (focus repeat first | exact .head _ | apply List.Mem.tail); rfl) | (apply PureAt.shr rfl rfl (by decide) (by decide)) | (apply PureAt.shr rfl rfl (by omega) (by simp only [IntKind.bits]; omega)) | exact .fieldAddrA tab_ok rfl rfl | exact .sliceLH tab_ok rfl rfl rfl rfl (by omega) (by omega) | exact .sliceH tab_ok rfl rfl rfl (by omega) | exact .sliceL tab_ok rfl rfl rfl (by omega) | (first | exact .indexAddr tab_ok rfl rfl rfl rfl (by omega) | exact .indexAddrN tab_ok rfl rfl rfl rfl (by omega) | exact .indexAddrI tab_ok rfl rfl rfl rfl (toNatLit _) (by decide) (by omega) | exact .indexAddrNI tab_ok rfl rfl rfl rfl (toNatLit _) (by decide) (by omega) | exact .ldR tab_ok rfl rfl hr1 (List.getElem?_eq_getElem (by omega)) | exact .ldR tab_ok rfl rfl hr2 (List.getElem?_eq_getElem (by omega)) | exact ldB tab_ok rfl rfl hb1 (by omega) | exact ldB tab_ok rfl rfl hb2 (by omega)) | exact .sliceHI tab_ok rfl rfl rfl (toNatLit _) (by decide) (by omega) | exact .sliceLI tab_ok rfl rfl rfl (toNatLit _) (by decide) (by omega) | (apply PureAt.ldA tab_ok rfl rfl; (focus repeat first | exact .head _ | apply List.Mem.tail); rfl; rfl) | exact .ldro tab_ok rfl rfl (by assumption)); rfl) | refine VO.skip rfl rfl rfl rfl ?_ | refine VQ.skip rfl rfl rfl rfl ?_ | refine VD.skip rfl rfl rfl rfl rfl ?_ | refine VD.skipM rfl rfl Ent.refl rfl rfl rfl ?_ | ((first | refine VO.step rfl rfl ?_ | refine VD.end rfl rfl rfl ?_ | refine VD.mid rfl rfl rfl ?_); (apply OpV.st tab_ok rfl rfl rfl rfl (by (repeat first | exact .head | apply Hole.tail); first | done | fail) (by first | (simp; done) | fail))) | refine ⟨Ent.re, ?_⟩) | (first | refine VR.seq rfl ?_ | refine VR.region rfl ?_ | refine VR.condT rfl rfl ?_ | refine VR.condF rfl rfl ?_ | refine VR.block rfl ?_ | refine VR.skip rfl ?_ | refine VR.ret rfl ?_ | refine VR.exit rfl ?_) | (first | refine VE.sh ?_ | refine VF.next ?_ | refine VF.passRet ?_ | refine VF.passExit ?_ | refine VF.blockNormal ?_ | refine VF.blockHit ?_ | refine VF.blockMiss rfl ?_ | refine VF.blockRet ?_ | refine VF.loopRet ?_ | refine VF.loopExit ?_))); exact zz.out) : A := hab ⟨hb⟩
end Go.Sl

/-! Text Nb. -/
/- Scan: digests, Sectors. -/
set_option maxRecDepth 8000
set_option linter.unusedVariables false
set_option linter.unusedSimpArgs false
set_option linter.unusedSectionVars false
namespace Go.Proofs.Ytlojjlbngnaphaa
open Go.RowKit Go.Sl
attribute [local irreducible] Own

theorem pureEx {W : World} {P : Program} {n : Nat} {α : Type} {F : α → SProp} {R : List SProp} {f : Fr} {o : Oper} {v : Value} (h : ∀ x, PureAt W P n (F x :: R) f o v) : PureAt W P n (ex F :: R) f o v := by
  unfold PureAt at h ⊢
  intro t w hk hw
  obtain ⟨x, hx⟩ := hw.exOpen
  exact h x t w hk hx
/-! ### Digests -/
def DigR (d : Nat) (c : BitVec 32) : SProp := ex fun m : Int => Row d 124 [.int .u32 (c.toNat : Int), .int .i64 m]
theorem dignew_ok {W : World} {R : List SProp} : Does W Try.prog 32 [] R (β := Nat) (fun _ => True) (fun d => .pointer (some ⟨d, 0, none⟩)) (fun d => DigR d 0#32 :: R) := by
  (refine Does.enter Try.func32 Try.ntmps32 rfl rfl ?_)
  (refine w ?_; repeat ((first | refine VO.step rfl rfl ?_ | refine VD.end rfl rfl rfl ?_ | refine VD.mid rfl rfl rfl ?_); refine OpV.box rfl rfl rfl ?_; intro _; refine w ?_))
  (apply VO.pure rfl rfl; apply PureAt.build sb_124 (pv := []) rfl; rfl; rfl)
  (refine w ?_; repeat ((first | refine VO.step rfl rfl ?_ | refine VD.end rfl rfl rfl ?_ | refine VD.mid rfl rfl rfl ?_); refine OpV.box rfl rfl rfl ?_; intro _; refine w ?_))
  rename_i d
  refine VE.done d rfl trivial rfl ?_
  exact fun w hw => Holds.exShut (P := fun m : Int => Row d 124 [.int .u32 ((0#32 : BitVec 32).toNat : Int), .int .i64 m]) 0 hw
theorem digadd_ok {W : World} {R : List SProp} {ao : Option Addr} {cap : Nat} {l : List UInt8} (d : Nat) (c : BitVec 32) (hr : Rds W R 1 ao l.length (bytes l)) (hl : l.length ≤ 1099511627776) :
    Does W Try.prog 36 [.pointer (some ⟨d, 0, none⟩), .slice ao l.length cap] (DigR d c :: R) (β := Int) (fun _ => True) (fun k => .int .i64 k) (fun _ => DigR d (crcM c l) :: R) := by
  refine DoesO (α := Int) (H' := fun m => Row d 124 [.int .u32 (c.toNat : Int), .int .i64 m] :: R) (fun w hw => Holds.exOpen hw) (fun m => ?_)
  (refine Does.enter Try.func36 Try.ntmps36 rfl rfl ?_)
  (refine w ?_; repeat ((first | refine VO.step rfl rfl ?_ | refine VD.end rfl rfl rfl ?_ | refine VD.mid rfl rfl rfl ?_); refine OpV.box rfl rfl rfl ?_; intro _; refine w ?_))
  refine VC.drawn [5, 7, 17] 18 [0, 1, 2, 3, 4, 6, 8, 9, 10, 11, 12, 13, 14, 5, 7, 15, 16, 17, 18, 19, 20] ((ex fun x : Int => Row d 124 [.int .u32 x, .int .i64 m]) :: R) rfl (by kernel_rfl) (by kernel_rfl) (fun w hw => Holds.exShut (P := fun x : Int => Row d 124 [.int .u32 x, .int .i64 m]) _ hw) ?_
  (refine w ?_; repeat ((first | refine VO.step rfl rfl ?_ | refine VD.end rfl rfl rfl ?_ | refine VD.mid rfl rfl rfl ?_); refine OpV.box rfl rfl rfl ?_; intro _; refine w ?_))
  (first | refine VO.pure rfl rfl (pureEx fun x => PureAt.ld tab_ok rfl rfl (.head _) rfl) rfl ?_ | refine VD.take rfl rfl rfl (pureEx fun x => PureAt.ld tab_ok rfl rfl (.head _) rfl) rfl ?_ | refine VQ.pure rfl rfl (pureEx fun x => PureAt.ld tab_ok rfl rfl (.head _) rfl) rfl ?_ | refine VD.end rfl rfl rfl (OpV.pure (pureEx fun x => PureAt.ld tab_ok rfl rfl (.head _) rfl) rfl ?_))
  (refine w ?_; repeat ((first | refine VO.step rfl rfl ?_ | refine VD.end rfl rfl rfl ?_ | refine VD.mid rfl rfl rfl ?_); refine OpV.box rfl rfl rfl ?_; intro _; refine w ?_))
  refine VD.mid rfl rfl rfl (OpV.pure (PureAt.ld tab_ok rfl rfl (.head _) rfl) rfl ⟨fun w hw => Holds.exShut (P := fun x : Int => Row d 124 [.int .u32 x, .int .i64 m]) _ hw, ?_⟩)
  (refine w ?_; repeat ((first | refine VO.step rfl rfl ?_ | refine VD.end rfl rfl rfl ?_ | refine VD.mid rfl rfl rfl ?_); refine OpV.box rfl rfl rfl ?_; intro _; refine w ?_))
  ((first | refine VO.step rfl rfl ?_ | refine VD.end rfl rfl rfl ?_ | refine VD.mid rfl rfl rfl ?_); refine OpV.call rfl rfl (fun _ _ => by simp) (more_ok c (hr.ent (Ent.drop Ent.refl)) hl) Ent.refl rfl ?_)
  intro _ _
  refine ⟨fun w hw => Holds.exShut (P := fun x : Int => Row d 124 [.int .u32 x, .int .i64 m]) _ hw, ?_⟩
  iterate 2 (apply VD.take rfl rfl rfl; (first | (apply PureAt.ar64 rfl rfl rfl; omega) | exact .eval tab_ok rfl | (apply PureAt.ld tab_ok rfl rfl; (focus repeat first | exact .head _ | apply List.Mem.tail); rfl) | (apply PureAt.shr rfl rfl (by decide) (by decide)) | (apply PureAt.shr rfl rfl (by omega) (by simp only [IntKind.bits]; omega)) | exact .fieldAddrA tab_ok rfl rfl | exact .sliceLH tab_ok rfl rfl rfl rfl (by omega) (by omega) | exact .sliceH tab_ok rfl rfl rfl (by omega) | exact .sliceL tab_ok rfl rfl rfl (by omega) | (first | exact .indexAddr tab_ok rfl rfl rfl rfl (by omega) | exact .indexAddrN tab_ok rfl rfl rfl rfl (by omega) | exact .indexAddrI tab_ok rfl rfl rfl rfl (toNatLit _) (by decide) (by omega) | exact .indexAddrNI tab_ok rfl rfl rfl rfl (toNatLit _) (by decide) (by omega) | exact .ldR tab_ok rfl rfl hr1 (List.getElem?_eq_getElem (by omega)) | exact .ldR tab_ok rfl rfl hr2 (List.getElem?_eq_getElem (by omega)) | exact ldB tab_ok rfl rfl hb1 (by omega) | exact ldB tab_ok rfl rfl hb2 (by omega)) | exact .sliceHI tab_ok rfl rfl rfl (toNatLit _) (by decide) (by omega) | exact .sliceLI tab_ok rfl rfl rfl (toNatLit _) (by decide) (by omega) | (apply PureAt.ldA tab_ok rfl rfl; (focus repeat first | exact .head _ | apply List.Mem.tail); rfl; rfl) | exact .ldro tab_ok rfl rfl (by assumption)); rfl)
  refine VD.mid rfl rfl rfl ?_
  apply OpV.st tab_ok rfl rfl rfl rfl (by (repeat first | exact .head | apply Hole.tail)) (by simp)
  refine ⟨fun w hw => Holds.exShut (P := fun x : Int => Row d 124 [.int .u32 x, .int .i64 m]) _ hw, ?_⟩
  (refine w ?_; repeat ((first | refine VO.step rfl rfl ?_ | refine VD.end rfl rfl rfl ?_ | refine VD.mid rfl rfl rfl ?_); refine OpV.box rfl rfl rfl ?_; intro _; refine w ?_))
  refine VE.done (IntKind.i64.wrap (m + (l.length : Int))) rfl trivial rfl ?_
  exact fun w hw => Holds.exShut (P := fun m : Int => Row d 124 [.int .u32 ((crcM c l).toNat : Int), .int .i64 m]) (IntKind.i64.wrap (m + (l.length : Int))) hw
theorem digsum_ok {W : World} {R : List SProp} (d : Nat) (c : BitVec 32) : Does1 W Try.prog 38 [.pointer (some ⟨d, 0, none⟩)] (DigR d c :: R) (.int .u32 (c.toNat : Int)) (DigR d c :: R) := by
  refine DoesO (α := Int) (H' := fun m => Row d 124 [.int .u32 (c.toNat : Int), .int .i64 m] :: R) (fun w hw => Holds.exOpen hw) (fun m => ?_)
  (refine Does.enter Try.func38 Try.ntmps38 rfl rfl ?_)
  (refine w ?_; repeat ((first | refine VO.step rfl rfl ?_ | refine VD.end rfl rfl rfl ?_ | refine VD.mid rfl rfl rfl ?_); refine OpV.box rfl rfl rfl ?_; intro _; refine w ?_))
  (refine VE.done1 rfl ?_ ?_)
  · rfl
  · exact fun w hw => Holds.exShut (P := fun m : Int => Row d 124 [.int .u32 (c.toNat : Int), .int .i64 m]) m hw

/-! ### Sectors -/
abbrev PatE.D (p : PatE) : PatD := ⟨p.member, p.row, p.d.data⟩
structure PatE.fit (p : PatE) : Prop where
  member : -9223372036854775808 ≤ p.member ∧ p.member ≤ 9223372036854775807
  row : -9223372036854775808 ≤ p.row ∧ p.row ≤ 9223372036854775807
  len : p.d.data.length ≤ 140737488351232
/-- The error, the first so many looked at. -/
def errP (l : List PatE) : Nat → Int
  | 0 => 0
  | i + 1 => match l[i]? with
    | none => errP l i
    | some p => if p.D.far then 3 else if errP l i = 0 ∧ p.d.data.length ≠ 128 then 4 else errP l i
theorem errP_is (l : List PatE) : ∀ i, i ≤ l.length → errP l i = if ∃ p ∈ l.take i, p.D.far then 3 else if ∃ p ∈ l.take i, p.d.data.length ≠ 128 then 4 else 0
  | 0, _ => by simp [errP]
  | i + 1, h => by
    have ih := errP_is l i (by omega)
    have hi : i < l.length := by omega
    have hget : l[i]? = some l[i] := List.getElem?_eq_getElem hi
    have e1 : (∃ p ∈ l.take (i + 1), p.D.far) ↔ (∃ p ∈ l.take i, p.D.far) ∨ l[i].D.far := by
      rw [List.take_succ_eq_append_getElem hi]; simp only [List.mem_append, List.mem_singleton]
      constructor
      · rintro ⟨p, hp | hp, hf⟩; exact .inl ⟨p, hp, hf⟩; exact .inr (hp ▸ hf)
      · rintro (⟨p, hp, hf⟩ | hf); exact ⟨p, .inl hp, hf⟩; exact ⟨_, .inr rfl, hf⟩
    have e2 : (∃ p ∈ l.take (i + 1), p.d.data.length ≠ 128) ↔ (∃ p ∈ l.take i, p.d.data.length ≠ 128) ∨ l[i].d.data.length ≠ 128 := by
      rw [List.take_succ_eq_append_getElem hi]; simp only [List.mem_append, List.mem_singleton]
      constructor
      · rintro ⟨p, hp | hp, hf⟩; exact .inl ⟨p, hp, hf⟩; exact .inr (hp ▸ hf)
      · rintro (⟨p, hp, hf⟩ | hf); exact ⟨p, .inl hp, hf⟩; exact ⟨_, .inr rfl, hf⟩
    unfold errP
    rw [hget]
    dsimp only
    by_cases hf : l[i].D.far
    · rw [if_pos hf, if_pos (e1.2 (.inr hf))]
    · rw [if_neg hf, ih]
      by_cases ha : ∃ p ∈ l.take i, p.D.far
      · rw [if_pos ha, if_pos (e1.2 (.inl ha)), if_neg (by rintro ⟨h, _⟩; cases h)]
      · rw [if_neg ha, if_neg (fun q => (e1.1 q).elim ha hf)]
        by_cases hs : ∃ p ∈ l.take i, p.d.data.length ≠ 128
        · rw [if_pos hs, if_pos (e2.2 (.inl hs)), if_neg (by rintro ⟨h, _⟩; cases h)]
        · rw [if_neg hs]
          by_cases hb : l[i].d.data.length ≠ 128
          · rw [if_pos ⟨rfl, hb⟩, if_pos (e2.2 (.inr hb))]
          · rw [if_neg (fun q => hb q.2), if_neg (fun q => (e2.1 q).elim hs hb)]
theorem errP_all {e s : Nat} {l : List PatE} (hn : 1 ≤ l.length ∧ l.length ≤ 1023) : (if cntOk e s then errP l l.length else 3) = (secsM e s (l.map PatE.D)).1 := by
  have h1 := errP_is l l.length (Nat.le_refl _)
  rw [List.take_length] at h1
  have e1 : (∃ p ∈ l.map PatE.D, p.far) ↔ ∃ p ∈ l, p.D.far :=
    ⟨fun ⟨p, hp, h⟩ => by obtain ⟨q, hq, rfl⟩ := List.mem_map.1 hp; exact ⟨q, hq, h⟩, fun ⟨p, hp, h⟩ => ⟨p.D, List.mem_map_of_mem hp, h⟩⟩
  have e2 : (∃ p ∈ l.map PatE.D, p.data.length ≠ 128) ↔ ∃ p ∈ l, p.d.data.length ≠ 128 :=
    ⟨fun ⟨p, hp, h⟩ => by obtain ⟨q, hq, rfl⟩ := List.mem_map.1 hp; exact ⟨q, hq, h⟩, fun ⟨p, hp, h⟩ => ⟨p.D, List.mem_map_of_mem hp, h⟩⟩
  have hl : (l.map PatE.D).length = l.length := List.length_map ..
  have hs : (secsM e s (l.map PatE.D)).1 = if ¬ cntOk e s ∨ ∃ p ∈ l.map PatE.D, p.far then 3 else if ∃ p ∈ l.map PatE.D, p.data.length ≠ 128 then 4 else 0 := by
    unfold secsM
    rw [if_neg (by rw [hl]; omega)]
    split
    · rfl
    · split <;> rfl
  rw [hs, h1]
  clear hs h1
  by_cases hc : cntOk e s
  · rw [if_pos hc]
    by_cases ha : ∃ p ∈ l, p.D.far
    · have hb : ¬ cntOk e s ∨ ∃ p ∈ l.map PatE.D, p.far := .inr (e1.2 ha)
      rw [if_pos ha, if_pos hb]
    · have hb : ¬ (¬ cntOk e s ∨ ∃ p ∈ l.map PatE.D, p.far) := fun q => q.elim (fun z => z hc) (fun z => ha (e1.1 z))
      rw [if_neg ha, if_neg hb]
      by_cases hd : ∃ p ∈ l, p.d.data.length ≠ 128
      · rw [if_pos hd, if_pos (e2.2 hd)]
      · rw [if_neg hd, if_neg (fun q => hd (e2.1 q))]
  · have hb : ¬ cntOk e s ∨ ∃ p ∈ l.map PatE.D, p.far := .inl hc
    rw [if_neg hc, if_pos hb]
end Go.Proofs.Ytlojjlbngnaphaa

/-! Text Nc. -/
/- Scan: Sectors. -/
set_option maxRecDepth 8000
set_option linter.unusedVariables false
set_option linter.unusedSimpArgs false
set_option linter.unusedSectionVars false
namespace Go.Proofs.Ytlojjlbngnaphaa
open Go.RowKit Go.Sl
attribute [local irreducible] Own

theorem errP_step {l : List PatE} {i : Nat} (h : i < l.length) : errP l (i + 1) = if l[i].D.far then 3 else if errP l i = 0 ∧ l[i].d.data.length ≠ 128 then 4 else errP l i := by
  show (match l[i]? with | none => errP l i | some p => if p.D.far then 3 else if errP l i = 0 ∧ p.d.data.length ≠ 128 then 4 else errP l i) = _
  rw [List.getElem?_eq_getElem h]
theorem errP_far {l : List PatE} {i : Nat} (h : i < l.length) (hf : l[i].D.far) : errP l (i + 1) = 3 := by rw [errP_step h, if_pos hf]
theorem errP_long {l : List PatE} {i : Nat} (h : i < l.length) (hf : ¬ l[i].D.far) (he : errP l i = 0) (hn : l[i].d.data.length ≠ 128) : errP l (i + 1) = 4 := by rw [errP_step h, if_neg hf, if_pos ⟨he, hn⟩]
theorem errP_same {l : List PatE} {i : Nat} (h : i < l.length) (hf : ¬ l[i].D.far) (he : ¬ (errP l i = 0 ∧ l[i].d.data.length ≠ 128)) : errP l (i + 1) = errP l i := by rw [errP_step h, if_neg hf, if_neg he]

theorem headsP_step {e s n i : Nat} {D : List PatD} (h : i < D.length) : headsP e s n (D.take (i + 1)) 0 = headsP e s n (D.take i) 0 ++ headP e s n i D[i] := by
  rw [List.take_succ_eq_append_getElem h, headsP_append, List.length_take, Nat.min_eq_left (by omega), Nat.zero_add]
  simp [headsP]
theorem pairsP_step {e s n i : Nat} {D : List PatD} (h : i < D.length) : pairsP e s n (D.take (i + 1)) 0 = pairsP e s n (D.take i) 0 ++ [headP e s n i D[i], escM D[i].data] := by
  rw [List.take_succ_eq_append_getElem h, pairsP_append, List.length_take, Nat.min_eq_left (by omega), Nat.zero_add]
  simp [pairsP]
/-- Two rows more. -/
theorem pile_two {W : World} {R : List SProp} {y : List RowE} (a b : RowE) : Ent W (a.res :: PilR y :: b.res :: R) (PilR (y ++ [a, b]) :: R) := fun w hw => by
  have h1 := pile_push (res := RowE.res) hw
  have h2 := pile_push (res := RowE.res) h1.swap
  rw [List.append_assoc] at h2
  exact h2
theorem rowsO_two {y : List RowE} (a b : RowE) (so : Option Addr) (sc : Nat) : RowsO (so, sc) (y ++ [a, b]) = Sl.Own 55 1 (.slice so (y.length + 2) sc) (y.length + 2) (y.map RowE.hdr ++ [a.hdr, b.hdr]) := by
  show Sl.Own 55 1 (.slice so (y ++ [a, b]).length sc) (y ++ [a, b]).length ((y ++ [a, b]).map RowE.hdr) = _
  rw [List.length_append, List.map_append]; rfl
theorem rowsO_one {y : List RowE} (a : RowE) (so : Option Addr) (sc : Nat) : RowsO (so, sc) (y ++ [a]) = Sl.Own 55 1 (.slice so (y.length + 1) sc) (y.length + 1) (y.map RowE.hdr ++ [a.hdr]) := by
  show Sl.Own 55 1 (.slice so (y ++ [a]).length sc) (y ++ [a]).length ((y ++ [a]).map RowE.hdr) = _
  rw [List.length_append, List.map_append]; rfl

set_option maxHeartbeats 1000000 in
theorem sectors_ok {W : World} {R : List SProp} {ao : Option Addr} {cap : Nat} {l : List PatE} (e s : Nat) (he : e < 2 ^ 64) (hs : s < 2 ^ 64) (hp : RdPats W R ao l) (hfit : ∀ p ∈ l, p.fit) (hlen : l.length ≤ 140737488351232) :
    Does W Try.prog 12 [.int .u64 e, .agg #[.int .u64 s, .slice ao l.length cap]] R (β := (Option Addr × Nat) × List RowE) (fun y => y.2.map RowE.data = (secsM e s (l.map PatE.D)).2) (fun y => .tuple #[.slice y.1.1 y.2.length y.1.2, .int .u16 (secsM e s (l.map PatE.D)).1]) (fun y => RowsO y.1 y.2 :: PilR y.2 :: R) := by
  have hll : (l.map PatE.D).length = l.length := List.length_map ..
  (refine Does.enter Try.func12 Try.ntmps12 rfl rfl ?_)
  (refine w ?_; repeat ((first | refine VO.step rfl rfl ?_ | refine VD.end rfl rfl rfl ?_ | refine VD.mid rfl rfl rfl ?_); refine OpV.box rfl rfl rfl ?_; intro _; refine w ?_))
  rename_i bx
  have hnil : ∀ k : Int, secsM e s (l.map PatE.D) = (k, []) → Ent W (Row bx 25 [.int .u64 s, .slice ao l.length cap] :: R) (RowsO (none, 0) [] :: PilR [] :: R) := fun _ _ =>
    Ent.trans (Ent.re (L := R)) (fun w hw => (pile_nil (res := RowE.res) hw).ownNil _ _)
  ((first | refine VO.split rfl rfl rfl ?_ ?_ | refine VD.split rfl rfl rfl ?_ ?_) <;> intro hb)
  · have h1 : l.length < 1 := by have := hb; simp at this; omega
    have hz : secsM e s (l.map PatE.D) = (1, []) := by unfold secsM; rw [if_pos (.inl (by rw [hll]; exact h1))]
    (refine w ?_; repeat ((first | refine VO.step rfl rfl ?_ | refine VD.end rfl rfl rfl ?_ | refine VD.mid rfl rfl rfl ?_); refine OpV.box rfl rfl rfl ?_; intro _; refine w ?_))
    refine VE.done ((none, 0), []) rfl (by rw [hz]; rfl) (by rw [hz]; rfl) (hnil _ hz)
  have hn1 : 1 ≤ l.length := by have := hb; simp at this; omega
  (refine w ?_; repeat ((first | refine VO.step rfl rfl ?_ | refine VD.end rfl rfl rfl ?_ | refine VD.mid rfl rfl rfl ?_); refine OpV.box rfl rfl rfl ?_; intro _; refine w ?_))
  (refine VC.cond rfl rfl ?_ ?_ <;> intro hc)
  · have h2 : 1023 < l.length := by have := hc; simp at this; omega
    have hz : secsM e s (l.map PatE.D) = (1, []) := by unfold secsM; rw [if_pos (.inr (by rw [hll]; exact h2))]
    (refine w ?_; repeat ((first | refine VO.step rfl rfl ?_ | refine VD.end rfl rfl rfl ?_ | refine VD.mid rfl rfl rfl ?_); refine OpV.box rfl rfl rfl ?_; intro _; refine w ?_))
    refine VE.done ((none, 0), []) rfl (by rw [hz]; rfl) (by rw [hz]; rfl) (hnil _ hz)
  have hn2 : l.length ≤ 1023 := by have := hc; simp at this; omega
  obtain ⟨la, rfl⟩ : ∃ a, ao = some a := by cases ao with | none => have := hp.rds.nil rfl; omega | some a => exact ⟨a, rfl⟩
  (refine w ?_; repeat ((first | refine VO.step rfl rfl ?_ | refine VD.end rfl rfl rfl ?_ | refine VD.mid rfl rfl rfl ?_); refine OpV.box rfl rfl rfl ?_; intro _; refine w ?_))
  refine VC.loop (α := Nat) (fun i => i ≤ l.length) (fun i => Row bx 25 [.int .u64 s, .slice (some la) l.length cap] :: R)
    (fun i => [(0, .int .u64 e), (3, .pointer (some ⟨bx, 0, none⟩)), (6, .int .i64 l.length), (7, .int .u16 (errP l i)), (30, .slice (some la) l.length cap), (31, .int .i64 l.length), (32, .int .i64 i)]) (fun i => l.length - i) rfl 0 (Nat.zero_le _) Ent.re ⟨rfl, rfl, rfl, rfl, rfl, rfl, rfl, trivial⟩ ?_
  intro i hi
  (refine w ?_; repeat ((first | refine VO.step rfl rfl ?_ | refine VD.end rfl rfl rfl ?_ | refine VD.mid rfl rfl rfl ?_); refine OpV.box rfl rfl rfl ?_; intro _; refine w ?_))
  (refine VC.cond rfl rfl ?_ ?_ <;> intro hc)
  · have hlt : i < l.length := by have := of_decide_eq_true hc; omega
    have hfi := hfit _ (List.getElem_mem hlt)
    have hm := hfi.member
    have hr := hfi.row
    have hlen' := hfi.len
    (refine w ?_; repeat ((first | refine VO.step rfl rfl ?_ | refine VD.end rfl rfl rfl ?_ | refine VD.mid rfl rfl rfl ?_); refine OpV.box rfl rfl rfl ?_; intro _; refine w ?_))
    (first | refine VO.pure rfl rfl (.ldRA tab_ok rfl rfl (hp.rds.ent Ent.re) (pat_at l i hlt) rfl) rfl ?_ | refine VD.take rfl rfl rfl (.ldRA tab_ok rfl rfl (hp.rds.ent Ent.re) (pat_at l i hlt) rfl) rfl ?_ | refine VQ.pure rfl rfl (.ldRA tab_ok rfl rfl (hp.rds.ent Ent.re) (pat_at l i hlt) rfl) rfl ?_ | refine VD.end rfl rfl rfl (OpV.pure (.ldRA tab_ok rfl rfl (hp.rds.ent Ent.re) (pat_at l i hlt) rfl) rfl ?_))
    ((first | refine VO.step rfl rfl ?_ | refine VD.end rfl rfl rfl ?_ | refine VD.mid rfl rfl rfl ?_); refine OpV.allocS sb_78 rfl ?_; intro n9)
    (refine w ?_; repeat ((first | refine VO.step rfl rfl ?_ | refine VD.end rfl rfl rfl ?_ | refine VD.mid rfl rfl rfl ?_); refine OpV.box rfl rfl rfl ?_; intro _; refine w ?_))
    (first | refine VO.step rfl rfl ?_ | refine VD.end rfl rfl rfl ?_ | refine VD.mid rfl rfl rfl ?_)
    refine OpV.stA (vs := l[i].cells) tab_ok rfl rfl rfl rfl (pat_one _) (by (repeat first | exact .head | apply Hole.tail)) (by simp) ?_
    refine VO.ent (Reord.ent (L := Row n9 78 l[i].cells :: Row bx 25 [.int .u64 s, .slice (some la) l.length cap] :: R) (by (repeat first | exact .refl | (apply Reord.cons; focus repeat first | exact .head | apply Del.tail) | exact .nil | apply Reord.drop))) ?_
    refine VO.nil rfl ?_
    refine VE.next ?_
    refine VC.joinB (α := Unit) (fun _ => True) (fun _ => Row n9 78 l[i].cells :: Row bx 25 [.int .u64 s, .slice (some la) l.length cap] :: R) (fun _ => [(0, .int .u64 e), (3, .pointer (some ⟨bx, 0, none⟩)), (6, .int .i64 l.length), (7, .int .u16 (errP l (i + 1))), (30, .slice (some la) l.length cap), (31, .int .i64 l.length), (32, .int .i64 i)]) ?_ (fun _ _ => ?_)
    · intro Q2 jn
      (refine w ?_; repeat ((first | refine VO.step rfl rfl ?_ | refine VD.end rfl rfl rfl ?_ | refine VD.mid rfl rfl rfl ?_); refine OpV.box rfl rfl rfl ?_; intro _; refine w ?_))
      iterate 3
        ((first | refine VO.split rfl rfl rfl ?_ ?_ | refine VD.split rfl rfl rfl ?_ ?_) <;> intro hb)
        · have hf : l[i].D.far := by have := hb; simp at this; unfold PatD.far PatE.D; dsimp only; omega
          (refine w ?_; repeat ((first | refine VO.step rfl rfl ?_ | refine VD.end rfl rfl rfl ?_ | refine VD.mid rfl rfl rfl ?_); refine OpV.box rfl rfl rfl ?_; intro _; refine w ?_))
          exact jn.to () trivial ⟨rfl, rfl, rfl, asV rfl (by rw [errP_far hlt hf]), rfl, rfl, rfl, trivial⟩ Ent.re
        (refine w ?_; repeat ((first | refine VO.step rfl rfl ?_ | refine VD.end rfl rfl rfl ?_ | refine VD.mid rfl rfl rfl ?_); refine OpV.box rfl rfl rfl ?_; intro _; refine w ?_))
      (refine VC.cond rfl rfl ?_ ?_ <;> intro hc)
      · have hf : l[i].D.far := by have := hc; simp at this; unfold PatD.far PatE.D; dsimp only; omega
        (refine w ?_; repeat ((first | refine VO.step rfl rfl ?_ | refine VD.end rfl rfl rfl ?_ | refine VD.mid rfl rfl rfl ?_); refine OpV.box rfl rfl rfl ?_; intro _; refine w ?_))
        exact jn.to () trivial ⟨rfl, rfl, rfl, asV rfl (by rw [errP_far hlt hf]), rfl, rfl, rfl, trivial⟩ Ent.re
      have hf : ¬ l[i].D.far := by simp at *; unfold PatD.far PatE.D; dsimp only; omega
      (refine w ?_; repeat ((first | refine VO.step rfl rfl ?_ | refine VD.end rfl rfl rfl ?_ | refine VD.mid rfl rfl rfl ?_); refine OpV.box rfl rfl rfl ?_; intro _; refine w ?_))
      ((first | refine VO.split rfl rfl rfl ?_ ?_ | refine VD.split rfl rfl rfl ?_ ?_) <;> intro hb)
      · have h0 : errP l i = 0 := by simpa using hb
        (refine w ?_; repeat ((first | refine VO.step rfl rfl ?_ | refine VD.end rfl rfl rfl ?_ | refine VD.mid rfl rfl rfl ?_); refine OpV.box rfl rfl rfl ?_; intro _; refine w ?_))
        (refine VC.cond rfl rfl ?_ ?_ <;> intro hc)
        · have hn : l[i].d.data.length ≠ 128 := by have := hc; simp at this; omega
          (refine w ?_; repeat ((first | refine VO.step rfl rfl ?_ | refine VD.end rfl rfl rfl ?_ | refine VD.mid rfl rfl rfl ?_); refine OpV.box rfl rfl rfl ?_; intro _; refine w ?_))
          exact jn.to () trivial ⟨rfl, rfl, rfl, asV rfl (by rw [errP_long hlt hf h0 hn]), rfl, rfl, rfl, trivial⟩ Ent.re
        · have hn : ¬ (errP l i = 0 ∧ l[i].d.data.length ≠ 128) := by have := hc; simp at this; omega
          (refine w ?_; repeat ((first | refine VO.step rfl rfl ?_ | refine VD.end rfl rfl rfl ?_ | refine VD.mid rfl rfl rfl ?_); refine OpV.box rfl rfl rfl ?_; intro _; refine w ?_))
          exact jn.to () trivial ⟨rfl, rfl, rfl, asV rfl (by rw [errP_same hlt hf hn]), rfl, rfl, rfl, trivial⟩ Ent.re
      · have hn : ¬ (errP l i = 0 ∧ l[i].d.data.length ≠ 128) := by have := hb; simp at this; exact fun q => this q.1
        (refine w ?_; repeat ((first | refine VO.step rfl rfl ?_ | refine VD.end rfl rfl rfl ?_ | refine VD.mid rfl rfl rfl ?_); refine OpV.box rfl rfl rfl ?_; intro _; refine w ?_))
        exact jn.to () trivial ⟨rfl, rfl, rfl, asV rfl (by rw [errP_same hlt hf hn]), rfl, rfl, rfl, trivial⟩ Ent.re
    (refine w ?_; repeat ((first | refine VO.step rfl rfl ?_ | refine VD.end rfl rfl rfl ?_ | refine VD.mid rfl rfl rfl ?_); refine OpV.box rfl rfl rfl ?_; intro _; refine w ?_))
    refine VE.round (i + 1) (by omega) (by omega) ⟨rfl, rfl, rfl, rfl, rfl, rfl, asV rfl (by congr 1), trivial⟩ Ent.re
  have hend : i = l.length := by have := of_decide_eq_false hc; omega
  subst hend
  have hall := errP_all (e := e) (s := s) (l := l) ⟨hn1, hn2⟩
  have herr : ∀ k : Int, k ≠ 0 → (secsM e s (l.map PatE.D)).1 = k → secsM e s (l.map PatE.D) = (k, []) := by
    intro k hk h
    unfold secsM at h ⊢
    split at h
    · rename_i h1; rw [if_pos h1]; simp at h; rw [h]
    · rename_i h1
      rw [if_neg h1]
      split at h
      · rename_i h2; rw [if_pos h2]; simp at h; rw [h]
      · rename_i h2
        rw [if_neg h2]
        split at h
        · rename_i h3; rw [if_pos h3]; simp at h; rw [h]
        · exact absurd h.symm hk
  have hbad : ¬ cntOk e s → secsM e s (l.map PatE.D) = (3, []) := fun h => herr 3 (by decide) (by rw [← hall, if_neg h])
  (refine w ?_; repeat ((first | refine VO.step rfl rfl ?_ | refine VD.end rfl rfl rfl ?_ | refine VD.mid rfl rfl rfl ?_); refine OpV.box rfl rfl rfl ?_; intro _; refine w ?_))
  ((first | refine VO.split rfl rfl rfl ?_ ?_ | refine VD.split rfl rfl rfl ?_ ?_) <;> intro hb)
  · have hz := hbad (by have := hb; simp at this; unfold cntOk; omega)
    (refine w ?_; repeat ((first | refine VO.step rfl rfl ?_ | refine VD.end rfl rfl rfl ?_ | refine VD.mid rfl rfl rfl ?_); refine OpV.box rfl rfl rfl ?_; intro _; refine w ?_))
    refine VE.done ((none, 0), []) rfl (by rw [hz]; rfl) (by rw [hz]; rfl) (hnil _ hz)
  (refine w ?_; repeat ((first | refine VO.step rfl rfl ?_ | refine VD.end rfl rfl rfl ?_ | refine VD.mid rfl rfl rfl ?_); refine OpV.box rfl rfl rfl ?_; intro _; refine w ?_))
  ((first | refine VO.split rfl rfl rfl ?_ ?_ | refine VD.split rfl rfl rfl ?_ ?_) <;> intro hb)
  · have hz := hbad (by have := hb; simp at this; unfold cntOk; omega)
    (refine w ?_; repeat ((first | refine VO.step rfl rfl ?_ | refine VD.end rfl rfl rfl ?_ | refine VD.mid rfl rfl rfl ?_); refine OpV.box rfl rfl rfl ?_; intro _; refine w ?_))
    refine VE.done ((none, 0), []) rfl (by rw [hz]; rfl) (by rw [hz]; rfl) (hnil _ hz)
  (refine w ?_; repeat ((first | refine VO.step rfl rfl ?_ | refine VD.end rfl rfl rfl ?_ | refine VD.mid rfl rfl rfl ?_); refine OpV.box rfl rfl rfl ?_; intro _; refine w ?_))
  (refine VC.cond rfl rfl ?_ ?_ <;> intro hc)
  · have hz := hbad (by have := hc; simp at this; unfold cntOk; omega)
    (refine w ?_; repeat ((first | refine VO.step rfl rfl ?_ | refine VD.end rfl rfl rfl ?_ | refine VD.mid rfl rfl rfl ?_); refine OpV.box rfl rfl rfl ?_; intro _; refine w ?_))
    refine VE.done ((none, 0), []) rfl (by rw [hz]; rfl) (by rw [hz]; rfl) (hnil _ hz)
  have hcnt : cntOk e s := by simp at *; unfold cntOk; omega
  rw [if_pos hcnt] at hall
  (refine w ?_; repeat ((first | refine VO.step rfl rfl ?_ | refine VD.end rfl rfl rfl ?_ | refine VD.mid rfl rfl rfl ?_); refine OpV.box rfl rfl rfl ?_; intro _; refine w ?_))
  (refine VC.cond rfl rfl ?_ ?_ <;> intro hc)
  · have hz := herr _ (by have := hc; simpa using this) hall.symm
    (refine w ?_; repeat ((first | refine VO.step rfl rfl ?_ | refine VD.end rfl rfl rfl ?_ | refine VD.mid rfl rfl rfl ?_); refine OpV.box rfl rfl rfl ?_; intro _; refine w ?_))
    refine VE.done ((none, 0), []) rfl (by rw [hz]; rfl) (by rw [hz]; rfl) (hnil _ hz)
  have h0 : (secsM e s (l.map PatE.D)).1 = 0 := by rw [← hall]; have := hc; simpa using this
  (refine w ?_; repeat ((first | refine VO.step rfl rfl ?_ | refine VD.end rfl rfl rfl ?_ | refine VD.mid rfl rfl rfl ?_); refine OpV.box rfl rfl rfl ?_; intro _; refine w ?_))
  have hF : Fine e s (l.map PatE.D) := secs_ok h0
  have hsec := secs_fine hF
  rw [hsec]
  rw [hsec] at h0
  (first | refine VO.step rfl rfl ?_ | refine VD.end rfl rfl rfl ?_ | refine VD.mid rfl rfl rfl ?_)
  refine OpV.makeCap (m := 2 * l.length + 1) st_28 rfl (by rfl) (by omega) (by simp only [maxLen]; omega) rfl ?_
  intro no
  (refine w ?_; repeat ((first | refine VO.step rfl rfl ?_ | refine VD.end rfl rfl rfl ?_ | refine VD.mid rfl rfl rfl ?_); refine OpV.box rfl rfl rfl ?_; intro _; refine w ?_))
  ((first | refine VO.step rfl rfl ?_ | refine VD.end rfl rfl rfl ?_ | refine VD.mid rfl rfl rfl ?_); refine OpV.call rfl rfl (fun _ _ => by simp) (dignew_ok) Ent.refl rfl ?_)
  intro d _
  (refine w ?_; repeat ((first | refine VO.step rfl rfl ?_ | refine VD.end rfl rfl rfl ?_ | refine VD.mid rfl rfl rfl ?_); refine OpV.box rfl rfl rfl ?_; intro _; refine w ?_))
  refine VC.loop (α := Nat × List RowE × (Option Addr × Nat)) (fun y => y.1 ≤ l.length ∧ y.2.1.map RowE.data = pairsP e s l.length ((l.map PatE.D).take y.1) 0) (fun y => DigR d (crcS (headsP e s l.length ((l.map PatE.D).take y.1) 0)) :: RowsO y.2.2 y.2.1 :: PilR y.2.1 :: Row bx 25 [.int .u64 s, .slice (some la) l.length cap] :: R)
    (fun y => [(0, .int .u64 e), (3, .pointer (some ⟨bx, 0, none⟩)), (6, .int .i64 l.length), (10, .slice y.2.2.1 y.2.1.length y.2.2.2), (11, .pointer (some ⟨d, 0, none⟩)), (84, .slice (some la) l.length cap), (85, .int .i64 l.length), (86, .int .i64 y.1)]) (fun y => l.length - y.1) rfl (0, [], (some ⟨no, 0, none⟩, 2 * l.length + 1)) ⟨Nat.zero_le _, rfl⟩ ?_ ⟨rfl, rfl, rfl, rfl, rfl, rfl, rfl, rfl, trivial⟩ ?_
  · dsimp only
    rw [List.take_zero, show crcS (headsP e s l.length [] 0) = 0#32 from crcM_nil _]
    exact Ent.trans (fun w hw => pile_nil (res := RowE.res) hw) Ent.re
  rintro ⟨i, y, x⟩ ⟨hi, hy⟩
  dsimp only at hi hy ⊢
  (refine w ?_; repeat ((first | refine VO.step rfl rfl ?_ | refine VD.end rfl rfl rfl ?_ | refine VD.mid rfl rfl rfl ?_); refine OpV.box rfl rfl rfl ?_; intro _; refine w ?_))
  (refine VC.cond rfl rfl ?_ ?_ <;> intro hc)
  · have hlt : i < l.length := by have := of_decide_eq_true hc; omega
    (refine w ?_; repeat ((first | refine VO.step rfl rfl ?_ | refine VD.end rfl rfl rfl ?_ | refine VD.mid rfl rfl rfl ?_); refine OpV.box rfl rfl rfl ?_; intro _; refine w ?_))
    have hfi := hfit _ (List.getElem_mem hlt)
    have hDi : i < (l.map PatE.D).length := by rw [hll]; exact hlt
    have hDg : (l.map PatE.D)[i] = l[i].D := List.getElem_map ..
    have hpf := hF.pat _ (List.getElem_mem hDi)
    rw [hDg] at hpf
    have h128 : l[i].d.data.length = 128 := hpf.2.2
    have hesc : escD l[i].d.data = ⟨escM l[i].d.data, isEsc l[i].d.data, 0⟩ := if_pos h128
    have hel : (escM l[i].d.data).length = 128 := escN_length h128
    have hgood := hdrP_good hF hDi
    rw [hDg, hll] at hgood
    have henc : (hdrP e s l.length i l[i].D).enc.1 = 0 := by rw [hdr_ok hgood]
    have hcap := (hp.ok _ (List.getElem_mem hlt)).cap
    (first | refine VO.pure rfl rfl (.ldRA tab_ok rfl rfl (hp.rds.ent (Ent.drop (Ent.drop (Ent.drop (Ent.drop Ent.refl))))) (pat_at l i hlt) rfl) rfl ?_ | refine VD.take rfl rfl rfl (.ldRA tab_ok rfl rfl (hp.rds.ent (Ent.drop (Ent.drop (Ent.drop (Ent.drop Ent.refl))))) (pat_at l i hlt) rfl) rfl ?_ | refine VQ.pure rfl rfl (.ldRA tab_ok rfl rfl (hp.rds.ent (Ent.drop (Ent.drop (Ent.drop (Ent.drop Ent.refl))))) (pat_at l i hlt) rfl) rfl ?_ | refine VD.end rfl rfl rfl (OpV.pure (.ldRA tab_ok rfl rfl (hp.rds.ent (Ent.drop (Ent.drop (Ent.drop (Ent.drop Ent.refl))))) (pat_at l i hlt) rfl) rfl ?_))
    ((first | refine VO.step rfl rfl ?_ | refine VD.end rfl rfl rfl ?_ | refine VD.mid rfl rfl rfl ?_); refine OpV.allocS sb_78 rfl ?_; intro n9)
    (refine w ?_; repeat ((first | refine VO.step rfl rfl ?_ | refine VD.end rfl rfl rfl ?_ | refine VD.mid rfl rfl rfl ?_); refine OpV.box rfl rfl rfl ?_; intro _; refine w ?_))
    (first | refine VO.step rfl rfl ?_ | refine VD.end rfl rfl rfl ?_ | refine VD.mid rfl rfl rfl ?_)
    refine OpV.stA (vs := l[i].cells) tab_ok rfl rfl rfl rfl (pat_one _) (by (repeat first | exact .head | apply Hole.tail)) (by simp) ?_
    refine VO.ent (Reord.ent (L := Row n9 78 l[i].cells :: DigR d (crcS (headsP e s l.length ((l.map PatE.D).take i) 0)) :: RowsO x y :: PilR y :: Row bx 25 [.int .u64 s, .slice (some la) l.length cap] :: R) (by (repeat first | exact .refl | (apply Reord.cons; focus repeat first | exact .head | apply Del.tail) | exact .nil | apply Reord.drop))) ?_
    (refine w ?_; repeat ((first | refine VO.step rfl rfl ?_ | refine VD.end rfl rfl rfl ?_ | refine VD.mid rfl rfl rfl ?_); refine OpV.box rfl rfl rfl ?_; intro _; refine w ?_))
    have hE := esc_ok (R := Row n9 78 l[i].cells :: DigR d (crcS (headsP e s l.length ((l.map PatE.D).take i) 0)) :: RowsO x y :: PilR y :: Row bx 25 [.int .u64 s, .slice (some la) l.length cap] :: R) ((hp.each _ (List.getElem_mem hlt)).ent (Ent.drop (Ent.drop (Ent.drop (Ent.drop (Ent.drop Ent.refl)))))) hcap
    rw [hesc] at hE
    dsimp only at hE
    ((first | refine VO.step rfl rfl ?_ | refine VD.end rfl rfl rfl ?_ | refine VD.mid rfl rfl rfl ?_); refine OpV.call rfl rfl (fun _ _ => by simp) (hE) Ent.refl rfl ?_)
    rintro ⟨ba, bc⟩ -
    refine VO.know (p := ba = none → (escM l[i].d.data).length = 0) (fun w hw => hw.ownNone (.head _)) ?_
    intro hbn
    (refine w ?_; repeat ((first | refine VO.step rfl rfl ?_ | refine VD.end rfl rfl rfl ?_ | refine VD.mid rfl rfl rfl ?_); refine OpV.box rfl rfl rfl ?_; intro _; refine w ?_))
    (refine VC.drawn [11, 13] 18 [0, 1, 2, 3, 4, 5, 6, 7, 8, 9, 10, 11, 12, 13, 14, 15, 16, 17, 18] _ rfl (by kernel_rfl) (by kernel_rfl) Ent.re ?_)
    (refine w ?_; repeat ((first | refine VO.step rfl rfl ?_ | refine VD.end rfl rfl rfl ?_ | refine VD.mid rfl rfl rfl ?_); refine OpV.box rfl rfl rfl ?_; intro _; refine w ?_))
    ((first | refine VO.step rfl rfl ?_ | refine VD.end rfl rfl rfl ?_ | refine VD.mid rfl rfl rfl ?_); refine OpV.call rfl rfl (fun _ _ => by simp) (sum_ok (Rds.own (bytes_one _) (.head _) (by simp) hbn) (by omega)) Ent.refl rfl ?_)
    intro _ _
    refine ⟨Ent.re, ?_⟩
    (refine w ?_; repeat ((first | refine VO.step rfl rfl ?_ | refine VD.end rfl rfl rfl ?_ | refine VD.mid rfl rfl rfl ?_); refine OpV.box rfl rfl rfl ?_; intro _; refine w ?_))
    have hfh : (hdrP e s l.length i l[i].D).fit := ⟨he, hs, by simp only [hdrP]; omega, by simp only [hdrP]; omega, hfi.member, hfi.row, (crcS (escM l[i].d.data)).isLt⟩
    refine VD.re 108 (.bool (isEsc l[i].d.data)) rfl rfl ?_
    ((first | apply VO.pure rfl rfl | apply VD.take rfl rfl rfl | (refine VD.end rfl rfl rfl ?_; apply OpV.pure)); apply PureAt.build sb_90 rfl; (simp [buildX, setL, Value.cells]; rfl); rfl)
    (refine w ?_; repeat ((first | refine VO.step rfl rfl ?_ | refine VD.end rfl rfl rfl ?_ | refine VD.mid rfl rfl rfl ?_); refine OpV.box rfl rfl rfl ?_; intro _; refine w ?_))
    have hE2 := ench_ok (W := W) (R := OwnB (ba, bc) (escM l[i].d.data) :: Row n9 78 l[i].cells :: DigR d (crcS (headsP e s l.length ((l.map PatE.D).take i) 0)) :: RowsO x y :: PilR y :: Row bx 25 [.int .u64 s, .slice (some la) l.length cap] :: R) (hdrP e s l.length i l[i].D) hfh
    rw [henc] at hE2
    ((first | refine VO.step rfl rfl ?_ | refine VD.end rfl rfl rfl ?_ | refine VD.mid rfl rfl rfl ?_); refine OpV.call rfl rfl (fun _ _ => by simp) (hE2) Ent.refl rfl ?_)
    rintro ⟨ha, hc⟩ -
    refine ⟨Ent.re, ?_⟩
    refine VD.know (p := ha = none → (headP e s l.length i l[i].D).length = 0) (fun w hw => hw.ownNone (.head _)) ?_
    intro hhn
    (refine w ?_; repeat ((first | refine VO.step rfl rfl ?_ | refine VD.end rfl rfl rfl ?_ | refine VD.mid rfl rfl rfl ?_); refine OpV.box rfl rfl rfl ?_; intro _; refine w ?_))
    have hlen2 : (headP e s l.length i l[i].D).length ≤ 1099511627776 := by
      show (hdrP e s l.length i l[i].D).enc.2.length ≤ _
      rw [hdr_ok hgood, sectF_length _ _ _ _ (hdr_sum _)]; omega
    refine VO.ent (Reord.ent (L := DigR d (crcS (headsP e s l.length ((l.map PatE.D).take i) 0)) :: OwnB (ha, hc) (headP e s l.length i l[i].D) :: OwnB (ba, bc) (escM l[i].d.data) :: RowsO x y :: PilR y :: Row bx 25 [.int .u64 s, .slice (some la) l.length cap] :: R) (by (repeat first | exact .refl | (apply Reord.cons; focus repeat first | exact .head | apply Del.tail) | exact .nil | apply Reord.drop))) ?_
    ((first | refine VO.step rfl rfl ?_ | refine VD.end rfl rfl rfl ?_ | refine VD.mid rfl rfl rfl ?_); refine OpV.call rfl rfl (fun _ _ => by simp) (digadd_ok d (crcS (headsP e s l.length ((l.map PatE.D).take i) 0)) (Rds.own (bytes_one _) (.head _) (by simp) hhn) hlen2) Ent.refl rfl ?_)
    intro _ _
    (refine w ?_; repeat ((first | refine VO.step rfl rfl ?_ | refine VD.end rfl rfl rfl ?_ | refine VD.mid rfl rfl rfl ?_); refine OpV.box rfl rfl rfl ?_; intro _; refine w ?_))
    have hyl : y.length = 2 * i := by
      have := congrArg List.length hy
      rw [List.length_map, pairsP_length, List.length_take, Nat.min_eq_left (by omega)] at this
      exact this
    ((first | refine VO.step rfl rfl ?_ | refine VD.end rfl rfl rfl ?_ | refine VD.mid rfl rfl rfl ?_); refine OpV.buildSlice1 st_28 rfl rfl (by first | (simp; done) | simp [Value.oneCell']) (by decide) rfl ?_; intro nb)
    ((first | refine VO.step rfl rfl ?_ | refine VD.end rfl rfl rfl ?_ | refine VD.mid rfl rfl rfl ?_); refine OpV.appendRow st_28 rfl rfl (by (repeat first | exact .head | apply Hole.tail)) (by (focus repeat first | exact .head _ | apply List.Mem.tail)) rfl (by first | (simp; done) | simp [Value.oneCell']) ?_ ?_ rfl ?_)
    · simp only [maxLen]; omega
    · omega
    intro so sc
    (refine w ?_; repeat ((first | refine VO.step rfl rfl ?_ | refine VD.end rfl rfl rfl ?_ | refine VD.mid rfl rfl rfl ?_); refine OpV.box rfl rfl rfl ?_; intro _; refine w ?_))
    have hst := headsP_step (e := e) (s := s) (n := l.length) hDi
    have hsp := pairsP_step (e := e) (s := s) (n := l.length) hDi
    rw [hDg] at hst hsp
    refine VE.round (i + 1, y ++ [⟨ha, hc, headP e s l.length i l[i].D⟩, ⟨ba, bc, escM l[i].d.data⟩], (so, sc)) ⟨by simp only; omega, by simp only; rw [List.map_append, hy, hsp]; rfl⟩ (by simp only; omega) ⟨rfl, rfl, rfl, asV rfl (by simp), rfl, rfl, rfl, asV rfl (by congr 1), trivial⟩ ?_
    dsimp only
    rw [rowsO_two, hst]
    refine Ent.trans (Ent.re (L := OwnB (ha, hc) (headP e s l.length i l[i].D) :: PilR y :: OwnB (ba, bc) (escM l[i].d.data) :: DigR d (crcM (crcS (headsP e s l.length ((l.map PatE.D).take i) 0)) (headP e s l.length i l[i].D)) :: Sl.Own 55 1 (.slice so (y.length + 2) sc) (y.length + 2) (y.map RowE.hdr ++ [RowE.hdr ⟨ha, hc, headP e s l.length i l[i].D⟩, RowE.hdr ⟨ba, bc, escM l[i].d.data⟩]) :: Row bx 25 [.int .u64 s, .slice (some la) l.length cap] :: R)) ?_
    refine Ent.trans (pile_two ⟨ha, hc, headP e s l.length i l[i].D⟩ ⟨ba, bc, escM l[i].d.data⟩) ?_
    rw [show crcM (crcS (headsP e s l.length ((l.map PatE.D).take i) 0)) (headP e s l.length i l[i].D) = crcS (headsP e s l.length ((l.map PatE.D).take i) 0 ++ headP e s l.length i l[i].D) from (crcM_append _ _ _).symm]
    exact Ent.re
  have hend : i = l.length := by have := of_decide_eq_false hc; omega
  subst hend
  have hDt : (l.map PatE.D).take l.length = l.map PatE.D := by rw [← hll, List.take_length]
  rw [hDt] at hy ⊢
  have hyl : y.length = 2 * l.length := by
    have := congrArg List.length hy
    rw [List.length_map, pairsP_length, hll] at this
    exact this
  have hC : cmtP e s (l.map PatE.D) = ⟨e, s, l.length, (crcS (headsP e s l.length (l.map PatE.D) 0)).toNat⟩ := by unfold cmtP; rw [hll]
  have hrows : rowsP e s (l.map PatE.D) = pairsP e s l.length (l.map PatE.D) 0 ++ [(cmtP e s (l.map PatE.D)).enc.2] := by unfold rowsP; rw [hll]
  have hcg : (cmtP e s (l.map PatE.D)).good := ⟨hcnt, by simp only [cmtP]; omega⟩
  have hce : (cmtP e s (l.map PatE.D)).enc.1 = 0 := by rw [cmt_ok hcg]
  have hcf : (cmtP e s (l.map PatE.D)).fit := ⟨he, hs, by simp only [cmtP]; omega, (crcS _).isLt⟩
  (refine w ?_; repeat ((first | refine VO.step rfl rfl ?_ | refine VD.end rfl rfl rfl ?_ | refine VD.mid rfl rfl rfl ?_); refine OpV.box rfl rfl rfl ?_; intro _; refine w ?_))
  (refine VC.drawn [5, 7] 12 [0, 1, 2, 3, 4, 5, 6, 7, 8, 9, 10, 11, 12] _ rfl (by kernel_rfl) (by kernel_rfl) Ent.re ?_)
  (refine w ?_; repeat ((first | refine VO.step rfl rfl ?_ | refine VD.end rfl rfl rfl ?_ | refine VD.mid rfl rfl rfl ?_); refine OpV.box rfl rfl rfl ?_; intro _; refine w ?_))
  ((first | refine VO.step rfl rfl ?_ | refine VD.end rfl rfl rfl ?_ | refine VD.mid rfl rfl rfl ?_); refine OpV.call rfl rfl (fun _ _ => by simp) (digsum_ok d _) Ent.refl rfl ?_)
  intro _ _
  refine ⟨Ent.re, ?_⟩
  (refine w ?_; repeat ((first | refine VO.step rfl rfl ?_ | refine VD.end rfl rfl rfl ?_ | refine VD.mid rfl rfl rfl ?_); refine OpV.box rfl rfl rfl ?_; intro _; refine w ?_))
  ((first | apply VO.pure rfl rfl | apply VD.take rfl rfl rfl | (refine VD.end rfl rfl rfl ?_; apply OpV.pure)); apply PureAt.build sb_95 rfl; (simp [buildX, setL, Value.cells]; rfl); rfl)
  (refine w ?_; repeat ((first | refine VO.step rfl rfl ?_ | refine VD.end rfl rfl rfl ?_ | refine VD.mid rfl rfl rfl ?_); refine OpV.box rfl rfl rfl ?_; intro _; refine w ?_))
  have hE3 := encc_ok (W := W) (R := DigR d (crcS (headsP e s l.length (l.map PatE.D) 0)) :: RowsO x y :: PilR y :: Row bx 25 [.int .u64 s, .slice (some la) l.length cap] :: R) (cmtP e s (l.map PatE.D)) hcf
  rw [hce, show (cmtP e s (l.map PatE.D)).cells = [.int .u64 e, .int .u64 s, .int .i64 l.length, .int .u32 ((crcS (headsP e s l.length (l.map PatE.D) 0)).toNat : Int)] by rw [hC]] at hE3
  ((first | refine VO.step rfl rfl ?_ | refine VD.end rfl rfl rfl ?_ | refine VD.mid rfl rfl rfl ?_); refine OpV.call rfl rfl (fun _ _ => by simp) (hE3) Ent.refl rfl ?_)
  rintro ⟨ca, cc⟩ -
  refine ⟨Ent.re, ?_⟩
  (refine w ?_; repeat ((first | refine VO.step rfl rfl ?_ | refine VD.end rfl rfl rfl ?_ | refine VD.mid rfl rfl rfl ?_); refine OpV.box rfl rfl rfl ?_; intro _; refine w ?_))
  ((first | refine VO.step rfl rfl ?_ | refine VD.end rfl rfl rfl ?_ | refine VD.mid rfl rfl rfl ?_); refine OpV.buildSlice1 st_28 rfl rfl (by first | (simp; done) | simp [Value.oneCell']) (by decide) rfl ?_; intro nb)
  ((first | refine VO.step rfl rfl ?_ | refine VD.end rfl rfl rfl ?_ | refine VD.mid rfl rfl rfl ?_); refine OpV.appendRow st_28 rfl rfl (by (repeat first | exact .head | apply Hole.tail)) (by (focus repeat first | exact .head _ | apply List.Mem.tail)) rfl (by first | (simp; done) | simp [Value.oneCell']) ?_ ?_ rfl ?_)
  · simp only [maxLen]; omega
  · omega
  intro so sc
  (refine w ?_; repeat ((first | refine VO.step rfl rfl ?_ | refine VD.end rfl rfl rfl ?_ | refine VD.mid rfl rfl rfl ?_); refine OpV.box rfl rfl rfl ?_; intro _; refine w ?_))
  refine VE.done ((so, sc), y ++ [⟨ca, cc, (cmtP e s (l.map PatE.D)).enc.2⟩]) rfl ?_ (by simp) ?_
  · simp only
    rw [List.map_append, hy, hrows]; rfl
  dsimp only
  rw [rowsO_one]
  refine Ent.trans (Ent.re (L := OwnB (ca, cc) (cmtP e s (l.map PatE.D)).enc.2 :: PilR y :: Sl.Own 55 1 (.slice so (y.length + 1) sc) (y.length + 1) (y.map RowE.hdr ++ [RowE.hdr ⟨ca, cc, (cmtP e s (l.map PatE.D)).enc.2⟩]) :: R)) ?_
  refine Ent.trans (fun w hw => pile_push (res := RowE.res) (a := (⟨ca, cc, (cmtP e s (l.map PatE.D)).enc.2⟩ : RowE)) hw) ?_
  exact Ent.re
end Go.Proofs.Ytlojjlbngnaphaa

/-! Text Nd. -/
/- Scan: the ring's size, its sectors from a place on: an iterator. -/
set_option maxRecDepth 8000
set_option linter.unusedVariables false
set_option linter.unusedSimpArgs false
set_option linter.unusedSectionVars false
namespace Go.Proofs.Ytlojjlbngnaphaa
open Go.RowKit Go.Sl
attribute [local irreducible] Own

theorem size_ok {W : World} {R : List SProp} {ao : Option Addr} {k cap n : Nat} (hk : k = n * 128) (hn : n ≤ 1099511627776) : Does1 W Try.prog 56 [.slice ao k cap] R (.int .i64 (n : Int)) R := by
  subst hk
  (refine Does.enter Try.func56 Try.ntmps56 rfl rfl ?_)
  (refine w ?_; repeat ((first | refine VO.step rfl rfl ?_ | refine VD.end rfl rfl rfl ?_ | refine VD.mid rfl rfl rfl ?_); refine OpV.box rfl rfl rfl ?_; intro _; refine w ?_))
  (first | refine VO.pure rfl rfl (PureAt.quo rfl rfl (by decide) (by rw [Nat.mul_div_cancel n (by decide)]; exact IntWalk.i64_in _ ⟨by omega, by omega⟩)) rfl ?_ | refine VD.take rfl rfl rfl (PureAt.quo rfl rfl (by decide) (by rw [Nat.mul_div_cancel n (by decide)]; exact IntWalk.i64_in _ ⟨by omega, by omega⟩)) rfl ?_ | refine VQ.pure rfl rfl (PureAt.quo rfl rfl (by decide) (by rw [Nat.mul_div_cancel n (by decide)]; exact IntWalk.i64_in _ ⟨by omega, by omega⟩)) rfl ?_ | refine VD.end rfl rfl rfl (OpV.pure (PureAt.quo rfl rfl (by decide) (by rw [Nat.mul_div_cancel n (by decide)]; exact IntWalk.i64_in _ ⟨by omega, by omega⟩)) rfl ?_))
  (refine w ?_; repeat ((first | refine VO.step rfl rfl ?_ | refine VD.end rfl rfl rfl ?_ | refine VD.mid rfl rfl rfl ?_); refine OpV.box rfl rfl rfl ?_; intro _; refine w ?_))
  refine VE.done1 rfl (by rw [Nat.mul_div_cancel n (by decide)]) Ent.re
theorem from_ok {W : World} {R : List SProp} {ao : Option Addr} {k cap : Nat} (at_ : Int) : Does W Try.prog 77 [.slice ao k cap, .int .i64 at_] R (β := Nat × Nat) (fun _ => True) (fun x => .func (.func 93) #[] #[.pointer (some ⟨x.1, 0, none⟩), .pointer (some ⟨x.2, 0, none⟩)]) (fun x => Row x.1 113 [.slice ao k cap] :: Row x.2 3 [.int .i64 at_] :: R) := by
  (refine Does.enter Try.func77 Try.ntmps77 rfl rfl ?_)
  (refine w ?_; repeat ((first | refine VO.step rfl rfl ?_ | refine VD.end rfl rfl rfl ?_ | refine VD.mid rfl rfl rfl ?_); refine OpV.box rfl rfl rfl ?_; intro _; refine w ?_))
  rename_i b1 b2
  (first | refine VO.pure rfl rfl (PureAt.makeFuncN rfl) rfl ?_ | refine VD.take rfl rfl rfl (PureAt.makeFuncN rfl) rfl ?_ | refine VQ.pure rfl rfl (PureAt.makeFuncN rfl) rfl ?_ | refine VD.end rfl rfl rfl (OpV.pure (PureAt.makeFuncN rfl) rfl ?_))
  (refine w ?_; repeat ((first | refine VO.step rfl rfl ?_ | refine VD.end rfl rfl rfl ?_ | refine VD.mid rfl rfl rfl ?_); refine OpV.box rfl rfl rfl ?_; intro _; refine w ?_))
  exact VE.done (b1, b2) rfl trivial rfl Ent.re
set_option maxHeartbeats 1000000 in
/-- THE ITERATOR, from what each call of yield comes to. -/
theorem from1_ok {W : World} {τ : Type} {la : Addr} {cap n : Nat} (hn : n ≤ 2048) (hcap : n * 128 ≤ cap) (at_ : Nat) (ha : at_ < n) (l b1 b2 : Nat) (b : Loop) (A2 : τ → Prop) (G : Nat → List SProp) (G2 : τ → List SProp)
    (yld : ∀ i, i < n → DoesR W Try.prog l [.int .i64 i, .slice (some (la.add ((at_ + i) % n * 128))) 128 (cap - (at_ + i) % n * 128)]
      (LoopR l b :: Row b1 113 [.slice (some la) (n * 128) cap] :: Row b2 3 [.int .i64 at_] :: G i) (LoopR l b :: Row b1 113 [.slice (some la) (n * 128) cap] :: Row b2 3 [.int .i64 at_] :: G (i + 1)) A2 (fun x => LoopR l (Loop.done b) :: G2 x)) :
    Does W Try.prog 93 [.func (.yield l) #[] #[], .pointer (some ⟨b1, 0, none⟩), .pointer (some ⟨b2, 0, none⟩)] (LoopR l b :: Row b1 113 [.slice (some la) (n * 128) cap] :: Row b2 3 [.int .i64 at_] :: G 0) (β := Option τ) (fun o => o.elim True A2) (fun _ => .tuple #[])
      (fun o => o.elim (LoopR l b :: Row b1 113 [.slice (some la) (n * 128) cap] :: Row b2 3 [.int .i64 at_] :: G n) fun x => LoopR l (Loop.done b) :: G2 x) := by
  (refine Does.enterI Try.func93 Try.ntmps93 rfl rfl ?_)
  (refine wr ?_; repeat ((first | refine VO.step rfl rfl ?_ | refine VD.end rfl rfl rfl ?_ | refine VD.mid rfl rfl rfl ?_); refine OpV.box rfl rfl rfl ?_; intro _; refine wr ?_))
  ((first | refine VO.step rfl rfl ?_ | refine VD.end rfl rfl rfl ?_ | refine VD.mid rfl rfl rfl ?_); refine OpV.call rfl rfl (fun _ _ => by simp) (size_ok rfl (by omega)) Ent.refl rfl ?_)
  intro _ _
  (refine wr ?_; repeat ((first | refine VO.step rfl rfl ?_ | refine VD.end rfl rfl rfl ?_ | refine VD.mid rfl rfl rfl ?_); refine OpV.box rfl rfl rfl ?_; intro _; refine wr ?_))
  refine VR.loop (α := Nat) (fun i => i ≤ n) (fun i => LoopR l b :: Row b1 113 [.slice (some la) (n * 128) cap] :: Row b2 3 [.int .i64 at_] :: G i)
    (fun i => [(0, .func (.yield l) #[] #[]), (1, .pointer (some ⟨b1, 0, none⟩)), (2, .pointer (some ⟨b2, 0, none⟩)), (7, .int .i64 n), (8, .int .i64 i)]) (fun i => n - i) rfl 0 (Nat.zero_le _) Ent.re ⟨rfl, rfl, rfl, rfl, rfl, trivial⟩ ?_
  intro i hi
  (refine wr ?_; repeat ((first | refine VO.step rfl rfl ?_ | refine VD.end rfl rfl rfl ?_ | refine VD.mid rfl rfl rfl ?_); refine OpV.box rfl rfl rfl ?_; intro _; refine wr ?_))
  (refine VR.cond rfl rfl ?_ ?_ <;> intro hc)
  · have hlt : i < n := by have := of_decide_eq_true hc; omega
    (refine wr ?_; repeat ((first | refine VO.step rfl rfl ?_ | refine VD.end rfl rfl rfl ?_ | refine VD.mid rfl rfl rfl ?_); refine OpV.box rfl rfl rfl ?_; intro _; refine wr ?_))
    (refine VR.quiet rfl (by kernel_rfl) (by kernel_rfl) ?_)
    (refine wr ?_; repeat ((first | refine VO.step rfl rfl ?_ | refine VD.end rfl rfl rfl ?_ | refine VD.mid rfl rfl rfl ?_); refine OpV.box rfl rfl rfl ?_; intro _; refine wr ?_))
    (refine VQ.call rfl rfl rfl rfl (fun _ _ => by simp) (size_ok rfl (by omega)) Ent.refl Ent.refl rfl ?_)
    apply VQ.pure rfl rfl
    · exact PureAt.rem (a := at_ + i) (b := n) rfl rfl (by omega)
    · rfl
    have hr : (at_ + i) % n < n := Nat.mod_lt _ (by omega)
    (first | refine VO.nil rfl ?_ | refine VQ.nil rfl ?_ | refine VD.nil ?_ | ((first | apply VO.pure rfl rfl | apply VQ.pure rfl rfl | apply VD.take rfl rfl rfl | (refine VD.end rfl rfl rfl ?_; apply OpV.pure)); (first | (apply PureAt.ar64 rfl rfl rfl; omega) | exact .eval tab_ok rfl | (apply PureAt.ld tab_ok rfl rfl; (focus repeat first | exact .head _ | apply List.Mem.tail); rfl) | (apply PureAt.shr rfl rfl (by decide) (by decide)) | (apply PureAt.shr rfl rfl (by omega) (by simp only [IntKind.bits]; omega)) | exact .fieldAddrA tab_ok rfl rfl | exact .sliceLH tab_ok rfl rfl rfl rfl (by omega) (by omega) | exact .sliceH tab_ok rfl rfl rfl (by omega) | exact .sliceL tab_ok rfl rfl rfl (by omega) | (first | exact .indexAddr tab_ok rfl rfl rfl rfl (by omega) | exact .indexAddrN tab_ok rfl rfl rfl rfl (by omega) | exact .indexAddrI tab_ok rfl rfl rfl rfl (toNatLit _) (by decide) (by omega) | exact .indexAddrNI tab_ok rfl rfl rfl rfl (toNatLit _) (by decide) (by omega) | exact .ldR tab_ok rfl rfl hr1 (List.getElem?_eq_getElem (by omega)) | exact .ldR tab_ok rfl rfl hr2 (List.getElem?_eq_getElem (by omega)) | exact ldB tab_ok rfl rfl hb1 (by omega) | exact ldB tab_ok rfl rfl hb2 (by omega)) | exact .sliceHI tab_ok rfl rfl rfl (toNatLit _) (by decide) (by omega) | exact .sliceLI tab_ok rfl rfl rfl (toNatLit _) (by decide) (by omega) | (apply PureAt.ldA tab_ok rfl rfl; (focus repeat first | exact .head _ | apply List.Mem.tail); rfl; rfl) | exact .ldro tab_ok rfl rfl (by assumption)); rfl) | refine VO.skip rfl rfl rfl rfl ?_ | refine VQ.skip rfl rfl rfl rfl ?_ | refine VD.skip rfl rfl rfl rfl rfl ?_ | refine VD.skipM rfl rfl Ent.refl rfl rfl rfl ?_ | ((first | refine VO.step rfl rfl ?_ | refine VD.end rfl rfl rfl ?_ | refine VD.mid rfl rfl rfl ?_); (first | (apply OpV.st tab_ok rfl rfl rfl rfl (by (repeat first | exact .head | apply Hole.tail); first | done | fail) (by first | (simp; done) | fail)) | (refine OpV.box rfl rfl rfl ?_; intro _))) | refine ⟨Ent.re, ?_⟩)
    (first | refine VO.nil rfl ?_ | refine VQ.nil rfl ?_ | refine VD.nil ?_ | ((first | apply VO.pure rfl rfl | apply VQ.pure rfl rfl | apply VD.take rfl rfl rfl | (refine VD.end rfl rfl rfl ?_; apply OpV.pure)); (first | (apply PureAt.ar64 rfl rfl rfl; omega) | exact .eval tab_ok rfl | (apply PureAt.ld tab_ok rfl rfl; (focus repeat first | exact .head _ | apply List.Mem.tail); rfl) | (apply PureAt.shr rfl rfl (by decide) (by decide)) | (apply PureAt.shr rfl rfl (by omega) (by simp only [IntKind.bits]; omega)) | exact .fieldAddrA tab_ok rfl rfl | exact .sliceLH tab_ok rfl rfl rfl rfl (by omega) (by omega) | exact .sliceH tab_ok rfl rfl rfl (by omega) | exact .sliceL tab_ok rfl rfl rfl (by omega) | (first | exact .indexAddr tab_ok rfl rfl rfl rfl (by omega) | exact .indexAddrN tab_ok rfl rfl rfl rfl (by omega) | exact .indexAddrI tab_ok rfl rfl rfl rfl (toNatLit _) (by decide) (by omega) | exact .indexAddrNI tab_ok rfl rfl rfl rfl (toNatLit _) (by decide) (by omega) | exact .ldR tab_ok rfl rfl hr1 (List.getElem?_eq_getElem (by omega)) | exact .ldR tab_ok rfl rfl hr2 (List.getElem?_eq_getElem (by omega)) | exact ldB tab_ok rfl rfl hb1 (by omega) | exact ldB tab_ok rfl rfl hb2 (by omega)) | exact .sliceHI tab_ok rfl rfl rfl (toNatLit _) (by decide) (by omega) | exact .sliceLI tab_ok rfl rfl rfl (toNatLit _) (by decide) (by omega) | (apply PureAt.ldA tab_ok rfl rfl; (focus repeat first | exact .head _ | apply List.Mem.tail); rfl; rfl) | exact .ldro tab_ok rfl rfl (by assumption)); rfl) | refine VO.skip rfl rfl rfl rfl ?_ | refine VQ.skip rfl rfl rfl rfl ?_ | refine VD.skip rfl rfl rfl rfl rfl ?_ | refine VD.skipM rfl rfl Ent.refl rfl rfl rfl ?_ | ((first | refine VO.step rfl rfl ?_ | refine VD.end rfl rfl rfl ?_ | refine VD.mid rfl rfl rfl ?_); (first | (apply OpV.st tab_ok rfl rfl rfl rfl (by (repeat first | exact .head | apply Hole.tail); first | done | fail) (by first | (simp; done) | fail)) | (refine OpV.box rfl rfl rfl ?_; intro _))) | refine ⟨Ent.re, ?_⟩)
    refine VQ.re 5 (.int .i64 (((at_ + i) % n * 128 : Nat) : Int)) rfl (by congr 1) ?_
    refine VQ.nil rfl ?_
    refine VE.sh ?_
    refine VF.next ?_
    refine VR.seq rfl ?_
    refine VR.regionI rfl ?_
    iterate 6 (first | (apply VI.pure rfl rfl; (first | (apply PureAt.ar64 rfl rfl rfl; omega) | exact .eval tab_ok rfl | (apply PureAt.ld tab_ok rfl rfl; (focus repeat first | exact .head _ | apply List.Mem.tail); rfl) | (apply PureAt.shr rfl rfl (by decide) (by decide)) | (apply PureAt.shr rfl rfl (by omega) (by simp only [IntKind.bits]; omega)) | exact .fieldAddrA tab_ok rfl rfl | exact .sliceLH tab_ok rfl rfl rfl rfl (by omega) (by omega) | exact .sliceH tab_ok rfl rfl rfl (by omega) | exact .sliceL tab_ok rfl rfl rfl (by omega) | (first | exact .indexAddr tab_ok rfl rfl rfl rfl (by omega) | exact .indexAddrN tab_ok rfl rfl rfl rfl (by omega) | exact .indexAddrI tab_ok rfl rfl rfl rfl (toNatLit _) (by decide) (by omega) | exact .indexAddrNI tab_ok rfl rfl rfl rfl (toNatLit _) (by decide) (by omega) | exact .ldR tab_ok rfl rfl hr1 (List.getElem?_eq_getElem (by omega)) | exact .ldR tab_ok rfl rfl hr2 (List.getElem?_eq_getElem (by omega)) | exact ldB tab_ok rfl rfl hb1 (by omega) | exact ldB tab_ok rfl rfl hb2 (by omega)) | exact .sliceHI tab_ok rfl rfl rfl (toNatLit _) (by decide) (by omega) | exact .sliceLI tab_ok rfl rfl rfl (toNatLit _) (by decide) (by omega) | (apply PureAt.ldA tab_ok rfl rfl; (focus repeat first | exact .head _ | apply List.Mem.tail); rfl; rfl) | exact .ldro tab_ok rfl rfl (by assumption)); rfl))
    have hk : (at_ + i) % n * 128 + 128 ≤ cap := by omega
    have hsl : ∀ {f : Fr} {H : List SProp} {m : Nat} {x y z : Operand} {dst : Option Tmp} {ty_ : TypeId} {pos : String} {after : Array Edge} {guard : Option (Nat × Bool)} {k k' : IntKind} {t : TypeId}, evalX f x = some (.slice (some la) m cap) → evalX f y = some (.int k (((at_ + i) % n * 128 : Nat) : Int)) → evalX f z = some (.int k' (((at_ + i) % n * 128 + 128 : Nat) : Int)) → TabData.esz tab t = some 1 →
        PureAt W Try.prog 28 H f { dst, op := .slice t x (some y) (some z) none, type := ty_, pos, after, guard } (.slice (some (la.add ((at_ + i) % n * 128))) 128 (cap - (at_ + i) % n * 128)) := by
      intro f H m x y z dst ty_ pos after guard k k' t h1 h2 h3 h4
      have h5 := PureAt.sliceLH (W := W) (n := 28) (H := H) (dst := dst) (ty_ := ty_) (pos := pos) (after := after) (guard := guard) tab_ok h1 h2 h3 h4 (by omega) hk
      rw [subA_some (by omega), Nat.mul_one, Nat.add_sub_cancel_left] at h5
      exact h5
    apply VI.pure rfl rfl
    · exact hsl rfl rfl rfl rfl
    · rfl
    refine VI.yield rfl rfl rfl rfl (yld i hlt) Ent.refl rfl ?_ (fun x hx => ?_)
    · (first | (apply VI.pure rfl rfl; (first | (apply PureAt.ar64 rfl rfl rfl; omega) | exact .eval tab_ok rfl | (apply PureAt.ld tab_ok rfl rfl; (focus repeat first | exact .head _ | apply List.Mem.tail); rfl) | (apply PureAt.shr rfl rfl (by decide) (by decide)) | (apply PureAt.shr rfl rfl (by omega) (by simp only [IntKind.bits]; omega)) | exact .fieldAddrA tab_ok rfl rfl | exact .sliceLH tab_ok rfl rfl rfl rfl (by omega) (by omega) | exact .sliceH tab_ok rfl rfl rfl (by omega) | exact .sliceL tab_ok rfl rfl rfl (by omega) | (first | exact .indexAddr tab_ok rfl rfl rfl rfl (by omega) | exact .indexAddrN tab_ok rfl rfl rfl rfl (by omega) | exact .indexAddrI tab_ok rfl rfl rfl rfl (toNatLit _) (by decide) (by omega) | exact .indexAddrNI tab_ok rfl rfl rfl rfl (toNatLit _) (by decide) (by omega) | exact .ldR tab_ok rfl rfl hr1 (List.getElem?_eq_getElem (by omega)) | exact .ldR tab_ok rfl rfl hr2 (List.getElem?_eq_getElem (by omega)) | exact ldB tab_ok rfl rfl hb1 (by omega) | exact ldB tab_ok rfl rfl hb2 (by omega)) | exact .sliceHI tab_ok rfl rfl rfl (toNatLit _) (by decide) (by omega) | exact .sliceLI tab_ok rfl rfl rfl (toNatLit _) (by decide) (by omega) | (apply PureAt.ldA tab_ok rfl rfl; (focus repeat first | exact .head _ | apply List.Mem.tail); rfl; rfl) | exact .ldro tab_ok rfl rfl (by assumption)); rfl))
      refine VI.nil rfl ?_
      (refine wr ?_; repeat ((first | refine VO.step rfl rfl ?_ | refine VD.end rfl rfl rfl ?_ | refine VD.mid rfl rfl rfl ?_); refine OpV.box rfl rfl rfl ?_; intro _; refine wr ?_))
      exact VF.round (i + 1) (by omega) (by omega) ⟨rfl, rfl, rfl, rfl, asV rfl (by congr 1), trivial⟩ Ent.re
    · (first | (apply VI.pure rfl rfl; (first | (apply PureAt.ar64 rfl rfl rfl; omega) | exact .eval tab_ok rfl | (apply PureAt.ld tab_ok rfl rfl; (focus repeat first | exact .head _ | apply List.Mem.tail); rfl) | (apply PureAt.shr rfl rfl (by decide) (by decide)) | (apply PureAt.shr rfl rfl (by omega) (by simp only [IntKind.bits]; omega)) | exact .fieldAddrA tab_ok rfl rfl | exact .sliceLH tab_ok rfl rfl rfl rfl (by omega) (by omega) | exact .sliceH tab_ok rfl rfl rfl (by omega) | exact .sliceL tab_ok rfl rfl rfl (by omega) | (first | exact .indexAddr tab_ok rfl rfl rfl rfl (by omega) | exact .indexAddrN tab_ok rfl rfl rfl rfl (by omega) | exact .indexAddrI tab_ok rfl rfl rfl rfl (toNatLit _) (by decide) (by omega) | exact .indexAddrNI tab_ok rfl rfl rfl rfl (toNatLit _) (by decide) (by omega) | exact .ldR tab_ok rfl rfl hr1 (List.getElem?_eq_getElem (by omega)) | exact .ldR tab_ok rfl rfl hr2 (List.getElem?_eq_getElem (by omega)) | exact ldB tab_ok rfl rfl hb1 (by omega) | exact ldB tab_ok rfl rfl hb2 (by omega)) | exact .sliceHI tab_ok rfl rfl rfl (toNatLit _) (by decide) (by omega) | exact .sliceLI tab_ok rfl rfl rfl (toNatLit _) (by decide) (by omega) | (apply PureAt.ldA tab_ok rfl rfl; (focus repeat first | exact .head _ | apply List.Mem.tail); rfl; rfl) | exact .ldro tab_ok rfl rfl (by assumption)); rfl))
      refine VI.nil rfl ?_
      (refine wr ?_; repeat ((first | refine VO.step rfl rfl ?_ | refine VD.end rfl rfl rfl ?_ | refine VD.mid rfl rfl rfl ?_); refine OpV.box rfl rfl rfl ?_; intro _; refine wr ?_))
      exact VF.done (.inl rfl) (some x) resOf_none hx rfl Ent.refl
  have hend : i = n := by have := of_decide_eq_false hc; omega
  subst hend
  (refine wr ?_; repeat ((first | refine VO.step rfl rfl ?_ | refine VD.end rfl rfl rfl ?_ | refine VD.mid rfl rfl rfl ?_); refine OpV.box rfl rfl rfl ?_; intro _; refine wr ?_))
  exact VF.done (.inr rfl) none resOf_none trivial rfl Ent.re
end Go.Proofs.Ytlojjlbngnaphaa

/-! Text Ne. -/
/- Scan: one batch is read: a range over the ring's sectors. -/
set_option maxRecDepth 8000
set_option linter.unusedVariables false
set_option linter.unusedSimpArgs false
set_option linter.unusedSectionVars false
namespace Go.Proofs.Ytlojjlbngnaphaa
open Go.RowKit Go.Sl
attribute [local irreducible] Own

theorem wfUN {z : Nat} (h : z < 2 ^ 64) : (Lit.int .u64 (z : Int)).wf = true := by simp [Lit.wf, IntKind.min, IntKind.max, IntKind.signed, IntKind.bits]; omega
theorem wfWN {z : Nat} (h : z < 4294967296) : (Lit.int .u32 (z : Int)).wf = true := by simp [Lit.wf, IntKind.min, IntKind.max, IntKind.signed, IntKind.bits]; omega
theorem wfIN {z : Int} (h : -9223372036854775808 ≤ z ∧ z ≤ 9223372036854775807) : (Lit.int .i64 z).wf = true := by simp [Lit.wf, IntKind.min, IntKind.max, IntKind.signed, IntKind.bits]; omega
theorem cmt_sameN (a b : CmtD) : a = b ↔ a.epoch = b.epoch ∧ a.seq = b.seq ∧ a.count = b.count ∧ a.sum = b.sum := by cases a; cases b; simp
theorem cmt_eqN {W : World} {n : Nat} {H : List SProp} {f : Fr} {dst : Option Tmp} {ty_ : TypeId} {pos : String} {after : Array Edge} {guard : Option (Nat × Bool)} {op : BinOp} {x y : Operand} {u : TypeId} {v : Value} {a b : CmtD} (hx : evalX f x = some (.agg a.cells.toArray)) (hy : evalX f y = some (.agg b.cells.toArray)) (ha : a.fit) (hb : b.fit) (hv : eqB op (decide (a = b)) = some v) :
    PureAt W Try.prog n H f { dst, op := .binOp op 95 x y u, type := ty_, pos, after, guard } v := by
  refine PureAt.eqFlat (ks := [some .u64, some .u64, some .i64, some .u32]) (cs := a.cells) (ds := b.cells) (by kernel_rfl) hx hy rfl rfl rfl rfl ?_ ?_ ?_ hv
  · intro l hl; simp only [List.mem_cons, List.not_mem_nil, or_false] at hl
    rcases hl with h | h | h | h <;> subst h <;> first | exact wfUN ha.epoch | exact wfUN ha.seq | exact wfIN ha.count | exact wfWN ha.sum
  · intro l hl; simp only [List.mem_cons, List.not_mem_nil, or_false] at hl
    rcases hl with h | h | h | h <;> subst h <;> first | exact wfUN hb.epoch | exact wfUN hb.seq | exact wfIN hb.count | exact wfWN hb.sum
  · rw [decide_eq_true_iff, cmt_sameN]; simp; omega
theorem dec_fitC (b : List UInt8) : (CmtD.dec b).2.fit := by
  have hz : zeroC.fit := ⟨by decide, by decide, by decide, by decide⟩
  unfold CmtD.dec
  split
  · exact hz
  · split
    · exact cmt_fit b
    · exact hz
theorem dec_countB (b : List UInt8) : 0 ≤ (HdrD.dec b).2.count ∧ (HdrD.dec b).2.count ≤ 1023 := by
  by_cases h : (HdrD.dec b).1 = 0
  · have := (hdr_decO h).2.1.2.1; omega
  · unfold HdrD.dec at h ⊢
    split
    · exact ⟨by show (0:Int) ≤ zeroH.count; decide, by show zeroH.count ≤ 1023; decide⟩
    · rename_i h1
      rw [if_neg h1] at h
      split
      · rename_i h2; rw [if_pos h2] at h; exact absurd rfl h
      · exact ⟨by show (0:Int) ≤ zeroH.count; decide, by show zeroH.count ≤ 1023; decide⟩
/-! ### What the rounds keep -/
structure BSt where
  pats : List PatE
  x : Option Addr × Nat
  head : HdrD
  cnt : Int
def hdOk (sec : SecF) (e s : Nat) (n : Int) (j : Nat) : Prop :=
  (HdrD.dec (sec (2 * j))).1 = 0 ∧ (HdrD.dec (sec (2 * j))).2.epoch = e ∧ (HdrD.dec (sec (2 * j))).2.seq = s ∧ (HdrD.dec (sec (2 * j))).2.index = j ∧ (HdrD.dec (sec (2 * j))).2.count = n
structure BInv (sec : SecF) (room e s i : Nat) (st : BSt) : Prop where
  zero : i = 0 → st.cnt = 0
  pos : 0 < i → st.cnt = batN sec ∧ 1 ≤ batN sec ∧ batN sec ≤ 1023 ∧ (HdrD.dec (sec 0)).1 = 0 ∧ 2 * batN sec + 1 ≤ room ∧ (i : Int) ≤ 2 * batN sec
  each : ∀ j, 2 * j + 1 < i → stepOk sec e s (batN sec) j
  odd : ∀ j, i = 2 * j + 1 → hdOk sec e s (batN sec) j ∧ st.head = (HdrD.dec (sec (2 * j))).2
  pats : st.pats.map PatE.D = (List.range (i / 2)).map (patAt sec)
theorem BInv.start (sec : SecF) (room e s : Nat) (x : Option Addr × Nat) : BInv sec room e s 0 ⟨[], x, zeroH, 0⟩ :=
  ⟨fun _ => rfl, fun h => absurd h (by omega), fun j h => absurd h (by omega), fun j h => absurd h (by omega), rfl⟩
theorem dec_count {sec : SecF} (h : (HdrD.dec (sec 0)).1 = 0) : 1 ≤ batN sec ∧ batN sec ≤ 1023 := (hdr_decO h).2.1.2.1
theorem bat_room0 {sec : SecF} {room e s i : Nat} {st : BSt} (h : BInv sec room e s i st) (hr : i = room) : batM sec room e s = none := by
  unfold batM
  rw [if_neg]
  rintro ⟨h0, h1, _⟩
  have hc := dec_count h0
  rcases Nat.eq_zero_or_pos i with hi | hi
  · omega
  · have := h.pos hi; omega
theorem bat_head0 {sec : SecF} {room e s i j : Nat} {st : BSt} (h : BInv sec room e s i st) (hj : i = 2 * j) (hn : 0 < i → i ≠ 2 * (batN sec).toNat) (hbad : ¬ (hdOk sec e s (batN sec) j ∧ 2 * batN sec + 1 ≤ room)) : batM sec room e s = none := by
  unfold batM
  rw [if_neg]
  rintro ⟨h0, h1, h2, _⟩
  have hc := dec_count h0
  refine hbad ⟨?_, h1⟩
  have hlt : j < (batN sec).toNat := by
    rcases Nat.eq_zero_or_pos i with hi | hi
    · omega
    · have := h.pos hi; have := hn hi; omega
  have := h2 j hlt
  exact ⟨this.1, this.2.1, this.2.2.1, this.2.2.2.1, this.2.2.2.2.1⟩
theorem bat_data0 {sec : SecF} {room e s i j : Nat} {st : BSt} (h : BInv sec room e s i st) (hj : i = 2 * j + 1) (hbad : ¬ ((unD (sec (2 * j + 1)) (HdrD.dec (sec (2 * j))).2.escaped).2 = 0 ∧ (crcS (sec (2 * j + 1))).toNat = (HdrD.dec (sec (2 * j))).2.sum)) : batM sec room e s = none := by
  unfold batM
  rw [if_neg]
  rintro ⟨h0, h1, h2, _⟩
  have hp := h.pos (by omega)
  have := h2 j (by omega)
  exact hbad this.2.2.2.2.2
theorem bat_end {sec : SecF} {room e s i : Nat} {st : BSt} (h : BInv sec room e s i st) (hi : 0 < i) (hn : (i : Int) = 2 * batN sec) :
    (batM sec room e s).isSome = decide (CmtD.dec (sec i) = (0, ⟨e, s, batN sec, (crcS (headsF sec (batN sec).toNat)).toNat⟩)) ∧ ∀ l, batM sec room e s = some l → st.pats.map PatE.D = l := by
  have hp := h.pos hi
  have hi2 : i = 2 * (batN sec).toNat := by omega
  unfold batM
  constructor
  · by_cases hc : CmtD.dec (sec i) = (0, ⟨e, s, batN sec, (crcS (headsF sec (batN sec).toNat)).toNat⟩)
    · rw [if_pos, decide_eq_true hc]; · rfl
      exact ⟨hp.2.2.2.1, hp.2.2.2.2.1, fun j hj => h.each j (by omega), by rw [← hi2]; exact hc⟩
    · rw [if_neg, decide_eq_false hc]; · rfl
      rintro ⟨_, _, _, q⟩
      rw [← hi2] at q; exact hc q
  · intro l hl
    split at hl
    · injection hl with hl
      rw [← hl, h.pats, show i / 2 = (batN sec).toNat by omega]
    · cases hl
/-- Behind a header that is as it must be. -/
theorem BInv.head_next {sec : SecF} {room e s i j : Nat} {st : BSt} (h : BInv sec room e s i st) (hj : i = 2 * j) (hok : hdOk sec e s (batN sec) j) (hroom : 2 * batN sec + 1 ≤ room) (hlt : (j : Int) < batN sec) (h0 : (HdrD.dec (sec 0)).1 = 0) :
    BInv sec room e s (i + 1) ⟨st.pats, st.x, (HdrD.dec (sec (2 * j))).2, batN sec⟩ := by
  have hc := dec_count h0
  refine ⟨fun q => absurd q (by omega), fun _ => ⟨rfl, hc.1, hc.2, h0, hroom, by omega⟩, fun k hk => h.each k (by omega), fun k hk => ?_, ?_⟩
  · obtain rfl : k = j := by omega
    exact ⟨hok, rfl⟩
  · show st.pats.map PatE.D = _
    rw [h.pats, show (i + 1) / 2 = i / 2 by omega]
theorem BInv.data_next {sec : SecF} {room e s i j : Nat} {st : BSt} (h : BInv sec room e s i st) (hj : i = 2 * j + 1) (x : Option Addr × Nat) (p : PatE) (hp : p.D = patAt sec j)
    (hok : (unD (sec (2 * j + 1)) (HdrD.dec (sec (2 * j))).2.escaped).2 = 0 ∧ (crcS (sec (2 * j + 1))).toNat = (HdrD.dec (sec (2 * j))).2.sum) : BInv sec room e s (i + 1) ⟨st.pats ++ [p], x, st.head, st.cnt⟩ := by
  have h1 := h.pos (by omega)
  have h2 := h.odd j hj
  refine ⟨fun q => absurd q (by omega), fun _ => ⟨h1.1, h1.2.1, h1.2.2.1, h1.2.2.2.1, h1.2.2.2.2.1, by omega⟩, fun k hk => ?_, fun k hk => absurd hk (by omega), ?_⟩
  · by_cases hkj : k = j
    · subst hkj
      exact ⟨h2.1.1, h2.1.2.1, h2.1.2.2.1, h2.1.2.2.2.1, h2.1.2.2.2.2, hok.1, hok.2⟩
    · exact h.each k (by omega)
  · show (st.pats ++ [p]).map PatE.D = _
    rw [List.map_append, h.pats, show i / 2 = j by omega, show (i + 1) / 2 = j + 1 by omega, List.range_succ, List.map_append, List.map_cons, List.map_nil, hp]
    rfl
end Go.Proofs.Ytlojjlbngnaphaa

/-! Text Nf. -/
/- Scan: one batch is read: the walk. -/
set_option maxRecDepth 8000
set_option linter.unusedVariables false
set_option linter.unusedSimpArgs false
set_option linter.unusedSectionVars false
namespace Go.Proofs.Ytlojjlbngnaphaa
open Go.RowKit Go.Sl
attribute [local irreducible] Own

theorem doesPre {W : World} {P : Program} {g : FuncId} {args : List Value} {H H' : List SProp} {β : Type} {A : β → Prop} {r : β → Value} {G : β → List SProp} (e : Ent W H H') (h : Does W P g args H' A r G) : Does W P g args H A r G := by
  unfold Does at h ⊢
  exact fun w hw => h w (e w hw)
/-- What lies in memory between the rounds. -/
structure BBl where
  n7 : Nat
  n8 : Nat
  n9 : Nat
  n10 : Nat
  n11 : Nat
  n12 : Nat
  n13 : Nat
  n14 : Nat
  n15 : Nat
  d : Nat
def bFix (room e s : Nat) (B : BBl) (R : List SProp) : List SProp :=
  Row B.n7 3 [.int .i64 room] :: Row B.n8 22 [.int .u64 e] :: Row B.n9 22 [.int .u64 s] :: Row B.n15 83 [.pointer (some ⟨B.d, 0, none⟩)] :: R
def bMov (sec : SecF) (s : Nat) (B : BBl) (i : Nat) (st : BSt) : List SProp :=
  [Row B.n12 25 [.int .u64 s, .slice st.x.1 st.pats.length st.x.2], Row B.n13 90 st.head.cells, Row B.n14 3 [.int .i64 st.cnt], DigR B.d (crcS (headsF sec ((i + 1) / 2))), PatsO st.x st.pats, PilP st.pats]
def bSt (sec : SecF) (room e s : Nat) (B : BBl) (i : Nat) : SProp := ex fun st : BSt => star (fact (BInv sec room e s i st) :: bMov sec s B i st)
theorem bSt_shut {W : World} {R : List SProp} {sec : SecF} {room e s i : Nat} {B : BBl} {st : BSt} (h : BInv sec room e s i st) : Ent W (bMov sec s B i st ++ R) (bSt sec room e s B i :: R) := fun w hw =>
  Holds.exShut st (Holds.nest (L := fact (BInv sec room e s i st) :: bMov sec s B i st) (Holds.factShut h hw))
theorem bSt_open {W w : World} {R : List SProp} {sec : SecF} {room e s i : Nat} {B : BBl} (h : Holds W (bSt sec room e s B i :: R) w) : ∃ st : { st : BSt // BInv sec room e s i st }, Holds W (bMov sec s B i st.1 ++ R) w := by
  obtain ⟨st, h1⟩ := h.exOpen
  have h2 : Holds W (fact (BInv sec room e s i st) :: (bMov sec s B i st ++ R)) w := h1.join
  exact ⟨⟨st, h2.factOpen⟩, h2.tail⟩
theorem bSt_start {W : World} {R : List SProp} {sec : SecF} {room e s : Nat} {B : BBl} :
    Ent W (Row B.n12 25 [.int .u64 s, .slice none 0 0] :: Row B.n13 90 zeroH.cells :: Row B.n14 3 [.int .i64 0] :: DigR B.d 0#32 :: R) (bSt sec room e s B 0 :: R) := fun w hw => by
  have h1 := (pile_nil (res := PatE.res) hw).ownNil 78 3
  refine bSt_shut (BInv.start sec room e s (none, 0)) w ?_
  have e1 : crcS (headsF sec ((0 + 1) / 2)) = 0#32 := crcM_nil _
  unfold bMov
  rw [e1]
  exact (Ent.re : Ent W _ _) w h1
def bRes (B : BBl) (t : TxnE) (ok : Bool) : List SProp := [Row B.n10 25 t.cells, Row B.n11 4 [.bool ok]]

theorem vfAbsurd {W : World} {n : Nat} {m : Md} {Q : Exit → Act → World → Prop} {e : Exit} {H : List SProp} {f : Fr} (h : ∀ w, Holds W H w → False) : VF W n m Q e H f := by
  unfold VF
  exact fun _ t w hk hw => (h w hw).elim

set_option maxHeartbeats 1000000 in
theorem batch_ok {W : World} {R : List SProp} {la : Addr} {cap n : Nat} {data : List UInt8} (hn : n ≤ 2048) (hcap : n * 128 ≤ cap) (at_ room e s : Nat) (ha : at_ < n) (hroom : room ≤ n) (he : e < 2 ^ 64) (hs : s < 2 ^ 64) (hd : data.length = n * 128) (hr : Rds W R 1 (some la) (n * 128) (bytes data)) (sec : SecF) (hsec : ∀ i, sec i = (data.drop ((at_ + i) % n * 128)).take 128) :
    Does W Try.prog 57 [.slice (some la) (n * 128) cap, .int .i64 at_, .int .i64 room, .int .u64 e, .int .u64 s] R (β := TxnE) (fun t => t.seq = s ∧ ∀ l, batM sec room e s = some l → t.pats.map PatE.D = l) (fun t => .tuple #[.agg t.cells.toArray, .bool (batM sec room e s).isSome]) (fun t => PatsO (t.ao, t.cap) t.pats :: PilP t.pats :: R) := by
  have hsl : ∀ i, (sec i).length = 128 := by
    intro i
    have hm : (at_ + i) % n < n := Nat.mod_lt _ (by omega)
    rw [hsec, List.length_take, List.length_drop, hd]; omega
  have hsr : ∀ i, Rds W R 1 (some (la.add ((at_ + i) % n * 128))) (sec i).length (bytes (sec i)) := by
    intro i
    have hm : (at_ + i) % n < n := Nat.mod_lt _ (by omega)
    have h1 := hr.sub (cap := cap) (l := (at_ + i) % n * 128) (h := (at_ + i) % n * 128 + 128) (by omega) (by omega) hcap
    rw [subA_some (by omega), Nat.add_sub_cancel_left, Nat.mul_one, Nat.mul_one] at h1
    rw [hsl i, hsec]
    have e1 : bytes ((data.drop ((at_ + i) % n * 128)).take 128) = ((bytes data).drop ((at_ + i) % n * 128)).take 128 := by simp [bytes, List.map_take, List.map_drop]
    rw [e1]; exact h1
  (refine Does.enterM Try.func57 Try.ntmps57 rfl rfl ?_)
  (refine wr ?_; repeat ((first | refine VO.step rfl rfl ?_ | refine VD.end rfl rfl rfl ?_ | refine VD.mid rfl rfl rfl ?_); refine OpV.box rfl rfl rfl ?_; intro _; refine wr ?_))
  rename_i n7 n8 n9
  ((first | refine VO.step rfl rfl ?_ | refine VD.end rfl rfl rfl ?_ | refine VD.mid rfl rfl rfl ?_); refine OpV.allocS sb_25 rfl ?_; intro n10)
  (refine wr ?_; repeat ((first | refine VO.step rfl rfl ?_ | refine VD.end rfl rfl rfl ?_ | refine VD.mid rfl rfl rfl ?_); refine OpV.box rfl rfl rfl ?_; intro _; refine wr ?_))
  ((first | refine VO.step rfl rfl ?_ | refine VD.end rfl rfl rfl ?_ | refine VD.mid rfl rfl rfl ?_); refine OpV.alloc (z := .bool false) (fun w => by simp) rfl rfl ?_; intro n11)
  (refine wr ?_; repeat ((first | refine VO.step rfl rfl ?_ | refine VD.end rfl rfl rfl ?_ | refine VD.mid rfl rfl rfl ?_); refine OpV.box rfl rfl rfl ?_; intro _; refine wr ?_))
  (apply VO.pure rfl rfl; apply PureAt.build sb_25 rfl; (simp [buildX, setL, Value.cells]; rfl); rfl)
  ((first | refine VO.step rfl rfl ?_ | refine VD.end rfl rfl rfl ?_ | refine VD.mid rfl rfl rfl ?_); refine OpV.allocS sb_25 rfl ?_; intro n12)
  (refine wr ?_; repeat ((first | refine VO.step rfl rfl ?_ | refine VD.end rfl rfl rfl ?_ | refine VD.mid rfl rfl rfl ?_); refine OpV.box rfl rfl rfl ?_; intro _; refine wr ?_))
  (first | refine VO.step rfl rfl ?_ | refine VD.end rfl rfl rfl ?_ | refine VD.mid rfl rfl rfl ?_)
  refine OpV.stA (vs := [.int .u64 s, .slice none 0 0]) tab_ok rfl rfl rfl rfl (by simp [Value.oneCell']) (by (repeat first | exact .head | apply Hole.tail)) (by simp) ?_
  (refine wr ?_; repeat ((first | refine VO.step rfl rfl ?_ | refine VD.end rfl rfl rfl ?_ | refine VD.mid rfl rfl rfl ?_); refine OpV.box rfl rfl rfl ?_; intro _; refine wr ?_))
  ((first | refine VO.step rfl rfl ?_ | refine VD.end rfl rfl rfl ?_ | refine VD.mid rfl rfl rfl ?_); refine OpV.allocS sb_90 rfl ?_; intro n13)
  (refine wr ?_; repeat ((first | refine VO.step rfl rfl ?_ | refine VD.end rfl rfl rfl ?_ | refine VD.mid rfl rfl rfl ?_); refine OpV.box rfl rfl rfl ?_; intro _; refine wr ?_))
  ((first | refine VO.step rfl rfl ?_ | refine VD.end rfl rfl rfl ?_ | refine VD.mid rfl rfl rfl ?_); refine OpV.alloc (z := .int .i64 0) (fun w => by simp) rfl rfl ?_; intro n14)
  (refine wr ?_; repeat ((first | refine VO.step rfl rfl ?_ | refine VD.end rfl rfl rfl ?_ | refine VD.mid rfl rfl rfl ?_); refine OpV.box rfl rfl rfl ?_; intro _; refine wr ?_))
  ((first | refine VO.step rfl rfl ?_ | refine VD.end rfl rfl rfl ?_ | refine VD.mid rfl rfl rfl ?_); refine OpV.call rfl rfl (fun _ _ => by simp) (dignew_ok) Ent.refl rfl ?_)
  intro d _
  (refine wr ?_; repeat ((first | refine VO.step rfl rfl ?_ | refine VD.end rfl rfl rfl ?_ | refine VD.mid rfl rfl rfl ?_); refine OpV.box rfl rfl rfl ?_; intro _; refine wr ?_))
  ((first | refine VO.step rfl rfl ?_ | refine VD.end rfl rfl rfl ?_ | refine VD.mid rfl rfl rfl ?_); refine OpV.alloc (z := .pointer none) (fun w => by simp) rfl rfl ?_; intro n15)
  (refine wr ?_; repeat ((first | refine VO.step rfl rfl ?_ | refine VD.end rfl rfl rfl ?_ | refine VD.mid rfl rfl rfl ?_); refine OpV.box rfl rfl rfl ?_; intro _; refine wr ?_))
  ((first | refine VO.step rfl rfl ?_ | refine VD.end rfl rfl rfl ?_ | refine VD.mid rfl rfl rfl ?_); refine OpV.call rfl rfl (fun _ _ => by simp) (from_ok at_) Ent.refl rfl ?_)
  rintro ⟨b1, b2⟩ -
  (refine wr ?_; repeat ((first | refine VO.step rfl rfl ?_ | refine VD.end rfl rfl rfl ?_ | refine VD.mid rfl rfl rfl ?_); refine OpV.box rfl rfl rfl ?_; intro _; refine wr ?_))
  refine VR.ent (H' := bSt sec room e s ⟨n7, n8, n9, n10, n11, n12, n13, n14, n15, d⟩ 0 :: Row b1 113 [.slice (some la) (n * 128) cap] :: Row b2 3 [.int .i64 at_] :: Row n10 25 [.int .u64 0, .slice none 0 0] :: Row n11 4 [.bool false] :: bFix room e s ⟨n7, n8, n9, n10, n11, n12, n13, n14, n15, d⟩ R) (Ent.trans ?_ (bSt_start (B := ⟨n7, n8, n9, n10, n11, n12, n13, n14, n15, d⟩))) ?_
  · unfold bFix; exact Ent.re
  refine VR.range (τ := TxnE) (gf := 93) (cap := #[.pointer (some ⟨b1, 0, none⟩), .pointer (some ⟨b2, 0, none⟩)]) (fun t => t.seq = s ∧ ∀ l, batM sec room e s = some l → t.pats.map PatE.D = l)
    (Row b1 113 [.slice (some la) (n * 128) cap] :: Row b2 3 [.int .i64 at_] :: bSt sec room e s (BBl.mk n7 n8 n9 n10 n11 n12 n13 n14 n15 d) n :: Row n10 25 [.int .u64 0, .slice none 0 0] :: Row n11 4 [.bool false] :: bFix room e s (BBl.mk n7 n8 n9 n10 n11 n12 n13 n14 n15 d) R)
    (fun t => bRes (BBl.mk n7 n8 n9 n10 n11 n12 n13 n14 n15 d) t (batM sec room e s).isSome ++ (PatsO (t.ao, t.cap) t.pats :: PilP t.pats :: R)) rfl rfl (fun _ _ => by simp) ?_ ?_ ?_
  · intro l D b h1 h2 h3 h4 h5 hk
    refine doesPre (H' := LoopR l b :: Row b1 113 [.slice (some la) (n * 128) cap] :: Row b2 3 [.int .i64 at_] :: At D (.deferred (some [])) :: bSt sec room e s (BBl.mk n7 n8 n9 n10 n11 n12 n13 n14 n15 d) 0 :: Row n10 25 [.int .u64 0, .slice none 0 0] :: Row n11 4 [.bool false] :: bFix room e s (BBl.mk n7 n8 n9 n10 n11 n12 n13 n14 n15 d) R) Ent.re ?_
    refine Does.mono (from1_ok hn hcap at_ ha l b1 b2 b (fun t : TxnE => t.seq = s ∧ ∀ l, batM sec room e s = some l → t.pats.map PatE.D = l)
      (fun i => At D (.deferred (some [])) :: bSt sec room e s (BBl.mk n7 n8 n9 n10 n11 n12 n13 n14 n15 d) i :: Row n10 25 [.int .u64 0, .slice none 0 0] :: Row n11 4 [.bool false] :: bFix room e s (BBl.mk n7 n8 n9 n10 n11 n12 n13 n14 n15 d) R)
      (fun t => At D (.deferred (some [])) :: (bRes (BBl.mk n7 n8 n9 n10 n11 n12 n13 n14 n15 d) t (batM sec room e s).isSome ++ (PatsO (t.ao, t.cap) t.pats :: PilP t.pats :: R))) ?_) id (fun _ h => h) (fun _ _ => rfl) ?_
    · intro i hi
      refine DoesR.body hk h1 h2 (by rw [h3]; rfl) (by rw [h3]; rfl) ?_
      rw [h3, h4, h5]
      (refine wr ?_; repeat ((first | refine VO.step rfl rfl ?_ | refine VD.end rfl rfl rfl ?_ | refine VD.mid rfl rfl rfl ?_); refine OpV.box rfl rfl rfl ?_; intro _; refine wr ?_))
      refine VF.begin (τ := Unit) (A2 := fun _ => True) (G2 := fun _ => []) (G1 := []) h1 ?_
      refine VR.ent (H' := bSt sec room e s (BBl.mk n7 n8 n9 n10 n11 n12 n13 n14 n15 d) i :: LoopR l (Loop.busy b) :: Row b1 113 [.slice (some la) (n * 128) cap] :: Row b2 3 [.int .i64 at_] :: At D (.deferred (some [])) :: Row n10 25 [.int .u64 0, .slice none 0 0] :: Row n11 4 [.bool false] :: bFix room e s (BBl.mk n7 n8 n9 n10 n11 n12 n13 n14 n15 d) R) Ent.re ?_
      refine VR.obtain (fun w hw => bSt_open hw) ?_
      rintro ⟨st, hI⟩
      obtain ⟨pats, x, hdr, cnt⟩ := st
      dsimp only [bMov, bFix, List.cons_append, List.nil_append]
      refine VR.re 17 (.slice (some (la.add ((at_ + i) % n * 128))) (sec i).length (cap - (at_ + i) % n * 128)) rfl (by rw [hsl i]) ?_
      (refine wr ?_; repeat ((first | refine VO.step rfl rfl ?_ | refine VD.end rfl rfl rfl ?_ | refine VD.mid rfl rfl rfl ?_); refine OpV.box rfl rfl rfl ?_; intro _; refine wr ?_))
      (refine VR.cond rfl rfl ?_ ?_ <;> intro hc)
      · have hz := bat_room0 hI (by have := hc; simp at this; omega)
        ((refine wr ?_; repeat ((first | refine VO.step rfl rfl ?_ | refine VD.end rfl rfl rfl ?_ | refine VD.mid rfl rfl rfl ?_); refine OpV.box rfl rfl rfl ?_; intro _; refine wr ?_)); (first | refine VO.step rfl rfl ?_ | refine VD.end rfl rfl rfl ?_ | refine VD.mid rfl rfl rfl ?_); refine OpV.stA (vs := [.int .u64 s, .slice x.1 pats.length x.2]) tab_ok rfl rfl rfl rfl (by simp [Value.oneCell']) (by (repeat first | exact .head | apply Hole.tail)) (by simp) ?_; (refine wr ?_; repeat ((first | refine VO.step rfl rfl ?_ | refine VD.end rfl rfl rfl ?_ | refine VD.mid rfl rfl rfl ?_); refine OpV.box rfl rfl rfl ?_; intro _; refine wr ?_)); refine VF.stop (⟨s, x.1, x.2, pats⟩ : TxnE) ⟨rfl, fun l hl => by rw [hz] at hl; cases hl⟩ ?_; rw [hz]; exact Ent.re)
      have hne : i ≠ room := by have := hc; simp at this; omega
      clear hc
      have hcb : 0 ≤ cnt ∧ cnt ≤ 1023 := by
        rcases Nat.eq_zero_or_pos i with h0 | h0
        · have := hI.zero h0; simp only at this; omega
        · have := hI.pos h0; simp only at this; omega
      have hmod : (at_ + i) % n < n := Nat.mod_lt _ (by omega)
      have hkc : (sec i).length ≤ cap - (at_ + i) % n * 128 := by rw [hsl]; omega
      refine VR.seq rfl ?_
      refine VR.joinH [(65, .bool (decide (0 < cnt ∧ (i : Int) = 2 * cnt))), (7, .pointer (some ⟨n7, 0, none⟩)), (8, .pointer (some ⟨n8, 0, none⟩)), (9, .pointer (some ⟨n9, 0, none⟩)), (10, .pointer (some ⟨n10, 0, none⟩)), (11, .pointer (some ⟨n11, 0, none⟩)), (12, .pointer (some ⟨n12, 0, none⟩)), (13, .pointer (some ⟨n13, 0, none⟩)), (14, .pointer (some ⟨n14, 0, none⟩)), (15, .pointer (some ⟨n15, 0, none⟩)), (16, .int .i64 i), (17, .slice (some (la.add ((at_ + i) % n * 128))) (sec i).length (cap - (at_ + i) % n * 128))] ?_ ?_
      · intro Q2 jn
        (refine wr ?_; repeat ((first | refine VO.step rfl rfl ?_ | refine VD.end rfl rfl rfl ?_ | refine VD.mid rfl rfl rfl ?_); refine OpV.box rfl rfl rfl ?_; intro _; refine wr ?_))
        ((first | refine VO.split rfl rfl rfl ?_ ?_ | refine VD.split rfl rfl rfl ?_ ?_) <;> intro hb)
        · (refine wr ?_; repeat ((first | refine VO.step rfl rfl ?_ | refine VD.end rfl rfl rfl ?_ | refine VD.mid rfl rfl rfl ?_); refine OpV.box rfl rfl rfl ?_; intro _; refine wr ?_))
          exact jn.to () trivial ⟨asV rfl (by have h0 : 0 < cnt := by simpa using hb
                                              congr 1; rw [Bool.eq_iff_iff]; simp [h0]), rfl, rfl, rfl, rfl, rfl, rfl, rfl, rfl, rfl, rfl, rfl, trivial⟩ Ent.re
        · (refine wr ?_; repeat ((first | refine VO.step rfl rfl ?_ | refine VD.end rfl rfl rfl ?_ | refine VD.mid rfl rfl rfl ?_); refine OpV.box rfl rfl rfl ?_; intro _; refine wr ?_))
          exact jn.to () trivial ⟨asV rfl (by have h0 : ¬ 0 < cnt := by simpa using hb
                                              congr 1; rw [Bool.eq_iff_iff]; simp [h0]), rfl, rfl, rfl, rfl, rfl, rfl, rfl, rfl, rfl, rfl, rfl, trivial⟩ Ent.re
      (refine wr ?_; repeat ((first | refine VO.step rfl rfl ?_ | refine VD.end rfl rfl rfl ?_ | refine VD.mid rfl rfl rfl ?_); refine OpV.box rfl rfl rfl ?_; intro _; refine wr ?_))
      (refine VR.cond rfl rfl ?_ ?_ <;> intro hc)
      · have hcc : 0 < cnt ∧ (i : Int) = 2 * cnt := by simpa using hc
        have hi0 : 0 < i := by omega
        have hcn := (hI.pos hi0).1
        (refine wr ?_; repeat ((first | refine VO.step rfl rfl ?_ | refine VD.end rfl rfl rfl ?_ | refine VD.mid rfl rfl rfl ?_); refine OpV.box rfl rfl rfl ?_; intro _; refine wr ?_))
        ((first | refine VO.step rfl rfl ?_ | refine VD.end rfl rfl rfl ?_ | refine VD.mid rfl rfl rfl ?_); refine OpV.call rfl rfl (fun _ _ => by simp) (decc_ok ((hsr i).ent Ent.re) hkc) Ent.refl rfl ?_)
        intro _ _
        (refine wr ?_; repeat ((first | refine VO.step rfl rfl ?_ | refine VD.end rfl rfl rfl ?_ | refine VD.mid rfl rfl rfl ?_); refine OpV.box rfl rfl rfl ?_; intro _; refine wr ?_))
        ((first | refine VO.step rfl rfl ?_ | refine VD.end rfl rfl rfl ?_ | refine VD.mid rfl rfl rfl ?_); refine OpV.allocS sb_95 rfl ?_; intro n18)
        (refine wr ?_; repeat ((first | refine VO.step rfl rfl ?_ | refine VD.end rfl rfl rfl ?_ | refine VD.mid rfl rfl rfl ?_); refine OpV.box rfl rfl rfl ?_; intro _; refine wr ?_))
        (first | refine VO.step rfl rfl ?_ | refine VD.end rfl rfl rfl ?_ | refine VD.mid rfl rfl rfl ?_)
        refine OpV.stA (vs := (CmtD.dec (sec i)).2.cells) tab_ok rfl rfl rfl rfl (by simp [Value.oneCell']) (by (repeat first | exact .head | apply Hole.tail)) (by simp) ?_
        (refine wr ?_; repeat ((first | refine VO.step rfl rfl ?_ | refine VD.end rfl rfl rfl ?_ | refine VD.mid rfl rfl rfl ?_); refine OpV.box rfl rfl rfl ?_; intro _; refine wr ?_))
        refine VR.ent (H' := DigR d (crcS (headsF sec ((i + 1) / 2))) :: Row n18 95 (CmtD.dec (sec i)).2.cells :: Row n12 25 [.int .u64 s, .slice x.1 pats.length x.2] :: Row n14 3 [.int .i64 cnt] :: PatsO x pats :: PilP pats :: LoopR l (Loop.busy b) :: Row b1 113 [.slice (some la) (n * 128) cap] :: Row b2 3 [.int .i64 at_] :: At D (.deferred (some [])) :: Row n10 25 [.int .u64 0, .slice none 0 0] :: Row n11 4 [.bool false] :: Row n8 22 [.int .u64 e] :: Row n9 22 [.int .u64 s] :: Row n15 83 [.pointer (some ⟨d, 0, none⟩)] :: R) Ent.re ?_
        (refine VR.drawn [9, 13] 14 [0, 1, 2, 3, 4, 5, 6, 7, 8, 9, 10, 11, 12, 13, 14] (DigR d (crcS (headsF sec ((i + 1) / 2))) :: Row n18 95 (CmtD.dec (sec i)).2.cells :: Row n12 25 [.int .u64 s, .slice x.1 pats.length x.2] :: Row n14 3 [.int .i64 cnt] :: Row n8 22 [.int .u64 e] :: Row n9 22 [.int .u64 s] :: Row n15 83 [.pointer (some ⟨d, 0, none⟩)] :: []) rfl (by kernel_rfl) (by kernel_rfl) Ent.re ?_)
        (refine wr ?_; repeat ((first | refine VO.step rfl rfl ?_ | refine VD.end rfl rfl rfl ?_ | refine VD.mid rfl rfl rfl ?_); refine OpV.box rfl rfl rfl ?_; intro _; refine wr ?_))
        obtain ⟨hok, hlist⟩ := bat_end hI hi0 (by rw [← hcn]; exact hcc.2)
        have hcf : (CmtD.dec (sec i)).2.fit := dec_fitC _
        have hio : (i + 1) / 2 = (batN sec).toNat := by rw [← hcn]; simp only; omega
        have hcq : (CmtD.mk e s cnt (crcS (headsF sec ((i + 1) / 2))).toNat).fit := ⟨he, hs, by simp only; omega, (crcS _).isLt⟩
        have hq : (batM sec room e s).isSome = decide (CmtD.dec (sec i) = (0, CmtD.mk e s cnt (crcS (headsF sec ((i + 1) / 2))).toNat)) := by rw [hok, hio, ← hcn]
        ((first | refine VO.split rfl rfl rfl ?_ ?_ | refine VD.split rfl rfl rfl ?_ ?_) <;> intro hb)
        · have h0 : (CmtD.dec (sec i)).1 = 0 := by simpa using hb
          (refine wr ?_; repeat ((first | refine VO.step rfl rfl ?_ | refine VD.end rfl rfl rfl ?_ | refine VD.mid rfl rfl rfl ?_); refine OpV.box rfl rfl rfl ?_; intro _; refine wr ?_))
          ((first | refine VO.step rfl rfl ?_ | refine VD.end rfl rfl rfl ?_ | refine VD.mid rfl rfl rfl ?_); refine OpV.call rfl rfl (fun _ _ => by simp) (digsum_ok d _) Ent.re rfl ?_)
          intro _ _
          refine ⟨Ent.re, ?_⟩
          (refine wr ?_; repeat ((first | refine VO.step rfl rfl ?_ | refine VD.end rfl rfl rfl ?_ | refine VD.mid rfl rfl rfl ?_); refine OpV.box rfl rfl rfl ?_; intro _; refine wr ?_))
          ((first | apply VO.pure rfl rfl | apply VD.take rfl rfl rfl | (refine VD.end rfl rfl rfl ?_; apply OpV.pure)); apply PureAt.build sb_95 rfl; (simp [buildX, setL, Value.cells]; rfl); rfl)
          (refine wr ?_; repeat ((first | refine VO.step rfl rfl ?_ | refine VD.end rfl rfl rfl ?_ | refine VD.mid rfl rfl rfl ?_); refine OpV.box rfl rfl rfl ?_; intro _; refine wr ?_))
          (first | refine VO.pure rfl rfl (cmt_eqN (a := (CmtD.dec (sec i)).2) (b := CmtD.mk e s cnt (crcS (headsF sec ((i + 1) / 2))).toNat) rfl rfl hcf hcq rfl) rfl ?_ | refine VD.take rfl rfl rfl (cmt_eqN (a := (CmtD.dec (sec i)).2) (b := CmtD.mk e s cnt (crcS (headsF sec ((i + 1) / 2))).toNat) rfl rfl hcf hcq rfl) rfl ?_ | refine VQ.pure rfl rfl (cmt_eqN (a := (CmtD.dec (sec i)).2) (b := CmtD.mk e s cnt (crcS (headsF sec ((i + 1) / 2))).toNat) rfl rfl hcf hcq rfl) rfl ?_ | refine VD.end rfl rfl rfl (OpV.pure (cmt_eqN (a := (CmtD.dec (sec i)).2) (b := CmtD.mk e s cnt (crcS (headsF sec ((i + 1) / 2))).toNat) rfl rfl hcf hcq rfl) rfl ?_))
          refine VD.re 90 (.bool (batM sec room e s).isSome) rfl (by
            rw [hq]; congr 1; rw [Bool.eq_iff_iff, decide_eq_true_iff, decide_eq_true_iff]
            constructor
            · intro q; rw [← h0, ← q]
            · intro q; rw [q]) ?_
          (refine wr ?_; repeat ((first | refine VO.step rfl rfl ?_ | refine VD.end rfl rfl rfl ?_ | refine VD.mid rfl rfl rfl ?_); refine OpV.box rfl rfl rfl ?_; intro _; refine wr ?_))
          refine VD.mid rfl rfl rfl ?_
          refine OpV.stA (vs := [.int .u64 s, .slice x.1 pats.length x.2]) tab_ok rfl rfl rfl rfl (by simp [Value.oneCell']) (by (repeat first | exact .head | apply Hole.tail)) (by simp) ?_
          refine ⟨Ent.re, ?_⟩
          (refine wr ?_; repeat ((first | refine VO.step rfl rfl ?_ | refine VD.end rfl rfl rfl ?_ | refine VD.mid rfl rfl rfl ?_); refine OpV.box rfl rfl rfl ?_; intro _; refine wr ?_))
          refine VF.stop (⟨s, x.1, x.2, pats⟩ : TxnE) ⟨rfl, hlist⟩ ?_
          exact Ent.re
        · have h0 : (CmtD.dec (sec i)).1 ≠ 0 := by simpa using hb
          have hq2 : (batM sec room e s).isSome = false := by rw [hq, decide_eq_false_iff_not]; intro q; rw [q] at h0; exact h0 rfl
          (refine wr ?_; repeat ((first | refine VO.step rfl rfl ?_ | refine VD.end rfl rfl rfl ?_ | refine VD.mid rfl rfl rfl ?_); refine OpV.box rfl rfl rfl ?_; intro _; refine wr ?_))
          refine VD.skipM rfl rfl Ent.re rfl rfl rfl ?_
          (refine wr ?_; repeat ((first | refine VO.step rfl rfl ?_ | refine VD.end rfl rfl rfl ?_ | refine VD.mid rfl rfl rfl ?_); refine OpV.box rfl rfl rfl ?_; intro _; refine wr ?_))
          refine VD.mid rfl rfl rfl ?_
          refine OpV.stA (vs := [.int .u64 s, .slice x.1 pats.length x.2]) tab_ok rfl rfl rfl rfl (by simp [Value.oneCell']) (by (repeat first | exact .head | apply Hole.tail)) (by simp) ?_
          refine ⟨Ent.re, ?_⟩
          (refine wr ?_; repeat ((first | refine VO.step rfl rfl ?_ | refine VD.end rfl rfl rfl ?_ | refine VD.mid rfl rfl rfl ?_); refine OpV.box rfl rfl rfl ?_; intro _; refine wr ?_))
          refine VF.stop (⟨s, x.1, x.2, pats⟩ : TxnE) ⟨rfl, hlist⟩ ?_
          rw [hq2]
          exact Ent.re
      have hnc : ¬ (0 < cnt ∧ (i : Int) = 2 * cnt) := by simpa using hc
      clear hc
      (refine wr ?_; repeat ((first | refine VO.step rfl rfl ?_ | refine VD.end rfl rfl rfl ?_ | refine VD.mid rfl rfl rfl ?_); refine OpV.box rfl rfl rfl ?_; intro _; refine wr ?_))
      (first | refine VO.pure rfl rfl (PureAt.rem (a := i) (b := 2) rfl rfl (by decide)) rfl ?_ | refine VD.take rfl rfl rfl (PureAt.rem (a := i) (b := 2) rfl rfl (by decide)) rfl ?_ | refine VQ.pure rfl rfl (PureAt.rem (a := i) (b := 2) rfl rfl (by decide)) rfl ?_ | refine VD.end rfl rfl rfl (OpV.pure (PureAt.rem (a := i) (b := 2) rfl rfl (by decide)) rfl ?_))
      (refine wr ?_; repeat ((first | refine VO.step rfl rfl ?_ | refine VD.end rfl rfl rfl ?_ | refine VD.mid rfl rfl rfl ?_); refine OpV.box rfl rfl rfl ?_; intro _; refine wr ?_))
      (refine VR.cond rfl rfl ?_ ?_ <;> intro hc)
      · obtain ⟨j, rfl⟩ : ∃ j, i = 2 * j := ⟨i / 2, by have := hc; simp at this; omega⟩
        clear hc
        have hn2 : 0 < 2 * j → 2 * j ≠ 2 * (batN sec).toNat := by
          intro h0 h3
          have h4 := hI.pos h0
          simp only at h4
          exact hnc ⟨by omega, by omega⟩
        have hNb : 0 ≤ batN sec ∧ batN sec ≤ 1023 := dec_countB _
        (refine wr ?_; repeat ((first | refine VO.step rfl rfl ?_ | refine VD.end rfl rfl rfl ?_ | refine VD.mid rfl rfl rfl ?_); refine OpV.box rfl rfl rfl ?_; intro _; refine wr ?_))
        ((first | refine VO.step rfl rfl ?_ | refine VD.end rfl rfl rfl ?_ | refine VD.mid rfl rfl rfl ?_); refine OpV.call rfl rfl (fun _ _ => by simp) (dech_ok ((hsr (2 * j)).ent Ent.re) hkc) Ent.refl rfl ?_)
        intro _ _
        (refine wr ?_; repeat ((first | refine VO.step rfl rfl ?_ | refine VD.end rfl rfl rfl ?_ | refine VD.mid rfl rfl rfl ?_); refine OpV.box rfl rfl rfl ?_; intro _; refine wr ?_))
        ((first | refine VO.step rfl rfl ?_ | refine VD.end rfl rfl rfl ?_ | refine VD.mid rfl rfl rfl ?_); refine OpV.allocS sb_90 rfl ?_; intro n20)
        (refine wr ?_; repeat ((first | refine VO.step rfl rfl ?_ | refine VD.end rfl rfl rfl ?_ | refine VD.mid rfl rfl rfl ?_); refine OpV.box rfl rfl rfl ?_; intro _; refine wr ?_))
        (first | refine VO.step rfl rfl ?_ | refine VD.end rfl rfl rfl ?_ | refine VD.mid rfl rfl rfl ?_)
        refine OpV.stA (vs := (HdrD.dec (sec (2 * j))).2.cells) tab_ok rfl rfl rfl rfl (by simp [Value.oneCell']) (by (repeat first | exact .head | apply Hole.tail)) (by simp) ?_
        (refine wr ?_; repeat ((first | refine VO.step rfl rfl ?_ | refine VD.end rfl rfl rfl ?_ | refine VD.mid rfl rfl rfl ?_); refine OpV.box rfl rfl rfl ?_; intro _; refine wr ?_))
        refine VR.join (α := Unit) (fun _ => True) (fun _ => Row n20 90 (HdrD.dec (sec (2 * j))).2.cells :: Row n12 25 [.int .u64 s, .slice x.1 pats.length x.2] :: Row n13 90 hdr.cells :: Row n14 3 [.int .i64 (batN sec)] :: DigR d (crcS (headsF sec ((2 * j + 1) / 2))) :: PatsO x pats :: PilP pats :: LoopR l (Loop.busy b) :: Row b1 113 [.slice (some la) (n * 128) cap] :: Row b2 3 [.int .i64 at_] :: At D (.deferred (some [])) :: Row n10 25 [.int .u64 0, .slice none 0 0] :: Row n11 4 [.bool false] :: Row n7 3 [.int .i64 room] :: Row n8 22 [.int .u64 e] :: Row n9 22 [.int .u64 s] :: Row n15 83 [.pointer (some ⟨d, 0, none⟩)] :: R) (fun _ => [(7, .pointer (some ⟨n7, 0, none⟩)), (8, .pointer (some ⟨n8, 0, none⟩)), (9, .pointer (some ⟨n9, 0, none⟩)), (10, .pointer (some ⟨n10, 0, none⟩)), (11, .pointer (some ⟨n11, 0, none⟩)), (12, .pointer (some ⟨n12, 0, none⟩)), (13, .pointer (some ⟨n13, 0, none⟩)), (14, .pointer (some ⟨n14, 0, none⟩)), (15, .pointer (some ⟨n15, 0, none⟩)), (16, .int .i64 ((2 * j : Nat) : Int)), (17, .slice (some (la.add ((at_ + 2 * j) % n * 128))) (sec (2 * j)).length (cap - (at_ + 2 * j) % n * 128)), (20, .pointer (some ⟨n20, 0, none⟩)), (21, .int .u16 (HdrD.dec (sec (2 * j))).1)]) ?_ (fun _ _ => ?_)
        · intro Q2 jn
          (refine VR.cond rfl rfl ?_ ?_ <;> intro hc)
          · have hj0 : j = 0 := by have := hc; simp at this; omega
            (refine wr ?_; repeat ((first | refine VO.step rfl rfl ?_ | refine VD.end rfl rfl rfl ?_ | refine VD.mid rfl rfl rfl ?_); refine OpV.box rfl rfl rfl ?_; intro _; refine wr ?_))
            refine jn.to () trivial ⟨rfl, rfl, rfl, rfl, rfl, rfl, rfl, rfl, rfl, rfl, rfl, rfl, rfl, trivial⟩ ?_
            rw [show batN sec = (HdrD.dec (sec (2 * j))).2.count by rw [hj0]; rfl]
            exact Ent.re
          · have hj0 : 0 < 2 * j := by have := hc; simp at this; omega
            (refine wr ?_; repeat ((first | refine VO.step rfl rfl ?_ | refine VD.end rfl rfl rfl ?_ | refine VD.mid rfl rfl rfl ?_); refine OpV.box rfl rfl rfl ?_; intro _; refine wr ?_))
            refine jn.to () trivial ⟨rfl, rfl, rfl, rfl, rfl, rfl, rfl, rfl, rfl, rfl, rfl, rfl, rfl, trivial⟩ ?_
            rw [← (hI.pos hj0).1]
            exact Ent.re
        (refine wr ?_; repeat ((first | refine VO.step rfl rfl ?_ | refine VD.end rfl rfl rfl ?_ | refine VD.mid rfl rfl rfl ?_); refine OpV.box rfl rfl rfl ?_; intro _; refine wr ?_))
        have bad : ∀ {p : Prop}, p → (p → ¬ (hdOk sec e s (batN sec) j ∧ 2 * batN sec + 1 ≤ room)) → batM sec room e s = none := fun hp h => bat_head0 hI rfl hn2 (h hp)
        ((first | refine VO.split rfl rfl rfl ?_ ?_ | refine VD.split rfl rfl rfl ?_ ?_) <;> intro hb)
        · have hz := bad hb (fun hb q => by have := hb; simp at this; exact this q.1.1)
          ((refine wr ?_; repeat ((first | refine VO.step rfl rfl ?_ | refine VD.end rfl rfl rfl ?_ | refine VD.mid rfl rfl rfl ?_); refine OpV.box rfl rfl rfl ?_; intro _; refine wr ?_)); (first | refine VO.step rfl rfl ?_ | refine VD.end rfl rfl rfl ?_ | refine VD.mid rfl rfl rfl ?_); refine OpV.stA (vs := [.int .u64 s, .slice x.1 pats.length x.2]) tab_ok rfl rfl rfl rfl (by simp [Value.oneCell']) (by (repeat first | exact .head | apply Hole.tail)) (by simp) ?_; (refine wr ?_; repeat ((first | refine VO.step rfl rfl ?_ | refine VD.end rfl rfl rfl ?_ | refine VD.mid rfl rfl rfl ?_); refine OpV.box rfl rfl rfl ?_; intro _; refine wr ?_)); refine VF.stop (⟨s, x.1, x.2, pats⟩ : TxnE) ⟨rfl, fun l hl => by rw [hz] at hl; cases hl⟩ ?_; rw [hz]; exact Ent.re)
        have g1 : (HdrD.dec (sec (2 * j))).1 = 0 := by simpa using hb
        clear hb
        (refine wr ?_; repeat ((first | refine VO.step rfl rfl ?_ | refine VD.end rfl rfl rfl ?_ | refine VD.mid rfl rfl rfl ?_); refine OpV.box rfl rfl rfl ?_; intro _; refine wr ?_))
        ((first | refine VO.split rfl rfl rfl ?_ ?_ | refine VD.split rfl rfl rfl ?_ ?_) <;> intro hb)
        · have hz := bad hb (fun hb q => by have := hb; simp at this; have := q.1.2.1; omega)
          ((refine wr ?_; repeat ((first | refine VO.step rfl rfl ?_ | refine VD.end rfl rfl rfl ?_ | refine VD.mid rfl rfl rfl ?_); refine OpV.box rfl rfl rfl ?_; intro _; refine wr ?_)); (first | refine VO.step rfl rfl ?_ | refine VD.end rfl rfl rfl ?_ | refine VD.mid rfl rfl rfl ?_); refine OpV.stA (vs := [.int .u64 s, .slice x.1 pats.length x.2]) tab_ok rfl rfl rfl rfl (by simp [Value.oneCell']) (by (repeat first | exact .head | apply Hole.tail)) (by simp) ?_; (refine wr ?_; repeat ((first | refine VO.step rfl rfl ?_ | refine VD.end rfl rfl rfl ?_ | refine VD.mid rfl rfl rfl ?_); refine OpV.box rfl rfl rfl ?_; intro _; refine wr ?_)); refine VF.stop (⟨s, x.1, x.2, pats⟩ : TxnE) ⟨rfl, fun l hl => by rw [hz] at hl; cases hl⟩ ?_; rw [hz]; exact Ent.re)
        have g2 : (HdrD.dec (sec (2 * j))).2.epoch = e := by have := hb; simp at this; omega
        clear hb
        (refine wr ?_; repeat ((first | refine VO.step rfl rfl ?_ | refine VD.end rfl rfl rfl ?_ | refine VD.mid rfl rfl rfl ?_); refine OpV.box rfl rfl rfl ?_; intro _; refine wr ?_))
        ((first | refine VO.split rfl rfl rfl ?_ ?_ | refine VD.split rfl rfl rfl ?_ ?_) <;> intro hb)
        · have hz := bad hb (fun hb q => by have := hb; simp at this; have := q.1.2.2.1; omega)
          ((refine wr ?_; repeat ((first | refine VO.step rfl rfl ?_ | refine VD.end rfl rfl rfl ?_ | refine VD.mid rfl rfl rfl ?_); refine OpV.box rfl rfl rfl ?_; intro _; refine wr ?_)); (first | refine VO.step rfl rfl ?_ | refine VD.end rfl rfl rfl ?_ | refine VD.mid rfl rfl rfl ?_); refine OpV.stA (vs := [.int .u64 s, .slice x.1 pats.length x.2]) tab_ok rfl rfl rfl rfl (by simp [Value.oneCell']) (by (repeat first | exact .head | apply Hole.tail)) (by simp) ?_; (refine wr ?_; repeat ((first | refine VO.step rfl rfl ?_ | refine VD.end rfl rfl rfl ?_ | refine VD.mid rfl rfl rfl ?_); refine OpV.box rfl rfl rfl ?_; intro _; refine wr ?_)); refine VF.stop (⟨s, x.1, x.2, pats⟩ : TxnE) ⟨rfl, fun l hl => by rw [hz] at hl; cases hl⟩ ?_; rw [hz]; exact Ent.re)
        have g3 : (HdrD.dec (sec (2 * j))).2.seq = s := by have := hb; simp at this; omega
        clear hb
        (refine wr ?_; repeat ((first | refine VO.step rfl rfl ?_ | refine VD.end rfl rfl rfl ?_ | refine VD.mid rfl rfl rfl ?_); refine OpV.box rfl rfl rfl ?_; intro _; refine wr ?_))
        (first | refine VO.pure rfl rfl (PureAt.quo (a := 2 * j) (b := 2) rfl rfl (by decide) (IntWalk.i64_in _ ⟨by omega, by omega⟩)) rfl ?_ | refine VD.take rfl rfl rfl (PureAt.quo (a := 2 * j) (b := 2) rfl rfl (by decide) (IntWalk.i64_in _ ⟨by omega, by omega⟩)) rfl ?_ | refine VQ.pure rfl rfl (PureAt.quo (a := 2 * j) (b := 2) rfl rfl (by decide) (IntWalk.i64_in _ ⟨by omega, by omega⟩)) rfl ?_ | refine VD.end rfl rfl rfl (OpV.pure (PureAt.quo (a := 2 * j) (b := 2) rfl rfl (by decide) (IntWalk.i64_in _ ⟨by omega, by omega⟩)) rfl ?_))
        (refine wr ?_; repeat ((first | refine VO.step rfl rfl ?_ | refine VD.end rfl rfl rfl ?_ | refine VD.mid rfl rfl rfl ?_); refine OpV.box rfl rfl rfl ?_; intro _; refine wr ?_))
        ((first | refine VO.split rfl rfl rfl ?_ ?_ | refine VD.split rfl rfl rfl ?_ ?_) <;> intro hb)
        · have hz := bad hb (fun hb q => by have := hb; simp at this; have := q.1.2.2.2.1; omega)
          ((refine wr ?_; repeat ((first | refine VO.step rfl rfl ?_ | refine VD.end rfl rfl rfl ?_ | refine VD.mid rfl rfl rfl ?_); refine OpV.box rfl rfl rfl ?_; intro _; refine wr ?_)); (first | refine VO.step rfl rfl ?_ | refine VD.end rfl rfl rfl ?_ | refine VD.mid rfl rfl rfl ?_); refine OpV.stA (vs := [.int .u64 s, .slice x.1 pats.length x.2]) tab_ok rfl rfl rfl rfl (by simp [Value.oneCell']) (by (repeat first | exact .head | apply Hole.tail)) (by simp) ?_; (refine wr ?_; repeat ((first | refine VO.step rfl rfl ?_ | refine VD.end rfl rfl rfl ?_ | refine VD.mid rfl rfl rfl ?_); refine OpV.box rfl rfl rfl ?_; intro _; refine wr ?_)); refine VF.stop (⟨s, x.1, x.2, pats⟩ : TxnE) ⟨rfl, fun l hl => by rw [hz] at hl; cases hl⟩ ?_; rw [hz]; exact Ent.re)
        have g4 : (HdrD.dec (sec (2 * j))).2.index = j := by have := hb; simp at this; omega
        clear hb
        (refine wr ?_; repeat ((first | refine VO.step rfl rfl ?_ | refine VD.end rfl rfl rfl ?_ | refine VD.mid rfl rfl rfl ?_); refine OpV.box rfl rfl rfl ?_; intro _; refine wr ?_))
        ((first | refine VO.split rfl rfl rfl ?_ ?_ | refine VD.split rfl rfl rfl ?_ ?_) <;> intro hb)
        · have hz := bad hb (fun hb q => by have := hb; simp at this; have := q.1.2.2.2.2; omega)
          ((refine wr ?_; repeat ((first | refine VO.step rfl rfl ?_ | refine VD.end rfl rfl rfl ?_ | refine VD.mid rfl rfl rfl ?_); refine OpV.box rfl rfl rfl ?_; intro _; refine wr ?_)); (first | refine VO.step rfl rfl ?_ | refine VD.end rfl rfl rfl ?_ | refine VD.mid rfl rfl rfl ?_); refine OpV.stA (vs := [.int .u64 s, .slice x.1 pats.length x.2]) tab_ok rfl rfl rfl rfl (by simp [Value.oneCell']) (by (repeat first | exact .head | apply Hole.tail)) (by simp) ?_; (refine wr ?_; repeat ((first | refine VO.step rfl rfl ?_ | refine VD.end rfl rfl rfl ?_ | refine VD.mid rfl rfl rfl ?_); refine OpV.box rfl rfl rfl ?_; intro _; refine wr ?_)); refine VF.stop (⟨s, x.1, x.2, pats⟩ : TxnE) ⟨rfl, fun l hl => by rw [hz] at hl; cases hl⟩ ?_; rw [hz]; exact Ent.re)
        have g5 : (HdrD.dec (sec (2 * j))).2.count = batN sec := by have := hb; simp at this; omega
        clear hb
        (refine wr ?_; repeat ((first | refine VO.step rfl rfl ?_ | refine VD.end rfl rfl rfl ?_ | refine VD.mid rfl rfl rfl ?_); refine OpV.box rfl rfl rfl ?_; intro _; refine wr ?_))
        (refine VR.cond rfl rfl ?_ ?_ <;> intro hc)
        · have hz := bad hc (fun hc q => by have := hc; simp at this; have := q.2; omega)
          ((refine wr ?_; repeat ((first | refine VO.step rfl rfl ?_ | refine VD.end rfl rfl rfl ?_ | refine VD.mid rfl rfl rfl ?_); refine OpV.box rfl rfl rfl ?_; intro _; refine wr ?_)); (first | refine VO.step rfl rfl ?_ | refine VD.end rfl rfl rfl ?_ | refine VD.mid rfl rfl rfl ?_); refine OpV.stA (vs := [.int .u64 s, .slice x.1 pats.length x.2]) tab_ok rfl rfl rfl rfl (by simp [Value.oneCell']) (by (repeat first | exact .head | apply Hole.tail)) (by simp) ?_; (refine wr ?_; repeat ((first | refine VO.step rfl rfl ?_ | refine VD.end rfl rfl rfl ?_ | refine VD.mid rfl rfl rfl ?_); refine OpV.box rfl rfl rfl ?_; intro _; refine wr ?_)); refine VF.stop (⟨s, x.1, x.2, pats⟩ : TxnE) ⟨rfl, fun l hl => by rw [hz] at hl; cases hl⟩ ?_; rw [hz]; exact Ent.re)
        have g6 : 2 * batN sec + 1 ≤ room := by have := hc; simp at this; omega
        clear hc
        (refine wr ?_; repeat ((first | refine VO.step rfl rfl ?_ | refine VD.end rfl rfl rfl ?_ | refine VD.mid rfl rfl rfl ?_); refine OpV.box rfl rfl rfl ?_; intro _; refine wr ?_))
        (first | refine VO.step rfl rfl ?_ | refine VD.end rfl rfl rfl ?_ | refine VD.mid rfl rfl rfl ?_)
        refine OpV.stA (vs := (HdrD.dec (sec (2 * j))).2.cells) tab_ok rfl rfl rfl rfl (by simp [Value.oneCell']) (by (repeat first | exact .head | apply Hole.tail)) (by simp) ?_
        (refine wr ?_; repeat ((first | refine VO.step rfl rfl ?_ | refine VD.end rfl rfl rfl ?_ | refine VD.mid rfl rfl rfl ?_); refine OpV.box rfl rfl rfl ?_; intro _; refine wr ?_))
        refine VO.ent (H' := DigR d (crcS (headsF sec ((2 * j + 1) / 2))) :: Row n12 25 [.int .u64 s, .slice x.1 pats.length x.2] :: Row n13 90 (HdrD.dec (sec (2 * j))).2.cells :: Row n14 3 [.int .i64 (batN sec)] :: PatsO x pats :: PilP pats :: LoopR l (Loop.busy b) :: Row b1 113 [.slice (some la) (n * 128) cap] :: Row b2 3 [.int .i64 at_] :: At D (.deferred (some [])) :: Row n10 25 [.int .u64 0, .slice none 0 0] :: Row n11 4 [.bool false] :: Row n7 3 [.int .i64 room] :: Row n8 22 [.int .u64 e] :: Row n9 22 [.int .u64 s] :: Row n15 83 [.pointer (some ⟨d, 0, none⟩)] :: R) Ent.re ?_
        ((first | refine VO.step rfl rfl ?_ | refine VD.end rfl rfl rfl ?_ | refine VD.mid rfl rfl rfl ?_); refine OpV.call rfl rfl (fun _ _ => by simp) (digadd_ok d (crcS (headsF sec ((2 * j + 1) / 2))) ((hsr (2 * j)).ent Ent.re) (by rw [hsl]; omega)) Ent.refl rfl ?_)
        intro _ _
        (refine wr ?_; repeat ((first | refine VO.step rfl rfl ?_ | refine VD.end rfl rfl rfl ?_ | refine VD.mid rfl rfl rfl ?_); refine OpV.box rfl rfl rfl ?_; intro _; refine wr ?_))
        have hdc := hdr_decO g1
        have h0' : (HdrD.dec (sec 0)).1 = 0 := by
          rcases Nat.eq_zero_or_pos j with q | q
          · rw [q] at g1; exact g1
          · exact (hI.pos (by omega)).2.2.2.1
        have hlt : (j : Int) < batN sec := by have := hdc.2.1.2.2.1; omega
        refine VF.on (τ := TxnE) h1 h2 ?_
        refine Ent.trans (Ent.trans (H' := bMov sec s (BBl.mk n7 n8 n9 n10 n11 n12 n13 n14 n15 d) (2 * j + 1) ⟨pats, x, (HdrD.dec (sec (2 * j))).2, batN sec⟩ ++ (LoopR l (Loop.busy b) :: Row b1 113 [.slice (some la) (n * 128) cap] :: Row b2 3 [.int .i64 at_] :: At D (.deferred (some [])) :: Row n10 25 [.int .u64 0, .slice none 0 0] :: Row n11 4 [.bool false] :: bFix room e s (BBl.mk n7 n8 n9 n10 n11 n12 n13 n14 n15 d) R)) ?_ (bSt_shut (hI.head_next rfl ⟨g1, g2, g3, g4, g5⟩ g6 hlt h0'))) Ent.re
        unfold bMov bFix
        dsimp only [List.cons_append, List.nil_append]
        rw [show crcM (crcS (headsF sec ((2 * j + 1) / 2))) (sec (2 * j)) = crcS (headsF sec ((2 * j + 1 + 1) / 2)) by
          rw [show (2 * j + 1) / 2 = j by omega, show (2 * j + 1 + 1) / 2 = j + 1 by omega]; exact (crcM_append _ _ _).symm]
        exact Ent.re
      obtain ⟨j, rfl⟩ : ∃ j, i = 2 * j + 1 := ⟨i / 2, by have := hc; simp at this; omega⟩
      clear hc
      obtain ⟨hok, hhd⟩ := hI.odd j rfl
      simp only at hhd
      subst hhd
      (refine wr ?_; repeat ((first | refine VO.step rfl rfl ?_ | refine VD.end rfl rfl rfl ?_ | refine VD.mid rfl rfl rfl ?_); refine OpV.box rfl rfl rfl ?_; intro _; refine wr ?_))
      ((first | refine VO.step rfl rfl ?_ | refine VD.end rfl rfl rfl ?_ | refine VD.mid rfl rfl rfl ?_); refine OpV.call rfl rfl (fun _ _ => by simp) (unesc_ok ((hsr (2 * j + 1)).ent Ent.re) hkc (HdrD.dec (sec (2 * j))).2.escaped) Ent.refl rfl ?_)
      rintro ⟨ua, uc⟩ -
      refine VO.know (p := ua = none → (unD (sec (2 * j + 1)) (HdrD.dec (sec (2 * j))).2.escaped).1.length = 0) (fun w hw => hw.ownNone (.head _)) ?_
      intro hun
      (refine wr ?_; repeat ((first | refine VO.step rfl rfl ?_ | refine VD.end rfl rfl rfl ?_ | refine VD.mid rfl rfl rfl ?_); refine OpV.box rfl rfl rfl ?_; intro _; refine wr ?_))
      have bad : ∀ {p : Prop}, p → (p → ¬ ((unD (sec (2 * j + 1)) (HdrD.dec (sec (2 * j))).2.escaped).2 = 0 ∧ (crcS (sec (2 * j + 1))).toNat = (HdrD.dec (sec (2 * j))).2.sum)) → batM sec room e s = none := fun hp h => bat_data0 hI rfl (h hp)
      refine VR.joinH [(47, .bool (decide (¬ ((unD (sec (2 * j + 1)) (HdrD.dec (sec (2 * j))).2.escaped).2 = 0 ∧ (crcS (sec (2 * j + 1))).toNat = (HdrD.dec (sec (2 * j))).2.sum)))), (7, .pointer (some ⟨n7, 0, none⟩)), (8, .pointer (some ⟨n8, 0, none⟩)), (9, .pointer (some ⟨n9, 0, none⟩)), (10, .pointer (some ⟨n10, 0, none⟩)), (11, .pointer (some ⟨n11, 0, none⟩)), (12, .pointer (some ⟨n12, 0, none⟩)), (13, .pointer (some ⟨n13, 0, none⟩)), (14, .pointer (some ⟨n14, 0, none⟩)), (15, .pointer (some ⟨n15, 0, none⟩)), (16, .int .i64 ((2 * j + 1 : Nat) : Int)), (22, .slice ua (unD (sec (2 * j + 1)) (HdrD.dec (sec (2 * j))).2.escaped).1.length uc)] ?_ ?_
      · intro Q2 jn
        (refine VR.drawn [4] 7 [0, 1, 2, 3, 5, 6, 4, 7, 8] _ rfl (by kernel_rfl) (by kernel_rfl) Ent.re ?_)
        (refine wr ?_; repeat ((first | refine VO.step rfl rfl ?_ | refine VD.end rfl rfl rfl ?_ | refine VD.mid rfl rfl rfl ?_); refine OpV.box rfl rfl rfl ?_; intro _; refine wr ?_))
        ((first | refine VO.split rfl rfl rfl ?_ ?_ | refine VD.split rfl rfl rfl ?_ ?_) <;> intro hb)
        · have h0 : (unD (sec (2 * j + 1)) (HdrD.dec (sec (2 * j))).2.escaped).2 ≠ 0 := by simpa using hb
          (refine wr ?_; repeat ((first | refine VO.step rfl rfl ?_ | refine VD.end rfl rfl rfl ?_ | refine VD.mid rfl rfl rfl ?_); refine OpV.box rfl rfl rfl ?_; intro _; refine wr ?_))
          exact jn.to () trivial ⟨asV rfl (by simp [h0]), rfl, rfl, rfl, rfl, rfl, rfl, rfl, rfl, rfl, rfl, rfl, trivial⟩ Ent.re
        · have h0 : (unD (sec (2 * j + 1)) (HdrD.dec (sec (2 * j))).2.escaped).2 = 0 := by simpa using hb
          (refine wr ?_; repeat ((first | refine VO.step rfl rfl ?_ | refine VD.end rfl rfl rfl ?_ | refine VD.mid rfl rfl rfl ?_); refine OpV.box rfl rfl rfl ?_; intro _; refine wr ?_))
          have hle : (sec (2 * j + 1)).length ≤ 1099511627776 := by rw [hsl]; omega
          ((first | refine VO.step rfl rfl ?_ | refine VD.end rfl rfl rfl ?_ | refine VD.mid rfl rfl rfl ?_); refine OpV.call rfl rfl (fun _ _ => by simp) (sum_ok ((hsr (2 * j + 1)).ent (Ent.drop (Ent.drop (Ent.drop (Ent.drop (Ent.drop (Ent.drop (Ent.drop (Ent.drop (Ent.drop (Ent.drop (Ent.drop (Ent.drop (Ent.drop (Ent.drop (Ent.drop (Ent.drop (Ent.drop Ent.refl)))))))))))))))))) hle) Ent.refl rfl ?_)
          intro _ _
          refine ⟨Ent.re, ?_⟩
          (refine wr ?_; repeat ((first | refine VO.step rfl rfl ?_ | refine VD.end rfl rfl rfl ?_ | refine VD.mid rfl rfl rfl ?_); refine OpV.box rfl rfl rfl ?_; intro _; refine wr ?_))
          exact jn.to () trivial ⟨asV rfl (by
            congr 1; rw [Bool.eq_iff_iff]; simp only [h0, true_and, decide_eq_true_iff, bne_iff_ne, ne_eq]
            constructor
            · intro q z; exact q (by rw [z])
            · intro q z; exact q (by omega)), rfl, rfl, rfl, rfl, rfl, rfl, rfl, rfl, rfl, rfl, rfl, trivial⟩ Ent.re
      (refine wr ?_; repeat ((first | refine VO.step rfl rfl ?_ | refine VD.end rfl rfl rfl ?_ | refine VD.mid rfl rfl rfl ?_); refine OpV.box rfl rfl rfl ?_; intro _; refine wr ?_))
      (refine VR.cond rfl rfl ?_ ?_ <;> intro hc)
      · have hz := bad hc (fun hc => of_decide_eq_true hc)
        ((refine wr ?_; repeat ((first | refine VO.step rfl rfl ?_ | refine VD.end rfl rfl rfl ?_ | refine VD.mid rfl rfl rfl ?_); refine OpV.box rfl rfl rfl ?_; intro _; refine wr ?_)); (first | refine VO.step rfl rfl ?_ | refine VD.end rfl rfl rfl ?_ | refine VD.mid rfl rfl rfl ?_); refine OpV.stA (vs := [.int .u64 s, .slice x.1 pats.length x.2]) tab_ok rfl rfl rfl rfl (by simp [Value.oneCell']) (by (repeat first | exact .head | apply Hole.tail)) (by simp) ?_; (refine wr ?_; repeat ((first | refine VO.step rfl rfl ?_ | refine VD.end rfl rfl rfl ?_ | refine VD.mid rfl rfl rfl ?_); refine OpV.box rfl rfl rfl ?_; intro _; refine wr ?_)); refine VF.stop (⟨s, x.1, x.2, pats⟩ : TxnE) ⟨rfl, fun l hl => by rw [hz] at hl; cases hl⟩ ?_; rw [hz]; exact Ent.re)
      have hgd : (unD (sec (2 * j + 1)) (HdrD.dec (sec (2 * j))).2.escaped).2 = 0 ∧ (crcS (sec (2 * j + 1))).toNat = (HdrD.dec (sec (2 * j))).2.sum := by have := hc; simp only [decide_eq_false_iff_not, Decidable.not_not] at this; exact this
      clear hc
      have hpl : pats.length = j := by
        have h5 := congrArg List.length hI.pats
        rw [List.length_map, List.length_map, List.length_range] at h5
        simp only at h5
        omega
      have hjN := (hI.pos (by omega)).2.2.2.2
      (refine wr ?_; repeat ((first | refine VO.step rfl rfl ?_ | refine VD.end rfl rfl rfl ?_ | refine VD.mid rfl rfl rfl ?_); refine OpV.box rfl rfl rfl ?_; intro _; refine wr ?_))
      ((first | apply VO.pure rfl rfl | apply VD.take rfl rfl rfl | (refine VD.end rfl rfl rfl ?_; apply OpV.pure)); apply PureAt.build sb_78 rfl; (simp [buildX, setL, Value.cells]; rfl); rfl)
      (first | refine VO.step rfl rfl ?_ | refine VD.end rfl rfl rfl ?_ | refine VD.mid rfl rfl rfl ?_)
      refine OpV.buildSlice (cs := PatE.cells ⟨(HdrD.dec (sec (2 * j))).2.member, (HdrD.dec (sec (2 * j))).2.row, ⟨ua, uc, (unD (sec (2 * j + 1)) (HdrD.dec (sec (2 * j))).2.escaped).1⟩⟩) st_23 rfl rfl (by simp [Value.cells]) rfl (by decide) rfl ?_
      intro nc
      (first | refine VO.step rfl rfl ?_ | refine VD.end rfl rfl rfl ?_ | refine VD.mid rfl rfl rfl ?_)
      refine OpV.appendRow st_23 rfl rfl (by (repeat first | exact .head | apply Hole.tail)) (by (focus repeat first | exact .head _ | apply List.Mem.tail)) rfl (pat_one _) (by simp only [maxLen]; omega) (by omega) rfl ?_
      intro so sc
      (refine wr ?_; repeat ((first | refine VO.step rfl rfl ?_ | refine VD.end rfl rfl rfl ?_ | refine VD.mid rfl rfl rfl ?_); refine OpV.box rfl rfl rfl ?_; intro _; refine wr ?_))
      refine VF.on (τ := TxnE) h1 h2 ?_
      refine Ent.trans (Ent.re (L := OwnB (ua, uc) (unD (sec (2 * j + 1)) (HdrD.dec (sec (2 * j))).2.escaped).1 :: PilP pats :: Row n12 25 [.int .u64 s, .slice so (pats.length + 1) sc] :: Row n13 90 (HdrD.dec (sec (2 * j))).2.cells :: Row n14 3 [.int .i64 cnt] :: DigR d (crcS (headsF sec ((2 * j + 1 + 1) / 2))) :: Sl.Own 78 3 (.slice so (pats.length + 1) sc) (pats.length + 1) (patCells pats ++ PatE.cells ⟨(HdrD.dec (sec (2 * j))).2.member, (HdrD.dec (sec (2 * j))).2.row, ⟨ua, uc, (unD (sec (2 * j + 1)) (HdrD.dec (sec (2 * j))).2.escaped).1⟩⟩) :: LoopR l (Loop.busy b) :: Row b1 113 [.slice (some la) (n * 128) cap] :: Row b2 3 [.int .i64 at_] :: At D (.deferred (some [])) :: Row n10 25 [.int .u64 0, .slice none 0 0] :: Row n11 4 [.bool false] ::  bFix room e s (BBl.mk n7 n8 n9 n10 n11 n12 n13 n14 n15 d) R)) ?_
      refine Ent.trans (fun w hw => pile_push (res := PatE.res) (a := (⟨(HdrD.dec (sec (2 * j))).2.member, (HdrD.dec (sec (2 * j))).2.row, ⟨ua, uc, (unD (sec (2 * j + 1)) (HdrD.dec (sec (2 * j))).2.escaped).1⟩⟩ : PatE)) hw) ?_
      have hp1 : PatsO (so, sc) (pats ++ [⟨(HdrD.dec (sec (2 * j))).2.member, (HdrD.dec (sec (2 * j))).2.row, ⟨ua, uc, (unD (sec (2 * j + 1)) (HdrD.dec (sec (2 * j))).2.escaped).1⟩⟩]) = Sl.Own 78 3 (.slice so (pats.length + 1) sc) (pats.length + 1) (patCells pats ++ PatE.cells ⟨(HdrD.dec (sec (2 * j))).2.member, (HdrD.dec (sec (2 * j))).2.row, ⟨ua, uc, (unD (sec (2 * j + 1)) (HdrD.dec (sec (2 * j))).2.escaped).1⟩⟩) := by
        show Sl.Own 78 3 (.slice so (pats ++ [(⟨(HdrD.dec (sec (2 * j))).2.member, (HdrD.dec (sec (2 * j))).2.row, ⟨ua, uc, (unD (sec (2 * j + 1)) (HdrD.dec (sec (2 * j))).2.escaped).1⟩⟩ : PatE)]).length sc) (pats ++ [(⟨(HdrD.dec (sec (2 * j))).2.member, (HdrD.dec (sec (2 * j))).2.row, ⟨ua, uc, (unD (sec (2 * j + 1)) (HdrD.dec (sec (2 * j))).2.escaped).1⟩⟩ : PatE)]).length (patCells (pats ++ [(⟨(HdrD.dec (sec (2 * j))).2.member, (HdrD.dec (sec (2 * j))).2.row, ⟨ua, uc, (unD (sec (2 * j + 1)) (HdrD.dec (sec (2 * j))).2.escaped).1⟩⟩ : PatE)])) = _
        rw [List.length_append, show patCells (pats ++ [(⟨(HdrD.dec (sec (2 * j))).2.member, (HdrD.dec (sec (2 * j))).2.row, ⟨ua, uc, (unD (sec (2 * j + 1)) (HdrD.dec (sec (2 * j))).2.escaped).1⟩⟩ : PatE)]) = patCells pats ++ PatE.cells ⟨(HdrD.dec (sec (2 * j))).2.member, (HdrD.dec (sec (2 * j))).2.row, ⟨ua, uc, (unD (sec (2 * j + 1)) (HdrD.dec (sec (2 * j))).2.escaped).1⟩⟩ by simp [patCells]]; rfl
      refine Ent.trans (Ent.trans (H' := bMov sec s (BBl.mk n7 n8 n9 n10 n11 n12 n13 n14 n15 d) (2 * j + 1 + 1) ⟨pats ++ [⟨(HdrD.dec (sec (2 * j))).2.member, (HdrD.dec (sec (2 * j))).2.row, ⟨ua, uc, (unD (sec (2 * j + 1)) (HdrD.dec (sec (2 * j))).2.escaped).1⟩⟩], (so, sc), (HdrD.dec (sec (2 * j))).2, cnt⟩ ++ (LoopR l (Loop.busy b) :: Row b1 113 [.slice (some la) (n * 128) cap] :: Row b2 3 [.int .i64 at_] :: At D (.deferred (some [])) :: Row n10 25 [.int .u64 0, .slice none 0 0] :: Row n11 4 [.bool false] ::  bFix room e s (BBl.mk n7 n8 n9 n10 n11 n12 n13 n14 n15 d) R)) ?_ (bSt_shut (hI.data_next rfl (so, sc) ⟨(HdrD.dec (sec (2 * j))).2.member, (HdrD.dec (sec (2 * j))).2.row, ⟨ua, uc, (unD (sec (2 * j + 1)) (HdrD.dec (sec (2 * j))).2.escaped).1⟩⟩ rfl hgd))) Ent.re
      unfold bMov bFix
      dsimp only [List.cons_append, List.nil_append]
      rw [hp1, List.length_append, show (2 * j + 1 + 1 + 1) / 2 = (2 * j + 1 + 1) / 2 by omega]
      exact Ent.re
    · rintro (_ | t) _
      · exact Ent.re
      · exact Ent.refl
  · intro D
    refine vfAbsurd fun w hw => ?_
    have h1 : Holds W (bSt sec room e s (BBl.mk n7 n8 n9 n10 n11 n12 n13 n14 n15 d) n :: At D (.deferred (some [])) :: []) w := (Ent.re : Ent W _ _) w hw
    obtain ⟨⟨st, hI⟩, _⟩ := bSt_open h1
    have := hI.pos (by omega)
    omega
  · intro D t ht
    (refine wr ?_; repeat ((first | refine VO.step rfl rfl ?_ | refine VD.end rfl rfl rfl ?_ | refine VD.mid rfl rfl rfl ?_); refine OpV.box rfl rfl rfl ?_; intro _; refine wr ?_))
    refine VF.results2 (.inl rfl) t rfl .head (ResIs.agg (vs := t.cells) tab_ok rfl rfl (by unfold bRes; (focus repeat first | exact .head _ | apply List.Mem.tail)) rfl rfl) (ResIs.leaf tab_ok rfl rfl (by unfold bRes; (focus repeat first | exact .head _ | apply List.Mem.tail)) rfl) ht rfl ?_
    unfold bRes
    exact Ent.re
end Go.Proofs.Ytlojjlbngnaphaa

/-! Text Sy. -/
/- The engine: regions that draw their order, where what holds of memory hangs on which writes have come. Generic: no program is named. -/
set_option maxRecDepth 8000
set_option linter.unusedVariables false
set_option linter.unusedSimpArgs false
set_option linter.unusedSectionVars false
namespace Go.Sl
open Go Go.RowKit
section
variable {P : Program} {ops : Array Oper} {Q : Exit → Act → World → Prop} {md : Region.Mode} {I : Array Bool → World → Prop}
def wpAnyI (P : Program) (md : Region.Mode) (ops : Array Oper) (Q : Exit → Act → World → Prop) (I : Array Bool → World → Prop) : Nat → Array Bool → Act → World → Prop
  | 0, listed, a, w => Region.ready md ops listed = [] ∧ Q .normal a w
  | fuel + 1, listed, a, w =>
    (Region.ready md ops listed = [] → Q .normal a w) ∧
    ∀ i ∈ Region.ready md ops listed, wpOp P ops Q i (fun a' w' => I (listed.setIfInBounds i true) w' ∧ wpAnyI P md ops Q I fuel (listed.setIfInBounds i true) a' w') a w
theorem wpAny_of_I : ∀ (fuel : Nat) (listed : Array Bool) (a : Act) (w : World), wpAnyI P md ops Q I fuel listed a w → wpAny P md ops Q fuel listed a w
  | 0, _, _, _, h => h
  | fuel + 1, _, _, _, h => ⟨h.1, fun i hi => wpOp_mono (fun a' w' h' => wpAny_of_I fuel _ a' w' h'.2) (h.2 i hi)⟩
theorem wpAnyI_first {i : Nat} {oi : Oper} {v : Value} {Si : World → Prop} (hi : ops[i]? = some oi) (hsel : ∀ (j : Nat) (o : Oper) cs b, ops[j]? = some o → o.op ≠ .select cs b)
    (hQ : ∀ c a w, ¬ Q (.panic c) a w)
    (hIi : ∀ listed w, HeadInv md ops ops.size listed → listed.getD i true = false → I listed w → Si w)
    (hI1 : ∀ listed w, I listed w → I (listed.setIfInBounds i true) w) (hI2 : ∀ listed w, I (listed.setIfInBounds i true) w → I listed w) :
    ∀ (fuel : Nat) (listed : Array Bool) (a : Act) (w : World), HeadInv md ops ops.size listed →
      (∀ j oj, ops[j]? = some oj → j ≠ i → listed.getD j true = false → (∀ e ∈ oj.after, Region.binds md e = true → e.on ≠ i) → oi.apart ops oj = true) →
      i ∈ Region.ready md ops listed → YieldsIf P ops Si oi v a → I listed w →
      wpAnyI P md ops Q I fuel (listed.setIfInBounds i true) (a.put oi.dst v) w → wpAnyI P md ops Q I (fuel + 1) listed a w := by
  intro fuel
  induction fuel with
  | zero =>
    intro listed a w inv _ hr hy hS H
    refine ⟨fun h => (by rw [h] at hr; cases hr), fun j hj => ?_⟩
    by_cases hji : j = i
    · subst hji; exact hy.wpOp hi (hIi _ _ inv (mem_ready.1 hr).1 hS) ⟨hI1 _ _ hS, H⟩
    · have := ready_mono hj hji
      rw [H.1] at this
      cases this
  | succ fuel ih =>
    intro listed a w inv hfree hr hy hS H
    refine ⟨fun h => (by rw [h] at hr; cases hr), fun j hj => ?_⟩
    by_cases hji : j = i
    · subst hji; exact hy.wpOp hi (hIi _ _ inv (mem_ready.1 hr).1 hS) ⟨hI1 _ _ hS, H⟩
    · have h1 := H.2 j (ready_mono hj hji)
      obtain ⟨hjun, oj, hoj, hall⟩ := mem_ready.1 hj
      have hjlt : j < ops.size := (Array.getElem?_eq_some_iff.1 hoj).1
      have hnot : ∀ e ∈ oj.after, Region.binds md e = true → e.on ≠ i := fun e he hb heq => by
        have h1 := hall e he hb
        have h0 := (mem_ready.1 hr).1
        rw [heq] at h1
        rw [getD_both h0] at h1
        cases h1
      have h2 := wpOp_putIf hoj (hfree j oj hoj hji hjun hnot) (fun cs b => hsel i oi cs b hi) (fun cs b => hsel j oj cs b hoj) (fun c a w h => absurd h (hQ c _ w)) hy h1
      have hfree' : ∀ k ok, ops[k]? = some ok → k ≠ i → (listed.setIfInBounds j true).getD k true = false →
          (∀ e ∈ ok.after, Region.binds md e = true → e.on ≠ i) → oi.apart ops ok = true := fun k ok hk hki hun hno => by
        refine hfree k ok hk hki ?_ hno
        by_cases hjk : j = k
        · subst hjk; exact hjun
        · rw [getD_set_ne true hjk] at hun; exact hun
      refine wpOp_mono (fun a' w' h3 => ?_) h2
      have hc : (listed.setIfInBounds i true).setIfInBounds j true = (listed.setIfInBounds j true).setIfInBounds i true := Array.setIfInBounds_comm _ _ (Ne.symm hji)
      have h4 := h3.2.1
      have h5 := h3.2.2
      rw [hc] at h4 h5
      exact ⟨hI2 _ _ h4, ih (listed.setIfInBounds j true) a' w' (inv.set hj hjlt) hfree' (ready_mono hr (Ne.symm hji)) h3.1 (hI2 _ _ h4) h5⟩
/-! ### A schedule, by levels -/
/-- How far the writes have come: the levels of those listed. -/
def levN (tv : List (Nat × Nat)) (listed : Array Bool) : Nat := tv.foldl (fun k p => bif listed.getD p.1 false then max k p.2 else k) 0
def wpSchedI (P : Program) (ops : Array Oper) (Q : Exit → Act → World → Prop) (I : Array Bool → World → Prop) (Sy : Nat → World → Prop) (mv : List Nat) : List Nat → Array Bool → Act → World → Prop
  | [], _, a, w => Q .normal a w
  | i :: r, listed, a, w =>
    (mv.contains i = true ∧ wpOp P ops (calmQ Q) i (fun a' w' => I (listed.setIfInBounds i true) w' ∧ wpSchedI P ops Q I Sy mv r (listed.setIfInBounds i true) a' w') a w) ∨
    (mv.contains i = false ∧ ∃ o v, ops[i]? = some o ∧ YieldsIf P ops (Sy i) o v a ∧ wpSchedI P ops Q I Sy mv r (listed.setIfInBounds i true) (a.put o.dst v) w)
def headI (ops : Array Oper) (mv : List Nat) : List Nat → Array Bool → Bool
  | [], listed => (Region.ready .any ops listed).isEmpty
  | i :: r, listed =>
    bif mv.contains i then oneB ops listed i && headI ops mv r (listed.setIfInBounds i true) else
    Region.free .any ops listed i && (Region.ready .any ops listed).contains i && headI ops mv r (listed.setIfInBounds i true)
theorem sched_I {mv : List Nat} {Sy : Nat → World → Prop} (hs : Region.noSelect ops = true)
    (hIi : ∀ i listed w, mv.contains i = false → i < ops.size → HeadInv .any ops ops.size listed → listed.getD i true = false → I listed w → Sy i w)
    (hI1 : ∀ i listed w, mv.contains i = false → I listed w → I (listed.setIfInBounds i true) w) (hI2 : ∀ i listed w, mv.contains i = false → I (listed.setIfInBounds i true) w → I listed w) :
    ∀ (r : List Nat) (listed : Array Bool) (a : Act) (w : World), HeadInv .any ops ops.size listed → headI ops mv r listed = true → I listed w → wpSchedI P ops Q I Sy mv r listed a w → wpAnyI P .any ops (calmQ Q) I r.length listed a w
  | [], listed, a, w, _, h, _, hw => by
    simp only [headI, List.isEmpty_iff] at h
    exact ⟨h, rfl, hw⟩
  | i :: r, listed, a, w, inv, h, hS, hw => by
    unfold headI at h
    cases h2 : mv.contains i with
    | true =>
      rw [h2] at h
      simp only [cond_true, Bool.and_eq_true] at h
      have hr := oneB_spec h.1
      rcases hw with ⟨_, hw⟩ | ⟨hm, _⟩
      · refine ⟨fun h0 => (by rw [hr] at h0; cases h0), fun j hj => ?_⟩
        have hj' := hj
        rw [hr, List.mem_singleton] at hj'
        subst hj'
        obtain ⟨_, oj, hoj, _⟩ := mem_ready.1 hj
        exact wpOp_mono (fun a' w' h' => ⟨h'.1, sched_I hs hIi hI1 hI2 r _ a' w' (inv.set hj (Array.getElem?_eq_some_iff.1 hoj).1) h.2 h'.1 h'.2⟩) hw
      · rw [h2] at hm; cases hm
    | false =>
      rw [h2] at h
      simp only [cond_false, Bool.and_eq_true] at h
      have hr : i ∈ Region.ready .any ops listed := by simpa using h.1.2
      rcases hw with ⟨hm, _⟩ | ⟨_, o, v, ho, hy, hw⟩
      · rw [h2] at hm; cases hm
      · have hlt : i < ops.size := (Array.getElem?_eq_some_iff.1 ho).1
        exact wpAnyI_first ho (Region.noSelect_spec hs) (fun c a w hc => by cases hc.1) (fun l w a b c => hIi i l w h2 hlt a b c) (fun l w => hI1 i l w h2) (fun l w => hI2 i l w h2) r.length listed a w inv (Region.free_spec ho h.1.1) hr hy hS (sched_I hs hIi hI1 hI2 r _ _ w (inv.set hr hlt) h.2 (hI1 i _ _ h2 hS) hw)
theorem lev_le {tv : List (Nat × Nat)} {listed : Array Bool} {k : Nat} (h : ∀ p ∈ tv, listed.getD p.1 false = true → p.2 ≤ k) : levN tv listed ≤ k := by
  have key : ∀ (l : List (Nat × Nat)) (m : Nat), m ≤ k → (∀ p ∈ l, listed.getD p.1 false = true → p.2 ≤ k) → l.foldl (fun k p => bif listed.getD p.1 false then max k p.2 else k) m ≤ k := by
    intro l
    induction l with
    | nil => exact fun m hm _ => hm
    | cons p l ih =>
      intro m hm hl
      rw [List.foldl_cons]
      refine ih _ ?_ (fun q hq => hl q (.tail _ hq))
      cases hp : listed.getD p.1 false with
      | true => have := hl p (.head _) hp; simp only [cond_true]; omega
      | false => exact hm
  exact key tv 0 (Nat.zero_le _) h
theorem lev_set {tv : List (Nat × Nat)} {listed : Array Bool} {i : Nat} (h : ∀ p ∈ tv, p.1 ≠ i) : levN tv (listed.setIfInBounds i true) = levN tv listed := by
  have key : ∀ (l : List (Nat × Nat)) (m : Nat), (∀ p ∈ l, p.1 ≠ i) → l.foldl (fun k p => bif (listed.setIfInBounds i true).getD p.1 false then max k p.2 else k) m = l.foldl (fun k p => bif listed.getD p.1 false then max k p.2 else k) m := by
    intro l
    induction l with
    | nil => exact fun m _ => rfl
    | cons p l ih =>
      intro m hl
      rw [List.foldl_cons, List.foldl_cons, getD_set_ne false (Ne.symm (hl p (.head _)))]
      exact ih _ (fun q hq => hl q (.tail _ hq))
  exact key tv 0 h
theorem getD_replicate_false2 {n k : Nat} : (Array.replicate n false).getD k false = false := by
  simp only [Array.getD, Array.size_replicate]
  split
  · simp
  · rfl
def waitsT (ops : Array Oper) : Nat → Nat → Nat → Bool
  | 0, _, _ => false
  | k + 1, m, i => match ops[m]? with
    | some o => o.after.any fun e => Region.binds .any e && (e.on == i || waitsT ops k e.on i)
    | none => false
theorem waits_listed {listed : Array Bool} (inv : HeadInv .any ops ops.size listed) : ∀ (k m i : Nat), waitsT ops k m i = true → listed.getD m false = true → listed.getD i false = true
  | 0, _, _, h, _ => by cases h
  | k + 1, m, i, h, hm => by
    unfold waitsT at h
    cases ho : ops[m]? with
    | none => rw [ho] at h; cases h
    | some o =>
      rw [ho] at h
      simp only [Array.any_eq_true', Bool.and_eq_true, Bool.or_eq_true, beq_iff_eq] at h
      obtain ⟨e, he, hb, h1⟩ := h
      have h2 := inv.closed m o ho hm e he hb
      rcases h1 with h1 | h1
      · rw [← h1]; exact h2
      · exact waits_listed inv k _ i h1 h2
def lvOf (lv : List (Nat × Nat)) (top i : Nat) : Nat := match lv.find? (fun p => Nat.beq p.1 i) with
  | some p => p.2
  | none => top
def drawL (ops : Array Oper) (mv : List Nat) (tv lv : List (Nat × Nat)) (top : Nat) (ord : List Nat) : Bool :=
  Nat.beq ord.length ops.size && Region.noSelect ops && headI ops mv ord (Array.replicate ops.size false) && (tv.all fun p => mv.contains p.1) &&
  ((List.range ops.size).all fun i => mv.contains i || tv.all fun p => Nat.ble p.2 (lvOf lv top i) || waitsT ops ops.size p.1 i)
variable {W : World} {n : Nat} {c : Code} {H H' : List SProp} {RL : Nat → List SProp} {mv r : List Nat} {tv lv : List (Nat × Nat)} {top i d : Nat} {listed : Array Bool} {f : Fr}
variable {dst : Option Tmp} {ty_ : TypeId} {pos : String} {after : Array Edge} {guard : Option (Nat × Bool)}
def VL (W : World) (P : Program) (n : Nat) (c : Code) (RL : Nat → List SProp) (mv : List Nat) (tv lv : List (Nat × Nat)) (top : Nat) (r : List Nat) (listed : Array Bool) (Q : Exit → Act → World → Prop) (H : List SProp) (f : Fr) : Prop :=
  ∀ t w, Knows n f t → Holds W H w → wpSchedI P (regOps c).toArray Q (fun listed w => Holds W (RL (levN tv listed)) w) (fun i => Holds W (RL (lvOf lv top i))) mv r listed ⟨t, []⟩ w
theorem VC.drawnL (RL : Nat → List SProp) (mv : List Nat) (tv lv : List (Nat × Nat)) (top : Nat) (ord : List Nat) (hc : regDraw c = some true) (hm : P.follows .mixedOrders = true) (hB : drawL (regOps c).toArray mv tv lv top ord = true)
    (hR : Ent W H (RL 0)) (hE : ∀ k, Ent W (RL k) (RL (k + 1))) (h : VL W P n c RL mv tv lv top ord (Array.replicate (regOps c).length false) Q H f) : VC W P n c Q H f := by
  have hmono : ∀ a b, Ent W (RL a) (RL (a + b)) := by
    intro a b
    induction b with
    | zero => exact Ent.refl
    | succ b ih => exact Ent.trans ih (hE _)
  unfold VC
  cases c <;> simp [regDraw] at hc
  subst hc
  intro t w hk hw
  have h' := h t w.drew hk hw.drew
  simp only [regOps, Array.toArray_toList, Array.length_toList] at h' hB
  simp only [drawL, Bool.and_eq_true] at hB
  obtain ⟨⟨⟨⟨hl, hs⟩, hh⟩, ht⟩, hi⟩ := hB
  have hl' := Nat.eq_of_beq_eq_true hl
  have htv : ∀ i, mv.contains i = false → ∀ p ∈ tv, p.1 ≠ i := by
    intro i hi p hp e
    have := List.all_eq_true.1 ht p hp
    rw [e, hi] at this; cases this
  have h1 := sched_I (P := P) (Q := Q) (I := fun listed w => Holds W (RL (levN tv listed)) w) (Sy := fun i => Holds W (RL (lvOf lv top i))) (mv := mv) hs
    (fun i listed w hm hlt inv hun hI => by
      have h2 := List.all_eq_true.1 hi i (List.mem_range.2 hlt)
      rw [hm, Bool.false_or] at h2
      have h3 : levN tv listed ≤ lvOf lv top i := lev_le fun p hp hpl => by
        have h4 := List.all_eq_true.1 h2 p hp
        rw [Bool.or_eq_true] at h4
        rcases h4 with h4 | h4
        · exact Nat.le_of_ble_eq_true h4
        · have := waits_listed inv _ _ _ h4 hpl
          rw [getD_both hun] at this; cases this
      have h5 := hmono (levN tv listed) (lvOf lv top i - levN tv listed) w hI
      rwa [Nat.add_sub_cancel' h3] at h5)
    (fun i listed w hm hI => by show Holds W (RL (levN tv _)) w; rw [lev_set (htv i hm)]; exact hI)
    (fun i listed w hm hI => by have : Holds W (RL (levN tv (listed.setIfInBounds i true))) w := hI; rw [lev_set (htv i hm)] at this; exact this)
    ord _ _ w.drew (HeadInv.start _) hh (by
      show Holds W (RL (levN tv _)) w.drew
      have h0 : ∀ m, levN tv (Array.replicate m false) = 0 := fun m => Nat.le_zero.1 (lev_le fun p hp hpl => by rw [getD_replicate_false2] at hpl; cases hpl)
      rw [h0]; exact hR _ hw.drew) h'
  rw [hl'] at h1
  refine Code.wp_mono ?_ (wp_region_any (Q := calmQ Q) hm (wpAny_of_I _ _ _ _ h1))
  rintro e a w ⟨rfl, hq⟩
  exact hq
theorem VL.nil (h : VE W n Q .normal H f) : VL W P n c RL mv tv lv top [] listed Q H f := by
  unfold VE at h
  exact fun t w hk hw => h t w hk hw
theorem VL.take {op : Op} {v : Value} (ho : (regOps c)[i]? = some { dst := some d, op, type := ty_, pos, after, guard }) (hm : mv.contains i = false) (hg : wantX (regOps c) guard f = some true) (k : Nat) (hl : lvOf lv top i = k)
    (hp : PureAt W P n (RL k) f { dst := some d, op, type := ty_, pos, after, guard } v) (hd : Nat.blt d n = true) (h : VL W P n c RL mv tv lv top r (listed.setIfInBounds i true) Q H ((d, v) :: f)) : VL W P n c RL mv tv lv top (i :: r) listed Q H f := by
  subst hl
  unfold PureAt at hp
  intro t w hk hw
  exact .inr ⟨hm, _, v, by simpa using ho, .inl ⟨hk.wanted (o := { dst := some d, op, type := ty_, pos, after, guard }) hg, fun w hS => hp t w hk hS⟩, h _ w (hk.put hd) hw⟩
theorem VL.mid {o : Oper} (ho : (regOps c)[i]? = some o) (hm : mv.contains i = true) (hg : wantX (regOps c) o.guard f = some true) (k : Nat) (hl : levN tv (listed.setIfInBounds i true) = k)
    (h : OpV W P n o (calmQ Q) H f (fun H' f' => Ent W H' (RL k) ∧ VL W P n c RL mv tv lv top r (listed.setIfInBounds i true) Q H' f')) : VL W P n c RL mv tv lv top (i :: r) listed Q H f := by
  subst hl
  unfold OpV at h
  intro t w hk hw
  refine .inl ⟨hm, ?_⟩
  unfold wpOp
  simp only [List.getElem?_toArray, ho]
  rw [if_pos (hk.wanted hg)]
  exact .inl (h t w hk hw _ (fun H' f' hN t' w' hk' hw' => ⟨hN.1 w' hw', hN.2 t' w' hk' hw'⟩))
theorem VL.re {v : Value} (k : Nat) (v' : Value) (hl : look f k = some v) (e : v = v') (h : VL W P n c RL mv tv lv top r listed Q H ((k, v') :: f)) : VL W P n c RL mv tv lv top r listed Q H f := fun t w hk hw => h t w (hk.again (e ▸ hl)) hw
end
attribute [irreducible] VL
end Go.Sl

/-! Text Ng. -/
/- Scan: what counts in a ring: the walk. -/
set_option maxRecDepth 8000
set_option linter.unusedVariables false
set_option linter.unusedSimpArgs false
set_option linter.unusedSectionVars false
namespace Go.Sl
open Go Go.RowKit
section
variable {W : World} {P : Program} {n : Nat} {c : Code} {Q : Exit → Act → World → Prop} {H H' L R : List SProp} {f F : Fr} {mv ord r : List Nat} {tl i x d e : Nat} {X : Nat → SProp} {vx : Nat → Value}
variable {dst : Option Tmp} {ty_ : TypeId} {pos : String} {after : Array Edge} {guard : Option (Nat × Bool)}
/-- A call that makes memory, beside an operation that may come at any time. -/
theorem VX.callD {ox : Oper} {y : Operand} {xs : Array Operand} {ats : Array TypeId} {g : FuncId} {cap : Array Value} {vs : List Value} {β : Type} {A : β → Prop} {rv : β → Value} {S : β → List SProp}
    (ho : (regOps c)[i]? = some { dst := some e, op := .call { callee := .value y, args := xs, argTypes := ats }, type := ty_, pos, after, guard }) (hix : Nat.beq i x = false) (hm : mv.contains i = true) (hg : wantX (regOps c) guard f = some true)
    (hx : evalX f y = some (.func (.func g) #[] cap)) (ha : argsX f xs.toList = some vs) (hc : ∀ a w, (callFunc g a).run P w = .ok (.enter g a) w) (spec : ∀ L, Ent W L H → Does W P g (vs ++ cap.toList) L A rv (fun x => S x ++ L))
    (hox : (regOps c)[x]? = some ox) (fx : FloatX W P n ox d X vx) (hR : Ent W H R) (hd : Nat.blt e n = true) (hfd : look f d = none) (hed : Nat.beq e d = false) (h : ∀ z, A z → VX W P n c R mv tl x d X vx r Q (S z ++ H) ((e, rv z) :: f)) : VX W P n c R mv tl x d X vx (i :: r) Q H f := by
  have hne : i ≠ x := by intro q; subst q; simp at hix
  have hdrop : ∀ (A B : List SProp), Ent W (A ++ B) B := by
    intro A
    induction A with
    | nil => exact fun _ => Ent.refl
    | cons a A ih => exact fun B => Ent.trans (Ent.drop Ent.refl) (ih B)
  have second : ∀ b t w, Knows n ((d, vx b) :: f) t → Holds W (X b :: H) w → wpSched P (regOps c).toArray Q (Holds W R) mv tl (i :: r.erase x) ⟨t, []⟩ w := by
    intro b t w hk hw
    have hk' := hk.under hfd
    refine .inl ⟨by unfold mvB; rw [hm]; rfl, ?_⟩
    unfold wpOp
    simp only [List.getElem?_toArray, ho]
    rw [if_pos (hk'.wanted (o := { dst := some e, op := .call { callee := .value y, args := xs, argTypes := ats }, type := ty_, pos, after, guard }) hg)]
    have hE : Ent W (X b :: H) H := Ent.drop Ent.refl
    have hs := spec _ hE
    refine .inl ?_
    have hargs : xs.map (Act.eval ⟨t, []⟩) = vs.toArray := by
      have := hk'.args ha
      apply Array.ext'
      simpa using this
    unfold Does at hs
    have hs := hs w hw
    unfold Oper.wp execOp
    simp only [resolve, hk'.eval hx, hargs, Deferred.ofValue, invoke, Sem.run_bind, Sem.run_pure, Result.andThen_ok, hc, Oper.upon]
    have e9 : #[] ++ vs.toArray ++ cap = (vs ++ cap.toList).toArray := by simp
    rw [e9]
    refine Calls.mono hs ?_
    rintro e8 w' ⟨z, hA, rfl, hG⟩
    have h2 := h z hA
    unfold VX at h2
    exact ⟨fun _ => hR _ (hdrop _ _ _ hG).tail, h2.2 b _ w' ((hk.put hd).swap hed) (hG.perm List.perm_middle)⟩
  unfold VX
  refine ⟨fun t w hk hw => .inr (.inl ⟨hne, hm, ?_, ?_⟩), fun b t w hk hw => by rw [List.erase_cons_tail (by simpa using hne)]; exact second b t w hk hw⟩
  · unfold wpOp
    simp only [List.getElem?_toArray, ho]
    rw [if_pos (hk.wanted (o := { dst := some e, op := .call { callee := .value y, args := xs, argTypes := ats }, type := ty_, pos, after, guard }) hg)]
    have := OpV.call (W := W) (n := n) (d := e) (ty_ := ty_) (pos := pos) (after := after) (guard := guard) (ats := ats) (Q := calmQ Q) (f := f) (H := H) (N := fun H' f' => ∃ z, A z ∧ H' = S z ++ H ∧ f' = (e, rv z) :: f) hx ha hc (spec _ Ent.refl) Ent.refl hd (fun z hz => ⟨z, hz, rfl, rfl⟩)
    unfold OpV at this
    refine .inl (this t w hk hw _ ?_)
    rintro H' f' ⟨z, hz, rfl, rfl⟩ t' w' hk' hw'
    have h2 := h z hz
    unfold VX at h2
    exact ⟨hR _ (hdrop _ _ _ hw'), h2.1 t' w' hk' hw'⟩
  · unfold wpOp
    simp only [List.getElem?_toArray, hox]
    rw [if_pos (by unfold Region.wanted; rw [fx.guard])]
    have := fx.run (calmQ Q) H f (fun H' f' => ∃ b, H' = X b :: H ∧ f' = (d, vx b) :: f) (fun b => ⟨b, rfl, rfl⟩)
    unfold OpV at this
    refine .inl (this t w hk hw _ ?_)
    rintro H' f' ⟨b, rfl, rfl⟩ t' w' hk' hw'
    exact ⟨hR _ hw'.tail, second b t' w' hk' hw'⟩
end
end Go.Sl
namespace Go.Proofs.Ytlojjlbngnaphaa
open Go.RowKit Go.Sl
attribute [local irreducible] Own

theorem txnsO_one {l : List TxnE} (t : TxnE) (so : Option Addr) (sc : Nat) : TxnsO (so, sc) (l ++ [t]) = Sl.Own 25 2 (.slice so (l.length + 1) sc) (l.length + 1) (txnCells l ++ t.cells) := by
  show Sl.Own 25 2 (.slice so (l ++ [t]).length sc) (l ++ [t]).length (txnCells (l ++ [t])) = _
  rw [List.length_append, show txnCells (l ++ [t]) = txnCells l ++ t.cells by simp [txnCells]]; rfl
def levF (b : Nat) (A B C D : Value) : Nat → List SProp
  | 0 => [Row b 61 [A, B, C, D]]
  | 1 => [ex fun v : Value => Row b 61 [A, v, C, D]]
  | 2 => [ex fun v : Value × Value => Row b 61 [A, v.1, C, v.2]]
  | _ => []
theorem levF_step {W : World} (b : Nat) (A B C D : Value) : ∀ k, Ent W (levF b A B C D k) (levF b A B C D (k + 1))
  | 0 => fun w hw => Holds.exShut (P := fun v : Value => Row b 61 [A, v, C, D]) B hw
  | 1 => fun w hw => by
    obtain ⟨v, h⟩ := hw.exOpen
    exact Holds.exShut (P := fun v : Value × Value => Row b 61 [A, v.1, C, v.2]) (v, D) h
  | 2 => fun w hw => hw.tail
  | _ + 3 => fun w hw => hw
abbrev TxnE.T (t : TxnE) : Nat × List PatD := (t.seq, t.pats.map PatE.D)
def badM (data : List UInt8) (c : ChkD) : Prop := c.enc.1 ≠ 0 ∨ data.length % 128 ≠ 0 ∨ data.length / 128 < 5 ∨ 2048 < data.length / 128 ∨ ((data.length / 128 : Nat) : Int) ≤ c.tail
instance (data : List UInt8) (c : ChkD) : Decidable (badM data c) := by unfold badM; exact inferInstance
set_option maxHeartbeats 2000000 in
theorem of_ok {W : World} {R : List SProp} {ao : Option Addr} {cap : Nat} {data : List UInt8} (hr : Rds W R 1 ao data.length (bytes data)) (hcap : data.length ≤ cap) (hlen : data.length ≤ 140737488351232) (c : ChkD) (hf : c.fit) :
    Does W Try.prog 21 [.slice ao data.length cap, .agg c.cells.toArray] R (β := (Option Addr × Nat) × List TxnE) (fun y => y.2.map TxnE.T = (foundM data c).2.txns)
      (fun y => .tuple #[.agg [.slice y.1.1 y.2.length y.1.2, .int .u64 ((foundM data c).2.next : Int), .int .i64 ((foundM data c).2.head : Int), .int .i64 ((foundM data c).2.used : Int)].toArray, .int .u16 (foundM data c).1]) (fun y => TxnsO y.1 y.2 :: PilT y.2 :: R) := by
  (refine Does.enter Try.func21 Try.ntmps21 rfl rfl ?_)
  (refine w ?_; repeat ((first | refine VO.step rfl rfl ?_ | refine VD.end rfl rfl rfl ?_ | refine VD.mid rfl rfl rfl ?_); refine OpV.box rfl rfl rfl ?_; intro _; refine w ?_))
  rename_i n3
  ((first | refine VO.step rfl rfl ?_ | refine VD.end rfl rfl rfl ?_ | refine VD.mid rfl rfl rfl ?_); refine OpV.allocS sb_61 rfl ?_; intro n4)
  (refine w ?_; repeat ((first | refine VO.step rfl rfl ?_ | refine VD.end rfl rfl rfl ?_ | refine VD.mid rfl rfl rfl ?_); refine OpV.box rfl rfl rfl ?_; intro _; refine w ?_))
  ((first | refine VO.step rfl rfl ?_ | refine VD.end rfl rfl rfl ?_ | refine VD.mid rfl rfl rfl ?_); refine OpV.call rfl rfl (fun _ _ => by simp) (encs_ok c hf) Ent.refl rfl ?_)
  rintro ⟨ea, ec⟩ -
  (refine w ?_; repeat ((first | refine VO.step rfl rfl ?_ | refine VD.end rfl rfl rfl ?_ | refine VD.mid rfl rfl rfl ?_); refine OpV.box rfl rfl rfl ?_; intro _; refine w ?_))
  refine VC.ent (H' := Row n4 61 [.slice none 0 0, .int .u64 0, .int .i64 0, .int .i64 0] :: Row n3 57 c.cells :: R) Ent.re ?_
  refine VC.joinH [(43, .bool (decide (badM data c))), (3, .pointer (some ⟨n3, 0, none⟩)), (4, .pointer (some ⟨n4, 0, none⟩)), (6, .slice ao data.length cap)] ?_ ?_
  · intro Q2 jn
    (refine VC.drawn [10, 15, 22] 23 [0, 1, 2, 3, 4, 5, 6, 7, 8, 9, 10, 11, 12, 13, 14, 15, 16, 17, 18, 19, 20, 21, 22, 23, 24] _ rfl (by kernel_rfl) (by kernel_rfl) Ent.re ?_)
    (refine w ?_; repeat ((first | refine VO.step rfl rfl ?_ | refine VD.end rfl rfl rfl ?_ | refine VD.mid rfl rfl rfl ?_); refine OpV.box rfl rfl rfl ?_; intro _; refine w ?_))
    ((first | refine VO.split rfl rfl rfl ?_ ?_ | refine VD.split rfl rfl rfl ?_ ?_) <;> intro hb)
    · have hz : badM data c := .inl (by simpa using hb)
      (refine w ?_; repeat ((first | refine VO.step rfl rfl ?_ | refine VD.end rfl rfl rfl ?_ | refine VD.mid rfl rfl rfl ?_); refine OpV.box rfl rfl rfl ?_; intro _; refine w ?_))
      exact jn.to () trivial ⟨asV rfl (by simp [hz]), rfl, rfl, rfl, trivial⟩ Ent.re
    have b1 : c.enc.1 = 0 := by simpa using hb
    clear hb
    (refine w ?_; repeat ((first | refine VO.step rfl rfl ?_ | refine VD.end rfl rfl rfl ?_ | refine VD.mid rfl rfl rfl ?_); refine OpV.box rfl rfl rfl ?_; intro _; refine w ?_))
    (first | refine VO.pure rfl rfl (PureAt.rem (a := data.length) (b := 128) rfl rfl (by decide)) rfl ?_ | refine VD.take rfl rfl rfl (PureAt.rem (a := data.length) (b := 128) rfl rfl (by decide)) rfl ?_ | refine VQ.pure rfl rfl (PureAt.rem (a := data.length) (b := 128) rfl rfl (by decide)) rfl ?_ | refine VD.end rfl rfl rfl (OpV.pure (PureAt.rem (a := data.length) (b := 128) rfl rfl (by decide)) rfl ?_))
    (refine w ?_; repeat ((first | refine VO.step rfl rfl ?_ | refine VD.end rfl rfl rfl ?_ | refine VD.mid rfl rfl rfl ?_); refine OpV.box rfl rfl rfl ?_; intro _; refine w ?_))
    ((first | refine VO.split rfl rfl rfl ?_ ?_ | refine VD.split rfl rfl rfl ?_ ?_) <;> intro hb)
    · have hz : badM data c := .inr (.inl (by have := hb; simp at this; omega))
      (refine w ?_; repeat ((first | refine VO.step rfl rfl ?_ | refine VD.end rfl rfl rfl ?_ | refine VD.mid rfl rfl rfl ?_); refine OpV.box rfl rfl rfl ?_; intro _; refine w ?_))
      exact jn.to () trivial ⟨asV rfl (by simp [hz]), rfl, rfl, rfl, trivial⟩ Ent.re
    have b2 : data.length % 128 = 0 := by have := hb; simp at this; omega
    have hnn : data.length = data.length / 128 * 128 := by omega
    clear hb
    (refine w ?_; repeat ((first | refine VO.step rfl rfl ?_ | refine VD.end rfl rfl rfl ?_ | refine VD.mid rfl rfl rfl ?_); refine OpV.box rfl rfl rfl ?_; intro _; refine w ?_))
    ((first | refine VO.step rfl rfl ?_ | refine VD.end rfl rfl rfl ?_ | refine VD.mid rfl rfl rfl ?_); refine OpV.call rfl rfl (fun _ _ => by simp) (size_ok hnn (by omega)) Ent.refl rfl ?_)
    intro _ _
    refine ⟨Ent.re, ?_⟩
    (refine w ?_; repeat ((first | refine VO.step rfl rfl ?_ | refine VD.end rfl rfl rfl ?_ | refine VD.mid rfl rfl rfl ?_); refine OpV.box rfl rfl rfl ?_; intro _; refine w ?_))
    ((first | refine VO.split rfl rfl rfl ?_ ?_ | refine VD.split rfl rfl rfl ?_ ?_) <;> intro hb)
    · have hz : badM data c := .inr (.inr (.inl (by have := hb; simp at this; omega)))
      (refine w ?_; repeat ((first | refine VO.step rfl rfl ?_ | refine VD.end rfl rfl rfl ?_ | refine VD.mid rfl rfl rfl ?_); refine OpV.box rfl rfl rfl ?_; intro _; refine w ?_))
      exact jn.to () trivial ⟨asV rfl (by simp [hz]), rfl, rfl, rfl, trivial⟩ Ent.re
    have b3 : ¬ data.length / 128 < 5 := by have := hb; simp at this; omega
    clear hb
    (refine w ?_; repeat ((first | refine VO.step rfl rfl ?_ | refine VD.end rfl rfl rfl ?_ | refine VD.mid rfl rfl rfl ?_); refine OpV.box rfl rfl rfl ?_; intro _; refine w ?_))
    ((first | refine VO.step rfl rfl ?_ | refine VD.end rfl rfl rfl ?_ | refine VD.mid rfl rfl rfl ?_); refine OpV.call rfl rfl (fun _ _ => by simp) (size_ok hnn (by omega)) Ent.refl rfl ?_)
    intro _ _
    refine ⟨Ent.re, ?_⟩
    (refine w ?_; repeat ((first | refine VO.step rfl rfl ?_ | refine VD.end rfl rfl rfl ?_ | refine VD.mid rfl rfl rfl ?_); refine OpV.box rfl rfl rfl ?_; intro _; refine w ?_))
    ((first | refine VO.split rfl rfl rfl ?_ ?_ | refine VD.split rfl rfl rfl ?_ ?_) <;> intro hb)
    · have hz : badM data c := .inr (.inr (.inr (.inl (by have := hb; simp at this; omega))))
      (refine w ?_; repeat ((first | refine VO.step rfl rfl ?_ | refine VD.end rfl rfl rfl ?_ | refine VD.mid rfl rfl rfl ?_); refine OpV.box rfl rfl rfl ?_; intro _; refine w ?_))
      exact jn.to () trivial ⟨asV rfl (by simp [hz]), rfl, rfl, rfl, trivial⟩ Ent.re
    have b4 : ¬ 2048 < data.length / 128 := by have := hb; simp at this; omega
    clear hb
    (refine w ?_; repeat ((first | refine VO.step rfl rfl ?_ | refine VD.end rfl rfl rfl ?_ | refine VD.mid rfl rfl rfl ?_); refine OpV.box rfl rfl rfl ?_; intro _; refine w ?_))
    ((first | refine VO.step rfl rfl ?_ | refine VD.end rfl rfl rfl ?_ | refine VD.mid rfl rfl rfl ?_); refine OpV.call rfl rfl (fun _ _ => by simp) (size_ok hnn (by omega)) Ent.refl rfl ?_)
    intro _ _
    refine ⟨Ent.re, ?_⟩
    (refine w ?_; repeat ((first | refine VO.step rfl rfl ?_ | refine VD.end rfl rfl rfl ?_ | refine VD.mid rfl rfl rfl ?_); refine OpV.box rfl rfl rfl ?_; intro _; refine w ?_))
    refine jn.to () trivial ⟨asV rfl (by
      congr 1; rw [Bool.eq_iff_iff]; unfold badM; simp only [b1, b2, b3, b4, decide_eq_true_iff, ne_eq, not_true_eq_false, false_or]), rfl, rfl, rfl, trivial⟩ Ent.re
  (refine w ?_; repeat ((first | refine VO.step rfl rfl ?_ | refine VD.end rfl rfl rfl ?_ | refine VD.mid rfl rfl rfl ?_); refine OpV.box rfl rfl rfl ?_; intro _; refine w ?_))
  (refine VC.cond rfl rfl ?_ ?_ <;> intro hc)
  · have hz : foundM data c = (1, ⟨[], 0, 0, 0⟩) := if_pos (of_decide_eq_true hc)
    (refine w ?_; repeat ((first | refine VO.step rfl rfl ?_ | refine VD.end rfl rfl rfl ?_ | refine VD.mid rfl rfl rfl ?_); refine OpV.box rfl rfl rfl ?_; intro _; refine w ?_))
    (apply VO.pure rfl rfl; apply PureAt.build sb_61 (pv := []) rfl; rfl; rfl)
    (refine w ?_; repeat ((first | refine VO.step rfl rfl ?_ | refine VD.end rfl rfl rfl ?_ | refine VD.mid rfl rfl rfl ?_); refine OpV.box rfl rfl rfl ?_; intro _; refine w ?_))
    (first | refine VO.step rfl rfl ?_ | refine VD.end rfl rfl rfl ?_ | refine VD.mid rfl rfl rfl ?_)
    refine OpV.stA (vs := [.slice none 0 0, .int .u64 0, .int .i64 0, .int .i64 0]) tab_ok rfl rfl rfl rfl (by simp [Value.oneCell']) (by (repeat first | exact .head | apply Hole.tail)) (by simp) ?_
    (refine w ?_; repeat ((first | refine VO.step rfl rfl ?_ | refine VD.end rfl rfl rfl ?_ | refine VD.mid rfl rfl rfl ?_); refine OpV.box rfl rfl rfl ?_; intro _; refine w ?_))
    refine VE.results2 (.inl rfl) ((none, 0), []) rfl (ResIs.agg (vs := [.slice none 0 0, .int .u64 0, .int .i64 0, .int .i64 0]) tab_ok rfl rfl (.head _) rfl rfl) (.tmp rfl) (by rw [hz]; rfl) (by rw [hz]; rfl) ?_
    exact Ent.trans (Ent.re (L := R)) (fun w hw => (pile_nil (res := TxnE.res) hw).ownNil _ _)
  have hnb : ¬ badM data c := of_decide_eq_false hc
  clear hc
  obtain ⟨n, hn⟩ : ∃ n, n = data.length / 128 := ⟨_, rfl⟩
  have hfnd : foundM data c = (0, ⟨ofM (secB data) n c.epoch (n + 1) c.seq 0 c.tail.toNat, c.seq + (ofM (secB data) n c.epoch (n + 1) c.seq 0 c.tail.toNat).length, (c.tail.toNat + costT (ofM (secB data) n c.epoch (n + 1) c.seq 0 c.tail.toNat)) % n, costT (ofM (secB data) n c.epoch (n + 1) c.seq 0 c.tail.toNat)⟩) := by
    rw [hn]; exact if_neg hnb
  have hen : c.enc.1 = 0 := Decidable.byContradiction fun q => hnb (.inl q)
  have hgood : c.good := by
    by_cases g : c.good
    · exact g
    · rw [chk_bad g] at hen; cases hen
  have hct := (chk_iff c).1 hgood
  have b2 : data.length % 128 = 0 := Decidable.byContradiction fun q => hnb (.inr (.inl q))
  have b3 : ¬ n < 5 := fun q => hnb (.inr (.inr (.inl (hn ▸ q))))
  have b4 : ¬ 2048 < n := fun q => hnb (.inr (.inr (.inr (.inl (hn ▸ q)))))
  have b5 : ¬ (n : Int) ≤ c.tail := fun q => hnb (.inr (.inr (.inr (.inr (hn ▸ q)))))
  have hdn : data.length = n * 128 := by omega
  obtain ⟨tl, htl⟩ : ∃ tl : Nat, c.tail = tl := ⟨c.tail.toNat, by omega⟩
  rw [htl, Int.toNat_natCast] at hfnd
  obtain ⟨la, rfl⟩ : ∃ a, ao = some a := by cases ao with | none => have := hr.nil rfl; omega | some a => exact ⟨a, rfl⟩
  (refine w ?_; repeat ((first | refine VO.step rfl rfl ?_ | refine VD.end rfl rfl rfl ?_ | refine VD.mid rfl rfl rfl ?_); refine OpV.box rfl rfl rfl ?_; intro _; refine w ?_))
  ((first | apply VO.pure rfl rfl | apply VD.take rfl rfl rfl | (refine VD.end rfl rfl rfl ?_; apply OpV.pure)); apply PureAt.build sb_61 rfl; (simp [buildX, setL, Value.cells]; rfl); rfl)
  ((first | refine VO.step rfl rfl ?_ | refine VD.end rfl rfl rfl ?_ | refine VD.mid rfl rfl rfl ?_); refine OpV.allocS sb_61 rfl ?_; intro n9)
  (refine w ?_; repeat ((first | refine VO.step rfl rfl ?_ | refine VD.end rfl rfl rfl ?_ | refine VD.mid rfl rfl rfl ?_); refine OpV.box rfl rfl rfl ?_; intro _; refine w ?_))
  (first | refine VO.step rfl rfl ?_ | refine VD.end rfl rfl rfl ?_ | refine VD.mid rfl rfl rfl ?_)
  refine OpV.stA (vs := [.slice none 0 0, .int .u64 c.seq, .int .i64 c.tail, .int .i64 0]) tab_ok rfl rfl rfl rfl (by simp [Value.oneCell']) (by (repeat first | exact .head | apply Hole.tail)) (by simp) ?_
  (refine w ?_; repeat ((first | refine VO.step rfl rfl ?_ | refine VD.end rfl rfl rfl ?_ | refine VD.mid rfl rfl rfl ?_); refine OpV.box rfl rfl rfl ?_; intro _; refine w ?_))
  refine VC.loop (α := List TxnE × (Option Addr × Nat) × Nat) (fun y => ofM (secB data) n c.epoch (n + 1) c.seq 0 tl = y.1.map TxnE.T ++ ofM (secB data) n c.epoch y.2.2 (c.seq + y.1.length) (costT (y.1.map TxnE.T)) ((tl + costT (y.1.map TxnE.T)) % n) ∧ costT (y.1.map TxnE.T) ≤ n ∧ n < costT (y.1.map TxnE.T) + y.2.2 ∧ y.1.length ≤ costT (y.1.map TxnE.T))
    (fun y => Row n9 61 [.slice y.2.1.1 y.1.length y.2.1.2, .int .u64 ((c.seq + y.1.length : Nat) : Int), .int .i64 (((tl + costT (y.1.map TxnE.T)) % n : Nat) : Int), .int .i64 ((costT (y.1.map TxnE.T) : Nat) : Int)] :: TxnsO y.2.1 y.1 :: PilT y.1 :: Row n4 61 [.slice none 0 0, .int .u64 0, .int .i64 0, .int .i64 0] :: Row n3 57 c.cells :: R)
    (fun y => [(3, .pointer (some ⟨n3, 0, none⟩)), (4, .pointer (some ⟨n4, 0, none⟩)), (6, .slice (some la) (n * 128) cap), (9, .pointer (some ⟨n9, 0, none⟩))]) (fun y => y.2.2) rfl ([], (none, 0), n + 1) ?_ ?_ ⟨rfl, rfl, asV rfl (by rw [hdn]), rfl, trivial⟩ ?_
  · have h1 : tl % n = tl := Nat.mod_eq_of_lt (by omega)
    refine ⟨?_, Nat.zero_le _, by show n < 0 + (n + 1); omega, Nat.zero_le _⟩
    show _ = [] ++ ofM (secB data) n c.epoch (n + 1) (c.seq + 0) 0 ((tl + 0) % n)
    rw [List.nil_append]; simp only [Nat.add_zero]; rw [h1]
  · have h1 : tl % n = tl := Nat.mod_eq_of_lt (by omega)
    dsimp only
    rw [show (tl + costT (([] : List TxnE).map TxnE.T)) % n = tl from h1, ← htl]
    exact Ent.trans (fun w hw => (pile_nil (res := TxnE.res) hw).ownNil 25 2) Ent.re
  rintro ⟨l, x, f⟩ ⟨hof, hus, hfu, hll⟩
  dsimp only at hof hus hfu hll ⊢
  have hr' : Rds W R 1 (some la) (n * 128) (bytes data) := hdn ▸ hr
  (refine w ?_; repeat ((first | refine VO.step rfl rfl ?_ | refine VD.end rfl rfl rfl ?_ | refine VD.mid rfl rfl rfl ?_); refine OpV.box rfl rfl rfl ?_; intro _; refine w ?_))
  (refine VC.cond rfl rfl ?_ ?_ <;> intro hc)
  · have hmx : c.seq + l.length ≤ 4611686018427387904 := by have := of_decide_eq_true hc; omega
    clear hc
    have hhd : (tl + costT (l.map TxnE.T)) % n < n := Nat.mod_lt _ (by omega)
    (refine w ?_; repeat ((first | refine VO.step rfl rfl ?_ | refine VD.end rfl rfl rfl ?_ | refine VD.mid rfl rfl rfl ?_); refine OpV.box rfl rfl rfl ?_; intro _; refine w ?_))
    refine VC.drawnX [4, 12, 16, 17] 18 16 [0, 1, 2, 3, 5, 6, 8, 9, 10, 11, 4, 7, 12, 13, 14, 15, 16, 17, 18] _ 10 (fun b => Row b 25 [.int .u64 0, .slice none 0 0]) (fun b => .pointer (some ⟨b, 0, none⟩)) rfl (by kernel_rfl) (by kernel_rfl) Ent.refl ?_
    (repeat (apply VX.take rfl rfl rfl rfl; (first | (apply PureAt.ar64 rfl rfl rfl; omega) | exact .eval tab_ok rfl | (apply PureAt.ld tab_ok rfl rfl; (focus repeat first | exact .head _ | apply List.Mem.tail); rfl) | (apply PureAt.shr rfl rfl (by decide) (by decide)) | (apply PureAt.shr rfl rfl (by omega) (by simp only [IntKind.bits]; omega)) | exact .fieldAddrA tab_ok rfl rfl | exact .sliceLH tab_ok rfl rfl rfl rfl (by omega) (by omega) | exact .sliceH tab_ok rfl rfl rfl (by omega) | exact .sliceL tab_ok rfl rfl rfl (by omega) | (first | exact .indexAddr tab_ok rfl rfl rfl rfl (by omega) | exact .indexAddrN tab_ok rfl rfl rfl rfl (by omega) | exact .indexAddrI tab_ok rfl rfl rfl rfl (toNatLit _) (by decide) (by omega) | exact .indexAddrNI tab_ok rfl rfl rfl rfl (toNatLit _) (by decide) (by omega) | exact .ldR tab_ok rfl rfl hr1 (List.getElem?_eq_getElem (by omega)) | exact .ldR tab_ok rfl rfl hr2 (List.getElem?_eq_getElem (by omega)) | exact ldB tab_ok rfl rfl hb1 (by omega) | exact ldB tab_ok rfl rfl hb2 (by omega)) | exact .sliceHI tab_ok rfl rfl rfl (toNatLit _) (by decide) (by omega) | exact .sliceLI tab_ok rfl rfl rfl (toNatLit _) (by decide) (by omega) | (apply PureAt.ldA tab_ok rfl rfl; (focus repeat first | exact .head _ | apply List.Mem.tail); rfl; rfl) | exact .ldro tab_ok rfl rfl (by assumption)); rfl; rfl; rfl))
    (refine VX.call rfl rfl rfl rfl rfl rfl (fun _ _ => by simp) (fun L hL => size_ok rfl (by omega)) rfl (FloatX.alloc sb_25 rfl) Ent.refl rfl rfl rfl ?_)
    (repeat (apply VX.take rfl rfl rfl rfl; (first | (apply PureAt.ar64 rfl rfl rfl; omega) | exact .eval tab_ok rfl | (apply PureAt.ld tab_ok rfl rfl; (focus repeat first | exact .head _ | apply List.Mem.tail); rfl) | (apply PureAt.shr rfl rfl (by decide) (by decide)) | (apply PureAt.shr rfl rfl (by omega) (by simp only [IntKind.bits]; omega)) | exact .fieldAddrA tab_ok rfl rfl | exact .sliceLH tab_ok rfl rfl rfl rfl (by omega) (by omega) | exact .sliceH tab_ok rfl rfl rfl (by omega) | exact .sliceL tab_ok rfl rfl rfl (by omega) | (first | exact .indexAddr tab_ok rfl rfl rfl rfl (by omega) | exact .indexAddrN tab_ok rfl rfl rfl rfl (by omega) | exact .indexAddrI tab_ok rfl rfl rfl rfl (toNatLit _) (by decide) (by omega) | exact .indexAddrNI tab_ok rfl rfl rfl rfl (toNatLit _) (by decide) (by omega) | exact .ldR tab_ok rfl rfl hr1 (List.getElem?_eq_getElem (by omega)) | exact .ldR tab_ok rfl rfl hr2 (List.getElem?_eq_getElem (by omega)) | exact ldB tab_ok rfl rfl hb1 (by omega) | exact ldB tab_ok rfl rfl hb2 (by omega)) | exact .sliceHI tab_ok rfl rfl rfl (toNatLit _) (by decide) (by omega) | exact .sliceLI tab_ok rfl rfl rfl (toNatLit _) (by decide) (by omega) | (apply PureAt.ldA tab_ok rfl rfl; (focus repeat first | exact .head _ | apply List.Mem.tail); rfl; rfl) | exact .ldro tab_ok rfl rfl (by assumption)); rfl; rfl; rfl))
    refine VX.re 61 (.int .i64 ((n - costT (l.map TxnE.T) : Nat) : Int)) rfl (by congr 1; omega) rfl rfl ?_
    have hE : Ent W (Row n9 61 [.slice x.1 l.length x.2, .int .u64 ((c.seq + l.length : Nat) : Int), .int .i64 (((tl + costT (l.map TxnE.T)) % n : Nat) : Int), .int .i64 ((costT (l.map TxnE.T) : Nat) : Int)] :: TxnsO x l :: PilT l :: Row n4 61 [.slice none 0 0, .int .u64 0, .int .i64 0, .int .i64 0] :: Row n3 57 c.cells :: R) R := Ent.re
    refine VX.callD (S := fun t : TxnE => [PatsO (t.ao, t.cap) t.pats, PilP t.pats]) rfl rfl rfl rfl rfl rfl (fun _ _ => by simp)
      (fun L hL => batch_ok (R := L) (by omega) (by omega) ((tl + costT (l.map TxnE.T)) % n) (n - costT (l.map TxnE.T)) c.epoch (c.seq + l.length) hhd (by omega) hf.epoch (by omega) hdn (hr'.ent (Ent.trans hL hE)) (rotF (secB data) n ((tl + costT (l.map TxnE.T)) % n)) (fun i => by unfold rotF secB; rw [Nat.mul_comm])) rfl (FloatX.alloc sb_25 rfl) Ent.refl rfl rfl rfl ?_
    rintro t ⟨hts, htp⟩
    (repeat (apply VX.take rfl rfl rfl rfl; (first | (apply PureAt.ar64 rfl rfl rfl; omega) | exact .eval tab_ok rfl | (apply PureAt.ld tab_ok rfl rfl; (focus repeat first | exact .head _ | apply List.Mem.tail); rfl) | (apply PureAt.shr rfl rfl (by decide) (by decide)) | (apply PureAt.shr rfl rfl (by omega) (by simp only [IntKind.bits]; omega)) | exact .fieldAddrA tab_ok rfl rfl | exact .sliceLH tab_ok rfl rfl rfl rfl (by omega) (by omega) | exact .sliceH tab_ok rfl rfl rfl (by omega) | exact .sliceL tab_ok rfl rfl rfl (by omega) | (first | exact .indexAddr tab_ok rfl rfl rfl rfl (by omega) | exact .indexAddrN tab_ok rfl rfl rfl rfl (by omega) | exact .indexAddrI tab_ok rfl rfl rfl rfl (toNatLit _) (by decide) (by omega) | exact .indexAddrNI tab_ok rfl rfl rfl rfl (toNatLit _) (by decide) (by omega) | exact .ldR tab_ok rfl rfl hr1 (List.getElem?_eq_getElem (by omega)) | exact .ldR tab_ok rfl rfl hr2 (List.getElem?_eq_getElem (by omega)) | exact ldB tab_ok rfl rfl hb1 (by omega) | exact ldB tab_ok rfl rfl hb2 (by omega)) | exact .sliceHI tab_ok rfl rfl rfl (toNatLit _) (by decide) (by omega) | exact .sliceLI tab_ok rfl rfl rfl (toNatLit _) (by decide) (by omega) | (apply PureAt.ldA tab_ok rfl rfl; (focus repeat first | exact .head _ | apply List.Mem.tail); rfl; rfl) | exact .ldro tab_ok rfl rfl (by assumption)); rfl; rfl; rfl))
    refine VX.float rfl rfl (FloatX.alloc sb_25 rfl) Ent.re ?_
    intro n10
    refine VD.mid rfl rfl rfl ?_
    refine OpV.stA (vs := t.cells) tab_ok rfl rfl rfl rfl (txn_one _) (by (repeat first | exact .head | apply Hole.tail)) (by simp) ?_
    refine ⟨Ent.re, ?_⟩
    (refine w ?_; repeat ((first | refine VO.step rfl rfl ?_ | refine VD.end rfl rfl rfl ?_ | refine VD.mid rfl rfl rfl ?_); refine OpV.box rfl rfl rfl ?_; intro _; refine w ?_))
    cases hbm : batM (rotF (secB data) n ((tl + costT (l.map TxnE.T)) % n)) (n - costT (l.map TxnE.T)) c.epoch (c.seq + l.length) with
    | none =>
      have hfull : ofM (secB data) n c.epoch (n + 1) c.seq 0 tl = l.map TxnE.T := by rw [hof, of_none hbm]; exact List.append_nil _
      (refine w ?_; repeat ((first | refine VO.step rfl rfl ?_ | refine VD.end rfl rfl rfl ?_ | refine VD.mid rfl rfl rfl ?_); refine OpV.box rfl rfl rfl ?_; intro _; refine w ?_))
      (first | refine VO.step rfl rfl ?_ | refine VD.end rfl rfl rfl ?_ | refine VD.mid rfl rfl rfl ?_)
      refine OpV.stA (vs := [.slice x.1 l.length x.2, .int .u64 ((c.seq + l.length : Nat) : Int), .int .i64 (((tl + costT (l.map TxnE.T)) % n : Nat) : Int), .int .i64 ((costT (l.map TxnE.T) : Nat) : Int)]) tab_ok rfl rfl rfl rfl (by simp [Value.oneCell']) (by (repeat first | exact .head | apply Hole.tail)) (by simp) ?_
      (refine w ?_; repeat ((first | refine VO.step rfl rfl ?_ | refine VD.end rfl rfl rfl ?_ | refine VD.mid rfl rfl rfl ?_); refine OpV.box rfl rfl rfl ?_; intro _; refine w ?_))
      refine VE.results2 (.inl rfl) (x, l) rfl (ResIs.agg (vs := [.slice x.1 l.length x.2, .int .u64 ((c.seq + l.length : Nat) : Int), .int .i64 (((tl + costT (l.map TxnE.T)) % n : Nat) : Int), .int .i64 ((costT (l.map TxnE.T) : Nat) : Int)]) tab_ok rfl rfl (by (focus repeat first | exact .head _ | apply List.Mem.tail)) rfl rfl) (.tmp rfl) (by rw [hfnd]; exact hfull.symm) (by rw [hfnd]; simp only [hfull, List.length_map]) ?_
      exact Ent.re

    | some lp =>
      have htd := htp lp hbm
      have hbr := bat_room hbm
      have hpl : t.pats.length = lp.length := by rw [← htd, List.length_map]
      (refine w ?_; repeat ((first | refine VO.step rfl rfl ?_ | refine VD.end rfl rfl rfl ?_ | refine VD.mid rfl rfl rfl ?_); refine OpV.box rfl rfl rfl ?_; intro _; refine w ?_))
      refine VO.re 78 (.agg t.cells.toArray) rfl (by simp) ?_
      (first | refine VO.step rfl rfl ?_ | refine VD.end rfl rfl rfl ?_ | refine VD.mid rfl rfl rfl ?_)
      refine OpV.buildSlice (cs := t.cells) st_59 rfl rfl (by simp [Value.cells]) (by simp [Value.cells]) (by decide) rfl ?_
      intro nc
      (first | refine VO.step rfl rfl ?_ | refine VD.end rfl rfl rfl ?_ | refine VD.mid rfl rfl rfl ?_)
      refine OpV.appendRow st_59 rfl rfl (by (repeat first | exact .head | apply Hole.tail)) (by (focus repeat first | exact .head _ | apply List.Mem.tail)) rfl (txn_one _) (by simp only [maxLen]; omega) (by omega) rfl ?_
      intro so sc
      (refine w ?_; repeat ((first | refine VO.step rfl rfl ?_ | refine VD.end rfl rfl rfl ?_ | refine VD.mid rfl rfl rfl ?_); refine OpV.box rfl rfl rfl ?_; intro _; refine w ?_))
      refine VC.ent (H' := Row n9 61 [.slice so (l.length + 1) sc, .int .u64 ((c.seq + l.length : Nat) : Int), .int .i64 (((tl + costT (l.map TxnE.T)) % n : Nat) : Int), .int .i64 ((costT (l.map TxnE.T) : Nat) : Int)] :: Sl.Own 25 2 (.slice so (l.length + 1) sc) (l.length + 1) (txnCells l ++ t.cells) :: PilT l :: PatsO (t.ao, t.cap) t.pats :: PilP t.pats :: Row n4 61 [.slice none 0 0, .int .u64 0, .int .i64 0, .int .i64 0] :: Row n3 57 c.cells :: R) Ent.re ?_
      have hlen2 : t.pats.length ≤ 1023 := by omega
      refine VC.drawnL (levF n9 (.slice so (l.length + 1) sc) (.int .u64 ((c.seq + l.length : Nat) : Int)) (.int .i64 (((tl + costT (l.map TxnE.T)) % n : Nat) : Int)) (.int .i64 ((costT (l.map TxnE.T) : Nat) : Int))) [12, 15, 17, 19] [(15, 1), (17, 2), (19, 3)] [(1, 0), (4, 1), (8, 2)] 3 [0, 1, 2, 3, 4, 5, 6, 7, 8, 9, 10, 11, 14, 12, 13, 15, 16, 17, 18, 19] rfl (by kernel_rfl) (by kernel_rfl) Ent.re (levF_step _ _ _ _ _) ?_
      (apply VL.take rfl rfl rfl 3 rfl; (first | (apply PureAt.ar64 rfl rfl rfl; omega) | exact .eval tab_ok rfl | (apply PureAt.ld tab_ok rfl rfl; (focus repeat first | exact .head _ | apply List.Mem.tail); rfl) | (apply PureAt.shr rfl rfl (by decide) (by decide)) | (apply PureAt.shr rfl rfl (by omega) (by simp only [IntKind.bits]; omega)) | exact .fieldAddrA tab_ok rfl rfl | exact .sliceLH tab_ok rfl rfl rfl rfl (by omega) (by omega) | exact .sliceH tab_ok rfl rfl rfl (by omega) | exact .sliceL tab_ok rfl rfl rfl (by omega) | (first | exact .indexAddr tab_ok rfl rfl rfl rfl (by omega) | exact .indexAddrN tab_ok rfl rfl rfl rfl (by omega) | exact .indexAddrI tab_ok rfl rfl rfl rfl (toNatLit _) (by decide) (by omega) | exact .indexAddrNI tab_ok rfl rfl rfl rfl (toNatLit _) (by decide) (by omega) | exact .ldR tab_ok rfl rfl hr1 (List.getElem?_eq_getElem (by omega)) | exact .ldR tab_ok rfl rfl hr2 (List.getElem?_eq_getElem (by omega)) | exact ldB tab_ok rfl rfl hb1 (by omega) | exact ldB tab_ok rfl rfl hb2 (by omega)) | exact .sliceHI tab_ok rfl rfl rfl (toNatLit _) (by decide) (by omega) | exact .sliceLI tab_ok rfl rfl rfl (toNatLit _) (by decide) (by omega) | (apply PureAt.ldA tab_ok rfl rfl; (focus repeat first | exact .head _ | apply List.Mem.tail); rfl; rfl) | exact .ldro tab_ok rfl rfl (by assumption)); rfl)
      apply VL.take rfl rfl rfl 0 rfl
      · exact PureAt.ld tab_ok rfl rfl (.head _) rfl
      · rfl
      (apply VL.take rfl rfl rfl 3 rfl; (first | (apply PureAt.ar64 rfl rfl rfl; omega) | exact .eval tab_ok rfl | (apply PureAt.ld tab_ok rfl rfl; (focus repeat first | exact .head _ | apply List.Mem.tail); rfl) | (apply PureAt.shr rfl rfl (by decide) (by decide)) | (apply PureAt.shr rfl rfl (by omega) (by simp only [IntKind.bits]; omega)) | exact .fieldAddrA tab_ok rfl rfl | exact .sliceLH tab_ok rfl rfl rfl rfl (by omega) (by omega) | exact .sliceH tab_ok rfl rfl rfl (by omega) | exact .sliceL tab_ok rfl rfl rfl (by omega) | (first | exact .indexAddr tab_ok rfl rfl rfl rfl (by omega) | exact .indexAddrN tab_ok rfl rfl rfl rfl (by omega) | exact .indexAddrI tab_ok rfl rfl rfl rfl (toNatLit _) (by decide) (by omega) | exact .indexAddrNI tab_ok rfl rfl rfl rfl (toNatLit _) (by decide) (by omega) | exact .ldR tab_ok rfl rfl hr1 (List.getElem?_eq_getElem (by omega)) | exact .ldR tab_ok rfl rfl hr2 (List.getElem?_eq_getElem (by omega)) | exact ldB tab_ok rfl rfl hb1 (by omega) | exact ldB tab_ok rfl rfl hb2 (by omega)) | exact .sliceHI tab_ok rfl rfl rfl (toNatLit _) (by decide) (by omega) | exact .sliceLI tab_ok rfl rfl rfl (toNatLit _) (by decide) (by omega) | (apply PureAt.ldA tab_ok rfl rfl; (focus repeat first | exact .head _ | apply List.Mem.tail); rfl; rfl) | exact .ldro tab_ok rfl rfl (by assumption)); rfl)
      refine VL.re 84 (.int .u64 (((c.seq + l.length : Nat) : Int) + 1)) rfl (by rw [IntWalk.u64_in _ ⟨by omega, by omega⟩]) ?_
      (apply VL.take rfl rfl rfl 3 rfl; (first | (apply PureAt.ar64 rfl rfl rfl; omega) | exact .eval tab_ok rfl | (apply PureAt.ld tab_ok rfl rfl; (focus repeat first | exact .head _ | apply List.Mem.tail); rfl) | (apply PureAt.shr rfl rfl (by decide) (by decide)) | (apply PureAt.shr rfl rfl (by omega) (by simp only [IntKind.bits]; omega)) | exact .fieldAddrA tab_ok rfl rfl | exact .sliceLH tab_ok rfl rfl rfl rfl (by omega) (by omega) | exact .sliceH tab_ok rfl rfl rfl (by omega) | exact .sliceL tab_ok rfl rfl rfl (by omega) | (first | exact .indexAddr tab_ok rfl rfl rfl rfl (by omega) | exact .indexAddrN tab_ok rfl rfl rfl rfl (by omega) | exact .indexAddrI tab_ok rfl rfl rfl rfl (toNatLit _) (by decide) (by omega) | exact .indexAddrNI tab_ok rfl rfl rfl rfl (toNatLit _) (by decide) (by omega) | exact .ldR tab_ok rfl rfl hr1 (List.getElem?_eq_getElem (by omega)) | exact .ldR tab_ok rfl rfl hr2 (List.getElem?_eq_getElem (by omega)) | exact ldB tab_ok rfl rfl hb1 (by omega) | exact ldB tab_ok rfl rfl hb2 (by omega)) | exact .sliceHI tab_ok rfl rfl rfl (toNatLit _) (by decide) (by omega) | exact .sliceLI tab_ok rfl rfl rfl (toNatLit _) (by decide) (by omega) | (apply PureAt.ldA tab_ok rfl rfl; (focus repeat first | exact .head _ | apply List.Mem.tail); rfl; rfl) | exact .ldro tab_ok rfl rfl (by assumption)); rfl)
      apply VL.take rfl rfl rfl 1 rfl
      · exact pureEx fun v => PureAt.ld tab_ok rfl rfl (.head _) rfl
      · rfl
      (apply VL.take rfl rfl rfl 3 rfl; (first | (apply PureAt.ar64 rfl rfl rfl; omega) | exact .eval tab_ok rfl | (apply PureAt.ld tab_ok rfl rfl; (focus repeat first | exact .head _ | apply List.Mem.tail); rfl) | (apply PureAt.shr rfl rfl (by decide) (by decide)) | (apply PureAt.shr rfl rfl (by omega) (by simp only [IntKind.bits]; omega)) | exact .fieldAddrA tab_ok rfl rfl | exact .sliceLH tab_ok rfl rfl rfl rfl (by omega) (by omega) | exact .sliceH tab_ok rfl rfl rfl (by omega) | exact .sliceL tab_ok rfl rfl rfl (by omega) | (first | exact .indexAddr tab_ok rfl rfl rfl rfl (by omega) | exact .indexAddrN tab_ok rfl rfl rfl rfl (by omega) | exact .indexAddrI tab_ok rfl rfl rfl rfl (toNatLit _) (by decide) (by omega) | exact .indexAddrNI tab_ok rfl rfl rfl rfl (toNatLit _) (by decide) (by omega) | exact .ldR tab_ok rfl rfl hr1 (List.getElem?_eq_getElem (by omega)) | exact .ldR tab_ok rfl rfl hr2 (List.getElem?_eq_getElem (by omega)) | exact ldB tab_ok rfl rfl hb1 (by omega) | exact ldB tab_ok rfl rfl hb2 (by omega)) | exact .sliceHI tab_ok rfl rfl rfl (toNatLit _) (by decide) (by omega) | exact .sliceLI tab_ok rfl rfl rfl (toNatLit _) (by decide) (by omega) | (apply PureAt.ldA tab_ok rfl rfl; (focus repeat first | exact .head _ | apply List.Mem.tail); rfl; rfl) | exact .ldro tab_ok rfl rfl (by assumption)); rfl)
      (apply VL.take rfl rfl rfl 3 rfl; (first | (apply PureAt.ar64 rfl rfl rfl; omega) | exact .eval tab_ok rfl | (apply PureAt.ld tab_ok rfl rfl; (focus repeat first | exact .head _ | apply List.Mem.tail); rfl) | (apply PureAt.shr rfl rfl (by decide) (by decide)) | (apply PureAt.shr rfl rfl (by omega) (by simp only [IntKind.bits]; omega)) | exact .fieldAddrA tab_ok rfl rfl | exact .sliceLH tab_ok rfl rfl rfl rfl (by omega) (by omega) | exact .sliceH tab_ok rfl rfl rfl (by omega) | exact .sliceL tab_ok rfl rfl rfl (by omega) | (first | exact .indexAddr tab_ok rfl rfl rfl rfl (by omega) | exact .indexAddrN tab_ok rfl rfl rfl rfl (by omega) | exact .indexAddrI tab_ok rfl rfl rfl rfl (toNatLit _) (by decide) (by omega) | exact .indexAddrNI tab_ok rfl rfl rfl rfl (toNatLit _) (by decide) (by omega) | exact .ldR tab_ok rfl rfl hr1 (List.getElem?_eq_getElem (by omega)) | exact .ldR tab_ok rfl rfl hr2 (List.getElem?_eq_getElem (by omega)) | exact ldB tab_ok rfl rfl hb1 (by omega) | exact ldB tab_ok rfl rfl hb2 (by omega)) | exact .sliceHI tab_ok rfl rfl rfl (toNatLit _) (by decide) (by omega) | exact .sliceLI tab_ok rfl rfl rfl (toNatLit _) (by decide) (by omega) | (apply PureAt.ldA tab_ok rfl rfl; (focus repeat first | exact .head _ | apply List.Mem.tail); rfl; rfl) | exact .ldro tab_ok rfl rfl (by assumption)); rfl)
      (apply VL.take rfl rfl rfl 3 rfl; (first | (apply PureAt.ar64 rfl rfl rfl; omega) | exact .eval tab_ok rfl | (apply PureAt.ld tab_ok rfl rfl; (focus repeat first | exact .head _ | apply List.Mem.tail); rfl) | (apply PureAt.shr rfl rfl (by decide) (by decide)) | (apply PureAt.shr rfl rfl (by omega) (by simp only [IntKind.bits]; omega)) | exact .fieldAddrA tab_ok rfl rfl | exact .sliceLH tab_ok rfl rfl rfl rfl (by omega) (by omega) | exact .sliceH tab_ok rfl rfl rfl (by omega) | exact .sliceL tab_ok rfl rfl rfl (by omega) | (first | exact .indexAddr tab_ok rfl rfl rfl rfl (by omega) | exact .indexAddrN tab_ok rfl rfl rfl rfl (by omega) | exact .indexAddrI tab_ok rfl rfl rfl rfl (toNatLit _) (by decide) (by omega) | exact .indexAddrNI tab_ok rfl rfl rfl rfl (toNatLit _) (by decide) (by omega) | exact .ldR tab_ok rfl rfl hr1 (List.getElem?_eq_getElem (by omega)) | exact .ldR tab_ok rfl rfl hr2 (List.getElem?_eq_getElem (by omega)) | exact ldB tab_ok rfl rfl hb1 (by omega) | exact ldB tab_ok rfl rfl hb2 (by omega)) | exact .sliceHI tab_ok rfl rfl rfl (toNatLit _) (by decide) (by omega) | exact .sliceLI tab_ok rfl rfl rfl (toNatLit _) (by decide) (by omega) | (apply PureAt.ldA tab_ok rfl rfl; (focus repeat first | exact .head _ | apply List.Mem.tail); rfl; rfl) | exact .ldro tab_ok rfl rfl (by assumption)); rfl)
      apply VL.take rfl rfl rfl 2 rfl
      · exact pureEx fun v => PureAt.ld tab_ok rfl rfl (.head _) rfl
      · rfl
      (apply VL.take rfl rfl rfl 3 rfl; (first | (apply PureAt.ar64 rfl rfl rfl; omega) | exact .eval tab_ok rfl | (apply PureAt.ld tab_ok rfl rfl; (focus repeat first | exact .head _ | apply List.Mem.tail); rfl) | (apply PureAt.shr rfl rfl (by decide) (by decide)) | (apply PureAt.shr rfl rfl (by omega) (by simp only [IntKind.bits]; omega)) | exact .fieldAddrA tab_ok rfl rfl | exact .sliceLH tab_ok rfl rfl rfl rfl (by omega) (by omega) | exact .sliceH tab_ok rfl rfl rfl (by omega) | exact .sliceL tab_ok rfl rfl rfl (by omega) | (first | exact .indexAddr tab_ok rfl rfl rfl rfl (by omega) | exact .indexAddrN tab_ok rfl rfl rfl rfl (by omega) | exact .indexAddrI tab_ok rfl rfl rfl rfl (toNatLit _) (by decide) (by omega) | exact .indexAddrNI tab_ok rfl rfl rfl rfl (toNatLit _) (by decide) (by omega) | exact .ldR tab_ok rfl rfl hr1 (List.getElem?_eq_getElem (by omega)) | exact .ldR tab_ok rfl rfl hr2 (List.getElem?_eq_getElem (by omega)) | exact ldB tab_ok rfl rfl hb1 (by omega) | exact ldB tab_ok rfl rfl hb2 (by omega)) | exact .sliceHI tab_ok rfl rfl rfl (toNatLit _) (by decide) (by omega) | exact .sliceLI tab_ok rfl rfl rfl (toNatLit _) (by decide) (by omega) | (apply PureAt.ldA tab_ok rfl rfl; (focus repeat first | exact .head _ | apply List.Mem.tail); rfl; rfl) | exact .ldro tab_ok rfl rfl (by assumption)); rfl)
      (apply VL.take rfl rfl rfl 3 rfl; (first | (apply PureAt.ar64 rfl rfl rfl; omega) | exact .eval tab_ok rfl | (apply PureAt.ld tab_ok rfl rfl; (focus repeat first | exact .head _ | apply List.Mem.tail); rfl) | (apply PureAt.shr rfl rfl (by decide) (by decide)) | (apply PureAt.shr rfl rfl (by omega) (by simp only [IntKind.bits]; omega)) | exact .fieldAddrA tab_ok rfl rfl | exact .sliceLH tab_ok rfl rfl rfl rfl (by omega) (by omega) | exact .sliceH tab_ok rfl rfl rfl (by omega) | exact .sliceL tab_ok rfl rfl rfl (by omega) | (first | exact .indexAddr tab_ok rfl rfl rfl rfl (by omega) | exact .indexAddrN tab_ok rfl rfl rfl rfl (by omega) | exact .indexAddrI tab_ok rfl rfl rfl rfl (toNatLit _) (by decide) (by omega) | exact .indexAddrNI tab_ok rfl rfl rfl rfl (toNatLit _) (by decide) (by omega) | exact .ldR tab_ok rfl rfl hr1 (List.getElem?_eq_getElem (by omega)) | exact .ldR tab_ok rfl rfl hr2 (List.getElem?_eq_getElem (by omega)) | exact ldB tab_ok rfl rfl hb1 (by omega) | exact ldB tab_ok rfl rfl hb2 (by omega)) | exact .sliceHI tab_ok rfl rfl rfl (toNatLit _) (by decide) (by omega) | exact .sliceLI tab_ok rfl rfl rfl (toNatLit _) (by decide) (by omega) | (apply PureAt.ldA tab_ok rfl rfl; (focus repeat first | exact .head _ | apply List.Mem.tail); rfl; rfl) | exact .ldro tab_ok rfl rfl (by assumption)); rfl)
      (apply VL.take rfl rfl rfl 3 rfl; (first | (apply PureAt.ar64 rfl rfl rfl; omega) | exact .eval tab_ok rfl | (apply PureAt.ld tab_ok rfl rfl; (focus repeat first | exact .head _ | apply List.Mem.tail); rfl) | (apply PureAt.shr rfl rfl (by decide) (by decide)) | (apply PureAt.shr rfl rfl (by omega) (by simp only [IntKind.bits]; omega)) | exact .fieldAddrA tab_ok rfl rfl | exact .sliceLH tab_ok rfl rfl rfl rfl (by omega) (by omega) | exact .sliceH tab_ok rfl rfl rfl (by omega) | exact .sliceL tab_ok rfl rfl rfl (by omega) | (first | exact .indexAddr tab_ok rfl rfl rfl rfl (by omega) | exact .indexAddrN tab_ok rfl rfl rfl rfl (by omega) | exact .indexAddrI tab_ok rfl rfl rfl rfl (toNatLit _) (by decide) (by omega) | exact .indexAddrNI tab_ok rfl rfl rfl rfl (toNatLit _) (by decide) (by omega) | exact .ldR tab_ok rfl rfl hr1 (List.getElem?_eq_getElem (by omega)) | exact .ldR tab_ok rfl rfl hr2 (List.getElem?_eq_getElem (by omega)) | exact ldB tab_ok rfl rfl hb1 (by omega) | exact ldB tab_ok rfl rfl hb2 (by omega)) | exact .sliceHI tab_ok rfl rfl rfl (toNatLit _) (by decide) (by omega) | exact .sliceLI tab_ok rfl rfl rfl (toNatLit _) (by decide) (by omega) | (apply PureAt.ldA tab_ok rfl rfl; (focus repeat first | exact .head _ | apply List.Mem.tail); rfl; rfl) | exact .ldro tab_ok rfl rfl (by assumption)); rfl)
      (apply VL.take rfl rfl rfl 3 rfl; (first | (apply PureAt.ar64 rfl rfl rfl; omega) | exact .eval tab_ok rfl | (apply PureAt.ld tab_ok rfl rfl; (focus repeat first | exact .head _ | apply List.Mem.tail); rfl) | (apply PureAt.shr rfl rfl (by decide) (by decide)) | (apply PureAt.shr rfl rfl (by omega) (by simp only [IntKind.bits]; omega)) | exact .fieldAddrA tab_ok rfl rfl | exact .sliceLH tab_ok rfl rfl rfl rfl (by omega) (by omega) | exact .sliceH tab_ok rfl rfl rfl (by omega) | exact .sliceL tab_ok rfl rfl rfl (by omega) | (first | exact .indexAddr tab_ok rfl rfl rfl rfl (by omega) | exact .indexAddrN tab_ok rfl rfl rfl rfl (by omega) | exact .indexAddrI tab_ok rfl rfl rfl rfl (toNatLit _) (by decide) (by omega) | exact .indexAddrNI tab_ok rfl rfl rfl rfl (toNatLit _) (by decide) (by omega) | exact .ldR tab_ok rfl rfl hr1 (List.getElem?_eq_getElem (by omega)) | exact .ldR tab_ok rfl rfl hr2 (List.getElem?_eq_getElem (by omega)) | exact ldB tab_ok rfl rfl hb1 (by omega) | exact ldB tab_ok rfl rfl hb2 (by omega)) | exact .sliceHI tab_ok rfl rfl rfl (toNatLit _) (by decide) (by omega) | exact .sliceLI tab_ok rfl rfl rfl (toNatLit _) (by decide) (by omega) | (apply PureAt.ldA tab_ok rfl rfl; (focus repeat first | exact .head _ | apply List.Mem.tail); rfl; rfl) | exact .ldro tab_ok rfl rfl (by assumption)); rfl)
      refine VL.mid rfl rfl rfl 0 rfl ?_
      refine OpV.call rfl rfl (fun _ _ => by simp) (size_ok rfl (by omega)) Ent.refl rfl ?_
      intro _ _
      refine ⟨(show Ent W _ [Row n9 61 [.slice so (l.length + 1) sc, .int .u64 ((c.seq + l.length : Nat) : Int), .int .i64 (((tl + costT (l.map TxnE.T)) % n : Nat) : Int), .int .i64 ((costT (l.map TxnE.T) : Nat) : Int)]] from Ent.re), ?_⟩
      apply VL.take rfl rfl rfl 3 rfl
      · exact PureAt.rem (a := (tl + costT (l.map TxnE.T)) % n + (2 * t.pats.length + 1)) (b := n) rfl rfl (by omega)
      · rfl
      refine VL.mid rfl rfl rfl 1 rfl ?_
      apply OpV.st tab_ok rfl rfl rfl rfl (by (repeat first | exact .head | apply Hole.tail)) (by simp)
      refine ⟨Ent.trans (Ent.re (L := [Row n9 61 [.slice so (l.length + 1) sc, .int .u64 (((c.seq + l.length : Nat) : Int) + 1), .int .i64 (((tl + costT (l.map TxnE.T)) % n : Nat) : Int), .int .i64 ((costT (l.map TxnE.T) : Nat) : Int)]])) (fun w hw => Holds.exShut (P := fun v : Value => Row n9 61 [.slice so (l.length + 1) sc, v, .int .i64 (((tl + costT (l.map TxnE.T)) % n : Nat) : Int), .int .i64 ((costT (l.map TxnE.T) : Nat) : Int)]) _ hw), ?_⟩
      (apply VL.take rfl rfl rfl 3 rfl; (first | (apply PureAt.ar64 rfl rfl rfl; omega) | exact .eval tab_ok rfl | (apply PureAt.ld tab_ok rfl rfl; (focus repeat first | exact .head _ | apply List.Mem.tail); rfl) | (apply PureAt.shr rfl rfl (by decide) (by decide)) | (apply PureAt.shr rfl rfl (by omega) (by simp only [IntKind.bits]; omega)) | exact .fieldAddrA tab_ok rfl rfl | exact .sliceLH tab_ok rfl rfl rfl rfl (by omega) (by omega) | exact .sliceH tab_ok rfl rfl rfl (by omega) | exact .sliceL tab_ok rfl rfl rfl (by omega) | (first | exact .indexAddr tab_ok rfl rfl rfl rfl (by omega) | exact .indexAddrN tab_ok rfl rfl rfl rfl (by omega) | exact .indexAddrI tab_ok rfl rfl rfl rfl (toNatLit _) (by decide) (by omega) | exact .indexAddrNI tab_ok rfl rfl rfl rfl (toNatLit _) (by decide) (by omega) | exact .ldR tab_ok rfl rfl hr1 (List.getElem?_eq_getElem (by omega)) | exact .ldR tab_ok rfl rfl hr2 (List.getElem?_eq_getElem (by omega)) | exact ldB tab_ok rfl rfl hb1 (by omega) | exact ldB tab_ok rfl rfl hb2 (by omega)) | exact .sliceHI tab_ok rfl rfl rfl (toNatLit _) (by decide) (by omega) | exact .sliceLI tab_ok rfl rfl rfl (toNatLit _) (by decide) (by omega) | (apply PureAt.ldA tab_ok rfl rfl; (focus repeat first | exact .head _ | apply List.Mem.tail); rfl; rfl) | exact .ldro tab_ok rfl rfl (by assumption)); rfl)
      refine VL.mid rfl rfl rfl 2 rfl ?_
      apply OpV.st tab_ok rfl rfl rfl rfl (by (repeat first | exact .head | apply Hole.tail)) (by simp)
      refine ⟨Ent.trans (Ent.re (L := [Row n9 61 [.slice so (l.length + 1) sc, .int .u64 (((c.seq + l.length : Nat) : Int) + 1), .int .i64 (((tl + costT (l.map TxnE.T)) % n : Nat) : Int), .int .i64 (((costT (l.map TxnE.T) : Nat) : Int) + (2 * (t.pats.length : Int) + 1))]])) (fun w hw => Holds.exShut (P := fun v : Value × Value => Row n9 61 [.slice so (l.length + 1) sc, v.1, .int .i64 (((tl + costT (l.map TxnE.T)) % n : Nat) : Int), v.2]) (.int .u64 (((c.seq + l.length : Nat) : Int) + 1), .int .i64 (((costT (l.map TxnE.T) : Nat) : Int) + (2 * (t.pats.length : Int) + 1))) hw), ?_⟩
      (apply VL.take rfl rfl rfl 3 rfl; (first | (apply PureAt.ar64 rfl rfl rfl; omega) | exact .eval tab_ok rfl | (apply PureAt.ld tab_ok rfl rfl; (focus repeat first | exact .head _ | apply List.Mem.tail); rfl) | (apply PureAt.shr rfl rfl (by decide) (by decide)) | (apply PureAt.shr rfl rfl (by omega) (by simp only [IntKind.bits]; omega)) | exact .fieldAddrA tab_ok rfl rfl | exact .sliceLH tab_ok rfl rfl rfl rfl (by omega) (by omega) | exact .sliceH tab_ok rfl rfl rfl (by omega) | exact .sliceL tab_ok rfl rfl rfl (by omega) | (first | exact .indexAddr tab_ok rfl rfl rfl rfl (by omega) | exact .indexAddrN tab_ok rfl rfl rfl rfl (by omega) | exact .indexAddrI tab_ok rfl rfl rfl rfl (toNatLit _) (by decide) (by omega) | exact .indexAddrNI tab_ok rfl rfl rfl rfl (toNatLit _) (by decide) (by omega) | exact .ldR tab_ok rfl rfl hr1 (List.getElem?_eq_getElem (by omega)) | exact .ldR tab_ok rfl rfl hr2 (List.getElem?_eq_getElem (by omega)) | exact ldB tab_ok rfl rfl hb1 (by omega) | exact ldB tab_ok rfl rfl hb2 (by omega)) | exact .sliceHI tab_ok rfl rfl rfl (toNatLit _) (by decide) (by omega) | exact .sliceLI tab_ok rfl rfl rfl (toNatLit _) (by decide) (by omega) | (apply PureAt.ldA tab_ok rfl rfl; (focus repeat first | exact .head _ | apply List.Mem.tail); rfl; rfl) | exact .ldro tab_ok rfl rfl (by assumption)); rfl)
      refine VL.mid rfl rfl rfl 3 rfl ?_
      apply OpV.st tab_ok rfl rfl rfl rfl (by (repeat first | exact .head | apply Hole.tail)) (by simp)
      refine ⟨(show Ent W _ [] from Ent.re), ?_⟩
      refine VL.nil ?_
      (refine w ?_; repeat ((first | refine VO.step rfl rfl ?_ | refine VD.end rfl rfl rfl ?_ | refine VD.mid rfl rfl rfl ?_); refine OpV.box rfl rfl rfl ?_; intro _; refine w ?_))
      have hT : (l ++ [t]).map TxnE.T = l.map TxnE.T ++ [(c.seq + l.length, lp)] := by rw [List.map_append, List.map_cons, List.map_nil]; unfold TxnE.T; rw [hts, htd]
      have hcost : costT ((l ++ [t]).map TxnE.T) = costT (l.map TxnE.T) + (2 * lp.length + 1) := by rw [hT, costT_append, costT_cons]; simp [costT]
      obtain ⟨g, rfl⟩ : ∃ g, f = g + 1 := ⟨f - 1, by omega⟩
      have hmod : ((tl + costT (l.map TxnE.T)) % n + (2 * lp.length + 1)) % n = (tl + (costT (l.map TxnE.T) + (2 * lp.length + 1))) % n := by rw [Nat.mod_add_mod, Nat.add_assoc]
      refine VE.round (l ++ [t], (so, sc), g) ⟨?_, ?_, ?_, ?_⟩ (by simp only; omega) ⟨rfl, rfl, rfl, rfl, trivial⟩ ?_
      · simp only
        rw [hcost, hT, hof, List.length_append, List.length_singleton, ofM, if_pos hmx, hbm]
        dsimp only
        rw [List.append_assoc, List.singleton_append, hmod, Nat.add_assoc c.seq]
      · simp only; rw [hcost]; omega
      · simp only; rw [hcost]; omega
      · simp only; rw [hcost, List.length_append, List.length_singleton]; omega
      dsimp only
      have e1 : (((c.seq + l.length : Nat) : Int) + 1) = ((c.seq + (l.length + 1) : Nat) : Int) := by omega
      have e2 : ((((tl + costT (l.map TxnE.T)) % n + (2 * t.pats.length + 1)) % n : Nat) : Int) = (((tl + (costT (l.map TxnE.T) + (2 * lp.length + 1))) % n : Nat) : Int) := by rw [hpl, hmod]
      have e3 : (((costT (l.map TxnE.T) : Nat) : Int) + (2 * (t.pats.length : Int) + 1)) = ((costT (l.map TxnE.T) + (2 * lp.length + 1) : Nat) : Int) := by rw [hpl]; omega
      refine Ent.trans (Ent.re (L := PatsO (t.ao, t.cap) t.pats :: PilP t.pats :: PilT l :: Row n9 61 [.slice so (l.length + 1) sc, .int .u64 (((c.seq + l.length : Nat) : Int) + 1), .int .i64 ((((tl + costT (l.map TxnE.T)) % n + (2 * t.pats.length + 1)) % n : Nat) : Int), .int .i64 (((costT (l.map TxnE.T) : Nat) : Int) + (2 * (t.pats.length : Int) + 1))] :: Sl.Own 25 2 (.slice so (l.length + 1) sc) (l.length + 1) (txnCells l ++ t.cells) :: Row n4 61 [.slice none 0 0, .int .u64 0, .int .i64 0, .int .i64 0] :: Row n3 57 c.cells :: R)) ?_
      refine Ent.trans (fun w hw => pile_push (res := TxnE.res) (TxnE.shut t hw)) ?_
      rw [txnsO_one, hcost, List.length_append, List.length_singleton, ← e1, ← e2, ← e3]
      exact Ent.re
  · have hmx : ¬ c.seq + l.length ≤ 4611686018427387904 := by have := of_decide_eq_false hc; omega
    have hfull : ofM (secB data) n c.epoch (n + 1) c.seq 0 tl = l.map TxnE.T := by
      rw [hof]
      cases f with
      | zero => exact List.append_nil _
      | succ f => unfold ofM; rw [if_neg hmx]; exact List.append_nil _
    (refine w ?_; repeat ((first | refine VO.step rfl rfl ?_ | refine VD.end rfl rfl rfl ?_ | refine VD.mid rfl rfl rfl ?_); refine OpV.box rfl rfl rfl ?_; intro _; refine w ?_))
    (first | refine VO.step rfl rfl ?_ | refine VD.end rfl rfl rfl ?_ | refine VD.mid rfl rfl rfl ?_)
    refine OpV.stA (vs := [.slice x.1 l.length x.2, .int .u64 ((c.seq + l.length : Nat) : Int), .int .i64 (((tl + costT (l.map TxnE.T)) % n : Nat) : Int), .int .i64 ((costT (l.map TxnE.T) : Nat) : Int)]) tab_ok rfl rfl rfl rfl (by simp [Value.oneCell']) (by (repeat first | exact .head | apply Hole.tail)) (by simp) ?_
    (refine w ?_; repeat ((first | refine VO.step rfl rfl ?_ | refine VD.end rfl rfl rfl ?_ | refine VD.mid rfl rfl rfl ?_); refine OpV.box rfl rfl rfl ?_; intro _; refine w ?_))
    refine VE.results2 (.inl rfl) (x, l) rfl (ResIs.agg (vs := [.slice x.1 l.length x.2, .int .u64 ((c.seq + l.length : Nat) : Int), .int .i64 (((tl + costT (l.map TxnE.T)) % n : Nat) : Int), .int .i64 ((costT (l.map TxnE.T) : Nat) : Int)]) tab_ok rfl rfl (by (focus repeat first | exact .head _ | apply List.Mem.tail)) rfl rfl) (.tmp rfl) (by rw [hfnd]; exact hfull.symm) (by rw [hfnd]; simp only [hfull, List.length_map]) ?_
    exact Ent.re

end Go.Proofs.Ytlojjlbngnaphaa

/-! Text Nh. -/
/- Scan: what the chapter's examples fix. -/
set_option maxRecDepth 8000
set_option linter.unusedVariables false
set_option linter.unusedSimpArgs false
set_option linter.unusedSectionVars false
namespace Go.Proofs.Ytlojjlbngnaphaa
open Go.RowKit Go.Sl
attribute [local irreducible] Own

/-- A sector, the first so many bytes laid in. -/
def putP (b : List UInt8) (k : Nat) (r : List UInt8) (j : Nat) : List UInt8 := b.take (128 * k) ++ r.take j ++ b.drop (128 * k + j)
theorem putP_zero (b : List UInt8) (k : Nat) (r : List UInt8) : putP b k r 0 = b := by simp [putP]
theorem putP_all {b : List UInt8} {k : Nat} {r : List UInt8} (hr : r.length = 128) : putP b k r 128 = putS b k r := by
  unfold putP putS; rw [List.take_of_length_le (l := r) (by omega)]
theorem putP_length {b r : List UInt8} {k n j : Nat} (h : b.length = 128 * n) (hk : k < n) (hr : r.length = 128) (hj : j ≤ 128) : (putP b k r j).length = 128 * n := by
  unfold putP; simp only [List.length_append, List.length_take, List.length_drop]; omega
theorem putP_set {b r : List UInt8} {k n j : Nat} (h : b.length = 128 * n) (hk : k < n) (hr : r.length = 128) (hj : j < 128) : (putP b k r j).set (128 * k + j) (r[j]'(by omega)) = putP b k r (j + 1) := by
  have h1 : (b.take (128 * k) ++ r.take j).length = 128 * k + j := by simp only [List.length_append, List.length_take]; omega
  unfold putP
  rw [List.set_append_right _ _ (by omega), h1, Nat.sub_self, List.drop_eq_getElem_cons (by omega), List.set_cons_zero, List.take_succ_eq_append_getElem (l := r) (by omega)]
  simp only [List.append_assoc, List.singleton_append, Nat.add_assoc]
def zeroP : PatD := ⟨0, 0, List.replicate 128 0⟩
theorem zeroP_fine : Fine 1 1 [zeroP] := ⟨⟨by decide, by decide, by decide⟩, by decide, by decide, fun p hp => by
  rw [List.mem_singleton] at hp; subst hp; exact ⟨by decide, by decide, by simp [zeroP]⟩⟩
def kRows : List (List UInt8) := rowsP 1 1 [zeroP]
theorem kRows_length : kRows.length = 3 := rowsP_length 1 1 [zeroP]
theorem kRows_128 : ∀ r ∈ kRows, r.length = 128 := rowsP_128 zeroP_fine
/-- The first so many laid in. -/
def kRing (i : Nat) : List UInt8 := laidN (List.replicate 640 0) 3 kRows i
theorem kRing_length (i : Nat) : (kRing i).length = 128 * 5 := laidN_length (n := 5) (by simp) (by decide) kRows_128 i
theorem kRing_sec (j : Nat) (h : j < 3) : some (secB (kRing 3) ((3 + j) % 5)) = kRows[j]? :=
  (sec_laid (n := 5) (ring := List.replicate 640 0) (at_ := 3) (rows := kRows) (by simp) (by decide) kRows_128 (by rw [kRows_length]; decide) 3 (by rw [kRows_length]; decide)).1 j h
theorem kRing_step {i : Nat} (h : i < 3) : kRing (i + 1) = putS (kRing i) ((3 + i) % 5) (kRows[i]'(by rw [kRows_length]; exact h)) := by
  unfold kRing
  rw [laidN, List.getElem?_eq_getElem (by rw [kRows_length]; exact h)]
  simp
theorem kRing_of : ofM (secB (kRing 3)) 5 1 (5 + 1) 1 0 3 = [(1, [zeroP])] := by
  have h := of_laid (sec := secB (kRing 3)) (size := 5) (e := 1) (s := 1) (at_ := 3) (f := 5 + 1) (ls := [[zeroP]]) (fun k hk => by
      obtain rfl : k = 0 := by simp at hk; omega
      exact zeroP_fine) (by simp [costL]) (fun j hj => by
      have hj3 : j < 3 := by simpa [costL] using hj
      rw [kRing_sec j hj3, show flatR 1 1 [[zeroP]] = kRows by simp [flatR, kRows]]) (by decide)
  rw [h, of_none]
  · rfl
  · cases hb : batM (rotF (secB (kRing 3)) 5 (if [[zeroP]] = [] then 3 else (3 + costL [[zeroP]]) % 5)) (5 - costL [[zeroP]]) 1 (1 + [[zeroP]].length) with
    | none => rfl
    | some l => have h1 := bat_room hb; simp [costL] at h1; omega
theorem kRing_bat : batM (rotF (secB (kRing 3)) 5 3) 5 1 1 = some [zeroP] := by
  have h := of_each (sec := secB (kRing 3)) (size := 5) (e := 1) (5 + 1) 1 0 3 0 (1, [zeroP]) (by rw [kRing_of]; rfl)
  have h2 := h.2.2
  rw [List.take_zero] at h2
  exact h2
theorem kRing_other : ofM (secB (kRing 3)) 5 2 (5 + 1) 1 0 3 = [] := of_none (bat_other kRing_bat (.inl (by decide)))
theorem chk_fine {e s t : Nat} (he : e ≤ 4611686018427387904) (hs : 1 ≤ s ∧ s ≤ 4611686018427387904) (ht : t ≤ 2047) : (ChkD.mk e s t).enc.1 = 0 := by
  rw [chk_ok ((chk_iff _).2 ⟨⟨he, hs.1, hs.2⟩, by simp only; omega, by simp only; omega⟩)]
theorem found_good {ring : List UInt8} {n e s t : Nat} (hl : ring.length = 128 * n) (hn : 5 ≤ n ∧ n ≤ 2048) (he : e ≤ 4611686018427387904) (hs : 1 ≤ s ∧ s ≤ 4611686018427387904) (ht : t < n) :
    foundM ring ⟨e, s, t⟩ = (0, ⟨ofM (secB ring) n e (n + 1) s 0 t, s + (ofM (secB ring) n e (n + 1) s 0 t).length, (t + costT (ofM (secB ring) n e (n + 1) s 0 t)) % n, costT (ofM (secB ring) n e (n + 1) s 0 t)⟩) := by
  have hd : ring.length / 128 = n := by omega
  unfold foundM
  rw [if_neg, hd]
  · rfl
  · rintro (h | h | h | h | h)
    · exact h (chk_fine he hs (by omega))
    · omega
    · omega
    · omega
    · simp only at h; omega
theorem kFound1 : foundM (kRing 3) ⟨1, 1, 3⟩ = (0, ⟨[(1, [zeroP])], 2, 1, 3⟩) := by
  have h := found_good (e := 1) (s := 1) (t := 3) (kRing_length 3) ⟨by decide, by decide⟩ (by decide) ⟨by decide, by decide⟩ (by decide)
  rw [kRing_of] at h
  refine Eq.trans h ?_
  simp [costT]
theorem kFound2 : foundM (kRing 3) ⟨2, 1, 3⟩ = (0, ⟨[], 1, 3, 0⟩) := by
  have h := found_good (e := 2) (s := 1) (t := 3) (kRing_length 3) ⟨by decide, by decide⟩ (by decide) ⟨by decide, by decide⟩ (by decide)
  rw [kRing_other] at h
  refine Eq.trans h ?_
  simp [costT]
end Go.Proofs.Ytlojjlbngnaphaa

/-! Text Ni. -/
/- Scan: what the chapter's examples fix: the walk. -/
set_option maxRecDepth 8000
set_option linter.unusedVariables false
set_option linter.unusedSimpArgs false
set_option linter.unusedSectionVars false
namespace Go.Proofs.Ytlojjlbngnaphaa
open Go.RowKit Go.Sl
attribute [local irreducible] Own

set_option maxHeartbeats 1000000 in
theorem nknown_ok {W : World} {R : List SProp} : Does1 W Try.prog 17 [] R (.bool true) R := by
  (refine Does.enter Try.func17 Try.ntmps17 rfl rfl ?_)
  (refine w ?_; repeat ((first | refine VO.step rfl rfl ?_ | refine VD.end rfl rfl rfl ?_ | refine VD.mid rfl rfl rfl ?_); refine OpV.box rfl rfl rfl ?_; intro _; refine w ?_))
  (first | refine VO.step rfl rfl ?_ | refine VD.end rfl rfl rfl ?_ | refine VD.mid rfl rfl rfl ?_)
  refine OpV.makeSlice1 (m := 128) st_55 rfl rfl rfl (by decide) (by decide) rfl ?_
  intro nz
  ((first | apply VO.pure rfl rfl | apply VD.take rfl rfl rfl | (refine VD.end rfl rfl rfl ?_; apply OpV.pure)); apply PureAt.build sb_78 rfl; (simp [buildX, setL, Value.cells]; rfl); rfl)
  (first | refine VO.step rfl rfl ?_ | refine VD.end rfl rfl rfl ?_ | refine VD.mid rfl rfl rfl ?_)
  refine OpV.buildSlice (cs := PatE.cells ⟨0, 0, ⟨some ⟨nz, 0, none⟩, 128, List.replicate 128 0⟩⟩) st_23 rfl rfl (by simp [Value.cells]) (by simp [Value.cells]) (by decide) rfl ?_
  intro np
  ((first | apply VO.pure rfl rfl | apply VD.take rfl rfl rfl | (refine VD.end rfl rfl rfl ?_; apply OpV.pure)); apply PureAt.build sb_25 rfl; (simp [buildX, setL, Value.cells]; rfl); rfl)
  ((first | refine VO.step rfl rfl ?_ | refine VD.end rfl rfl rfl ?_ | refine VD.mid rfl rfl rfl ?_); refine OpV.allocS sb_25 rfl ?_; intro n1)
  (first | refine VO.step rfl rfl ?_ | refine VD.end rfl rfl rfl ?_ | refine VD.mid rfl rfl rfl ?_)
  refine OpV.stA (vs := [.int .u64 1, .slice (some ⟨np, 0, none⟩) 1 1]) tab_ok rfl rfl rfl rfl (by simp [Value.oneCell']) (by (repeat first | exact .head | apply Hole.tail)) (by simp) ?_
  refine VO.ent (H' := Row n1 25 [.int .u64 1, .slice (some ⟨np, 0, none⟩) 1 1] :: Row np 78 (PatE.cells ⟨0, 0, ⟨some ⟨nz, 0, none⟩, 128, List.replicate 128 0⟩⟩) :: OwnB (some ⟨nz, 0, none⟩, 128) (List.replicate 128 0) :: R) ?_ ?_
  · rw [show OwnB (some ⟨nz, 0, none⟩, 128) (List.replicate 128 0) = Sl.Own 5 1 (.slice (some ⟨nz, 0, none⟩) 128 128) 128 (List.replicate 128 (.int .u8 0)) by
      show Sl.Own 5 1 (.slice _ (List.replicate 128 (0 : UInt8)).length 128) (List.replicate 128 (0 : UInt8)).length (bytes (List.replicate 128 0)) = _
      rw [List.length_replicate, show bytes (List.replicate 128 0) = List.replicate 128 (.int .u8 0) by unfold bytes; rw [List.map_replicate]; rfl]]
    exact Ent.re
  (refine w ?_; repeat ((first | refine VO.step rfl rfl ?_ | refine VD.end rfl rfl rfl ?_ | refine VD.mid rfl rfl rfl ?_); refine OpV.box rfl rfl rfl ?_; intro _; refine w ?_))
  have hs : secsM 1 1 ([(⟨0, 0, ⟨some ⟨nz, 0, none⟩, 128, List.replicate 128 0⟩⟩ : PatE)].map PatE.D) = (0, kRows) := secs_fine zeroP_fine
  have hS := sectors_ok (W := W) (R := Row n1 25 [.int .u64 1, .slice (some ⟨np, 0, none⟩) 1 1] :: Row np 78 (PatE.cells ⟨0, 0, ⟨some ⟨nz, 0, none⟩, 128, List.replicate 128 0⟩⟩) :: OwnB (some ⟨nz, 0, none⟩, 128) (List.replicate 128 0) :: R) (ao := some ⟨np, 0, none⟩) (cap := 1) (l := [⟨0, 0, ⟨some ⟨nz, 0, none⟩, 128, List.replicate 128 0⟩⟩]) 1 1 (by decide) (by decide)
    ⟨Rds.row (pats_one [⟨0, 0, ⟨some ⟨nz, 0, none⟩, 128, List.replicate 128 0⟩⟩]) (by (focus repeat first | exact .head _ | apply List.Mem.tail)) (by rfl), fun p hp => by
      rw [List.mem_singleton] at hp; subst hp
      exact Rds.own (bytes_one _) (.tail _ (.tail _ (.head _))) (by simp) (by simp), fun p hp => by
      rw [List.mem_singleton] at hp; subst hp; exact ⟨by simp, by simp⟩⟩ (fun p hp => by
      rw [List.mem_singleton] at hp; subst hp; exact ⟨by simp, by simp, by simp⟩) (show 1 ≤ 140737488351232 by decide)
  rw [hs] at hS
  ((first | refine VO.step rfl rfl ?_ | refine VD.end rfl rfl rfl ?_ | refine VD.mid rfl rfl rfl ?_); refine OpV.call rfl rfl (fun _ _ => by simp) (hS) Ent.refl rfl ?_)
  rintro ⟨⟨xo, xc⟩, rows⟩ hrows
  dsimp only at hrows ⊢
  have hr3 : rows.length = 3 := by rw [← kRows_length, ← hrows, List.length_map]
  refine VO.know (p := xo = none → rows.length = 0) (fun w hw => hw.ownNone (.head _)) ?_
  intro hxn
  obtain ⟨xa, rfl⟩ : ∃ a, xo = some a := by cases xo with | none => have := hxn rfl; omega | some a => exact ⟨a, rfl⟩
  refine VO.know (p := ∀ e ∈ rows, e.ok) (fun w hw => PilR.know hw.tail) ?_
  intro hok
  (refine w ?_; repeat ((first | refine VO.step rfl rfl ?_ | refine VD.end rfl rfl rfl ?_ | refine VD.mid rfl rfl rfl ?_); refine OpV.box rfl rfl rfl ?_; intro _; refine w ?_))
  refine VC.re 26 (.bool false) rfl (by rw [hr3]; rfl) ?_
  (refine w ?_; repeat ((first | refine VO.step rfl rfl ?_ | refine VD.end rfl rfl rfl ?_ | refine VD.mid rfl rfl rfl ?_); refine OpV.box rfl rfl rfl ?_; intro _; refine w ?_))
  (first | refine VO.step rfl rfl ?_ | refine VD.end rfl rfl rfl ?_ | refine VD.mid rfl rfl rfl ?_)
  refine OpV.makeSlice1 (m := 640) st_55 rfl rfl rfl (by decide) (by decide) rfl ?_
  intro nr
  (refine w ?_; repeat ((first | refine VO.step rfl rfl ?_ | refine VD.end rfl rfl rfl ?_ | refine VD.mid rfl rfl rfl ?_); refine OpV.box rfl rfl rfl ?_; intro _; refine w ?_))
  refine VC.loop (α := Nat) (fun i => i ≤ 3) (fun i => Sl.Own 5 1 (.slice (some ⟨nr, 0, none⟩) 640 640) 640 (bytes (kRing i)) :: RowsO (some xa, xc) rows :: PilR rows :: R)
    (fun i => [(2, .slice (some xa) rows.length xc), (4, .slice (some ⟨nr, 0, none⟩) 640 640), (5, .int .i64 i)]) (fun i => 3 - i) rfl 0 (by decide) ?_ ⟨rfl, rfl, rfl, trivial⟩ ?_
  · rw [show bytes (kRing 0) = List.replicate 640 (.int .u8 0) by unfold kRing laidN bytes; rw [List.map_replicate]; rfl]
    exact Ent.re
  intro i hi
  (refine w ?_; repeat ((first | refine VO.step rfl rfl ?_ | refine VD.end rfl rfl rfl ?_ | refine VD.mid rfl rfl rfl ?_); refine OpV.box rfl rfl rfl ?_; intro _; refine w ?_))
  (refine VC.cond rfl rfl ?_ ?_ <;> intro hc)
  · have hlt : i < rows.length := by have := of_decide_eq_true hc; omega
    have hi3 : i < 3 := by omega
    have hki : i < kRows.length := by rw [kRows_length]; exact hi3
    have hrd : rows[i].data = kRows[i] := by
      have h1 : (rows.map RowE.data)[i]? = kRows[i]? := by rw [hrows]
      rw [List.getElem?_map, List.getElem?_eq_getElem hlt, List.getElem?_eq_getElem hki] at h1
      injection h1
    have h128 : rows[i].data.length = 128 := by rw [hrd]; exact kRows_128 _ (List.getElem_mem hki)
    have hro := hok _ (List.getElem_mem hlt)
    obtain ⟨ra, hra⟩ : ∃ a, rows[i].ao = some a := by
      cases h : rows[i].ao with
      | none => have := hro.nil h; omega
      | some a => exact ⟨a, rfl⟩
    have hhd : rows[i].hdr = .slice (some ra) 128 rows[i].cap := by show Value.slice rows[i].ao rows[i].data.length rows[i].cap = _; rw [hra, h128]
    have hRow : ∀ (A : SProp), Rds W (A :: RowsO (some xa, xc) rows :: PilR rows :: R) 1 (some xa) rows.length (rows.map RowE.hdr) := fun A => Rds.own (rowhdr_one _) (.tail _ (.head _)) (by simp) (by simp)
    have hByt : ∀ (A : SProp), Rds W (A :: RowsO (some xa, xc) rows :: PilR rows :: R) 1 (some ra) 128 (bytes kRows[i]) := fun A => by
      have := Rds.pile (W := W) (H := A :: RowsO (some xa, xc) rows :: PilR rows :: R) (.tail _ (.tail _ (.head _))) (List.getElem_mem hlt) (fun R hR => RowE.rds hro hR)
      rw [hra, h128, hrd] at this
      exact this
    (refine w ?_; repeat ((first | refine VO.step rfl rfl ?_ | refine VD.end rfl rfl rfl ?_ | refine VD.mid rfl rfl rfl ?_); refine OpV.box rfl rfl rfl ?_; intro _; refine w ?_))
    (first | refine VO.pure rfl rfl (PureAt.ldR tab_ok rfl rfl (hRow _) (show (rows.map RowE.hdr)[i]? = some (.slice (some ra) 128 rows[i].cap) by rw [List.getElem?_map, List.getElem?_eq_getElem hlt]; exact congrArg some hhd)) rfl ?_ | refine VD.take rfl rfl rfl (PureAt.ldR tab_ok rfl rfl (hRow _) (show (rows.map RowE.hdr)[i]? = some (.slice (some ra) 128 rows[i].cap) by rw [List.getElem?_map, List.getElem?_eq_getElem hlt]; exact congrArg some hhd)) rfl ?_ | refine VQ.pure rfl rfl (PureAt.ldR tab_ok rfl rfl (hRow _) (show (rows.map RowE.hdr)[i]? = some (.slice (some ra) 128 rows[i].cap) by rw [List.getElem?_map, List.getElem?_eq_getElem hlt]; exact congrArg some hhd)) rfl ?_ | refine VD.end rfl rfl rfl (OpV.pure (PureAt.ldR tab_ok rfl rfl (hRow _) (show (rows.map RowE.hdr)[i]? = some (.slice (some ra) 128 rows[i].cap) by rw [List.getElem?_map, List.getElem?_eq_getElem hlt]; exact congrArg some hhd)) rfl ?_))
    (refine w ?_; repeat ((first | refine VO.step rfl rfl ?_ | refine VD.end rfl rfl rfl ?_ | refine VD.mid rfl rfl rfl ?_); refine OpV.box rfl rfl rfl ?_; intro _; refine w ?_))
    have hm5 : (3 + i) % 5 < 5 := Nat.mod_lt _ (by decide)
    have hl640 : ∀ k, k ≤ 128 → (bytes (putP (kRing i) ((3 + i) % 5) kRows[i] k)).length = 640 := fun k hk => by
      rw [bytes_length, putP_length (kRing_length i) hm5 (kRows_128 _ (List.getElem_mem hki)) hk]
    refine VC.loop (α := Nat) (fun k => k ≤ 128) (fun k => Sl.Own 5 1 (.slice (some ⟨nr, 0, none⟩) 640 640) 640 (bytes (putP (kRing i) ((3 + i) % 5) kRows[i] k)) :: RowsO (some xa, xc) rows :: PilR rows :: R)
      (fun k => [(2, .slice (some xa) rows.length xc), (4, .slice (some ⟨nr, 0, none⟩) 640 640), (5, .int .i64 i), (6, .int .i64 k)]) (fun k => 128 - k) rfl 0 (by decide) (by rw [putP_zero]; exact Ent.refl) ⟨rfl, rfl, rfl, rfl, trivial⟩ ?_
    intro k hk
    (refine w ?_; repeat ((first | refine VO.step rfl rfl ?_ | refine VD.end rfl rfl rfl ?_ | refine VD.mid rfl rfl rfl ?_); refine OpV.box rfl rfl rfl ?_; intro _; refine w ?_))
    (refine VC.cond rfl rfl ?_ ?_ <;> intro hc)
    · have hk2 : k < 128 := by have := of_decide_eq_true hc; omega
      have hkr : k < kRows[i].length := by rw [kRows_128 _ (List.getElem_mem hki)]; exact hk2
      (refine w ?_; repeat ((first | refine VO.step rfl rfl ?_ | refine VD.end rfl rfl rfl ?_ | refine VD.mid rfl rfl rfl ?_); refine OpV.box rfl rfl rfl ?_; intro _; refine w ?_))
      (first | refine VO.pure rfl rfl (PureAt.rem (a := 3 + i) (b := 5) rfl rfl (by decide)) rfl ?_ | refine VD.take rfl rfl rfl (PureAt.rem (a := 3 + i) (b := 5) rfl rfl (by decide)) rfl ?_ | refine VQ.pure rfl rfl (PureAt.rem (a := 3 + i) (b := 5) rfl rfl (by decide)) rfl ?_ | refine VD.end rfl rfl rfl (OpV.pure (PureAt.rem (a := 3 + i) (b := 5) rfl rfl (by decide)) rfl ?_))
      (refine w ?_; repeat ((first | refine VO.step rfl rfl ?_ | refine VD.end rfl rfl rfl ?_ | refine VD.mid rfl rfl rfl ?_); refine OpV.box rfl rfl rfl ?_; intro _; refine w ?_))
      (first | refine VO.pure rfl rfl (PureAt.ldR tab_ok rfl rfl (hRow _) (show (rows.map RowE.hdr)[i]? = some (.slice (some ra) 128 rows[i].cap) by rw [List.getElem?_map, List.getElem?_eq_getElem hlt]; exact congrArg some hhd)) rfl ?_ | refine VD.take rfl rfl rfl (PureAt.ldR tab_ok rfl rfl (hRow _) (show (rows.map RowE.hdr)[i]? = some (.slice (some ra) 128 rows[i].cap) by rw [List.getElem?_map, List.getElem?_eq_getElem hlt]; exact congrArg some hhd)) rfl ?_ | refine VQ.pure rfl rfl (PureAt.ldR tab_ok rfl rfl (hRow _) (show (rows.map RowE.hdr)[i]? = some (.slice (some ra) 128 rows[i].cap) by rw [List.getElem?_map, List.getElem?_eq_getElem hlt]; exact congrArg some hhd)) rfl ?_ | refine VD.end rfl rfl rfl (OpV.pure (PureAt.ldR tab_ok rfl rfl (hRow _) (show (rows.map RowE.hdr)[i]? = some (.slice (some ra) 128 rows[i].cap) by rw [List.getElem?_map, List.getElem?_eq_getElem hlt]; exact congrArg some hhd)) rfl ?_))
      (refine w ?_; repeat ((first | refine VO.step rfl rfl ?_ | refine VD.end rfl rfl rfl ?_ | refine VD.mid rfl rfl rfl ?_); refine OpV.box rfl rfl rfl ?_; intro _; refine w ?_))
      (first | refine VO.pure rfl rfl (PureAt.ldR tab_ok rfl rfl (hByt _) (show (bytes kRows[i])[k]? = some (byteV kRows[i][k]) by unfold bytes; rw [List.getElem?_map, List.getElem?_eq_getElem hkr]; rfl)) rfl ?_ | refine VD.take rfl rfl rfl (PureAt.ldR tab_ok rfl rfl (hByt _) (show (bytes kRows[i])[k]? = some (byteV kRows[i][k]) by unfold bytes; rw [List.getElem?_map, List.getElem?_eq_getElem hkr]; rfl)) rfl ?_ | refine VQ.pure rfl rfl (PureAt.ldR tab_ok rfl rfl (hByt _) (show (bytes kRows[i])[k]? = some (byteV kRows[i][k]) by unfold bytes; rw [List.getElem?_map, List.getElem?_eq_getElem hkr]; rfl)) rfl ?_ | refine VD.end rfl rfl rfl (OpV.pure (PureAt.ldR tab_ok rfl rfl (hByt _) (show (bytes kRows[i])[k]? = some (byteV kRows[i][k]) by unfold bytes; rw [List.getElem?_map, List.getElem?_eq_getElem hkr]; rfl)) rfl ?_))
      refine VO.re 50 (.int .i64 ((128 * ((3 + i) % 5) + k : Nat) : Int)) rfl (by congr 1; omega) ?_
      (refine w ?_; repeat ((first | refine VO.step rfl rfl ?_ | refine VD.end rfl rfl rfl ?_ | refine VD.mid rfl rfl rfl ?_); refine OpV.box rfl rfl rfl ?_; intro _; refine w ?_))
      (first | refine VO.step rfl rfl ?_ | refine VD.end rfl rfl rfl ?_ | refine VD.mid rfl rfl rfl ?_)
      refine OpV.stO2 (j := 128 * ((3 + i) % 5) + k) (xs' := bytes (putP (kRing i) ((3 + i) % 5) kRows[i] (k + 1))) tab_ok rfl rfl rfl rfl (by (repeat first | exact .head | apply Hole.tail)) (by rw [hl640 k hk]; omega) ?_ ?_
      · rw [← putP_set (kRing_length i) hm5 (kRows_128 _ (List.getElem_mem hki)) hk2]
        unfold bytes; rw [List.map_set]
      (refine w ?_; repeat ((first | refine VO.step rfl rfl ?_ | refine VD.end rfl rfl rfl ?_ | refine VD.mid rfl rfl rfl ?_); refine OpV.box rfl rfl rfl ?_; intro _; refine w ?_))
      exact VE.round (k + 1) (by omega) (by omega) ⟨rfl, rfl, rfl, asV rfl (by congr 1), trivial⟩ Ent.re
    have hke : k = 128 := by have := of_decide_eq_false hc; omega
    subst hke
    (refine w ?_; repeat ((first | refine VO.step rfl rfl ?_ | refine VD.end rfl rfl rfl ?_ | refine VD.mid rfl rfl rfl ?_); refine OpV.box rfl rfl rfl ?_; intro _; refine w ?_))
    refine VE.round (i + 1) (by omega) (by omega) ⟨rfl, rfl, asV rfl (by congr 1), trivial⟩ ?_
    rw [putP_all (kRows_128 _ (List.getElem_mem hki)), ← kRing_step hi3]
    exact Ent.re
  have hie : i = 3 := by have := of_decide_eq_false hc; omega
  subst hie
  have hl3 : (kRing 3).length = 640 := kRing_length 3
  have hO : ∀ (L : List SProp), Sl.Own 5 1 (.slice (some ⟨nr, 0, none⟩) 640 640) 640 (bytes (kRing 3)) ∈ L → Rds W L 1 (some ⟨nr, 0, none⟩) (kRing 3).length (bytes (kRing 3)) := fun L m => by
    rw [hl3]; exact Rds.own (bytes_one _) m (by rw [bytes_length, hl3]) (by simp)
  (refine w ?_; repeat ((first | refine VO.step rfl rfl ?_ | refine VD.end rfl rfl rfl ?_ | refine VD.mid rfl rfl rfl ?_); refine OpV.box rfl rfl rfl ?_; intro _; refine w ?_))
  refine VO.re 60 (.slice (some ⟨nr, 0, none⟩) (kRing 3).length 640) rfl (by rw [hl3]) ?_
  ((first | apply VO.pure rfl rfl | apply VD.take rfl rfl rfl | (refine VD.end rfl rfl rfl ?_; apply OpV.pure)); apply PureAt.build sb_57 rfl; (simp [buildX, setL, Value.cells]; rfl); rfl)
  have hO1 := of_ok (W := W) (R := Sl.Own 5 1 (.slice (some ⟨nr, 0, none⟩) 640 640) 640 (bytes (kRing 3)) :: RowsO (some xa, xc) rows :: PilR rows :: R) (cap := 640) (hO _ (.head _)) (by rw [hl3]; decide) (by rw [hl3]; decide) ⟨1, 1, 3⟩ ⟨by decide, by decide, by decide⟩
  rw [kFound1] at hO1
  ((first | refine VO.step rfl rfl ?_ | refine VD.end rfl rfl rfl ?_ | refine VD.mid rfl rfl rfl ?_); refine OpV.call rfl rfl (fun _ _ => by simp) (hO1) Ent.refl rfl ?_)
  rintro ⟨⟨o1, c1⟩, ts⟩ hts
  dsimp only at hts ⊢
  have ht1 : ts.length = 1 := by have := congrArg List.length hts; simpa using this
  (refine w ?_; repeat ((first | refine VO.step rfl rfl ?_ | refine VD.end rfl rfl rfl ?_ | refine VD.mid rfl rfl rfl ?_); refine OpV.box rfl rfl rfl ?_; intro _; refine w ?_))
  ((first | refine VO.step rfl rfl ?_ | refine VD.end rfl rfl rfl ?_ | refine VD.mid rfl rfl rfl ?_); refine OpV.allocS sb_61 rfl ?_; intro n7)
  (refine w ?_; repeat ((first | refine VO.step rfl rfl ?_ | refine VD.end rfl rfl rfl ?_ | refine VD.mid rfl rfl rfl ?_); refine OpV.box rfl rfl rfl ?_; intro _; refine w ?_))
  (first | refine VO.step rfl rfl ?_ | refine VD.end rfl rfl rfl ?_ | refine VD.mid rfl rfl rfl ?_)
  refine OpV.stA (vs := [.slice o1 ts.length c1, .int .u64 2, .int .i64 1, .int .i64 3]) tab_ok rfl rfl rfl rfl (by simp [Value.oneCell']) (by (repeat first | exact .head | apply Hole.tail)) (by simp) ?_
  refine VO.ent (H' := Row n7 61 [.slice o1 ts.length c1, .int .u64 2, .int .i64 1, .int .i64 3] :: Sl.Own 5 1 (.slice (some ⟨nr, 0, none⟩) 640 640) 640 (bytes (kRing 3)) :: RowsO (some xa, xc) rows :: PilR rows :: R) Ent.re ?_
  (refine w ?_; repeat ((first | refine VO.step rfl rfl ?_ | refine VD.end rfl rfl rfl ?_ | refine VD.mid rfl rfl rfl ?_); refine OpV.box rfl rfl rfl ?_; intro _; refine w ?_))
  refine VO.re 66 (.slice (some ⟨nr, 0, none⟩) (kRing 3).length 640) rfl (by rw [hl3]) ?_
  ((first | apply VO.pure rfl rfl | apply VD.take rfl rfl rfl | (refine VD.end rfl rfl rfl ?_; apply OpV.pure)); apply PureAt.build sb_57 rfl; (simp [buildX, setL, Value.cells]; rfl); rfl)
  have hO2 := of_ok (W := W) (R := Row n7 61 [.slice o1 ts.length c1, .int .u64 2, .int .i64 1, .int .i64 3] :: Sl.Own 5 1 (.slice (some ⟨nr, 0, none⟩) 640 640) 640 (bytes (kRing 3)) :: RowsO (some xa, xc) rows :: PilR rows :: R) (cap := 640) (hO _ (.tail _ (.head _))) (by rw [hl3]; decide) (by rw [hl3]; decide) ⟨2, 1, 3⟩ ⟨by decide, by decide, by decide⟩
  rw [kFound2] at hO2
  ((first | refine VO.step rfl rfl ?_ | refine VD.end rfl rfl rfl ?_ | refine VD.mid rfl rfl rfl ?_); refine OpV.call rfl rfl (fun _ _ => by simp) (hO2) Ent.refl rfl ?_)
  rintro ⟨⟨o2, c2⟩, us⟩ hus
  dsimp only at hus ⊢
  have ht2 : us.length = 0 := by have := congrArg List.length hus; simpa using this
  (refine w ?_; repeat ((first | refine VO.step rfl rfl ?_ | refine VD.end rfl rfl rfl ?_ | refine VD.mid rfl rfl rfl ?_); refine OpV.box rfl rfl rfl ?_; intro _; refine w ?_))
  ((first | refine VO.step rfl rfl ?_ | refine VD.end rfl rfl rfl ?_ | refine VD.mid rfl rfl rfl ?_); refine OpV.allocS sb_61 rfl ?_; intro n9)
  (refine w ?_; repeat ((first | refine VO.step rfl rfl ?_ | refine VD.end rfl rfl rfl ?_ | refine VD.mid rfl rfl rfl ?_); refine OpV.box rfl rfl rfl ?_; intro _; refine w ?_))
  (first | refine VO.step rfl rfl ?_ | refine VD.end rfl rfl rfl ?_ | refine VD.mid rfl rfl rfl ?_)
  refine OpV.stA (vs := [.slice o2 us.length c2, .int .u64 1, .int .i64 3, .int .i64 0]) tab_ok rfl rfl rfl rfl (by simp [Value.oneCell']) (by (repeat first | exact .head | apply Hole.tail)) (by simp) ?_
  refine VO.ent (H' := Row n9 61 [.slice o2 us.length c2, .int .u64 1, .int .i64 3, .int .i64 0] :: Row n7 61 [.slice o1 ts.length c1, .int .u64 2, .int .i64 1, .int .i64 3] :: R) Ent.re ?_
  rw [ht1, ht2]
  (refine w ?_; repeat ((first | refine VO.step rfl rfl ?_ | refine VD.end rfl rfl rfl ?_ | refine VD.mid rfl rfl rfl ?_); refine OpV.box rfl rfl rfl ?_; intro _; refine w ?_))
  exact VE.done1 rfl rfl Ent.re
end Go.Proofs.Ytlojjlbngnaphaa

/-! Text Nj. -/
/- Scan: what was found is what stands in the ring: the walk. -/
set_option maxRecDepth 8000
set_option linter.unusedVariables false
set_option linter.unusedSimpArgs false
set_option linter.unusedSectionVars false
namespace Go.Proofs.Ytlojjlbngnaphaa
open Go.RowKit Go.Sl
attribute [local irreducible] Own

end Go.Proofs.Ytlojjlbngnaphaa

/-! Text Nk. -/
/- Scan: arguments. -/
namespace Go.Proofs.Ytlojjlbngnaphaa
end Go.Proofs.Ytlojjlbngnaphaa

/-! Text Nl. -/
/- Scan: what is laid in is found; one sector hurt; a later checkpoint; a forged batch: plainly. -/
set_option maxRecDepth 8000
set_option linter.unusedVariables false
set_option linter.unusedSimpArgs false
set_option linter.unusedSectionVars false
namespace Go.Proofs.Ytlojjlbngnaphaa
open Go.RowKit Go.Sl
attribute [local irreducible] Own

/-- A batch's sectors are the ring's own from a place on. -/
structure Lays (sec : SecF) (n e s at_ : Nat) (ls : List (List PatD)) : Prop where
  fine : FineL e s ls
  cost : costL ls ≤ n
  sec : ∀ j, j < costL ls → (flatR e s ls)[j]? = some (sec ((at_ + j) % n))

theorem FineL.rows {e s : Nat} {ls : List (List PatD)} (h : FineL e s ls) : ∀ r ∈ flatR e s ls, r.length = 128 := by
  induction ls generalizing s with
  | nil => intro r hr; cases hr
  | cons l ls ih =>
    intro r hr
    rw [flatR, List.mem_append] at hr
    rcases hr with hr | hr
    · exact rowsP_128 (h 0 (by simp)) r hr
    · refine ih (fun k hk => ?_) r hr
      have := h (k + 1) (by simpa using hk)
      rw [show s + (k + 1) = s + 1 + k by omega] at this
      simpa using this

variable {sec was : SecF} {n e s at_ : Nat} {ls : List (List PatD)}
theorem Lays.found (h : Lays sec n e s at_ ls) {k : Nat} (hk : k < ls.length) : s + k ≤ mostC ∧ batM (rotF sec n (at_ + costL (ls.take k))) (n - (0 + costL (ls.take k))) e (s + k) = some ls[k] :=
  laid_found h.fine h.cost h.sec k hk

/-- What is laid in is found ahead of all. -/
theorem Lays.all (h : Lays sec n e s at_ ls) : (ofM sec n e (n + 1) s 0 at_).take ls.length = numb s ls := by
  rw [of_laid h.fine h.cost h.sec (by have := costL_len ls; have := h.cost; omega), List.take_left' (numb_length ls s)]

/-- Of another epoch nothing is. -/
theorem Lays.other (h : Lays sec n e s at_ ls) (hl : ls ≠ []) (e' : Nat) (he : e' ≠ e) (hat : at_ < n) : ofM sec n e' (n + 1) s 0 at_ = [] := by
  have h0 : 0 < ls.length := List.length_pos_iff.2 hl
  have := (h.found h0).2
  rw [List.take_zero, show costL [] = 0 from rfl, Nat.add_zero, Nat.add_zero] at this
  exact of_none (bat_other this (.inl he))

theorem bat_congr {sec was : SecF} {room room' e s : Nat} {l : List PatD} (h : batM sec room e s = some l) (hr : 2 * l.length + 1 ≤ room') (hw : ∀ j, j < 2 * l.length + 1 → was j = sec j) : batM was room' e s = some l := by
  obtain ⟨a, b, c⟩ := (bat_iff _ _ _ _ _).1 h
  exact (bat_iff _ _ _ _ _).2 ⟨a, hr, fun j hj => by rw [c j hj, hw j hj]⟩

/-- One sector hurt: just the batches ahead of it are found. -/
theorem Lays.hurt (h : Lays sec n e s at_ ls) {bad m : Nat} {z : List UInt8} (hm : m < ls.length) (h1 : costL (ls.take m) ≤ bad) (h2 : bad < costL (ls.take m) + (2 * (ls[m]'hm).length + 1)) (hz : z.take 4 ≠ magicL)
    (hw : ∀ j, was j = if j = (at_ + bad) % n then z else sec j) (hu : (crcS (sec ((at_ + bad) % n))).toNat ≠ (crcS z).toNat) : ofM was n e (n + 1) s 0 at_ = numb s (ls.take m) := by
  have hall := costL_take_le ls m hm
  have hcost := h.cost
  have hlen : (ls.take m).length = m := by rw [List.length_take]; omega
  have hlenc := costL_len ls
  have hmono : ∀ k, k < m → costL (ls.take k) + (2 * (ls[k]?.getD []).length + 1) ≤ costL (ls.take m) := by
    intro k hk
    have h3 := costL_take_le (ls.take m) k (by omega)
    rw [List.take_take, show min k m = k by omega] at h3
    rw [List.getElem?_eq_getElem (by omega), Option.getD_some]
    simpa using h3
  have hsec : ∀ (k j : Nat), k ≤ m → costL (ls.take k) + j < n → costL (ls.take k) + j ≠ bad → rotF was n (at_ + costL (ls.take k)) j = rotF sec n (at_ + costL (ls.take k)) j := by
    intro k j hk hj hne
    unfold rotF
    rw [hw, if_neg]
    intro q
    rw [Nat.add_assoc] at q
    exact hne (mod_inj hj (by omega) q)
  have hpre : ∀ (k : Nat) (hk : k < (ls.take m).length), s + k ≤ mostC ∧ batM (rotF was n (at_ + costL ((ls.take m).take k))) (n - (0 + costL ((ls.take m).take k))) e (s + k) = some (ls.take m)[k] := by
    intro k hk
    rw [hlen] at hk
    have hf := h.found (k := k) (by omega)
    have hb := bat_room hf.2
    have hk2 := hmono k hk
    rw [List.getElem?_eq_getElem (by omega), Option.getD_some] at hk2
    rw [List.take_take, show min k m = k by omega, List.getElem_take]
    refine ⟨hf.1, bat_congr hf.2 hb.1 fun j hj => hsec k j (by omega) (by omega) (by omega)⟩
  rw [of_prefix (ls.take m) (n + 1) s 0 at_ hpre (by omega), hlen]
  have hlast : ofM was n e (n + 1 - m) (s + m) (0 + costL (ls.take m)) (if ls.take m = [] then at_ else (at_ + costL (ls.take m)) % n) = [] := by
    refine of_none ?_
    have e1 : rotF was n (if ls.take m = [] then at_ else (at_ + costL (ls.take m)) % n) = rotF was n (at_ + costL (ls.take m)) := by
      split
      · rename_i q; rw [q]; rfl
      · exact rotF_mod ..
    rw [e1]
    refine hurt_none (j := bad - costL (ls.take m)) (z := z) (h.found hm).2 (by omega) hz ?_ ?_ ?_
    · unfold rotF; rw [hw, if_pos]; congr 1; omega
    · intro i hi hne
      exact hsec m i (Nat.le_refl _) (by omega) (by omega)
    · unfold rotF; rw [show at_ + costL (ls.take m) + (bad - costL (ls.take m)) = at_ + bad by omega]; exact hu
  rw [hlast, List.append_nil]

/-- A checkpoint that has gone on to a later batch. -/
theorem Lays.drop (h : Lays sec n e s at_ ls) (i : Nat) : Lays sec n e (s + i) ((at_ + costL (ls.take i)) % n) (ls.drop i) := by
  have hsum : costL (ls.take i) + costL (ls.drop i) = costL ls := by rw [← costL_append, List.take_append_drop]
  refine ⟨fun k hk => ?_, by have := h.cost; omega, fun j hj => ?_⟩
  · have := h.fine (i + k) (by rw [List.length_drop] at hk; omega)
    rw [List.getElem_drop, show s + i + k = s + (i + k) by omega]
    exact this
  · have h1 := h.sec (costL (ls.take i) + j) (by omega)
    rw [Nat.mod_add_mod, Nat.add_assoc]
    rw [← h1]
    have h2 := flatR_append e (ls.take i) (ls.drop i) s
    rw [List.take_append_drop] at h2
    by_cases hi : i ≤ ls.length
    · rw [List.length_take, Nat.min_eq_left hi] at h2
      rw [h2, List.getElem?_append_right (by rw [flatR_length]; omega), flatR_length]
      congr 1; omega
    · rw [List.drop_eq_nil_of_le (by omega)] at hj; exact absurd hj (by simp [costL])

/-- Just those are found, where noughts stand behind them. -/
theorem Lays.just (h : Lays sec n e s at_ ls) (hz : ∀ j, costL ls ≤ j → j < n → (sec ((at_ + j) % n)).take 4 ≠ magicL) (hat : at_ < n) {i : Nat} (hi : i < ls.length) :
    ofM sec n e (n + 1) (s + i) 0 ((at_ + costL (ls.take i)) % n) = numb (s + i) (ls.drop i) := by
  have hd := h.drop i
  have hsum : costL (ls.take i) + costL (ls.drop i) = costL ls := by rw [← costL_append, List.take_append_drop]
  have hne : ls.drop i ≠ [] := fun q => by have := congrArg List.length q; rw [List.length_drop] at this; simp at this; omega
  have hlenc := costL_len (ls.drop i)
  have hcost := h.cost
  rw [of_laid hd.fine hd.cost hd.sec (by omega), if_neg hne]
  have hlast : batM (rotF sec n (((at_ + costL (ls.take i)) % n + costL (ls.drop i)) % n)) (n - costL (ls.drop i)) e (s + i + (ls.drop i).length) = none := by
    rw [Nat.mod_add_mod, Nat.add_assoc, hsum, rotF_mod]
    by_cases hfull : costL ls < n
    · refine bat_no (dec_nought ?_).1
      show (sec ((at_ + costL ls + 0) % n)).take 4 ≠ magicL
      exact hz (costL ls) (Nat.le_refl _) hfull
    · have hn : costL ls = n := by omega
      rw [hn, ← rotF_mod, Nat.add_mod_right, rotF_mod]
      have h0 := (h.found (k := 0) (by omega)).2
      rw [List.take_zero, show costL [] = 0 from rfl, Nat.add_zero, Nat.add_zero] at h0
      refine bat_other h0 (.inr ?_)
      rw [List.length_drop]; omega
  rw [of_none hlast, List.append_nil]

/-! ### What a batch writes can't be taken for the journal's own -/
end Go.Proofs.Ytlojjlbngnaphaa

/-! Text Nm. -/
/- Scan: much; the same patches, batches, rows: the walks. -/
set_option maxRecDepth 8000
set_option linter.unusedVariables false
set_option linter.unusedSimpArgs false
set_option linter.unusedSectionVars false
namespace Go.Proofs.Ytlojjlbngnaphaa
open Go.RowKit Go.Sl
attribute [local irreducible] Own

instance : DecidableEq PatD := fun a b => decidable_of_iff (a.member = b.member ∧ a.row = b.row ∧ a.data = b.data) (by cases a; cases b; simp)
theorem some_of_pos {ao : Option Addr} {n : Nat} (h : ao = none → n = 0) (hn : 0 < n) : ∃ a, ao = some a := by
  cases ao with
  | none => have := h rfl; omega
  | some a => exact ⟨a, rfl⟩
set_option maxHeartbeats 1000000 in
theorem samepats_ok {W : World} {R : List SProp} {ao bo : Option Addr} {ac bc : Nat} {l m : List PatE} (hl : RdPats W R ao l) (hm : RdPats W R bo m) (hn : l.length ≤ 140737488351232) (hd : ∀ p ∈ l, p.d.data.length ≤ maxLen) :
    Does1 W Try.prog 61 [.slice ao l.length ac, .slice bo m.length bc] R (.bool (decide (l.map PatE.D = m.map PatE.D))) R := by
  (refine Does.enter Try.func61 Try.ntmps61 rfl rfl ?_)
  (refine w ?_; repeat ((first | refine VO.step rfl rfl ?_ | refine VD.end rfl rfl rfl ?_ | refine VD.mid rfl rfl rfl ?_); refine OpV.box rfl rfl rfl ?_; intro _; refine w ?_))
  (refine VC.cond rfl rfl ?_ ?_ <;> intro hc)
  · have h : ¬ l.length = m.length := by have : ¬ (l.length : Int) = m.length := (by simpa using hc); omega
    (refine w ?_; repeat ((first | refine VO.step rfl rfl ?_ | refine VD.end rfl rfl rfl ?_ | refine VD.mid rfl rfl rfl ?_); refine OpV.box rfl rfl rfl ?_; intro _; refine w ?_))
    (refine VE.done1 rfl ?_ ?_)
    · congr 1; symm; exact decide_eq_false (fun e => h (by have := congrArg List.length e; rwa [List.length_map, List.length_map] at this))
    · exact Ent.refl
  have h : l.length = m.length := by have : (l.length : Int) = m.length := (by simpa using hc); omega
  (refine w ?_; repeat ((first | refine VO.step rfl rfl ?_ | refine VD.end rfl rfl rfl ?_ | refine VD.mid rfl rfl rfl ?_); refine OpV.box rfl rfl rfl ?_; intro _; refine w ?_))
  refine VC.loop (α := Nat) (fun i => i ≤ l.length ∧ (l.map PatE.D).take i = (m.map PatE.D).take i) (fun _ => R) (fun i => [(0, .slice ao l.length ac), (1, .slice bo m.length bc), (5, .int .i64 i)]) (fun i => l.length - i) rfl 0 ⟨Nat.zero_le _, by simp⟩ Ent.refl ⟨rfl, rfl, rfl, trivial⟩ ?_
  rintro i ⟨hi, he⟩
  (refine w ?_; repeat ((first | refine VO.step rfl rfl ?_ | refine VD.end rfl rfl rfl ?_ | refine VD.mid rfl rfl rfl ?_); refine OpV.box rfl rfl rfl ?_; intro _; refine w ?_))
  (refine VC.cond rfl rfl ?_ ?_ <;> intro hc)
  · have hlt : i < l.length := by have := of_decide_eq_true hc; omega
    have hlt2 : i < m.length := by omega
    obtain ⟨a, rfl⟩ := some_of_pos hl.rds.nil (by omega)
    obtain ⟨b, rfl⟩ := some_of_pos hm.rds.nil (by omega)
    have hno : l[i].D ≠ m[i].D → Value.bool false = Value.bool (decide (l.map PatE.D = m.map PatE.D)) := fun hx => by
      congr 1; symm
      refine decide_eq_false (fun e => hx ?_)
      have h1 := congrArg (fun z => z[i]?) e
      simpa [List.getElem?_map, List.getElem?_eq_getElem hlt, List.getElem?_eq_getElem hlt2] using h1
    (refine w ?_; repeat ((first | refine VO.step rfl rfl ?_ | refine VD.end rfl rfl rfl ?_ | refine VD.mid rfl rfl rfl ?_); refine OpV.box rfl rfl rfl ?_; intro _; refine w ?_))
    ((refine VC.quiet rfl (by kernel_rfl) (by kernel_rfl) ?_); (refine w ?_; repeat ((first | refine VO.step rfl rfl ?_ | refine VD.end rfl rfl rfl ?_ | refine VD.mid rfl rfl rfl ?_); refine OpV.box rfl rfl rfl ?_; intro _; refine w ?_)))
    (first | refine VO.pure rfl rfl (PureAt.ldRc tab_ok rfl rfl hl.rds (pat_get l i 0 hlt (by decide))) rfl ?_ | refine VD.take rfl rfl rfl (PureAt.ldRc tab_ok rfl rfl hl.rds (pat_get l i 0 hlt (by decide))) rfl ?_ | refine VQ.pure rfl rfl (PureAt.ldRc tab_ok rfl rfl hl.rds (pat_get l i 0 hlt (by decide))) rfl ?_ | refine VD.end rfl rfl rfl (OpV.pure (PureAt.ldRc tab_ok rfl rfl hl.rds (pat_get l i 0 hlt (by decide))) rfl ?_))
    (refine w ?_; repeat ((first | refine VO.step rfl rfl ?_ | refine VD.end rfl rfl rfl ?_ | refine VD.mid rfl rfl rfl ?_); refine OpV.box rfl rfl rfl ?_; intro _; refine w ?_))
    (first | refine VO.pure rfl rfl (PureAt.ldRc tab_ok rfl rfl hm.rds (pat_get m i 0 hlt2 (by decide))) rfl ?_ | refine VD.take rfl rfl rfl (PureAt.ldRc tab_ok rfl rfl hm.rds (pat_get m i 0 hlt2 (by decide))) rfl ?_ | refine VQ.pure rfl rfl (PureAt.ldRc tab_ok rfl rfl hm.rds (pat_get m i 0 hlt2 (by decide))) rfl ?_ | refine VD.end rfl rfl rfl (OpV.pure (PureAt.ldRc tab_ok rfl rfl hm.rds (pat_get m i 0 hlt2 (by decide))) rfl ?_))
    (refine w ?_; repeat ((first | refine VO.step rfl rfl ?_ | refine VD.end rfl rfl rfl ?_ | refine VD.mid rfl rfl rfl ?_); refine OpV.box rfl rfl rfl ?_; intro _; refine w ?_))
    (refine VQ.split rfl rfl rfl ?_ ?_ <;> intro hb)
    · (refine w ?_; repeat ((first | refine VO.step rfl rfl ?_ | refine VD.end rfl rfl rfl ?_ | refine VD.mid rfl rfl rfl ?_); refine OpV.box rfl rfl rfl ?_; intro _; refine w ?_))
      (refine VE.done1 rfl ?_ ?_)
      · exact hno (fun e => by have := congrArg PatD.member e; simp [PatE.D] at this; simp [this] at hb)
      · exact Ent.refl
    (refine w ?_; repeat ((first | refine VO.step rfl rfl ?_ | refine VD.end rfl rfl rfl ?_ | refine VD.mid rfl rfl rfl ?_); refine OpV.box rfl rfl rfl ?_; intro _; refine w ?_))
    (first | refine VO.pure rfl rfl (PureAt.ldRc tab_ok rfl rfl hl.rds (pat_get l i 1 hlt (by decide))) rfl ?_ | refine VD.take rfl rfl rfl (PureAt.ldRc tab_ok rfl rfl hl.rds (pat_get l i 1 hlt (by decide))) rfl ?_ | refine VQ.pure rfl rfl (PureAt.ldRc tab_ok rfl rfl hl.rds (pat_get l i 1 hlt (by decide))) rfl ?_ | refine VD.end rfl rfl rfl (OpV.pure (PureAt.ldRc tab_ok rfl rfl hl.rds (pat_get l i 1 hlt (by decide))) rfl ?_))
    (refine w ?_; repeat ((first | refine VO.step rfl rfl ?_ | refine VD.end rfl rfl rfl ?_ | refine VD.mid rfl rfl rfl ?_); refine OpV.box rfl rfl rfl ?_; intro _; refine w ?_))
    (first | refine VO.pure rfl rfl (PureAt.ldRc tab_ok rfl rfl hm.rds (pat_get m i 1 hlt2 (by decide))) rfl ?_ | refine VD.take rfl rfl rfl (PureAt.ldRc tab_ok rfl rfl hm.rds (pat_get m i 1 hlt2 (by decide))) rfl ?_ | refine VQ.pure rfl rfl (PureAt.ldRc tab_ok rfl rfl hm.rds (pat_get m i 1 hlt2 (by decide))) rfl ?_ | refine VD.end rfl rfl rfl (OpV.pure (PureAt.ldRc tab_ok rfl rfl hm.rds (pat_get m i 1 hlt2 (by decide))) rfl ?_))
    have hm0 : l[i].member = m[i].member := by simpa using hb
    clear hb
    (refine w ?_; repeat ((first | refine VO.step rfl rfl ?_ | refine VD.end rfl rfl rfl ?_ | refine VD.mid rfl rfl rfl ?_); refine OpV.box rfl rfl rfl ?_; intro _; refine w ?_))
    (refine VQ.split rfl rfl rfl ?_ ?_ <;> intro hb)
    · (refine w ?_; repeat ((first | refine VO.step rfl rfl ?_ | refine VD.end rfl rfl rfl ?_ | refine VD.mid rfl rfl rfl ?_); refine OpV.box rfl rfl rfl ?_; intro _; refine w ?_))
      (refine VE.done1 rfl ?_ ?_)
      · exact hno (fun e => by have := congrArg PatD.row e; simp [PatE.D] at this; simp [this] at hb)
      · exact Ent.refl
    have hr0 : l[i].row = m[i].row := by simpa using hb
    clear hb
    (refine w ?_; repeat ((first | refine VO.step rfl rfl ?_ | refine VD.end rfl rfl rfl ?_ | refine VD.mid rfl rfl rfl ?_); refine OpV.box rfl rfl rfl ?_; intro _; refine w ?_))
    (first | refine VO.pure rfl rfl (PureAt.ldRc tab_ok rfl rfl hl.rds (pat_get l i 2 hlt (by decide))) rfl ?_ | refine VD.take rfl rfl rfl (PureAt.ldRc tab_ok rfl rfl hl.rds (pat_get l i 2 hlt (by decide))) rfl ?_ | refine VQ.pure rfl rfl (PureAt.ldRc tab_ok rfl rfl hl.rds (pat_get l i 2 hlt (by decide))) rfl ?_ | refine VD.end rfl rfl rfl (OpV.pure (PureAt.ldRc tab_ok rfl rfl hl.rds (pat_get l i 2 hlt (by decide))) rfl ?_))
    (refine w ?_; repeat ((first | refine VO.step rfl rfl ?_ | refine VD.end rfl rfl rfl ?_ | refine VD.mid rfl rfl rfl ?_); refine OpV.box rfl rfl rfl ?_; intro _; refine w ?_))
    (first | refine VO.pure rfl rfl (PureAt.ldRc tab_ok rfl rfl hm.rds (pat_get m i 2 hlt2 (by decide))) rfl ?_ | refine VD.take rfl rfl rfl (PureAt.ldRc tab_ok rfl rfl hm.rds (pat_get m i 2 hlt2 (by decide))) rfl ?_ | refine VQ.pure rfl rfl (PureAt.ldRc tab_ok rfl rfl hm.rds (pat_get m i 2 hlt2 (by decide))) rfl ?_ | refine VD.end rfl rfl rfl (OpV.pure (PureAt.ldRc tab_ok rfl rfl hm.rds (pat_get m i 2 hlt2 (by decide))) rfl ?_))
    (refine w ?_; repeat ((first | refine VO.step rfl rfl ?_ | refine VD.end rfl rfl rfl ?_ | refine VD.mid rfl rfl rfl ?_); refine OpV.box rfl rfl rfl ?_; intro _; refine w ?_))
    (refine VQ.call rfl rfl rfl rfl (fun _ _ => by simp) (same_any (hl.each _ (List.getElem_mem hlt)) (hm.each _ (List.getElem_mem hlt2)) (hd _ (List.getElem_mem hlt))) Ent.refl Ent.refl rfl ?_)
    (refine w ?_; repeat ((first | refine VO.step rfl rfl ?_ | refine VD.end rfl rfl rfl ?_ | refine VD.mid rfl rfl rfl ?_); refine OpV.box rfl rfl rfl ?_; intro _; refine w ?_))
    (refine VC.cond rfl rfl ?_ ?_ <;> intro hc)
    · have hx : l[i].d.data ≠ m[i].d.data := by simpa using hc
      (refine w ?_; repeat ((first | refine VO.step rfl rfl ?_ | refine VD.end rfl rfl rfl ?_ | refine VD.mid rfl rfl rfl ?_); refine OpV.box rfl rfl rfl ?_; intro _; refine w ?_))
      (refine VE.done1 rfl ?_ ?_)
      · exact hno (fun e => hx (congrArg PatD.data e))
      · exact Ent.refl
    · have hx : l[i].d.data = m[i].d.data := by simpa using hc
      (refine w ?_; repeat ((first | refine VO.step rfl rfl ?_ | refine VD.end rfl rfl rfl ?_ | refine VD.mid rfl rfl rfl ?_); refine OpV.box rfl rfl rfl ?_; intro _; refine w ?_))
      refine VE.round (i + 1) ⟨hlt, ?_⟩ (by omega) ⟨rfl, rfl, asV rfl (by congr 1), trivial⟩ Ent.refl
      rw [List.take_succ_eq_append_getElem (by simpa using hlt), List.take_succ_eq_append_getElem (by simpa using hlt2), he, List.getElem_map, List.getElem_map]
      congr 2
      unfold PatE.D
      rw [hm0, hr0, hx]
  · have hge : i = l.length := by have := of_decide_eq_false hc; omega
    subst hge
    rw [List.take_of_length_le (by simp), List.take_of_length_le (by simp; omega)] at he
    (refine w ?_; repeat ((first | refine VO.step rfl rfl ?_ | refine VD.end rfl rfl rfl ?_ | refine VD.mid rfl rfl rfl ?_); refine OpV.box rfl rfl rfl ?_; intro _; refine w ?_))
    (refine VE.done1 rfl ?_ ?_)
    · rw [he]; simp
    · exact Ent.refl

set_option maxHeartbeats 1000000 in
theorem sametxns_ok {W : World} {R : List SProp} {ao bo : Option Addr} {ac bc : Nat} {l m : List TxnE} (hl : RdTxns W R ao l) (hm : RdTxns W R bo m) (hn : l.length ≤ 140737488351232) (hd : ∀ t ∈ l, t.pats.length ≤ 140737488351232 ∧ ∀ p ∈ t.pats, p.d.data.length ≤ maxLen) :
    Does1 W Try.prog 28 [.slice ao l.length ac, .slice bo m.length bc] R (.bool (decide (l.map TxnE.T = m.map TxnE.T))) R := by
  (refine Does.enter Try.func28 Try.ntmps28 rfl rfl ?_)
  (refine w ?_; repeat ((first | refine VO.step rfl rfl ?_ | refine VD.end rfl rfl rfl ?_ | refine VD.mid rfl rfl rfl ?_); refine OpV.box rfl rfl rfl ?_; intro _; refine w ?_))
  (refine VC.cond rfl rfl ?_ ?_ <;> intro hc)
  · have h : ¬ l.length = m.length := by have : ¬ (l.length : Int) = m.length := (by simpa using hc); omega
    (refine w ?_; repeat ((first | refine VO.step rfl rfl ?_ | refine VD.end rfl rfl rfl ?_ | refine VD.mid rfl rfl rfl ?_); refine OpV.box rfl rfl rfl ?_; intro _; refine w ?_))
    (refine VE.done1 rfl ?_ ?_)
    · congr 1; symm; exact decide_eq_false (fun e => h (by have := congrArg List.length e; rwa [List.length_map, List.length_map] at this))
    · exact Ent.refl
  have h : l.length = m.length := by have : (l.length : Int) = m.length := (by simpa using hc); omega
  (refine w ?_; repeat ((first | refine VO.step rfl rfl ?_ | refine VD.end rfl rfl rfl ?_ | refine VD.mid rfl rfl rfl ?_); refine OpV.box rfl rfl rfl ?_; intro _; refine w ?_))
  refine VC.loop (α := Nat) (fun i => i ≤ l.length ∧ (l.map TxnE.T).take i = (m.map TxnE.T).take i) (fun _ => R) (fun i => [(0, .slice ao l.length ac), (1, .slice bo m.length bc), (5, .int .i64 i)]) (fun i => l.length - i) rfl 0 ⟨Nat.zero_le _, by simp⟩ Ent.refl ⟨rfl, rfl, rfl, trivial⟩ ?_
  rintro i ⟨hi, he⟩
  (refine w ?_; repeat ((first | refine VO.step rfl rfl ?_ | refine VD.end rfl rfl rfl ?_ | refine VD.mid rfl rfl rfl ?_); refine OpV.box rfl rfl rfl ?_; intro _; refine w ?_))
  (refine VC.cond rfl rfl ?_ ?_ <;> intro hc)
  · have hlt : i < l.length := by have := of_decide_eq_true hc; omega
    have hlt2 : i < m.length := by omega
    obtain ⟨a, rfl⟩ := some_of_pos hl.rds.nil (by omega)
    obtain ⟨b, rfl⟩ := some_of_pos hm.rds.nil (by omega)
    have hno : l[i].T ≠ m[i].T → Value.bool false = Value.bool (decide (l.map TxnE.T = m.map TxnE.T)) := fun hx => by
      congr 1; symm
      refine decide_eq_false (fun e => hx ?_)
      have h1 := congrArg (fun z => z[i]?) e
      simpa [List.getElem?_map, List.getElem?_eq_getElem hlt, List.getElem?_eq_getElem hlt2] using h1
    (refine w ?_; repeat ((first | refine VO.step rfl rfl ?_ | refine VD.end rfl rfl rfl ?_ | refine VD.mid rfl rfl rfl ?_); refine OpV.box rfl rfl rfl ?_; intro _; refine w ?_))
    ((refine VC.quiet rfl (by kernel_rfl) (by kernel_rfl) ?_); (refine w ?_; repeat ((first | refine VO.step rfl rfl ?_ | refine VD.end rfl rfl rfl ?_ | refine VD.mid rfl rfl rfl ?_); refine OpV.box rfl rfl rfl ?_; intro _; refine w ?_)))
    (first | refine VO.pure rfl rfl (PureAt.ldRc tab_ok rfl rfl hl.rds (txn_get l i 0 hlt (by decide))) rfl ?_ | refine VD.take rfl rfl rfl (PureAt.ldRc tab_ok rfl rfl hl.rds (txn_get l i 0 hlt (by decide))) rfl ?_ | refine VQ.pure rfl rfl (PureAt.ldRc tab_ok rfl rfl hl.rds (txn_get l i 0 hlt (by decide))) rfl ?_ | refine VD.end rfl rfl rfl (OpV.pure (PureAt.ldRc tab_ok rfl rfl hl.rds (txn_get l i 0 hlt (by decide))) rfl ?_))
    (refine w ?_; repeat ((first | refine VO.step rfl rfl ?_ | refine VD.end rfl rfl rfl ?_ | refine VD.mid rfl rfl rfl ?_); refine OpV.box rfl rfl rfl ?_; intro _; refine w ?_))
    (first | refine VO.pure rfl rfl (PureAt.ldRc tab_ok rfl rfl hm.rds (txn_get m i 0 hlt2 (by decide))) rfl ?_ | refine VD.take rfl rfl rfl (PureAt.ldRc tab_ok rfl rfl hm.rds (txn_get m i 0 hlt2 (by decide))) rfl ?_ | refine VQ.pure rfl rfl (PureAt.ldRc tab_ok rfl rfl hm.rds (txn_get m i 0 hlt2 (by decide))) rfl ?_ | refine VD.end rfl rfl rfl (OpV.pure (PureAt.ldRc tab_ok rfl rfl hm.rds (txn_get m i 0 hlt2 (by decide))) rfl ?_))
    (refine w ?_; repeat ((first | refine VO.step rfl rfl ?_ | refine VD.end rfl rfl rfl ?_ | refine VD.mid rfl rfl rfl ?_); refine OpV.box rfl rfl rfl ?_; intro _; refine w ?_))
    (refine VQ.split rfl rfl rfl ?_ ?_ <;> intro hb)
    · (refine w ?_; repeat ((first | refine VO.step rfl rfl ?_ | refine VD.end rfl rfl rfl ?_ | refine VD.mid rfl rfl rfl ?_); refine OpV.box rfl rfl rfl ?_; intro _; refine w ?_))
      (refine VE.done1 rfl ?_ ?_)
      · exact hno (fun e => by have := congrArg Prod.fst e; simp [TxnE.T] at this; simp [this] at hb)
      · exact Ent.refl
    have hs0 : l[i].seq = m[i].seq := by have : (l[i].seq : Int) = m[i].seq := (by simpa using hb); omega
    clear hb
    (refine w ?_; repeat ((first | refine VO.step rfl rfl ?_ | refine VD.end rfl rfl rfl ?_ | refine VD.mid rfl rfl rfl ?_); refine OpV.box rfl rfl rfl ?_; intro _; refine w ?_))
    (first | refine VO.pure rfl rfl (PureAt.ldRc tab_ok rfl rfl hl.rds (txn_get l i 1 hlt (by decide))) rfl ?_ | refine VD.take rfl rfl rfl (PureAt.ldRc tab_ok rfl rfl hl.rds (txn_get l i 1 hlt (by decide))) rfl ?_ | refine VQ.pure rfl rfl (PureAt.ldRc tab_ok rfl rfl hl.rds (txn_get l i 1 hlt (by decide))) rfl ?_ | refine VD.end rfl rfl rfl (OpV.pure (PureAt.ldRc tab_ok rfl rfl hl.rds (txn_get l i 1 hlt (by decide))) rfl ?_))
    (refine w ?_; repeat ((first | refine VO.step rfl rfl ?_ | refine VD.end rfl rfl rfl ?_ | refine VD.mid rfl rfl rfl ?_); refine OpV.box rfl rfl rfl ?_; intro _; refine w ?_))
    (first | refine VO.pure rfl rfl (PureAt.ldRc tab_ok rfl rfl hm.rds (txn_get m i 1 hlt2 (by decide))) rfl ?_ | refine VD.take rfl rfl rfl (PureAt.ldRc tab_ok rfl rfl hm.rds (txn_get m i 1 hlt2 (by decide))) rfl ?_ | refine VQ.pure rfl rfl (PureAt.ldRc tab_ok rfl rfl hm.rds (txn_get m i 1 hlt2 (by decide))) rfl ?_ | refine VD.end rfl rfl rfl (OpV.pure (PureAt.ldRc tab_ok rfl rfl hm.rds (txn_get m i 1 hlt2 (by decide))) rfl ?_))
    (refine w ?_; repeat ((first | refine VO.step rfl rfl ?_ | refine VD.end rfl rfl rfl ?_ | refine VD.mid rfl rfl rfl ?_); refine OpV.box rfl rfl rfl ?_; intro _; refine w ?_))
    (refine VQ.call rfl rfl rfl rfl (fun _ _ => by simp) (samepats_ok (hl.each _ (List.getElem_mem hlt)) (hm.each _ (List.getElem_mem hlt2)) (hd _ (List.getElem_mem hlt)).1 (hd _ (List.getElem_mem hlt)).2) Ent.refl Ent.refl rfl ?_)
    (refine w ?_; repeat ((first | refine VO.step rfl rfl ?_ | refine VD.end rfl rfl rfl ?_ | refine VD.mid rfl rfl rfl ?_); refine OpV.box rfl rfl rfl ?_; intro _; refine w ?_))
    (refine VC.cond rfl rfl ?_ ?_ <;> intro hc)
    · have hx : l[i].pats.map PatE.D ≠ m[i].pats.map PatE.D := by simpa using hc
      (refine w ?_; repeat ((first | refine VO.step rfl rfl ?_ | refine VD.end rfl rfl rfl ?_ | refine VD.mid rfl rfl rfl ?_); refine OpV.box rfl rfl rfl ?_; intro _; refine w ?_))
      (refine VE.done1 rfl ?_ ?_)
      · exact hno (fun e => hx (congrArg Prod.snd e))
      · exact Ent.refl
    · have hx : l[i].pats.map PatE.D = m[i].pats.map PatE.D := by simpa using hc
      (refine w ?_; repeat ((first | refine VO.step rfl rfl ?_ | refine VD.end rfl rfl rfl ?_ | refine VD.mid rfl rfl rfl ?_); refine OpV.box rfl rfl rfl ?_; intro _; refine w ?_))
      refine VE.round (i + 1) ⟨hlt, ?_⟩ (by omega) ⟨rfl, rfl, asV rfl (by congr 1), trivial⟩ Ent.refl
      rw [List.take_succ_eq_append_getElem (by simpa using hlt), List.take_succ_eq_append_getElem (by simpa using hlt2), he, List.getElem_map, List.getElem_map]
      congr 2
      unfold TxnE.T
      rw [hs0, hx]
  · have hge : i = l.length := by have := of_decide_eq_false hc; omega
    subst hge
    rw [List.take_of_length_le (by simp), List.take_of_length_le (by simp; omega)] at he
    (refine w ?_; repeat ((first | refine VO.step rfl rfl ?_ | refine VD.end rfl rfl rfl ?_ | refine VD.mid rfl rfl rfl ?_); refine OpV.box rfl rfl rfl ?_; intro _; refine w ?_))
    (refine VE.done1 rfl ?_ ?_)
    · rw [he]; simp
    · exact Ent.refl

end Go.Proofs.Ytlojjlbngnaphaa

/-! Text Nv. -/
/- Scan: arguments: lists of patches, lists of such lists. -/
set_option maxRecDepth 8000
set_option linter.unusedVariables false
set_option linter.unusedSimpArgs false
set_option linter.unusedSectionVars false
namespace Go.Proofs.Ytlojjlbngnaphaa
open Go.RowKit Go.Sl
attribute [local irreducible] Own

structure PatE.wf (W : World) (p : PatE) : Prop where
  rd : RdsA W 1 p.d.ao p.d.data.length (bytes p.d.data)
  ok : p.d.ok
  fit : p.fit
/-- A list within a list. -/
structure PlsE where
  ao : Option Addr
  cap : Nat
  pats : List PatE
abbrev PlsE.hdr (e : PlsE) : Value := .slice e.ao e.pats.length e.cap
structure PlsE.wf (W : World) (e : PlsE) : Prop where
  rd : ∀ R, RdPats W R e.ao e.pats
  fit : ∀ p ∈ e.pats, p.fit
  len : e.pats.length ≤ 140737488351232
  cap : e.pats.length ≤ e.cap
end Go.Proofs.Ytlojjlbngnaphaa

/-! Text Qa. -/
/- What is lent of patches: LentPatches, WholePatches, SpoilPatches. -/
set_option maxRecDepth 8000
set_option linter.unusedVariables false
set_option linter.unusedSimpArgs false
set_option linter.unusedSectionVars false
namespace Go.Proofs.Ytlojjlbngnaphaa
open Go.RowKit Go.Sl
attribute [local irreducible] Sl.Own

theorem memFront {W : World} {X : SProp} {H : List SProp} (m : X ∈ H) : ∃ R, Ent W H (X :: R) ∧ Ent W (X :: R) H := by
  obtain ⟨R, p⟩ := mem_perm m
  exact ⟨R, fun w hw => hw.perm p, fun w hw => hw.perm p.symm⟩
def PatE.lend (p : PatE) (e : Addr × Nat) : PatE := ⟨p.member, p.row, ⟨some e.1, e.2, p.d.data⟩⟩
theorem lent_rds {W : World} {H : List SProp} {a : Addr} {cap : Nat} {l : List UInt8} (m : LentO a cap l ∈ H) : Rds W H 1 (some a) l.length (bytes l) := by
  obtain ⟨R, h1, -⟩ := memFront (W := W) m
  exact LentO.rds.ent h1
def lentP (l : List PatE) (es : List (Addr × Nat)) : List PatE := List.zipWith PatE.lend l es
def lentPR (l : List PatE) (es : List (Addr × Nat)) : List SProp := List.zipWith (fun p e => LentO e.1 e.2 p.d.data) l es
def markP : PatE := ⟨-77, 0, ⟨none, 0, []⟩⟩
theorem lentP_length {l : List PatE} {es : List (Addr × Nat)} (h : es.length = l.length) : (lentP l es).length = l.length := by simp [lentP, h]
theorem lentP_get {l : List PatE} {es : List (Addr × Nat)} (h : es.length = l.length) (i : Nat) (hi : i < l.length) : (lentP l es)[i]'(by rw [lentP_length h]; exact hi) = l[i].lend (es[i]'(by omega)) := by simp [lentP]
theorem lentPR_length {l : List PatE} {es : List (Addr × Nat)} (h : es.length = l.length) : (lentPR l es).length = l.length := by simp [lentPR, h]
theorem lentPR_get {l : List PatE} {es : List (Addr × Nat)} (h : es.length = l.length) (i : Nat) (hi : i < l.length) : (lentPR l es)[i]'(by rw [lentPR_length h]; exact hi) = LentO (es[i]'(by omega)).1 (es[i]'(by omega)).2 l[i].d.data := by simp [lentPR]
theorem lentPR_mem {l : List PatE} {es : List (Addr × Nat)} (h : es.length = l.length) (i : Nat) (hi : i < l.length) : LentO (es[i]'(by omega)).1 (es[i]'(by omega)).2 l[i].d.data ∈ lentPR l es := by
  rw [← lentPR_get h i hi]; exact List.getElem_mem _
/-- Patches that can be read whatever else memory holds. -/
structure PatsA (W : World) (ao : Option Addr) (l : List PatE) : Prop where
  rd : ∀ R, RdPats W R ao l
  len : l.length ≤ 1000000
  data : ∀ p ∈ l, p.d.data.length ≤ 1000000000
theorem PatsA.bytes {W : World} {ao : Option Addr} {l : List PatE} (h : PatsA W ao l) : ∀ p ∈ l, RdsA W 1 p.d.ao p.d.data.length (bytes p.d.data) := fun p hp R => (h.rd R).each p hp
abbrev LentPs (l : List PatE) (es : List (Addr × Nat)) (a : Addr) (cap : Nat) : SProp := Sl.Own 78 3 (.slice (some a) (l.length + 2) cap) (l.length + 2) (patCells (lentP l es ++ [markP, markP]))

theorem lentp_len {l : List PatE} {es : List (Addr × Nat)} (h : es.length = l.length) : (lentP l es ++ [markP, markP]).length = l.length + 2 := by rw [List.length_append, lentP_length h]; rfl
theorem lentp_rds {W : World} {H : List SProp} {l : List PatE} {es : List (Addr × Nat)} {a : Addr} {cap : Nat} (h : es.length = l.length) (m : LentPs l es a cap ∈ H) : Rds W H 3 (some a) (l.length + 2) (patCells (lentP l es ++ [markP, markP])) := Rds.own (pats_one _) m (by rw [pats_len, lentp_len h]) (fun h => by cases h)
theorem lentp_pats {W : World} {H : List SProp} {l : List PatE} {es : List (Addr × Nat)} {a : Addr} {cap : Nat} (h : es.length = l.length) (m : LentPs l es a cap ∈ H) (hR : ∀ x ∈ lentPR l es, x ∈ H) (hc : ∀ (i : Nat) (hi : i < l.length), l[i].d.data.length ≤ (es[i]'(by omega)).2) : RdPats W H (some a) (lentP l es) where
  rds := by
    have := Rds.take (W := W) (l := l.length) (lentp_rds h m) (by omega)
    rw [show l.length * 3 = (patCells (lentP l es)).length by rw [pats_len, lentP_length h], show patCells (lentP l es ++ [markP, markP]) = patCells (lentP l es) ++ patCells [markP, markP] by unfold patCells; rw [List.flatMap_append], List.take_left] at this
    rw [lentP_length h]; exact this
  each := fun b hb => by
    obtain ⟨i, hi, rfl⟩ := List.mem_iff_getElem.1 hb
    have hi2 : i < l.length := by rw [lentP_length h] at hi; exact hi
    rw [lentP_get h i hi2]
    exact lent_rds (hR _ (lentPR_mem h i hi2))
  ok := fun b hb => by
    obtain ⟨i, hi, rfl⟩ := List.mem_iff_getElem.1 hb
    have hi2 : i < l.length := by rw [lentP_length h] at hi; exact hi
    rw [lentP_get h i hi2]
    exact ⟨fun q => (by cases q), hc i hi2⟩

/-! ### What is lent, as one resource -/
def LentA (l : List PatE) (es : List (Addr × Nat)) (a : Addr) (cap : Nat) : SProp := Sl.star (LentPs l es a cap :: lentPR l es)
/-- What is lent of these. -/
structure Lent (l : List PatE) (es : List (Addr × Nat)) : Prop where
  len : es.length = l.length
  cap : ∀ (i : Nat) (hi : i < l.length), l[i].d.data.length ≤ (es[i]'(by omega)).2
theorem Lent.rd {W : World} {H : List SProp} {l : List PatE} {es : List (Addr × Nat)} {a : Addr} {cap : Nat} (h : Lent l es) (m : LentA l es a cap ∈ H) : RdPats W H (some a) (lentP l es) := by
  have key : ∀ R, RdPats W ((LentPs l es a cap :: lentPR l es) ++ R) (some a) (lentP l es) := fun R => lentp_pats h.len (.head _) (fun x hx => .tail _ (List.mem_append_left _ hx)) h.cap
  exact ⟨Rds.star m fun R => (key R).rds, fun p hp => Rds.star m fun R => (key R).each p hp, (key []).ok⟩
theorem Lent.fit {l : List PatE} {es : List (Addr × Nat)} (h : Lent l es) (hf : ∀ p ∈ l, p.fit) : ∀ p ∈ lentP l es, p.fit := fun p hp => by
  obtain ⟨i, hi, rfl⟩ := List.mem_iff_getElem.1 hp
  have hi2 : i < l.length := by rw [lentP_length h.len] at hi; exact hi
  rw [lentP_get h.len i hi2]
  exact hf _ (List.getElem_mem hi2) |> fun q => ⟨q.member, q.row, q.len⟩
end Go.Proofs.Ytlojjlbngnaphaa

