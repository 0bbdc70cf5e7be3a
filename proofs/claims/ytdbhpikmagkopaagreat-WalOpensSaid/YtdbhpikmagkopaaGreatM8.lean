import Derived.Test.YtdbhpikmagkopaaGreatM7
import Derived.ControlIn
import Derived.WalkKit
import Derived.ProofKit
import Derived.OpenShut
/-! Text Si. -/
set_option maxRecDepth 8000
set_option maxHeartbeats 16000000
set_option linter.unusedVariables false
set_option linter.unusedSimpArgs false
set_option linter.unusedSectionVars false
namespace Go.Sl
open Go Go.RowKit
section
variable {W : World} {P : Program} {n : Nat} {m : Md} {c : Code} {Q : Exit -> Act -> World -> Prop} {H H' L R : List SProp} {f F : Fr}
def loopR {α : Type} (W : World) (n : Nat) (m : Md) (A : α -> Prop) (G : α -> List SProp) (F : α -> Fr) (μ : α -> Nat) (k : Nat) (Q : Exit -> Act -> World -> Prop) : Exit -> Act -> World -> Prop :=
  Exit.then (fun a' w' => ∃ y t', a' = ⟨t', m.df⟩ /\ A y /\ μ y < k /\ Knows n (F y) t' /\ Holds W (G y) w') Q
theorem VR.loop {α : Type} (A : α -> Prop) (G : α -> List SProp) (F : α -> Fr) (μ : α -> Nat) (hc : isLoop c = true) (x0 : α) (h0 : A x0) (hH : Ent W H (G x0)) (hF : SubF (F x0) f)
    (round : ∀ x, A x -> VR W P n m (Cd.l c) (loopR W n m A G F μ (μ x) Q) (G x) (F x)) : VR W P n m c Q H f := by
  unfold VR at *
  cases c <;> simp [isLoop] at hc
  intro hno t w hk hw
  refine wpIn_loop (fun a w => ∃ x t', a = ⟨t', m.df⟩ /\ A x /\ Knows n (F x) t' /\ Holds W (G x) w) (fun a w => leastOf (fun k => ∃ x t', a = ⟨t', m.df⟩ /\ A x /\ μ x = k /\ Knows n (F x) t' /\ Holds W (G x) w)) ⟨x0, t, rfl, h0, hk.sub hF, hH w hw⟩ ?_
  rintro a w ⟨x', t', rfl, hA', hk', hw'⟩
  obtain ⟨⟨x, t2, e2, hA, hm, hkx, hwx⟩, hmin⟩ := leastOf_spec (p := fun k => ∃ x t'', (⟨t', m.df⟩ : Act) = ⟨t'', m.df⟩ /\ A x /\ μ x = k /\ Knows n (F x) t'' /\ Holds W (G x) w) ⟨μ x', x', t', rfl, hA', rfl, hk', hw'⟩
  have e3 : t2 = t' := by injection e2 with e2; exact e2.symm
  subst e3
  refine wpIn_mono (round x hA (fun a w q => hno a w q) t2 w hkx hwx) ?_
  intro e a w1 q
  cases e with
  | normal =>
    obtain ⟨y, t'', rfl, h1, h2, h3, h4⟩ := q
    refine ⟨⟨y, t'', rfl, h1, h3, h4⟩, ?_⟩
    refine Nat.lt_of_le_of_lt ((leastOf_spec (p := fun k => ∃ x t', (⟨t'', m.df⟩ : Act) = ⟨t', m.df⟩ /\ A x /\ μ x = k /\ Knows n (F x) t' /\ Holds W (G x) w1) ⟨μ y, y, t'', rfl, h1, rfl, h3, h4⟩).2 (μ y) ⟨y, t'', rfl, h1, rfl, h3, h4⟩) ?_
    rw [<- hm]; exact h2
  | _ => exact q
theorem VF.round {α : Type} {A : α -> Prop} {G : α -> List SProp} {F : α -> Fr} {μ : α -> Nat} {k : Nat} (y : α) (hA : A y) (hm : μ y < k) (hF : SubF (F y) f) (hH : Ent W H (G y)) :
  VF W n m (loopR W n m A G F μ k Q) .normal H f := by
 unfold VF
 exact fun _ t w hk hw => ⟨y, t, rfl, hA, hm, hk.sub hF, hH w hw⟩
theorem VF.loopRet {α : Type} {A : α -> Prop} {G : α -> List SProp} {F : α -> Fr} {μ : α -> Nat} {k : Nat} (h : VF W n m Q .ret H f) : VF W n m (loopR W n m A G F μ k Q) .ret H f := by
 unfold VF at *
 exact fun hno t w hk hw => h hno t w hk hw
theorem VF.loopExit {α : Type} {A : α -> Prop} {G : α -> List SProp} {F : α -> Fr} {μ : α -> Nat} {k i : Nat} (h : VF W n m Q (.exit i) H f) : VF W n m (loopR W n m A G F μ k Q) (.exit i) H f := by
 unfold VF at *
 exact fun hno t w hk hw => h hno t w hk hw
attribute [irreducible] loopR
theorem Does.enterI {g : FuncId} {fn : Func} {args : List Value} {β : Type} {A : β -> Prop} {r : β -> Value} {G : β -> List SProp} (hf : P.funcs[g]? = some fn) (hn : fn.ntmps = n) (hb : fn.body.isSome = true) (hl : Nat.ble args.length n = true)
  (h : VR W P n ⟨none, []⟩ (bodyOf fn) (bodyPost P fn (Post W A r G)) H (argF 0 args)) : Does W P g args H A r G := by
 unfold Does
 unfold VR at h
 intro w hw
 obtain ⟨c, hc⟩ := Option.isSome_iff_exists.1 hb
 refine calls_of_wp hf hc ?_
 have h2 := h (fun a w q => by obtain ⟨_, _, e, _⟩ := q; cases e) _ w (Knows.start args n (Nat.le_of_ble_eq_true hl)) hw
 rw [<- hn] at h2
 have h3 := wpIn_wide.1 h2
 simpa [bodyOf, hc] using h3
theorem VF.done {fn : Func} {β : Type} {A : β -> Prop} {r : β -> Value} {G : β -> List SProp} {v : Value} {e : Exit} (he : e = .ret \/ e = .normal) (x : β) (hr : resOf f fn.results.toList = some v) (hA : A x) (hv : v = r x) (hH : Ent W H (G x)) :
  VF W n ⟨none, []⟩ (bodyPost P fn (Post W A r G)) e H f := by
 unfold VF
 intro _ t w hk hw
 rcases he with rfl | rfl <;> exact ⟨rfl, _, resOf_run hk hr _, x, hA, by rw [hv], hH w hw⟩
theorem resOf_none : resOf f [] = some (.tuple #[]) := rfl
def VI (W : World) (P : Program) (n : Nat) (m : Md) (c : Code) (k : Nat) (Q : Exit -> Act -> World -> Prop) (H : List SProp) (f : Fr) : Prop :=
  (∀ a w, ¬ Q .outgrown a w) -> ∀ t w, Knows n f t -> Holds W H w -> wpListIn (fen m.r) 0 P (regOps c).toArray Q ((regOps c).drop k) ⟨t, m.df⟩ w
theorem VR.regionI (hc : regDraw c = some false) (h : VI W P n m c 0 Q H f) : VR W P n m c Q H f := by
 unfold VR
 cases c <;> simp [regDraw] at hc
 subst hc
 intro hno t w hk hw
 have := h hno t w hk hw
 simp only [regOps, List.drop_zero, Array.toArray_toList] at this
 exact wpIn_region_list this
theorem VI.nil {k : Nat} (ho : (regOps c)[k]? = none) (h : VF W n m Q .normal H f) : VI W P n m c k Q H f := by
 unfold VF at h
 intro hno t w hk hw
 rw [List.drop_eq_nil_of_le (by simpa using ho)]
 exact h hno t w hk hw
variable {dst : Option Tmp} {d : Nat} {ty_ : TypeId} {pos : String} {after : Array Edge} {guard : Option (Nat × Bool)}
theorem wantedR {o : Oper} {ops : List Oper} {t : Array Value} {df : List Deferred} {b : Bool} (hk : Knows n f t) (hg : wantX ops o.guard f = some b) : Region.wanted o (yielded ops.toArray (Act.mk t df).tmps) = b := hk.wanted hg
theorem VI.step {k : Nat} {o : Oper} (ho : (regOps c)[k]? = some o) (hg : wantX (regOps c) o.guard f = some true) (h : OpV W P n o (fun _ _ _ => False) H f (fun H' f' => VI W P n m c (k + 1) Q H' f')) (hnd : noDefer [o] = true := by rfl) : VI W P n m c k Q H f := by
 unfold OpV at h
 intro hno t w hk hw
 rw [drop_at ho]
 unfold wpListIn
 rw [if_pos (by rw [wantedR hk hg])]
 have h2 := h t w hk hw (fun a w => wpListIn (fen m.r) 0 P (regOps c).toArray Q ((regOps c).drop (k + 1)) (plusA a m.df) w) (fun H' f' hN t' w' hk' hw' => hN hno t' w' hk' hw')
 exact opIn (a := ⟨t, []⟩) (noDefer_spec hnd).1 (fun _ _ q => q) (fun _ _ _ q => q.elim) h2
theorem VI.pure {k : Nat} {op : Op} {v : Value} (ho : (regOps c)[k]? = some { dst := some d, op, type := ty_, pos, after, guard }) (hg : wantX (regOps c) guard f = some true)
  (hp : PureAt W P n H f { dst := some d, op, type := ty_, pos, after, guard } v) (hd : Nat.blt d n = true) (h : VI W P n m c (k + 1) Q H ((d, v) :: f)) (hnd : noDefer [{ dst := some d, op, type := ty_, pos, after, guard }] = true := by rfl) : VI W P n m c k Q H f :=
 VI.step ho hg (OpV.pure hp hd h) hnd
theorem VI.ent {k : Nat} (hh : Ent W H H') (h : VI W P n m c k Q H' f) : VI W P n m c k Q H f := fun hno t w hk hw => h hno t w hk (hh w hw)
theorem VI.yield {k l : Nat} {x : Operand} {xs : Array Operand} {ats : Array TypeId} {vs : List Value} {τ : Type} {A2 : τ -> Prop} {G1 : List SProp} {G2 : τ -> List SProp}
  (ho : (regOps c)[k]? = some { dst := some d, op := .call { callee := .value x, args := xs, argTypes := ats }, type := ty_, pos, after, guard }) (hg : wantX (regOps c) guard f = some true)
  (hx : evalX f x = some (.func (.yield l) #[] #[])) (ha : argsX f xs.toList = some vs) (spec : DoesR W P l vs L G1 A2 G2) (hL : Ent W H L) (hd : Nat.blt d n = true)
  (h1 : VI W P n m c (k + 1) Q G1 ((d, .bool true) :: f)) (h2 : ∀ x, A2 x -> VI W P n m c (k + 1) Q (G2 x) ((d, .bool false) :: f)) (hr : m = ⟨none, []⟩ := by rfl) : VI W P n m c k Q H f := by
 subst hr
 unfold DoesR at spec
 intro hno t w hk hw
 rw [drop_at ho]
 unfold wpListIn
 rw [if_pos (by rw [wantedR (o := { dst := some d, op := .call { callee := .value x, args := xs, argTypes := ats }, type := ty_, pos, after, guard }) hk hg])]
 obtain ⟨fn, tmps, assign, body, hy, hR⟩ := spec w (hL w hw)
 have hargs : xs.map (Act.eval ⟨t, []⟩) = vs.toArray := by
  have := hk.args ha
  apply Array.ext'
  simpa using this
 unfold Oper.wpIn
 refine ⟨fun _ _ => fen_fn _ _, ?_⟩
 have e : (Oper.semAt (fen none).round (Act.eval ⟨t, []⟩) { dst := some d, op := .call { callee := .value x, args := xs, argTypes := ats }, type := ty_, pos, after, guard }).run P w = .ok (.round l fn tmps assign body) w := by
  rw [Oper.semAt_eq _ _ _ (fun c e => by cases e)]
  unfold execOp
  simp only [resolve, hk.eval hx, hargs, Deferred.ofValue, invoke, Sem.run_bind, Sem.run_pure, Result.andThen_ok, Array.append_empty, Array.empty_append]
  exact hy
 rw [e]
 simp only [Oper.uponIn]
 refine ⟨(fun hd => by rw [fen_depth] at hd; cases hd), RoundIn.mono hR ?_⟩
 rintro e w' (⟨rfl, hG⟩ | ⟨x, hA, rfl, hG⟩)
 · exact h1 hno _ _ (hk.put hd) hG
 · exact h2 x hA hno _ _ (hk.put hd) hG
structure MetR (W : World) (n : Nat) (m : Md) (Q Q2 : Exit -> Act -> World -> Prop) {α : Type} (A : α -> Prop) (G : α -> List SProp) (F : α -> Fr) : Prop where
  to : ∀ (x : α) {f : Fr} {H : List SProp}, A x -> SubF (F x) f -> Ent W H (G x) -> VF W n m Q2 .normal H f
  ret : ∀ {f : Fr} {H : List SProp}, VF W n m Q .ret H f -> VF W n m Q2 .ret H f
  exit : ∀ {f : Fr} {H : List SProp} {i : Nat}, VF W n m Q (.exit i) H f -> VF W n m Q2 (.exit i) H f
theorem VR.join {α : Type} {c2 : Code} (A : α -> Prop) (G : α -> List SProp) (F : α -> Fr) (h1 : ∀ Q2, MetR W n m Q Q2 A G F -> VR W P n m c Q2 H f) (h2 : ∀ x, A x -> VR W P n m c2 Q (G x) (F x)) :
  VR W P n m c (thenR m.r P c2 Q) H f := by
 refine h1 _ ⟨fun x f H hA hF hE => VF.next (VR.weak hF hE (h2 x hA)), fun h => VF.passRet h, fun h => VF.passExit h⟩
theorem VR.joinH {c2 : Code} (F : Fr) (h1 : ∀ Q2, MetR W n m Q Q2 (fun _ : Unit => True) (fun _ => H) (fun _ => F) -> VR W P n m c Q2 H f) (h2 : VR W P n m c2 Q H F) : VR W P n m c (thenR m.r P c2 Q) H f :=
 VR.join _ _ _ h1 (fun _ _ => h2)
end
attribute [irreducible] VI
theorem wr {A B : Prop} (hb : B) (hab : Hid B -> A := by intro zz; (repeat (first | (first | refine VO.nil rfl ?_ | refine VQ.nil rfl ?_ | refine VD.nil ?_ | ((first | apply VO.pure rfl rfl | apply VQ.pure rfl rfl | apply VD.take rfl rfl rfl | (refine VD.end rfl rfl rfl ?_; apply OpV.pure)); (exact zp); rfl) | refine VO.skip rfl rfl rfl rfl ?_ | refine VQ.skip rfl rfl rfl rfl ?_ | refine VD.skip rfl rfl rfl rfl rfl ?_ | refine VD.skipM rfl rfl Ent.refl rfl rfl rfl ?_ | (refine zq ?_; (apply OpV.st tab_ok rfl rfl rfl rfl (by (repeat first | exact .head | apply Hole.tail); first | done | fail) (by first | (simp; done) | fail))) | refine ⟨Ent.re, ?_⟩) | (first | refine VR.seq rfl ?_ | refine VR.region rfl ?_ | refine VR.condT rfl rfl ?_ | refine VR.condF rfl rfl ?_ | refine VR.block rfl ?_ | refine VR.skip rfl ?_ | refine VR.ret rfl ?_ | refine VR.exit rfl ?_) | (first | refine VE.sh ?_ | refine VF.next ?_ | refine VF.passRet ?_ | refine VF.passExit ?_ | refine VF.blockNormal ?_ | refine VF.blockHit ?_ | refine VF.blockMiss rfl ?_ | refine VF.blockRet ?_ | refine VF.loopRet ?_ | refine VF.loopExit ?_))); exact zz.out) : A := hab ⟨hb⟩
end Go.Sl
/-! Text Nb. -/
namespace Go.Proofs.YtdbhpikmagkopaaGreat
open Go.RowKit Go.Sl
attribute [local irreducible] Own
variable {W : World} {R : List SProp}
theorem pureEx {P : Program} {n : Nat} {α : Type} {F : α -> SProp} {R : List SProp} {f : Fr} {o : Oper} {v : Value} (h : ∀ x, PureAt W P n (F x :: R) f o v) : PureAt W P n (ex F :: R) f o v := by
 unfold PureAt at h ⊢
 intro t w hk hw
 obtain ⟨x, hx⟩ := hw.exOpen
 exact h x t w hk hx
def DigR (d : Nat) (c : BitVec 32) : SProp := ex fun m : Int => Row d 274 [.int .u32 (c.toNat : Int), .int .i64 m]
theorem dignew_ok : Does W Tryz.prog 135 [] R (β := Nat) (fun _ => True) (fun d => .pointer (some ⟨d, 0, none⟩)) (fun d => DigR d 0#32 :: R) := by
 (refine Does.enter Tryz.func135 Tryz.ntmps135 rfl rfl ?_)
 refine w ?_; repeat (refine zj fun _ => ?_; refine w ?_)
 (apply VO.pure rfl rfl; apply PureAt.build sb_274 (pv := []) rfl; rfl; rfl)
 refine w ?_; repeat (refine zj fun _ => ?_; refine w ?_)
 rename_i d
 refine VE.done d rfl trivial rfl ?_
 exact fun w hw => Holds.exShut (P := fun m : Int => Row d 274 [.int .u32 ((0#32 : BitVec 32).toNat : Int), .int .i64 m]) 0 hw
theorem digadd_ok {ao : Option Addr} {cap : Nat} {l : List UInt8} (d : Nat) (c : BitVec 32) (hr : Rds W R 1 ao l.length (bytes l)) (hl : l.length <= 1099511627776) :
  Does W Tryz.prog 139 [.pointer (some ⟨d, 0, none⟩), .slice ao l.length cap] (DigR d c :: R) (β := Int) (fun _ => True) (fun k => .int .i64 k) (fun _ => DigR d (crcM c l) :: R) := by
 refine DoesO (α := Int) (H' := fun m => Row d 274 [.int .u32 (c.toNat : Int), .int .i64 m] :: R) (fun w hw => Holds.exOpen hw) (fun m => ?_)
 (refine Does.enter Tryz.func139 Tryz.ntmps139 rfl rfl ?_)
 refine w ?_
 refine VC.drawn [5, 7, 17] 18 [0, 1, 2, 3, 4, 6, 8, 9, 10, 11, 12, 13, 14, 5, 7, 15, 16, 17, 18, 19, 20] ((ex fun x : Int => Row d 274 [.int .u32 x, .int .i64 m]) :: R) rfl (by kernel_rfl) (by kernel_rfl) (fun w hw => Holds.exShut (P := fun x : Int => Row d 274 [.int .u32 x, .int .i64 m]) _ hw) ?_
 refine w ?_
 ((first | apply VO.pure rfl rfl | apply VQ.pure rfl rfl | apply VD.take rfl rfl rfl | (refine VD.end rfl rfl rfl ?_; apply OpV.pure)); exact pureEx fun x => PureAt.ld tab_ok rfl rfl (.head _) rfl; rfl)
 refine w ?_
 refine VD.mid rfl rfl rfl (OpV.pure (PureAt.ld tab_ok rfl rfl (.head _) rfl) rfl ⟨fun w hw => Holds.exShut (P := fun x : Int => Row d 274 [.int .u32 x, .int .i64 m]) _ hw, ?_⟩)
 refine w ?_
 (refine zq ?_; refine zy rfl rfl (more_ok c (hr.ent (Ent.drop Ent.refl)) hl) ?_)
 intro _ _
 refine ⟨fun w hw => Holds.exShut (P := fun x : Int => Row d 274 [.int .u32 x, .int .i64 m]) _ hw, ?_⟩
 iterate 2 (apply VD.take rfl rfl rfl; (exact zp); rfl)
 refine VD.mid rfl rfl rfl ?_
 apply OpV.st tab_ok rfl rfl rfl rfl zh (by simp)
 refine ⟨fun w hw => Holds.exShut (P := fun x : Int => Row d 274 [.int .u32 x, .int .i64 m]) _ hw, ?_⟩
 refine w ?_
 refine VE.done (IntKind.i64.wrap (m + (l.length : Int))) rfl trivial rfl ?_
 exact fun w hw => Holds.exShut (P := fun m : Int => Row d 274 [.int .u32 ((crcM c l).toNat : Int), .int .i64 m]) (IntKind.i64.wrap (m + (l.length : Int))) hw
theorem digsum_ok (d : Nat) (c : BitVec 32) : Does1 W Tryz.prog 141 [.pointer (some ⟨d, 0, none⟩)] (DigR d c :: R) (.int .u32 (c.toNat : Int)) (DigR d c :: R) := by
 refine DoesO (α := Int) (H' := fun m => Row d 274 [.int .u32 (c.toNat : Int), .int .i64 m] :: R) (fun w hw => Holds.exOpen hw) (fun m => ?_)
 (refine Does.enter Tryz.func141 Tryz.ntmps141 rfl rfl ?_)
 refine w ?_
 refine VE.done1 rfl ?_ ?_
 · rfl
 · exact fun w hw => Holds.exShut (P := fun m : Int => Row d 274 [.int .u32 (c.toNat : Int), .int .i64 m]) m hw
abbrev PatE.D (p : PatE) : PatD := ⟨p.member, p.row, p.d.data⟩
structure PatE.fit (p : PatE) : Prop where
  member : -9223372036854775808 <= p.member /\ p.member <= 9223372036854775807
  row : -9223372036854775808 <= p.row /\ p.row <= 9223372036854775807
  len : p.d.data.length <= 140737488351232
def errP (l : List PatE) : Nat -> Int
  | 0 => 0
  | i + 1 => match l[i]? with
    | none => errP l i
    | some p => if p.D.far then 3 else if errP l i = 0 /\ p.d.data.length ≠ 128 then 4 else errP l i
theorem errP_is (l : List PatE) : ∀ i, i <= l.length -> errP l i = if ∃ p ∈ l.take i, p.D.far then 3 else if ∃ p ∈ l.take i, p.d.data.length ≠ 128 then 4 else 0
  | 0, _ => by simp [errP]
  | i + 1, h => by
    have ih := errP_is l i (by omega)
    have hi : i < l.length := by omega
    have hget : l[i]? = some l[i] := List.getElem?_eq_getElem hi
    have e1 : (∃ p ∈ l.take (i + 1), p.D.far) ↔ (∃ p ∈ l.take i, p.D.far) \/ l[i].D.far := by
      rw [List.take_succ_eq_append_getElem hi]; simp only [List.mem_append, List.mem_singleton]
      constructor
      · rintro ⟨p, hp | hp, hf⟩; exact .inl ⟨p, hp, hf⟩; exact .inr (hp ▸ hf)
      · rintro (⟨p, hp, hf⟩ | hf); exact ⟨p, .inl hp, hf⟩; exact ⟨_, .inr rfl, hf⟩
    have e2 : (∃ p ∈ l.take (i + 1), p.d.data.length ≠ 128) ↔ (∃ p ∈ l.take i, p.d.data.length ≠ 128) \/ l[i].d.data.length ≠ 128 := by
      rw [List.take_succ_eq_append_getElem hi]; simp only [List.mem_append, List.mem_singleton]
      constructor
      · rintro ⟨p, hp | hp, hf⟩; exact .inl ⟨p, hp, hf⟩; exact .inr (hp ▸ hf)
      · rintro (⟨p, hp, hf⟩ | hf); exact ⟨p, .inl hp, hf⟩; exact ⟨_, .inr rfl, hf⟩
    unfold errP
    rw [hget]
    dsimp only
    by_cases hf : l[i].D.far
    · rw [if_pos hf, if_pos (e1.2 (.inr hf))]
    · rw [if_neg hf, ih]
      by_cases ha : ∃ p ∈ l.take i, p.D.far
      · rw [if_pos ha, if_pos (e1.2 (.inl ha)), if_neg (by rintro ⟨h, _⟩; cases h)]
      · rw [if_neg ha, if_neg (fun q => (e1.1 q).elim ha hf)]
        by_cases hs : ∃ p ∈ l.take i, p.d.data.length ≠ 128
        · rw [if_pos hs, if_pos (e2.2 (.inl hs)), if_neg (by rintro ⟨h, _⟩; cases h)]
        · rw [if_neg hs]
          by_cases hb : l[i].d.data.length ≠ 128
          · rw [if_pos ⟨rfl, hb⟩, if_pos (e2.2 (.inr hb))]
          · rw [if_neg (fun q => hb q.2), if_neg (fun q => (e2.1 q).elim hs hb)]
theorem errP_all {e s : Nat} {l : List PatE} (hn : 1 <= l.length /\ l.length <= 1023) : (if cntOk e s then errP l l.length else 3) = (secsM e s (l.map PatE.D)).1 := by
 have h1 := errP_is l l.length (Nat.le_refl _)
 rw [List.take_length] at h1
 have e1 : (∃ p ∈ l.map PatE.D, p.far) ↔ ∃ p ∈ l, p.D.far :=
  ⟨fun ⟨p, hp, h⟩ => by obtain ⟨q, hq, rfl⟩ := List.mem_map.1 hp; exact ⟨q, hq, h⟩, fun ⟨p, hp, h⟩ => ⟨p.D, List.mem_map_of_mem hp, h⟩⟩
 have e2 : (∃ p ∈ l.map PatE.D, p.data.length ≠ 128) ↔ ∃ p ∈ l, p.d.data.length ≠ 128 :=
  ⟨fun ⟨p, hp, h⟩ => by obtain ⟨q, hq, rfl⟩ := List.mem_map.1 hp; exact ⟨q, hq, h⟩, fun ⟨p, hp, h⟩ => ⟨p.D, List.mem_map_of_mem hp, h⟩⟩
 have hl : (l.map PatE.D).length = l.length := List.length_map ..
 have hs : (secsM e s (l.map PatE.D)).1 = if ¬ cntOk e s \/ ∃ p ∈ l.map PatE.D, p.far then 3 else if ∃ p ∈ l.map PatE.D, p.data.length ≠ 128 then 4 else 0 := by
  unfold secsM
  rw [if_neg (by rw [hl]; omega)]
  split
  · rfl
  · split <;> rfl
 rw [hs, h1]
 clear hs h1
 by_cases hc : cntOk e s
 ·
  rw [if_pos hc]
  by_cases ha : ∃ p ∈ l, p.D.far
  ·
   have hb : ¬ cntOk e s \/ ∃ p ∈ l.map PatE.D, p.far := .inr (e1.2 ha)
   rw [if_pos ha, if_pos hb]
  ·
   have hb : ¬ (¬ cntOk e s \/ ∃ p ∈ l.map PatE.D, p.far) := fun q => q.elim (fun z => z hc) (fun z => ha (e1.1 z))
   rw [if_neg ha, if_neg hb]
   by_cases hd : ∃ p ∈ l, p.d.data.length ≠ 128
   · rw [if_pos hd, if_pos (e2.2 hd)]
   · rw [if_neg hd, if_neg (fun q => hd (e2.1 q))]
 ·
  have hb : ¬ cntOk e s \/ ∃ p ∈ l.map PatE.D, p.far := .inl hc
  rw [if_neg hc, if_pos hb]
theorem errP_step {l : List PatE} {i : Nat} (h : i < l.length) : errP l (i + 1) = if l[i].D.far then 3 else if errP l i = 0 /\ l[i].d.data.length ≠ 128 then 4 else errP l i := by
 show (match l[i]? with | none => errP l i | some p => if p.D.far then 3 else if errP l i = 0 /\ p.d.data.length ≠ 128 then 4 else errP l i) = _
 rw [List.getElem?_eq_getElem h]
theorem errP_far {l : List PatE} {i : Nat} (h : i < l.length) (hf : l[i].D.far) : errP l (i + 1) = 3 := by rw [errP_step h, if_pos hf]
theorem errP_long {l : List PatE} {i : Nat} (h : i < l.length) (hf : ¬ l[i].D.far) (he : errP l i = 0) (hn : l[i].d.data.length ≠ 128) : errP l (i + 1) = 4 := by rw [errP_step h, if_neg hf, if_pos ⟨he, hn⟩]
theorem errP_same {l : List PatE} {i : Nat} (h : i < l.length) (hf : ¬ l[i].D.far) (he : ¬ (errP l i = 0 /\ l[i].d.data.length ≠ 128)) : errP l (i + 1) = errP l i := by rw [errP_step h, if_neg hf, if_neg he]
theorem headsP_step {e s n i : Nat} {D : List PatD} (h : i < D.length) : headsP e s n (D.take (i + 1)) 0 = headsP e s n (D.take i) 0 ++ headP e s n i D[i] := by
 rw [List.take_succ_eq_append_getElem h, headsP_append, List.length_take, Nat.min_eq_left (by omega), Nat.zero_add]
 simp [headsP]
theorem pairsP_step {e s n i : Nat} {D : List PatD} (h : i < D.length) : pairsP e s n (D.take (i + 1)) 0 = pairsP e s n (D.take i) 0 ++ [headP e s n i D[i], escM D[i].data] := by
 rw [List.take_succ_eq_append_getElem h, pairsP_append, List.length_take, Nat.min_eq_left (by omega), Nat.zero_add]
 simp [pairsP]
theorem pile_two {y : List RowE} (a b : RowE) : Ent W (a.res :: PilR y :: b.res :: R) (PilR (y ++ [a, b]) :: R) := fun w hw => by
 have h1 := pile_push (res := RowE.res) hw
 have h2 := pile_push (res := RowE.res) h1.swap
 rw [List.append_assoc] at h2
 exact h2
theorem rowsO_two {y : List RowE} (a b : RowE) (so : Option Addr) (sc : Nat) : RowsO (so, sc) (y ++ [a, b]) = Sl.Own 65 1 (.slice so (y.length + 2) sc) (y.length + 2) (y.map RowE.hdr ++ [a.hdr, b.hdr]) := by
 show Sl.Own 65 1 (.slice so (y ++ [a, b]).length sc) (y ++ [a, b]).length ((y ++ [a, b]).map RowE.hdr) = _
 rw [List.length_append, List.map_append]; rfl
theorem rowsO_one {y : List RowE} (a : RowE) (so : Option Addr) (sc : Nat) : RowsO (so, sc) (y ++ [a]) = Sl.Own 65 1 (.slice so (y.length + 1) sc) (y.length + 1) (y.map RowE.hdr ++ [a.hdr]) := by
 show Sl.Own 65 1 (.slice so (y ++ [a]).length sc) (y ++ [a]).length ((y ++ [a]).map RowE.hdr) = _
 rw [List.length_append, List.map_append]; rfl
theorem sectors_ok {ao : Option Addr} {cap : Nat} {l : List PatE} (e s : Nat) (he : e < 2 ^ 64) (hs : s < 2 ^ 64) (hp : RdPats W R ao l) (hfit : ∀ p ∈ l, p.fit) (hlen : l.length <= 140737488351232) :
  Does W Tryz.prog 88 [.int .u64 e, .agg #[.int .u64 s, .slice ao l.length cap]] R (β := (Option Addr × Nat) × List RowE) (fun y => y.2.map RowE.data = (secsM e s (l.map PatE.D)).2) (fun y => .tuple #[.slice y.1.1 y.2.length y.1.2, .int .u16 (secsM e s (l.map PatE.D)).1]) (fun y => RowsO y.1 y.2 :: PilR y.2 :: R) := by
 have hll : (l.map PatE.D).length = l.length := List.length_map ..
 (refine Does.enter Tryz.func88 Tryz.ntmps88 rfl rfl ?_)
 refine w ?_; repeat (refine zj fun _ => ?_; refine w ?_)
 rename_i bx
 have hnil : ∀ k : Int, secsM e s (l.map PatE.D) = (k, []) -> Ent W (Row bx 87 [.int .u64 s, .slice ao l.length cap] :: R) (RowsO (none, 0) [] :: PilR [] :: R) := fun _ _ =>
  Ent.trans (Ent.re (L := R)) (fun w hw => (pile_nil (res := RowE.res) hw).ownNil _ _)
 refine zg ?_ ?_ <;> intro hb
 ·
  have h1 : l.length < 1 := by have := hb; simp at this; omega
  have hz : secsM e s (l.map PatE.D) = (1, []) := by unfold secsM; rw [if_pos (.inl (by rw [hll]; exact h1))]
  refine w ?_; repeat (refine zj fun _ => ?_; refine w ?_)
  refine VE.done ((none, 0), []) rfl (by rw [hz]; rfl) (by rw [hz]; rfl) (hnil _ hz)
 have hn1 : 1 <= l.length := by have := hb; simp at this; omega
 refine w ?_; repeat (refine zj fun _ => ?_; refine w ?_)
 refine zk ?_ ?_ <;> intro hc
 ·
  have h2 : 1023 < l.length := by have := hc; simp at this; omega
  have hz : secsM e s (l.map PatE.D) = (1, []) := by unfold secsM; rw [if_pos (.inr (by rw [hll]; exact h2))]
  refine w ?_; repeat (refine zj fun _ => ?_; refine w ?_)
  refine VE.done ((none, 0), []) rfl (by rw [hz]; rfl) (by rw [hz]; rfl) (hnil _ hz)
 have hn2 : l.length <= 1023 := by have := hc; simp at this; omega
 obtain ⟨la, rfl⟩ : ∃ a, ao = some a := by cases ao with | none => have := hp.rds.nil rfl; omega | some a => exact ⟨a, rfl⟩
 refine w ?_; repeat (refine zj fun _ => ?_; refine w ?_)
 refine VC.loop (α := Nat) (fun i => i <= l.length) (fun i => Row bx 87 [.int .u64 s, .slice (some la) l.length cap] :: R)
  (fun i => [(0, .int .u64 e), (3, .pointer (some ⟨bx, 0, none⟩)), (6, .int .i64 l.length), (7, .int .u16 (errP l i)), (30, .slice (some la) l.length cap), (31, .int .i64 l.length), (32, .int .i64 i)]) (fun i => l.length - i) rfl 0 (Nat.zero_le _) Ent.re ⟨rfl, rfl, rfl, rfl, rfl, rfl, rfl, trivial⟩ ?_
 intro i hi
 refine w ?_; repeat (refine zj fun _ => ?_; refine w ?_)
 refine zk ?_ ?_ <;> intro hc
 ·
  have hlt : i < l.length := by have := of_decide_eq_true hc; omega
  have hfi := hfit _ (List.getElem_mem hlt)
  have hm := hfi.member
  have hr := hfi.row
  have hlen' := hfi.len
  refine w ?_; repeat (refine zj fun _ => ?_; refine w ?_)
  ((first | apply VO.pure rfl rfl | apply VQ.pure rfl rfl | apply VD.take rfl rfl rfl | (refine VD.end rfl rfl rfl ?_; apply OpV.pure)); exact .ldRA tab_ok rfl rfl (hp.rds.ent Ent.re) (pat_at l i hlt) rfl; rfl)
  refine zq ?_; refine OpV.allocS sb_70 rfl ?_; intro n9
  refine w ?_; repeat (refine zj fun _ => ?_; refine w ?_)
  refine zq ?_
  refine OpV.stA (vs := l[i].cells) tab_ok rfl rfl rfl rfl (pat_one _) zh (by simp) ?_
  refine VO.ent (Reord.ent (L := Row n9 70 l[i].cells :: Row bx 87 [.int .u64 s, .slice (some la) l.length cap] :: R) (by (repeat first | exact .refl | (apply Reord.cons; focus repeat first | exact .head | apply Del.tail) | exact .nil | apply Reord.drop))) ?_
  refine VO.nil rfl ?_
  refine VE.next ?_
  refine VC.joinB (α := Unit) (fun _ => True) (fun _ => Row n9 70 l[i].cells :: Row bx 87 [.int .u64 s, .slice (some la) l.length cap] :: R) (fun _ => [(0, .int .u64 e), (3, .pointer (some ⟨bx, 0, none⟩)), (6, .int .i64 l.length), (7, .int .u16 (errP l (i + 1))), (30, .slice (some la) l.length cap), (31, .int .i64 l.length), (32, .int .i64 i)]) ?_ (fun _ _ => ?_)
  ·
   intro Q2 jn
   refine w ?_; repeat (refine zj fun _ => ?_; refine w ?_)
   iterate 3
    refine zg ?_ ?_ <;> intro hb
    ·
     have hf : l[i].D.far := by have := hb; simp at this; unfold PatD.far PatE.D; dsimp only; omega
     refine w ?_; repeat (refine zj fun _ => ?_; refine w ?_)
     exact jn.to () trivial ⟨rfl, rfl, rfl, asV rfl (by rw [errP_far hlt hf]), rfl, rfl, rfl, trivial⟩ Ent.re
    refine w ?_; repeat (refine zj fun _ => ?_; refine w ?_)
   refine zk ?_ ?_ <;> intro hc
   ·
    have hf : l[i].D.far := by have := hc; simp at this; unfold PatD.far PatE.D; dsimp only; omega
    refine w ?_; repeat (refine zj fun _ => ?_; refine w ?_)
    exact jn.to () trivial ⟨rfl, rfl, rfl, asV rfl (by rw [errP_far hlt hf]), rfl, rfl, rfl, trivial⟩ Ent.re
   have hf : ¬ l[i].D.far := by simp at *; unfold PatD.far PatE.D; dsimp only; omega
   refine w ?_; repeat (refine zj fun _ => ?_; refine w ?_)
   refine zg ?_ ?_ <;> intro hb
   ·
    have h0 : errP l i = 0 := by simpa using hb
    refine w ?_; repeat (refine zj fun _ => ?_; refine w ?_)
    refine zk ?_ ?_ <;> intro hc
    ·
     have hn : l[i].d.data.length ≠ 128 := by have := hc; simp at this; omega
     refine w ?_; repeat (refine zj fun _ => ?_; refine w ?_)
     exact jn.to () trivial ⟨rfl, rfl, rfl, asV rfl (by rw [errP_long hlt hf h0 hn]), rfl, rfl, rfl, trivial⟩ Ent.re
    ·
     have hn : ¬ (errP l i = 0 /\ l[i].d.data.length ≠ 128) := by have := hc; simp at this; omega
     refine w ?_; repeat (refine zj fun _ => ?_; refine w ?_)
     exact jn.to () trivial ⟨rfl, rfl, rfl, asV rfl (by rw [errP_same hlt hf hn]), rfl, rfl, rfl, trivial⟩ Ent.re
   ·
    have hn : ¬ (errP l i = 0 /\ l[i].d.data.length ≠ 128) := by have := hb; simp at this; exact fun q => this q.1
    refine w ?_; repeat (refine zj fun _ => ?_; refine w ?_)
    exact jn.to () trivial ⟨rfl, rfl, rfl, asV rfl (by rw [errP_same hlt hf hn]), rfl, rfl, rfl, trivial⟩ Ent.re
  refine w ?_; repeat (refine zj fun _ => ?_; refine w ?_)
  refine VE.round (i + 1) (by omega) (by omega) ⟨rfl, rfl, rfl, rfl, rfl, rfl, asV rfl (by congr 1), trivial⟩ Ent.re
 have hend : i = l.length := by have := of_decide_eq_false hc; omega
 subst hend
 have hall := errP_all (e := e) (s := s) (l := l) ⟨hn1, hn2⟩
 have herr : ∀ k : Int, k ≠ 0 -> (secsM e s (l.map PatE.D)).1 = k -> secsM e s (l.map PatE.D) = (k, []) := by
  intro k hk h
  unfold secsM at h ⊢
  split at h
  · rename_i h1; rw [if_pos h1]; simp at h; rw [h]
  ·
   rename_i h1
   rw [if_neg h1]
   split at h
   · rename_i h2; rw [if_pos h2]; simp at h; rw [h]
   ·
    rename_i h2
    rw [if_neg h2]
    split at h
    · rename_i h3; rw [if_pos h3]; simp at h; rw [h]
    · exact absurd h.symm hk
 have hbad : ¬ cntOk e s -> secsM e s (l.map PatE.D) = (3, []) := fun h => herr 3 (by decide) (by rw [<- hall, if_neg h])
 refine w ?_; repeat (refine zj fun _ => ?_; refine w ?_)
 refine zg ?_ ?_ <;> intro hb
 ·
  have hz := hbad (by have := hb; simp at this; unfold cntOk; omega)
  refine w ?_; repeat (refine zj fun _ => ?_; refine w ?_)
  refine VE.done ((none, 0), []) rfl (by rw [hz]; rfl) (by rw [hz]; rfl) (hnil _ hz)
 refine w ?_; repeat (refine zj fun _ => ?_; refine w ?_)
 refine zg ?_ ?_ <;> intro hb
 ·
  have hz := hbad (by have := hb; simp at this; unfold cntOk; omega)
  refine w ?_; repeat (refine zj fun _ => ?_; refine w ?_)
  refine VE.done ((none, 0), []) rfl (by rw [hz]; rfl) (by rw [hz]; rfl) (hnil _ hz)
 refine w ?_; repeat (refine zj fun _ => ?_; refine w ?_)
 refine zk ?_ ?_ <;> intro hc
 ·
  have hz := hbad (by have := hc; simp at this; unfold cntOk; omega)
  refine w ?_; repeat (refine zj fun _ => ?_; refine w ?_)
  refine VE.done ((none, 0), []) rfl (by rw [hz]; rfl) (by rw [hz]; rfl) (hnil _ hz)
 have hcnt : cntOk e s := by simp at *; unfold cntOk; omega
 rw [if_pos hcnt] at hall
 refine w ?_; repeat (refine zj fun _ => ?_; refine w ?_)
 refine zk ?_ ?_ <;> intro hc
 ·
  have hz := herr _ (by have := hc; simpa using this) hall.symm
  refine w ?_; repeat (refine zj fun _ => ?_; refine w ?_)
  refine VE.done ((none, 0), []) rfl (by rw [hz]; rfl) (by rw [hz]; rfl) (hnil _ hz)
 have h0 : (secsM e s (l.map PatE.D)).1 = 0 := by rw [<- hall]; have := hc; simpa using this
 refine w ?_; repeat (refine zj fun _ => ?_; refine w ?_)
 have hF : Fine e s (l.map PatE.D) := secs_ok h0
 have hsec := secs_fine hF
 rw [hsec]
 rw [hsec] at h0
 refine zq ?_
 refine OpV.makeCap (m := 2 * l.length + 1) st_43 rfl (by rfl) (by omega) (by simp only [maxLen]; omega) rfl ?_
 intro no
 refine w ?_; repeat (refine zj fun _ => ?_; refine w ?_)
 (refine zq ?_; refine zy rfl rfl (dignew_ok) ?_)
 intro d _
 refine w ?_; repeat (refine zj fun _ => ?_; refine w ?_)
 refine VC.loop (α := Nat × List RowE × (Option Addr × Nat)) (fun y => y.1 <= l.length /\ y.2.1.map RowE.data = pairsP e s l.length ((l.map PatE.D).take y.1) 0) (fun y => DigR d (crcS (headsP e s l.length ((l.map PatE.D).take y.1) 0)) :: RowsO y.2.2 y.2.1 :: PilR y.2.1 :: Row bx 87 [.int .u64 s, .slice (some la) l.length cap] :: R)
  (fun y => [(0, .int .u64 e), (3, .pointer (some ⟨bx, 0, none⟩)), (6, .int .i64 l.length), (10, .slice y.2.2.1 y.2.1.length y.2.2.2), (11, .pointer (some ⟨d, 0, none⟩)), (84, .slice (some la) l.length cap), (85, .int .i64 l.length), (86, .int .i64 y.1)]) (fun y => l.length - y.1) rfl (0, [], (some ⟨no, 0, none⟩, 2 * l.length + 1)) ⟨Nat.zero_le _, rfl⟩ ?_ ⟨rfl, rfl, rfl, rfl, rfl, rfl, rfl, rfl, trivial⟩ ?_
 ·
  dsimp only
  rw [List.take_zero, show crcS (headsP e s l.length [] 0) = 0#32 from crcM_nil _]
  exact Ent.trans (fun w hw => pile_nil (res := RowE.res) hw) Ent.re
 rintro ⟨i, y, x⟩ ⟨hi, hy⟩
 dsimp only at hi hy ⊢
 refine w ?_; repeat (refine zj fun _ => ?_; refine w ?_)
 refine zk ?_ ?_ <;> intro hc
 ·
  have hlt : i < l.length := by have := of_decide_eq_true hc; omega
  refine w ?_; repeat (refine zj fun _ => ?_; refine w ?_)
  have hfi := hfit _ (List.getElem_mem hlt)
  have hDi : i < (l.map PatE.D).length := by rw [hll]; exact hlt
  have hDg : (l.map PatE.D)[i] = l[i].D := List.getElem_map ..
  have hpf := hF.pat _ (List.getElem_mem hDi)
  rw [hDg] at hpf
  have h128 : l[i].d.data.length = 128 := hpf.2.2
  have hesc : escD l[i].d.data = ⟨escM l[i].d.data, isEsc l[i].d.data, 0⟩ := if_pos h128
  have hel : (escM l[i].d.data).length = 128 := escN_length h128
  have hgood := hdrP_good hF hDi
  rw [hDg, hll] at hgood
  have henc : (hdrP e s l.length i l[i].D).enc.1 = 0 := by rw [hdr_ok hgood]
  have hcap := (hp.ok _ (List.getElem_mem hlt)).cap
  ((first | apply VO.pure rfl rfl | apply VQ.pure rfl rfl | apply VD.take rfl rfl rfl | (refine VD.end rfl rfl rfl ?_; apply OpV.pure)); exact .ldRA tab_ok rfl rfl (hp.rds.ent (Ent.drop (Ent.drop (Ent.drop (Ent.drop Ent.refl))))) (pat_at l i hlt) rfl; rfl)
  refine zq ?_; refine OpV.allocS sb_70 rfl ?_; intro n9
  refine w ?_; repeat (refine zj fun _ => ?_; refine w ?_)
  refine zq ?_
  refine OpV.stA (vs := l[i].cells) tab_ok rfl rfl rfl rfl (pat_one _) zh (by simp) ?_
  refine VO.ent (Reord.ent (L := Row n9 70 l[i].cells :: DigR d (crcS (headsP e s l.length ((l.map PatE.D).take i) 0)) :: RowsO x y :: PilR y :: Row bx 87 [.int .u64 s, .slice (some la) l.length cap] :: R) (by (repeat first | exact .refl | (apply Reord.cons; focus repeat first | exact .head | apply Del.tail) | exact .nil | apply Reord.drop))) ?_
  refine w ?_; repeat (refine zj fun _ => ?_; refine w ?_)
  have hE := esc_ok (R := Row n9 70 l[i].cells :: DigR d (crcS (headsP e s l.length ((l.map PatE.D).take i) 0)) :: RowsO x y :: PilR y :: Row bx 87 [.int .u64 s, .slice (some la) l.length cap] :: R) ((hp.each _ (List.getElem_mem hlt)).ent (Ent.drop (Ent.drop (Ent.drop (Ent.drop (Ent.drop Ent.refl)))))) hcap
  rw [hesc] at hE
  dsimp only at hE
  (refine zq ?_; refine zy rfl rfl (hE) ?_)
  rintro ⟨ba, bc⟩ -
  refine VO.know (p := ba = none -> (escM l[i].d.data).length = 0) (fun w hw => hw.ownNone (.head _)) ?_
  intro hbn
  refine w ?_; repeat (refine zj fun _ => ?_; refine w ?_)
  (refine VC.drawn [11, 13] 18 [0, 1, 2, 3, 4, 5, 6, 7, 8, 9, 10, 11, 12, 13, 14, 15, 16, 17, 18] _ rfl (by kernel_rfl) (by kernel_rfl) Ent.re ?_)
  refine w ?_; repeat (refine zj fun _ => ?_; refine w ?_)
  (refine zq ?_; refine zy rfl rfl (sum_ok (Rds.own (bytes_one _) (.head _) (by simp) hbn) (by omega)) ?_)
  intro _ _
  refine ⟨Ent.re, ?_⟩
  refine w ?_; repeat (refine zj fun _ => ?_; refine w ?_)
  have hfh : (hdrP e s l.length i l[i].D).fit := ⟨he, hs, by simp only [hdrP]; omega, by simp only [hdrP]; omega, hfi.member, hfi.row, (crcS (escM l[i].d.data)).isLt⟩
  refine VD.re 108 (.bool (isEsc l[i].d.data)) rfl rfl ?_
  ((first | apply VO.pure rfl rfl | apply VD.take rfl rfl rfl | (refine VD.end rfl rfl rfl ?_; apply OpV.pure)); apply PureAt.build sb_233 rfl; (simp [buildX, setL, Value.cells]; rfl); rfl)
  refine w ?_; repeat (refine zj fun _ => ?_; refine w ?_)
  have hE2 := ench_ok (W := W) (R := OwnB (ba, bc) (escM l[i].d.data) :: Row n9 70 l[i].cells :: DigR d (crcS (headsP e s l.length ((l.map PatE.D).take i) 0)) :: RowsO x y :: PilR y :: Row bx 87 [.int .u64 s, .slice (some la) l.length cap] :: R) (hdrP e s l.length i l[i].D) hfh
  rw [henc] at hE2
  (refine zq ?_; refine zy rfl rfl (hE2) ?_)
  rintro ⟨ha, hc⟩ -
  refine ⟨Ent.re, ?_⟩
  refine VD.know (p := ha = none -> (headP e s l.length i l[i].D).length = 0) (fun w hw => hw.ownNone (.head _)) ?_
  intro hhn
  refine w ?_; repeat (refine zj fun _ => ?_; refine w ?_)
  have hlen2 : (headP e s l.length i l[i].D).length <= 1099511627776 := by
   show (hdrP e s l.length i l[i].D).enc.2.length <= _
   rw [hdr_ok hgood, sectF_length _ _ _ _ (hdr_sum _)]; omega
  refine VO.ent (Reord.ent (L := DigR d (crcS (headsP e s l.length ((l.map PatE.D).take i) 0)) :: OwnB (ha, hc) (headP e s l.length i l[i].D) :: OwnB (ba, bc) (escM l[i].d.data) :: RowsO x y :: PilR y :: Row bx 87 [.int .u64 s, .slice (some la) l.length cap] :: R) (by (repeat first | exact .refl | (apply Reord.cons; focus repeat first | exact .head | apply Del.tail) | exact .nil | apply Reord.drop))) ?_
  (refine zq ?_; refine zy rfl rfl (digadd_ok d (crcS (headsP e s l.length ((l.map PatE.D).take i) 0)) (Rds.own (bytes_one _) (.head _) (by simp) hhn) hlen2) ?_)
  intro _ _
  refine w ?_; repeat (refine zj fun _ => ?_; refine w ?_)
  have hyl : y.length = 2 * i := by
   have := congrArg List.length hy
   rw [List.length_map, pairsP_length, List.length_take, Nat.min_eq_left (by omega)] at this
   exact this
  (refine zq ?_; refine OpV.buildSlice1 st_43 rfl rfl (by first | (simp; done) | simp [Value.oneCell']) (by decide) rfl ?_; intro nb)
  (refine zq ?_; refine OpV.appendRow st_43 rfl rfl zh zm rfl (by first | (simp; done) | simp [Value.oneCell']) ?_ ?_ rfl ?_)
  · simp only [maxLen]; omega
  · omega
  intro so sc
  refine w ?_; repeat (refine zj fun _ => ?_; refine w ?_)
  have hst := headsP_step (e := e) (s := s) (n := l.length) hDi
  have hsp := pairsP_step (e := e) (s := s) (n := l.length) hDi
  rw [hDg] at hst hsp
  refine VE.round (i + 1, y ++ [⟨ha, hc, headP e s l.length i l[i].D⟩, ⟨ba, bc, escM l[i].d.data⟩], (so, sc)) ⟨by simp only; omega, by simp only; rw [List.map_append, hy, hsp]; rfl⟩ (by simp only; omega) ⟨rfl, rfl, rfl, asV rfl (by simp), rfl, rfl, rfl, asV rfl (by congr 1), trivial⟩ ?_
  dsimp only
  rw [rowsO_two, hst]
  refine Ent.trans (Ent.re (L := OwnB (ha, hc) (headP e s l.length i l[i].D) :: PilR y :: OwnB (ba, bc) (escM l[i].d.data) :: DigR d (crcM (crcS (headsP e s l.length ((l.map PatE.D).take i) 0)) (headP e s l.length i l[i].D)) :: Sl.Own 65 1 (.slice so (y.length + 2) sc) (y.length + 2) (y.map RowE.hdr ++ [RowE.hdr ⟨ha, hc, headP e s l.length i l[i].D⟩, RowE.hdr ⟨ba, bc, escM l[i].d.data⟩]) :: Row bx 87 [.int .u64 s, .slice (some la) l.length cap] :: R)) ?_
  refine Ent.trans (pile_two ⟨ha, hc, headP e s l.length i l[i].D⟩ ⟨ba, bc, escM l[i].d.data⟩) ?_
  rw [show crcM (crcS (headsP e s l.length ((l.map PatE.D).take i) 0)) (headP e s l.length i l[i].D) = crcS (headsP e s l.length ((l.map PatE.D).take i) 0 ++ headP e s l.length i l[i].D) from (crcM_append _ _ _).symm]
  exact Ent.re
 have hend : i = l.length := by have := of_decide_eq_false hc; omega
 subst hend
 have hDt : (l.map PatE.D).take l.length = l.map PatE.D := by rw [<- hll, List.take_length]
 rw [hDt] at hy ⊢
 have hyl : y.length = 2 * l.length := by
  have := congrArg List.length hy
  rw [List.length_map, pairsP_length, hll] at this
  exact this
 have hC : cmtP e s (l.map PatE.D) = ⟨e, s, l.length, (crcS (headsP e s l.length (l.map PatE.D) 0)).toNat⟩ := by unfold cmtP; rw [hll]
 have hrows : rowsP e s (l.map PatE.D) = pairsP e s l.length (l.map PatE.D) 0 ++ [(cmtP e s (l.map PatE.D)).enc.2] := by unfold rowsP; rw [hll]
 have hcg : (cmtP e s (l.map PatE.D)).good := ⟨hcnt, by simp only [cmtP]; omega⟩
 have hce : (cmtP e s (l.map PatE.D)).enc.1 = 0 := by rw [cmt_ok hcg]
 have hcf : (cmtP e s (l.map PatE.D)).fit := ⟨he, hs, by simp only [cmtP]; omega, (crcS _).isLt⟩
 refine w ?_; repeat (refine zj fun _ => ?_; refine w ?_)
 (refine VC.drawn [5, 7] 12 [0, 1, 2, 3, 4, 5, 6, 7, 8, 9, 10, 11, 12] _ rfl (by kernel_rfl) (by kernel_rfl) Ent.re ?_)
 refine w ?_; repeat (refine zj fun _ => ?_; refine w ?_)
 (refine zq ?_; refine zy rfl rfl (digsum_ok d _) ?_)
 intro _ _
 refine ⟨Ent.re, ?_⟩
 refine w ?_; repeat (refine zj fun _ => ?_; refine w ?_)
 ((first | apply VO.pure rfl rfl | apply VD.take rfl rfl rfl | (refine VD.end rfl rfl rfl ?_; apply OpV.pure)); apply PureAt.build sb_238 rfl; (simp [buildX, setL, Value.cells]; rfl); rfl)
 refine w ?_; repeat (refine zj fun _ => ?_; refine w ?_)
 have hE3 := encc_ok (W := W) (R := DigR d (crcS (headsP e s l.length (l.map PatE.D) 0)) :: RowsO x y :: PilR y :: Row bx 87 [.int .u64 s, .slice (some la) l.length cap] :: R) (cmtP e s (l.map PatE.D)) hcf
 rw [hce, show (cmtP e s (l.map PatE.D)).cells = [.int .u64 e, .int .u64 s, .int .i64 l.length, .int .u32 ((crcS (headsP e s l.length (l.map PatE.D) 0)).toNat : Int)] by rw [hC]] at hE3
 (refine zq ?_; refine zy rfl rfl (hE3) ?_)
 rintro ⟨ca, cc⟩ -
 refine ⟨Ent.re, ?_⟩
 refine w ?_; repeat (refine zj fun _ => ?_; refine w ?_)
 (refine zq ?_; refine OpV.buildSlice1 st_43 rfl rfl (by first | (simp; done) | simp [Value.oneCell']) (by decide) rfl ?_; intro nb)
 (refine zq ?_; refine OpV.appendRow st_43 rfl rfl zh zm rfl (by first | (simp; done) | simp [Value.oneCell']) ?_ ?_ rfl ?_)
 · simp only [maxLen]; omega
 · omega
 intro so sc
 refine w ?_; repeat (refine zj fun _ => ?_; refine w ?_)
 refine VE.done ((so, sc), y ++ [⟨ca, cc, (cmtP e s (l.map PatE.D)).enc.2⟩]) rfl ?_ (by simp) ?_
 ·
  simp only
  rw [List.map_append, hy, hrows]; rfl
 dsimp only
 rw [rowsO_one]
 refine Ent.trans (Ent.re (L := OwnB (ca, cc) (cmtP e s (l.map PatE.D)).enc.2 :: PilR y :: Sl.Own 65 1 (.slice so (y.length + 1) sc) (y.length + 1) (y.map RowE.hdr ++ [RowE.hdr ⟨ca, cc, (cmtP e s (l.map PatE.D)).enc.2⟩]) :: R)) ?_
 refine Ent.trans (fun w hw => pile_push (res := RowE.res) (a := (⟨ca, cc, (cmtP e s (l.map PatE.D)).enc.2⟩ : RowE)) hw) ?_
 exact Ent.re
theorem size_ok {ao : Option Addr} {k cap n : Nat} (hk : k = n * 128) (hn : n <= 1099511627776) : Does1 W Tryz.prog 155 [.slice ao k cap] R (.int .i64 (n : Int)) R := by
 subst hk
 (refine Does.enter Tryz.func155 Tryz.ntmps155 rfl rfl ?_)
 refine w ?_
 refine VO.pure rfl rfl (PureAt.quo rfl rfl (by decide) (by rw [Nat.mul_div_cancel n (by decide)]; exact IntWalk.i64_in _ ⟨by omega, by omega⟩)) rfl ?_
 refine w ?_
 refine VE.done1 rfl (by rw [Nat.mul_div_cancel n (by decide)]) Ent.re
theorem from_ok {ao : Option Addr} {k cap : Nat} (at_ : Int) : Does W Tryz.prog 203 [.slice ao k cap, .int .i64 at_] R (β := Nat × Nat) (fun _ => True) (fun x => .func (.func 221) #[] #[.pointer (some ⟨x.1, 0, none⟩), .pointer (some ⟨x.2, 0, none⟩)]) (fun x => Row x.1 250 [.slice ao k cap] :: Row x.2 3 [.int .i64 at_] :: R) := by
 (refine Does.enter Tryz.func203 Tryz.ntmps203 rfl rfl ?_)
 refine w ?_; repeat (refine zj fun _ => ?_; refine w ?_)
 rename_i b1 b2
 refine VO.pure rfl rfl (PureAt.makeFuncN rfl) rfl ?_
 refine w ?_; repeat (refine zj fun _ => ?_; refine w ?_)
 exact VE.done (b1, b2) rfl trivial rfl Ent.re
theorem from1_ok {τ : Type} {la : Addr} {cap n : Nat} (hn : n <= 2048) (hcap : n * 128 <= cap) (at_ : Nat) (ha : at_ < n) (l b1 b2 : Nat) (b : Loop) (A2 : τ -> Prop) (G : Nat -> List SProp) (G2 : τ -> List SProp)
  (yld : ∀ i, i < n -> DoesR W Tryz.prog l [.int .i64 i, .slice (some (la.add ((at_ + i) % n * 128))) 128 (cap - (at_ + i) % n * 128)]
   (LoopR l b :: Row b1 250 [.slice (some la) (n * 128) cap] :: Row b2 3 [.int .i64 at_] :: G i) (LoopR l b :: Row b1 250 [.slice (some la) (n * 128) cap] :: Row b2 3 [.int .i64 at_] :: G (i + 1)) A2 (fun x => LoopR l (Loop.done b) :: G2 x)) :
  Does W Tryz.prog 221 [.func (.yield l) #[] #[], .pointer (some ⟨b1, 0, none⟩), .pointer (some ⟨b2, 0, none⟩)] (LoopR l b :: Row b1 250 [.slice (some la) (n * 128) cap] :: Row b2 3 [.int .i64 at_] :: G 0) (β := Option τ) (fun o => o.elim True A2) (fun _ => .tuple #[])
   (fun o => o.elim (LoopR l b :: Row b1 250 [.slice (some la) (n * 128) cap] :: Row b2 3 [.int .i64 at_] :: G n) fun x => LoopR l (Loop.done b) :: G2 x) := by
 (refine Does.enterI Tryz.func221 Tryz.ntmps221 rfl rfl ?_)
 refine wr ?_
 (refine zq ?_; refine zy rfl rfl (size_ok rfl (by omega)) ?_)
 intro _ _
 refine wr ?_
 refine VR.loop (α := Nat) (fun i => i <= n) (fun i => LoopR l b :: Row b1 250 [.slice (some la) (n * 128) cap] :: Row b2 3 [.int .i64 at_] :: G i)
  (fun i => [(0, .func (.yield l) #[] #[]), (1, .pointer (some ⟨b1, 0, none⟩)), (2, .pointer (some ⟨b2, 0, none⟩)), (7, .int .i64 n), (8, .int .i64 i)]) (fun i => n - i) rfl 0 (Nat.zero_le _) Ent.re ⟨rfl, rfl, rfl, rfl, rfl, trivial⟩ ?_
 intro i hi
 refine wr ?_
 (refine VR.cond rfl rfl ?_ ?_ <;> intro hc)
 ·
  have hlt : i < n := by have := of_decide_eq_true hc; omega
  refine wr ?_
  (refine VR.quiet rfl (by kernel_rfl) (by kernel_rfl) ?_)
  refine wr ?_
  (refine VQ.call rfl rfl rfl rfl (fun _ _ => by simp) (size_ok rfl (by omega)) Ent.refl Ent.refl rfl ?_)
  apply VQ.pure rfl rfl
  · exact PureAt.rem (a := at_ + i) (b := n) rfl rfl (by omega)
  · rfl
  have hr : (at_ + i) % n < n := Nat.mod_lt _ (by omega)
  (first | refine VO.nil rfl ?_ | refine VQ.nil rfl ?_ | refine VD.nil ?_ | ((first | apply VO.pure rfl rfl | apply VQ.pure rfl rfl | apply VD.take rfl rfl rfl | (refine VD.end rfl rfl rfl ?_; apply OpV.pure)); (exact zp); rfl) | refine VO.skip rfl rfl rfl rfl ?_ | refine VQ.skip rfl rfl rfl rfl ?_ | refine VD.skip rfl rfl rfl rfl rfl ?_ | refine VD.skipM rfl rfl Ent.refl rfl rfl rfl ?_ | (refine zq ?_; (first | (apply OpV.st tab_ok rfl rfl rfl rfl (by (repeat first | exact .head | apply Hole.tail); first | done | fail) (by first | (simp; done) | fail)) | (refine OpV.box rfl rfl rfl ?_; intro _))) | refine ⟨Ent.re, ?_⟩)
  (first | refine VO.nil rfl ?_ | refine VQ.nil rfl ?_ | refine VD.nil ?_ | ((first | apply VO.pure rfl rfl | apply VQ.pure rfl rfl | apply VD.take rfl rfl rfl | (refine VD.end rfl rfl rfl ?_; apply OpV.pure)); (exact zp); rfl) | refine VO.skip rfl rfl rfl rfl ?_ | refine VQ.skip rfl rfl rfl rfl ?_ | refine VD.skip rfl rfl rfl rfl rfl ?_ | refine VD.skipM rfl rfl Ent.refl rfl rfl rfl ?_ | (refine zq ?_; (first | (apply OpV.st tab_ok rfl rfl rfl rfl (by (repeat first | exact .head | apply Hole.tail); first | done | fail) (by first | (simp; done) | fail)) | (refine OpV.box rfl rfl rfl ?_; intro _))) | refine ⟨Ent.re, ?_⟩)
  refine VQ.re 5 (.int .i64 (((at_ + i) % n * 128 : Nat) : Int)) rfl (by congr 1) ?_
  refine VQ.nil rfl ?_
  refine VE.sh ?_
  refine VF.next ?_
  refine VR.seq rfl ?_
  refine VR.regionI rfl ?_
  iterate 6 (first | (apply VI.pure rfl rfl; (exact zp); rfl))
  have hk : (at_ + i) % n * 128 + 128 <= cap := by omega
  have hsl : ∀ {f : Fr} {H : List SProp} {m : Nat} {x y z : Operand} {dst : Option Tmp} {ty_ : TypeId} {pos : String} {after : Array Edge} {guard : Option (Nat × Bool)} {k k' : IntKind} {t : TypeId}, evalX f x = some (.slice (some la) m cap) -> evalX f y = some (.int k (((at_ + i) % n * 128 : Nat) : Int)) -> evalX f z = some (.int k' (((at_ + i) % n * 128 + 128 : Nat) : Int)) -> TabData.esz tab t = some 1 ->
    PureAt W Tryz.prog 28 H f { dst, op := .slice t x (some y) (some z) none, type := ty_, pos, after, guard } (.slice (some (la.add ((at_ + i) % n * 128))) 128 (cap - (at_ + i) % n * 128)) := by
   intro f H m x y z dst ty_ pos after guard k k' t h1 h2 h3 h4
   have h5 := PureAt.sliceLH (W := W) (n := 28) (H := H) (dst := dst) (ty_ := ty_) (pos := pos) (after := after) (guard := guard) tab_ok h1 h2 h3 h4 (by omega) hk
   rw [subA_some (by omega), Nat.mul_one, Nat.add_sub_cancel_left] at h5
   exact h5
  apply VI.pure rfl rfl
  · exact hsl rfl rfl rfl rfl
  · rfl
  refine VI.yield rfl rfl rfl rfl (yld i hlt) Ent.refl rfl ?_ (fun x hx => ?_)
  ·
   (first | (apply VI.pure rfl rfl; (exact zp); rfl))
   refine VI.nil rfl ?_
   refine wr ?_
   exact VF.round (i + 1) (by omega) (by omega) ⟨rfl, rfl, rfl, rfl, asV rfl (by congr 1), trivial⟩ Ent.re
  ·
   (first | (apply VI.pure rfl rfl; (exact zp); rfl))
   refine VI.nil rfl ?_
   refine wr ?_
   exact VF.done (.inl rfl) (some x) resOf_none hx rfl Ent.refl
 have hend : i = n := by have := of_decide_eq_false hc; omega
 subst hend
 refine wr ?_
 exact VF.done (.inr rfl) none resOf_none trivial rfl Ent.re
abbrev RingR (r size tail used : Nat) : SProp := Row r 176 [.int .i64 size, .int .i64 tail, .int .i64 used]
structure RingOk (size tail used : Nat) : Prop where
  lo : 5 <= size
  hi : size <= 2048
  tl : tail < size
  us : used <= size
theorem ringnew_ok {size tail used : Nat} (h : RingOk size tail used) :
  Does W Tryz.prog 30 [.int .i64 size, .int .i64 tail, .int .i64 used] R (β := Nat) (fun _ => True) (fun r => .tuple #[.pointer (some ⟨r, 0, none⟩), .int .u16 0]) (fun r => RingR r size tail used :: R) := by
 have h1 := h.lo; have h2 := h.hi; have h3 := h.tl; have h4 := h.us
 (refine Does.enter Tryz.func30 Tryz.ntmps30 rfl rfl ?_)
 refine w ?_; repeat (refine zj fun _ => ?_; refine w ?_)
 (first | refine VO.gF rfl rfl rfl (decide_eq_false (by omega)) ?_ | refine VD.gF rfl rfl rfl (decide_eq_false (by omega)) ?_)
 refine w ?_; repeat (refine zj fun _ => ?_; refine w ?_)
 (first | refine VO.gF rfl rfl rfl (decide_eq_false (by omega)) ?_ | refine VD.gF rfl rfl rfl (decide_eq_false (by omega)) ?_)
 refine w ?_; repeat (refine zj fun _ => ?_; refine w ?_)
 (first | refine VO.gF rfl rfl rfl (decide_eq_false (by omega)) ?_ | refine VD.gF rfl rfl rfl (decide_eq_false (by omega)) ?_)
 refine w ?_; repeat (refine zj fun _ => ?_; refine w ?_)
 (refine VC.condFe rfl rfl (decide_eq_false (by omega)) ?_)
 refine w ?_; repeat (refine zj fun _ => ?_; refine w ?_)
 (apply VO.pure rfl rfl; apply PureAt.build sb_176 rfl; (simp [buildX, setL, Value.cells]; rfl); rfl)
 refine w ?_; repeat (refine zj fun _ => ?_; refine w ?_)
 rename_i r
 exact VE.done r rfl trivial rfl Ent.re
theorem ringsize_ok (r size tail used : Nat) : Does1 W Tryz.prog 89 [.pointer (some ⟨r, 0, none⟩)] (RingR r size tail used :: R) (.int .i64 size) (RingR r size tail used :: R) := by
 (refine Does.enter Tryz.func89 Tryz.ntmps89 rfl rfl ?_)
 refine w ?_
 exact VE.done1 rfl rfl Ent.re
theorem ringused_ok (r size tail used : Nat) : Does1 W Tryz.prog 97 [.pointer (some ⟨r, 0, none⟩)] (RingR r size tail used :: R) (.int .i64 used) (RingR r size tail used :: R) := by
 (refine Does.enter Tryz.func97 Tryz.ntmps97 rfl rfl ?_)
 refine w ?_
 exact VE.done1 rfl rfl Ent.re
theorem ringfree_ok (r : Nat) {size tail used : Nat} (h : RingOk size tail used) : Does1 W Tryz.prog 90 [.pointer (some ⟨r, 0, none⟩)] (RingR r size tail used :: R) (.int .i64 ((size - used : Nat) : Int)) (RingR r size tail used :: R) := by
 have h1 := h.lo; have h2 := h.hi; have h3 := h.tl; have h4 := h.us
 (refine Does.enter Tryz.func90 Tryz.ntmps90 rfl rfl ?_)
 refine w ?_
 ((refine VC.quiet rfl (by kernel_rfl) (by kernel_rfl) ?_); refine w ?_)
 exact VE.done1 rfl (by congr 1; omega) Ent.re
theorem ringbehind_ok (r : Nat) {size tail used : Nat} (h : RingOk size tail used) (n : Nat) (hn : n <= 4096) : Does1 W Tryz.prog 189 [.pointer (some ⟨r, 0, none⟩), .int .i64 n] (RingR r size tail used :: R) (.int .i64 (((tail + n) % size : Nat) : Int)) (RingR r size tail used :: R) := by
 have h1 := h.lo; have h2 := h.hi; have h3 := h.tl; have h4 := h.us
 (refine Does.enter Tryz.func189 Tryz.ntmps189 rfl rfl ?_)
 refine w ?_
 ((refine VC.quiet rfl (by kernel_rfl) (by kernel_rfl) ?_); refine w ?_)
 ((first | apply VO.pure rfl rfl | apply VQ.pure rfl rfl | apply VD.take rfl rfl rfl | (refine VD.end rfl rfl rfl ?_; apply OpV.pure)); exact PureAt.rem (a := tail + n) (b := size) rfl rfl (by omega); rfl)
 refine w ?_
 exact VE.done1 rfl rfl Ent.re
theorem ringhead_ok (r : Nat) {size tail used : Nat} (h : RingOk size tail used) : Does1 W Tryz.prog 142 [.pointer (some ⟨r, 0, none⟩)] (RingR r size tail used :: R) (.int .i64 (((tail + used) % size : Nat) : Int)) (RingR r size tail used :: R) := by
 have h1 := h.lo; have h2 := h.hi; have h3 := h.tl; have h4 := h.us
 (refine Does.enter Tryz.func142 Tryz.ntmps142 rfl rfl ?_)
 refine w ?_
 (refine zq ?_; refine zy rfl rfl (ringbehind_ok r h used (by omega)) ?_)
 intro _ _
 refine w ?_
 exact VE.done1 rfl rfl Ent.re
def spanB (n2 : Nat) (i : Nat) : SProp := ex fun x : (Option Addr × Nat) × List Value => star [Row n2 165 [.slice x.1.1 i x.1.2], Sl.Own 206 2 (.slice x.1.1 i x.1.2) i x.2]
theorem spans1_ok {size tail used n0 from0 : Nat} (hr : RingOk size tail used) (hn : n0 <= 4096) (hf : from0 < size) (l b1 b2 b3 r : Nat) (b : Loop) (G : Nat -> List SProp)
  (yld : ∀ (i a k x y : Nat), i <= 4096 -> DoesR W Tryz.prog l [.agg #[.int .i64 a, .int .i64 k]]
   (LoopR l b :: Row b1 3 [.int .i64 x] :: Row b2 90 [.pointer (some ⟨r, 0, none⟩)] :: Row b3 3 [.int .i64 y] :: RingR r size tail used :: G i)
   (LoopR l b :: Row b1 3 [.int .i64 x] :: Row b2 90 [.pointer (some ⟨r, 0, none⟩)] :: Row b3 3 [.int .i64 y] :: RingR r size tail used :: G (i + 1)) (fun _ : Unit => False) (fun _ => LoopR l (Loop.done b) :: [])) :
  Does W Tryz.prog 194 [.func (.yield l) #[] #[], .pointer (some ⟨b1, 0, none⟩), .pointer (some ⟨b2, 0, none⟩), .pointer (some ⟨b3, 0, none⟩)]
   (LoopR l b :: Row b1 3 [.int .i64 n0] :: Row b2 90 [.pointer (some ⟨r, 0, none⟩)] :: Row b3 3 [.int .i64 from0] :: RingR r size tail used :: G 0) (β := Option Unit) (fun o => o.elim True fun _ => False) (fun _ => .tuple #[])
   (fun o => o.elim (LoopR l b :: RingR r size tail used :: ex (fun i : Nat => star (G i)) :: []) fun x => LoopR l (Loop.done b) :: []) := by
 have h1 := hr.lo; have h2 := hr.hi; have h3 := hr.tl; have h4 := hr.us
 (refine Does.enterI Tryz.func194 Tryz.ntmps194 rfl rfl ?_)
 refine wr ?_
 refine VR.loop (α := Nat × Nat × Nat) (fun y => y.1 + y.2.1 <= 4096 /\ y.2.2 < size) (fun y => LoopR l b :: Row b1 3 [.int .i64 y.2.1] :: Row b2 90 [.pointer (some ⟨r, 0, none⟩)] :: Row b3 3 [.int .i64 y.2.2] :: RingR r size tail used :: G y.1)
  (fun y => [(0, .func (.yield l) #[] #[]), (1, .pointer (some ⟨b1, 0, none⟩)), (2, .pointer (some ⟨b2, 0, none⟩)), (3, .pointer (some ⟨b3, 0, none⟩))]) (fun y => y.2.1) rfl (0, n0, from0) ⟨by simp only; omega, hf⟩ Ent.re ⟨rfl, rfl, rfl, rfl, trivial⟩ ?_
 rintro ⟨i, n, fr⟩ ⟨hi, hfr⟩
 dsimp only at hi hfr ⊢
 refine wr ?_
 (refine VR.cond rfl rfl ?_ ?_ <;> intro hc)
 ·
  have hn0 : 0 < n := by have := of_decide_eq_true hc; omega
  clear hc
  refine wr ?_
  (refine VR.quiet rfl (by kernel_rfl) (by kernel_rfl) ?_)
  iterate 9 (first | refine VO.nil rfl ?_ | refine VQ.nil rfl ?_ | refine VD.nil ?_ | ((first | apply VO.pure rfl rfl | apply VQ.pure rfl rfl | apply VD.take rfl rfl rfl | (refine VD.end rfl rfl rfl ?_; apply OpV.pure)); (exact zp); rfl) | refine VO.skip rfl rfl rfl rfl ?_ | refine VQ.skip rfl rfl rfl rfl ?_ | refine VD.skip rfl rfl rfl rfl rfl ?_ | refine VD.skipM rfl rfl Ent.refl rfl rfl rfl ?_ | (refine zq ?_; (apply OpV.st tab_ok rfl rfl rfl rfl (by (repeat first | exact .head | apply Hole.tail); first | done | fail) (by first | (simp; done) | fail))) | refine ⟨Ent.re, ?_⟩)
  have hmin : 1 <= min n (size - fr) := by omega
  refine VQ.re 5 (.int .i64 ((min n (size - fr) : Nat) : Int)) rfl (by congr 1; omega) ?_
  generalize hk : min n (size - fr) = k at hmin ⊢
  refine VQ.nil rfl ?_
  refine VE.sh ?_
  refine VF.next ?_
  (first | refine VR.regionI rfl ?_ | (refine VR.seq rfl ?_; refine VR.regionI rfl ?_) | (refine VR.seq rfl ?_; refine VR.seq rfl ?_; refine VR.regionI rfl ?_) | (refine VR.seq rfl ?_; refine VR.block rfl ?_; refine VR.regionI rfl ?_) | (refine VR.seq rfl ?_; refine VR.block rfl ?_; refine VR.seq rfl ?_; refine VR.regionI rfl ?_) | (refine VR.block rfl ?_; refine VR.seq rfl ?_; refine VR.regionI rfl ?_))
  iterate 3 (first | (apply VI.pure rfl rfl; (exact zp); rfl))
  apply VI.pure rfl rfl
  · exact PureAt.build (cs := [.int .i64 fr, .int .i64 k]) sb_206 rfl rfl
  · rfl
  refine VI.yield rfl rfl rfl rfl (yld i fr k n fr (by omega)) Ent.refl rfl ?_ (fun x hx => hx.elim)
  (first | (apply VI.pure rfl rfl; (exact zp); rfl))
  refine VI.nil rfl ?_
  refine wr ?_
  (refine VR.drawn [3] 4 [0, 1, 2, 3, 4] [Row b1 3 [.int .i64 n]] rfl (by kernel_rfl) (by kernel_rfl) Ent.re ?_)
  refine wr ?_
  refine VF.round (i + 1, n - k, 0) ⟨by simp only; omega, by simp only; omega⟩ (by simp only; omega) ⟨rfl, rfl, rfl, rfl, trivial⟩ ?_
  dsimp only
  rw [show ((n - k : Nat) : Int) = (n : Int) - k by omega]
  exact Ent.re
 have hn0 : n = 0 := by have := of_decide_eq_false hc; omega
 refine wr ?_
 refine VF.done (.inr rfl) none resOf_none trivial rfl ?_
 exact Ent.trans (Ent.re (L := LoopR l b :: RingR r size tail used :: G i)) fun w hw => by
  have h9 : Holds W (G i ++ [LoopR l b, RingR r size tail used]) w := hw.perm (by
   have : List.Perm (LoopR l b :: RingR r size tail used :: G i) ([LoopR l b, RingR r size tail used] ++ G i) := .refl _
   exact this.trans List.perm_append_comm)
  exact (Holds.exShut (P := fun i : Nat => star (G i)) i h9.nest).reord (by (repeat first | exact .refl | (apply Reord.cons; focus repeat first | exact .head | apply Del.tail) | exact .nil | apply Reord.drop))
theorem spanB_open {W w : World} {R : List SProp} {n2 i : Nat} (h : Holds W (spanB n2 i :: R) w) : ∃ x : (Option Addr × Nat) × List Value, Holds W (Row n2 165 [.slice x.1.1 i x.1.2] :: Sl.Own 206 2 (.slice x.1.1 i x.1.2) i x.2 :: R) w := by
 obtain ⟨x, h⟩ := h.exOpen
 exact ⟨x, h.join⟩
theorem spanB_shut {n2 i : Nat} (x : (Option Addr × Nat) × List Value) : Ent W (Row n2 165 [.slice x.1.1 i x.1.2] :: Sl.Own 206 2 (.slice x.1.1 i x.1.2) i x.2 :: R) (spanB n2 i :: R) := fun w hw =>
 Holds.exShut x (hw.nest (L := [Row n2 165 [.slice x.1.1 i x.1.2], Sl.Own 206 2 (.slice x.1.1 i x.1.2) i x.2]))
theorem spanB_end {n2 : Nat} {A B D : SProp} : Ent W (A :: B :: ex (fun i : Nat => star (D :: spanB n2 i :: R)) :: []) (A :: D :: B :: ex (fun i : Nat => spanB n2 i) :: R) := fun w hw => by
 have h1 : Holds W (ex (fun i : Nat => star (D :: spanB n2 i :: R)) :: [A, B]) w := hw.reord (by (repeat first | exact .refl | (apply Reord.cons; focus repeat first | exact .head | apply Del.tail) | exact .nil | apply Reord.drop))
 obtain ⟨i, h2⟩ := h1.exOpen
 have h3 := h2.join
 have h4 : Holds W ([A, B] ++ (D :: spanB n2 i :: R)) w := h3.perm List.perm_append_comm
 have h5 : Holds W (spanB n2 i :: A :: D :: B :: R) w := h4.reord (by
  show Reord (A :: B :: D :: spanB n2 i :: R) _
  (repeat first | exact .refl | (apply Reord.cons; focus repeat first | exact .head | apply Del.tail) | exact .nil | apply Reord.drop))
 exact (Holds.exShut (P := fun i : Nat => spanB n2 i) i h5).reord (by (repeat first | exact .refl | (apply Reord.cons; focus repeat first | exact .head | apply Del.tail) | exact .nil | apply Reord.drop))
theorem spanscollect_ok {size tail used n0 from0 : Nat} (hr : RingOk size tail used) (hn : n0 <= 4096) (hf : from0 < size) (b1 b2 b3 r : Nat) :
  Does W Tryz.prog 193 [.slice none 0 0, .func (.func 194) #[] #[.pointer (some ⟨b1, 0, none⟩), .pointer (some ⟨b2, 0, none⟩), .pointer (some ⟨b3, 0, none⟩)]]
   (Row b1 3 [.int .i64 n0] :: Row b2 90 [.pointer (some ⟨r, 0, none⟩)] :: Row b3 3 [.int .i64 from0] :: RingR r size tail used :: R) (β := (Option Addr × Nat) × Nat) (fun _ => True) (fun x => .slice x.1.1 x.2 x.1.2) (fun _ => RingR r size tail used :: R) := by
 (refine Does.enterM Tryz.func193 Tryz.ntmps193 rfl rfl ?_)
 refine wr ?_; repeat (refine zq ?_; refine OpV.box rfl rfl rfl ?_; intro _; refine wr ?_)
 rename_i n2
 refine VR.ent (H' := spanB n2 0 :: Row b1 3 [.int .i64 n0] :: Row b2 90 [.pointer (some ⟨r, 0, none⟩)] :: Row b3 3 [.int .i64 from0] :: RingR r size tail used :: R) (Ent.trans (fun w hw => (hw.ownNil 206 2).swap) (spanB_shut ((none, 0), []))) ?_
 refine VR.range (τ := Unit) (gf := 194) (cap := #[.pointer (some ⟨b1, 0, none⟩), .pointer (some ⟨b2, 0, none⟩), .pointer (some ⟨b3, 0, none⟩)]) (fun _ => False)
  (RingR r size tail used :: ex (fun i : Nat => spanB n2 i) :: R) (fun _ => []) rfl rfl (fun _ _ => by simp) ?_ ?_ (fun D x hx => hx.elim)
 ·
  intro l D b h1 h2 h3 h4 h5 hk
  refine DoesE (H' := LoopR l b :: Row b1 3 [.int .i64 n0] :: Row b2 90 [.pointer (some ⟨r, 0, none⟩)] :: Row b3 3 [.int .i64 from0] :: RingR r size tail used :: At D (.deferred (some [])) :: spanB n2 0 :: R) Ent.re ?_
  refine Does.mono (spans1_ok hr hn hf l b1 b2 b3 r b (fun i => At D (.deferred (some [])) :: spanB n2 i :: R) ?_) id (fun o h => by cases o with | none => trivial | some x => exact h.elim) (fun _ _ => rfl) ?_
  ·
   intro i a k x y hi
   refine DoesR.body (τ := Unit) (A2 := fun _ => False) (G2 := fun _ => []) hk h1 h2 (by rw [h3]; rfl) (by rw [h3]; rfl) ?_
   rw [h3, h4, h5]
   refine wr ?_; repeat (refine zq ?_; refine OpV.box rfl rfl rfl ?_; intro _; refine wr ?_)
   refine zq ?_; refine OpV.allocS sb_206 rfl ?_; intro ns
   refine zq ?_
   refine OpV.stA (vs := [.int .i64 a, .int .i64 k]) tab_ok rfl rfl rfl rfl (by simp [Value.oneCell']) zh (by simp) ?_
   refine wr ?_; repeat (refine zq ?_; refine OpV.box rfl rfl rfl ?_; intro _; refine wr ?_)
   refine VF.ent (H' := LoopR l b :: spanB n2 i :: Row ns 206 [.int .i64 a, .int .i64 k] :: Row b1 3 [.int .i64 x] :: Row b2 90 [.pointer (some ⟨r, 0, none⟩)] :: Row b3 3 [.int .i64 y] :: RingR r size tail used :: At D (.deferred (some [])) :: R) Ent.re ?_
   refine VF.begin (τ := Unit) (A2 := fun _ => False) (G2 := fun _ => []) (G1 := []) h1 ?_
   refine VR.ent (H' := spanB n2 i :: LoopR l (Loop.busy b) :: Row ns 206 [.int .i64 a, .int .i64 k] :: Row b1 3 [.int .i64 x] :: Row b2 90 [.pointer (some ⟨r, 0, none⟩)] :: Row b3 3 [.int .i64 y] :: RingR r size tail used :: At D (.deferred (some [])) :: R) Ent.re ?_
   refine VR.obtain (fun w hw => spanB_open hw) ?_
   rintro ⟨⟨so, sc⟩, xs⟩
   dsimp only
   refine wr ?_; repeat (refine zq ?_; refine OpV.box rfl rfl rfl ?_; intro _; refine wr ?_)
   refine zq ?_
   refine OpV.buildSlice (cs := [.int .i64 a, .int .i64 k]) st_165 rfl rfl (by simp [Value.cells]) (by simp [Value.cells]) (by decide) rfl ?_
   intro nb
   refine zq ?_
   refine OpV.appendRow st_165 rfl rfl zh zm rfl (by simp [Value.oneCell']) (by simp only [maxLen]; omega) (by omega) rfl ?_
   intro so2 sc2
   refine wr ?_; repeat (refine zq ?_; refine OpV.box rfl rfl rfl ?_; intro _; refine wr ?_)
   refine VF.on (τ := Unit) h1 h2 ?_
   exact Ent.trans (Ent.re (L := Row n2 165 [.slice so2 (i + 1) sc2] :: Sl.Own 206 2 (.slice so2 (i + 1) sc2) (i + 1) (xs ++ [.int .i64 a, .int .i64 k]) :: LoopR l (Loop.busy b) :: Row b1 3 [.int .i64 x] :: Row b2 90 [.pointer (some ⟨r, 0, none⟩)] :: Row b3 3 [.int .i64 y] :: RingR r size tail used :: At D (.deferred (some [])) :: R))
    (Ent.trans (spanB_shut ((so2, sc2), xs ++ [.int .i64 a, .int .i64 k])) Ent.re)
  ·
   rintro (_ | x) hx
   · exact spanB_end
   · exact hx.elim
 ·
  intro D
  refine wr ?_; repeat (refine zq ?_; refine OpV.box rfl rfl rfl ?_; intro _; refine wr ?_)
  refine VO.ent (H' := ex (fun i : Nat => spanB n2 i) :: At D (.deferred (some [])) :: RingR r size tail used :: R) Ent.re ?_
  refine VO.obtain (fun w hw => hw.exOpen) ?_
  intro i
  refine VO.obtain (fun w hw => spanB_open hw) ?_
  rintro ⟨⟨so, sc⟩, xs⟩
  dsimp only
  refine wr ?_; repeat (refine zq ?_; refine OpV.box rfl rfl rfl ?_; intro _; refine wr ?_)
  refine VE.sh (m := ⟨none, [markD D]⟩) ?_
  refine VF.next (m := ⟨none, [markD D]⟩) ?_
  refine wr ?_; repeat (refine zq ?_; refine OpV.box rfl rfl rfl ?_; intro _; refine wr ?_)
  refine VF.result (A := fun _ : (Option Addr × Nat) × Nat => True) (r := fun x => .slice x.1.1 x.2 x.1.2) (G := fun _ => RingR r size tail used :: R) (.inl rfl) ((so, sc), i) rfl (.tail (.tail .head)) trivial rfl ?_
  exact Ent.re
theorem spans_ok (r fr n : Nat) :
  Does W Tryz.prog 146 [.pointer (some ⟨r, 0, none⟩), .int .i64 fr, .int .i64 n] R (β := Nat × Nat × Nat) (fun _ => True) (fun x => .func (.func 194) #[] #[.pointer (some ⟨x.1, 0, none⟩), .pointer (some ⟨x.2.1, 0, none⟩), .pointer (some ⟨x.2.2, 0, none⟩)])
   (fun x => Row x.1 3 [.int .i64 n] :: Row x.2.1 90 [.pointer (some ⟨r, 0, none⟩)] :: Row x.2.2 3 [.int .i64 fr] :: R) := by
 (refine Does.enter Tryz.func146 Tryz.ntmps146 rfl rfl ?_)
 refine w ?_; repeat (refine zj fun _ => ?_; refine w ?_)
 rename_i b2 b3 b1
 refine VO.pure rfl rfl (PureAt.makeFuncN rfl) rfl ?_
 refine w ?_; repeat (refine zj fun _ => ?_; refine w ?_)
 exact VE.done (b1, b2, b3) rfl trivial rfl Ent.re
theorem spancollect_ok {size tail used n0 from0 : Nat} (hr : RingOk size tail used) (hn : n0 <= 4096) (hf : from0 < size) (b1 b2 b3 r : Nat) :
  Does W Tryz.prog 145 [.func (.func 194) #[] #[.pointer (some ⟨b1, 0, none⟩), .pointer (some ⟨b2, 0, none⟩), .pointer (some ⟨b3, 0, none⟩)]]
   (Row b1 3 [.int .i64 n0] :: Row b2 90 [.pointer (some ⟨r, 0, none⟩)] :: Row b3 3 [.int .i64 from0] :: RingR r size tail used :: R) (β := (Option Addr × Nat) × Nat) (fun _ => True) (fun x => .slice x.1.1 x.2 x.1.2) (fun _ => RingR r size tail used :: R) := by
 (refine Does.enter Tryz.func145 Tryz.ntmps145 rfl rfl ?_)
 refine w ?_
 (refine zq ?_; refine zy rfl rfl (spanscollect_ok hr hn hf b1 b2 b3 r) ?_)
 intro x _
 refine w ?_
 exact VE.done x rfl trivial rfl Ent.re
theorem ringtake_ok (r : Nat) {size tail used : Nat} (h : RingOk size tail used) (n : Nat) (hn : used + n <= size) :
  Does W Tryz.prog 93 [.pointer (some ⟨r, 0, none⟩), .int .i64 n] (RingR r size tail used :: R) (β := (Option Addr × Nat) × Nat) (fun _ => True) (fun x => .tuple #[.slice x.1.1 x.2 x.1.2, .int .u16 0]) (fun _ => RingR r size tail (used + n) :: R) := by
 have h1 := h.lo; have h2 := h.hi; have h3 := h.tl; have h4 := h.us
 have hm : (tail + used) % size < size := Nat.mod_lt _ (by omega)
 (refine Does.enter Tryz.func93 Tryz.ntmps93 rfl rfl ?_)
 refine w ?_
 (refine zq ?_; refine zy rfl rfl (ringfree_ok r h) ?_)
 intro _ _
 refine w ?_
 (refine VC.condFe rfl rfl (decide_eq_false (by omega)) ?_)
 refine w ?_
 (refine zq ?_; refine zy rfl rfl (ringhead_ok r h) ?_)
 intro _ _
 refine w ?_
 (refine zq ?_; refine zy rfl rfl (spans_ok r ((tail + used) % size) n) ?_)
 rintro ⟨b1, b2, b3⟩ -
 refine w ?_
 (refine zq ?_; refine zy rfl rfl (spancollect_ok h (by omega) hm b1 b2 b3 r) ?_)
 rintro x -
 refine w ?_
 refine VE.done x rfl trivial rfl ?_
 exact Ent.re
theorem ringtake_full (r : Nat) {size tail used : Nat} (h : RingOk size tail used) (n : Nat) (hn : size < used + n) :
  Does1 W Tryz.prog 93 [.pointer (some ⟨r, 0, none⟩), .int .i64 n] (RingR r size tail used :: R) (.tuple #[.slice none 0 0, .int .u16 90]) (RingR r size tail used :: R) := by
 have h1 := h.lo; have h2 := h.hi; have h3 := h.tl; have h4 := h.us
 (refine Does.enter Tryz.func93 Tryz.ntmps93 rfl rfl ?_)
 refine w ?_
 (refine zq ?_; refine zy rfl rfl (ringfree_ok r h) ?_)
 intro _ _
 refine w ?_
 (refine VC.condTe rfl rfl (decide_eq_true (by omega)) ?_)
 refine w ?_
 exact VE.done1 rfl rfl Ent.re
theorem ringgive_ok (r : Nat) {size tail used : Nat} (h : RingOk size tail used) (n : Nat) (hn : n <= used) :
  Does W Tryz.prog 176 [.pointer (some ⟨r, 0, none⟩), .int .i64 n] (RingR r size tail used :: R) (β := (Option Addr × Nat) × Nat) (fun _ => True) (fun x => .tuple #[.slice x.1.1 x.2 x.1.2, .int .u16 0]) (fun _ => RingR r size ((tail + n) % size) (used - n) :: R) := by
 have h1 := h.lo; have h2 := h.hi; have h3 := h.tl; have h4 := h.us
 (refine Does.enter Tryz.func176 Tryz.ntmps176 rfl rfl ?_)
 refine w ?_
 (refine VC.condFe rfl rfl (decide_eq_false (by omega)) ?_)
 refine w ?_
 (refine zq ?_; refine zy rfl rfl (spans_ok r tail n) ?_)
 rintro ⟨b1, b2, b3⟩ -
 refine w ?_
 (refine zq ?_; refine zy rfl rfl (spancollect_ok h (by omega) h3 b1 b2 b3 r) ?_)
 rintro x -
 refine w ?_
 refine VC.drawn [4, 13] 14 [0, 1, 2, 3, 5, 6, 7, 8, 9, 10, 4, 11, 12, 13, 14, 15, 16] [ex fun v : Value => Row r 176 [.int .i64 size, v, .int .i64 used]] rfl (by kernel_rfl) (by kernel_rfl) (fun w hw => Holds.exShut (P := fun v : Value => Row r 176 [.int .i64 size, v, .int .i64 used]) (.int .i64 tail) (hw.reord (.cons .head .nil))) ?_
 refine w ?_
 ((first | apply VO.pure rfl rfl | apply VQ.pure rfl rfl | apply VD.take rfl rfl rfl | (refine VD.end rfl rfl rfl ?_; apply OpV.pure)); exact pureEx (fun v => PureAt.ld tab_ok rfl rfl (.head _) rfl); rfl)
 refine w ?_
 (refine zq ?_; refine zy rfl rfl (ringbehind_ok r h n (by omega)) ?_)
 intro _ _
 refine ⟨fun w hw => Holds.exShut (P := fun v : Value => Row r 176 [.int .i64 size, v, .int .i64 used]) (.int .i64 tail) (hw.reord (.cons .head .nil)), ?_⟩
 iterate 2 (first | refine VO.nil rfl ?_ | refine VQ.nil rfl ?_ | refine VD.nil ?_ | ((first | apply VO.pure rfl rfl | apply VQ.pure rfl rfl | apply VD.take rfl rfl rfl | (refine VD.end rfl rfl rfl ?_; apply OpV.pure)); (exact zp); rfl) | refine VO.skip rfl rfl rfl rfl ?_ | refine VQ.skip rfl rfl rfl rfl ?_ | refine VD.skip rfl rfl rfl rfl rfl ?_ | refine VD.skipM rfl rfl Ent.refl rfl rfl rfl ?_ | (refine zq ?_; (apply OpV.st tab_ok rfl rfl rfl rfl (by (repeat first | exact .head | apply Hole.tail); first | done | fail) (by first | (simp; done) | fail))) | refine ⟨Ent.re, ?_⟩)
 refine VD.mid rfl rfl rfl ?_
 refine OpV.st tab_ok rfl rfl rfl rfl .head (by simp) ?_
 refine ⟨fun w hw => Holds.exShut (P := fun v : Value => Row r 176 [.int .i64 size, v, .int .i64 used]) (.int .i64 (((tail + n) % size : Nat) : Int)) (hw.reord (.cons .head .nil)), ?_⟩
 refine w ?_
 refine VE.done x rfl trivial rfl ?_
 rw [show RingR r size ((tail + n) % size) (used - n) = Row r 176 [.int .i64 size, .int .i64 (((tail + n) % size : Nat) : Int), .int .i64 ((used : Int) - n)] by rw [show (used : Int) - n = ((used - n : Nat) : Int) by omega]]
 exact Ent.re
theorem wfUN {z : Nat} (h : z < 2 ^ 64) : (Lit.int .u64 (z : Int)).wf = true := by simp [Lit.wf, IntKind.min, IntKind.max, IntKind.signed, IntKind.bits]; omega
theorem wfWN {z : Nat} (h : z < 4294967296) : (Lit.int .u32 (z : Int)).wf = true := by simp [Lit.wf, IntKind.min, IntKind.max, IntKind.signed, IntKind.bits]; omega
theorem wfIN {z : Int} (h : -9223372036854775808 <= z /\ z <= 9223372036854775807) : (Lit.int .i64 z).wf = true := by simp [Lit.wf, IntKind.min, IntKind.max, IntKind.signed, IntKind.bits]; omega
theorem cmt_sameN (a b : CmtD) : a = b ↔ a.epoch = b.epoch /\ a.seq = b.seq /\ a.count = b.count /\ a.sum = b.sum := by cases a; cases b; simp
theorem cmt_eqN {n : Nat} {H : List SProp} {f : Fr} {dst : Option Tmp} {ty_ : TypeId} {pos : String} {after : Array Edge} {guard : Option (Nat × Bool)} {op : BinOp} {x y : Operand} {u : TypeId} {v : Value} {a b : CmtD} (hx : evalX f x = some (.agg a.cells.toArray)) (hy : evalX f y = some (.agg b.cells.toArray)) (ha : a.fit) (hb : b.fit) (hv : eqB op (decide (a = b)) = some v) :
  PureAt W Tryz.prog n H f { dst, op := .binOp op 238 x y u, type := ty_, pos, after, guard } v := by
 refine PureAt.eqFlat (ks := [some .u64, some .u64, some .i64, some .u32]) (cs := a.cells) (ds := b.cells) (by kernel_rfl) hx hy rfl rfl rfl rfl ?_ ?_ ?_ hv
 ·
  intro l hl; simp only [List.mem_cons, List.not_mem_nil, or_false] at hl
  rcases hl with h | h | h | h <;> subst h <;> first | exact wfUN ha.epoch | exact wfUN ha.seq | exact wfIN ha.count | exact wfWN ha.sum
 ·
  intro l hl; simp only [List.mem_cons, List.not_mem_nil, or_false] at hl
  rcases hl with h | h | h | h <;> subst h <;> first | exact wfUN hb.epoch | exact wfUN hb.seq | exact wfIN hb.count | exact wfWN hb.sum
 · rw [decide_eq_true_iff, cmt_sameN]; simp; omega
theorem dec_fitC (b : List UInt8) : (CmtD.dec b).2.fit := by
 have hz : zeroC.fit := ⟨by decide, by decide, by decide, by decide⟩
 unfold CmtD.dec
 split
 · exact hz
 ·
  split
  · exact cmt_fit b
  · exact hz
theorem dec_countB (b : List UInt8) : 0 <= (HdrD.dec b).2.count /\ (HdrD.dec b).2.count <= 1023 := by
 by_cases h : (HdrD.dec b).1 = 0
 · have := (hdr_decO h).2.1.2.1; omega
 ·
  unfold HdrD.dec at h ⊢
  split
  · exact ⟨by show (0:Int) <= zeroH.count; decide, by show zeroH.count <= 1023; decide⟩
  ·
   rename_i h1
   rw [if_neg h1] at h
   split
   · rename_i h2; rw [if_pos h2] at h; exact absurd rfl h
   · exact ⟨by show (0:Int) <= zeroH.count; decide, by show zeroH.count <= 1023; decide⟩
structure BSt where
  pats : List PatE
  x : Option Addr × Nat
  head : HdrD
  cnt : Int
def hdOk (sec : SecF) (e s : Nat) (n : Int) (j : Nat) : Prop :=
  (HdrD.dec (sec (2 * j))).1 = 0 /\ (HdrD.dec (sec (2 * j))).2.epoch = e /\ (HdrD.dec (sec (2 * j))).2.seq = s /\ (HdrD.dec (sec (2 * j))).2.index = j /\ (HdrD.dec (sec (2 * j))).2.count = n
structure BInv (sec : SecF) (room e s i : Nat) (st : BSt) : Prop where
  zero : i = 0 -> st.cnt = 0
  pos : 0 < i -> st.cnt = batN sec /\ 1 <= batN sec /\ batN sec <= 1023 /\ (HdrD.dec (sec 0)).1 = 0 /\ 2 * batN sec + 1 <= room /\ (i : Int) <= 2 * batN sec
  each : ∀ j, 2 * j + 1 < i -> stepOk sec e s (batN sec) j
  odd : ∀ j, i = 2 * j + 1 -> hdOk sec e s (batN sec) j /\ st.head = (HdrD.dec (sec (2 * j))).2
  pats : st.pats.map PatE.D = (List.range (i / 2)).map (patAt sec)
theorem BInv.start (sec : SecF) (room e s : Nat) (x : Option Addr × Nat) : BInv sec room e s 0 ⟨[], x, zeroH, 0⟩ :=
 ⟨fun _ => rfl, fun h => absurd h (by omega), fun j h => absurd h (by omega), fun j h => absurd h (by omega), rfl⟩
theorem dec_count {sec : SecF} (h : (HdrD.dec (sec 0)).1 = 0) : 1 <= batN sec /\ batN sec <= 1023 := (hdr_decO h).2.1.2.1
theorem bat_room0 {sec : SecF} {room e s i : Nat} {st : BSt} (h : BInv sec room e s i st) (hr : i = room) : batM sec room e s = none := by
 unfold batM
 rw [if_neg]
 rintro ⟨h0, h1, _⟩
 have hc := dec_count h0
 rcases Nat.eq_zero_or_pos i with hi | hi
 · omega
 · have := h.pos hi; omega
theorem bat_head0 {sec : SecF} {room e s i j : Nat} {st : BSt} (h : BInv sec room e s i st) (hj : i = 2 * j) (hn : 0 < i -> i ≠ 2 * (batN sec).toNat) (hbad : ¬ (hdOk sec e s (batN sec) j /\ 2 * batN sec + 1 <= room)) : batM sec room e s = none := by
 unfold batM
 rw [if_neg]
 rintro ⟨h0, h1, h2, _⟩
 have hc := dec_count h0
 refine hbad ⟨?_, h1⟩
 have hlt : j < (batN sec).toNat := by
  rcases Nat.eq_zero_or_pos i with hi | hi
  · omega
  · have := h.pos hi; have := hn hi; omega
 have := h2 j hlt
 exact ⟨this.1, this.2.1, this.2.2.1, this.2.2.2.1, this.2.2.2.2.1⟩
theorem bat_data0 {sec : SecF} {room e s i j : Nat} {st : BSt} (h : BInv sec room e s i st) (hj : i = 2 * j + 1) (hbad : ¬ ((unD (sec (2 * j + 1)) (HdrD.dec (sec (2 * j))).2.escaped).2 = 0 /\ (crcS (sec (2 * j + 1))).toNat = (HdrD.dec (sec (2 * j))).2.sum)) : batM sec room e s = none := by
 unfold batM
 rw [if_neg]
 rintro ⟨h0, h1, h2, _⟩
 have hp := h.pos (by omega)
 have := h2 j (by omega)
 exact hbad this.2.2.2.2.2
theorem bat_end {sec : SecF} {room e s i : Nat} {st : BSt} (h : BInv sec room e s i st) (hi : 0 < i) (hn : (i : Int) = 2 * batN sec) :
  (batM sec room e s).isSome = decide (CmtD.dec (sec i) = (0, ⟨e, s, batN sec, (crcS (headsF sec (batN sec).toNat)).toNat⟩)) /\ ∀ l, batM sec room e s = some l -> st.pats.map PatE.D = l := by
 have hp := h.pos hi
 have hi2 : i = 2 * (batN sec).toNat := by omega
 unfold batM
 constructor
 ·
  by_cases hc : CmtD.dec (sec i) = (0, ⟨e, s, batN sec, (crcS (headsF sec (batN sec).toNat)).toNat⟩)
  ·
   rw [if_pos, decide_eq_true hc]; · rfl
   exact ⟨hp.2.2.2.1, hp.2.2.2.2.1, fun j hj => h.each j (by omega), by rw [<- hi2]; exact hc⟩
  ·
   rw [if_neg, decide_eq_false hc]; · rfl
   rintro ⟨_, _, _, q⟩
   rw [<- hi2] at q; exact hc q
 ·
  intro l hl
  split at hl
  ·
   injection hl with hl
   rw [<- hl, h.pats, show i / 2 = (batN sec).toNat by omega]
  · cases hl
theorem BInv.head_next {sec : SecF} {room e s i j : Nat} {st : BSt} (h : BInv sec room e s i st) (hj : i = 2 * j) (hok : hdOk sec e s (batN sec) j) (hroom : 2 * batN sec + 1 <= room) (hlt : (j : Int) < batN sec) (h0 : (HdrD.dec (sec 0)).1 = 0) :
  BInv sec room e s (i + 1) ⟨st.pats, st.x, (HdrD.dec (sec (2 * j))).2, batN sec⟩ := by
 have hc := dec_count h0
 refine ⟨fun q => absurd q (by omega), fun _ => ⟨rfl, hc.1, hc.2, h0, hroom, by omega⟩, fun k hk => h.each k (by omega), fun k hk => ?_, ?_⟩
 ·
  obtain rfl : k = j := by omega
  exact ⟨hok, rfl⟩
 ·
  show st.pats.map PatE.D = _
  rw [h.pats, show (i + 1) / 2 = i / 2 by omega]
theorem BInv.data_next {sec : SecF} {room e s i j : Nat} {st : BSt} (h : BInv sec room e s i st) (hj : i = 2 * j + 1) (x : Option Addr × Nat) (p : PatE) (hp : p.D = patAt sec j)
  (hok : (unD (sec (2 * j + 1)) (HdrD.dec (sec (2 * j))).2.escaped).2 = 0 /\ (crcS (sec (2 * j + 1))).toNat = (HdrD.dec (sec (2 * j))).2.sum) : BInv sec room e s (i + 1) ⟨st.pats ++ [p], x, st.head, st.cnt⟩ := by
 have h1 := h.pos (by omega)
 have h2 := h.odd j hj
 refine ⟨fun q => absurd q (by omega), fun _ => ⟨h1.1, h1.2.1, h1.2.2.1, h1.2.2.2.1, h1.2.2.2.2.1, by omega⟩, fun k hk => ?_, fun k hk => absurd hk (by omega), ?_⟩
 ·
  by_cases hkj : k = j
  ·
   subst hkj
   exact ⟨h2.1.1, h2.1.2.1, h2.1.2.2.1, h2.1.2.2.2.1, h2.1.2.2.2.2, hok.1, hok.2⟩
  · exact h.each k (by omega)
 ·
  show (st.pats ++ [p]).map PatE.D = _
  rw [List.map_append, h.pats, show i / 2 = j by omega, show (i + 1) / 2 = j + 1 by omega, List.range_succ, List.map_append, List.map_cons, List.map_nil, hp]
  rfl
theorem doesPre {P : Program} {g : FuncId} {args : List Value} {H H' : List SProp} {β : Type} {A : β -> Prop} {r : β -> Value} {G : β -> List SProp} (e : Ent W H H') (h : Does W P g args H' A r G) : Does W P g args H A r G := by
 unfold Does at h ⊢
 exact fun w hw => h w (e w hw)
structure BBl where
  n7 : Nat
  n8 : Nat
  n9 : Nat
  n10 : Nat
  n11 : Nat
  n12 : Nat
  n13 : Nat
  n14 : Nat
  n15 : Nat
  d : Nat
def bFix (room e s : Nat) (B : BBl) (R : List SProp) : List SProp :=
  Row B.n7 3 [.int .i64 room] :: Row B.n8 23 [.int .u64 e] :: Row B.n9 23 [.int .u64 s] :: Row B.n15 225 [.pointer (some ⟨B.d, 0, none⟩)] :: R
def bMov (sec : SecF) (s : Nat) (B : BBl) (i : Nat) (st : BSt) : List SProp :=
  [Row B.n12 87 [.int .u64 s, .slice st.x.1 st.pats.length st.x.2], Row B.n13 233 st.head.cells, Row B.n14 3 [.int .i64 st.cnt], DigR B.d (crcS (headsF sec ((i + 1) / 2))), PatsO st.x st.pats, PilP st.pats]
def bSt (sec : SecF) (room e s : Nat) (B : BBl) (i : Nat) : SProp := ex fun st : BSt => star (fact (BInv sec room e s i st) :: bMov sec s B i st)
theorem bSt_shut {sec : SecF} {room e s i : Nat} {B : BBl} {st : BSt} (h : BInv sec room e s i st) : Ent W (bMov sec s B i st ++ R) (bSt sec room e s B i :: R) := fun w hw =>
 Holds.exShut st (Holds.nest (L := fact (BInv sec room e s i st) :: bMov sec s B i st) (Holds.factShut h hw))
theorem bSt_open {W w : World} {R : List SProp} {sec : SecF} {room e s i : Nat} {B : BBl} (h : Holds W (bSt sec room e s B i :: R) w) : ∃ st : { st : BSt // BInv sec room e s i st }, Holds W (bMov sec s B i st.1 ++ R) w := by
 obtain ⟨st, h1⟩ := h.exOpen
 have h2 : Holds W (fact (BInv sec room e s i st) :: (bMov sec s B i st ++ R)) w := h1.join
 exact ⟨⟨st, h2.factOpen⟩, h2.tail⟩
theorem bSt_start {sec : SecF} {room e s : Nat} {B : BBl} :
  Ent W (Row B.n12 87 [.int .u64 s, .slice none 0 0] :: Row B.n13 233 zeroH.cells :: Row B.n14 3 [.int .i64 0] :: DigR B.d 0#32 :: R) (bSt sec room e s B 0 :: R) := fun w hw => by
 have h1 := (pile_nil (res := PatE.res) hw).ownNil 70 3
 refine bSt_shut (BInv.start sec room e s (none, 0)) w ?_
 have e1 : crcS (headsF sec ((0 + 1) / 2)) = 0#32 := crcM_nil _
 unfold bMov
 rw [e1]
 exact (Ent.re : Ent W _ _) w h1
def bRes (B : BBl) (t : TxnE) (ok : Bool) : List SProp := [Row B.n10 87 t.cells, Row B.n11 4 [.bool ok]]
theorem vfAbsurd {n : Nat} {m : Md} {Q : Exit -> Act -> World -> Prop} {e : Exit} {H : List SProp} {f : Fr} (h : ∀ w, Holds W H w -> False) : VF W n m Q e H f := by
 unfold VF
 exact fun _ t w hk hw => (h w hw).elim
theorem batch_ok {la : Addr} {cap n : Nat} {data : List UInt8} (hn : n <= 2048) (hcap : n * 128 <= cap) (at_ room e s : Nat) (ha : at_ < n) (hroom : room <= n) (he : e < 2 ^ 64) (hs : s < 2 ^ 64) (hd : data.length = n * 128) (hr : Rds W R 1 (some la) (n * 128) (bytes data)) (sec : SecF) (hsec : ∀ i, sec i = (data.drop ((at_ + i) % n * 128)).take 128) :
    Does W Tryz.prog 156 [.slice (some la) (n * 128) cap, .int .i64 at_, .int .i64 room, .int .u64 e, .int .u64 s] R (β := TxnE) (fun t => t.seq = s /\ ∀ l, batM sec room e s = some l -> t.pats.map PatE.D = l) (fun t => .tuple #[.agg t.cells.toArray, .bool (batM sec room e s).isSome]) (fun t => PatsO (t.ao, t.cap) t.pats :: PilP t.pats :: R) := by
  have hsl : ∀ i, (sec i).length = 128 := by
    intro i
    have hm : (at_ + i) % n < n := Nat.mod_lt _ (by omega)
    rw [hsec, List.length_take, List.length_drop, hd]; omega
  have hsr : ∀ i, Rds W R 1 (some (la.add ((at_ + i) % n * 128))) (sec i).length (bytes (sec i)) := by
    intro i
    have hm : (at_ + i) % n < n := Nat.mod_lt _ (by omega)
    have h1 := hr.sub (cap := cap) (l := (at_ + i) % n * 128) (h := (at_ + i) % n * 128 + 128) (by omega) (by omega) hcap
    rw [subA_some (by omega), Nat.add_sub_cancel_left, Nat.mul_one, Nat.mul_one] at h1
    rw [hsl i, hsec]
    have e1 : bytes ((data.drop ((at_ + i) % n * 128)).take 128) = ((bytes data).drop ((at_ + i) % n * 128)).take 128 := by simp [bytes, List.map_take, List.map_drop]
    rw [e1]; exact h1
  (refine Does.enterM Tryz.func156 Tryz.ntmps156 rfl rfl ?_)
  refine wr ?_; repeat (refine zq ?_; refine OpV.box rfl rfl rfl ?_; intro _; refine wr ?_)
  rename_i n7 n8 n9
  refine zq ?_; refine OpV.allocS sb_87 rfl ?_; intro n10
  refine wr ?_; repeat (refine zq ?_; refine OpV.box rfl rfl rfl ?_; intro _; refine wr ?_)
  (refine zq ?_; refine OpV.alloc (z := .bool false) (fun w => by simp) rfl rfl ?_; intro n11)
  refine wr ?_; repeat (refine zq ?_; refine OpV.box rfl rfl rfl ?_; intro _; refine wr ?_)
  (apply VO.pure rfl rfl; apply PureAt.build sb_87 rfl; (simp [buildX, setL, Value.cells]; rfl); rfl)
  refine zq ?_; refine OpV.allocS sb_87 rfl ?_; intro n12
  refine wr ?_; repeat (refine zq ?_; refine OpV.box rfl rfl rfl ?_; intro _; refine wr ?_)
  refine zq ?_
  refine OpV.stA (vs := [.int .u64 s, .slice none 0 0]) tab_ok rfl rfl rfl rfl (by simp [Value.oneCell']) zh (by simp) ?_
  refine wr ?_; repeat (refine zq ?_; refine OpV.box rfl rfl rfl ?_; intro _; refine wr ?_)
  refine zq ?_; refine OpV.allocS sb_233 rfl ?_; intro n13
  refine wr ?_; repeat (refine zq ?_; refine OpV.box rfl rfl rfl ?_; intro _; refine wr ?_)
  (refine zq ?_; refine OpV.alloc (z := .int .i64 0) (fun w => by simp) rfl rfl ?_; intro n14)
  refine wr ?_; repeat (refine zq ?_; refine OpV.box rfl rfl rfl ?_; intro _; refine wr ?_)
  (refine zq ?_; refine zy rfl rfl (dignew_ok) ?_)
  intro d _
  refine wr ?_; repeat (refine zq ?_; refine OpV.box rfl rfl rfl ?_; intro _; refine wr ?_)
  (refine zq ?_; refine OpV.alloc (z := .pointer none) (fun w => by simp) rfl rfl ?_; intro n15)
  refine wr ?_; repeat (refine zq ?_; refine OpV.box rfl rfl rfl ?_; intro _; refine wr ?_)
  (refine zq ?_; refine zy rfl rfl (from_ok at_) ?_)
  rintro ⟨b1, b2⟩ -
  refine wr ?_; repeat (refine zq ?_; refine OpV.box rfl rfl rfl ?_; intro _; refine wr ?_)
  refine VR.ent (H' := bSt sec room e s ⟨n7, n8, n9, n10, n11, n12, n13, n14, n15, d⟩ 0 :: Row b1 250 [.slice (some la) (n * 128) cap] :: Row b2 3 [.int .i64 at_] :: Row n10 87 [.int .u64 0, .slice none 0 0] :: Row n11 4 [.bool false] :: bFix room e s ⟨n7, n8, n9, n10, n11, n12, n13, n14, n15, d⟩ R) (Ent.trans ?_ (bSt_start (B := ⟨n7, n8, n9, n10, n11, n12, n13, n14, n15, d⟩))) ?_
  · unfold bFix; exact Ent.re
  refine VR.range (τ := TxnE) (gf := 221) (cap := #[.pointer (some ⟨b1, 0, none⟩), .pointer (some ⟨b2, 0, none⟩)]) (fun t => t.seq = s /\ ∀ l, batM sec room e s = some l -> t.pats.map PatE.D = l)
    (Row b1 250 [.slice (some la) (n * 128) cap] :: Row b2 3 [.int .i64 at_] :: bSt sec room e s (BBl.mk n7 n8 n9 n10 n11 n12 n13 n14 n15 d) n :: Row n10 87 [.int .u64 0, .slice none 0 0] :: Row n11 4 [.bool false] :: bFix room e s (BBl.mk n7 n8 n9 n10 n11 n12 n13 n14 n15 d) R)
    (fun t => bRes (BBl.mk n7 n8 n9 n10 n11 n12 n13 n14 n15 d) t (batM sec room e s).isSome ++ (PatsO (t.ao, t.cap) t.pats :: PilP t.pats :: R)) rfl rfl (fun _ _ => by simp) ?_ ?_ ?_
  · intro l D b h1 h2 h3 h4 h5 hk
    refine doesPre (H' := LoopR l b :: Row b1 250 [.slice (some la) (n * 128) cap] :: Row b2 3 [.int .i64 at_] :: At D (.deferred (some [])) :: bSt sec room e s (BBl.mk n7 n8 n9 n10 n11 n12 n13 n14 n15 d) 0 :: Row n10 87 [.int .u64 0, .slice none 0 0] :: Row n11 4 [.bool false] :: bFix room e s (BBl.mk n7 n8 n9 n10 n11 n12 n13 n14 n15 d) R) Ent.re ?_
    refine Does.mono (from1_ok hn hcap at_ ha l b1 b2 b (fun t : TxnE => t.seq = s /\ ∀ l, batM sec room e s = some l -> t.pats.map PatE.D = l)
      (fun i => At D (.deferred (some [])) :: bSt sec room e s (BBl.mk n7 n8 n9 n10 n11 n12 n13 n14 n15 d) i :: Row n10 87 [.int .u64 0, .slice none 0 0] :: Row n11 4 [.bool false] :: bFix room e s (BBl.mk n7 n8 n9 n10 n11 n12 n13 n14 n15 d) R)
      (fun t => At D (.deferred (some [])) :: (bRes (BBl.mk n7 n8 n9 n10 n11 n12 n13 n14 n15 d) t (batM sec room e s).isSome ++ (PatsO (t.ao, t.cap) t.pats :: PilP t.pats :: R))) ?_) id (fun _ h => h) (fun _ _ => rfl) ?_
    · intro i hi
      refine DoesR.body hk h1 h2 (by rw [h3]; rfl) (by rw [h3]; rfl) ?_
      rw [h3, h4, h5]
      refine wr ?_; repeat (refine zq ?_; refine OpV.box rfl rfl rfl ?_; intro _; refine wr ?_)
      refine VF.begin (τ := Unit) (A2 := fun _ => True) (G2 := fun _ => []) (G1 := []) h1 ?_
      refine VR.ent (H' := bSt sec room e s (BBl.mk n7 n8 n9 n10 n11 n12 n13 n14 n15 d) i :: LoopR l (Loop.busy b) :: Row b1 250 [.slice (some la) (n * 128) cap] :: Row b2 3 [.int .i64 at_] :: At D (.deferred (some [])) :: Row n10 87 [.int .u64 0, .slice none 0 0] :: Row n11 4 [.bool false] :: bFix room e s (BBl.mk n7 n8 n9 n10 n11 n12 n13 n14 n15 d) R) Ent.re ?_
      refine VR.obtain (fun w hw => bSt_open hw) ?_
      rintro ⟨st, hI⟩
      obtain ⟨pats, x, hdr, cnt⟩ := st
      dsimp only [bMov, bFix, List.cons_append, List.nil_append]
      refine VR.re 17 (.slice (some (la.add ((at_ + i) % n * 128))) (sec i).length (cap - (at_ + i) % n * 128)) rfl (by rw [hsl i]) ?_
      refine wr ?_; repeat (refine zq ?_; refine OpV.box rfl rfl rfl ?_; intro _; refine wr ?_)
      (refine VR.cond rfl rfl ?_ ?_ <;> intro hc)
      · have hz := bat_room0 hI (by have := hc; simp at this; omega)
        ((refine wr ?_; repeat (refine zq ?_; refine OpV.box rfl rfl rfl ?_; intro _; refine wr ?_)); (refine zq ?_); refine OpV.stA (vs := [.int .u64 s, .slice x.1 pats.length x.2]) tab_ok rfl rfl rfl rfl (by simp [Value.oneCell']) zh (by simp) ?_; (refine wr ?_; repeat (refine zq ?_; refine OpV.box rfl rfl rfl ?_; intro _; refine wr ?_)); refine VF.stop (⟨s, x.1, x.2, pats⟩ : TxnE) ⟨rfl, fun l hl => by rw [hz] at hl; cases hl⟩ ?_; rw [hz]; exact Ent.re)
      have hne : i ≠ room := by have := hc; simp at this; omega
      clear hc
      have hcb : 0 <= cnt /\ cnt <= 1023 := by
        rcases Nat.eq_zero_or_pos i with h0 | h0
        · have := hI.zero h0; simp only at this; omega
        · have := hI.pos h0; simp only at this; omega
      have hmod : (at_ + i) % n < n := Nat.mod_lt _ (by omega)
      have hkc : (sec i).length <= cap - (at_ + i) % n * 128 := by rw [hsl]; omega
      refine VR.seq rfl ?_
      refine VR.joinH [(65, .bool (decide (0 < cnt /\ (i : Int) = 2 * cnt))), (7, .pointer (some ⟨n7, 0, none⟩)), (8, .pointer (some ⟨n8, 0, none⟩)), (9, .pointer (some ⟨n9, 0, none⟩)), (10, .pointer (some ⟨n10, 0, none⟩)), (11, .pointer (some ⟨n11, 0, none⟩)), (12, .pointer (some ⟨n12, 0, none⟩)), (13, .pointer (some ⟨n13, 0, none⟩)), (14, .pointer (some ⟨n14, 0, none⟩)), (15, .pointer (some ⟨n15, 0, none⟩)), (16, .int .i64 i), (17, .slice (some (la.add ((at_ + i) % n * 128))) (sec i).length (cap - (at_ + i) % n * 128))] ?_ ?_
      · intro Q2 jn
        refine wr ?_; repeat (refine zq ?_; refine OpV.box rfl rfl rfl ?_; intro _; refine wr ?_)
        refine zg ?_ ?_ <;> intro hb
        · refine wr ?_; repeat (refine zq ?_; refine OpV.box rfl rfl rfl ?_; intro _; refine wr ?_)
          exact jn.to () trivial ⟨asV rfl (by have h0 : 0 < cnt := by simpa using hb
                                              congr 1; rw [Bool.eq_iff_iff]; simp [h0]), rfl, rfl, rfl, rfl, rfl, rfl, rfl, rfl, rfl, rfl, rfl, trivial⟩ Ent.re
        · refine wr ?_; repeat (refine zq ?_; refine OpV.box rfl rfl rfl ?_; intro _; refine wr ?_)
          exact jn.to () trivial ⟨asV rfl (by have h0 : ¬ 0 < cnt := by simpa using hb
                                              congr 1; rw [Bool.eq_iff_iff]; simp [h0]), rfl, rfl, rfl, rfl, rfl, rfl, rfl, rfl, rfl, rfl, rfl, trivial⟩ Ent.re
      refine wr ?_; repeat (refine zq ?_; refine OpV.box rfl rfl rfl ?_; intro _; refine wr ?_)
      (refine VR.cond rfl rfl ?_ ?_ <;> intro hc)
      · have hcc : 0 < cnt /\ (i : Int) = 2 * cnt := by simpa using hc
        have hi0 : 0 < i := by omega
        have hcn := (hI.pos hi0).1
        refine wr ?_; repeat (refine zq ?_; refine OpV.box rfl rfl rfl ?_; intro _; refine wr ?_)
        (refine zq ?_; refine zy rfl rfl (decc_ok ((hsr i).ent Ent.re) hkc) ?_)
        intro _ _
        refine wr ?_; repeat (refine zq ?_; refine OpV.box rfl rfl rfl ?_; intro _; refine wr ?_)
        refine zq ?_; refine OpV.allocS sb_238 rfl ?_; intro n18
        refine wr ?_; repeat (refine zq ?_; refine OpV.box rfl rfl rfl ?_; intro _; refine wr ?_)
        refine zq ?_
        refine OpV.stA (vs := (CmtD.dec (sec i)).2.cells) tab_ok rfl rfl rfl rfl (by simp [Value.oneCell']) zh (by simp) ?_
        refine wr ?_; repeat (refine zq ?_; refine OpV.box rfl rfl rfl ?_; intro _; refine wr ?_)
        refine VR.ent (H' := DigR d (crcS (headsF sec ((i + 1) / 2))) :: Row n18 238 (CmtD.dec (sec i)).2.cells :: Row n12 87 [.int .u64 s, .slice x.1 pats.length x.2] :: Row n14 3 [.int .i64 cnt] :: PatsO x pats :: PilP pats :: LoopR l (Loop.busy b) :: Row b1 250 [.slice (some la) (n * 128) cap] :: Row b2 3 [.int .i64 at_] :: At D (.deferred (some [])) :: Row n10 87 [.int .u64 0, .slice none 0 0] :: Row n11 4 [.bool false] :: Row n8 23 [.int .u64 e] :: Row n9 23 [.int .u64 s] :: Row n15 225 [.pointer (some ⟨d, 0, none⟩)] :: R) Ent.re ?_
        (refine VR.drawn [9, 13] 14 [0, 1, 2, 3, 4, 5, 6, 7, 8, 9, 10, 11, 12, 13, 14] (DigR d (crcS (headsF sec ((i + 1) / 2))) :: Row n18 238 (CmtD.dec (sec i)).2.cells :: Row n12 87 [.int .u64 s, .slice x.1 pats.length x.2] :: Row n14 3 [.int .i64 cnt] :: Row n8 23 [.int .u64 e] :: Row n9 23 [.int .u64 s] :: Row n15 225 [.pointer (some ⟨d, 0, none⟩)] :: []) rfl (by kernel_rfl) (by kernel_rfl) Ent.re ?_)
        refine wr ?_; repeat (refine zq ?_; refine OpV.box rfl rfl rfl ?_; intro _; refine wr ?_)
        obtain ⟨hok, hlist⟩ := bat_end hI hi0 (by rw [<- hcn]; exact hcc.2)
        have hcf : (CmtD.dec (sec i)).2.fit := dec_fitC _
        have hio : (i + 1) / 2 = (batN sec).toNat := by rw [<- hcn]; simp only; omega
        have hcq : (CmtD.mk e s cnt (crcS (headsF sec ((i + 1) / 2))).toNat).fit := ⟨he, hs, by simp only; omega, (crcS _).isLt⟩
        have hq : (batM sec room e s).isSome = decide (CmtD.dec (sec i) = (0, CmtD.mk e s cnt (crcS (headsF sec ((i + 1) / 2))).toNat)) := by rw [hok, hio, <- hcn]
        refine zg ?_ ?_ <;> intro hb
        · have h0 : (CmtD.dec (sec i)).1 = 0 := by simpa using hb
          refine wr ?_; repeat (refine zq ?_; refine OpV.box rfl rfl rfl ?_; intro _; refine wr ?_)
          (refine zq ?_; refine zd rfl rfl (digsum_ok d _) ?_)
          intro _ _
          refine ⟨Ent.re, ?_⟩
          refine wr ?_; repeat (refine zq ?_; refine OpV.box rfl rfl rfl ?_; intro _; refine wr ?_)
          ((first | apply VO.pure rfl rfl | apply VD.take rfl rfl rfl | (refine VD.end rfl rfl rfl ?_; apply OpV.pure)); apply PureAt.build sb_238 rfl; (simp [buildX, setL, Value.cells]; rfl); rfl)
          refine wr ?_; repeat (refine zq ?_; refine OpV.box rfl rfl rfl ?_; intro _; refine wr ?_)
          ((first | apply VO.pure rfl rfl | apply VQ.pure rfl rfl | apply VD.take rfl rfl rfl | (refine VD.end rfl rfl rfl ?_; apply OpV.pure)); exact cmt_eqN (a := (CmtD.dec (sec i)).2) (b := CmtD.mk e s cnt (crcS (headsF sec ((i + 1) / 2))).toNat) rfl rfl hcf hcq rfl; rfl)
          refine VD.re 90 (.bool (batM sec room e s).isSome) rfl (by
            rw [hq]; congr 1; rw [Bool.eq_iff_iff, decide_eq_true_iff, decide_eq_true_iff]
            constructor
            · intro q; rw [<- h0, <- q]
            · intro q; rw [q]) ?_
          refine wr ?_; repeat (refine zq ?_; refine OpV.box rfl rfl rfl ?_; intro _; refine wr ?_)
          refine VD.mid rfl rfl rfl ?_
          refine OpV.stA (vs := [.int .u64 s, .slice x.1 pats.length x.2]) tab_ok rfl rfl rfl rfl (by simp [Value.oneCell']) zh (by simp) ?_
          refine ⟨Ent.re, ?_⟩
          refine wr ?_; repeat (refine zq ?_; refine OpV.box rfl rfl rfl ?_; intro _; refine wr ?_)
          refine VF.stop (⟨s, x.1, x.2, pats⟩ : TxnE) ⟨rfl, hlist⟩ ?_
          exact Ent.re
        · have h0 : (CmtD.dec (sec i)).1 ≠ 0 := by simpa using hb
          have hq2 : (batM sec room e s).isSome = false := by rw [hq, decide_eq_false_iff_not]; intro q; rw [q] at h0; exact h0 rfl
          refine wr ?_; repeat (refine zq ?_; refine OpV.box rfl rfl rfl ?_; intro _; refine wr ?_)
          refine VD.skipM rfl rfl Ent.re rfl rfl rfl ?_
          refine wr ?_; repeat (refine zq ?_; refine OpV.box rfl rfl rfl ?_; intro _; refine wr ?_)
          refine VD.mid rfl rfl rfl ?_
          refine OpV.stA (vs := [.int .u64 s, .slice x.1 pats.length x.2]) tab_ok rfl rfl rfl rfl (by simp [Value.oneCell']) zh (by simp) ?_
          refine ⟨Ent.re, ?_⟩
          refine wr ?_; repeat (refine zq ?_; refine OpV.box rfl rfl rfl ?_; intro _; refine wr ?_)
          refine VF.stop (⟨s, x.1, x.2, pats⟩ : TxnE) ⟨rfl, hlist⟩ ?_
          rw [hq2]
          exact Ent.re
      have hnc : ¬ (0 < cnt /\ (i : Int) = 2 * cnt) := by simpa using hc
      clear hc
      refine wr ?_; repeat (refine zq ?_; refine OpV.box rfl rfl rfl ?_; intro _; refine wr ?_)
      ((first | apply VO.pure rfl rfl | apply VQ.pure rfl rfl | apply VD.take rfl rfl rfl | (refine VD.end rfl rfl rfl ?_; apply OpV.pure)); exact PureAt.rem (a := i) (b := 2) rfl rfl (by decide); rfl)
      refine wr ?_; repeat (refine zq ?_; refine OpV.box rfl rfl rfl ?_; intro _; refine wr ?_)
      (refine VR.cond rfl rfl ?_ ?_ <;> intro hc)
      · obtain ⟨j, rfl⟩ : ∃ j, i = 2 * j := ⟨i / 2, by have := hc; simp at this; omega⟩
        clear hc
        have hn2 : 0 < 2 * j -> 2 * j ≠ 2 * (batN sec).toNat := by
          intro h0 h3
          have h4 := hI.pos h0
          simp only at h4
          exact hnc ⟨by omega, by omega⟩
        have hNb : 0 <= batN sec /\ batN sec <= 1023 := dec_countB _
        refine wr ?_; repeat (refine zq ?_; refine OpV.box rfl rfl rfl ?_; intro _; refine wr ?_)
        (refine zq ?_; refine zy rfl rfl (dech_ok ((hsr (2 * j)).ent Ent.re) hkc) ?_)
        intro _ _
        refine wr ?_; repeat (refine zq ?_; refine OpV.box rfl rfl rfl ?_; intro _; refine wr ?_)
        refine zq ?_; refine OpV.allocS sb_233 rfl ?_; intro n20
        refine wr ?_; repeat (refine zq ?_; refine OpV.box rfl rfl rfl ?_; intro _; refine wr ?_)
        refine zq ?_
        refine OpV.stA (vs := (HdrD.dec (sec (2 * j))).2.cells) tab_ok rfl rfl rfl rfl (by simp [Value.oneCell']) zh (by simp) ?_
        refine wr ?_; repeat (refine zq ?_; refine OpV.box rfl rfl rfl ?_; intro _; refine wr ?_)
        refine VR.join (α := Unit) (fun _ => True) (fun _ => Row n20 233 (HdrD.dec (sec (2 * j))).2.cells :: Row n12 87 [.int .u64 s, .slice x.1 pats.length x.2] :: Row n13 233 hdr.cells :: Row n14 3 [.int .i64 (batN sec)] :: DigR d (crcS (headsF sec ((2 * j + 1) / 2))) :: PatsO x pats :: PilP pats :: LoopR l (Loop.busy b) :: Row b1 250 [.slice (some la) (n * 128) cap] :: Row b2 3 [.int .i64 at_] :: At D (.deferred (some [])) :: Row n10 87 [.int .u64 0, .slice none 0 0] :: Row n11 4 [.bool false] :: Row n7 3 [.int .i64 room] :: Row n8 23 [.int .u64 e] :: Row n9 23 [.int .u64 s] :: Row n15 225 [.pointer (some ⟨d, 0, none⟩)] :: R) (fun _ => [(7, .pointer (some ⟨n7, 0, none⟩)), (8, .pointer (some ⟨n8, 0, none⟩)), (9, .pointer (some ⟨n9, 0, none⟩)), (10, .pointer (some ⟨n10, 0, none⟩)), (11, .pointer (some ⟨n11, 0, none⟩)), (12, .pointer (some ⟨n12, 0, none⟩)), (13, .pointer (some ⟨n13, 0, none⟩)), (14, .pointer (some ⟨n14, 0, none⟩)), (15, .pointer (some ⟨n15, 0, none⟩)), (16, .int .i64 ((2 * j : Nat) : Int)), (17, .slice (some (la.add ((at_ + 2 * j) % n * 128))) (sec (2 * j)).length (cap - (at_ + 2 * j) % n * 128)), (20, .pointer (some ⟨n20, 0, none⟩)), (21, .int .u16 (HdrD.dec (sec (2 * j))).1)]) ?_ (fun _ _ => ?_)
        · intro Q2 jn
          (refine VR.cond rfl rfl ?_ ?_ <;> intro hc)
          · have hj0 : j = 0 := by have := hc; simp at this; omega
            refine wr ?_; repeat (refine zq ?_; refine OpV.box rfl rfl rfl ?_; intro _; refine wr ?_)
            refine jn.to () trivial ⟨rfl, rfl, rfl, rfl, rfl, rfl, rfl, rfl, rfl, rfl, rfl, rfl, rfl, trivial⟩ ?_
            rw [show batN sec = (HdrD.dec (sec (2 * j))).2.count by rw [hj0]; rfl]
            exact Ent.re
          · have hj0 : 0 < 2 * j := by have := hc; simp at this; omega
            refine wr ?_; repeat (refine zq ?_; refine OpV.box rfl rfl rfl ?_; intro _; refine wr ?_)
            refine jn.to () trivial ⟨rfl, rfl, rfl, rfl, rfl, rfl, rfl, rfl, rfl, rfl, rfl, rfl, rfl, trivial⟩ ?_
            rw [<- (hI.pos hj0).1]
            exact Ent.re
        refine wr ?_; repeat (refine zq ?_; refine OpV.box rfl rfl rfl ?_; intro _; refine wr ?_)
        have bad : ∀ {p : Prop}, p -> (p -> ¬ (hdOk sec e s (batN sec) j /\ 2 * batN sec + 1 <= room)) -> batM sec room e s = none := fun hp h => bat_head0 hI rfl hn2 (h hp)
        refine zg ?_ ?_ <;> intro hb
        · have hz := bad hb (fun hb q => by have := hb; simp at this; exact this q.1.1)
          ((refine wr ?_; repeat (refine zq ?_; refine OpV.box rfl rfl rfl ?_; intro _; refine wr ?_)); (refine zq ?_); refine OpV.stA (vs := [.int .u64 s, .slice x.1 pats.length x.2]) tab_ok rfl rfl rfl rfl (by simp [Value.oneCell']) zh (by simp) ?_; (refine wr ?_; repeat (refine zq ?_; refine OpV.box rfl rfl rfl ?_; intro _; refine wr ?_)); refine VF.stop (⟨s, x.1, x.2, pats⟩ : TxnE) ⟨rfl, fun l hl => by rw [hz] at hl; cases hl⟩ ?_; rw [hz]; exact Ent.re)
        have g1 : (HdrD.dec (sec (2 * j))).1 = 0 := by simpa using hb
        clear hb
        refine wr ?_; repeat (refine zq ?_; refine OpV.box rfl rfl rfl ?_; intro _; refine wr ?_)
        refine zg ?_ ?_ <;> intro hb
        · have hz := bad hb (fun hb q => by have := hb; simp at this; have := q.1.2.1; omega)
          ((refine wr ?_; repeat (refine zq ?_; refine OpV.box rfl rfl rfl ?_; intro _; refine wr ?_)); (refine zq ?_); refine OpV.stA (vs := [.int .u64 s, .slice x.1 pats.length x.2]) tab_ok rfl rfl rfl rfl (by simp [Value.oneCell']) zh (by simp) ?_; (refine wr ?_; repeat (refine zq ?_; refine OpV.box rfl rfl rfl ?_; intro _; refine wr ?_)); refine VF.stop (⟨s, x.1, x.2, pats⟩ : TxnE) ⟨rfl, fun l hl => by rw [hz] at hl; cases hl⟩ ?_; rw [hz]; exact Ent.re)
        have g2 : (HdrD.dec (sec (2 * j))).2.epoch = e := by have := hb; simp at this; omega
        clear hb
        refine wr ?_; repeat (refine zq ?_; refine OpV.box rfl rfl rfl ?_; intro _; refine wr ?_)
        refine zg ?_ ?_ <;> intro hb
        · have hz := bad hb (fun hb q => by have := hb; simp at this; have := q.1.2.2.1; omega)
          ((refine wr ?_; repeat (refine zq ?_; refine OpV.box rfl rfl rfl ?_; intro _; refine wr ?_)); (refine zq ?_); refine OpV.stA (vs := [.int .u64 s, .slice x.1 pats.length x.2]) tab_ok rfl rfl rfl rfl (by simp [Value.oneCell']) zh (by simp) ?_; (refine wr ?_; repeat (refine zq ?_; refine OpV.box rfl rfl rfl ?_; intro _; refine wr ?_)); refine VF.stop (⟨s, x.1, x.2, pats⟩ : TxnE) ⟨rfl, fun l hl => by rw [hz] at hl; cases hl⟩ ?_; rw [hz]; exact Ent.re)
        have g3 : (HdrD.dec (sec (2 * j))).2.seq = s := by have := hb; simp at this; omega
        clear hb
        refine wr ?_; repeat (refine zq ?_; refine OpV.box rfl rfl rfl ?_; intro _; refine wr ?_)
        ((first | apply VO.pure rfl rfl | apply VQ.pure rfl rfl | apply VD.take rfl rfl rfl | (refine VD.end rfl rfl rfl ?_; apply OpV.pure)); exact PureAt.quo (a := 2 * j) (b := 2) rfl rfl (by decide) (IntWalk.i64_in _ ⟨by omega, by omega⟩); rfl)
        refine wr ?_; repeat (refine zq ?_; refine OpV.box rfl rfl rfl ?_; intro _; refine wr ?_)
        refine zg ?_ ?_ <;> intro hb
        · have hz := bad hb (fun hb q => by have := hb; simp at this; have := q.1.2.2.2.1; omega)
          ((refine wr ?_; repeat (refine zq ?_; refine OpV.box rfl rfl rfl ?_; intro _; refine wr ?_)); (refine zq ?_); refine OpV.stA (vs := [.int .u64 s, .slice x.1 pats.length x.2]) tab_ok rfl rfl rfl rfl (by simp [Value.oneCell']) zh (by simp) ?_; (refine wr ?_; repeat (refine zq ?_; refine OpV.box rfl rfl rfl ?_; intro _; refine wr ?_)); refine VF.stop (⟨s, x.1, x.2, pats⟩ : TxnE) ⟨rfl, fun l hl => by rw [hz] at hl; cases hl⟩ ?_; rw [hz]; exact Ent.re)
        have g4 : (HdrD.dec (sec (2 * j))).2.index = j := by have := hb; simp at this; omega
        clear hb
        refine wr ?_; repeat (refine zq ?_; refine OpV.box rfl rfl rfl ?_; intro _; refine wr ?_)
        refine zg ?_ ?_ <;> intro hb
        · have hz := bad hb (fun hb q => by have := hb; simp at this; have := q.1.2.2.2.2; omega)
          ((refine wr ?_; repeat (refine zq ?_; refine OpV.box rfl rfl rfl ?_; intro _; refine wr ?_)); (refine zq ?_); refine OpV.stA (vs := [.int .u64 s, .slice x.1 pats.length x.2]) tab_ok rfl rfl rfl rfl (by simp [Value.oneCell']) zh (by simp) ?_; (refine wr ?_; repeat (refine zq ?_; refine OpV.box rfl rfl rfl ?_; intro _; refine wr ?_)); refine VF.stop (⟨s, x.1, x.2, pats⟩ : TxnE) ⟨rfl, fun l hl => by rw [hz] at hl; cases hl⟩ ?_; rw [hz]; exact Ent.re)
        have g5 : (HdrD.dec (sec (2 * j))).2.count = batN sec := by have := hb; simp at this; omega
        clear hb
        refine wr ?_; repeat (refine zq ?_; refine OpV.box rfl rfl rfl ?_; intro _; refine wr ?_)
        (refine VR.cond rfl rfl ?_ ?_ <;> intro hc)
        · have hz := bad hc (fun hc q => by have := hc; simp at this; have := q.2; omega)
          ((refine wr ?_; repeat (refine zq ?_; refine OpV.box rfl rfl rfl ?_; intro _; refine wr ?_)); (refine zq ?_); refine OpV.stA (vs := [.int .u64 s, .slice x.1 pats.length x.2]) tab_ok rfl rfl rfl rfl (by simp [Value.oneCell']) zh (by simp) ?_; (refine wr ?_; repeat (refine zq ?_; refine OpV.box rfl rfl rfl ?_; intro _; refine wr ?_)); refine VF.stop (⟨s, x.1, x.2, pats⟩ : TxnE) ⟨rfl, fun l hl => by rw [hz] at hl; cases hl⟩ ?_; rw [hz]; exact Ent.re)
        have g6 : 2 * batN sec + 1 <= room := by have := hc; simp at this; omega
        clear hc
        refine wr ?_; repeat (refine zq ?_; refine OpV.box rfl rfl rfl ?_; intro _; refine wr ?_)
        refine zq ?_
        refine OpV.stA (vs := (HdrD.dec (sec (2 * j))).2.cells) tab_ok rfl rfl rfl rfl (by simp [Value.oneCell']) zh (by simp) ?_
        refine wr ?_; repeat (refine zq ?_; refine OpV.box rfl rfl rfl ?_; intro _; refine wr ?_)
        refine VO.ent (H' := DigR d (crcS (headsF sec ((2 * j + 1) / 2))) :: Row n12 87 [.int .u64 s, .slice x.1 pats.length x.2] :: Row n13 233 (HdrD.dec (sec (2 * j))).2.cells :: Row n14 3 [.int .i64 (batN sec)] :: PatsO x pats :: PilP pats :: LoopR l (Loop.busy b) :: Row b1 250 [.slice (some la) (n * 128) cap] :: Row b2 3 [.int .i64 at_] :: At D (.deferred (some [])) :: Row n10 87 [.int .u64 0, .slice none 0 0] :: Row n11 4 [.bool false] :: Row n7 3 [.int .i64 room] :: Row n8 23 [.int .u64 e] :: Row n9 23 [.int .u64 s] :: Row n15 225 [.pointer (some ⟨d, 0, none⟩)] :: R) Ent.re ?_
        (refine zq ?_; refine zy rfl rfl (digadd_ok d (crcS (headsF sec ((2 * j + 1) / 2))) ((hsr (2 * j)).ent Ent.re) (by rw [hsl]; omega)) ?_)
        intro _ _
        refine wr ?_; repeat (refine zq ?_; refine OpV.box rfl rfl rfl ?_; intro _; refine wr ?_)
        have hdc := hdr_decO g1
        have h0' : (HdrD.dec (sec 0)).1 = 0 := by
          rcases Nat.eq_zero_or_pos j with q | q
          · rw [q] at g1; exact g1
          · exact (hI.pos (by omega)).2.2.2.1
        have hlt : (j : Int) < batN sec := by have := hdc.2.1.2.2.1; omega
        refine VF.on (τ := TxnE) h1 h2 ?_
        refine Ent.trans (Ent.trans (H' := bMov sec s (BBl.mk n7 n8 n9 n10 n11 n12 n13 n14 n15 d) (2 * j + 1) ⟨pats, x, (HdrD.dec (sec (2 * j))).2, batN sec⟩ ++ (LoopR l (Loop.busy b) :: Row b1 250 [.slice (some la) (n * 128) cap] :: Row b2 3 [.int .i64 at_] :: At D (.deferred (some [])) :: Row n10 87 [.int .u64 0, .slice none 0 0] :: Row n11 4 [.bool false] :: bFix room e s (BBl.mk n7 n8 n9 n10 n11 n12 n13 n14 n15 d) R)) ?_ (bSt_shut (hI.head_next rfl ⟨g1, g2, g3, g4, g5⟩ g6 hlt h0'))) Ent.re
        unfold bMov bFix
        dsimp only [List.cons_append, List.nil_append]
        rw [show crcM (crcS (headsF sec ((2 * j + 1) / 2))) (sec (2 * j)) = crcS (headsF sec ((2 * j + 1 + 1) / 2)) by
          rw [show (2 * j + 1) / 2 = j by omega, show (2 * j + 1 + 1) / 2 = j + 1 by omega]; exact (crcM_append _ _ _).symm]
        exact Ent.re
      obtain ⟨j, rfl⟩ : ∃ j, i = 2 * j + 1 := ⟨i / 2, by have := hc; simp at this; omega⟩
      clear hc
      obtain ⟨hok, hhd⟩ := hI.odd j rfl
      simp only at hhd
      subst hhd
      refine wr ?_; repeat (refine zq ?_; refine OpV.box rfl rfl rfl ?_; intro _; refine wr ?_)
      (refine zq ?_; refine zy rfl rfl (unesc_ok ((hsr (2 * j + 1)).ent Ent.re) hkc (HdrD.dec (sec (2 * j))).2.escaped) ?_)
      rintro ⟨ua, uc⟩ -
      refine VO.know (p := ua = none -> (unD (sec (2 * j + 1)) (HdrD.dec (sec (2 * j))).2.escaped).1.length = 0) (fun w hw => hw.ownNone (.head _)) ?_
      intro hun
      refine wr ?_; repeat (refine zq ?_; refine OpV.box rfl rfl rfl ?_; intro _; refine wr ?_)
      have bad : ∀ {p : Prop}, p -> (p -> ¬ ((unD (sec (2 * j + 1)) (HdrD.dec (sec (2 * j))).2.escaped).2 = 0 /\ (crcS (sec (2 * j + 1))).toNat = (HdrD.dec (sec (2 * j))).2.sum)) -> batM sec room e s = none := fun hp h => bat_data0 hI rfl (h hp)
      refine VR.joinH [(47, .bool (decide (¬ ((unD (sec (2 * j + 1)) (HdrD.dec (sec (2 * j))).2.escaped).2 = 0 /\ (crcS (sec (2 * j + 1))).toNat = (HdrD.dec (sec (2 * j))).2.sum)))), (7, .pointer (some ⟨n7, 0, none⟩)), (8, .pointer (some ⟨n8, 0, none⟩)), (9, .pointer (some ⟨n9, 0, none⟩)), (10, .pointer (some ⟨n10, 0, none⟩)), (11, .pointer (some ⟨n11, 0, none⟩)), (12, .pointer (some ⟨n12, 0, none⟩)), (13, .pointer (some ⟨n13, 0, none⟩)), (14, .pointer (some ⟨n14, 0, none⟩)), (15, .pointer (some ⟨n15, 0, none⟩)), (16, .int .i64 ((2 * j + 1 : Nat) : Int)), (22, .slice ua (unD (sec (2 * j + 1)) (HdrD.dec (sec (2 * j))).2.escaped).1.length uc)] ?_ ?_
      · intro Q2 jn
        (refine VR.drawn [4] 7 [0, 1, 2, 3, 5, 6, 4, 7, 8] _ rfl (by kernel_rfl) (by kernel_rfl) Ent.re ?_)
        refine wr ?_; repeat (refine zq ?_; refine OpV.box rfl rfl rfl ?_; intro _; refine wr ?_)
        refine zg ?_ ?_ <;> intro hb
        · have h0 : (unD (sec (2 * j + 1)) (HdrD.dec (sec (2 * j))).2.escaped).2 ≠ 0 := by simpa using hb
          refine wr ?_; repeat (refine zq ?_; refine OpV.box rfl rfl rfl ?_; intro _; refine wr ?_)
          exact jn.to () trivial ⟨asV rfl (by simp [h0]), rfl, rfl, rfl, rfl, rfl, rfl, rfl, rfl, rfl, rfl, rfl, trivial⟩ Ent.re
        · have h0 : (unD (sec (2 * j + 1)) (HdrD.dec (sec (2 * j))).2.escaped).2 = 0 := by simpa using hb
          refine wr ?_; repeat (refine zq ?_; refine OpV.box rfl rfl rfl ?_; intro _; refine wr ?_)
          have hle : (sec (2 * j + 1)).length <= 1099511627776 := by rw [hsl]; omega
          (refine zq ?_; refine zy rfl rfl (sum_ok ((hsr (2 * j + 1)).ent (Ent.drop (Ent.drop (Ent.drop (Ent.drop (Ent.drop (Ent.drop (Ent.drop (Ent.drop (Ent.drop (Ent.drop (Ent.drop (Ent.drop (Ent.drop (Ent.drop (Ent.drop (Ent.drop (Ent.drop Ent.refl)))))))))))))))))) hle) ?_)
          intro _ _
          refine ⟨Ent.re, ?_⟩
          refine wr ?_; repeat (refine zq ?_; refine OpV.box rfl rfl rfl ?_; intro _; refine wr ?_)
          exact jn.to () trivial ⟨asV rfl (by
            congr 1; rw [Bool.eq_iff_iff]; simp only [h0, true_and, decide_eq_true_iff, bne_iff_ne, ne_eq]
            constructor
            · intro q z; exact q (by rw [z])
            · intro q z; exact q (by omega)), rfl, rfl, rfl, rfl, rfl, rfl, rfl, rfl, rfl, rfl, rfl, trivial⟩ Ent.re
      refine wr ?_; repeat (refine zq ?_; refine OpV.box rfl rfl rfl ?_; intro _; refine wr ?_)
      (refine VR.cond rfl rfl ?_ ?_ <;> intro hc)
      · have hz := bad hc (fun hc => of_decide_eq_true hc)
        ((refine wr ?_; repeat (refine zq ?_; refine OpV.box rfl rfl rfl ?_; intro _; refine wr ?_)); (refine zq ?_); refine OpV.stA (vs := [.int .u64 s, .slice x.1 pats.length x.2]) tab_ok rfl rfl rfl rfl (by simp [Value.oneCell']) zh (by simp) ?_; (refine wr ?_; repeat (refine zq ?_; refine OpV.box rfl rfl rfl ?_; intro _; refine wr ?_)); refine VF.stop (⟨s, x.1, x.2, pats⟩ : TxnE) ⟨rfl, fun l hl => by rw [hz] at hl; cases hl⟩ ?_; rw [hz]; exact Ent.re)
      have hgd : (unD (sec (2 * j + 1)) (HdrD.dec (sec (2 * j))).2.escaped).2 = 0 /\ (crcS (sec (2 * j + 1))).toNat = (HdrD.dec (sec (2 * j))).2.sum := by have := hc; simp only [decide_eq_false_iff_not, Decidable.not_not] at this; exact this
      clear hc
      have hpl : pats.length = j := by
        have h5 := congrArg List.length hI.pats
        rw [List.length_map, List.length_map, List.length_range] at h5
        simp only at h5
        omega
      have hjN := (hI.pos (by omega)).2.2.2.2
      refine wr ?_; repeat (refine zq ?_; refine OpV.box rfl rfl rfl ?_; intro _; refine wr ?_)
      ((first | apply VO.pure rfl rfl | apply VD.take rfl rfl rfl | (refine VD.end rfl rfl rfl ?_; apply OpV.pure)); apply PureAt.build sb_70 rfl; (simp [buildX, setL, Value.cells]; rfl); rfl)
      refine zq ?_
      refine OpV.buildSlice (cs := PatE.cells ⟨(HdrD.dec (sec (2 * j))).2.member, (HdrD.dec (sec (2 * j))).2.row, ⟨ua, uc, (unD (sec (2 * j + 1)) (HdrD.dec (sec (2 * j))).2.escaped).1⟩⟩) st_58 rfl rfl (by simp [Value.cells]) rfl (by decide) rfl ?_
      intro nc
      refine zq ?_
      refine OpV.appendRow st_58 rfl rfl zh zm rfl (pat_one _) (by simp only [maxLen]; omega) (by omega) rfl ?_
      intro so sc
      refine wr ?_; repeat (refine zq ?_; refine OpV.box rfl rfl rfl ?_; intro _; refine wr ?_)
      refine VF.on (τ := TxnE) h1 h2 ?_
      refine Ent.trans (Ent.re (L := OwnB (ua, uc) (unD (sec (2 * j + 1)) (HdrD.dec (sec (2 * j))).2.escaped).1 :: PilP pats :: Row n12 87 [.int .u64 s, .slice so (pats.length + 1) sc] :: Row n13 233 (HdrD.dec (sec (2 * j))).2.cells :: Row n14 3 [.int .i64 cnt] :: DigR d (crcS (headsF sec ((2 * j + 1 + 1) / 2))) :: Sl.Own 70 3 (.slice so (pats.length + 1) sc) (pats.length + 1) (patCells pats ++ PatE.cells ⟨(HdrD.dec (sec (2 * j))).2.member, (HdrD.dec (sec (2 * j))).2.row, ⟨ua, uc, (unD (sec (2 * j + 1)) (HdrD.dec (sec (2 * j))).2.escaped).1⟩⟩) :: LoopR l (Loop.busy b) :: Row b1 250 [.slice (some la) (n * 128) cap] :: Row b2 3 [.int .i64 at_] :: At D (.deferred (some [])) :: Row n10 87 [.int .u64 0, .slice none 0 0] :: Row n11 4 [.bool false] ::  bFix room e s (BBl.mk n7 n8 n9 n10 n11 n12 n13 n14 n15 d) R)) ?_
      refine Ent.trans (fun w hw => pile_push (res := PatE.res) (a := (⟨(HdrD.dec (sec (2 * j))).2.member, (HdrD.dec (sec (2 * j))).2.row, ⟨ua, uc, (unD (sec (2 * j + 1)) (HdrD.dec (sec (2 * j))).2.escaped).1⟩⟩ : PatE)) hw) ?_
      have hp1 : PatsO (so, sc) (pats ++ [⟨(HdrD.dec (sec (2 * j))).2.member, (HdrD.dec (sec (2 * j))).2.row, ⟨ua, uc, (unD (sec (2 * j + 1)) (HdrD.dec (sec (2 * j))).2.escaped).1⟩⟩]) = Sl.Own 70 3 (.slice so (pats.length + 1) sc) (pats.length + 1) (patCells pats ++ PatE.cells ⟨(HdrD.dec (sec (2 * j))).2.member, (HdrD.dec (sec (2 * j))).2.row, ⟨ua, uc, (unD (sec (2 * j + 1)) (HdrD.dec (sec (2 * j))).2.escaped).1⟩⟩) := by
        show Sl.Own 70 3 (.slice so (pats ++ [(⟨(HdrD.dec (sec (2 * j))).2.member, (HdrD.dec (sec (2 * j))).2.row, ⟨ua, uc, (unD (sec (2 * j + 1)) (HdrD.dec (sec (2 * j))).2.escaped).1⟩⟩ : PatE)]).length sc) (pats ++ [(⟨(HdrD.dec (sec (2 * j))).2.member, (HdrD.dec (sec (2 * j))).2.row, ⟨ua, uc, (unD (sec (2 * j + 1)) (HdrD.dec (sec (2 * j))).2.escaped).1⟩⟩ : PatE)]).length (patCells (pats ++ [(⟨(HdrD.dec (sec (2 * j))).2.member, (HdrD.dec (sec (2 * j))).2.row, ⟨ua, uc, (unD (sec (2 * j + 1)) (HdrD.dec (sec (2 * j))).2.escaped).1⟩⟩ : PatE)])) = _
        rw [List.length_append, show patCells (pats ++ [(⟨(HdrD.dec (sec (2 * j))).2.member, (HdrD.dec (sec (2 * j))).2.row, ⟨ua, uc, (unD (sec (2 * j + 1)) (HdrD.dec (sec (2 * j))).2.escaped).1⟩⟩ : PatE)]) = patCells pats ++ PatE.cells ⟨(HdrD.dec (sec (2 * j))).2.member, (HdrD.dec (sec (2 * j))).2.row, ⟨ua, uc, (unD (sec (2 * j + 1)) (HdrD.dec (sec (2 * j))).2.escaped).1⟩⟩ by simp [patCells]]; rfl
      refine Ent.trans (Ent.trans (H' := bMov sec s (BBl.mk n7 n8 n9 n10 n11 n12 n13 n14 n15 d) (2 * j + 1 + 1) ⟨pats ++ [⟨(HdrD.dec (sec (2 * j))).2.member, (HdrD.dec (sec (2 * j))).2.row, ⟨ua, uc, (unD (sec (2 * j + 1)) (HdrD.dec (sec (2 * j))).2.escaped).1⟩⟩], (so, sc), (HdrD.dec (sec (2 * j))).2, cnt⟩ ++ (LoopR l (Loop.busy b) :: Row b1 250 [.slice (some la) (n * 128) cap] :: Row b2 3 [.int .i64 at_] :: At D (.deferred (some [])) :: Row n10 87 [.int .u64 0, .slice none 0 0] :: Row n11 4 [.bool false] ::  bFix room e s (BBl.mk n7 n8 n9 n10 n11 n12 n13 n14 n15 d) R)) ?_ (bSt_shut (hI.data_next rfl (so, sc) ⟨(HdrD.dec (sec (2 * j))).2.member, (HdrD.dec (sec (2 * j))).2.row, ⟨ua, uc, (unD (sec (2 * j + 1)) (HdrD.dec (sec (2 * j))).2.escaped).1⟩⟩ rfl hgd))) Ent.re
      unfold bMov bFix
      dsimp only [List.cons_append, List.nil_append]
      rw [hp1, List.length_append, show (2 * j + 1 + 1 + 1) / 2 = (2 * j + 1 + 1) / 2 by omega]
      exact Ent.re
    · rintro (_ | t) _
      · exact Ent.re
      · exact Ent.refl
  · intro D
    refine vfAbsurd fun w hw => ?_
    have h1 : Holds W (bSt sec room e s (BBl.mk n7 n8 n9 n10 n11 n12 n13 n14 n15 d) n :: At D (.deferred (some [])) :: []) w := (Ent.re : Ent W _ _) w hw
    obtain ⟨⟨st, hI⟩, _⟩ := bSt_open h1
    have := hI.pos (by omega)
    omega
  · intro D t ht
    refine wr ?_; repeat (refine zq ?_; refine OpV.box rfl rfl rfl ?_; intro _; refine wr ?_)
    refine VF.results2 (.inl rfl) t rfl .head (ResIs.agg (vs := t.cells) tab_ok rfl rfl (by unfold bRes; (focus repeat first | exact .head _ | apply List.Mem.tail)) rfl rfl) (ResIs.leaf tab_ok rfl rfl (by unfold bRes; (focus repeat first | exact .head _ | apply List.Mem.tail)) rfl) ht rfl ?_
    unfold bRes
    exact Ent.re
end Go.Proofs.YtdbhpikmagkopaaGreat
/-! Text Sy. -/
namespace Go.Sl
open Go Go.RowKit
section
variable {P : Program} {ops : Array Oper} {Q : Exit -> Act -> World -> Prop} {md : Region.Mode} {I : Array Bool -> World -> Prop}
def wpAnyI (P : Program) (md : Region.Mode) (ops : Array Oper) (Q : Exit -> Act -> World -> Prop) (I : Array Bool -> World -> Prop) : Nat -> Array Bool -> Act -> World -> Prop
  | 0, listed, a, w => Region.ready md ops listed = [] /\ Q .normal a w
  | fuel + 1, listed, a, w =>
    (Region.ready md ops listed = [] -> Q .normal a w) /\
    ∀ i ∈ Region.ready md ops listed, wpOp P ops Q i (fun a' w' => I (listed.setIfInBounds i true) w' /\ wpAnyI P md ops Q I fuel (listed.setIfInBounds i true) a' w') a w
theorem wpAny_of_I : ∀ (fuel : Nat) (listed : Array Bool) (a : Act) (w : World), wpAnyI P md ops Q I fuel listed a w -> wpAny P md ops Q fuel listed a w
 | 0, _, _, _, h => h
 | fuel + 1, _, _, _, h => ⟨h.1, fun i hi => wpOp_mono (fun a' w' h' => wpAny_of_I fuel _ a' w' h'.2) (h.2 i hi)⟩
theorem wpAnyI_first {i : Nat} {oi : Oper} {v : Value} {Si : World -> Prop} (hi : ops[i]? = some oi) (hsel : ∀ (j : Nat) (o : Oper) cs b, ops[j]? = some o -> o.op ≠ .select cs b)
    (hQ : ∀ c a w, ¬ Q (.panic c) a w)
    (hIi : ∀ listed w, HeadInv md ops ops.size listed -> listed.getD i true = false -> I listed w -> Si w)
    (hI1 : ∀ listed w, I listed w -> I (listed.setIfInBounds i true) w) (hI2 : ∀ listed w, I (listed.setIfInBounds i true) w -> I listed w) :
    ∀ (fuel : Nat) (listed : Array Bool) (a : Act) (w : World), HeadInv md ops ops.size listed ->
      (∀ j oj, ops[j]? = some oj -> j ≠ i -> listed.getD j true = false -> (∀ e ∈ oj.after, Region.binds md e = true -> e.on ≠ i) -> oi.apart ops oj = true) ->
      i ∈ Region.ready md ops listed -> YieldsIf P ops Si oi v a -> I listed w ->
      wpAnyI P md ops Q I fuel (listed.setIfInBounds i true) (a.put oi.dst v) w -> wpAnyI P md ops Q I (fuel + 1) listed a w := by
  intro fuel
  induction fuel with
  | zero =>
    intro listed a w inv _ hr hy hS H
    refine ⟨fun h => (by rw [h] at hr; cases hr), fun j hj => ?_⟩
    by_cases hji : j = i
    · subst hji; exact hy.wpOp hi (hIi _ _ inv (mem_ready.1 hr).1 hS) ⟨hI1 _ _ hS, H⟩
    · have := ready_mono hj hji
      rw [H.1] at this
      cases this
  | succ fuel ih =>
    intro listed a w inv hfree hr hy hS H
    refine ⟨fun h => (by rw [h] at hr; cases hr), fun j hj => ?_⟩
    by_cases hji : j = i
    · subst hji; exact hy.wpOp hi (hIi _ _ inv (mem_ready.1 hr).1 hS) ⟨hI1 _ _ hS, H⟩
    · have h1 := H.2 j (ready_mono hj hji)
      obtain ⟨hjun, oj, hoj, hall⟩ := mem_ready.1 hj
      have hjlt : j < ops.size := (Array.getElem?_eq_some_iff.1 hoj).1
      have hnot : ∀ e ∈ oj.after, Region.binds md e = true -> e.on ≠ i := fun e he hb heq => by
        have h1 := hall e he hb
        have h0 := (mem_ready.1 hr).1
        rw [heq] at h1
        rw [getD_both h0] at h1
        cases h1
      have h2 := wpOp_putIf hoj (hfree j oj hoj hji hjun hnot) (fun cs b => hsel i oi cs b hi) (fun cs b => hsel j oj cs b hoj) (fun c a w h => absurd h (hQ c _ w)) hy h1
      have hfree' : ∀ k ok, ops[k]? = some ok -> k ≠ i -> (listed.setIfInBounds j true).getD k true = false ->
          (∀ e ∈ ok.after, Region.binds md e = true -> e.on ≠ i) -> oi.apart ops ok = true := fun k ok hk hki hun hno => by
        refine hfree k ok hk hki ?_ hno
        by_cases hjk : j = k
        · subst hjk; exact hjun
        · rw [getD_set_ne true hjk] at hun; exact hun
      refine wpOp_mono (fun a' w' h3 => ?_) h2
      have hc : (listed.setIfInBounds i true).setIfInBounds j true = (listed.setIfInBounds j true).setIfInBounds i true := Array.setIfInBounds_comm _ _ (Ne.symm hji)
      have h4 := h3.2.1
      have h5 := h3.2.2
      rw [hc] at h4 h5
      exact ⟨hI2 _ _ h4, ih (listed.setIfInBounds j true) a' w' (inv.set hj hjlt) hfree' (ready_mono hr (Ne.symm hji)) h3.1 (hI2 _ _ h4) h5⟩
def levN (tv : List (Nat × Nat)) (listed : Array Bool) : Nat := tv.foldl (fun k p => bif listed.getD p.1 false then max k p.2 else k) 0
def wpSchedI (P : Program) (ops : Array Oper) (Q : Exit -> Act -> World -> Prop) (I : Array Bool -> World -> Prop) (Sy : Nat -> World -> Prop) (mv : List Nat) : List Nat -> Array Bool -> Act -> World -> Prop
  | [], _, a, w => Q .normal a w
  | i :: r, listed, a, w =>
    (mv.contains i = true /\ wpOp P ops (calmQ Q) i (fun a' w' => I (listed.setIfInBounds i true) w' /\ wpSchedI P ops Q I Sy mv r (listed.setIfInBounds i true) a' w') a w) \/
    (mv.contains i = false /\ ∃ o v, ops[i]? = some o /\ YieldsIf P ops (Sy i) o v a /\ wpSchedI P ops Q I Sy mv r (listed.setIfInBounds i true) (a.put o.dst v) w)
def headI (ops : Array Oper) (mv : List Nat) : List Nat -> Array Bool -> Bool
  | [], listed => (Region.ready .any ops listed).isEmpty
  | i :: r, listed =>
    bif mv.contains i then oneB ops listed i && headI ops mv r (listed.setIfInBounds i true) else
    Region.free .any ops listed i && (Region.ready .any ops listed).contains i && headI ops mv r (listed.setIfInBounds i true)
theorem sched_I {mv : List Nat} {Sy : Nat -> World -> Prop} (hs : Region.noSelect ops = true)
    (hIi : ∀ i listed w, mv.contains i = false -> i < ops.size -> HeadInv .any ops ops.size listed -> listed.getD i true = false -> I listed w -> Sy i w)
    (hI1 : ∀ i listed w, mv.contains i = false -> I listed w -> I (listed.setIfInBounds i true) w) (hI2 : ∀ i listed w, mv.contains i = false -> I (listed.setIfInBounds i true) w -> I listed w) :
    ∀ (r : List Nat) (listed : Array Bool) (a : Act) (w : World), HeadInv .any ops ops.size listed -> headI ops mv r listed = true -> I listed w -> wpSchedI P ops Q I Sy mv r listed a w -> wpAnyI P .any ops (calmQ Q) I r.length listed a w
  | [], listed, a, w, _, h, _, hw => by
    simp only [headI, List.isEmpty_iff] at h
    exact ⟨h, rfl, hw⟩
  | i :: r, listed, a, w, inv, h, hS, hw => by
    unfold headI at h
    cases h2 : mv.contains i with
    | true =>
      rw [h2] at h
      simp only [cond_true, Bool.and_eq_true] at h
      have hr := oneB_spec h.1
      rcases hw with ⟨_, hw⟩ | ⟨hm, _⟩
      · refine ⟨fun h0 => (by rw [hr] at h0; cases h0), fun j hj => ?_⟩
        have hj' := hj
        rw [hr, List.mem_singleton] at hj'
        subst hj'
        obtain ⟨_, oj, hoj, _⟩ := mem_ready.1 hj
        exact wpOp_mono (fun a' w' h' => ⟨h'.1, sched_I hs hIi hI1 hI2 r _ a' w' (inv.set hj (Array.getElem?_eq_some_iff.1 hoj).1) h.2 h'.1 h'.2⟩) hw
      · rw [h2] at hm; cases hm
    | false =>
      rw [h2] at h
      simp only [cond_false, Bool.and_eq_true] at h
      have hr : i ∈ Region.ready .any ops listed := by simpa using h.1.2
      rcases hw with ⟨hm, _⟩ | ⟨_, o, v, ho, hy, hw⟩
      · rw [h2] at hm; cases hm
      · have hlt : i < ops.size := (Array.getElem?_eq_some_iff.1 ho).1
        exact wpAnyI_first ho (Region.noSelect_spec hs) (fun c a w hc => by cases hc.1) (fun l w a b c => hIi i l w h2 hlt a b c) (fun l w => hI1 i l w h2) (fun l w => hI2 i l w h2) r.length listed a w inv (Region.free_spec ho h.1.1) hr hy hS (sched_I hs hIi hI1 hI2 r _ _ w (inv.set hr hlt) h.2 (hI1 i _ _ h2 hS) hw)
theorem lev_le {tv : List (Nat × Nat)} {listed : Array Bool} {k : Nat} (h : ∀ p ∈ tv, listed.getD p.1 false = true -> p.2 <= k) : levN tv listed <= k := by
  have key : ∀ (l : List (Nat × Nat)) (m : Nat), m <= k -> (∀ p ∈ l, listed.getD p.1 false = true -> p.2 <= k) -> l.foldl (fun k p => bif listed.getD p.1 false then max k p.2 else k) m <= k := by
    intro l
    induction l with
    | nil => exact fun m hm _ => hm
    | cons p l ih =>
      intro m hm hl
      rw [List.foldl_cons]
      refine ih _ ?_ (fun q hq => hl q (.tail _ hq))
      cases hp : listed.getD p.1 false with
      | true => have := hl p (.head _) hp; simp only [cond_true]; omega
      | false => exact hm
  exact key tv 0 (Nat.zero_le _) h
theorem lev_set {tv : List (Nat × Nat)} {listed : Array Bool} {i : Nat} (h : ∀ p ∈ tv, p.1 ≠ i) : levN tv (listed.setIfInBounds i true) = levN tv listed := by
  have key : ∀ (l : List (Nat × Nat)) (m : Nat), (∀ p ∈ l, p.1 ≠ i) -> l.foldl (fun k p => bif (listed.setIfInBounds i true).getD p.1 false then max k p.2 else k) m = l.foldl (fun k p => bif listed.getD p.1 false then max k p.2 else k) m := by
    intro l
    induction l with
    | nil => exact fun m _ => rfl
    | cons p l ih =>
      intro m hl
      rw [List.foldl_cons, List.foldl_cons, getD_set_ne false (Ne.symm (hl p (.head _)))]
      exact ih _ (fun q hq => hl q (.tail _ hq))
  exact key tv 0 h
theorem getD_replicate_false2 {n k : Nat} : (Array.replicate n false).getD k false = false := by
 simp only [Array.getD, Array.size_replicate]
 split
 · simp
 · rfl
def waitsT (ops : Array Oper) : Nat -> Nat -> Nat -> Bool
  | 0, _, _ => false
  | k + 1, m, i => match ops[m]? with
    | some o => o.after.any fun e => Region.binds .any e && (e.on == i || waitsT ops k e.on i)
    | none => false
theorem waits_listed {listed : Array Bool} (inv : HeadInv .any ops ops.size listed) : ∀ (k m i : Nat), waitsT ops k m i = true -> listed.getD m false = true -> listed.getD i false = true
  | 0, _, _, h, _ => by cases h
  | k + 1, m, i, h, hm => by
    unfold waitsT at h
    cases ho : ops[m]? with
    | none => rw [ho] at h; cases h
    | some o =>
      rw [ho] at h
      simp only [Array.any_eq_true', Bool.and_eq_true, Bool.or_eq_true, beq_iff_eq] at h
      obtain ⟨e, he, hb, h1⟩ := h
      have h2 := inv.closed m o ho hm e he hb
      rcases h1 with h1 | h1
      · rw [<- h1]; exact h2
      · exact waits_listed inv k _ i h1 h2
def lvOf (lv : List (Nat × Nat)) (top i : Nat) : Nat := match lv.find? (fun p => Nat.beq p.1 i) with
  | some p => p.2
  | none => top
def drawL (ops : Array Oper) (mv : List Nat) (tv lv : List (Nat × Nat)) (top : Nat) (ord : List Nat) : Bool :=
  Nat.beq ord.length ops.size && Region.noSelect ops && headI ops mv ord (Array.replicate ops.size false) && (tv.all fun p => mv.contains p.1) &&
  ((List.range ops.size).all fun i => mv.contains i || tv.all fun p => Nat.ble p.2 (lvOf lv top i) || waitsT ops ops.size p.1 i)
variable {W : World} {n : Nat} {c : Code} {H H' : List SProp} {RL : Nat -> List SProp} {mv r : List Nat} {tv lv : List (Nat × Nat)} {top i d : Nat} {listed : Array Bool} {f : Fr}
variable {dst : Option Tmp} {ty_ : TypeId} {pos : String} {after : Array Edge} {guard : Option (Nat × Bool)}
def VL (W : World) (P : Program) (n : Nat) (c : Code) (RL : Nat -> List SProp) (mv : List Nat) (tv lv : List (Nat × Nat)) (top : Nat) (r : List Nat) (listed : Array Bool) (Q : Exit -> Act -> World -> Prop) (H : List SProp) (f : Fr) : Prop :=
  ∀ t w, Knows n f t -> Holds W H w -> wpSchedI P (regOps c).toArray Q (fun listed w => Holds W (RL (levN tv listed)) w) (fun i => Holds W (RL (lvOf lv top i))) mv r listed ⟨t, []⟩ w
theorem VC.drawnL (RL : Nat -> List SProp) (mv : List Nat) (tv lv : List (Nat × Nat)) (top : Nat) (ord : List Nat) (hc : regDraw c = some true) (hm : P.follows .mixedOrders = true) (hB : drawL (regOps c).toArray mv tv lv top ord = true)
  (hR : Ent W H (RL 0)) (hE : ∀ k, Ent W (RL k) (RL (k + 1))) (h : VL W P n c RL mv tv lv top ord (Array.replicate (regOps c).length false) Q H f) : VC W P n c Q H f := by
 have hmono : ∀ a b, Ent W (RL a) (RL (a + b)) := by
  intro a b
  induction b with
  | zero => exact Ent.refl
  | succ b ih => exact Ent.trans ih (hE _)
 unfold VC
 cases c <;> simp [regDraw] at hc
 subst hc
 intro t w hk hw
 have h' := h t w.drew hk hw.drew
 simp only [regOps, Array.toArray_toList, Array.length_toList] at h' hB
 simp only [drawL, Bool.and_eq_true] at hB
 obtain ⟨⟨⟨⟨hl, hs⟩, hh⟩, ht⟩, hi⟩ := hB
 have hl' := Nat.eq_of_beq_eq_true hl
 have htv : ∀ i, mv.contains i = false -> ∀ p ∈ tv, p.1 ≠ i := by
  intro i hi p hp e
  have := List.all_eq_true.1 ht p hp
  rw [e, hi] at this; cases this
 have h1 := sched_I (P := P) (Q := Q) (I := fun listed w => Holds W (RL (levN tv listed)) w) (Sy := fun i => Holds W (RL (lvOf lv top i))) (mv := mv) hs
  (fun i listed w hm hlt inv hun hI => by
   have h2 := List.all_eq_true.1 hi i (List.mem_range.2 hlt)
   rw [hm, Bool.false_or] at h2
   have h3 : levN tv listed <= lvOf lv top i := lev_le fun p hp hpl => by
    have h4 := List.all_eq_true.1 h2 p hp
    rw [Bool.or_eq_true] at h4
    rcases h4 with h4 | h4
    · exact Nat.le_of_ble_eq_true h4
    ·
     have := waits_listed inv _ _ _ h4 hpl
     rw [getD_both hun] at this; cases this
   have h5 := hmono (levN tv listed) (lvOf lv top i - levN tv listed) w hI
   rwa [Nat.add_sub_cancel' h3] at h5)
  (fun i listed w hm hI => by show Holds W (RL (levN tv _)) w; rw [lev_set (htv i hm)]; exact hI)
  (fun i listed w hm hI => by have : Holds W (RL (levN tv (listed.setIfInBounds i true))) w := hI; rw [lev_set (htv i hm)] at this; exact this)
  ord _ _ w.drew (HeadInv.start _) hh (by
   show Holds W (RL (levN tv _)) w.drew
   have h0 : ∀ m, levN tv (Array.replicate m false) = 0 := fun m => Nat.le_zero.1 (lev_le fun p hp hpl => by rw [getD_replicate_false2] at hpl; cases hpl)
   rw [h0]; exact hR _ hw.drew) h'
 rw [hl'] at h1
 refine Code.wp_mono ?_ (wp_region_any (Q := calmQ Q) hm (wpAny_of_I _ _ _ _ h1))
 rintro e a w ⟨rfl, hq⟩
 exact hq
theorem VL.nil (h : VE W n Q .normal H f) : VL W P n c RL mv tv lv top [] listed Q H f := by
 unfold VE at h
 exact fun t w hk hw => h t w hk hw
theorem VL.take {op : Op} {v : Value} (ho : (regOps c)[i]? = some { dst := some d, op, type := ty_, pos, after, guard }) (hm : mv.contains i = false) (hg : wantX (regOps c) guard f = some true) (k : Nat) (hl : lvOf lv top i = k)
  (hp : PureAt W P n (RL k) f { dst := some d, op, type := ty_, pos, after, guard } v) (hd : Nat.blt d n = true) (h : VL W P n c RL mv tv lv top r (listed.setIfInBounds i true) Q H ((d, v) :: f)) : VL W P n c RL mv tv lv top (i :: r) listed Q H f := by
 subst hl
 unfold PureAt at hp
 intro t w hk hw
 exact .inr ⟨hm, _, v, by simpa using ho, .inl ⟨hk.wanted (o := { dst := some d, op, type := ty_, pos, after, guard }) hg, fun w hS => hp t w hk hS⟩, h _ w (hk.put hd) hw⟩
theorem VL.mid {o : Oper} (ho : (regOps c)[i]? = some o) (hm : mv.contains i = true) (hg : wantX (regOps c) o.guard f = some true) (k : Nat) (hl : levN tv (listed.setIfInBounds i true) = k)
  (h : OpV W P n o (calmQ Q) H f (fun H' f' => Ent W H' (RL k) /\ VL W P n c RL mv tv lv top r (listed.setIfInBounds i true) Q H' f')) : VL W P n c RL mv tv lv top (i :: r) listed Q H f := by
 subst hl
 unfold OpV at h
 intro t w hk hw
 refine .inl ⟨hm, ?_⟩
 unfold wpOp
 simp only [List.getElem?_toArray, ho]
 rw [if_pos (hk.wanted hg)]
 exact .inl (h t w hk hw _ (fun H' f' hN t' w' hk' hw' => ⟨hN.1 w' hw', hN.2 t' w' hk' hw'⟩))
theorem VL.re {v : Value} (k : Nat) (v' : Value) (hl : look f k = some v) (e : v = v') (h : VL W P n c RL mv tv lv top r listed Q H ((k, v') :: f)) : VL W P n c RL mv tv lv top r listed Q H f := fun t w hk hw => h t w (hk.again (e ▸ hl)) hw
end
attribute [irreducible] VL
end Go.Sl
/-! Text Ng. -/
namespace Go.Sl
open Go Go.RowKit
section
variable {W : World} {P : Program} {n : Nat} {c : Code} {Q : Exit -> Act -> World -> Prop} {H H' L R : List SProp} {f F : Fr} {mv ord r : List Nat} {tl i x d e : Nat} {X : Nat -> SProp} {vx : Nat -> Value}
variable {dst : Option Tmp} {ty_ : TypeId} {pos : String} {after : Array Edge} {guard : Option (Nat × Bool)}
theorem VX.callD {ox : Oper} {y : Operand} {xs : Array Operand} {ats : Array TypeId} {g : FuncId} {cap : Array Value} {vs : List Value} {β : Type} {A : β -> Prop} {rv : β -> Value} {S : β -> List SProp}
  (ho : (regOps c)[i]? = some { dst := some e, op := .call { callee := .value y, args := xs, argTypes := ats }, type := ty_, pos, after, guard }) (hix : Nat.beq i x = false) (hm : mv.contains i = true) (hg : wantX (regOps c) guard f = some true)
  (hx : evalX f y = some (.func (.func g) #[] cap)) (ha : argsX f xs.toList = some vs) (hc : ∀ a w, (callFunc g a).run P w = .ok (.enter g a) w) (spec : ∀ L, Ent W L H -> Does W P g (vs ++ cap.toList) L A rv (fun x => S x ++ L))
  (hox : (regOps c)[x]? = some ox) (fx : FloatX W P n ox d X vx) (hR : Ent W H R) (hd : Nat.blt e n = true) (hfd : look f d = none) (hed : Nat.beq e d = false) (h : ∀ z, A z -> VX W P n c R mv tl x d X vx r Q (S z ++ H) ((e, rv z) :: f)) : VX W P n c R mv tl x d X vx (i :: r) Q H f := by
 have hne : i ≠ x := by intro q; subst q; simp at hix
 have hdrop : ∀ (A B : List SProp), Ent W (A ++ B) B := by
  intro A
  induction A with
  | nil => exact fun _ => Ent.refl
  | cons a A ih => exact fun B => Ent.trans (Ent.drop Ent.refl) (ih B)
 have second : ∀ b t w, Knows n ((d, vx b) :: f) t -> Holds W (X b :: H) w -> wpSched P (regOps c).toArray Q (Holds W R) mv tl (i :: r.erase x) ⟨t, []⟩ w := by
  intro b t w hk hw
  have hk' := hk.under hfd
  refine .inl ⟨by unfold mvB; rw [hm]; rfl, ?_⟩
  unfold wpOp
  simp only [List.getElem?_toArray, ho]
  rw [if_pos (hk'.wanted (o := { dst := some e, op := .call { callee := .value y, args := xs, argTypes := ats }, type := ty_, pos, after, guard }) hg)]
  have hE : Ent W (X b :: H) H := Ent.drop Ent.refl
  have hs := spec _ hE
  refine .inl ?_
  have hargs : xs.map (Act.eval ⟨t, []⟩) = vs.toArray := by
   have := hk'.args ha
   apply Array.ext'
   simpa using this
  unfold Does at hs
  have hs := hs w hw
  unfold Oper.wp execOp
  simp only [resolve, hk'.eval hx, hargs, Deferred.ofValue, invoke, Sem.run_bind, Sem.run_pure, Result.andThen_ok, hc, Oper.upon]
  have e9 : #[] ++ vs.toArray ++ cap = (vs ++ cap.toList).toArray := by simp
  rw [e9]
  refine Calls.mono hs ?_
  rintro e8 w' ⟨z, hA, rfl, hG⟩
  have h2 := h z hA
  unfold VX at h2
  exact ⟨fun _ => hR _ (hdrop _ _ _ hG).tail, h2.2 b _ w' ((hk.put hd).swap hed) (hG.perm List.perm_middle)⟩
 unfold VX
 refine ⟨fun t w hk hw => .inr (.inl ⟨hne, hm, ?_, ?_⟩), fun b t w hk hw => by rw [List.erase_cons_tail (by simpa using hne)]; exact second b t w hk hw⟩
 ·
  unfold wpOp
  simp only [List.getElem?_toArray, ho]
  rw [if_pos (hk.wanted (o := { dst := some e, op := .call { callee := .value y, args := xs, argTypes := ats }, type := ty_, pos, after, guard }) hg)]
  have := OpV.call (W := W) (n := n) (d := e) (ty_ := ty_) (pos := pos) (after := after) (guard := guard) (ats := ats) (Q := calmQ Q) (f := f) (H := H) (N := fun H' f' => ∃ z, A z /\ H' = S z ++ H /\ f' = (e, rv z) :: f) hx ha hc (spec _ Ent.refl) Ent.refl hd (fun z hz => ⟨z, hz, rfl, rfl⟩)
  unfold OpV at this
  refine .inl (this t w hk hw _ ?_)
  rintro H' f' ⟨z, hz, rfl, rfl⟩ t' w' hk' hw'
  have h2 := h z hz
  unfold VX at h2
  exact ⟨hR _ (hdrop _ _ _ hw'), h2.1 t' w' hk' hw'⟩
 ·
  unfold wpOp
  simp only [List.getElem?_toArray, hox]
  rw [if_pos (by unfold Region.wanted; rw [fx.guard])]
  have := fx.run (calmQ Q) H f (fun H' f' => ∃ b, H' = X b :: H /\ f' = (d, vx b) :: f) (fun b => ⟨b, rfl, rfl⟩)
  unfold OpV at this
  refine .inl (this t w hk hw _ ?_)
  rintro H' f' ⟨b, rfl, rfl⟩ t' w' hk' hw'
  exact ⟨hR _ hw'.tail, second b t' w' hk' hw'⟩
end
end Go.Sl
namespace Go.Proofs.YtdbhpikmagkopaaGreat
open Go.RowKit Go.Sl
attribute [local irreducible] Own
variable {W : World} {R : List SProp}
theorem txnsO_one {l : List TxnE} (t : TxnE) (so : Option Addr) (sc : Nat) : TxnsO (so, sc) (l ++ [t]) = Sl.Own 87 2 (.slice so (l.length + 1) sc) (l.length + 1) (txnCells l ++ t.cells) := by
 show Sl.Own 87 2 (.slice so (l ++ [t]).length sc) (l ++ [t]).length (txnCells (l ++ [t])) = _
 rw [List.length_append, show txnCells (l ++ [t]) = txnCells l ++ t.cells by simp [txnCells]]; rfl
def levF (b : Nat) (A B C D : Value) : Nat -> List SProp
  | 0 => [Row b 172 [A, B, C, D]]
  | 1 => [ex fun v : Value => Row b 172 [A, v, C, D]]
  | 2 => [ex fun v : Value × Value => Row b 172 [A, v.1, C, v.2]]
  | _ => []
theorem levF_step (b : Nat) (A B C D : Value) : ∀ k, Ent W (levF b A B C D k) (levF b A B C D (k + 1))
  | 0 => fun w hw => Holds.exShut (P := fun v : Value => Row b 172 [A, v, C, D]) B hw
  | 1 => fun w hw => by
    obtain ⟨v, h⟩ := hw.exOpen
    exact Holds.exShut (P := fun v : Value × Value => Row b 172 [A, v.1, C, v.2]) (v, D) h
  | 2 => fun w hw => hw.tail
  | _ + 3 => fun w hw => hw
abbrev TxnE.T (t : TxnE) : Nat × List PatD := (t.seq, t.pats.map PatE.D)
def badM (data : List UInt8) (c : ChkD) : Prop := c.enc.1 ≠ 0 \/ data.length % 128 ≠ 0 \/ data.length / 128 < 5 \/ 2048 < data.length / 128 \/ ((data.length / 128 : Nat) : Int) <= c.tail
instance (data : List UInt8) (c : ChkD) : Decidable (badM data c) := by unfold badM; exact inferInstance
theorem of_ok {ao : Option Addr} {cap : Nat} {data : List UInt8} (hr : Rds W R 1 ao data.length (bytes data)) (hcap : data.length <= cap) (hlen : data.length <= 140737488351232) (c : ChkD) (hf : c.fit) :
    Does W Tryz.prog 96 [.slice ao data.length cap, .agg c.cells.toArray] R (β := (Option Addr × Nat) × List TxnE) (fun y => y.2.map TxnE.T = (foundM data c).2.txns)
      (fun y => .tuple #[.agg [.slice y.1.1 y.2.length y.1.2, .int .u64 ((foundM data c).2.next : Int), .int .i64 ((foundM data c).2.head : Int), .int .i64 ((foundM data c).2.used : Int)].toArray, .int .u16 (foundM data c).1]) (fun y => TxnsO y.1 y.2 :: PilT y.2 :: R) := by
  (refine Does.enter Tryz.func96 Tryz.ntmps96 rfl rfl ?_)
  refine w ?_; repeat (refine zj fun _ => ?_; refine w ?_)
  rename_i n3
  refine zq ?_; refine OpV.allocS sb_172 rfl ?_; intro n4
  refine w ?_; repeat (refine zj fun _ => ?_; refine w ?_)
  (refine zq ?_; refine zy rfl rfl (encs_ok c hf) ?_)
  rintro ⟨ea, ec⟩ -
  refine w ?_; repeat (refine zj fun _ => ?_; refine w ?_)
  refine VC.ent (H' := Row n4 172 [.slice none 0 0, .int .u64 0, .int .i64 0, .int .i64 0] :: Row n3 98 c.cells :: R) Ent.re ?_
  refine VC.joinH [(43, .bool (decide (badM data c))), (3, .pointer (some ⟨n3, 0, none⟩)), (4, .pointer (some ⟨n4, 0, none⟩)), (6, .slice ao data.length cap)] ?_ ?_
  · intro Q2 jn
    (refine VC.drawn [10, 15, 22] 23 [0, 1, 2, 3, 4, 5, 6, 7, 8, 9, 10, 11, 12, 13, 14, 15, 16, 17, 18, 19, 20, 21, 22, 23, 24] _ rfl (by kernel_rfl) (by kernel_rfl) Ent.re ?_)
    refine w ?_; repeat (refine zj fun _ => ?_; refine w ?_)
    refine zg ?_ ?_ <;> intro hb
    · have hz : badM data c := .inl (by simpa using hb)
      refine w ?_; repeat (refine zj fun _ => ?_; refine w ?_)
      exact jn.to () trivial ⟨asV rfl (by simp [hz]), rfl, rfl, rfl, trivial⟩ Ent.re
    have b1 : c.enc.1 = 0 := by simpa using hb
    clear hb
    refine w ?_; repeat (refine zj fun _ => ?_; refine w ?_)
    ((first | apply VO.pure rfl rfl | apply VQ.pure rfl rfl | apply VD.take rfl rfl rfl | (refine VD.end rfl rfl rfl ?_; apply OpV.pure)); exact PureAt.rem (a := data.length) (b := 128) rfl rfl (by decide); rfl)
    refine w ?_; repeat (refine zj fun _ => ?_; refine w ?_)
    refine zg ?_ ?_ <;> intro hb
    · have hz : badM data c := .inr (.inl (by have := hb; simp at this; omega))
      refine w ?_; repeat (refine zj fun _ => ?_; refine w ?_)
      exact jn.to () trivial ⟨asV rfl (by simp [hz]), rfl, rfl, rfl, trivial⟩ Ent.re
    have b2 : data.length % 128 = 0 := by have := hb; simp at this; omega
    have hnn : data.length = data.length / 128 * 128 := by omega
    clear hb
    refine w ?_; repeat (refine zj fun _ => ?_; refine w ?_)
    (refine zq ?_; refine zy rfl rfl (size_ok hnn (by omega)) ?_)
    intro _ _
    refine ⟨Ent.re, ?_⟩
    refine w ?_; repeat (refine zj fun _ => ?_; refine w ?_)
    refine zg ?_ ?_ <;> intro hb
    · have hz : badM data c := .inr (.inr (.inl (by have := hb; simp at this; omega)))
      refine w ?_; repeat (refine zj fun _ => ?_; refine w ?_)
      exact jn.to () trivial ⟨asV rfl (by simp [hz]), rfl, rfl, rfl, trivial⟩ Ent.re
    have b3 : ¬ data.length / 128 < 5 := by have := hb; simp at this; omega
    clear hb
    refine w ?_; repeat (refine zj fun _ => ?_; refine w ?_)
    (refine zq ?_; refine zy rfl rfl (size_ok hnn (by omega)) ?_)
    intro _ _
    refine ⟨Ent.re, ?_⟩
    refine w ?_; repeat (refine zj fun _ => ?_; refine w ?_)
    refine zg ?_ ?_ <;> intro hb
    · have hz : badM data c := .inr (.inr (.inr (.inl (by have := hb; simp at this; omega))))
      refine w ?_; repeat (refine zj fun _ => ?_; refine w ?_)
      exact jn.to () trivial ⟨asV rfl (by simp [hz]), rfl, rfl, rfl, trivial⟩ Ent.re
    have b4 : ¬ 2048 < data.length / 128 := by have := hb; simp at this; omega
    clear hb
    refine w ?_; repeat (refine zj fun _ => ?_; refine w ?_)
    (refine zq ?_; refine zy rfl rfl (size_ok hnn (by omega)) ?_)
    intro _ _
    refine ⟨Ent.re, ?_⟩
    refine w ?_; repeat (refine zj fun _ => ?_; refine w ?_)
    refine jn.to () trivial ⟨asV rfl (by
      congr 1; rw [Bool.eq_iff_iff]; unfold badM; simp only [b1, b2, b3, b4, decide_eq_true_iff, ne_eq, not_true_eq_false, false_or]), rfl, rfl, rfl, trivial⟩ Ent.re
  refine w ?_; repeat (refine zj fun _ => ?_; refine w ?_)
  refine zk ?_ ?_ <;> intro hc
  · have hz : foundM data c = (1, ⟨[], 0, 0, 0⟩) := if_pos (of_decide_eq_true hc)
    refine w ?_; repeat (refine zj fun _ => ?_; refine w ?_)
    (apply VO.pure rfl rfl; apply PureAt.build sb_172 (pv := []) rfl; rfl; rfl)
    refine w ?_; repeat (refine zj fun _ => ?_; refine w ?_)
    refine zq ?_
    refine OpV.stA (vs := [.slice none 0 0, .int .u64 0, .int .i64 0, .int .i64 0]) tab_ok rfl rfl rfl rfl (by simp [Value.oneCell']) zh (by simp) ?_
    refine w ?_; repeat (refine zj fun _ => ?_; refine w ?_)
    refine VE.results2 (.inl rfl) ((none, 0), []) rfl (ResIs.agg (vs := [.slice none 0 0, .int .u64 0, .int .i64 0, .int .i64 0]) tab_ok rfl rfl (.head _) rfl rfl) (.tmp rfl) (by rw [hz]; rfl) (by rw [hz]; rfl) ?_
    exact Ent.trans (Ent.re (L := R)) (fun w hw => (pile_nil (res := TxnE.res) hw).ownNil _ _)
  have hnb : ¬ badM data c := of_decide_eq_false hc
  clear hc
  obtain ⟨n, hn⟩ : ∃ n, n = data.length / 128 := ⟨_, rfl⟩
  have hfnd : foundM data c = (0, ⟨ofM (secB data) n c.epoch (n + 1) c.seq 0 c.tail.toNat, c.seq + (ofM (secB data) n c.epoch (n + 1) c.seq 0 c.tail.toNat).length, (c.tail.toNat + costT (ofM (secB data) n c.epoch (n + 1) c.seq 0 c.tail.toNat)) % n, costT (ofM (secB data) n c.epoch (n + 1) c.seq 0 c.tail.toNat)⟩) := by
    rw [hn]; exact if_neg hnb
  have hen : c.enc.1 = 0 := Decidable.byContradiction fun q => hnb (.inl q)
  have hgood : c.good := by
    by_cases g : c.good
    · exact g
    · rw [chk_bad g] at hen; cases hen
  have hct := (chk_iff c).1 hgood
  have b2 : data.length % 128 = 0 := Decidable.byContradiction fun q => hnb (.inr (.inl q))
  have b3 : ¬ n < 5 := fun q => hnb (.inr (.inr (.inl (hn ▸ q))))
  have b4 : ¬ 2048 < n := fun q => hnb (.inr (.inr (.inr (.inl (hn ▸ q)))))
  have b5 : ¬ (n : Int) <= c.tail := fun q => hnb (.inr (.inr (.inr (.inr (hn ▸ q)))))
  have hdn : data.length = n * 128 := by omega
  obtain ⟨tl, htl⟩ : ∃ tl : Nat, c.tail = tl := ⟨c.tail.toNat, by omega⟩
  rw [htl, Int.toNat_natCast] at hfnd
  obtain ⟨la, rfl⟩ : ∃ a, ao = some a := by cases ao with | none => have := hr.nil rfl; omega | some a => exact ⟨a, rfl⟩
  refine w ?_; repeat (refine zj fun _ => ?_; refine w ?_)
  ((first | apply VO.pure rfl rfl | apply VD.take rfl rfl rfl | (refine VD.end rfl rfl rfl ?_; apply OpV.pure)); apply PureAt.build sb_172 rfl; (simp [buildX, setL, Value.cells]; rfl); rfl)
  refine zq ?_; refine OpV.allocS sb_172 rfl ?_; intro n9
  refine w ?_; repeat (refine zj fun _ => ?_; refine w ?_)
  refine zq ?_
  refine OpV.stA (vs := [.slice none 0 0, .int .u64 c.seq, .int .i64 c.tail, .int .i64 0]) tab_ok rfl rfl rfl rfl (by simp [Value.oneCell']) zh (by simp) ?_
  refine w ?_; repeat (refine zj fun _ => ?_; refine w ?_)
  refine VC.loop (α := List TxnE × (Option Addr × Nat) × Nat) (fun y => ofM (secB data) n c.epoch (n + 1) c.seq 0 tl = y.1.map TxnE.T ++ ofM (secB data) n c.epoch y.2.2 (c.seq + y.1.length) (costT (y.1.map TxnE.T)) ((tl + costT (y.1.map TxnE.T)) % n) /\ costT (y.1.map TxnE.T) <= n /\ n < costT (y.1.map TxnE.T) + y.2.2 /\ y.1.length <= costT (y.1.map TxnE.T))
    (fun y => Row n9 172 [.slice y.2.1.1 y.1.length y.2.1.2, .int .u64 ((c.seq + y.1.length : Nat) : Int), .int .i64 (((tl + costT (y.1.map TxnE.T)) % n : Nat) : Int), .int .i64 ((costT (y.1.map TxnE.T) : Nat) : Int)] :: TxnsO y.2.1 y.1 :: PilT y.1 :: Row n4 172 [.slice none 0 0, .int .u64 0, .int .i64 0, .int .i64 0] :: Row n3 98 c.cells :: R)
    (fun y => [(3, .pointer (some ⟨n3, 0, none⟩)), (4, .pointer (some ⟨n4, 0, none⟩)), (6, .slice (some la) (n * 128) cap), (9, .pointer (some ⟨n9, 0, none⟩))]) (fun y => y.2.2) rfl ([], (none, 0), n + 1) ?_ ?_ ⟨rfl, rfl, asV rfl (by rw [hdn]), rfl, trivial⟩ ?_
  · have h1 : tl % n = tl := Nat.mod_eq_of_lt (by omega)
    refine ⟨?_, Nat.zero_le _, by show n < 0 + (n + 1); omega, Nat.zero_le _⟩
    show _ = [] ++ ofM (secB data) n c.epoch (n + 1) (c.seq + 0) 0 ((tl + 0) % n)
    rw [List.nil_append]; simp only [Nat.add_zero]; rw [h1]
  · have h1 : tl % n = tl := Nat.mod_eq_of_lt (by omega)
    dsimp only
    rw [show (tl + costT (([] : List TxnE).map TxnE.T)) % n = tl from h1, <- htl]
    exact Ent.trans (fun w hw => (pile_nil (res := TxnE.res) hw).ownNil 87 2) Ent.re
  rintro ⟨l, x, f⟩ ⟨hof, hus, hfu, hll⟩
  dsimp only at hof hus hfu hll ⊢
  have hr' : Rds W R 1 (some la) (n * 128) (bytes data) := hdn ▸ hr
  refine w ?_; repeat (refine zj fun _ => ?_; refine w ?_)
  refine zk ?_ ?_ <;> intro hc
  · have hmx : c.seq + l.length <= 4611686018427387904 := by have := of_decide_eq_true hc; omega
    clear hc
    have hhd : (tl + costT (l.map TxnE.T)) % n < n := Nat.mod_lt _ (by omega)
    refine w ?_; repeat (refine zj fun _ => ?_; refine w ?_)
    refine VC.drawnX [4, 12, 16, 17] 18 16 [0, 1, 2, 3, 5, 6, 8, 9, 10, 11, 4, 7, 12, 13, 14, 15, 16, 17, 18] _ 10 (fun b => Row b 87 [.int .u64 0, .slice none 0 0]) (fun b => .pointer (some ⟨b, 0, none⟩)) rfl (by kernel_rfl) (by kernel_rfl) Ent.refl ?_
    (repeat (apply VX.take rfl rfl rfl rfl; (exact zp); rfl; rfl; rfl))
    (refine VX.call rfl rfl rfl rfl rfl rfl (fun _ _ => by simp) (fun L hL => size_ok rfl (by omega)) rfl (FloatX.alloc sb_87 rfl) Ent.refl rfl rfl rfl ?_)
    (repeat (apply VX.take rfl rfl rfl rfl; (exact zp); rfl; rfl; rfl))
    refine VX.re 61 (.int .i64 ((n - costT (l.map TxnE.T) : Nat) : Int)) rfl (by congr 1; omega) rfl rfl ?_
    have hE : Ent W (Row n9 172 [.slice x.1 l.length x.2, .int .u64 ((c.seq + l.length : Nat) : Int), .int .i64 (((tl + costT (l.map TxnE.T)) % n : Nat) : Int), .int .i64 ((costT (l.map TxnE.T) : Nat) : Int)] :: TxnsO x l :: PilT l :: Row n4 172 [.slice none 0 0, .int .u64 0, .int .i64 0, .int .i64 0] :: Row n3 98 c.cells :: R) R := Ent.re
    refine VX.callD (S := fun t : TxnE => [PatsO (t.ao, t.cap) t.pats, PilP t.pats]) rfl rfl rfl rfl rfl rfl (fun _ _ => by simp)
      (fun L hL => batch_ok (R := L) (by omega) (by omega) ((tl + costT (l.map TxnE.T)) % n) (n - costT (l.map TxnE.T)) c.epoch (c.seq + l.length) hhd (by omega) hf.epoch (by omega) hdn (hr'.ent (Ent.trans hL hE)) (rotF (secB data) n ((tl + costT (l.map TxnE.T)) % n)) (fun i => by unfold rotF secB; rw [Nat.mul_comm])) rfl (FloatX.alloc sb_87 rfl) Ent.refl rfl rfl rfl ?_
    rintro t ⟨hts, htp⟩
    (repeat (apply VX.take rfl rfl rfl rfl; (exact zp); rfl; rfl; rfl))
    refine VX.float rfl rfl (FloatX.alloc sb_87 rfl) Ent.re ?_
    intro n10
    refine VD.mid rfl rfl rfl ?_
    refine OpV.stA (vs := t.cells) tab_ok rfl rfl rfl rfl (txn_one _) zh (by simp) ?_
    refine ⟨Ent.re, ?_⟩
    refine w ?_; repeat (refine zj fun _ => ?_; refine w ?_)
    cases hbm : batM (rotF (secB data) n ((tl + costT (l.map TxnE.T)) % n)) (n - costT (l.map TxnE.T)) c.epoch (c.seq + l.length) with
    | none =>
      have hfull : ofM (secB data) n c.epoch (n + 1) c.seq 0 tl = l.map TxnE.T := by rw [hof, of_none hbm]; exact List.append_nil _
      refine w ?_; repeat (refine zj fun _ => ?_; refine w ?_)
      refine zq ?_
      refine OpV.stA (vs := [.slice x.1 l.length x.2, .int .u64 ((c.seq + l.length : Nat) : Int), .int .i64 (((tl + costT (l.map TxnE.T)) % n : Nat) : Int), .int .i64 ((costT (l.map TxnE.T) : Nat) : Int)]) tab_ok rfl rfl rfl rfl (by simp [Value.oneCell']) zh (by simp) ?_
      refine w ?_; repeat (refine zj fun _ => ?_; refine w ?_)
      refine VE.results2 (.inl rfl) (x, l) rfl (ResIs.agg (vs := [.slice x.1 l.length x.2, .int .u64 ((c.seq + l.length : Nat) : Int), .int .i64 (((tl + costT (l.map TxnE.T)) % n : Nat) : Int), .int .i64 ((costT (l.map TxnE.T) : Nat) : Int)]) tab_ok rfl rfl zm rfl rfl) (.tmp rfl) (by rw [hfnd]; exact hfull.symm) (by rw [hfnd]; simp only [hfull, List.length_map]) ?_
      exact Ent.re
    | some lp =>
      have htd := htp lp hbm
      have hbr := bat_room hbm
      have hpl : t.pats.length = lp.length := by rw [<- htd, List.length_map]
      refine w ?_; repeat (refine zj fun _ => ?_; refine w ?_)
      refine VO.re 78 (.agg t.cells.toArray) rfl (by simp) ?_
      refine zq ?_
      refine OpV.buildSlice (cs := t.cells) st_81 rfl rfl (by simp [Value.cells]) (by simp [Value.cells]) (by decide) rfl ?_
      intro nc
      refine zq ?_
      refine OpV.appendRow st_81 rfl rfl zh zm rfl (txn_one _) (by simp only [maxLen]; omega) (by omega) rfl ?_
      intro so sc
      refine w ?_; repeat (refine zj fun _ => ?_; refine w ?_)
      refine VC.ent (H' := Row n9 172 [.slice so (l.length + 1) sc, .int .u64 ((c.seq + l.length : Nat) : Int), .int .i64 (((tl + costT (l.map TxnE.T)) % n : Nat) : Int), .int .i64 ((costT (l.map TxnE.T) : Nat) : Int)] :: Sl.Own 87 2 (.slice so (l.length + 1) sc) (l.length + 1) (txnCells l ++ t.cells) :: PilT l :: PatsO (t.ao, t.cap) t.pats :: PilP t.pats :: Row n4 172 [.slice none 0 0, .int .u64 0, .int .i64 0, .int .i64 0] :: Row n3 98 c.cells :: R) Ent.re ?_
      have hlen2 : t.pats.length <= 1023 := by omega
      refine VC.drawnL (levF n9 (.slice so (l.length + 1) sc) (.int .u64 ((c.seq + l.length : Nat) : Int)) (.int .i64 (((tl + costT (l.map TxnE.T)) % n : Nat) : Int)) (.int .i64 ((costT (l.map TxnE.T) : Nat) : Int))) [12, 15, 17, 19] [(15, 1), (17, 2), (19, 3)] [(1, 0), (4, 1), (8, 2)] 3 [0, 1, 2, 3, 4, 5, 6, 7, 8, 9, 10, 11, 14, 12, 13, 15, 16, 17, 18, 19] rfl (by kernel_rfl) (by kernel_rfl) Ent.re (levF_step _ _ _ _ _) ?_
      (apply VL.take rfl rfl rfl 3 rfl; (exact zp); rfl)
      apply VL.take rfl rfl rfl 0 rfl
      · exact PureAt.ld tab_ok rfl rfl (.head _) rfl
      · rfl
      (apply VL.take rfl rfl rfl 3 rfl; (exact zp); rfl)
      refine VL.re 84 (.int .u64 (((c.seq + l.length : Nat) : Int) + 1)) rfl (by rw [IntWalk.u64_in _ ⟨by omega, by omega⟩]) ?_
      (apply VL.take rfl rfl rfl 3 rfl; (exact zp); rfl)
      apply VL.take rfl rfl rfl 1 rfl
      · exact pureEx fun v => PureAt.ld tab_ok rfl rfl (.head _) rfl
      · rfl
      (apply VL.take rfl rfl rfl 3 rfl; (exact zp); rfl)
      (apply VL.take rfl rfl rfl 3 rfl; (exact zp); rfl)
      (apply VL.take rfl rfl rfl 3 rfl; (exact zp); rfl)
      apply VL.take rfl rfl rfl 2 rfl
      · exact pureEx fun v => PureAt.ld tab_ok rfl rfl (.head _) rfl
      · rfl
      (apply VL.take rfl rfl rfl 3 rfl; (exact zp); rfl)
      (apply VL.take rfl rfl rfl 3 rfl; (exact zp); rfl)
      (apply VL.take rfl rfl rfl 3 rfl; (exact zp); rfl)
      (apply VL.take rfl rfl rfl 3 rfl; (exact zp); rfl)
      refine VL.mid rfl rfl rfl 0 rfl ?_
      refine zy rfl rfl (size_ok rfl (by omega)) ?_
      intro _ _
      refine ⟨(show Ent W _ [Row n9 172 [.slice so (l.length + 1) sc, .int .u64 ((c.seq + l.length : Nat) : Int), .int .i64 (((tl + costT (l.map TxnE.T)) % n : Nat) : Int), .int .i64 ((costT (l.map TxnE.T) : Nat) : Int)]] from Ent.re), ?_⟩
      apply VL.take rfl rfl rfl 3 rfl
      · exact PureAt.rem (a := (tl + costT (l.map TxnE.T)) % n + (2 * t.pats.length + 1)) (b := n) rfl rfl (by omega)
      · rfl
      refine VL.mid rfl rfl rfl 1 rfl ?_
      apply OpV.st tab_ok rfl rfl rfl rfl zh (by simp)
      refine ⟨Ent.trans (Ent.re (L := [Row n9 172 [.slice so (l.length + 1) sc, .int .u64 (((c.seq + l.length : Nat) : Int) + 1), .int .i64 (((tl + costT (l.map TxnE.T)) % n : Nat) : Int), .int .i64 ((costT (l.map TxnE.T) : Nat) : Int)]])) (fun w hw => Holds.exShut (P := fun v : Value => Row n9 172 [.slice so (l.length + 1) sc, v, .int .i64 (((tl + costT (l.map TxnE.T)) % n : Nat) : Int), .int .i64 ((costT (l.map TxnE.T) : Nat) : Int)]) _ hw), ?_⟩
      (apply VL.take rfl rfl rfl 3 rfl; (exact zp); rfl)
      refine VL.mid rfl rfl rfl 2 rfl ?_
      apply OpV.st tab_ok rfl rfl rfl rfl zh (by simp)
      refine ⟨Ent.trans (Ent.re (L := [Row n9 172 [.slice so (l.length + 1) sc, .int .u64 (((c.seq + l.length : Nat) : Int) + 1), .int .i64 (((tl + costT (l.map TxnE.T)) % n : Nat) : Int), .int .i64 (((costT (l.map TxnE.T) : Nat) : Int) + (2 * (t.pats.length : Int) + 1))]])) (fun w hw => Holds.exShut (P := fun v : Value × Value => Row n9 172 [.slice so (l.length + 1) sc, v.1, .int .i64 (((tl + costT (l.map TxnE.T)) % n : Nat) : Int), v.2]) (.int .u64 (((c.seq + l.length : Nat) : Int) + 1), .int .i64 (((costT (l.map TxnE.T) : Nat) : Int) + (2 * (t.pats.length : Int) + 1))) hw), ?_⟩
      (apply VL.take rfl rfl rfl 3 rfl; (exact zp); rfl)
      refine VL.mid rfl rfl rfl 3 rfl ?_
      apply OpV.st tab_ok rfl rfl rfl rfl zh (by simp)
      refine ⟨(show Ent W _ [] from Ent.re), ?_⟩
      refine VL.nil ?_
      refine w ?_; repeat (refine zj fun _ => ?_; refine w ?_)
      have hT : (l ++ [t]).map TxnE.T = l.map TxnE.T ++ [(c.seq + l.length, lp)] := by rw [List.map_append, List.map_cons, List.map_nil]; unfold TxnE.T; rw [hts, htd]
      have hcost : costT ((l ++ [t]).map TxnE.T) = costT (l.map TxnE.T) + (2 * lp.length + 1) := by rw [hT, costT_append, costT_cons]; simp [costT]
      obtain ⟨g, rfl⟩ : ∃ g, f = g + 1 := ⟨f - 1, by omega⟩
      have hmod : ((tl + costT (l.map TxnE.T)) % n + (2 * lp.length + 1)) % n = (tl + (costT (l.map TxnE.T) + (2 * lp.length + 1))) % n := by rw [Nat.mod_add_mod, Nat.add_assoc]
      refine VE.round (l ++ [t], (so, sc), g) ⟨?_, ?_, ?_, ?_⟩ (by simp only; omega) ⟨rfl, rfl, rfl, rfl, trivial⟩ ?_
      · simp only
        rw [hcost, hT, hof, List.length_append, List.length_singleton, ofM, if_pos hmx, hbm]
        dsimp only
        rw [List.append_assoc, List.singleton_append, hmod, Nat.add_assoc c.seq]
      · simp only; rw [hcost]; omega
      · simp only; rw [hcost]; omega
      · simp only; rw [hcost, List.length_append, List.length_singleton]; omega
      dsimp only
      have e1 : (((c.seq + l.length : Nat) : Int) + 1) = ((c.seq + (l.length + 1) : Nat) : Int) := by omega
      have e2 : ((((tl + costT (l.map TxnE.T)) % n + (2 * t.pats.length + 1)) % n : Nat) : Int) = (((tl + (costT (l.map TxnE.T) + (2 * lp.length + 1))) % n : Nat) : Int) := by rw [hpl, hmod]
      have e3 : (((costT (l.map TxnE.T) : Nat) : Int) + (2 * (t.pats.length : Int) + 1)) = ((costT (l.map TxnE.T) + (2 * lp.length + 1) : Nat) : Int) := by rw [hpl]; omega
      refine Ent.trans (Ent.re (L := PatsO (t.ao, t.cap) t.pats :: PilP t.pats :: PilT l :: Row n9 172 [.slice so (l.length + 1) sc, .int .u64 (((c.seq + l.length : Nat) : Int) + 1), .int .i64 ((((tl + costT (l.map TxnE.T)) % n + (2 * t.pats.length + 1)) % n : Nat) : Int), .int .i64 (((costT (l.map TxnE.T) : Nat) : Int) + (2 * (t.pats.length : Int) + 1))] :: Sl.Own 87 2 (.slice so (l.length + 1) sc) (l.length + 1) (txnCells l ++ t.cells) :: Row n4 172 [.slice none 0 0, .int .u64 0, .int .i64 0, .int .i64 0] :: Row n3 98 c.cells :: R)) ?_
      refine Ent.trans (fun w hw => pile_push (res := TxnE.res) (TxnE.shut t hw)) ?_
      rw [txnsO_one, hcost, List.length_append, List.length_singleton, <- e1, <- e2, <- e3]
      exact Ent.re
  · have hmx : ¬ c.seq + l.length <= 4611686018427387904 := by have := of_decide_eq_false hc; omega
    have hfull : ofM (secB data) n c.epoch (n + 1) c.seq 0 tl = l.map TxnE.T := by
      rw [hof]
      cases f with
      | zero => exact List.append_nil _
      | succ f => unfold ofM; rw [if_neg hmx]; exact List.append_nil _
    refine w ?_; repeat (refine zj fun _ => ?_; refine w ?_)
    refine zq ?_
    refine OpV.stA (vs := [.slice x.1 l.length x.2, .int .u64 ((c.seq + l.length : Nat) : Int), .int .i64 (((tl + costT (l.map TxnE.T)) % n : Nat) : Int), .int .i64 ((costT (l.map TxnE.T) : Nat) : Int)]) tab_ok rfl rfl rfl rfl (by simp [Value.oneCell']) zh (by simp) ?_
    refine w ?_; repeat (refine zj fun _ => ?_; refine w ?_)
    refine VE.results2 (.inl rfl) (x, l) rfl (ResIs.agg (vs := [.slice x.1 l.length x.2, .int .u64 ((c.seq + l.length : Nat) : Int), .int .i64 (((tl + costT (l.map TxnE.T)) % n : Nat) : Int), .int .i64 ((costT (l.map TxnE.T) : Nat) : Int)]) tab_ok rfl rfl zm rfl rfl) (.tmp rfl) (by rw [hfnd]; exact hfull.symm) (by rw [hfnd]; simp only [hfull, List.length_map]) ?_
    exact Ent.re
theorem chk_fine {e s t : Nat} (he : e <= 4611686018427387904) (hs : 1 <= s /\ s <= 4611686018427387904) (ht : t <= 2047) : (ChkD.mk e s t).enc.1 = 0 := by
 rw [chk_ok ((chk_iff _).2 ⟨⟨he, hs.1, hs.2⟩, by simp only; omega, by simp only; omega⟩)]
theorem found_good {ring : List UInt8} {n e s t : Nat} (hl : ring.length = 128 * n) (hn : 5 <= n /\ n <= 2048) (he : e <= 4611686018427387904) (hs : 1 <= s /\ s <= 4611686018427387904) (ht : t < n) :
  foundM ring ⟨e, s, t⟩ = (0, ⟨ofM (secB ring) n e (n + 1) s 0 t, s + (ofM (secB ring) n e (n + 1) s 0 t).length, (t + costT (ofM (secB ring) n e (n + 1) s 0 t)) % n, costT (ofM (secB ring) n e (n + 1) s 0 t)⟩) := by
 have hd : ring.length / 128 = n := by omega
 unfold foundM
 rw [if_neg, hd]
 · rfl
 ·
  rintro (h | h | h | h | h)
  · exact h (chk_fine he hs (by omega))
  · omega
  · omega
  · omega
  · simp only at h; omega
theorem found_facts {data : List UInt8} {c : ChkD} (h : (foundM data c).1 = 0) : ∃ n tl : Nat, data.length = n * 128 /\ (5 <= n /\ n <= 2048) /\ c.tail = tl /\ tl < n /\ c.good /\
  foundM data c = (0, ⟨ofM (secB data) n c.epoch (n + 1) c.seq 0 tl, c.seq + (ofM (secB data) n c.epoch (n + 1) c.seq 0 tl).length, (tl + costT (ofM (secB data) n c.epoch (n + 1) c.seq 0 tl)) % n, costT (ofM (secB data) n c.epoch (n + 1) c.seq 0 tl)⟩) := by
 have hnb : ¬ badM data c := fun q => by
  have : foundM data c = (1, ⟨[], 0, 0, 0⟩) := if_pos q
  rw [this] at h; cases h
 have hen : c.enc.1 = 0 := Decidable.byContradiction fun q => hnb (.inl q)
 have hgood : c.good := by
  by_cases g : c.good
  · exact g
  · rw [chk_bad g] at hen; cases hen
 have hct := (chk_iff c).1 hgood
 have b2 : data.length % 128 = 0 := Decidable.byContradiction fun q => hnb (.inr (.inl q))
 have b3 : ¬ data.length / 128 < 5 := fun q => hnb (.inr (.inr (.inl q)))
 have b4 : ¬ 2048 < data.length / 128 := fun q => hnb (.inr (.inr (.inr (.inl q))))
 have b5 : ¬ ((data.length / 128 : Nat) : Int) <= c.tail := fun q => hnb (.inr (.inr (.inr (.inr q))))
 have hf : foundM data c = (0, ⟨ofM (secB data) (data.length / 128) c.epoch (data.length / 128 + 1) c.seq 0 c.tail.toNat, c.seq + (ofM (secB data) (data.length / 128) c.epoch (data.length / 128 + 1) c.seq 0 c.tail.toNat).length, (c.tail.toNat + costT (ofM (secB data) (data.length / 128) c.epoch (data.length / 128 + 1) c.seq 0 c.tail.toNat)) % (data.length / 128), costT (ofM (secB data) (data.length / 128) c.epoch (data.length / 128 + 1) c.seq 0 c.tail.toNat)⟩) := if_neg hnb
 exact ⟨data.length / 128, c.tail.toNat, by omega, by omega, by omega, by omega, hgood, hf⟩
end Go.Proofs.YtdbhpikmagkopaaGreat
/-! Text Nk. -/
namespace Go.Proofs.YtdbhpikmagkopaaGreat
end Go.Proofs.YtdbhpikmagkopaaGreat
/-! Text Nl. -/
namespace Go.Proofs.YtdbhpikmagkopaaGreat
open Go.RowKit Go.Sl
attribute [local irreducible] Own
variable {W : World} {R : List SProp}
structure Lays (sec : SecF) (n e s at_ : Nat) (ls : List (List PatD)) : Prop where
  fine : FineL e s ls
  cost : costL ls <= n
  sec : ∀ j, j < costL ls -> (flatR e s ls)[j]? = some (sec ((at_ + j) % n))
theorem FineL.rows {e s : Nat} {ls : List (List PatD)} (h : FineL e s ls) : ∀ r ∈ flatR e s ls, r.length = 128 := by
  induction ls generalizing s with
  | nil => intro r hr; cases hr
  | cons l ls ih =>
    intro r hr
    rw [flatR, List.mem_append] at hr
    rcases hr with hr | hr
    · exact rowsP_128 (h 0 (by simp)) r hr
    · refine ih (fun k hk => ?_) r hr
      have := h (k + 1) (by simpa using hk)
      rw [show s + (k + 1) = s + 1 + k by omega] at this
      simpa using this
variable {sec was : SecF} {n e s at_ : Nat} {ls : List (List PatD)}
theorem Lays.found (h : Lays sec n e s at_ ls) {k : Nat} (hk : k < ls.length) : s + k <= mostC /\ batM (rotF sec n (at_ + costL (ls.take k))) (n - (0 + costL (ls.take k))) e (s + k) = some ls[k] :=
 laid_found h.fine h.cost h.sec k hk
theorem Lays.all (h : Lays sec n e s at_ ls) : (ofM sec n e (n + 1) s 0 at_).take ls.length = numb s ls := by
 rw [of_laid h.fine h.cost h.sec (by have := costL_len ls; have := h.cost; omega), List.take_left' (numb_length ls s)]
theorem Lays.other (h : Lays sec n e s at_ ls) (hl : ls ≠ []) (e' : Nat) (he : e' ≠ e) (hat : at_ < n) : ofM sec n e' (n + 1) s 0 at_ = [] := by
 have h0 : 0 < ls.length := List.length_pos_iff.2 hl
 have := (h.found h0).2
 rw [List.take_zero, show costL [] = 0 from rfl, Nat.add_zero, Nat.add_zero] at this
 exact of_none (bat_other this (.inl he))
theorem bat_congr {sec was : SecF} {room room' e s : Nat} {l : List PatD} (h : batM sec room e s = some l) (hr : 2 * l.length + 1 <= room') (hw : ∀ j, j < 2 * l.length + 1 -> was j = sec j) : batM was room' e s = some l := by
 obtain ⟨a, b, c⟩ := (bat_iff _ _ _ _ _).1 h
 exact (bat_iff _ _ _ _ _).2 ⟨a, hr, fun j hj => by rw [c j hj, hw j hj]⟩
theorem Lays.hurt (h : Lays sec n e s at_ ls) {bad m : Nat} {z : List UInt8} (hm : m < ls.length) (h1 : costL (ls.take m) <= bad) (h2 : bad < costL (ls.take m) + (2 * (ls[m]'hm).length + 1)) (hz : z.take 4 ≠ magicL)
  (hw : ∀ j, was j = if j = (at_ + bad) % n then z else sec j) (hu : (crcS (sec ((at_ + bad) % n))).toNat ≠ (crcS z).toNat) : ofM was n e (n + 1) s 0 at_ = numb s (ls.take m) := by
 have hall := costL_take_le ls m hm
 have hcost := h.cost
 have hlen : (ls.take m).length = m := by rw [List.length_take]; omega
 have hlenc := costL_len ls
 have hmono : ∀ k, k < m -> costL (ls.take k) + (2 * (ls[k]?.getD []).length + 1) <= costL (ls.take m) := by
  intro k hk
  have h3 := costL_take_le (ls.take m) k (by omega)
  rw [List.take_take, show min k m = k by omega] at h3
  rw [List.getElem?_eq_getElem (by omega), Option.getD_some]
  simpa using h3
 have hsec : ∀ (k j : Nat), k <= m -> costL (ls.take k) + j < n -> costL (ls.take k) + j ≠ bad -> rotF was n (at_ + costL (ls.take k)) j = rotF sec n (at_ + costL (ls.take k)) j := by
  intro k j hk hj hne
  unfold rotF
  rw [hw, if_neg]
  intro q
  rw [Nat.add_assoc] at q
  exact hne (mod_inj hj (by omega) q)
 have hpre : ∀ (k : Nat) (hk : k < (ls.take m).length), s + k <= mostC /\ batM (rotF was n (at_ + costL ((ls.take m).take k))) (n - (0 + costL ((ls.take m).take k))) e (s + k) = some (ls.take m)[k] := by
  intro k hk
  rw [hlen] at hk
  have hf := h.found (k := k) (by omega)
  have hb := bat_room hf.2
  have hk2 := hmono k hk
  rw [List.getElem?_eq_getElem (by omega), Option.getD_some] at hk2
  rw [List.take_take, show min k m = k by omega, List.getElem_take]
  refine ⟨hf.1, bat_congr hf.2 hb.1 fun j hj => hsec k j (by omega) (by omega) (by omega)⟩
 rw [of_prefix (ls.take m) (n + 1) s 0 at_ hpre (by omega), hlen]
 have hlast : ofM was n e (n + 1 - m) (s + m) (0 + costL (ls.take m)) (if ls.take m = [] then at_ else (at_ + costL (ls.take m)) % n) = [] := by
  refine of_none ?_
  have e1 : rotF was n (if ls.take m = [] then at_ else (at_ + costL (ls.take m)) % n) = rotF was n (at_ + costL (ls.take m)) := by
   split
   · rename_i q; rw [q]; rfl
   · exact rotF_mod ..
  rw [e1]
  refine hurt_none (j := bad - costL (ls.take m)) (z := z) (h.found hm).2 (by omega) hz ?_ ?_ ?_
  · unfold rotF; rw [hw, if_pos]; congr 1; omega
  ·
   intro i hi hne
   exact hsec m i (Nat.le_refl _) (by omega) (by omega)
  · unfold rotF; rw [show at_ + costL (ls.take m) + (bad - costL (ls.take m)) = at_ + bad by omega]; exact hu
 rw [hlast, List.append_nil]
theorem Lays.drop (h : Lays sec n e s at_ ls) (i : Nat) : Lays sec n e (s + i) ((at_ + costL (ls.take i)) % n) (ls.drop i) := by
 have hsum : costL (ls.take i) + costL (ls.drop i) = costL ls := by rw [<- costL_append, List.take_append_drop]
 refine ⟨fun k hk => ?_, by have := h.cost; omega, fun j hj => ?_⟩
 ·
  have := h.fine (i + k) (by rw [List.length_drop] at hk; omega)
  rw [List.getElem_drop, show s + i + k = s + (i + k) by omega]
  exact this
 ·
  have h1 := h.sec (costL (ls.take i) + j) (by omega)
  rw [Nat.mod_add_mod, Nat.add_assoc]
  rw [<- h1]
  have h2 := flatR_append e (ls.take i) (ls.drop i) s
  rw [List.take_append_drop] at h2
  by_cases hi : i <= ls.length
  ·
   rw [List.length_take, Nat.min_eq_left hi] at h2
   rw [h2, List.getElem?_append_right (by rw [flatR_length]; omega), flatR_length]
   congr 1; omega
  · rw [List.drop_eq_nil_of_le (by omega)] at hj; exact absurd hj (by simp [costL])
theorem Lays.just (h : Lays sec n e s at_ ls) (hz : ∀ j, costL ls <= j -> j < n -> (sec ((at_ + j) % n)).take 4 ≠ magicL) (hat : at_ < n) {i : Nat} (hi : i < ls.length) :
  ofM sec n e (n + 1) (s + i) 0 ((at_ + costL (ls.take i)) % n) = numb (s + i) (ls.drop i) := by
 have hd := h.drop i
 have hsum : costL (ls.take i) + costL (ls.drop i) = costL ls := by rw [<- costL_append, List.take_append_drop]
 have hne : ls.drop i ≠ [] := fun q => by have := congrArg List.length q; rw [List.length_drop] at this; simp at this; omega
 have hlenc := costL_len (ls.drop i)
 have hcost := h.cost
 rw [of_laid hd.fine hd.cost hd.sec (by omega), if_neg hne]
 have hlast : batM (rotF sec n (((at_ + costL (ls.take i)) % n + costL (ls.drop i)) % n)) (n - costL (ls.drop i)) e (s + i + (ls.drop i).length) = none := by
  rw [Nat.mod_add_mod, Nat.add_assoc, hsum, rotF_mod]
  by_cases hfull : costL ls < n
  ·
   refine bat_no (dec_nought ?_).1
   show (sec ((at_ + costL ls + 0) % n)).take 4 ≠ magicL
   exact hz (costL ls) (Nat.le_refl _) hfull
  ·
   have hn : costL ls = n := by omega
   rw [hn, <- rotF_mod, Nat.add_mod_right, rotF_mod]
   have h0 := (h.found (k := 0) (by omega)).2
   rw [List.take_zero, show costL [] = 0 from rfl, Nat.add_zero, Nat.add_zero] at h0
   refine bat_other h0 (.inr ?_)
   rw [List.length_drop]; omega
 rw [of_none hlast, List.append_nil]
instance : DecidableEq PatD := fun a b => decidable_of_iff (a.member = b.member /\ a.row = b.row /\ a.data = b.data) (by cases a; cases b; simp)
theorem some_of_pos {ao : Option Addr} {n : Nat} (h : ao = none -> n = 0) (hn : 0 < n) : ∃ a, ao = some a := by
 cases ao with
 | none => have := h rfl; omega
 | some a => exact ⟨a, rfl⟩
theorem samepats_ok {ao bo : Option Addr} {ac bc : Nat} {l m : List PatE} (hl : RdPats W R ao l) (hm : RdPats W R bo m) (hn : l.length <= 140737488351232) (hd : ∀ p ∈ l, p.d.data.length <= maxLen) :
  Does1 W Tryz.prog 134 [.slice ao l.length ac, .slice bo m.length bc] R (.bool (decide (l.map PatE.D = m.map PatE.D))) R := by
 (refine Does.enter Tryz.func134 Tryz.ntmps134 rfl rfl ?_)
 refine w ?_
 refine zk ?_ ?_ <;> intro hc
 ·
  have h : ¬ l.length = m.length := by have : ¬ (l.length : Int) = m.length := (by simpa using hc); omega
  refine w ?_
  refine VE.done1 rfl ?_ ?_
  · congr 1; symm; exact decide_eq_false (fun e => h (by have := congrArg List.length e; rwa [List.length_map, List.length_map] at this))
  · exact Ent.refl
 have h : l.length = m.length := by have : (l.length : Int) = m.length := (by simpa using hc); omega
 refine w ?_
 refine VC.loop (α := Nat) (fun i => i <= l.length /\ (l.map PatE.D).take i = (m.map PatE.D).take i) (fun _ => R) (fun i => [(0, .slice ao l.length ac), (1, .slice bo m.length bc), (5, .int .i64 i)]) (fun i => l.length - i) rfl 0 ⟨Nat.zero_le _, by simp⟩ Ent.refl ⟨rfl, rfl, rfl, trivial⟩ ?_
 rintro i ⟨hi, he⟩
 refine w ?_
 refine zk ?_ ?_ <;> intro hc
 ·
  have hlt : i < l.length := by have := of_decide_eq_true hc; omega
  have hlt2 : i < m.length := by omega
  obtain ⟨a, rfl⟩ := some_of_pos hl.rds.nil (by omega)
  obtain ⟨b, rfl⟩ := some_of_pos hm.rds.nil (by omega)
  have hno : l[i].D ≠ m[i].D -> Value.bool false = Value.bool (decide (l.map PatE.D = m.map PatE.D)) := fun hx => by
   congr 1; symm
   refine decide_eq_false (fun e => hx ?_)
   have h1 := congrArg (fun z => z[i]?) e
   simpa [List.getElem?_map, List.getElem?_eq_getElem hlt, List.getElem?_eq_getElem hlt2] using h1
  refine w ?_
  ((refine VC.quiet rfl (by kernel_rfl) (by kernel_rfl) ?_); refine w ?_)
  ((first | apply VO.pure rfl rfl | apply VQ.pure rfl rfl | apply VD.take rfl rfl rfl | (refine VD.end rfl rfl rfl ?_; apply OpV.pure)); exact PureAt.ldRc tab_ok rfl rfl hl.rds (pat_get l i 0 hlt (by decide)); rfl)
  refine w ?_
  ((first | apply VO.pure rfl rfl | apply VQ.pure rfl rfl | apply VD.take rfl rfl rfl | (refine VD.end rfl rfl rfl ?_; apply OpV.pure)); exact PureAt.ldRc tab_ok rfl rfl hm.rds (pat_get m i 0 hlt2 (by decide)); rfl)
  refine w ?_
  (refine VQ.split rfl rfl rfl ?_ ?_ <;> intro hb)
  ·
   refine w ?_
   refine VE.done1 rfl ?_ ?_
   · exact hno (fun e => by have := congrArg PatD.member e; simp [PatE.D] at this; simp [this] at hb)
   · exact Ent.refl
  refine w ?_
  ((first | apply VO.pure rfl rfl | apply VQ.pure rfl rfl | apply VD.take rfl rfl rfl | (refine VD.end rfl rfl rfl ?_; apply OpV.pure)); exact PureAt.ldRc tab_ok rfl rfl hl.rds (pat_get l i 1 hlt (by decide)); rfl)
  refine w ?_
  ((first | apply VO.pure rfl rfl | apply VQ.pure rfl rfl | apply VD.take rfl rfl rfl | (refine VD.end rfl rfl rfl ?_; apply OpV.pure)); exact PureAt.ldRc tab_ok rfl rfl hm.rds (pat_get m i 1 hlt2 (by decide)); rfl)
  have hm0 : l[i].member = m[i].member := by simpa using hb
  clear hb
  refine w ?_
  (refine VQ.split rfl rfl rfl ?_ ?_ <;> intro hb)
  ·
   refine w ?_
   refine VE.done1 rfl ?_ ?_
   · exact hno (fun e => by have := congrArg PatD.row e; simp [PatE.D] at this; simp [this] at hb)
   · exact Ent.refl
  have hr0 : l[i].row = m[i].row := by simpa using hb
  clear hb
  refine w ?_
  ((first | apply VO.pure rfl rfl | apply VQ.pure rfl rfl | apply VD.take rfl rfl rfl | (refine VD.end rfl rfl rfl ?_; apply OpV.pure)); exact PureAt.ldRc tab_ok rfl rfl hl.rds (pat_get l i 2 hlt (by decide)); rfl)
  refine w ?_
  ((first | apply VO.pure rfl rfl | apply VQ.pure rfl rfl | apply VD.take rfl rfl rfl | (refine VD.end rfl rfl rfl ?_; apply OpV.pure)); exact PureAt.ldRc tab_ok rfl rfl hm.rds (pat_get m i 2 hlt2 (by decide)); rfl)
  refine w ?_
  (refine VQ.call rfl rfl rfl rfl (fun _ _ => by simp) (same_any (hl.each _ (List.getElem_mem hlt)) (hm.each _ (List.getElem_mem hlt2)) (hd _ (List.getElem_mem hlt))) Ent.refl Ent.refl rfl ?_)
  refine w ?_
  refine zk ?_ ?_ <;> intro hc
  ·
   have hx : l[i].d.data ≠ m[i].d.data := by simpa using hc
   refine w ?_
   refine VE.done1 rfl ?_ ?_
   · exact hno (fun e => hx (congrArg PatD.data e))
   · exact Ent.refl
  ·
   have hx : l[i].d.data = m[i].d.data := by simpa using hc
   refine w ?_
   refine VE.round (i + 1) ⟨hlt, ?_⟩ (by omega) ⟨rfl, rfl, asV rfl (by congr 1), trivial⟩ Ent.refl
   rw [List.take_succ_eq_append_getElem (by simpa using hlt), List.take_succ_eq_append_getElem (by simpa using hlt2), he, List.getElem_map, List.getElem_map]
   congr 2
   unfold PatE.D
   rw [hm0, hr0, hx]
 ·
  have hge : i = l.length := by have := of_decide_eq_false hc; omega
  subst hge
  rw [List.take_of_length_le (by simp), List.take_of_length_le (by simp; omega)] at he
  refine w ?_
  refine VE.done1 rfl ?_ ?_
  · rw [he]; simp
  · exact Ent.refl
theorem sametxns_ok {ao bo : Option Addr} {ac bc : Nat} {l m : List TxnE} (hl : RdTxns W R ao l) (hm : RdTxns W R bo m) (hn : l.length <= 140737488351232) (hd : ∀ t ∈ l, t.pats.length <= 140737488351232 /\ ∀ p ∈ t.pats, p.d.data.length <= maxLen) :
  Does1 W Tryz.prog 85 [.slice ao l.length ac, .slice bo m.length bc] R (.bool (decide (l.map TxnE.T = m.map TxnE.T))) R := by
 (refine Does.enter Tryz.func85 Tryz.ntmps85 rfl rfl ?_)
 refine w ?_
 refine zk ?_ ?_ <;> intro hc
 ·
  have h : ¬ l.length = m.length := by have : ¬ (l.length : Int) = m.length := (by simpa using hc); omega
  refine w ?_
  refine VE.done1 rfl ?_ ?_
  · congr 1; symm; exact decide_eq_false (fun e => h (by have := congrArg List.length e; rwa [List.length_map, List.length_map] at this))
  · exact Ent.refl
 have h : l.length = m.length := by have : (l.length : Int) = m.length := (by simpa using hc); omega
 refine w ?_
 refine VC.loop (α := Nat) (fun i => i <= l.length /\ (l.map TxnE.T).take i = (m.map TxnE.T).take i) (fun _ => R) (fun i => [(0, .slice ao l.length ac), (1, .slice bo m.length bc), (5, .int .i64 i)]) (fun i => l.length - i) rfl 0 ⟨Nat.zero_le _, by simp⟩ Ent.refl ⟨rfl, rfl, rfl, trivial⟩ ?_
 rintro i ⟨hi, he⟩
 refine w ?_
 refine zk ?_ ?_ <;> intro hc
 ·
  have hlt : i < l.length := by have := of_decide_eq_true hc; omega
  have hlt2 : i < m.length := by omega
  obtain ⟨a, rfl⟩ := some_of_pos hl.rds.nil (by omega)
  obtain ⟨b, rfl⟩ := some_of_pos hm.rds.nil (by omega)
  have hno : l[i].T ≠ m[i].T -> Value.bool false = Value.bool (decide (l.map TxnE.T = m.map TxnE.T)) := fun hx => by
   congr 1; symm
   refine decide_eq_false (fun e => hx ?_)
   have h1 := congrArg (fun z => z[i]?) e
   simpa [List.getElem?_map, List.getElem?_eq_getElem hlt, List.getElem?_eq_getElem hlt2] using h1
  refine w ?_
  ((refine VC.quiet rfl (by kernel_rfl) (by kernel_rfl) ?_); refine w ?_)
  ((first | apply VO.pure rfl rfl | apply VQ.pure rfl rfl | apply VD.take rfl rfl rfl | (refine VD.end rfl rfl rfl ?_; apply OpV.pure)); exact PureAt.ldRc tab_ok rfl rfl hl.rds (txn_get l i 0 hlt (by decide)); rfl)
  refine w ?_
  ((first | apply VO.pure rfl rfl | apply VQ.pure rfl rfl | apply VD.take rfl rfl rfl | (refine VD.end rfl rfl rfl ?_; apply OpV.pure)); exact PureAt.ldRc tab_ok rfl rfl hm.rds (txn_get m i 0 hlt2 (by decide)); rfl)
  refine w ?_
  (refine VQ.split rfl rfl rfl ?_ ?_ <;> intro hb)
  ·
   refine w ?_
   refine VE.done1 rfl ?_ ?_
   · exact hno (fun e => by have := congrArg Prod.fst e; simp [TxnE.T] at this; simp [this] at hb)
   · exact Ent.refl
  have hs0 : l[i].seq = m[i].seq := by have : (l[i].seq : Int) = m[i].seq := (by simpa using hb); omega
  clear hb
  refine w ?_
  ((first | apply VO.pure rfl rfl | apply VQ.pure rfl rfl | apply VD.take rfl rfl rfl | (refine VD.end rfl rfl rfl ?_; apply OpV.pure)); exact PureAt.ldRc tab_ok rfl rfl hl.rds (txn_get l i 1 hlt (by decide)); rfl)
  refine w ?_
  ((first | apply VO.pure rfl rfl | apply VQ.pure rfl rfl | apply VD.take rfl rfl rfl | (refine VD.end rfl rfl rfl ?_; apply OpV.pure)); exact PureAt.ldRc tab_ok rfl rfl hm.rds (txn_get m i 1 hlt2 (by decide)); rfl)
  refine w ?_
  (refine VQ.call rfl rfl rfl rfl (fun _ _ => by simp) (samepats_ok (hl.each _ (List.getElem_mem hlt)) (hm.each _ (List.getElem_mem hlt2)) (hd _ (List.getElem_mem hlt)).1 (hd _ (List.getElem_mem hlt)).2) Ent.refl Ent.refl rfl ?_)
  refine w ?_
  refine zk ?_ ?_ <;> intro hc
  ·
   have hx : l[i].pats.map PatE.D ≠ m[i].pats.map PatE.D := by simpa using hc
   refine w ?_
   refine VE.done1 rfl ?_ ?_
   · exact hno (fun e => hx (congrArg Prod.snd e))
   · exact Ent.refl
  ·
   have hx : l[i].pats.map PatE.D = m[i].pats.map PatE.D := by simpa using hc
   refine w ?_
   refine VE.round (i + 1) ⟨hlt, ?_⟩ (by omega) ⟨rfl, rfl, asV rfl (by congr 1), trivial⟩ Ent.refl
   rw [List.take_succ_eq_append_getElem (by simpa using hlt), List.take_succ_eq_append_getElem (by simpa using hlt2), he, List.getElem_map, List.getElem_map]
   congr 2
   unfold TxnE.T
   rw [hs0, hx]
 ·
  have hge : i = l.length := by have := of_decide_eq_false hc; omega
  subst hge
  rw [List.take_of_length_le (by simp), List.take_of_length_le (by simp; omega)] at he
  refine w ?_
  refine VE.done1 rfl ?_ ?_
  · rw [he]; simp
  · exact Ent.refl
structure PatE.wf (W : World) (p : PatE) : Prop where
  rd : RdsA W 1 p.d.ao p.d.data.length (bytes p.d.data)
  ok : p.d.ok
  fit : p.fit
theorem pat_of {cs : List Value} (h : InT Tryz.prog W 70 cs) : ∃ p : PatE, cs = p.cells /\ p.wf W := by
  have hl := (h.struct_inv Tryz.underlying70).1
  have c3 : Tryz.prog.cellsOf 70 = 3 := by kernel_rfl
  rw [c3] at hl
  match cs, hl with
  | [v0, v1, v2], _ =>
    have ki : Tryz.prog.cellsOf 3 = 1 := by kernel_rfl
    have ks : Tryz.prog.cellsOf 65 = 1 := by kernel_rfl
    have g0 : InT Tryz.prog W 3 [v0] := h.field (i := 0) (off := 0) Tryz.underlying70 rfl rfl rfl ki
    have g1 : InT Tryz.prog W 3 [v1] := h.field (i := 1) (off := 1) Tryz.underlying70 rfl rfl rfl ki
    have g2 : InT Tryz.prog W 65 [v2] := h.field (i := 2) (off := 2) Tryz.underlying70 rfl rfl rfl ks
    obtain ⟨z0, e0, w0⟩ := g0.int_inv Tryz.underlying3
    obtain ⟨z1, e1, w1⟩ := g1.int_inv Tryz.underlying3
    obtain ⟨ao, n, cap, _, e2, _⟩ := g2.slice_inv Tryz.underlying65
    rw [e2] at g2
    obtain ⟨l, rfl, hr, hb, hcp⟩ := bytesC_of g2
    cases e0; cases e1; cases e2
    exact ⟨⟨z0, z1, ⟨ao, cap, l⟩⟩, rfl, ⟨hr, ⟨(hr []).nil, hcp⟩, ⟨i64_of w0, i64_of w1, hb⟩⟩⟩
theorem pats_of {ao : Option Addr} {n cap : Nat} (h : InT Tryz.prog W 58 [.slice ao n cap]) : ∃ l : List PatE, l.length = n /\ (∀ R, RdPats W R ao l) /\ (∀ p ∈ l, p.fit) /\ n <= 140737488351232 /\ n <= cap := by
 obtain ⟨l, h1, h2, h3, h4, h5⟩ := h.list PatE.cells (PatE.wf W) ⟨0, 0, ⟨none, 0, []⟩⟩ Tryz.underlying58 (by kernel_rfl) (fun o _ => pat_one o) (fun cs hc => pat_of hc)
 have b1 : 1 <= Tryz.prog.bytesOf 70 := of_decide_eq_true (by kernel_rfl)
 have hb : cap <= reachBytes := Nat.le_trans (Nat.le_mul_of_pos_right cap b1) h5
 refine ⟨l, h1, fun R => ⟨?_, fun p hp => (h3 p hp).rd R, fun p hp => (h3 p hp).ok⟩, fun p hp => (h3 p hp).fit, by simp only [reachBytes] at hb; omega, h4⟩
 rw [h1]; exact h2 R
structure PlsE where
  ao : Option Addr
  cap : Nat
  pats : List PatE
abbrev PlsE.hdr (e : PlsE) : Value := .slice e.ao e.pats.length e.cap
structure PlsE.wf (W : World) (e : PlsE) : Prop where
  rd : ∀ R, RdPats W R e.ao e.pats
  fit : ∀ p ∈ e.pats, p.fit
  len : e.pats.length <= 140737488351232
  cap : e.pats.length <= e.cap
structure LogD where
  cost : Nat
  commit : List UInt8
structure WalD where
  slot : Int
  epoch : Nat
  size : Nat
  tail : Nat
  used : Nat
  next : Nat
  sure : Bool
  log : Option LogD
  broken : Int
abbrev WS := WalD × BayD
def WalD.head (v : WalD) : Nat := (v.tail + v.used) % v.size
def WalD.spot (v : WalD) (i : Nat) : Nat := 2 + (v.head + i) % v.size
def wWrite (s : WS) (a : Int) (l : List UInt8) : Int × WS :=
  if s.1.broken = 0 then ((s.2.write s.1.slot a l).1, ({ s.1 with broken := (s.2.write s.1.slot a l).1 }, (s.2.write s.1.slot a l).2)) else (s.1.broken, s)
def wFlush (s : WS) : Int × WS :=
  if s.1.broken = 0 then ((s.2.flush s.1.slot).1, ({ s.1 with broken := (s.2.flush s.1.slot).1 }, (s.2.flush s.1.slot).2)) else (s.1.broken, s)
def wMany (s : WS) : List (Int × List UInt8) -> Int × WS
  | [] => (0, s)
  | x :: r => if (wWrite s x.1 x.2).1 ≠ 0 then wWrite s x.1 x.2 else wMany (wWrite s x.1 x.2).2 r
def wCheck (s : WS) (c : ChkD) : Int × WS :=
  if c.enc.1 ≠ 0 then (c.enc.1, s) else if (wWrite s 1 c.enc.2).1 ≠ 0 then wWrite s 1 c.enc.2 else wFlush (wWrite s 1 c.enc.2).2
abbrev lgPtr (lp : Option (Nat × (Option Addr × Nat))) : Value := .pointer (lp.map fun x => ⟨x.1, 0, none⟩)
def logRes : Option LogD -> Option (Nat × (Option Addr × Nat)) -> SProp
  | none, none => fact True
  | some g, some x => star [Row x.1 164 [.int .i64 g.cost, .slice x.2.1 g.commit.length x.2.2], OwnB x.2 g.commit]
  | _, _ => fact False
abbrev walRow (w b r : Nat) (lp : Option (Nat × (Option Addr × Nat))) (v : WalD) : SProp :=
  Row w 95 [.pointer (some ⟨b, 0, none⟩), .int .i64 v.slot, .int .u64 v.epoch, .pointer (some ⟨r, 0, none⟩), .int .u64 v.next, .bool v.sure, lgPtr lp, .int .u16 v.broken]
abbrev WalO (w b r : Nat) (lp : Option (Nat × (Option Addr × Nat))) (v : WalD) (R : List SProp) : List SProp :=
  walRow w b r lp v :: RingR r v.size v.tail v.used :: logRes v.log lp :: R
def WalR (w b : Nat) (v : WalD) : SProp := ex fun x : Nat × Option (Nat × (Option Addr × Nat)) => star (WalO w b x.1 x.2 v [])
theorem WalR.open {W w' : World} {R : List SProp} {w b : Nat} {v : WalD} (h : Holds W (WalR w b v :: R) w') : ∃ x : Nat × Option (Nat × (Option Addr × Nat)), Holds W (WalO w b x.1 x.2 v R) w' := by
 obtain ⟨x, h⟩ := h.exOpen
 exact ⟨x, h.join⟩
theorem WalR.shut {w b : Nat} {v : WalD} (r : Nat) (lp : Option (Nat × (Option Addr × Nat))) : Ent W (WalO w b r lp v R) (WalR w b v :: R) := fun w' h =>
 Holds.exShut (r, lp) (h.nest (L := WalO w b r lp v []))
theorem walDoes {P : Program} {g : FuncId} {args : List Value} {R : List SProp} {w b : Nat} {v : WalD} {D : BayD} {β : Type} {A : β -> Prop} {r : β -> Value} {G : β -> List SProp}
  (h : ∀ rp lp, Does W P g args (BayR b D :: WalO w b rp lp v R) A r G) : Does W P g args (WalR w b v :: BayR b D :: R) A r G :=
 DoesO (fun w hw => WalR.open hw) fun x => DoesE (Ent.trans (Ent.re (H := walRow w b x.1 x.2 v :: RingR x.1 v.size v.tail v.used :: logRes v.log x.2 :: BayR b D :: R) (L := BayR b D :: WalO w b x.1 x.2 v R)) Ent.refl) (h x.1 x.2)
theorem waltry_ok {gd : FuncId} {cp : Array Value} {D D' : BayD} {e : Int} (wp b r : Nat) (lp : Option (Nat × (Option Addr × Nat))) (v : WalD) (hdf : ∀ a w, (callFunc gd a).run Tryz.prog w = .ok (.enter gd a) w)
  (hdo : v.broken = 0 -> Does1 W Tryz.prog gd cp.toList (BayR b D :: WalO wp b r lp v R) (.int .u16 e) (BayR b D' :: WalO wp b r lp v R)) :
  Does1 W Tryz.prog 98 [.pointer (some ⟨wp, 0, none⟩), .func (.func gd) #[] cp] (BayR b D :: WalO wp b r lp v R) (.int .u16 (if v.broken = 0 then e else v.broken)) (BayR b (if v.broken = 0 then D' else D) :: WalO wp b r lp { v with broken := if v.broken = 0 then e else v.broken } R) := by
 (refine Does.enter Tryz.func98 Tryz.ntmps98 rfl rfl ?_)
 refine w ?_
 refine zk ?_ ?_ <;> intro hc
 ·
  have h0 : v.broken = 0 := by simpa using hc
  rw [if_pos h0, if_pos h0]
  refine w ?_
  refine zq ?_
  refine OpV.call rfl rfl (fun a w => hdf a w) (hdo h0) Ent.refl rfl ?_
  intro _ _
  refine w ?_
  exact VE.done1 rfl rfl Ent.re
 ·
  have h0 : ¬ v.broken = 0 := by simpa using hc
  rw [if_neg h0, if_neg h0]
  refine w ?_
  exact VE.done1 rfl rfl Ent.re
theorem write1_ok {ao : Option Addr} {cap : Nat} {l : List UInt8} {D : BayD} (wp b r b3 b4 b5 : Nat) (lp : Option (Nat × (Option Addr × Nat))) (v : WalD) (a : Int) (hc : (D.dv v.slot).k.cache.length <= 1000000000) (hl : Rds W (WalO wp b r lp v R) 1 ao l.length (bytes l)) :
  Does1 W Tryz.prog 99 [.pointer (some ⟨b3, 0, none⟩), .pointer (some ⟨b4, 0, none⟩), .pointer (some ⟨b5, 0, none⟩)]
   (BayR b D :: WalO wp b r lp v (Row b3 32 [.pointer (some ⟨wp, 0, none⟩)] :: Row b4 3 [.int .i64 a] :: Row b5 65 [.slice ao l.length cap] :: R)) (.int .u16 (D.write v.slot a l).1)
   (BayR b (D.write v.slot a l).2 :: WalO wp b r lp v (Row b3 32 [.pointer (some ⟨wp, 0, none⟩)] :: Row b4 3 [.int .i64 a] :: Row b5 65 [.slice ao l.length cap] :: R)) := by
 (refine Does.enter Tryz.func99 Tryz.ntmps99 rfl rfl ?_)
 refine w ?_
 refine VC.drawn [10] 10 [0, 1, 2, 3, 4, 5, 6, 7, 8, 9, 10, 11] (WalO wp b r lp v (Row b3 32 [.pointer (some ⟨wp, 0, none⟩)] :: Row b4 3 [.int .i64 a] :: Row b5 65 [.slice ao l.length cap] :: R)) rfl (by kernel_rfl) (by kernel_rfl) (Ent.drop Ent.refl) ?_
 refine w ?_
 (refine zq ?_; refine zy rfl rfl (baywrite_ok b D v.slot a hc (.inr (hl.ent Ent.re))) ?_)
 intro _ _
 refine w ?_
 exact VE.done1 rfl rfl Ent.re
theorem flush1_ok {D : BayD} (wp b r b1 : Nat) (lp : Option (Nat × (Option Addr × Nat))) (v : WalD) :
  Does1 W Tryz.prog 143 [.pointer (some ⟨b1, 0, none⟩)] (BayR b D :: WalO wp b r lp v (Row b1 32 [.pointer (some ⟨wp, 0, none⟩)] :: R)) (.int .u16 (D.flush v.slot).1)
   (BayR b (D.flush v.slot).2 :: WalO wp b r lp v (Row b1 32 [.pointer (some ⟨wp, 0, none⟩)] :: R)) := by
 (refine Does.enter Tryz.func143 Tryz.ntmps143 rfl rfl ?_)
 refine w ?_
 refine VC.drawn [8] 8 [0, 1, 2, 3, 4, 5, 6, 7, 8, 9] (WalO wp b r lp v (Row b1 32 [.pointer (some ⟨wp, 0, none⟩)] :: R)) rfl (by kernel_rfl) (by kernel_rfl) (Ent.drop Ent.refl) ?_
 refine w ?_
 (refine zq ?_; refine zy rfl rfl (bayflush_ok b D v.slot) ?_)
 intro _ _
 refine w ?_
 exact VE.done1 rfl rfl Ent.re
theorem wWrite_eq (v : WalD) (D : BayD) (a : Int) (l : List UInt8) : wWrite (v, D) a l = (if v.broken = 0 then (D.write v.slot a l).1 else v.broken, { v with broken := if v.broken = 0 then (D.write v.slot a l).1 else v.broken }, if v.broken = 0 then (D.write v.slot a l).2 else D) := by
 unfold wWrite; dsimp only; split <;> rfl
theorem wFlush_eq (v : WalD) (D : BayD) : wFlush (v, D) = (if v.broken = 0 then (D.flush v.slot).1 else v.broken, { v with broken := if v.broken = 0 then (D.flush v.slot).1 else v.broken }, if v.broken = 0 then (D.flush v.slot).2 else D) := by
 unfold wFlush; dsimp only; split <;> rfl
theorem walwrite_ok {ao : Option Addr} {cap : Nat} {l : List UInt8} {D : BayD} (wp b r : Nat) (lp : Option (Nat × (Option Addr × Nat))) (v : WalD) (a : Int) (hc : (D.dv v.slot).k.cache.length <= 1000000000) (hl : Rds W (WalO wp b r lp v R) 1 ao l.length (bytes l)) :
  Does1 W Tryz.prog 31 [.pointer (some ⟨wp, 0, none⟩), .int .i64 a, .slice ao l.length cap] (BayR b D :: WalO wp b r lp v R) (.int .u16 (wWrite (v, D) a l).1) (BayR b (wWrite (v, D) a l).2.2 :: WalO wp b r lp (wWrite (v, D) a l).2.1 R) := by
 rw [wWrite_eq]
 (refine Does.enter Tryz.func31 Tryz.ntmps31 rfl rfl ?_)
 refine w ?_; repeat (refine zj fun _ => ?_; refine w ?_)
 rename_i b3 b4 b5
 refine VO.pure rfl rfl (PureAt.makeFuncN rfl) rfl ?_
 refine VO.ent (H' := BayR b D :: WalO wp b r lp v (Row b3 32 [.pointer (some ⟨wp, 0, none⟩)] :: Row b4 3 [.int .i64 a] :: Row b5 65 [.slice ao l.length cap] :: R)) Ent.re ?_
 (refine zq ?_; refine zy rfl rfl (waltry_ok wp b r lp v (fun _ _ => by simp) (fun _ => write1_ok wp b r b3 b4 b5 lp v a hc hl)) ?_)
 intro _ _
 refine w ?_; repeat (refine zj fun _ => ?_; refine w ?_)
 exact VE.done1 rfl rfl Ent.re
theorem walflush_ok {D : BayD} (wp b r : Nat) (lp : Option (Nat × (Option Addr × Nat))) (v : WalD) :
  Does1 W Tryz.prog 92 [.pointer (some ⟨wp, 0, none⟩)] (BayR b D :: WalO wp b r lp v R) (.int .u16 (wFlush (v, D)).1) (BayR b (wFlush (v, D)).2.2 :: WalO wp b r lp (wFlush (v, D)).2.1 R) := by
 rw [wFlush_eq]
 (refine Does.enter Tryz.func92 Tryz.ntmps92 rfl rfl ?_)
 refine w ?_; repeat (refine zj fun _ => ?_; refine w ?_)
 rename_i b1
 refine VO.pure rfl rfl (PureAt.makeFuncN rfl) rfl ?_
 refine VO.ent (H' := BayR b D :: WalO wp b r lp v (Row b1 32 [.pointer (some ⟨wp, 0, none⟩)] :: R)) Ent.re ?_
 (refine zq ?_; refine zy rfl rfl (waltry_ok wp b r lp v (fun _ _ => by simp) (fun _ => flush1_ok wp b r b1 lp v)) ?_)
 intro _ _
 refine w ?_; repeat (refine zj fun _ => ?_; refine w ?_)
 exact VE.done1 rfl rfl Ent.re
structure WalD.ok (v : WalD) : Prop where
  ring : RingOk v.size v.tail v.used
  epoch : v.epoch <= 4611686018427387904
  next : 1 <= v.next /\ v.next <= 4611686018427387905
  log : ∀ g, v.log = some g -> g.cost <= 2047 /\ 1 <= g.cost /\ g.commit.length = 128 /\ v.next <= 4611686018427387904
theorem walplace_ok {ao : Option Addr} {cap : Nat} {l : List UInt8} {D : BayD} (wp b r : Nat) (lp : Option (Nat × (Option Addr × Nat))) (v : WalD) (hv : v.ok) (i : Nat) (hi : i <= 2048) (hc : (D.dv v.slot).k.cache.length <= 1000000000) (hl : Rds W (WalO wp b r lp v R) 1 ao l.length (bytes l)) :
  Does1 W Tryz.prog 91 [.pointer (some ⟨wp, 0, none⟩), .int .i64 i, .slice ao l.length cap] (BayR b D :: WalO wp b r lp v R) (.int .u16 (wWrite (v, D) (v.spot i) l).1) (BayR b (wWrite (v, D) (v.spot i) l).2.2 :: WalO wp b r lp (wWrite (v, D) (v.spot i) l).2.1 R) := by
 have h1 := hv.ring.lo; have h2 := hv.ring.hi; have h3 := hv.ring.tl; have h4 := hv.ring.us
 have hm : (v.tail + v.used) % v.size < v.size := Nat.mod_lt _ (by omega)
 have hm2 : ((v.tail + v.used) % v.size + i) % v.size < v.size := Nat.mod_lt _ (by omega)
 (refine Does.enter Tryz.func91 Tryz.ntmps91 rfl rfl ?_)
 refine w ?_
 refine VC.drawn [5, 12] 16 [0, 1, 2, 3, 4, 6, 8, 9, 10, 11, 15, 5, 7, 12, 13, 14, 16, 17] (BayR b D :: WalO wp b r lp v R) rfl (by kernel_rfl) (by kernel_rfl) Ent.refl ?_
 refine w ?_
 refine VD.ent (H' := RingR r v.size v.tail v.used :: BayR b D :: walRow wp b r lp v :: logRes v.log lp :: R) Ent.re ?_
 (refine zq ?_; refine zy rfl rfl (ringhead_ok r hv.ring) ?_)
 intro _ _
 refine ⟨Ent.re, ?_⟩
 refine w ?_
 (refine zq ?_; refine zy rfl rfl (ringsize_ok r v.size v.tail v.used) ?_)
 intro _ _
 refine ⟨Ent.re, ?_⟩
 refine w ?_
 ((first | apply VO.pure rfl rfl | apply VQ.pure rfl rfl | apply VD.take rfl rfl rfl | (refine VD.end rfl rfl rfl ?_; apply OpV.pure)); exact PureAt.rem (a := (v.tail + v.used) % v.size + i) (b := v.size) rfl rfl (by omega); rfl)
 refine w ?_
 refine VD.re 21 (.int .i64 ((v.spot i : Nat) : Int)) rfl (by congr 1) ?_
 refine VD.ent (H' := BayR b D :: WalO wp b r lp v R) Ent.re ?_
 (refine zq ?_; refine zy rfl rfl (walwrite_ok wp b r lp v ((v.spot i : Nat) : Int) hc hl) ?_)
 intro _ _
 refine w ?_
 exact VE.done1 rfl rfl Ent.re
theorem write_capd {D : BayD} {c : Nat} (h : D.capd c) (k a : Int) (b : List UInt8) : (D.write k a b).2.capd (c + 1) := by
 have := plain_capd h 2 k a b
 simpa [BayD.plain] using this
theorem flush_capd {D : BayD} {c : Nat} (h : D.capd c) (k : Int) : (D.flush k).2.capd (c + 1) := by
 have := plain_capd h 3 k 0 []
 simpa [BayD.plain] using this
theorem wWrite_capd {s : WS} {c : Nat} (h : s.2.capd c) (a : Int) (l : List UInt8) : (wWrite s a l).2.2.capd (c + 1) := by
 unfold wWrite
 split
 · exact write_capd h _ _ _
 · exact h.mono (by omega)
theorem wFlush_capd {s : WS} {c : Nat} (h : s.2.capd c) : (wFlush s).2.2.capd (c + 1) := by
 unfold wFlush
 split
 · exact flush_capd h _
 · exact h.mono (by omega)
theorem wWrite_same {v : WalD} {D : BayD} {a : Int} {l : List UInt8} (h : (wWrite (v, D) a l).1 = 0) : (wWrite (v, D) a l).2.1 = v /\ v.broken = 0 := by
 unfold wWrite at *
 dsimp only at *
 split at h
 ·
  rename_i h0
  rw [if_pos h0]
  dsimp only at *
  refine ⟨?_, h0⟩
  rw [h, <- h0]
 ·
  rename_i h0
  exact absurd h h0
theorem wFlush_same {v : WalD} {D : BayD} (h : (wFlush (v, D)).1 = 0) : (wFlush (v, D)).2.1 = v /\ v.broken = 0 := by
 unfold wFlush at *
 dsimp only at *
 split at h
 ·
  rename_i h0
  rw [if_pos h0]
  dsimp only at *
  refine ⟨?_, h0⟩
  rw [h, <- h0]
 ·
  rename_i h0
  exact absurd h h0
theorem wWrite_log (v : WalD) (D : BayD) (a : Int) (l : List UInt8) : (wWrite (v, D) a l).2.1.log = v.log /\ (wWrite (v, D) a l).2.1.slot = v.slot := by
 rw [wWrite_eq]; exact ⟨rfl, rfl⟩
def placed (v : WalD) (rows : List (List UInt8)) : List (Int × List UInt8) := rows.mapIdx fun i r => (((v.spot i : Nat) : Int), r)
theorem placed_length (v : WalD) (rows : List (List UInt8)) : (placed v rows).length = rows.length := by simp [placed]
def logW (s : WS) (rows : List (List UInt8)) : Int × WS :=
  if (wMany s (placed s.1 rows.dropLast)).1 ≠ 0 then wMany s (placed s.1 rows.dropLast) else
  if (wFlush (wMany s (placed s.1 rows.dropLast)).2).1 ≠ 0 then wFlush (wMany s (placed s.1 rows.dropLast)).2 else
  (0, { (wFlush (wMany s (placed s.1 rows.dropLast)).2).2.1 with sure := true, log := some ⟨rows.length, rows.getLastD []⟩ }, (wFlush (wMany s (placed s.1 rows.dropLast)).2).2.2)
def wLog (s : WS) (ps : List PatD) : Int × WS :=
  if s.1.broken ≠ 0 then (s.1.broken, s) else
  if (secsM s.1.epoch s.1.next ps).1 ≠ 0 then ((secsM s.1.epoch s.1.next ps).1, s) else
  if s.1.size < (secsM s.1.epoch s.1.next ps).2.length then (122, s) else
  if s.1.size - s.1.used < (secsM s.1.epoch s.1.next ps).2.length then (121, s) else logW s (secsM s.1.epoch s.1.next ps).2
def wSeal (s : WS) : Int × WS :=
  if s.1.broken ≠ 0 then (s.1.broken, s) else match s.1.log with
  | none => (1, s)
  | some g => if (wWrite s (s.1.spot (g.cost - 1)) g.commit).1 ≠ 0 then wWrite s (s.1.spot (g.cost - 1)) g.commit else
    if s.1.size < s.1.used + g.cost then (90, (wWrite s (s.1.spot (g.cost - 1)) g.commit).2) else
    (0, { s.1 with used := s.1.used + g.cost, next := s.1.next + 1, sure := false, log := none }, (wWrite s (s.1.spot (g.cost - 1)) g.commit).2.2)
def wSync (s : WS) : Int × WS := if s.1.sure = true then (0, s) else ((wFlush s).1, { (wFlush s).2.1 with sure := decide ((wFlush s).1 = 0) }, (wFlush s).2.2)
def wEmpty (s : WS) (e : Nat) : Int × WS :=
  if s.1.broken ≠ 0 then (s.1.broken, s) else if s.1.sure = false then (1, s) else
  if (wCheck s ⟨e, s.1.next, s.1.head⟩).1 ≠ 0 then wCheck s ⟨e, s.1.next, s.1.head⟩ else
  (0, { s.1 with epoch := e, tail := s.1.head, used := 0, log := none }, (wCheck s ⟨e, s.1.next, s.1.head⟩).2.2)
theorem walcheck_ok {D : BayD} {c0 : Nat} (wp b r : Nat) (lp : Option (Nat × (Option Addr × Nat))) (v : WalD) (c : ChkD) (hf : c.fit) (hcp : D.capd c0) (hc0 : c0 <= 999999000) :
  Does1 W Tryz.prog 32 [.pointer (some ⟨wp, 0, none⟩), .agg c.cells.toArray] (BayR b D :: WalO wp b r lp v R) (.int .u16 (wCheck (v, D) c).1) (BayR b (wCheck (v, D) c).2.2 :: WalO wp b r lp (wCheck (v, D) c).2.1 R) := by
 (refine Does.enter Tryz.func32 Tryz.ntmps32 rfl rfl ?_)
 refine w ?_; repeat (refine zj fun _ => ?_; refine w ?_)
 rename_i b3
 have hE := encs_ok (W := W) (R := Row b3 98 c.cells :: BayR b D :: WalO wp b r lp v R) c hf
 (refine zq ?_; refine zy rfl rfl (hE) ?_)
 rintro ⟨xo, xc⟩ -
 refine VO.know (p := xo = none -> c.enc.2.length = 0) (fun w hw => hw.ownNone (.head _)) ?_
 intro hxn
 refine w ?_; repeat (refine zj fun _ => ?_; refine w ?_)
 refine zk ?_ ?_ <;> intro hc
 ·
  have h0 : c.enc.1 ≠ 0 := by simpa using hc
  have hz : wCheck (v, D) c = (c.enc.1, (v, D)) := if_pos h0
  rw [hz]
  refine w ?_; repeat (refine zj fun _ => ?_; refine w ?_)
  exact VE.done1 rfl rfl Ent.re
 have h0 : c.enc.1 = 0 := by simpa using hc
 clear hc
 have hz : wCheck (v, D) c = if (wWrite (v, D) 1 c.enc.2).1 ≠ 0 then wWrite (v, D) 1 c.enc.2 else wFlush (wWrite (v, D) 1 c.enc.2).2 := if_neg (by simpa using h0)
 rw [hz]
 refine w ?_; repeat (refine zj fun _ => ?_; refine w ?_)
 refine VO.ent (H' := BayR b D :: WalO wp b r lp v (OwnB (xo, xc) c.enc.2 :: R)) Ent.re ?_
 (refine zq ?_; refine zy rfl rfl (walwrite_ok wp b r lp v 1 (Nat.le_trans (dv_cap hcp _) (by omega)) (Rds.own (bytes_one _) (.tail _ (.tail _ (.tail _ (.head _)))) (by simp) hxn)) ?_)
 intro _ _
 refine w ?_; repeat (refine zj fun _ => ?_; refine w ?_)
 refine zk ?_ ?_ <;> intro hc
 ·
  have h1 : (wWrite (v, D) 1 c.enc.2).1 ≠ 0 := by simpa using hc
  rw [if_pos h1]
  refine w ?_; repeat (refine zj fun _ => ?_; refine w ?_)
  exact VE.done1 rfl rfl Ent.re
 have h1 : (wWrite (v, D) 1 c.enc.2).1 = 0 := by simpa using hc
 rw [if_neg (by simpa using h1)]
 refine w ?_; repeat (refine zj fun _ => ?_; refine w ?_)
 (refine zq ?_; refine zy rfl rfl (walflush_ok wp b r lp (wWrite (v, D) 1 c.enc.2).2.1) ?_)
 intro _ _
 refine w ?_; repeat (refine zj fun _ => ?_; refine w ?_)
 exact VE.done1 rfl rfl Ent.re
theorem logShut {wp b r lg : Nat} {v v' : WalD} {rows : List RowE} {i : Nat} (hi : i < rows.length) (hs : v'.slot = v.slot /\ v'.epoch = v.epoch /\ v'.size = v.size /\ v'.tail = v.tail /\ v'.used = v.used /\ v'.next = v.next /\ v'.broken = v.broken)
  (hl : v'.log = some ⟨rows.length, rows[i].data⟩) : Ent W (Row lg 164 [.int .i64 rows.length, rows[i].hdr] :: walRow wp b r (some (lg, rows[i].ao, rows[i].cap)) v' :: RingR r v.size v.tail v.used :: PilR rows :: R) (WalR wp b v' :: R) := by
 obtain ⟨h1, h2, h3, h4, h5, h6, h7⟩ := hs
 refine Ent.trans ?_ (WalR.shut r (some (lg, rows[i].ao, rows[i].cap)))
 unfold WalO
 rw [h3, h4, h5, hl]
 intro w hw
 have a1 : Holds W (PilR rows :: Row lg 164 [.int .i64 rows.length, rows[i].hdr] :: walRow wp b r (some (lg, rows[i].ao, rows[i].cap)) v' :: RingR r v.size v.tail v.used :: R) w := hw.reord (by (repeat first | exact .refl | (apply Reord.cons; focus repeat first | exact .head | apply Del.tail) | exact .nil | apply Reord.drop))
 have a2 := pile_out hi a1
 have a3 : Holds W (Row lg 164 [.int .i64 rows.length, rows[i].hdr] :: rows[i].res :: walRow wp b r (some (lg, rows[i].ao, rows[i].cap)) v' :: RingR r v.size v.tail v.used :: R) w := a2.reord (by (repeat first | exact .refl | (apply Reord.cons; focus repeat first | exact .head | apply Del.tail) | exact .nil | apply Reord.drop))
 have a4 := a3.nest (L := [Row lg 164 [.int .i64 rows.length, rows[i].hdr], rows[i].res])
 exact a4.reord (by
  show Reord (logRes (some ⟨rows.length, rows[i].data⟩) (some (lg, rows[i].ao, rows[i].cap)) :: walRow wp b r (some (lg, rows[i].ao, rows[i].cap)) v' :: RingR r v.size v.tail v.used :: R) _
  (repeat first | exact .refl | (apply Reord.cons; focus repeat first | exact .head | apply Del.tail) | exact .nil | apply Reord.drop))
theorem wallog_ok {ao : Option Addr} {cap : Nat} {l : List PatE} {D : BayD} {c0 : Nat} (wp b : Nat) (v : WalD) (hv : v.ok) (hcp : D.capd c0) (hc0 : c0 <= 999990000) (hp : RdPats W R ao l) (hfit : ∀ p ∈ l, p.fit) (hlen : l.length <= 140737488351232) :
  Does1 W Tryz.prog 22 [.pointer (some ⟨wp, 0, none⟩), .slice ao l.length cap] (WalR wp b v :: BayR b D :: R) (.int .u16 (wLog (v, D) (l.map PatE.D)).1) (WalR wp b (wLog (v, D) (l.map PatE.D)).2.1 :: BayR b (wLog (v, D) (l.map PatE.D)).2.2 :: R) := by
 have hr1 := hv.ring.lo; have hr2 := hv.ring.hi; have hr3 := hv.ring.tl; have hr4 := hv.ring.us
 refine walDoes fun r lp => ?_
 (refine Does.enter Tryz.func22 Tryz.ntmps22 rfl rfl ?_)
 refine w ?_; repeat (refine zj fun _ => ?_; refine w ?_)
 refine zk ?_ ?_ <;> intro hc
 ·
  have h0 : v.broken ≠ 0 := by simpa using hc
  have hz : wLog (v, D) (l.map PatE.D) = (v.broken, (v, D)) := if_pos h0
  rw [hz]
  refine w ?_; repeat (refine zj fun _ => ?_; refine w ?_)
  refine VE.done1 rfl rfl ?_
  exact Ent.trans (Ent.re (L := WalO wp b r lp v (BayR b D :: R))) (WalR.shut r lp)
 have h0 : v.broken = 0 := by simpa using hc
 clear hc
 have hz0 : wLog (v, D) (l.map PatE.D) = if (secsM v.epoch v.next (l.map PatE.D)).1 ≠ 0 then ((secsM v.epoch v.next (l.map PatE.D)).1, (v, D)) else if v.size < (secsM v.epoch v.next (l.map PatE.D)).2.length then (122, (v, D)) else
  if v.size - v.used < (secsM v.epoch v.next (l.map PatE.D)).2.length then (121, (v, D)) else logW (v, D) (secsM v.epoch v.next (l.map PatE.D)).2 := if_neg (by simpa using h0)
 rw [hz0]
 have hepo := hv.epoch
 have hnxt := hv.next
 refine w ?_; repeat (refine zj fun _ => ?_; refine w ?_)
 refine VC.drawn [10] 15 [0, 1, 2, 3, 4, 5, 6, 7, 8, 9, 10, 11, 12, 13, 14, 15] (BayR b D :: WalO wp b r lp v R) rfl (by kernel_rfl) (by kernel_rfl) Ent.refl ?_
 refine w ?_; repeat (refine zj fun _ => ?_; refine w ?_)
 ((first | apply VO.pure rfl rfl | apply VD.take rfl rfl rfl | (refine VD.end rfl rfl rfl ?_; apply OpV.pure)); apply PureAt.build sb_87 rfl; (simp [buildX, setL, Value.cells]; rfl); rfl)
 have hS := sectors_ok (W := W) (R := BayR b D :: WalO wp b r lp v R) (cap := cap) v.epoch v.next (by omega) (by omega) (hp.ent Ent.re) hfit hlen
 (refine zq ?_; refine zy rfl rfl (hS) ?_)
 rintro ⟨⟨xo, xc⟩, rows⟩ hrows
 dsimp only at hrows ⊢
 refine ⟨Ent.re, ?_⟩
 refine w ?_; repeat (refine zj fun _ => ?_; refine w ?_)
 rcases secs_cases v.epoch v.next (l.map PatE.D) with ⟨hfine, hse⟩ | ⟨hnf, hse, hse2⟩
 ·
  have hshut : ∀ (X : List SProp), Ent W (RowsO (xo, xc) rows :: PilR rows :: BayR b D :: WalO wp b r lp v R) (WalR wp b v :: BayR b D :: R) := fun _ => Ent.trans (Ent.re (L := WalO wp b r lp v (BayR b D :: R))) (WalR.shut r lp)
  rw [hse] at hrows ⊢
  dsimp only at hrows ⊢
  rw [if_neg (by simp)]
  have hrl : rows.length = 2 * l.length + 1 := by have := congrArg List.length hrows; rwa [List.length_map, rowsP_length, List.length_map] at this
  have hn2 := hfine.n2
  rw [List.length_map] at hn2
  have hrl' : (rowsP v.epoch v.next (l.map PatE.D)).length = rows.length := by rw [<- hrows, List.length_map]
  rw [hrl']
  refine w ?_; repeat (refine zj fun _ => ?_; refine w ?_)
  refine VO.ent (H' := RingR r v.size v.tail v.used :: RowsO (xo, xc) rows :: PilR rows :: BayR b D :: walRow wp b r lp v :: logRes v.log lp :: R) Ent.re ?_
  (refine zq ?_; refine zy rfl rfl (ringsize_ok r v.size v.tail v.used) ?_)
  intro _ _
  refine w ?_; repeat (refine zj fun _ => ?_; refine w ?_)
  refine zk ?_ ?_ <;> intro hc
  ·
   have h1 : v.size < rows.length := by have := of_decide_eq_true hc; omega
   rw [if_pos h1]
   refine w ?_; repeat (refine zj fun _ => ?_; refine w ?_)
   refine VE.done1 rfl rfl ?_
   exact Ent.trans (Ent.re (L := WalO wp b r lp v (BayR b D :: R))) (WalR.shut r lp)
  have h1 : ¬ v.size < rows.length := by have := of_decide_eq_false hc; omega
  clear hc
  rw [if_neg h1]
  refine w ?_; repeat (refine zj fun _ => ?_; refine w ?_)
  (refine zq ?_; refine zy rfl rfl (ringfree_ok r hv.ring) ?_)
  intro _ _
  refine w ?_; repeat (refine zj fun _ => ?_; refine w ?_)
  refine zk ?_ ?_ <;> intro hc
  ·
   have h2 : v.size - v.used < rows.length := by have := of_decide_eq_true hc; omega
   rw [if_pos h2]
   refine w ?_; repeat (refine zj fun _ => ?_; refine w ?_)
   refine VE.done1 rfl rfl ?_
   exact Ent.trans (Ent.re (L := WalO wp b r lp v (BayR b D :: R))) (WalR.shut r lp)
  have h2 : ¬ v.size - v.used < rows.length := by have := of_decide_eq_false hc; omega
  clear hc
  rw [if_neg h2]
  refine w ?_; repeat (refine zj fun _ => ?_; refine w ?_)
  refine VO.know (p := ∀ e ∈ rows, e.ok) (fun w hw => PilR.know hw.tail.tail) ?_
  intro hok
  refine VO.know (p := xo = none -> rows.length = 0) (fun w hw => hw.tail.ownNone (.head _)) ?_
  intro hxn
  refine VO.know (p := rows.length <= xc) (fun w hw => hw.tail.ownCap (.head _)) ?_
  intro hxc
  obtain ⟨xa, rfl⟩ := some_of_pos hxn (by omega)
  have hlast : rows.length - 1 < rows.length := by omega
  have h128 : ∀ e ∈ rows, e.data.length = 128 := fun e he => rowsP_128 hfine _ (by rw [<- hrows]; exact List.mem_map_of_mem he)
  obtain ⟨L, hL⟩ : ∃ L, L = placed v (rowsP v.epoch v.next (l.map PatE.D)).dropLast := ⟨_, rfl⟩
  have hLl : L.length = rows.length - 1 := by rw [hL, placed_length, List.length_dropLast, hrl']
  have hLg : ∀ i (h : i < L.length) (h' : i < rows.length), L[i] = (((v.spot i : Nat) : Int), rows[i].data) := by
   intro i h h'
   subst hL
   simp only [placed, List.getElem_mapIdx, List.getElem_dropLast]
   congr 1
   have : (rows.map RowE.data)[i]'(by rw [List.length_map]; exact h') = rows[i].data := List.getElem_map ..
   rw [<- this]
   congr 1
   exact hrows.symm
  have hlog : logW (v, D) (rowsP v.epoch v.next (l.map PatE.D)) = if (wMany (v, D) L).1 ≠ 0 then wMany (v, D) L else
    if (wFlush (wMany (v, D) L).2).1 ≠ 0 then wFlush (wMany (v, D) L).2 else
    (0, { (wFlush (wMany (v, D) L).2).2.1 with sure := true, log := some ⟨rows.length, rows[rows.length - 1].data⟩ }, (wFlush (wMany (v, D) L).2).2.2) := by
   have e1 : (rowsP v.epoch v.next (l.map PatE.D)).getLastD [] = rows[rows.length - 1].data := by
    rw [<- hrows, List.getLastD_eq_getLast?, List.getLast?_eq_getElem?, List.length_map, List.getElem?_map, List.getElem?_eq_getElem hlast]; rfl
   unfold logW
   dsimp only
   rw [<- hL, e1, hrl']
  refine VO.re 61 (.int .i64 ((rows.length - 1 : Nat) : Int)) rfl (by congr 1; omega) ?_
  refine VO.re 7 (.int .i64 ((rows.length - 1 : Nat) : Int)) rfl (by congr 1; omega) ?_
  refine w ?_; repeat (refine zj fun _ => ?_; refine w ?_)
  refine VC.loop (α := Nat × BayD) (fun y => y.1 <= rows.length - 1 /\ y.2.capd (c0 + y.1) /\ wMany (v, D) L = wMany (v, y.2) (L.drop y.1)) (fun y => BayR b y.2 :: WalO wp b r lp v (RowsO (some xa, xc) rows :: PilR rows :: R))
   (fun y => [(0, .pointer (some ⟨wp, 0, none⟩)), (5, .slice (some xa) rows.length xc), (7, .int .i64 ((rows.length - 1 : Nat) : Int)), (62, .slice (some xa) (rows.length - 1) xc), (63, .int .i64 ((rows.length - 1 : Nat) : Int)), (64, .int .i64 y.1)]) (fun y => rows.length - y.1) rfl (0, D) ⟨Nat.zero_le _, hcp, by rw [List.drop_zero]⟩ Ent.re ⟨rfl, rfl, rfl, rfl, rfl, rfl, trivial⟩ ?_
  rintro ⟨i, Di⟩ ⟨hi, hci, hmi⟩
  dsimp only at hi hci hmi ⊢
  refine w ?_; repeat (refine zj fun _ => ?_; refine w ?_)
  refine zk ?_ ?_ <;> intro hc
  ·
   have hlt : i < rows.length - 1 := by have := of_decide_eq_true hc; omega
   clear hc
   have hlt2 : i < rows.length := by omega
   have hRow : Rds W (BayR b Di :: WalO wp b r lp v (RowsO (some xa, xc) rows :: PilR rows :: R)) 1 (some xa) rows.length (rows.map RowE.hdr) := Rds.own (rowhdr_one _) (.tail _ (.tail _ (.tail _ (.tail _ (.head _))))) (by simp) (by simp)
   have hByt : Rds W (WalO wp b r lp v (RowsO (some xa, xc) rows :: PilR rows :: R)) 1 rows[i].ao rows[i].data.length (bytes rows[i].data) := Rds.pile (.tail _ (.tail _ (.tail _ (.tail _ (.head _))))) (List.getElem_mem hlt2) (fun R hR => RowE.rds (hok _ (List.getElem_mem hlt2)) hR)
   have hstep : wMany (v, Di) (L.drop i) = if (wWrite (v, Di) ((v.spot i : Nat) : Int) rows[i].data).1 ≠ 0 then wWrite (v, Di) ((v.spot i : Nat) : Int) rows[i].data else wMany (wWrite (v, Di) ((v.spot i : Nat) : Int) rows[i].data).2 (L.drop (i + 1)) := by
    rw [List.drop_eq_getElem_cons (by omega), hLg i (by omega) hlt2]; rfl
   refine w ?_; repeat (refine zj fun _ => ?_; refine w ?_)
   ((first | apply VO.pure rfl rfl | apply VQ.pure rfl rfl | apply VD.take rfl rfl rfl | (refine VD.end rfl rfl rfl ?_; apply OpV.pure)); exact PureAt.ldR tab_ok rfl rfl hRow (show (rows.map RowE.hdr)[i]? = some rows[i].hdr by rw [List.getElem?_map, List.getElem?_eq_getElem hlt2]; rfl); rfl)
   refine w ?_; repeat (refine zj fun _ => ?_; refine w ?_)
   (refine zq ?_; refine zy rfl rfl (walplace_ok wp b r lp v hv i (by omega) (Nat.le_trans (dv_cap hci _) (by omega)) hByt) ?_)
   intro _ _
   refine w ?_; repeat (refine zj fun _ => ?_; refine w ?_)
   refine zk ?_ ?_ <;> intro hc
   ·
    have h9 : (wWrite (v, Di) ((v.spot i : Nat) : Int) rows[i].data).1 ≠ 0 := by simpa using hc
    rw [if_pos h9] at hstep
    have hfin : logW (v, D) (rowsP v.epoch v.next (l.map PatE.D)) = wWrite (v, Di) ((v.spot i : Nat) : Int) rows[i].data := by
     rw [hlog, hmi, hstep, if_pos h9]
    rw [hfin]
    refine w ?_; repeat (refine zj fun _ => ?_; refine w ?_)
    refine VE.done1 rfl rfl ?_
    exact Ent.trans (Ent.re (L := WalO wp b r lp (wWrite (v, Di) ((v.spot i : Nat) : Int) rows[i].data).2.1 (BayR b (wWrite (v, Di) ((v.spot i : Nat) : Int) rows[i].data).2.2 :: R))) (WalR.shut r lp)
   have h9 : (wWrite (v, Di) ((v.spot i : Nat) : Int) rows[i].data).1 = 0 := by simpa using hc
   clear hc
   rw [if_neg (by simpa using h9)] at hstep
   have hsm := (wWrite_same h9).1
   refine w ?_; repeat (refine zj fun _ => ?_; refine w ?_)
   refine VE.round (i + 1, (wWrite (v, Di) ((v.spot i : Nat) : Int) rows[i].data).2.2) ⟨hlt, wWrite_capd hci _ _, ?_⟩ (by simp only; omega) ⟨rfl, rfl, rfl, rfl, rfl, asV rfl (by congr 1), trivial⟩ ?_
   ·
    show wMany (v, D) L = wMany (v, (wWrite (v, Di) ((v.spot i : Nat) : Int) rows[i].data).2.2) (L.drop (i + 1))
    rw [hmi, hstep]
    congr 1
    exact Prod.ext hsm rfl
   · rw [hsm]; exact Ent.re
  have hie : i = rows.length - 1 := by have := of_decide_eq_false hc; omega
  clear hc
  rw [hie, <- hLl, List.drop_length] at hmi
  have hmany : wMany (v, D) L = (0, (v, Di)) := hmi
  rw [hmany] at hlog
  dsimp only at hlog
  rw [if_neg (by simp)] at hlog
  refine w ?_; repeat (refine zj fun _ => ?_; refine w ?_)
  (refine zq ?_; refine zy rfl rfl (walflush_ok wp b r lp v) ?_)
  intro _ _
  refine w ?_; repeat (refine zj fun _ => ?_; refine w ?_)
  refine zk ?_ ?_ <;> intro hc
  ·
   have h9 : (wFlush (v, Di)).1 ≠ 0 := by simpa using hc
   rw [if_pos h9] at hlog
   rw [hlog]
   refine w ?_; repeat (refine zj fun _ => ?_; refine w ?_)
   refine VE.done1 rfl rfl ?_
   exact Ent.trans (Ent.re (L := WalO wp b r lp (wFlush (v, Di)).2.1 (BayR b (wFlush (v, Di)).2.2 :: R))) (WalR.shut r lp)
  have h9 : (wFlush (v, Di)).1 = 0 := by simpa using hc
  clear hc
  rw [if_neg (by simpa using h9), (wFlush_same h9).1] at hlog
  rw [hlog, (wFlush_same h9).1]
  have hRow : Rds W (BayR b (wFlush (v, Di)).2.2 :: WalO wp b r lp v (RowsO (some xa, xc) rows :: PilR rows :: R)) 1 (some xa) rows.length (rows.map RowE.hdr) := Rds.own (rowhdr_one _) (.tail _ (.tail _ (.tail _ (.tail _ (.head _))))) (by simp) (by simp)
  refine w ?_; repeat (refine zj fun _ => ?_; refine w ?_)
  ((first | apply VO.pure rfl rfl | apply VQ.pure rfl rfl | apply VD.take rfl rfl rfl | (refine VD.end rfl rfl rfl ?_; apply OpV.pure)); exact PureAt.ldR tab_ok rfl rfl hRow (show (rows.map RowE.hdr)[rows.length - 1]? = some rows[rows.length - 1].hdr by rw [List.getElem?_map, List.getElem?_eq_getElem hlast]; rfl); rfl)
  (apply VO.pure rfl rfl; apply PureAt.build sb_164 rfl; (simp [buildX, setL, Value.cells]; rfl); rfl)
  refine w ?_; repeat (refine zj fun _ => ?_; refine w ?_)
  rename_i lg
  refine VE.done1 rfl rfl ?_
  dsimp only
  refine Ent.trans (Ent.re (L := Row lg 164 [.int .i64 rows.length, rows[rows.length - 1].hdr] :: walRow wp b r (some (lg, rows[rows.length - 1].ao, rows[rows.length - 1].cap)) { v with sure := true, log := some ⟨rows.length, rows[rows.length - 1].data⟩ } :: RingR r v.size v.tail v.used :: PilR rows :: BayR b (wFlush (v, Di)).2.2 :: R)) ?_
  exact logShut hlast ⟨rfl, rfl, rfl, rfl, rfl, rfl, rfl⟩ rfl
 ·
  rw [if_pos hse]
  (refine VC.condTe rfl rfl (by simpa using hse) ?_)
  refine w ?_; repeat (refine zj fun _ => ?_; refine w ?_)
  refine VE.done1 rfl rfl ?_
  exact Ent.trans (Ent.re (L := WalO wp b r lp v (BayR b D :: R))) (WalR.shut r lp)
theorem logOpen {wp b r lg : Nat} {x : Option Addr × Nat} {v : WalD} {D : BayD} {g : LogD} (hg : v.log = some g) : Ent W (BayR b D :: WalO wp b r (some (lg, x)) v R) (BayR b D :: walRow wp b r (some (lg, x)) v :: RingR r v.size v.tail v.used :: Row lg 164 [.int .i64 g.cost, .slice x.1 g.commit.length x.2] :: OwnB x g.commit :: R) := by
 intro w hw
 have h1 : Holds W (logRes v.log (some (lg, x)) :: BayR b D :: walRow wp b r (some (lg, x)) v :: RingR r v.size v.tail v.used :: R) w := hw.reord (by unfold WalO; (repeat first | exact .refl | (apply Reord.cons; focus repeat first | exact .head | apply Del.tail) | exact .nil | apply Reord.drop))
 rw [hg] at h1
 have h2 : Holds W (star [Row lg 164 [.int .i64 g.cost, .slice x.1 g.commit.length x.2], OwnB x g.commit] :: BayR b D :: walRow wp b r (some (lg, x)) v :: RingR r v.size v.tail v.used :: R) w := h1
 exact h2.join.reord (by
  show Reord (Row lg 164 [.int .i64 g.cost, .slice x.1 g.commit.length x.2] :: OwnB x g.commit :: BayR b D :: walRow wp b r (some (lg, x)) v :: RingR r v.size v.tail v.used :: R) _
  (repeat first | exact .refl | (apply Reord.cons; focus repeat first | exact .head | apply Del.tail) | exact .nil | apply Reord.drop))
theorem logClose {wp b r lg : Nat} {x : Option Addr × Nat} {v : WalD} {D : BayD} {g : LogD} (hg : v.log = some g) : Ent W (BayR b D :: walRow wp b r (some (lg, x)) v :: RingR r v.size v.tail v.used :: Row lg 164 [.int .i64 g.cost, .slice x.1 g.commit.length x.2] :: OwnB x g.commit :: R) (BayR b D :: WalO wp b r (some (lg, x)) v R) := by
 intro w hw
 have h1 : Holds W ([Row lg 164 [.int .i64 g.cost, .slice x.1 g.commit.length x.2], OwnB x g.commit] ++ (BayR b D :: walRow wp b r (some (lg, x)) v :: RingR r v.size v.tail v.used :: R)) w := hw.reord (by
  show Reord _ (Row lg 164 [.int .i64 g.cost, .slice x.1 g.commit.length x.2] :: OwnB x g.commit :: BayR b D :: walRow wp b r (some (lg, x)) v :: RingR r v.size v.tail v.used :: R)
  (repeat first | exact .refl | (apply Reord.cons; focus repeat first | exact .head | apply Del.tail) | exact .nil | apply Reord.drop))
 have h2 : Holds W (logRes v.log (some (lg, x)) :: BayR b D :: walRow wp b r (some (lg, x)) v :: RingR r v.size v.tail v.used :: R) w := by rw [hg]; exact h1.nest
 exact h2.reord (by unfold WalO; (repeat first | exact .refl | (apply Reord.cons; focus repeat first | exact .head | apply Del.tail) | exact .nil | apply Reord.drop))
theorem walNone {wp b r : Nat} {v : WalD} (hg : v.log = none) : Ent W (walRow wp b r none v :: RingR r v.size v.tail v.used :: R) (WalR wp b v :: R) := by
 refine Ent.trans ?_ (WalR.shut r none)
 intro w hw
 have h1 : Holds W (logRes v.log none :: walRow wp b r none v :: RingR r v.size v.tail v.used :: R) w := by rw [hg]; exact hw.factShut trivial
 exact h1.reord (by unfold WalO; (repeat first | exact .refl | (apply Reord.cons; focus repeat first | exact .head | apply Del.tail) | exact .nil | apply Reord.drop))
theorem walseal_ok {D : BayD} {c0 : Nat} (wp b : Nat) (v : WalD) (hv : v.ok) (hcp : D.capd c0) (hc0 : c0 <= 999990000) :
    Does1 W Tryz.prog 24 [.pointer (some ⟨wp, 0, none⟩)] (WalR wp b v :: BayR b D :: R) (.int .u16 (wSeal (v, D)).1) (WalR wp b (wSeal (v, D)).2.1 :: BayR b (wSeal (v, D)).2.2 :: R) := by
  have hr1 := hv.ring.lo; have hr2 := hv.ring.hi; have hr3 := hv.ring.tl; have hr4 := hv.ring.us
  refine walDoes fun r lp => ?_
  (refine Does.enter Tryz.func24 Tryz.ntmps24 rfl rfl ?_)
  refine w ?_
  refine zk ?_ ?_ <;> intro hc
  · have h0 : v.broken ≠ 0 := by simpa using hc
    have hz : wSeal (v, D) = (v.broken, (v, D)) := if_pos h0
    rw [hz]
    refine w ?_
    refine VE.done1 rfl rfl ?_
    exact Ent.trans (Ent.re (L := WalO wp b r lp v (BayR b D :: R))) (WalR.shut r lp)
  have h0 : v.broken = 0 := by simpa using hc
  clear hc
  have hz0 : wSeal (v, D) = match v.log with
    | none => (1, (v, D))
    | some g => if (wWrite (v, D) (v.spot (g.cost - 1)) g.commit).1 ≠ 0 then wWrite (v, D) (v.spot (g.cost - 1)) g.commit else
      if v.size < v.used + g.cost then (90, (wWrite (v, D) (v.spot (g.cost - 1)) g.commit).2) else
      (0, { v with used := v.used + g.cost, next := v.next + 1, sure := false, log := none }, (wWrite (v, D) (v.spot (g.cost - 1)) g.commit).2.2) := if_neg (by simpa using h0)
  rw [hz0]
  cases hg : v.log with
  | none =>
    cases lp with
    | some x =>
      refine VC.know (p := False) (fun w hw => ?_) (fun h => h.elim)
      have := hw.reord (L := [logRes v.log (some x)]) (.cons (.tail (.tail (.tail .head))) .nil)
      rw [hg] at this
      exact this.factOpen
    | none =>
      refine w ?_
      refine VE.done1 rfl rfl ?_
      exact Ent.trans (Ent.re (L := WalO wp b r none v (BayR b D :: R))) (WalR.shut r none)
  | some g =>
    cases lp with
    | none =>
      refine VC.know (p := False) (fun w hw => ?_) (fun h => h.elim)
      have := hw.reord (L := [logRes v.log none]) (.cons (.tail (.tail (.tail .head))) .nil)
      rw [hg] at this
      exact this.factOpen
    | some x =>
      obtain ⟨lg, ca, cc⟩ := x
      dsimp only
      obtain ⟨hg1, hg2, hg3, hg4⟩ := hv.log g hg
      refine VC.ent (logOpen hg) ?_
      refine VC.know (p := ca = none -> g.commit.length = 0) (fun w hw => hw.tail.tail.tail.tail.ownNone (.head _)) ?_
      intro hcn
      have hl : Rds W (WalO wp b r (some (lg, ca, cc)) v R) 1 ca g.commit.length (bytes g.commit) := by
        refine Rds.star (L := [Row lg 164 [.int .i64 g.cost, .slice ca g.commit.length cc], OwnB (ca, cc) g.commit]) ?_ (fun R => Rds.own (bytes_one _) (.tail _ (.head _)) (by simp) hcn)
        have : logRes v.log (some (lg, ca, cc)) = star [Row lg 164 [.int .i64 g.cost, .slice ca g.commit.length cc], OwnB (ca, cc) g.commit] := by rw [hg]; rfl
        rw [<- this]
        exact .tail _ (.tail _ (.head _))
      refine w ?_
      (refine VC.drawn [] 16 [0, 1, 2, 3, 4, 5, 6, 7, 8, 9, 10, 11, 12, 13, 14, 15, 16, 17] _ rfl (by kernel_rfl) (by kernel_rfl) Ent.re ?_)
      refine w ?_
      refine VD.re 28 (.int .i64 ((g.cost - 1 : Nat) : Int)) rfl (by congr 1; omega) ?_
      refine VD.ent (logClose hg) ?_
      (refine zq ?_; refine zy rfl rfl (walplace_ok wp b r (some (lg, ca, cc)) v hv (g.cost - 1) (by omega) (Nat.le_trans (dv_cap hcp _) (by omega)) hl) ?_)
      intro _ _
      refine w ?_
      refine zk ?_ ?_ <;> intro hc
      · have h9 : (wWrite (v, D) ((v.spot (g.cost - 1) : Nat) : Int) g.commit).1 ≠ 0 := by simpa using hc
        rw [if_pos h9]
        refine w ?_
        refine VE.done1 rfl rfl ?_
        exact Ent.trans (Ent.re (L := WalO wp b r (some (lg, ca, cc)) (wWrite (v, D) ((v.spot (g.cost - 1) : Nat) : Int) g.commit).2.1 (BayR b (wWrite (v, D) ((v.spot (g.cost - 1) : Nat) : Int) g.commit).2.2 :: R))) (WalR.shut r _)
      have h9 : (wWrite (v, D) ((v.spot (g.cost - 1) : Nat) : Int) g.commit).1 = 0 := by simpa using hc
      clear hc
      rw [if_neg (by simpa using h9)]
      have hsm := (wWrite_same h9).1
      rw [hsm]
      obtain ⟨D2, hD2⟩ : ∃ D2, D2 = (wWrite (v, D) ((v.spot (g.cost - 1) : Nat) : Int) g.commit).2.2 := ⟨_, rfl⟩
      have hpair : (wWrite (v, D) ((v.spot (g.cost - 1) : Nat) : Int) g.commit).2 = (v, D2) := Prod.ext hsm hD2.symm
      rw [hpair]
      dsimp only
      refine VC.ent (logOpen hg) ?_
      refine w ?_
      (refine VC.drawn [11] 16 [0, 1, 2, 3, 4, 5, 6, 7, 8, 9, 10, 11, 12, 13, 14, 15, 16] [walRow wp b r (some (lg, ca, cc)) v, Row lg 164 [.int .i64 g.cost, .slice ca g.commit.length cc]] rfl (by kernel_rfl) (by kernel_rfl) Ent.re ?_)
      refine w ?_
      refine VD.ent (H' := RingR r v.size v.tail v.used :: BayR b D2 :: walRow wp b r (some (lg, ca, cc)) v :: Row lg 164 [.int .i64 g.cost, .slice ca g.commit.length cc] :: OwnB (ca, cc) g.commit :: R) Ent.re ?_
      by_cases hfull : v.size < v.used + g.cost
      · rw [if_pos hfull]
        (refine zq ?_; refine zy rfl rfl (ringtake_full r hv.ring g.cost hfull) ?_)
        intro _ _
        refine ⟨Ent.re, ?_⟩
        refine w ?_
        refine VE.done1 rfl rfl ?_
        dsimp only
        exact Ent.trans (Ent.re (L := BayR b D2 :: walRow wp b r (some (lg, ca, cc)) v :: RingR r v.size v.tail v.used :: Row lg 164 [.int .i64 g.cost, .slice ca g.commit.length cc] :: OwnB (ca, cc) g.commit :: R))
          (Ent.trans (logClose hg) (Ent.trans (Ent.re (L := WalO wp b r (some (lg, ca, cc)) v (BayR b D2 :: R))) (WalR.shut r _)))
      · rw [if_neg hfull]
        (refine zq ?_; refine zy rfl rfl (ringtake_ok r hv.ring g.cost (by omega)) ?_)
        intro x9 _
        refine ⟨Ent.re, ?_⟩
        refine w ?_
        have hnx := hv.next
        refine VE.done1 rfl rfl ?_
        dsimp only
        have hw9 : IntKind.u64.wrap ((v.next : Int) + 1) = ((v.next + 1 : Nat) : Int) := by rw [show ((v.next : Int) + 1) = ((v.next + 1 : Nat) : Int) by omega, wrap64_of (by omega)]
        refine Ent.trans (Ent.re (L := walRow wp b r none { v with used := v.used + g.cost, next := v.next + 1, sure := false, log := none } :: RingR r v.size v.tail (v.used + g.cost) :: BayR b D2 :: R) (by
          unfold walRow
          dsimp only
          rw [<- hw9]
          (repeat first | exact .refl | (apply Reord.cons; focus repeat first | exact .head | apply Del.tail) | exact .nil | apply Reord.drop))) (walNone rfl)
theorem walsync_ok {D : BayD} (wp b : Nat) (v : WalD) :
  Does1 W Tryz.prog 54 [.pointer (some ⟨wp, 0, none⟩)] (WalR wp b v :: BayR b D :: R) (.int .u16 (wSync (v, D)).1) (WalR wp b (wSync (v, D)).2.1 :: BayR b (wSync (v, D)).2.2 :: R) := by
 refine walDoes fun r lp => ?_
 (refine Does.enter Tryz.func54 Tryz.ntmps54 rfl rfl ?_)
 refine w ?_
 refine zk ?_ ?_ <;> intro hc
 ·
  have hz : wSync (v, D) = (0, (v, D)) := if_pos hc
  rw [hz]
  refine w ?_
  refine VE.done1 rfl rfl ?_
  exact Ent.trans (Ent.re (L := WalO wp b r lp v (BayR b D :: R))) (WalR.shut r lp)
 have hz : wSync (v, D) = ((wFlush (v, D)).1, { (wFlush (v, D)).2.1 with sure := decide ((wFlush (v, D)).1 = 0) }, (wFlush (v, D)).2.2) := if_neg (by rw [hc]; simp)
 rw [hz]
 refine w ?_
 (refine zq ?_; refine zy rfl rfl (walflush_ok wp b r lp v) ?_)
 intro _ _
 refine w ?_
 refine VE.done1 rfl rfl ?_
 dsimp only
 refine Ent.trans (Ent.re (L := WalO wp b r lp { (wFlush (v, D)).2.1 with sure := decide ((wFlush (v, D)).1 = 0) } (BayR b (wFlush (v, D)).2.2 :: R)) ?_) (WalR.shut r lp)
 have h1 : ((wFlush (v, D)).1 == 0) = decide ((wFlush (v, D)).1 = 0) := by rw [Bool.eq_iff_iff]; simp
 unfold WalO walRow
 dsimp only
 rw [<- h1]
 (repeat first | exact .refl | (apply Reord.cons; focus repeat first | exact .head | apply Del.tail) | exact .nil | apply Reord.drop)
theorem wCheck_same {v : WalD} {D : BayD} {c : ChkD} (h : (wCheck (v, D) c).1 = 0) : (wCheck (v, D) c).2.1 = v := by
 unfold wCheck at *
 split at h
 · rename_i h0; exact absurd h h0
 ·
  rename_i h0
  rw [if_neg h0]
  split at h
  · rename_i h1; exact absurd h h1
  ·
   rename_i h1
   rw [if_neg h1]
   have h2 : (wWrite (v, D) 1 c.enc.2).1 = 0 := Decidable.byContradiction h1
   have h3 : (wWrite (v, D) 1 c.enc.2).2 = (v, (wWrite (v, D) 1 c.enc.2).2.2) := Prod.ext (wWrite_same h2).1 rfl
   rw [h3] at h ⊢
   exact (wFlush_same h).1
theorem wCheck_log (v : WalD) (D : BayD) (c : ChkD) : (wCheck (v, D) c).2.1.log = v.log /\ (wCheck (v, D) c).2.1.slot = v.slot := by
 unfold wCheck
 split
 · exact ⟨rfl, rfl⟩
 ·
  split
  · exact wWrite_log ..
  · rw [wWrite_eq, wFlush_eq]; exact ⟨rfl, rfl⟩
theorem wCheck_shut {wp b : Nat} {v : WalD} (r : Nat) (lp : Option (Nat × (Option Addr × Nat))) : Ent W (WalO wp b r lp v R) (WalR wp b v :: R) := WalR.shut r lp
theorem walempty_ok {D : BayD} {c0 : Nat} (wp b : Nat) (v : WalD) (e : Nat) (he : e < 2 ^ 64) (hv : v.ok) (hcp : D.capd c0) (hc0 : c0 <= 999990000) :
  Does1 W Tryz.prog 119 [.pointer (some ⟨wp, 0, none⟩), .int .u64 e] (WalR wp b v :: BayR b D :: R) (.int .u16 (wEmpty (v, D) e).1) (WalR wp b (wEmpty (v, D) e).2.1 :: BayR b (wEmpty (v, D) e).2.2 :: R) := by
 have hr1 := hv.ring.lo; have hr2 := hv.ring.hi; have hr3 := hv.ring.tl; have hr4 := hv.ring.us
 have hm : (v.tail + v.used) % v.size < v.size := Nat.mod_lt _ (by omega)
 have hnx := hv.next
 refine walDoes fun r lp => ?_
 (refine Does.enter Tryz.func119 Tryz.ntmps119 rfl rfl ?_)
 refine w ?_
 refine zk ?_ ?_ <;> intro hc
 ·
  have h0 : v.broken ≠ 0 := by simpa using hc
  have hz : wEmpty (v, D) e = (v.broken, (v, D)) := if_pos h0
  rw [hz]
  refine w ?_
  refine VE.done1 rfl rfl ?_
  exact Ent.trans (Ent.re (L := WalO wp b r lp v (BayR b D :: R))) (WalR.shut r lp)
 have h0 : v.broken = 0 := by simpa using hc
 clear hc
 refine w ?_
 refine zk ?_ ?_ <;> intro hc
 ·
  have h1 : v.sure = false := by simpa using hc
  have hz : wEmpty (v, D) e = (1, (v, D)) := by unfold wEmpty; rw [if_neg (by simpa using h0), if_pos h1]
  rw [hz]
  refine w ?_
  refine VE.done1 rfl rfl ?_
  exact Ent.trans (Ent.re (L := WalO wp b r lp v (BayR b D :: R))) (WalR.shut r lp)
 have h1 : v.sure = true := by simpa using hc
 clear hc
 have hz : wEmpty (v, D) e = if (wCheck (v, D) ⟨e, v.next, v.head⟩).1 ≠ 0 then wCheck (v, D) ⟨e, v.next, v.head⟩ else
   (0, { v with epoch := e, tail := v.head, used := 0, log := none }, (wCheck (v, D) ⟨e, v.next, v.head⟩).2.2) := by
  unfold wEmpty
  rw [if_neg (by simpa using h0), if_neg (by dsimp only; rw [h1]; simp)]
 rw [hz]
 refine w ?_
 refine VC.drawn [10] 12 [0, 1, 2, 3, 4, 5, 6, 7, 8, 9, 10, 11, 12, 13] (BayR b D :: WalO wp b r lp v R) rfl (by kernel_rfl) (by kernel_rfl) Ent.refl ?_
 refine w ?_
 refine VD.ent (H' := RingR r v.size v.tail v.used :: BayR b D :: walRow wp b r lp v :: logRes v.log lp :: R) Ent.re ?_
 (refine zq ?_; refine zy rfl rfl (ringhead_ok r hv.ring) ?_)
 intro _ _
 refine ⟨Ent.re, ?_⟩
 refine w ?_
 ((first | apply VO.pure rfl rfl | apply VD.take rfl rfl rfl | (refine VD.end rfl rfl rfl ?_; apply OpV.pure)); apply PureAt.build sb_98 rfl; (simp [buildX, setL, Value.cells]; rfl); rfl)
 refine VD.ent (H' := BayR b D :: WalO wp b r lp v R) Ent.re ?_
 (refine zq ?_; refine zy rfl rfl (walcheck_ok wp b r lp v ⟨e, v.next, v.head⟩ ⟨he, by dsimp only; omega, by dsimp only [WalD.head]; omega⟩ hcp (by omega)) ?_)
 intro _ _
 refine w ?_
 refine zk ?_ ?_ <;> intro hc
 ·
  have h9 : (wCheck (v, D) ⟨e, v.next, v.head⟩).1 ≠ 0 := by simpa using hc
  rw [if_pos h9]
  refine w ?_
  refine VE.done1 rfl rfl ?_
  exact Ent.trans (Ent.re (L := WalO wp b r lp (wCheck (v, D) ⟨e, v.next, v.head⟩).2.1 (BayR b (wCheck (v, D) ⟨e, v.next, v.head⟩).2.2 :: R))) (wCheck_shut r lp)
 have h9 : (wCheck (v, D) ⟨e, v.next, v.head⟩).1 = 0 := by simpa using hc
 clear hc
 rw [if_neg (by simpa using h9), wCheck_same h9]
 refine w ?_
 refine VC.drawn [8, 9] 14 [0, 1, 2, 3, 4, 5, 6, 7, 8, 9, 10, 11, 12, 13, 14] [walRow wp b r lp v] rfl (by kernel_rfl) (by kernel_rfl) Ent.re ?_
 refine w ?_
 refine VD.ent (H' := RingR r v.size v.tail v.used :: BayR b (wCheck (v, D) ⟨e, v.next, v.head⟩).2.2 :: walRow wp b r lp v :: logRes v.log lp :: R) Ent.re ?_
 (refine zq ?_; refine zy rfl rfl (ringused_ok r v.size v.tail v.used) ?_)
 intro _ _
 refine ⟨Ent.re, ?_⟩
 refine w ?_
 (refine zq ?_; refine zy rfl rfl (ringgive_ok r hv.ring v.used (Nat.le_refl _)) ?_)
 intro x9 _
 refine ⟨Ent.re, ?_⟩
 refine w ?_
 refine VE.done1 rfl rfl ?_
 dsimp only
 refine Ent.trans (Ent.re (L := walRow wp b r none { v with epoch := e, tail := v.head, used := 0, log := none } :: RingR r v.size v.head 0 :: BayR b (wCheck (v, D) ⟨e, v.next, v.head⟩).2.2 :: R) (by
  unfold WalD.head
  rw [show v.used - v.used = 0 by omega]
  (repeat first | exact .refl | (apply Reord.cons; focus repeat first | exact .head | apply Del.tail) | exact .nil | apply Reord.drop))) (walNone rfl)
theorem walreclaim_ok {D : BayD} {c0 : Nat} (wp b : Nat) (v : WalD) (hv : v.ok) (hcp : D.capd c0) (hc0 : c0 <= 999990000) :
  Does1 W Tryz.prog 56 [.pointer (some ⟨wp, 0, none⟩)] (WalR wp b v :: BayR b D :: R) (.int .u16 (wEmpty (v, D) v.epoch).1) (WalR wp b (wEmpty (v, D) v.epoch).2.1 :: BayR b (wEmpty (v, D) v.epoch).2.2 :: R) := by
 have hepo := hv.epoch
 refine walDoes fun r lp => ?_
 (refine Does.enter Tryz.func56 Tryz.ntmps56 rfl rfl ?_)
 refine w ?_
 refine VO.ent (Ent.trans (Ent.re (L := WalO wp b r lp v (BayR b D :: R))) (WalR.shut r lp)) ?_
 (refine zq ?_; refine zy rfl rfl (walempty_ok wp b v v.epoch (by omega) hv hcp hc0) ?_)
 intro _ _
 refine w ?_
 exact VE.done1 rfl rfl Ent.re
theorem walrenew_ok {D : BayD} {c0 : Nat} (wp b : Nat) (v : WalD) (hv : v.ok) (hcp : D.capd c0) (hc0 : c0 <= 999990000) :
  Does1 W Tryz.prog 58 [.pointer (some ⟨wp, 0, none⟩)] (WalR wp b v :: BayR b D :: R) (.int .u16 (wEmpty (v, D) (v.epoch + 1)).1) (WalR wp b (wEmpty (v, D) (v.epoch + 1)).2.1 :: BayR b (wEmpty (v, D) (v.epoch + 1)).2.2 :: R) := by
 have hepo := hv.epoch
 refine walDoes fun r lp => ?_
 (refine Does.enter Tryz.func58 Tryz.ntmps58 rfl rfl ?_)
 refine w ?_
 refine VO.re 8 (.int .u64 ((v.epoch + 1 : Nat) : Int)) rfl (by congr 1; rw [show ((v.epoch : Int) + 1) = ((v.epoch + 1 : Nat) : Int) by omega, wrap64_of (by omega)]) ?_
 refine VO.ent (Ent.trans (Ent.re (L := WalO wp b r lp v (BayR b D :: R))) (WalR.shut r lp)) ?_
 (refine zq ?_; refine zy rfl rfl (walempty_ok wp b v (v.epoch + 1) (by omega) hv hcp hc0) ?_)
 intro _ _
 refine w ?_
 exact VE.done1 rfl rfl Ent.re
theorem walsize_ok (wp b : Nat) (v : WalD) : Does1 W Tryz.prog 41 [.pointer (some ⟨wp, 0, none⟩)] (WalR wp b v :: R) (.int .i64 v.size) (WalR wp b v :: R) := by
 refine DoesO (fun w hw => WalR.open hw) fun x => ?_
 (refine Does.enter Tryz.func41 Tryz.ntmps41 rfl rfl ?_)
 refine w ?_
 refine VO.ent (H' := RingR x.1 v.size v.tail v.used :: walRow wp b x.1 x.2 v :: logRes v.log x.2 :: R) Ent.re ?_
 (refine zq ?_; refine zy rfl rfl (ringsize_ok x.1 v.size v.tail v.used) ?_)
 intro _ _
 refine w ?_
 exact VE.done1 rfl rfl (Ent.trans (Ent.re (L := WalO wp b x.1 x.2 v R)) (WalR.shut x.1 x.2))
theorem walused_ok (wp b : Nat) (v : WalD) : Does1 W Tryz.prog 27 [.pointer (some ⟨wp, 0, none⟩)] (WalR wp b v :: R) (.int .i64 v.used) (WalR wp b v :: R) := by
 refine DoesO (fun w hw => WalR.open hw) fun x => ?_
 (refine Does.enter Tryz.func27 Tryz.ntmps27 rfl rfl ?_)
 refine w ?_
 refine VO.ent (H' := RingR x.1 v.size v.tail v.used :: walRow wp b x.1 x.2 v :: logRes v.log x.2 :: R) Ent.re ?_
 (refine zq ?_; refine zy rfl rfl (ringused_ok x.1 v.size v.tail v.used) ?_)
 intro _ _
 refine w ?_
 exact VE.done1 rfl rfl (Ent.trans (Ent.re (L := WalO wp b x.1 x.2 v R)) (WalR.shut x.1 x.2))
theorem walnext_ok (wp b : Nat) (v : WalD) : Does1 W Tryz.prog 26 [.pointer (some ⟨wp, 0, none⟩)] (WalR wp b v :: R) (.int .u64 v.next) (WalR wp b v :: R) := by
 refine DoesO (fun w hw => WalR.open hw) fun x => ?_
 (refine Does.enter Tryz.func26 Tryz.ntmps26 rfl rfl ?_)
 refine w ?_
 exact VE.done1 rfl rfl (Ent.trans (Ent.re (L := WalO wp b x.1 x.2 v R)) (WalR.shut x.1 x.2))
theorem walsure_ok (wp b : Nat) (v : WalD) : Does1 W Tryz.prog 42 [.pointer (some ⟨wp, 0, none⟩)] (WalR wp b v :: R) (.bool v.sure) (WalR wp b v :: R) := by
 refine DoesO (fun w hw => WalR.open hw) fun x => ?_
 (refine Does.enter Tryz.func42 Tryz.ntmps42 rfl rfl ?_)
 refine w ?_
 exact VE.done1 rfl rfl (Ent.trans (Ent.re (L := WalO wp b x.1 x.2 v R)) (WalR.shut x.1 x.2))
abbrev RRing (r size tail used : Nat) : SProp := Row r 112 [.int .i64 size, .int .i64 tail, .int .i64 used]
theorem rringnew_ok {size tail used : Nat} (h : RingOk size tail used) :
  Does W Tryz.prog 35 [.int .i64 size, .int .i64 tail, .int .i64 used] R (β := Nat) (fun _ => True) (fun r => .tuple #[.pointer (some ⟨r, 0, none⟩), .int .i64 0]) (fun r => RRing r size tail used :: R) := by
 have h1 := h.lo; have h2 := h.hi; have h3 := h.tl; have h4 := h.us
 (refine Does.enter Tryz.func35 Tryz.ntmps35 rfl rfl ?_)
 refine w ?_; repeat (refine zj fun _ => ?_; refine w ?_)
 (first | refine VO.gF rfl rfl rfl (decide_eq_false (by omega)) ?_ | refine VD.gF rfl rfl rfl (decide_eq_false (by omega)) ?_)
 refine w ?_; repeat (refine zj fun _ => ?_; refine w ?_)
 (first | refine VO.gF rfl rfl rfl (decide_eq_false (by omega)) ?_ | refine VD.gF rfl rfl rfl (decide_eq_false (by omega)) ?_)
 refine w ?_; repeat (refine zj fun _ => ?_; refine w ?_)
 (first | refine VO.gF rfl rfl rfl (decide_eq_false (by omega)) ?_ | refine VD.gF rfl rfl rfl (decide_eq_false (by omega)) ?_)
 refine w ?_; repeat (refine zj fun _ => ?_; refine w ?_)
 (refine VC.condFe rfl rfl (decide_eq_false (by omega)) ?_)
 refine w ?_; repeat (refine zj fun _ => ?_; refine w ?_)
 (apply VO.pure rfl rfl; apply PureAt.build sb_112 rfl; (simp [buildX, setL, Value.cells]; rfl); rfl)
 refine w ?_; repeat (refine zj fun _ => ?_; refine w ?_)
 rename_i r
 exact VE.done r rfl trivial rfl Ent.re
theorem rringhead_ok (r : Nat) {size tail used : Nat} (h : RingOk size tail used) : Does1 W Tryz.prog 117 [.pointer (some ⟨r, 0, none⟩)] (RRing r size tail used :: R) (.int .i64 (((tail + used) % size : Nat) : Int)) (RRing r size tail used :: R) := by
 have h1 := h.lo; have h2 := h.hi; have h3 := h.tl; have h4 := h.us
 (refine Does.enter Tryz.func117 Tryz.ntmps117 rfl rfl ?_)
 refine w ?_
 ((refine VC.quiet rfl (by kernel_rfl) (by kernel_rfl) ?_); refine w ?_)
 ((first | apply VO.pure rfl rfl | apply VQ.pure rfl rfl | apply VD.take rfl rfl rfl | (refine VD.end rfl rfl rfl ?_; apply OpV.pure)); exact PureAt.rem (a := tail + used) (b := size) rfl rfl (by omega); rfl)
 refine w ?_
 exact VE.done1 rfl rfl Ent.re
abbrev spC (L : List (Int × Int)) : List Value := L.flatMap fun x => [.int .i64 x.1, .int .i64 x.2]
theorem spC_len (L : List (Int × Int)) : (spC L).length = L.length * 2 := flat_length L (fun _ _ => rfl)
theorem spC_one (L : List (Int × Int)) : ∀ u ∈ spC L, u.oneCell' = true := by
 intro u hu
 obtain ⟨x, _, h⟩ := List.mem_flatMap.1 hu
 simp only [List.mem_cons, List.not_mem_nil, or_false] at h
 rcases h with rfl | rfl <;> rfl
theorem spC_last (L : List (Int × Int)) (h : L ≠ []) : ∃ M x, L = M ++ [x] := ⟨L.dropLast, L.getLast h, (List.dropLast_concat_getLast h).symm⟩
theorem st_rspans : SliceT Tryz.prog 165 206 (.agg #[.int .i64 0, .int .i64 0]) 2 16 := ⟨by kernel_rfl, by kernel_rfl, rfl, by simp [Value.cells, Value.oneCell']⟩
theorem rspans_ok (r : Nat) {size tail used : Nat} (h : RingOk size tail used) (fr n : Nat) (hf : fr < size) (hn : n <= 4096) :
    Does W Tryz.prog 175 [.pointer (some ⟨r, 0, none⟩), .int .i64 fr, .int .i64 n] (RRing r size tail used :: R) (β := (Option Addr × Nat) × Nat) (fun _ => True) (fun x => .slice x.1.1 x.2 x.1.2) (fun _ => RRing r size tail used :: R) := by
  have h1 := h.lo; have h2 := h.hi; have h3 := h.tl; have h4 := h.us
  (refine Does.enter Tryz.func175 Tryz.ntmps175 rfl rfl ?_)
  refine VC.ent (fun w hw => hw.ownNil 206 2) ?_
  refine w ?_
  refine VC.loop (α := Nat × List (Int × Int) × (Option Addr × Nat)) (fun y => y.1 <= n /\ y.2.1.length <= y.1 /\ (1 <= y.1 -> y.2.1 ≠ [])) (fun y => Sl.Own 206 2 (.slice y.2.2.1 y.2.1.length y.2.2.2) y.2.1.length (spC y.2.1) :: RRing r size tail used :: R)
    (fun y => [(0, .pointer (some ⟨r, 0, none⟩)), (1, .int .i64 fr), (2, .int .i64 n), (7, .slice y.2.2.1 y.2.1.length y.2.2.2), (8, .int .i64 y.1)]) (fun y => n - y.1) rfl (0, [], (none, 0)) ⟨Nat.zero_le _, Nat.le_refl _, fun q => absurd q (by omega)⟩ Ent.refl ⟨rfl, rfl, rfl, rfl, rfl, trivial⟩ ?_
  rintro ⟨i, L, ⟨so, sc⟩⟩ ⟨hi, hL, hne⟩
  dsimp only at hi hL hne ⊢
  refine w ?_
  refine zk ?_ ?_ <;> intro hc
  rotate_left
  · refine w ?_
    refine VE.done ((so, sc), L.length) rfl trivial rfl (Ent.drop Ent.refl)
  have hlt : i < n := by have := of_decide_eq_true hc; omega
  clear hc
  obtain ⟨at_, hat⟩ : ∃ at_ : Nat, at_ = (fr + i) % size := ⟨_, rfl⟩
  refine w ?_
  refine VO.pure rfl rfl (PureAt.rem (a := fr + i) (b := size) rfl rfl (by omega)) rfl ?_
  rw [<- hat]
  refine w ?_
  refine VO.joinR (α := Unit) (fun _ => True) (fun _ => Sl.Own 206 2 (.slice so L.length sc) L.length (spC L) :: RRing r size tail used :: R)
    (fun _ => [(0, .pointer (some ⟨r, 0, none⟩)), (1, .int .i64 fr), (2, .int .i64 n), (7, .slice so L.length sc), (8, .int .i64 i), (9, .int .i64 at_), (28, .bool (decide (i = 0 \/ at_ = 0)))]) (fun Q2 jn => ?_) ?_
  · refine zg ?_ ?_ <;> intro hb
    · have hi0 : i = 0 := by have : (i : Int) = 0 := by simpa using hb
                             omega
      refine w ?_
      exact jn.to () trivial ⟨rfl, rfl, rfl, rfl, rfl, rfl, asV rfl (by congr 1; symm; exact decide_eq_true (.inl hi0)), trivial⟩ Ent.refl
    · have hi0 : ¬ i = 0 := by have : ¬ (i : Int) = 0 := by simpa using hb
                               omega
      refine w ?_
      exact jn.to () trivial ⟨rfl, rfl, rfl, rfl, rfl, rfl, asV rfl (by congr 1; rw [Bool.eq_iff_iff]; simp [hi0]), trivial⟩ Ent.refl
  rintro ⟨⟩ -
  (refine VC.join (α := List (Int × Int) × (Option Addr × Nat)) (fun y => y.1.length <= i + 1 /\ y.1 ≠ []) (fun y => Sl.Own 206 2 (.slice y.2.1 y.1.length y.2.2) y.1.length (spC y.1) :: RRing r size tail used :: R) (fun y => [(0, .pointer (some ⟨r, 0, none⟩)), (1, .int .i64 fr), (2, .int .i64 n), (7, .slice y.2.1 y.1.length y.2.2), (8, .int .i64 i)]) ?_ ?_)
  · intro Q2 jn
    refine zk ?_ ?_ <;> intro hc
    · refine w ?_
      ((first | apply VO.pure rfl rfl | apply VD.take rfl rfl rfl | (refine VD.end rfl rfl rfl ?_; apply OpV.pure)); apply PureAt.build sb_206 rfl; (simp [buildX, setL, Value.cells]; rfl); rfl)
      refine w ?_
      refine zq ?_
      refine OpV.buildSlice (cs := [.int .i64 at_, .int .i64 0]) st_rspans rfl rfl (by intro v hv; rw [List.mem_singleton.1 hv]; rfl) (by simp [Value.cells]) (by decide) rfl ?_
      intro nc
      refine w ?_
      refine zq ?_
      refine OpV.appendRow st_rspans rfl rfl zh zm rfl (by simp [Value.oneCell']) (by simp only [maxLen]; omega) (by omega) rfl ?_
      intro so' sc'
      refine w ?_
      refine jn.to (L ++ [((at_ : Int), 0)], so', sc') ⟨by dsimp only; rw [List.length_append]; simp; omega, by simp⟩ ⟨rfl, rfl, rfl, asV rfl (by simp), rfl, trivial⟩ ?_
      dsimp only
      rw [show spC (L ++ [((at_ : Int), 0)]) = spC L ++ [.int .i64 at_, .int .i64 0] by unfold spC; rw [List.flatMap_append]; rfl, List.length_append, List.length_singleton]
      exact Ent.re
    · have hno : ¬ (i = 0 \/ at_ = 0) := of_decide_eq_false hc
      refine w ?_
      refine jn.to (L, so, sc) ⟨by dsimp only; omega, hne (by omega)⟩ ⟨rfl, rfl, rfl, rfl, rfl, trivial⟩ Ent.refl
  rintro ⟨L2, ⟨so2, sc2⟩⟩ ⟨hL2, hne2⟩
  dsimp only at hL2 hne2 ⊢
  obtain ⟨M, x, rfl⟩ := spC_last L2 hne2
  rw [List.length_append, List.length_singleton] at hL2
  refine VC.know (p := so2 = none -> (M ++ [x]).length = 0) (fun w hw => Holds.ownNone hw (.head _)) ?_
  intro hsn
  obtain ⟨sa, rfl⟩ : ∃ a, so2 = some a := by cases so2 with | none => have := hsn rfl; simp at this | some a => exact ⟨a, rfl⟩
  have hlm : (M ++ [x]).length = M.length + 1 := by rw [List.length_append, List.length_singleton]
  have ec : spC (M ++ [x]) = spC M ++ [.int .i64 x.1, .int .i64 x.2] := by unfold spC; rw [List.flatMap_append]; rfl
  have hg : (spC (M ++ [x]))[M.length * 2 + 1]? = some (.int .i64 x.2) := by rw [ec, List.getElem?_append_right (by rw [spC_len]; omega), spC_len]; simp
  rw [hlm]
  refine w ?_
  refine VO.re 37 (.int .i64 (M.length : Int)) rfl (by congr 1; omega) ?_
  refine w ?_
  refine VO.pure rfl rfl (.ldRc tab_ok rfl rfl (Rds.own (spC_one _) (.head _) (by rw [spC_len, hlm]) (by simp)) hg) rfl ?_
  refine w ?_
  refine zq ?_
  refine OpV.stO2 tab_ok rfl rfl rfl rfl zh (by rw [spC_len, hlm]; omega) rfl ?_
  refine w ?_
  refine VE.round (i + 1, M ++ [(x.1, IntKind.i64.wrap (x.2 + 1))], some sa, sc2) ⟨hlt, by simp only [List.length_append, List.length_singleton]; omega, fun _ => by simp⟩ (by simp only; omega) ⟨rfl, rfl, rfl, asV rfl (by simp), asV rfl (by congr 1), trivial⟩ ?_
  dsimp only
  have e2 : (spC (M ++ [x])).set (M.length * 2 + 1) (.int .i64 (IntKind.i64.wrap (x.2 + 1))) = spC (M ++ [(x.1, IntKind.i64.wrap (x.2 + 1))]) := by
    rw [ec, List.set_append_right _ _ (by rw [spC_len]; omega), spC_len, show M.length * 2 + 1 - M.length * 2 = 1 by omega]
    unfold spC
    rw [List.flatMap_append]
    rfl
  rw [e2, show (M ++ [(x.1, IntKind.i64.wrap (x.2 + 1))]).length = M.length + 1 by simp]
  exact Ent.re
theorem rringtake_ok (r : Nat) {size tail used : Nat} (h : RingOk size tail used) (n : Nat) (hn : used + n <= size) :
  Does W Tryz.prog 118 [.pointer (some ⟨r, 0, none⟩), .int .i64 n] (RRing r size tail used :: R) (β := (Option Addr × Nat) × Nat) (fun _ => True) (fun x => .tuple #[.slice x.1.1 x.2 x.1.2, .int .i64 0]) (fun _ => RRing r size tail (used + n) :: R) := by
 have h1 := h.lo; have h2 := h.hi; have h3 := h.tl; have h4 := h.us
 have hm : (tail + used) % size < size := Nat.mod_lt _ (by omega)
 (refine Does.enter Tryz.func118 Tryz.ntmps118 rfl rfl ?_)
 refine w ?_
 ((refine VC.quiet rfl (by kernel_rfl) (by kernel_rfl) ?_); refine w ?_)
 (refine VC.condFe rfl rfl (decide_eq_false (by omega)) ?_)
 refine w ?_
 (refine zq ?_; refine zy rfl rfl (rringhead_ok r h) ?_)
 intro _ _
 refine w ?_
 (refine zq ?_; refine zy rfl rfl (rspans_ok r h ((tail + used) % size) n hm (by omega)) ?_)
 rintro x -
 refine w ?_
 exact VE.done x rfl trivial rfl Ent.re
theorem rringgive_ok (r : Nat) {size tail used : Nat} (h : RingOk size tail used) (n : Nat) (hn : n <= used) :
  Does W Tryz.prog 177 [.pointer (some ⟨r, 0, none⟩), .int .i64 n] (RRing r size tail used :: R) (β := (Option Addr × Nat) × Nat) (fun _ => True) (fun x => .tuple #[.slice x.1.1 x.2 x.1.2, .int .i64 0]) (fun _ => RRing r size ((tail + n) % size) (used - n) :: R) := by
 have h1 := h.lo; have h2 := h.hi; have h3 := h.tl; have h4 := h.us
 (refine Does.enter Tryz.func177 Tryz.ntmps177 rfl rfl ?_)
 refine w ?_
 (refine VC.condFe rfl rfl (decide_eq_false (by omega)) ?_)
 refine w ?_
 (refine zq ?_; refine zy rfl rfl (rspans_ok r h tail n h3 (by omega)) ?_)
 rintro x -
 refine w ?_
 (refine VC.drawn [] 12 [0, 1, 2, 3, 4, 5, 6, 7, 8, 9, 10, 11, 12, 13, 14] _ rfl (by kernel_rfl) (by kernel_rfl) Ent.re ?_)
 refine w ?_
 ((first | apply VO.pure rfl rfl | apply VQ.pure rfl rfl | apply VD.take rfl rfl rfl | (refine VD.end rfl rfl rfl ?_; apply OpV.pure)); exact PureAt.rem (a := tail + n) (b := size) rfl rfl (by omega); rfl)
 refine w ?_
 refine VE.done x rfl trivial rfl ?_
 rw [show RRing r size ((tail + n) % size) (used - n) = Row r 112 [.int .i64 size, .int .i64 (((tail + n) % size : Nat) : Int), .int .i64 ((used : Int) - n)] by rw [show (used : Int) - n = ((used - n : Nat) : Int) by omega]]
 exact Ent.re
abbrev costV (o : Option LogD) : Int := ((o.elim 0 LogD.cost : Nat) : Int)
abbrev rwalRow (w b r : Nat) (x : Option Addr × Nat) (cm : List UInt8) (v : WalD) : SProp :=
  Row w 102 [.pointer (some ⟨b, 0, none⟩), .int .i64 v.slot, .int .u64 v.epoch, .pointer (some ⟨r, 0, none⟩), .int .u64 v.next, .bool v.sure, .int .i64 (costV v.log), .slice x.1 cm.length x.2, .int .u16 v.broken]
abbrev RWalO (w b r : Nat) (x : Option Addr × Nat) (cm : List UInt8) (v : WalD) (R : List SProp) : List SProp :=
  rwalRow w b r x cm v :: RRing r v.size v.tail v.used :: OwnB x cm :: R
structure RWalX where
  r : Nat
  x : Option Addr × Nat
  cm : List UInt8
def RWalR (w b : Nat) (v : WalD) : SProp := ex fun y : RWalX => star (fact (∀ g, v.log = some g -> g.commit = y.cm) :: RWalO w b y.r y.x y.cm v [])
theorem RWalR.open {W w' : World} {R : List SProp} {w b : Nat} {v : WalD} (h : Holds W (RWalR w b v :: R) w') : ∃ y : { y : RWalX // ∀ g, v.log = some g -> g.commit = y.cm }, Holds W (RWalO w b y.1.r y.1.x y.1.cm v R) w' := by
 obtain ⟨y, h⟩ := h.exOpen
 have h := h.join
 exact ⟨⟨y, h.factOpen⟩, h.tail⟩
theorem RWalR.shut {w b : Nat} {v : WalD} (r : Nat) (x : Option Addr × Nat) (cm : List UInt8) (hf : ∀ g, v.log = some g -> g.commit = cm) : Ent W (RWalO w b r x cm v R) (RWalR w b v :: R) := fun w' h =>
 Holds.exShut (⟨r, x, cm⟩ : RWalX) (Holds.nest (L := fact _ :: RWalO w b r x cm v []) (h.factShut hf))
theorem rwalDoes {P : Program} {g : FuncId} {args : List Value} {R : List SProp} {w b : Nat} {v : WalD} {D : BayD} {β : Type} {A : β -> Prop} {r : β -> Value} {G : β -> List SProp}
  (h : ∀ rp x cm, (∀ g, v.log = some g -> g.commit = cm) -> Does W P g args (RBayR b D :: RWalO w b rp x cm v R) A r G) : Does W P g args (RWalR w b v :: RBayR b D :: R) A r G :=
 DoesO (fun w hw => RWalR.open hw) fun y => DoesE (Ent.re (H := rwalRow w b y.1.r y.1.x y.1.cm v :: RRing y.1.r v.size v.tail v.used :: OwnB y.1.x y.1.cm :: RBayR b D :: R) (L := RBayR b D :: RWalO w b y.1.r y.1.x y.1.cm v R)) (h y.1.r y.1.x y.1.cm y.2)
theorem rwalShut {w b r : Nat} {v : WalD} {D : BayD} {x : Option Addr × Nat} {cm : List UInt8} (hf : ∀ g, v.log = some g -> g.commit = cm) : Ent W (RBayR b D :: RWalO w b r x cm v R) (RWalR w b v :: RBayR b D :: R) :=
 Ent.trans (Ent.re (L := RWalO w b r x cm v (RBayR b D :: R))) (RWalR.shut r x cm hf)
theorem wWrite_z {v : WalD} {D : BayD} (h : v.broken = 0) (a : Int) (l : List UInt8) : wWrite (v, D) a l = ((D.write v.slot a l).1, ({ v with broken := (D.write v.slot a l).1 }, (D.write v.slot a l).2)) := if_pos h
theorem wFlush_z {v : WalD} {D : BayD} (h : v.broken = 0) : wFlush (v, D) = ((D.flush v.slot).1, ({ v with broken := (D.flush v.slot).1 }, (D.flush v.slot).2)) := if_pos h
theorem broken_self {v : WalD} (h : v.broken = 0) : WalD.mk v.slot v.epoch v.size v.tail v.used v.next v.sure v.log 0 = v := by cases v; subst h; rfl
theorem rwcheck_ok {D : BayD} {c0 : Nat} (wp b r : Nat) (x : Option Addr × Nat) (cm : List UInt8) (v : WalD) (hz : v.broken = 0) (e : Nat) (t : Int) (hf : (ChkD.mk e v.next t).fit) (hs : D.sane) (hcp : D.capd c0) (hc0 : c0 <= 999999000) :
  Does1 W Tryz.prog 36 [.pointer (some ⟨wp, 0, none⟩), .int .u64 e, .int .i64 t] (RBayR b D :: RWalO wp b r x cm v R) (.int .u16 (wCheck (v, D) ⟨e, v.next, t⟩).1) (RBayR b (wCheck (v, D) ⟨e, v.next, t⟩).2.2 :: RWalO wp b r x cm (wCheck (v, D) ⟨e, v.next, t⟩).2.1 R) := by
 (refine Does.enter Tryz.func36 Tryz.ntmps36 rfl rfl ?_)
 refine w ?_
 (apply VO.pure rfl rfl; apply PureAt.build sb_98 rfl; (simp [buildX, setL, Value.cells]; rfl); rfl)
 refine w ?_
 have hE := rencs_ok (W := W) (R := RBayR b D :: RWalO wp b r x cm v R) ⟨e, v.next, t⟩ hf
 (refine zq ?_; refine zy rfl rfl (hE) ?_)
 generalize hcc : (ChkD.mk e v.next t) = c
 rintro ⟨xo, xc⟩ -
 refine VO.know (p := xo = none -> c.enc.2.length = 0) (fun w hw => hw.ownNone (.head _)) ?_
 intro hxn
 refine w ?_
 have hsm : 0 <= c.enc.1 /\ c.enc.1 <= 100 := by
  by_cases g : c.good
  · rw [chk_ok g]; exact ⟨by show (0 : Int) <= 0; decide, by show (0 : Int) <= 100; decide⟩
  · rw [chk_bad g]; decide
 refine zk ?_ ?_ <;> intro hc
 ·
  have h0 : c.enc.1 ≠ 0 := by simpa using hc
  have hw0 : wCheck (v, D) c = (c.enc.1, (v, D)) := if_pos h0
  rw [hw0]
  refine w ?_
  rw [show IntKind.u16.wrap c.enc.1 = c.enc.1 by rw [IntKind.wrap_u16]; omega]
  exact VE.done1 rfl rfl Ent.re
 have h0 : c.enc.1 = 0 := by simpa using hc
 clear hc
 have hw0 : wCheck (v, D) c = if (wWrite (v, D) 1 c.enc.2).1 ≠ 0 then wWrite (v, D) 1 c.enc.2 else wFlush (wWrite (v, D) 1 c.enc.2).2 := if_neg (by simpa using h0)
 rw [hw0]
 refine VC.ent (H' := RBayR b D :: RWalO wp b r x cm v (OwnB (xo, xc) c.enc.2 :: R)) Ent.re ?_
 refine w ?_
 (refine VC.drawn [] 9 [0, 1, 2, 3, 4, 5, 6, 7, 8, 9, 10] _ rfl (by kernel_rfl) (by kernel_rfl) Ent.re ?_)
 refine w ?_
 (refine zq ?_; refine zy rfl rfl (rbaywrite_ok b D v.slot 1 hs.dk (hs.dev _) (Nat.le_trans (dv_cap hcp _) (by omega)) (Rds.own (bytes_one _) (.tail _ (.tail _ (.tail _ (.head _)))) (by simp) hxn)) ?_)
 intro _ _
 have hs2 := hs.write v.slot 1 c.enc.2
 have hcp2 := write_capd hcp v.slot 1 c.enc.2
 rw [wWrite_z hz]
 dsimp only
 generalize (D.write v.slot 1 c.enc.2).2 = E at hs2 hcp2 ⊢
 generalize (D.write v.slot 1 c.enc.2).1 = e1
 refine w ?_
 by_cases h1 : e1 = 0
 ·
  subst h1
  rw [if_neg (by simp), broken_self hz, wFlush_z hz]
  refine w ?_
  (refine VC.drawn [] 8 [0, 1, 2, 3, 4, 5, 6, 7, 8, 9] _ rfl (by kernel_rfl) (by kernel_rfl) Ent.re ?_)
  refine w ?_
  (refine zq ?_; refine zy rfl rfl (rbayflush_ok b E v.slot hs2.dk (hs2.dev _) (Nat.le_trans (dv_cap hcp2 _) (by omega))) ?_)
  intro _ _
  dsimp only
  generalize (E.flush v.slot).2 = F
  generalize (E.flush v.slot).1 = e2
  refine w ?_
  by_cases h2 : e2 = 0
  ·
   subst h2
   rw [broken_self hz]
   refine w ?_
   exact VE.done1 rfl rfl Ent.re
  ·
   (refine VC.condTe rfl rfl (by simpa using h2) ?_)
   refine w ?_
   exact VE.done1 rfl rfl Ent.re
 ·
  rw [if_pos h1]
  (refine VC.condFe rfl rfl (by simpa using h1) ?_)
  refine w ?_
  (refine VC.condTe rfl rfl (by simpa using h1) ?_)
  refine w ?_
  exact VE.done1 rfl rfl Ent.re
theorem rwsync_ok {D : BayD} {c0 : Nat} (wp b : Nat) (v : WalD) (hs : D.sane) (hcp : D.capd c0) (hc0 : c0 <= 999990000) :
  Does1 W Tryz.prog 55 [.pointer (some ⟨wp, 0, none⟩)] (RWalR wp b v :: RBayR b D :: R) (.int .u16 (wSync (v, D)).1) (RWalR wp b (wSync (v, D)).2.1 :: RBayR b (wSync (v, D)).2.2 :: R) := by
 refine rwalDoes fun r x cm hg => ?_
 (refine Does.enter Tryz.func55 Tryz.ntmps55 rfl rfl ?_)
 refine w ?_
 refine zk ?_ ?_ <;> intro hc
 ·
  have hz : wSync (v, D) = (0, (v, D)) := if_pos hc
  rw [hz]
  refine w ?_
  exact VE.done1 rfl rfl (rwalShut hg)
 have hsu : v.sure = false := by simpa using hc
 have hz : wSync (v, D) = ((wFlush (v, D)).1, { (wFlush (v, D)).2.1 with sure := decide ((wFlush (v, D)).1 = 0) }, (wFlush (v, D)).2.2) := if_neg (by rw [hc]; simp)
 clear hc
 rw [hz]
 refine w ?_
 refine zk ?_ ?_ <;> intro hc
 ·
  have h0 : v.broken ≠ 0 := by simpa using hc
  have e1 : wFlush (v, D) = (v.broken, (v, D)) := if_neg h0
  rw [e1]
  dsimp only
  rw [decide_eq_false h0]
  have e2 : ({ v with sure := false } : WalD) = v := by cases v; subst hsu; rfl
  rw [e2]
  refine w ?_
  exact VE.done1 rfl rfl (rwalShut hg)
 have h0 : v.broken = 0 := by simpa using hc
 clear hc
 rw [wFlush_z h0]
 refine w ?_
 (refine VC.drawn [] 8 [0, 1, 2, 3, 4, 5, 6, 7, 8, 9] _ rfl (by kernel_rfl) (by kernel_rfl) Ent.re ?_)
 refine w ?_
 (refine zq ?_; refine zy rfl rfl (rbayflush_ok b D v.slot hs.dk (hs.dev _) (Nat.le_trans (dv_cap hcp _) (by omega))) ?_)
 intro _ _
 dsimp only
 generalize (D.flush v.slot).2 = F
 generalize (D.flush v.slot).1 = e2
 refine w ?_
 by_cases h2 : e2 = 0
 ·
  subst h2
  refine w ?_
  refine VE.done1 rfl rfl (Ent.trans ?_ (rwalShut (x := x) (cm := cm) (r := r) (v := { v with sure := decide ((0 : Int) = 0), broken := 0 }) hg))
  unfold RWalO rwalRow
  dsimp only
  rw [decide_eq_true rfl, <- h0]
  exact Ent.re
 ·
  (refine VC.condTe rfl rfl (by simpa using h2) ?_)
  refine w ?_
  refine VE.done1 rfl rfl (Ent.trans ?_ (rwalShut (x := x) (cm := cm) (r := r) (v := { v with sure := decide (e2 = 0), broken := e2 }) hg))
  unfold RWalO rwalRow
  dsimp only
  rw [decide_eq_false h2, <- hsu]
  exact Ent.re
theorem far_or (p : PatD) : p.far ↔ ((p.member < 0 \/ 15 < p.member) \/ p.row < 0) \/ 4095 < p.row := by unfold PatD.far; omega
theorem some_step {α : Type} {q : α -> Prop} {l : List α} {i : Nat} (h : i < l.length) : (∃ p ∈ l.take (i + 1), q p) ↔ (∃ p ∈ l.take i, q p) \/ q l[i] := by
 rw [List.take_succ_eq_append_getElem h]
 constructor
 ·
  rintro ⟨p, hp, hq⟩
  rw [List.mem_append, List.mem_singleton] at hp
  rcases hp with hp | rfl
  · exact .inl ⟨p, hp, hq⟩
  · exact .inr hq
 ·
  rintro (⟨p, hp, hq⟩ | hq)
  · exact ⟨p, List.mem_append_left _ hp, hq⟩
  · exact ⟨l[i], List.mem_append_right _ (List.mem_singleton.2 rfl), hq⟩
def farTo (e s : Nat) (l : List PatE) (i : Nat) : Bool := decide (¬ cntOk e s \/ ∃ p ∈ l.take i, p.D.far)
def shortTo (l : List PatE) (i : Nat) : Bool := decide (∃ p ∈ l.take i, p.d.data.length ≠ 128)
theorem farTo_iff (e s : Nat) (l : List PatE) (i : Nat) : farTo e s l i = true ↔ (¬ cntOk e s \/ ∃ p ∈ l.take i, p.D.far) := decide_eq_true_iff
theorem shortTo_iff (l : List PatE) (i : Nat) : shortTo l i = true ↔ ∃ p ∈ l.take i, p.d.data.length ≠ 128 := decide_eq_true_iff
theorem farTo_step (e s : Nat) {l : List PatE} {i : Nat} (h : i < l.length) : farTo e s l (i + 1) = true ↔ farTo e s l i = true \/ l[i].D.far := by
 rw [farTo_iff, farTo_iff, some_step (q := fun p : PatE => p.D.far) h, or_assoc]
theorem shortTo_step {l : List PatE} {i : Nat} (h : i < l.length) : shortTo l (i + 1) = true ↔ shortTo l i = true \/ l[i].d.data.length ≠ 128 := by
 rw [shortTo_iff, shortTo_iff, some_step (q := fun p : PatE => p.d.data.length ≠ 128) h]
theorem VO.joinRB {P : Program} {n : Nat} {c c2 : Code} {Q : Exit -> Act -> World -> Prop} {H : List SProp} {f : Fr} {α : Type} {k i : Nat} (A : α -> Prop) (G : α -> List SProp) (F : α -> Fr) (h1 : ∀ Q2, Met W n Q Q2 A G F -> VO W P n c k (blockC i Q2) H f) (h2 : ∀ x, A x -> VC W P n c2 Q (G x) (F x)) :
  VO W P n c k (blockC i (thenC P c2 Q)) H f := h1 _ (Met.of h2)
theorem rsecs_ok {ao : Option Addr} {cap : Nat} {l : List PatE} (e s : Nat) (he : e < 2 ^ 64) (hs : s < 2 ^ 64) (hp : RdPats W R ao l) (hfit : ∀ p ∈ l, p.fit) (hlen : l.length <= 140737488351232) :
    Does W Tryz.prog 116 [.int .u64 e, .agg #[.int .u64 s, .slice ao l.length cap]] R (β := (Option Addr × Nat) × List RowE) (fun y => y.2.map RowE.data = (secsM e s (l.map PatE.D)).2) (fun y => .tuple #[.slice y.1.1 y.2.length y.1.2, .int .i64 (secsM e s (l.map PatE.D)).1]) (fun y => RowsO y.1 y.2 :: PilR y.2 :: R) := by
  have hll : (l.map PatE.D).length = l.length := List.length_map ..
  (refine Does.enter Tryz.func116 Tryz.ntmps116 rfl rfl ?_)
  refine w ?_; repeat (refine zj fun _ => ?_; refine w ?_)
  rename_i bx
  refine VO.joinR (α := Unit) (fun _ => True) (fun _ => Row bx 87 [.int .u64 s, .slice ao l.length cap] :: R) (fun _ => [(0, .int .u64 e), (3, .pointer (some ⟨bx, 0, none⟩)), (6, .int .i64 l.length), (32, .bool (decide (l.length < 1 \/ 1023 < l.length)))]) (fun Q2 jn => ?_) ?_
  · refine zg ?_ ?_ <;> intro hb
    · refine w ?_; repeat (refine zj fun _ => ?_; refine w ?_)
      exact jn.to () trivial ⟨rfl, rfl, rfl, asV rfl (by congr 1; symm; apply decide_eq_true; have := of_decide_eq_true hb; omega), trivial⟩ Ent.refl
    · refine w ?_; repeat (refine zj fun _ => ?_; refine w ?_)
      exact jn.to () trivial ⟨rfl, rfl, rfl, asV rfl (by congr 1; rw [decide_eq_decide]; have := of_decide_eq_false hb; omega), trivial⟩ Ent.refl
  rintro ⟨⟩ -
  refine zk ?_ ?_ <;> intro hc
  · have hz : secsM e s (l.map PatE.D) = (1, []) := if_pos (by rw [hll]; exact of_decide_eq_true hc)
    refine w ?_; repeat (refine zj fun _ => ?_; refine w ?_)
    refine VE.done ((none, 0), []) rfl (by rw [hz]; rfl) (by rw [hz]; rfl) ?_
    exact Ent.trans (Ent.re (L := R)) (fun w hw => (pile_nil (res := RowE.res) hw).ownNil _ _)
  have hn : 1 <= l.length /\ l.length <= 1023 := by have := of_decide_eq_false hc; omega
  clear hc
  obtain ⟨la, rfl⟩ := some_of_pos hp.rds.nil (by omega)
  refine w ?_; repeat (refine zj fun _ => ?_; refine w ?_)
  refine VO.joinR (α := Unit) (fun _ => True) (fun _ => Row bx 87 [.int .u64 s, .slice (some la) l.length cap] :: R) (fun _ => [(0, .int .u64 e), (3, .pointer (some ⟨bx, 0, none⟩)), (6, .int .i64 l.length), (7, .bool (decide (¬ cntOk e s)))]) (fun Q2 jn => ?_) ?_
  · refine zg ?_ ?_ <;> intro hb
    · refine w ?_; repeat (refine zj fun _ => ?_; refine w ?_)
      exact jn.to () trivial ⟨rfl, rfl, rfl, asV rfl (by congr 1; symm; apply decide_eq_true; have := of_decide_eq_true hb; unfold cntOk; omega), trivial⟩ Ent.refl
    have q1 := of_decide_eq_false hb
    clear hb
    refine w ?_; repeat (refine zj fun _ => ?_; refine w ?_)
    refine zg ?_ ?_ <;> intro hb
    · refine w ?_; repeat (refine zj fun _ => ?_; refine w ?_)
      exact jn.to () trivial ⟨rfl, rfl, rfl, asV rfl (by congr 1; symm; apply decide_eq_true; have := of_decide_eq_true hb; unfold cntOk; omega), trivial⟩ Ent.refl
    have q2 := of_decide_eq_false hb
    clear hb
    refine w ?_; repeat (refine zj fun _ => ?_; refine w ?_)
    exact jn.to () trivial ⟨rfl, rfl, rfl, asV rfl (by congr 1; rw [decide_eq_decide]; unfold cntOk; omega), trivial⟩ Ent.refl
  rintro ⟨⟩ -
  refine w ?_; repeat (refine zj fun _ => ?_; refine w ?_)
  refine VC.loop (α := Nat) (fun i => i <= l.length) (fun i => Row bx 87 [.int .u64 s, .slice (some la) l.length cap] :: R)
    (fun i => [(0, .int .u64 e), (3, .pointer (some ⟨bx, 0, none⟩)), (6, .int .i64 l.length), (7, .bool (farTo e s l i)), (8, .bool (shortTo l i)), (9, .int .i64 i)]) (fun i => l.length - i) rfl 0 (Nat.zero_le _) Ent.refl ⟨rfl, rfl, rfl, asV rfl (by unfold farTo; congr 1; rw [decide_eq_decide]; simp), asV rfl (by unfold shortTo; simp), rfl, trivial⟩ ?_
  intro i hi
  refine w ?_; repeat (refine zj fun _ => ?_; refine w ?_)
  refine zk ?_ ?_ <;> intro hc
  · have hlt : i < l.length := by have := of_decide_eq_true hc; omega
    clear hc
    have hfi := hfit _ (List.getElem_mem hlt)
    refine w ?_; repeat (refine zj fun _ => ?_; refine w ?_)
    refine VO.pure rfl rfl (.ldRA tab_ok rfl rfl (hp.rds.ent (Ent.drop Ent.refl)) (pat_at l i hlt) rfl) rfl ?_
    refine zq ?_; refine OpV.allocS sb_70 rfl ?_; intro n9
    refine w ?_; repeat (refine zj fun _ => ?_; refine w ?_)
    refine zq ?_
    refine OpV.stA (vs := l[i].cells) tab_ok rfl rfl rfl rfl (pat_one _) zh (by simp) ?_
    refine VO.ent (Reord.ent (L := Row n9 70 l[i].cells :: Row bx 87 [.int .u64 s, .slice (some la) l.length cap] :: R) (by (repeat first | exact .refl | (apply Reord.cons; focus repeat first | exact .head | apply Del.tail) | exact .nil | apply Reord.drop))) ?_
    refine w ?_; repeat (refine zj fun _ => ?_; refine w ?_)
    have hfarS := farTo_step e s hlt
    have hfo := far_or l[i].D
    refine VO.joinR (α := Bool) (fun b => b = farTo e s l (i + 1)) (fun _ => Row n9 70 l[i].cells :: Row bx 87 [.int .u64 s, .slice (some la) l.length cap] :: R)
      (fun b => [(0, .int .u64 e), (3, .pointer (some ⟨bx, 0, none⟩)), (6, .int .i64 l.length), (7, .bool b), (8, .bool (shortTo l i)), (9, .int .i64 i), (10, .pointer (some ⟨n9, 0, none⟩))]) (fun Q2 jn => ?_) ?_
    · refine zg ?_ ?_ <;> intro hb
      · refine w ?_; repeat (refine zj fun _ => ?_; refine w ?_)
        (refine jn.to true (by symm; rw [hfarS]; exact .inl hb) ⟨rfl, rfl, rfl, rfl, rfl, rfl, rfl, trivial⟩ ?_; (try dsimp only); exact Ent.re)
      have q0 := hb
      clear hb
      iterate 3
        refine w ?_; repeat (refine zj fun _ => ?_; refine w ?_)
        refine zg ?_ ?_ <;> intro hb
        · refine w ?_; repeat (refine zj fun _ => ?_; refine w ?_)
          (refine jn.to true (by symm; rw [hfarS, hfo]; have h9 := of_decide_eq_true hb; dsimp only [PatE.D]; right; omega) ⟨rfl, rfl, rfl, rfl, rfl, rfl, rfl, trivial⟩ ?_; (try dsimp only); exact Ent.re)
      refine w ?_; repeat (refine zj fun _ => ?_; refine w ?_)
      (refine jn.to (decide (4095 < l[i].row)) (by
        rw [Bool.eq_iff_iff, decide_eq_true_iff, hfarS, hfo]
        have r1 := of_decide_eq_false ‹decide (l[i].member < 0) = false›
        have r2 := of_decide_eq_false ‹decide (15 < l[i].member) = false›
        have r3 := of_decide_eq_false ‹decide (l[i].row < 0) = false›
        dsimp only [PatE.D]
        constructor
        · intro h; exact .inr (.inr h)
        · rintro (h | h)
          · rw [q0] at h; cases h
          · rcases h with ((h | h) | h) | h
            · exact absurd h r1
            · exact absurd h r2
            · exact absurd h r3
            · exact h) ⟨rfl, rfl, rfl, rfl, rfl, rfl, rfl, trivial⟩ ?_; (try dsimp only); exact Ent.re)
    rintro b7 rfl
    have hshS := shortTo_step hlt
    refine w ?_; repeat (refine zj fun _ => ?_; refine w ?_)
    refine VO.joinRB (α := Bool) (fun b => b = shortTo l (i + 1)) (fun _ => Row n9 70 l[i].cells :: Row bx 87 [.int .u64 s, .slice (some la) l.length cap] :: R)
      (fun b => [(0, .int .u64 e), (3, .pointer (some ⟨bx, 0, none⟩)), (6, .int .i64 l.length), (7, .bool (farTo e s l (i + 1))), (8, .bool b), (9, .int .i64 i)]) (fun Q2 jn => ?_) ?_
    · refine zg ?_ ?_ <;> intro hb
      · refine w ?_; repeat (refine zj fun _ => ?_; refine w ?_)
        (refine jn.to true (by symm; rw [hshS]; exact .inl hb) ⟨rfl, rfl, rfl, rfl, rfl, rfl, trivial⟩ ?_; (try dsimp only); exact Ent.re)
      have q0 := hb
      clear hb
      refine w ?_; repeat (refine zj fun _ => ?_; refine w ?_)
      (refine jn.to ((l[i].d.data.length : Int) != 128) (by
        rw [Bool.eq_iff_iff, hshS]
        simp only [bne_iff_ne, ne_eq]
        constructor
        · intro h; exact .inr (by omega)
        · rintro (h | h)
          · rw [q0] at h; cases h
          · omega) ⟨rfl, rfl, rfl, rfl, rfl, rfl, trivial⟩ ?_; (try dsimp only); exact Ent.re)
    rintro b8 rfl
    refine w ?_; repeat (refine zj fun _ => ?_; refine w ?_)
    exact VE.round (i + 1) hlt (by omega) ⟨rfl, rfl, rfl, rfl, rfl, asV rfl (by congr 1), trivial⟩ Ent.re
  have hie : i = l.length := by have := of_decide_eq_false hc; omega
  subst hie
  clear hc hi
  have hft := farTo_iff e s l l.length
  have hst := shortTo_iff l l.length
  rw [List.take_length] at hft hst
  have hsecs : secsM e s (l.map PatE.D) = if ¬ cntOk e s \/ ∃ p ∈ l.map PatE.D, p.far then (3, []) else if ∃ p ∈ l.map PatE.D, p.data.length ≠ 128 then (4, []) else (0, pairsP e s (l.map PatE.D).length (l.map PatE.D) 0 ++ [(cmtP e s (l.map PatE.D)).enc.2]) := by
    unfold secsM
    rw [if_neg (by rw [hll]; omega)]
  have hfm : (∃ p ∈ l.map PatE.D, p.far) ↔ ∃ p ∈ l, p.D.far := ⟨fun ⟨p, h1, h2⟩ => by obtain ⟨q, h3, rfl⟩ := List.mem_map.1 h1; exact ⟨q, h3, h2⟩, fun ⟨p, h1, h2⟩ => ⟨_, List.mem_map_of_mem h1, h2⟩⟩
  have hsm : (∃ p ∈ l.map PatE.D, p.data.length ≠ 128) ↔ ∃ p ∈ l, p.d.data.length ≠ 128 := ⟨fun ⟨p, h1, h2⟩ => by obtain ⟨q, h3, rfl⟩ := List.mem_map.1 h1; exact ⟨q, h3, h2⟩, fun ⟨p, h1, h2⟩ => ⟨_, List.mem_map_of_mem h1, h2⟩⟩
  refine w ?_; repeat (refine zj fun _ => ?_; refine w ?_)
  refine zk ?_ ?_ <;> intro hc
  · have hz : secsM e s (l.map PatE.D) = (3, []) := by rw [hsecs, if_pos (by rw [hfm]; exact hft.1 hc)]
    refine w ?_; repeat (refine zj fun _ => ?_; refine w ?_)
    refine VE.done ((none, 0), []) rfl (by rw [hz]; rfl) (by rw [hz]; rfl) ?_
    exact Ent.trans (Ent.re (L := R)) (fun w hw => (pile_nil (res := RowE.res) hw).ownNil _ _)
  have hnf := fun q => Bool.false_ne_true (hc.symm.trans (hft.2 q))
  clear hc
  refine w ?_; repeat (refine zj fun _ => ?_; refine w ?_)
  refine zk ?_ ?_ <;> intro hc
  · have hz : secsM e s (l.map PatE.D) = (4, []) := by rw [hsecs, if_neg (by rw [hfm]; exact hnf), if_pos (by rw [hsm]; exact hst.1 hc)]
    refine w ?_; repeat (refine zj fun _ => ?_; refine w ?_)
    refine VE.done ((none, 0), []) rfl (by rw [hz]; rfl) (by rw [hz]; rfl) ?_
    exact Ent.trans (Ent.re (L := R)) (fun w hw => (pile_nil (res := RowE.res) hw).ownNil _ _)
  have hns := fun q => Bool.false_ne_true (hc.symm.trans (hst.2 q))
  clear hc
  have h0 : (secsM e s (l.map PatE.D)).1 = 0 := by rw [hsecs, if_neg (by rw [hfm]; exact hnf), if_neg (by rw [hsm]; exact hns)]
  have hF : Fine e s (l.map PatE.D) := secs_ok h0
  have hsec := secs_fine hF
  rw [hsec]
  clear hsecs hfm hsm hnf hns h0 hsec hft hst
  refine w ?_; repeat (refine zj fun _ => ?_; refine w ?_)
  refine VC.loop (α := Nat × List RowE × (Option Addr × Nat) × (Option Addr × Nat)) (fun y => y.1 <= l.length /\ y.2.1.map RowE.data = pairsP e s l.length ((l.map PatE.D).take y.1) 0)
    (fun y => OwnB y.2.2.2 (headsP e s l.length ((l.map PatE.D).take y.1) 0) :: RowsO y.2.2.1 y.2.1 :: PilR y.2.1 :: Row bx 87 [.int .u64 s, .slice (some la) l.length cap] :: R)
    (fun y => [(0, .int .u64 e), (3, .pointer (some ⟨bx, 0, none⟩)), (6, .int .i64 l.length), (11, .slice y.2.2.1.1 y.2.1.length y.2.2.1.2), (12, .slice y.2.2.2.1 (headsP e s l.length ((l.map PatE.D).take y.1) 0).length y.2.2.2.2), (13, .int .i64 y.1)]) (fun y => l.length - y.1) rfl (0, [], (none, 0), (none, 0)) ⟨Nat.zero_le _, rfl⟩
    (fun w hw => by
      have a1 := pile_nil (res := RowE.res) hw
      have a2 := a1.ownNil 65 1
      exact a2.ownNil 5 1) ⟨rfl, rfl, rfl, rfl, rfl, rfl, trivial⟩ ?_
  rintro ⟨i, y, x, hx⟩ ⟨hi, hy⟩
  dsimp only at hi hy ⊢
  have hhl : (headsP e s l.length ((l.map PatE.D).take i) 0).length <= 1048576 := by
    have h9 : ∀ (L : List PatD) (k : Nat), (headsP e s l.length L k).length <= 1024 * L.length := by
      intro L
      induction L with
      | nil => intro k; simp [headsP]
      | cons p L ih =>
        intro k
        have := ih (k + 1)
        have h8 : (headP e s l.length k p).length <= 1024 := by
          unfold headP
          by_cases g : (hdrP e s l.length k p).good
          · rw [hdr_ok g, sectF_length _ _ _ _ (hdr_sum _)]; omega
          · rw [hdr_bad g]; decide
        rw [headsP, List.length_append, List.length_cons]; omega
    have := h9 ((l.map PatE.D).take i) 0
    rw [List.length_take, hll] at this; omega
  refine w ?_; repeat (refine zj fun _ => ?_; refine w ?_)
  refine zk ?_ ?_ <;> intro hc
  · have hlt : i < l.length := by have := of_decide_eq_true hc; omega
    clear hc
    have hfi := hfit _ (List.getElem_mem hlt)
    have hDi : i < (l.map PatE.D).length := by rw [hll]; exact hlt
    have hDg : (l.map PatE.D)[i] = l[i].D := List.getElem_map ..
    have hpf := hF.pat _ (List.getElem_mem hDi)
    rw [hDg] at hpf
    have h128 : l[i].d.data.length = 128 := hpf.2.2
    have hesc : escD l[i].d.data = ⟨escM l[i].d.data, isEsc l[i].d.data, 0⟩ := if_pos h128
    have hel : (escM l[i].d.data).length = 128 := escN_length h128
    have hgood := hdrP_good hF hDi
    rw [hDg, hll] at hgood
    have henc : (hdrP e s l.length i l[i].D).enc.1 = 0 := by rw [hdr_ok hgood]
    have hcap := (hp.ok _ (List.getElem_mem hlt)).cap
    refine w ?_; repeat (refine zj fun _ => ?_; refine w ?_)
    refine VO.pure rfl rfl (.ldRA tab_ok rfl rfl (hp.rds.ent (Ent.drop (Ent.drop (Ent.drop (Ent.drop Ent.refl))))) (pat_at l i hlt) rfl) rfl ?_
    refine zq ?_; refine OpV.allocS sb_70 rfl ?_; intro n9
    refine w ?_; repeat (refine zj fun _ => ?_; refine w ?_)
    refine zq ?_
    refine OpV.stA (vs := l[i].cells) tab_ok rfl rfl rfl rfl (pat_one _) zh (by simp) ?_
    refine VO.ent (Reord.ent (L := Row n9 70 l[i].cells :: OwnB hx (headsP e s l.length ((l.map PatE.D).take i) 0) :: RowsO x y :: PilR y :: Row bx 87 [.int .u64 s, .slice (some la) l.length cap] :: R) (by (repeat first | exact .refl | (apply Reord.cons; focus repeat first | exact .head | apply Del.tail) | exact .nil | apply Reord.drop))) ?_
    refine w ?_; repeat (refine zj fun _ => ?_; refine w ?_)
    have hE := resc_ok (R := Row n9 70 l[i].cells :: OwnB hx (headsP e s l.length ((l.map PatE.D).take i) 0) :: RowsO x y :: PilR y :: Row bx 87 [.int .u64 s, .slice (some la) l.length cap] :: R) ((hp.each _ (List.getElem_mem hlt)).ent (Ent.drop (Ent.drop (Ent.drop (Ent.drop (Ent.drop Ent.refl)))))) hcap
    rw [hesc] at hE
    dsimp only at hE
    (refine zq ?_; refine zy rfl rfl (hE) ?_)
    rintro ⟨ba, bc⟩ -
    refine VO.know (p := ba = none -> (escM l[i].d.data).length = 0) (fun w hw => hw.ownNone (.head _)) ?_
    intro hbn
    refine w ?_; repeat (refine zj fun _ => ?_; refine w ?_)
    (refine zq ?_; refine zy rfl rfl (rsum_ok (Rds.own (bytes_one _) (.head _) (by simp) hbn) (by omega)) ?_)
    intro _ _
    refine w ?_; repeat (refine zj fun _ => ?_; refine w ?_)
    have hfh : (hdrP e s l.length i l[i].D).fit := ⟨he, hs, by simp only [hdrP]; omega, by simp only [hdrP]; omega, hfi.member, hfi.row, (crcS (escM l[i].d.data)).isLt⟩
    ((first | apply VO.pure rfl rfl | apply VD.take rfl rfl rfl | (refine VD.end rfl rfl rfl ?_; apply OpV.pure)); apply PureAt.build sb_233 rfl; (simp [buildX, setL, Value.cells]; rfl); rfl)
    refine w ?_; repeat (refine zj fun _ => ?_; refine w ?_)
    have hE2 := rench_ok (W := W) (R := OwnB (ba, bc) (escM l[i].d.data) :: Row n9 70 l[i].cells :: OwnB hx (headsP e s l.length ((l.map PatE.D).take i) 0) :: RowsO x y :: PilR y :: Row bx 87 [.int .u64 s, .slice (some la) l.length cap] :: R) (hdrP e s l.length i l[i].D) hfh
    rw [henc] at hE2
    (refine zq ?_; refine zy rfl rfl (hE2) ?_)
    rintro ⟨ha, hc⟩ -
    refine VO.know (p := ha = none -> (headP e s l.length i l[i].D).length = 0) (fun w hw => hw.ownNone (.head _)) ?_
    intro hhn
    have hlen2 : (headP e s l.length i l[i].D).length = 128 := by
      show (hdrP e s l.length i l[i].D).enc.2.length = _
      rw [hdr_ok hgood, sectF_length _ _ _ _ (hdr_sum _)]
    refine w ?_; repeat (refine zj fun _ => ?_; refine w ?_)
    refine VO.ent (Reord.ent (L := OwnB hx (headsP e s l.length ((l.map PatE.D).take i) 0) :: OwnB (ha, hc) (headP e s l.length i l[i].D) :: OwnB (ba, bc) (escM l[i].d.data) :: RowsO x y :: PilR y :: Row bx 87 [.int .u64 s, .slice (some la) l.length cap] :: R) (by (repeat first | exact .refl | (apply Reord.cons; focus repeat first | exact .head | apply Del.tail) | exact .nil | apply Reord.drop))) ?_
    refine zq ?_
    refine OpV.append (m := (headP e s l.length i l[i].D).length) (news := bytes (headP e s l.length i l[i].D)) st_65 rfl rfl zh (fun w hw => (show Sees w 1 (.slice ha (headP e s l.length i l[i].D).length hc) (headP e s l.length i l[i].D).length (bytes (headP e s l.length i l[i].D)) from Sees.own (e := 5) (bytes_one _) hw zm).src st_65.und) (by simp only [maxLen]; omega) (by omega) rfl ?_
    intro so9 sc9
    refine w ?_; repeat (refine zj fun _ => ?_; refine w ?_)
    have hyl : y.length = 2 * i := by
      have := congrArg List.length hy
      rw [List.length_map, pairsP_length, List.length_take, Nat.min_eq_left (by omega)] at this
      exact this
    (refine zq ?_; refine OpV.buildSlice1 st_43 rfl rfl (by first | (simp; done) | simp [Value.oneCell']) (by decide) rfl ?_; intro nb)
    (refine zq ?_; refine OpV.appendRow st_43 rfl rfl zh zm rfl (by first | (simp; done) | simp [Value.oneCell']) ?_ ?_ rfl ?_)
    · simp only [maxLen]; omega
    · omega
    intro so sc
    refine w ?_; repeat (refine zj fun _ => ?_; refine w ?_)
    have hst := headsP_step (e := e) (s := s) (n := l.length) hDi
    have hsp := pairsP_step (e := e) (s := s) (n := l.length) hDi
    rw [hDg] at hst hsp
    refine VE.round (i + 1, y ++ [⟨ha, hc, headP e s l.length i l[i].D⟩, ⟨ba, bc, escM l[i].d.data⟩], (so, sc), (so9, sc9)) ⟨by simp only; omega, by simp only; rw [List.map_append, hy, hsp]; rfl⟩ (by simp only; omega) ⟨rfl, rfl, rfl, asV rfl (by simp), asV rfl (by rw [hst, List.length_append]), asV rfl (by congr 1), trivial⟩ ?_
    dsimp only
    rw [rowsO_two, hst, show OwnB (so9, sc9) (headsP e s l.length ((l.map PatE.D).take i) 0 ++ headP e s l.length i l[i].D) = Sl.Own 5 1 (.slice so9 ((headsP e s l.length ((l.map PatE.D).take i) 0).length + (headP e s l.length i l[i].D).length) sc9) ((headsP e s l.length ((l.map PatE.D).take i) 0).length + (headP e s l.length i l[i].D).length) (bytes (headsP e s l.length ((l.map PatE.D).take i) 0) ++ bytes (headP e s l.length i l[i].D)) by
      show Sl.Own _ _ (.slice so9 (_ ++ _ : List UInt8).length sc9) (_ ++ _ : List UInt8).length (bytes (_ ++ _)) = _
      rw [List.length_append]; unfold bytes; rw [List.map_append]]
    refine Ent.trans (Ent.re (L := OwnB (ha, hc) (headP e s l.length i l[i].D) :: PilR y :: OwnB (ba, bc) (escM l[i].d.data) :: Sl.Own 5 1 (.slice so9 ((headsP e s l.length ((l.map PatE.D).take i) 0).length + (headP e s l.length i l[i].D).length) sc9) ((headsP e s l.length ((l.map PatE.D).take i) 0).length + (headP e s l.length i l[i].D).length) (bytes (headsP e s l.length ((l.map PatE.D).take i) 0) ++ bytes (headP e s l.length i l[i].D)) :: Sl.Own 65 1 (.slice so (y.length + 2) sc) (y.length + 2) (y.map RowE.hdr ++ [RowE.hdr ⟨ha, hc, headP e s l.length i l[i].D⟩, RowE.hdr ⟨ba, bc, escM l[i].d.data⟩]) :: Row bx 87 [.int .u64 s, .slice (some la) l.length cap] :: R)) ?_
    refine Ent.trans (pile_two ⟨ha, hc, headP e s l.length i l[i].D⟩ ⟨ba, bc, escM l[i].d.data⟩) ?_
    exact Ent.re
  have hend : i = l.length := by have := of_decide_eq_false hc; omega
  subst hend
  clear hc
  have hDt : (l.map PatE.D).take l.length = l.map PatE.D := by rw [<- hll, List.take_length]
  rw [hDt] at hy hhl ⊢
  have hyl : y.length = 2 * l.length := by
    have := congrArg List.length hy
    rw [List.length_map, pairsP_length, hll] at this
    exact this
  have hC : cmtP e s (l.map PatE.D) = ⟨e, s, l.length, (crcS (headsP e s l.length (l.map PatE.D) 0)).toNat⟩ := by unfold cmtP; rw [hll]
  have hrows : rowsP e s (l.map PatE.D) = pairsP e s l.length (l.map PatE.D) 0 ++ [(cmtP e s (l.map PatE.D)).enc.2] := by unfold rowsP; rw [hll]
  have hcg : (cmtP e s (l.map PatE.D)).good := ⟨hF.cnt, by simp only [cmtP]; omega⟩
  have hce : (cmtP e s (l.map PatE.D)).enc.1 = 0 := by rw [cmt_ok hcg]
  have hcf : (cmtP e s (l.map PatE.D)).fit := ⟨he, hs, by simp only [cmtP]; omega, (crcS _).isLt⟩
  refine VC.know (p := hx.1 = none -> (headsP e s l.length (l.map PatE.D) 0).length = 0) (fun w hw => hw.ownNone (.head _)) ?_
  intro hxn
  refine w ?_; repeat (refine zj fun _ => ?_; refine w ?_)
  (refine zq ?_; refine zy rfl rfl (rsum_ok (Rds.own (bytes_one _) (.head _) (by simp) hxn) (by omega)) ?_)
  intro _ _
  refine w ?_; repeat (refine zj fun _ => ?_; refine w ?_)
  ((first | apply VO.pure rfl rfl | apply VD.take rfl rfl rfl | (refine VD.end rfl rfl rfl ?_; apply OpV.pure)); apply PureAt.build sb_238 rfl; (simp [buildX, setL, Value.cells]; rfl); rfl)
  refine w ?_; repeat (refine zj fun _ => ?_; refine w ?_)
  have hE3 := rencc_ok (W := W) (R := OwnB hx (headsP e s l.length (l.map PatE.D) 0) :: RowsO x y :: PilR y :: Row bx 87 [.int .u64 s, .slice (some la) l.length cap] :: R) (cmtP e s (l.map PatE.D)) hcf
  rw [hce, show (cmtP e s (l.map PatE.D)).cells = [.int .u64 e, .int .u64 s, .int .i64 l.length, .int .u32 ((crcS (headsP e s l.length (l.map PatE.D) 0)).toNat : Int)] by rw [hC]] at hE3
  (refine zq ?_; refine zy rfl rfl (hE3) ?_)
  rintro ⟨ca, cc⟩ -
  refine w ?_; repeat (refine zj fun _ => ?_; refine w ?_)
  (refine zq ?_; refine OpV.buildSlice1 st_43 rfl rfl (by first | (simp; done) | simp [Value.oneCell']) (by decide) rfl ?_; intro nb)
  (refine zq ?_; refine OpV.appendRow st_43 rfl rfl zh zm rfl (by first | (simp; done) | simp [Value.oneCell']) ?_ ?_ rfl ?_)
  · simp only [maxLen]; omega
  · omega
  intro so sc
  refine w ?_; repeat (refine zj fun _ => ?_; refine w ?_)
  refine VE.done ((so, sc), y ++ [⟨ca, cc, (cmtP e s (l.map PatE.D)).enc.2⟩]) rfl ?_ (by simp) ?_
  · simp only
    rw [List.map_append, hy, hrows]; rfl
  dsimp only
  rw [rowsO_one]
  refine Ent.trans (Ent.re (L := OwnB (ca, cc) (cmtP e s (l.map PatE.D)).enc.2 :: PilR y :: Sl.Own 65 1 (.slice so (y.length + 1) sc) (y.length + 1) (y.map RowE.hdr ++ [RowE.hdr ⟨ca, cc, (cmtP e s (l.map PatE.D)).enc.2⟩]) :: R)) ?_
  refine Ent.trans (fun w hw => pile_push (res := RowE.res) (a := (⟨ca, cc, (cmtP e s (l.map PatE.D)).enc.2⟩ : RowE)) hw) ?_
  exact Ent.re
end Go.Proofs.YtdbhpikmagkopaaGreat
