import Derived.Test.YtpmmkmcbimnigaaM6
import Derived.ControlIn
import Derived.WalkKit
import Derived.ProofKit
import Derived.OpenShut
/-! Text Si. -/
/- The engine: iterators: a loop that calls yield; branches that meet in such code. Generic: no program is named. -/
set_option maxRecDepth 8000
set_option linter.unusedVariables false
set_option linter.unusedSimpArgs false
set_option linter.unusedSectionVars false
namespace Go.Sl
open Go Go.RowKit
section
variable {W : World} {P : Program} {n : Nat} {m : Md} {c : Code} {Q : Exit → Act → World → Prop} {H H' L R : List SProp} {f F : Fr}
def loopR {α : Type} (W : World) (n : Nat) (m : Md) (A : α → Prop) (G : α → List SProp) (F : α → Fr) (μ : α → Nat) (k : Nat) (Q : Exit → Act → World → Prop) : Exit → Act → World → Prop :=
  Exit.then (fun a' w' => ∃ y t', a' = ⟨t', m.df⟩ ∧ A y ∧ μ y < k ∧ Knows n (F y) t' ∧ Holds W (G y) w') Q
theorem VR.loop {α : Type} (A : α → Prop) (G : α → List SProp) (F : α → Fr) (μ : α → Nat) (hc : isLoop c = true) (x0 : α) (h0 : A x0) (hH : Ent W H (G x0)) (hF : SubF (F x0) f)
    (round : ∀ x, A x → VR W P n m (Cd.l c) (loopR W n m A G F μ (μ x) Q) (G x) (F x)) : VR W P n m c Q H f := by
  unfold VR at *
  cases c <;> simp [isLoop] at hc
  intro hno t w hk hw
  refine wpIn_loop (fun a w => ∃ x t', a = ⟨t', m.df⟩ ∧ A x ∧ Knows n (F x) t' ∧ Holds W (G x) w) (fun a w => leastOf (fun k => ∃ x t', a = ⟨t', m.df⟩ ∧ A x ∧ μ x = k ∧ Knows n (F x) t' ∧ Holds W (G x) w)) ⟨x0, t, rfl, h0, hk.sub hF, hH w hw⟩ ?_
  rintro a w ⟨x', t', rfl, hA', hk', hw'⟩
  obtain ⟨⟨x, t2, e2, hA, hm, hkx, hwx⟩, hmin⟩ := leastOf_spec (p := fun k => ∃ x t'', (⟨t', m.df⟩ : Act) = ⟨t'', m.df⟩ ∧ A x ∧ μ x = k ∧ Knows n (F x) t'' ∧ Holds W (G x) w) ⟨μ x', x', t', rfl, hA', rfl, hk', hw'⟩
  have e3 : t2 = t' := by injection e2 with e2; exact e2.symm
  subst e3
  refine wpIn_mono (round x hA (fun a w q => hno a w q) t2 w hkx hwx) ?_
  intro e a w1 q
  cases e with
  | normal =>
    obtain ⟨y, t'', rfl, h1, h2, h3, h4⟩ := q
    refine ⟨⟨y, t'', rfl, h1, h3, h4⟩, ?_⟩
    refine Nat.lt_of_le_of_lt ((leastOf_spec (p := fun k => ∃ x t', (⟨t'', m.df⟩ : Act) = ⟨t', m.df⟩ ∧ A x ∧ μ x = k ∧ Knows n (F x) t' ∧ Holds W (G x) w1) ⟨μ y, y, t'', rfl, h1, rfl, h3, h4⟩).2 (μ y) ⟨y, t'', rfl, h1, rfl, h3, h4⟩) ?_
    rw [← hm]; exact h2
  | _ => exact q
theorem VF.round {α : Type} {A : α → Prop} {G : α → List SProp} {F : α → Fr} {μ : α → Nat} {k : Nat} (y : α) (hA : A y) (hm : μ y < k) (hF : SubF (F y) f) (hH : Ent W H (G y)) :
    VF W n m (loopR W n m A G F μ k Q) .normal H f := by
  unfold VF
  exact fun _ t w hk hw => ⟨y, t, rfl, hA, hm, hk.sub hF, hH w hw⟩
theorem VF.loopRet {α : Type} {A : α → Prop} {G : α → List SProp} {F : α → Fr} {μ : α → Nat} {k : Nat} (h : VF W n m Q .ret H f) : VF W n m (loopR W n m A G F μ k Q) .ret H f := by
  unfold VF at *
  exact fun hno t w hk hw => h hno t w hk hw
theorem VF.loopExit {α : Type} {A : α → Prop} {G : α → List SProp} {F : α → Fr} {μ : α → Nat} {k i : Nat} (h : VF W n m Q (.exit i) H f) : VF W n m (loopR W n m A G F μ k Q) (.exit i) H f := by
  unfold VF at *
  exact fun hno t w hk hw => h hno t w hk hw
attribute [irreducible] loopR
/-! ### An iterator's own function -/
theorem VF.done {fn : Func} {β : Type} {A : β → Prop} {r : β → Value} {G : β → List SProp} {v : Value} {e : Exit} (he : e = .ret ∨ e = .normal) (x : β) (hr : resOf f fn.results.toList = some v) (hA : A x) (hv : v = r x) (hH : Ent W H (G x)) :
    VF W n ⟨none, []⟩ (bodyPost P fn (Post W A r G)) e H f := by
  unfold VF
  intro _ t w hk hw
  rcases he with rfl | rfl <;> exact ⟨rfl, _, resOf_run hk hr _, x, hA, by rw [hv], hH w hw⟩
/-! ### A region that calls yield -/
def VI (W : World) (P : Program) (n : Nat) (m : Md) (c : Code) (k : Nat) (Q : Exit → Act → World → Prop) (H : List SProp) (f : Fr) : Prop :=
  (∀ a w, ¬ Q .outgrown a w) → ∀ t w, Knows n f t → Holds W H w → wpListIn (fen m.r) 0 P (regOps c).toArray Q ((regOps c).drop k) ⟨t, m.df⟩ w
theorem VI.nil {k : Nat} (ho : (regOps c)[k]? = none) (h : VF W n m Q .normal H f) : VI W P n m c k Q H f := by
  unfold VF at h
  intro hno t w hk hw
  rw [List.drop_eq_nil_of_le (by simpa using ho)]
  exact h hno t w hk hw
variable {dst : Option Tmp} {d : Nat} {ty_ : TypeId} {pos : String} {after : Array Edge} {guard : Option (Nat × Bool)}
theorem wantedR {o : Oper} {ops : List Oper} {t : Array Value} {df : List Deferred} {b : Bool} (hk : Knows n f t) (hg : wantX ops o.guard f = some b) : Region.wanted o (yielded ops.toArray (Act.mk t df).tmps) = b := hk.wanted hg
theorem VI.step {k : Nat} {o : Oper} (ho : (regOps c)[k]? = some o) (hg : wantX (regOps c) o.guard f = some true) (h : OpV W P n o (fun _ _ _ => False) H f (fun H' f' => VI W P n m c (k + 1) Q H' f')) (hnd : noDefer [o] = true := by rfl) : VI W P n m c k Q H f := by
  unfold OpV at h
  intro hno t w hk hw
  rw [drop_at ho]
  unfold wpListIn
  rw [if_pos (by rw [wantedR hk hg])]
  have h2 := h t w hk hw (fun a w => wpListIn (fen m.r) 0 P (regOps c).toArray Q ((regOps c).drop (k + 1)) (plusA a m.df) w) (fun H' f' hN t' w' hk' hw' => hN hno t' w' hk' hw')
  exact opIn (a := ⟨t, []⟩) (noDefer_spec hnd).1 (fun _ _ q => q) (fun _ _ _ q => q.elim) h2
theorem VI.pure {k : Nat} {op : Op} {v : Value} (ho : (regOps c)[k]? = some { dst := some d, op, type := ty_, pos, after, guard }) (hg : wantX (regOps c) guard f = some true)
    (hp : PureAt W P n H f { dst := some d, op, type := ty_, pos, after, guard } v) (hd : Nat.blt d n = true) (h : VI W P n m c (k + 1) Q H ((d, v) :: f)) (hnd : noDefer [{ dst := some d, op, type := ty_, pos, after, guard }] = true := by rfl) : VI W P n m c k Q H f :=
  VI.step ho hg (OpV.pure hp hd h) hnd
theorem VI.ent {k : Nat} (hh : Ent W H H') (h : VI W P n m c k Q H' f) : VI W P n m c k Q H f := fun hno t w hk hw => h hno t w hk (hh w hw)
/-- THE CALL OF yield. -/
theorem VI.yield {k l : Nat} {x : Operand} {xs : Array Operand} {ats : Array TypeId} {vs : List Value} {τ : Type} {A2 : τ → Prop} {G1 : List SProp} {G2 : τ → List SProp}
    (ho : (regOps c)[k]? = some { dst := some d, op := .call { callee := .value x, args := xs, argTypes := ats }, type := ty_, pos, after, guard }) (hg : wantX (regOps c) guard f = some true)
    (hx : evalX f x = some (.func (.yield l) #[] #[])) (ha : argsX f xs.toList = some vs) (spec : DoesR W P l vs L G1 A2 G2) (hL : Ent W H L) (hd : Nat.blt d n = true)
    (h1 : VI W P n m c (k + 1) Q G1 ((d, .bool true) :: f)) (h2 : ∀ x, A2 x → VI W P n m c (k + 1) Q (G2 x) ((d, .bool false) :: f)) (hr : m = ⟨none, []⟩ := by rfl) : VI W P n m c k Q H f := by
  subst hr
  unfold DoesR at spec
  intro hno t w hk hw
  rw [drop_at ho]
  unfold wpListIn
  rw [if_pos (by rw [wantedR (o := { dst := some d, op := .call { callee := .value x, args := xs, argTypes := ats }, type := ty_, pos, after, guard }) hk hg])]
  obtain ⟨fn, tmps, assign, body, hy, hR⟩ := spec w (hL w hw)
  have hargs : xs.map (Act.eval ⟨t, []⟩) = vs.toArray := by
    have := hk.args ha
    apply Array.ext'
    simpa using this
  unfold Oper.wpIn
  refine ⟨fun _ _ => fen_fn _ _, ?_⟩
  have e : (Oper.semAt (fen none).round (Act.eval ⟨t, []⟩) { dst := some d, op := .call { callee := .value x, args := xs, argTypes := ats }, type := ty_, pos, after, guard }).run P w = .ok (.round l fn tmps assign body) w := by
    rw [Oper.semAt_eq _ _ _ (fun c e => by cases e)]
    unfold execOp
    simp only [resolve, hk.eval hx, hargs, Deferred.ofValue, invoke, Sem.run_bind, Sem.run_pure, Result.andThen_ok, Array.append_empty, Array.empty_append]
    exact hy
  rw [e]
  simp only [Oper.uponIn]
  refine ⟨(fun hd => by rw [fen_depth] at hd; cases hd), RoundIn.mono hR ?_⟩
  rintro e w' (⟨rfl, hG⟩ | ⟨x, hA, rfl, hG⟩)
  · exact h1 hno _ _ (hk.put hd) hG
  · exact h2 x hA hno _ _ (hk.put hd) hG
/-! ### Where branches meet -/
structure MetR (W : World) (n : Nat) (m : Md) (Q Q2 : Exit → Act → World → Prop) {α : Type} (A : α → Prop) (G : α → List SProp) (F : α → Fr) : Prop where
  to : ∀ (x : α) {f : Fr} {H : List SProp}, A x → SubF (F x) f → Ent W H (G x) → VF W n m Q2 .normal H f
  ret : ∀ {f : Fr} {H : List SProp}, VF W n m Q .ret H f → VF W n m Q2 .ret H f
  exit : ∀ {f : Fr} {H : List SProp} {i : Nat}, VF W n m Q (.exit i) H f → VF W n m Q2 (.exit i) H f
theorem VR.join {α : Type} {c2 : Code} (A : α → Prop) (G : α → List SProp) (F : α → Fr) (h1 : ∀ Q2, MetR W n m Q Q2 A G F → VR W P n m c Q2 H f) (h2 : ∀ x, A x → VR W P n m c2 Q (G x) (F x)) :
    VR W P n m c (thenR m.r P c2 Q) H f := by
  refine h1 _ ⟨fun x f H hA hF hE => VF.next (VR.weak hF hE (h2 x hA)), fun h => VF.passRet h, fun h => VF.passExit h⟩
end
attribute [irreducible] VI
end Go.Sl

/-! Text Sy. -/
/- The engine: regions that draw their order, where what holds of memory hangs on which writes have come. Generic: no program is named. -/
set_option maxRecDepth 8000
set_option linter.unusedVariables false
set_option linter.unusedSimpArgs false
set_option linter.unusedSectionVars false
namespace Go.Sl
open Go Go.RowKit
section
variable {P : Program} {ops : Array Oper} {Q : Exit → Act → World → Prop} {md : Region.Mode} {I : Array Bool → World → Prop}
def wpAnyI (P : Program) (md : Region.Mode) (ops : Array Oper) (Q : Exit → Act → World → Prop) (I : Array Bool → World → Prop) : Nat → Array Bool → Act → World → Prop
  | 0, listed, a, w => Region.ready md ops listed = [] ∧ Q .normal a w
  | fuel + 1, listed, a, w =>
    (Region.ready md ops listed = [] → Q .normal a w) ∧
    ∀ i ∈ Region.ready md ops listed, wpOp P ops Q i (fun a' w' => I (listed.setIfInBounds i true) w' ∧ wpAnyI P md ops Q I fuel (listed.setIfInBounds i true) a' w') a w
theorem wpAny_of_I : ∀ (fuel : Nat) (listed : Array Bool) (a : Act) (w : World), wpAnyI P md ops Q I fuel listed a w → wpAny P md ops Q fuel listed a w
  | 0, _, _, _, h => h
  | fuel + 1, _, _, _, h => ⟨h.1, fun i hi => wpOp_mono (fun a' w' h' => wpAny_of_I fuel _ a' w' h'.2) (h.2 i hi)⟩
theorem wpAnyI_first {i : Nat} {oi : Oper} {v : Value} {Si : World → Prop} (hi : ops[i]? = some oi) (hsel : ∀ (j : Nat) (o : Oper) cs b, ops[j]? = some o → o.op ≠ .select cs b)
    (hQ : ∀ c a w, ¬ Q (.panic c) a w)
    (hIi : ∀ listed w, HeadInv md ops ops.size listed → listed.getD i true = false → I listed w → Si w)
    (hI1 : ∀ listed w, I listed w → I (listed.setIfInBounds i true) w) (hI2 : ∀ listed w, I (listed.setIfInBounds i true) w → I listed w) :
    ∀ (fuel : Nat) (listed : Array Bool) (a : Act) (w : World), HeadInv md ops ops.size listed →
      (∀ j oj, ops[j]? = some oj → j ≠ i → listed.getD j true = false → (∀ e ∈ oj.after, Region.binds md e = true → e.on ≠ i) → oi.apart ops oj = true) →
      i ∈ Region.ready md ops listed → YieldsIf P ops Si oi v a → I listed w →
      wpAnyI P md ops Q I fuel (listed.setIfInBounds i true) (a.put oi.dst v) w → wpAnyI P md ops Q I (fuel + 1) listed a w := by
  intro fuel
  induction fuel with
  | zero =>
    intro listed a w inv _ hr hy hS H
    refine ⟨fun h => (by rw [h] at hr; cases hr), fun j hj => ?_⟩
    by_cases hji : j = i
    · subst hji; exact hy.wpOp hi (hIi _ _ inv (mem_ready.1 hr).1 hS) ⟨hI1 _ _ hS, H⟩
    · have := ready_mono hj hji
      rw [H.1] at this
      cases this
  | succ fuel ih =>
    intro listed a w inv hfree hr hy hS H
    refine ⟨fun h => (by rw [h] at hr; cases hr), fun j hj => ?_⟩
    by_cases hji : j = i
    · subst hji; exact hy.wpOp hi (hIi _ _ inv (mem_ready.1 hr).1 hS) ⟨hI1 _ _ hS, H⟩
    · have h1 := H.2 j (ready_mono hj hji)
      obtain ⟨hjun, oj, hoj, hall⟩ := mem_ready.1 hj
      have hjlt : j < ops.size := (Array.getElem?_eq_some_iff.1 hoj).1
      have hnot : ∀ e ∈ oj.after, Region.binds md e = true → e.on ≠ i := fun e he hb heq => by
        have h1 := hall e he hb
        have h0 := (mem_ready.1 hr).1
        rw [heq] at h1
        rw [getD_both h0] at h1
        cases h1
      have h2 := wpOp_putIf hoj (hfree j oj hoj hji hjun hnot) (fun cs b => hsel i oi cs b hi) (fun cs b => hsel j oj cs b hoj) (fun c a w h => absurd h (hQ c _ w)) hy h1
      have hfree' : ∀ k ok, ops[k]? = some ok → k ≠ i → (listed.setIfInBounds j true).getD k true = false →
          (∀ e ∈ ok.after, Region.binds md e = true → e.on ≠ i) → oi.apart ops ok = true := fun k ok hk hki hun hno => by
        refine hfree k ok hk hki ?_ hno
        by_cases hjk : j = k
        · subst hjk; exact hjun
        · rw [getD_set_ne true hjk] at hun; exact hun
      refine wpOp_mono (fun a' w' h3 => ?_) h2
      have hc : (listed.setIfInBounds i true).setIfInBounds j true = (listed.setIfInBounds j true).setIfInBounds i true := Array.setIfInBounds_comm _ _ (Ne.symm hji)
      have h4 := h3.2.1
      have h5 := h3.2.2
      rw [hc] at h4 h5
      exact ⟨hI2 _ _ h4, ih (listed.setIfInBounds j true) a' w' (inv.set hj hjlt) hfree' (ready_mono hr (Ne.symm hji)) h3.1 (hI2 _ _ h4) h5⟩
/-! ### A schedule, by levels -/
/-- How far the writes have come: the levels of those listed. -/
def levN (tv : List (Nat × Nat)) (listed : Array Bool) : Nat := tv.foldl (fun k p => bif listed.getD p.1 false then max k p.2 else k) 0
def wpSchedI (P : Program) (ops : Array Oper) (Q : Exit → Act → World → Prop) (I : Array Bool → World → Prop) (Sy : Nat → World → Prop) (mv : List Nat) : List Nat → Array Bool → Act → World → Prop
  | [], _, a, w => Q .normal a w
  | i :: r, listed, a, w =>
    (mv.contains i = true ∧ wpOp P ops (calmQ Q) i (fun a' w' => I (listed.setIfInBounds i true) w' ∧ wpSchedI P ops Q I Sy mv r (listed.setIfInBounds i true) a' w') a w) ∨
    (mv.contains i = false ∧ ∃ o v, ops[i]? = some o ∧ YieldsIf P ops (Sy i) o v a ∧ wpSchedI P ops Q I Sy mv r (listed.setIfInBounds i true) (a.put o.dst v) w)
def headI (ops : Array Oper) (mv : List Nat) : List Nat → Array Bool → Bool
  | [], listed => (Region.ready .any ops listed).isEmpty
  | i :: r, listed =>
    bif mv.contains i then oneB ops listed i && headI ops mv r (listed.setIfInBounds i true) else
    Region.free .any ops listed i && (Region.ready .any ops listed).contains i && headI ops mv r (listed.setIfInBounds i true)
theorem sched_I {mv : List Nat} {Sy : Nat → World → Prop} (hs : Region.noSelect ops = true)
    (hIi : ∀ i listed w, mv.contains i = false → i < ops.size → HeadInv .any ops ops.size listed → listed.getD i true = false → I listed w → Sy i w)
    (hI1 : ∀ i listed w, mv.contains i = false → I listed w → I (listed.setIfInBounds i true) w) (hI2 : ∀ i listed w, mv.contains i = false → I (listed.setIfInBounds i true) w → I listed w) :
    ∀ (r : List Nat) (listed : Array Bool) (a : Act) (w : World), HeadInv .any ops ops.size listed → headI ops mv r listed = true → I listed w → wpSchedI P ops Q I Sy mv r listed a w → wpAnyI P .any ops (calmQ Q) I r.length listed a w
  | [], listed, a, w, _, h, _, hw => by
    simp only [headI, List.isEmpty_iff] at h
    exact ⟨h, rfl, hw⟩
  | i :: r, listed, a, w, inv, h, hS, hw => by
    unfold headI at h
    cases h2 : mv.contains i with
    | true =>
      rw [h2] at h
      simp only [cond_true, Bool.and_eq_true] at h
      have hr := oneB_spec h.1
      rcases hw with ⟨_, hw⟩ | ⟨hm, _⟩
      · refine ⟨fun h0 => (by rw [hr] at h0; cases h0), fun j hj => ?_⟩
        have hj' := hj
        rw [hr, List.mem_singleton] at hj'
        subst hj'
        obtain ⟨_, oj, hoj, _⟩ := mem_ready.1 hj
        exact wpOp_mono (fun a' w' h' => ⟨h'.1, sched_I hs hIi hI1 hI2 r _ a' w' (inv.set hj (Array.getElem?_eq_some_iff.1 hoj).1) h.2 h'.1 h'.2⟩) hw
      · rw [h2] at hm; cases hm
    | false =>
      rw [h2] at h
      simp only [cond_false, Bool.and_eq_true] at h
      have hr : i ∈ Region.ready .any ops listed := by simpa using h.1.2
      rcases hw with ⟨hm, _⟩ | ⟨_, o, v, ho, hy, hw⟩
      · rw [h2] at hm; cases hm
      · have hlt : i < ops.size := (Array.getElem?_eq_some_iff.1 ho).1
        exact wpAnyI_first ho (Region.noSelect_spec hs) (fun c a w hc => by cases hc.1) (fun l w a b c => hIi i l w h2 hlt a b c) (fun l w => hI1 i l w h2) (fun l w => hI2 i l w h2) r.length listed a w inv (Region.free_spec ho h.1.1) hr hy hS (sched_I hs hIi hI1 hI2 r _ _ w (inv.set hr hlt) h.2 (hI1 i _ _ h2 hS) hw)
theorem lev_le {tv : List (Nat × Nat)} {listed : Array Bool} {k : Nat} (h : ∀ p ∈ tv, listed.getD p.1 false = true → p.2 ≤ k) : levN tv listed ≤ k := by
  have key : ∀ (l : List (Nat × Nat)) (m : Nat), m ≤ k → (∀ p ∈ l, listed.getD p.1 false = true → p.2 ≤ k) → l.foldl (fun k p => bif listed.getD p.1 false then max k p.2 else k) m ≤ k := by
    intro l
    induction l with
    | nil => exact fun m hm _ => hm
    | cons p l ih =>
      intro m hm hl
      rw [List.foldl_cons]
      refine ih _ ?_ (fun q hq => hl q (.tail _ hq))
      cases hp : listed.getD p.1 false with
      | true => have := hl p (.head _) hp; simp only [cond_true]; omega
      | false => exact hm
  exact key tv 0 (Nat.zero_le _) h
theorem lev_set {tv : List (Nat × Nat)} {listed : Array Bool} {i : Nat} (h : ∀ p ∈ tv, p.1 ≠ i) : levN tv (listed.setIfInBounds i true) = levN tv listed := by
  have key : ∀ (l : List (Nat × Nat)) (m : Nat), (∀ p ∈ l, p.1 ≠ i) → l.foldl (fun k p => bif (listed.setIfInBounds i true).getD p.1 false then max k p.2 else k) m = l.foldl (fun k p => bif listed.getD p.1 false then max k p.2 else k) m := by
    intro l
    induction l with
    | nil => exact fun m _ => rfl
    | cons p l ih =>
      intro m hl
      rw [List.foldl_cons, List.foldl_cons, getD_set_ne false (Ne.symm (hl p (.head _)))]
      exact ih _ (fun q hq => hl q (.tail _ hq))
  exact key tv 0 h
theorem getD_replicate_false2 {n k : Nat} : (Array.replicate n false).getD k false = false := by
  simp only [Array.getD, Array.size_replicate]
  split
  · simp
  · rfl
def waitsT (ops : Array Oper) : Nat → Nat → Nat → Bool
  | 0, _, _ => false
  | k + 1, m, i => match ops[m]? with
    | some o => o.after.any fun e => Region.binds .any e && (e.on == i || waitsT ops k e.on i)
    | none => false
theorem waits_listed {listed : Array Bool} (inv : HeadInv .any ops ops.size listed) : ∀ (k m i : Nat), waitsT ops k m i = true → listed.getD m false = true → listed.getD i false = true
  | 0, _, _, h, _ => by cases h
  | k + 1, m, i, h, hm => by
    unfold waitsT at h
    cases ho : ops[m]? with
    | none => rw [ho] at h; cases h
    | some o =>
      rw [ho] at h
      simp only [Array.any_eq_true', Bool.and_eq_true, Bool.or_eq_true, beq_iff_eq] at h
      obtain ⟨e, he, hb, h1⟩ := h
      have h2 := inv.closed m o ho hm e he hb
      rcases h1 with h1 | h1
      · rw [← h1]; exact h2
      · exact waits_listed inv k _ i h1 h2
def lvOf (lv : List (Nat × Nat)) (top i : Nat) : Nat := match lv.find? (fun p => Nat.beq p.1 i) with
  | some p => p.2
  | none => top
def drawL (ops : Array Oper) (mv : List Nat) (tv lv : List (Nat × Nat)) (top : Nat) (ord : List Nat) : Bool :=
  Nat.beq ord.length ops.size && Region.noSelect ops && headI ops mv ord (Array.replicate ops.size false) && (tv.all fun p => mv.contains p.1) &&
  ((List.range ops.size).all fun i => mv.contains i || tv.all fun p => Nat.ble p.2 (lvOf lv top i) || waitsT ops ops.size p.1 i)
variable {W : World} {n : Nat} {c : Code} {H H' : List SProp} {RL : Nat → List SProp} {mv r : List Nat} {tv lv : List (Nat × Nat)} {top i d : Nat} {listed : Array Bool} {f : Fr}
variable {dst : Option Tmp} {ty_ : TypeId} {pos : String} {after : Array Edge} {guard : Option (Nat × Bool)}
def VL (W : World) (P : Program) (n : Nat) (c : Code) (RL : Nat → List SProp) (mv : List Nat) (tv lv : List (Nat × Nat)) (top : Nat) (r : List Nat) (listed : Array Bool) (Q : Exit → Act → World → Prop) (H : List SProp) (f : Fr) : Prop :=
  ∀ t w, Knows n f t → Holds W H w → wpSchedI P (regOps c).toArray Q (fun listed w => Holds W (RL (levN tv listed)) w) (fun i => Holds W (RL (lvOf lv top i))) mv r listed ⟨t, []⟩ w
theorem VC.drawnL (RL : Nat → List SProp) (mv : List Nat) (tv lv : List (Nat × Nat)) (top : Nat) (ord : List Nat) (hc : regDraw c = some true) (hm : P.follows .mixedOrders = true) (hB : drawL (regOps c).toArray mv tv lv top ord = true)
    (hR : Ent W H (RL 0)) (hE : ∀ k, Ent W (RL k) (RL (k + 1))) (h : VL W P n c RL mv tv lv top ord (Array.replicate (regOps c).length false) Q H f) : VC W P n c Q H f := by
  have hmono : ∀ a b, Ent W (RL a) (RL (a + b)) := by
    intro a b
    induction b with
    | zero => exact Ent.refl
    | succ b ih => exact Ent.trans ih (hE _)
  unfold VC
  cases c <;> simp [regDraw] at hc
  subst hc
  intro t w hk hw
  have h' := h t w.drew hk hw.drew
  simp only [regOps, Array.toArray_toList, Array.length_toList] at h' hB
  simp only [drawL, Bool.and_eq_true] at hB
  obtain ⟨⟨⟨⟨hl, hs⟩, hh⟩, ht⟩, hi⟩ := hB
  have hl' := Nat.eq_of_beq_eq_true hl
  have htv : ∀ i, mv.contains i = false → ∀ p ∈ tv, p.1 ≠ i := by
    intro i hi p hp e
    have := List.all_eq_true.1 ht p hp
    rw [e, hi] at this; cases this
  have h1 := sched_I (P := P) (Q := Q) (I := fun listed w => Holds W (RL (levN tv listed)) w) (Sy := fun i => Holds W (RL (lvOf lv top i))) (mv := mv) hs
    (fun i listed w hm hlt inv hun hI => by
      have h2 := List.all_eq_true.1 hi i (List.mem_range.2 hlt)
      rw [hm, Bool.false_or] at h2
      have h3 : levN tv listed ≤ lvOf lv top i := lev_le fun p hp hpl => by
        have h4 := List.all_eq_true.1 h2 p hp
        rw [Bool.or_eq_true] at h4
        rcases h4 with h4 | h4
        · exact Nat.le_of_ble_eq_true h4
        · have := waits_listed inv _ _ _ h4 hpl
          rw [getD_both hun] at this; cases this
      have h5 := hmono (levN tv listed) (lvOf lv top i - levN tv listed) w hI
      rwa [Nat.add_sub_cancel' h3] at h5)
    (fun i listed w hm hI => by show Holds W (RL (levN tv _)) w; rw [lev_set (htv i hm)]; exact hI)
    (fun i listed w hm hI => by have : Holds W (RL (levN tv (listed.setIfInBounds i true))) w := hI; rw [lev_set (htv i hm)] at this; exact this)
    ord _ _ w.drew (HeadInv.start _) hh (by
      show Holds W (RL (levN tv _)) w.drew
      have h0 : ∀ m, levN tv (Array.replicate m false) = 0 := fun m => Nat.le_zero.1 (lev_le fun p hp hpl => by rw [getD_replicate_false2] at hpl; cases hpl)
      rw [h0]; exact hR _ hw.drew) h'
  rw [hl'] at h1
  refine Code.wp_mono ?_ (wp_region_any (Q := calmQ Q) hm (wpAny_of_I _ _ _ _ h1))
  rintro e a w ⟨rfl, hq⟩
  exact hq
theorem VL.nil (h : VE W n Q .normal H f) : VL W P n c RL mv tv lv top [] listed Q H f := by
  unfold VE at h
  exact fun t w hk hw => h t w hk hw
theorem VL.take {op : Op} {v : Value} (ho : (regOps c)[i]? = some { dst := some d, op, type := ty_, pos, after, guard }) (hm : mv.contains i = false) (hg : wantX (regOps c) guard f = some true) (k : Nat) (hl : lvOf lv top i = k)
    (hp : PureAt W P n (RL k) f { dst := some d, op, type := ty_, pos, after, guard } v) (hd : Nat.blt d n = true) (h : VL W P n c RL mv tv lv top r (listed.setIfInBounds i true) Q H ((d, v) :: f)) : VL W P n c RL mv tv lv top (i :: r) listed Q H f := by
  subst hl
  unfold PureAt at hp
  intro t w hk hw
  exact .inr ⟨hm, _, v, by simpa using ho, .inl ⟨hk.wanted (o := { dst := some d, op, type := ty_, pos, after, guard }) hg, fun w hS => hp t w hk hS⟩, h _ w (hk.put hd) hw⟩
theorem VL.mid {o : Oper} (ho : (regOps c)[i]? = some o) (hm : mv.contains i = true) (hg : wantX (regOps c) o.guard f = some true) (k : Nat) (hl : levN tv (listed.setIfInBounds i true) = k)
    (h : OpV W P n o (calmQ Q) H f (fun H' f' => Ent W H' (RL k) ∧ VL W P n c RL mv tv lv top r (listed.setIfInBounds i true) Q H' f')) : VL W P n c RL mv tv lv top (i :: r) listed Q H f := by
  subst hl
  unfold OpV at h
  intro t w hk hw
  refine .inl ⟨hm, ?_⟩
  unfold wpOp
  simp only [List.getElem?_toArray, ho]
  rw [if_pos (hk.wanted hg)]
  exact .inl (h t w hk hw _ (fun H' f' hN t' w' hk' hw' => ⟨hN.1 w' hw', hN.2 t' w' hk' hw'⟩))
theorem VL.re {v : Value} (k : Nat) (v' : Value) (hl : look f k = some v) (e : v = v') (h : VL W P n c RL mv tv lv top r listed Q H ((k, v') :: f)) : VL W P n c RL mv tv lv top r listed Q H f := fun t w hk hw => h t w (hk.again (e ▸ hl)) hw
end
attribute [irreducible] VL
end Go.Sl

/-! Text Yc. -/
/- lift's way: Len, Less, Swap, Push, Pop. -/
set_option maxRecDepth 8000
set_option linter.unusedVariables false
set_option linter.unusedSimpArgs false
set_option linter.unusedSectionVars false
namespace Go.Proofs.Ytpmmkmcbimnigaa
open Go.RowKit Go.Sl
attribute [local irreducible] Sl.Own

/-- A way's cells. -/
def wayV (l : List Pl) : List Value := l.flatMap fun p => [.int .i64 p.1, .int .i64 p.2]
theorem wayV_len (l : List Pl) : (wayV l).length = l.length * 2 := by
  induction l with
  | nil => rfl
  | cons p r ih => unfold wayV at *; rw [List.flatMap_cons, List.length_append, ih, List.length_cons]; simp only [List.length_cons, List.length_nil]; omega
theorem wayV_cons (p : Pl) (l : List Pl) : wayV (p :: l) = .int .i64 p.1 :: .int .i64 p.2 :: wayV l := by unfold wayV; rw [List.flatMap_cons]; rfl
theorem wayV_append (l r : List Pl) : wayV (l ++ r) = wayV l ++ wayV r := by unfold wayV; rw [List.flatMap_append]
theorem wayV_one (l : List Pl) : ∀ u ∈ wayV l, u.oneCell' = true := by
  intro u hu
  obtain ⟨p, _, h⟩ := List.mem_flatMap.1 hu
  simp only [List.mem_cons, List.not_mem_nil, or_false] at h
  rcases h with rfl | rfl <;> rfl
theorem wayV_drop (l : List Pl) (i : Nat) : (wayV l).drop (i * 2) = wayV (l.drop i) := by
  induction i generalizing l with
  | zero => simp
  | succ i ih =>
    cases l with
    | nil => simp [wayV]
    | cons p r =>
      rw [wayV_cons, show (i + 1) * 2 = i * 2 + 1 + 1 by omega, List.drop_succ_cons, List.drop_succ_cons, ih, List.drop_succ_cons]
theorem wayV_take (l : List Pl) (i : Nat) : (wayV l).take (i * 2) = wayV (l.take i) := by
  induction i generalizing l with
  | zero => simp [wayV]
  | succ i ih =>
    cases l with
    | nil => simp [wayV]
    | cons p r =>
      rw [wayV_cons, show (i + 1) * 2 = i * 2 + 1 + 1 by omega, List.take_succ_cons, List.take_succ_cons, ih, List.take_succ_cons, wayV_cons]
theorem wayV_two {l : List Pl} {i : Nat} (h : i < l.length) : ((wayV l).drop (i * 2)).take 2 = [.int .i64 (pl l i).1, .int .i64 (pl l i).2] := by
  rw [wayV_drop, List.drop_eq_getElem_cons h, wayV_cons, pl_at h]
  rfl
theorem wayV_at0 {l : List Pl} {i : Nat} (h : i < l.length) : (wayV l)[i * 2]? = some (.int .i64 (pl l i).1) := by
  have := congrArg (·[0]?) (wayV_two h)
  simpa [List.getElem?_take, List.getElem?_drop] using this
theorem wayV_at1 {l : List Pl} {i : Nat} (h : i < l.length) : (wayV l)[i * 2 + 1]? = some (.int .i64 (pl l i).2) := by
  have := congrArg (·[1]?) (wayV_two h)
  simpa [List.getElem?_take, List.getElem?_drop] using this
theorem wayV_set {l : List Pl} {i : Nat} {p : Pl} (h : i < l.length) : (wayV l).take (i * 2) ++ [.int .i64 p.1, .int .i64 p.2] ++ (wayV l).drop (i * 2 + 2) = wayV (l.set i p) := by
  rw [show i * 2 + 2 = (i + 1) * 2 by omega, wayV_take, wayV_drop, List.set_eq_take_append_cons_drop, if_pos h, wayV_append, wayV_cons, List.append_assoc]
  rfl
abbrev WayR (ao : Option Addr) (cap : Nat) (l : List Pl) : SProp := Sl.Own 92 2 (.slice ao l.length cap) l.length (wayV l)

theorem waylen_ok {W : World} {H : List SProp} {ao : Option Addr} {n cap : Nat} : Does1 W Try.prog 145 [.slice ao n cap] H (.int .i64 n) H := by
  (refine Does.enter Try.func145 Try.ntmps145 rfl rfl ?_)
  (refine w ?_; repeat ((first | refine VO.step rfl rfl ?_ | refine VD.end rfl rfl rfl ?_ | refine VD.mid rfl rfl rfl ?_); refine OpV.box rfl rfl rfl ?_; intro _; refine w ?_))
  (refine VE.done1 rfl ?_ ?_)
  · rfl
  · exact Ent.refl
set_option maxHeartbeats 2000000 in
theorem wayless_ok {W : World} {H : List SProp} {a : Addr} {cap i j : Nat} {l : List Pl} (hr : Rds W H 2 (some a) l.length (wayV l)) (hi : i < l.length) (hj : j < l.length) :
    Does1 W Try.prog 146 [.slice (some a) l.length cap, .int .i64 i, .int .i64 j] H (.bool (decide (plt (pl l i) (pl l j)))) H := by
  (refine Does.enter Try.func146 Try.ntmps146 rfl rfl ?_)
  (refine w ?_; repeat ((first | refine VO.step rfl rfl ?_ | refine VD.end rfl rfl rfl ?_ | refine VD.mid rfl rfl rfl ?_); refine OpV.box rfl rfl rfl ?_; intro _; refine w ?_))
  (refine VC.drawn [] 34 [0, 1, 2, 3, 4, 5, 6, 7, 8, 9, 10, 11, 12, 13, 14, 15, 16, 17, 18, 19, 20, 21, 22, 23, 24, 25, 26, 27, 28, 29, 30, 31, 32, 33, 34, 35, 36, 37] _ rfl (by kernel_rfl) (by kernel_rfl) Ent.re ?_)
  (refine w ?_; repeat ((first | refine VO.step rfl rfl ?_ | refine VD.end rfl rfl rfl ?_ | refine VD.mid rfl rfl rfl ?_); refine OpV.box rfl rfl rfl ?_; intro _; refine w ?_))
  (first | refine VO.pure rfl rfl (PureAt.ldRc tab_ok rfl rfl hr (wayV_at1 hi)) rfl ?_ | refine VD.take rfl rfl rfl (PureAt.ldRc tab_ok rfl rfl hr (wayV_at1 hi)) rfl ?_ | refine VQ.pure rfl rfl (PureAt.ldRc tab_ok rfl rfl hr (wayV_at1 hi)) rfl ?_ | refine VD.end rfl rfl rfl (OpV.pure (PureAt.ldRc tab_ok rfl rfl hr (wayV_at1 hi)) rfl ?_))
  (refine w ?_; repeat ((first | refine VO.step rfl rfl ?_ | refine VD.end rfl rfl rfl ?_ | refine VD.mid rfl rfl rfl ?_); refine OpV.box rfl rfl rfl ?_; intro _; refine w ?_))
  (first | refine VO.pure rfl rfl (PureAt.ldRc tab_ok rfl rfl hr (wayV_at1 hj)) rfl ?_ | refine VD.take rfl rfl rfl (PureAt.ldRc tab_ok rfl rfl hr (wayV_at1 hj)) rfl ?_ | refine VQ.pure rfl rfl (PureAt.ldRc tab_ok rfl rfl hr (wayV_at1 hj)) rfl ?_ | refine VD.end rfl rfl rfl (OpV.pure (PureAt.ldRc tab_ok rfl rfl hr (wayV_at1 hj)) rfl ?_))
  (refine w ?_; repeat ((first | refine VO.step rfl rfl ?_ | refine VD.end rfl rfl rfl ?_ | refine VD.mid rfl rfl rfl ?_); refine OpV.box rfl rfl rfl ?_; intro _; refine w ?_))
  have hp : plt (pl l i) (pl l j) ↔ (pl l i).2 < (pl l j).2 ∨ ((pl l i).2 = (pl l j).2 ∧ (pl l i).1 < (pl l j).1) := Iff.rfl
  ((first | refine VO.split rfl rfl rfl ?_ ?_ | refine VD.split rfl rfl rfl ?_ ?_) <;> intro hb)
  · have h1 := of_decide_eq_true hb
    rw [decide_eq_true (hp.2 (.inl h1))]
    (refine w ?_; repeat ((first | refine VO.step rfl rfl ?_ | refine VD.end rfl rfl rfl ?_ | refine VD.mid rfl rfl rfl ?_); refine OpV.box rfl rfl rfl ?_; intro _; refine w ?_))
    (refine VE.done1 rfl ?_ ?_)
    · rfl
    · exact Ent.refl
  · have h1 := of_decide_eq_false hb
    (refine w ?_; repeat ((first | refine VO.step rfl rfl ?_ | refine VD.end rfl rfl rfl ?_ | refine VD.mid rfl rfl rfl ?_); refine OpV.box rfl rfl rfl ?_; intro _; refine w ?_))
    (first | refine VO.pure rfl rfl (PureAt.ldRc tab_ok rfl rfl hr (wayV_at1 hi)) rfl ?_ | refine VD.take rfl rfl rfl (PureAt.ldRc tab_ok rfl rfl hr (wayV_at1 hi)) rfl ?_ | refine VQ.pure rfl rfl (PureAt.ldRc tab_ok rfl rfl hr (wayV_at1 hi)) rfl ?_ | refine VD.end rfl rfl rfl (OpV.pure (PureAt.ldRc tab_ok rfl rfl hr (wayV_at1 hi)) rfl ?_))
    (refine w ?_; repeat ((first | refine VO.step rfl rfl ?_ | refine VD.end rfl rfl rfl ?_ | refine VD.mid rfl rfl rfl ?_); refine OpV.box rfl rfl rfl ?_; intro _; refine w ?_))
    (first | refine VO.pure rfl rfl (PureAt.ldRc tab_ok rfl rfl hr (wayV_at1 hj)) rfl ?_ | refine VD.take rfl rfl rfl (PureAt.ldRc tab_ok rfl rfl hr (wayV_at1 hj)) rfl ?_ | refine VQ.pure rfl rfl (PureAt.ldRc tab_ok rfl rfl hr (wayV_at1 hj)) rfl ?_ | refine VD.end rfl rfl rfl (OpV.pure (PureAt.ldRc tab_ok rfl rfl hr (wayV_at1 hj)) rfl ?_))
    (refine w ?_; repeat ((first | refine VO.step rfl rfl ?_ | refine VD.end rfl rfl rfl ?_ | refine VD.mid rfl rfl rfl ?_); refine OpV.box rfl rfl rfl ?_; intro _; refine w ?_))
    ((first | refine VO.split rfl rfl rfl ?_ ?_ | refine VD.split rfl rfl rfl ?_ ?_) <;> intro hb)
    · have h2 := of_decide_eq_true hb
      (refine w ?_; repeat ((first | refine VO.step rfl rfl ?_ | refine VD.end rfl rfl rfl ?_ | refine VD.mid rfl rfl rfl ?_); refine OpV.box rfl rfl rfl ?_; intro _; refine w ?_))
      (first | refine VO.pure rfl rfl (PureAt.ldRc tab_ok rfl rfl hr (wayV_at0 hi)) rfl ?_ | refine VD.take rfl rfl rfl (PureAt.ldRc tab_ok rfl rfl hr (wayV_at0 hi)) rfl ?_ | refine VQ.pure rfl rfl (PureAt.ldRc tab_ok rfl rfl hr (wayV_at0 hi)) rfl ?_ | refine VD.end rfl rfl rfl (OpV.pure (PureAt.ldRc tab_ok rfl rfl hr (wayV_at0 hi)) rfl ?_))
      (refine w ?_; repeat ((first | refine VO.step rfl rfl ?_ | refine VD.end rfl rfl rfl ?_ | refine VD.mid rfl rfl rfl ?_); refine OpV.box rfl rfl rfl ?_; intro _; refine w ?_))
      (first | refine VO.pure rfl rfl (PureAt.ldRc tab_ok rfl rfl hr (wayV_at0 hj)) rfl ?_ | refine VD.take rfl rfl rfl (PureAt.ldRc tab_ok rfl rfl hr (wayV_at0 hj)) rfl ?_ | refine VQ.pure rfl rfl (PureAt.ldRc tab_ok rfl rfl hr (wayV_at0 hj)) rfl ?_ | refine VD.end rfl rfl rfl (OpV.pure (PureAt.ldRc tab_ok rfl rfl hr (wayV_at0 hj)) rfl ?_))
      (refine w ?_; repeat ((first | refine VO.step rfl rfl ?_ | refine VD.end rfl rfl rfl ?_ | refine VD.mid rfl rfl rfl ?_); refine OpV.box rfl rfl rfl ?_; intro _; refine w ?_))
      (refine VE.done1 rfl ?_ ?_)
      · refine congrArg Value.bool ?_
        rw [decide_eq_decide, hp]
        constructor
        · intro h; exact .inr ⟨h2, h⟩
        · rintro (h | h)
          · exact absurd h h1
          · exact h.2
      · exact Ent.refl
    · have h2 := of_decide_eq_false hb
      rw [decide_eq_false (fun h => (hp.1 h).elim h1 fun h => h2 h.1)]
      (refine w ?_; repeat ((first | refine VO.step rfl rfl ?_ | refine VD.end rfl rfl rfl ?_ | refine VD.mid rfl rfl rfl ?_); refine OpV.box rfl rfl rfl ?_; intro _; refine w ?_))
      (refine VE.done1 rfl ?_ ?_)
      · rfl
      · exact Ent.refl
def levS (A : SProp) (R : List SProp) : Nat → List SProp
  | 0 => A :: R
  | _ + 1 => R
theorem levS_step {W : World} (A : SProp) (R : List SProp) : ∀ k, Ent W (levS A R k) (levS A R (k + 1))
  | 0 => fun w hw => hw.tail
  | _ + 1 => Ent.refl
set_option maxHeartbeats 2000000 in
theorem wayswap_ok {W : World} {R : List SProp} {a : Addr} {cap i j : Nat} {l : List Pl} (hi : i < l.length) (hj : j < l.length) :
    Does1 W Try.prog 147 [.slice (some a) l.length cap, .int .i64 i, .int .i64 j] (WayR (some a) cap l :: R) (.tuple #[]) (WayR (some a) cap (swp l i j) :: R) := by
  (refine Does.enter Try.func147 Try.ntmps147 rfl rfl ?_)
  have hr : Rds W (WayR (some a) cap l :: R) 2 (some a) l.length (wayV l) := Rds.own (wayV_one l) (.head _) (wayV_len l) (fun h => by cases h)
  have hlw := wayV_len l
  have o1 : ∀ p : Pl, ∀ u ∈ [Value.int .i64 p.1, Value.int .i64 p.2], u.oneCell' = true := fun p u hu => by
    simp only [List.mem_cons, List.not_mem_nil, or_false] at hu
    rcases hu with rfl | rfl <;> rfl
  (refine w ?_; repeat ((first | refine VO.step rfl rfl ?_ | refine VD.end rfl rfl rfl ?_ | refine VD.mid rfl rfl rfl ?_); refine OpV.box rfl rfl rfl ?_; intro _; refine w ?_))
  refine VC.drawnL (levS (WayR (some a) cap l) R) [13, 15] [(13, 1), (15, 1)] [(7, 0), (11, 0)] 1 [0, 1, 2, 3, 4, 5, 6, 7, 8, 9, 10, 11, 12, 13, 14, 15] rfl (by kernel_rfl) (by kernel_rfl) Ent.refl (levS_step _ _) ?_
  iterate 7 (apply VL.take rfl rfl rfl 1 rfl; (first | (apply PureAt.ar64 rfl rfl rfl; omega) | exact .eval tab_ok rfl | (apply PureAt.ld tab_ok rfl rfl; (focus repeat first | exact .head _ | apply List.Mem.tail); rfl) | (apply PureAt.shr rfl rfl (by decide) (by decide)) | (apply PureAt.shr rfl rfl (by omega) (by simp only [IntKind.bits]; omega)) | exact .fieldAddrA tab_ok rfl rfl | exact .sliceLH tab_ok rfl rfl rfl rfl (by omega) (by omega) | exact .sliceH tab_ok rfl rfl rfl (by omega) | exact .sliceL tab_ok rfl rfl rfl (by omega) | (first | exact .indexAddr tab_ok rfl rfl rfl rfl (by omega) | exact .indexAddrN tab_ok rfl rfl rfl rfl (by omega) | exact .indexAddrI tab_ok rfl rfl rfl rfl (toNatLit _) (by decide) (by omega) | exact .indexAddrNI tab_ok rfl rfl rfl rfl (toNatLit _) (by decide) (by omega) | exact .ldR tab_ok rfl rfl hr1 (List.getElem?_eq_getElem (by omega)) | exact .ldR tab_ok rfl rfl hr2 (List.getElem?_eq_getElem (by omega)) | exact ldB tab_ok rfl rfl hb1 (by omega) | exact ldB tab_ok rfl rfl hb2 (by omega)) | exact .sliceHI tab_ok rfl rfl rfl (toNatLit _) (by decide) (by omega) | exact .sliceLI tab_ok rfl rfl rfl (toNatLit _) (by decide) (by omega) | (apply PureAt.ldA tab_ok rfl rfl; (focus repeat first | exact .head _ | apply List.Mem.tail); rfl; rfl) | exact .ldro tab_ok rfl rfl (by assumption)); rfl)
  apply VL.take rfl rfl rfl 0 rfl
  · exact PureAt.ldRA tab_ok rfl rfl hr (wayV_two hj) rfl
  · rfl
  iterate 3 (apply VL.take rfl rfl rfl 1 rfl; (first | (apply PureAt.ar64 rfl rfl rfl; omega) | exact .eval tab_ok rfl | (apply PureAt.ld tab_ok rfl rfl; (focus repeat first | exact .head _ | apply List.Mem.tail); rfl) | (apply PureAt.shr rfl rfl (by decide) (by decide)) | (apply PureAt.shr rfl rfl (by omega) (by simp only [IntKind.bits]; omega)) | exact .fieldAddrA tab_ok rfl rfl | exact .sliceLH tab_ok rfl rfl rfl rfl (by omega) (by omega) | exact .sliceH tab_ok rfl rfl rfl (by omega) | exact .sliceL tab_ok rfl rfl rfl (by omega) | (first | exact .indexAddr tab_ok rfl rfl rfl rfl (by omega) | exact .indexAddrN tab_ok rfl rfl rfl rfl (by omega) | exact .indexAddrI tab_ok rfl rfl rfl rfl (toNatLit _) (by decide) (by omega) | exact .indexAddrNI tab_ok rfl rfl rfl rfl (toNatLit _) (by decide) (by omega) | exact .ldR tab_ok rfl rfl hr1 (List.getElem?_eq_getElem (by omega)) | exact .ldR tab_ok rfl rfl hr2 (List.getElem?_eq_getElem (by omega)) | exact ldB tab_ok rfl rfl hb1 (by omega) | exact ldB tab_ok rfl rfl hb2 (by omega)) | exact .sliceHI tab_ok rfl rfl rfl (toNatLit _) (by decide) (by omega) | exact .sliceLI tab_ok rfl rfl rfl (toNatLit _) (by decide) (by omega) | (apply PureAt.ldA tab_ok rfl rfl; (focus repeat first | exact .head _ | apply List.Mem.tail); rfl; rfl) | exact .ldro tab_ok rfl rfl (by assumption)); rfl)
  apply VL.take rfl rfl rfl 0 rfl
  · exact PureAt.ldRA tab_ok rfl rfl hr (wayV_two hi) rfl
  · rfl
  (apply VL.take rfl rfl rfl 1 rfl; (first | (apply PureAt.ar64 rfl rfl rfl; omega) | exact .eval tab_ok rfl | (apply PureAt.ld tab_ok rfl rfl; (focus repeat first | exact .head _ | apply List.Mem.tail); rfl) | (apply PureAt.shr rfl rfl (by decide) (by decide)) | (apply PureAt.shr rfl rfl (by omega) (by simp only [IntKind.bits]; omega)) | exact .fieldAddrA tab_ok rfl rfl | exact .sliceLH tab_ok rfl rfl rfl rfl (by omega) (by omega) | exact .sliceH tab_ok rfl rfl rfl (by omega) | exact .sliceL tab_ok rfl rfl rfl (by omega) | (first | exact .indexAddr tab_ok rfl rfl rfl rfl (by omega) | exact .indexAddrN tab_ok rfl rfl rfl rfl (by omega) | exact .indexAddrI tab_ok rfl rfl rfl rfl (toNatLit _) (by decide) (by omega) | exact .indexAddrNI tab_ok rfl rfl rfl rfl (toNatLit _) (by decide) (by omega) | exact .ldR tab_ok rfl rfl hr1 (List.getElem?_eq_getElem (by omega)) | exact .ldR tab_ok rfl rfl hr2 (List.getElem?_eq_getElem (by omega)) | exact ldB tab_ok rfl rfl hb1 (by omega) | exact ldB tab_ok rfl rfl hb2 (by omega)) | exact .sliceHI tab_ok rfl rfl rfl (toNatLit _) (by decide) (by omega) | exact .sliceLI tab_ok rfl rfl rfl (toNatLit _) (by decide) (by omega) | (apply PureAt.ldA tab_ok rfl rfl; (focus repeat first | exact .head _ | apply List.Mem.tail); rfl; rfl) | exact .ldro tab_ok rfl rfl (by assumption)); rfl)
  refine VL.mid rfl rfl rfl 1 rfl ?_
  refine OpV.stOA (vs := [.int .i64 (pl l j).1, .int .i64 (pl l j).2]) tab_ok rfl rfl rfl rfl (o1 _) .head (by omega) ?_
  rw [wayV_set hi]
  refine ⟨(show Ent W _ R from fun w hw => hw.tail), ?_⟩
  (apply VL.take rfl rfl rfl 1 rfl; (first | (apply PureAt.ar64 rfl rfl rfl; omega) | exact .eval tab_ok rfl | (apply PureAt.ld tab_ok rfl rfl; (focus repeat first | exact .head _ | apply List.Mem.tail); rfl) | (apply PureAt.shr rfl rfl (by decide) (by decide)) | (apply PureAt.shr rfl rfl (by omega) (by simp only [IntKind.bits]; omega)) | exact .fieldAddrA tab_ok rfl rfl | exact .sliceLH tab_ok rfl rfl rfl rfl (by omega) (by omega) | exact .sliceH tab_ok rfl rfl rfl (by omega) | exact .sliceL tab_ok rfl rfl rfl (by omega) | (first | exact .indexAddr tab_ok rfl rfl rfl rfl (by omega) | exact .indexAddrN tab_ok rfl rfl rfl rfl (by omega) | exact .indexAddrI tab_ok rfl rfl rfl rfl (toNatLit _) (by decide) (by omega) | exact .indexAddrNI tab_ok rfl rfl rfl rfl (toNatLit _) (by decide) (by omega) | exact .ldR tab_ok rfl rfl hr1 (List.getElem?_eq_getElem (by omega)) | exact .ldR tab_ok rfl rfl hr2 (List.getElem?_eq_getElem (by omega)) | exact ldB tab_ok rfl rfl hb1 (by omega) | exact ldB tab_ok rfl rfl hb2 (by omega)) | exact .sliceHI tab_ok rfl rfl rfl (toNatLit _) (by decide) (by omega) | exact .sliceLI tab_ok rfl rfl rfl (toNatLit _) (by decide) (by omega) | (apply PureAt.ldA tab_ok rfl rfl; (focus repeat first | exact .head _ | apply List.Mem.tail); rfl; rfl) | exact .ldro tab_ok rfl rfl (by assumption)); rfl)
  refine VL.mid rfl rfl rfl 1 rfl ?_
  refine OpV.stOA (vs := [.int .i64 (pl l i).1, .int .i64 (pl l i).2]) tab_ok rfl rfl rfl rfl (o1 _) .head (by rw [wayV_len, List.length_set]; omega) ?_
  rw [wayV_set (by rw [List.length_set]; exact hj)]
  refine ⟨(show Ent W _ R from fun w hw => hw.tail), ?_⟩
  refine VL.nil ?_
  (refine w ?_; repeat ((first | refine VO.step rfl rfl ?_ | refine VD.end rfl rfl rfl ?_ | refine VD.mid rfl rfl rfl ?_); refine OpV.box rfl rfl rfl ?_; intro _; refine w ?_))
  (refine VE.done1N rfl ?_ ?_)
  · rfl
  · rw [WayR, swp_length]
    exact Ent.refl
end Go.Proofs.Ytpmmkmcbimnigaa

/-! Text Yd. -/
/- package heap over lift's way: the methods through the interface, up, down, Push, Pop. -/
set_option maxRecDepth 8000
set_option linter.unusedVariables false
set_option linter.unusedSimpArgs false
set_option linter.unusedSectionVars false
namespace Go.Proofs.Ytpmmkmcbimnigaa
open Go.RowKit Go.Sl
attribute [local irreducible] Sl.Own

theorem quoI {W : World} {P : Program} {n : Nat} {H : List SProp} {f : Fr} {dst : Option Tmp} {ty_ : TypeId} {pos : String} {after : Array Edge} {guard : Option (Nat × Bool)} {x y : Operand} {s u : TypeId} {k : IntKind} {a b v : Int} (hx : evalX f x = some (.int k a)) (hy : evalX f y = some (.int k b)) (hb : b ≠ 0) (hw : k.wrap (a.tdiv b) = v) :
    PureAt W P n H f { dst, op := .binOp .quo s x y u, type := ty_, pos, after, guard } (.int k v) :=
  by
    unfold PureAt
    intro tm w hk _
    simp [execOp, hk.eval hx, hk.eval hy, eqGuard, binOp, Op.intDiv, hb, hw]
theorem half_up {i : Nat} (h : i < 1000000) : IntKind.i64.wrap (Int.tdiv ((i : Int) - 1) 2) = (((i - 1) / 2 : Nat) : Int) := by
  have e : Int.tdiv ((i : Int) - 1) 2 = (((i - 1) / 2 : Nat) : Int) := by
    rcases Nat.eq_zero_or_pos i with rfl | hp
    · decide
    · rw [show (i : Int) - 1 = ((i - 1 : Nat) : Int) by omega, show (2 : Int) = ((2 : Nat) : Int) by rfl, ← Int.ofNat_tdiv]
  rw [e]
  exact IntWalk.i64_in _ ⟨by omega, by omega⟩
abbrev ptrW (b off : Nat) : Value := .pointer (some ⟨b, off, none⟩)
abbrev hW (b off : Nat) : Value := .iface 94 (ptrW b off)
abbrev plcV (p : Pl) : Value := .agg #[.int .i64 p.1, .int .i64 p.2]
abbrev plcI (p : Pl) : Value := .iface 92 (plcV p)
theorem meth_len0 (a : Addr) (w : World) : (callMethod (.iface 94 (.pointer (some a))) "Len" #[]).run Try.prog w = (Sem.bind (load a) fun v => .pure (.enter 145 #[v])).run Try.prog w := by kernel_rfl
theorem meth_less0 (a : Addr) (w : World) (x y : Value) : (callMethod (.iface 94 (.pointer (some a))) "Less" #[x, y]).run Try.prog w = (Sem.bind (load a) fun v => .pure (.enter 146 #[v, x, y])).run Try.prog w := by kernel_rfl
theorem meth_swap0 (a : Addr) (w : World) (x y : Value) : (callMethod (.iface 94 (.pointer (some a))) "Swap" #[x, y]).run Try.prog w = (Sem.bind (load a) fun v => .pure (.enter 147 #[v, x, y])).run Try.prog w := by kernel_rfl
theorem meth_pop {b off : Nat} {w : World} : (callMethod (hW b off) "Pop" #[]).run Try.prog w = .ok (.enter 148 #[ptrW b off]) w := by kernel_rfl
theorem meth_push {b off : Nat} {w : World} {x : Value} : (callMethod (hW b off) "Push" #[x]).run Try.prog w = .ok (.enter 149 #[ptrW b off, x]) w := by kernel_rfl
theorem meth_len {b off : Nat} {w : World} {v : Value} (h : w.cell? ⟨b, off, none⟩ = some v) : (callMethod (hW b off) "Len" #[]).run Try.prog w = .ok (.enter 145 #[v]) w := by
  rw [meth_len0]; simp [Sem.run_bind', load, Sem.run, h]
theorem meth_less {b off : Nat} {w : World} {v x y : Value} (h : w.cell? ⟨b, off, none⟩ = some v) : (callMethod (hW b off) "Less" #[x, y]).run Try.prog w = .ok (.enter 146 #[v, x, y]) w := by
  rw [meth_less0]; simp [Sem.run_bind', load, Sem.run, h]
theorem meth_swap {b off : Nat} {w : World} {v x y : Value} (h : w.cell? ⟨b, off, none⟩ = some v) : (callMethod (hW b off) "Swap" #[x, y]).run Try.prog w = .ok (.enter 147 #[v, x, y]) w := by
  rw [meth_swap0]; simp [Sem.run_bind', load, Sem.run, h]

abbrev WayN (ao : Option Addr) (cap n : Nat) (l : List Pl) : SProp := Sl.Own 92 2 (.slice ao n cap) n (wayV l)
theorem lessN {W : World} {H : List SProp} {a : Addr} {cap n i j : Nat} {l : List Pl} (hl : l.length = n) (hm : WayN (some a) cap n l ∈ H) (hi : i < n) (hj : j < n) :
    Does1 W Try.prog 146 [.slice (some a) n cap, .int .i64 i, .int .i64 j] H (.bool (decide (plt (pl l i) (pl l j)))) H := by
  subst hl
  exact wayless_ok (Rds.own (wayV_one l) hm (wayV_len l) (fun h => by cases h)) hi hj
theorem swapN {W : World} {R : List SProp} {a : Addr} {cap n i j : Nat} {l : List Pl} (hl : l.length = n) (hi : i < n) (hj : j < n) :
    Does1 W Try.prog 147 [.slice (some a) n cap, .int .i64 i, .int .i64 j] (WayN (some a) cap n l :: R) (.tuple #[]) (WayN (some a) cap n (swp l i j) :: R) := by
  subst hl
  have h := wayswap_ok (W := W) (R := R) (a := a) (cap := cap) hi hj
  rw [WayR, WayR, swp_length] at h
  exact h

set_option maxHeartbeats 2000000 in
theorem wayup_ok {W : World} {R : List SProp} {b off T cap n j : Nat} {cs : List Value} {a : Addr} {l : List Pl} (hoff : cs[off]? = some (.slice (some a) n cap)) (hl : l.length = n) (hinv : UpInv l j) (hn : n ≤ 1000000) :
    Does W Try.prog 89 [hW b off, .int .i64 j] (Row b T cs :: WayN (some a) cap n l :: R) (β := List Pl) (fun l' => List.Perm l' l ∧ Heap l' n) (fun _ => .tuple #[]) (fun l' => Row b T cs :: WayN (some a) cap n l' :: R) := by
  (refine Does.enter Try.func89 Try.ntmps89 rfl rfl ?_)
  (refine w ?_; repeat ((first | refine VO.step rfl rfl ?_ | refine VD.end rfl rfl rfl ?_ | refine VD.mid rfl rfl rfl ?_); refine OpV.box rfl rfl rfl ?_; intro _; refine w ?_))
  refine VC.loop (α := List Pl × Nat) (fun y => List.Perm y.1 l ∧ UpInv y.1 y.2) (fun y => Row b T cs :: WayN (some a) cap n y.1 :: R) (fun y => [(0, hW b off), (1, .int .i64 y.2)]) (fun y => y.2) rfl (l, j) ⟨.refl _, hinv⟩ Ent.refl ⟨rfl, rfl, trivial⟩ ?_
  rintro ⟨m, i⟩ ⟨hp, hu⟩
  dsimp only at hp hu ⊢
  have hml : m.length = n := hp.length_eq.trans hl
  have hi := hu.at_
  rw [hml] at hi
  (refine w ?_; repeat ((first | refine VO.step rfl rfl ?_ | refine VD.end rfl rfl rfl ?_ | refine VD.mid rfl rfl rfl ?_); refine OpV.box rfl rfl rfl ?_; intro _; refine w ?_))
  (first | refine VO.pure rfl rfl (quoI rfl rfl (by decide) (half_up (by omega))) rfl ?_ | refine VD.take rfl rfl rfl (quoI rfl rfl (by decide) (half_up (by omega))) rfl ?_ | refine VQ.pure rfl rfl (quoI rfl rfl (by decide) (half_up (by omega))) rfl ?_ | refine VD.end rfl rfl rfl (OpV.pure (quoI rfl rfl (by decide) (half_up (by omega))) rfl ?_))
  (refine w ?_; repeat ((first | refine VO.step rfl rfl ?_ | refine VD.end rfl rfl rfl ?_ | refine VD.mid rfl rfl rfl ?_); refine OpV.box rfl rfl rfl ?_; intro _; refine w ?_))
  ((first | refine VO.split rfl rfl rfl ?_ ?_ | refine VD.split rfl rfl rfl ?_ ?_) <;> intro hb)
  · have h0 : i = 0 := by have := eq_of_beq hb; omega
    (refine w ?_; repeat ((first | refine VO.step rfl rfl ?_ | refine VD.end rfl rfl rfl ?_ | refine VD.mid rfl rfl rfl ?_); refine OpV.box rfl rfl rfl ?_; intro _; refine w ?_))
    refine VE.doneN m rfl ⟨hp, ?_⟩ rfl Ent.refl
    have := hu.done (.inl h0)
    rwa [hml] at this
  · have h0 : 0 < i := by
      rcases Nat.eq_zero_or_pos i with rfl | h
      · exact absurd hb (by decide)
      · exact h
    (refine w ?_; repeat ((first | refine VO.step rfl rfl ?_ | refine VD.end rfl rfl rfl ?_ | refine VD.mid rfl rfl rfl ?_); refine OpV.box rfl rfl rfl ?_; intro _; refine w ?_))
    (first | refine VO.step rfl rfl ?_ | refine VD.end rfl rfl rfl ?_ | refine VD.mid rfl rfl rfl ?_)
    refine OpV.invoke rfl rfl (fun w hw => meth_less (hw.cell (.head _) hoff)) (lessN hml (.tail _ (.head _)) hi (by omega)) Ent.refl rfl ?_
    intro _ _
    (refine w ?_; repeat ((first | refine VO.step rfl rfl ?_ | refine VD.end rfl rfl rfl ?_ | refine VD.mid rfl rfl rfl ?_); refine OpV.box rfl rfl rfl ?_; intro _; refine w ?_))
    (refine VC.cond rfl rfl ?_ ?_ <;> intro hc)
    · have hlt : ¬ plt (pl m i) (pl m ((i - 1) / 2)) := by simpa using hc
      (refine w ?_; repeat ((first | refine VO.step rfl rfl ?_ | refine VD.end rfl rfl rfl ?_ | refine VD.mid rfl rfl rfl ?_); refine OpV.box rfl rfl rfl ?_; intro _; refine w ?_))
      refine VE.doneN m rfl ⟨hp, ?_⟩ rfl Ent.refl
      have := hu.done (.inr hlt)
      rwa [hml] at this
    · have hlt : plt (pl m i) (pl m ((i - 1) / 2)) := by simpa using hc
      (refine w ?_; repeat ((first | refine VO.step rfl rfl ?_ | refine VD.end rfl rfl rfl ?_ | refine VD.mid rfl rfl rfl ?_); refine OpV.box rfl rfl rfl ?_; intro _; refine w ?_))
      (first | refine VO.step rfl rfl ?_ | refine VD.end rfl rfl rfl ?_ | refine VD.mid rfl rfl rfl ?_)
      refine OpV.invoke rfl rfl (fun w hw => meth_swap (hw.cell (.head _) hoff)) (swapN hml (i := (i - 1) / 2) (j := i) (by omega) hi) Ent.re rfl ?_
      intro _ _
      (refine w ?_; repeat ((first | refine VO.step rfl rfl ?_ | refine VD.end rfl rfl rfl ?_ | refine VD.mid rfl rfl rfl ?_); refine OpV.box rfl rfl rfl ?_; intro _; refine w ?_))
      exact VE.round (swp m ((i - 1) / 2) i, (i - 1) / 2) ⟨(swp_perm (by omega) (by omega)).trans hp, hu.step h0 hlt⟩ (by dsimp only; omega) ⟨rfl, rfl, trivial⟩ Ent.re

set_option maxHeartbeats 2000000 in
theorem waydown_ok {W : World} {R : List SProp} {b off T cap N n : Nat} {cs : List Value} {a : Addr} {l : List Pl} (hoff : cs[off]? = some (.slice (some a) N cap)) (hl : l.length = N) (hinv : DownInv l 0 n) (hn : N ≤ 1000000) :
    Does W Try.prog 88 [hW b off, .int .i64 0, .int .i64 n] (Row b T cs :: WayN (some a) cap N l :: R) (β := List Pl × Bool) (fun y => List.Perm y.1 l ∧ Heap y.1 n ∧ ∀ k, n ≤ k → pl y.1 k = pl l k) (fun y => .bool y.2) (fun y => Row b T cs :: WayN (some a) cap N y.1 :: R) := by
  have hnN := hinv.few
  rw [hl] at hnN
  (refine Does.enter Try.func88 Try.ntmps88 rfl rfl ?_)
  (refine w ?_; repeat ((first | refine VO.step rfl rfl ?_ | refine VD.end rfl rfl rfl ?_ | refine VD.mid rfl rfl rfl ?_); refine OpV.box rfl rfl rfl ?_; intro _; refine w ?_))
  refine VC.loop (α := List Pl × Nat) (fun y => List.Perm y.1 l ∧ DownInv y.1 y.2 n ∧ (∀ k, n ≤ k → pl y.1 k = pl l k) ∧ (y.2 = 0 ∨ y.2 < n)) (fun y => Row b T cs :: WayN (some a) cap N y.1 :: R) (fun y => [(0, hW b off), (1, .int .i64 0), (2, .int .i64 n), (7, .int .i64 y.2)]) (fun y => n - y.2) rfl (l, 0) ⟨.refl _, hinv, fun _ _ => rfl, .inl rfl⟩ Ent.refl ⟨rfl, rfl, rfl, rfl, trivial⟩ ?_
  rintro ⟨m, i⟩ ⟨hp, hd, hk, hi⟩
  dsimp only at hp hd hk hi ⊢
  have hml : m.length = N := hp.length_eq.trans hl
  have hi2 : (i : Int) ≤ 1000000 := by omega
  (refine w ?_; repeat ((first | refine VO.step rfl rfl ?_ | refine VD.end rfl rfl rfl ?_ | refine VD.mid rfl rfl rfl ?_); refine OpV.box rfl rfl rfl ?_; intro _; refine w ?_))
  ((first | refine VO.split rfl rfl rfl ?_ ?_ | refine VD.split rfl rfl rfl ?_ ?_) <;> intro hb)
  · have hge : n ≤ 2 * i + 1 := by have := of_decide_eq_true hb; omega
    (refine w ?_; repeat ((first | refine VO.step rfl rfl ?_ | refine VD.end rfl rfl rfl ?_ | refine VD.mid rfl rfl rfl ?_); refine OpV.box rfl rfl rfl ?_; intro _; refine w ?_))
    refine VE.done (m, decide ((0 : Int) < i)) rfl ⟨hp, hd.done (fun c h0 hc hx => absurd hc (by omega)), hk⟩ rfl Ent.refl
  · have hlt : 2 * i + 1 < n := by have := of_decide_eq_false hb; omega
    (refine w ?_; repeat ((first | refine VO.step rfl rfl ?_ | refine VD.end rfl rfl rfl ?_ | refine VD.mid rfl rfl rfl ?_); refine OpV.box rfl rfl rfl ?_; intro _; refine w ?_))
    (first | refine VO.join (α := Nat) (fun c => c < n ∧ 0 < c ∧ (c - 1) / 2 = i ∧ ∀ x, 0 < x → x < n → (x - 1) / 2 = i → ¬ plt (pl m x) (pl m c)) (fun _ => Row b T cs :: WayN (some a) cap N m :: R) (fun c => [(0, hW b off), (1, .int .i64 0), (2, .int .i64 n), (7, .int .i64 i), (9, .int .i64 c)]) ?_ ?_ | refine VC.joinTB (α := Nat) (fun c => c < n ∧ 0 < c ∧ (c - 1) / 2 = i ∧ ∀ x, 0 < x → x < n → (x - 1) / 2 = i → ¬ plt (pl m x) (pl m c)) (fun _ => Row b T cs :: WayN (some a) cap N m :: R) (fun c => [(0, hW b off), (1, .int .i64 0), (2, .int .i64 n), (7, .int .i64 i), (9, .int .i64 c)]) ?_ ?_ | refine VC.joinB (α := Nat) (fun c => c < n ∧ 0 < c ∧ (c - 1) / 2 = i ∧ ∀ x, 0 < x → x < n → (x - 1) / 2 = i → ¬ plt (pl m x) (pl m c)) (fun _ => Row b T cs :: WayN (some a) cap N m :: R) (fun c => [(0, hW b off), (1, .int .i64 0), (2, .int .i64 n), (7, .int .i64 i), (9, .int .i64 c)]) ?_ ?_ | refine VC.join (α := Nat) (fun c => c < n ∧ 0 < c ∧ (c - 1) / 2 = i ∧ ∀ x, 0 < x → x < n → (x - 1) / 2 = i → ¬ plt (pl m x) (pl m c)) (fun _ => Row b T cs :: WayN (some a) cap N m :: R) (fun c => [(0, hW b off), (1, .int .i64 0), (2, .int .i64 n), (7, .int .i64 i), (9, .int .i64 c)]) ?_ ?_)
    · intro Q2 jn
      refine VO.re 10 (.int .i64 ((2 * i + 2 : Nat) : Int)) rfl (by congr 1) ?_
      refine VO.re 9 (.int .i64 ((2 * i + 1 : Nat) : Int)) rfl (by congr 1) ?_
      refine VO.re 8 (.int .i64 ((2 * i + 1 : Nat) : Int)) rfl (by congr 1) ?_
      ((first | refine VO.split rfl rfl rfl ?_ ?_ | refine VD.split rfl rfl rfl ?_ ?_) <;> intro hb)
      · have hlt2 : 2 * i + 2 < n := by have := of_decide_eq_true hb; omega
        (refine w ?_; repeat ((first | refine VO.step rfl rfl ?_ | refine VD.end rfl rfl rfl ?_ | refine VD.mid rfl rfl rfl ?_); refine OpV.box rfl rfl rfl ?_; intro _; refine w ?_))
        (first | refine VO.step rfl rfl ?_ | refine VD.end rfl rfl rfl ?_ | refine VD.mid rfl rfl rfl ?_)
        refine OpV.invoke rfl rfl (fun w hw => meth_less (hw.cell (.head _) hoff)) (lessN hml (.tail _ (.head _)) (i := 2 * i + 2) (j := 2 * i + 1) (by omega) (by omega)) Ent.refl rfl ?_
        intro _ _
        (refine w ?_; repeat ((first | refine VO.step rfl rfl ?_ | refine VD.end rfl rfl rfl ?_ | refine VD.mid rfl rfl rfl ?_); refine OpV.box rfl rfl rfl ?_; intro _; refine w ?_))
        (refine VC.cond rfl rfl ?_ ?_ <;> intro hc)
        · have hls : plt (pl m (2 * i + 2)) (pl m (2 * i + 1)) := by simpa using hc
          (refine w ?_; repeat ((first | refine VO.step rfl rfl ?_ | refine VD.end rfl rfl rfl ?_ | refine VD.mid rfl rfl rfl ?_); refine OpV.box rfl rfl rfl ?_; intro _; refine w ?_))
          have hq : ∀ x, 0 < x → x < n → (x - 1) / 2 = i → ¬ plt (pl m x) (pl m (2 * i + 2)) := fun x h0 hx hk => by
            obtain rfl | rfl : x = 2 * i + 1 ∨ x = 2 * i + 2 := by omega
            · exact plt_asymm hls
            · exact plt_irrefl _
          (refine jn.to (2 * i + 2) ⟨by omega, by omega, by omega, hq⟩ ⟨rfl, rfl, rfl, rfl, rfl, trivial⟩ ?_; (try dsimp only); exact Ent.re)
        · have hls : ¬ plt (pl m (2 * i + 2)) (pl m (2 * i + 1)) := by simpa using hc
          (refine w ?_; repeat ((first | refine VO.step rfl rfl ?_ | refine VD.end rfl rfl rfl ?_ | refine VD.mid rfl rfl rfl ?_); refine OpV.box rfl rfl rfl ?_; intro _; refine w ?_))
          have hq : ∀ x, 0 < x → x < n → (x - 1) / 2 = i → ¬ plt (pl m x) (pl m (2 * i + 1)) := fun x h0 hx hk => by
            obtain rfl | rfl : x = 2 * i + 1 ∨ x = 2 * i + 2 := by omega
            · exact plt_irrefl _
            · exact hls
          (refine jn.to (2 * i + 1) ⟨by omega, by omega, by omega, hq⟩ ⟨rfl, rfl, rfl, rfl, rfl, trivial⟩ ?_; (try dsimp only); exact Ent.re)
      · have hge2 : n ≤ 2 * i + 2 := by have := of_decide_eq_false hb; omega
        (refine w ?_; repeat ((first | refine VO.step rfl rfl ?_ | refine VD.end rfl rfl rfl ?_ | refine VD.mid rfl rfl rfl ?_); refine OpV.box rfl rfl rfl ?_; intro _; refine w ?_))
        have hq : ∀ x, 0 < x → x < n → (x - 1) / 2 = i → ¬ plt (pl m x) (pl m (2 * i + 1)) := fun x h0 hx hk => by
          obtain rfl : x = 2 * i + 1 := by omega
          exact plt_irrefl _
        (refine jn.to (2 * i + 1) ⟨by omega, by omega, by omega, hq⟩ ⟨rfl, rfl, rfl, rfl, rfl, trivial⟩ ?_; (try dsimp only); exact Ent.re)
    · rintro c ⟨hc1, hc2, hc3, hc4⟩
      (refine w ?_; repeat ((first | refine VO.step rfl rfl ?_ | refine VD.end rfl rfl rfl ?_ | refine VD.mid rfl rfl rfl ?_); refine OpV.box rfl rfl rfl ?_; intro _; refine w ?_))
      (first | refine VO.step rfl rfl ?_ | refine VD.end rfl rfl rfl ?_ | refine VD.mid rfl rfl rfl ?_)
      refine OpV.invoke rfl rfl (fun w hw => meth_less (hw.cell (.head _) hoff)) (lessN hml (.tail _ (.head _)) (i := c) (j := i) (by omega) (by omega)) Ent.refl rfl ?_
      intro _ _
      (refine w ?_; repeat ((first | refine VO.step rfl rfl ?_ | refine VD.end rfl rfl rfl ?_ | refine VD.mid rfl rfl rfl ?_); refine OpV.box rfl rfl rfl ?_; intro _; refine w ?_))
      (refine VC.cond rfl rfl ?_ ?_ <;> intro hc)
      · have hls : ¬ plt (pl m c) (pl m i) := by simpa using hc
        (refine w ?_; repeat ((first | refine VO.step rfl rfl ?_ | refine VD.end rfl rfl rfl ?_ | refine VD.mid rfl rfl rfl ?_); refine OpV.box rfl rfl rfl ?_; intro _; refine w ?_))
        refine VE.done (m, decide ((0 : Int) < i)) rfl ⟨hp, hd.done (fun x h0 hx hk => nplt_trans hls (hc4 x h0 hx hk)), hk⟩ rfl Ent.refl
      · have hls : plt (pl m c) (pl m i) := by simpa using hc
        (refine w ?_; repeat ((first | refine VO.step rfl rfl ?_ | refine VD.end rfl rfl rfl ?_ | refine VD.mid rfl rfl rfl ?_); refine OpV.box rfl rfl rfl ?_; intro _; refine w ?_))
        (first | refine VO.step rfl rfl ?_ | refine VD.end rfl rfl rfl ?_ | refine VD.mid rfl rfl rfl ?_)
        refine OpV.invoke rfl rfl (fun w hw => meth_swap (hw.cell (.head _) hoff)) (swapN hml (i := i) (j := c) (by omega) (by omega)) Ent.re rfl ?_
        intro _ _
        (refine w ?_; repeat ((first | refine VO.step rfl rfl ?_ | refine VD.end rfl rfl rfl ?_ | refine VD.mid rfl rfl rfl ?_); refine OpV.box rfl rfl rfl ?_; intro _; refine w ?_))
        refine VE.round (swp m i c, c) ⟨(swp_perm (by omega) (by omega)).trans hp, hd.step hc1 hc2 hc3 hc4 hls, fun x hx => ?_, .inr hc1⟩ (by dsimp only; omega) ⟨rfl, rfl, rfl, rfl, trivial⟩ Ent.re
        rw [pl_swp (by omega) (by omega), if_neg (by omega), if_neg (by omega)]
        exact hk x hx
end Go.Proofs.Ytpmmkmcbimnigaa

/-! Text Ye. -/
/- package heap over lift's way: Push, Pop. -/
set_option maxRecDepth 8000
set_option linter.unusedVariables false
set_option linter.unusedSimpArgs false
set_option linter.unusedSectionVars false
namespace Go.Proofs.Ytpmmkmcbimnigaa
open Go.RowKit Go.Sl
attribute [local irreducible] Sl.Own

theorem plc_one (p : Pl) : ∀ u ∈ [Value.int .i64 p.1, Value.int .i64 p.2], u.oneCell' = true := fun u hu => by
  simp only [List.mem_cons, List.not_mem_nil, or_false] at hu
  rcases hu with rfl | rfl <;> rfl
theorem plc_cells (p : Pl) : wayV [p] = [.int .i64 p.1, .int .i64 p.2] := by unfold wayV; rw [List.flatMap_cons, List.flatMap_nil, List.append_nil]
set_option maxHeartbeats 2000000 in
theorem waypush_ok {W : World} {R : List SProp} {b off T cap n : Nat} {cs : List Value} {ao : Option Addr} {l : List Pl} {p : Pl} (hoff : cs[off]? = some (.slice ao n cap)) (hl : l.length = n) (hn : n ≤ 1000000) :
    Does W Try.prog 149 [ptrW b off, plcI p] (Row b T cs :: WayN ao cap n l :: R) (β := Addr × Nat) (fun _ => True) (fun _ => .tuple #[]) (fun y => Row b T (cs.set off (.slice (some y.1) (n + 1) y.2)) :: WayN (some y.1) y.2 (n + 1) (l ++ [p]) :: R) := by
  have hlt : off < cs.length := (List.getElem?_eq_some_iff.1 hoff).1
  (refine Does.enter Try.func149 Try.ntmps149 rfl rfl ?_)
  (refine w ?_; repeat ((first | refine VO.step rfl rfl ?_ | refine VD.end rfl rfl rfl ?_ | refine VD.mid rfl rfl rfl ?_); refine OpV.box rfl rfl rfl ?_; intro _; refine w ?_))
  (refine VC.drawn [6, 7] 8 [0, 1, 2, 3, 4, 5, 6, 7, 8, 9] (Row b T cs :: R) rfl (by kernel_rfl) (by kernel_rfl) Ent.re ?_)
  (refine w ?_; repeat ((first | refine VO.step rfl rfl ?_ | refine VD.end rfl rfl rfl ?_ | refine VD.mid rfl rfl rfl ?_); refine OpV.box rfl rfl rfl ?_; intro _; refine w ?_))
  (first | refine VO.pure rfl rfl (PureAt.ld tab_ok rfl rfl (.head _) hoff) rfl ?_ | refine VD.take rfl rfl rfl (PureAt.ld tab_ok rfl rfl (.head _) hoff) rfl ?_ | refine VQ.pure rfl rfl (PureAt.ld tab_ok rfl rfl (.head _) hoff) rfl ?_ | refine VD.end rfl rfl rfl (OpV.pure (PureAt.ld tab_ok rfl rfl (.head _) hoff) rfl ?_))
  (refine w ?_; repeat ((first | refine VO.step rfl rfl ?_ | refine VD.end rfl rfl rfl ?_ | refine VD.mid rfl rfl rfl ?_); refine OpV.box rfl rfl rfl ?_; intro _; refine w ?_))
  obtain ⟨fs, hfs⟩ : ∃ fs, Try.prog.underlying 92 = some (.struct fs) := ⟨_, rfl⟩
  (first | refine VO.pure rfl rfl (PureAt.assertIface hfs (fun ms h => by cases h) rfl) rfl ?_ | refine VD.take rfl rfl rfl (PureAt.assertIface hfs (fun ms h => by cases h) rfl) rfl ?_ | refine VQ.pure rfl rfl (PureAt.assertIface hfs (fun ms h => by cases h) rfl) rfl ?_ | refine VD.end rfl rfl rfl (OpV.pure (PureAt.assertIface hfs (fun ms h => by cases h) rfl) rfl ?_))
  (first | refine VO.step rfl rfl ?_ | refine VD.end rfl rfl rfl ?_ | refine VD.mid rfl rfl rfl ?_)
  refine OpV.buildSlice (cs := [.int .i64 p.1, .int .i64 p.2]) st_88 rfl rfl (by simp [Value.cells]) (by simp [Value.cells]) (by decide) rfl ?_
  intro nc
  refine ⟨Ent.re, ?_⟩
  (first | refine VO.step rfl rfl ?_ | refine VD.end rfl rfl rfl ?_ | refine VD.mid rfl rfl rfl ?_)
  refine OpV.appendRow st_88 rfl rfl (by (repeat first | exact .head | apply Hole.tail)) (by (focus repeat first | exact .head _ | apply List.Mem.tail)) rfl (plc_one p) (by simp only [maxLen]; omega) (by omega) rfl ?_
  intro so sc
  refine ⟨Ent.re, ?_⟩
  (refine w ?_; repeat ((first | refine VO.step rfl rfl ?_ | refine VD.end rfl rfl rfl ?_ | refine VD.mid rfl rfl rfl ?_); refine OpV.box rfl rfl rfl ?_; intro _; refine w ?_))
  refine VD.know (p := so = none → n + 1 = 0) (fun w hw => Holds.ownNone hw (by (focus repeat first | exact .head _ | apply List.Mem.tail))) ?_
  intro hnn
  obtain ⟨sa, rfl⟩ : ∃ x, so = some x := by cases so with | none => have := hnn rfl; omega | some x => exact ⟨x, rfl⟩
  (first | refine VO.step rfl rfl ?_ | refine VD.end rfl rfl rfl ?_ | refine VD.mid rfl rfl rfl ?_)
  refine OpV.st tab_ok rfl rfl rfl rfl (by (repeat first | exact .head | apply Hole.tail)) hlt ?_
  (refine w ?_; repeat ((first | refine VO.step rfl rfl ?_ | refine VD.end rfl rfl rfl ?_ | refine VD.mid rfl rfl rfl ?_); refine OpV.box rfl rfl rfl ?_; intro _; refine w ?_))
  refine VE.doneN (sa, sc) rfl trivial rfl ?_
  dsimp only
  unfold WayN
  rw [wayV_append, plc_cells]
  exact Ent.re
set_option maxHeartbeats 2000000 in
/-- Pop of the way: the last one goes, and the slice is shorter by it. -/
theorem waypop_ok {W : World} {R : List SProp} {b off T cap n : Nat} {cs : List Value} {a : Addr} {l : List Pl} {p : Pl} (hoff : cs[off]? = some (.slice (some a) (n + 1) cap)) (hl : l.length = n + 1) (hn : n ≤ 1000000) :
    Does1 W Try.prog 148 [ptrW b off] (Row b T cs :: WayN (some a) cap (n + 1) l :: R) (plcI (pl l n)) (Row b T (cs.set off (.slice (some a) n cap)) :: WayN (some a) cap n (l.take n) :: R) := by
  have hlt : off < cs.length := (List.getElem?_eq_some_iff.1 hoff).1
  (refine Does.enter Try.func148 Try.ntmps148 rfl rfl ?_)
  refine VC.know (p := n + 1 ≤ cap) (fun w hw => Holds.ownCap hw (.tail _ (.head _))) ?_
  intro hcc
  (refine w ?_; repeat ((first | refine VO.step rfl rfl ?_ | refine VD.end rfl rfl rfl ?_ | refine VD.mid rfl rfl rfl ?_); refine OpV.box rfl rfl rfl ?_; intro _; refine w ?_))
  (refine VC.drawn [10] 11 [0, 1, 2, 3, 4, 5, 6, 7, 8, 9, 10, 11] _ rfl (by kernel_rfl) (by kernel_rfl) Ent.re ?_)
  (refine w ?_; repeat ((first | refine VO.step rfl rfl ?_ | refine VD.end rfl rfl rfl ?_ | refine VD.mid rfl rfl rfl ?_); refine OpV.box rfl rfl rfl ?_; intro _; refine w ?_))
  have hr : Rds W (Row b T cs :: WayN (some a) cap (n + 1) l :: R) 2 (some a) (n + 1) (wayV l) := Rds.own (wayV_one l) (.tail _ (.head _)) (by rw [wayV_len, hl]) (fun h => by cases h)
  (first | refine VO.pure rfl rfl (PureAt.ld tab_ok rfl rfl (.head _) hoff) rfl ?_ | refine VD.take rfl rfl rfl (PureAt.ld tab_ok rfl rfl (.head _) hoff) rfl ?_ | refine VQ.pure rfl rfl (PureAt.ld tab_ok rfl rfl (.head _) hoff) rfl ?_ | refine VD.end rfl rfl rfl (OpV.pure (PureAt.ld tab_ok rfl rfl (.head _) hoff) rfl ?_))
  (refine w ?_; repeat ((first | refine VO.step rfl rfl ?_ | refine VD.end rfl rfl rfl ?_ | refine VD.mid rfl rfl rfl ?_); refine OpV.box rfl rfl rfl ?_; intro _; refine w ?_))
  (first | refine VO.pure rfl rfl (PureAt.ld tab_ok rfl rfl (.head _) hoff) rfl ?_ | refine VD.take rfl rfl rfl (PureAt.ld tab_ok rfl rfl (.head _) hoff) rfl ?_ | refine VQ.pure rfl rfl (PureAt.ld tab_ok rfl rfl (.head _) hoff) rfl ?_ | refine VD.end rfl rfl rfl (OpV.pure (PureAt.ld tab_ok rfl rfl (.head _) hoff) rfl ?_))
  (refine w ?_; repeat ((first | refine VO.step rfl rfl ?_ | refine VD.end rfl rfl rfl ?_ | refine VD.mid rfl rfl rfl ?_); refine OpV.box rfl rfl rfl ?_; intro _; refine w ?_))
  refine VD.re 11 (.int .i64 (n : Int)) rfl (by congr 1; omega) ?_
  (refine w ?_; repeat ((first | refine VO.step rfl rfl ?_ | refine VD.end rfl rfl rfl ?_ | refine VD.mid rfl rfl rfl ?_); refine OpV.box rfl rfl rfl ?_; intro _; refine w ?_))
  (first | refine VO.pure rfl rfl (PureAt.ldRA tab_ok rfl rfl hr (wayV_two (by omega)) rfl) rfl ?_ | refine VD.take rfl rfl rfl (PureAt.ldRA tab_ok rfl rfl hr (wayV_two (by omega)) rfl) rfl ?_ | refine VQ.pure rfl rfl (PureAt.ldRA tab_ok rfl rfl hr (wayV_two (by omega)) rfl) rfl ?_ | refine VD.end rfl rfl rfl (OpV.pure (PureAt.ldRA tab_ok rfl rfl hr (wayV_two (by omega)) rfl) rfl ?_))
  (refine w ?_; repeat ((first | refine VO.step rfl rfl ?_ | refine VD.end rfl rfl rfl ?_ | refine VD.mid rfl rfl rfl ?_); refine OpV.box rfl rfl rfl ?_; intro _; refine w ?_))
  (first | refine VO.step rfl rfl ?_ | refine VD.end rfl rfl rfl ?_ | refine VD.mid rfl rfl rfl ?_)
  refine OpV.allocS sb_92 rfl ?_
  intro na
  refine ⟨Ent.re, ?_⟩
  (first | refine VO.step rfl rfl ?_ | refine VD.end rfl rfl rfl ?_ | refine VD.mid rfl rfl rfl ?_)
  refine OpV.stA (vs := [.int .i64 (pl l n).1, .int .i64 (pl l n).2]) tab_ok rfl rfl rfl rfl (plc_one _) (by (repeat first | exact .head | apply Hole.tail)) (by simp) ?_
  (refine w ?_; repeat ((first | refine VO.step rfl rfl ?_ | refine VD.end rfl rfl rfl ?_ | refine VD.mid rfl rfl rfl ?_); refine OpV.box rfl rfl rfl ?_; intro _; refine w ?_))
  refine VC.drawn [] 10 [0, 1, 2, 3, 4, 5, 6, 7, 8, 9, 10, 11] (Row b T cs :: R) rfl (by kernel_rfl) (by kernel_rfl) Ent.re ?_
  (refine w ?_; repeat ((first | refine VO.step rfl rfl ?_ | refine VD.end rfl rfl rfl ?_ | refine VD.mid rfl rfl rfl ?_); refine OpV.box rfl rfl rfl ?_; intro _; refine w ?_))
  (first | refine VO.pure rfl rfl (PureAt.ld tab_ok rfl rfl (.head _) hoff) rfl ?_ | refine VD.take rfl rfl rfl (PureAt.ld tab_ok rfl rfl (.head _) hoff) rfl ?_ | refine VQ.pure rfl rfl (PureAt.ld tab_ok rfl rfl (.head _) hoff) rfl ?_ | refine VD.end rfl rfl rfl (OpV.pure (PureAt.ld tab_ok rfl rfl (.head _) hoff) rfl ?_))
  (refine w ?_; repeat ((first | refine VO.step rfl rfl ?_ | refine VD.end rfl rfl rfl ?_ | refine VD.mid rfl rfl rfl ?_); refine OpV.box rfl rfl rfl ?_; intro _; refine w ?_))
  (first | refine VO.pure rfl rfl (PureAt.ld tab_ok rfl rfl (.head _) hoff) rfl ?_ | refine VD.take rfl rfl rfl (PureAt.ld tab_ok rfl rfl (.head _) hoff) rfl ?_ | refine VQ.pure rfl rfl (PureAt.ld tab_ok rfl rfl (.head _) hoff) rfl ?_ | refine VD.end rfl rfl rfl (OpV.pure (PureAt.ld tab_ok rfl rfl (.head _) hoff) rfl ?_))
  (refine w ?_; repeat ((first | refine VO.step rfl rfl ?_ | refine VD.end rfl rfl rfl ?_ | refine VD.mid rfl rfl rfl ?_); refine OpV.box rfl rfl rfl ?_; intro _; refine w ?_))
  refine VD.re 22 (.int .i64 (n : Int)) rfl (by congr 1; omega) ?_
  (refine w ?_; repeat ((first | refine VO.step rfl rfl ?_ | refine VD.end rfl rfl rfl ?_ | refine VD.mid rfl rfl rfl ?_); refine OpV.box rfl rfl rfl ?_; intro _; refine w ?_))
  (first | refine VO.step rfl rfl ?_ | refine VD.end rfl rfl rfl ?_ | refine VD.mid rfl rfl rfl ?_)
  refine OpV.st tab_ok rfl rfl rfl rfl (by (repeat first | exact .head | apply Hole.tail)) hlt ?_
  obtain ⟨fs, hfs⟩ : ∃ fs, Try.prog.underlying 92 = some (.struct fs) := ⟨_, rfl⟩
  (refine w ?_; repeat ((first | refine VO.step rfl rfl ?_ | refine VD.end rfl rfl rfl ?_ | refine VD.mid rfl rfl rfl ?_); refine OpV.box rfl rfl rfl ?_; intro _; refine w ?_))
  (first | refine VO.pure rfl rfl (PureAt.makeIface hfs (fun ms h => by cases h) rfl) rfl ?_ | refine VD.take rfl rfl rfl (PureAt.makeIface hfs (fun ms h => by cases h) rfl) rfl ?_ | refine VQ.pure rfl rfl (PureAt.makeIface hfs (fun ms h => by cases h) rfl) rfl ?_ | refine VD.end rfl rfl rfl (OpV.pure (PureAt.makeIface hfs (fun ms h => by cases h) rfl) rfl ?_))
  (refine w ?_; repeat ((first | refine VO.step rfl rfl ?_ | refine VD.end rfl rfl rfl ?_ | refine VD.mid rfl rfl rfl ?_); refine OpV.box rfl rfl rfl ?_; intro _; refine w ?_))
  (refine VE.done1 rfl ?_ ?_)
  · rfl
  · refine Ent.trans (Ent.re (L := WayN (some a) cap (n + 1) l :: Row b T (cs.set off (.slice (some a) n cap)) :: R)) fun w hw => ?_
    have := hw.ownShort (k := n) (by omega)
    rw [wayV_take] at this
    exact (hw.ownShort (k := n) (by omega) |> fun h => by rw [wayV_take] at h; exact h.swap)
set_option maxHeartbeats 2000000 in
/-- heap.Push of the way: one more, in its place. -/
theorem heappush_ok {W : World} {R : List SProp} {b off T cap n : Nat} {cs : List Value} {ao : Option Addr} {l : List Pl} {p : Pl} (hoff : cs[off]? = some (.slice ao n cap)) (hl : l.length = n) (hn : n ≤ 900000) (hh : Heap l n) :
    Does W Try.prog 43 [hW b off, plcI p] (Row b T cs :: WayN ao cap n l :: R) (β := (Addr × Nat) × List Pl) (fun y => List.Perm y.2 (p :: l) ∧ Heap y.2 (n + 1)) (fun _ => .tuple #[])
      (fun y => Row b T (cs.set off (.slice (some y.1.1) (n + 1) y.1.2)) :: WayN (some y.1.1) y.1.2 (n + 1) y.2 :: R) := by
  have hlt : off < cs.length := (List.getElem?_eq_some_iff.1 hoff).1
  have hset : ∀ v : Value, (cs.set off v)[off]? = some v := fun v => by rw [List.getElem?_set_self hlt]
  (refine Does.enter Try.func43 Try.ntmps43 rfl rfl ?_)
  (refine w ?_; repeat ((first | refine VO.step rfl rfl ?_ | refine VD.end rfl rfl rfl ?_ | refine VD.mid rfl rfl rfl ?_); refine OpV.box rfl rfl rfl ?_; intro _; refine w ?_))
  (first | refine VO.step rfl rfl ?_ | refine VD.end rfl rfl rfl ?_ | refine VD.mid rfl rfl rfl ?_)
  refine OpV.invoke rfl rfl (fun w hw => meth_push) (waypush_ok (R := R) (p := p) hoff hl (by omega)) Ent.refl rfl ?_
  rintro ⟨a, c⟩ _
  dsimp only
  (refine w ?_; repeat ((first | refine VO.step rfl rfl ?_ | refine VD.end rfl rfl rfl ?_ | refine VD.mid rfl rfl rfl ?_); refine OpV.box rfl rfl rfl ?_; intro _; refine w ?_))
  (first | refine VO.step rfl rfl ?_ | refine VD.end rfl rfl rfl ?_ | refine VD.mid rfl rfl rfl ?_)
  refine OpV.invoke rfl rfl (fun w hw => meth_len (hw.cell (.head _) (hset _))) waylen_ok Ent.refl rfl ?_
  intro _ _
  (refine w ?_; repeat ((first | refine VO.step rfl rfl ?_ | refine VD.end rfl rfl rfl ?_ | refine VD.mid rfl rfl rfl ?_); refine OpV.box rfl rfl rfl ?_; intro _; refine w ?_))
  refine VO.re 10 (.int .i64 (n : Int)) rfl (by congr 1; omega) ?_
  (refine w ?_; repeat ((first | refine VO.step rfl rfl ?_ | refine VD.end rfl rfl rfl ?_ | refine VD.mid rfl rfl rfl ?_); refine OpV.box rfl rfl rfl ?_; intro _; refine w ?_))
  ((first | refine VO.step rfl rfl ?_ | refine VD.end rfl rfl rfl ?_ | refine VD.mid rfl rfl rfl ?_); refine OpV.call rfl rfl (fun _ _ => by simp) (wayup_ok (R := R) (hset _) (l := l ++ [p]) (n := n + 1) (j := n) (by rw [List.length_append, hl]; rfl) (by have := UpInv.start (l := l) (by rw [hl]; exact hh) p; rwa [hl] at this) (by omega)) Ent.refl rfl ?_)
  rintro l2 ⟨h1, h2⟩
  (refine w ?_; repeat ((first | refine VO.step rfl rfl ?_ | refine VD.end rfl rfl rfl ?_ | refine VD.mid rfl rfl rfl ?_); refine OpV.box rfl rfl rfl ?_; intro _; refine w ?_))
  refine VE.doneN ((a, c), l2) rfl ⟨h1.trans (List.perm_append_comm (l₂ := [p])), h2⟩ rfl Ent.refl
set_option maxHeartbeats 2000000 in
/-- heap.Pop of the way: the least goes. -/
theorem heappop_ok {W : World} {R : List SProp} {b off T cap n : Nat} {cs : List Value} {a : Addr} {l : List Pl} (hoff : cs[off]? = some (.slice (some a) (n + 1) cap)) (hl : l.length = n + 1) (hn : n ≤ 900000) (hh : Heap l (n + 1)) :
    Does W Try.prog 38 [hW b off] (Row b T cs :: WayN (some a) cap (n + 1) l :: R) (β := List Pl) (fun l' => List.Perm (pl l 0 :: l') l ∧ Heap l' n ∧ l'.length = n) (fun _ => plcI (pl l 0))
      (fun l' => Row b T (cs.set off (.slice (some a) n cap)) :: WayN (some a) cap n l' :: R) := by
  (refine Does.enter Try.func38 Try.ntmps38 rfl rfl ?_)
  (refine w ?_; repeat ((first | refine VO.step rfl rfl ?_ | refine VD.end rfl rfl rfl ?_ | refine VD.mid rfl rfl rfl ?_); refine OpV.box rfl rfl rfl ?_; intro _; refine w ?_))
  (first | refine VO.step rfl rfl ?_ | refine VD.end rfl rfl rfl ?_ | refine VD.mid rfl rfl rfl ?_)
  refine OpV.invoke rfl rfl (fun w hw => meth_len (hw.cell (.head _) hoff)) waylen_ok Ent.refl rfl ?_
  intro _ _
  (refine w ?_; repeat ((first | refine VO.step rfl rfl ?_ | refine VD.end rfl rfl rfl ?_ | refine VD.mid rfl rfl rfl ?_); refine OpV.box rfl rfl rfl ?_; intro _; refine w ?_))
  refine VO.re 3 (.int .i64 (n : Int)) rfl (by congr 1; omega) ?_
  refine VO.re 8 (.int .i64 (n : Int)) rfl (by congr 1; omega) ?_
  (first | refine VO.step rfl rfl ?_ | refine VD.end rfl rfl rfl ?_ | refine VD.mid rfl rfl rfl ?_)
  refine OpV.invoke rfl rfl (fun w hw => meth_swap (hw.cell (.head _) hoff)) (swapN (R := Row b T cs :: R) hl (i := 0) (j := n) (by omega) (by omega)) Ent.re rfl ?_
  intro _ _
  (refine w ?_; repeat ((first | refine VO.step rfl rfl ?_ | refine VD.end rfl rfl rfl ?_ | refine VD.mid rfl rfl rfl ?_); refine OpV.box rfl rfl rfl ?_; intro _; refine w ?_))
  ((first | refine VO.step rfl rfl ?_ | refine VD.end rfl rfl rfl ?_ | refine VD.mid rfl rfl rfl ?_); refine OpV.call rfl rfl (fun _ _ => by simp) (waydown_ok (R := R) (T := T) (cs := cs) hoff (l := swp l 0 n) (n := n) (by rw [swp_length]; exact hl) (DownInv.start hh (by omega)) (by omega)) Ent.re rfl ?_)
  rintro ⟨l2, bb⟩ ⟨h1, h2, h3⟩
  dsimp only at h1 h2 h3 ⊢
  have hl2 : l2.length = n + 1 := by rw [h1.length_eq, swp_length]; exact hl
  have hlast : pl l2 n = pl l 0 := by rw [h3 n (Nat.le_refl _), pl_swp (by omega) (by omega), if_pos rfl]
  have hsp : l2 = l2.take n ++ [pl l 0] := by
    rw [← hlast, pl_at (by omega)]
    exact (by rw [List.take_append_getElem, ← hl2, List.take_length])
  (refine w ?_; repeat ((first | refine VO.step rfl rfl ?_ | refine VD.end rfl rfl rfl ?_ | refine VD.mid rfl rfl rfl ?_); refine OpV.box rfl rfl rfl ?_; intro _; refine w ?_))
  (first | refine VO.step rfl rfl ?_ | refine VD.end rfl rfl rfl ?_ | refine VD.mid rfl rfl rfl ?_)
  refine OpV.invoke rfl rfl (fun w hw => meth_pop) (waypop_ok (R := R) (p := (0, 0)) hoff hl2 (by omega)) Ent.re rfl ?_
  intro _ _
  rw [hlast]
  (refine w ?_; repeat ((first | refine VO.step rfl rfl ?_ | refine VD.end rfl rfl rfl ?_ | refine VD.mid rfl rfl rfl ?_); refine OpV.box rfl rfl rfl ?_; intro _; refine w ?_))
  refine VE.done (l2.take n) rfl ⟨?_, ?_, ?_⟩ rfl Ent.refl
  · have := (List.perm_append_comm (l₁ := [pl l 0]) (l₂ := l2.take n))
    rw [← hsp] at this
    exact this.trans (h1.trans (swp_perm (by omega) (by omega)))
  · have := h2.take (by omega)
    rwa [List.length_take, Nat.min_eq_left (by omega)] at this
  · rw [List.length_take]; omega
end Go.Proofs.Ytpmmkmcbimnigaa

/-! Text Nb. -/
/- Scan: digests, Sectors. -/
set_option maxRecDepth 8000
set_option linter.unusedVariables false
set_option linter.unusedSimpArgs false
set_option linter.unusedSectionVars false
namespace Go.Proofs.Ytpmmkmcbimnigaa
open Go.RowKit Go.Sl
attribute [local irreducible] Own

/-! ### Digests -/
/-! ### Sectors -/
abbrev PatE.D (p : PatE) : PatD := ⟨p.member, p.row, p.d.data⟩
structure PatE.fit (p : PatE) : Prop where
  member : -9223372036854775808 ≤ p.member ∧ p.member ≤ 9223372036854775807
  row : -9223372036854775808 ≤ p.row ∧ p.row ≤ 9223372036854775807
  len : p.d.data.length ≤ 140737488351232
end Go.Proofs.Ytpmmkmcbimnigaa

/-! Text Nc. -/
/- Scan: Sectors. -/
set_option maxRecDepth 8000
set_option linter.unusedVariables false
set_option linter.unusedSimpArgs false
set_option linter.unusedSectionVars false
namespace Go.Proofs.Ytpmmkmcbimnigaa
open Go.RowKit Go.Sl
attribute [local irreducible] Own

end Go.Proofs.Ytpmmkmcbimnigaa

/-! Text Nd. -/
/- Scan: the ring's size, its sectors from a place on: an iterator. -/
set_option maxRecDepth 8000
set_option linter.unusedVariables false
set_option linter.unusedSimpArgs false
set_option linter.unusedSectionVars false
namespace Go.Proofs.Ytpmmkmcbimnigaa
open Go.RowKit Go.Sl
attribute [local irreducible] Own

end Go.Proofs.Ytpmmkmcbimnigaa

/-! Text Ne. -/
/- Scan: one batch is read: a range over the ring's sectors. -/
set_option maxRecDepth 8000
set_option linter.unusedVariables false
set_option linter.unusedSimpArgs false
set_option linter.unusedSectionVars false
namespace Go.Proofs.Ytpmmkmcbimnigaa
open Go.RowKit Go.Sl
attribute [local irreducible] Own

/-! ### What the rounds keep -/
structure BSt where
  pats : List PatE
  x : Option Addr × Nat
  head : HdrD
  cnt : Int
def hdOk (sec : SecF) (e s : Nat) (n : Int) (j : Nat) : Prop :=
  (HdrD.dec (sec (2 * j))).1 = 0 ∧ (HdrD.dec (sec (2 * j))).2.epoch = e ∧ (HdrD.dec (sec (2 * j))).2.seq = s ∧ (HdrD.dec (sec (2 * j))).2.index = j ∧ (HdrD.dec (sec (2 * j))).2.count = n
structure BInv (sec : SecF) (room e s i : Nat) (st : BSt) : Prop where
  zero : i = 0 → st.cnt = 0
  pos : 0 < i → st.cnt = batN sec ∧ 1 ≤ batN sec ∧ batN sec ≤ 1023 ∧ (HdrD.dec (sec 0)).1 = 0 ∧ 2 * batN sec + 1 ≤ room ∧ (i : Int) ≤ 2 * batN sec
  each : ∀ j, 2 * j + 1 < i → stepOk sec e s (batN sec) j
  odd : ∀ j, i = 2 * j + 1 → hdOk sec e s (batN sec) j ∧ st.head = (HdrD.dec (sec (2 * j))).2
  pats : st.pats.map PatE.D = (List.range (i / 2)).map (patAt sec)
theorem BInv.start (sec : SecF) (room e s : Nat) (x : Option Addr × Nat) : BInv sec room e s 0 ⟨[], x, zeroH, 0⟩ :=
  ⟨fun _ => rfl, fun h => absurd h (by omega), fun j h => absurd h (by omega), fun j h => absurd h (by omega), rfl⟩
end Go.Proofs.Ytpmmkmcbimnigaa

/-! Text Nf. -/
/- Scan: one batch is read: the walk. -/
set_option maxRecDepth 8000
set_option linter.unusedVariables false
set_option linter.unusedSimpArgs false
set_option linter.unusedSectionVars false
namespace Go.Proofs.Ytpmmkmcbimnigaa
open Go.RowKit Go.Sl
attribute [local irreducible] Own

end Go.Proofs.Ytpmmkmcbimnigaa

/-! Text Ng. -/
/- Scan: what counts in a ring: the walk. -/
set_option maxRecDepth 8000
set_option linter.unusedVariables false
set_option linter.unusedSimpArgs false
set_option linter.unusedSectionVars false
namespace Go.Sl
open Go Go.RowKit
section
variable {W : World} {P : Program} {n : Nat} {c : Code} {Q : Exit → Act → World → Prop} {H H' L R : List SProp} {f F : Fr} {mv ord r : List Nat} {tl i x d e : Nat} {X : Nat → SProp} {vx : Nat → Value}
variable {dst : Option Tmp} {ty_ : TypeId} {pos : String} {after : Array Edge} {guard : Option (Nat × Bool)}
end
end Go.Sl
namespace Go.Proofs.Ytpmmkmcbimnigaa
open Go.RowKit Go.Sl
attribute [local irreducible] Own

abbrev TxnE.T (t : TxnE) : Nat × List PatD := (t.seq, t.pats.map PatE.D)
def badM (data : List UInt8) (c : ChkD) : Prop := c.enc.1 ≠ 0 ∨ data.length % 128 ≠ 0 ∨ data.length / 128 < 5 ∨ 2048 < data.length / 128 ∨ ((data.length / 128 : Nat) : Int) ≤ c.tail
instance (data : List UInt8) (c : ChkD) : Decidable (badM data c) := by unfold badM; exact inferInstance
end Go.Proofs.Ytpmmkmcbimnigaa

/-! Text Nh. -/
/- Scan: what the chapter's examples fix. -/
set_option maxRecDepth 8000
set_option linter.unusedVariables false
set_option linter.unusedSimpArgs false
set_option linter.unusedSectionVars false
namespace Go.Proofs.Ytpmmkmcbimnigaa
open Go.RowKit Go.Sl
attribute [local irreducible] Own

end Go.Proofs.Ytpmmkmcbimnigaa

/-! Text Ni. -/
/- Scan: what the chapter's examples fix: the walk. -/
set_option maxRecDepth 8000
set_option linter.unusedVariables false
set_option linter.unusedSimpArgs false
set_option linter.unusedSectionVars false
namespace Go.Proofs.Ytpmmkmcbimnigaa
open Go.RowKit Go.Sl
attribute [local irreducible] Own

end Go.Proofs.Ytpmmkmcbimnigaa

/-! Text Nj. -/
/- Scan: what was found is what stands in the ring: the walk. -/
set_option maxRecDepth 8000
set_option linter.unusedVariables false
set_option linter.unusedSimpArgs false
set_option linter.unusedSectionVars false
namespace Go.Proofs.Ytpmmkmcbimnigaa
open Go.RowKit Go.Sl
attribute [local irreducible] Own

end Go.Proofs.Ytpmmkmcbimnigaa

/-! Text Nk. -/
/- Scan: arguments. -/
namespace Go.Proofs.Ytpmmkmcbimnigaa
end Go.Proofs.Ytpmmkmcbimnigaa

/-! Text Nl. -/
/- Scan: what is laid in is found; one sector hurt; a later checkpoint; a forged batch: plainly. -/
set_option maxRecDepth 8000
set_option linter.unusedVariables false
set_option linter.unusedSimpArgs false
set_option linter.unusedSectionVars false
namespace Go.Proofs.Ytpmmkmcbimnigaa
open Go.RowKit Go.Sl
attribute [local irreducible] Own

/-- A batch's sectors are the ring's own from a place on. -/
structure Lays (sec : SecF) (n e s at_ : Nat) (ls : List (List PatD)) : Prop where
  fine : FineL e s ls
  cost : costL ls ≤ n
  sec : ∀ j, j < costL ls → (flatR e s ls)[j]? = some (sec ((at_ + j) % n))

theorem FineL.rows {e s : Nat} {ls : List (List PatD)} (h : FineL e s ls) : ∀ r ∈ flatR e s ls, r.length = 128 := by
  induction ls generalizing s with
  | nil => intro r hr; cases hr
  | cons l ls ih =>
    intro r hr
    rw [flatR, List.mem_append] at hr
    rcases hr with hr | hr
    · exact rowsP_128 (h 0 (by simp)) r hr
    · refine ih (fun k hk => ?_) r hr
      have := h (k + 1) (by simpa using hk)
      rw [show s + (k + 1) = s + 1 + k by omega] at this
      simpa using this

variable {sec was : SecF} {n e s at_ : Nat} {ls : List (List PatD)}
theorem Lays.found (h : Lays sec n e s at_ ls) {k : Nat} (hk : k < ls.length) : s + k ≤ mostC ∧ batM (rotF sec n (at_ + costL (ls.take k))) (n - (0 + costL (ls.take k))) e (s + k) = some ls[k] :=
  laid_found h.fine h.cost h.sec k hk

/-- What is laid in is found ahead of all. -/
theorem Lays.all (h : Lays sec n e s at_ ls) : (ofM sec n e (n + 1) s 0 at_).take ls.length = numb s ls := by
  rw [of_laid h.fine h.cost h.sec (by have := costL_len ls; have := h.cost; omega), List.take_left' (numb_length ls s)]

/-- Of another epoch nothing is. -/
theorem Lays.other (h : Lays sec n e s at_ ls) (hl : ls ≠ []) (e' : Nat) (he : e' ≠ e) (hat : at_ < n) : ofM sec n e' (n + 1) s 0 at_ = [] := by
  have h0 : 0 < ls.length := List.length_pos_iff.2 hl
  have := (h.found h0).2
  rw [List.take_zero, show costL [] = 0 from rfl, Nat.add_zero, Nat.add_zero] at this
  exact of_none (bat_other this (.inl he))

theorem bat_congr {sec was : SecF} {room room' e s : Nat} {l : List PatD} (h : batM sec room e s = some l) (hr : 2 * l.length + 1 ≤ room') (hw : ∀ j, j < 2 * l.length + 1 → was j = sec j) : batM was room' e s = some l := by
  obtain ⟨a, b, c⟩ := (bat_iff _ _ _ _ _).1 h
  exact (bat_iff _ _ _ _ _).2 ⟨a, hr, fun j hj => by rw [c j hj, hw j hj]⟩

/-- One sector hurt: just the batches ahead of it are found. -/
theorem Lays.hurt (h : Lays sec n e s at_ ls) {bad m : Nat} {z : List UInt8} (hm : m < ls.length) (h1 : costL (ls.take m) ≤ bad) (h2 : bad < costL (ls.take m) + (2 * (ls[m]'hm).length + 1)) (hz : z.take 4 ≠ magicL)
    (hw : ∀ j, was j = if j = (at_ + bad) % n then z else sec j) (hu : (crcS (sec ((at_ + bad) % n))).toNat ≠ (crcS z).toNat) : ofM was n e (n + 1) s 0 at_ = numb s (ls.take m) := by
  have hall := costL_take_le ls m hm
  have hcost := h.cost
  have hlen : (ls.take m).length = m := by rw [List.length_take]; omega
  have hlenc := costL_len ls
  have hmono : ∀ k, k < m → costL (ls.take k) + (2 * (ls[k]?.getD []).length + 1) ≤ costL (ls.take m) := by
    intro k hk
    have h3 := costL_take_le (ls.take m) k (by omega)
    rw [List.take_take, show min k m = k by omega] at h3
    rw [List.getElem?_eq_getElem (by omega), Option.getD_some]
    simpa using h3
  have hsec : ∀ (k j : Nat), k ≤ m → costL (ls.take k) + j < n → costL (ls.take k) + j ≠ bad → rotF was n (at_ + costL (ls.take k)) j = rotF sec n (at_ + costL (ls.take k)) j := by
    intro k j hk hj hne
    unfold rotF
    rw [hw, if_neg]
    intro q
    rw [Nat.add_assoc] at q
    exact hne (mod_inj hj (by omega) q)
  have hpre : ∀ (k : Nat) (hk : k < (ls.take m).length), s + k ≤ mostC ∧ batM (rotF was n (at_ + costL ((ls.take m).take k))) (n - (0 + costL ((ls.take m).take k))) e (s + k) = some (ls.take m)[k] := by
    intro k hk
    rw [hlen] at hk
    have hf := h.found (k := k) (by omega)
    have hb := bat_room hf.2
    have hk2 := hmono k hk
    rw [List.getElem?_eq_getElem (by omega), Option.getD_some] at hk2
    rw [List.take_take, show min k m = k by omega, List.getElem_take]
    refine ⟨hf.1, bat_congr hf.2 hb.1 fun j hj => hsec k j (by omega) (by omega) (by omega)⟩
  rw [of_prefix (ls.take m) (n + 1) s 0 at_ hpre (by omega), hlen]
  have hlast : ofM was n e (n + 1 - m) (s + m) (0 + costL (ls.take m)) (if ls.take m = [] then at_ else (at_ + costL (ls.take m)) % n) = [] := by
    refine of_none ?_
    have e1 : rotF was n (if ls.take m = [] then at_ else (at_ + costL (ls.take m)) % n) = rotF was n (at_ + costL (ls.take m)) := by
      split
      · rename_i q; rw [q]; rfl
      · exact rotF_mod ..
    rw [e1]
    refine hurt_none (j := bad - costL (ls.take m)) (z := z) (h.found hm).2 (by omega) hz ?_ ?_ ?_
    · unfold rotF; rw [hw, if_pos]; congr 1; omega
    · intro i hi hne
      exact hsec m i (Nat.le_refl _) (by omega) (by omega)
    · unfold rotF; rw [show at_ + costL (ls.take m) + (bad - costL (ls.take m)) = at_ + bad by omega]; exact hu
  rw [hlast, List.append_nil]

/-- A checkpoint that has gone on to a later batch. -/
theorem Lays.drop (h : Lays sec n e s at_ ls) (i : Nat) : Lays sec n e (s + i) ((at_ + costL (ls.take i)) % n) (ls.drop i) := by
  have hsum : costL (ls.take i) + costL (ls.drop i) = costL ls := by rw [← costL_append, List.take_append_drop]
  refine ⟨fun k hk => ?_, by have := h.cost; omega, fun j hj => ?_⟩
  · have := h.fine (i + k) (by rw [List.length_drop] at hk; omega)
    rw [List.getElem_drop, show s + i + k = s + (i + k) by omega]
    exact this
  · have h1 := h.sec (costL (ls.take i) + j) (by omega)
    rw [Nat.mod_add_mod, Nat.add_assoc]
    rw [← h1]
    have h2 := flatR_append e (ls.take i) (ls.drop i) s
    rw [List.take_append_drop] at h2
    by_cases hi : i ≤ ls.length
    · rw [List.length_take, Nat.min_eq_left hi] at h2
      rw [h2, List.getElem?_append_right (by rw [flatR_length]; omega), flatR_length]
      congr 1; omega
    · rw [List.drop_eq_nil_of_le (by omega)] at hj; exact absurd hj (by simp [costL])

/-- Just those are found, where noughts stand behind them. -/
theorem Lays.just (h : Lays sec n e s at_ ls) (hz : ∀ j, costL ls ≤ j → j < n → (sec ((at_ + j) % n)).take 4 ≠ magicL) (hat : at_ < n) {i : Nat} (hi : i < ls.length) :
    ofM sec n e (n + 1) (s + i) 0 ((at_ + costL (ls.take i)) % n) = numb (s + i) (ls.drop i) := by
  have hd := h.drop i
  have hsum : costL (ls.take i) + costL (ls.drop i) = costL ls := by rw [← costL_append, List.take_append_drop]
  have hne : ls.drop i ≠ [] := fun q => by have := congrArg List.length q; rw [List.length_drop] at this; simp at this; omega
  have hlenc := costL_len (ls.drop i)
  have hcost := h.cost
  rw [of_laid hd.fine hd.cost hd.sec (by omega), if_neg hne]
  have hlast : batM (rotF sec n (((at_ + costL (ls.take i)) % n + costL (ls.drop i)) % n)) (n - costL (ls.drop i)) e (s + i + (ls.drop i).length) = none := by
    rw [Nat.mod_add_mod, Nat.add_assoc, hsum, rotF_mod]
    by_cases hfull : costL ls < n
    · refine bat_no (dec_nought ?_).1
      show (sec ((at_ + costL ls + 0) % n)).take 4 ≠ magicL
      exact hz (costL ls) (Nat.le_refl _) hfull
    · have hn : costL ls = n := by omega
      rw [hn, ← rotF_mod, Nat.add_mod_right, rotF_mod]
      have h0 := (h.found (k := 0) (by omega)).2
      rw [List.take_zero, show costL [] = 0 from rfl, Nat.add_zero, Nat.add_zero] at h0
      refine bat_other h0 (.inr ?_)
      rw [List.length_drop]; omega
  rw [of_none hlast, List.append_nil]

/-! ### What a batch writes can't be taken for the journal's own -/
end Go.Proofs.Ytpmmkmcbimnigaa

/-! Text Nm. -/
/- Scan: much; the same patches, batches, rows: the walks. -/
set_option maxRecDepth 8000
set_option linter.unusedVariables false
set_option linter.unusedSimpArgs false
set_option linter.unusedSectionVars false
namespace Go.Proofs.Ytpmmkmcbimnigaa
open Go.RowKit Go.Sl
attribute [local irreducible] Own

instance : DecidableEq PatD := fun a b => decidable_of_iff (a.member = b.member ∧ a.row = b.row ∧ a.data = b.data) (by cases a; cases b; simp)
theorem some_of_pos {ao : Option Addr} {n : Nat} (h : ao = none → n = 0) (hn : 0 < n) : ∃ a, ao = some a := by
  cases ao with
  | none => have := h rfl; omega
  | some a => exact ⟨a, rfl⟩
set_option maxHeartbeats 1000000 in
theorem samepats_ok {W : World} {R : List SProp} {ao bo : Option Addr} {ac bc : Nat} {l m : List PatE} (hl : RdPats W R ao l) (hm : RdPats W R bo m) (hn : l.length ≤ 140737488351232) (hd : ∀ p ∈ l, p.d.data.length ≤ maxLen) :
    Does1 W Try.prog 15 [.slice ao l.length ac, .slice bo m.length bc] R (.bool (decide (l.map PatE.D = m.map PatE.D))) R := by
  (refine Does.enter Try.func15 Try.ntmps15 rfl rfl ?_)
  (refine w ?_; repeat ((first | refine VO.step rfl rfl ?_ | refine VD.end rfl rfl rfl ?_ | refine VD.mid rfl rfl rfl ?_); refine OpV.box rfl rfl rfl ?_; intro _; refine w ?_))
  (refine VC.cond rfl rfl ?_ ?_ <;> intro hc)
  · have h : ¬ l.length = m.length := by have : ¬ (l.length : Int) = m.length := (by simpa using hc); omega
    (refine w ?_; repeat ((first | refine VO.step rfl rfl ?_ | refine VD.end rfl rfl rfl ?_ | refine VD.mid rfl rfl rfl ?_); refine OpV.box rfl rfl rfl ?_; intro _; refine w ?_))
    (refine VE.done1 rfl ?_ ?_)
    · congr 1; symm; exact decide_eq_false (fun e => h (by have := congrArg List.length e; rwa [List.length_map, List.length_map] at this))
    · exact Ent.refl
  have h : l.length = m.length := by have : (l.length : Int) = m.length := (by simpa using hc); omega
  (refine w ?_; repeat ((first | refine VO.step rfl rfl ?_ | refine VD.end rfl rfl rfl ?_ | refine VD.mid rfl rfl rfl ?_); refine OpV.box rfl rfl rfl ?_; intro _; refine w ?_))
  refine VC.loop (α := Nat) (fun i => i ≤ l.length ∧ (l.map PatE.D).take i = (m.map PatE.D).take i) (fun _ => R) (fun i => [(0, .slice ao l.length ac), (1, .slice bo m.length bc), (5, .int .i64 i)]) (fun i => l.length - i) rfl 0 ⟨Nat.zero_le _, by simp⟩ Ent.refl ⟨rfl, rfl, rfl, trivial⟩ ?_
  rintro i ⟨hi, he⟩
  (refine w ?_; repeat ((first | refine VO.step rfl rfl ?_ | refine VD.end rfl rfl rfl ?_ | refine VD.mid rfl rfl rfl ?_); refine OpV.box rfl rfl rfl ?_; intro _; refine w ?_))
  (refine VC.cond rfl rfl ?_ ?_ <;> intro hc)
  · have hlt : i < l.length := by have := of_decide_eq_true hc; omega
    have hlt2 : i < m.length := by omega
    obtain ⟨a, rfl⟩ := some_of_pos hl.rds.nil (by omega)
    obtain ⟨b, rfl⟩ := some_of_pos hm.rds.nil (by omega)
    have hno : l[i].D ≠ m[i].D → Value.bool false = Value.bool (decide (l.map PatE.D = m.map PatE.D)) := fun hx => by
      congr 1; symm
      refine decide_eq_false (fun e => hx ?_)
      have h1 := congrArg (fun z => z[i]?) e
      simpa [List.getElem?_map, List.getElem?_eq_getElem hlt, List.getElem?_eq_getElem hlt2] using h1
    (refine w ?_; repeat ((first | refine VO.step rfl rfl ?_ | refine VD.end rfl rfl rfl ?_ | refine VD.mid rfl rfl rfl ?_); refine OpV.box rfl rfl rfl ?_; intro _; refine w ?_))
    ((refine VC.quiet rfl (by kernel_rfl) (by kernel_rfl) ?_); (refine w ?_; repeat ((first | refine VO.step rfl rfl ?_ | refine VD.end rfl rfl rfl ?_ | refine VD.mid rfl rfl rfl ?_); refine OpV.box rfl rfl rfl ?_; intro _; refine w ?_)))
    (first | refine VO.pure rfl rfl (PureAt.ldRc tab_ok rfl rfl hl.rds (pat_get l i 0 hlt (by decide))) rfl ?_ | refine VD.take rfl rfl rfl (PureAt.ldRc tab_ok rfl rfl hl.rds (pat_get l i 0 hlt (by decide))) rfl ?_ | refine VQ.pure rfl rfl (PureAt.ldRc tab_ok rfl rfl hl.rds (pat_get l i 0 hlt (by decide))) rfl ?_ | refine VD.end rfl rfl rfl (OpV.pure (PureAt.ldRc tab_ok rfl rfl hl.rds (pat_get l i 0 hlt (by decide))) rfl ?_))
    (refine w ?_; repeat ((first | refine VO.step rfl rfl ?_ | refine VD.end rfl rfl rfl ?_ | refine VD.mid rfl rfl rfl ?_); refine OpV.box rfl rfl rfl ?_; intro _; refine w ?_))
    (first | refine VO.pure rfl rfl (PureAt.ldRc tab_ok rfl rfl hm.rds (pat_get m i 0 hlt2 (by decide))) rfl ?_ | refine VD.take rfl rfl rfl (PureAt.ldRc tab_ok rfl rfl hm.rds (pat_get m i 0 hlt2 (by decide))) rfl ?_ | refine VQ.pure rfl rfl (PureAt.ldRc tab_ok rfl rfl hm.rds (pat_get m i 0 hlt2 (by decide))) rfl ?_ | refine VD.end rfl rfl rfl (OpV.pure (PureAt.ldRc tab_ok rfl rfl hm.rds (pat_get m i 0 hlt2 (by decide))) rfl ?_))
    (refine w ?_; repeat ((first | refine VO.step rfl rfl ?_ | refine VD.end rfl rfl rfl ?_ | refine VD.mid rfl rfl rfl ?_); refine OpV.box rfl rfl rfl ?_; intro _; refine w ?_))
    (refine VQ.split rfl rfl rfl ?_ ?_ <;> intro hb)
    · (refine w ?_; repeat ((first | refine VO.step rfl rfl ?_ | refine VD.end rfl rfl rfl ?_ | refine VD.mid rfl rfl rfl ?_); refine OpV.box rfl rfl rfl ?_; intro _; refine w ?_))
      (refine VE.done1 rfl ?_ ?_)
      · exact hno (fun e => by have := congrArg PatD.member e; simp [PatE.D] at this; simp [this] at hb)
      · exact Ent.refl
    (refine w ?_; repeat ((first | refine VO.step rfl rfl ?_ | refine VD.end rfl rfl rfl ?_ | refine VD.mid rfl rfl rfl ?_); refine OpV.box rfl rfl rfl ?_; intro _; refine w ?_))
    (first | refine VO.pure rfl rfl (PureAt.ldRc tab_ok rfl rfl hl.rds (pat_get l i 1 hlt (by decide))) rfl ?_ | refine VD.take rfl rfl rfl (PureAt.ldRc tab_ok rfl rfl hl.rds (pat_get l i 1 hlt (by decide))) rfl ?_ | refine VQ.pure rfl rfl (PureAt.ldRc tab_ok rfl rfl hl.rds (pat_get l i 1 hlt (by decide))) rfl ?_ | refine VD.end rfl rfl rfl (OpV.pure (PureAt.ldRc tab_ok rfl rfl hl.rds (pat_get l i 1 hlt (by decide))) rfl ?_))
    (refine w ?_; repeat ((first | refine VO.step rfl rfl ?_ | refine VD.end rfl rfl rfl ?_ | refine VD.mid rfl rfl rfl ?_); refine OpV.box rfl rfl rfl ?_; intro _; refine w ?_))
    (first | refine VO.pure rfl rfl (PureAt.ldRc tab_ok rfl rfl hm.rds (pat_get m i 1 hlt2 (by decide))) rfl ?_ | refine VD.take rfl rfl rfl (PureAt.ldRc tab_ok rfl rfl hm.rds (pat_get m i 1 hlt2 (by decide))) rfl ?_ | refine VQ.pure rfl rfl (PureAt.ldRc tab_ok rfl rfl hm.rds (pat_get m i 1 hlt2 (by decide))) rfl ?_ | refine VD.end rfl rfl rfl (OpV.pure (PureAt.ldRc tab_ok rfl rfl hm.rds (pat_get m i 1 hlt2 (by decide))) rfl ?_))
    have hm0 : l[i].member = m[i].member := by simpa using hb
    clear hb
    (refine w ?_; repeat ((first | refine VO.step rfl rfl ?_ | refine VD.end rfl rfl rfl ?_ | refine VD.mid rfl rfl rfl ?_); refine OpV.box rfl rfl rfl ?_; intro _; refine w ?_))
    (refine VQ.split rfl rfl rfl ?_ ?_ <;> intro hb)
    · (refine w ?_; repeat ((first | refine VO.step rfl rfl ?_ | refine VD.end rfl rfl rfl ?_ | refine VD.mid rfl rfl rfl ?_); refine OpV.box rfl rfl rfl ?_; intro _; refine w ?_))
      (refine VE.done1 rfl ?_ ?_)
      · exact hno (fun e => by have := congrArg PatD.row e; simp [PatE.D] at this; simp [this] at hb)
      · exact Ent.refl
    have hr0 : l[i].row = m[i].row := by simpa using hb
    clear hb
    (refine w ?_; repeat ((first | refine VO.step rfl rfl ?_ | refine VD.end rfl rfl rfl ?_ | refine VD.mid rfl rfl rfl ?_); refine OpV.box rfl rfl rfl ?_; intro _; refine w ?_))
    (first | refine VO.pure rfl rfl (PureAt.ldRc tab_ok rfl rfl hl.rds (pat_get l i 2 hlt (by decide))) rfl ?_ | refine VD.take rfl rfl rfl (PureAt.ldRc tab_ok rfl rfl hl.rds (pat_get l i 2 hlt (by decide))) rfl ?_ | refine VQ.pure rfl rfl (PureAt.ldRc tab_ok rfl rfl hl.rds (pat_get l i 2 hlt (by decide))) rfl ?_ | refine VD.end rfl rfl rfl (OpV.pure (PureAt.ldRc tab_ok rfl rfl hl.rds (pat_get l i 2 hlt (by decide))) rfl ?_))
    (refine w ?_; repeat ((first | refine VO.step rfl rfl ?_ | refine VD.end rfl rfl rfl ?_ | refine VD.mid rfl rfl rfl ?_); refine OpV.box rfl rfl rfl ?_; intro _; refine w ?_))
    (first | refine VO.pure rfl rfl (PureAt.ldRc tab_ok rfl rfl hm.rds (pat_get m i 2 hlt2 (by decide))) rfl ?_ | refine VD.take rfl rfl rfl (PureAt.ldRc tab_ok rfl rfl hm.rds (pat_get m i 2 hlt2 (by decide))) rfl ?_ | refine VQ.pure rfl rfl (PureAt.ldRc tab_ok rfl rfl hm.rds (pat_get m i 2 hlt2 (by decide))) rfl ?_ | refine VD.end rfl rfl rfl (OpV.pure (PureAt.ldRc tab_ok rfl rfl hm.rds (pat_get m i 2 hlt2 (by decide))) rfl ?_))
    (refine w ?_; repeat ((first | refine VO.step rfl rfl ?_ | refine VD.end rfl rfl rfl ?_ | refine VD.mid rfl rfl rfl ?_); refine OpV.box rfl rfl rfl ?_; intro _; refine w ?_))
    (refine VQ.call rfl rfl rfl rfl (fun _ _ => by simp) (same_any (hl.each _ (List.getElem_mem hlt)) (hm.each _ (List.getElem_mem hlt2)) (hd _ (List.getElem_mem hlt))) Ent.refl Ent.refl rfl ?_)
    (refine w ?_; repeat ((first | refine VO.step rfl rfl ?_ | refine VD.end rfl rfl rfl ?_ | refine VD.mid rfl rfl rfl ?_); refine OpV.box rfl rfl rfl ?_; intro _; refine w ?_))
    (refine VC.cond rfl rfl ?_ ?_ <;> intro hc)
    · have hx : l[i].d.data ≠ m[i].d.data := by simpa using hc
      (refine w ?_; repeat ((first | refine VO.step rfl rfl ?_ | refine VD.end rfl rfl rfl ?_ | refine VD.mid rfl rfl rfl ?_); refine OpV.box rfl rfl rfl ?_; intro _; refine w ?_))
      (refine VE.done1 rfl ?_ ?_)
      · exact hno (fun e => hx (congrArg PatD.data e))
      · exact Ent.refl
    · have hx : l[i].d.data = m[i].d.data := by simpa using hc
      (refine w ?_; repeat ((first | refine VO.step rfl rfl ?_ | refine VD.end rfl rfl rfl ?_ | refine VD.mid rfl rfl rfl ?_); refine OpV.box rfl rfl rfl ?_; intro _; refine w ?_))
      refine VE.round (i + 1) ⟨hlt, ?_⟩ (by omega) ⟨rfl, rfl, asV rfl (by congr 1), trivial⟩ Ent.refl
      rw [List.take_succ_eq_append_getElem (by simpa using hlt), List.take_succ_eq_append_getElem (by simpa using hlt2), he, List.getElem_map, List.getElem_map]
      congr 2
      unfold PatE.D
      rw [hm0, hr0, hx]
  · have hge : i = l.length := by have := of_decide_eq_false hc; omega
    subst hge
    rw [List.take_of_length_le (by simp), List.take_of_length_le (by simp; omega)] at he
    (refine w ?_; repeat ((first | refine VO.step rfl rfl ?_ | refine VD.end rfl rfl rfl ?_ | refine VD.mid rfl rfl rfl ?_); refine OpV.box rfl rfl rfl ?_; intro _; refine w ?_))
    (refine VE.done1 rfl ?_ ?_)
    · rw [he]; simp
    · exact Ent.refl

end Go.Proofs.Ytpmmkmcbimnigaa

/-! Text Nv. -/
/- Scan: arguments: lists of patches, lists of such lists. -/
set_option maxRecDepth 8000
set_option linter.unusedVariables false
set_option linter.unusedSimpArgs false
set_option linter.unusedSectionVars false
namespace Go.Proofs.Ytpmmkmcbimnigaa
open Go.RowKit Go.Sl
attribute [local irreducible] Own

theorem u8n_of {z : Int} (h : (Lit.int .u8 z).wf = true) : ∃ m : Nat, z = m ∧ m < 256 := by
  simp [Lit.wf, IntKind.min, IntKind.max, IntKind.signed, IntKind.bits] at h
  exact ⟨z.toNat, by omega, by omega⟩
structure PatE.wf (W : World) (p : PatE) : Prop where
  rd : RdsA W 1 p.d.ao p.d.data.length (bytes p.d.data)
  ok : p.d.ok
  fit : p.fit
theorem pat_of {W : World} {cs : List Value} (h : InT Try.prog W 49 cs) : ∃ p : PatE, cs = p.cells ∧ p.wf W := by
  have hl := (h.struct_inv Try.underlying49).1
  have c3 : Try.prog.cellsOf 49 = 3 := by kernel_rfl
  rw [c3] at hl
  match cs, hl with
  | [v0, v1, v2], _ =>
    have ki : Try.prog.cellsOf 3 = 1 := by kernel_rfl
    have ks : Try.prog.cellsOf 47 = 1 := by kernel_rfl
    have g0 : InT Try.prog W 3 [v0] := h.field (i := 0) (off := 0) Try.underlying49 rfl rfl rfl ki
    have g1 : InT Try.prog W 3 [v1] := h.field (i := 1) (off := 1) Try.underlying49 rfl rfl rfl ki
    have g2 : InT Try.prog W 47 [v2] := h.field (i := 2) (off := 2) Try.underlying49 rfl rfl rfl ks
    obtain ⟨z0, e0, w0⟩ := g0.int_inv Try.underlying3
    obtain ⟨z1, e1, w1⟩ := g1.int_inv Try.underlying3
    obtain ⟨ao, n, cap, _, e2, _⟩ := g2.slice_inv Try.underlying47
    rw [e2] at g2
    obtain ⟨l, rfl, hr, hb, hcp⟩ := bytesC_of g2
    cases e0; cases e1; cases e2
    exact ⟨⟨z0, z1, ⟨ao, cap, l⟩⟩, rfl, ⟨hr, ⟨(hr []).nil, hcp⟩, ⟨i64_of w0, i64_of w1, hb⟩⟩⟩
/-- A list within a list. -/
structure PlsE where
  ao : Option Addr
  cap : Nat
  pats : List PatE
abbrev PlsE.hdr (e : PlsE) : Value := .slice e.ao e.pats.length e.cap
structure PlsE.wf (W : World) (e : PlsE) : Prop where
  rd : ∀ R, RdPats W R e.ao e.pats
  fit : ∀ p ∈ e.pats, p.fit
  len : e.pats.length ≤ 140737488351232
  cap : e.pats.length ≤ e.cap
end Go.Proofs.Ytpmmkmcbimnigaa

/-! Text Qa. -/
/- What is lent of patches: LentPatches, WholePatches, SpoilPatches. -/
set_option maxRecDepth 8000
set_option linter.unusedVariables false
set_option linter.unusedSimpArgs false
set_option linter.unusedSectionVars false
namespace Go.Proofs.Ytpmmkmcbimnigaa
open Go.RowKit Go.Sl
attribute [local irreducible] Sl.Own

theorem memFront {W : World} {X : SProp} {H : List SProp} (m : X ∈ H) : ∃ R, Ent W H (X :: R) ∧ Ent W (X :: R) H := by
  obtain ⟨R, p⟩ := mem_perm m
  exact ⟨R, fun w hw => hw.perm p, fun w hw => hw.perm p.symm⟩
def PatE.lend (p : PatE) (e : Addr × Nat) : PatE := ⟨p.member, p.row, ⟨some e.1, e.2, p.d.data⟩⟩
theorem lendD (p : PatE) (e : Addr × Nat) : (p.lend e).D = p.D := rfl
theorem lent_rds {W : World} {H : List SProp} {a : Addr} {cap : Nat} {l : List UInt8} (m : LentO a cap l ∈ H) : Rds W H 1 (some a) l.length (bytes l) := by
  obtain ⟨R, h1, -⟩ := memFront (W := W) m
  exact LentO.rds.ent h1
theorem whole_mem {W : World} {H : List SProp} {ao : Option Addr} {a : Addr} {cap cap2 : Nat} {l : List UInt8} (hb : RdsA W 1 ao l.length (bytes l)) (hl : l.length ≤ 1000000000) (m : LentO a cap l ∈ H) :
    Does1 W Try.prog 32 [.slice (some a) l.length cap, .slice ao l.length cap2] H (.bool true) H := by
  obtain ⟨R, h1, h2⟩ := memFront (W := W) m
  exact Does1P (DoesE h1 (whole_ok hb hl)) h2
def lentP (l : List PatE) (es : List (Addr × Nat)) : List PatE := List.zipWith PatE.lend l es
def lentPR (l : List PatE) (es : List (Addr × Nat)) : List SProp := List.zipWith (fun p e => LentO e.1 e.2 p.d.data) l es
def markP : PatE := ⟨-77, 0, ⟨none, 0, []⟩⟩
theorem zipPush {α β γ : Type} (f : α → β → γ) : ∀ (l : List α) (es : List β) (e : β) (h : es.length < l.length), List.zipWith f l (es ++ [e]) = List.zipWith f l es ++ [f l[es.length] e]
  | [], es, e, h => absurd h (by simp)
  | a :: r, [], e, _ => by simp
  | a :: r, x :: es, e, h => by
    simp only [List.cons_append, List.zipWith_cons_cons, List.length_cons, List.getElem_cons_succ]
    rw [zipPush f r es e (by simpa using h)]
theorem lentP_length {l : List PatE} {es : List (Addr × Nat)} (h : es.length = l.length) : (lentP l es).length = l.length := by simp [lentP, h]
theorem lentP_get {l : List PatE} {es : List (Addr × Nat)} (h : es.length = l.length) (i : Nat) (hi : i < l.length) : (lentP l es)[i]'(by rw [lentP_length h]; exact hi) = l[i].lend (es[i]'(by omega)) := by simp [lentP]
theorem lentPR_length {l : List PatE} {es : List (Addr × Nat)} (h : es.length = l.length) : (lentPR l es).length = l.length := by simp [lentPR, h]
theorem lentPR_get {l : List PatE} {es : List (Addr × Nat)} (h : es.length = l.length) (i : Nat) (hi : i < l.length) : (lentPR l es)[i]'(by rw [lentPR_length h]; exact hi) = LentO (es[i]'(by omega)).1 (es[i]'(by omega)).2 l[i].d.data := by simp [lentPR]
theorem lentPR_mem {l : List PatE} {es : List (Addr × Nat)} (h : es.length = l.length) (i : Nat) (hi : i < l.length) : LentO (es[i]'(by omega)).1 (es[i]'(by omega)).2 l[i].d.data ∈ lentPR l es := by
  rw [← lentPR_get h i hi]; exact List.getElem_mem _
theorem patCells_push (l : List PatE) (p : PatE) : patCells (l ++ [p]) = patCells l ++ p.cells := by unfold patCells; rw [List.flatMap_append]; simp
/-- Patches that can be read whatever else memory holds. -/
structure PatsA (W : World) (ao : Option Addr) (l : List PatE) : Prop where
  rd : ∀ R, RdPats W R ao l
  len : l.length ≤ 1000000
  data : ∀ p ∈ l, p.d.data.length ≤ 1000000000
theorem PatsA.bytes {W : World} {ao : Option Addr} {l : List PatE} (h : PatsA W ao l) : ∀ p ∈ l, RdsA W 1 p.d.ao p.d.data.length (bytes p.d.data) := fun p hp R => (h.rd R).each p hp
abbrev LentPs (l : List PatE) (es : List (Addr × Nat)) (a : Addr) (cap : Nat) : SProp := Sl.Own 49 3 (.slice (some a) (l.length + 2) cap) (l.length + 2) (patCells (lentP l es ++ [markP, markP]))

set_option maxHeartbeats 2000000 in
theorem lentpats_ok {W : World} {R : List SProp} {ao : Option Addr} {cap : Nat} {l : List PatE} (hP : PatsA W ao l) :
    Does W Try.prog 19 [.slice ao l.length cap] R (β := List (Addr × Nat) × Addr × Nat) (fun x => x.1.length = l.length) (fun x => .slice (some x.2.1) l.length x.2.2)
      (fun x => LentPs l x.1 x.2.1 x.2.2 :: (lentPR l x.1 ++ R)) := by
  have hl := hP.len
  (refine Does.enter Try.func19 Try.ntmps19 rfl rfl ?_)
  (refine w ?_; repeat ((first | refine VO.step rfl rfl ?_ | refine VD.end rfl rfl rfl ?_ | refine VD.mid rfl rfl rfl ?_); refine OpV.box rfl rfl rfl ?_; intro _; refine w ?_))
  refine VO.re 8 (.int .i64 ((l.length + 2 : Nat) : Int)) rfl (by congr 1) ?_
  (first | refine VO.step rfl rfl ?_ | refine VD.end rfl rfl rfl ?_ | refine VD.mid rfl rfl rfl ?_)
  refine OpV.makeCap (m := l.length + 2) st_56 rfl rfl (by omega) (by simp only [maxLen]; omega) rfl ?_
  intro nb
  (refine w ?_; repeat ((first | refine VO.step rfl rfl ?_ | refine VD.end rfl rfl rfl ?_ | refine VD.mid rfl rfl rfl ?_); refine OpV.box rfl rfl rfl ?_; intro _; refine w ?_))
  refine VC.loop (α := List (Addr × Nat) × Option Addr × Nat) (fun y => y.1.length ≤ l.length) (fun y => Sl.Own 49 3 (.slice y.2.1 y.1.length y.2.2) y.1.length (patCells (lentP l y.1)) :: (lentPR l y.1 ++ R))
    (fun y => [(0, .slice ao l.length cap), (3, .slice y.2.1 y.1.length y.2.2), (4, .int .i64 y.1.length)]) (fun y => l.length - y.1.length) rfl ([], some ⟨nb, 0, none⟩, l.length + 2) (Nat.zero_le _) (by simp only [lentP, lentPR, List.zipWith_nil_right]; exact Ent.refl) ⟨rfl, rfl, rfl, trivial⟩ ?_
  rintro ⟨es, so, sc⟩ hi
  dsimp only at hi ⊢
  (refine w ?_; repeat ((first | refine VO.step rfl rfl ?_ | refine VD.end rfl rfl rfl ?_ | refine VD.mid rfl rfl rfl ?_); refine OpV.box rfl rfl rfl ?_; intro _; refine w ?_))
  (refine VC.cond rfl rfl ?_ ?_ <;> intro hc)
  · have hlt : es.length < l.length := by have := of_decide_eq_true hc; omega
    obtain ⟨la, rfl⟩ : ∃ x, ao = some x := by cases ao with | none => have := (hP.rd []).rds.nil rfl; omega | some x => exact ⟨x, rfl⟩
    have hst := hP.bytes _ (List.getElem_mem hlt)
    have hsl := hP.data _ (List.getElem_mem hlt)
    (refine w ?_; repeat ((first | refine VO.step rfl rfl ?_ | refine VD.end rfl rfl rfl ?_ | refine VD.mid rfl rfl rfl ?_); refine OpV.box rfl rfl rfl ?_; intro _; refine w ?_))
    (refine VC.drawn [16, 18] 19 [0, 1, 2, 3, 4, 5, 6, 7, 8, 9, 10, 11, 12, 13, 14, 15, 16, 17, 18, 19, 20] _ rfl (by kernel_rfl) (by kernel_rfl) Ent.re ?_)
    (refine w ?_; repeat ((first | refine VO.step rfl rfl ?_ | refine VD.end rfl rfl rfl ?_ | refine VD.mid rfl rfl rfl ?_); refine OpV.box rfl rfl rfl ?_; intro _; refine w ?_))
    (first | refine VO.pure rfl rfl (PureAt.ldRc tab_ok rfl rfl (hP.rd _).rds (pat_get l es.length 0 hlt (by decide))) rfl ?_ | refine VD.take rfl rfl rfl (PureAt.ldRc tab_ok rfl rfl (hP.rd _).rds (pat_get l es.length 0 hlt (by decide))) rfl ?_ | refine VQ.pure rfl rfl (PureAt.ldRc tab_ok rfl rfl (hP.rd _).rds (pat_get l es.length 0 hlt (by decide))) rfl ?_ | refine VD.end rfl rfl rfl (OpV.pure (PureAt.ldRc tab_ok rfl rfl (hP.rd _).rds (pat_get l es.length 0 hlt (by decide))) rfl ?_))
    (refine w ?_; repeat ((first | refine VO.step rfl rfl ?_ | refine VD.end rfl rfl rfl ?_ | refine VD.mid rfl rfl rfl ?_); refine OpV.box rfl rfl rfl ?_; intro _; refine w ?_))
    (first | refine VO.pure rfl rfl (PureAt.ldRc tab_ok rfl rfl (hP.rd _).rds (pat_get l es.length 1 hlt (by decide))) rfl ?_ | refine VD.take rfl rfl rfl (PureAt.ldRc tab_ok rfl rfl (hP.rd _).rds (pat_get l es.length 1 hlt (by decide))) rfl ?_ | refine VQ.pure rfl rfl (PureAt.ldRc tab_ok rfl rfl (hP.rd _).rds (pat_get l es.length 1 hlt (by decide))) rfl ?_ | refine VD.end rfl rfl rfl (OpV.pure (PureAt.ldRc tab_ok rfl rfl (hP.rd _).rds (pat_get l es.length 1 hlt (by decide))) rfl ?_))
    (refine w ?_; repeat ((first | refine VO.step rfl rfl ?_ | refine VD.end rfl rfl rfl ?_ | refine VD.mid rfl rfl rfl ?_); refine OpV.box rfl rfl rfl ?_; intro _; refine w ?_))
    (first | refine VO.pure rfl rfl (PureAt.ldRc tab_ok rfl rfl (hP.rd _).rds (pat_get l es.length 2 hlt (by decide))) rfl ?_ | refine VD.take rfl rfl rfl (PureAt.ldRc tab_ok rfl rfl (hP.rd _).rds (pat_get l es.length 2 hlt (by decide))) rfl ?_ | refine VQ.pure rfl rfl (PureAt.ldRc tab_ok rfl rfl (hP.rd _).rds (pat_get l es.length 2 hlt (by decide))) rfl ?_ | refine VD.end rfl rfl rfl (OpV.pure (PureAt.ldRc tab_ok rfl rfl (hP.rd _).rds (pat_get l es.length 2 hlt (by decide))) rfl ?_))
    (refine w ?_; repeat ((first | refine VO.step rfl rfl ?_ | refine VD.end rfl rfl rfl ?_ | refine VD.mid rfl rfl rfl ?_); refine OpV.box rfl rfl rfl ?_; intro _; refine w ?_))
    ((first | refine VO.step rfl rfl ?_ | refine VD.end rfl rfl rfl ?_ | refine VD.mid rfl rfl rfl ?_); refine OpV.call rfl rfl (fun _ _ => by simp) (lent_ok hst hsl) Ent.refl rfl ?_)
    rintro e _
    (refine w ?_; repeat ((first | refine VO.step rfl rfl ?_ | refine VD.end rfl rfl rfl ?_ | refine VD.mid rfl rfl rfl ?_); refine OpV.box rfl rfl rfl ?_; intro _; refine w ?_))
    (first | refine VO.pure rfl rfl (PureAt.build sb_49 rfl (by simp [buildX, setL, Value.cells]; rfl)) rfl ?_ | refine VD.take rfl rfl rfl (PureAt.build sb_49 rfl (by simp [buildX, setL, Value.cells]; rfl)) rfl ?_ | refine VQ.pure rfl rfl (PureAt.build sb_49 rfl (by simp [buildX, setL, Value.cells]; rfl)) rfl ?_ | refine VD.end rfl rfl rfl (OpV.pure (PureAt.build sb_49 rfl (by simp [buildX, setL, Value.cells]; rfl)) rfl ?_))
    (first | refine VO.step rfl rfl ?_ | refine VD.end rfl rfl rfl ?_ | refine VD.mid rfl rfl rfl ?_)
    refine OpV.buildSlice (cs := PatE.cells (l[es.length].lend e)) st_56 rfl rfl (by simp [Value.cells]) (by simp [Value.cells, PatE.lend]) (by decide) rfl ?_
    intro nc
    (refine w ?_; repeat ((first | refine VO.step rfl rfl ?_ | refine VD.end rfl rfl rfl ?_ | refine VD.mid rfl rfl rfl ?_); refine OpV.box rfl rfl rfl ?_; intro _; refine w ?_))
    (first | refine VO.step rfl rfl ?_ | refine VD.end rfl rfl rfl ?_ | refine VD.mid rfl rfl rfl ?_)
    refine OpV.appendRow st_56 rfl rfl (by (repeat first | exact .head | apply Hole.tail)) (by (focus repeat first | exact .head _ | apply List.Mem.tail)) rfl (pat_one _) ?_ ?_ rfl ?_
    · simp only [maxLen]; omega
    · omega
    intro so' sc'
    (refine w ?_; repeat ((first | refine VO.step rfl rfl ?_ | refine VD.end rfl rfl rfl ?_ | refine VD.mid rfl rfl rfl ?_); refine OpV.box rfl rfl rfl ?_; intro _; refine w ?_))
    refine VE.round (es ++ [e], so', sc') (by simp only [List.length_append, List.length_singleton]; omega) (by simp only [List.length_append, List.length_singleton]; omega) ⟨rfl, asV rfl (by simp), asV rfl (by simp), trivial⟩ ?_
    dsimp only
    rw [show lentP l (es ++ [e]) = _ from zipPush _ l es e hlt, show lentPR l (es ++ [e]) = _ from zipPush _ l es e hlt, patCells_push, List.length_append, List.length_singleton]
    refine Ent.trans (Ent.re (L := Sl.Own 49 3 (.slice so' (es.length + 1) sc') (es.length + 1) (patCells (lentP l es) ++ PatE.cells (l[es.length].lend e)) :: LentO e.1 e.2 (l[es.length]).d.data :: (lentPR l es ++ R))) (fun w hw => ?_)
    rw [List.append_assoc]
    exact hw.perm (List.Perm.cons _ List.perm_middle.symm)
  · have hge : es.length = l.length := by have := of_decide_eq_false hc; omega
    rw [hge]
    (refine w ?_; repeat ((first | refine VO.step rfl rfl ?_ | refine VD.end rfl rfl rfl ?_ | refine VD.mid rfl rfl rfl ?_); refine OpV.box rfl rfl rfl ?_; intro _; refine w ?_))
    (apply VO.pure rfl rfl; apply PureAt.build sb_49 rfl; (simp [buildX, setL, Value.cells]; rfl); rfl)
    (apply VO.pure rfl rfl; apply PureAt.build sb_49 rfl; (simp [buildX, setL, Value.cells]; rfl); rfl)
    (first | refine VO.step rfl rfl ?_ | refine VD.end rfl rfl rfl ?_ | refine VD.mid rfl rfl rfl ?_)
    refine OpV.buildSlice (cs := markP.cells ++ markP.cells) st_56 rfl rfl (by simp [Value.cells]) (by simp [Value.cells, markP]) (by decide) rfl ?_
    intro nc
    (first | refine VO.step rfl rfl ?_ | refine VD.end rfl rfl rfl ?_ | refine VD.mid rfl rfl rfl ?_)
    refine OpV.appendRow st_56 rfl rfl (by (repeat first | exact .head | apply Hole.tail)) (by (focus repeat first | exact .head _ | apply List.Mem.tail)) rfl (by simp [Value.oneCell']) ?_ ?_ rfl ?_
    · simp only [maxLen]; omega
    · omega
    intro so' sc'
    refine VO.know (p := so' = none → l.length + 2 = 0) (fun w hw => Holds.ownNone hw (by (focus repeat first | exact .head _ | apply List.Mem.tail))) ?_
    intro hnn
    refine VO.know (p := l.length + 2 ≤ sc') (fun w hw => Holds.ownCap hw (by (focus repeat first | exact .head _ | apply List.Mem.tail))) ?_
    intro hcc
    obtain ⟨sa, rfl⟩ : ∃ x, so' = some x := by cases so' with | none => have := hnn rfl; omega | some x => exact ⟨x, rfl⟩
    (refine w ?_; repeat ((first | refine VO.step rfl rfl ?_ | refine VD.end rfl rfl rfl ?_ | refine VD.mid rfl rfl rfl ?_); refine OpV.box rfl rfl rfl ?_; intro _; refine w ?_))
    refine VE.done (es, sa, sc') rfl hge rfl ?_
    dsimp only
    rw [LentPs, show lentP l es ++ [markP, markP] = (lentP l es ++ [markP]) ++ [markP] by simp, patCells_push, patCells_push, List.append_assoc]
    exact Ent.re

theorem lentp_get {l : List PatE} {es : List (Addr × Nat)} (h : es.length = l.length) (i : Nat) (hi : i < l.length) : (lentP l es ++ [markP, markP])[i]'(by rw [List.length_append, lentP_length h]; omega) = l[i].lend (es[i]'(by omega)) := by
  rw [List.getElem_append_left (by rw [lentP_length h]; exact hi), lentP_get h i hi]
theorem lentp_mark {l : List PatE} {es : List (Addr × Nat)} (h : es.length = l.length) (i : Nat) (h1 : l.length ≤ i) (hi : i < l.length + 2) : (lentP l es ++ [markP, markP])[i]'(by rw [List.length_append, lentP_length h]; exact hi) = markP := by
  rw [List.getElem_append_right (by rw [lentP_length h]; exact h1)]
  obtain q | q : i - (lentP l es).length = 0 ∨ i - (lentP l es).length = 1 := by rw [lentP_length h]; omega
  · simp only [q]; rfl
  · simp only [q]; rfl
theorem lentp_len {l : List PatE} {es : List (Addr × Nat)} (h : es.length = l.length) : (lentP l es ++ [markP, markP]).length = l.length + 2 := by rw [List.length_append, lentP_length h]; rfl
theorem lentp_rds {W : World} {H : List SProp} {l : List PatE} {es : List (Addr × Nat)} {a : Addr} {cap : Nat} (h : es.length = l.length) (m : LentPs l es a cap ∈ H) : Rds W H 3 (some a) (l.length + 2) (patCells (lentP l es ++ [markP, markP])) := Rds.own (pats_one _) m (by rw [pats_len, lentp_len h]) (fun h => by cases h)
theorem lentp_cap {W w : World} {R : List SProp} {l : List PatE} {es : List (Addr × Nat)} (h : es.length = l.length) (hw : Holds W (lentPR l es ++ R) w) : ∀ (i : Nat) (hi : i < l.length), l[i].d.data.length ≤ (es[i]'(by omega)).2 := fun i hi => by
  have := Holds.ownCap hw (List.mem_append_left _ (lentPR_mem h i hi))
  omega
theorem lentp_pats {W : World} {H : List SProp} {l : List PatE} {es : List (Addr × Nat)} {a : Addr} {cap : Nat} (h : es.length = l.length) (m : LentPs l es a cap ∈ H) (hR : ∀ x ∈ lentPR l es, x ∈ H) (hc : ∀ (i : Nat) (hi : i < l.length), l[i].d.data.length ≤ (es[i]'(by omega)).2) : RdPats W H (some a) (lentP l es) where
  rds := by
    have := Rds.take (W := W) (l := l.length) (lentp_rds h m) (by omega)
    rw [show l.length * 3 = (patCells (lentP l es)).length by rw [pats_len, lentP_length h], show patCells (lentP l es ++ [markP, markP]) = patCells (lentP l es) ++ patCells [markP, markP] by unfold patCells; rw [List.flatMap_append], List.take_left] at this
    rw [lentP_length h]; exact this
  each := fun b hb => by
    obtain ⟨i, hi, rfl⟩ := List.mem_iff_getElem.1 hb
    have hi2 : i < l.length := by rw [lentP_length h] at hi; exact hi
    rw [lentP_get h i hi2]
    exact lent_rds (hR _ (lentPR_mem h i hi2))
  ok := fun b hb => by
    obtain ⟨i, hi, rfl⟩ := List.mem_iff_getElem.1 hb
    have hi2 : i < l.length := by rw [lentP_length h] at hi; exact hi
    rw [lentP_get h i hi2]
    exact ⟨fun q => (by cases q), hc i hi2⟩

theorem ownFullN {W w : World} {R : List SProp} {e m cap sz : Nat} {a : Addr} {xs : List Value} (hw : Holds W (Sl.Own e sz (.slice (some a) m cap) m xs :: R) w) : ∃ ys : { ys : List Value // ys.length = cap * sz ∧ cap ≤ maxLen }, Holds W (Sl.Own e sz (.slice (some a) cap cap) cap ys.1 :: R) w := by
  obtain ⟨hl, hv⟩ := hw.ownOpen
  rcases hv with ⟨he, rfl, hR⟩ | ⟨b, cap0, spare, he, hn, hm, hc, hR⟩
  · cases he
  · cases he
    refine ⟨⟨xs ++ spare, hc, hm⟩, ?_⟩
    exact Holds.ownShut (spare := []) hc (Nat.le_refl _) hm (by rw [List.append_nil]; exact hc) (by rw [List.append_nil]; exact hR)
set_option maxHeartbeats 2000000 in
theorem spoilpats_ok {W : World} {R : List SProp} {a : Addr} {cap : Nat} {l : List PatE} (es : List (Addr × Nat)) (hes : es.length = l.length) (hl : l.length ≤ 1000000) :
    Does1 W Try.prog 23 [.slice (some a) l.length cap] (LentPs l es a cap :: (lentPR l es ++ R)) (.tuple #[]) R := by
  (refine Does.enter Try.func23 Try.ntmps23 rfl rfl ?_)
  refine VC.know (p := l.length + 2 ≤ cap) (fun w hw => Holds.ownCap hw (.head _)) ?_
  intro hcc
  refine VC.know (fun w hw => lentp_cap hes hw.tail) ?_
  intro hcap
  (refine w ?_; repeat ((first | refine VO.step rfl rfl ?_ | refine VD.end rfl rfl rfl ?_ | refine VD.mid rfl rfl rfl ?_); refine OpV.box rfl rfl rfl ?_; intro _; refine w ?_))
  refine VC.loop (α := Nat) (fun i => i ≤ l.length) (fun i => LentPs l es a cap :: ((lentPR l es).drop i ++ R)) (fun i => [(0, .slice (some a) l.length cap), (2, .int .i64 i)]) (fun i => l.length - i) rfl 0 (Nat.zero_le _) Ent.refl ⟨rfl, rfl, trivial⟩ ?_
  intro i hi
  (refine w ?_; repeat ((first | refine VO.step rfl rfl ?_ | refine VD.end rfl rfl rfl ?_ | refine VD.mid rfl rfl rfl ?_); refine OpV.box rfl rfl rfl ?_; intro _; refine w ?_))
  (refine VC.cond rfl rfl ?_ ?_ <;> intro hc)
  · have hlt : i < l.length := by have := of_decide_eq_true hc; omega
    have hlg := lentp_get hes i hlt
    have hll : i < (lentP l es ++ [markP, markP]).length := by rw [lentp_len hes]; omega
    have hcpi := hcap i hlt
    have hd : (lentPR l es).drop i = LentO (es[i]'(by omega)).1 (es[i]'(by omega)).2 l[i].d.data :: (lentPR l es).drop (i + 1) := by
      rw [List.drop_eq_getElem_cons (by rw [lentPR_length hes]; exact hlt), lentPR_get hes i hlt]
    (refine w ?_; repeat ((first | refine VO.step rfl rfl ?_ | refine VD.end rfl rfl rfl ?_ | refine VD.mid rfl rfl rfl ?_); refine OpV.box rfl rfl rfl ?_; intro _; refine w ?_))
    (first | refine VO.pure rfl rfl (PureAt.ldRc tab_ok rfl rfl (lentp_rds hes (.head _)) ((pat_get _ i 2 hll (by decide)).trans (show _ = some (.slice (some (es[i]'(by omega)).1) l[i].d.data.length (es[i]'(by omega)).2) by rw [hlg]; rfl))) rfl ?_ | refine VD.take rfl rfl rfl (PureAt.ldRc tab_ok rfl rfl (lentp_rds hes (.head _)) ((pat_get _ i 2 hll (by decide)).trans (show _ = some (.slice (some (es[i]'(by omega)).1) l[i].d.data.length (es[i]'(by omega)).2) by rw [hlg]; rfl))) rfl ?_ | refine VQ.pure rfl rfl (PureAt.ldRc tab_ok rfl rfl (lentp_rds hes (.head _)) ((pat_get _ i 2 hll (by decide)).trans (show _ = some (.slice (some (es[i]'(by omega)).1) l[i].d.data.length (es[i]'(by omega)).2) by rw [hlg]; rfl))) rfl ?_ | refine VD.end rfl rfl rfl (OpV.pure (PureAt.ldRc tab_ok rfl rfl (lentp_rds hes (.head _)) ((pat_get _ i 2 hll (by decide)).trans (show _ = some (.slice (some (es[i]'(by omega)).1) l[i].d.data.length (es[i]'(by omega)).2) by rw [hlg]; rfl))) rfl ?_))
    rw [hd]
    (refine w ?_; repeat ((first | refine VO.step rfl rfl ?_ | refine VD.end rfl rfl rfl ?_ | refine VD.mid rfl rfl rfl ?_); refine OpV.box rfl rfl rfl ?_; intro _; refine w ?_))
    ((first | refine VO.step rfl rfl ?_ | refine VD.end rfl rfl rfl ?_ | refine VD.mid rfl rfl rfl ?_); refine OpV.call rfl rfl (fun _ _ => by simp) (spoil_ok (R := LentPs l es a cap :: ((lentPR l es).drop (i + 1) ++ R)) (m := l[i].d.data.length + 2) (xs := lentV l[i].d.data) hcpi) Ent.re rfl ?_)
    intro _ _
    (refine w ?_; repeat ((first | refine VO.step rfl rfl ?_ | refine VD.end rfl rfl rfl ?_ | refine VD.mid rfl rfl rfl ?_); refine OpV.box rfl rfl rfl ?_; intro _; refine w ?_))
    exact VE.round (i + 1) (by omega) (by omega) ⟨rfl, asV rfl (by congr 1), trivial⟩ Ent.refl
  have hge : i = l.length := by have := of_decide_eq_false hc; omega
  rw [hge, List.drop_of_length_le (by rw [lentPR_length hes]; exact Nat.le_refl _), List.nil_append]
  refine VC.obtain (fun w => ownFullN) ?_
  rintro ⟨ys, hy, hcm⟩
  dsimp only
  simp only [maxLen] at hcm
  (refine w ?_; repeat ((first | refine VO.step rfl rfl ?_ | refine VD.end rfl rfl rfl ?_ | refine VD.mid rfl rfl rfl ?_); refine OpV.box rfl rfl rfl ?_; intro _; refine w ?_))
  refine VC.loop (α := Nat × List Value) (fun g => g.1 ≤ cap ∧ g.2.length = cap * 3) (fun g => Sl.Own 49 3 (.slice (some a) cap cap) cap g.2 :: R)
    (fun g => [(3, .slice (some a) cap cap), (4, .int .i64 g.1)]) (fun g => cap - g.1) rfl (0, ys) ⟨Nat.zero_le _, hy⟩ Ent.refl ⟨rfl, rfl, trivial⟩ ?_
  rintro ⟨k, zs⟩ ⟨hk, hz⟩
  dsimp only at hk hz ⊢
  (refine w ?_; repeat ((first | refine VO.step rfl rfl ?_ | refine VD.end rfl rfl rfl ?_ | refine VD.mid rfl rfl rfl ?_); refine OpV.box rfl rfl rfl ?_; intro _; refine w ?_))
  (refine VC.cond rfl rfl ?_ ?_ <;> intro hc)
  · have hlt : k < cap := by have := of_decide_eq_true hc; omega
    (refine w ?_; repeat ((first | refine VO.step rfl rfl ?_ | refine VD.end rfl rfl rfl ?_ | refine VD.mid rfl rfl rfl ?_); refine OpV.box rfl rfl rfl ?_; intro _; refine w ?_))
    (apply VO.pure rfl rfl; apply PureAt.build sb_49 rfl; (simp [buildX, setL, Value.cells]; rfl); rfl)
    (refine w ?_; repeat ((first | refine VO.step rfl rfl ?_ | refine VD.end rfl rfl rfl ?_ | refine VD.mid rfl rfl rfl ?_); refine OpV.box rfl rfl rfl ?_; intro _; refine w ?_))
    (first | refine VO.step rfl rfl ?_ | refine VD.end rfl rfl rfl ?_ | refine VD.mid rfl rfl rfl ?_)
    refine OpV.stOA (vs := PatE.cells ⟨-77, 0, ⟨none, 0, []⟩⟩) tab_ok rfl rfl rfl rfl (pat_one _) .head (by omega) ?_
    (refine w ?_; repeat ((first | refine VO.step rfl rfl ?_ | refine VD.end rfl rfl rfl ?_ | refine VD.mid rfl rfl rfl ?_); refine OpV.box rfl rfl rfl ?_; intro _; refine w ?_))
    exact VE.round (k + 1, _) ⟨hlt, by simp only [List.length_append, List.length_take, List.length_drop, List.length_cons, List.length_nil]; omega⟩ (by simp only; omega) ⟨rfl, asV rfl (by congr 1), trivial⟩ Ent.refl
  · (refine w ?_; repeat ((first | refine VO.step rfl rfl ?_ | refine VD.end rfl rfl rfl ?_ | refine VD.mid rfl rfl rfl ?_); refine OpV.box rfl rfl rfl ?_; intro _; refine w ?_))
    (refine VE.done1N rfl ?_ ?_)
    · rfl
    · exact Ent.drop Ent.refl
/-! ### What is lent, as one resource -/
def LentA (l : List PatE) (es : List (Addr × Nat)) (a : Addr) (cap : Nat) : SProp := Sl.star (LentPs l es a cap :: lentPR l es)
/-- What is lent of these. -/
structure Lent (l : List PatE) (es : List (Addr × Nat)) : Prop where
  len : es.length = l.length
  cap : ∀ (i : Nat) (hi : i < l.length), l[i].d.data.length ≤ (es[i]'(by omega)).2
theorem lentpatsA_ok {W : World} {R : List SProp} {ao : Option Addr} {cap : Nat} {l : List PatE} (hP : PatsA W ao l) :
    Does W Try.prog 19 [.slice ao l.length cap] R (β := List (Addr × Nat) × Addr × Nat) (fun x => Lent l x.1) (fun x => .slice (some x.2.1) l.length x.2.2) (fun x => [LentA l x.1 x.2.1 x.2.2] ++ R) := by
  have h := DoesA (B := fun x : List (Addr × Nat) × Addr × Nat => Lent l x.1) (lentpats_ok (R := R) (cap := cap) hP) (fun x hx w hw => ⟨hx, lentp_cap hx hw.tail⟩)
  exact Does.mono h (fun x => x) (fun _ h => h) (fun _ _ => rfl) (fun x _ => fun w hw => Holds.nest (L := LentPs l x.1 x.2.1 x.2.2 :: lentPR l x.1) hw)
theorem Lent.rd {W : World} {H : List SProp} {l : List PatE} {es : List (Addr × Nat)} {a : Addr} {cap : Nat} (h : Lent l es) (m : LentA l es a cap ∈ H) : RdPats W H (some a) (lentP l es) := by
  have key : ∀ R, RdPats W ((LentPs l es a cap :: lentPR l es) ++ R) (some a) (lentP l es) := fun R => lentp_pats h.len (.head _) (fun x hx => .tail _ (List.mem_append_left _ hx)) h.cap
  exact ⟨Rds.star m fun R => (key R).rds, fun p hp => Rds.star m fun R => (key R).each p hp, (key []).ok⟩
theorem Lent.fit {l : List PatE} {es : List (Addr × Nat)} (h : Lent l es) (hf : ∀ p ∈ l, p.fit) : ∀ p ∈ lentP l es, p.fit := fun p hp => by
  obtain ⟨i, hi, rfl⟩ := List.mem_iff_getElem.1 hp
  have hi2 : i < l.length := by rw [lentP_length h.len] at hi; exact hi
  rw [lentP_get h.len i hi2]
  exact hf _ (List.getElem_mem hi2) |> fun q => ⟨q.member, q.row, q.len⟩
theorem spoilpatsA_ok {W : World} {R : List SProp} {a : Addr} {cap : Nat} {l : List PatE} {es : List (Addr × Nat)} (h : Lent l es) (hl : l.length ≤ 1000000) :
    Does1 W Try.prog 23 [.slice (some a) l.length cap] (LentA l es a cap :: R) (.tuple #[]) R :=
  DoesE (fun w hw => hw.join) (spoilpats_ok (R := R) es h.len hl)
end Go.Proofs.Ytpmmkmcbimnigaa

/-! Text Yg. -/
/- lift.Lift: New, Len, Row, Put. -/
set_option maxRecDepth 8000
set_option linter.unusedVariables false
set_option linter.unusedSimpArgs false
set_option linter.unusedSectionVars false
namespace Go.Proofs.Ytpmmkmcbimnigaa
open Go.RowKit Go.Sl
attribute [local irreducible] Sl.Own

abbrev PatE.place (p : PatE) : Pl := (p.member, p.row)
def PatE.kv (p : PatE) : Pl × Value := (p.place, p.d.hdr)
structure PatE.In (p : PatE) : Prop where
  m : 0 ≤ p.member ∧ p.member ≤ 15
  r : 0 ≤ p.row ∧ p.row ≤ 4095
  n : p.d.data.length = 128
theorem plK : KeyT Try.prog 92 Pl pairV pairG := KeyT.pair (by kernel_rfl) (by kernel_rfl)
theorem hasU : Try.prog.underlying 86 = some (.map 92 47) := by kernel_rfl
structure LiftX where
  m : Nat
  ao : Option Addr
  ac : Nat
  bo : Option Addr
  bc : Nat
  A : List Pl
  B : List Pl
structure LiftG (r : Int) (ps : List PatE) (x : LiftX) : Prop where
  ok : LiftOk r (ps.map PatE.place) x.A x.B
  all : ∀ p ∈ ps, p.In
  row : 0 ≤ r ∧ r ≤ 4095
abbrev liftC (r : Int) (x : LiftX) : List Value := [.int .i64 r, .map (some x.m), .slice x.ao x.A.length x.ac, .slice x.bo x.B.length x.bc]
abbrev liftO (b : Nat) (r : Int) (ps : List PatE) (x : LiftX) (R : List SProp) : List SProp :=
  Row b 90 (liftC r x) :: MapL pairV pairG x.m (ps.map PatE.kv) :: WayN x.ao x.ac x.A.length x.A :: WayN x.bo x.bc x.B.length x.B :: PilP ps :: R
def LiftR (b : Nat) (r : Int) (ps : List PatE) : SProp := ex fun x : { x // LiftG r ps x } => Sl.star (liftO b r ps x.1 [])
theorem LiftR.open {W w : World} {b : Nat} {r : Int} {ps : List PatE} {R : List SProp} (h : Holds W (LiftR b r ps :: R) w) : ∃ x : { x // LiftG r ps x }, Holds W (liftO b r ps x.1 R) w := by
  obtain ⟨x, h⟩ := h.exOpen
  exact ⟨x, h.join⟩
theorem LiftR.shut {W : World} {b : Nat} {r : Int} {ps : List PatE} {R : List SProp} {x : LiftX} (g : LiftG r ps x) : Ent W (liftO b r ps x R) (LiftR b r ps :: R) := fun w hw => Holds.exShut ⟨x, g⟩ (Holds.nest (L := liftO b r ps x []) hw)

set_option maxHeartbeats 2000000 in
theorem liftnew_ok {W : World} {R : List SProp} {r : Int} (hr : 0 ≤ r ∧ r ≤ 4095) :
    Does W Try.prog 10 [.int .i64 r] R (β := Nat) (fun _ => True) (fun b => .tuple #[.pointer (some ⟨b, 0, none⟩), .int .u16 0]) (fun b => LiftR b r [] :: R) := by
  (refine Does.enter Try.func10 Try.ntmps10 rfl rfl ?_)
  (refine w ?_; repeat ((first | refine VO.step rfl rfl ?_ | refine VD.end rfl rfl rfl ?_ | refine VD.mid rfl rfl rfl ?_); refine OpV.box rfl rfl rfl ?_; intro _; refine w ?_))
  (first | refine VO.gF rfl rfl rfl (decide_eq_false (by omega)) ?_ | refine VD.gF rfl rfl rfl (decide_eq_false (by omega)) ?_)
  (refine w ?_; repeat ((first | refine VO.step rfl rfl ?_ | refine VD.end rfl rfl rfl ?_ | refine VD.mid rfl rfl rfl ?_); refine OpV.box rfl rfl rfl ?_; intro _; refine w ?_))
  (refine VC.condFe rfl rfl (decide_eq_false (by omega)) ?_)
  (refine w ?_; repeat ((first | refine VO.step rfl rfl ?_ | refine VD.end rfl rfl rfl ?_ | refine VD.mid rfl rfl rfl ?_); refine OpV.box rfl rfl rfl ?_; intro _; refine w ?_))
  (first | refine VO.step rfl rfl ?_ | refine VD.end rfl rfl rfl ?_ | refine VD.mid rfl rfl rfl ?_)
  refine OpV.makeMapL pairV pairG rfl ?_
  intro m
  (refine w ?_; repeat ((first | refine VO.step rfl rfl ?_ | refine VD.end rfl rfl rfl ?_ | refine VD.mid rfl rfl rfl ?_); refine OpV.box rfl rfl rfl ?_; intro _; refine w ?_))
  (apply VO.pure rfl rfl; apply PureAt.build sb_90 rfl; (simp [buildX, setL, Value.cells]; rfl); rfl)
  (first | refine VO.step rfl rfl ?_ | refine VD.end rfl rfl rfl ?_ | refine VD.mid rfl rfl rfl ?_)
  refine OpV.box rfl rfl rfl ?_
  intro b
  (refine w ?_; repeat ((first | refine VO.step rfl rfl ?_ | refine VD.end rfl rfl rfl ?_ | refine VD.mid rfl rfl rfl ?_); refine OpV.box rfl rfl rfl ?_; intro _; refine w ?_))
  refine VE.done b rfl trivial rfl ?_
  intro w hw
  refine LiftR.shut (x := ⟨m, none, 0, none, 0, [], []⟩) ⟨LiftOk.nil r, fun p h => (by cases h), hr⟩ w ?_
  have h1 := pile_nil (res := PatE.res) hw
  have h2 := Holds.ownNil 92 2 h1
  have h3 := Holds.ownNil 92 2 h2
  have hE : Ent W (WayN none 0 0 [] :: WayN none 0 0 [] :: PilP [] :: Row b 90 (liftC r ⟨m, none, 0, none, 0, [], []⟩) :: MapL pairV pairG m [] :: R) (liftO b r [] ⟨m, none, 0, none, 0, [], []⟩ R) := Ent.re
  exact hE w h3
theorem liftnew_bad {W : World} {R : List SProp} {r : Int} (hr : r < 0 ∨ 4095 < r) :
    Does1 W Try.prog 10 [.int .i64 r] R (.tuple #[.pointer none, .int .u16 3]) R := by
  (refine Does.enter Try.func10 Try.ntmps10 rfl rfl ?_)
  (refine w ?_; repeat ((first | refine VO.step rfl rfl ?_ | refine VD.end rfl rfl rfl ?_ | refine VD.mid rfl rfl rfl ?_); refine OpV.box rfl rfl rfl ?_; intro _; refine w ?_))
  ((first | refine VO.split rfl rfl rfl ?_ ?_ | refine VD.split rfl rfl rfl ?_ ?_) <;> intro hb)
  · (refine w ?_; repeat ((first | refine VO.step rfl rfl ?_ | refine VD.end rfl rfl rfl ?_ | refine VD.mid rfl rfl rfl ?_); refine OpV.box rfl rfl rfl ?_; intro _; refine w ?_))
    (refine VE.done1 rfl ?_ ?_)
    · rfl
    · exact Ent.refl
  · have := of_decide_eq_false hb
    (refine w ?_; repeat ((first | refine VO.step rfl rfl ?_ | refine VD.end rfl rfl rfl ?_ | refine VD.mid rfl rfl rfl ?_); refine OpV.box rfl rfl rfl ?_; intro _; refine w ?_))
    (refine VC.condTe rfl rfl (decide_eq_true (by omega)) ?_)
    (refine w ?_; repeat ((first | refine VO.step rfl rfl ?_ | refine VD.end rfl rfl rfl ?_ | refine VD.mid rfl rfl rfl ?_); refine OpV.box rfl rfl rfl ?_; intro _; refine w ?_))
    (refine VE.done1 rfl ?_ ?_)
    · rfl
    · exact Ent.refl
theorem liftlen_ok {W : World} {R : List SProp} {b : Nat} {r : Int} {ps : List PatE} : Does1 W Try.prog 24 [.pointer (some ⟨b, 0, none⟩)] (LiftR b r ps :: R) (.int .i64 ps.length) (LiftR b r ps :: R) := by
  refine DoesO (fun w hw => LiftR.open hw) fun x => ?_
  (refine Does.enter Try.func24 Try.ntmps24 rfl rfl ?_)
  (refine w ?_; repeat ((first | refine VO.step rfl rfl ?_ | refine VD.end rfl rfl rfl ?_ | refine VD.mid rfl rfl rfl ?_); refine OpV.box rfl rfl rfl ?_; intro _; refine w ?_))
  (first | refine VO.pure rfl rfl (PureAt.lenMap hasU rfl (by (focus repeat first | exact .head _ | apply List.Mem.tail))) rfl ?_ | refine VD.take rfl rfl rfl (PureAt.lenMap hasU rfl (by (focus repeat first | exact .head _ | apply List.Mem.tail))) rfl ?_ | refine VQ.pure rfl rfl (PureAt.lenMap hasU rfl (by (focus repeat first | exact .head _ | apply List.Mem.tail))) rfl ?_ | refine VD.end rfl rfl rfl (OpV.pure (PureAt.lenMap hasU rfl (by (focus repeat first | exact .head _ | apply List.Mem.tail))) rfl ?_))
  (refine w ?_; repeat ((first | refine VO.step rfl rfl ?_ | refine VD.end rfl rfl rfl ?_ | refine VD.mid rfl rfl rfl ?_); refine OpV.box rfl rfl rfl ?_; intro _; refine w ?_))
  (refine VE.done1 rfl ?_ ?_)
  · simp
  · exact LiftR.shut x.2
theorem liftrow_ok {W : World} {R : List SProp} {b : Nat} {r : Int} {ps : List PatE} : Does1 W Try.prog 25 [.pointer (some ⟨b, 0, none⟩)] (LiftR b r ps :: R) (.int .i64 r) (LiftR b r ps :: R) := by
  refine DoesO (fun w hw => LiftR.open hw) fun x => ?_
  (refine Does.enter Try.func25 Try.ntmps25 rfl rfl ?_)
  (refine w ?_; repeat ((first | refine VO.step rfl rfl ?_ | refine VD.end rfl rfl rfl ?_ | refine VD.mid rfl rfl rfl ?_); refine OpV.box rfl rfl rfl ?_; intro _; refine w ?_))
  (refine VE.done1 rfl ?_ ?_)
  · rfl
  · exact LiftR.shut x.2
theorem liftup_ok {W : World} {R : List SProp} {b : Nat} : Does1 W Try.prog 41 [.pointer (some ⟨b, 0, none⟩)] R (ptrW b 2) R := by
  (refine Does.enter Try.func41 Try.ntmps41 rfl rfl ?_)
  (refine w ?_; repeat ((first | refine VO.step rfl rfl ?_ | refine VD.end rfl rfl rfl ?_ | refine VD.mid rfl rfl rfl ?_); refine OpV.box rfl rfl rfl ?_; intro _; refine w ?_))
  (refine VE.done1 rfl ?_ ?_)
  · rfl
  · exact Ent.refl
theorem liftdown_ok {W : World} {R : List SProp} {b : Nat} : Does1 W Try.prog 42 [.pointer (some ⟨b, 0, none⟩)] R (ptrW b 3) R := by
  (refine Does.enter Try.func42 Try.ntmps42 rfl rfl ?_)
  (refine w ?_; repeat ((first | refine VO.step rfl rfl ?_ | refine VD.end rfl rfl rfl ?_ | refine VD.mid rfl rfl rfl ?_); refine OpV.box rfl rfl rfl ?_; intro _; refine w ?_))
  (refine VE.done1 rfl ?_ ?_)
  · rfl
  · exact Ent.refl
end Go.Proofs.Ytpmmkmcbimnigaa

/-! Text Yh. -/
/- lift.Lift: Put. -/
set_option maxRecDepth 8000
set_option linter.unusedVariables false
set_option linter.unusedSimpArgs false
set_option linter.unusedSectionVars false
namespace Go.Proofs.Ytpmmkmcbimnigaa
open Go.RowKit Go.Sl
attribute [local irreducible] Sl.Own

def putL (ps : List PatE) (q : PatE) : List PatE := ps.filter (fun x => x.place ≠ q.place) ++ [q]
theorem place_good {p : PatE} (h : p.In) : pairG p.place := by
  have h1 := h.m; have h2 := h.r
  constructor <;> simp [Lit.wf, IntKind.min, IntKind.max, IntKind.signed, IntKind.bits] <;> omega
theorem kv_filter (ps : List PatE) (k : Pl) : delD (ps.map PatE.kv) k = (ps.filter fun x => x.place ≠ k).map PatE.kv := by
  unfold delD
  rw [List.filter_map]
  rfl
theorem kv_put (ps : List PatE) (q : PatE) : putD (ps.map PatE.kv) q.place q.d.hdr = (putL ps q).map PatE.kv := by
  unfold putD putL
  rw [List.map_append, ← kv_filter]
  rfl
theorem kv_none {ps : List PatE} {k : Pl} (h : k ∉ ps.map PatE.place) : getD (ps.map PatE.kv) k = none := getD_none fun x hx => by
  obtain ⟨q, hq, rfl⟩ := List.mem_map.1 hx
  intro e
  exact h (e ▸ List.mem_map_of_mem hq)
theorem kv_some {ps : List PatE} {q : PatE} (h1 : (ps.map PatE.place).Nodup) (h : q ∈ ps) : getD (ps.map PatE.kv) q.place = some q.d.hdr := getD_some (by rw [List.map_map]; exact h1) (List.mem_map_of_mem (f := PatE.kv) h)
theorem place_put (ps : List PatE) (q : PatE) : (putL ps q).map PatE.place = ((ps.map PatE.place).filter fun x => x ≠ q.place) ++ [q.place] := by
  unfold putL
  rw [List.map_append, List.filter_map]
  rfl
theorem put_in {ps : List PatE} {q : PatE} (h : ∀ p ∈ ps, p.In) (hq : q.In) : ∀ p ∈ putL ps q, p.In := by
  intro p hp
  rcases List.mem_append.1 hp with h1 | h1
  · exact h p (List.mem_filter.1 h1).1
  · rw [List.mem_singleton] at h1; subst h1; exact hq
theorem way_small {r : Int} {ps : List PatE} {x : LiftX} (g : LiftG r ps x) : x.A.length ≤ ps.length ∧ x.B.length ≤ ps.length := by
  have h1 := g.ok.ahead.length_eq
  have h2 := g.ok.below.length_eq
  have h3 := List.length_filter_le (fun x : Pl => decide (r ≤ x.2)) (ps.map PatE.place)
  have h4 := List.length_filter_le (fun x : Pl => decide (x.2 < r)) (ps.map PatE.place)
  rw [List.length_map] at h3 h4
  omega

theorem pile_cons {W w : World} {α : Type} {res : α → SProp} {a : α} {l : List α} {R : List SProp} (h : Holds W (res a :: pile res l :: R) w) : Holds W (pile res (a :: l) :: R) w := by
  have h2 := (h.swap).join
  refine Holds.nest (L := (a :: l).map res) ?_
  exact h2.perm List.perm_middle
theorem pile_head {W w : World} {α : Type} {res : α → SProp} {a : α} {l : List α} {R : List SProp} (h : Holds W (pile res (a :: l) :: R) w) : Holds W (res a :: pile res l :: R) w := pile_out (i := 0) (by simp) h
theorem pile_keep {W : World} {α : Type} {res : α → SProp} (f : α → Bool) : ∀ (l : List α) (R : List SProp), Ent W (pile res l :: R) (pile res (l.filter f) :: R)
  | [], R => Ent.refl
  | a :: l, R => fun w hw => by
    have h1 := pile_keep f l (res a :: R) w (pile_head hw).swap
    by_cases q : f a = true
    · rw [List.filter_cons_of_pos q]; exact pile_cons h1.swap
    · rw [List.filter_cons_of_neg q]; exact h1.swap.tail
theorem boolK : KeyT Try.prog 4 Bool boolV (fun _ => True) := KeyT.bool (by kernel_rfl)
theorem waysU : Try.prog.underlying 100 = some (.map 4 98) := by kernel_rfl
set_option maxHeartbeats 4000000 in
theorem liftput_ok {W : World} {R : List SProp} {b : Nat} {r : Int} {ps : List PatE} {p : PatE} (hp : p.In) (hrd : Rds W R 1 p.d.ao p.d.data.length (bytes p.d.data)) (hps : ps.length ≤ 800000) :
    Does W Try.prog 20 [.pointer (some ⟨b, 0, none⟩), .agg p.cells.toArray] (LiftR b r ps :: R) (β := Option Addr × Nat) (fun _ => True) (fun _ => .int .u16 0) (fun y => LiftR b r (putL ps ⟨p.member, p.row, ⟨y.1, y.2, p.d.data⟩⟩) :: R) := by
  have hm := hp.m; have hr := hp.r; have hl := hp.n
  have hgood := place_good hp
  refine DoesO (fun w hw => LiftR.open hw) fun ⟨x, g⟩ => ?_
  have hsm := way_small g
  obtain ⟨fs, hfs⟩ : ∃ fs, Try.prog.underlying 92 = some (.struct fs) := ⟨_, rfl⟩
  obtain ⟨pt, hptr⟩ : ∃ pt, Try.prog.underlying 94 = some (.pointer pt) := ⟨_, rfl⟩
  (refine Does.enter Try.func20 Try.ntmps20 rfl rfl ?_)
  (refine w ?_; repeat ((first | refine VO.step rfl rfl ?_ | refine VD.end rfl rfl rfl ?_ | refine VD.mid rfl rfl rfl ?_); refine OpV.box rfl rfl rfl ?_; intro _; refine w ?_))
  rename_i n3
  (first | refine VO.gF rfl rfl rfl (decide_eq_false (by omega)) ?_ | refine VD.gF rfl rfl rfl (decide_eq_false (by omega)) ?_)
  (refine w ?_; repeat ((first | refine VO.step rfl rfl ?_ | refine VD.end rfl rfl rfl ?_ | refine VD.mid rfl rfl rfl ?_); refine OpV.box rfl rfl rfl ?_; intro _; refine w ?_))
  (first | refine VO.gF rfl rfl rfl (decide_eq_false (by omega)) ?_ | refine VD.gF rfl rfl rfl (decide_eq_false (by omega)) ?_)
  (refine w ?_; repeat ((first | refine VO.step rfl rfl ?_ | refine VD.end rfl rfl rfl ?_ | refine VD.mid rfl rfl rfl ?_); refine OpV.box rfl rfl rfl ?_; intro _; refine w ?_))
  (first | refine VO.gF rfl rfl rfl (decide_eq_false (by omega)) ?_ | refine VD.gF rfl rfl rfl (decide_eq_false (by omega)) ?_)
  (refine w ?_; repeat ((first | refine VO.step rfl rfl ?_ | refine VD.end rfl rfl rfl ?_ | refine VD.mid rfl rfl rfl ?_); refine OpV.box rfl rfl rfl ?_; intro _; refine w ?_))
  (refine VC.condFe rfl rfl (decide_eq_false (by omega)) ?_)
  (refine w ?_; repeat ((first | refine VO.step rfl rfl ?_ | refine VD.end rfl rfl rfl ?_ | refine VD.mid rfl rfl rfl ?_); refine OpV.box rfl rfl rfl ?_; intro _; refine w ?_))
  (refine VC.condFe rfl rfl (by simp [hl]) ?_)
  (refine w ?_; repeat ((first | refine VO.step rfl rfl ?_ | refine VD.end rfl rfl rfl ?_ | refine VD.mid rfl rfl rfl ?_); refine OpV.box rfl rfl rfl ?_; intro _; refine w ?_))
  (apply VO.pure rfl rfl; apply PureAt.build sb_92 rfl; (simp [buildX, setL, Value.cells]; rfl); rfl)
  (first | refine VO.step rfl rfl ?_ | refine VD.end rfl rfl rfl ?_ | refine VD.mid rfl rfl rfl ?_)
  refine OpV.allocS sb_92 rfl ?_
  intro n5
  (first | refine VO.step rfl rfl ?_ | refine VD.end rfl rfl rfl ?_ | refine VD.mid rfl rfl rfl ?_)
  refine OpV.stA (vs := [.int .i64 p.member, .int .i64 p.row]) tab_ok rfl rfl rfl rfl (plc_one p.place) (by (repeat first | exact .head | apply Hole.tail)) (by simp) ?_
  (refine w ?_; repeat ((first | refine VO.step rfl rfl ?_ | refine VD.end rfl rfl rfl ?_ | refine VD.mid rfl rfl rfl ?_); refine OpV.box rfl rfl rfl ?_; intro _; refine w ?_))
  refine VC.ent (H' := Row n5 92 [.int .i64 p.member, .int .i64 p.row] :: Row n3 49 p.cells :: liftO b r ps x R) Ent.re ?_
  (refine VC.drawn [] 10 [0, 1, 2, 3, 4, 5, 6, 7, 8, 9, 10] _ rfl (by kernel_rfl) (by kernel_rfl) Ent.re ?_)
  (refine w ?_; repeat ((first | refine VO.step rfl rfl ?_ | refine VD.end rfl rfl rfl ?_ | refine VD.mid rfl rfl rfl ?_); refine OpV.box rfl rfl rfl ?_; intro _; refine w ?_))
  (first | refine VO.pure rfl rfl (PureAt.lookupOk (k := p.place) (z := .slice none 0 0) hasU plK hgood (fun w => by simp) rfl rfl (by (focus repeat first | exact .head _ | apply List.Mem.tail))) rfl ?_ | refine VD.take rfl rfl rfl (PureAt.lookupOk (k := p.place) (z := .slice none 0 0) hasU plK hgood (fun w => by simp) rfl rfl (by (focus repeat first | exact .head _ | apply List.Mem.tail))) rfl ?_ | refine VQ.pure rfl rfl (PureAt.lookupOk (k := p.place) (z := .slice none 0 0) hasU plK hgood (fun w => by simp) rfl rfl (by (focus repeat first | exact .head _ | apply List.Mem.tail))) rfl ?_ | refine VD.end rfl rfl rfl (OpV.pure (PureAt.lookupOk (k := p.place) (z := .slice none 0 0) hasU plK hgood (fun w => by simp) rfl rfl (by (focus repeat first | exact .head _ | apply List.Mem.tail))) rfl ?_))
  (refine w ?_; repeat ((first | refine VO.step rfl rfl ?_ | refine VD.end rfl rfl rfl ?_ | refine VD.mid rfl rfl rfl ?_); refine OpV.box rfl rfl rfl ?_; intro _; refine w ?_))
  (refine VC.join (α := LiftX) (fun y => y.m = x.m ∧ LiftOk r ((ps.map PatE.place).filter (fun z => z ≠ p.place) ++ [p.place]) y.A y.B) (fun y => Row n5 92 [.int .i64 p.member, .int .i64 p.row] :: Row n3 49 p.cells :: liftO b r ps y R) (fun _ => [(0, .pointer (some ⟨b, 0, none⟩)), (3, .pointer (some ⟨n3, 0, none⟩)), (5, .pointer (some ⟨n5, 0, none⟩))]) ?_ ?_)
  · intro Q2 jn
    by_cases hk : p.place ∈ ps.map PatE.place
    · have hsome : (getD (ps.map PatE.kv) p.place).isSome = true := by
        obtain ⟨q, hq, he⟩ := List.mem_map.1 hk
        rw [← he, kv_some g.ok.one hq]; rfl
      (refine VC.condFe rfl rfl (by rw [hsome]; rfl) ?_)
      (refine w ?_; repeat ((first | refine VO.step rfl rfl ?_ | refine VD.end rfl rfl rfl ?_ | refine VD.mid rfl rfl rfl ?_); refine OpV.box rfl rfl rfl ?_; intro _; refine w ?_))
      (refine jn.to x ⟨rfl, g.ok.old hk⟩ ⟨rfl, rfl, rfl, trivial⟩ ?_; (try dsimp only); exact Ent.re)
    · have hnone : (getD (ps.map PatE.kv) p.place).isSome = false := by rw [kv_none hk]; rfl
      (refine VC.condTe rfl rfl (by rw [hnone]; rfl) ?_)
      rw [notin_filter hk] at jn
      (refine w ?_; repeat ((first | refine VO.step rfl rfl ?_ | refine VD.end rfl rfl rfl ?_ | refine VD.mid rfl rfl rfl ?_); refine OpV.box rfl rfl rfl ?_; intro _; refine w ?_))
      (first | refine VO.step rfl rfl ?_ | refine VD.end rfl rfl rfl ?_ | refine VD.mid rfl rfl rfl ?_)
      refine OpV.makeMapL boolV (fun _ => True) rfl ?_
      intro nm
      (first | refine VO.step rfl rfl ?_ | refine VD.end rfl rfl rfl ?_ | refine VD.mid rfl rfl rfl ?_)
      refine OpV.insertL (k := true) waysU boolK trivial rfl rfl rfl (by (repeat first | exact .head | apply Hole.tail)) ?_
      (first | refine VO.step rfl rfl ?_ | refine VD.end rfl rfl rfl ?_ | refine VD.mid rfl rfl rfl ?_)
      refine OpV.insertL (k := false) waysU boolK trivial rfl rfl rfl (by (repeat first | exact .head | apply Hole.tail)) ?_
      (refine w ?_; repeat ((first | refine VO.step rfl rfl ?_ | refine VD.end rfl rfl rfl ?_ | refine VD.mid rfl rfl rfl ?_); refine OpV.box rfl rfl rfl ?_; intro _; refine w ?_))
      by_cases hrow : r ≤ p.row
      · (refine VC.drawn [10] 14 [0, 1, 2, 3, 4, 5, 6, 7, 8, 9, 12, 13, 10, 11, 14] _ rfl (by kernel_rfl) (by kernel_rfl) Ent.re ?_)
        (refine w ?_; repeat ((first | refine VO.step rfl rfl ?_ | refine VD.end rfl rfl rfl ?_ | refine VD.mid rfl rfl rfl ?_); refine OpV.box rfl rfl rfl ?_; intro _; refine w ?_))
        refine VD.re 58 (boolV true) rfl (by rw [decide_eq_true hrow]) ?_
        (first | refine VO.pure rfl rfl (PureAt.lookup1 (k := true) waysU boolK trivial (fun w => by simp; rfl) rfl rfl (by (focus repeat first | exact .head _ | apply List.Mem.tail))) rfl ?_ | refine VD.take rfl rfl rfl (PureAt.lookup1 (k := true) waysU boolK trivial (fun w => by simp; rfl) rfl rfl (by (focus repeat first | exact .head _ | apply List.Mem.tail))) rfl ?_ | refine VQ.pure rfl rfl (PureAt.lookup1 (k := true) waysU boolK trivial (fun w => by simp; rfl) rfl rfl (by (focus repeat first | exact .head _ | apply List.Mem.tail))) rfl ?_ | refine VD.end rfl rfl rfl (OpV.pure (PureAt.lookup1 (k := true) waysU boolK trivial (fun w => by simp; rfl) rfl rfl (by (focus repeat first | exact .head _ | apply List.Mem.tail))) rfl ?_))
        refine VD.re 59 (.func (.func 41) #[] #[]) rfl (by rfl) ?_
        (refine w ?_; repeat ((first | refine VO.step rfl rfl ?_ | refine VD.end rfl rfl rfl ?_ | refine VD.mid rfl rfl rfl ?_); refine OpV.box rfl rfl rfl ?_; intro _; refine w ?_))
        (first | refine VO.pure rfl rfl (PureAt.makeIface hfs (fun ms h => by cases h) rfl) rfl ?_ | refine VD.take rfl rfl rfl (PureAt.makeIface hfs (fun ms h => by cases h) rfl) rfl ?_ | refine VQ.pure rfl rfl (PureAt.makeIface hfs (fun ms h => by cases h) rfl) rfl ?_ | refine VD.end rfl rfl rfl (OpV.pure (PureAt.makeIface hfs (fun ms h => by cases h) rfl) rfl ?_))
        (first | refine VO.step rfl rfl ?_ | refine VD.end rfl rfl rfl ?_ | refine VD.mid rfl rfl rfl ?_)
        refine OpV.call rfl rfl (fun _ _ => by simp) (liftup_ok (b := b)) Ent.refl rfl ?_
        intro _ _
        refine ⟨Ent.re, ?_⟩
        (first | refine VO.pure rfl rfl (PureAt.makeIface hptr (fun ms h => by cases h) rfl) rfl ?_ | refine VD.take rfl rfl rfl (PureAt.makeIface hptr (fun ms h => by cases h) rfl) rfl ?_ | refine VQ.pure rfl rfl (PureAt.makeIface hptr (fun ms h => by cases h) rfl) rfl ?_ | refine VD.end rfl rfl rfl (OpV.pure (PureAt.makeIface hptr (fun ms h => by cases h) rfl) rfl ?_))
        (refine w ?_; repeat ((first | refine VO.step rfl rfl ?_ | refine VD.end rfl rfl rfl ?_ | refine VD.mid rfl rfl rfl ?_); refine OpV.box rfl rfl rfl ?_; intro _; refine w ?_))
        ((first | refine VO.step rfl rfl ?_ | refine VD.end rfl rfl rfl ?_ | refine VD.mid rfl rfl rfl ?_); refine OpV.call rfl rfl (fun _ _ => by simp) (heappush_ok (R := Row n5 92 [.int .i64 p.member, .int .i64 p.row] :: Row n3 49 p.cells :: MapL pairV pairG x.m (ps.map PatE.kv) :: WayN x.bo x.bc x.B.length x.B :: PilP ps :: R) (b := b) (off := 2) (T := 90) (cs := liftC r x) (ao := x.ao) (cap := x.ac) (l := x.A) (p := p.place) (n := x.A.length) rfl rfl (by omega) g.ok.hA) Ent.re rfl ?_)
        rintro ⟨⟨a2, c2⟩, l2⟩ ⟨h1, h2⟩
        dsimp only at h1 h2 ⊢
        have hlen : l2.length = x.A.length + 1 := h1.length_eq
        rw [← hlen] at h2 ⊢
        (refine w ?_; repeat ((first | refine VO.step rfl rfl ?_ | refine VD.end rfl rfl rfl ?_ | refine VD.mid rfl rfl rfl ?_); refine OpV.box rfl rfl rfl ?_; intro _; refine w ?_))
        (refine jn.to (⟨x.m, some a2, c2, x.bo, x.bc, l2, x.B⟩ : LiftX) ⟨rfl, g.ok.newA hk hrow hp.r.1 h1 h2⟩ ⟨rfl, rfl, rfl, trivial⟩ ?_; (try dsimp only); exact Ent.re)
      · (refine VC.drawn [10] 14 [0, 1, 2, 3, 4, 5, 6, 7, 8, 9, 12, 13, 10, 11, 14] _ rfl (by kernel_rfl) (by kernel_rfl) Ent.re ?_)
        (refine w ?_; repeat ((first | refine VO.step rfl rfl ?_ | refine VD.end rfl rfl rfl ?_ | refine VD.mid rfl rfl rfl ?_); refine OpV.box rfl rfl rfl ?_; intro _; refine w ?_))
        refine VD.re 58 (boolV false) rfl (by rw [decide_eq_false hrow]) ?_
        (first | refine VO.pure rfl rfl (PureAt.lookup1 (k := false) waysU boolK trivial (fun w => by simp; rfl) rfl rfl (by (focus repeat first | exact .head _ | apply List.Mem.tail))) rfl ?_ | refine VD.take rfl rfl rfl (PureAt.lookup1 (k := false) waysU boolK trivial (fun w => by simp; rfl) rfl rfl (by (focus repeat first | exact .head _ | apply List.Mem.tail))) rfl ?_ | refine VQ.pure rfl rfl (PureAt.lookup1 (k := false) waysU boolK trivial (fun w => by simp; rfl) rfl rfl (by (focus repeat first | exact .head _ | apply List.Mem.tail))) rfl ?_ | refine VD.end rfl rfl rfl (OpV.pure (PureAt.lookup1 (k := false) waysU boolK trivial (fun w => by simp; rfl) rfl rfl (by (focus repeat first | exact .head _ | apply List.Mem.tail))) rfl ?_))
        refine VD.re 59 (.func (.func 42) #[] #[]) rfl (by rfl) ?_
        (refine w ?_; repeat ((first | refine VO.step rfl rfl ?_ | refine VD.end rfl rfl rfl ?_ | refine VD.mid rfl rfl rfl ?_); refine OpV.box rfl rfl rfl ?_; intro _; refine w ?_))
        (first | refine VO.pure rfl rfl (PureAt.makeIface hfs (fun ms h => by cases h) rfl) rfl ?_ | refine VD.take rfl rfl rfl (PureAt.makeIface hfs (fun ms h => by cases h) rfl) rfl ?_ | refine VQ.pure rfl rfl (PureAt.makeIface hfs (fun ms h => by cases h) rfl) rfl ?_ | refine VD.end rfl rfl rfl (OpV.pure (PureAt.makeIface hfs (fun ms h => by cases h) rfl) rfl ?_))
        (first | refine VO.step rfl rfl ?_ | refine VD.end rfl rfl rfl ?_ | refine VD.mid rfl rfl rfl ?_)
        refine OpV.call rfl rfl (fun _ _ => by simp) (liftdown_ok (b := b)) Ent.refl rfl ?_
        intro _ _
        refine ⟨Ent.re, ?_⟩
        (first | refine VO.pure rfl rfl (PureAt.makeIface hptr (fun ms h => by cases h) rfl) rfl ?_ | refine VD.take rfl rfl rfl (PureAt.makeIface hptr (fun ms h => by cases h) rfl) rfl ?_ | refine VQ.pure rfl rfl (PureAt.makeIface hptr (fun ms h => by cases h) rfl) rfl ?_ | refine VD.end rfl rfl rfl (OpV.pure (PureAt.makeIface hptr (fun ms h => by cases h) rfl) rfl ?_))
        (refine w ?_; repeat ((first | refine VO.step rfl rfl ?_ | refine VD.end rfl rfl rfl ?_ | refine VD.mid rfl rfl rfl ?_); refine OpV.box rfl rfl rfl ?_; intro _; refine w ?_))
        ((first | refine VO.step rfl rfl ?_ | refine VD.end rfl rfl rfl ?_ | refine VD.mid rfl rfl rfl ?_); refine OpV.call rfl rfl (fun _ _ => by simp) (heappush_ok (R := Row n5 92 [.int .i64 p.member, .int .i64 p.row] :: Row n3 49 p.cells :: MapL pairV pairG x.m (ps.map PatE.kv) :: WayN x.ao x.ac x.A.length x.A :: PilP ps :: R) (b := b) (off := 3) (T := 90) (cs := liftC r x) (ao := x.bo) (cap := x.bc) (l := x.B) (p := p.place) (n := x.B.length) rfl rfl (by omega) g.ok.hB) Ent.re rfl ?_)
        rintro ⟨⟨a2, c2⟩, l2⟩ ⟨h1, h2⟩
        dsimp only at h1 h2 ⊢
        have hlen : l2.length = x.B.length + 1 := h1.length_eq
        rw [← hlen] at h2 ⊢
        (refine w ?_; repeat ((first | refine VO.step rfl rfl ?_ | refine VD.end rfl rfl rfl ?_ | refine VD.mid rfl rfl rfl ?_); refine OpV.box rfl rfl rfl ?_; intro _; refine w ?_))
        (refine jn.to (⟨x.m, x.ao, x.ac, some a2, c2, x.A, l2⟩ : LiftX) ⟨rfl, g.ok.newB hk (Int.not_le.1 hrow) hp.r.1 h1 h2⟩ ⟨rfl, rfl, rfl, trivial⟩ ?_; (try dsimp only); exact Ent.re)
  · rintro y ⟨hy, hok⟩
    (refine w ?_; repeat ((first | refine VO.step rfl rfl ?_ | refine VD.end rfl rfl rfl ?_ | refine VD.mid rfl rfl rfl ?_); refine OpV.box rfl rfl rfl ?_; intro _; refine w ?_))
    (refine VC.drawn [7] 8 [0, 1, 2, 3, 4, 5, 6, 7, 8] _ rfl (by kernel_rfl) (by kernel_rfl) Ent.re ?_)
    (refine w ?_; repeat ((first | refine VO.step rfl rfl ?_ | refine VD.end rfl rfl rfl ?_ | refine VD.mid rfl rfl rfl ?_); refine OpV.box rfl rfl rfl ?_; intro _; refine w ?_))
    ((first | refine VO.step rfl rfl ?_ | refine VD.end rfl rfl rfl ?_ | refine VD.mid rfl rfl rfl ?_); refine OpV.call rfl rfl (fun _ _ => by simp) (clone_ok (cap := p.d.cap) (hrd.ent Ent.re) (by omega)) Ent.refl rfl ?_)
    intro z _
    refine ⟨Ent.re, ?_⟩
    (first | refine VO.step rfl rfl ?_ | refine VD.end rfl rfl rfl ?_ | refine VD.mid rfl rfl rfl ?_)
    refine OpV.mapUpdateL (k := p.place) hasU plK hgood rfl rfl rfl (by (repeat first | exact .head | apply Hole.tail)) ?_
    (refine w ?_; repeat ((first | refine VO.step rfl rfl ?_ | refine VD.end rfl rfl rfl ?_ | refine VD.mid rfl rfl rfl ?_); refine OpV.box rfl rfl rfl ?_; intro _; refine w ?_))
    refine VE.done z rfl trivial rfl ?_
    have hq : PatE.In ⟨p.member, p.row, ⟨z.1, z.2, p.d.data⟩⟩ := ⟨hp.m, hp.r, hp.n⟩
    have hE : LiftG r (putL ps ⟨p.member, p.row, ⟨z.1, z.2, p.d.data⟩⟩) y := ⟨by rw [place_put]; exact hok, put_in g.all hq, g.row⟩
    refine Ent.trans (Ent.re (L := PilP ps :: (PatE.res ⟨p.member, p.row, ⟨z.1, z.2, p.d.data⟩⟩) :: Row b 90 (liftC r y) :: MapL pairV pairG y.m (putD (ps.map PatE.kv) p.place (.slice z.1 p.d.data.length z.2)) :: WayN y.ao y.ac y.A.length y.A :: WayN y.bo y.bc y.B.length y.B :: R)) fun w hw => ?_
    have h1 := pile_push (pile_keep (fun v : PatE => v.place ≠ p.place) ps _ w hw).swap
    rw [show putD (ps.map PatE.kv) p.place (.slice z.1 p.d.data.length z.2) = _ from kv_put ps ⟨p.member, p.row, ⟨z.1, z.2, p.d.data⟩⟩] at h1
    have hF : Ent W (PilP (putL ps ⟨p.member, p.row, ⟨z.1, z.2, p.d.data⟩⟩) :: Row b 90 (liftC r y) :: MapL pairV pairG y.m ((putL ps ⟨p.member, p.row, ⟨z.1, z.2, p.d.data⟩⟩).map PatE.kv) :: WayN y.ao y.ac y.A.length y.A :: WayN y.bo y.bc y.B.length y.B :: R) (liftO b r (putL ps ⟨p.member, p.row, ⟨z.1, z.2, p.d.data⟩⟩) y R) := Ent.re
    exact LiftR.shut hE w (hF w h1)
end Go.Proofs.Ytpmmkmcbimnigaa

/-! Text Yi. -/
/- lift.Lift: Next. -/
set_option maxRecDepth 8000
set_option linter.unusedVariables false
set_option linter.unusedSimpArgs false
set_option linter.unusedSectionVars false
namespace Go.Proofs.Ytpmmkmcbimnigaa
open Go.RowKit Go.Sl
attribute [local irreducible] Sl.Own

theorem pile_perm {W w : World} {α : Type} {res : α → SProp} {l m : List α} {R : List SProp} (p : List.Perm l m) (h : Holds W (pile res l :: R) w) : Holds W (pile res m :: R) w :=
  Holds.nest (L := m.map res) (h.join.perm ((p.map res).append_right R))
/-- One is taken out, those of its place go. -/
theorem pile_take {W w : World} {ps : List PatE} {p : PatE} {R : List SProp} (hp : p ∈ ps) (h : Holds W (PilP ps :: R) w) : Holds W (p.res :: PilP (ps.filter fun x => x.place ≠ p.place) :: R) w := by
  obtain ⟨s, t, rfl⟩ := List.append_of_mem hp
  have h1 := pile_head (pile_perm (List.perm_middle) h)
  have h2 := pile_keep (fun x : PatE => decide (x.place ≠ p.place)) (s ++ t) (p.res :: R) w h1.swap
  have e : (s ++ p :: t).filter (fun x : PatE => decide (x.place ≠ p.place)) = (s ++ t).filter (fun x : PatE => decide (x.place ≠ p.place)) := by
    rw [List.filter_append, List.filter_append, List.filter_cons_of_neg (by simp)]
  rw [e]
  exact h2.swap
theorem ahead_ne {r : Int} {K A B : List Pl} (h : LiftOk (base r K) K A B) (hK : K ≠ []) : A ≠ [] := by
  intro hA
  subst hA
  obtain ⟨_, hall⟩ := h.wrap
  by_cases q : (K.any fun x => decide (r ≤ x.2)) = true
  · obtain ⟨x, hx, h2⟩ := List.any_eq_true.1 q
    have h3 : r ≤ x.2 := by simpa using h2
    have := hall x hx
    rw [base_pos hx h3] at this
    omega
  · obtain ⟨x, hx⟩ := List.exists_mem_of_ne_nil K hK
    have h1 := hall x hx
    unfold base at h1
    rw [if_neg q] at h1
    have := h.pos x hx
    omega
theorem map_wo (ps : List PatE) (k : Pl) : (ps.filter fun x => x.place ≠ k).map PatE.place = (ps.map PatE.place).filter fun x => x ≠ k := by
  rw [List.filter_map]; rfl
abbrev zeroPa : List Value := [.int .i64 0, .int .i64 0, .slice none 0 0]

set_option maxHeartbeats 4000000 in
theorem liftnext_ok {W : World} {R : List SProp} {b : Nat} {r : Int} {ps : List PatE} (hne : ps ≠ []) (hps : ps.length ≤ 800000) :
    Does W Try.prog 12 [.pointer (some ⟨b, 0, none⟩)] (LiftR b r ps :: R) (β := PatE) (fun p => p ∈ ps ∧ IsNext r (ps.map PatE.place) p.place) (fun p => .tuple #[.agg p.cells.toArray, .bool true])
      (fun p => p.res :: LiftR b p.row (ps.filter fun x => x.place ≠ p.place) :: R) := by
  refine DoesO (fun w hw => LiftR.open hw) fun ⟨x, g⟩ => ?_
  have hsm := way_small g
  obtain ⟨fs, hfs⟩ : ∃ fs, Try.prog.underlying 92 = some (.struct fs) := ⟨_, rfl⟩
  obtain ⟨pt, hptr⟩ : ∃ pt, Try.prog.underlying 94 = some (.pointer pt) := ⟨_, rfl⟩
  (refine Does.enter Try.func12 Try.ntmps12 rfl rfl ?_)
  (refine w ?_; repeat ((first | refine VO.step rfl rfl ?_ | refine VD.end rfl rfl rfl ?_ | refine VD.mid rfl rfl rfl ?_); refine OpV.box rfl rfl rfl ?_; intro _; refine w ?_))
  (first | refine VO.step rfl rfl ?_ | refine VD.end rfl rfl rfl ?_ | refine VD.mid rfl rfl rfl ?_)
  refine OpV.allocS sb_49 rfl ?_
  intro n2
  (refine w ?_; repeat ((first | refine VO.step rfl rfl ?_ | refine VD.end rfl rfl rfl ?_ | refine VD.mid rfl rfl rfl ?_); refine OpV.box rfl rfl rfl ?_; intro _; refine w ?_))
  have hbase : x.A ≠ [] → base r (ps.map PatE.place) = r := fun h => by
    obtain ⟨k, hk⟩ := List.exists_mem_of_ne_nil _ h
    have := g.ok.ahead.subset hk
    rw [List.mem_filter] at this
    exact base_pos this.1 (by simpa using this.2)
  (refine VC.join (α := LiftX) (fun y => y.m = x.m ∧ LiftOk (base r (ps.map PatE.place)) (ps.map PatE.place) y.A y.B ∧ y.A.length ≤ ps.length) (fun y => Row n2 49 zeroPa :: liftO b r ps y R) (fun _ => [(0, .pointer (some ⟨b, 0, none⟩)), (2, .pointer (some ⟨n2, 0, none⟩)), (3, .bool false)]) ?_ ?_)
  · intro Q2 jn
    by_cases hA : x.A = []
    · (refine VC.condTe rfl rfl (by simp [hA]) ?_)
      (refine w ?_; repeat ((first | refine VO.step rfl rfl ?_ | refine VD.end rfl rfl rfl ?_ | refine VD.mid rfl rfl rfl ?_); refine OpV.box rfl rfl rfl ?_; intro _; refine w ?_))
      have hw0 := g.ok
      rw [hA] at hw0
      obtain ⟨hw1, hw2⟩ := hw0.wrap
      refine VE.ent (fun w hw => Holds.ownNil 92 2 hw) ?_
      (refine jn.to (⟨x.m, x.bo, x.bc, none, 0, x.B, []⟩ : LiftX) ⟨rfl, by rw [base_neg hw2]; exact hw1, hsm.2⟩ ⟨rfl, rfl, rfl, trivial⟩ ?_; (try dsimp only); exact Ent.re)
    · have hA2 : x.A.length ≠ 0 := fun h => hA (List.length_eq_zero_iff.1 h)
      (refine VC.condFe rfl rfl (by simp [hA]) ?_)
      (refine w ?_; repeat ((first | refine VO.step rfl rfl ?_ | refine VD.end rfl rfl rfl ?_ | refine VD.mid rfl rfl rfl ?_); refine OpV.box rfl rfl rfl ?_; intro _; refine w ?_))
      (refine jn.to x ⟨rfl, by rw [hbase hA]; exact g.ok, hsm.1⟩ ⟨rfl, rfl, rfl, trivial⟩ ?_; (try dsimp only); exact Ent.re)
  · rintro y ⟨hy, hok, hya⟩
    have hyA := ahead_ne hok (by simpa using hne)
    (refine w ?_; repeat ((first | refine VO.step rfl rfl ?_ | refine VD.end rfl rfl rfl ?_ | refine VD.mid rfl rfl rfl ?_); refine OpV.box rfl rfl rfl ?_; intro _; refine w ?_))
    (refine VC.condFe rfl rfl (by simp [hyA]) ?_)
    (refine w ?_; repeat ((first | refine VO.step rfl rfl ?_ | refine VD.end rfl rfl rfl ?_ | refine VD.mid rfl rfl rfl ?_); refine OpV.box rfl rfl rfl ?_; intro _; refine w ?_))
    (first | refine VO.pure rfl rfl (PureAt.makeIface hptr (fun ms h => by cases h) rfl) rfl ?_ | refine VD.take rfl rfl rfl (PureAt.makeIface hptr (fun ms h => by cases h) rfl) rfl ?_ | refine VQ.pure rfl rfl (PureAt.makeIface hptr (fun ms h => by cases h) rfl) rfl ?_ | refine VD.end rfl rfl rfl (OpV.pure (PureAt.makeIface hptr (fun ms h => by cases h) rfl) rfl ?_))
    refine VO.know (p := y.ao = none → y.A.length = 0) (fun w hw => Holds.ownNone hw (by (focus repeat first | exact .head _ | apply List.Mem.tail))) ?_
    intro hnn
    obtain ⟨m, ao, ac, bo, bc, A, B⟩ := y
    dsimp only at hy hok hya hyA hnn ⊢
    subst hy
    obtain ⟨n, hn⟩ : ∃ n, A.length = n + 1 := ⟨A.length - 1, by have := List.length_pos_iff.2 hyA; omega⟩
    obtain ⟨a, rfl⟩ : ∃ a, ao = some a := by cases ao with | none => have := hnn rfl; omega | some a => exact ⟨a, rfl⟩
    refine VO.ent (H' := Row b 90 [.int .i64 r, .map (some x.m), .slice (some a) (n + 1) ac, .slice bo B.length bc] :: WayN (some a) ac (n + 1) A :: Row n2 49 zeroPa :: MapL pairV pairG x.m (ps.map PatE.kv) :: WayN bo bc B.length B :: PilP ps :: R) (by dsimp only [liftO, liftC]; rw [hn]; exact Ent.re) ?_
    (refine w ?_; repeat ((first | refine VO.step rfl rfl ?_ | refine VD.end rfl rfl rfl ?_ | refine VD.mid rfl rfl rfl ?_); refine OpV.box rfl rfl rfl ?_; intro _; refine w ?_))
    ((first | refine VO.step rfl rfl ?_ | refine VD.end rfl rfl rfl ?_ | refine VD.mid rfl rfl rfl ?_); refine OpV.call rfl rfl (fun _ _ => by simp) (heappop_ok (R := Row n2 49 zeroPa :: MapL pairV pairG x.m (ps.map PatE.kv) :: WayN bo bc B.length B :: PilP ps :: R) (b := b) (off := 2) (T := 90) (cs := [.int .i64 r, .map (some x.m), .slice (some a) (n + 1) ac, .slice bo B.length bc]) (l := A) (n := n) rfl hn (by omega) (by have := hok.hA; rwa [hn] at this)) Ent.re rfl ?_)
    rintro A2 ⟨h1, h2, h3⟩
    have hnx := hok.next (k := pl A 0) rfl h1 (by rw [h3]; exact h2)
    have hAp := h1
    generalize pl A 0 = k at h1 hnx ⊢
    obtain ⟨hn1, hn2, hn3, hn4⟩ := hnx
    obtain ⟨p, hp, rfl⟩ := List.mem_map.1 hn2
    have hin := g.all p hp
    have hgood := place_good hin
    have hget : getD (ps.map PatE.kv) p.place = some p.d.hdr := kv_some g.ok.one hp
    (first | refine VO.pure rfl rfl (PureAt.assertIface hfs (fun ms h => by cases h) rfl) rfl ?_ | refine VD.take rfl rfl rfl (PureAt.assertIface hfs (fun ms h => by cases h) rfl) rfl ?_ | refine VQ.pure rfl rfl (PureAt.assertIface hfs (fun ms h => by cases h) rfl) rfl ?_ | refine VD.end rfl rfl rfl (OpV.pure (PureAt.assertIface hfs (fun ms h => by cases h) rfl) rfl ?_))
    (refine w ?_; repeat ((first | refine VO.step rfl rfl ?_ | refine VD.end rfl rfl rfl ?_ | refine VD.mid rfl rfl rfl ?_); refine OpV.box rfl rfl rfl ?_; intro _; refine w ?_))
    (first | refine VO.step rfl rfl ?_ | refine VD.end rfl rfl rfl ?_ | refine VD.mid rfl rfl rfl ?_)
    refine OpV.allocS sb_92 rfl ?_
    intro n4
    (first | refine VO.step rfl rfl ?_ | refine VD.end rfl rfl rfl ?_ | refine VD.mid rfl rfl rfl ?_)
    refine OpV.stA (vs := [.int .i64 p.member, .int .i64 p.row]) tab_ok rfl rfl rfl rfl (plc_one p.place) (by (repeat first | exact .head | apply Hole.tail)) (by simp) ?_
    (refine w ?_; repeat ((first | refine VO.step rfl rfl ?_ | refine VD.end rfl rfl rfl ?_ | refine VD.mid rfl rfl rfl ?_); refine OpV.box rfl rfl rfl ?_; intro _; refine w ?_))
    refine VC.ent (H' := Row n4 92 [.int .i64 p.member, .int .i64 p.row] :: Row b 90 [.int .i64 p.row, .map (some x.m), .slice (some a) n ac, .slice bo B.length bc] :: MapL pairV pairG x.m (ps.map PatE.kv) :: WayN (some a) ac n A2 :: Row n2 49 zeroPa :: WayN bo bc B.length B :: PilP ps :: R) Ent.re ?_
    (refine VC.drawn [] 5 [0, 1, 2, 3, 4, 5, 6] _ rfl (by kernel_rfl) (by kernel_rfl) Ent.re ?_)
    (refine w ?_; repeat ((first | refine VO.step rfl rfl ?_ | refine VD.end rfl rfl rfl ?_ | refine VD.mid rfl rfl rfl ?_); refine OpV.box rfl rfl rfl ?_; intro _; refine w ?_))
    (first | refine VO.step rfl rfl ?_ | refine VD.end rfl rfl rfl ?_ | refine VD.mid rfl rfl rfl ?_)
    refine OpV.pure (PureAt.lookup1 (k := p.place) (z := .slice none 0 0) hasU plK hgood (fun w => by simp) rfl rfl (by (focus repeat first | exact .head _ | apply List.Mem.tail))) rfl ?_
    rw [hget]
    (refine w ?_; repeat ((first | refine VO.step rfl rfl ?_ | refine VD.end rfl rfl rfl ?_ | refine VD.mid rfl rfl rfl ?_); refine OpV.box rfl rfl rfl ?_; intro _; refine w ?_))
    (refine VC.drawn [] 5 [0, 1, 2, 3, 4, 5] _ rfl (by kernel_rfl) (by kernel_rfl) Ent.re ?_)
    (refine w ?_; repeat ((first | refine VO.step rfl rfl ?_ | refine VD.end rfl rfl rfl ?_ | refine VD.mid rfl rfl rfl ?_); refine OpV.box rfl rfl rfl ?_; intro _; refine w ?_))
    (first | refine VO.step rfl rfl ?_ | refine VD.end rfl rfl rfl ?_ | refine VD.mid rfl rfl rfl ?_)
    refine OpV.deleteL (k := p.place) hasU plK hgood rfl rfl (by (repeat first | exact .head | apply Hole.tail)) ?_
    rw [kv_filter]
    (refine w ?_; repeat ((first | refine VO.step rfl rfl ?_ | refine VD.end rfl rfl rfl ?_ | refine VD.mid rfl rfl rfl ?_); refine OpV.box rfl rfl rfl ?_; intro _; refine w ?_))
    refine VO.re 55 p.d.hdr rfl rfl ?_
    (apply VO.pure rfl rfl; apply PureAt.build sb_49 rfl; (simp [buildX, setL, Value.cells]; rfl); rfl)
    (first | refine VO.step rfl rfl ?_ | refine VD.end rfl rfl rfl ?_ | refine VD.mid rfl rfl rfl ?_)
    refine OpV.stA (vs := p.cells) tab_ok rfl rfl rfl rfl (pat_one p) (by (repeat first | exact .head | apply Hole.tail)) (by simp) ?_
    (refine w ?_; repeat ((first | refine VO.step rfl rfl ?_ | refine VD.end rfl rfl rfl ?_ | refine VD.mid rfl rfl rfl ?_); refine OpV.box rfl rfl rfl ?_; intro _; refine w ?_))
    refine VE.results2 (.inl rfl) p rfl (ResIs.agg (vs := p.cells) tab_ok rfl rfl (by (focus repeat first | exact .head _ | apply List.Mem.tail)) rfl rfl) (.tmp rfl) ⟨hp, ⟨hn2, hn3, hn4⟩⟩ rfl ?_
    have hG : LiftG p.row (ps.filter fun x => x.place ≠ p.place) ⟨x.m, some a, ac, bo, bc, A2, B⟩ := ⟨by rw [map_wo]; exact hn1, fun q hq => g.all q (List.mem_filter.1 hq).1, hin.r⟩
    refine Ent.trans (Ent.re (L := PilP ps :: Row b 90 [.int .i64 p.row, .map (some x.m), .slice (some a) n ac, .slice bo B.length bc] :: MapL pairV pairG x.m ((ps.filter fun x => x.place ≠ p.place).map PatE.kv) :: WayN (some a) ac n A2 :: WayN bo bc B.length B :: R)) fun w hw => ?_
    have h4 := pile_take hp hw
    rw [← h3] at h4
    have hF : Ent W (p.res :: PilP (ps.filter fun x => x.place ≠ p.place) :: Row b 90 [.int .i64 p.row, .map (some x.m), .slice (some a) A2.length ac, .slice bo B.length bc] :: MapL pairV pairG x.m ((ps.filter fun x => x.place ≠ p.place).map PatE.kv) :: WayN (some a) ac A2.length A2 :: WayN bo bc B.length B :: R) (liftO b p.row (ps.filter fun x => x.place ≠ p.place) ⟨x.m, some a, ac, bo, bc, A2, B⟩ (p.res :: R)) := Ent.re
    exact (LiftR.shut hG w (hF w h4)).swap
set_option maxHeartbeats 2000000 in
theorem liftnext_none {W : World} {R : List SProp} {b : Nat} {r : Int} :
    Does1 W Try.prog 12 [.pointer (some ⟨b, 0, none⟩)] (LiftR b r [] :: R) (.tuple #[.agg zeroPa.toArray, .bool false]) (LiftR b r [] :: R) := by
  refine DoesO (fun w hw => LiftR.open hw) fun ⟨x, g⟩ => ?_
  obtain ⟨m, ao, ac, bo, bc, A, B⟩ := x
  have hA : A = [] := List.perm_nil.1 g.ok.ahead
  have hB : B = [] := List.perm_nil.1 g.ok.below
  subst hA hB
  (refine Does.enter Try.func12 Try.ntmps12 rfl rfl ?_)
  (refine w ?_; repeat ((first | refine VO.step rfl rfl ?_ | refine VD.end rfl rfl rfl ?_ | refine VD.mid rfl rfl rfl ?_); refine OpV.box rfl rfl rfl ?_; intro _; refine w ?_))
  (first | refine VO.step rfl rfl ?_ | refine VD.end rfl rfl rfl ?_ | refine VD.mid rfl rfl rfl ?_)
  refine OpV.allocS sb_49 rfl ?_
  intro n2
  (refine w ?_; repeat ((first | refine VO.step rfl rfl ?_ | refine VD.end rfl rfl rfl ?_ | refine VD.mid rfl rfl rfl ?_); refine OpV.box rfl rfl rfl ?_; intro _; refine w ?_))
  (apply VO.pure rfl rfl; apply PureAt.build sb_49 rfl; (simp [buildX, setL, Value.cells]; rfl); rfl)
  (first | refine VO.step rfl rfl ?_ | refine VD.end rfl rfl rfl ?_ | refine VD.mid rfl rfl rfl ?_)
  refine OpV.stA (vs := zeroPa) tab_ok rfl rfl rfl rfl (by simp [Value.oneCell']) (by (repeat first | exact .head | apply Hole.tail)) (by simp) ?_
  (refine w ?_; repeat ((first | refine VO.step rfl rfl ?_ | refine VD.end rfl rfl rfl ?_ | refine VD.mid rfl rfl rfl ?_); refine OpV.box rfl rfl rfl ?_; intro _; refine w ?_))
  refine VE.results2 (.inl rfl) () rfl (ResIs.agg (vs := zeroPa) tab_ok rfl rfl (by (focus repeat first | exact .head _ | apply List.Mem.tail)) rfl rfl) (.tmp rfl) trivial rfl ?_
  have hG : LiftG r [] ⟨m, bo, bc, none, 0, [], []⟩ := ⟨LiftOk.nil r, fun q hq => (by cases hq), g.row⟩
  intro w hw
  have h2 := Holds.ownNil 92 2 hw
  have hF : Ent W (WayN none 0 0 [] :: Row n2 49 zeroPa :: Row b 90 [.int .i64 r, .map (some m), .slice bo 0 bc, .slice none 0 0] :: MapL pairV pairG m [] :: WayN ao ac 0 [] :: WayN bo bc 0 [] :: PilP [] :: R) (liftO b r [] ⟨m, bo, bc, none, 0, [], []⟩ R) := Ent.re
  exact LiftR.shut hG w (hF w h2)
end Go.Proofs.Ytpmmkmcbimnigaa

/-! Text Yj. -/
/- lift.Lift: All. -/
set_option maxRecDepth 8000
set_option linter.unusedVariables false
set_option linter.unusedSimpArgs false
set_option linter.unusedSectionVars false
namespace Go.Proofs.Ytpmmkmcbimnigaa
open Go.RowKit Go.Sl
attribute [local irreducible] Sl.Own

def curC : Option PatE → List Value
  | none => zeroPa
  | some p => p.cells
def rowOf (r : Int) : Option PatE → Int
  | none => r
  | some p => p.row
def psOf (ps : List PatE) : Option PatE → List PatE
  | none => ps
  | some p => ps.filter fun x => x.place ≠ p.place
/-- What one Next gives. -/
def StepP (r : Int) (ps : List PatE) : Option PatE → Prop
  | none => ps = []
  | some p => p ∈ ps ∧ IsNext r (ps.map PatE.place) p.place
theorem curC_one (c : Option PatE) : ∀ u ∈ curC c, u.oneCell' = true := by
  cases c with
  | none => simp [curC, Value.oneCell']
  | some p => exact pat_one p
theorem curC_len (c : Option PatE) : (curC c).length = 3 := by cases c <;> rfl
theorem liftstep_ok {W : World} {R : List SProp} {b : Nat} {r : Int} {ps : List PatE} (hps : ps.length ≤ 800000) :
    Does W Try.prog 12 [.pointer (some ⟨b, 0, none⟩)] (LiftR b r ps :: R) (β := Option PatE) (StepP r ps) (fun c => .tuple #[.agg (curC c).toArray, .bool c.isSome])
      (fun c => PilP c.toList :: LiftR b (rowOf r c) (psOf ps c) :: R) := by
  by_cases h : ps = []
  · subst h
    exact Does.mono (liftnext_none (R := R)) (fun _ => none) (fun _ _ => rfl) (fun _ _ => rfl) (fun _ _ => fun w hw => pile_nil hw)
  · refine Does.mono (liftnext_ok (R := R) h hps) (fun p => some p) (fun _ h => h) (fun _ _ => rfl) (fun p _ => fun w hw => ?_)
    exact pile_cons (l := []) (pile_nil hw).swap
/-- What came out, one by one. -/
inductive Take (r : Int) (ps : List PatE) : List PatE → Int → List PatE → Prop where
  | nil : Take r ps [] r ps
  | snoc {l : List PatE} {r1 : Int} {ps1 : List PatE} {p : PatE} (h : Take r ps l r1 ps1) (hp : p ∈ ps1) (hn : IsNext r1 (ps1.map PatE.place) p.place) : Take r ps (l ++ [p]) p.row (ps1.filter fun x => x.place ≠ p.place)
theorem Take.step {r : Int} {ps l ps1 : List PatE} {r1 : Int} (h : Take r ps l r1 ps1) {c : Option PatE} (hc : StepP r1 ps1 c) : Take r ps (l ++ c.toList) (rowOf r1 c) (psOf ps1 c) := by
  cases c with
  | none => simpa [rowOf, psOf] using h
  | some p => exact h.snoc hc.1 hc.2
theorem filter_less {ps : List PatE} {p : PatE} (hp : p ∈ ps) : (ps.filter fun x => x.place ≠ p.place).length < ps.length := by
  obtain ⟨s, t, rfl⟩ := List.append_of_mem hp
  rw [List.filter_append, List.filter_cons_of_neg (by simp), List.length_append, List.length_append, List.length_cons]
  have h1 := List.length_filter_le (fun x : PatE => decide (x.place ≠ p.place)) s
  have h2 := List.length_filter_le (fun x : PatE => decide (x.place ≠ p.place)) t
  omega
theorem psOf_le {ps : List PatE} {r : Int} {c : Option PatE} (h : StepP r ps c) : (psOf ps c).length + c.toList.length ≤ ps.length := by
  cases c with
  | none => simp [psOf]
  | some p => have := filter_less h.1; simp only [psOf, Option.toList, List.length_singleton]; omega
theorem Take.length {r : Int} {ps l ps1 : List PatE} {r1 : Int} (h : Take r ps l r1 ps1) : l.length + ps1.length ≤ ps.length := by
  induction h with
  | nil => simp
  | snoc h hp hn ih => have := filter_less hp; rw [List.length_append, List.length_singleton]; omega

structure AllX where
  l : List PatE
  c : Option PatE
  r : Int
  ps : List PatE
  so : Option Addr
  sc : Nat
  n : Nat
set_option maxHeartbeats 4000000 in
theorem liftall_ok {W : World} {R : List SProp} {b : Nat} {r : Int} {ps : List PatE} (hps : ps.length ≤ 800000) :
    Does W Try.prog 16 [.pointer (some ⟨b, 0, none⟩)] (LiftR b r ps :: R) (β := (Option Addr × Nat) × List PatE × Int) (fun y => Take r ps y.2.1 y.2.2 []) (fun y => .slice y.1.1 y.2.1.length y.1.2)
      (fun y => PatsO y.1 y.2.1 :: PilP y.2.1 :: LiftR b y.2.2 [] :: R) := by
  (refine Does.enter Try.func16 Try.ntmps16 rfl rfl ?_)
  (refine w ?_; repeat ((first | refine VO.step rfl rfl ?_ | refine VD.end rfl rfl rfl ?_ | refine VD.mid rfl rfl rfl ?_); refine OpV.box rfl rfl rfl ?_; intro _; refine w ?_))
  ((first | refine VO.step rfl rfl ?_ | refine VD.end rfl rfl rfl ?_ | refine VD.mid rfl rfl rfl ?_); refine OpV.call rfl rfl (fun _ _ => by simp) (liftstep_ok (R := R) hps) Ent.refl rfl ?_)
  intro c hc
  (refine w ?_; repeat ((first | refine VO.step rfl rfl ?_ | refine VD.end rfl rfl rfl ?_ | refine VD.mid rfl rfl rfl ?_); refine OpV.box rfl rfl rfl ?_; intro _; refine w ?_))
  (first | refine VO.step rfl rfl ?_ | refine VD.end rfl rfl rfl ?_ | refine VD.mid rfl rfl rfl ?_)
  refine OpV.allocS sb_49 rfl ?_
  intro n4
  (first | refine VO.step rfl rfl ?_ | refine VD.end rfl rfl rfl ?_ | refine VD.mid rfl rfl rfl ?_)
  refine OpV.stA (vs := curC c) tab_ok rfl rfl rfl (curC_len c) (curC_one c) (by (repeat first | exact .head | apply Hole.tail)) (by simp) ?_
  (refine w ?_; repeat ((first | refine VO.step rfl rfl ?_ | refine VD.end rfl rfl rfl ?_ | refine VD.mid rfl rfl rfl ?_); refine OpV.box rfl rfl rfl ?_; intro _; refine w ?_))
  refine VC.ent (fun w hw => Holds.ownNil 49 3 (pile_nil (res := PatE.res) hw)) ?_
  refine VC.loop (α := AllX) (fun y => Take r ps (y.l ++ y.c.toList) y.r y.ps ∧ (y.c = none → y.ps = [])) (fun y => PatsO (y.so, y.sc) y.l :: PilP y.l :: Row y.n 49 (curC y.c) :: PilP y.c.toList :: LiftR b y.r y.ps :: R)
    (fun y => [(0, .pointer (some ⟨b, 0, none⟩)), (3, .slice y.so y.l.length y.sc), (4, .pointer (some ⟨y.n, 0, none⟩)), (5, .bool y.c.isSome)]) (fun y => y.ps.length + y.c.toList.length) rfl
    ⟨[], c, rowOf r c, psOf ps c, none, 0, n4⟩ ⟨Take.nil.step hc, fun h => by subst h; exact hc⟩ ?_ ⟨rfl, rfl, rfl, rfl, trivial⟩ ?_
  · cases c <;> exact Ent.re
  rintro ⟨l, c1, r1, ps1, so, sc, nc⟩ ⟨ht, hc1⟩
  dsimp only at ht hc1 ⊢
  have hlen := ht.length
  rw [List.length_append] at hlen
  (refine w ?_; repeat ((first | refine VO.step rfl rfl ?_ | refine VD.end rfl rfl rfl ?_ | refine VD.mid rfl rfl rfl ?_); refine OpV.box rfl rfl rfl ?_; intro _; refine w ?_))
  cases c1 with
  | none =>
    have := hc1 rfl
    subst this
    (refine VC.condFe rfl rfl (rfl) ?_)
    (refine w ?_; repeat ((first | refine VO.step rfl rfl ?_ | refine VD.end rfl rfl rfl ?_ | refine VD.mid rfl rfl rfl ?_); refine OpV.box rfl rfl rfl ?_; intro _; refine w ?_))
    refine VE.done ((so, sc), l, r1) rfl (by simpa using ht) rfl ?_
    exact Ent.re
  | some p =>
    (refine VC.condTe rfl rfl (rfl) ?_)
    (refine w ?_; repeat ((first | refine VO.step rfl rfl ?_ | refine VD.end rfl rfl rfl ?_ | refine VD.mid rfl rfl rfl ?_); refine OpV.box rfl rfl rfl ?_; intro _; refine w ?_))
    refine VO.re 18 (.agg p.cells.toArray) rfl rfl ?_
    (first | refine VO.step rfl rfl ?_ | refine VD.end rfl rfl rfl ?_ | refine VD.mid rfl rfl rfl ?_)
    refine OpV.buildSlice (cs := p.cells) st_56 rfl rfl (by simp [Value.cells]) (by simp [Value.cells]) (by decide) rfl ?_
    intro nb
    (first | refine VO.step rfl rfl ?_ | refine VD.end rfl rfl rfl ?_ | refine VD.mid rfl rfl rfl ?_)
    refine OpV.appendRow st_56 rfl rfl (by (repeat first | exact .head | apply Hole.tail)) (by (focus repeat first | exact .head _ | apply List.Mem.tail)) rfl (pat_one p) (by simp only [maxLen]; omega) (by omega) rfl ?_
    intro so2 sc2
    (refine w ?_; repeat ((first | refine VO.step rfl rfl ?_ | refine VD.end rfl rfl rfl ?_ | refine VD.mid rfl rfl rfl ?_); refine OpV.box rfl rfl rfl ?_; intro _; refine w ?_))
    refine VO.re 21 (.agg p.cells.toArray) rfl rfl ?_
    (first | refine VO.step rfl rfl ?_ | refine VD.end rfl rfl rfl ?_ | refine VD.mid rfl rfl rfl ?_)
    refine OpV.allocS sb_49 rfl ?_
    intro n5
    (first | refine VO.step rfl rfl ?_ | refine VD.end rfl rfl rfl ?_ | refine VD.mid rfl rfl rfl ?_)
    refine OpV.stA (vs := p.cells) tab_ok rfl rfl rfl rfl (pat_one p) (by (repeat first | exact .head | apply Hole.tail)) (by simp) ?_
    (refine w ?_; repeat ((first | refine VO.step rfl rfl ?_ | refine VD.end rfl rfl rfl ?_ | refine VD.mid rfl rfl rfl ?_); refine OpV.box rfl rfl rfl ?_; intro _; refine w ?_))
    ((first | refine VO.step rfl rfl ?_ | refine VD.end rfl rfl rfl ?_ | refine VD.mid rfl rfl rfl ?_); refine OpV.call rfl rfl (fun _ _ => by simp) (liftstep_ok (R := Row n5 49 p.cells :: PilP (some p).toList :: Sl.Own 49 3 (.slice so2 (l.length + 1) sc2) (l.length + 1) (patCells l ++ p.cells) :: PilP l :: R) (b := b) (r := r1) (ps := ps1) (by omega)) Ent.re rfl ?_)
    intro c2 hc2
    (refine w ?_; repeat ((first | refine VO.step rfl rfl ?_ | refine VD.end rfl rfl rfl ?_ | refine VD.mid rfl rfl rfl ?_); refine OpV.box rfl rfl rfl ?_; intro _; refine w ?_))
    (first | refine VO.step rfl rfl ?_ | refine VD.end rfl rfl rfl ?_ | refine VD.mid rfl rfl rfl ?_)
    refine OpV.stA (vs := curC c2) tab_ok rfl rfl rfl (curC_len c2) (curC_one c2) (by (repeat first | exact .head | apply Hole.tail)) (by simp) ?_
    (refine w ?_; repeat ((first | refine VO.step rfl rfl ?_ | refine VD.end rfl rfl rfl ?_ | refine VD.mid rfl rfl rfl ?_); refine OpV.box rfl rfl rfl ?_; intro _; refine w ?_))
    have hle := psOf_le hc2
    refine VE.round (⟨l ++ [p], c2, rowOf r1 c2, psOf ps1 c2, so2, sc2, n5⟩ : AllX) ⟨by simpa using ht.step hc2, fun h => by subst h; exact hc2⟩ (by dsimp only [Option.toList]; simp only [List.length_singleton]; simp only [Option.toList] at hle; omega) ⟨rfl, asV rfl (by simp), rfl, asV rfl (by rfl), trivial⟩ ?_
    dsimp only
    have e1 : List.take 0 p.cells ++ curC c2 ++ List.drop (0 + 3) p.cells = curC c2 := by simp
    rw [e1]
    unfold PatsO
    rw [patCells_push, List.length_append, List.length_singleton]
    refine Ent.trans (Ent.re (L := PilP l :: PilP [p] :: Sl.Own 49 3 (.slice so2 (l.length + 1) sc2) (l.length + 1) (patCells l ++ p.cells) :: Row n5 49 (curC c2) :: PilP c2.toList :: LiftR b (rowOf r1 c2) (psOf ps1 c2) :: R)) fun w hw => ?_
    exact (pile_join hw).swap
end Go.Proofs.Ytpmmkmcbimnigaa

/-! Text Yk. -/
/- The lift's laws: patch, what comes out in which order, known. -/
set_option maxRecDepth 8000
set_option linter.unusedVariables false
set_option linter.unusedSimpArgs false
set_option linter.unusedSectionVars false
namespace Go.Proofs.Ytpmmkmcbimnigaa
open Go.RowKit Go.Sl
attribute [local irreducible] Sl.Own

def fullB (c : UInt8) : List UInt8 := List.replicate 128 c
@[simp] theorem fullB_length (c : UInt8) : (fullB c).length = 128 := List.length_replicate
def partB (c : UInt8) (i : Nat) : List Value := List.replicate i (byteV c) ++ List.replicate (128 - i) (.int .u8 0)
theorem partB_set (c : UInt8) (i : Nat) (h : i < 128) : (partB c i).set i (byteV c) = partB c (i + 1) := by
  unfold partB
  rw [List.set_append_right _ _ (by simp), List.length_replicate, Nat.sub_self, show 128 - i = (128 - (i + 1)) + 1 by omega, List.replicate_succ, List.set_cons_zero, List.replicate_succ', List.append_assoc]; rfl
theorem partB_length (c : UInt8) (i : Nat) (h : i ≤ 128) : (partB c i).length = 128 := by
  unfold partB; rw [List.length_append, List.length_replicate, List.length_replicate]; omega
theorem partB_all (c : UInt8) : partB c 128 = bytes (fullB c) := by
  unfold partB fullB bytes; rw [List.map_replicate]; simp only [Nat.sub_self, List.replicate_zero, List.append_nil]
/-- The law's own patch: a sector full of a byte. -/
def mkP (m r : Int) (c : UInt8) (b : Nat) : PatE := ⟨m, r, ⟨some ⟨b, 0, none⟩, 128, fullB c⟩⟩
theorem mkP_res (m r : Int) (c : UInt8) (b : Nat) : (mkP m r c b).res = Sl.Own 5 1 (.slice (some ⟨b, 0, none⟩) 128 128) 128 (bytes (fullB c)) := by
  unfold PatE.res RowE.res mkP
  simp only [fullB_length]
theorem mkP_cells (m r : Int) (c : UInt8) (b : Nat) : (mkP m r c b).cells = [.int .i64 m, .int .i64 r, .slice (some ⟨b, 0, none⟩) 128 128] := by
  simp [mkP]
theorem mkP_rds {W : World} {R : List SProp} {m r : Int} {c : UInt8} {b : Nat} (h : (mkP m r c b).res ∈ R) : Rds W R 1 (mkP m r c b).d.ao (mkP m r c b).d.data.length (bytes (mkP m r c b).d.data) :=
  RowE.rds (e := (mkP m r c b).d) ⟨fun h => (by cases h), (by simp [mkP])⟩ h
theorem patch_ok {W : World} {R : List SProp} (m r : Int) (c : UInt8) :
    Does W Try.prog 27 [.int .i64 m, .int .i64 r, .int .u8 (c.toNat : Int)] R (β := Nat) (fun _ => True) (fun b => .agg (mkP m r c b).cells.toArray) (fun b => (mkP m r c b).res :: R) := by
  (refine Does.enter Try.func27 Try.ntmps27 rfl rfl ?_)
  (refine w ?_; repeat ((first | refine VO.step rfl rfl ?_ | refine VD.end rfl rfl rfl ?_ | refine VD.mid rfl rfl rfl ?_); refine OpV.box rfl rfl rfl ?_; intro _; refine w ?_))
  (first | refine VO.step rfl rfl ?_ | refine VD.end rfl rfl rfl ?_ | refine VD.mid rfl rfl rfl ?_)
  refine OpV.allocS sb_49 rfl ?_
  intro n6
  (refine w ?_; repeat ((first | refine VO.step rfl rfl ?_ | refine VD.end rfl rfl rfl ?_ | refine VD.mid rfl rfl rfl ?_); refine OpV.box rfl rfl rfl ?_; intro _; refine w ?_))
  (first | refine VO.step rfl rfl ?_ | refine VD.end rfl rfl rfl ?_ | refine VD.mid rfl rfl rfl ?_)
  refine OpV.makeSlice1 (m := 128) st_47 rfl rfl rfl (by decide) (by decide) rfl ?_
  intro nb
  (refine w ?_; repeat ((first | refine VO.step rfl rfl ?_ | refine VD.end rfl rfl rfl ?_ | refine VD.mid rfl rfl rfl ?_); refine OpV.box rfl rfl rfl ?_; intro _; refine w ?_))
  refine VC.loop (α := Nat) (fun i => i ≤ 128) (fun i => Sl.Own 5 1 (.slice (some ⟨nb, 0, none⟩) 128 128) 128 (partB c i) :: Row n6 49 zeroPa :: R)
    (fun i => [(0, .int .i64 m), (1, .int .i64 r), (2, .int .u8 (c.toNat : Int)), (6, .pointer (some ⟨n6, 0, none⟩)), (7, .slice (some ⟨nb, 0, none⟩) 128 128), (8, .int .i64 i)]) (fun i => 128 - i) rfl 0 (Nat.zero_le _) Ent.re ⟨rfl, rfl, rfl, rfl, rfl, rfl, trivial⟩ ?_
  intro i hi
  (refine w ?_; repeat ((first | refine VO.step rfl rfl ?_ | refine VD.end rfl rfl rfl ?_ | refine VD.mid rfl rfl rfl ?_); refine OpV.box rfl rfl rfl ?_; intro _; refine w ?_))
  (refine VC.cond rfl rfl ?_ ?_ <;> intro hc)
  · have hlt : i < 128 := by have := of_decide_eq_true hc; omega
    (refine w ?_; repeat ((first | refine VO.step rfl rfl ?_ | refine VD.end rfl rfl rfl ?_ | refine VD.mid rfl rfl rfl ?_); refine OpV.box rfl rfl rfl ?_; intro _; refine w ?_))
    (first | refine VO.step rfl rfl ?_ | refine VD.end rfl rfl rfl ?_ | refine VD.mid rfl rfl rfl ?_)
    refine OpV.stO tab_ok rfl rfl rfl rfl .head (by rw [partB_length c i hi]; exact hlt) ?_
    rw [show Value.int .u8 (c.toNat : Int) = byteV c from rfl, partB_set c i hlt]
    (refine w ?_; repeat ((first | refine VO.step rfl rfl ?_ | refine VD.end rfl rfl rfl ?_ | refine VD.mid rfl rfl rfl ?_); refine OpV.box rfl rfl rfl ?_; intro _; refine w ?_))
    exact VE.round (i + 1) hlt (by omega) ⟨rfl, rfl, rfl, rfl, rfl, rfl, trivial⟩ Ent.refl
  · have hge : i = 128 := by have := of_decide_eq_false hc; omega
    subst hge
    (refine w ?_; repeat ((first | refine VO.step rfl rfl ?_ | refine VD.end rfl rfl rfl ?_ | refine VD.mid rfl rfl rfl ?_); refine OpV.box rfl rfl rfl ?_; intro _; refine w ?_))
    (apply VO.pure rfl rfl; apply PureAt.build sb_49 rfl; (simp [buildX, setL, Value.cells]; rfl); rfl)
    (first | refine VO.step rfl rfl ?_ | refine VD.end rfl rfl rfl ?_ | refine VD.mid rfl rfl rfl ?_)
    refine OpV.stA (vs := [.int .i64 m, .int .i64 r, .slice (some ⟨nb, 0, none⟩) 128 128]) tab_ok rfl rfl rfl rfl (by simp [Value.oneCell']) (by (repeat first | exact .head | apply Hole.tail)) (by simp) ?_
    (refine w ?_; repeat ((first | refine VO.step rfl rfl ?_ | refine VD.end rfl rfl rfl ?_ | refine VD.mid rfl rfl rfl ?_); refine OpV.box rfl rfl rfl ?_; intro _; refine w ?_))
    refine VE.results1 (.inl rfl) nb rfl (ResIs.agg (vs := [.int .i64 m, .int .i64 r, .slice (some ⟨nb, 0, none⟩) 128 128]) tab_ok rfl rfl (by (focus repeat first | exact .head _ | apply List.Mem.tail)) rfl rfl) trivial (by rw [mkP_cells]) ?_
    rw [partB_all, mkP_res]
    exact Ent.re
theorem patch_lit {W : World} {R : List SProp} (m r : Int) (n : Nat) (h : n < 256) :
    Does W Try.prog 27 [.int .i64 m, .int .i64 r, .int .u8 (n : Int)] R (β := Nat) (fun _ => True) (fun b => .agg (mkP m r (UInt8.ofNat n) b).cells.toArray) (fun b => (mkP m r (UInt8.ofNat n) b).res :: R) := by
  have := patch_ok (W := W) (R := R) m r (UInt8.ofNat n)
  rwa [show ((UInt8.ofNat n).toNat : Int) = (n : Int) by simp; omega] at this

/-! ### In which order -/
theorem Take.front {r : Int} {ps l : List PatE} {r1 : Int} {ps1 : List PatE} (h : Take r ps l r1 ps1) :
    (l = [] ∧ r1 = r ∧ ps1 = ps) ∨ ∃ p l', l = p :: l' ∧ p ∈ ps ∧ IsNext r (ps.map PatE.place) p.place ∧ Take p.row (ps.filter fun x => x.place ≠ p.place) l' r1 ps1 := by
  induction h with
  | nil => exact .inl ⟨rfl, rfl, rfl⟩
  | @snoc l r1 ps1 p h hp hn ih =>
    refine .inr ?_
    rcases ih with ⟨rfl, rfl, rfl⟩ | ⟨q, l', rfl, h1, h2, h3⟩
    · exact ⟨p, [], rfl, hp, hn, Take.nil⟩
    · exact ⟨q, l' ++ [p], rfl, h1, h2, h3.snoc hp hn⟩
theorem same_place : ∀ {ps : List PatE} (_ : (ps.map PatE.place).Nodup) {p q : PatE}, p ∈ ps → q ∈ ps → p.place = q.place → p = q
  | [], _, p, q, hp, _, _ => by cases hp
  | a :: r, h, p, q, hp, hq, e => by
    rw [List.map_cons, List.nodup_cons] at h
    cases hp with
    | head => cases hq with
      | head => rfl
      | tail _ hq => exact absurd (e ▸ List.mem_map_of_mem hq) h.1
    | tail _ hp => cases hq with
      | head => exact absurd (e ▸ List.mem_map_of_mem hp) h.1
      | tail _ hq => exact same_place h.2 hp hq e
/-- The next one is this one. -/
theorem Take.first {r : Int} {ps l : List PatE} {r1 : Int} (h : Take r ps l r1 []) {q : PatE} (hd : (ps.map PatE.place).Nodup) (hq : q ∈ ps) (hn : IsNext r (ps.map PatE.place) q.place) :
    ∃ l', l = q :: l' ∧ Take q.row (ps.filter fun x => x.place ≠ q.place) l' r1 [] := by
  rcases h.front with ⟨rfl, rfl, rfl⟩ | ⟨p, l', rfl, h1, h2, h3⟩
  · cases hq
  · have e : p = q := same_place hd h1 hq (h2.one hn)
    subst e
    exact ⟨l', rfl, h3⟩
theorem Take.last {r : Int} {l : List PatE} {r1 : Int} (h : Take r [] l r1 []) : l = [] ∧ r1 = r := by
  rcases h.front with ⟨rfl, rfl, _⟩ | ⟨p, l', _, h1, _⟩
  · exact ⟨rfl, rfl⟩
  · cases h1
end Go.Proofs.Ytpmmkmcbimnigaa

/-! Text Yl. -/
/- The lift's laws: known. -/
set_option maxRecDepth 8000
set_option linter.unusedVariables false
set_option linter.unusedSimpArgs false
set_option linter.unusedSectionVars false
namespace Go.Proofs.Ytpmmkmcbimnigaa
open Go.RowKit Go.Sl
attribute [local irreducible] Sl.Own

/-- What a Put lays in. -/
def newP (m r : Int) (c : UInt8) (y : Option Addr × Nat) : PatE := ⟨m, r, ⟨y.1, y.2, fullB c⟩⟩
theorem mkP_in {m r : Int} {c : UInt8} {b : Nat} (hm : 0 ≤ m ∧ m ≤ 15) (hr : 0 ≤ r ∧ r ≤ 4095) : (mkP m r c b).In := ⟨hm, hr, fullB_length c⟩
theorem liftputP_ok {W : World} {R : List SProp} {b : Nat} {r : Int} {ps : List PatE} {m q : Int} {c : UInt8} {k : Nat} (hm : 0 ≤ m ∧ m ≤ 15) (hr : 0 ≤ q ∧ q ≤ 4095) (hps : ps.length ≤ 800000) :
    Does W Try.prog 20 [.pointer (some ⟨b, 0, none⟩), .agg (mkP m q c k).cells.toArray] (LiftR b r ps :: (mkP m q c k).res :: R) (β := Option Addr × Nat) (fun _ => True) (fun _ => .int .u16 0) (fun y => LiftR b r (putL ps (newP m q c y)) :: R) := by
  refine Does.mono (liftput_ok (R := (mkP m q c k).res :: R) (mkP_in hm hr) (mkP_rds (.head _)) hps) (fun y => y) (fun _ _ => trivial) (fun _ _ => rfl) (fun y _ => fun w hw => (hw.swap).tail)
instance (r : Int) (K : List Pl) (k : Pl) : Decidable (IsNext r K k) := decidable_of_iff (k ∈ K ∧ base r K ≤ k.2 ∧ ∀ x ∈ K, base r K ≤ x.2 → ¬ plt x k) ⟨fun h => ⟨h.1, h.2.1, h.2.2⟩, fun h => ⟨h.mem, h.low, h.least⟩⟩
theorem four {y1 y2 y3 y4 : Option Addr × Nat} {a b c d : UInt8} {l : List PatE} {r : Int} (h : Take 5 [newP 0 7 a y1, newP 1 2 b y2, newP 2 5 c y3, newP 0 5 d y4] l r []) :
    l = [newP 0 5 d y4, newP 2 5 c y3, newP 0 7 a y1, newP 1 2 b y2] ∧ r = 2 := by
  obtain ⟨l1, rfl, h1⟩ := h.first (q := newP 0 5 d y4) (show List.Nodup [((0 : Int), (7 : Int)), (1, 2), (2, 5), (0, 5)] by decide) (by simp) (show IsNext 5 [((0 : Int), (7 : Int)), (1, 2), (2, 5), (0, 5)] (0, 5) by decide)
  obtain ⟨l2, rfl, h2⟩ := Take.first (ps := [newP 0 7 a y1, newP 1 2 b y2, newP 2 5 c y3]) h1 (q := newP 2 5 c y3) (show List.Nodup [((0 : Int), (7 : Int)), (1, 2), (2, 5)] by decide) (by simp) (show IsNext 5 [((0 : Int), (7 : Int)), (1, 2), (2, 5)] (2, 5) by decide)
  obtain ⟨l3, rfl, h3⟩ := Take.first (ps := [newP 0 7 a y1, newP 1 2 b y2]) h2 (q := newP 0 7 a y1) (show List.Nodup [((0 : Int), (7 : Int)), (1, 2)] by decide) (by simp) (show IsNext 5 [((0 : Int), (7 : Int)), (1, 2)] (0, 7) by decide)
  obtain ⟨l4, rfl, h4⟩ := Take.first (ps := [newP 1 2 b y2]) h3 (q := newP 1 2 b y2) (show List.Nodup [((1 : Int), (2 : Int))] by decide) (by simp) (show IsNext 7 [((1 : Int), (2 : Int))] (1, 2) by decide)
  obtain ⟨rfl, rfl⟩ := Take.last (r := 2) h4
  exact ⟨rfl, rfl⟩
theorem pilp_know {W w : World} {H : List SProp} {l : List PatE} (m : PilP l ∈ H) (hw : Holds W H w) : ∀ p ∈ l, p.d.ok := let ⟨_, p⟩ := mem_perm m; PilP.know (hw.perm p)
theorem mkP_ok (m r : Int) (c : UInt8) (b : Nat) : (mkP m r c b).d.ok := ⟨fun h => (by cases h), (by simp [mkP])⟩
/-- A slice literal of patches of the law's own. -/
theorem rdpats_row {W : World} {H : List SProp} {b : Nat} {l : List PatE} (m : Row b 49 (patCells l) ∈ H) (h : ∀ p ∈ l, p.d.ok ∧ p.res ∈ H) : RdPats W H (some ⟨b, 0, none⟩) l :=
  ⟨Rds.row (pats_one l) m (pats_len l), fun p hp => RowE.rds (h p hp).1 (h p hp).2, fun p hp => (h p hp).1⟩
set_option maxHeartbeats 4000000 in
theorem liftknown_ok {W : World} {R : List SProp} : Does1 W Try.prog 9 [] R (.bool true) R := by
  (refine Does.enter Try.func9 Try.ntmps9 rfl rfl ?_)
  (refine w ?_; repeat ((first | refine VO.step rfl rfl ?_ | refine VD.end rfl rfl rfl ?_ | refine VD.mid rfl rfl rfl ?_); refine OpV.box rfl rfl rfl ?_; intro _; refine w ?_))
  ((first | refine VO.step rfl rfl ?_ | refine VD.end rfl rfl rfl ?_ | refine VD.mid rfl rfl rfl ?_); refine OpV.call rfl rfl (fun _ _ => by simp) (liftnew_ok (R := R) (r := 5) (by decide)) Ent.refl rfl ?_)
  intro b _
  (refine w ?_; repeat ((first | refine VO.step rfl rfl ?_ | refine VD.end rfl rfl rfl ?_ | refine VD.mid rfl rfl rfl ?_); refine OpV.box rfl rfl rfl ?_; intro _; refine w ?_))
  ((first | refine VO.step rfl rfl ?_ | refine VD.end rfl rfl rfl ?_ | refine VD.mid rfl rfl rfl ?_); refine OpV.call rfl rfl (fun _ _ => by simp) (patch_lit 0 7 97 (by decide)) Ent.refl rfl ?_)
  intro k1 _
  refine VO.re 15 (.pointer (some ⟨b, 0, none⟩)) rfl rfl ?_
  (refine w ?_; repeat ((first | refine VO.step rfl rfl ?_ | refine VD.end rfl rfl rfl ?_ | refine VD.mid rfl rfl rfl ?_); refine OpV.box rfl rfl rfl ?_; intro _; refine w ?_))
  ((first | refine VO.step rfl rfl ?_ | refine VD.end rfl rfl rfl ?_ | refine VD.mid rfl rfl rfl ?_); refine OpV.call rfl rfl (fun _ _ => by simp) (liftputP_ok (R := R) (b := b) (r := 5) (ps := []) (m := 0) (q := 7) (c := UInt8.ofNat 97) (k := k1) (by decide) (by decide) (by simp)) Ent.re rfl ?_)
  intro y1 _
  rw [show putL [] (newP 0 7 (UInt8.ofNat 97) y1) = [newP 0 7 (UInt8.ofNat 97) y1] from rfl]
  (refine w ?_; repeat ((first | refine VO.step rfl rfl ?_ | refine VD.end rfl rfl rfl ?_ | refine VD.mid rfl rfl rfl ?_); refine OpV.box rfl rfl rfl ?_; intro _; refine w ?_))
  ((first | refine VO.step rfl rfl ?_ | refine VD.end rfl rfl rfl ?_ | refine VD.mid rfl rfl rfl ?_); refine OpV.call rfl rfl (fun _ _ => by simp) (patch_lit 1 2 98 (by decide)) Ent.refl rfl ?_)
  intro k2 _
  refine VO.re 18 (.pointer (some ⟨b, 0, none⟩)) rfl rfl ?_
  (refine w ?_; repeat ((first | refine VO.step rfl rfl ?_ | refine VD.end rfl rfl rfl ?_ | refine VD.mid rfl rfl rfl ?_); refine OpV.box rfl rfl rfl ?_; intro _; refine w ?_))
  ((first | refine VO.step rfl rfl ?_ | refine VD.end rfl rfl rfl ?_ | refine VD.mid rfl rfl rfl ?_); refine OpV.call rfl rfl (fun _ _ => by simp) (liftputP_ok (R := R) (b := b) (r := 5) (ps := [newP 0 7 (UInt8.ofNat 97) y1]) (m := 1) (q := 2) (c := UInt8.ofNat 98) (k := k2) (by decide) (by decide) (by simp)) Ent.re rfl ?_)
  intro y2 _
  rw [show putL [newP 0 7 (UInt8.ofNat 97) y1] (newP 1 2 (UInt8.ofNat 98) y2) = [newP 0 7 (UInt8.ofNat 97) y1, newP 1 2 (UInt8.ofNat 98) y2] from rfl]
  (refine w ?_; repeat ((first | refine VO.step rfl rfl ?_ | refine VD.end rfl rfl rfl ?_ | refine VD.mid rfl rfl rfl ?_); refine OpV.box rfl rfl rfl ?_; intro _; refine w ?_))
  ((first | refine VO.step rfl rfl ?_ | refine VD.end rfl rfl rfl ?_ | refine VD.mid rfl rfl rfl ?_); refine OpV.call rfl rfl (fun _ _ => by simp) (patch_lit 2 5 99 (by decide)) Ent.refl rfl ?_)
  intro k3 _
  refine VO.re 21 (.pointer (some ⟨b, 0, none⟩)) rfl rfl ?_
  (refine w ?_; repeat ((first | refine VO.step rfl rfl ?_ | refine VD.end rfl rfl rfl ?_ | refine VD.mid rfl rfl rfl ?_); refine OpV.box rfl rfl rfl ?_; intro _; refine w ?_))
  ((first | refine VO.step rfl rfl ?_ | refine VD.end rfl rfl rfl ?_ | refine VD.mid rfl rfl rfl ?_); refine OpV.call rfl rfl (fun _ _ => by simp) (liftputP_ok (R := R) (b := b) (r := 5) (ps := [newP 0 7 (UInt8.ofNat 97) y1, newP 1 2 (UInt8.ofNat 98) y2]) (m := 2) (q := 5) (c := UInt8.ofNat 99) (k := k3) (by decide) (by decide) (by simp)) Ent.re rfl ?_)
  intro y3 _
  rw [show putL [newP 0 7 (UInt8.ofNat 97) y1, newP 1 2 (UInt8.ofNat 98) y2] (newP 2 5 (UInt8.ofNat 99) y3) = [newP 0 7 (UInt8.ofNat 97) y1, newP 1 2 (UInt8.ofNat 98) y2, newP 2 5 (UInt8.ofNat 99) y3] from rfl]
  (refine w ?_; repeat ((first | refine VO.step rfl rfl ?_ | refine VD.end rfl rfl rfl ?_ | refine VD.mid rfl rfl rfl ?_); refine OpV.box rfl rfl rfl ?_; intro _; refine w ?_))
  ((first | refine VO.step rfl rfl ?_ | refine VD.end rfl rfl rfl ?_ | refine VD.mid rfl rfl rfl ?_); refine OpV.call rfl rfl (fun _ _ => by simp) (patch_lit 0 5 100 (by decide)) Ent.refl rfl ?_)
  intro k4 _
  refine VO.re 24 (.pointer (some ⟨b, 0, none⟩)) rfl rfl ?_
  (refine w ?_; repeat ((first | refine VO.step rfl rfl ?_ | refine VD.end rfl rfl rfl ?_ | refine VD.mid rfl rfl rfl ?_); refine OpV.box rfl rfl rfl ?_; intro _; refine w ?_))
  ((first | refine VO.step rfl rfl ?_ | refine VD.end rfl rfl rfl ?_ | refine VD.mid rfl rfl rfl ?_); refine OpV.call rfl rfl (fun _ _ => by simp) (liftputP_ok (R := R) (b := b) (r := 5) (ps := [newP 0 7 (UInt8.ofNat 97) y1, newP 1 2 (UInt8.ofNat 98) y2, newP 2 5 (UInt8.ofNat 99) y3]) (m := 0) (q := 5) (c := UInt8.ofNat 100) (k := k4) (by decide) (by decide) (by simp)) Ent.re rfl ?_)
  intro y4 _
  rw [show putL [newP 0 7 (UInt8.ofNat 97) y1, newP 1 2 (UInt8.ofNat 98) y2, newP 2 5 (UInt8.ofNat 99) y3] (newP 0 5 (UInt8.ofNat 100) y4) = [newP 0 7 (UInt8.ofNat 97) y1, newP 1 2 (UInt8.ofNat 98) y2, newP 2 5 (UInt8.ofNat 99) y3, newP 0 5 (UInt8.ofNat 100) y4] from rfl]
  (refine w ?_; repeat ((first | refine VO.step rfl rfl ?_ | refine VD.end rfl rfl rfl ?_ | refine VD.mid rfl rfl rfl ?_); refine OpV.box rfl rfl rfl ?_; intro _; refine w ?_))
  refine VO.re 27 (.pointer (some ⟨b, 0, none⟩)) rfl rfl ?_
  ((first | refine VO.step rfl rfl ?_ | refine VD.end rfl rfl rfl ?_ | refine VD.mid rfl rfl rfl ?_); refine OpV.call rfl rfl (fun _ _ => by simp) (liftall_ok (R := R) (by simp)) Ent.refl rfl ?_)
  rintro ⟨z, l, r1⟩ ht
  dsimp only at ht ⊢
  (refine w ?_; repeat ((first | refine VO.step rfl rfl ?_ | refine VD.end rfl rfl rfl ?_ | refine VD.mid rfl rfl rfl ?_); refine OpV.box rfl rfl rfl ?_; intro _; refine w ?_))
  obtain ⟨rfl, rfl⟩ := four ht
  ((first | refine VO.step rfl rfl ?_ | refine VD.end rfl rfl rfl ?_ | refine VD.mid rfl rfl rfl ?_); refine OpV.call rfl rfl (fun _ _ => by simp) (patch_lit 0 5 100 (by decide)) Ent.refl rfl ?_)
  intro j1 _
  (refine w ?_; repeat ((first | refine VO.step rfl rfl ?_ | refine VD.end rfl rfl rfl ?_ | refine VD.mid rfl rfl rfl ?_); refine OpV.box rfl rfl rfl ?_; intro _; refine w ?_))
  ((first | refine VO.step rfl rfl ?_ | refine VD.end rfl rfl rfl ?_ | refine VD.mid rfl rfl rfl ?_); refine OpV.call rfl rfl (fun _ _ => by simp) (patch_lit 2 5 99 (by decide)) Ent.refl rfl ?_)
  intro j2 _
  (refine w ?_; repeat ((first | refine VO.step rfl rfl ?_ | refine VD.end rfl rfl rfl ?_ | refine VD.mid rfl rfl rfl ?_); refine OpV.box rfl rfl rfl ?_; intro _; refine w ?_))
  ((first | refine VO.step rfl rfl ?_ | refine VD.end rfl rfl rfl ?_ | refine VD.mid rfl rfl rfl ?_); refine OpV.call rfl rfl (fun _ _ => by simp) (patch_lit 0 7 97 (by decide)) Ent.refl rfl ?_)
  intro j3 _
  (refine w ?_; repeat ((first | refine VO.step rfl rfl ?_ | refine VD.end rfl rfl rfl ?_ | refine VD.mid rfl rfl rfl ?_); refine OpV.box rfl rfl rfl ?_; intro _; refine w ?_))
  ((first | refine VO.step rfl rfl ?_ | refine VD.end rfl rfl rfl ?_ | refine VD.mid rfl rfl rfl ?_); refine OpV.call rfl rfl (fun _ _ => by simp) (patch_lit 1 2 98 (by decide)) Ent.refl rfl ?_)
  intro j4 _
  (refine w ?_; repeat ((first | refine VO.step rfl rfl ?_ | refine VD.end rfl rfl rfl ?_ | refine VD.mid rfl rfl rfl ?_); refine OpV.box rfl rfl rfl ?_; intro _; refine w ?_))
  (first | refine VO.step rfl rfl ?_ | refine VD.end rfl rfl rfl ?_ | refine VD.mid rfl rfl rfl ?_)
  refine OpV.buildSlice (cs := patCells [mkP 0 5 (UInt8.ofNat 100) j1, mkP 2 5 (UInt8.ofNat 99) j2, mkP 0 7 (UInt8.ofNat 97) j3, mkP 1 2 (UInt8.ofNat 98) j4]) st_56 rfl rfl (by simp [Value.cells]) (by simp [Value.cells, patCells]) (by decide) rfl ?_
  intro nb
  (refine w ?_; repeat ((first | refine VO.step rfl rfl ?_ | refine VD.end rfl rfl rfl ?_ | refine VD.mid rfl rfl rfl ?_); refine OpV.box rfl rfl rfl ?_; intro _; refine w ?_))
  generalize hL : [newP 0 5 (UInt8.ofNat 100) y4, newP 2 5 (UInt8.ofNat 99) y3, newP 0 7 (UInt8.ofNat 97) y1, newP 1 2 (UInt8.ofNat 98) y2] = L
  refine VO.know (p := ∀ p ∈ L, p.d.ok) (fun w hw => pilp_know (by (focus repeat first | exact .head _ | apply List.Mem.tail)) hw) ?_
  intro hok
  refine VO.know (p := z.1 = none → L.length = 0) (fun w hw => Holds.ownNone hw (by (focus repeat first | exact .head _ | apply List.Mem.tail))) ?_
  intro hz
  have hd : ∀ p ∈ L, p.d.data.length ≤ maxLen := by
    subst hL
    intro p hp
    simp only [List.mem_cons, List.not_mem_nil, or_false] at hp
    rcases hp with rfl | rfl | rfl | rfl <;> exact (by simp [newP, maxLen])
  have hD : L.map PatE.D = [mkP 0 5 (UInt8.ofNat 100) j1, mkP 2 5 (UInt8.ofNat 99) j2, mkP 0 7 (UInt8.ofNat 97) j3, mkP 1 2 (UInt8.ofNat 98) j4].map PatE.D := by subst hL; rfl
  have hLl : L.length = 4 := by subst hL; rfl
  ((first | refine VO.step rfl rfl ?_ | refine VD.end rfl rfl rfl ?_ | refine VD.mid rfl rfl rfl ?_); refine OpV.call rfl rfl (fun _ _ => by simp) (samepats_ok (l := L) (m := [mkP 0 5 (UInt8.ofNat 100) j1, mkP 2 5 (UInt8.ofNat 99) j2, mkP 0 7 (UInt8.ofNat 97) j3, mkP 1 2 (UInt8.ofNat 98) j4]) (RdPats.own (x := z) hz hok (by (focus repeat first | exact .head _ | apply List.Mem.tail)) (by (focus repeat first | exact .head _ | apply List.Mem.tail))) (rdpats_row (.head _) (by intro p hp; simp only [List.mem_cons, List.not_mem_nil, or_false] at hp; rcases hp with rfl | rfl | rfl | rfl <;> exact ⟨mkP_ok _ _ _ _, by simp⟩)) (by omega) hd) Ent.refl rfl ?_)
  intro _ _
  rw [decide_eq_true hD]
  (refine w ?_; repeat ((first | refine VO.step rfl rfl ?_ | refine VD.end rfl rfl rfl ?_ | refine VD.mid rfl rfl rfl ?_); refine OpV.box rfl rfl rfl ?_; intro _; refine w ?_))
  refine VO.re 38 (.pointer (some ⟨b, 0, none⟩)) rfl rfl ?_
  refine VO.ent (H' := LiftR b 2 [] :: R) Ent.re ?_
  ((first | refine VO.step rfl rfl ?_ | refine VD.end rfl rfl rfl ?_ | refine VD.mid rfl rfl rfl ?_); refine OpV.call rfl rfl (fun _ _ => by simp) (liftrow_ok) Ent.refl rfl ?_)
  intro _ _
  (refine w ?_; repeat ((first | refine VO.step rfl rfl ?_ | refine VD.end rfl rfl rfl ?_ | refine VD.mid rfl rfl rfl ?_); refine OpV.box rfl rfl rfl ?_; intro _; refine w ?_))
  refine VO.re 43 (.pointer (some ⟨b, 0, none⟩)) rfl rfl ?_
  ((first | refine VO.step rfl rfl ?_ | refine VD.end rfl rfl rfl ?_ | refine VD.mid rfl rfl rfl ?_); refine OpV.call rfl rfl (fun _ _ => by simp) (liftlen_ok) Ent.refl rfl ?_)
  intro _ _
  (refine w ?_; repeat ((first | refine VO.step rfl rfl ?_ | refine VD.end rfl rfl rfl ?_ | refine VD.mid rfl rfl rfl ?_); refine OpV.box rfl rfl rfl ?_; intro _; refine w ?_))
  (refine VE.done1 rfl ?_ ?_)
  · rfl
  · exact Ent.re
end Go.Proofs.Ytpmmkmcbimnigaa

/-! Text Ym. -/
/- The lift's laws: what comes out is told by what was put in. -/
set_option maxRecDepth 8000
set_option linter.unusedVariables false
set_option linter.unusedSimpArgs false
set_option linter.unusedSectionVars false
namespace Go.Proofs.Ytpmmkmcbimnigaa
open Go.RowKit Go.Sl

theorem filter_keep {s : List PatE} {k : Pl} (h : k ∉ s.map PatE.place) : s.filter (fun x => decide (x.place ≠ k)) = s := List.filter_eq_self.2 fun x hx => by
  simp only [decide_eq_true_eq]
  intro e
  exact h (e ▸ List.mem_map_of_mem hx)
theorem take_perm {ps : List PatE} {p : PatE} (hd : (ps.map PatE.place).Nodup) (hp : p ∈ ps) : List.Perm ps (p :: ps.filter fun x => x.place ≠ p.place) := by
  obtain ⟨s, t, rfl⟩ := List.append_of_mem hp
  have h1 : (p.place :: ((s ++ t).map PatE.place)).Nodup := by
    have := ((List.perm_middle (a := p) (l₁ := s) (l₂ := t)).map PatE.place).nodup hd
    rwa [List.map_cons] at this
  rw [List.nodup_cons, List.map_append, List.mem_append] at h1
  rw [List.filter_append, List.filter_cons_of_neg (by simp), filter_keep (fun h => h1.1 (.inl h)), filter_keep (fun h => h1.1 (.inr h))]
  exact List.perm_middle
theorem Take.perm {r : Int} {ps l ps1 : List PatE} {r1 : Int} (hd : (ps.map PatE.place).Nodup) (h : Take r ps l r1 ps1) : List.Perm (l ++ ps1) ps := by
  induction h with
  | nil => exact .refl _
  | @snoc l r1 ps1 p h hp hn ih =>
    have h1 : (ps1.map PatE.place).Nodup := by
      have := (ih.symm.map PatE.place).nodup hd
      rw [List.map_append] at this
      exact (List.nodup_append.1 this).2.1
    rw [List.append_assoc]
    exact ((take_perm h1 hp).symm.append_left l).trans ih
abbrev PatD.place (p : PatD) : Pl := (p.member, p.row)
theorem map_DP (ps : List PatE) : (ps.map PatE.D).map PatD.place = ps.map PatE.place := by rw [List.map_map]; rfl
theorem map_DF (ps : List PatE) (k : Pl) : (ps.filter fun x => x.place ≠ k).map PatE.D = (ps.map PatE.D).filter fun x => x.place ≠ k := by
  rw [List.filter_map]; rfl
theorem base_perm {r : Int} {K K' : List Pl} (h : List.Perm K K') : base r K = base r K' := by
  unfold base
  rw [h.any_eq]
theorem isNext_perm {r : Int} {K K' : List Pl} {k : Pl} (h : List.Perm K K') (hn : IsNext r K k) : IsNext r K' k :=
  ⟨h.subset hn.mem, by rw [← base_perm h]; exact hn.low, fun x hx hb => hn.least x (h.symm.subset hx) (by rw [base_perm h]; exact hb)⟩
theorem nodup_filter {ps : List PatE} {k : Pl} (h : (ps.map PatE.place).Nodup) : ((ps.filter fun x => x.place ≠ k).map PatE.place).Nodup := h.sublist (List.filter_sublist.map _)
/-- Of the same patches the same comes out. -/
theorem Take.same : ∀ (n : Nat) {r : Int} {ps ps' l l' : List PatE} {r1 r1' : Int}, ps.length ≤ n → (ps.map PatE.place).Nodup → List.Perm (ps.map PatE.D) (ps'.map PatE.D) → Take r ps l r1 [] → Take r ps' l' r1' [] → l.map PatE.D = l'.map PatE.D ∧ r1 = r1' := by
  intro n
  induction n with
  | zero =>
    intro r ps ps' l l' r1 r1' hn hd hp h h'
    have e1 : ps = [] := List.length_eq_zero_iff.1 (by omega)
    subst e1
    have e2 : ps' = [] := by simpa using hp.symm
    subst e2
    obtain ⟨rfl, rfl⟩ := h.last
    obtain ⟨rfl, rfl⟩ := h'.last
    exact ⟨rfl, rfl⟩
  | succ n ih =>
    intro r ps ps' l l' r1 r1' hn hd hp h h'
    have hK : List.Perm (ps.map PatE.place) (ps'.map PatE.place) := by rw [← map_DP, ← map_DP]; exact hp.map _
    rcases h.front with ⟨rfl, rfl, rfl⟩ | ⟨p, t, rfl, h1, h2, h3⟩
    · have e2 : ps' = [] := by simpa using hp.symm
      subst e2
      obtain ⟨rfl, rfl⟩ := h'.last
      exact ⟨rfl, rfl⟩
    rcases h'.front with ⟨rfl, rfl, rfl⟩ | ⟨p', t', rfl, h1', h2', h3'⟩
    · have e2 : ps = [] := by simpa using hp
      subst e2; cases h1
    have hpl : p.place = p'.place := (isNext_perm hK h2).one h2'
    have hd' : (ps'.map PatE.place).Nodup := hK.nodup hd
    obtain ⟨q, hq, he⟩ := List.mem_map.1 (hp.subset (List.mem_map_of_mem (f := PatE.D) h1))
    have hqp : q.place = p.place := by
      have := congrArg PatD.place he
      exact this
    have hqp' : q = p' := same_place hd' hq h1' (hqp.trans hpl)
    subst hqp'
    have hrow : p.row = q.row := congrArg Prod.snd hpl
    rw [← hpl, ← hrow] at h3'
    have hlt := filter_less h1
    obtain ⟨e1, e2⟩ := ih (by omega) (nodup_filter hd) (by rw [map_DF, map_DF]; exact hp.filter _) h3 h3'
    exact ⟨by rw [List.map_cons, List.map_cons, e1, he], e2⟩
end Go.Proofs.Ytpmmkmcbimnigaa

/-! Text Yr. -/
/- The document's lift: New, without, Put. -/
set_option maxRecDepth 8000
set_option linter.unusedVariables false
set_option linter.unusedSimpArgs false
set_option linter.unusedSectionVars false
namespace Go.Proofs.Ytpmmkmcbimnigaa
open Go.RowKit Go.Sl
attribute [local irreducible] Sl.Own

/-- The document's lift in memory: patches and a row. -/
abbrev dlC (r : Int) (n : Nat) (x : Option Addr × Nat) : List Value := [.slice x.1 n x.2, .int .i64 r]
abbrev dlO (b : Nat) (r : Int) (ps : List PatE) (x : Option Addr × Nat) (R : List SProp) : List SProp := Row b 64 (dlC r ps.length x) :: PatsO x ps :: PilP ps :: R
theorem dliftnew_ok {W : World} {R : List SProp} {r : Int} (hr : 0 ≤ r ∧ r ≤ 4095) :
    Does W Try.prog 11 [.int .i64 r] R (β := Nat) (fun _ => True) (fun b => .tuple #[.pointer (some ⟨b, 0, none⟩), .int .i64 0]) (fun b => dlO b r [] (none, 0) R) := by
  (refine Does.enter Try.func11 Try.ntmps11 rfl rfl ?_)
  (refine w ?_; repeat ((first | refine VO.step rfl rfl ?_ | refine VD.end rfl rfl rfl ?_ | refine VD.mid rfl rfl rfl ?_); refine OpV.box rfl rfl rfl ?_; intro _; refine w ?_))
  (first | refine VO.gF rfl rfl rfl (decide_eq_false (by omega)) ?_ | refine VD.gF rfl rfl rfl (decide_eq_false (by omega)) ?_)
  (refine w ?_; repeat ((first | refine VO.step rfl rfl ?_ | refine VD.end rfl rfl rfl ?_ | refine VD.mid rfl rfl rfl ?_); refine OpV.box rfl rfl rfl ?_; intro _; refine w ?_))
  (refine VC.condFe rfl rfl (decide_eq_false (by omega)) ?_)
  (refine w ?_; repeat ((first | refine VO.step rfl rfl ?_ | refine VD.end rfl rfl rfl ?_ | refine VD.mid rfl rfl rfl ?_); refine OpV.box rfl rfl rfl ?_; intro _; refine w ?_))
  (apply VO.pure rfl rfl; apply PureAt.build sb_64 rfl; (simp [buildX, setL, Value.cells]; rfl); rfl)
  (first | refine VO.step rfl rfl ?_ | refine VD.end rfl rfl rfl ?_ | refine VD.mid rfl rfl rfl ?_)
  refine OpV.box rfl rfl rfl ?_
  intro b
  (refine w ?_; repeat ((first | refine VO.step rfl rfl ?_ | refine VD.end rfl rfl rfl ?_ | refine VD.mid rfl rfl rfl ?_); refine OpV.box rfl rfl rfl ?_; intro _; refine w ?_))
  refine VE.done b rfl trivial rfl ?_
  intro w hw
  have h1 := Holds.ownNil 49 3 (pile_nil (res := PatE.res) hw)
  exact (show Ent W _ (dlO b r [] (none, 0) R) from Ent.re) w h1
theorem dliftnew_bad {W : World} {R : List SProp} {r : Int} (hr : r < 0 ∨ 4095 < r) :
    Does1 W Try.prog 11 [.int .i64 r] R (.tuple #[.pointer none, .int .i64 3]) R := by
  (refine Does.enter Try.func11 Try.ntmps11 rfl rfl ?_)
  (refine w ?_; repeat ((first | refine VO.step rfl rfl ?_ | refine VD.end rfl rfl rfl ?_ | refine VD.mid rfl rfl rfl ?_); refine OpV.box rfl rfl rfl ?_; intro _; refine w ?_))
  ((first | refine VO.split rfl rfl rfl ?_ ?_ | refine VD.split rfl rfl rfl ?_ ?_) <;> intro hb)
  · (refine w ?_; repeat ((first | refine VO.step rfl rfl ?_ | refine VD.end rfl rfl rfl ?_ | refine VD.mid rfl rfl rfl ?_); refine OpV.box rfl rfl rfl ?_; intro _; refine w ?_))
    (refine VE.done1 rfl ?_ ?_)
    · rfl
    · exact Ent.refl
  · have := of_decide_eq_false hb
    (refine w ?_; repeat ((first | refine VO.step rfl rfl ?_ | refine VD.end rfl rfl rfl ?_ | refine VD.mid rfl rfl rfl ?_); refine OpV.box rfl rfl rfl ?_; intro _; refine w ?_))
    (refine VC.condTe rfl rfl (decide_eq_true (by omega)) ?_)
    (refine w ?_; repeat ((first | refine VO.step rfl rfl ?_ | refine VD.end rfl rfl rfl ?_ | refine VD.mid rfl rfl rfl ?_); refine OpV.box rfl rfl rfl ?_; intro _; refine w ?_))
    (refine VE.done1 rfl ?_ ?_)
    · rfl
    · exact Ent.refl
theorem patCells_app (l m : List PatE) : patCells (l ++ m) = patCells l ++ patCells m := by unfold patCells; rw [List.flatMap_append]
theorem patCells_take (l : List PatE) (k : Nat) (h : k ≤ l.length) : (patCells l).take (k * 3) = patCells (l.take k) := by
  have h1 := patCells_app (l.take k) (l.drop k)
  rw [List.take_append_drop] at h1
  rw [h1, show k * 3 = (patCells (l.take k)).length by rw [pats_len, List.length_take, Nat.min_eq_left h], List.take_left]
theorem patCells_drop (l : List PatE) (k : Nat) (h : k ≤ l.length) : (patCells l).drop (k * 3) = patCells (l.drop k) := by
  have h1 := patCells_app (l.take k) (l.drop k)
  rw [List.take_append_drop] at h1
  rw [h1, show k * 3 = (patCells (l.take k)).length by rw [pats_len, List.length_take, Nat.min_eq_left h], List.drop_left]
set_option maxHeartbeats 2000000 in
theorem dwithout_ok {W : World} {R : List SProp} {a : Addr} {cap k : Nat} {l : List PatE} (hr : Rds W R 3 (some a) l.length (patCells l)) (hk : k < l.length) (hc : l.length ≤ cap) (hn : l.length ≤ 1000000) :
    Does W Try.prog 40 [.slice (some a) l.length cap, .int .i64 (k : Int)] R (β := Option Addr × Nat) (fun _ => True) (fun y => .slice y.1 (l.eraseIdx k).length y.2) (fun y => PatsO y (l.eraseIdx k) :: R) := by
  (refine Does.enter Try.func40 Try.ntmps40 rfl rfl ?_)
  refine VC.ent (fun w hw => Holds.ownNil 49 3 hw) ?_
  (refine w ?_; repeat ((first | refine VO.step rfl rfl ?_ | refine VD.end rfl rfl rfl ?_ | refine VD.mid rfl rfl rfl ?_); refine OpV.box rfl rfl rfl ?_; intro _; refine w ?_))
  (first | refine VO.step rfl rfl ?_ | refine VD.end rfl rfl rfl ?_ | refine VD.mid rfl rfl rfl ?_)
  have h1 : Rds W R 3 (some a) k (patCells (l.take k)) := by
    have := Rds.take (l := k) hr (by omega)
    rwa [patCells_take l k (by omega)] at this
  refine OpV.append st_56 rfl rfl .head (fun w hw => (h1.sees (cap := cap) hw.tail).src st_56.und) (by simp only [maxLen]; omega) (by omega) rfl ?_
  intro b1 c1
  simp only [Nat.zero_add, List.nil_append]
  (refine w ?_; repeat ((first | refine VO.step rfl rfl ?_ | refine VD.end rfl rfl rfl ?_ | refine VD.mid rfl rfl rfl ?_); refine OpV.box rfl rfl rfl ?_; intro _; refine w ?_))
  have h2 : Rds W R 3 (subA (some a) cap (k + 1) 3) (l.length - (k + 1)) (patCells (l.drop (k + 1))) := by
    have := hr.sub (cap := cap) (l := k + 1) (h := l.length) (by omega) (Nat.le_refl _) hc
    rw [patCells_drop l (k + 1) (by omega), show (l.length - (k + 1)) * 3 = (patCells (l.drop (k + 1))).length by rw [pats_len, List.length_drop], List.take_length] at this
    exact this
  refine VO.re 14 (.int .i64 ((k + 1 : Nat) : Int)) rfl (by congr 1) ?_
  (refine w ?_; repeat ((first | refine VO.step rfl rfl ?_ | refine VD.end rfl rfl rfl ?_ | refine VD.mid rfl rfl rfl ?_); refine OpV.box rfl rfl rfl ?_; intro _; refine w ?_))
  (first | refine VO.step rfl rfl ?_ | refine VD.end rfl rfl rfl ?_ | refine VD.mid rfl rfl rfl ?_)
  refine OpV.append st_56 rfl rfl .head (fun w hw => (h2.sees (cap := cap - (k + 1)) hw.tail).src st_56.und) (by simp only [maxLen]; omega) (by omega) rfl ?_
  intro b2 c2
  (refine w ?_; repeat ((first | refine VO.step rfl rfl ?_ | refine VD.end rfl rfl rfl ?_ | refine VD.mid rfl rfl rfl ?_); refine OpV.box rfl rfl rfl ?_; intro _; refine w ?_))
  have e1 : (l.eraseIdx k).length = k + (l.length - (k + 1)) := by rw [List.length_eraseIdx, if_pos hk]; omega
  refine VE.done (b2, c2) rfl trivial (by rw [e1]) ?_
  unfold PatsO
  rw [e1, List.eraseIdx_eq_take_drop_succ, patCells_app]
  exact Ent.re

/-! ### Put -/
theorem erase_filter : ∀ {ps : List PatE} (_ : (ps.map PatE.place).Nodup) {k : Nat} (h : k < ps.length), ps.eraseIdx k = ps.filter fun x => x.place ≠ ps[k].place
  | p :: t, hd, 0, h => by
    rw [List.map_cons, List.nodup_cons] at hd
    rw [List.eraseIdx_cons_zero, List.getElem_cons_zero, List.filter_cons_of_neg (by simp), filter_keep hd.1]
  | p :: t, hd, k + 1, h => by
    rw [List.map_cons, List.nodup_cons] at hd
    have h1 := erase_filter hd.2 (k := k) (by simpa using h)
    rw [List.eraseIdx_cons_succ, List.getElem_cons_succ, List.filter_cons_of_pos, h1]
    simp only [decide_eq_true_eq]
    intro e
    exact hd.1 (e ▸ List.mem_map_of_mem (List.getElem_mem _))
/-- How far Put's loop has come: either none of this place has been met, or it is out. -/
def PutI (ps : List PatE) (p : PatE) (i : Nat) (cur : List PatE) : Prop := (cur = ps ∧ i ≤ ps.length ∧ ∀ q ∈ ps.take i, q.place ≠ p.place) ∨ (cur = ps.filter (fun x => x.place ≠ p.place) ∧ i ≤ cur.length + 1)
theorem PutI.end {ps : List PatE} {p : PatE} {i : Nat} {cur : List PatE} (h : PutI ps p i cur) (hi : cur.length ≤ i) : cur = ps.filter fun x => x.place ≠ p.place := by
  rcases h with ⟨rfl, h1, h2⟩ | ⟨h, _⟩
  · rw [List.take_of_length_le hi] at h2
    exact (List.filter_eq_self.2 fun x hx => decide_eq_true (h2 x hx)).symm
  · exact h
theorem PutI.miss {ps : List PatE} {p : PatE} {i : Nat} {cur : List PatE} (h : PutI ps p i cur) (hi : i < cur.length) (hn : cur[i].place ≠ p.place) : PutI ps p (i + 1) cur := by
  rcases h with ⟨rfl, h1, h2⟩ | ⟨h, h1⟩
  · refine .inl ⟨rfl, hi, fun q hq => ?_⟩
    rw [List.take_succ_eq_append_getElem hi, List.mem_append, List.mem_singleton] at hq
    rcases hq with hq | rfl
    · exact h2 q hq
    · exact hn
  · exact .inr ⟨h, by omega⟩
theorem PutI.hit {ps : List PatE} {p : PatE} {i : Nat} {cur : List PatE} (hd : (ps.map PatE.place).Nodup) (h : PutI ps p i cur) (hi : i < cur.length) (hn : cur[i].place = p.place) : PutI ps p (i + 1) (cur.eraseIdx i) ∧ cur = ps ∧ cur.eraseIdx i = ps.filter fun x => x.place ≠ p.place := by
  rcases h with ⟨rfl, h1, h2⟩ | ⟨rfl, h1⟩
  · have h3 := erase_filter hd hi
    rw [hn] at h3
    refine ⟨.inr ⟨h3, ?_⟩, rfl, h3⟩
    rw [List.length_eraseIdx, if_pos hi]; omega
  · exact absurd hn (of_decide_eq_true (List.mem_filter.1 (List.getElem_mem hi)).2)
theorem PutI.le {ps : List PatE} {p : PatE} {i : Nat} {cur : List PatE} (h : PutI ps p i cur) : i ≤ cur.length + 1 ∧ cur.length ≤ ps.length := by
  rcases h with ⟨rfl, h1, _⟩ | ⟨rfl, h1⟩
  · exact ⟨by omega, Nat.le_refl _⟩
  · exact ⟨h1, List.length_filter_le _ _⟩
theorem dlO_rd {W : World} {b : Nat} {r : Int} {ps : List PatE} {x : Option Addr × Nat} {R L : List SProp} (e : Ent W L (dlO b r ps x R)) (hx : x.1 = none → ps.length = 0) : Rds W L 3 x.1 ps.length (patCells ps) :=
  (Rds.own (e := 49) (cap := x.2) (pats_one ps) (.tail _ (.head _)) (pats_len ps) hx : Rds W (dlO b r ps x R) 3 x.1 ps.length (patCells ps)).ent e
set_option maxHeartbeats 4000000 in
theorem dliftput_ok {W : World} {R : List SProp} {b : Nat} {r : Int} {ps : List PatE} {p : PatE} {x : Option Addr × Nat} (hd : (ps.map PatE.place).Nodup) (hp : p.In) (hrd : Rds W R 1 p.d.ao p.d.data.length (bytes p.d.data)) (hps : ps.length ≤ 800000) :
    Does W Try.prog 21 [.pointer (some ⟨b, 0, none⟩), .agg p.cells.toArray] (dlO b r ps x R) (β := (Option Addr × Nat) × Option Addr × Nat) (fun _ => True) (fun _ => .int .i64 0) (fun y => dlO b r (putL ps ⟨p.member, p.row, ⟨y.2.1, y.2.2, p.d.data⟩⟩) y.1 R) := by
  have hm := hp.m; have hr := hp.r; have hl := hp.n
  (refine Does.enter Try.func21 Try.ntmps21 rfl rfl ?_)
  (refine w ?_; repeat ((first | refine VO.step rfl rfl ?_ | refine VD.end rfl rfl rfl ?_ | refine VD.mid rfl rfl rfl ?_); refine OpV.box rfl rfl rfl ?_; intro _; refine w ?_))
  rename_i n3
  (first | refine VO.gF rfl rfl rfl (decide_eq_false (by omega)) ?_ | refine VD.gF rfl rfl rfl (decide_eq_false (by omega)) ?_)
  (refine w ?_; repeat ((first | refine VO.step rfl rfl ?_ | refine VD.end rfl rfl rfl ?_ | refine VD.mid rfl rfl rfl ?_); refine OpV.box rfl rfl rfl ?_; intro _; refine w ?_))
  (first | refine VO.gF rfl rfl rfl (decide_eq_false (by omega)) ?_ | refine VD.gF rfl rfl rfl (decide_eq_false (by omega)) ?_)
  (refine w ?_; repeat ((first | refine VO.step rfl rfl ?_ | refine VD.end rfl rfl rfl ?_ | refine VD.mid rfl rfl rfl ?_); refine OpV.box rfl rfl rfl ?_; intro _; refine w ?_))
  (first | refine VO.gF rfl rfl rfl (decide_eq_false (by omega)) ?_ | refine VD.gF rfl rfl rfl (decide_eq_false (by omega)) ?_)
  (refine w ?_; repeat ((first | refine VO.step rfl rfl ?_ | refine VD.end rfl rfl rfl ?_ | refine VD.mid rfl rfl rfl ?_); refine OpV.box rfl rfl rfl ?_; intro _; refine w ?_))
  (refine VC.condFe rfl rfl (decide_eq_false (by omega)) ?_)
  (refine w ?_; repeat ((first | refine VO.step rfl rfl ?_ | refine VD.end rfl rfl rfl ?_ | refine VD.mid rfl rfl rfl ?_); refine OpV.box rfl rfl rfl ?_; intro _; refine w ?_))
  (refine VC.condFe rfl rfl (by simp [hl]) ?_)
  (refine w ?_; repeat ((first | refine VO.step rfl rfl ?_ | refine VD.end rfl rfl rfl ?_ | refine VD.mid rfl rfl rfl ?_); refine OpV.box rfl rfl rfl ?_; intro _; refine w ?_))
  refine VC.loop (α := Nat × List PatE × Option Addr × Nat) (fun y => PutI ps p y.1 y.2.1) (fun y => Row n3 49 p.cells :: dlO b r y.2.1 y.2.2 R)
    (fun y => [(0, .pointer (some ⟨b, 0, none⟩)), (3, .pointer (some ⟨n3, 0, none⟩)), (5, .int .i64 y.1)]) (fun y => y.2.1.length + 1 - y.1) rfl (0, ps, x) (.inl ⟨rfl, Nat.zero_le _, fun q h => (by simp at h)⟩) Ent.re ⟨rfl, rfl, rfl, trivial⟩ ?_
  rintro ⟨i, cur, yo, yc⟩ hi
  dsimp only at hi ⊢
  have hle := hi.le
  refine VC.know (p := yo = none → cur.length = 0) (fun w hw => Holds.ownNone hw (by (focus repeat first | exact .head _ | apply List.Mem.tail))) ?_
  intro hyo
  refine VC.know (p := cur.length ≤ yc) (fun w hw => Holds.ownCap hw (.tail _ (.tail _ (.head _)))) ?_
  intro hyc
  (refine w ?_; repeat ((first | refine VO.step rfl rfl ?_ | refine VD.end rfl rfl rfl ?_ | refine VD.mid rfl rfl rfl ?_); refine OpV.box rfl rfl rfl ?_; intro _; refine w ?_))
  (refine VC.cond rfl rfl ?_ ?_ <;> intro hc)
  · have hlt : i < cur.length := by have := of_decide_eq_true hc; omega
    clear hc
    obtain ⟨ya, rfl⟩ : ∃ a, yo = some a := by cases yo with | none => have := hyo rfl; omega | some a => exact ⟨a, rfl⟩
    have hR : Rds W (Row n3 49 p.cells :: dlO b r cur (some ya, yc) R) 3 (some ya) cur.length (patCells cur) := dlO_rd (x := (some ya, yc)) (Ent.drop Ent.refl) hyo
    (refine w ?_; repeat ((first | refine VO.step rfl rfl ?_ | refine VD.end rfl rfl rfl ?_ | refine VD.mid rfl rfl rfl ?_); refine OpV.box rfl rfl rfl ?_; intro _; refine w ?_))
    (refine VC.join (α := Unit) (fun _ => True) (fun _ => Row n3 49 p.cells :: dlO b r cur (some ya, yc) R) (fun _ => [(0, .pointer (some ⟨b, 0, none⟩)), (3, .pointer (some ⟨n3, 0, none⟩)), (5, .int .i64 i), (61, .bool (decide (cur[i].place = p.place)))]) ?_ ?_)
    · intro Q2 jn
      ((refine VC.quiet rfl (by kernel_rfl) (by kernel_rfl) ?_); (refine w ?_; repeat ((first | refine VO.step rfl rfl ?_ | refine VD.end rfl rfl rfl ?_ | refine VD.mid rfl rfl rfl ?_); refine OpV.box rfl rfl rfl ?_; intro _; refine w ?_)))
      (first | refine VO.pure rfl rfl (PureAt.ldRc tab_ok rfl rfl hR (pat_get cur i 0 hlt (by decide))) rfl ?_ | refine VD.take rfl rfl rfl (PureAt.ldRc tab_ok rfl rfl hR (pat_get cur i 0 hlt (by decide))) rfl ?_ | refine VQ.pure rfl rfl (PureAt.ldRc tab_ok rfl rfl hR (pat_get cur i 0 hlt (by decide))) rfl ?_ | refine VD.end rfl rfl rfl (OpV.pure (PureAt.ldRc tab_ok rfl rfl hR (pat_get cur i 0 hlt (by decide))) rfl ?_))
      (refine w ?_; repeat ((first | refine VO.step rfl rfl ?_ | refine VD.end rfl rfl rfl ?_ | refine VD.mid rfl rfl rfl ?_); refine OpV.box rfl rfl rfl ?_; intro _; refine w ?_))
      (refine VQ.split rfl rfl rfl ?_ ?_ <;> intro hb)
      · have h1 : cur[i].member = p.member := by simpa using hb
        clear hb
        (refine w ?_; repeat ((first | refine VO.step rfl rfl ?_ | refine VD.end rfl rfl rfl ?_ | refine VD.mid rfl rfl rfl ?_); refine OpV.box rfl rfl rfl ?_; intro _; refine w ?_))
        (first | refine VO.pure rfl rfl (PureAt.ldRc tab_ok rfl rfl hR (pat_get cur i 1 hlt (by decide))) rfl ?_ | refine VD.take rfl rfl rfl (PureAt.ldRc tab_ok rfl rfl hR (pat_get cur i 1 hlt (by decide))) rfl ?_ | refine VQ.pure rfl rfl (PureAt.ldRc tab_ok rfl rfl hR (pat_get cur i 1 hlt (by decide))) rfl ?_ | refine VD.end rfl rfl rfl (OpV.pure (PureAt.ldRc tab_ok rfl rfl hR (pat_get cur i 1 hlt (by decide))) rfl ?_))
        (refine w ?_; repeat ((first | refine VO.step rfl rfl ?_ | refine VD.end rfl rfl rfl ?_ | refine VD.mid rfl rfl rfl ?_); refine OpV.box rfl rfl rfl ?_; intro _; refine w ?_))
        have e : (cur[i].row == p.row) = decide (cur[i].place = p.place) := by
          rw [Bool.eq_iff_iff, beq_iff_eq, decide_eq_true_iff]
          exact ⟨fun h => Prod.ext h1 h, fun h => congrArg Prod.snd h⟩
        (refine jn.to () trivial ⟨rfl, rfl, rfl, asV rfl (congrArg Value.bool e), trivial⟩ ?_; (try dsimp only); exact Ent.re)
      · have h1 : ¬ cur[i].member = p.member := by simpa using hb
        have e : false = decide (cur[i].place = p.place) := (decide_eq_false fun h => h1 (congrArg Prod.fst h)).symm
        clear hb
        (refine w ?_; repeat ((first | refine VO.step rfl rfl ?_ | refine VD.end rfl rfl rfl ?_ | refine VD.mid rfl rfl rfl ?_); refine OpV.box rfl rfl rfl ?_; intro _; refine w ?_))
        (refine jn.to () trivial ⟨rfl, rfl, rfl, asV rfl (congrArg Value.bool e), trivial⟩ ?_; (try dsimp only); exact Ent.re)
    · rintro _ _
      (refine VC.cond rfl rfl ?_ ?_ <;> intro hc)
      · have h1 : cur[i].place = p.place := of_decide_eq_true hc
        clear hc
        obtain ⟨h2, h3, h4⟩ := hi.hit hd hlt h1
        (refine w ?_; repeat ((first | refine VO.step rfl rfl ?_ | refine VD.end rfl rfl rfl ?_ | refine VD.mid rfl rfl rfl ?_); refine OpV.box rfl rfl rfl ?_; intro _; refine w ?_))
        ((first | refine VO.step rfl rfl ?_ | refine VD.end rfl rfl rfl ?_ | refine VD.mid rfl rfl rfl ?_); refine OpV.call rfl rfl (fun _ _ => by simp) (dwithout_ok (cap := yc) hR hlt hyc (by omega)) Ent.refl rfl ?_)
        rintro ⟨zo, zc⟩ _
        (refine w ?_; repeat ((first | refine VO.step rfl rfl ?_ | refine VD.end rfl rfl rfl ?_ | refine VD.mid rfl rfl rfl ?_); refine OpV.box rfl rfl rfl ?_; intro _; refine w ?_))
        refine VE.round (i + 1, cur.eraseIdx i, zo, zc) h2 (by dsimp only; rw [List.length_eraseIdx, if_pos hlt]; omega) ⟨rfl, rfl, asV rfl (by congr 1), trivial⟩ ?_
        dsimp only
        refine Ent.trans (Ent.re (L := PilP cur :: Row n3 49 p.cells :: Row b 64 (dlC r (cur.eraseIdx i).length (zo, zc)) :: PatsO (zo, zc) (cur.eraseIdx i) :: R)) fun w hw => ?_
        have h5 := pile_keep (fun v : PatE => decide (v.place ≠ p.place)) cur _ w hw
        rw [h3, ← h4, ← h3] at h5
        exact (show Ent W (PilP (cur.eraseIdx i) :: Row n3 49 p.cells :: Row b 64 (dlC r (cur.eraseIdx i).length (zo, zc)) :: PatsO (zo, zc) (cur.eraseIdx i) :: R) _ from Ent.re) w h5
      · have h1 : cur[i].place ≠ p.place := of_decide_eq_false hc
        clear hc
        (refine w ?_; repeat ((first | refine VO.step rfl rfl ?_ | refine VD.end rfl rfl rfl ?_ | refine VD.mid rfl rfl rfl ?_); refine OpV.box rfl rfl rfl ?_; intro _; refine w ?_))
        exact VE.round (i + 1, cur, some ya, yc) (hi.miss hlt h1) (by dsimp only; omega) ⟨rfl, rfl, asV rfl (by congr 1), trivial⟩ Ent.refl
  · have hge : cur.length ≤ i := by have := of_decide_eq_false hc; omega
    clear hc
    have hcur := hi.end hge
    subst hcur
    generalize hcc : ps.filter (fun x => x.place ≠ p.place) = cur at *
    refine VC.ent (fun w hw => Holds.ownNil 5 1 hw) ?_
    (refine w ?_; repeat ((first | refine VO.step rfl rfl ?_ | refine VD.end rfl rfl rfl ?_ | refine VD.mid rfl rfl rfl ?_); refine OpV.box rfl rfl rfl ?_; intro _; refine w ?_))
    (first | refine VO.step rfl rfl ?_ | refine VD.end rfl rfl rfl ?_ | refine VD.mid rfl rfl rfl ?_)
    refine OpV.append st_47 rfl rfl .head (fun w hw => ((hrd.ent (Ent.drop (Ent.drop (Ent.drop (Ent.drop (Ent.drop Ent.refl)))))).sees (cap := p.d.cap) hw).src st_47.und) (by simp only [maxLen]; omega) (by omega) rfl ?_
    intro bo bc
    simp only [Nat.zero_add, List.nil_append]
    (refine w ?_; repeat ((first | refine VO.step rfl rfl ?_ | refine VD.end rfl rfl rfl ?_ | refine VD.mid rfl rfl rfl ?_); refine OpV.box rfl rfl rfl ?_; intro _; refine w ?_))
    refine VC.ent (H' := PatsO (yo, yc) cur :: Row b 64 (dlC r cur.length (yo, yc)) :: Row n3 49 p.cells :: Sl.Own 5 1 (.slice bo p.d.data.length bc) p.d.data.length (bytes p.d.data) :: PilP cur :: R) Ent.re ?_
    (refine VC.drawn [11, 12] 13 [0, 1, 2, 3, 4, 5, 6, 7, 8, 9, 10, 11, 12, 13, 14, 15] (Row n3 49 p.cells :: Row b 64 (dlC r cur.length (yo, yc)) :: R) rfl (by kernel_rfl) (by kernel_rfl) Ent.re ?_)
    (refine w ?_; repeat ((first | refine VO.step rfl rfl ?_ | refine VD.end rfl rfl rfl ?_ | refine VD.mid rfl rfl rfl ?_); refine OpV.box rfl rfl rfl ?_; intro _; refine w ?_))
    generalize hq : (⟨p.member, p.row, ⟨bo, bc, p.d.data⟩⟩ : PatE) = q
    have hqc : q.cells = [.int .i64 p.member, .int .i64 p.row, .slice bo p.d.data.length bc] := by rw [← hq]
    ((first | apply VO.pure rfl rfl | apply VD.take rfl rfl rfl | (refine VD.end rfl rfl rfl ?_; apply OpV.pure)); apply PureAt.build sb_49 rfl; (simp [buildX, setL, Value.cells]; rfl); rfl)
    (first | refine VO.step rfl rfl ?_ | refine VD.end rfl rfl rfl ?_ | refine VD.mid rfl rfl rfl ?_)
    refine OpV.buildSlice (cs := q.cells) st_56 rfl rfl (by simp [Value.cells]) (by simp [Value.cells, hqc]) (by decide) rfl ?_
    intro nb
    refine ⟨Ent.re, ?_⟩
    (first | refine VO.step rfl rfl ?_ | refine VD.end rfl rfl rfl ?_ | refine VD.mid rfl rfl rfl ?_)
    refine OpV.appendRow st_56 rfl rfl (by (repeat first | exact .head | apply Hole.tail)) (by (focus repeat first | exact .head _ | apply List.Mem.tail)) rfl (pat_one _) (by simp only [maxLen]; omega) (by omega) rfl ?_
    intro so2 sc2
    refine ⟨Ent.re, ?_⟩
    (refine w ?_; repeat ((first | refine VO.step rfl rfl ?_ | refine VD.end rfl rfl rfl ?_ | refine VD.mid rfl rfl rfl ?_); refine OpV.box rfl rfl rfl ?_; intro _; refine w ?_))
    have e : putL ps ⟨p.member, p.row, ⟨bo, bc, p.d.data⟩⟩ = cur ++ [q] := by rw [← hcc, ← hq]; rfl
    refine VE.done ((so2, sc2), bo, bc) rfl trivial rfl ?_
    dsimp only
    rw [e]
    refine Ent.trans (Ent.re (L := PatE.res ⟨p.member, p.row, ⟨bo, bc, p.d.data⟩⟩ :: PilP cur :: Row b 64 (dlC r (cur.length + 1) (so2, sc2)) :: Sl.Own 49 3 (.slice so2 (cur.length + 1) sc2) (cur.length + 1) (patCells cur ++ q.cells) :: R)) fun w hw => ?_
    rw [hq] at hw
    have h5 := pile_push hw
    have el : (cur ++ [q]).length = cur.length + 1 := by rw [List.length_append]; rfl
    unfold dlO PatsO
    rw [el, patCells_push]
    exact (show Ent W (PilP (cur ++ [q]) :: Row b 64 (dlC r (cur.length + 1) (so2, sc2)) :: Sl.Own 49 3 (.slice so2 (cur.length + 1) sc2) (cur.length + 1) (patCells cur ++ q.cells) :: R) _ from Ent.re) w h5
theorem dliftput_far {W : World} {R : List SProp} {b : Nat} {p : PatE} (hp : ¬ (0 ≤ p.member ∧ p.member ≤ 15 ∧ 0 ≤ p.row ∧ p.row ≤ 4095)) :
    Does1 W Try.prog 21 [.pointer (some ⟨b, 0, none⟩), .agg p.cells.toArray] R (.int .i64 3) R := by
  (refine Does.enter Try.func21 Try.ntmps21 rfl rfl ?_)
  (refine w ?_; repeat ((first | refine VO.step rfl rfl ?_ | refine VD.end rfl rfl rfl ?_ | refine VD.mid rfl rfl rfl ?_); refine OpV.box rfl rfl rfl ?_; intro _; refine w ?_))
  rename_i n3
  have fin : ∀ {c : Code} {Q : Exit → Act → World → Prop} {f : Fr}, True := fun {_ _ _} => trivial
  ((first | refine VO.split rfl rfl rfl ?_ ?_ | refine VD.split rfl rfl rfl ?_ ?_) <;> intro hb)
  · (refine w ?_; repeat ((first | refine VO.step rfl rfl ?_ | refine VD.end rfl rfl rfl ?_ | refine VD.mid rfl rfl rfl ?_); refine OpV.box rfl rfl rfl ?_; intro _; refine w ?_))
    (refine VE.done1 rfl ?_ ?_)
    · rfl
    · exact Ent.re
  have h1 := of_decide_eq_false hb
  (refine w ?_; repeat ((first | refine VO.step rfl rfl ?_ | refine VD.end rfl rfl rfl ?_ | refine VD.mid rfl rfl rfl ?_); refine OpV.box rfl rfl rfl ?_; intro _; refine w ?_))
  ((first | refine VO.split rfl rfl rfl ?_ ?_ | refine VD.split rfl rfl rfl ?_ ?_) <;> intro hb)
  · (refine w ?_; repeat ((first | refine VO.step rfl rfl ?_ | refine VD.end rfl rfl rfl ?_ | refine VD.mid rfl rfl rfl ?_); refine OpV.box rfl rfl rfl ?_; intro _; refine w ?_))
    (refine VE.done1 rfl ?_ ?_)
    · rfl
    · exact Ent.re
  have h2 := of_decide_eq_false hb
  (refine w ?_; repeat ((first | refine VO.step rfl rfl ?_ | refine VD.end rfl rfl rfl ?_ | refine VD.mid rfl rfl rfl ?_); refine OpV.box rfl rfl rfl ?_; intro _; refine w ?_))
  ((first | refine VO.split rfl rfl rfl ?_ ?_ | refine VD.split rfl rfl rfl ?_ ?_) <;> intro hb)
  · (refine w ?_; repeat ((first | refine VO.step rfl rfl ?_ | refine VD.end rfl rfl rfl ?_ | refine VD.mid rfl rfl rfl ?_); refine OpV.box rfl rfl rfl ?_; intro _; refine w ?_))
    (refine VE.done1 rfl ?_ ?_)
    · rfl
    · exact Ent.re
  have h3 := of_decide_eq_false hb
  (refine w ?_; repeat ((first | refine VO.step rfl rfl ?_ | refine VD.end rfl rfl rfl ?_ | refine VD.mid rfl rfl rfl ?_); refine OpV.box rfl rfl rfl ?_; intro _; refine w ?_))
  (refine VC.condTe rfl rfl (decide_eq_true (by omega)) ?_)
  (refine w ?_; repeat ((first | refine VO.step rfl rfl ?_ | refine VD.end rfl rfl rfl ?_ | refine VD.mid rfl rfl rfl ?_); refine OpV.box rfl rfl rfl ?_; intro _; refine w ?_))
  (refine VE.done1 rfl ?_ ?_)
  · rfl
  · exact Ent.re
theorem dliftput_len {W : World} {R : List SProp} {b : Nat} {p : PatE} (hm : 0 ≤ p.member ∧ p.member ≤ 15) (hr : 0 ≤ p.row ∧ p.row ≤ 4095) (hl : p.d.data.length ≠ 128) :
    Does1 W Try.prog 21 [.pointer (some ⟨b, 0, none⟩), .agg p.cells.toArray] R (.int .i64 4) R := by
  (refine Does.enter Try.func21 Try.ntmps21 rfl rfl ?_)
  (refine w ?_; repeat ((first | refine VO.step rfl rfl ?_ | refine VD.end rfl rfl rfl ?_ | refine VD.mid rfl rfl rfl ?_); refine OpV.box rfl rfl rfl ?_; intro _; refine w ?_))
  rename_i n3
  (first | refine VO.gF rfl rfl rfl (decide_eq_false (by omega)) ?_ | refine VD.gF rfl rfl rfl (decide_eq_false (by omega)) ?_)
  (refine w ?_; repeat ((first | refine VO.step rfl rfl ?_ | refine VD.end rfl rfl rfl ?_ | refine VD.mid rfl rfl rfl ?_); refine OpV.box rfl rfl rfl ?_; intro _; refine w ?_))
  (first | refine VO.gF rfl rfl rfl (decide_eq_false (by omega)) ?_ | refine VD.gF rfl rfl rfl (decide_eq_false (by omega)) ?_)
  (refine w ?_; repeat ((first | refine VO.step rfl rfl ?_ | refine VD.end rfl rfl rfl ?_ | refine VD.mid rfl rfl rfl ?_); refine OpV.box rfl rfl rfl ?_; intro _; refine w ?_))
  (first | refine VO.gF rfl rfl rfl (decide_eq_false (by omega)) ?_ | refine VD.gF rfl rfl rfl (decide_eq_false (by omega)) ?_)
  (refine w ?_; repeat ((first | refine VO.step rfl rfl ?_ | refine VD.end rfl rfl rfl ?_ | refine VD.mid rfl rfl rfl ?_); refine OpV.box rfl rfl rfl ?_; intro _; refine w ?_))
  (refine VC.condFe rfl rfl (decide_eq_false (by omega)) ?_)
  (refine w ?_; repeat ((first | refine VO.step rfl rfl ?_ | refine VD.end rfl rfl rfl ?_ | refine VD.mid rfl rfl rfl ?_); refine OpV.box rfl rfl rfl ?_; intro _; refine w ?_))
  (refine VC.condTe rfl rfl (by simp; omega) ?_)
  (refine w ?_; repeat ((first | refine VO.step rfl rfl ?_ | refine VD.end rfl rfl rfl ?_ | refine VD.mid rfl rfl rfl ?_); refine OpV.box rfl rfl rfl ?_; intro _; refine w ?_))
  (refine VE.done1 rfl ?_ ?_)
  · rfl
  · exact Ent.re
/-! ### least -/
/-- Which one least tells, of the first n. -/
def LeastI (ps : List PatE) (from_ : Int) (n : Nat) (best : Int) : Prop :=
  (best = -1 ∧ ∀ q ∈ ps.take n, q.row < from_) ∨ ∃ (k : Nat) (h : k < ps.length), k < n ∧ best = k ∧ from_ ≤ ps[k].row ∧ ∀ q ∈ ps.take n, from_ ≤ q.row → ¬ plt q.place ps[k].place
theorem plt_trans {a b c : Pl} (h1 : plt a b) (h2 : plt b c) : plt a c := by unfold plt at *; omega
theorem LeastI.some {ps : List PatE} {f : Int} {n : Nat} {best : Int} (h : LeastI ps f n best) (hb : ¬ best < 0) : ∃ k : Nat, k < ps.length ∧ best = k := by
  rcases h with ⟨rfl, _⟩ | ⟨k, hk, _, e, _⟩
  · exact absurd (by decide) hb
  · exact ⟨k, hk, e⟩
theorem LeastI.low {ps : List PatE} {f : Int} {n : Nat} {best : Int} (h : LeastI ps f n best) (hn : n < ps.length) (hr : ps[n].row < f) : LeastI ps f (n + 1) best := by
  have key : ∀ q ∈ ps.take (n + 1), q ∈ ps.take n ∨ q = ps[n] := fun q hq => by
    rw [List.take_succ_eq_append_getElem hn, List.mem_append, List.mem_singleton] at hq
    exact hq
  rcases h with ⟨rfl, h⟩ | ⟨k, hk, h1, rfl, h2, h3⟩
  · refine .inl ⟨rfl, fun q hq => ?_⟩
    rcases key q hq with hq | rfl
    · exact h q hq
    · exact hr
  · refine .inr ⟨k, hk, by omega, rfl, h2, fun q hq => ?_⟩
    rcases key q hq with hq | rfl
    · exact h3 q hq
    · intro h4; omega
theorem LeastI.take {ps : List PatE} {f : Int} {n : Nat} {best : Int} (h : LeastI ps f n best) (hn : n < ps.length) (hr : f ≤ ps[n].row) (hp : ∀ (k : Nat) (hk : k < ps.length), best = k → plt ps[n].place ps[k].place) : LeastI ps f (n + 1) n := by
  refine .inr ⟨n, hn, by omega, rfl, hr, fun q hq h4 => ?_⟩
  rw [List.take_succ_eq_append_getElem hn, List.mem_append, List.mem_singleton] at hq
  rcases hq with hq | rfl
  · rcases h with ⟨rfl, h⟩ | ⟨k, hk, h1, rfl, h2, h3⟩
    · have := h q hq; omega
    · have h5 := hp k hk rfl
      have h6 := h3 q hq h4
      intro h7
      exact h6 (plt_trans h7 h5)
  · exact plt_irrefl _
theorem LeastI.takeK {ps : List PatE} {f : Int} {n k : Nat} (h : LeastI ps f n (k : Int)) (hk : k < ps.length) (hn : n < ps.length) (hr : f ≤ ps[n].row) (hp : plt ps[n].place ps[k].place) : LeastI ps f (n + 1) n :=
  h.take hn hr fun k' hk' e => by
    have e2 : k = k' := by omega
    subst e2
    exact hp
theorem LeastI.keep {ps : List PatE} {f : Int} {n : Nat} {k : Nat} (h : LeastI ps f n (k : Int)) (hk : k < ps.length) (hn : n < ps.length) (hp : ¬ plt ps[n].place ps[k].place) : LeastI ps f (n + 1) k := by
  rcases h with ⟨h, _⟩ | ⟨k', hk', h1, e, h2, h3⟩
  · omega
  · have : k = k' := by omega
    subst this
    refine .inr ⟨k, hk, by omega, rfl, h2, fun q hq h4 => ?_⟩
    rw [List.take_succ_eq_append_getElem hn, List.mem_append, List.mem_singleton] at hq
    rcases hq with hq | rfl
    · exact h3 q hq h4
    · exact hp
set_option maxHeartbeats 4000000 in
theorem dleast_ok {W : World} {R : List SProp} {b : Nat} {r f : Int} {ps : List PatE} {x : Option Addr × Nat} (hps : ps.length ≤ 800000) :
    Does W Try.prog 39 [.pointer (some ⟨b, 0, none⟩), .int .i64 f] (dlO b r ps x R) (β := Int) (fun k => LeastI ps f ps.length k) (fun k => .int .i64 k) (fun _ => dlO b r ps x R) := by
  obtain ⟨yo, yc⟩ := x
  (refine Does.enter Try.func39 Try.ntmps39 rfl rfl ?_)
  refine VC.know (p := yo = none → ps.length = 0) (fun w hw => Holds.ownNone hw (by (focus repeat first | exact .head _ | apply List.Mem.tail))) ?_
  intro hyo
  (refine w ?_; repeat ((first | refine VO.step rfl rfl ?_ | refine VD.end rfl rfl rfl ?_ | refine VD.mid rfl rfl rfl ?_); refine OpV.box rfl rfl rfl ?_; intro _; refine w ?_))
  refine VC.loop (α := Nat × Int) (fun y => y.1 ≤ ps.length ∧ LeastI ps f y.1 y.2) (fun y => dlO b r ps (yo, yc) R)
    (fun y => [(0, .pointer (some ⟨b, 0, none⟩)), (1, .int .i64 f), (5, .int .i64 y.2), (6, .int .i64 y.1)]) (fun y => ps.length - y.1) rfl (0, -1) ⟨Nat.zero_le _, .inl ⟨rfl, fun q h => (by simp at h)⟩⟩ Ent.refl ⟨rfl, rfl, rfl, rfl, trivial⟩ ?_
  rintro ⟨i, best⟩ ⟨hi, hb0⟩
  dsimp only at hi hb0 ⊢
  (refine w ?_; repeat ((first | refine VO.step rfl rfl ?_ | refine VD.end rfl rfl rfl ?_ | refine VD.mid rfl rfl rfl ?_); refine OpV.box rfl rfl rfl ?_; intro _; refine w ?_))
  (refine VC.cond rfl rfl ?_ ?_ <;> intro hc)
  · have hlt : i < ps.length := by have := of_decide_eq_true hc; omega
    clear hc
    obtain ⟨ya, rfl⟩ : ∃ a, yo = some a := by cases yo with | none => have := hyo rfl; omega | some a => exact ⟨a, rfl⟩
    have hR : Rds W (dlO b r ps (some ya, yc) R) 3 (some ya) ps.length (patCells ps) := dlO_rd (x := (some ya, yc)) Ent.refl hyo
    (refine w ?_; repeat ((first | refine VO.step rfl rfl ?_ | refine VD.end rfl rfl rfl ?_ | refine VD.mid rfl rfl rfl ?_); refine OpV.box rfl rfl rfl ?_; intro _; refine w ?_))
    (first | refine VO.pure rfl rfl (PureAt.ldRA tab_ok rfl rfl hR (pat_at ps i hlt) rfl) rfl ?_ | refine VD.take rfl rfl rfl (PureAt.ldRA tab_ok rfl rfl hR (pat_at ps i hlt) rfl) rfl ?_ | refine VQ.pure rfl rfl (PureAt.ldRA tab_ok rfl rfl hR (pat_at ps i hlt) rfl) rfl ?_ | refine VD.end rfl rfl rfl (OpV.pure (PureAt.ldRA tab_ok rfl rfl hR (pat_at ps i hlt) rfl) rfl ?_))
    (refine w ?_; repeat ((first | refine VO.step rfl rfl ?_ | refine VD.end rfl rfl rfl ?_ | refine VD.mid rfl rfl rfl ?_); refine OpV.box rfl rfl rfl ?_; intro _; refine w ?_))
    (first | refine VO.step rfl rfl ?_ | refine VD.end rfl rfl rfl ?_ | refine VD.mid rfl rfl rfl ?_)
    refine OpV.allocS sb_49 rfl ?_
    intro n7
    (first | refine VO.step rfl rfl ?_ | refine VD.end rfl rfl rfl ?_ | refine VD.mid rfl rfl rfl ?_)
    refine OpV.stA (vs := ps[i].cells) tab_ok rfl rfl rfl rfl (pat_one _) (by (repeat first | exact .head | apply Hole.tail)) (by simp) ?_
    (refine w ?_; repeat ((first | refine VO.step rfl rfl ?_ | refine VD.end rfl rfl rfl ?_ | refine VD.mid rfl rfl rfl ?_); refine OpV.box rfl rfl rfl ?_; intro _; refine w ?_))
    (refine VC.cond rfl rfl ?_ ?_ <;> intro hc)
    · have h1 : ps[i].row < f := of_decide_eq_true hc
      clear hc
      (refine w ?_; repeat ((first | refine VO.step rfl rfl ?_ | refine VD.end rfl rfl rfl ?_ | refine VD.mid rfl rfl rfl ?_); refine OpV.box rfl rfl rfl ?_; intro _; refine w ?_))
      exact VE.round (i + 1, best) ⟨hlt, hb0.low hlt h1⟩ (by dsimp only; omega) ⟨rfl, rfl, rfl, asV rfl (by congr 1), trivial⟩ Ent.re
    · have h1 : f ≤ ps[i].row := by have := of_decide_eq_false hc; omega
      clear hc
      (refine w ?_; repeat ((first | refine VO.step rfl rfl ?_ | refine VD.end rfl rfl rfl ?_ | refine VD.mid rfl rfl rfl ?_); refine OpV.box rfl rfl rfl ?_; intro _; refine w ?_))
      ((refine VC.quiet rfl (by kernel_rfl) (by kernel_rfl) ?_); (refine w ?_; repeat ((first | refine VO.step rfl rfl ?_ | refine VD.end rfl rfl rfl ?_ | refine VD.mid rfl rfl rfl ?_); refine OpV.box rfl rfl rfl ?_; intro _; refine w ?_)))
      (refine VQ.split rfl rfl rfl ?_ ?_ <;> intro hb)
      · have h2 : best < 0 := of_decide_eq_true hb
        clear hb
        (refine w ?_; repeat ((first | refine VO.step rfl rfl ?_ | refine VD.end rfl rfl rfl ?_ | refine VD.mid rfl rfl rfl ?_); refine OpV.box rfl rfl rfl ?_; intro _; refine w ?_))
        exact VE.round (i + 1, (i : Int)) ⟨hlt, hb0.take hlt h1 (fun k hk e => by omega)⟩ (by dsimp only; omega) ⟨rfl, rfl, rfl, asV rfl (by congr 1), trivial⟩ Ent.re
      · have h2 : ¬ best < 0 := of_decide_eq_false hb
        clear hb
        obtain ⟨k, hk, rfl⟩ := hb0.some h2
        have hR2 : Rds W (Row n7 49 ps[i].cells :: dlO b r ps (some ya, yc) R) 3 (some ya) ps.length (patCells ps) := dlO_rd (x := (some ya, yc)) (Ent.drop Ent.refl) hyo
        (refine w ?_; repeat ((first | refine VO.step rfl rfl ?_ | refine VD.end rfl rfl rfl ?_ | refine VD.mid rfl rfl rfl ?_); refine OpV.box rfl rfl rfl ?_; intro _; refine w ?_))
        (first | refine VO.pure rfl rfl (PureAt.ldRc tab_ok rfl rfl hR2 (pat_get ps k 1 hk (by decide))) rfl ?_ | refine VD.take rfl rfl rfl (PureAt.ldRc tab_ok rfl rfl hR2 (pat_get ps k 1 hk (by decide))) rfl ?_ | refine VQ.pure rfl rfl (PureAt.ldRc tab_ok rfl rfl hR2 (pat_get ps k 1 hk (by decide))) rfl ?_ | refine VD.end rfl rfl rfl (OpV.pure (PureAt.ldRc tab_ok rfl rfl hR2 (pat_get ps k 1 hk (by decide))) rfl ?_))
        (refine w ?_; repeat ((first | refine VO.step rfl rfl ?_ | refine VD.end rfl rfl rfl ?_ | refine VD.mid rfl rfl rfl ?_); refine OpV.box rfl rfl rfl ?_; intro _; refine w ?_))
        (refine VQ.split rfl rfl rfl ?_ ?_ <;> intro hb)
        · have h3 : ps[i].row < ps[k].row := of_decide_eq_true hb
          clear hb
          (refine w ?_; repeat ((first | refine VO.step rfl rfl ?_ | refine VD.end rfl rfl rfl ?_ | refine VD.mid rfl rfl rfl ?_); refine OpV.box rfl rfl rfl ?_; intro _; refine w ?_))
          exact VE.round (i + 1, (i : Int)) ⟨hlt, hb0.takeK hk hlt h1 (.inl h3)⟩ (by dsimp only; omega) ⟨rfl, rfl, rfl, asV rfl (by congr 1), trivial⟩ Ent.re
        · have h3 : ¬ ps[i].row < ps[k].row := of_decide_eq_false hb
          clear hb
          (refine w ?_; repeat ((first | refine VO.step rfl rfl ?_ | refine VD.end rfl rfl rfl ?_ | refine VD.mid rfl rfl rfl ?_); refine OpV.box rfl rfl rfl ?_; intro _; refine w ?_))
          (first | refine VO.pure rfl rfl (PureAt.ldRc tab_ok rfl rfl hR2 (pat_get ps k 1 hk (by decide))) rfl ?_ | refine VD.take rfl rfl rfl (PureAt.ldRc tab_ok rfl rfl hR2 (pat_get ps k 1 hk (by decide))) rfl ?_ | refine VQ.pure rfl rfl (PureAt.ldRc tab_ok rfl rfl hR2 (pat_get ps k 1 hk (by decide))) rfl ?_ | refine VD.end rfl rfl rfl (OpV.pure (PureAt.ldRc tab_ok rfl rfl hR2 (pat_get ps k 1 hk (by decide))) rfl ?_))
          (refine w ?_; repeat ((first | refine VO.step rfl rfl ?_ | refine VD.end rfl rfl rfl ?_ | refine VD.mid rfl rfl rfl ?_); refine OpV.box rfl rfl rfl ?_; intro _; refine w ?_))
          (refine VQ.split rfl rfl rfl ?_ ?_ <;> intro hb)
          · have h4 : ps[i].row = ps[k].row := eq_of_beq hb
            clear hb
            (refine w ?_; repeat ((first | refine VO.step rfl rfl ?_ | refine VD.end rfl rfl rfl ?_ | refine VD.mid rfl rfl rfl ?_); refine OpV.box rfl rfl rfl ?_; intro _; refine w ?_))
            (first | refine VO.pure rfl rfl (PureAt.ldRc tab_ok rfl rfl hR2 (pat_get ps k 0 hk (by decide))) rfl ?_ | refine VD.take rfl rfl rfl (PureAt.ldRc tab_ok rfl rfl hR2 (pat_get ps k 0 hk (by decide))) rfl ?_ | refine VQ.pure rfl rfl (PureAt.ldRc tab_ok rfl rfl hR2 (pat_get ps k 0 hk (by decide))) rfl ?_ | refine VD.end rfl rfl rfl (OpV.pure (PureAt.ldRc tab_ok rfl rfl hR2 (pat_get ps k 0 hk (by decide))) rfl ?_))
            (refine w ?_; repeat ((first | refine VO.step rfl rfl ?_ | refine VD.end rfl rfl rfl ?_ | refine VD.mid rfl rfl rfl ?_); refine OpV.box rfl rfl rfl ?_; intro _; refine w ?_))
            (refine VC.cond rfl rfl ?_ ?_ <;> intro hc)
            · have h5 : ps[i].member < ps[k].member := of_decide_eq_true hc
              clear hc
              (refine w ?_; repeat ((first | refine VO.step rfl rfl ?_ | refine VD.end rfl rfl rfl ?_ | refine VD.mid rfl rfl rfl ?_); refine OpV.box rfl rfl rfl ?_; intro _; refine w ?_))
              exact VE.round (i + 1, (i : Int)) ⟨hlt, hb0.takeK hk hlt h1 (.inr ⟨h4, h5⟩)⟩ (by dsimp only; omega) ⟨rfl, rfl, rfl, asV rfl (by congr 1), trivial⟩ Ent.re
            · have h5 : ¬ ps[i].member < ps[k].member := of_decide_eq_false hc
              clear hc
              (refine w ?_; repeat ((first | refine VO.step rfl rfl ?_ | refine VD.end rfl rfl rfl ?_ | refine VD.mid rfl rfl rfl ?_); refine OpV.box rfl rfl rfl ?_; intro _; refine w ?_))
              exact VE.round (i + 1, (k : Int)) ⟨hlt, hb0.keep hk hlt (fun h => h.elim h3 (fun h => h5 h.2))⟩ (by dsimp only; omega) ⟨rfl, rfl, rfl, asV rfl (by congr 1), trivial⟩ Ent.re
          · have h4 : ¬ ps[i].row = ps[k].row := ne_of_beq_false hb
            clear hb
            (refine w ?_; repeat ((first | refine VO.step rfl rfl ?_ | refine VD.end rfl rfl rfl ?_ | refine VD.mid rfl rfl rfl ?_); refine OpV.box rfl rfl rfl ?_; intro _; refine w ?_))
            exact VE.round (i + 1, (k : Int)) ⟨hlt, hb0.keep hk hlt (fun h => h.elim h3 (fun h => h4 h.1))⟩ (by dsimp only; omega) ⟨rfl, rfl, rfl, asV rfl (by congr 1), trivial⟩ Ent.re
  · have hge : i = ps.length := by have := of_decide_eq_false hc; omega
    subst hge
    (refine w ?_; repeat ((first | refine VO.step rfl rfl ?_ | refine VD.end rfl rfl rfl ?_ | refine VD.mid rfl rfl rfl ?_); refine OpV.box rfl rfl rfl ?_; intro _; refine w ?_))
    exact VE.done best rfl hb0 rfl Ent.refl
end Go.Proofs.Ytpmmkmcbimnigaa

/-! Text Ys. -/
/- The document's lift: Next, All. -/
set_option maxRecDepth 8000
set_option linter.unusedVariables false
set_option linter.unusedSimpArgs false
set_option linter.unusedSectionVars false
namespace Go.Proofs.Ytpmmkmcbimnigaa
open Go.RowKit Go.Sl
attribute [local irreducible] Sl.Own

theorem isNext_of {ps : List PatE} {r : Int} {k : Nat} (hk : k < ps.length) (h1 : base r (ps.map PatE.place) ≤ ps[k].row) (h2 : ∀ q ∈ ps, base r (ps.map PatE.place) ≤ q.row → ¬ plt q.place ps[k].place) : IsNext r (ps.map PatE.place) ps[k].place :=
  ⟨List.mem_map_of_mem (List.getElem_mem hk), h1, fun x hx hb => by obtain ⟨q, hq, rfl⟩ := List.mem_map.1 hx; exact h2 q hq hb⟩
theorem LeastI.next {ps : List PatE} {r : Int} {k : Nat} (h : LeastI ps r ps.length (k : Int)) : ∃ hk : k < ps.length, IsNext r (ps.map PatE.place) ps[k].place := by
  rcases h with ⟨h, _⟩ | ⟨k', hk, _, e, h2, h3⟩
  · omega
  · have e2 : k = k' := by omega
    subst e2
    rw [List.take_length] at h3
    have hb : base r (ps.map PatE.place) = r := base_pos (List.mem_map_of_mem (List.getElem_mem hk)) h2
    exact ⟨hk, isNext_of hk (by rw [hb]; exact h2) (by rw [hb]; exact h3)⟩
theorem LeastI.wrap {ps : List PatE} {r : Int} {best : Int} {k : Nat} (h0 : LeastI ps r ps.length best) (hb : best < 0) (h : LeastI ps 0 ps.length (k : Int)) : ∃ hk : k < ps.length, IsNext r (ps.map PatE.place) ps[k].place := by
  have hall : ∀ x ∈ ps.map PatE.place, x.2 < r := by
    intro x hx
    obtain ⟨q, hq, rfl⟩ := List.mem_map.1 hx
    rcases h0 with ⟨_, h⟩ | ⟨k', _, _, e, _⟩
    · rw [List.take_length] at h; exact h q hq
    · omega
  rcases h with ⟨h, _⟩ | ⟨k', hk, _, e, h2, h3⟩
  · omega
  · have e2 : k = k' := by omega
    subst e2
    rw [List.take_length] at h3
    have hb : base r (ps.map PatE.place) = 0 := base_neg hall
    exact ⟨hk, isNext_of hk (by rw [hb]; exact h2) (by rw [hb]; exact h3)⟩
theorem LeastI.none {ps : List PatE} {best : Int} (h : LeastI ps 0 ps.length best) (hb : best < 0) (h0 : ∀ p ∈ ps, 0 ≤ p.row) : ps = [] := by
  rcases h with ⟨_, h⟩ | ⟨k, _, _, e, _⟩
  · rw [List.take_length] at h
    cases ps with
    | nil => rfl
    | cons p t => have h1 := h p (.head _); have h2 := h0 p (.head _); omega
  · omega
set_option maxHeartbeats 4000000 in
theorem dstep_ok {W : World} {R : List SProp} {b : Nat} {r : Int} {ps : List PatE} {x : Option Addr × Nat} (hd : (ps.map PatE.place).Nodup) (h0 : ∀ p ∈ ps, 0 ≤ p.row) (hps : ps.length ≤ 800000) :
    Does W Try.prog 13 [.pointer (some ⟨b, 0, none⟩)] (dlO b r ps x R) (β := Option PatE × Option Addr × Nat) (fun y => StepP r ps y.1) (fun y => .tuple #[.agg (curC y.1).toArray, .bool y.1.isSome])
      (fun y => dlO b (rowOf r y.1) (psOf ps y.1) y.2 (PilP y.1.toList :: R)) := by
  obtain ⟨yo, yc⟩ := x
  (refine Does.enter Try.func13 Try.ntmps13 rfl rfl ?_)
  refine VC.know (p := yo = none → ps.length = 0) (fun w hw => Holds.ownNone hw (by (focus repeat first | exact .head _ | apply List.Mem.tail))) ?_
  intro hyo
  refine VC.know (p := ps.length ≤ yc) (fun w hw => Holds.ownCap hw (.tail _ (.head _))) ?_
  intro hyc
  refine VC.know (p := ∀ p ∈ ps, p.d.ok) (fun w hw => pilp_know (by (focus repeat first | exact .head _ | apply List.Mem.tail)) hw) ?_
  intro hok
  (refine w ?_; repeat ((first | refine VO.step rfl rfl ?_ | refine VD.end rfl rfl rfl ?_ | refine VD.mid rfl rfl rfl ?_); refine OpV.box rfl rfl rfl ?_; intro _; refine w ?_))
  (first | refine VO.step rfl rfl ?_ | refine VD.end rfl rfl rfl ?_ | refine VD.mid rfl rfl rfl ?_)
  refine OpV.allocS sb_49 rfl ?_
  intro n2
  (refine w ?_; repeat ((first | refine VO.step rfl rfl ?_ | refine VD.end rfl rfl rfl ?_ | refine VD.mid rfl rfl rfl ?_); refine OpV.box rfl rfl rfl ?_; intro _; refine w ?_))
  refine VO.ent (H' := dlO b r ps (yo, yc) (Row n2 49 zeroPa :: R)) Ent.re ?_
  ((first | refine VO.step rfl rfl ?_ | refine VD.end rfl rfl rfl ?_ | refine VD.mid rfl rfl rfl ?_); refine OpV.call rfl rfl (fun _ _ => by simp) (dleast_ok hps) Ent.refl rfl ?_)
  intro best hb1
  (refine w ?_; repeat ((first | refine VO.step rfl rfl ?_ | refine VD.end rfl rfl rfl ?_ | refine VD.mid rfl rfl rfl ?_); refine OpV.box rfl rfl rfl ?_; intro _; refine w ?_))
  (refine VC.join (α := Int) (fun z => (z < 0 → ps = []) ∧ ∀ k : Nat, z = k → ∃ hk : k < ps.length, IsNext r (ps.map PatE.place) ps[k].place) (fun _ => dlO b r ps (yo, yc) (Row n2 49 zeroPa :: R)) (fun z => [(0, .pointer (some ⟨b, 0, none⟩)), (2, .pointer (some ⟨n2, 0, none⟩)), (4, .int .i64 z)]) ?_ ?_)
  · intro Q2 jn
    (refine VC.cond rfl rfl ?_ ?_ <;> intro hc)
    · have h1 : best < 0 := of_decide_eq_true hc
      clear hc
      (refine w ?_; repeat ((first | refine VO.step rfl rfl ?_ | refine VD.end rfl rfl rfl ?_ | refine VD.mid rfl rfl rfl ?_); refine OpV.box rfl rfl rfl ?_; intro _; refine w ?_))
      ((first | refine VO.step rfl rfl ?_ | refine VD.end rfl rfl rfl ?_ | refine VD.mid rfl rfl rfl ?_); refine OpV.call rfl rfl (fun _ _ => by simp) (dleast_ok (f := 0) hps) Ent.refl rfl ?_)
      intro best2 hb2
      (refine w ?_; repeat ((first | refine VO.step rfl rfl ?_ | refine VD.end rfl rfl rfl ?_ | refine VD.mid rfl rfl rfl ?_); refine OpV.box rfl rfl rfl ?_; intro _; refine w ?_))
      (refine jn.to best2 ⟨fun h => hb2.none h h0, fun k e => by subst e; exact hb1.wrap h1 hb2⟩ ⟨rfl, rfl, rfl, trivial⟩ ?_; (try dsimp only); exact Ent.re)
    · have h1 : ¬ best < 0 := of_decide_eq_false hc
      clear hc
      (refine w ?_; repeat ((first | refine VO.step rfl rfl ?_ | refine VD.end rfl rfl rfl ?_ | refine VD.mid rfl rfl rfl ?_); refine OpV.box rfl rfl rfl ?_; intro _; refine w ?_))
      (refine jn.to best ⟨fun h => absurd h h1, fun k e => by subst e; exact hb1.next⟩ ⟨rfl, rfl, rfl, trivial⟩ ?_; (try dsimp only); exact Ent.re)
  · rintro z ⟨hz1, hz2⟩
    (refine w ?_; repeat ((first | refine VO.step rfl rfl ?_ | refine VD.end rfl rfl rfl ?_ | refine VD.mid rfl rfl rfl ?_); refine OpV.box rfl rfl rfl ?_; intro _; refine w ?_))
    (refine VC.cond rfl rfl ?_ ?_ <;> intro hc)
    · have h1 : z < 0 := of_decide_eq_true hc
      clear hc
      have := hz1 h1
      subst this
      (refine w ?_; repeat ((first | refine VO.step rfl rfl ?_ | refine VD.end rfl rfl rfl ?_ | refine VD.mid rfl rfl rfl ?_); refine OpV.box rfl rfl rfl ?_; intro _; refine w ?_))
      (apply VO.pure rfl rfl; apply PureAt.build sb_49 rfl; (simp [buildX, setL, Value.cells]; rfl); rfl)
      (first | refine VO.step rfl rfl ?_ | refine VD.end rfl rfl rfl ?_ | refine VD.mid rfl rfl rfl ?_)
      refine OpV.stA (vs := zeroPa) tab_ok rfl rfl rfl rfl (by simp [Value.oneCell']) (by (repeat first | exact .head | apply Hole.tail)) (by simp) ?_
      (refine w ?_; repeat ((first | refine VO.step rfl rfl ?_ | refine VD.end rfl rfl rfl ?_ | refine VD.mid rfl rfl rfl ?_); refine OpV.box rfl rfl rfl ?_; intro _; refine w ?_))
      refine VE.results2 (.inl rfl) ((none, (yo, yc)) : Option PatE × Option Addr × Nat) rfl (ResIs.agg (vs := zeroPa) tab_ok rfl rfl (by (focus repeat first | exact .head _ | apply List.Mem.tail)) rfl rfl) (.tmp rfl) rfl rfl ?_
      exact fun w hw => (show Ent W (PilP [] :: dlO b r [] (yo, yc) (Row n2 49 zeroPa :: R)) _ from Ent.re) w (pile_nil (res := PatE.res) hw)
    · have h1 : ¬ z < 0 := of_decide_eq_false hc
      clear hc
      obtain ⟨k, rfl⟩ : ∃ k : Nat, z = k := ⟨z.toNat, by omega⟩
      obtain ⟨hk, hnx⟩ := hz2 k rfl
      obtain ⟨ya, rfl⟩ : ∃ a, yo = some a := by cases yo with | none => have := hyo rfl; omega | some a => exact ⟨a, rfl⟩
      have hR : Rds W (dlO b r ps (some ya, yc) (Row n2 49 zeroPa :: R)) 3 (some ya) ps.length (patCells ps) := dlO_rd (x := (some ya, yc)) Ent.refl hyo
      (refine w ?_; repeat ((first | refine VO.step rfl rfl ?_ | refine VD.end rfl rfl rfl ?_ | refine VD.mid rfl rfl rfl ?_); refine OpV.box rfl rfl rfl ?_; intro _; refine w ?_))
      (first | refine VO.pure rfl rfl (PureAt.ldRA tab_ok rfl rfl hR (pat_at ps k hk) rfl) rfl ?_ | refine VD.take rfl rfl rfl (PureAt.ldRA tab_ok rfl rfl hR (pat_at ps k hk) rfl) rfl ?_ | refine VQ.pure rfl rfl (PureAt.ldRA tab_ok rfl rfl hR (pat_at ps k hk) rfl) rfl ?_ | refine VD.end rfl rfl rfl (OpV.pure (PureAt.ldRA tab_ok rfl rfl hR (pat_at ps k hk) rfl) rfl ?_))
      (first | refine VO.step rfl rfl ?_ | refine VD.end rfl rfl rfl ?_ | refine VD.mid rfl rfl rfl ?_)
      refine OpV.allocS sb_49 rfl ?_
      intro n5
      (first | refine VO.step rfl rfl ?_ | refine VD.end rfl rfl rfl ?_ | refine VD.mid rfl rfl rfl ?_)
      refine OpV.stA (vs := ps[k].cells) tab_ok rfl rfl rfl rfl (pat_one _) (by (repeat first | exact .head | apply Hole.tail)) (by simp) ?_
      (refine w ?_; repeat ((first | refine VO.step rfl rfl ?_ | refine VD.end rfl rfl rfl ?_ | refine VD.mid rfl rfl rfl ?_); refine OpV.box rfl rfl rfl ?_; intro _; refine w ?_))
      have hR2 : Rds W (Row n5 49 ps[k].cells :: dlO b r ps (some ya, yc) (Row n2 49 zeroPa :: R)) 3 (some ya) ps.length (patCells ps) := dlO_rd (x := (some ya, yc)) (Ent.drop Ent.refl) hyo
      refine VO.ent (H' := Row n5 49 ps[k].cells :: dlO b r ps (some ya, yc) (Row n2 49 zeroPa :: R)) Ent.re ?_
      ((first | refine VO.step rfl rfl ?_ | refine VD.end rfl rfl rfl ?_ | refine VD.mid rfl rfl rfl ?_); refine OpV.call rfl rfl (fun _ _ => by simp) (dwithout_ok (cap := yc) hR2 hk hyc (by omega)) Ent.refl rfl ?_)
      rintro ⟨zo, zc⟩ _
      (refine w ?_; repeat ((first | refine VO.step rfl rfl ?_ | refine VD.end rfl rfl rfl ?_ | refine VD.mid rfl rfl rfl ?_); refine OpV.box rfl rfl rfl ?_; intro _; refine w ?_))
      refine VO.re 40 (.agg ps[k].cells.toArray) rfl rfl ?_
      (first | refine VO.step rfl rfl ?_ | refine VD.end rfl rfl rfl ?_ | refine VD.mid rfl rfl rfl ?_)
      refine OpV.stA (vs := ps[k].cells) tab_ok rfl rfl rfl rfl (pat_one _) (by (repeat first | exact .head | apply Hole.tail)) (by simp) ?_
      (refine w ?_; repeat ((first | refine VO.step rfl rfl ?_ | refine VD.end rfl rfl rfl ?_ | refine VD.mid rfl rfl rfl ?_); refine OpV.box rfl rfl rfl ?_; intro _; refine w ?_))
      have hmem : ps[k] ∈ ps := List.getElem_mem hk
      have hef := erase_filter hd hk
      generalize hq : ps[k] = q at *
      refine VE.results2 (.inl rfl) ((some q, (zo, zc)) : Option PatE × Option Addr × Nat) rfl (ResIs.agg (vs := q.cells) tab_ok rfl rfl (by (focus repeat first | exact .head _ | apply List.Mem.tail)) rfl rfl) (.tmp rfl) ⟨hmem, hnx⟩ rfl ?_
      rw [hef]
      refine Ent.trans (Ent.re (L := PilP ps :: Row b 64 (dlC q.row (ps.filter fun x => x.place ≠ q.place).length (zo, zc)) :: PatsO (zo, zc) (ps.filter fun x => x.place ≠ q.place) :: R)) fun w hw => ?_
      have h4 := pile_cons (l := []) (pile_nil (res := PatE.res) (pile_take hmem hw)).swap
      exact (show Ent W (PilP [q] :: PilP (ps.filter fun x => x.place ≠ q.place) :: Row b 64 (dlC q.row (ps.filter fun x => x.place ≠ q.place).length (zo, zc)) :: PatsO (zo, zc) (ps.filter fun x => x.place ≠ q.place) :: R) (dlO b (rowOf r (some q)) (psOf ps (some q)) (zo, zc) (PilP (some q).toList :: R)) from Ent.re) w h4
structure DAllX where
  l : List PatE
  r : Int
  ps : List PatE
  x : Option Addr × Nat
  so : Option Addr
  sc : Nat
theorem Take.sub {r : Int} {ps l ps1 : List PatE} {r1 : Int} (h : Take r ps l r1 ps1) (hd : (ps.map PatE.place).Nodup) : (ps1.map PatE.place).Nodup ∧ ∀ p ∈ ps1, p ∈ ps := by
  induction h with
  | nil => exact ⟨hd, fun p h => h⟩
  | snoc h hp hn ih => exact ⟨nodup_filter ih.1, fun p h => ih.2 p (List.mem_filter.1 h).1⟩
set_option maxHeartbeats 4000000 in
theorem dall_ok {W : World} {R : List SProp} {b : Nat} {r : Int} {ps : List PatE} {x : Option Addr × Nat} (hd : (ps.map PatE.place).Nodup) (h0 : ∀ p ∈ ps, 0 ≤ p.row) (hps : ps.length ≤ 800000) :
    Does W Try.prog 17 [.pointer (some ⟨b, 0, none⟩)] (dlO b r ps x R) (β := (Option Addr × Nat) × List PatE × Int × Option Addr × Nat) (fun y => Take r ps y.2.1 y.2.2.1 []) (fun y => .slice y.1.1 y.2.1.length y.1.2)
      (fun y => PatsO y.1 y.2.1 :: PilP y.2.1 :: dlO b y.2.2.1 [] y.2.2.2 R) := by
  (refine Does.enter Try.func17 Try.ntmps17 rfl rfl ?_)
  (refine w ?_; repeat ((first | refine VO.step rfl rfl ?_ | refine VD.end rfl rfl rfl ?_ | refine VD.mid rfl rfl rfl ?_); refine OpV.box rfl rfl rfl ?_; intro _; refine w ?_))
  refine VC.ent (fun w hw => Holds.ownNil 49 3 (pile_nil (res := PatE.res) hw)) ?_
  refine VC.loop (α := DAllX) (fun y => Take r ps y.l y.r y.ps) (fun y => PatsO (y.so, y.sc) y.l :: PilP y.l :: dlO b y.r y.ps y.x R)
    (fun y => [(0, .pointer (some ⟨b, 0, none⟩)), (3, .slice y.so y.l.length y.sc)]) (fun y => y.ps.length) rfl
    ⟨[], r, ps, x, none, 0⟩ Take.nil Ent.re ⟨rfl, rfl, trivial⟩ ?_
  rintro ⟨l, r1, ps1, x1, so, sc⟩ ht
  dsimp only at ht ⊢
  have hlen := ht.length
  obtain ⟨hd1, hs1⟩ := ht.sub hd
  (refine w ?_; repeat ((first | refine VO.step rfl rfl ?_ | refine VD.end rfl rfl rfl ?_ | refine VD.mid rfl rfl rfl ?_); refine OpV.box rfl rfl rfl ?_; intro _; refine w ?_))
  (refine VC.cond rfl rfl ?_ ?_ <;> intro hc)
  · have hpos : 0 < ps1.length := by have := of_decide_eq_true hc; omega
    clear hc
    (refine w ?_; repeat ((first | refine VO.step rfl rfl ?_ | refine VD.end rfl rfl rfl ?_ | refine VD.mid rfl rfl rfl ?_); refine OpV.box rfl rfl rfl ?_; intro _; refine w ?_))
    refine VO.ent (H' := dlO b r1 ps1 x1 (PatsO (so, sc) l :: PilP l :: R)) Ent.re ?_
    ((first | refine VO.step rfl rfl ?_ | refine VD.end rfl rfl rfl ?_ | refine VD.mid rfl rfl rfl ?_); refine OpV.call rfl rfl (fun _ _ => by simp) (dstep_ok hd1 (fun p hp => h0 p (hs1 p hp)) (by omega)) Ent.refl rfl ?_)
    rintro ⟨c, x2⟩ hc1
    dsimp only at hc1 ⊢
    have ht2 := ht.step hc1
    have hle2 := psOf_le hc1
    obtain ⟨p, rfl⟩ : ∃ p, c = some p := by cases c with | none => (have : ps1 = [] := hc1); subst this; simp at hpos | some p => exact ⟨p, rfl⟩
    (refine w ?_; repeat ((first | refine VO.step rfl rfl ?_ | refine VD.end rfl rfl rfl ?_ | refine VD.mid rfl rfl rfl ?_); refine OpV.box rfl rfl rfl ?_; intro _; refine w ?_))
    (first | refine VO.step rfl rfl ?_ | refine VD.end rfl rfl rfl ?_ | refine VD.mid rfl rfl rfl ?_)
    refine OpV.allocS sb_49 rfl ?_
    intro n4
    (first | refine VO.step rfl rfl ?_ | refine VD.end rfl rfl rfl ?_ | refine VD.mid rfl rfl rfl ?_)
    refine OpV.stA (vs := p.cells) tab_ok rfl rfl rfl rfl (pat_one _) (by (repeat first | exact .head | apply Hole.tail)) (by simp) ?_
    (refine w ?_; repeat ((first | refine VO.step rfl rfl ?_ | refine VD.end rfl rfl rfl ?_ | refine VD.mid rfl rfl rfl ?_); refine OpV.box rfl rfl rfl ?_; intro _; refine w ?_))
    refine VO.re 18 (.agg p.cells.toArray) rfl rfl ?_
    (first | refine VO.step rfl rfl ?_ | refine VD.end rfl rfl rfl ?_ | refine VD.mid rfl rfl rfl ?_)
    refine OpV.buildSlice (cs := p.cells) st_56 rfl rfl (by simp [Value.cells]) (by simp [Value.cells]) (by decide) rfl ?_
    intro nb
    (first | refine VO.step rfl rfl ?_ | refine VD.end rfl rfl rfl ?_ | refine VD.mid rfl rfl rfl ?_)
    refine OpV.appendRow st_56 rfl rfl (by (repeat first | exact .head | apply Hole.tail)) (by (focus repeat first | exact .head _ | apply List.Mem.tail)) rfl (pat_one _) (by simp only [maxLen]; omega) (by omega) rfl ?_
    intro so2 sc2
    (refine w ?_; repeat ((first | refine VO.step rfl rfl ?_ | refine VD.end rfl rfl rfl ?_ | refine VD.mid rfl rfl rfl ?_); refine OpV.box rfl rfl rfl ?_; intro _; refine w ?_))
    have hl2 : (l ++ [p]).length = l.length + 1 := by rw [List.length_append]; rfl
    refine VE.round (⟨l ++ [p], p.row, psOf ps1 (some p), x2, so2, sc2⟩ : DAllX) ht2 (filter_less hc1.1) ⟨rfl, asV rfl (by rw [hl2]), trivial⟩ ?_
    dsimp only
    unfold PatsO
    rw [patCells_push, hl2]
    refine Ent.trans (Ent.re (L := PilP l :: PilP [p] :: Sl.Own 49 3 (.slice so2 (l.length + 1) sc2) (l.length + 1) (patCells l ++ p.cells) :: dlO b p.row (psOf ps1 (some p)) x2 R)) fun w hw => ?_
    exact (pile_join hw).swap
  · have hz : ps1 = [] := List.length_eq_zero_iff.1 (by have := of_decide_eq_false hc; omega)
    subst hz
    (refine w ?_; repeat ((first | refine VO.step rfl rfl ?_ | refine VD.end rfl rfl rfl ?_ | refine VD.mid rfl rfl rfl ?_); refine OpV.box rfl rfl rfl ?_; intro _; refine w ?_))
    refine VE.done ((so, sc), l, r1, x1) rfl ht rfl ?_
    exact Ent.refl
end Go.Proofs.Ytpmmkmcbimnigaa

