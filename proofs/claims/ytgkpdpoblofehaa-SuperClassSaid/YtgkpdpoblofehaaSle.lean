/- The engine: branches that meet again, weakened contracts. -/
import Derived.Test.YtgkpdpoblofehaaSld
import Derived.Scope
set_option maxRecDepth 8000
set_option linter.unusedVariables false
set_option linter.unusedSimpArgs false
set_option linter.unusedSectionVars false
namespace Go.Sl
open Go
variable {W : World} {P : Program} {n : Nat} {c c1 c2 : Code} {Q : Exit → Act → World → Prop} {H : List SProp} {f : Fr}

/-- Where branches meet: what stands behind is walked once, from what each of the branches brings. -/
structure Met (W : World) (n : Nat) (Q Q2 : Exit → Act → World → Prop) {α : Type} (A : α → Prop) (G : α → List SProp) (F : α → Fr) : Prop where
  to : ∀ (x : α) {f : Fr} {H : List SProp}, A x → SubF (F x) f → Ent W H (G x) → VE W n Q2 .normal H f
  ret : ∀ {f : Fr} {H : List SProp}, VE W n Q .ret H f → VE W n Q2 .ret H f
  exit : ∀ {f : Fr} {H : List SProp} {i : Nat}, VE W n Q (.exit i) H f → VE W n Q2 (.exit i) H f

theorem Met.of {α : Type} {A : α → Prop} {G : α → List SProp} {F : α → Fr} (h2 : ∀ x, A x → VC W P n c2 Q (G x) (F x)) : Met W n Q (thenC P c2 Q) A G F :=
  ⟨fun x _ _ hA hF hH => VE.next ((h2 x hA).weak hF hH), fun h => VE.passRet h, fun h => VE.passExit h⟩
theorem VO.join {α : Type} {k : Nat} (A : α → Prop) (G : α → List SProp) (F : α → Fr) (h1 : ∀ Q2, Met W n Q Q2 A G F → VO W P n c k (thenC P c1 Q2) H f) (h2 : ∀ x, A x → VC W P n c2 Q (G x) (F x)) :
    VO W P n c k (thenC P c1 (thenC P c2 Q)) H f := h1 _ (Met.of h2)
theorem VC.join {α : Type} (A : α → Prop) (G : α → List SProp) (F : α → Fr) (h1 : ∀ Q2, Met W n Q Q2 A G F → VC W P n c Q2 H f) (h2 : ∀ x, A x → VC W P n c2 Q (G x) (F x)) :
    VC W P n c (thenC P c2 Q) H f := h1 _ (Met.of h2)

theorem VC.joinB {α : Type} {i : Nat} (A : α → Prop) (G : α → List SProp) (F : α → Fr) (h1 : ∀ Q2, Met W n Q Q2 A G F → VC W P n c (blockC i Q2) H f) (h2 : ∀ x, A x → VC W P n c2 Q (G x) (F x)) :
    VC W P n c (blockC i (thenC P c2 Q)) H f := h1 _ (Met.of h2)
theorem VC.joinTB {α : Type} {i : Nat} (A : α → Prop) (G : α → List SProp) (F : α → Fr) (h1 : ∀ Q2, Met W n Q Q2 A G F → VC W P n c (thenC P c1 (blockC i Q2)) H f) (h2 : ∀ x, A x → VC W P n c2 Q (G x) (F x)) :
    VC W P n c (thenC P c1 (blockC i (thenC P c2 Q))) H f := h1 _ (Met.of h2)

/-! Scopes: labels, no goto -/
def scopeC (Q : Exit → Act → World → Prop) : Exit → Act → World → Prop := Exit.noGoto Q
def isScope : Code → Bool | .scope _ => true | _ => false
def isLabel : Code → Bool | .label _ => true | _ => false
theorem VC.scope (hc : isScope c = true) (h : VC W P n (Cd.l c) (scopeC Q) H f) : VC W P n c Q H f := by
  unfold VC at *
  intro t w hk hw
  cases c <;> simp [isScope] at hc
  exact wp_scope_straight (h t w hk hw)
theorem VC.label (hc : isLabel c = true) (h : VE W n Q .normal H f) : VC W P n c Q H f := by
  unfold VC VE at *
  intro t w hk hw
  cases c <;> simp [isLabel] at hc
  exact wp_label (h t w hk hw)
theorem VE.scopeNormal (h : VE W n Q .normal H f) : VE W n (scopeC Q) .normal H f := by unfold VE at *; exact h
theorem VE.scopeRet (h : VE W n Q .ret H f) : VE W n (scopeC Q) .ret H f := by unfold VE at *; exact h
theorem VE.scopeExit {i : Nat} (h : VE W n Q (.exit i) H f) : VE W n (scopeC Q) (.exit i) H f := by unfold VE at *; exact h
attribute [irreducible] scopeC
/-- A contract that says less. -/
theorem Does.mono {g : FuncId} {args : List Value} {β γ : Type} {A : β → Prop} {r : β → Value} {G : β → List SProp} {A' : γ → Prop} {r' : γ → Value} {G' : γ → List SProp}
    (h : Does W P g args H A r G) (φ : β → γ) (hA : ∀ x, A x → A' (φ x)) (hr : ∀ x, A x → r x = r' (φ x)) (hG : ∀ x, A x → Ent W (G x) (G' (φ x))) : Does W P g args H A' r' G' := by
  unfold Does at h ⊢
  exact fun w hw => (h w hw).mono fun _ _ ⟨x, hx, he, hh⟩ => ⟨φ x, hA x hx, by rw [he, hr x hx], hG x hx _ hh⟩
end Go.Sl
