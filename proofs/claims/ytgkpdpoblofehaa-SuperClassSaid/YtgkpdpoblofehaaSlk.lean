/- The engine: contracts that are weakened, branches that meet with memory as it was. Generic: no program is named. -/
import Derived.Test.YtgkpdpoblofehaaSlh
set_option maxRecDepth 8000
set_option linter.unusedVariables false
set_option linter.unusedSimpArgs false
set_option linter.unusedSectionVars false
namespace Go.Sl
open Go.RowKit
section
variable {W : World} {P : Program} {H : List SProp} {g : FuncId} {args : List Value}
theorem DoesK {β : Type} {A : β → Prop} {r : β → Value} {G : β → List SProp} {p : Prop} (hp : ∀ w, Holds W H w → p) (h : p → Does W P g args H A r G) : Does W P g args H A r G := by unfold Does at h ⊢; exact fun w hw => h (hp w hw) w hw
theorem DoesE {β : Type} {A : β → Prop} {r : β → Value} {G : β → List SProp} {H' : List SProp} (hp : Ent W H H') (h : Does W P g args H' A r G) : Does W P g args H A r G := by unfold Does at h ⊢; exact fun w hw => h w (hp w hw)
theorem DoesO {α : Sort _} {β : Type} {A : β → Prop} {r : β → Value} {G : β → List SProp} {H' : α → List SProp} (hp : ∀ w, Holds W H w → ∃ x, Holds W (H' x) w) (h : ∀ x, Does W P g args (H' x) A r G) : Does W P g args H A r G := by
  unfold Does at h ⊢; exact fun w hw => let ⟨x, hx⟩ := hp w hw; h x w hx
theorem Does1M {γ : Type} {v : Value} {L : List SProp} {A' : γ → Prop} {r' : γ → Value} {G' : γ → List SProp} (h : Does1 W P g args H v L) (x : γ) (hA : A' x) (hr : v = r' x) (hG : Ent W L (G' x)) : Does W P g args H A' r' G' :=
  Does.mono h (fun _ => x) (fun _ _ => hA) (fun _ _ => hr) fun _ _ => hG
/-- What memory says behind a call is said by the contract. -/
theorem DoesA {β : Type} {A B : β → Prop} {r : β → Value} {G : β → List SProp} (h : Does W P g args H A r G) (hp : ∀ x, A x → ∀ w, Holds W (G x) w → B x) : Does W P g args H B r G := by
  unfold Does at h ⊢
  exact fun w hw => (h w hw).mono fun _ w' ⟨x, hx, he, hh⟩ => ⟨x, hp x hx w' hh, he, hh⟩
theorem Does1P {v : Value} {L L' : List SProp} (h : Does1 W P g args H v L) (hG : Ent W L L') : Does1 W P g args H v L' := Does1M h () trivial rfl hG
end

/-- A framed change, beside one resource more. -/
theorem Ent.ctx {W : World} {X L L' R : List SProp} (h : Ent W (L ++ (X ++ R)) (L' ++ (X ++ R))) : Ent W (X ++ (L ++ R)) (X ++ (L' ++ R)) := fun w hw => by
  have p : ∀ M : List SProp, (X ++ (M ++ R)).Perm (M ++ (X ++ R)) := fun M => by
    rw [← List.append_assoc, ← List.append_assoc]
    exact List.perm_append_comm.append_right R
  exact (h w (hw.perm (p L))).perm (p L').symm

section
variable {W : World} {P : Program} {n : Nat} {c c1 c2 : Code} {Q : Exit → Act → World → Prop} {H : List SProp} {f : Fr}
/-- Branches that meet, memory as it was. -/
theorem VC.joinH (F : Fr) (h1 : ∀ Q2, Met W n Q Q2 (fun _ : Unit => True) (fun _ => H) (fun _ => F) → VC W P n c Q2 H f) (h2 : VC W P n c2 Q H F) : VC W P n c (thenC P c2 Q) H f :=
  VC.join (fun _ => True) (fun _ => H) (fun _ => F) h1 fun _ _ => h2
theorem VC.joinBB {α : Type} {i j : Nat} (A : α → Prop) (G : α → List SProp) (F : α → Fr) (h1 : ∀ Q2, Met W n Q Q2 A G F → VC W P n c (blockC i (blockC j Q2)) H f) (h2 : ∀ x, A x → VC W P n c2 Q (G x) (F x)) :
    VC W P n c (blockC i (blockC j (thenC P c2 Q))) H f := h1 _ (Met.of h2)
theorem VC.joinTBB {α : Type} {i j : Nat} (A : α → Prop) (G : α → List SProp) (F : α → Fr) (h1 : ∀ Q2, Met W n Q Q2 A G F → VC W P n c (thenC P c1 (blockC i (blockC j Q2))) H f) (h2 : ∀ x, A x → VC W P n c2 Q (G x) (F x)) :
    VC W P n c (thenC P c1 (blockC i (blockC j (thenC P c2 Q)))) H f := h1 _ (Met.of h2)
end
end Go.Sl
