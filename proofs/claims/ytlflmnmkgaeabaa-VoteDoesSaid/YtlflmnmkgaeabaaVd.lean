/- Package vote: lists of superblocks: IndexFunc, ContainsFunc, DeleteFunc. -/
import Derived.Test.YtlflmnmkgaeabaaVc
set_option maxRecDepth 8000
set_option linter.unusedVariables false
set_option linter.unusedSimpArgs false
set_option linter.unusedSectionVars false
namespace Go.Proofs.Ytlflmnmkgaeabaa
open Go.RowKit Go.Sl
attribute [local irreducible] Own

def supCells (l : List SuperD) : List Value := l.flatMap SuperD.cells
theorem sup_one (l : List SuperD) : ∀ u ∈ supCells l, u.oneCell' = true := by
  intro u hu
  obtain ⟨s, _, h⟩ := List.mem_flatMap.1 hu
  exact super_one s u h
theorem sup_len (l : List SuperD) : (supCells l).length = l.length * 12 := flat_length l fun _ _ => rfl
theorem sup_part (l : List SuperD) (i : Nat) (h : i < l.length) : ((supCells l).drop (i * 12)).take 12 = l[i].cells := flat_part l i h fun _ _ => rfl

/-- Where the first is that answers yes. -/
def IsIdx (p : SuperD → Bool) (l : List SuperD) (k : Int) : Prop := (k = -1 ∧ ∀ s ∈ l, p s = false) ∨ ∃ (i : Nat) (h : i < l.length), k = (i : Int) ∧ p l[i] = true ∧ ∀ s ∈ l.take i, p s = false
theorem indexfunc_ok {W : World} {R : List SProp} {ao : Option Addr} {cap : Nat} {l : List SuperD} {g : FuncId} {cp : Array Value} (p : SuperD → Bool) (hl : l.length ≤ 1000000) (hr : Rds W R 12 ao l.length (supCells l)) (hcf : ∀ a w, (callFunc g a).run Try.prog w = .ok (.enter g a) w)
    (hp : ∀ s ∈ l, Does1 W Try.prog g (.agg s.cells.toArray :: cp.toList) R (.bool (p s)) R) :
    Does W Try.prog 52 [.slice ao l.length cap, .func (.func g) #[] cp] R (β := Int) (IsIdx p l) (fun k => .int .i64 k) (fun _ => R) := by
  (refine Does.enter Try.func52 Try.ntmps52 rfl rfl ?_)
  (refine w ?_; repeat ((first | refine VO.step rfl rfl ?_ | refine VD.end rfl rfl rfl ?_ | refine VD.mid rfl rfl rfl ?_); refine OpV.box rfl rfl rfl ?_; intro _; refine w ?_))
  refine VC.loop (α := Nat) (fun i => i ≤ l.length ∧ ∀ s ∈ l.take i, p s = false) (fun _ => R) (fun i => [(0, .slice ao l.length cap), (1, .func (.func g) #[] cp), (7, .int .i64 l.length), (8, .int .i64 i)]) (fun i => l.length - i) rfl 0 ⟨Nat.zero_le _, by simp⟩ Ent.refl ⟨rfl, rfl, rfl, rfl, trivial⟩ ?_
  rintro i ⟨hi, hno⟩
  (refine w ?_; repeat ((first | refine VO.step rfl rfl ?_ | refine VD.end rfl rfl rfl ?_ | refine VD.mid rfl rfl rfl ?_); refine OpV.box rfl rfl rfl ?_; intro _; refine w ?_))
  (refine VC.cond rfl rfl ?_ ?_ <;> intro hc)
  · have hlt : i < l.length := by have := of_decide_eq_true hc; omega
    obtain ⟨a, rfl⟩ : ∃ a, ao = some a := by cases ao with | none => have := hr.nil rfl; omega | some a => exact ⟨a, rfl⟩
    (refine w ?_; repeat ((first | refine VO.step rfl rfl ?_ | refine VD.end rfl rfl rfl ?_ | refine VD.mid rfl rfl rfl ?_); refine OpV.box rfl rfl rfl ?_; intro _; refine w ?_))
    (first | refine VO.pure rfl rfl (.ldRA tab_ok rfl rfl hr (sup_part l i hlt) rfl) rfl ?_ | refine VD.take rfl rfl rfl (.ldRA tab_ok rfl rfl hr (sup_part l i hlt) rfl) rfl ?_ | refine VQ.pure rfl rfl (.ldRA tab_ok rfl rfl hr (sup_part l i hlt) rfl) rfl ?_ | refine VD.end rfl rfl rfl (OpV.pure (.ldRA tab_ok rfl rfl hr (sup_part l i hlt) rfl) rfl ?_))
    (first | refine VO.step rfl rfl ?_ | refine VD.end rfl rfl rfl ?_ | refine VD.mid rfl rfl rfl ?_)
    refine OpV.call rfl rfl hcf (hp l[i] (List.getElem_mem hlt)) Ent.refl rfl ?_
    intro _ _
    (refine w ?_; repeat ((first | refine VO.step rfl rfl ?_ | refine VD.end rfl rfl rfl ?_ | refine VD.mid rfl rfl rfl ?_); refine OpV.box rfl rfl rfl ?_; intro _; refine w ?_))
    cases hpi : p l[i]
    · (refine w ?_; repeat ((first | refine VO.step rfl rfl ?_ | refine VD.end rfl rfl rfl ?_ | refine VD.mid rfl rfl rfl ?_); refine OpV.box rfl rfl rfl ?_; intro _; refine w ?_))
      refine VE.round (i + 1) ⟨hlt, ?_⟩ (by omega) ⟨rfl, rfl, rfl, asV rfl (by congr 1), trivial⟩ Ent.refl
      intro s hs
      rw [List.take_succ_eq_append_getElem hlt, List.mem_append, List.mem_singleton] at hs
      rcases hs with h | h
      · exact hno s h
      · rw [h]; exact hpi
    · (refine w ?_; repeat ((first | refine VO.step rfl rfl ?_ | refine VD.end rfl rfl rfl ?_ | refine VD.mid rfl rfl rfl ?_); refine OpV.box rfl rfl rfl ?_; intro _; refine w ?_))
      exact VE.done (i : Int) rfl (.inr ⟨i, hlt, rfl, hpi, hno⟩) rfl Ent.refl
  · have hge : i = l.length := by have := of_decide_eq_false hc; omega
    subst hge
    rw [List.take_of_length_le (Nat.le_refl _)] at hno
    (refine w ?_; repeat ((first | refine VO.step rfl rfl ?_ | refine VD.end rfl rfl rfl ?_ | refine VD.mid rfl rfl rfl ?_); refine OpV.box rfl rfl rfl ?_; intro _; refine w ?_))
    exact VE.done (-1) rfl (.inl ⟨rfl, hno⟩) rfl Ent.refl
theorem containsfunc_ok {W : World} {R : List SProp} {ao : Option Addr} {cap : Nat} {l : List SuperD} {g : FuncId} {cp : Array Value} (p : SuperD → Bool) (hl : l.length ≤ 1000000) (hr : Rds W R 12 ao l.length (supCells l)) (hcf : ∀ a w, (callFunc g a).run Try.prog w = .ok (.enter g a) w)
    (hp : ∀ s ∈ l, Does1 W Try.prog g (.agg s.cells.toArray :: cp.toList) R (.bool (p s)) R) :
    Does1 W Try.prog 23 [.slice ao l.length cap, .func (.func g) #[] cp] R (.bool (l.any p)) R := by
  (refine Does.enter Try.func23 Try.ntmps23 rfl rfl ?_)
  (refine w ?_; repeat ((first | refine VO.step rfl rfl ?_ | refine VD.end rfl rfl rfl ?_ | refine VD.mid rfl rfl rfl ?_); refine OpV.box rfl rfl rfl ?_; intro _; refine w ?_))
  ((first | refine VO.step rfl rfl ?_ | refine VD.end rfl rfl rfl ?_ | refine VD.mid rfl rfl rfl ?_); refine OpV.call rfl rfl (fun _ _ => by simp) (indexfunc_ok p hl hr hcf hp) Ent.refl rfl ?_)
  intro k hk
  (refine w ?_; repeat ((first | refine VO.step rfl rfl ?_ | refine VD.end rfl rfl rfl ?_ | refine VD.mid rfl rfl rfl ?_); refine OpV.box rfl rfl rfl ?_; intro _; refine w ?_))
  (refine VE.done1 rfl ?_ ?_)
  · congr 1
    rcases hk with ⟨rfl, h⟩ | ⟨i, hi, rfl, h1, h2⟩
    · symm; rw [decide_eq_false (by omega), List.any_eq_false]; intro s hs; simp [h s hs]
    · symm; rw [decide_eq_true (by omega), List.any_eq_true]; exact ⟨_, List.getElem_mem hi, h1⟩
  · exact Ent.refl
end Go.Proofs.Ytlflmnmkgaeabaa
