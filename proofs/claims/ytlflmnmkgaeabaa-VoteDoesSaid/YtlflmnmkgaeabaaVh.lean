/- Package vote: counting, fitted; slices.Clone of states. -/
import Derived.Test.YtlflmnmkgaeabaaVg
set_option maxRecDepth 8000
set_option linter.unusedVariables false
set_option linter.unusedSimpArgs false
set_option linter.unusedSectionVars false
namespace Go.Proofs.Ytlflmnmkgaeabaa
open Go.RowKit Go.Sl
attribute [local irreducible] Own

theorem clonest_ok {W : World} {R : List SProp} {ao : Option Addr} {n cap : Nat} {xs : List Value} (ha : Rds W R 1 ao n xs) (hn : n ≤ 1099511627776) :
    Does W Try.prog 27 [.slice ao n cap] R (β := Option Addr × Nat) (fun _ => True) (fun x => .slice x.1 n x.2) (fun x => Own 59 1 (.slice x.1 n x.2) n xs :: R) := by
  (refine Does.enter Try.func27 Try.ntmps27 rfl rfl ?_)
  (refine w ?_; repeat ((first | refine VO.step rfl rfl ?_ | refine VD.end rfl rfl rfl ?_ | refine VD.mid rfl rfl rfl ?_); refine OpV.box rfl rfl rfl ?_; intro _; refine w ?_))
  cases ao with
  | none =>
    have h0 := ha.nil rfl
    subst h0
    have hx : xs = [] := List.eq_nil_of_length_eq_zero (by simpa using ha.len)
    subst hx
    (refine VC.condTe rfl rfl (rfl) ?_)
    (refine w ?_; repeat ((first | refine VO.step rfl rfl ?_ | refine VD.end rfl rfl rfl ?_ | refine VD.mid rfl rfl rfl ?_); refine OpV.box rfl rfl rfl ?_; intro _; refine w ?_))
    exact VE.done (none, 0) rfl trivial rfl fun w hw => hw.ownNil _ _
  | some a =>
    (refine VC.condFe rfl rfl (rfl) ?_)
    (refine w ?_; repeat ((first | refine VO.step rfl rfl ?_ | refine VD.end rfl rfl rfl ?_ | refine VD.mid rfl rfl rfl ?_); refine OpV.box rfl rfl rfl ?_; intro _; refine w ?_))
    ((first | refine VO.step rfl rfl ?_ | refine VD.end rfl rfl rfl ?_ | refine VD.mid rfl rfl rfl ?_); refine OpV.buildSlice1 st_28 rfl rfl (by first | (simp; done) | simp [Value.oneCell']) (by decide) rfl ?_; intro nb)
    refine VO.ent (H' := Own 59 1 (.slice (some ⟨nb, 0, none⟩) 0 0) 0 [] :: R) (fun w hw => Holds.ownShut rfl (Nat.le_refl _) (by decide) rfl hw) ?_
    (refine w ?_; repeat ((first | refine VO.step rfl rfl ?_ | refine VD.end rfl rfl rfl ?_ | refine VD.mid rfl rfl rfl ?_); refine OpV.box rfl rfl rfl ?_; intro _; refine w ?_))
    refine VO.step rfl rfl ?_
    refine OpV.append st_28 rfl rfl .head (fun w hw => (ha.sees (cap := cap) hw.tail).src st_28.und) (by simp only [maxLen]; omega) (by omega) rfl ?_
    intro ao' cap'
    simp only [Nat.zero_add, List.nil_append]
    (refine w ?_; repeat ((first | refine VO.step rfl rfl ?_ | refine VD.end rfl rfl rfl ?_ | refine VD.mid rfl rfl rfl ?_); refine OpV.box rfl rfl rfl ?_; intro _; refine w ?_))
    exact VE.done (ao', cap') rfl trivial rfl Ent.refl

theorem counting_ok {W : World} {R : List SProp} {ao : Option Addr} {n cap : Nat} :
    Does W Try.prog 22 [.slice ao n cap] R (β := Nat) (fun _ => True) (fun x => .func (.func 50) #[] #[.pointer (some ⟨x, 0, none⟩)]) (fun x => Row x 22 [.slice ao n cap] :: R) := by
  (refine Does.enter Try.func22 Try.ntmps22 rfl rfl ?_)
  (refine w ?_; repeat ((first | refine VO.step rfl rfl ?_ | refine VD.end rfl rfl rfl ?_ | refine VD.mid rfl rfl rfl ?_); refine OpV.box rfl rfl rfl ?_; intro _; refine w ?_))
  rename_i b
  refine VO.pure rfl rfl (PureAt.makeFunc1 rfl) rfl ?_
  (refine w ?_; repeat ((first | refine VO.step rfl rfl ?_ | refine VD.end rfl rfl rfl ?_ | refine VD.mid rfl rfl rfl ?_); refine OpV.box rfl rfl rfl ?_; intro _; refine w ?_))
  exact VE.done b rfl trivial rfl Ent.refl

/-! ### What becomes of states -/
def evs (l : List BalD) (m : Nat) : Nat := match l[m]? with
  | some b => b.s.events
  | none => 0
def stAt (st : List UInt8) (m : Nat) : UInt8 := st.getD m 0
def fitM (l : List BalD) (safe : Nat) (st : List UInt8) (m : Nat) : Bool := stAt st m != 2 && (countsB l m && decide (safe ≤ evs l m))
def goneM (l : List BalD) (safe : Nat) (st : List UInt8) (m : Nat) : Bool := stAt st m != 2 && !fitM l safe st m
def awayM (l : List BalD) (safe : Nat) (st : List UInt8) : Nat → Nat
  | 0 => 0
  | m + 1 => awayM l safe st m + (if (stAt st m != 1 || !fitM l safe st m) = true then 1 else 0)
def turnM (l : List BalD) (safe : Nat) (st : List UInt8) : Nat → Bool
  | 0 => false
  | m + 1 => turnM l safe st m || goneM l safe st m
def wipeM (l : List BalD) (safe : Nat) (st : List UInt8) : Nat → Bool
  | 0 => false
  | m + 1 => wipeM l safe st m || (goneM l safe st m && stAt st m == 3)
def newSt (l : List BalD) (safe : Nat) (st : List UInt8) (i : Nat) : List UInt8 := st.mapIdx fun m x => if m < i ∧ goneM l safe st m = true then 2 else x
@[simp] theorem newSt_length (l : List BalD) (safe : Nat) (st : List UInt8) (i : Nat) : (newSt l safe st i).length = st.length := by simp [newSt]
theorem newSt_zero (l : List BalD) (safe : Nat) (st : List UInt8) : newSt l safe st 0 = st := by
  apply List.ext_getElem (by simp)
  intro j h1 h2
  simp [newSt]
theorem newSt_get (l : List BalD) (safe : Nat) (st : List UInt8) (i : Nat) (h : i < st.length) : (newSt l safe st i)[i]'(by simpa using h) = stAt st i := by simp [newSt, stAt, h]
theorem newSt_stay (l : List BalD) (safe : Nat) (st : List UInt8) (i : Nat) (h : goneM l safe st i = false) : newSt l safe st (i + 1) = newSt l safe st i := by
  apply List.ext_getElem (by simp)
  intro j h1 h2
  simp only [newSt, List.getElem_mapIdx]
  by_cases e : j = i
  · subst e; simp [h]
  · have : j < i + 1 ↔ j < i := by omega
    simp only [this]
theorem newSt_gone (l : List BalD) (safe : Nat) (st : List UInt8) (i : Nat) (h : goneM l safe st i = true) : newSt l safe st (i + 1) = (newSt l safe st i).set i 2 := by
  apply List.ext_getElem (by simp)
  intro j h1 h2
  simp only [newSt, List.getElem_mapIdx, List.getElem_set]
  by_cases e : i = j
  · subst e; simp [h]
  · rw [if_neg e]
    have : j < i + 1 ↔ j < i := by omega
    simp only [this]
end Go.Proofs.Ytlflmnmkgaeabaa
