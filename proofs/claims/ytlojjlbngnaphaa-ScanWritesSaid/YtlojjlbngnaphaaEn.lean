/- Escape and Unescape, the document's and the program's. -/
import Derived.Test.YtlojjlbngnaphaaEg
import Derived.Test.YtlojjlbngnaphaaEh
import Derived.Test.YtlojjlbngnaphaaLr
set_option maxRecDepth 8000
set_option linter.unusedVariables false
set_option linter.unusedSimpArgs false
set_option linter.unusedSectionVars false
namespace Go.Proofs.Ytlojjlbngnaphaa
open Go.RowKit Go.Sl
attribute [local irreducible] Own

def nought4 : List UInt8 := [0, 0, 0, 0]
/-- What is logged; is it marked? -/
def escM (b : List UInt8) : List UInt8 := if b.take 4 = magicL then nought4 ++ b.drop 4 else b
def isEsc (b : List UInt8) : Bool := decide (b.take 4 = magicL)
structure EscD where
  out : List UInt8
  is : Bool
  err : Int
def escD (b : List UInt8) : EscD := if b.length = 128 then ⟨escM b, isEsc b, 0⟩ else ⟨[], false, 4⟩
def unD (b : List UInt8) (e : Bool) : List UInt8 × Int :=
  if b.length ≠ 128 then ([], 4) else if e = false then (if b.take 4 = magicL then ([], 80) else (b, 0)) else (if b.take 4 = nought4 then (magicL ++ b.drop 4, 0) else ([], 80))

theorem esc_ok {W : World} {R : List SProp} {ao : Option Addr} {cap : Nat} {l : List UInt8} (hr : Rds W R 1 ao l.length (bytes l)) (hcap : l.length ≤ cap) :
    Does W Try.prog 33 [.slice ao l.length cap] R (β := Option Addr × Nat) (fun _ => True) (fun x => .tuple #[.slice x.1 (escD l).out.length x.2, .bool (escD l).is, .int .u16 (escD l).err]) (fun x => OwnB x (escD l).out :: R) := by
  (refine Does.enter Try.func33 Try.ntmps33 rfl rfl ?_)
  (refine w ?_; repeat ((first | refine VO.step rfl rfl ?_ | refine VD.end rfl rfl rfl ?_ | refine VD.mid rfl rfl rfl ?_); refine OpV.box rfl rfl rfl ?_; intro _; refine w ?_))
  (refine VC.cond rfl rfl ?_ ?_ <;> intro hc)
  · have hb : l.length ≠ 128 := by have := hc; simp at this; omega
    have e : escD l = ⟨[], false, 4⟩ := if_neg hb
    rw [e]
    (refine w ?_; repeat ((first | refine VO.step rfl rfl ?_ | refine VD.end rfl rfl rfl ?_ | refine VD.mid rfl rfl rfl ?_); refine OpV.box rfl rfl rfl ?_; intro _; refine w ?_))
    refine VE.done (none, 0) rfl trivial rfl ?_; exact fun w hw => hw.ownNil _ _
  have h128 : l.length = 128 := by have := hc; simp at this; omega
  have e : escD l = ⟨escM l, isEsc l, 0⟩ := if_pos h128
  rw [e]
  dsimp only
  (refine w ?_; repeat ((first | refine VO.step rfl rfl ?_ | refine VD.end rfl rfl rfl ?_ | refine VD.mid rfl rfl rfl ?_); refine OpV.box rfl rfl rfl ?_; intro _; refine w ?_))
  ((first | refine VO.step rfl rfl ?_ | refine VD.end rfl rfl rfl ?_ | refine VD.mid rfl rfl rfl ?_); refine OpV.call rfl rfl (fun _ _ => by simp) (clone_ok hr (by omega)) Ent.re rfl ?_)
  rintro ⟨a1, c1⟩ -
  (refine w ?_; repeat ((first | refine VO.step rfl rfl ?_ | refine VD.end rfl rfl rfl ?_ | refine VD.mid rfl rfl rfl ?_); refine OpV.box rfl rfl rfl ?_; intro _; refine w ?_))
  (first | refine VO.pure rfl rfl (PureAt.toStr (l := l.take 4) tab_ok rfl rfl rfl rfl ((rds_head hr 4 (by omega)).ent (Ent.drop Ent.refl)) rfl) rfl ?_ | refine VD.take rfl rfl rfl (PureAt.toStr (l := l.take 4) tab_ok rfl rfl rfl rfl ((rds_head hr 4 (by omega)).ent (Ent.drop Ent.refl)) rfl) rfl ?_ | refine VQ.pure rfl rfl (PureAt.toStr (l := l.take 4) tab_ok rfl rfl rfl rfl ((rds_head hr 4 (by omega)).ent (Ent.drop Ent.refl)) rfl) rfl ?_ | refine VD.end rfl rfl rfl (OpV.pure (PureAt.toStr (l := l.take 4) tab_ok rfl rfl rfl rfl ((rds_head hr 4 (by omega)).ent (Ent.drop Ent.refl)) rfl) rfl ?_))
  (first | refine VO.pure rfl rfl (PureAt.strEq (b := magicL) tab_ok rfl rfl rfl rfl) rfl ?_ | refine VD.take rfl rfl rfl (PureAt.strEq (b := magicL) tab_ok rfl rfl rfl rfl) rfl ?_ | refine VQ.pure rfl rfl (PureAt.strEq (b := magicL) tab_ok rfl rfl rfl rfl) rfl ?_ | refine VD.end rfl rfl rfl (OpV.pure (PureAt.strEq (b := magicL) tab_ok rfl rfl rfl rfl) rfl ?_))
  (refine w ?_; repeat ((first | refine VO.step rfl rfl ?_ | refine VD.end rfl rfl rfl ?_ | refine VD.mid rfl rfl rfl ?_); refine OpV.box rfl rfl rfl ?_; intro _; refine w ?_))
  (refine VC.cond rfl rfl ?_ ?_ <;> intro hc)
  · have hm : l.take 4 = magicL := by simpa using hc
    rw [show escM l = nought4 ++ l.drop 4 from if_pos hm, show isEsc l = true from decide_eq_true hm]
    refine VC.know (fun w hw => hw.ownCap (.head _)) ?_
    intro hcap1
    (refine w ?_; repeat ((first | refine VO.step rfl rfl ?_ | refine VD.end rfl rfl rfl ?_ | refine VD.mid rfl rfl rfl ?_); refine OpV.box rfl rfl rfl ?_; intro _; refine w ?_))
    (first | refine VO.step rfl rfl ?_ | refine VD.end rfl rfl rfl ?_ | refine VD.mid rfl rfl rfl ?_)
    refine OpV.clearHead (k := 3) st_55 rfl (by (repeat first | exact .head | apply Hole.tail)) (by omega) ?_
    have hx : (Builtin.zeroCells (Value.int .u8 0).cells (3 + 1)).toList ++ (bytes l).drop ((3 + 1) * 1) = bytes (nought4 ++ l.drop 4) := by
      rw [bytes_append, show (Builtin.zeroCells (Value.int .u8 0).cells (3 + 1)).toList = bytes nought4 by simp [Builtin.zeroCells, Value.cells, bytes, nought4, byteV]; rfl]; exact congrArg (bytes nought4 ++ ·) (by simp [bytes])
    rw [hx]
    (refine w ?_; repeat ((first | refine VO.step rfl rfl ?_ | refine VD.end rfl rfl rfl ?_ | refine VD.mid rfl rfl rfl ?_); refine OpV.box rfl rfl rfl ?_; intro _; refine w ?_))
    refine VE.done (a1, c1) rfl trivial ?_ ?_
    · have : (nought4 ++ l.drop 4).length = l.length := by simp [nought4]; omega
      rw [this, hc]
    · have : (nought4 ++ l.drop 4).length = l.length := by simp [nought4]; omega
      rw [show OwnB (a1, c1) (nought4 ++ l.drop 4) = Own 5 1 (.slice a1 l.length c1) l.length (bytes (nought4 ++ l.drop 4)) by unfold OwnB; rw [this]]
      exact Ent.re
  · have hm : ¬ l.take 4 = magicL := by simpa using hc
    rw [show escM l = l from if_neg hm, show isEsc l = false from decide_eq_false hm]
    (refine w ?_; repeat ((first | refine VO.step rfl rfl ?_ | refine VD.end rfl rfl rfl ?_ | refine VD.mid rfl rfl rfl ?_); refine OpV.box rfl rfl rfl ?_; intro _; refine w ?_))
    refine VE.done (a1, c1) rfl trivial ?_ Ent.re
    rw [hc]
theorem unesc_ok {W : World} {R : List SProp} {ao : Option Addr} {cap : Nat} {l : List UInt8} (hr : Rds W R 1 ao l.length (bytes l)) (hcap : l.length ≤ cap) (b : Bool) :
    Does W Try.prog 80 [.slice ao l.length cap, .bool b] R (β := Option Addr × Nat) (fun _ => True) (fun x => .tuple #[.slice x.1 (unD l b).1.length x.2, .int .u16 (unD l b).2]) (fun x => OwnB x (unD l b).1 :: R) := by
  (refine Does.enter Try.func80 Try.ntmps80 rfl rfl ?_)
  (refine w ?_; repeat ((first | refine VO.step rfl rfl ?_ | refine VD.end rfl rfl rfl ?_ | refine VD.mid rfl rfl rfl ?_); refine OpV.box rfl rfl rfl ?_; intro _; refine w ?_))
  (refine VC.cond rfl rfl ?_ ?_ <;> intro hc)
  · have hb : l.length ≠ 128 := by have := hc; simp at this; omega
    have e : unD l b = ([], 4) := if_pos hb
    rw [e]
    (refine w ?_; repeat ((first | refine VO.step rfl rfl ?_ | refine VD.end rfl rfl rfl ?_ | refine VD.mid rfl rfl rfl ?_); refine OpV.box rfl rfl rfl ?_; intro _; refine w ?_))
    refine VE.done (none, 0) rfl trivial rfl ?_; exact fun w hw => hw.ownNil _ _
  have h128 : l.length = 128 := by have := hc; simp at this; omega
  have e0 : unD l b = if b = false then (if l.take 4 = magicL then ([], 80) else (l, 0)) else (if l.take 4 = nought4 then (magicL ++ l.drop 4, 0) else ([], 80)) := if_neg (fun h => h h128)
  rw [e0]
  cases b
  · rw [if_pos rfl]
    (refine w ?_; repeat ((first | refine VO.step rfl rfl ?_ | refine VD.end rfl rfl rfl ?_ | refine VD.mid rfl rfl rfl ?_); refine OpV.box rfl rfl rfl ?_; intro _; refine w ?_))
    (first | refine VO.pure rfl rfl (PureAt.toStr (l := l.take 4) tab_ok rfl rfl rfl rfl (rds_head hr 4 (by omega)) rfl) rfl ?_ | refine VD.take rfl rfl rfl (PureAt.toStr (l := l.take 4) tab_ok rfl rfl rfl rfl (rds_head hr 4 (by omega)) rfl) rfl ?_ | refine VQ.pure rfl rfl (PureAt.toStr (l := l.take 4) tab_ok rfl rfl rfl rfl (rds_head hr 4 (by omega)) rfl) rfl ?_ | refine VD.end rfl rfl rfl (OpV.pure (PureAt.toStr (l := l.take 4) tab_ok rfl rfl rfl rfl (rds_head hr 4 (by omega)) rfl) rfl ?_))
    (first | refine VO.pure rfl rfl (PureAt.strEq (b := magicL) tab_ok rfl rfl rfl rfl) rfl ?_ | refine VD.take rfl rfl rfl (PureAt.strEq (b := magicL) tab_ok rfl rfl rfl rfl) rfl ?_ | refine VQ.pure rfl rfl (PureAt.strEq (b := magicL) tab_ok rfl rfl rfl rfl) rfl ?_ | refine VD.end rfl rfl rfl (OpV.pure (PureAt.strEq (b := magicL) tab_ok rfl rfl rfl rfl) rfl ?_))
    (refine w ?_; repeat ((first | refine VO.step rfl rfl ?_ | refine VD.end rfl rfl rfl ?_ | refine VD.mid rfl rfl rfl ?_); refine OpV.box rfl rfl rfl ?_; intro _; refine w ?_))
    (refine VC.cond rfl rfl ?_ ?_ <;> intro hc)
    · have hm : l.take 4 = magicL := by simpa using hc
      rw [if_pos hm]
      (refine w ?_; repeat ((first | refine VO.step rfl rfl ?_ | refine VD.end rfl rfl rfl ?_ | refine VD.mid rfl rfl rfl ?_); refine OpV.box rfl rfl rfl ?_; intro _; refine w ?_))
      (refine VC.condTe rfl rfl (decide_eq_true hm) ?_)
      (refine w ?_; repeat ((first | refine VO.step rfl rfl ?_ | refine VD.end rfl rfl rfl ?_ | refine VD.mid rfl rfl rfl ?_); refine OpV.box rfl rfl rfl ?_; intro _; refine w ?_))
      refine VE.done (none, 0) rfl trivial rfl ?_; exact fun w hw => hw.ownNil _ _
    · have hm : ¬ l.take 4 = magicL := by simpa using hc
      rw [if_neg hm]
      (refine w ?_; repeat ((first | refine VO.step rfl rfl ?_ | refine VD.end rfl rfl rfl ?_ | refine VD.mid rfl rfl rfl ?_); refine OpV.box rfl rfl rfl ?_; intro _; refine w ?_))
      ((first | refine VO.step rfl rfl ?_ | refine VD.end rfl rfl rfl ?_ | refine VD.mid rfl rfl rfl ?_); refine OpV.call rfl rfl (fun _ _ => by simp) (clone_ok hr (by omega)) Ent.re rfl ?_)
      rintro ⟨a1, c1⟩ -
      (refine w ?_; repeat ((first | refine VO.step rfl rfl ?_ | refine VD.end rfl rfl rfl ?_ | refine VD.mid rfl rfl rfl ?_); refine OpV.box rfl rfl rfl ?_; intro _; refine w ?_))
      exact VE.done (a1, c1) rfl trivial rfl Ent.re
  · rw [if_neg (by decide)]
    (refine w ?_; repeat ((first | refine VO.step rfl rfl ?_ | refine VD.end rfl rfl rfl ?_ | refine VD.mid rfl rfl rfl ?_); refine OpV.box rfl rfl rfl ?_; intro _; refine w ?_))
    (first | refine VO.pure rfl rfl (PureAt.toStr (l := l.take 4) tab_ok rfl rfl rfl rfl (rds_head hr 4 (by omega)) rfl) rfl ?_ | refine VD.take rfl rfl rfl (PureAt.toStr (l := l.take 4) tab_ok rfl rfl rfl rfl (rds_head hr 4 (by omega)) rfl) rfl ?_ | refine VQ.pure rfl rfl (PureAt.toStr (l := l.take 4) tab_ok rfl rfl rfl rfl (rds_head hr 4 (by omega)) rfl) rfl ?_ | refine VD.end rfl rfl rfl (OpV.pure (PureAt.toStr (l := l.take 4) tab_ok rfl rfl rfl rfl (rds_head hr 4 (by omega)) rfl) rfl ?_))
    (first | refine VO.pure rfl rfl (PureAt.strEq (b := nought4) tab_ok rfl rfl rfl rfl) rfl ?_ | refine VD.take rfl rfl rfl (PureAt.strEq (b := nought4) tab_ok rfl rfl rfl rfl) rfl ?_ | refine VQ.pure rfl rfl (PureAt.strEq (b := nought4) tab_ok rfl rfl rfl rfl) rfl ?_ | refine VD.end rfl rfl rfl (OpV.pure (PureAt.strEq (b := nought4) tab_ok rfl rfl rfl rfl) rfl ?_))
    (refine w ?_; repeat ((first | refine VO.step rfl rfl ?_ | refine VD.end rfl rfl rfl ?_ | refine VD.mid rfl rfl rfl ?_); refine OpV.box rfl rfl rfl ?_; intro _; refine w ?_))
    (refine VC.cond rfl rfl ?_ ?_ <;> intro hc)
    · have hm : ¬ l.take 4 = nought4 := by simpa using hc
      rw [if_neg hm]
      (refine w ?_; repeat ((first | refine VO.step rfl rfl ?_ | refine VD.end rfl rfl rfl ?_ | refine VD.mid rfl rfl rfl ?_); refine OpV.box rfl rfl rfl ?_; intro _; refine w ?_))
      refine VE.done (none, 0) rfl trivial rfl ?_; exact fun w hw => hw.ownNil _ _
    · have hm : l.take 4 = nought4 := by simpa using hc
      rw [if_pos hm]
      (refine w ?_; repeat ((first | refine VO.step rfl rfl ?_ | refine VD.end rfl rfl rfl ?_ | refine VD.mid rfl rfl rfl ?_); refine OpV.box rfl rfl rfl ?_; intro _; refine w ?_))
      ((first | refine VO.step rfl rfl ?_ | refine VD.end rfl rfl rfl ?_ | refine VD.mid rfl rfl rfl ?_); refine OpV.call rfl rfl (fun _ _ => by simp) (clone_ok hr (by omega)) Ent.re rfl ?_)
      rintro ⟨a1, c1⟩ -
      (refine w ?_; repeat ((first | refine VO.step rfl rfl ?_ | refine VD.end rfl rfl rfl ?_ | refine VD.mid rfl rfl rfl ?_); refine OpV.box rfl rfl rfl ?_; intro _; refine w ?_))
      (first | refine VO.step rfl rfl ?_ | refine VD.end rfl rfl rfl ?_ | refine VD.mid rfl rfl rfl ?_)
      refine OpV.copyStr (l := magicL) st_55 rfl rfl (by (repeat first | exact .head | apply Hole.tail)) (by simp [magicL]; omega) rfl ?_
      have hx : (magicL.map fun (c : UInt8) => Value.int .u8 (c.toNat : Int)) ++ (bytes l).drop magicL.length = bytes (magicL ++ l.drop 4) := by
        rw [bytes_append]; exact congrArg (bytes magicL ++ ·) (by simp [bytes, magicL])
      rw [hx]
      (refine w ?_; repeat ((first | refine VO.step rfl rfl ?_ | refine VD.end rfl rfl rfl ?_ | refine VD.mid rfl rfl rfl ?_); refine OpV.box rfl rfl rfl ?_; intro _; refine w ?_))
      have : (magicL ++ l.drop 4).length = l.length := by simp [magicL]; omega
      refine VE.done (a1, c1) rfl trivial ?_ ?_
      · rw [this]
      · rw [show OwnB (a1, c1) (magicL ++ l.drop 4) = Own 5 1 (.slice a1 l.length c1) l.length (bytes (magicL ++ l.drop 4)) by unfold OwnB; rw [this]]
        exact Ent.re
theorem resc_ok {W : World} {R : List SProp} {ao : Option Addr} {cap : Nat} {l : List UInt8} (hr : Rds W R 1 ao l.length (bytes l)) (hcap : l.length ≤ cap) :
    Does W Try.prog 39 [.slice ao l.length cap] R (β := Option Addr × Nat) (fun _ => True) (fun x => .tuple #[.slice x.1 (escD l).out.length x.2, .bool (escD l).is, .int .i64 (escD l).err]) (fun x => OwnB x (escD l).out :: R) := by
  (refine Does.enter Try.func39 Try.ntmps39 rfl rfl ?_)
  (refine w ?_; repeat ((first | refine VO.step rfl rfl ?_ | refine VD.end rfl rfl rfl ?_ | refine VD.mid rfl rfl rfl ?_); refine OpV.box rfl rfl rfl ?_; intro _; refine w ?_))
  (refine VC.cond rfl rfl ?_ ?_ <;> intro hc)
  · have hb : l.length ≠ 128 := by have := hc; simp at this; omega
    have e : escD l = ⟨[], false, 4⟩ := if_neg hb
    rw [e]
    (refine w ?_; repeat ((first | refine VO.step rfl rfl ?_ | refine VD.end rfl rfl rfl ?_ | refine VD.mid rfl rfl rfl ?_); refine OpV.box rfl rfl rfl ?_; intro _; refine w ?_))
    refine VE.done (none, 0) rfl trivial rfl ?_; exact fun w hw => hw.ownNil _ _
  have h128 : l.length = 128 := by have := hc; simp at this; omega
  have e : escD l = ⟨escM l, isEsc l, 0⟩ := if_pos h128
  rw [e]
  dsimp only
  (refine w ?_; repeat ((first | refine VO.step rfl rfl ?_ | refine VD.end rfl rfl rfl ?_ | refine VD.mid rfl rfl rfl ?_); refine OpV.box rfl rfl rfl ?_; intro _; refine w ?_))
  (first | refine VO.pure rfl rfl (PureAt.toStr (l := l.take 4) tab_ok rfl rfl rfl rfl (rds_head hr 4 (by omega)) rfl) rfl ?_ | refine VD.take rfl rfl rfl (PureAt.toStr (l := l.take 4) tab_ok rfl rfl rfl rfl (rds_head hr 4 (by omega)) rfl) rfl ?_ | refine VQ.pure rfl rfl (PureAt.toStr (l := l.take 4) tab_ok rfl rfl rfl rfl (rds_head hr 4 (by omega)) rfl) rfl ?_ | refine VD.end rfl rfl rfl (OpV.pure (PureAt.toStr (l := l.take 4) tab_ok rfl rfl rfl rfl (rds_head hr 4 (by omega)) rfl) rfl ?_))
  (first | refine VO.pure rfl rfl (PureAt.strEq (b := magicL) tab_ok rfl rfl rfl rfl) rfl ?_ | refine VD.take rfl rfl rfl (PureAt.strEq (b := magicL) tab_ok rfl rfl rfl rfl) rfl ?_ | refine VQ.pure rfl rfl (PureAt.strEq (b := magicL) tab_ok rfl rfl rfl rfl) rfl ?_ | refine VD.end rfl rfl rfl (OpV.pure (PureAt.strEq (b := magicL) tab_ok rfl rfl rfl rfl) rfl ?_))
  (refine w ?_; repeat ((first | refine VO.step rfl rfl ?_ | refine VD.end rfl rfl rfl ?_ | refine VD.mid rfl rfl rfl ?_); refine OpV.box rfl rfl rfl ?_; intro _; refine w ?_))
  refine VC.ent (fun w hw => hw.ownNil 5 1) ?_
  (refine VC.cond rfl rfl ?_ ?_ <;> intro hc)
  · have hm : ¬ l.take 4 = magicL := by simpa using hc
    rw [show escM l = l from if_neg hm, show isEsc l = false from decide_eq_false hm]
    (refine w ?_; repeat ((first | refine VO.step rfl rfl ?_ | refine VD.end rfl rfl rfl ?_ | refine VD.mid rfl rfl rfl ?_); refine OpV.box rfl rfl rfl ?_; intro _; refine w ?_))
    (first | refine VO.step rfl rfl ?_ | refine VD.end rfl rfl rfl ?_ | refine VD.mid rfl rfl rfl ?_)
    refine OpV.append st_55 rfl rfl (by (repeat first | exact .head | apply Hole.tail)) (fun w hw => (hr.sees (cap := cap) hw.tail).src st_55.und) (by simp only [maxLen]; omega) (by omega) rfl ?_
    intro a1 c1
    simp only [Nat.zero_add, List.nil_append]
    (refine w ?_; repeat ((first | refine VO.step rfl rfl ?_ | refine VD.end rfl rfl rfl ?_ | refine VD.mid rfl rfl rfl ?_); refine OpV.box rfl rfl rfl ?_; intro _; refine w ?_))
    exact VE.done (a1, c1) rfl trivial rfl Ent.re
  · have hm : l.take 4 = magicL := by simpa using hc
    rw [show escM l = nought4 ++ l.drop 4 from if_pos hm, show isEsc l = true from decide_eq_true hm]
    obtain ⟨a, rfl⟩ : ∃ a, ao = some a := by cases ao with | none => have := hr.nil rfl; omega | some a => exact ⟨a, rfl⟩
    have hp := rds_part hr 4 128 (by omega) (by omega) hcap
    rw [show 128 - 4 = 124 from rfl, List.take_of_length_le (by rw [List.length_drop]; omega)] at hp
    (refine w ?_; repeat ((first | refine VO.step rfl rfl ?_ | refine VD.end rfl rfl rfl ?_ | refine VD.mid rfl rfl rfl ?_); refine OpV.box rfl rfl rfl ?_; intro _; refine w ?_))
    ((first | refine VO.step rfl rfl ?_ | refine VD.end rfl rfl rfl ?_ | refine VD.mid rfl rfl rfl ?_); refine OpV.buildSlice1 st_55 rfl rfl (by first | (simp; done) | simp [Value.oneCell']) (by decide) rfl ?_; intro nb)
    (first | refine VO.step rfl rfl ?_ | refine VD.end rfl rfl rfl ?_ | refine VD.mid rfl rfl rfl ?_)
    refine OpV.appendRow st_55 rfl rfl (by (repeat first | exact .head | apply Hole.tail)) (by (focus repeat first | exact .head _ | apply List.Mem.tail)) rfl (by simp [Value.oneCell']) (by decide) (by decide) rfl ?_
    intro a1 c1
    (refine w ?_; repeat ((first | refine VO.step rfl rfl ?_ | refine VD.end rfl rfl rfl ?_ | refine VD.mid rfl rfl rfl ?_); refine OpV.box rfl rfl rfl ?_; intro _; refine w ?_))
    refine VO.re 21 (.slice (subA (some a) cap 4 1) 124 (cap - 4)) rfl (by rw [h128]) ?_
    (first | refine VO.step rfl rfl ?_ | refine VD.end rfl rfl rfl ?_ | refine VD.mid rfl rfl rfl ?_)
    refine OpV.append (news := bytes (l.drop 4)) (m := 124) st_55 rfl rfl (by (repeat first | exact .head | apply Hole.tail)) (fun w hw => ((hp.ent (Ent.drop (Ent.drop Ent.refl))).sees (cap := cap - 4) hw).src st_55.und) (by decide) (by decide) rfl ?_
    intro a2 c2
    (refine w ?_; repeat ((first | refine VO.step rfl rfl ?_ | refine VD.end rfl rfl rfl ?_ | refine VD.mid rfl rfl rfl ?_); refine OpV.box rfl rfl rfl ?_; intro _; refine w ?_))
    have hl4 : (nought4 ++ l.drop 4).length = 0 + 4 + 124 := by simp [nought4]; omega
    refine VE.done (a2, c2) rfl trivial (by rw [hl4]) ?_
    rw [show OwnB (a2, c2) (nought4 ++ l.drop 4) = Own 5 1 (.slice a2 (0 + 4 + 124) c2) (0 + 4 + 124) ([] ++ bytes nought4 ++ bytes (l.drop 4)) by unfold OwnB; rw [hl4, bytes_append]; rfl]
    exact Ent.re
theorem runesc_ok {W : World} {R : List SProp} {ao : Option Addr} {cap : Nat} {l : List UInt8} (hr : Rds W R 1 ao l.length (bytes l)) (hcap : l.length ≤ cap) (b : Bool) :
    Does W Try.prog 83 [.slice ao l.length cap, .bool b] R (β := Option Addr × Nat) (fun _ => True) (fun x => .tuple #[.slice x.1 (unD l b).1.length x.2, .int .i64 (unD l b).2]) (fun x => OwnB x (unD l b).1 :: R) := by
  (refine Does.enter Try.func83 Try.ntmps83 rfl rfl ?_)
  (refine w ?_; repeat ((first | refine VO.step rfl rfl ?_ | refine VD.end rfl rfl rfl ?_ | refine VD.mid rfl rfl rfl ?_); refine OpV.box rfl rfl rfl ?_; intro _; refine w ?_))
  (refine VC.cond rfl rfl ?_ ?_ <;> intro hc)
  · have hb : l.length ≠ 128 := by have := hc; simp at this; omega
    have e : unD l b = ([], 4) := if_pos hb
    rw [e]
    (refine w ?_; repeat ((first | refine VO.step rfl rfl ?_ | refine VD.end rfl rfl rfl ?_ | refine VD.mid rfl rfl rfl ?_); refine OpV.box rfl rfl rfl ?_; intro _; refine w ?_))
    refine VE.done (none, 0) rfl trivial rfl ?_; exact fun w hw => hw.ownNil _ _
  have h128 : l.length = 128 := by have := hc; simp at this; omega
  have e0 : unD l b = if b = false then (if l.take 4 = magicL then ([], 80) else (l, 0)) else (if l.take 4 = nought4 then (magicL ++ l.drop 4, 0) else ([], 80)) := if_neg (fun h => h h128)
  rw [e0]
  obtain ⟨a, rfl⟩ : ∃ a, ao = some a := by cases ao with | none => have := hr.nil rfl; omega | some a => exact ⟨a, rfl⟩
  cases b
  · rw [if_pos rfl]
    (refine w ?_; repeat ((first | refine VO.step rfl rfl ?_ | refine VD.end rfl rfl rfl ?_ | refine VD.mid rfl rfl rfl ?_); refine OpV.box rfl rfl rfl ?_; intro _; refine w ?_))
    (first | refine VO.pure rfl rfl (PureAt.toStr (l := l.take 4) tab_ok rfl rfl rfl rfl (rds_head hr 4 (by omega)) rfl) rfl ?_ | refine VD.take rfl rfl rfl (PureAt.toStr (l := l.take 4) tab_ok rfl rfl rfl rfl (rds_head hr 4 (by omega)) rfl) rfl ?_ | refine VQ.pure rfl rfl (PureAt.toStr (l := l.take 4) tab_ok rfl rfl rfl rfl (rds_head hr 4 (by omega)) rfl) rfl ?_ | refine VD.end rfl rfl rfl (OpV.pure (PureAt.toStr (l := l.take 4) tab_ok rfl rfl rfl rfl (rds_head hr 4 (by omega)) rfl) rfl ?_))
    (first | refine VO.pure rfl rfl (PureAt.strEq (b := magicL) tab_ok rfl rfl rfl rfl) rfl ?_ | refine VD.take rfl rfl rfl (PureAt.strEq (b := magicL) tab_ok rfl rfl rfl rfl) rfl ?_ | refine VQ.pure rfl rfl (PureAt.strEq (b := magicL) tab_ok rfl rfl rfl rfl) rfl ?_ | refine VD.end rfl rfl rfl (OpV.pure (PureAt.strEq (b := magicL) tab_ok rfl rfl rfl rfl) rfl ?_))
    (refine w ?_; repeat ((first | refine VO.step rfl rfl ?_ | refine VD.end rfl rfl rfl ?_ | refine VD.mid rfl rfl rfl ?_); refine OpV.box rfl rfl rfl ?_; intro _; refine w ?_))
    (refine VC.cond rfl rfl ?_ ?_ <;> intro hc)
    · have hm : l.take 4 = magicL := by simpa using hc
      rw [if_pos hm]
      (refine w ?_; repeat ((first | refine VO.step rfl rfl ?_ | refine VD.end rfl rfl rfl ?_ | refine VD.mid rfl rfl rfl ?_); refine OpV.box rfl rfl rfl ?_; intro _; refine w ?_))
      refine VE.done (none, 0) rfl trivial rfl ?_; exact fun w hw => hw.ownNil _ _
    · have hm : ¬ l.take 4 = magicL := by simpa using hc
      rw [if_neg hm]
      refine VC.ent (fun w hw => hw.ownNil 5 1) ?_
      (refine w ?_; repeat ((first | refine VO.step rfl rfl ?_ | refine VD.end rfl rfl rfl ?_ | refine VD.mid rfl rfl rfl ?_); refine OpV.box rfl rfl rfl ?_; intro _; refine w ?_))
      (first | refine VO.step rfl rfl ?_ | refine VD.end rfl rfl rfl ?_ | refine VD.mid rfl rfl rfl ?_)
      refine OpV.append st_55 rfl rfl (by (repeat first | exact .head | apply Hole.tail)) (fun w hw => (hr.sees (cap := cap) hw.tail).src st_55.und) (by simp only [maxLen]; omega) (by omega) rfl ?_
      intro a1 c1
      simp only [Nat.zero_add, List.nil_append]
      (refine w ?_; repeat ((first | refine VO.step rfl rfl ?_ | refine VD.end rfl rfl rfl ?_ | refine VD.mid rfl rfl rfl ?_); refine OpV.box rfl rfl rfl ?_; intro _; refine w ?_))
      exact VE.done (a1, c1) rfl trivial rfl Ent.re
  · rw [if_neg (by decide)]
    (refine w ?_; repeat ((first | refine VO.step rfl rfl ?_ | refine VD.end rfl rfl rfl ?_ | refine VD.mid rfl rfl rfl ?_); refine OpV.box rfl rfl rfl ?_; intro _; refine w ?_))
    (first | refine VO.pure rfl rfl (PureAt.toStr (l := l.take 4) tab_ok rfl rfl rfl rfl (rds_head hr 4 (by omega)) rfl) rfl ?_ | refine VD.take rfl rfl rfl (PureAt.toStr (l := l.take 4) tab_ok rfl rfl rfl rfl (rds_head hr 4 (by omega)) rfl) rfl ?_ | refine VQ.pure rfl rfl (PureAt.toStr (l := l.take 4) tab_ok rfl rfl rfl rfl (rds_head hr 4 (by omega)) rfl) rfl ?_ | refine VD.end rfl rfl rfl (OpV.pure (PureAt.toStr (l := l.take 4) tab_ok rfl rfl rfl rfl (rds_head hr 4 (by omega)) rfl) rfl ?_))
    (first | refine VO.pure rfl rfl (PureAt.strEq (b := nought4) tab_ok rfl rfl rfl rfl) rfl ?_ | refine VD.take rfl rfl rfl (PureAt.strEq (b := nought4) tab_ok rfl rfl rfl rfl) rfl ?_ | refine VQ.pure rfl rfl (PureAt.strEq (b := nought4) tab_ok rfl rfl rfl rfl) rfl ?_ | refine VD.end rfl rfl rfl (OpV.pure (PureAt.strEq (b := nought4) tab_ok rfl rfl rfl rfl) rfl ?_))
    (refine w ?_; repeat ((first | refine VO.step rfl rfl ?_ | refine VD.end rfl rfl rfl ?_ | refine VD.mid rfl rfl rfl ?_); refine OpV.box rfl rfl rfl ?_; intro _; refine w ?_))
    (refine VC.cond rfl rfl ?_ ?_ <;> intro hc)
    · have hm : ¬ l.take 4 = nought4 := by simpa using hc
      rw [if_neg hm]
      (refine w ?_; repeat ((first | refine VO.step rfl rfl ?_ | refine VD.end rfl rfl rfl ?_ | refine VD.mid rfl rfl rfl ?_); refine OpV.box rfl rfl rfl ?_; intro _; refine w ?_))
      refine VE.done (none, 0) rfl trivial rfl ?_; exact fun w hw => hw.ownNil _ _
    · have hm : l.take 4 = nought4 := by simpa using hc
      rw [if_pos hm]
      have hp := rds_part hr 4 128 (by omega) (by omega) hcap
      rw [show 128 - 4 = 124 from rfl, List.take_of_length_le (by rw [List.length_drop]; omega)] at hp
      refine VC.ent (fun w hw => hw.ownNil 5 1) ?_
      (refine w ?_; repeat ((first | refine VO.step rfl rfl ?_ | refine VD.end rfl rfl rfl ?_ | refine VD.mid rfl rfl rfl ?_); refine OpV.box rfl rfl rfl ?_; intro _; refine w ?_))
      (first | refine VO.step rfl rfl ?_ | refine VD.end rfl rfl rfl ?_ | refine VD.mid rfl rfl rfl ?_)
      refine OpV.append (news := bytes magicL) (m := 4) st_55 rfl rfl (by (repeat first | exact .head | apply Hole.tail)) (fun w hw => Src.ofString w (TabData.string_ok tab_ok rfl) _) (by decide) (by decide) rfl ?_
      intro a1 c1
      (refine w ?_; repeat ((first | refine VO.step rfl rfl ?_ | refine VD.end rfl rfl rfl ?_ | refine VD.mid rfl rfl rfl ?_); refine OpV.box rfl rfl rfl ?_; intro _; refine w ?_))
      refine VO.re 27 (.slice (subA (some a) cap 4 1) 124 (cap - 4)) rfl (by rw [h128]) ?_
      (first | refine VO.step rfl rfl ?_ | refine VD.end rfl rfl rfl ?_ | refine VD.mid rfl rfl rfl ?_)
      refine OpV.append (news := bytes (l.drop 4)) (m := 124) st_55 rfl rfl (by (repeat first | exact .head | apply Hole.tail)) (fun w hw => ((hp.ent (Ent.drop Ent.refl)).sees (cap := cap - 4) hw).src st_55.und) (by decide) (by decide) rfl ?_
      intro a2 c2
      (refine w ?_; repeat ((first | refine VO.step rfl rfl ?_ | refine VD.end rfl rfl rfl ?_ | refine VD.mid rfl rfl rfl ?_); refine OpV.box rfl rfl rfl ?_; intro _; refine w ?_))
      have hl4 : (magicL ++ l.drop 4).length = 0 + 4 + 124 := by simp [magicL]; omega
      refine VE.done (a2, c2) rfl trivial (by rw [hl4]) ?_
      rw [show OwnB (a2, c2) (magicL ++ l.drop 4) = Own 5 1 (.slice a2 (0 + 4 + 124) c2) (0 + 4 + 124) ([] ++ bytes magicL ++ bytes (l.drop 4)) by unfold OwnB; rw [hl4, bytes_append]; rfl]
      exact Ent.re
end Go.Proofs.Ytlojjlbngnaphaa
