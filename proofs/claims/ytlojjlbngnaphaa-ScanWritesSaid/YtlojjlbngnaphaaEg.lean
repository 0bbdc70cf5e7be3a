/- Sectors of the journal: what they look like (Kind, looks), the document's and the program's. -/
import Derived.Test.YtlojjlbngnaphaaEf
import Derived.Test.YtlojjlbngnaphaaSk
set_option maxRecDepth 8000
set_option linter.unusedVariables false
set_option linter.unusedSimpArgs false
set_option linter.unusedSectionVars false
namespace Go.Proofs.Ytlojjlbngnaphaa
open Go.RowKit Go.Sl
attribute [local irreducible] Own

theorem bytes_take (l : List UInt8) (k : Nat) : (bytes l).take (k * 1) = bytes (l.take k) := by rw [Nat.mul_one]; simp [bytes]
theorem bytes_drop (l : List UInt8) (k : Nat) : (bytes l).drop (k * 1) = bytes (l.drop k) := by rw [Nat.mul_one]; simp [bytes]
theorem rds_head {W : World} {R : List SProp} {ao : Option Addr} {l : List UInt8} (hr : Rds W R 1 ao l.length (bytes l)) (k : Nat) (hk : k ≤ l.length) : Rds W R 1 ao k (bytes (l.take k)) := by
  have := hr.take hk
  rwa [bytes_take] at this
theorem rds_part {W : World} {R : List SProp} {ao : Option Addr} {cap : Nat} {l : List UInt8} (hr : Rds W R 1 ao l.length (bytes l)) (a b : Nat) (h1 : a ≤ b) (h2 : b ≤ l.length) (h3 : l.length ≤ cap) : Rds W R 1 (subA ao cap a 1) (b - a) (bytes ((l.drop a).take (b - a))) := by
  have := hr.sub h1 h2 h3
  rwa [bytes_drop, bytes_take] at this
theorem kindB_no {b : List UInt8} (h : b.length = 128 → b.take 4 = magicL → 3 < (b.getD 4 0).toNat) : kindB b = 0 := by
  unfold kindB; rw [if_neg]; rintro ⟨h1, h2, h3⟩; have := h h1 h2; omega
theorem kindB_yes {b : List UInt8} (h1 : b.length = 128) (h2 : b.take 4 = magicL) (h3 : (b.getD 4 0).toNat ≤ 3) : kindB b = b.getD 4 0 := by
  unfold kindB; rw [if_pos ⟨h1, h2, h3⟩]
theorem getD4 {b : List UInt8} (h : 4 < b.length) : b.getD 4 0 = b[4] := by simp [List.getD, h]

theorem kind_ok {W : World} {R : List SProp} {ao : Option Addr} {cap : Nat} {l : List UInt8} (hr : Rds W R 1 ao l.length (bytes l)) (hcap : l.length ≤ cap) :
    Does1 W Try.prog 103 [.slice ao l.length cap] R (.int .u8 ((kindB l).toNat : Int)) R := by
  (refine Does.enter Try.func103 Try.ntmps103 rfl rfl ?_)
  (refine w ?_; repeat ((first | refine VO.step rfl rfl ?_ | refine VD.end rfl rfl rfl ?_ | refine VD.mid rfl rfl rfl ?_); refine OpV.box rfl rfl rfl ?_; intro _; refine w ?_))
  ((first | refine VO.split rfl rfl rfl ?_ ?_ | refine VD.split rfl rfl rfl ?_ ?_) <;> intro hb)
  · have hb : l.length ≠ 128 := by have := hb; simp at this; omega
    (refine w ?_; repeat ((first | refine VO.step rfl rfl ?_ | refine VD.end rfl rfl rfl ?_ | refine VD.mid rfl rfl rfl ?_); refine OpV.box rfl rfl rfl ?_; intro _; refine w ?_))
    (refine VE.done1 rfl ?_ ?_)
    · rw [kindB_no (fun h => absurd h hb)]; rfl
    · exact Ent.refl
  have h128 : l.length = 128 := by have := hb; simp at this; omega
  obtain ⟨a, rfl⟩ : ∃ a, ao = some a := by cases ao with | none => have := hr.nil rfl; omega | some a => exact ⟨a, rfl⟩
  have hb1 := hr
  (refine w ?_; repeat ((first | refine VO.step rfl rfl ?_ | refine VD.end rfl rfl rfl ?_ | refine VD.mid rfl rfl rfl ?_); refine OpV.box rfl rfl rfl ?_; intro _; refine w ?_))
  (first | refine VO.pure rfl rfl (PureAt.toStr (l := l.take 4) tab_ok rfl rfl rfl rfl (rds_head hr 4 (by omega)) rfl) rfl ?_ | refine VD.take rfl rfl rfl (PureAt.toStr (l := l.take 4) tab_ok rfl rfl rfl rfl (rds_head hr 4 (by omega)) rfl) rfl ?_ | refine VQ.pure rfl rfl (PureAt.toStr (l := l.take 4) tab_ok rfl rfl rfl rfl (rds_head hr 4 (by omega)) rfl) rfl ?_ | refine VD.end rfl rfl rfl (OpV.pure (PureAt.toStr (l := l.take 4) tab_ok rfl rfl rfl rfl (rds_head hr 4 (by omega)) rfl) rfl ?_))
  (first | refine VO.pure rfl rfl (PureAt.strEq (b := magicL) tab_ok rfl rfl rfl rfl) rfl ?_ | refine VD.take rfl rfl rfl (PureAt.strEq (b := magicL) tab_ok rfl rfl rfl rfl) rfl ?_ | refine VQ.pure rfl rfl (PureAt.strEq (b := magicL) tab_ok rfl rfl rfl rfl) rfl ?_ | refine VD.end rfl rfl rfl (OpV.pure (PureAt.strEq (b := magicL) tab_ok rfl rfl rfl rfl) rfl ?_))
  (refine w ?_; repeat ((first | refine VO.step rfl rfl ?_ | refine VD.end rfl rfl rfl ?_ | refine VD.mid rfl rfl rfl ?_); refine OpV.box rfl rfl rfl ?_; intro _; refine w ?_))
  ((first | refine VO.split rfl rfl rfl ?_ ?_ | refine VD.split rfl rfl rfl ?_ ?_) <;> intro hb)
  · have hb : l.take 4 ≠ magicL := by have := hb; simp at this; exact this
    (refine w ?_; repeat ((first | refine VO.step rfl rfl ?_ | refine VD.end rfl rfl rfl ?_ | refine VD.mid rfl rfl rfl ?_); refine OpV.box rfl rfl rfl ?_; intro _; refine w ?_))
    (refine VE.done1 rfl ?_ ?_)
    · rw [kindB_no (fun _ h => absurd h hb)]; rfl
    · exact Ent.refl
  have hm : l.take 4 = magicL := by have := hb; simp at this; exact this
  (refine w ?_; repeat ((first | refine VO.step rfl rfl ?_ | refine VD.end rfl rfl rfl ?_ | refine VD.mid rfl rfl rfl ?_); refine OpV.box rfl rfl rfl ?_; intro _; refine w ?_))
  (refine VC.cond rfl rfl ?_ ?_ <;> intro hc)
  · have h3 : 3 < (l[4]).toNat := by have := of_decide_eq_true hc; omega
    (refine w ?_; repeat ((first | refine VO.step rfl rfl ?_ | refine VD.end rfl rfl rfl ?_ | refine VD.mid rfl rfl rfl ?_); refine OpV.box rfl rfl rfl ?_; intro _; refine w ?_))
    (refine VE.done1 rfl ?_ ?_)
    · rw [kindB_no (fun _ _ => by rw [getD4 (by omega)]; exact h3)]; rfl
    · exact Ent.refl
  · have h3 : (l[4]).toNat ≤ 3 := by have := of_decide_eq_false hc; omega
    (refine w ?_; repeat ((first | refine VO.step rfl rfl ?_ | refine VD.end rfl rfl rfl ?_ | refine VD.mid rfl rfl rfl ?_); refine OpV.box rfl rfl rfl ?_; intro _; refine w ?_))
    (refine VE.done1 rfl ?_ ?_)
    · rw [kindB_yes h128 hm (by rw [getD4 (by omega)]; exact h3), getD4 (by omega)]
    · exact Ent.refl
theorem rkind_ok {W : World} {R : List SProp} {ao : Option Addr} {cap : Nat} {l : List UInt8} (hr : Rds W R 1 ao l.length (bytes l)) (hcap : l.length ≤ cap) :
    Does1 W Try.prog 109 [.slice ao l.length cap] R (.int .u8 ((kindB l).toNat : Int)) R := by
  (refine Does.enter Try.func109 Try.ntmps109 rfl rfl ?_)
  (refine w ?_; repeat ((first | refine VO.step rfl rfl ?_ | refine VD.end rfl rfl rfl ?_ | refine VD.mid rfl rfl rfl ?_); refine OpV.box rfl rfl rfl ?_; intro _; refine w ?_))
  ((first | refine VO.split rfl rfl rfl ?_ ?_ | refine VD.split rfl rfl rfl ?_ ?_) <;> intro hb)
  · have hb : l.length ≠ 128 := by have := hb; simp at this; omega
    (refine w ?_; repeat ((first | refine VO.step rfl rfl ?_ | refine VD.end rfl rfl rfl ?_ | refine VD.mid rfl rfl rfl ?_); refine OpV.box rfl rfl rfl ?_; intro _; refine w ?_))
    (refine VE.done1 rfl ?_ ?_)
    · rw [kindB_no (fun h => absurd h hb)]; rfl
    · exact Ent.refl
  have h128 : l.length = 128 := by have := hb; simp at this; omega
  obtain ⟨a, rfl⟩ : ∃ a, ao = some a := by cases ao with | none => have := hr.nil rfl; omega | some a => exact ⟨a, rfl⟩
  have hb1 := hr
  (refine w ?_; repeat ((first | refine VO.step rfl rfl ?_ | refine VD.end rfl rfl rfl ?_ | refine VD.mid rfl rfl rfl ?_); refine OpV.box rfl rfl rfl ?_; intro _; refine w ?_))
  (first | refine VO.pure rfl rfl (PureAt.toStr (l := l.take 4) tab_ok rfl rfl rfl rfl (rds_head hr 4 (by omega)) rfl) rfl ?_ | refine VD.take rfl rfl rfl (PureAt.toStr (l := l.take 4) tab_ok rfl rfl rfl rfl (rds_head hr 4 (by omega)) rfl) rfl ?_ | refine VQ.pure rfl rfl (PureAt.toStr (l := l.take 4) tab_ok rfl rfl rfl rfl (rds_head hr 4 (by omega)) rfl) rfl ?_ | refine VD.end rfl rfl rfl (OpV.pure (PureAt.toStr (l := l.take 4) tab_ok rfl rfl rfl rfl (rds_head hr 4 (by omega)) rfl) rfl ?_))
  (first | refine VO.pure rfl rfl (PureAt.strEq (b := magicL) tab_ok rfl rfl rfl rfl) rfl ?_ | refine VD.take rfl rfl rfl (PureAt.strEq (b := magicL) tab_ok rfl rfl rfl rfl) rfl ?_ | refine VQ.pure rfl rfl (PureAt.strEq (b := magicL) tab_ok rfl rfl rfl rfl) rfl ?_ | refine VD.end rfl rfl rfl (OpV.pure (PureAt.strEq (b := magicL) tab_ok rfl rfl rfl rfl) rfl ?_))
  (refine w ?_; repeat ((first | refine VO.step rfl rfl ?_ | refine VD.end rfl rfl rfl ?_ | refine VD.mid rfl rfl rfl ?_); refine OpV.box rfl rfl rfl ?_; intro _; refine w ?_))
  ((first | refine VO.split rfl rfl rfl ?_ ?_ | refine VD.split rfl rfl rfl ?_ ?_) <;> intro hb)
  · have hb : l.take 4 ≠ magicL := by have := hb; simp at this; exact this
    (refine w ?_; repeat ((first | refine VO.step rfl rfl ?_ | refine VD.end rfl rfl rfl ?_ | refine VD.mid rfl rfl rfl ?_); refine OpV.box rfl rfl rfl ?_; intro _; refine w ?_))
    (refine VE.done1 rfl ?_ ?_)
    · rw [kindB_no (fun _ h => absurd h hb)]; rfl
    · exact Ent.refl
  have hm : l.take 4 = magicL := by have := hb; simp at this; exact this
  (refine w ?_; repeat ((first | refine VO.step rfl rfl ?_ | refine VD.end rfl rfl rfl ?_ | refine VD.mid rfl rfl rfl ?_); refine OpV.box rfl rfl rfl ?_; intro _; refine w ?_))
  ((first | refine VO.split rfl rfl rfl ?_ ?_ | refine VD.split rfl rfl rfl ?_ ?_) <;> intro hb)
  · have h0 : (l[4]).toNat = 0 := by have := of_decide_eq_true hb; omega
    (refine w ?_; repeat ((first | refine VO.step rfl rfl ?_ | refine VD.end rfl rfl rfl ?_ | refine VD.mid rfl rfl rfl ?_); refine OpV.box rfl rfl rfl ?_; intro _; refine w ?_))
    (refine VE.done1 rfl ?_ ?_)
    · rw [kindB_yes h128 hm (by rw [getD4 (by omega)]; omega), getD4 (by omega), h0]; rfl
    · exact Ent.refl
  (refine w ?_; repeat ((first | refine VO.step rfl rfl ?_ | refine VD.end rfl rfl rfl ?_ | refine VD.mid rfl rfl rfl ?_); refine OpV.box rfl rfl rfl ?_; intro _; refine w ?_))
  (refine VC.cond rfl rfl ?_ ?_ <;> intro hc)
  · have h3 : 3 < (l[4]).toNat := by have := of_decide_eq_true hc; omega
    (refine w ?_; repeat ((first | refine VO.step rfl rfl ?_ | refine VD.end rfl rfl rfl ?_ | refine VD.mid rfl rfl rfl ?_); refine OpV.box rfl rfl rfl ?_; intro _; refine w ?_))
    (refine VE.done1 rfl ?_ ?_)
    · rw [kindB_no (fun _ _ => by rw [getD4 (by omega)]; exact h3)]; rfl
    · exact Ent.refl
  · have h3 : (l[4]).toNat ≤ 3 := by have := of_decide_eq_false hc; omega
    (refine w ?_; repeat ((first | refine VO.step rfl rfl ?_ | refine VD.end rfl rfl rfl ?_ | refine VD.mid rfl rfl rfl ?_); refine OpV.box rfl rfl rfl ?_; intro _; refine w ?_))
    (refine VE.done1 rfl ?_ ?_)
    · rw [kindB_yes h128 hm (by rw [getD4 (by omega)]; exact h3), getD4 (by omega)]
    · exact Ent.refl
theorem rlooks_ok {W : World} {R : List SProp} {ao : Option Addr} {cap : Nat} {l : List UInt8} (hr : Rds W R 1 ao l.length (bytes l)) (hcap : l.length ≤ cap) (k : UInt8) :
    Does1 W Try.prog 100 [.slice ao l.length cap, .int .u8 (k.toNat : Int)] R (.int .i64 (looksM l k)) R := by
  (refine Does.enter Try.func100 Try.ntmps100 rfl rfl ?_)
  (refine w ?_; repeat ((first | refine VO.step rfl rfl ?_ | refine VD.end rfl rfl rfl ?_ | refine VD.mid rfl rfl rfl ?_); refine OpV.box rfl rfl rfl ?_; intro _; refine w ?_))
  (refine VC.cond rfl rfl ?_ ?_ <;> intro hc)
  · have hb : l.length ≠ 128 := by have := hc; simp at this; omega
    (refine w ?_; repeat ((first | refine VO.step rfl rfl ?_ | refine VD.end rfl rfl rfl ?_ | refine VD.mid rfl rfl rfl ?_); refine OpV.box rfl rfl rfl ?_; intro _; refine w ?_))
    (refine VE.done1 rfl ?_ ?_)
    · unfold looksM; rw [if_pos hb]
    · exact Ent.refl
  have h128 : l.length = 128 := by have := hc; simp at this; omega
  (refine w ?_; repeat ((first | refine VO.step rfl rfl ?_ | refine VD.end rfl rfl rfl ?_ | refine VD.mid rfl rfl rfl ?_); refine OpV.box rfl rfl rfl ?_; intro _; refine w ?_))
  ((first | refine VO.step rfl rfl ?_ | refine VD.end rfl rfl rfl ?_ | refine VD.mid rfl rfl rfl ?_); refine OpV.call rfl rfl (fun _ _ => by simp) (rkind_ok hr hcap) Ent.refl rfl ?_)
  intro _ _
  (refine w ?_; repeat ((first | refine VO.step rfl rfl ?_ | refine VD.end rfl rfl rfl ?_ | refine VD.mid rfl rfl rfl ?_); refine OpV.box rfl rfl rfl ?_; intro _; refine w ?_))
  (refine VC.cond rfl rfl ?_ ?_ <;> intro hc)
  · have hb : kindB l ≠ k := by intro h; rw [h] at hc; simp at hc
    (refine w ?_; repeat ((first | refine VO.step rfl rfl ?_ | refine VD.end rfl rfl rfl ?_ | refine VD.mid rfl rfl rfl ?_); refine OpV.box rfl rfl rfl ?_; intro _; refine w ?_))
    (refine VE.done1 rfl ?_ ?_)
    · unfold looksM; rw [if_neg (by omega), if_pos hb]
    · exact Ent.refl
  have hk : kindB l = k := by
    have h1 : ((kindB l).toNat : Int) = (k.toNat : Int) := by simpa using hc
    exact UInt8.toNat_inj.1 (by omega)
  have h124 : (l.take 124).length = 124 := by rw [List.length_take]; omega
  (refine w ?_; repeat ((first | refine VO.step rfl rfl ?_ | refine VD.end rfl rfl rfl ?_ | refine VD.mid rfl rfl rfl ?_); refine OpV.box rfl rfl rfl ?_; intro _; refine w ?_))
  have hsum := rsum_ok (cap := cap) (l := l.take 124) (W := W) (R := R) (ao := ao) (by rw [h124]; exact rds_head hr 124 (by omega)) (by omega)
  rw [h124] at hsum
  ((first | refine VO.step rfl rfl ?_ | refine VD.end rfl rfl rfl ?_ | refine VD.mid rfl rfl rfl ?_); refine OpV.call rfl rfl (fun _ _ => by simp) (hsum) Ent.refl rfl ?_)
  intro _ _
  (refine w ?_; repeat ((first | refine VO.step rfl rfl ?_ | refine VD.end rfl rfl rfl ?_ | refine VD.mid rfl rfl rfl ?_); refine OpV.box rfl rfl rfl ?_; intro _; refine w ?_))
  ((first | refine VO.step rfl rfl ?_ | refine VD.end rfl rfl rfl ?_ | refine VD.mid rfl rfl rfl ?_); refine OpV.call rfl rfl (fun _ _ => by simp) (get_ok hr 124 4 (by omega) (by omega) (by omega)) Ent.refl rfl ?_)
  intro _ _
  have hcr := (crcS (l.take 124)).isLt
  (refine w ?_; repeat ((first | refine VO.step rfl rfl ?_ | refine VD.end rfl rfl rfl ?_ | refine VD.mid rfl rfl rfl ?_); refine OpV.box rfl rfl rfl ?_; intro _; refine w ?_))
  (refine VC.cond rfl rfl ?_ ?_ <;> intro hc)
  · have hb : numAt l 124 4 ≠ (crcS (l.take 124)).toNat := by
      intro h
      rw [h, wrap64_of (by omega)] at hc
      simp at hc
    (refine w ?_; repeat ((first | refine VO.step rfl rfl ?_ | refine VD.end rfl rfl rfl ?_ | refine VD.mid rfl rfl rfl ?_); refine OpV.box rfl rfl rfl ?_; intro _; refine w ?_))
    (refine VE.done1 rfl ?_ ?_)
    · unfold looksM; rw [if_neg (by omega), if_neg (fun h => h hk), if_pos hb]
    · exact Ent.refl
  · have hb : numAt l 124 4 = (crcS (l.take 124)).toNat := by
      rw [wrap64_of (by omega)] at hc
      have h1 : ((numAt l 124 4 : Nat) : Int) = (((crcS (l.take 124)).toNat : Nat) : Int) := by simpa using hc
      omega
    (refine w ?_; repeat ((first | refine VO.step rfl rfl ?_ | refine VD.end rfl rfl rfl ?_ | refine VD.mid rfl rfl rfl ?_); refine OpV.box rfl rfl rfl ?_; intro _; refine w ?_))
    (refine VE.done1 rfl ?_ ?_)
    · unfold looksM; rw [if_neg (by omega), if_neg (fun h => h hk), if_neg (fun h => h hb)]
    · exact Ent.refl
end Go.Proofs.Ytlojjlbngnaphaa
