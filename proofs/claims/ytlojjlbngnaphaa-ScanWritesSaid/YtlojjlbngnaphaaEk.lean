/- The program's read, DecodeHeader, DecodeCommit, DecodeCheck. -/
import Derived.Test.YtlojjlbngnaphaaEi
import Derived.Test.YtlojjlbngnaphaaEj
set_option maxRecDepth 8000
set_option linter.unusedVariables false
set_option linter.unusedSimpArgs false
set_option linter.unusedSectionVars false
namespace Go.Proofs.Ytlojjlbngnaphaa
open Go.RowKit Go.Sl
attribute [local irreducible] Own

theorem equal_ok {W : World} {R : List SProp} {ao ao' : Option Addr} {cap cap' : Nat} {a b : List UInt8} (ha : Rds W R 1 ao a.length (bytes a)) (hb : Rds W R 1 ao' b.length (bytes b)) :
    Does1 W Try.prog 107 [.slice ao a.length cap, .slice ao' b.length cap'] R (.bool (decide (a = b))) R := by
  (refine Does.enter Try.func107 Try.ntmps107 rfl rfl ?_)
  (refine w ?_; repeat ((first | refine VO.step rfl rfl ?_ | refine VD.end rfl rfl rfl ?_ | refine VD.mid rfl rfl rfl ?_); refine OpV.box rfl rfl rfl ?_; intro _; refine w ?_))
  (first | refine VO.pure rfl rfl (PureAt.toStr (l := a) tab_ok rfl rfl rfl rfl ha rfl) rfl ?_ | refine VD.take rfl rfl rfl (PureAt.toStr (l := a) tab_ok rfl rfl rfl rfl ha rfl) rfl ?_ | refine VQ.pure rfl rfl (PureAt.toStr (l := a) tab_ok rfl rfl rfl rfl ha rfl) rfl ?_ | refine VD.end rfl rfl rfl (OpV.pure (PureAt.toStr (l := a) tab_ok rfl rfl rfl rfl ha rfl) rfl ?_))
  (refine w ?_; repeat ((first | refine VO.step rfl rfl ?_ | refine VD.end rfl rfl rfl ?_ | refine VD.mid rfl rfl rfl ?_); refine OpV.box rfl rfl rfl ?_; intro _; refine w ?_))
  (first | refine VO.pure rfl rfl (PureAt.toStr (l := b) tab_ok rfl rfl rfl rfl hb rfl) rfl ?_ | refine VD.take rfl rfl rfl (PureAt.toStr (l := b) tab_ok rfl rfl rfl rfl hb rfl) rfl ?_ | refine VQ.pure rfl rfl (PureAt.toStr (l := b) tab_ok rfl rfl rfl rfl hb rfl) rfl ?_ | refine VD.end rfl rfl rfl (OpV.pure (PureAt.toStr (l := b) tab_ok rfl rfl rfl rfl hb rfl) rfl ?_))
  (first | refine VO.pure rfl rfl (PureAt.strEq tab_ok rfl rfl rfl rfl) rfl ?_ | refine VD.take rfl rfl rfl (PureAt.strEq tab_ok rfl rfl rfl rfl) rfl ?_ | refine VQ.pure rfl rfl (PureAt.strEq tab_ok rfl rfl rfl rfl) rfl ?_ | refine VD.end rfl rfl rfl (OpV.pure (PureAt.strEq tab_ok rfl rfl rfl rfl) rfl ?_))
  (refine w ?_; repeat ((first | refine VO.step rfl rfl ?_ | refine VD.end rfl rfl rfl ?_ | refine VD.mid rfl rfl rfl ?_); refine OpV.box rfl rfl rfl ?_; intro _; refine w ?_))
  (refine VE.done1 rfl ?_ ?_)
  · rfl
  · exact Ent.refl
theorem read_bad {W : World} {R : List SProp} {ao : Option Addr} {cap : Nat} {l : List UInt8} (hr : Rds W R 1 ao l.length (bytes l)) (hcap : l.length ≤ cap) (k : UInt8) (hbad : looksM l k ≠ 0) (f1 f2 : Value) :
    Does1 W Try.prog 94 [.slice ao l.length cap, .int .u8 (k.toNat : Int), f1, f2] R (.int .u16 (looksM l k)) R := by
  (refine Does.enter Try.func94 Try.ntmps94 rfl rfl ?_)
  (refine w ?_; repeat ((first | refine VO.step rfl rfl ?_ | refine VD.end rfl rfl rfl ?_ | refine VD.mid rfl rfl rfl ?_); refine OpV.box rfl rfl rfl ?_; intro _; refine w ?_))
  (refine VC.cond rfl rfl ?_ ?_ <;> intro hc)
  · have hb : l.length ≠ 128 := by have := hc; simp at this; omega
    (refine w ?_; repeat ((first | refine VO.step rfl rfl ?_ | refine VD.end rfl rfl rfl ?_ | refine VD.mid rfl rfl rfl ?_); refine OpV.box rfl rfl rfl ?_; intro _; refine w ?_))
    (refine VE.done1 rfl ?_ ?_)
    · unfold looksM; rw [if_pos hb]
    · exact Ent.refl
  have h128 : l.length = 128 := by have := hc; simp at this; omega
  (refine w ?_; repeat ((first | refine VO.step rfl rfl ?_ | refine VD.end rfl rfl rfl ?_ | refine VD.mid rfl rfl rfl ?_); refine OpV.box rfl rfl rfl ?_; intro _; refine w ?_))
  ((first | refine VO.step rfl rfl ?_ | refine VD.end rfl rfl rfl ?_ | refine VD.mid rfl rfl rfl ?_); refine OpV.call rfl rfl (fun _ _ => by simp) (kind_ok hr hcap) Ent.refl rfl ?_)
  intro _ _
  (refine w ?_; repeat ((first | refine VO.step rfl rfl ?_ | refine VD.end rfl rfl rfl ?_ | refine VD.mid rfl rfl rfl ?_); refine OpV.box rfl rfl rfl ?_; intro _; refine w ?_))
  (refine VC.cond rfl rfl ?_ ?_ <;> intro hc)
  · have hb : kindB l ≠ k := by intro h; rw [h] at hc; simp at hc
    (refine w ?_; repeat ((first | refine VO.step rfl rfl ?_ | refine VD.end rfl rfl rfl ?_ | refine VD.mid rfl rfl rfl ?_); refine OpV.box rfl rfl rfl ?_; intro _; refine w ?_))
    (refine VE.done1 rfl ?_ ?_)
    · unfold looksM; rw [if_neg (by omega), if_pos hb]
    · exact Ent.refl
  have hk : kindB l = k := by
    have h1 : ((kindB l).toNat : Int) = (k.toNat : Int) := by simpa using hc
    exact UInt8.toNat_inj.1 (by omega)
  have hn : numAt l 124 4 ≠ (crcS (l.take 124)).toNat := by
    intro h; apply hbad; unfold looksM; rw [if_neg (by omega), if_neg (fun h => h hk), if_neg (fun h2 => h2 h)]
  obtain ⟨a, rfl⟩ : ∃ a, ao = some a := by cases ao with | none => have := hr.nil rfl; omega | some a => exact ⟨a, rfl⟩
  have hp := rds_part hr 124 128 (by omega) (by omega) hcap
  rw [show 128 - 124 = 4 from rfl] at hp
  have hlt := numAt_lt l 124 4
  have h124 : (l.take 124).length = 124 := by rw [List.length_take]; omega
  (refine w ?_; repeat ((first | refine VO.step rfl rfl ?_ | refine VD.end rfl rfl rfl ?_ | refine VD.mid rfl rfl rfl ?_); refine OpV.box rfl rfl rfl ?_; intro _; refine w ?_))
  refine VO.re 22 (.slice (subA (some a) cap 124 1) 4 (cap - 124)) rfl (by rw [h128]) ?_
  ((first | refine VO.step rfl rfl ?_ | refine VD.end rfl rfl rfl ?_ | refine VD.mid rfl rfl rfl ?_); refine OpV.call rfl rfl (fun _ _ => by simp) (read_ok hp (by omega)) Ent.re rfl ?_)
  intro q _
  (refine w ?_; repeat ((first | refine VO.step rfl rfl ?_ | refine VD.end rfl rfl rfl ?_ | refine VD.mid rfl rfl rfl ?_); refine OpV.box rfl rfl rfl ?_; intro _; refine w ?_))
  have hr2 := hr.ent (H := ReaderR q ⟨(l.drop 124).take 4, 0, 0, 0⟩ :: R) (Ent.drop Ent.refl)
  have hg := Rk.got_good (k := ⟨(l.drop 124).take 4, 0, 0, 0⟩) (n := 4) rfl (by simp; omega)
  have hsum := sum_ok (cap := cap) (l := l.take 124) (W := W) (R := ReaderR q ⟨(l.drop 124).take 4, 4, 0, 0⟩ :: R) (ao := some a) (by rw [h124]; exact rds_head (hr.ent (Ent.drop Ent.refl)) 124 (by omega)) (by omega)
  rw [h124] at hsum
  (refine VC.drawn [1] 4 [0, 2, 3, 1, 4, 5] R rfl (by kernel_rfl) (by kernel_rfl) Ent.re ?_)
  (refine w ?_; repeat ((first | refine VO.step rfl rfl ?_ | refine VD.end rfl rfl rfl ?_ | refine VD.mid rfl rfl rfl ?_); refine OpV.box rfl rfl rfl ?_; intro _; refine w ?_))
  (((first | refine VO.step rfl rfl ?_ | refine VD.end rfl rfl rfl ?_ | refine VD.mid rfl rfl rfl ?_); refine OpV.call rfl rfl (fun _ _ => by simp) (r32_ok q ⟨(l.drop 124).take 4, 0, 0, 0⟩) Ent.re rfl ?_); intro _ _)
  rw [hg.1, hg.2.2]
  dsimp only
  rw [show leVal (List.take 4 (List.drop 0 (List.take 4 (List.drop 124 l)))) = numAt l 124 4 by unfold numAt; rw [List.drop_zero, List.take_take]; rfl, Nat.zero_add]
  (refine w ?_; repeat ((first | refine VO.step rfl rfl ?_ | refine VD.end rfl rfl rfl ?_ | refine VD.mid rfl rfl rfl ?_); refine OpV.box rfl rfl rfl ?_; intro _; refine w ?_))
  ((first | refine VO.step rfl rfl ?_ | refine VD.end rfl rfl rfl ?_ | refine VD.mid rfl rfl rfl ?_); refine OpV.call rfl rfl (fun _ _ => by simp) (hsum) Ent.refl rfl ?_)
  intro _ _
  (refine w ?_; repeat ((first | refine VO.step rfl rfl ?_ | refine VD.end rfl rfl rfl ?_ | refine VD.mid rfl rfl rfl ?_); refine OpV.box rfl rfl rfl ?_; intro _; refine w ?_))
  (refine VC.condTe rfl rfl (by simpa using fun h => hn (by omega)) ?_)
  (refine w ?_; repeat ((first | refine VO.step rfl rfl ?_ | refine VD.end rfl rfl rfl ?_ | refine VD.mid rfl rfl rfl ?_); refine OpV.box rfl rfl rfl ?_; intro _; refine w ?_))
  (refine VE.done1 rfl ?_ ?_)
  · unfold looksM; rw [if_neg (by omega), if_neg (fun h => h hk), if_pos hn]
  · exact Ent.re
set_option maxHeartbeats 1000000 in
theorem read_good {W : World} {R0 R1 : List SProp} {ao : Option Addr} {cap : Nat} {l : List UInt8} (hr : Rds W R0 1 ao l.length (bytes l)) (hr1 : Rds W R1 1 ao l.length (bytes l)) (hcap : l.length ≤ cap) (k : UInt8) (hlk : looksM l k = 0)
    (g1 g2 : FuncId) (cap1 cap2 : Array Value) (hg1 : ∀ a w, (callFunc g1 a).run Try.prog w = .ok (.enter g1 a) w) (hg2 : ∀ a w, (callFunc g2 a).run Try.prog w = .ok (.enter g2 a) w) (C : List UInt8) (eC : Int)
    (rest : ∀ p, Does1 W Try.prog g1 ([.pointer (some ⟨p, 0, none⟩), .int .u64 (numAt l 8 8 : Nat), .int .u64 (numAt l 16 8 : Nat)] ++ cap1.toList) (ReaderR p ⟨l, 24, 0, 0⟩ :: R0) (.tuple #[]) R1)
    (again : Does W Try.prog g2 ([] ++ cap2.toList) R1 (β := Option Addr × Nat) (fun _ => True) (fun x => .tuple #[.slice x.1 C.length x.2, .int .u16 eC]) (fun x => OwnB x C :: R1)) :
    Does1 W Try.prog 94 [.slice ao l.length cap, .int .u8 (k.toNat : Int), .func (.func g1) #[] cap1, .func (.func g2) #[] cap2] R0 (.int .u16 (if eC = 0 ∧ C = l then 0 else 80)) R1 := by
  have h128 := looks_len hlk
  have hk : kindB l = k := by
    unfold looksM at hlk; rw [if_neg (by omega)] at hlk; split at hlk
    · cases hlk
    · rename_i h; exact Decidable.of_not_not h
  have hn : numAt l 124 4 = (crcS (l.take 124)).toNat := by
    unfold looksM at hlk; rw [if_neg (by omega), if_neg (fun h => h hk)] at hlk; split at hlk
    · cases hlk
    · rename_i h; exact Decidable.of_not_not h
  obtain ⟨a, rfl⟩ : ∃ a, ao = some a := by cases ao with | none => have := hr.nil rfl; omega | some a => exact ⟨a, rfl⟩
  have hp := rds_part hr 124 128 (by omega) (by omega) hcap
  rw [show 128 - 124 = 4 from rfl] at hp
  have hlt := numAt_lt l 124 4
  have h124 : (l.take 124).length = 124 := by rw [List.length_take]; omega
  (refine Does.enter Try.func94 Try.ntmps94 rfl rfl ?_)
  (refine w ?_; repeat ((first | refine VO.step rfl rfl ?_ | refine VD.end rfl rfl rfl ?_ | refine VD.mid rfl rfl rfl ?_); refine OpV.box rfl rfl rfl ?_; intro _; refine w ?_))
  (refine VC.condFe rfl rfl (by simp; omega) ?_)
  (refine w ?_; repeat ((first | refine VO.step rfl rfl ?_ | refine VD.end rfl rfl rfl ?_ | refine VD.mid rfl rfl rfl ?_); refine OpV.box rfl rfl rfl ?_; intro _; refine w ?_))
  ((first | refine VO.step rfl rfl ?_ | refine VD.end rfl rfl rfl ?_ | refine VD.mid rfl rfl rfl ?_); refine OpV.call rfl rfl (fun _ _ => by simp) (kind_ok hr hcap) Ent.refl rfl ?_)
  intro _ _
  rw [hk]
  (refine w ?_; repeat ((first | refine VO.step rfl rfl ?_ | refine VD.end rfl rfl rfl ?_ | refine VD.mid rfl rfl rfl ?_); refine OpV.box rfl rfl rfl ?_; intro _; refine w ?_))
  (refine VC.condFe rfl rfl (by simp) ?_)
  (refine w ?_; repeat ((first | refine VO.step rfl rfl ?_ | refine VD.end rfl rfl rfl ?_ | refine VD.mid rfl rfl rfl ?_); refine OpV.box rfl rfl rfl ?_; intro _; refine w ?_))
  refine VO.re 22 (.slice (subA (some a) cap 124 1) 4 (cap - 124)) rfl (by rw [h128]) ?_
  ((first | refine VO.step rfl rfl ?_ | refine VD.end rfl rfl rfl ?_ | refine VD.mid rfl rfl rfl ?_); refine OpV.call rfl rfl (fun _ _ => by simp) (read_ok hp (by omega)) Ent.re rfl ?_)
  intro q _
  (refine w ?_; repeat ((first | refine VO.step rfl rfl ?_ | refine VD.end rfl rfl rfl ?_ | refine VD.mid rfl rfl rfl ?_); refine OpV.box rfl rfl rfl ?_; intro _; refine w ?_))
  have hr2 := hr.ent (H := ReaderR q ⟨(l.drop 124).take 4, 0, 0, 0⟩ :: R0) (Ent.drop Ent.refl)
  have hg := Rk.got_good (k := ⟨(l.drop 124).take 4, 0, 0, 0⟩) (n := 4) rfl (by simp; omega)
  have hsum := sum_ok (cap := cap) (l := l.take 124) (W := W) (R := ReaderR q ⟨(l.drop 124).take 4, 4, 0, 0⟩ :: R0) (ao := some a) (by rw [h124]; exact rds_head (hr.ent (Ent.drop Ent.refl)) 124 (by omega)) (by omega)
  rw [h124] at hsum
  (refine VC.drawn [1] 4 [0, 2, 3, 1, 4, 5] R0 rfl (by kernel_rfl) (by kernel_rfl) Ent.re ?_)
  (refine w ?_; repeat ((first | refine VO.step rfl rfl ?_ | refine VD.end rfl rfl rfl ?_ | refine VD.mid rfl rfl rfl ?_); refine OpV.box rfl rfl rfl ?_; intro _; refine w ?_))
  (((first | refine VO.step rfl rfl ?_ | refine VD.end rfl rfl rfl ?_ | refine VD.mid rfl rfl rfl ?_); refine OpV.call rfl rfl (fun _ _ => by simp) (r32_ok q ⟨(l.drop 124).take 4, 0, 0, 0⟩) Ent.re rfl ?_); intro _ _)
  rw [hg.1, hg.2.2]
  dsimp only
  rw [show leVal (List.take 4 (List.drop 0 (List.take 4 (List.drop 124 l)))) = numAt l 124 4 by unfold numAt; rw [List.drop_zero, List.take_take]; rfl, Nat.zero_add]
  (refine w ?_; repeat ((first | refine VO.step rfl rfl ?_ | refine VD.end rfl rfl rfl ?_ | refine VD.mid rfl rfl rfl ?_); refine OpV.box rfl rfl rfl ?_; intro _; refine w ?_))
  ((first | refine VO.step rfl rfl ?_ | refine VD.end rfl rfl rfl ?_ | refine VD.mid rfl rfl rfl ?_); refine OpV.call rfl rfl (fun _ _ => by simp) (hsum) Ent.refl rfl ?_)
  intro _ _
  (refine w ?_; repeat ((first | refine VO.step rfl rfl ?_ | refine VD.end rfl rfl rfl ?_ | refine VD.mid rfl rfl rfl ?_); refine OpV.box rfl rfl rfl ?_; intro _; refine w ?_))
  (refine VC.condFe rfl rfl (by simp; omega) ?_)
  (refine w ?_; repeat ((first | refine VO.step rfl rfl ?_ | refine VD.end rfl rfl rfl ?_ | refine VD.mid rfl rfl rfl ?_); refine OpV.box rfl rfl rfl ?_; intro _; refine w ?_))
  (first | refine VO.step rfl rfl ?_ | refine VD.end rfl rfl rfl ?_ | refine VD.mid rfl rfl rfl ?_)
  refine OpV.call rfl rfl (fun _ _ => by simp) (read_ok (R := R0) hr (by omega)) Ent.re rfl ?_
  intro p _
  (refine w ?_; repeat ((first | refine VO.step rfl rfl ?_ | refine VD.end rfl rfl rfl ?_ | refine VD.mid rfl rfl rfl ?_); refine OpV.box rfl rfl rfl ?_; intro _; refine w ?_))
  ((first | refine VO.step rfl rfl ?_ | refine VD.end rfl rfl rfl ?_ | refine VD.mid rfl rfl rfl ?_); refine OpV.call rfl rfl (fun _ _ => by simp) (rraw_ok p ⟨l, 0, 0, 0⟩ 8) Ent.re rfl ?_)
  rintro ⟨ra, rc⟩ -
  rw [show (Rk.mk l 0 0 0).raw 8 = ⟨l, 8, 0, 0⟩ by unfold Rk.raw; rw [if_neg (by decide)]; exact (Rk.got_good (k := ⟨l, 0, 0, 0⟩) (n := 8) rfl (by simp only; omega)).2.2]
  have g8 := Rk.got_good (k := ⟨l, 8, 0, 0⟩) (n := 8) rfl (by simp only; omega)
  have g16 := Rk.got_good (k := ⟨l, 16, 0, 0⟩) (n := 8) rfl (by simp only; omega)
  (refine w ?_; repeat ((first | refine VO.step rfl rfl ?_ | refine VD.end rfl rfl rfl ?_ | refine VD.mid rfl rfl rfl ?_); refine OpV.box rfl rfl rfl ?_; intro _; refine w ?_))
  ((first | refine VO.step rfl rfl ?_ | refine VD.end rfl rfl rfl ?_ | refine VD.mid rfl rfl rfl ?_); refine OpV.call rfl rfl (fun _ _ => by simp) (r64_ok p ⟨l, 8, 0, 0⟩) Ent.re rfl ?_)
  intro _ _
  rw [g8.1, g8.2.2]
  dsimp only
  (refine w ?_; repeat ((first | refine VO.step rfl rfl ?_ | refine VD.end rfl rfl rfl ?_ | refine VD.mid rfl rfl rfl ?_); refine OpV.box rfl rfl rfl ?_; intro _; refine w ?_))
  ((first | refine VO.step rfl rfl ?_ | refine VD.end rfl rfl rfl ?_ | refine VD.mid rfl rfl rfl ?_); refine OpV.call rfl rfl (fun _ _ => by simp) (r64_ok p ⟨l, 16, 0, 0⟩) Ent.re rfl ?_)
  intro _ _
  rw [g16.1, g16.2.2]
  dsimp only
  (refine w ?_; repeat ((first | refine VO.step rfl rfl ?_ | refine VD.end rfl rfl rfl ?_ | refine VD.mid rfl rfl rfl ?_); refine OpV.box rfl rfl rfl ?_; intro _; refine w ?_))
  (first | refine VO.step rfl rfl ?_ | refine VD.end rfl rfl rfl ?_ | refine VD.mid rfl rfl rfl ?_)
  refine OpV.call rfl rfl hg1 (rest p) Ent.re rfl ?_
  intro _ _
  (refine w ?_; repeat ((first | refine VO.step rfl rfl ?_ | refine VD.end rfl rfl rfl ?_ | refine VD.mid rfl rfl rfl ?_); refine OpV.box rfl rfl rfl ?_; intro _; refine w ?_))
  (first | refine VO.step rfl rfl ?_ | refine VD.end rfl rfl rfl ?_ | refine VD.mid rfl rfl rfl ?_)
  refine OpV.call rfl rfl hg2 again Ent.re rfl ?_
  rintro ⟨xa, xc⟩ -
  refine VO.know (p := xa = none → C.length = 0) (fun w hw => hw.ownNone (.head _)) ?_
  intro hxn
  (refine w ?_; repeat ((first | refine VO.step rfl rfl ?_ | refine VD.end rfl rfl rfl ?_ | refine VD.mid rfl rfl rfl ?_); refine OpV.box rfl rfl rfl ?_; intro _; refine w ?_))
  ((first | refine VO.split rfl rfl rfl ?_ ?_ | refine VD.split rfl rfl rfl ?_ ?_) <;> intro hb)
  · have hb : eC ≠ 0 := by simpa using hb
    (refine w ?_; repeat ((first | refine VO.step rfl rfl ?_ | refine VD.end rfl rfl rfl ?_ | refine VD.mid rfl rfl rfl ?_); refine OpV.box rfl rfl rfl ?_; intro _; refine w ?_))
    (refine VE.done1 rfl ?_ ?_)
    · rw [if_neg (fun h => hb h.1)]
    · exact Ent.re
  have hb : eC = 0 := by simpa using hb
  (refine w ?_; repeat ((first | refine VO.step rfl rfl ?_ | refine VD.end rfl rfl rfl ?_ | refine VD.mid rfl rfl rfl ?_); refine OpV.box rfl rfl rfl ?_; intro _; refine w ?_))
  ((first | refine VO.step rfl rfl ?_ | refine VD.end rfl rfl rfl ?_ | refine VD.mid rfl rfl rfl ?_); refine OpV.call rfl rfl (fun _ _ => by simp) (equal_ok (hr1.ent (Ent.drop Ent.refl)) (own_rds (x := (xa, xc)) hxn (.head _))) Ent.refl rfl ?_)
  intro _ _
  (refine w ?_; repeat ((first | refine VO.step rfl rfl ?_ | refine VD.end rfl rfl rfl ?_ | refine VD.mid rfl rfl rfl ?_); refine OpV.box rfl rfl rfl ?_; intro _; refine w ?_))
  (refine VC.cond rfl rfl ?_ ?_ <;> intro hc)
  · have hne : ¬ C = l := by have hc := hc; simp at hc; exact fun h => hc h.symm
    (refine w ?_; repeat ((first | refine VO.step rfl rfl ?_ | refine VD.end rfl rfl rfl ?_ | refine VD.mid rfl rfl rfl ?_); refine OpV.box rfl rfl rfl ?_; intro _; refine w ?_))
    (refine VE.done1 rfl ?_ ?_)
    · rw [if_neg (fun h => hne h.2)]
    · exact Ent.re
  · have he : C = l := by have hc := hc; simp at hc; exact hc.symm
    (refine w ?_; repeat ((first | refine VO.step rfl rfl ?_ | refine VD.end rfl rfl rfl ?_ | refine VD.mid rfl rfl rfl ?_); refine OpV.box rfl rfl rfl ?_; intro _; refine w ?_))
    (refine VE.done1 rfl ?_ ?_)
    · rw [if_pos ⟨hb, he⟩]
    · exact Ent.re

theorem hdr2_ok {W : World} {R : List SProp} (h : HdrD) (hf : h.fit) (hb : Nat) :
    Does W Try.prog 99 [.pointer (some ⟨hb, 0, none⟩)] (Row hb 90 h.cells :: R) (β := Option Addr × Nat) (fun _ => True) (fun x => .tuple #[.slice x.1 h.enc.2.length x.2, .int .u16 h.enc.1]) (fun x => OwnB x h.enc.2 :: Row hb 90 h.cells :: R) := by
  (refine Does.enter Try.func99 Try.ntmps99 rfl rfl ?_)
  (refine w ?_; repeat ((first | refine VO.step rfl rfl ?_ | refine VD.end rfl rfl rfl ?_ | refine VD.mid rfl rfl rfl ?_); refine OpV.box rfl rfl rfl ?_; intro _; refine w ?_))
  ((first | refine VO.step rfl rfl ?_ | refine VD.end rfl rfl rfl ?_ | refine VD.mid rfl rfl rfl ?_); refine OpV.call rfl rfl (fun _ _ => by simp) (ench_ok h hf) Ent.re rfl ?_)
  rintro ⟨a1, c1⟩ -
  (refine w ?_; repeat ((first | refine VO.step rfl rfl ?_ | refine VD.end rfl rfl rfl ?_ | refine VD.mid rfl rfl rfl ?_); refine OpV.box rfl rfl rfl ?_; intro _; refine w ?_))
  exact VE.done (a1, c1) rfl trivial rfl Ent.re

theorem cmt2_ok {W : World} {R : List SProp} (h : CmtD) (hf : h.fit) (hb : Nat) :
    Does W Try.prog 97 [.pointer (some ⟨hb, 0, none⟩)] (Row hb 95 h.cells :: R) (β := Option Addr × Nat) (fun _ => True) (fun x => .tuple #[.slice x.1 h.enc.2.length x.2, .int .u16 h.enc.1]) (fun x => OwnB x h.enc.2 :: Row hb 95 h.cells :: R) := by
  (refine Does.enter Try.func97 Try.ntmps97 rfl rfl ?_)
  (refine w ?_; repeat ((first | refine VO.step rfl rfl ?_ | refine VD.end rfl rfl rfl ?_ | refine VD.mid rfl rfl rfl ?_); refine OpV.box rfl rfl rfl ?_; intro _; refine w ?_))
  ((first | refine VO.step rfl rfl ?_ | refine VD.end rfl rfl rfl ?_ | refine VD.mid rfl rfl rfl ?_); refine OpV.call rfl rfl (fun _ _ => by simp) (encc_ok h hf) Ent.re rfl ?_)
  rintro ⟨a1, c1⟩ -
  (refine w ?_; repeat ((first | refine VO.step rfl rfl ?_ | refine VD.end rfl rfl rfl ?_ | refine VD.mid rfl rfl rfl ?_); refine OpV.box rfl rfl rfl ?_; intro _; refine w ?_))
  exact VE.done (a1, c1) rfl trivial rfl Ent.re

theorem cmtR_ok {W : World} {R : List SProp} {l : List UInt8} (hl : l.length = 128) (p hb : Nat) :
    Does1 W Try.prog 95 [.pointer (some ⟨p, 0, none⟩), .int .u64 (numAt l 8 8 : Nat), .int .u64 (numAt l 16 8 : Nat), .pointer (some ⟨hb, 0, none⟩)] (ReaderR p ⟨l, 24, 0, 0⟩ :: Row hb 95 zeroC.cells :: R) (.tuple #[]) (Row hb 95 (CmtD.parse l).cells :: R) := by
  have g24 := Rk.got_good (k := ⟨l, 24, 0, 0⟩) (n := 4) rfl (by simp only; omega)
  have g28 := Rk.got_good (k := ⟨l, 28, 0, 0⟩) (n := 4) rfl (by simp only; omega)
  have hlt := numAt_lt l
  (refine Does.enter Try.func95 Try.ntmps95 rfl rfl ?_)
  (refine w ?_; repeat ((first | refine VO.step rfl rfl ?_ | refine VD.end rfl rfl rfl ?_ | refine VD.mid rfl rfl rfl ?_); refine OpV.box rfl rfl rfl ?_; intro _; refine w ?_))
  (((first | refine VO.step rfl rfl ?_ | refine VD.end rfl rfl rfl ?_ | refine VD.mid rfl rfl rfl ?_); refine OpV.call rfl rfl (fun _ _ => by simp) (r32_ok p ⟨l, 24, 0, 0⟩) Ent.re rfl ?_); intro _ _)
  rw [g24.1, g24.2.2]
  dsimp only
  (refine w ?_; repeat ((first | refine VO.step rfl rfl ?_ | refine VD.end rfl rfl rfl ?_ | refine VD.mid rfl rfl rfl ?_); refine OpV.box rfl rfl rfl ?_; intro _; refine w ?_))
  refine VO.re 11 (.int .i64 (CmtD.parse l).count) rfl (by rw [show leVal (List.take 4 (List.drop 24 l)) = numAt l 24 4 from rfl, i64_nat (hlt 24 4)]; rfl) ?_
  (((first | refine VO.step rfl rfl ?_ | refine VD.end rfl rfl rfl ?_ | refine VD.mid rfl rfl rfl ?_); refine OpV.call rfl rfl (fun _ _ => by simp) (r32_ok p ⟨l, 28, 0, 0⟩) Ent.re rfl ?_); intro _ _)
  rw [g28.1, g28.2.2]
  dsimp only
  (refine w ?_; repeat ((first | refine VO.step rfl rfl ?_ | refine VD.end rfl rfl rfl ?_ | refine VD.mid rfl rfl rfl ?_); refine OpV.box rfl rfl rfl ?_; intro _; refine w ?_))
  (apply VO.pure rfl rfl; apply PureAt.build sb_95 rfl; (simp [buildX, setL, Value.cells]; rfl); rfl)
  (first | refine VO.step rfl rfl ?_ | refine VD.end rfl rfl rfl ?_ | refine VD.mid rfl rfl rfl ?_)
  refine OpV.stA (vs := (CmtD.parse l).cells) tab_ok rfl rfl rfl rfl (cmt_one _) (by (repeat first | exact .head | apply Hole.tail)) (by simp) ?_
  (refine w ?_; repeat ((first | refine VO.step rfl rfl ?_ | refine VD.end rfl rfl rfl ?_ | refine VD.mid rfl rfl rfl ?_); refine OpV.box rfl rfl rfl ?_; intro _; refine w ?_))
  (refine VE.done1N rfl rfl ?_)
  exact Ent.re (L := Row hb 95 (CmtD.parse l).cells :: R)
end Go.Proofs.Ytlojjlbngnaphaa
