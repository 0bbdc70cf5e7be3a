/- The program's EncodeHeader, EncodeCommit, EncodeCheck. -/
import Derived.Test.YtgkpdpoblofehaaGreatEh
import Derived.Test.YtgkpdpoblofehaaGreatLp
import Derived.Test.YtgkpdpoblofehaaGreatLs
set_option maxRecDepth 8000
set_option linter.unusedVariables false
set_option linter.unusedSimpArgs false
set_option linter.unusedSectionVars false
namespace Go.Proofs.YtgkpdpoblofehaaGreat
open Go.RowKit Go.Sl
attribute [local irreducible] Own

/-- Bytes that are read wherever they lie. -/
theorem rawR_ok {W : World} {R : List SProp} {ao : Option Addr} {cap n : Nat} {l : List UInt8} (p : Nat) (k : Pk) (hb : Rds W R 1 ao n (bytes l)) :
    Does1 W Tryz.prog 48 [.pointer (some ⟨p, 0, none⟩), .slice ao n cap] (PackerR p k :: R) (.tuple #[]) (PackerR p (k.raw l) :: R) := by
  have hl : l.length = n := by have := hb.len; simpa using this
  subst hl
  (refine Does.enter Tryz.func48 Tryz.ntmps48 rfl rfl ?_)
  refine VC.know (fun w => PackerR.know) ?_
  intro ⟨h1, h2, h3⟩
  (refine w ?_; repeat ((first | refine VO.step rfl rfl ?_ | refine VD.end rfl rfl rfl ?_ | refine VD.mid rfl rfl rfl ?_); refine OpV.box rfl rfl rfl ?_; intro _; refine w ?_))
  (((first | refine VO.step rfl rfl ?_ | refine VD.end rfl rfl rfl ?_ | refine VD.mid rfl rfl rfl ?_); refine OpV.call rfl rfl (fun _ _ => by simp) (room_ok p k l.length) Ent.re rfl ?_); intro _ _)
  (refine w ?_; repeat ((first | refine VO.step rfl rfl ?_ | refine VD.end rfl rfl rfl ?_ | refine VD.mid rfl rfl rfl ?_); refine OpV.box rfl rfl rfl ?_; intro _; refine w ?_))
  (refine VC.cond rfl rfl ?_ ?_ <;> intro hc)
  · have hr : (k.room l.length).bad = 0 := by simpa using hc
    obtain ⟨e1, e2, e3⟩ := Pk.room_zero hr
    rw [e1]
    refine VC.obtain (fun w => PackerR.open) ?_
    rintro ⟨⟨ao, cap⟩, -⟩
    (refine w ?_; repeat ((first | refine VO.step rfl rfl ?_ | refine VD.end rfl rfl rfl ?_ | refine VD.mid rfl rfl rfl ?_); refine OpV.box rfl rfl rfl ?_; intro _; refine w ?_))
    (first | refine VO.step rfl rfl ?_ | refine VD.end rfl rfl rfl ?_ | refine VD.mid rfl rfl rfl ?_)
    refine OpV.append st_32 rfl rfl (by (repeat first | exact .head | apply Hole.tail)) (fun w hw => (hb.sees hw.tail.tail).src st_32.und) (by simp only [maxLen]; omega) (by omega) rfl ?_
    intro ao' cap'
    (refine w ?_; repeat ((first | refine VO.step rfl rfl ?_ | refine VD.end rfl rfl rfl ?_ | refine VD.mid rfl rfl rfl ?_); refine OpV.box rfl rfl rfl ?_; intro _; refine w ?_))
    (refine VE.done1N rfl rfl ?_)
    rw [show k.raw l = { k with had := k.had ++ l } by unfold Pk.raw; rw [if_pos hr]]
    exact PackerR.shut' (k := { k with had := k.had ++ l }) ⟨by simp; omega, h2, h3⟩ (by simp) (by simp [bytes])
  · have hr : ¬ (k.room l.length).bad = 0 := by simpa using hc
    (refine w ?_; repeat ((first | refine VO.step rfl rfl ?_ | refine VD.end rfl rfl rfl ?_ | refine VD.mid rfl rfl rfl ?_); refine OpV.box rfl rfl rfl ?_; intro _; refine w ?_))
    (refine VE.done1N rfl rfl ?_)
    rw [show k.raw l = k.room l.length by unfold Pk.raw; rw [if_neg hr]]
    exact Ent.refl
theorem Pk.raw_good {k : Pk} {l : List UInt8} (h1 : k.bad = 0) (h2 : k.had.length + l.length ≤ k.size) : k.raw l = { k with had := k.had ++ l } := by
  have e : k.room l.length = k := by unfold Pk.room; rw [if_neg]; omega
  unfold Pk.raw; rw [e, if_pos h1]
theorem image_pad (k : Pk) : k.image = padTo k.size k.had := rfl

/-- What goes in behind, one number of four bytes after the other. -/
def hadH (B : List UInt8) (vs : List Nat) (i : Nat) : List UInt8 := B ++ (vs.take i).flatMap (lowBytes · 4)
theorem hadH_zero (B : List UInt8) (vs : List Nat) : hadH B vs 0 = B := by simp [hadH]
theorem hadH_succ (B : List UInt8) (vs : List Nat) (i : Nat) (h : i < vs.length) : hadH B vs (i + 1) = hadH B vs i ++ lowBytes vs[i] 4 := by
  unfold hadH; rw [List.take_succ_eq_append_getElem h, List.flatMap_append, ← List.append_assoc, List.flatMap_cons, List.flatMap_nil, List.append_nil]
theorem low_flat_length (vs : List Nat) : (vs.flatMap (lowBytes · 4)).length = 4 * vs.length := by
  induction vs with
  | nil => rfl
  | cons v r ih => rw [List.flatMap_cons, List.length_append, lowBytes_length, ih, List.length_cons]; omega
theorem hadH_length (B : List UInt8) (vs : List Nat) (i : Nat) (h : i ≤ vs.length) : (hadH B vs i).length = B.length + 4 * i := by
  unfold hadH; rw [List.length_append, low_flat_length, List.length_take, Nat.min_eq_left h]
end Go.Proofs.YtgkpdpoblofehaaGreat
