/- The document's record: begun, ended. -/
import Derived.Test.YtlojjlbngnaphaaEd
set_option maxRecDepth 8000
set_option linter.unusedVariables false
set_option linter.unusedSimpArgs false
set_option linter.unusedSectionVars false
namespace Go.Proofs.Ytlojjlbngnaphaa
open Go.RowKit Go.Sl
attribute [local irreducible] Own

theorem begun_ok {W : World} {R : List SProp} (k e s : Nat) (hk : k < 2 ^ 63) (he : e < 2 ^ 64) (hs : s < 2 ^ 64) :
    Does W Try.prog 72 [.int .i64 k, .int .u64 e, .int .u64 s] R (β := Option Addr × Nat) (fun _ => True)
      (fun x => .slice x.1 (begunL k e s).length x.2) (fun x => Own 5 1 (.slice x.1 (begunL k e s).length x.2) (begunL k e s).length (bytes (begunL k e s)) :: R) := by
  (refine Does.enter Try.func72 Try.ntmps72 rfl rfl ?_)
  refine VC.ent (fun w hw => hw.ownNil 5 1) ?_
  (refine w ?_; repeat ((first | refine VO.step rfl rfl ?_ | refine VD.end rfl rfl rfl ?_ | refine VD.mid rfl rfl rfl ?_); refine OpV.box rfl rfl rfl ?_; intro _; refine w ?_))
  (first | refine VO.step rfl rfl ?_ | refine VD.end rfl rfl rfl ?_ | refine VD.mid rfl rfl rfl ?_)
  refine OpV.append (news := bytes magicL) (m := 4) st_55 rfl rfl (by (repeat first | exact .head | apply Hole.tail)) (fun w hw => Src.ofString w (TabData.string_ok tab_ok rfl) _) (by decide) (by decide) rfl ?_
  intro a1 c1
  rw [show (0 + 4 : Nat) = magicL.length from rfl, List.nil_append]
  (refine w ?_; repeat ((first | refine VO.step rfl rfl ?_ | refine VD.end rfl rfl rfl ?_ | refine VD.mid rfl rfl rfl ?_); refine OpV.box rfl rfl rfl ?_; intro _; refine w ?_))
  refine VO.re 12 (.int .u64 k) rfl (by rw [wrap64_of (by omega)]) ?_
  ((first | refine VO.step rfl rfl ?_ | refine VD.end rfl rfl rfl ?_ | refine VD.mid rfl rfl rfl ?_); refine OpV.call rfl rfl (fun _ _ => by simp) (put_ok magicL k 4 (by decide) (by decide) (by omega)) Ent.re rfl ?_)
  rintro ⟨a2, c2⟩ _
  (refine w ?_; repeat ((first | refine VO.step rfl rfl ?_ | refine VD.end rfl rfl rfl ?_ | refine VD.mid rfl rfl rfl ?_); refine OpV.box rfl rfl rfl ?_; intro _; refine w ?_))
  ((first | refine VO.step rfl rfl ?_ | refine VD.end rfl rfl rfl ?_ | refine VD.mid rfl rfl rfl ?_); refine OpV.call rfl rfl (fun _ _ => by simp) (put_ok (magicL ++ lowBytes k 4) e 8 (by simp [magicL, lowBytes_length]) (by decide) he) Ent.re rfl ?_)
  rintro ⟨a3, c3⟩ _
  (refine w ?_; repeat ((first | refine VO.step rfl rfl ?_ | refine VD.end rfl rfl rfl ?_ | refine VD.mid rfl rfl rfl ?_); refine OpV.box rfl rfl rfl ?_; intro _; refine w ?_))
  ((first | refine VO.step rfl rfl ?_ | refine VD.end rfl rfl rfl ?_ | refine VD.mid rfl rfl rfl ?_); refine OpV.call rfl rfl (fun _ _ => by simp) (put_ok (magicL ++ lowBytes k 4 ++ lowBytes e 8) s 8 (by simp [magicL, lowBytes_length]) (by decide) hs) Ent.re rfl ?_)
  rintro ⟨a4, c4⟩ _
  (refine w ?_; repeat ((first | refine VO.step rfl rfl ?_ | refine VD.end rfl rfl rfl ?_ | refine VD.mid rfl rfl rfl ?_); refine OpV.box rfl rfl rfl ?_; intro _; refine w ?_))
  exact VE.done (a4, c4) rfl trivial rfl Ent.refl
theorem ended_ok {W : World} {R : List SProp} {ao : Option Addr} {cap : Nat} (l : List UInt8) (hl : l.length ≤ 124) :
    Does W Try.prog 74 [.slice ao l.length cap] (Own 5 1 (.slice ao l.length cap) l.length (bytes l) :: R) (β := Option Addr × Nat) (fun _ => True)
      (fun x => .slice x.1 (sealS (padTo 124 l)).length x.2) (fun x => Own 5 1 (.slice x.1 (sealS (padTo 124 l)).length x.2) (sealS (padTo 124 l)).length (bytes (sealS (padTo 124 l))) :: R) := by
  (refine Does.enter Try.func74 Try.ntmps74 rfl rfl ?_)
  (refine w ?_; repeat ((first | refine VO.step rfl rfl ?_ | refine VD.end rfl rfl rfl ?_ | refine VD.mid rfl rfl rfl ?_); refine OpV.box rfl rfl rfl ?_; intro _; refine w ?_))
  refine VC.loop (α := Nat × Option Addr × Nat) (fun y => l.length + y.1 ≤ 124) (fun y => Own 5 1 (.slice y.2.1 (l ++ List.replicate y.1 0).length y.2.2) (l ++ List.replicate y.1 0).length (bytes (l ++ List.replicate y.1 0)) :: R)
    (fun y => [(0, .slice y.2.1 (l ++ List.replicate y.1 0).length y.2.2)]) (fun y => 124 - (l.length + y.1)) rfl (0, ao, cap) (by simp only; omega) (by simp only [List.replicate_zero, List.append_nil]; exact Ent.refl) ⟨asV rfl (by simp), trivial⟩ ?_
  rintro ⟨i, so, sc⟩ hi
  dsimp only at hi ⊢
  have hlen : (l ++ List.replicate i (0 : UInt8)).length = l.length + i := by rw [List.length_append, List.length_replicate]
  (refine w ?_; repeat ((first | refine VO.step rfl rfl ?_ | refine VD.end rfl rfl rfl ?_ | refine VD.mid rfl rfl rfl ?_); refine OpV.box rfl rfl rfl ?_; intro _; refine w ?_))
  (refine VC.cond rfl rfl ?_ ?_ <;> intro hc)
  · have hlt : l.length + i < 124 := by have := of_decide_eq_true hc; omega
    (refine w ?_; repeat ((first | refine VO.step rfl rfl ?_ | refine VD.end rfl rfl rfl ?_ | refine VD.mid rfl rfl rfl ?_); refine OpV.box rfl rfl rfl ?_; intro _; refine w ?_))
    ((first | refine VO.step rfl rfl ?_ | refine VD.end rfl rfl rfl ?_ | refine VD.mid rfl rfl rfl ?_); refine OpV.buildSlice1 st_55 rfl rfl (by first | (simp; done) | simp [Value.oneCell']) (by decide) rfl ?_; intro nb)
    ((first | refine VO.step rfl rfl ?_ | refine VD.end rfl rfl rfl ?_ | refine VD.mid rfl rfl rfl ?_); refine OpV.appendRow st_55 rfl rfl (by (repeat first | exact .head | apply Hole.tail)) (by (focus repeat first | exact .head _ | apply List.Mem.tail)) rfl (by first | (simp; done) | simp [Value.oneCell']) ?_ ?_ rfl ?_)
    · simp only [maxLen]; omega
    · omega
    intro so' sc'
    (refine w ?_; repeat ((first | refine VO.step rfl rfl ?_ | refine VD.end rfl rfl rfl ?_ | refine VD.mid rfl rfl rfl ?_); refine OpV.box rfl rfl rfl ?_; intro _; refine w ?_))
    refine VE.round (i + 1, so', sc') (by simp only; omega) (by simp only; omega) ⟨asV rfl ?_, trivial⟩ ?_
    · simp only; congr 1; rw [List.length_append, List.length_append, List.length_replicate, List.length_replicate]; omega
    · dsimp only
      rw [List.replicate_succ', ← List.append_assoc]
      have e1 : (l ++ List.replicate i (0 : UInt8) ++ [0]).length = (l ++ List.replicate i (0 : UInt8)).length + 1 := List.length_append
      rw [e1, bytes_append (l ++ List.replicate i (0 : UInt8))]
      exact Ent.re
  · have hge : i = 124 - l.length := by have := of_decide_eq_false hc; omega
    subst hge
    rw [show l ++ List.replicate (124 - l.length) (0 : UInt8) = padTo 124 l from rfl] at *
    have hp : (padTo 124 l).length = 124 := padTo_length hl
    (refine w ?_; repeat ((first | refine VO.step rfl rfl ?_ | refine VD.end rfl rfl rfl ?_ | refine VD.mid rfl rfl rfl ?_); refine OpV.box rfl rfl rfl ?_; intro _; refine w ?_))
    refine VO.know (fun w hw => hw.ownNone (by (focus repeat first | exact .head _ | apply List.Mem.tail)) : ∀ w, _ → (so = none → (padTo 124 l).length = 0)) ?_
    intro hnone
    ((first | refine VO.step rfl rfl ?_ | refine VD.end rfl rfl rfl ?_ | refine VD.mid rfl rfl rfl ?_); refine OpV.call rfl rfl (fun _ _ => by simp) (rsum_ok (Rds.own (bytes_one _) (.head _) (by simp) hnone) (by omega)) Ent.refl rfl ?_)
    intro _ _
    (refine w ?_; repeat ((first | refine VO.step rfl rfl ?_ | refine VD.end rfl rfl rfl ?_ | refine VD.mid rfl rfl rfl ?_); refine OpV.box rfl rfl rfl ?_; intro _; refine w ?_))
    have hcr := (crcS (padTo 124 l)).isLt
    refine VO.re 14 (.int .u64 (crcS (padTo 124 l)).toNat) rfl (by rw [wrap64_of (by omega)]) ?_
    ((first | refine VO.step rfl rfl ?_ | refine VD.end rfl rfl rfl ?_ | refine VD.mid rfl rfl rfl ?_); refine OpV.call rfl rfl (fun _ _ => by simp) (put_ok (padTo 124 l) (crcS (padTo 124 l)).toNat 4 (by omega) (by decide) (by have := (crcS (padTo 124 l)).isLt; omega)) Ent.re rfl ?_)
    rintro ⟨a4, c4⟩ _
    (refine w ?_; repeat ((first | refine VO.step rfl rfl ?_ | refine VD.end rfl rfl rfl ?_ | refine VD.mid rfl rfl rfl ?_); refine OpV.box rfl rfl rfl ?_; intro _; refine w ?_))
    exact VE.done (a4, c4) rfl trivial rfl Ent.refl
end Go.Proofs.Ytlojjlbngnaphaa
