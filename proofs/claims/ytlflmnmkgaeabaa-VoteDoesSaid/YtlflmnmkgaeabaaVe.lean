/- Package vote: Choose's question, members' question. -/
import Derived.Test.YtlflmnmkgaeabaaVd
import Derived.Test.YtlflmnmkgaeabaaSlq
set_option maxRecDepth 8000
set_option linter.unusedVariables false
set_option linter.unusedSimpArgs false
set_option linter.unusedSectionVars false
namespace Go.Proofs.Ytlflmnmkgaeabaa
open Go.RowKit Go.Sl
attribute [local irreducible] Own

theorem choose1_ok {W : World} {R : List SProp} {a : Addr} {cap bx : Nat} {l : List SuperD} (s : SuperD) (h0 : 0 < l.length) (hs : s.fit) (hl : l[0].fit) (hr : Rds W R 12 (some a) l.length (supCells l)) (hm : Row bx 69 [.slice (some a) l.length cap] ∈ R) :
    Does1 W Try.prog 24 [.agg s.cells.toArray, .pointer (some ⟨bx, 0, none⟩)] R (.bool (!s.akin l[0])) R := by
  (refine Does.enter Try.func24 Try.ntmps24 rfl rfl ?_)
  (refine w ?_; repeat ((first | refine VO.step rfl rfl ?_ | refine VD.end rfl rfl rfl ?_ | refine VD.mid rfl rfl rfl ?_); refine OpV.box rfl rfl rfl ?_; intro _; refine w ?_))
  (refine VC.drawn [] 4 [0, 1, 2, 3, 4, 5, 6] _ rfl (by kernel_rfl) (by kernel_rfl) Ent.re ?_)
  (refine w ?_; repeat ((first | refine VO.step rfl rfl ?_ | refine VD.end rfl rfl rfl ?_ | refine VD.mid rfl rfl rfl ?_); refine OpV.box rfl rfl rfl ?_; intro _; refine w ?_))
  (first | refine VO.pure rfl rfl (PureAt.ld tab_ok rfl rfl (.tail _ hm) rfl) rfl ?_ | refine VD.take rfl rfl rfl (PureAt.ld tab_ok rfl rfl (.tail _ hm) rfl) rfl ?_ | refine VQ.pure rfl rfl (PureAt.ld tab_ok rfl rfl (.tail _ hm) rfl) rfl ?_ | refine VD.end rfl rfl rfl (OpV.pure (PureAt.ld tab_ok rfl rfl (.tail _ hm) rfl) rfl ?_))
  (refine w ?_; repeat ((first | refine VO.step rfl rfl ?_ | refine VD.end rfl rfl rfl ?_ | refine VD.mid rfl rfl rfl ?_); refine OpV.box rfl rfl rfl ?_; intro _; refine w ?_))
  (first | refine VO.pure rfl rfl (.ldRA tab_ok rfl rfl (hr.ent (Ent.drop Ent.refl)) (sup_part l 0 h0) rfl) rfl ?_ | refine VD.take rfl rfl rfl (.ldRA tab_ok rfl rfl (hr.ent (Ent.drop Ent.refl)) (sup_part l 0 h0) rfl) rfl ?_ | refine VQ.pure rfl rfl (.ldRA tab_ok rfl rfl (hr.ent (Ent.drop Ent.refl)) (sup_part l 0 h0) rfl) rfl ?_ | refine VD.end rfl rfl rfl (OpV.pure (.ldRA tab_ok rfl rfl (hr.ent (Ent.drop Ent.refl)) (sup_part l 0 h0) rfl) rfl ?_))
  (refine w ?_; repeat ((first | refine VO.step rfl rfl ?_ | refine VD.end rfl rfl rfl ?_ | refine VD.mid rfl rfl rfl ?_); refine OpV.box rfl rfl rfl ?_; intro _; refine w ?_))
  ((first | refine VO.step rfl rfl ?_ | refine VD.end rfl rfl rfl ?_ | refine VD.mid rfl rfl rfl ?_); refine OpV.call rfl rfl (fun _ _ => by simp) (akin_ok s l[0] hs hl) Ent.refl rfl ?_; intro _ _)
  (refine w ?_; repeat ((first | refine VO.step rfl rfl ?_ | refine VD.end rfl rfl rfl ?_ | refine VD.mid rfl rfl rfl ?_); refine OpV.box rfl rfl rfl ?_; intro _; refine w ?_))
  (refine VE.done1 rfl ?_ ?_)
  · rfl
  · exact Ent.drop Ent.refl
theorem members1_ok {W : World} {R : List SProp} {bx : Nat} {e : Nat} (s : SuperD) (hs : s.fit) (hm : Row bx 25 [.int .u64 e] ∈ R) :
    Does1 W Try.prog 54 [.agg s.cells.toArray, .pointer (some ⟨bx, 0, none⟩)] R (.bool (!decide (s.events = e))) R := by
  (refine Does.enter Try.func54 Try.ntmps54 rfl rfl ?_)
  (refine w ?_; repeat ((first | refine VO.step rfl rfl ?_ | refine VD.end rfl rfl rfl ?_ | refine VD.mid rfl rfl rfl ?_); refine OpV.box rfl rfl rfl ?_; intro _; refine w ?_))
  (first | refine VO.pure rfl rfl (PureAt.ld tab_ok rfl rfl (.tail _ hm) rfl) rfl ?_ | refine VD.take rfl rfl rfl (PureAt.ld tab_ok rfl rfl (.tail _ hm) rfl) rfl ?_ | refine VQ.pure rfl rfl (PureAt.ld tab_ok rfl rfl (.tail _ hm) rfl) rfl ?_ | refine VD.end rfl rfl rfl (OpV.pure (PureAt.ld tab_ok rfl rfl (.tail _ hm) rfl) rfl ?_))
  (refine w ?_; repeat ((first | refine VO.step rfl rfl ?_ | refine VD.end rfl rfl rfl ?_ | refine VD.mid rfl rfl rfl ?_); refine OpV.box rfl rfl rfl ?_; intro _; refine w ?_))
  (refine VE.done1 rfl ?_ ?_)
  · congr 1
    by_cases h : s.events = e
    · simp [h]
    · have h2 : ¬ (s.events : Int) = (e : Int) := by omega
      simp [h, h2]
  · exact Ent.drop Ent.refl
end Go.Proofs.Ytlflmnmkgaeabaa
