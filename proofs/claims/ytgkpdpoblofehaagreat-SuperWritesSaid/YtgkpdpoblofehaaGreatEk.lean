/- The program's read, DecodeHeader, DecodeCommit, DecodeCheck. -/
import Derived.Test.YtgkpdpoblofehaaGreatEi
import Derived.Test.YtgkpdpoblofehaaGreatEj
set_option maxRecDepth 8000
set_option linter.unusedVariables false
set_option linter.unusedSimpArgs false
set_option linter.unusedSectionVars false
namespace Go.Proofs.YtgkpdpoblofehaaGreat
open Go.RowKit Go.Sl
attribute [local irreducible] Own

theorem equal_ok {W : World} {R : List SProp} {ao ao' : Option Addr} {cap cap' : Nat} {a b : List UInt8} (ha : Rds W R 1 ao a.length (bytes a)) (hb : Rds W R 1 ao' b.length (bytes b)) :
    Does1 W Tryz.prog 87 [.slice ao a.length cap, .slice ao' b.length cap'] R (.bool (decide (a = b))) R := by
  (refine Does.enter Tryz.func87 Tryz.ntmps87 rfl rfl ?_)
  (refine w ?_; repeat ((first | refine VO.step rfl rfl ?_ | refine VD.end rfl rfl rfl ?_ | refine VD.mid rfl rfl rfl ?_); refine OpV.box rfl rfl rfl ?_; intro _; refine w ?_))
  (first | refine VO.pure rfl rfl (PureAt.toStr (l := a) tab_ok rfl rfl rfl rfl ha rfl) rfl ?_ | refine VD.take rfl rfl rfl (PureAt.toStr (l := a) tab_ok rfl rfl rfl rfl ha rfl) rfl ?_ | refine VQ.pure rfl rfl (PureAt.toStr (l := a) tab_ok rfl rfl rfl rfl ha rfl) rfl ?_ | refine VD.end rfl rfl rfl (OpV.pure (PureAt.toStr (l := a) tab_ok rfl rfl rfl rfl ha rfl) rfl ?_))
  (refine w ?_; repeat ((first | refine VO.step rfl rfl ?_ | refine VD.end rfl rfl rfl ?_ | refine VD.mid rfl rfl rfl ?_); refine OpV.box rfl rfl rfl ?_; intro _; refine w ?_))
  (first | refine VO.pure rfl rfl (PureAt.toStr (l := b) tab_ok rfl rfl rfl rfl hb rfl) rfl ?_ | refine VD.take rfl rfl rfl (PureAt.toStr (l := b) tab_ok rfl rfl rfl rfl hb rfl) rfl ?_ | refine VQ.pure rfl rfl (PureAt.toStr (l := b) tab_ok rfl rfl rfl rfl hb rfl) rfl ?_ | refine VD.end rfl rfl rfl (OpV.pure (PureAt.toStr (l := b) tab_ok rfl rfl rfl rfl hb rfl) rfl ?_))
  (first | refine VO.pure rfl rfl (PureAt.strEq tab_ok rfl rfl rfl rfl) rfl ?_ | refine VD.take rfl rfl rfl (PureAt.strEq tab_ok rfl rfl rfl rfl) rfl ?_ | refine VQ.pure rfl rfl (PureAt.strEq tab_ok rfl rfl rfl rfl) rfl ?_ | refine VD.end rfl rfl rfl (OpV.pure (PureAt.strEq tab_ok rfl rfl rfl rfl) rfl ?_))
  (refine w ?_; repeat ((first | refine VO.step rfl rfl ?_ | refine VD.end rfl rfl rfl ?_ | refine VD.mid rfl rfl rfl ?_); refine OpV.box rfl rfl rfl ?_; intro _; refine w ?_))
  (refine VE.done1 rfl ?_ ?_)
  · rfl
  · exact Ent.refl
end Go.Proofs.YtgkpdpoblofehaaGreat
