/- The document's record: get. -/
import Derived.Test.YtgkpdpoblofehaaGreatEc
set_option maxRecDepth 8000
set_option linter.unusedVariables false
set_option linter.unusedSimpArgs false
set_option linter.unusedSectionVars false
namespace Go.Proofs.YtgkpdpoblofehaaGreat
open Go.RowKit Go.Sl
attribute [local irreducible] Own

theorem drop_step (l : List UInt8) (e j : Nat) (h : j < e) (he : e ≤ l.length) :
    (l.drop (e - (j + 1))).take (j + 1) = l[e - (j + 1)]'(by omega) :: (l.drop (e - j)).take j := by
  rw [List.drop_eq_getElem_cons (by omega), List.take_succ_cons, show e - (j + 1) + 1 = e - j by omega]
end Go.Proofs.YtgkpdpoblofehaaGreat
