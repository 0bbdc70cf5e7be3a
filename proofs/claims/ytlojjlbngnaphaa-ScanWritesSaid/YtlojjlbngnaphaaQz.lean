/- Lists of structs that somebody owns. -/
import Derived.Test.YtlojjlbngnaphaaBk
import Derived.Test.YtlojjlbngnaphaaNa
set_option maxRecDepth 8000
set_option linter.unusedVariables false
set_option linter.unusedSimpArgs false
set_option linter.unusedSectionVars false
namespace Go.Proofs.Ytlojjlbngnaphaa
open Go.RowKit Go.Sl
attribute [local irreducible] Own

structure ListN where
  ao : Option Addr
  cap : Nat
  n : Nat
  xs : List Value
abbrev ListN.hdr (e : ListN) : Value := .slice e.ao e.n e.cap
theorem ListN.hdrs_one (l : List ListN) : ∀ u ∈ l.map ListN.hdr, u.oneCell' = true := by
  intro u hu; obtain ⟨e, _, rfl⟩ := List.mem_map.1 hu; rfl
end Go.Proofs.Ytlojjlbngnaphaa
