/- Scan: arguments. -/
import Derived.Test.YtlojjlbngnaphaaNj
import Derived.Test.YtlojjlbngnaphaaEp
namespace Go.Proofs.Ytlojjlbngnaphaa
theorem nk_true : True := trivial
end Go.Proofs.Ytlojjlbngnaphaa
