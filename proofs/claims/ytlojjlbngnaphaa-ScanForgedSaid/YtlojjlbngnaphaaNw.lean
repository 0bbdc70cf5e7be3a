/- ScanForged: what its law's frame imports. -/
import Derived.Test.YtlojjlbngnaphaaNr
import Derived.Test.YtlojjlbngnaphaaNv
namespace Go.Proofs.Ytlojjlbngnaphaa
theorem nw_true : True := trivial
end Go.Proofs.Ytlojjlbngnaphaa
