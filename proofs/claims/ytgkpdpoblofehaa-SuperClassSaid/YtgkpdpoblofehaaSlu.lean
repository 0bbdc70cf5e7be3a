/- The engine: places that are told by a number that stands in the program's text. Generic: no program is named. -/
import Derived.Test.YtgkpdpoblofehaaSlh
set_option maxRecDepth 8000
set_option linter.unusedVariables false
namespace Go.Sl
open Go Go.RowKit
section
variable {W : World} {P : Program} {n : Nat} {H : List SProp} {f : Fr} {dst : Option Tmp} {ty_ : TypeId} {pos : String} {after : Array Edge} {guard : Option (Nat × Bool)}
theorem toNatLit (n : Nat) : (@OfNat.ofNat Int n instOfNat).toNat = @OfNat.ofNat Nat n (instOfNatNat n) := rfl
theorem toNat_cast {j : Int} {jn : Nat} (hn : j.toNat = jn) (h0 : 0 ≤ j) : j = (jn : Int) := by omega
theorem PureAt.indexAddrI {T : TabData} {x y : Operand} {t e : TypeId} {k : IntKind} {a : Addr} {m cap jn : Nat} {j : Int} (hT : T.ok P = true) (hx : evalX f x = some (.slice (some a) m cap)) (hy : evalX f y = some (.int k j)) (ht : assoc T.sls t = some e)
    (hl : assoc T.leaf e = some ()) (hn : j.toNat = jn) (h0 : 0 ≤ j) (hj : jn < m) : PureAt W P n H f { dst, op := .indexAddr t x y, type := ty_, pos, after, guard } (.pointer (some (a.add jn))) := by
  rw [toNat_cast hn h0] at hy
  exact .indexAddr hT hx hy ht hl hj
theorem PureAt.indexAddrNI {T : TabData} {x y : Operand} {t e sz : TypeId} {k : IntKind} {a : Addr} {m cap jn : Nat} {j : Int} (hT : T.ok P = true) (hx : evalX f x = some (.slice (some a) m cap)) (hy : evalX f y = some (.int k j)) (ht : assoc T.sls t = some e)
    (hl : assoc T.aggs e = some sz) (hn : j.toNat = jn) (h0 : 0 ≤ j) (hj : jn < m) : PureAt W P n H f { dst, op := .indexAddr t x y, type := ty_, pos, after, guard } (.pointer (some (a.add (jn * sz)))) := by
  rw [toNat_cast hn h0] at hy
  exact .indexAddrN hT hx hy ht hl hj
theorem PureAt.sliceHI {T : TabData} {x z : Operand} {t sz : TypeId} {ao : Option Addr} {m cap hn : Nat} {h : Int} {k' : IntKind} (hT : T.ok P = true) (hx : evalX f x = some (.slice ao m cap)) (hz : evalX f z = some (.int k' h))
    (ht : T.esz t = some sz) (hh : h.toNat = hn) (h0 : 0 ≤ h) (h2 : hn ≤ cap) : PureAt W P n H f { dst, op := .slice t x none (some z) none, type := ty_, pos, after, guard } (.slice ao hn cap) := by
  rw [toNat_cast hh h0] at hz
  exact .sliceH hT hx hz ht h2
theorem PureAt.sliceLI {T : TabData} {x y : Operand} {t sz : TypeId} {ao : Option Addr} {m cap ln : Nat} {l : Int} {k : IntKind} (hT : T.ok P = true) (hx : evalX f x = some (.slice ao m cap)) (hy : evalX f y = some (.int k l))
    (ht : T.esz t = some sz) (hh : l.toNat = ln) (h0 : 0 ≤ l) (h1 : ln ≤ m) : PureAt W P n H f { dst, op := .slice t x (some y) none none, type := ty_, pos, after, guard } (.slice (subA ao cap ln sz) (m - ln) (cap - ln)) := by
  rw [toNat_cast hh h0] at hy
  exact .sliceL hT hx hy ht h1
end
end Go.Sl
