/- Superblocks and ballots: what they are, their cells, what an argument of them gives. -/
import Derived.Test.YtgkpdpoblofehaaLr
import Derived.Test.YtgkpdpoblofehaaSlm
import Derived.Test.YtgkpdpoblofehaaSln
import Derived.Test.YtgkpdpoblofehaaLd
set_option maxRecDepth 8000
set_option linter.unusedVariables false
set_option linter.unusedSimpArgs false
set_option linter.unusedSectionVars false
namespace Go.Proofs.Ytgkpdpoblofehaa
open Go.RowKit Go.Sl
attribute [local irreducible] Own

structure SuperD where
  id : Nat
  events : Nat
  safe : Nat
  role : Int
  members : Int
  chunk : Int
  stripes : Int
  ring : Int
  lazy : Bool
  lost : Bool
  so : Option Addr
  sc : Nat
  states : List UInt8
  cursor : Int
abbrev SuperD.cells (s : SuperD) : List Value := [.int .u64 s.id, .int .u64 s.events, .int .u64 s.safe, .int .i64 s.role, .int .i64 s.members, .int .i64 s.chunk, .int .i64 s.stripes, .int .i64 s.ring, .bool s.lazy, .bool s.lost, .slice s.so s.states.length s.sc, .int .i64 s.cursor]
/-- In range, as numbers of their kinds are. -/
structure SuperD.fit (s : SuperD) : Prop where
  id : s.id < 18446744073709551616
  events : s.events < 18446744073709551616
  safe : s.safe < 18446744073709551616
  role : -9223372036854775808 ≤ s.role ∧ s.role ≤ 9223372036854775807
  members : -9223372036854775808 ≤ s.members ∧ s.members ≤ 9223372036854775807
  chunk : -9223372036854775808 ≤ s.chunk ∧ s.chunk ≤ 9223372036854775807
  stripes : -9223372036854775808 ≤ s.stripes ∧ s.stripes ≤ 9223372036854775807
  ring : -9223372036854775808 ≤ s.ring ∧ s.ring ≤ 9223372036854775807
  cursor : -9223372036854775808 ≤ s.cursor ∧ s.cursor ≤ 9223372036854775807
  len : s.states.length ≤ 140737488351232
  cap : s.states.length ≤ s.sc
theorem super_one (s : SuperD) : ∀ u ∈ s.cells, u.oneCell' = true := by
  intro u hu; simp only [SuperD.cells, List.mem_cons, List.not_mem_nil, or_false] at hu
  rcases hu with h | h | h | h | h | h | h | h | h | h | h | h <;> subst h <;> rfl
structure BalD where
  has : Bool
  s : SuperD
abbrev BalD.cells (b : BalD) : List Value := .bool b.has :: b.s.cells
theorem bal_one (b : BalD) : ∀ u ∈ b.cells, u.oneCell' = true := by
  intro u hu; rcases List.mem_cons.1 hu with h | h
  · subst h; rfl
  · exact super_one _ u h
def balCells (l : List BalD) : List Value := l.flatMap BalD.cells
theorem bal_get (l : List BalD) (j i : Nat) (h : j < l.length) (hi : i < 13) : (balCells l)[j * 13 + i]? = (l[j].cells)[i]? := flat_at l j i h (fun _ _ => rfl) hi
/-- Ballots that can be read, their states with them. -/
structure Bals (W : World) (R : List SProp) (ao : Option Addr) (l : List BalD) : Prop where
  rds : Rds W R 13 ao l.length (balCells l)
  st : ∀ b ∈ l, Rds W R 1 b.s.so b.s.states.length (bytes b.s.states)
  fit : ∀ b ∈ l, b.s.fit
theorem Bals.ent {W : World} {H R : List SProp} {ao : Option Addr} {l : List BalD} (h : Bals W R ao l) (e : Ent W H R) : Bals W H ao l := ⟨h.rds.ent e, fun b hb => (h.st b hb).ent e, h.fit⟩
end Go.Proofs.Ytgkpdpoblofehaa
