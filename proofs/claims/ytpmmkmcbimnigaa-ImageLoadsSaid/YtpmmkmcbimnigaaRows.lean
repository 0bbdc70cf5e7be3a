/-
  No cell of these rows narrows 'for every input' (looked for: loops, veiled, ifaces, maps, wideKeys, modest, calm, conditions, laid).
  DERIVED. THE GIVEN ROWS OF THIS SEAT. 6 by the template 'for every input the law returns true; each argument reads behind the call as it read before'; 0 by the template 'total and deterministic' (their statements: YtpmmkmcbimnigaaTotals.lean).
  GIVEN WITH THE SEED: the statements are not yours to turn. If you find one false, say at which input.
  Laid BY PROGRAM, IN A SANDBOX (cutbox-rows.mjs): the forced cells as the released guide's own fill.sh prints them over the translation f0b922243370e800… (all of the seat's roots in one cut). By AI agents, Wed Nov 11 2026. No macro, syntax, notation, axiom, sorry.
-/
import Derived.Test.YtpmmkmcbimnigaaChecked
import GoSem.Claim
import GoSem.ClaimJoined
import GoSem.ClaimMapViews
import Derived.JoinedTies
import Derived.KernelRfl
namespace Go.Proofs.Ytpmmkmcbimnigaa
/- THE CELL 'sum', in the pinned program and in every row, IS THE sha256 OF THE DUMP (.gsa) THAT YtpmmkmcbimnigaaProg.lean LOADS. Nothing in Lean hashes anything: it is a label: what it is worth is what the hold of that sum in a sandbox is worth. -/
noncomputable def Try.pinned : Pinned := { name := "ytpmmkmcbimnigaa", sum := "f0b922243370e80091a3597ee07cb1adfffca46b62a22b0ee537f43c325bd92f", checked := Try.checked }
namespace Rows
def none {H : Type} : Left H := { results := [], args := [] }

/-- 'spindlelaw10.LiftDoes': WHATEVER THE INPUT: true; the input reads as it did. -/
def liftDoesSpec : ChangeSpec := { name := "liftDoes", fn := fun _ => fun
  | [d1, d2] => { results := [.lit (.bool true)], args := [d1, d2] }
  | _ => none }
def liftDoesRow : OpenClaim := { program := "ytpmmkmcbimnigaa", sum := "f0b922243370e80091a3597ee07cb1adfffca46b62a22b0ee537f43c325bd92f", func := "spindle/spindlelaw10.LiftDoes", spec := "liftDoes", unfollowed := true, recurses := true, plainKeys := false, apart := false }
def LiftDoesSaid : Prop := liftDoesRow.holds Try.pinned (OpenSpec.ofChange liftDoesSpec)

/-- ITS FALSE NEIGHBOUR: 'it returns false'. Refute it at one input. -/
def liftDoesWrong : ChangeSpec := { name := "liftDoes", fn := fun _ => fun
  | [d1, d2] => { results := [.lit (.bool false)], args := [d1, d2] }
  | _ => none }
def LiftDoesWrongFalsely : Prop := liftDoesRow.holds Try.pinned (OpenSpec.ofChange liftDoesWrong)

/-- 'spindlelaw10.LiftOrder': WHATEVER THE INPUT: true; the input reads as it did. -/
def liftOrderSpec : ChangeSpec := { name := "liftOrder", fn := fun _ => fun
  | [d1, d2] => { results := [.lit (.bool true)], args := [d1, d2] }
  | _ => none }
def liftOrderRow : OpenClaim := { program := "ytpmmkmcbimnigaa", sum := "f0b922243370e80091a3597ee07cb1adfffca46b62a22b0ee537f43c325bd92f", func := "spindle/spindlelaw10.LiftOrder", spec := "liftOrder", unfollowed := true, recurses := true, plainKeys := false, apart := false }
def LiftOrderSaid : Prop := liftOrderRow.holds Try.pinned (OpenSpec.ofChange liftOrderSpec)

/-- ITS FALSE NEIGHBOUR: 'it returns false'. Refute it at one input. -/
def liftOrderWrong : ChangeSpec := { name := "liftOrder", fn := fun _ => fun
  | [d1, d2] => { results := [.lit (.bool false)], args := [d1, d2] }
  | _ => none }
def LiftOrderWrongFalsely : Prop := liftOrderRow.holds Try.pinned (OpenSpec.ofChange liftOrderWrong)

/-- 'spindlelaw10.LiftAny': WHATEVER THE INPUT: true; the input reads as it did. -/
def liftAnySpec : ChangeSpec := { name := "liftAny", fn := fun _ => fun
  | [d1, d2] => { results := [.lit (.bool true)], args := [d1, d2] }
  | _ => none }
def liftAnyRow : OpenClaim := { program := "ytpmmkmcbimnigaa", sum := "f0b922243370e80091a3597ee07cb1adfffca46b62a22b0ee537f43c325bd92f", func := "spindle/spindlelaw10.LiftAny", spec := "liftAny", unfollowed := true, recurses := true, plainKeys := false, apart := false }
def LiftAnySaid : Prop := liftAnyRow.holds Try.pinned (OpenSpec.ofChange liftAnySpec)

/-- ITS FALSE NEIGHBOUR: 'it returns false'. Refute it at one input. -/
def liftAnyWrong : ChangeSpec := { name := "liftAny", fn := fun _ => fun
  | [d1, d2] => { results := [.lit (.bool false)], args := [d1, d2] }
  | _ => none }
def LiftAnyWrongFalsely : Prop := liftAnyRow.holds Try.pinned (OpenSpec.ofChange liftAnyWrong)

/-- 'spindlelaw10.LiftStep': WHATEVER THE INPUT: true; the input reads as it did. -/
def liftStepSpec : ChangeSpec := { name := "liftStep", fn := fun _ => fun
  | [d1, d2] => { results := [.lit (.bool true)], args := [d1, d2] }
  | _ => none }
def liftStepRow : OpenClaim := { program := "ytpmmkmcbimnigaa", sum := "f0b922243370e80091a3597ee07cb1adfffca46b62a22b0ee537f43c325bd92f", func := "spindle/spindlelaw10.LiftStep", spec := "liftStep", unfollowed := true, recurses := true, plainKeys := false, apart := false }
def LiftStepSaid : Prop := liftStepRow.holds Try.pinned (OpenSpec.ofChange liftStepSpec)

/-- ITS FALSE NEIGHBOUR: 'it returns false'. Refute it at one input. -/
def liftStepWrong : ChangeSpec := { name := "liftStep", fn := fun _ => fun
  | [d1, d2] => { results := [.lit (.bool false)], args := [d1, d2] }
  | _ => none }
def LiftStepWrongFalsely : Prop := liftStepRow.holds Try.pinned (OpenSpec.ofChange liftStepWrong)

/-- 'spindlelaw21.ImageTurned': WHATEVER THE INPUT: true; the input reads as it did. -/
def imageTurnedSpec : ChangeSpec := { name := "imageTurned", fn := fun _ => fun
  | [d1, d2, d3] => { results := [.lit (.bool true)], args := [d1, d2, d3] }
  | _ => none }
def imageTurnedRow : OpenClaim := { program := "ytpmmkmcbimnigaa", sum := "f0b922243370e80091a3597ee07cb1adfffca46b62a22b0ee537f43c325bd92f", func := "spindle/spindlelaw21.ImageTurned", spec := "imageTurned", unfollowed := true, recurses := true, plainKeys := false, apart := false }
def ImageTurnedSaid : Prop := imageTurnedRow.holds Try.pinned (OpenSpec.ofChange imageTurnedSpec)

/-- ITS FALSE NEIGHBOUR: 'it returns false'. Refute it at one input. -/
def imageTurnedWrong : ChangeSpec := { name := "imageTurned", fn := fun _ => fun
  | [d1, d2, d3] => { results := [.lit (.bool false)], args := [d1, d2, d3] }
  | _ => none }
def ImageTurnedWrongFalsely : Prop := imageTurnedRow.holds Try.pinned (OpenSpec.ofChange imageTurnedWrong)

/-- 'spindlelaw21.ImageLoads': WHATEVER THE INPUT: true; the input reads as it did. -/
def imageLoadsSpec : ChangeSpec := { name := "imageLoads", fn := fun _ => fun
  | [d] => { results := [.lit (.bool true)], args := [d] }
  | _ => none }
def imageLoadsRow : OpenClaim := { program := "ytpmmkmcbimnigaa", sum := "f0b922243370e80091a3597ee07cb1adfffca46b62a22b0ee537f43c325bd92f", func := "spindle/spindlelaw21.ImageLoads", spec := "imageLoads", unfollowed := true, recurses := true, plainKeys := false, apart := false }
def ImageLoadsSaid : Prop := imageLoadsRow.holds Try.pinned (OpenSpec.ofChange imageLoadsSpec)

/-- ITS FALSE NEIGHBOUR: 'it returns false'. Refute it at one input. -/
def imageLoadsWrong : ChangeSpec := { name := "imageLoads", fn := fun _ => fun
  | [d] => { results := [.lit (.bool false)], args := [d] }
  | _ => none }
def ImageLoadsWrongFalsely : Prop := imageLoadsRow.holds Try.pinned (OpenSpec.ofChange imageLoadsWrong)

/- THE SECOND FORM. 'bulk': how many values and letters a reading holds, each counted each time it is reached (what is shared counts as often as it is met; a slice's spare places count too). A statement '..UptoSaid' is the law's where the arguments, and the package variables that the reading takes, are together of bulk at most 1048576: NARROWER than '..Said'. Prove '..Said' where nothing that the law and all that it calls make is longer than what came in: it says more and counts as full. Else prove '..UptoSaid'. A law counts once. -/
mutual
def uptoBulk {H : Type} : DataW H → Nat
  | .lit (.string bytes) => bytes.length + 1
  | .lit _ => 1
  | .nil => 1
  | .ptr d => uptoBulk d + 1
  | .slice elems spare => uptoBulkAll elems + uptoBulkAll spare + 1
  | .agg parts => uptoBulkAll parts + 1
  | .iface _ d => uptoBulk d + 1
  | .map entries => uptoBulkEntries entries + 1
  | .held _ => 1
def uptoBulkAll {H : Type} : List (DataW H) → Nat
  | [] => 0
  | d :: r => uptoBulk d + uptoBulkAll r
def uptoBulkEntries {H : Type} : List (Lit × DataW H) → Nat
  | [] => 0
  | x :: r => uptoBulkEntry x + uptoBulkEntries r
def uptoBulkEntry {H : Type} : Lit × DataW H → Nat
  | (.string bytes, d) => bytes.length + uptoBulk d + 1
  | (_, d) => uptoBulk d + 1
 end
def uptoSmall : (H : Type) → List (DataW H) → Bool := fun _ ds => decide (uptoBulkAll ds ≤ 1048576)
def OpenSpec.upto (s : _root_.Go.ChangeSpec) : _root_.Go.OpenSpec := { _root_.Go.OpenSpec.ofChange s with cond := some uptoSmall }

/-- 'spindlelaw10.LiftDoes', WHERE WHAT IT READS IS OF BULK AT MOST 1048576: true; the input reads as it did. -/
def liftDoesUptoRow : OpenClaim := { program := "ytpmmkmcbimnigaa", sum := "f0b922243370e80091a3597ee07cb1adfffca46b62a22b0ee537f43c325bd92f", func := "spindle/spindlelaw10.LiftDoes", spec := "liftDoes", unfollowed := true, recurses := true, plainKeys := false, apart := false, narrowed := true }
def LiftDoesUptoSaid : Prop := liftDoesUptoRow.holds Try.pinned (OpenSpec.upto liftDoesSpec)

/-- 'spindlelaw10.LiftOrder', WHERE WHAT IT READS IS OF BULK AT MOST 1048576: true; the input reads as it did. -/
def liftOrderUptoRow : OpenClaim := { program := "ytpmmkmcbimnigaa", sum := "f0b922243370e80091a3597ee07cb1adfffca46b62a22b0ee537f43c325bd92f", func := "spindle/spindlelaw10.LiftOrder", spec := "liftOrder", unfollowed := true, recurses := true, plainKeys := false, apart := false, narrowed := true }
def LiftOrderUptoSaid : Prop := liftOrderUptoRow.holds Try.pinned (OpenSpec.upto liftOrderSpec)

/-- 'spindlelaw10.LiftAny', WHERE WHAT IT READS IS OF BULK AT MOST 1048576: true; the input reads as it did. -/
def liftAnyUptoRow : OpenClaim := { program := "ytpmmkmcbimnigaa", sum := "f0b922243370e80091a3597ee07cb1adfffca46b62a22b0ee537f43c325bd92f", func := "spindle/spindlelaw10.LiftAny", spec := "liftAny", unfollowed := true, recurses := true, plainKeys := false, apart := false, narrowed := true }
def LiftAnyUptoSaid : Prop := liftAnyUptoRow.holds Try.pinned (OpenSpec.upto liftAnySpec)

/-- 'spindlelaw10.LiftStep', WHERE WHAT IT READS IS OF BULK AT MOST 1048576: true; the input reads as it did. -/
def liftStepUptoRow : OpenClaim := { program := "ytpmmkmcbimnigaa", sum := "f0b922243370e80091a3597ee07cb1adfffca46b62a22b0ee537f43c325bd92f", func := "spindle/spindlelaw10.LiftStep", spec := "liftStep", unfollowed := true, recurses := true, plainKeys := false, apart := false, narrowed := true }
def LiftStepUptoSaid : Prop := liftStepUptoRow.holds Try.pinned (OpenSpec.upto liftStepSpec)

/-- 'spindlelaw21.ImageTurned', WHERE WHAT IT READS IS OF BULK AT MOST 1048576: true; the input reads as it did. -/
def imageTurnedUptoRow : OpenClaim := { program := "ytpmmkmcbimnigaa", sum := "f0b922243370e80091a3597ee07cb1adfffca46b62a22b0ee537f43c325bd92f", func := "spindle/spindlelaw21.ImageTurned", spec := "imageTurned", unfollowed := true, recurses := true, plainKeys := false, apart := false, narrowed := true }
def ImageTurnedUptoSaid : Prop := imageTurnedUptoRow.holds Try.pinned (OpenSpec.upto imageTurnedSpec)

/-- 'spindlelaw21.ImageLoads', WHERE WHAT IT READS IS OF BULK AT MOST 1048576: true; the input reads as it did. -/
def imageLoadsUptoRow : OpenClaim := { program := "ytpmmkmcbimnigaa", sum := "f0b922243370e80091a3597ee07cb1adfffca46b62a22b0ee537f43c325bd92f", func := "spindle/spindlelaw21.ImageLoads", spec := "imageLoads", unfollowed := true, recurses := true, plainKeys := false, apart := false, narrowed := true }
def ImageLoadsUptoSaid : Prop := imageLoadsUptoRow.holds Try.pinned (OpenSpec.upto imageLoadsSpec)

end Rows
end Go.Proofs.Ytpmmkmcbimnigaa
