/-
  No cell of these rows narrows 'for every input' (looked for: loops, veiled, ifaces, maps, wideKeys, modest, calm, conditions, laid).
  DERIVED. THE GIVEN ROWS OF THIS SEAT. 2 by the template 'for every input the law returns true; each argument reads behind the call as it read before'; 0 by the template 'total and deterministic' (their statements: YtjebagmjcdaegaaGreatTotals.lean).
  GIVEN WITH THE SEED: the statements are not yours to turn. If you find one false, say at which input.
  Laid BY PROGRAM, IN A SANDBOX (cutbox-rows.mjs): the forced cells as the released guide's own fill.sh prints them over the translation 30275c614744f0b9… (all of the seat's roots in one cut). By AI agents, Wed Nov 11 2026. No macro, syntax, notation, axiom, sorry.
-/
import Derived.Test.YtjebagmjcdaegaaGreatChecked
import GoSem.Claim
import GoSem.ClaimJoined
import GoSem.ClaimMapViews
import Derived.JoinedTies
import Derived.KernelRfl
namespace Go.Proofs.YtjebagmjcdaegaaGreat
/- THE CELL 'sum', in the pinned program and in every row, IS THE sha256 OF THE DUMP (.gsa) THAT YtjebagmjcdaegaaGreatProg.lean LOADS. Nothing in Lean hashes anything: it is a label: what it is worth is what the hold of that sum in a sandbox is worth. -/
noncomputable def Tryz.pinned : Pinned := { name := "ytjebagmjcdaegaagreat", sum := "30275c614744f0b96cfe26b124396f70519d0120e39cba7d13c0f7176b5229e6", checked := Tryz.checked }
namespace Rows
def none {H : Type} : Left H := { results := [], args := [] }

/-- 'spindlelaw21.ImageAny': WHATEVER THE INPUT: true; the input reads as it did. -/
def imageAnySpec : ChangeSpec := { name := "imageAny", fn := fun _ => fun
  | [d1, d2] => { results := [.lit (.bool true)], args := [d1, d2] }
  | _ => none }
def imageAnyRow : OpenClaim := { program := "ytjebagmjcdaegaagreat", sum := "30275c614744f0b96cfe26b124396f70519d0120e39cba7d13c0f7176b5229e6", func := "spindle/spindlelaw21.ImageAny", spec := "imageAny", unfollowed := true, recurses := true, plainKeys := false, apart := false }
def ImageAnySaid : Prop := imageAnyRow.holds Tryz.pinned (OpenSpec.ofChange imageAnySpec)

/-- ITS FALSE NEIGHBOUR: 'it returns false'. Refute it at one input. -/
def imageAnyWrong : ChangeSpec := { name := "imageAny", fn := fun _ => fun
  | [d1, d2] => { results := [.lit (.bool false)], args := [d1, d2] }
  | _ => none }
def ImageAnyWrongFalsely : Prop := imageAnyRow.holds Tryz.pinned (OpenSpec.ofChange imageAnyWrong)

/-- 'spindlelaw21.ImageForged': WHATEVER THE INPUT: true; the input reads as it did. -/
def imageForgedSpec : ChangeSpec := { name := "imageForged", fn := fun _ => fun
  | [d1, d2, d3] => { results := [.lit (.bool true)], args := [d1, d2, d3] }
  | _ => none }
def imageForgedRow : OpenClaim := { program := "ytjebagmjcdaegaagreat", sum := "30275c614744f0b96cfe26b124396f70519d0120e39cba7d13c0f7176b5229e6", func := "spindle/spindlelaw21.ImageForged", spec := "imageForged", unfollowed := true, recurses := true, plainKeys := false, apart := false }
def ImageForgedSaid : Prop := imageForgedRow.holds Tryz.pinned (OpenSpec.ofChange imageForgedSpec)

/-- ITS FALSE NEIGHBOUR: 'it returns false'. Refute it at one input. -/
def imageForgedWrong : ChangeSpec := { name := "imageForged", fn := fun _ => fun
  | [d1, d2, d3] => { results := [.lit (.bool false)], args := [d1, d2, d3] }
  | _ => none }
def ImageForgedWrongFalsely : Prop := imageForgedRow.holds Tryz.pinned (OpenSpec.ofChange imageForgedWrong)

/- THE SECOND FORM. 'bulk': how many values and letters a reading holds, each counted each time it is reached (what is shared counts as often as it is met; a slice's spare places count too). A statement '..UptoSaid' is the law's where the arguments, and the package variables that the reading takes, are together of bulk at most 1048576: NARROWER than '..Said'. Prove '..Said' where nothing that the law and all that it calls make is longer than what came in: it says more and counts as full. Else prove '..UptoSaid'. A law counts once. -/
mutual
def uptoBulk {H : Type} : DataW H → Nat
  | .lit (.string bytes) => bytes.length + 1
  | .lit _ => 1
  | .nil => 1
  | .ptr d => uptoBulk d + 1
  | .slice elems spare => uptoBulkAll elems + uptoBulkAll spare + 1
  | .agg parts => uptoBulkAll parts + 1
  | .iface _ d => uptoBulk d + 1
  | .map entries => uptoBulkEntries entries + 1
  | .held _ => 1
def uptoBulkAll {H : Type} : List (DataW H) → Nat
  | [] => 0
  | d :: r => uptoBulk d + uptoBulkAll r
def uptoBulkEntries {H : Type} : List (Lit × DataW H) → Nat
  | [] => 0
  | x :: r => uptoBulkEntry x + uptoBulkEntries r
def uptoBulkEntry {H : Type} : Lit × DataW H → Nat
  | (.string bytes, d) => bytes.length + uptoBulk d + 1
  | (_, d) => uptoBulk d + 1
 end
def uptoSmall : (H : Type) → List (DataW H) → Bool := fun _ ds => decide (uptoBulkAll ds ≤ 1048576)
def OpenSpec.upto (s : _root_.Go.ChangeSpec) : _root_.Go.OpenSpec := { _root_.Go.OpenSpec.ofChange s with cond := some uptoSmall }

/-- 'spindlelaw21.ImageAny', WHERE WHAT IT READS IS OF BULK AT MOST 1048576: true; the input reads as it did. -/
def imageAnyUptoRow : OpenClaim := { program := "ytjebagmjcdaegaagreat", sum := "30275c614744f0b96cfe26b124396f70519d0120e39cba7d13c0f7176b5229e6", func := "spindle/spindlelaw21.ImageAny", spec := "imageAny", unfollowed := true, recurses := true, plainKeys := false, apart := false, narrowed := true }
def ImageAnyUptoSaid : Prop := imageAnyUptoRow.holds Tryz.pinned (OpenSpec.upto imageAnySpec)

/-- 'spindlelaw21.ImageForged', WHERE WHAT IT READS IS OF BULK AT MOST 1048576: true; the input reads as it did. -/
def imageForgedUptoRow : OpenClaim := { program := "ytjebagmjcdaegaagreat", sum := "30275c614744f0b96cfe26b124396f70519d0120e39cba7d13c0f7176b5229e6", func := "spindle/spindlelaw21.ImageForged", spec := "imageForged", unfollowed := true, recurses := true, plainKeys := false, apart := false, narrowed := true }
def ImageForgedUptoSaid : Prop := imageForgedUptoRow.holds Tryz.pinned (OpenSpec.upto imageForgedSpec)

end Rows
end Go.Proofs.YtjebagmjcdaegaaGreat
