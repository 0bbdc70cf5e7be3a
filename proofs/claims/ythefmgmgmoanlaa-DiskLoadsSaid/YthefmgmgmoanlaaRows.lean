/-
  No cell of these rows narrows 'for every input' (looked for: loops, veiled, ifaces, maps, wideKeys, modest, calm, conditions, laid).
  DERIVED. THE GIVEN ROWS OF THIS SEAT. 12 by the template 'for every input the law returns true; each argument reads behind the call as it read before'; 0 by the template 'total and deterministic' (their statements: YthefmgmgmoanlaaTotals.lean).
  GIVEN WITH THE SEED: the statements are not yours to turn. If you find one false, say at which input.
  Laid BY PROGRAM, IN A SANDBOX (cutbox-rows.mjs): the forced cells as the released guide's own fill.sh prints them over the translation acd003c3d180706f… (all of the seat's roots in one cut). By AI agents, Wed Nov 11 2026. No macro, syntax, notation, axiom, sorry.
-/
import Derived.Test.YthefmgmgmoanlaaChecked
import GoSem.Claim
import GoSem.ClaimJoined
import GoSem.ClaimMapViews
import Derived.JoinedTies
import Derived.KernelRfl
namespace Go.Proofs.Ythefmgmgmoanlaa
/- THE CELL 'sum', in the pinned program and in every row, IS THE sha256 OF THE DUMP (.gsa) THAT YthefmgmgmoanlaaProg.lean LOADS. Nothing in Lean hashes anything: it is a label: what it is worth is what the hold of that sum in a sandbox is worth. -/
noncomputable def Try.pinned : Pinned := { name := "ythefmgmgmoanlaa", sum := "acd003c3d180706fa1b35a47dafd614177419db3f345d44d806ae5d22249dacc", checked := Try.checked }
namespace Rows
def none {H : Type} : Left H := { results := [], args := [] }

/-- 'spindlelaw01.LeHalves': WHATEVER THE INPUT: true; the input reads as it did. -/
def leHalvesSpec : ChangeSpec := { name := "leHalves", fn := fun _ => fun
  | [d] => { results := [.lit (.bool true)], args := [d] }
  | _ => none }
def leHalvesRow : OpenClaim := { program := "ythefmgmgmoanlaa", sum := "acd003c3d180706fa1b35a47dafd614177419db3f345d44d806ae5d22249dacc", func := "spindle/spindlelaw01.LeHalves", spec := "leHalves", apart := false }
def LeHalvesSaid : Prop := leHalvesRow.holds Try.pinned (OpenSpec.ofChange leHalvesSpec)

/-- ITS FALSE NEIGHBOUR: 'it returns false'. Refute it at one input. -/
def leHalvesWrong : ChangeSpec := { name := "leHalves", fn := fun _ => fun
  | [d] => { results := [.lit (.bool false)], args := [d] }
  | _ => none }
def LeHalvesWrongFalsely : Prop := leHalvesRow.holds Try.pinned (OpenSpec.ofChange leHalvesWrong)

/-- 'spindlelaw04.DiskApart': WHATEVER THE INPUT: true; the input reads as it did. -/
def diskApartSpec : ChangeSpec := { name := "diskApart", fn := fun _ => fun
  | [d1, d2, d3] => { results := [.lit (.bool true)], args := [d1, d2, d3] }
  | _ => none }
def diskApartRow : OpenClaim := { program := "ythefmgmgmoanlaa", sum := "acd003c3d180706fa1b35a47dafd614177419db3f345d44d806ae5d22249dacc", func := "spindle/spindlelaw04.DiskApart", spec := "diskApart", unfollowed := true, recurses := true, apart := false }
def DiskApartSaid : Prop := diskApartRow.holds Try.pinned (OpenSpec.ofChange diskApartSpec)

/-- ITS FALSE NEIGHBOUR: 'it returns false'. Refute it at one input. -/
def diskApartWrong : ChangeSpec := { name := "diskApart", fn := fun _ => fun
  | [d1, d2, d3] => { results := [.lit (.bool false)], args := [d1, d2, d3] }
  | _ => none }
def DiskApartWrongFalsely : Prop := diskApartRow.holds Try.pinned (OpenSpec.ofChange diskApartWrong)

/-- 'spindlelaw04.DiskKeeps': WHATEVER THE INPUT: true; the input reads as it did. -/
def diskKeepsSpec : ChangeSpec := { name := "diskKeeps", fn := fun _ => fun
  | [d1, d2, d3, d4] => { results := [.lit (.bool true)], args := [d1, d2, d3, d4] }
  | _ => none }
def diskKeepsRow : OpenClaim := { program := "ythefmgmgmoanlaa", sum := "acd003c3d180706fa1b35a47dafd614177419db3f345d44d806ae5d22249dacc", func := "spindle/spindlelaw04.DiskKeeps", spec := "diskKeeps", unfollowed := true, recurses := true, apart := false }
def DiskKeepsSaid : Prop := diskKeepsRow.holds Try.pinned (OpenSpec.ofChange diskKeepsSpec)

/-- ITS FALSE NEIGHBOUR: 'it returns false'. Refute it at one input. -/
def diskKeepsWrong : ChangeSpec := { name := "diskKeeps", fn := fun _ => fun
  | [d1, d2, d3, d4] => { results := [.lit (.bool false)], args := [d1, d2, d3, d4] }
  | _ => none }
def DiskKeepsWrongFalsely : Prop := diskKeepsRow.holds Try.pinned (OpenSpec.ofChange diskKeepsWrong)

/-- 'spindlelaw04.DiskAll': WHATEVER THE INPUT: true; the input reads as it did. -/
def diskAllSpec : ChangeSpec := { name := "diskAll", fn := fun _ => fun
  | [d1, d2, d3] => { results := [.lit (.bool true)], args := [d1, d2, d3] }
  | _ => none }
def diskAllRow : OpenClaim := { program := "ythefmgmgmoanlaa", sum := "acd003c3d180706fa1b35a47dafd614177419db3f345d44d806ae5d22249dacc", func := "spindle/spindlelaw04.DiskAll", spec := "diskAll", unfollowed := true, recurses := true, apart := false }
def DiskAllSaid : Prop := diskAllRow.holds Try.pinned (OpenSpec.ofChange diskAllSpec)

/-- ITS FALSE NEIGHBOUR: 'it returns false'. Refute it at one input. -/
def diskAllWrong : ChangeSpec := { name := "diskAll", fn := fun _ => fun
  | [d1, d2, d3] => { results := [.lit (.bool false)], args := [d1, d2, d3] }
  | _ => none }
def DiskAllWrongFalsely : Prop := diskAllRow.holds Try.pinned (OpenSpec.ofChange diskAllWrong)

/-- 'spindlelaw04.DiskFailed': WHATEVER THE INPUT: true; the input reads as it did. -/
def diskFailedSpec : ChangeSpec := { name := "diskFailed", fn := fun _ => fun
  | [d1, d2, d3, d4] => { results := [.lit (.bool true)], args := [d1, d2, d3, d4] }
  | _ => none }
def diskFailedRow : OpenClaim := { program := "ythefmgmgmoanlaa", sum := "acd003c3d180706fa1b35a47dafd614177419db3f345d44d806ae5d22249dacc", func := "spindle/spindlelaw04.DiskFailed", spec := "diskFailed", unfollowed := true, recurses := true, apart := false }
def DiskFailedSaid : Prop := diskFailedRow.holds Try.pinned (OpenSpec.ofChange diskFailedSpec)

/-- ITS FALSE NEIGHBOUR: 'it returns false'. Refute it at one input. -/
def diskFailedWrong : ChangeSpec := { name := "diskFailed", fn := fun _ => fun
  | [d1, d2, d3, d4] => { results := [.lit (.bool false)], args := [d1, d2, d3, d4] }
  | _ => none }
def DiskFailedWrongFalsely : Prop := diskFailedRow.holds Try.pinned (OpenSpec.ofChange diskFailedWrong)

/-- 'spindlelaw01.LePacks': WHATEVER THE INPUT: true; the input reads as it did. -/
def lePacksSpec : ChangeSpec := { name := "lePacks", fn := fun _ => fun
  | [d1, d2] => { results := [.lit (.bool true)], args := [d1, d2] }
  | _ => none }
def lePacksRow : OpenClaim := { program := "ythefmgmgmoanlaa", sum := "acd003c3d180706fa1b35a47dafd614177419db3f345d44d806ae5d22249dacc", func := "spindle/spindlelaw01.LePacks", spec := "lePacks", recurses := true, apart := false }
def LePacksSaid : Prop := lePacksRow.holds Try.pinned (OpenSpec.ofChange lePacksSpec)

/-- ITS FALSE NEIGHBOUR: 'it returns false'. Refute it at one input. -/
def lePacksWrong : ChangeSpec := { name := "lePacks", fn := fun _ => fun
  | [d1, d2] => { results := [.lit (.bool false)], args := [d1, d2] }
  | _ => none }
def LePacksWrongFalsely : Prop := lePacksRow.holds Try.pinned (OpenSpec.ofChange lePacksWrong)

/-- 'spindlelaw01.LePrefix': WHATEVER THE INPUT: true; the input reads as it did. -/
def lePrefixSpec : ChangeSpec := { name := "lePrefix", fn := fun _ => fun
  | [d1, d2, d3] => { results := [.lit (.bool true)], args := [d1, d2, d3] }
  | _ => none }
def lePrefixRow : OpenClaim := { program := "ythefmgmgmoanlaa", sum := "acd003c3d180706fa1b35a47dafd614177419db3f345d44d806ae5d22249dacc", func := "spindle/spindlelaw01.LePrefix", spec := "lePrefix", apart := false }
def LePrefixSaid : Prop := lePrefixRow.holds Try.pinned (OpenSpec.ofChange lePrefixSpec)

/-- ITS FALSE NEIGHBOUR: 'it returns false'. Refute it at one input. -/
def lePrefixWrong : ChangeSpec := { name := "lePrefix", fn := fun _ => fun
  | [d1, d2, d3] => { results := [.lit (.bool false)], args := [d1, d2, d3] }
  | _ => none }
def LePrefixWrongFalsely : Prop := lePrefixRow.holds Try.pinned (OpenSpec.ofChange lePrefixWrong)

/-- 'spindlelaw01.LeAlone': WHATEVER THE INPUT: true; the input reads as it did. -/
def leAloneSpec : ChangeSpec := { name := "leAlone", fn := fun _ => fun
  | [d1, d2, d3] => { results := [.lit (.bool true)], args := [d1, d2, d3] }
  | _ => none }
def leAloneRow : OpenClaim := { program := "ythefmgmgmoanlaa", sum := "acd003c3d180706fa1b35a47dafd614177419db3f345d44d806ae5d22249dacc", func := "spindle/spindlelaw01.LeAlone", spec := "leAlone", unfollowed := true, recurses := true, apart := false }
def LeAloneSaid : Prop := leAloneRow.holds Try.pinned (OpenSpec.ofChange leAloneSpec)

/-- ITS FALSE NEIGHBOUR: 'it returns false'. Refute it at one input. -/
def leAloneWrong : ChangeSpec := { name := "leAlone", fn := fun _ => fun
  | [d1, d2, d3] => { results := [.lit (.bool false)], args := [d1, d2, d3] }
  | _ => none }
def LeAloneWrongFalsely : Prop := leAloneRow.holds Try.pinned (OpenSpec.ofChange leAloneWrong)

/-- 'spindlelaw04.DiskLoads': WHATEVER THE INPUT: true; the input reads as it did. -/
def diskLoadsSpec : ChangeSpec := { name := "diskLoads", fn := fun _ => fun
  | [d1, d2] => { results := [.lit (.bool true)], args := [d1, d2] }
  | _ => none }
def diskLoadsRow : OpenClaim := { program := "ythefmgmgmoanlaa", sum := "acd003c3d180706fa1b35a47dafd614177419db3f345d44d806ae5d22249dacc", func := "spindle/spindlelaw04.DiskLoads", spec := "diskLoads", unfollowed := true, recurses := true, apart := false }
def DiskLoadsSaid : Prop := diskLoadsRow.holds Try.pinned (OpenSpec.ofChange diskLoadsSpec)

/-- ITS FALSE NEIGHBOUR: 'it returns false'. Refute it at one input. -/
def diskLoadsWrong : ChangeSpec := { name := "diskLoads", fn := fun _ => fun
  | [d1, d2] => { results := [.lit (.bool false)], args := [d1, d2] }
  | _ => none }
def DiskLoadsWrongFalsely : Prop := diskLoadsRow.holds Try.pinned (OpenSpec.ofChange diskLoadsWrong)

/-- 'spindlelaw01.LeReads': WHATEVER THE INPUT: true; the input reads as it did. -/
def leReadsSpec : ChangeSpec := { name := "leReads", fn := fun _ => fun
  | [d1, d2] => { results := [.lit (.bool true)], args := [d1, d2] }
  | _ => none }
def leReadsRow : OpenClaim := { program := "ythefmgmgmoanlaa", sum := "acd003c3d180706fa1b35a47dafd614177419db3f345d44d806ae5d22249dacc", func := "spindle/spindlelaw01.LeReads", spec := "leReads", unfollowed := true, recurses := true, apart := false }
def LeReadsSaid : Prop := leReadsRow.holds Try.pinned (OpenSpec.ofChange leReadsSpec)

/-- ITS FALSE NEIGHBOUR: 'it returns false'. Refute it at one input. -/
def leReadsWrong : ChangeSpec := { name := "leReads", fn := fun _ => fun
  | [d1, d2] => { results := [.lit (.bool false)], args := [d1, d2] }
  | _ => none }
def LeReadsWrongFalsely : Prop := leReadsRow.holds Try.pinned (OpenSpec.ofChange leReadsWrong)

/-- 'spindlelaw01.LeBack': WHATEVER THE INPUT: true; the input reads as it did. -/
def leBackSpec : ChangeSpec := { name := "leBack", fn := fun _ => fun
  | [d1, d2] => { results := [.lit (.bool true)], args := [d1, d2] }
  | _ => none }
def leBackRow : OpenClaim := { program := "ythefmgmgmoanlaa", sum := "acd003c3d180706fa1b35a47dafd614177419db3f345d44d806ae5d22249dacc", func := "spindle/spindlelaw01.LeBack", spec := "leBack", unfollowed := true, recurses := true, apart := false }
def LeBackSaid : Prop := leBackRow.holds Try.pinned (OpenSpec.ofChange leBackSpec)

/-- ITS FALSE NEIGHBOUR: 'it returns false'. Refute it at one input. -/
def leBackWrong : ChangeSpec := { name := "leBack", fn := fun _ => fun
  | [d1, d2] => { results := [.lit (.bool false)], args := [d1, d2] }
  | _ => none }
def LeBackWrongFalsely : Prop := leBackRow.holds Try.pinned (OpenSpec.ofChange leBackWrong)

/-- 'spindlelaw01.LeStays': WHATEVER THE INPUT: true; the input reads as it did. -/
def leStaysSpec : ChangeSpec := { name := "leStays", fn := fun _ => fun
  | [d1, d2, d3, d4] => { results := [.lit (.bool true)], args := [d1, d2, d3, d4] }
  | _ => none }
def leStaysRow : OpenClaim := { program := "ythefmgmgmoanlaa", sum := "acd003c3d180706fa1b35a47dafd614177419db3f345d44d806ae5d22249dacc", func := "spindle/spindlelaw01.LeStays", spec := "leStays", unfollowed := true, recurses := true, apart := false }
def LeStaysSaid : Prop := leStaysRow.holds Try.pinned (OpenSpec.ofChange leStaysSpec)

/-- ITS FALSE NEIGHBOUR: 'it returns false'. Refute it at one input. -/
def leStaysWrong : ChangeSpec := { name := "leStays", fn := fun _ => fun
  | [d1, d2, d3, d4] => { results := [.lit (.bool false)], args := [d1, d2, d3, d4] }
  | _ => none }
def LeStaysWrongFalsely : Prop := leStaysRow.holds Try.pinned (OpenSpec.ofChange leStaysWrong)

/- THE SECOND FORM. 'bulk': how many values and letters a reading holds, each counted each time it is reached (what is shared counts as often as it is met; a slice's spare places count too). A statement '..UptoSaid' is the law's where the arguments, and the package variables that the reading takes, are together of bulk at most 1048576: NARROWER than '..Said'. Prove '..Said' where nothing that the law and all that it calls make is longer than what came in: it says more and counts as full. Else prove '..UptoSaid'. A law counts once. -/
mutual
def uptoBulk {H : Type} : DataW H → Nat
  | .lit (.string bytes) => bytes.length + 1
  | .lit _ => 1
  | .nil => 1
  | .ptr d => uptoBulk d + 1
  | .slice elems spare => uptoBulkAll elems + uptoBulkAll spare + 1
  | .agg parts => uptoBulkAll parts + 1
  | .iface _ d => uptoBulk d + 1
  | .map entries => uptoBulkEntries entries + 1
  | .held _ => 1
def uptoBulkAll {H : Type} : List (DataW H) → Nat
  | [] => 0
  | d :: r => uptoBulk d + uptoBulkAll r
def uptoBulkEntries {H : Type} : List (Lit × DataW H) → Nat
  | [] => 0
  | x :: r => uptoBulkEntry x + uptoBulkEntries r
def uptoBulkEntry {H : Type} : Lit × DataW H → Nat
  | (.string bytes, d) => bytes.length + uptoBulk d + 1
  | (_, d) => uptoBulk d + 1
 end
def uptoSmall : (H : Type) → List (DataW H) → Bool := fun _ ds => decide (uptoBulkAll ds ≤ 1048576)
def OpenSpec.upto (s : _root_.Go.ChangeSpec) : _root_.Go.OpenSpec := { _root_.Go.OpenSpec.ofChange s with cond := some uptoSmall }

/-- 'spindlelaw01.LeHalves', WHERE WHAT IT READS IS OF BULK AT MOST 1048576: true; the input reads as it did. -/
def leHalvesUptoRow : OpenClaim := { program := "ythefmgmgmoanlaa", sum := "acd003c3d180706fa1b35a47dafd614177419db3f345d44d806ae5d22249dacc", func := "spindle/spindlelaw01.LeHalves", spec := "leHalves", apart := false, narrowed := true }
def LeHalvesUptoSaid : Prop := leHalvesUptoRow.holds Try.pinned (OpenSpec.upto leHalvesSpec)

/-- 'spindlelaw04.DiskApart', WHERE WHAT IT READS IS OF BULK AT MOST 1048576: true; the input reads as it did. -/
def diskApartUptoRow : OpenClaim := { program := "ythefmgmgmoanlaa", sum := "acd003c3d180706fa1b35a47dafd614177419db3f345d44d806ae5d22249dacc", func := "spindle/spindlelaw04.DiskApart", spec := "diskApart", unfollowed := true, recurses := true, apart := false, narrowed := true }
def DiskApartUptoSaid : Prop := diskApartUptoRow.holds Try.pinned (OpenSpec.upto diskApartSpec)

/-- 'spindlelaw04.DiskKeeps', WHERE WHAT IT READS IS OF BULK AT MOST 1048576: true; the input reads as it did. -/
def diskKeepsUptoRow : OpenClaim := { program := "ythefmgmgmoanlaa", sum := "acd003c3d180706fa1b35a47dafd614177419db3f345d44d806ae5d22249dacc", func := "spindle/spindlelaw04.DiskKeeps", spec := "diskKeeps", unfollowed := true, recurses := true, apart := false, narrowed := true }
def DiskKeepsUptoSaid : Prop := diskKeepsUptoRow.holds Try.pinned (OpenSpec.upto diskKeepsSpec)

/-- 'spindlelaw04.DiskAll', WHERE WHAT IT READS IS OF BULK AT MOST 1048576: true; the input reads as it did. -/
def diskAllUptoRow : OpenClaim := { program := "ythefmgmgmoanlaa", sum := "acd003c3d180706fa1b35a47dafd614177419db3f345d44d806ae5d22249dacc", func := "spindle/spindlelaw04.DiskAll", spec := "diskAll", unfollowed := true, recurses := true, apart := false, narrowed := true }
def DiskAllUptoSaid : Prop := diskAllUptoRow.holds Try.pinned (OpenSpec.upto diskAllSpec)

/-- 'spindlelaw04.DiskFailed', WHERE WHAT IT READS IS OF BULK AT MOST 1048576: true; the input reads as it did. -/
def diskFailedUptoRow : OpenClaim := { program := "ythefmgmgmoanlaa", sum := "acd003c3d180706fa1b35a47dafd614177419db3f345d44d806ae5d22249dacc", func := "spindle/spindlelaw04.DiskFailed", spec := "diskFailed", unfollowed := true, recurses := true, apart := false, narrowed := true }
def DiskFailedUptoSaid : Prop := diskFailedUptoRow.holds Try.pinned (OpenSpec.upto diskFailedSpec)

/-- 'spindlelaw01.LePacks', WHERE WHAT IT READS IS OF BULK AT MOST 1048576: true; the input reads as it did. -/
def lePacksUptoRow : OpenClaim := { program := "ythefmgmgmoanlaa", sum := "acd003c3d180706fa1b35a47dafd614177419db3f345d44d806ae5d22249dacc", func := "spindle/spindlelaw01.LePacks", spec := "lePacks", recurses := true, apart := false, narrowed := true }
def LePacksUptoSaid : Prop := lePacksUptoRow.holds Try.pinned (OpenSpec.upto lePacksSpec)

/-- 'spindlelaw01.LePrefix', WHERE WHAT IT READS IS OF BULK AT MOST 1048576: true; the input reads as it did. -/
def lePrefixUptoRow : OpenClaim := { program := "ythefmgmgmoanlaa", sum := "acd003c3d180706fa1b35a47dafd614177419db3f345d44d806ae5d22249dacc", func := "spindle/spindlelaw01.LePrefix", spec := "lePrefix", apart := false, narrowed := true }
def LePrefixUptoSaid : Prop := lePrefixUptoRow.holds Try.pinned (OpenSpec.upto lePrefixSpec)

/-- 'spindlelaw01.LeAlone', WHERE WHAT IT READS IS OF BULK AT MOST 1048576: true; the input reads as it did. -/
def leAloneUptoRow : OpenClaim := { program := "ythefmgmgmoanlaa", sum := "acd003c3d180706fa1b35a47dafd614177419db3f345d44d806ae5d22249dacc", func := "spindle/spindlelaw01.LeAlone", spec := "leAlone", unfollowed := true, recurses := true, apart := false, narrowed := true }
def LeAloneUptoSaid : Prop := leAloneUptoRow.holds Try.pinned (OpenSpec.upto leAloneSpec)

/-- 'spindlelaw04.DiskLoads', WHERE WHAT IT READS IS OF BULK AT MOST 1048576: true; the input reads as it did. -/
def diskLoadsUptoRow : OpenClaim := { program := "ythefmgmgmoanlaa", sum := "acd003c3d180706fa1b35a47dafd614177419db3f345d44d806ae5d22249dacc", func := "spindle/spindlelaw04.DiskLoads", spec := "diskLoads", unfollowed := true, recurses := true, apart := false, narrowed := true }
def DiskLoadsUptoSaid : Prop := diskLoadsUptoRow.holds Try.pinned (OpenSpec.upto diskLoadsSpec)

/-- 'spindlelaw01.LeReads', WHERE WHAT IT READS IS OF BULK AT MOST 1048576: true; the input reads as it did. -/
def leReadsUptoRow : OpenClaim := { program := "ythefmgmgmoanlaa", sum := "acd003c3d180706fa1b35a47dafd614177419db3f345d44d806ae5d22249dacc", func := "spindle/spindlelaw01.LeReads", spec := "leReads", unfollowed := true, recurses := true, apart := false, narrowed := true }
def LeReadsUptoSaid : Prop := leReadsUptoRow.holds Try.pinned (OpenSpec.upto leReadsSpec)

/-- 'spindlelaw01.LeBack', WHERE WHAT IT READS IS OF BULK AT MOST 1048576: true; the input reads as it did. -/
def leBackUptoRow : OpenClaim := { program := "ythefmgmgmoanlaa", sum := "acd003c3d180706fa1b35a47dafd614177419db3f345d44d806ae5d22249dacc", func := "spindle/spindlelaw01.LeBack", spec := "leBack", unfollowed := true, recurses := true, apart := false, narrowed := true }
def LeBackUptoSaid : Prop := leBackUptoRow.holds Try.pinned (OpenSpec.upto leBackSpec)

/-- 'spindlelaw01.LeStays', WHERE WHAT IT READS IS OF BULK AT MOST 1048576: true; the input reads as it did. -/
def leStaysUptoRow : OpenClaim := { program := "ythefmgmgmoanlaa", sum := "acd003c3d180706fa1b35a47dafd614177419db3f345d44d806ae5d22249dacc", func := "spindle/spindlelaw01.LeStays", spec := "leStays", unfollowed := true, recurses := true, apart := false, narrowed := true }
def LeStaysUptoSaid : Prop := leStaysUptoRow.holds Try.pinned (OpenSpec.upto leStaysSpec)

end Rows
end Go.Proofs.Ythefmgmgmoanlaa
