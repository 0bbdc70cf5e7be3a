/- The document's EncodeHeader, EncodeCommit, EncodeCheck. -/
import Derived.Test.YtgkpdpoblofehaaGreatEg
set_option maxRecDepth 8000
set_option linter.unusedVariables false
set_option linter.unusedSimpArgs false
set_option linter.unusedSectionVars false
namespace Go.Proofs.YtgkpdpoblofehaaGreat
open Go.RowKit Go.Sl
attribute [local irreducible] Own

structure HdrD.fit (h : HdrD) : Prop where
  epoch : h.epoch < 2 ^ 64
  seq : h.seq < 2 ^ 64
  index : -9223372036854775808 ≤ h.index ∧ h.index ≤ 9223372036854775807
  count : -9223372036854775808 ≤ h.count ∧ h.count ≤ 9223372036854775807
  member : -9223372036854775808 ≤ h.member ∧ h.member ≤ 9223372036854775807
  row : -9223372036854775808 ≤ h.row ∧ h.row ≤ 9223372036854775807
  sum : h.sum < 4294967296
structure CmtD.fit (h : CmtD) : Prop where
  epoch : h.epoch < 2 ^ 64
  seq : h.seq < 2 ^ 64
  count : -9223372036854775808 ≤ h.count ∧ h.count ≤ 9223372036854775807
  sum : h.sum < 4294967296
structure ChkD.fit (h : ChkD) : Prop where
  epoch : h.epoch < 2 ^ 64
  seq : h.seq < 2 ^ 64
  tail : -9223372036854775808 ≤ h.tail ∧ h.tail ≤ 9223372036854775807
theorem hdr_iff (h : HdrD) : h.good ↔ (h.epoch ≤ 4611686018427387904 ∧ 1 ≤ h.seq ∧ h.seq ≤ 4611686018427387904) ∧ 1 ≤ h.count ∧ h.count ≤ 1023 ∧ 0 ≤ h.index ∧ h.index ≤ h.count - 1 ∧ 0 ≤ h.member ∧ h.member ≤ 15 ∧ 0 ≤ h.row ∧ h.row ≤ 4095 := by
  unfold HdrD.good cntOk
  constructor
  · rintro ⟨a, ⟨b, c⟩, ⟨d, e⟩, ⟨f, g⟩, i, j⟩; exact ⟨a, b, c, d, e, f, g, i, j⟩
  · rintro ⟨a, b, c, d, e, f, g, i, j⟩; exact ⟨a, ⟨b, c⟩, ⟨d, e⟩, ⟨f, g⟩, i, j⟩
theorem cmt_iff (h : CmtD) : h.good ↔ (h.epoch ≤ 4611686018427387904 ∧ 1 ≤ h.seq ∧ h.seq ≤ 4611686018427387904) ∧ 1 ≤ h.count ∧ h.count ≤ 1023 := Iff.rfl
theorem chk_iff (h : ChkD) : h.good ↔ (h.epoch ≤ 4611686018427387904 ∧ 1 ≤ h.seq ∧ h.seq ≤ 4611686018427387904) ∧ 0 ≤ h.tail ∧ h.tail ≤ 2047 := Iff.rfl
theorem hdr_bad {h : HdrD} (g : ¬ h.good) : h.enc = (80, []) := if_neg g
theorem cmt_bad {h : CmtD} (g : ¬ h.good) : h.enc = (80, []) := if_neg g
theorem chk_bad {h : ChkD} (g : ¬ h.good) : h.enc = (80, []) := if_neg g
theorem hdr_ok {h : HdrD} (g : h.good) : h.enc = (0, sectF 1 h.epoch h.seq h.rest) := if_pos g
theorem cmt_ok {h : CmtD} (g : h.good) : h.enc = (0, sectF 2 h.epoch h.seq h.rest) := if_pos g
theorem chk_ok {h : ChkD} (g : h.good) : h.enc = (0, sectF 3 h.epoch h.seq h.rest) := if_pos g
theorem i64_nat {v : Nat} (h : v < 4294967296) : IntKind.i64.wrap (v : Int) = v := IntWalk.i64_in _ ⟨by omega, by omega⟩
theorem u32_nat {v : Nat} (h : v < 4294967296) : IntKind.u32.wrap (v : Int) = v := by rw [wrap32_of, Nat.mod_eq_of_lt h]
theorem bitN_lt (b : Bool) : bitN b < 2 ^ 64 := by cases b <;> decide
/-- Bytes of one's own, however they lie. -/
abbrev OwnB (x : Option Addr × Nat) (l : List UInt8) : SProp := Own 5 1 (.slice x.1 l.length x.2) l.length (bytes l)

end Go.Proofs.YtgkpdpoblofehaaGreat
