/- The document's record: put, numbers, begun, ended; the program's counts, in. -/
import Derived.Test.YtgkpdpoblofehaaGreatEb
set_option maxRecDepth 8000
set_option linter.unusedVariables false
set_option linter.unusedSimpArgs false
set_option linter.unusedSectionVars false
namespace Go.Proofs.YtgkpdpoblofehaaGreat
open Go.RowKit Go.Sl
attribute [local irreducible] Own

theorem cnt_iff (a b : Nat) : cntOk a b ↔ a ≤ 4611686018427387904 ∧ 1 ≤ b ∧ b ≤ 4611686018427387904 := Iff.rfl
theorem and_lowB (y j : Nat) (h : y < 2 ^ 64) (hj : j ≤ 64) : IntKind.u64.wrap ((BitVec.ofInt IntKind.u64.bits (y : Int) &&& BitVec.ofInt IntKind.u64.bits ((2 ^ j - 1 : Nat) : Int)).toNat : Int) = ((y % 2 ^ j : Nat) : Int) := by
  have e : (BitVec.ofInt 64 (y : Int) &&& BitVec.ofInt 64 ((2 ^ j - 1 : Nat) : Int)).toNat = y % 2 ^ j := by
    rw [BitVec.toNat_and, BitVec.ofInt_natCast, BitVec.ofInt_natCast, BitVec.toNat_ofNat, BitVec.toNat_ofNat, Nat.mod_eq_of_lt h, Nat.mod_eq_of_lt, Nat.and_two_pow_sub_one_eq_mod]
    have := Nat.pow_le_pow_right (show 0 < 2 by decide) hj
    have := Nat.two_pow_pos j
    omega
  show IntKind.u64.wrap ((BitVec.ofInt 64 (y : Int) &&& BitVec.ofInt 64 ((2 ^ j - 1 : Nat) : Int)).toNat : Int) = _
  rw [e]
  have h2 : y % 2 ^ j < 2 ^ 64 := Nat.lt_of_le_of_lt (Nat.mod_le _ _) h
  exact wrap64_of h2
end Go.Proofs.YtgkpdpoblofehaaGreat
