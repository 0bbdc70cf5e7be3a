/- Raw bytes, fills, and the law's own call of a packer. -/
import Derived.Test.YtlflmnmkgaeabaaLr
set_option maxRecDepth 8000
set_option linter.unusedVariables false
set_option linter.unusedSimpArgs false
set_option linter.unusedSectionVars false
namespace Go.Proofs.Ytlflmnmkgaeabaa
open Go.RowKit Go.Sl

theorem and_mask (y : Nat) (h : y < 2 ^ 64) : IntKind.u64.wrap ((BitVec.ofInt IntKind.u64.bits (y : Int) &&& BitVec.ofInt IntKind.u64.bits (4294967295 : Int)).toNat : Int) = ((y % 2 ^ 32 : Nat) : Int) := by
  have e2 : (BitVec.ofInt IntKind.u64.bits (y : Int)).toNat = y := by simp [IntKind.bits]; omega
  have e3 : (BitVec.ofInt IntKind.u64.bits (4294967295 : Int)).toNat = 2 ^ 32 - 1 := by decide
  rw [BitVec.toNat_and, e2, e3, Nat.and_two_pow_sub_one_eq_mod, wrap64_of (by omega)]

/-- What was put, and a few bytes behind it. -/
def Pk.raw (k : Pk) (l : List UInt8) : Pk := if (k.room l.length).bad = 0 then { k with had := k.had ++ l } else k.room l.length
def Pk.fill (k : Pk) (n : Int) (c : UInt8) : Pk := if n ≤ 0 then k else if (k.room n).bad = 0 then { k with had := k.had ++ List.replicate n.toNat c } else k.room n

end Go.Proofs.Ytlflmnmkgaeabaa
