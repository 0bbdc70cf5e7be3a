/- Sectors of the journal: what they look like (Kind, looks), the document's and the program's. -/
import Derived.Test.YtgkpdpoblofehaaGreatEf
import Derived.Test.YtgkpdpoblofehaaGreatSlt
set_option maxRecDepth 8000
set_option linter.unusedVariables false
set_option linter.unusedSimpArgs false
set_option linter.unusedSectionVars false
namespace Go.Proofs.YtgkpdpoblofehaaGreat
open Go.RowKit Go.Sl
attribute [local irreducible] Own

theorem bytes_take (l : List UInt8) (k : Nat) : (bytes l).take (k * 1) = bytes (l.take k) := by rw [Nat.mul_one]; simp [bytes]
theorem bytes_drop (l : List UInt8) (k : Nat) : (bytes l).drop (k * 1) = bytes (l.drop k) := by rw [Nat.mul_one]; simp [bytes]
theorem rds_head {W : World} {R : List SProp} {ao : Option Addr} {l : List UInt8} (hr : Rds W R 1 ao l.length (bytes l)) (k : Nat) (hk : k ≤ l.length) : Rds W R 1 ao k (bytes (l.take k)) := by
  have := hr.take hk
  rwa [bytes_take] at this
theorem rds_part {W : World} {R : List SProp} {ao : Option Addr} {cap : Nat} {l : List UInt8} (hr : Rds W R 1 ao l.length (bytes l)) (a b : Nat) (h1 : a ≤ b) (h2 : b ≤ l.length) (h3 : l.length ≤ cap) : Rds W R 1 (subA ao cap a 1) (b - a) (bytes ((l.drop a).take (b - a))) := by
  have := hr.sub h1 h2 h3
  rwa [bytes_drop, bytes_take] at this
theorem kindB_no {b : List UInt8} (h : b.length = 128 → b.take 4 = magicL → 3 < (b.getD 4 0).toNat) : kindB b = 0 := by
  unfold kindB; rw [if_neg]; rintro ⟨h1, h2, h3⟩; have := h h1 h2; omega
theorem kindB_yes {b : List UInt8} (h1 : b.length = 128) (h2 : b.take 4 = magicL) (h3 : (b.getD 4 0).toNat ≤ 3) : kindB b = b.getD 4 0 := by
  unfold kindB; rw [if_pos ⟨h1, h2, h3⟩]
theorem getD4 {b : List UInt8} (h : 4 < b.length) : b.getD 4 0 = b[4] := by simp [List.getD, h]

end Go.Proofs.YtgkpdpoblofehaaGreat
