/- What the law's arguments are: bytes, scripts of calls. -/
import Derived.Test.YtlojjlbngnaphaaLq
import Derived.Test.YtlojjlbngnaphaaSk
import Derived.WalkKit
import Derived.ProofKit
import Derived.OpenShut
set_option maxRecDepth 8000
set_option linter.unusedVariables false
set_option linter.unusedSimpArgs false
set_option linter.unusedSectionVars false
namespace Go.Proofs.Ytlojjlbngnaphaa
open Go.RowKit Go.Sl

theorem byte_of {n : Int} (h : (Lit.int .u8 n).wf = true) : ∃ c : UInt8, n = (c.toNat : Int) := by
  have hb : 0 ≤ n ∧ n ≤ 255 := by simpa [Lit.wf, IntKind.min, IntKind.max, IntKind.signed, IntKind.bits] using h
  refine ⟨UInt8.ofNat n.toNat, ?_⟩
  simp; omega

theorem bytes_of {W : World} {ao : Option Addr} {n cap : Nat} (h : InT Try.prog W 55 [.slice ao n cap]) : ∃ l : List UInt8, l.length = n ∧ RdsA W 1 ao n (bytes l) ∧ n ≤ 140737488351232 := by
  obtain ⟨ao', n', cap', row, he, h0, hn, hm, hr, hl, hc, hi⟩ := h.slice_inv Try.underlying55
  cases he
  have c1 : Try.prog.cellsOf 5 = 1 := by kernel_rfl
  have b1 : Try.prog.bytesOf 5 = 1 := by kernel_rfl
  rw [c1] at hl hc
  rw [b1] at hr
  have hb : ∀ i, ∃ c : UInt8, i < cap → row i = [byteV c] := fun i => by
    by_cases h : i < cap
    · obtain ⟨m, hm1, hm2⟩ := (hi i h).int_inv Try.underlying5
      obtain ⟨c, rfl⟩ := byte_of hm2
      exact ⟨c, fun _ => hm1⟩
    · exact ⟨0, fun h' => absurd h' h⟩
  obtain ⟨c, hcc⟩ := Classical.axiomOfChoice hb
  refine ⟨(List.range n).map c, by simp, fun R => ?_, by simp only [reachBytes] at hr; omega⟩
  have hs := sees_rows (R := R) h0 hn hl (fun i h u hu => by rw [hcc i h] at hu; simp at hu; subst hu; rfl) hc
  have e : (List.range n).flatMap row = bytes ((List.range n).map c) := by
    rw [bytes, List.map_map]
    have : ∀ k, k ≤ n → (List.range k).flatMap row = (List.range k).map (byteV ∘ c) := by
      intro k
      induction k with
      | zero => intro _; rfl
      | succ k ih =>
        intro hk
        rw [List.range_succ, List.flatMap_append, List.map_append, ih (by omega)]
        simp [hcc k (by omega)]
    exact this n (Nat.le_refl _)
  rw [e] at hs
  exact hs

end Go.Proofs.Ytlojjlbngnaphaa
