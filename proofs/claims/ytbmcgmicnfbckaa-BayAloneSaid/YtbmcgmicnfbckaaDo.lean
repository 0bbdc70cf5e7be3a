/- DiskFailed: the walk. -/
import Derived.Test.YtbmcgmicnfbckaaDn
import Derived.Test.YtbmcgmicnfbckaaLd
set_option maxRecDepth 8000
set_option linter.unusedVariables false
set_option linter.unusedSimpArgs false
set_option linter.unusedSectionVars false
namespace Go.Proofs.Ytbmcgmicnfbckaa
open Go.RowKit Go.Sl
attribute [local irreducible] Own

theorem bools_of {W : World} {ao : Option Addr} {n cap : Nat} (h : InT Try.prog W 56 [.slice ao n cap]) : ∃ l : List Bool, l.length = n ∧ RdsA W 1 ao n (bools l) ∧ n ≤ 140737488351232 := by
  obtain ⟨ao', n', cap', row, he, h0, hn, hm, hr, hl, hc, hi⟩ := h.slice_inv Try.underlying56
  cases he
  have c1 : Try.prog.cellsOf 4 = 1 := by kernel_rfl
  have b1 : Try.prog.bytesOf 4 = 1 := by kernel_rfl
  rw [c1] at hl hc
  rw [b1] at hr
  have hb : ∀ i, ∃ c : Bool, i < cap → row i = [.bool c] := fun i => by
    by_cases h : i < cap
    · obtain ⟨b, hm1⟩ := (hi i h).bool_inv Try.underlying4
      exact ⟨b, fun _ => hm1⟩
    · exact ⟨false, fun h' => absurd h' h⟩
  obtain ⟨c, hcc⟩ := Classical.axiomOfChoice hb
  refine ⟨(List.range n).map c, by simp, fun R => ?_, by simp only [reachBytes] at hr; omega⟩
  have hs := sees_rows (R := R) h0 hn hl (fun i h u hu => by rw [hcc i h] at hu; simp at hu; subst hu; rfl) hc
  have e : (List.range n).flatMap row = bools ((List.range n).map c) := by
    rw [bools, List.map_map]
    have : ∀ k, k ≤ n → (List.range k).flatMap row = (List.range k).map (Value.bool ∘ c) := by
      intro k
      induction k with
      | zero => intro _; rfl
      | succ k ih =>
        intro hk
        rw [List.range_succ, List.flatMap_append, List.map_append, ih (by omega)]
        simp [hcc k (by omega)]
    exact this n (Nat.le_refl _)
  rw [e] at hs
  exact hs

theorem may_failed {k : DiskD} (h : k.failed = true) (a : Int) : k.may a = 2 := by unfold DiskD.may; rw [h]; rfl

end Go.Proofs.Ytbmcgmicnfbckaa
