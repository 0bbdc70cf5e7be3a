/- What the law's arguments are: bytes, scripts of calls. -/
import Derived.Test.YthefmgmgmoanlaaLq
import Derived.Test.YthefmgmgmoanlaaArg
import Derived.WalkKit
import Derived.ProofKit
import Derived.OpenShut
set_option maxRecDepth 8000
set_option linter.unusedVariables false
set_option linter.unusedSimpArgs false
set_option linter.unusedSectionVars false
namespace Go.Proofs.Ythefmgmgmoanlaa
open Go.RowKit Go.Sl

theorem byte_of {n : Int} (h : (Lit.int .u8 n).wf = true) : ∃ c : UInt8, n = (c.toNat : Int) := by
  have hb : 0 ≤ n ∧ n ≤ 255 := by simpa [Lit.wf, IntKind.min, IntKind.max, IntKind.signed, IntKind.bits] using h
  refine ⟨UInt8.ofNat n.toNat, ?_⟩
  simp; omega

theorem bytes_of {W : World} {ao : Option Addr} {n cap : Nat} (h : InT Try.prog W 35 [.slice ao n cap]) : ∃ l : List UInt8, l.length = n ∧ RdsA W 1 ao n (bytes l) ∧ n ≤ 140737488351232 := by
  obtain ⟨ao', n', cap', row, he, h0, hn, hm, hr, hl, hc, hi⟩ := h.slice_inv Try.underlying35
  cases he
  have c1 : Try.prog.cellsOf 5 = 1 := by kernel_rfl
  have b1 : Try.prog.bytesOf 5 = 1 := by kernel_rfl
  rw [c1] at hl hc
  rw [b1] at hr
  have hb : ∀ i, ∃ c : UInt8, i < cap → row i = [byteV c] := fun i => by
    by_cases h : i < cap
    · obtain ⟨m, hm1, hm2⟩ := (hi i h).int_inv Try.underlying5
      obtain ⟨c, rfl⟩ := byte_of hm2
      exact ⟨c, fun _ => hm1⟩
    · exact ⟨0, fun h' => absurd h' h⟩
  obtain ⟨c, hcc⟩ := Classical.axiomOfChoice hb
  refine ⟨(List.range n).map c, by simp, fun R => ?_, by simp only [reachBytes] at hr; omega⟩
  have hs := sees_rows (R := R) h0 hn hl (fun i h u hu => by rw [hcc i h] at hu; simp at hu; subst hu; rfl) hc
  have e : (List.range n).flatMap row = bytes ((List.range n).map c) := by
    rw [bytes, List.map_map]
    have : ∀ k, k ≤ n → (List.range k).flatMap row = (List.range k).map (byteV ∘ c) := by
      intro k
      induction k with
      | zero => intro _; rfl
      | succ k ih =>
        intro hk
        rw [List.range_succ, List.flatMap_append, List.map_append, ih (by omega)]
        simp [hcc k (by omega)]
    exact this n (Nat.le_refl _)
  rw [e] at hs
  exact hs

theorem op_of {W : World} {cs : List Value} (h : InT Try.prog W 85 cs) : ∃ o : OpD, cs = o.cells ∧ o.wf W := by
  have hl := (h.struct_inv Try.underlying85).1
  have c4 : Try.prog.cellsOf 85 = 4 := by kernel_rfl
  rw [c4] at hl
  match cs, hl with
  | [v0, v1, v2, v3], _ =>
    have k3 : Try.prog.cellsOf 3 = 1 := by kernel_rfl
    have k22 : Try.prog.cellsOf 22 = 1 := by kernel_rfl
    have k35 : Try.prog.cellsOf 35 = 1 := by kernel_rfl
    have f0 : InT Try.prog W 3 [v0] := h.field (i := 0) (off := 0) Try.underlying85 rfl rfl rfl k3
    have f1 : InT Try.prog W 22 [v1] := h.field (i := 1) (off := 1) Try.underlying85 rfl rfl rfl k22
    have f2 : InT Try.prog W 3 [v2] := h.field (i := 2) (off := 2) Try.underlying85 rfl rfl rfl k3
    have f3 : InT Try.prog W 35 [v3] := h.field (i := 3) (off := 3) Try.underlying85 rfl rfl rfl k35
    obtain ⟨n0, e0, -⟩ := f0.int_inv Try.underlying3
    obtain ⟨n1, e1, w1⟩ := f1.int_inv Try.underlying22
    obtain ⟨n2, e2, w2⟩ := f2.int_inv Try.underlying3
    obtain ⟨ao, n3, cap, _, e3, _⟩ := f3.slice_inv Try.underlying35
    rw [e3] at f3
    obtain ⟨l, rfl, hr, hb⟩ := bytes_of f3
    cases e0; cases e1; cases e2; cases e3
    have b1 := bounds_u64 w1
    have b2 := bounds_i64 w2
    obtain ⟨m, rfl⟩ : ∃ m : Nat, n1 = m := ⟨n1.toNat, by omega⟩
    exact ⟨⟨n0, m, n2, ao, cap, l⟩, rfl, ⟨by simp only; omega, b2.1, b2.2, hr, by simp only; omega⟩⟩

theorem scr_of {W : World} {ao : Option Addr} {n cap : Nat} (h : InT Try.prog W 65 [.slice ao n cap]) : ∃ l : List OpD, l.length = n ∧ Scr W ao l := by
  obtain ⟨ao', n', cap', row, he, h0, hn, hm, hr, hl, hc, hi⟩ := h.slice_inv Try.underlying65
  cases he
  have c1 : Try.prog.cellsOf 85 = 4 := by kernel_rfl
  have b1 : 1 ≤ Try.prog.bytesOf 85 := of_decide_eq_true (by kernel_rfl)
  rw [c1] at hl hc
  have hb : ∀ i, ∃ o : OpD, i < cap → row i = o.cells ∧ o.wf W := fun i => by
    by_cases h : i < cap
    · obtain ⟨o, h1, h2⟩ := op_of (hi i h)
      exact ⟨o, fun _ => ⟨h1, h2⟩⟩
    · exact ⟨⟨0, 0, 0, none, 0, []⟩, fun h' => absurd h' h⟩
  obtain ⟨c, hcc⟩ := Classical.axiomOfChoice hb
  have hcap : cap ≤ reachBytes := Nat.le_trans (Nat.le_mul_of_pos_right _ b1) hr
  have e : (List.range n).flatMap row = opCells ((List.range n).map c) := by
    have : ∀ k, k ≤ n → (List.range k).flatMap row = opCells ((List.range k).map c) := by
      intro k
      induction k with
      | zero => intro _; rfl
      | succ k ih =>
        intro hk
        rw [List.range_succ, List.flatMap_append, List.map_append, ih (by omega)]
        simp [opCells, (hcc k (by omega)).1]
    exact this n (Nat.le_refl _)
  refine ⟨(List.range n).map c, by simp, ⟨fun R => ?_, fun o ho => ?_, by simp only [reachBytes] at hcap; simp; omega⟩⟩
  · have hs := sees_rows (R := R) h0 hn hl (fun i h u hu => by rw [(hcc i h).1] at hu; simp at hu; rcases hu with rfl | rfl | rfl | rfl <;> rfl) hc
    rw [e] at hs
    simpa using hs
  · obtain ⟨i, hi', rfl⟩ := List.mem_map.1 ho
    exact (hcc i (by have := List.mem_range.1 hi'; omega)).2
end Go.Proofs.Ythefmgmgmoanlaa
