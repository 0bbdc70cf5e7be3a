/- Votes: what the arguments are. -/
import Derived.Test.YtlflmnmkgaeabaaVr
import Derived.WalkKit
import Derived.ProofKit
import Derived.OpenShut
set_option maxRecDepth 8000
set_option linter.unusedVariables false
set_option linter.unusedSimpArgs false
set_option linter.unusedSectionVars false
namespace Go.Proofs.Ytlflmnmkgaeabaa
open Go.RowKit Go.Sl
attribute [local irreducible] Own

theorem flatMap_byte (l : List UInt8) : l.flatMap (fun c => [byteV c]) = bytes l := by
  induction l with
  | nil => rfl
  | cons a r ih => simp only [List.flatMap_cons, ih]; rfl
theorem states_of {W : World} {ao : Option Addr} {n cap : Nat} (h : InT Try.prog W 28 [.slice ao n cap]) : ∃ l : List UInt8, l.length = n ∧ RdsA W 1 ao n (bytes l) ∧ n ≤ 140737488351232 ∧ n ≤ cap := by
  obtain ⟨l, h1, h2, -, h4, h5⟩ := h.list (fun c : UInt8 => [byteV c]) (fun _ => True) 0 Try.underlying28 (by kernel_rfl) (fun o _ u hu => by simp at hu; subst hu; rfl) (fun cs hc => by
    obtain ⟨m, rfl, hw⟩ := hc.int_inv Try.underlying59
    obtain ⟨c, rfl⟩ := byte_of hw
    exact ⟨c, rfl, trivial⟩)
  have b1 : Try.prog.bytesOf 59 = 1 := by kernel_rfl
  rw [b1] at h5
  rw [flatMap_byte] at h2
  exact ⟨l, h1, h2, by simp only [reachBytes] at h5; omega, h4⟩
structure BalD.wf (W : World) (b : BalD) : Prop where
  fit : b.s.fit
  st : RdsA W 1 b.s.so b.s.states.length (bytes b.s.states)
theorem bal_of {W : World} {cs : List Value} (h : InT Try.prog W 61 cs) : ∃ b : BalD, cs = b.cells ∧ b.wf W := by
  have hl := (h.struct_inv Try.underlying61).1
  have c13 : Try.prog.cellsOf 61 = 13 := by kernel_rfl
  rw [c13] at hl
  match cs, hl with
  | [b0, v0, v1, v2, v3, v4, v5, v6, v7, v8, v9, v10, v11], _ =>
    have kb : Try.prog.cellsOf 4 = 1 := by kernel_rfl
    have ki : Try.prog.cellsOf 3 = 1 := by kernel_rfl
    have ku : Try.prog.cellsOf 25 = 1 := by kernel_rfl
    have kg : Try.prog.cellsOf 27 = 3 := by kernel_rfl
    have ks : Try.prog.cellsOf 28 = 1 := by kernel_rfl
    have kS : Try.prog.cellsOf 30 = 12 := by kernel_rfl
    have f0 : InT Try.prog W 4 [b0] := h.field (i := 0) (off := 0) Try.underlying61 rfl rfl rfl kb
    have fS : InT Try.prog W 30 [v0, v1, v2, v3, v4, v5, v6, v7, v8, v9, v10, v11] := h.field (i := 1) (off := 1) Try.underlying61 rfl rfl rfl kS
    have g0 : InT Try.prog W 25 [v0] := fS.field (i := 0) (off := 0) Try.underlying30 rfl rfl rfl ku
    have g1 : InT Try.prog W 25 [v1] := fS.field (i := 1) (off := 1) Try.underlying30 rfl rfl rfl ku
    have g2 : InT Try.prog W 25 [v2] := fS.field (i := 2) (off := 2) Try.underlying30 rfl rfl rfl ku
    have g3 : InT Try.prog W 3 [v3] := fS.field (i := 3) (off := 3) Try.underlying30 rfl rfl rfl ki
    have g4 : InT Try.prog W 27 [v4, v5, v6] := fS.field (i := 4) (off := 4) Try.underlying30 rfl rfl rfl kg
    have g5 : InT Try.prog W 3 [v7] := fS.field (i := 5) (off := 7) Try.underlying30 rfl rfl rfl ki
    have g6 : InT Try.prog W 4 [v8] := fS.field (i := 6) (off := 8) Try.underlying30 rfl rfl rfl kb
    have g7 : InT Try.prog W 4 [v9] := fS.field (i := 7) (off := 9) Try.underlying30 rfl rfl rfl kb
    have g8 : InT Try.prog W 28 [v10] := fS.field (i := 8) (off := 10) Try.underlying30 rfl rfl rfl ks
    have g9 : InT Try.prog W 3 [v11] := fS.field (i := 9) (off := 11) Try.underlying30 rfl rfl rfl ki
    have q0 : InT Try.prog W 3 [v4] := g4.field (i := 0) (off := 0) Try.underlying27 rfl rfl rfl ki
    have q1 : InT Try.prog W 3 [v5] := g4.field (i := 1) (off := 1) Try.underlying27 rfl rfl rfl ki
    have q2 : InT Try.prog W 3 [v6] := g4.field (i := 2) (off := 2) Try.underlying27 rfl rfl rfl ki
    obtain ⟨hb, e0⟩ := f0.bool_inv Try.underlying4
    obtain ⟨n0, e1, w0⟩ := g0.int_inv Try.underlying25
    obtain ⟨n1, e2, w1⟩ := g1.int_inv Try.underlying25
    obtain ⟨n2, e3, w2⟩ := g2.int_inv Try.underlying25
    obtain ⟨n3, e4, w3⟩ := g3.int_inv Try.underlying3
    obtain ⟨n4, e5, w4⟩ := q0.int_inv Try.underlying3
    obtain ⟨n5, e6, w5⟩ := q1.int_inv Try.underlying3
    obtain ⟨n6, e7, w6⟩ := q2.int_inv Try.underlying3
    obtain ⟨n7, e8, w7⟩ := g5.int_inv Try.underlying3
    obtain ⟨b8, e9⟩ := g6.bool_inv Try.underlying4
    obtain ⟨b9, e10⟩ := g7.bool_inv Try.underlying4
    obtain ⟨ao, n10, cap, _, e11, _⟩ := g8.slice_inv Try.underlying28
    obtain ⟨n11, e12, w11⟩ := g9.int_inv Try.underlying3
    rw [e11] at g8
    obtain ⟨l, rfl, hr, hb1, hcp⟩ := states_of g8
    cases e0; cases e1; cases e2; cases e3; cases e4; cases e5; cases e6; cases e7; cases e8; cases e9; cases e10; cases e11; cases e12
    have y0 := bounds_u64 w0; have y1 := bounds_u64 w1; have y2 := bounds_u64 w2
    have y3 := bounds_i64 w3; have y4 := bounds_i64 w4; have y5 := bounds_i64 w5; have y6 := bounds_i64 w6; have y7 := bounds_i64 w7; have y11 := bounds_i64 w11
    obtain ⟨m0, rfl⟩ : ∃ m : Nat, n0 = m := ⟨n0.toNat, by omega⟩
    obtain ⟨m1, rfl⟩ : ∃ m : Nat, n1 = m := ⟨n1.toNat, by omega⟩
    obtain ⟨m2, rfl⟩ : ∃ m : Nat, n2 = m := ⟨n2.toNat, by omega⟩
    exact ⟨⟨hb, ⟨m0, m1, m2, n3, n4, n5, n6, n7, b8, b9, ao, cap, l, n11⟩⟩, rfl, ⟨⟨by simp only; omega, by simp only; omega, by simp only; omega, y3, y4, y5, y6, y7, y11, hb1, hcp⟩, hr⟩⟩
theorem bals_of {W : World} {ao : Option Addr} {n cap : Nat} (h : InT Try.prog W 22 [.slice ao n cap]) : ∃ l : List BalD, l.length = n ∧ (∀ R, Bals W R ao l) ∧ n ≤ 140737488351232 := by
  obtain ⟨l, h1, h2, h3, h4, h5⟩ := h.list BalD.cells (BalD.wf W) ⟨false, zeroSup⟩ Try.underlying22 (by kernel_rfl) (fun o _ => bal_one o) (fun cs hc => bal_of hc)
  have b1 : 1 ≤ Try.prog.bytesOf 61 := of_decide_eq_true (by kernel_rfl)
  have hc : cap ≤ reachBytes := Nat.le_trans (Nat.le_mul_of_pos_right _ b1) h5
  subst h1
  exact ⟨l, rfl, fun R => ⟨h2 R, fun b hb => (h3 b hb).st R, fun b hb => (h3 b hb).fit⟩, by simp only [reachBytes] at hc; omega⟩
end Go.Proofs.Ytlflmnmkgaeabaa
