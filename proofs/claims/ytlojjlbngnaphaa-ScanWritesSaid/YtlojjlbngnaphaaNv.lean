/- Scan: arguments: lists of patches, lists of such lists. -/
import Derived.Test.YtlojjlbngnaphaaNm
import Derived.WalkKit
import Derived.ProofKit
import Derived.OpenShut
set_option maxRecDepth 8000
set_option linter.unusedVariables false
set_option linter.unusedSimpArgs false
set_option linter.unusedSectionVars false
namespace Go.Proofs.Ytlojjlbngnaphaa
open Go.RowKit Go.Sl
attribute [local irreducible] Own

theorem u16_of {z : Int} (h : (Lit.int .u16 z).wf = true) : ∃ m : Nat, z = m ∧ m < 65536 := by
  simp [Lit.wf, IntKind.min, IntKind.max, IntKind.signed, IntKind.bits] at h
  exact ⟨z.toNat, by omega, by omega⟩
theorem u8n_of {z : Int} (h : (Lit.int .u8 z).wf = true) : ∃ m : Nat, z = m ∧ m < 256 := by
  simp [Lit.wf, IntKind.min, IntKind.max, IntKind.signed, IntKind.bits] at h
  exact ⟨z.toNat, by omega, by omega⟩
structure PatE.wf (W : World) (p : PatE) : Prop where
  rd : RdsA W 1 p.d.ao p.d.data.length (bytes p.d.data)
  ok : p.d.ok
  fit : p.fit
theorem pat_of {W : World} {cs : List Value} (h : InT Try.prog W 78 cs) : ∃ p : PatE, cs = p.cells ∧ p.wf W := by
  have hl := (h.struct_inv Try.underlying78).1
  have c3 : Try.prog.cellsOf 78 = 3 := by kernel_rfl
  rw [c3] at hl
  match cs, hl with
  | [v0, v1, v2], _ =>
    have ki : Try.prog.cellsOf 3 = 1 := by kernel_rfl
    have ks : Try.prog.cellsOf 55 = 1 := by kernel_rfl
    have g0 : InT Try.prog W 3 [v0] := h.field (i := 0) (off := 0) Try.underlying78 rfl rfl rfl ki
    have g1 : InT Try.prog W 3 [v1] := h.field (i := 1) (off := 1) Try.underlying78 rfl rfl rfl ki
    have g2 : InT Try.prog W 55 [v2] := h.field (i := 2) (off := 2) Try.underlying78 rfl rfl rfl ks
    obtain ⟨z0, e0, w0⟩ := g0.int_inv Try.underlying3
    obtain ⟨z1, e1, w1⟩ := g1.int_inv Try.underlying3
    obtain ⟨ao, n, cap, _, e2, _⟩ := g2.slice_inv Try.underlying55
    rw [e2] at g2
    obtain ⟨l, rfl, hr, hb, hcp⟩ := bytesC_of g2
    cases e0; cases e1; cases e2
    exact ⟨⟨z0, z1, ⟨ao, cap, l⟩⟩, rfl, ⟨hr, ⟨(hr []).nil, hcp⟩, ⟨i64_of w0, i64_of w1, hb⟩⟩⟩
theorem pats_of {W : World} {ao : Option Addr} {n cap : Nat} (h : InT Try.prog W 23 [.slice ao n cap]) : ∃ l : List PatE, l.length = n ∧ (∀ R, RdPats W R ao l) ∧ (∀ p ∈ l, p.fit) ∧ n ≤ 140737488351232 ∧ n ≤ cap := by
  obtain ⟨l, h1, h2, h3, h4, h5⟩ := h.list PatE.cells (PatE.wf W) ⟨0, 0, ⟨none, 0, []⟩⟩ Try.underlying23 (by kernel_rfl) (fun o _ => pat_one o) (fun cs hc => pat_of hc)
  have b1 : 1 ≤ Try.prog.bytesOf 78 := of_decide_eq_true (by kernel_rfl)
  have hb : cap ≤ reachBytes := Nat.le_trans (Nat.le_mul_of_pos_right cap b1) h5
  refine ⟨l, h1, fun R => ⟨?_, fun p hp => (h3 p hp).rd R, fun p hp => (h3 p hp).ok⟩, fun p hp => (h3 p hp).fit, by simp only [reachBytes] at hb; omega, h4⟩
  rw [h1]; exact h2 R
/-- A list within a list. -/
structure PlsE where
  ao : Option Addr
  cap : Nat
  pats : List PatE
abbrev PlsE.hdr (e : PlsE) : Value := .slice e.ao e.pats.length e.cap
structure PlsE.wf (W : World) (e : PlsE) : Prop where
  rd : ∀ R, RdPats W R e.ao e.pats
  fit : ∀ p ∈ e.pats, p.fit
  len : e.pats.length ≤ 140737488351232
  cap : e.pats.length ≤ e.cap
theorem pls_of {W : World} {ao : Option Addr} {n cap : Nat} (h : InT Try.prog W 47 [.slice ao n cap]) : ∃ l : List PlsE, l.length = n ∧ RdsA W 1 ao n (l.map PlsE.hdr) ∧ (∀ p ∈ l, p.wf W) ∧ n ≤ 140737488351232 ∧ n ≤ cap := by
  obtain ⟨l, h1, h2, h3, h4, h5⟩ := h.list (fun e : PlsE => [e.hdr]) (PlsE.wf W) ⟨none, 0, []⟩ Try.underlying47 (by kernel_rfl) (fun o _ u hu => by simp at hu; subst hu; rfl) (fun cs hc => by
    obtain ⟨a, m, c, _, e, _⟩ := hc.slice_inv Try.underlying23
    rw [e] at hc
    obtain ⟨l, rfl, q1, q2, q3, q4⟩ := pats_of hc
    exact ⟨⟨a, c, l⟩, e, ⟨q1, q2, q3, q4⟩⟩)
  have b1 : 1 ≤ Try.prog.bytesOf 23 := of_decide_eq_true (by kernel_rfl)
  have hb : cap ≤ reachBytes := Nat.le_trans (Nat.le_mul_of_pos_right cap b1) h5
  rw [flatMap_single] at h2
  exact ⟨l, h1, h2, h3, by simp only [reachBytes] at hb; omega, h4⟩
end Go.Proofs.Ytlojjlbngnaphaa
