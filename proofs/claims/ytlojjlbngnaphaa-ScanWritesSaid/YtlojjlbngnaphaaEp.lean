/- RecordLogged, RecordReads: the walks of the laws. -/
import Derived.Test.YtlojjlbngnaphaaEo
import Derived.Test.YtlojjlbngnaphaaBo
import Derived.Test.YtlojjlbngnaphaaSk
set_option maxRecDepth 8000
set_option linter.unusedVariables false
set_option linter.unusedSimpArgs false
set_option linter.unusedSectionVars false
namespace Go.Proofs.Ytlojjlbngnaphaa
open Go.RowKit Go.Sl
attribute [local irreducible] Own

theorem flatMap_byteV (l : List UInt8) : l.flatMap (fun c => [byteV c]) = bytes l := by
  induction l with
  | nil => rfl
  | cons a r ih => simp only [List.flatMap_cons, ih]; rfl
theorem bytesC_of {W : World} {ao : Option Addr} {n cap : Nat} (h : InT Try.prog W 55 [.slice ao n cap]) : ∃ l : List UInt8, l.length = n ∧ RdsA W 1 ao n (bytes l) ∧ n ≤ 140737488351232 ∧ n ≤ cap := by
  obtain ⟨l, h1, h2, -, h4, h5⟩ := h.list (fun c : UInt8 => [byteV c]) (fun _ => True) 0 Try.underlying55 (by kernel_rfl) (fun o _ u hu => by simp at hu; subst hu; rfl) (fun cs hc => by
    obtain ⟨m, rfl, hw⟩ := hc.int_inv Try.underlying5
    obtain ⟨c, rfl⟩ := byte_of hw
    exact ⟨c, rfl, trivial⟩)
  have b1 : Try.prog.bytesOf 5 = 1 := by kernel_rfl
  rw [b1] at h5
  rw [flatMap_byteV] at h2
  exact ⟨l, h1, h2, by simp only [reachBytes] at h5; omega, h4⟩
theorem escM_length {b : List UInt8} (h : b.length = 128) : (escM b).length = 128 := by
  unfold escM; split
  · simp [nought4]; omega
  · exact h
theorem escD_of {b : List UInt8} (h : b.length = 128) : escD b = ⟨escM b, isEsc b, 0⟩ := if_pos h
theorem escM_inj {a b : List UInt8} : (escM a = escM b ∧ isEsc a = isEsc b) ↔ a = b := by
  constructor
  · rintro ⟨h1, h2⟩
    unfold escM at h1
    unfold isEsc at h2
    rw [decide_eq_decide] at h2
    by_cases h : a.take 4 = magicL
    · have h' := h2.1 h
      rw [if_pos h, if_pos h'] at h1
      have h3 := List.append_cancel_left h1
      rw [← List.take_append_drop 4 a, ← List.take_append_drop 4 b, h, h', h3]
    · have h' := fun q => h (h2.2 q)
      rw [if_neg h, if_neg h'] at h1
      exact h1
  · rintro rfl; exact ⟨rfl, rfl⟩
theorem looks_err (b : List UInt8) (k : UInt8) : 0 ≤ looksM b k ∧ looksM b k ≤ 81 := by unfold looksM; split; decide; split; decide; split <;> decide
theorem hdr_err (b : List UInt8) : 0 ≤ (HdrD.dec b).1 ∧ (HdrD.dec b).1 ≤ 81 := by
  have := looks_err b 1; unfold HdrD.dec; split
  · exact this
  · split <;> simp
theorem cmt_err (b : List UInt8) : 0 ≤ (CmtD.dec b).1 ∧ (CmtD.dec b).1 ≤ 81 := by
  have := looks_err b 2; unfold CmtD.dec; split
  · exact this
  · split <;> simp
theorem chk_err (b : List UInt8) : 0 ≤ (ChkD.dec b).1 ∧ (ChkD.dec b).1 ≤ 81 := by
  have := looks_err b 3; unfold ChkD.dec; split
  · exact this
  · split <;> simp
theorem zeroH_fit : zeroH.fit := by constructor <;> decide
theorem zeroC_fit : zeroC.fit := by constructor <;> decide
theorem zeroK_fit : zeroK.fit := by constructor <;> decide
theorem hdr_dfit (b : List UInt8) : (HdrD.dec b).2.fit := by
  unfold HdrD.dec; split
  · exact zeroH_fit
  · split
    · exact hdr_fit b
    · exact zeroH_fit
theorem cmt_dfit (b : List UInt8) : (CmtD.dec b).2.fit := by
  unfold CmtD.dec; split
  · exact zeroC_fit
  · split
    · exact cmt_fit b
    · exact zeroC_fit
theorem chk_dfit (b : List UInt8) : (ChkD.dec b).2.fit := by
  unfold ChkD.dec; split
  · exact zeroK_fit
  · split
    · exact chk_fit b
    · exact zeroK_fit
end Go.Proofs.Ytlojjlbngnaphaa
