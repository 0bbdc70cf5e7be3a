/- The document's DecodeHeader, DecodeCommit, DecodeCheck. -/
import Derived.Test.YtgkpdpoblofehaaGreatEh
import Derived.Test.YtgkpdpoblofehaaGreatSlx
import Derived.Test.YtgkpdpoblofehaaGreatSlm
set_option maxRecDepth 8000
set_option linter.unusedVariables false
set_option linter.unusedSimpArgs false
set_option linter.unusedSectionVars false
namespace Go.Proofs.YtgkpdpoblofehaaGreat
open Go.RowKit Go.Sl
attribute [local irreducible] Own

def HdrD.parse2 (b : List UInt8) : HdrD := ⟨numAt b 8 8, numAt b 16 8, numAt b 24 4, numAt b 28 4, numAt b 32 4, numAt b 36 4, decide (b.getD 40 0 = 1), numAt b 44 4⟩
theorem numAt_lt (b : List UInt8) (a w : Nat) : numAt b a w < 256 ^ w := by
  unfold numAt
  refine Nat.lt_of_lt_of_le (leVal_lt _) (Nat.pow_le_pow_right (by decide) ?_)
  rw [List.length_take]; exact Nat.min_le_left _ _
theorem numAt_low (b : List UInt8) (a w : Nat) (h : a < b.length) : (b.getD a 0).toNat = numAt b a (w + 1) % 256 := by
  unfold numAt
  rw [List.drop_eq_getElem_cons h, List.take_succ_cons, leVal]
  have := (b[a]).toNat_lt
  simp only [List.getD, List.getElem?_eq_getElem h, Option.getD_some]
  omega
theorem hdr_esc {b : List UInt8} {h : HdrD} (hg : h.good) (he : h.enc.2 = b) : numAt b 40 4 = bitN h.escaped := by
  rw [hdr_ok hg] at he
  rw [← he]
  exact sectF_num 1 h.epoch h.seq h.rest (hdr_sum h) 8 (bitN h.escaped, 4) rfl (by cases h.escaped <;> decide)
theorem bitN_dec (b : Bool) : decide (bitN b = 1) = b := by cases b <;> rfl
theorem hdr_dec2 {b : List UInt8} (hb : b.length = 128) (hl : looksM b 1 = 0) : HdrD.dec b = if (HdrD.parse2 b).good ∧ (HdrD.parse2 b).enc.2 = b then (0, HdrD.parse2 b) else (80, zeroH) := by
  have k40 := numAt_low b 40 3 (by omega)
  have e1 : (HdrD.parse2 b).good ∧ (HdrD.parse2 b).enc.2 = b → HdrD.parse b = HdrD.parse2 b := by
    rintro ⟨g, e⟩
    have h := hdr_esc g e
    unfold HdrD.parse HdrD.parse2 at *
    rw [h, bitN_dec]
  have e2 : (HdrD.parse b).good ∧ (HdrD.parse b).enc.2 = b → HdrD.parse b = HdrD.parse2 b := by
    rintro ⟨g, e⟩
    have h := hdr_esc g e
    unfold HdrD.parse HdrD.parse2 at *
    congr 1
    dsimp only at h
    rw [decide_eq_decide]
    constructor
    · intro q
      have : (b.getD 40 0).toNat = 1 := by rw [k40, show (3 + 1) = 4 from rfl, q]
      exact UInt8.toNat_inj.1 this
    · intro q
      rw [q] at k40
      have : numAt b 40 4 = 0 ∨ numAt b 40 4 = 1 := by rw [h]; unfold bitN; split <;> simp
      have k41 : (1 : UInt8).toNat = 1 := rfl
      rw [k41] at k40
      change 1 = numAt b 40 4 % 256 at k40
      omega
  unfold HdrD.dec
  rw [if_neg (by rw [hl]; simp)]
  by_cases h1 : (HdrD.parse2 b).good ∧ (HdrD.parse2 b).enc.2 = b
  · rw [if_pos h1, e1 h1, if_pos h1]
  · rw [if_neg h1]
    by_cases h2 : (HdrD.parse b).good ∧ (HdrD.parse b).enc.2 = b
    · exact absurd (by rw [← e2 h2]; exact h2) h1
    · rw [if_neg h2]
theorem cmt_dec2 {b : List UInt8} (hl : looksM b 2 = 0) : CmtD.dec b = if (CmtD.parse b).good ∧ (CmtD.parse b).enc.2 = b then (0, CmtD.parse b) else (80, zeroC) := by
  unfold CmtD.dec; rw [if_neg (by rw [hl]; simp)]
theorem chk_dec2 {b : List UInt8} (hl : looksM b 3 = 0) : ChkD.dec b = if (ChkD.parse b).good ∧ (ChkD.parse b).enc.2 = b then (0, ChkD.parse b) else (80, zeroK) := by
  unfold ChkD.dec; rw [if_neg (by rw [hl]; simp)]
theorem hdr_decB {b : List UInt8} (hl : looksM b 1 ≠ 0) : HdrD.dec b = (looksM b 1, zeroH) := by unfold HdrD.dec; rw [if_pos hl]
theorem cmt_decB {b : List UInt8} (hl : looksM b 2 ≠ 0) : CmtD.dec b = (looksM b 2, zeroC) := by unfold CmtD.dec; rw [if_pos hl]
theorem chk_decB {b : List UInt8} (hl : looksM b 3 ≠ 0) : ChkD.dec b = (looksM b 3, zeroK) := by unfold ChkD.dec; rw [if_pos hl]
theorem hdr_one (h : HdrD) : ∀ u ∈ h.cells, u.oneCell' = true := by
  intro u hu; simp only [HdrD.cells, List.mem_cons, List.not_mem_nil, or_false] at hu
  rcases hu with h | h | h | h | h | h | h | h <;> subst h <;> rfl
theorem cmt_one (h : CmtD) : ∀ u ∈ h.cells, u.oneCell' = true := by
  intro u hu; simp only [CmtD.cells, List.mem_cons, List.not_mem_nil, or_false] at hu
  rcases hu with h | h | h | h <;> subst h <;> rfl
theorem chk_one (h : ChkD) : ∀ u ∈ h.cells, u.oneCell' = true := by
  intro u hu; simp only [ChkD.cells, List.mem_cons, List.not_mem_nil, or_false] at hu
  rcases hu with h | h | h <;> subst h <;> rfl
theorem hdr_fit2 (b : List UInt8) : (HdrD.parse2 b).fit := by
  have h := numAt_lt b
  refine ⟨h 8 8, h 16 8, ?_, ?_, ?_, ?_, h 44 4⟩
  · have := h 24 4; simp only [HdrD.parse2]; omega
  · have := h 28 4; simp only [HdrD.parse2]; omega
  · have := h 32 4; simp only [HdrD.parse2]; omega
  · have := h 36 4; simp only [HdrD.parse2]; omega
theorem hdr_fit (b : List UInt8) : (HdrD.parse b).fit := by
  have h := numAt_lt b
  refine ⟨h 8 8, h 16 8, ?_, ?_, ?_, ?_, h 44 4⟩
  · have := h 24 4; simp only [HdrD.parse]; omega
  · have := h 28 4; simp only [HdrD.parse]; omega
  · have := h 32 4; simp only [HdrD.parse]; omega
  · have := h 36 4; simp only [HdrD.parse]; omega
theorem cmt_fit (b : List UInt8) : (CmtD.parse b).fit := by
  have h := numAt_lt b
  refine ⟨h 8 8, h 16 8, ?_, h 28 4⟩
  have := h 24 4; simp only [CmtD.parse]; omega
theorem chk_fit (b : List UInt8) : (ChkD.parse b).fit := by
  have h := numAt_lt b
  refine ⟨h 8 8, h 16 8, ?_⟩
  have := h 24 4; simp only [ChkD.parse]; omega
theorem looks_len {b : List UInt8} {k : UInt8} (h : looksM b k = 0) : b.length = 128 := by
  unfold looksM at h; split at h
  · cases h
  · omega
theorem enc_bad {h : HdrD} : h.enc.1 ≠ 0 ↔ ¬ h.good := by unfold HdrD.enc; split <;> simp_all
theorem encc_bad {h : CmtD} : h.enc.1 ≠ 0 ↔ ¬ h.good := by unfold CmtD.enc; split <;> simp_all
theorem encs_bad {h : ChkD} : h.enc.1 ≠ 0 ↔ ¬ h.good := by unfold ChkD.enc; split <;> simp_all

theorem u8_one (c : UInt8) : ((c.toNat : Int) == 1) = decide (c = 1) := by
  rw [Bool.eq_iff_iff]
  simp only [beq_iff_eq, decide_eq_true_eq]
  constructor
  · intro h; exact UInt8.toNat_inj.1 (by show c.toNat = 1; omega)
  · intro h; subst h; rfl
theorem own_rds {W : World} {H : List SProp} {x : Option Addr × Nat} {l : List UInt8} (hn : x.1 = none → l.length = 0) (m : OwnB x l ∈ H) : Rds W H 1 x.1 l.length (bytes l) := Rds.own (bytes_one _) m (by simp) hn
end Go.Proofs.YtgkpdpoblofehaaGreat
