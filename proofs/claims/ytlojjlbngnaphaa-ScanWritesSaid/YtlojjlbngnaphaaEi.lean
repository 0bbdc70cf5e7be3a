/- The document's DecodeHeader, DecodeCommit, DecodeCheck. -/
import Derived.Test.YtlojjlbngnaphaaEh
import Derived.Test.YtlojjlbngnaphaaSk
set_option maxRecDepth 8000
set_option linter.unusedVariables false
set_option linter.unusedSimpArgs false
set_option linter.unusedSectionVars false
namespace Go.Proofs.Ytlojjlbngnaphaa
open Go.RowKit Go.Sl
attribute [local irreducible] Own

def HdrD.parse2 (b : List UInt8) : HdrD := ⟨numAt b 8 8, numAt b 16 8, numAt b 24 4, numAt b 28 4, numAt b 32 4, numAt b 36 4, decide (b.getD 40 0 = 1), numAt b 44 4⟩
theorem numAt_lt (b : List UInt8) (a w : Nat) : numAt b a w < 256 ^ w := by
  unfold numAt
  refine Nat.lt_of_lt_of_le (leVal_lt _) (Nat.pow_le_pow_right (by decide) ?_)
  rw [List.length_take]; exact Nat.min_le_left _ _
theorem numAt_low (b : List UInt8) (a w : Nat) (h : a < b.length) : (b.getD a 0).toNat = numAt b a (w + 1) % 256 := by
  unfold numAt
  rw [List.drop_eq_getElem_cons h, List.take_succ_cons, leVal]
  have := (b[a]).toNat_lt
  simp only [List.getD, List.getElem?_eq_getElem h, Option.getD_some]
  omega
theorem hdr_esc {b : List UInt8} {h : HdrD} (hg : h.good) (he : h.enc.2 = b) : numAt b 40 4 = bitN h.escaped := by
  rw [hdr_ok hg] at he
  rw [← he]
  exact sectF_num 1 h.epoch h.seq h.rest (hdr_sum h) 8 (bitN h.escaped, 4) rfl (by cases h.escaped <;> decide)
theorem bitN_dec (b : Bool) : decide (bitN b = 1) = b := by cases b <;> rfl
theorem hdr_dec2 {b : List UInt8} (hb : b.length = 128) (hl : looksM b 1 = 0) : HdrD.dec b = if (HdrD.parse2 b).good ∧ (HdrD.parse2 b).enc.2 = b then (0, HdrD.parse2 b) else (80, zeroH) := by
  have k40 := numAt_low b 40 3 (by omega)
  have e1 : (HdrD.parse2 b).good ∧ (HdrD.parse2 b).enc.2 = b → HdrD.parse b = HdrD.parse2 b := by
    rintro ⟨g, e⟩
    have h := hdr_esc g e
    unfold HdrD.parse HdrD.parse2 at *
    rw [h, bitN_dec]
  have e2 : (HdrD.parse b).good ∧ (HdrD.parse b).enc.2 = b → HdrD.parse b = HdrD.parse2 b := by
    rintro ⟨g, e⟩
    have h := hdr_esc g e
    unfold HdrD.parse HdrD.parse2 at *
    congr 1
    dsimp only at h
    rw [decide_eq_decide]
    constructor
    · intro q
      have : (b.getD 40 0).toNat = 1 := by rw [k40, show (3 + 1) = 4 from rfl, q]
      exact UInt8.toNat_inj.1 this
    · intro q
      rw [q] at k40
      have : numAt b 40 4 = 0 ∨ numAt b 40 4 = 1 := by rw [h]; unfold bitN; split <;> simp
      have k41 : (1 : UInt8).toNat = 1 := rfl
      rw [k41] at k40
      change 1 = numAt b 40 4 % 256 at k40
      omega
  unfold HdrD.dec
  rw [if_neg (by rw [hl]; simp)]
  by_cases h1 : (HdrD.parse2 b).good ∧ (HdrD.parse2 b).enc.2 = b
  · rw [if_pos h1, e1 h1, if_pos h1]
  · rw [if_neg h1]
    by_cases h2 : (HdrD.parse b).good ∧ (HdrD.parse b).enc.2 = b
    · exact absurd (by rw [← e2 h2]; exact h2) h1
    · rw [if_neg h2]
theorem cmt_dec2 {b : List UInt8} (hl : looksM b 2 = 0) : CmtD.dec b = if (CmtD.parse b).good ∧ (CmtD.parse b).enc.2 = b then (0, CmtD.parse b) else (80, zeroC) := by
  unfold CmtD.dec; rw [if_neg (by rw [hl]; simp)]
theorem chk_dec2 {b : List UInt8} (hl : looksM b 3 = 0) : ChkD.dec b = if (ChkD.parse b).good ∧ (ChkD.parse b).enc.2 = b then (0, ChkD.parse b) else (80, zeroK) := by
  unfold ChkD.dec; rw [if_neg (by rw [hl]; simp)]
theorem hdr_decB {b : List UInt8} (hl : looksM b 1 ≠ 0) : HdrD.dec b = (looksM b 1, zeroH) := by unfold HdrD.dec; rw [if_pos hl]
theorem cmt_decB {b : List UInt8} (hl : looksM b 2 ≠ 0) : CmtD.dec b = (looksM b 2, zeroC) := by unfold CmtD.dec; rw [if_pos hl]
theorem chk_decB {b : List UInt8} (hl : looksM b 3 ≠ 0) : ChkD.dec b = (looksM b 3, zeroK) := by unfold ChkD.dec; rw [if_pos hl]
theorem hdr_one (h : HdrD) : ∀ u ∈ h.cells, u.oneCell' = true := by
  intro u hu; simp only [HdrD.cells, List.mem_cons, List.not_mem_nil, or_false] at hu
  rcases hu with h | h | h | h | h | h | h | h <;> subst h <;> rfl
theorem cmt_one (h : CmtD) : ∀ u ∈ h.cells, u.oneCell' = true := by
  intro u hu; simp only [CmtD.cells, List.mem_cons, List.not_mem_nil, or_false] at hu
  rcases hu with h | h | h | h <;> subst h <;> rfl
theorem chk_one (h : ChkD) : ∀ u ∈ h.cells, u.oneCell' = true := by
  intro u hu; simp only [ChkD.cells, List.mem_cons, List.not_mem_nil, or_false] at hu
  rcases hu with h | h | h <;> subst h <;> rfl
theorem hdr_fit2 (b : List UInt8) : (HdrD.parse2 b).fit := by
  have h := numAt_lt b
  refine ⟨h 8 8, h 16 8, ?_, ?_, ?_, ?_, h 44 4⟩
  · have := h 24 4; simp only [HdrD.parse2]; omega
  · have := h 28 4; simp only [HdrD.parse2]; omega
  · have := h 32 4; simp only [HdrD.parse2]; omega
  · have := h 36 4; simp only [HdrD.parse2]; omega
theorem hdr_fit (b : List UInt8) : (HdrD.parse b).fit := by
  have h := numAt_lt b
  refine ⟨h 8 8, h 16 8, ?_, ?_, ?_, ?_, h 44 4⟩
  · have := h 24 4; simp only [HdrD.parse]; omega
  · have := h 28 4; simp only [HdrD.parse]; omega
  · have := h 32 4; simp only [HdrD.parse]; omega
  · have := h 36 4; simp only [HdrD.parse]; omega
theorem cmt_fit (b : List UInt8) : (CmtD.parse b).fit := by
  have h := numAt_lt b
  refine ⟨h 8 8, h 16 8, ?_, h 28 4⟩
  have := h 24 4; simp only [CmtD.parse]; omega
theorem chk_fit (b : List UInt8) : (ChkD.parse b).fit := by
  have h := numAt_lt b
  refine ⟨h 8 8, h 16 8, ?_⟩
  have := h 24 4; simp only [ChkD.parse]; omega
theorem looks_len {b : List UInt8} {k : UInt8} (h : looksM b k = 0) : b.length = 128 := by
  unfold looksM at h; split at h
  · cases h
  · omega
theorem enc_bad {h : HdrD} : h.enc.1 ≠ 0 ↔ ¬ h.good := by unfold HdrD.enc; split <;> simp_all
theorem encc_bad {h : CmtD} : h.enc.1 ≠ 0 ↔ ¬ h.good := by unfold CmtD.enc; split <;> simp_all
theorem encs_bad {h : ChkD} : h.enc.1 ≠ 0 ↔ ¬ h.good := by unfold ChkD.enc; split <;> simp_all

theorem u8_one (c : UInt8) : ((c.toNat : Int) == 1) = decide (c = 1) := by
  rw [Bool.eq_iff_iff]
  simp only [beq_iff_eq, decide_eq_true_eq]
  constructor
  · intro h; exact UInt8.toNat_inj.1 (by show c.toNat = 1; omega)
  · intro h; subst h; rfl
theorem own_rds {W : World} {H : List SProp} {x : Option Addr × Nat} {l : List UInt8} (hn : x.1 = none → l.length = 0) (m : OwnB x l ∈ H) : Rds W H 1 x.1 l.length (bytes l) := Rds.own (bytes_one _) m (by simp) hn
set_option maxHeartbeats 2000000 in
theorem rdech_ok {W : World} {R : List SProp} {ao : Option Addr} {cap : Nat} {l : List UInt8} (hr : Rds W R 1 ao l.length (bytes l)) (hcap : l.length ≤ cap) :
    Does1 W Try.prog 81 [.slice ao l.length cap] R (.tuple #[.agg (HdrD.dec l).2.cells.toArray, .int .i64 (HdrD.dec l).1]) R := by
  (refine Does.enter Try.func81 Try.ntmps81 rfl rfl ?_)
  (refine w ?_; repeat ((first | refine VO.step rfl rfl ?_ | refine VD.end rfl rfl rfl ?_ | refine VD.mid rfl rfl rfl ?_); refine OpV.box rfl rfl rfl ?_; intro _; refine w ?_))
  ((first | refine VO.step rfl rfl ?_ | refine VD.end rfl rfl rfl ?_ | refine VD.mid rfl rfl rfl ?_); refine OpV.allocS sb_90 rfl ?_; intro nz)
  (refine w ?_; repeat ((first | refine VO.step rfl rfl ?_ | refine VD.end rfl rfl rfl ?_ | refine VD.mid rfl rfl rfl ?_); refine OpV.box rfl rfl rfl ?_; intro _; refine w ?_))
  have hr1 := hr.ent (H := Row nz 90 zeroH.cells :: R) (Ent.drop Ent.refl)
  ((first | refine VO.step rfl rfl ?_ | refine VD.end rfl rfl rfl ?_ | refine VD.mid rfl rfl rfl ?_); refine OpV.call rfl rfl (fun _ _ => by simp) (rlooks_ok hr1 hcap 1) Ent.refl rfl ?_)
  intro _ _
  (refine w ?_; repeat ((first | refine VO.step rfl rfl ?_ | refine VD.end rfl rfl rfl ?_ | refine VD.mid rfl rfl rfl ?_); refine OpV.box rfl rfl rfl ?_; intro _; refine w ?_))
  (refine VC.cond rfl rfl ?_ ?_ <;> intro hc)
  · have hl : looksM l 1 ≠ 0 := by simpa using hc
    rw [hdr_decB hl]
    (refine w ?_; repeat ((first | refine VO.step rfl rfl ?_ | refine VD.end rfl rfl rfl ?_ | refine VD.mid rfl rfl rfl ?_); refine OpV.box rfl rfl rfl ?_; intro _; refine w ?_))
    (apply VO.pure rfl rfl; apply PureAt.build sb_90 (pv := []) rfl; rfl; rfl)
    (refine w ?_; repeat ((first | refine VO.step rfl rfl ?_ | refine VD.end rfl rfl rfl ?_ | refine VD.mid rfl rfl rfl ?_); refine OpV.box rfl rfl rfl ?_; intro _; refine w ?_))
    (first | refine VO.step rfl rfl ?_ | refine VD.end rfl rfl rfl ?_ | refine VD.mid rfl rfl rfl ?_)
    refine OpV.stA (vs := zeroH.cells) tab_ok rfl rfl rfl rfl (hdr_one _) (by (repeat first | exact .head | apply Hole.tail)) (by simp) ?_
    (refine w ?_; repeat ((first | refine VO.step rfl rfl ?_ | refine VD.end rfl rfl rfl ?_ | refine VD.mid rfl rfl rfl ?_); refine OpV.box rfl rfl rfl ?_; intro _; refine w ?_))
    exact VE.results2 (.inl rfl) () rfl (ResIs.agg (vs := zeroH.cells) tab_ok rfl rfl (by (focus repeat first | exact .head _ | apply List.Mem.tail)) rfl rfl) (.tmp rfl) trivial rfl (Ent.re (L := R))
  have hl : looksM l 1 = 0 := by simpa using hc
  have hlen := looks_len hl
  rw [hdr_dec2 hlen hl]
  obtain ⟨a, rfl⟩ : ∃ a, ao = some a := by cases ao with | none => have := hr.nil rfl; omega | some a => exact ⟨a, rfl⟩
  have hb1 := hr1
  have hlt := numAt_lt l
  (refine w ?_; repeat ((first | refine VO.step rfl rfl ?_ | refine VD.end rfl rfl rfl ?_ | refine VD.mid rfl rfl rfl ?_); refine OpV.box rfl rfl rfl ?_; intro _; refine w ?_))
  refine VC.drawnX [1, 3, 5, 8, 11, 14, 21, 24] 25 24 [0, 2, 4, 7, 10, 13, 16, 17, 18, 19, 20, 1, 3, 5, 6, 8, 9, 11, 12, 14, 15, 21, 22, 23, 24, 25] _ 5 (fun b => Row b 90 zeroH.cells) (fun b => .pointer (some ⟨b, 0, none⟩)) rfl (by kernel_rfl) (by kernel_rfl) Ent.refl ?_
  (repeat (apply VX.take rfl rfl rfl rfl; (first | (apply PureAt.ar64 rfl rfl rfl; omega) | exact .eval tab_ok rfl | (apply PureAt.ld tab_ok rfl rfl; (focus repeat first | exact .head _ | apply List.Mem.tail); rfl) | (apply PureAt.shr rfl rfl (by decide) (by decide)) | (apply PureAt.shr rfl rfl (by omega) (by simp only [IntKind.bits]; omega)) | exact .fieldAddrA tab_ok rfl rfl | exact .sliceLH tab_ok rfl rfl rfl rfl (by omega) (by omega) | exact .sliceH tab_ok rfl rfl rfl (by omega) | exact .sliceL tab_ok rfl rfl rfl (by omega) | (first | exact .indexAddr tab_ok rfl rfl rfl rfl (by omega) | exact .indexAddrN tab_ok rfl rfl rfl rfl (by omega) | exact .indexAddrI tab_ok rfl rfl rfl rfl (toNatLit _) (by decide) (by omega) | exact .indexAddrNI tab_ok rfl rfl rfl rfl (toNatLit _) (by decide) (by omega) | exact .ldR tab_ok rfl rfl hr1 (List.getElem?_eq_getElem (by omega)) | exact .ldR tab_ok rfl rfl hr2 (List.getElem?_eq_getElem (by omega)) | exact ldB tab_ok rfl rfl hb1 (by omega) | exact ldB tab_ok rfl rfl hb2 (by omega)) | exact .sliceHI tab_ok rfl rfl rfl (toNatLit _) (by decide) (by omega) | exact .sliceLI tab_ok rfl rfl rfl (toNatLit _) (by decide) (by omega) | (apply PureAt.ldA tab_ok rfl rfl; (focus repeat first | exact .head _ | apply List.Mem.tail); rfl; rfl) | exact .ldro tab_ok rfl rfl (by assumption)); rfl; rfl; rfl))
  refine VX.re 33 (.bool (HdrD.parse2 l).escaped) rfl ?_ rfl rfl ?_
  · show Value.bool _ = Value.bool (decide (l.getD 40 0 = 1))
    rw [show l.getD 40 0 = l[40] by simp [List.getD, show 40 < l.length by omega], u8_one]
  (refine VX.call rfl rfl rfl rfl rfl rfl (fun _ _ => by simp) (fun L hL => get_ok (hr1.ent hL) 8 8 (by omega) (by decide) (by omega)) rfl (FloatX.alloc sb_90 rfl) Ent.refl rfl rfl rfl ?_)
  (refine VX.call rfl rfl rfl rfl rfl rfl (fun _ _ => by simp) (fun L hL => get_ok (hr1.ent hL) 16 8 (by omega) (by decide) (by omega)) rfl (FloatX.alloc sb_90 rfl) Ent.refl rfl rfl rfl ?_)
  (refine VX.call rfl rfl rfl rfl rfl rfl (fun _ _ => by simp) (fun L hL => get_ok (hr1.ent hL) 24 4 (by omega) (by decide) (by omega)) rfl (FloatX.alloc sb_90 rfl) Ent.refl rfl rfl rfl ?_)
  (repeat (apply VX.take rfl rfl rfl rfl; (first | (apply PureAt.ar64 rfl rfl rfl; omega) | exact .eval tab_ok rfl | (apply PureAt.ld tab_ok rfl rfl; (focus repeat first | exact .head _ | apply List.Mem.tail); rfl) | (apply PureAt.shr rfl rfl (by decide) (by decide)) | (apply PureAt.shr rfl rfl (by omega) (by simp only [IntKind.bits]; omega)) | exact .fieldAddrA tab_ok rfl rfl | exact .sliceLH tab_ok rfl rfl rfl rfl (by omega) (by omega) | exact .sliceH tab_ok rfl rfl rfl (by omega) | exact .sliceL tab_ok rfl rfl rfl (by omega) | (first | exact .indexAddr tab_ok rfl rfl rfl rfl (by omega) | exact .indexAddrN tab_ok rfl rfl rfl rfl (by omega) | exact .indexAddrI tab_ok rfl rfl rfl rfl (toNatLit _) (by decide) (by omega) | exact .indexAddrNI tab_ok rfl rfl rfl rfl (toNatLit _) (by decide) (by omega) | exact .ldR tab_ok rfl rfl hr1 (List.getElem?_eq_getElem (by omega)) | exact .ldR tab_ok rfl rfl hr2 (List.getElem?_eq_getElem (by omega)) | exact ldB tab_ok rfl rfl hb1 (by omega) | exact ldB tab_ok rfl rfl hb2 (by omega)) | exact .sliceHI tab_ok rfl rfl rfl (toNatLit _) (by decide) (by omega) | exact .sliceLI tab_ok rfl rfl rfl (toNatLit _) (by decide) (by omega) | (apply PureAt.ldA tab_ok rfl rfl; (focus repeat first | exact .head _ | apply List.Mem.tail); rfl; rfl) | exact .ldro tab_ok rfl rfl (by assumption)); rfl; rfl; rfl))
  (refine VX.call rfl rfl rfl rfl rfl rfl (fun _ _ => by simp) (fun L hL => get_ok (hr1.ent hL) 28 4 (by omega) (by decide) (by omega)) rfl (FloatX.alloc sb_90 rfl) Ent.refl rfl rfl rfl ?_)
  (repeat (apply VX.take rfl rfl rfl rfl; (first | (apply PureAt.ar64 rfl rfl rfl; omega) | exact .eval tab_ok rfl | (apply PureAt.ld tab_ok rfl rfl; (focus repeat first | exact .head _ | apply List.Mem.tail); rfl) | (apply PureAt.shr rfl rfl (by decide) (by decide)) | (apply PureAt.shr rfl rfl (by omega) (by simp only [IntKind.bits]; omega)) | exact .fieldAddrA tab_ok rfl rfl | exact .sliceLH tab_ok rfl rfl rfl rfl (by omega) (by omega) | exact .sliceH tab_ok rfl rfl rfl (by omega) | exact .sliceL tab_ok rfl rfl rfl (by omega) | (first | exact .indexAddr tab_ok rfl rfl rfl rfl (by omega) | exact .indexAddrN tab_ok rfl rfl rfl rfl (by omega) | exact .indexAddrI tab_ok rfl rfl rfl rfl (toNatLit _) (by decide) (by omega) | exact .indexAddrNI tab_ok rfl rfl rfl rfl (toNatLit _) (by decide) (by omega) | exact .ldR tab_ok rfl rfl hr1 (List.getElem?_eq_getElem (by omega)) | exact .ldR tab_ok rfl rfl hr2 (List.getElem?_eq_getElem (by omega)) | exact ldB tab_ok rfl rfl hb1 (by omega) | exact ldB tab_ok rfl rfl hb2 (by omega)) | exact .sliceHI tab_ok rfl rfl rfl (toNatLit _) (by decide) (by omega) | exact .sliceLI tab_ok rfl rfl rfl (toNatLit _) (by decide) (by omega) | (apply PureAt.ldA tab_ok rfl rfl; (focus repeat first | exact .head _ | apply List.Mem.tail); rfl; rfl) | exact .ldro tab_ok rfl rfl (by assumption)); rfl; rfl; rfl))
  (refine VX.call rfl rfl rfl rfl rfl rfl (fun _ _ => by simp) (fun L hL => get_ok (hr1.ent hL) 32 4 (by omega) (by decide) (by omega)) rfl (FloatX.alloc sb_90 rfl) Ent.refl rfl rfl rfl ?_)
  (repeat (apply VX.take rfl rfl rfl rfl; (first | (apply PureAt.ar64 rfl rfl rfl; omega) | exact .eval tab_ok rfl | (apply PureAt.ld tab_ok rfl rfl; (focus repeat first | exact .head _ | apply List.Mem.tail); rfl) | (apply PureAt.shr rfl rfl (by decide) (by decide)) | (apply PureAt.shr rfl rfl (by omega) (by simp only [IntKind.bits]; omega)) | exact .fieldAddrA tab_ok rfl rfl | exact .sliceLH tab_ok rfl rfl rfl rfl (by omega) (by omega) | exact .sliceH tab_ok rfl rfl rfl (by omega) | exact .sliceL tab_ok rfl rfl rfl (by omega) | (first | exact .indexAddr tab_ok rfl rfl rfl rfl (by omega) | exact .indexAddrN tab_ok rfl rfl rfl rfl (by omega) | exact .indexAddrI tab_ok rfl rfl rfl rfl (toNatLit _) (by decide) (by omega) | exact .indexAddrNI tab_ok rfl rfl rfl rfl (toNatLit _) (by decide) (by omega) | exact .ldR tab_ok rfl rfl hr1 (List.getElem?_eq_getElem (by omega)) | exact .ldR tab_ok rfl rfl hr2 (List.getElem?_eq_getElem (by omega)) | exact ldB tab_ok rfl rfl hb1 (by omega) | exact ldB tab_ok rfl rfl hb2 (by omega)) | exact .sliceHI tab_ok rfl rfl rfl (toNatLit _) (by decide) (by omega) | exact .sliceLI tab_ok rfl rfl rfl (toNatLit _) (by decide) (by omega) | (apply PureAt.ldA tab_ok rfl rfl; (focus repeat first | exact .head _ | apply List.Mem.tail); rfl; rfl) | exact .ldro tab_ok rfl rfl (by assumption)); rfl; rfl; rfl))
  (refine VX.call rfl rfl rfl rfl rfl rfl (fun _ _ => by simp) (fun L hL => get_ok (hr1.ent hL) 36 4 (by omega) (by decide) (by omega)) rfl (FloatX.alloc sb_90 rfl) Ent.refl rfl rfl rfl ?_)
  (repeat (apply VX.take rfl rfl rfl rfl; (first | (apply PureAt.ar64 rfl rfl rfl; omega) | exact .eval tab_ok rfl | (apply PureAt.ld tab_ok rfl rfl; (focus repeat first | exact .head _ | apply List.Mem.tail); rfl) | (apply PureAt.shr rfl rfl (by decide) (by decide)) | (apply PureAt.shr rfl rfl (by omega) (by simp only [IntKind.bits]; omega)) | exact .fieldAddrA tab_ok rfl rfl | exact .sliceLH tab_ok rfl rfl rfl rfl (by omega) (by omega) | exact .sliceH tab_ok rfl rfl rfl (by omega) | exact .sliceL tab_ok rfl rfl rfl (by omega) | (first | exact .indexAddr tab_ok rfl rfl rfl rfl (by omega) | exact .indexAddrN tab_ok rfl rfl rfl rfl (by omega) | exact .indexAddrI tab_ok rfl rfl rfl rfl (toNatLit _) (by decide) (by omega) | exact .indexAddrNI tab_ok rfl rfl rfl rfl (toNatLit _) (by decide) (by omega) | exact .ldR tab_ok rfl rfl hr1 (List.getElem?_eq_getElem (by omega)) | exact .ldR tab_ok rfl rfl hr2 (List.getElem?_eq_getElem (by omega)) | exact ldB tab_ok rfl rfl hb1 (by omega) | exact ldB tab_ok rfl rfl hb2 (by omega)) | exact .sliceHI tab_ok rfl rfl rfl (toNatLit _) (by decide) (by omega) | exact .sliceLI tab_ok rfl rfl rfl (toNatLit _) (by decide) (by omega) | (apply PureAt.ldA tab_ok rfl rfl; (focus repeat first | exact .head _ | apply List.Mem.tail); rfl; rfl) | exact .ldro tab_ok rfl rfl (by assumption)); rfl; rfl; rfl))
  (refine VX.call rfl rfl rfl rfl rfl rfl (fun _ _ => by simp) (fun L hL => get_ok (hr1.ent hL) 44 4 (by omega) (by decide) (by omega)) rfl (FloatX.alloc sb_90 rfl) Ent.refl rfl rfl rfl ?_)
  (repeat (apply VX.take rfl rfl rfl rfl; (first | (apply PureAt.ar64 rfl rfl rfl; omega) | exact .eval tab_ok rfl | (apply PureAt.ld tab_ok rfl rfl; (focus repeat first | exact .head _ | apply List.Mem.tail); rfl) | (apply PureAt.shr rfl rfl (by decide) (by decide)) | (apply PureAt.shr rfl rfl (by omega) (by simp only [IntKind.bits]; omega)) | exact .fieldAddrA tab_ok rfl rfl | exact .sliceLH tab_ok rfl rfl rfl rfl (by omega) (by omega) | exact .sliceH tab_ok rfl rfl rfl (by omega) | exact .sliceL tab_ok rfl rfl rfl (by omega) | (first | exact .indexAddr tab_ok rfl rfl rfl rfl (by omega) | exact .indexAddrN tab_ok rfl rfl rfl rfl (by omega) | exact .indexAddrI tab_ok rfl rfl rfl rfl (toNatLit _) (by decide) (by omega) | exact .indexAddrNI tab_ok rfl rfl rfl rfl (toNatLit _) (by decide) (by omega) | exact .ldR tab_ok rfl rfl hr1 (List.getElem?_eq_getElem (by omega)) | exact .ldR tab_ok rfl rfl hr2 (List.getElem?_eq_getElem (by omega)) | exact ldB tab_ok rfl rfl hb1 (by omega) | exact ldB tab_ok rfl rfl hb2 (by omega)) | exact .sliceHI tab_ok rfl rfl rfl (toNatLit _) (by decide) (by omega) | exact .sliceLI tab_ok rfl rfl rfl (toNatLit _) (by decide) (by omega) | (apply PureAt.ldA tab_ok rfl rfl; (focus repeat first | exact .head _ | apply List.Mem.tail); rfl; rfl) | exact .ldro tab_ok rfl rfl (by assumption)); rfl; rfl; rfl))
  refine VX.re 20 (.int .i64 (HdrD.parse2 l).index) rfl (by rw [i64_nat (hlt 24 4)]; rfl) rfl rfl ?_
  refine VX.re 23 (.int .i64 (HdrD.parse2 l).count) rfl (by rw [i64_nat (hlt 28 4)]; rfl) rfl rfl ?_
  refine VX.re 26 (.int .i64 (HdrD.parse2 l).member) rfl (by rw [i64_nat (hlt 32 4)]; rfl) rfl rfl ?_
  refine VX.re 29 (.int .i64 (HdrD.parse2 l).row) rfl (by rw [i64_nat (hlt 36 4)]; rfl) rfl rfl ?_
  refine VX.re 36 (.int .u32 (HdrD.parse2 l).sum) rfl (by rw [u32_nat (hlt 44 4)]; rfl) rfl rfl ?_
  (apply VX.take rfl rfl rfl rfl; apply PureAt.build sb_90 rfl; (simp [buildX, setL, Value.cells]; rfl); rfl; rfl; rfl)
  refine VX.float rfl rfl (FloatX.alloc sb_90 rfl) Ent.refl ?_
  intro nh
  (first | refine VO.step rfl rfl ?_ | refine VD.end rfl rfl rfl ?_ | refine VD.mid rfl rfl rfl ?_)
  refine OpV.stA (vs := (HdrD.parse2 l).cells) tab_ok rfl rfl rfl rfl (hdr_one _) (by (repeat first | exact .head | apply Hole.tail)) (by simp) ?_
  refine VD.ent (Ent.re (L := Row nh 90 (HdrD.parse2 l).cells :: Row nz 90 zeroH.cells :: R)) ?_
  (refine w ?_; repeat ((first | refine VO.step rfl rfl ?_ | refine VD.end rfl rfl rfl ?_ | refine VD.mid rfl rfl rfl ?_); refine OpV.box rfl rfl rfl ?_; intro _; refine w ?_))
  ((first | refine VO.step rfl rfl ?_ | refine VD.end rfl rfl rfl ?_ | refine VD.mid rfl rfl rfl ?_); refine OpV.call rfl rfl (fun _ _ => by simp) (rench_ok (HdrD.parse2 l) (hdr_fit2 l)) Ent.re rfl ?_)
  rintro ⟨a1, c1⟩ -
  refine VO.know (p := a1 = none → (HdrD.parse2 l).enc.2.length = 0) (fun w hw => hw.ownNone (.head _)) ?_
  intro hn
  (refine w ?_; repeat ((first | refine VO.step rfl rfl ?_ | refine VD.end rfl rfl rfl ?_ | refine VD.mid rfl rfl rfl ?_); refine OpV.box rfl rfl rfl ?_; intro _; refine w ?_))
  ((first | refine VO.split rfl rfl rfl ?_ ?_ | refine VD.split rfl rfl rfl ?_ ?_) <;> intro hb)
  · have hb : ¬ (HdrD.parse2 l).good := enc_bad.1 (by simpa using hb)
    rw [if_neg (fun h => hb h.1)]
    (refine w ?_; repeat ((first | refine VO.step rfl rfl ?_ | refine VD.end rfl rfl rfl ?_ | refine VD.mid rfl rfl rfl ?_); refine OpV.box rfl rfl rfl ?_; intro _; refine w ?_))
    (apply VO.pure rfl rfl; apply PureAt.build sb_90 (pv := []) rfl; rfl; rfl)
    (refine w ?_; repeat ((first | refine VO.step rfl rfl ?_ | refine VD.end rfl rfl rfl ?_ | refine VD.mid rfl rfl rfl ?_); refine OpV.box rfl rfl rfl ?_; intro _; refine w ?_))
    (first | refine VO.step rfl rfl ?_ | refine VD.end rfl rfl rfl ?_ | refine VD.mid rfl rfl rfl ?_)
    refine OpV.stA (vs := zeroH.cells) tab_ok rfl rfl rfl rfl (hdr_one _) (by (repeat first | exact .head | apply Hole.tail)) (by simp) ?_
    (refine w ?_; repeat ((first | refine VO.step rfl rfl ?_ | refine VD.end rfl rfl rfl ?_ | refine VD.mid rfl rfl rfl ?_); refine OpV.box rfl rfl rfl ?_; intro _; refine w ?_))
    exact VE.results2 (.inl rfl) () rfl (ResIs.agg (vs := zeroH.cells) tab_ok rfl rfl (by (focus repeat first | exact .head _ | apply List.Mem.tail)) rfl rfl) (.tmp rfl) trivial rfl (Ent.re (L := R))
  have hg : (HdrD.parse2 l).good := by
    have hb := hb
    by_cases hg : (HdrD.parse2 l).good
    · exact hg
    · have := enc_bad.2 hg; simp at hb; exact absurd hb this
  (refine w ?_; repeat ((first | refine VO.step rfl rfl ?_ | refine VD.end rfl rfl rfl ?_ | refine VD.mid rfl rfl rfl ?_); refine OpV.box rfl rfl rfl ?_; intro _; refine w ?_))
  (first | refine VO.pure rfl rfl (PureAt.toStr (l := (HdrD.parse2 l).enc.2) tab_ok rfl rfl rfl rfl (own_rds hn (.head _)) rfl) rfl ?_ | refine VD.take rfl rfl rfl (PureAt.toStr (l := (HdrD.parse2 l).enc.2) tab_ok rfl rfl rfl rfl (own_rds hn (.head _)) rfl) rfl ?_ | refine VQ.pure rfl rfl (PureAt.toStr (l := (HdrD.parse2 l).enc.2) tab_ok rfl rfl rfl rfl (own_rds hn (.head _)) rfl) rfl ?_ | refine VD.end rfl rfl rfl (OpV.pure (PureAt.toStr (l := (HdrD.parse2 l).enc.2) tab_ok rfl rfl rfl rfl (own_rds hn (.head _)) rfl) rfl ?_))
  (refine w ?_; repeat ((first | refine VO.step rfl rfl ?_ | refine VD.end rfl rfl rfl ?_ | refine VD.mid rfl rfl rfl ?_); refine OpV.box rfl rfl rfl ?_; intro _; refine w ?_))
  (first | refine VO.pure rfl rfl (PureAt.toStr (l := l) tab_ok rfl rfl rfl rfl (hr.ent (Ent.drop (Ent.drop (Ent.drop Ent.refl)))) rfl) rfl ?_ | refine VD.take rfl rfl rfl (PureAt.toStr (l := l) tab_ok rfl rfl rfl rfl (hr.ent (Ent.drop (Ent.drop (Ent.drop Ent.refl)))) rfl) rfl ?_ | refine VQ.pure rfl rfl (PureAt.toStr (l := l) tab_ok rfl rfl rfl rfl (hr.ent (Ent.drop (Ent.drop (Ent.drop Ent.refl)))) rfl) rfl ?_ | refine VD.end rfl rfl rfl (OpV.pure (PureAt.toStr (l := l) tab_ok rfl rfl rfl rfl (hr.ent (Ent.drop (Ent.drop (Ent.drop Ent.refl)))) rfl) rfl ?_))
  (first | refine VO.pure rfl rfl (PureAt.strEq (b := l) tab_ok rfl rfl rfl rfl) rfl ?_ | refine VD.take rfl rfl rfl (PureAt.strEq (b := l) tab_ok rfl rfl rfl rfl) rfl ?_ | refine VQ.pure rfl rfl (PureAt.strEq (b := l) tab_ok rfl rfl rfl rfl) rfl ?_ | refine VD.end rfl rfl rfl (OpV.pure (PureAt.strEq (b := l) tab_ok rfl rfl rfl rfl) rfl ?_))
  (refine w ?_; repeat ((first | refine VO.step rfl rfl ?_ | refine VD.end rfl rfl rfl ?_ | refine VD.mid rfl rfl rfl ?_); refine OpV.box rfl rfl rfl ?_; intro _; refine w ?_))
  (refine VC.cond rfl rfl ?_ ?_ <;> intro hc)
  · have hne : ¬ (HdrD.parse2 l).enc.2 = l := by simpa using hc
    rw [if_neg (fun h => hne h.2)]
    (refine w ?_; repeat ((first | refine VO.step rfl rfl ?_ | refine VD.end rfl rfl rfl ?_ | refine VD.mid rfl rfl rfl ?_); refine OpV.box rfl rfl rfl ?_; intro _; refine w ?_))
    (apply VO.pure rfl rfl; apply PureAt.build sb_90 (pv := []) rfl; rfl; rfl)
    (refine w ?_; repeat ((first | refine VO.step rfl rfl ?_ | refine VD.end rfl rfl rfl ?_ | refine VD.mid rfl rfl rfl ?_); refine OpV.box rfl rfl rfl ?_; intro _; refine w ?_))
    (first | refine VO.step rfl rfl ?_ | refine VD.end rfl rfl rfl ?_ | refine VD.mid rfl rfl rfl ?_)
    refine OpV.stA (vs := zeroH.cells) tab_ok rfl rfl rfl rfl (hdr_one _) (by (repeat first | exact .head | apply Hole.tail)) (by simp) ?_
    (refine w ?_; repeat ((first | refine VO.step rfl rfl ?_ | refine VD.end rfl rfl rfl ?_ | refine VD.mid rfl rfl rfl ?_); refine OpV.box rfl rfl rfl ?_; intro _; refine w ?_))
    exact VE.results2 (.inl rfl) () rfl (ResIs.agg (vs := zeroH.cells) tab_ok rfl rfl (by (focus repeat first | exact .head _ | apply List.Mem.tail)) rfl rfl) (.tmp rfl) trivial rfl (Ent.re (L := R))
  · have he : (HdrD.parse2 l).enc.2 = l := by simpa using hc
    rw [if_pos ⟨hg, he⟩]
    (refine w ?_; repeat ((first | refine VO.step rfl rfl ?_ | refine VD.end rfl rfl rfl ?_ | refine VD.mid rfl rfl rfl ?_); refine OpV.box rfl rfl rfl ?_; intro _; refine w ?_))
    (first | refine VO.step rfl rfl ?_ | refine VD.end rfl rfl rfl ?_ | refine VD.mid rfl rfl rfl ?_)
    refine OpV.stA (vs := (HdrD.parse2 l).cells) tab_ok rfl rfl rfl rfl (hdr_one _) (by (repeat first | exact .head | apply Hole.tail)) (by simp) ?_
    (refine w ?_; repeat ((first | refine VO.step rfl rfl ?_ | refine VD.end rfl rfl rfl ?_ | refine VD.mid rfl rfl rfl ?_); refine OpV.box rfl rfl rfl ?_; intro _; refine w ?_))
    exact VE.results2 (.inl rfl) () rfl (ResIs.agg (vs := (HdrD.parse2 l).cells) tab_ok rfl rfl (by (focus repeat first | exact .head _ | apply List.Mem.tail)) rfl rfl) (.tmp rfl) trivial rfl (Ent.re (L := R))
set_option maxHeartbeats 2000000 in
theorem rdecc_ok {W : World} {R : List SProp} {ao : Option Addr} {cap : Nat} {l : List UInt8} (hr : Rds W R 1 ao l.length (bytes l)) (hcap : l.length ≤ cap) :
    Does1 W Try.prog 84 [.slice ao l.length cap] R (.tuple #[.agg (CmtD.dec l).2.cells.toArray, .int .i64 (CmtD.dec l).1]) R := by
  (refine Does.enter Try.func84 Try.ntmps84 rfl rfl ?_)
  (refine w ?_; repeat ((first | refine VO.step rfl rfl ?_ | refine VD.end rfl rfl rfl ?_ | refine VD.mid rfl rfl rfl ?_); refine OpV.box rfl rfl rfl ?_; intro _; refine w ?_))
  ((first | refine VO.step rfl rfl ?_ | refine VD.end rfl rfl rfl ?_ | refine VD.mid rfl rfl rfl ?_); refine OpV.allocS sb_95 rfl ?_; intro nz)
  (refine w ?_; repeat ((first | refine VO.step rfl rfl ?_ | refine VD.end rfl rfl rfl ?_ | refine VD.mid rfl rfl rfl ?_); refine OpV.box rfl rfl rfl ?_; intro _; refine w ?_))
  have hr1 := hr.ent (H := Row nz 95 zeroC.cells :: R) (Ent.drop Ent.refl)
  ((first | refine VO.step rfl rfl ?_ | refine VD.end rfl rfl rfl ?_ | refine VD.mid rfl rfl rfl ?_); refine OpV.call rfl rfl (fun _ _ => by simp) (rlooks_ok hr1 hcap 2) Ent.refl rfl ?_)
  intro _ _
  (refine w ?_; repeat ((first | refine VO.step rfl rfl ?_ | refine VD.end rfl rfl rfl ?_ | refine VD.mid rfl rfl rfl ?_); refine OpV.box rfl rfl rfl ?_; intro _; refine w ?_))
  (refine VC.cond rfl rfl ?_ ?_ <;> intro hc)
  · have hl : looksM l 2 ≠ 0 := by simpa using hc
    rw [cmt_decB hl]
    (refine w ?_; repeat ((first | refine VO.step rfl rfl ?_ | refine VD.end rfl rfl rfl ?_ | refine VD.mid rfl rfl rfl ?_); refine OpV.box rfl rfl rfl ?_; intro _; refine w ?_))
    (apply VO.pure rfl rfl; apply PureAt.build sb_95 (pv := []) rfl; rfl; rfl)
    (refine w ?_; repeat ((first | refine VO.step rfl rfl ?_ | refine VD.end rfl rfl rfl ?_ | refine VD.mid rfl rfl rfl ?_); refine OpV.box rfl rfl rfl ?_; intro _; refine w ?_))
    (first | refine VO.step rfl rfl ?_ | refine VD.end rfl rfl rfl ?_ | refine VD.mid rfl rfl rfl ?_)
    refine OpV.stA (vs := zeroC.cells) tab_ok rfl rfl rfl rfl (cmt_one _) (by (repeat first | exact .head | apply Hole.tail)) (by simp) ?_
    (refine w ?_; repeat ((first | refine VO.step rfl rfl ?_ | refine VD.end rfl rfl rfl ?_ | refine VD.mid rfl rfl rfl ?_); refine OpV.box rfl rfl rfl ?_; intro _; refine w ?_))
    exact VE.results2 (.inl rfl) () rfl (ResIs.agg (vs := zeroC.cells) tab_ok rfl rfl (by (focus repeat first | exact .head _ | apply List.Mem.tail)) rfl rfl) (.tmp rfl) trivial rfl (Ent.re (L := R))
  have hl : looksM l 2 = 0 := by simpa using hc
  have hlen := looks_len hl
  rw [cmt_dec2 hl]
  have hlt := numAt_lt l
  (refine w ?_; repeat ((first | refine VO.step rfl rfl ?_ | refine VD.end rfl rfl rfl ?_ | refine VD.mid rfl rfl rfl ?_); refine OpV.box rfl rfl rfl ?_; intro _; refine w ?_))
  ((first | refine VO.step rfl rfl ?_ | refine VD.end rfl rfl rfl ?_ | refine VD.mid rfl rfl rfl ?_); refine OpV.call rfl rfl (fun _ _ => by simp) (get_ok hr1 8 8 (by omega) (by decide) (by omega)) Ent.refl rfl ?_)
  intro _ _
  (refine w ?_; repeat ((first | refine VO.step rfl rfl ?_ | refine VD.end rfl rfl rfl ?_ | refine VD.mid rfl rfl rfl ?_); refine OpV.box rfl rfl rfl ?_; intro _; refine w ?_))
  ((first | refine VO.step rfl rfl ?_ | refine VD.end rfl rfl rfl ?_ | refine VD.mid rfl rfl rfl ?_); refine OpV.call rfl rfl (fun _ _ => by simp) (get_ok hr1 16 8 (by omega) (by decide) (by omega)) Ent.refl rfl ?_)
  intro _ _
  (refine w ?_; repeat ((first | refine VO.step rfl rfl ?_ | refine VD.end rfl rfl rfl ?_ | refine VD.mid rfl rfl rfl ?_); refine OpV.box rfl rfl rfl ?_; intro _; refine w ?_))
  ((first | refine VO.step rfl rfl ?_ | refine VD.end rfl rfl rfl ?_ | refine VD.mid rfl rfl rfl ?_); refine OpV.call rfl rfl (fun _ _ => by simp) (get_ok hr1 24 4 (by omega) (by decide) (by omega)) Ent.refl rfl ?_)
  intro _ _
  (refine w ?_; repeat ((first | refine VO.step rfl rfl ?_ | refine VD.end rfl rfl rfl ?_ | refine VD.mid rfl rfl rfl ?_); refine OpV.box rfl rfl rfl ?_; intro _; refine w ?_))
  ((first | refine VO.step rfl rfl ?_ | refine VD.end rfl rfl rfl ?_ | refine VD.mid rfl rfl rfl ?_); refine OpV.call rfl rfl (fun _ _ => by simp) (get_ok hr1 28 4 (by omega) (by decide) (by omega)) Ent.refl rfl ?_)
  intro _ _
  (refine w ?_; repeat ((first | refine VO.step rfl rfl ?_ | refine VD.end rfl rfl rfl ?_ | refine VD.mid rfl rfl rfl ?_); refine OpV.box rfl rfl rfl ?_; intro _; refine w ?_))
  refine VO.re 20 (.int .i64 (CmtD.parse l).count) rfl (by rw [i64_nat (hlt 24 4)]; rfl) ?_
  refine VO.re 23 (.int .u32 (CmtD.parse l).sum) rfl (by rw [u32_nat (hlt 28 4)]; rfl) ?_
  (apply VO.pure rfl rfl; apply PureAt.build sb_95 rfl; (simp [buildX, setL, Value.cells]; rfl); rfl)
  (refine w ?_; repeat ((first | refine VO.step rfl rfl ?_ | refine VD.end rfl rfl rfl ?_ | refine VD.mid rfl rfl rfl ?_); refine OpV.box rfl rfl rfl ?_; intro _; refine w ?_))
  ((first | refine VO.step rfl rfl ?_ | refine VD.end rfl rfl rfl ?_ | refine VD.mid rfl rfl rfl ?_); refine OpV.allocS sb_95 rfl ?_; intro nh)
  (first | refine VO.step rfl rfl ?_ | refine VD.end rfl rfl rfl ?_ | refine VD.mid rfl rfl rfl ?_)
  refine OpV.stA (vs := (CmtD.parse l).cells) tab_ok rfl rfl rfl rfl (cmt_one _) (by (repeat first | exact .head | apply Hole.tail)) (by simp) ?_
  refine VO.ent (Ent.re (L := Row nh 95 (CmtD.parse l).cells :: Row nz 95 zeroC.cells :: R)) ?_
  (refine w ?_; repeat ((first | refine VO.step rfl rfl ?_ | refine VD.end rfl rfl rfl ?_ | refine VD.mid rfl rfl rfl ?_); refine OpV.box rfl rfl rfl ?_; intro _; refine w ?_))
  ((first | refine VO.step rfl rfl ?_ | refine VD.end rfl rfl rfl ?_ | refine VD.mid rfl rfl rfl ?_); refine OpV.call rfl rfl (fun _ _ => by simp) (rencc_ok (CmtD.parse l) (cmt_fit l)) Ent.re rfl ?_)
  rintro ⟨a1, c1⟩ -
  refine VO.know (p := a1 = none → (CmtD.parse l).enc.2.length = 0) (fun w hw => hw.ownNone (.head _)) ?_
  intro hn
  (refine w ?_; repeat ((first | refine VO.step rfl rfl ?_ | refine VD.end rfl rfl rfl ?_ | refine VD.mid rfl rfl rfl ?_); refine OpV.box rfl rfl rfl ?_; intro _; refine w ?_))
  ((first | refine VO.split rfl rfl rfl ?_ ?_ | refine VD.split rfl rfl rfl ?_ ?_) <;> intro hb)
  · have hb : ¬ (CmtD.parse l).good := encc_bad.1 (by simpa using hb)
    rw [if_neg (fun h => hb h.1)]
    (refine w ?_; repeat ((first | refine VO.step rfl rfl ?_ | refine VD.end rfl rfl rfl ?_ | refine VD.mid rfl rfl rfl ?_); refine OpV.box rfl rfl rfl ?_; intro _; refine w ?_))
    (apply VO.pure rfl rfl; apply PureAt.build sb_95 (pv := []) rfl; rfl; rfl)
    (refine w ?_; repeat ((first | refine VO.step rfl rfl ?_ | refine VD.end rfl rfl rfl ?_ | refine VD.mid rfl rfl rfl ?_); refine OpV.box rfl rfl rfl ?_; intro _; refine w ?_))
    (first | refine VO.step rfl rfl ?_ | refine VD.end rfl rfl rfl ?_ | refine VD.mid rfl rfl rfl ?_)
    refine OpV.stA (vs := zeroC.cells) tab_ok rfl rfl rfl rfl (cmt_one _) (by (repeat first | exact .head | apply Hole.tail)) (by simp) ?_
    (refine w ?_; repeat ((first | refine VO.step rfl rfl ?_ | refine VD.end rfl rfl rfl ?_ | refine VD.mid rfl rfl rfl ?_); refine OpV.box rfl rfl rfl ?_; intro _; refine w ?_))
    exact VE.results2 (.inl rfl) () rfl (ResIs.agg (vs := zeroC.cells) tab_ok rfl rfl (by (focus repeat first | exact .head _ | apply List.Mem.tail)) rfl rfl) (.tmp rfl) trivial rfl (Ent.re (L := R))
  have hg : (CmtD.parse l).good := by
    have hb := hb
    by_cases hg : (CmtD.parse l).good
    · exact hg
    · have := encc_bad.2 hg; simp at hb; exact absurd hb this
  (refine w ?_; repeat ((first | refine VO.step rfl rfl ?_ | refine VD.end rfl rfl rfl ?_ | refine VD.mid rfl rfl rfl ?_); refine OpV.box rfl rfl rfl ?_; intro _; refine w ?_))
  (first | refine VO.pure rfl rfl (PureAt.toStr (l := (CmtD.parse l).enc.2) tab_ok rfl rfl rfl rfl (own_rds hn (.head _)) rfl) rfl ?_ | refine VD.take rfl rfl rfl (PureAt.toStr (l := (CmtD.parse l).enc.2) tab_ok rfl rfl rfl rfl (own_rds hn (.head _)) rfl) rfl ?_ | refine VQ.pure rfl rfl (PureAt.toStr (l := (CmtD.parse l).enc.2) tab_ok rfl rfl rfl rfl (own_rds hn (.head _)) rfl) rfl ?_ | refine VD.end rfl rfl rfl (OpV.pure (PureAt.toStr (l := (CmtD.parse l).enc.2) tab_ok rfl rfl rfl rfl (own_rds hn (.head _)) rfl) rfl ?_))
  (refine w ?_; repeat ((first | refine VO.step rfl rfl ?_ | refine VD.end rfl rfl rfl ?_ | refine VD.mid rfl rfl rfl ?_); refine OpV.box rfl rfl rfl ?_; intro _; refine w ?_))
  (first | refine VO.pure rfl rfl (PureAt.toStr (l := l) tab_ok rfl rfl rfl rfl (hr.ent (Ent.drop (Ent.drop (Ent.drop Ent.refl)))) rfl) rfl ?_ | refine VD.take rfl rfl rfl (PureAt.toStr (l := l) tab_ok rfl rfl rfl rfl (hr.ent (Ent.drop (Ent.drop (Ent.drop Ent.refl)))) rfl) rfl ?_ | refine VQ.pure rfl rfl (PureAt.toStr (l := l) tab_ok rfl rfl rfl rfl (hr.ent (Ent.drop (Ent.drop (Ent.drop Ent.refl)))) rfl) rfl ?_ | refine VD.end rfl rfl rfl (OpV.pure (PureAt.toStr (l := l) tab_ok rfl rfl rfl rfl (hr.ent (Ent.drop (Ent.drop (Ent.drop Ent.refl)))) rfl) rfl ?_))
  (first | refine VO.pure rfl rfl (PureAt.strEq (b := l) tab_ok rfl rfl rfl rfl) rfl ?_ | refine VD.take rfl rfl rfl (PureAt.strEq (b := l) tab_ok rfl rfl rfl rfl) rfl ?_ | refine VQ.pure rfl rfl (PureAt.strEq (b := l) tab_ok rfl rfl rfl rfl) rfl ?_ | refine VD.end rfl rfl rfl (OpV.pure (PureAt.strEq (b := l) tab_ok rfl rfl rfl rfl) rfl ?_))
  (refine w ?_; repeat ((first | refine VO.step rfl rfl ?_ | refine VD.end rfl rfl rfl ?_ | refine VD.mid rfl rfl rfl ?_); refine OpV.box rfl rfl rfl ?_; intro _; refine w ?_))
  (refine VC.cond rfl rfl ?_ ?_ <;> intro hc)
  · have hne : ¬ (CmtD.parse l).enc.2 = l := by simpa using hc
    rw [if_neg (fun h => hne h.2)]
    (refine w ?_; repeat ((first | refine VO.step rfl rfl ?_ | refine VD.end rfl rfl rfl ?_ | refine VD.mid rfl rfl rfl ?_); refine OpV.box rfl rfl rfl ?_; intro _; refine w ?_))
    (apply VO.pure rfl rfl; apply PureAt.build sb_95 (pv := []) rfl; rfl; rfl)
    (refine w ?_; repeat ((first | refine VO.step rfl rfl ?_ | refine VD.end rfl rfl rfl ?_ | refine VD.mid rfl rfl rfl ?_); refine OpV.box rfl rfl rfl ?_; intro _; refine w ?_))
    (first | refine VO.step rfl rfl ?_ | refine VD.end rfl rfl rfl ?_ | refine VD.mid rfl rfl rfl ?_)
    refine OpV.stA (vs := zeroC.cells) tab_ok rfl rfl rfl rfl (cmt_one _) (by (repeat first | exact .head | apply Hole.tail)) (by simp) ?_
    (refine w ?_; repeat ((first | refine VO.step rfl rfl ?_ | refine VD.end rfl rfl rfl ?_ | refine VD.mid rfl rfl rfl ?_); refine OpV.box rfl rfl rfl ?_; intro _; refine w ?_))
    exact VE.results2 (.inl rfl) () rfl (ResIs.agg (vs := zeroC.cells) tab_ok rfl rfl (by (focus repeat first | exact .head _ | apply List.Mem.tail)) rfl rfl) (.tmp rfl) trivial rfl (Ent.re (L := R))
  · have he : (CmtD.parse l).enc.2 = l := by simpa using hc
    rw [if_pos ⟨hg, he⟩]
    (refine w ?_; repeat ((first | refine VO.step rfl rfl ?_ | refine VD.end rfl rfl rfl ?_ | refine VD.mid rfl rfl rfl ?_); refine OpV.box rfl rfl rfl ?_; intro _; refine w ?_))
    (first | refine VO.step rfl rfl ?_ | refine VD.end rfl rfl rfl ?_ | refine VD.mid rfl rfl rfl ?_)
    refine OpV.stA (vs := (CmtD.parse l).cells) tab_ok rfl rfl rfl rfl (cmt_one _) (by (repeat first | exact .head | apply Hole.tail)) (by simp) ?_
    (refine w ?_; repeat ((first | refine VO.step rfl rfl ?_ | refine VD.end rfl rfl rfl ?_ | refine VD.mid rfl rfl rfl ?_); refine OpV.box rfl rfl rfl ?_; intro _; refine w ?_))
    exact VE.results2 (.inl rfl) () rfl (ResIs.agg (vs := (CmtD.parse l).cells) tab_ok rfl rfl (by (focus repeat first | exact .head _ | apply List.Mem.tail)) rfl rfl) (.tmp rfl) trivial rfl (Ent.re (L := R))
end Go.Proofs.Ytlojjlbngnaphaa
