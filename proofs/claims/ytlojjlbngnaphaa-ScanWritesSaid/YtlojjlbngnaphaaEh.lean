/- The document's EncodeHeader, EncodeCommit, EncodeCheck. -/
import Derived.Test.YtlojjlbngnaphaaEg
set_option maxRecDepth 8000
set_option linter.unusedVariables false
set_option linter.unusedSimpArgs false
set_option linter.unusedSectionVars false
namespace Go.Proofs.Ytlojjlbngnaphaa
open Go.RowKit Go.Sl
attribute [local irreducible] Own

structure HdrD.fit (h : HdrD) : Prop where
  epoch : h.epoch < 2 ^ 64
  seq : h.seq < 2 ^ 64
  index : -9223372036854775808 ≤ h.index ∧ h.index ≤ 9223372036854775807
  count : -9223372036854775808 ≤ h.count ∧ h.count ≤ 9223372036854775807
  member : -9223372036854775808 ≤ h.member ∧ h.member ≤ 9223372036854775807
  row : -9223372036854775808 ≤ h.row ∧ h.row ≤ 9223372036854775807
  sum : h.sum < 4294967296
structure CmtD.fit (h : CmtD) : Prop where
  epoch : h.epoch < 2 ^ 64
  seq : h.seq < 2 ^ 64
  count : -9223372036854775808 ≤ h.count ∧ h.count ≤ 9223372036854775807
  sum : h.sum < 4294967296
structure ChkD.fit (h : ChkD) : Prop where
  epoch : h.epoch < 2 ^ 64
  seq : h.seq < 2 ^ 64
  tail : -9223372036854775808 ≤ h.tail ∧ h.tail ≤ 9223372036854775807
theorem hdr_iff (h : HdrD) : h.good ↔ (h.epoch ≤ 4611686018427387904 ∧ 1 ≤ h.seq ∧ h.seq ≤ 4611686018427387904) ∧ 1 ≤ h.count ∧ h.count ≤ 1023 ∧ 0 ≤ h.index ∧ h.index ≤ h.count - 1 ∧ 0 ≤ h.member ∧ h.member ≤ 15 ∧ 0 ≤ h.row ∧ h.row ≤ 4095 := by
  unfold HdrD.good cntOk
  constructor
  · rintro ⟨a, ⟨b, c⟩, ⟨d, e⟩, ⟨f, g⟩, i, j⟩; exact ⟨a, b, c, d, e, f, g, i, j⟩
  · rintro ⟨a, b, c, d, e, f, g, i, j⟩; exact ⟨a, ⟨b, c⟩, ⟨d, e⟩, ⟨f, g⟩, i, j⟩
theorem cmt_iff (h : CmtD) : h.good ↔ (h.epoch ≤ 4611686018427387904 ∧ 1 ≤ h.seq ∧ h.seq ≤ 4611686018427387904) ∧ 1 ≤ h.count ∧ h.count ≤ 1023 := Iff.rfl
theorem chk_iff (h : ChkD) : h.good ↔ (h.epoch ≤ 4611686018427387904 ∧ 1 ≤ h.seq ∧ h.seq ≤ 4611686018427387904) ∧ 0 ≤ h.tail ∧ h.tail ≤ 2047 := Iff.rfl
theorem hdr_bad {h : HdrD} (g : ¬ h.good) : h.enc = (80, []) := if_neg g
theorem cmt_bad {h : CmtD} (g : ¬ h.good) : h.enc = (80, []) := if_neg g
theorem chk_bad {h : ChkD} (g : ¬ h.good) : h.enc = (80, []) := if_neg g
theorem hdr_ok {h : HdrD} (g : h.good) : h.enc = (0, sectF 1 h.epoch h.seq h.rest) := if_pos g
theorem cmt_ok {h : CmtD} (g : h.good) : h.enc = (0, sectF 2 h.epoch h.seq h.rest) := if_pos g
theorem chk_ok {h : ChkD} (g : h.good) : h.enc = (0, sectF 3 h.epoch h.seq h.rest) := if_pos g
theorem i64_nat {v : Nat} (h : v < 4294967296) : IntKind.i64.wrap (v : Int) = v := IntWalk.i64_in _ ⟨by omega, by omega⟩
theorem u32_nat {v : Nat} (h : v < 4294967296) : IntKind.u32.wrap (v : Int) = v := by rw [wrap32_of, Nat.mod_eq_of_lt h]
theorem bitN_lt (b : Bool) : bitN b < 2 ^ 64 := by cases b <;> decide
/-- Bytes of one's own, however they lie. -/
abbrev OwnB (x : Option Addr × Nat) (l : List UInt8) : SProp := Own 5 1 (.slice x.1 l.length x.2) l.length (bytes l)

set_option maxHeartbeats 1000000 in
theorem rench_ok {W : World} {R : List SProp} (h : HdrD) (hf : h.fit) :
    Does W Try.prog 40 [.agg h.cells.toArray] R (β := Option Addr × Nat) (fun _ => True) (fun x => .tuple #[.slice x.1 h.enc.2.length x.2, .int .i64 h.enc.1]) (fun x => OwnB x h.enc.2 :: R) := by
  have hiff := hdr_iff h
  (refine Does.enter Try.func40 Try.ntmps40 rfl rfl ?_)
  (refine w ?_; repeat ((first | refine VO.step rfl rfl ?_ | refine VD.end rfl rfl rfl ?_ | refine VD.mid rfl rfl rfl ?_); refine OpV.box rfl rfl rfl ?_; intro _; refine w ?_))
  ((first | refine VO.step rfl rfl ?_ | refine VD.end rfl rfl rfl ?_ | refine VD.mid rfl rfl rfl ?_); refine OpV.call rfl rfl (fun _ _ => by simp) (numbers_ok h.epoch h.seq) Ent.refl rfl ?_; intro _ _)
  (refine w ?_; repeat ((first | refine VO.step rfl rfl ?_ | refine VD.end rfl rfl rfl ?_ | refine VD.mid rfl rfl rfl ?_); refine OpV.box rfl rfl rfl ?_; intro _; refine w ?_))
  ((first | refine VO.split rfl rfl rfl ?_ ?_ | refine VD.split rfl rfl rfl ?_ ?_) <;> intro hb)
  · have hb : ¬ cntOk h.epoch h.seq := by simpa using hb
    have hbad := hdr_bad (h := h) (fun g => hb g.1)
    (refine w ?_; repeat ((first | refine VO.step rfl rfl ?_ | refine VD.end rfl rfl rfl ?_ | refine VD.mid rfl rfl rfl ?_); refine OpV.box rfl rfl rfl ?_; intro _; refine w ?_))
    refine VE.done (none, 0) rfl trivial (by rw [hbad]; rfl) ?_
    rw [hbad]; exact Ent.trans (Ent.re (L := R)) (fun w hw => hw.ownNil _ _)
  have h0 : cntOk h.epoch h.seq := by simpa using hb
  have h0 := (cnt_iff _ _).1 h0
  (refine w ?_; repeat ((first | refine VO.step rfl rfl ?_ | refine VD.end rfl rfl rfl ?_ | refine VD.mid rfl rfl rfl ?_); refine OpV.box rfl rfl rfl ?_; intro _; refine w ?_))
  iterate 7
    ((first | refine VO.split rfl rfl rfl ?_ ?_ | refine VD.split rfl rfl rfl ?_ ?_) <;> intro hb)
    · replace hb := of_decide_eq_true hb
      have hbad := hdr_bad (h := h) (fun g => by have := hiff.1 g; omega)
      (refine w ?_; repeat ((first | refine VO.step rfl rfl ?_ | refine VD.end rfl rfl rfl ?_ | refine VD.mid rfl rfl rfl ?_); refine OpV.box rfl rfl rfl ?_; intro _; refine w ?_))
      refine VE.done (none, 0) rfl trivial (by rw [hbad]; rfl) ?_
      rw [hbad]; exact Ent.trans (Ent.re (L := R)) (fun w hw => hw.ownNil _ _)
    replace hb := of_decide_eq_false hb
    (refine w ?_; repeat ((first | refine VO.step rfl rfl ?_ | refine VD.end rfl rfl rfl ?_ | refine VD.mid rfl rfl rfl ?_); refine OpV.box rfl rfl rfl ?_; intro _; refine w ?_))
  (refine VC.cond rfl rfl ?_ ?_ <;> intro hc)
  · replace hc := of_decide_eq_true hc
    have hbad := hdr_bad (h := h) (fun g => by have := hiff.1 g; omega)
    (refine w ?_; repeat ((first | refine VO.step rfl rfl ?_ | refine VD.end rfl rfl rfl ?_ | refine VD.mid rfl rfl rfl ?_); refine OpV.box rfl rfl rfl ?_; intro _; refine w ?_))
    refine VE.done (none, 0) rfl trivial (by rw [hbad]; rfl) ?_
    rw [hbad]; exact Ent.trans (Ent.re (L := R)) (fun w hw => hw.ownNil _ _)
  replace hc := of_decide_eq_false hc
  have hg : h.good := hiff.2 (by omega)
  have he := hdr_ok hg
  obtain ⟨ep, sq, ix, ct, mb, rw_, es, sm⟩ := h
  dsimp only at *
  obtain ⟨ix, rfl⟩ := Int.eq_ofNat_of_zero_le (show 0 ≤ ix by omega)
  obtain ⟨ct, rfl⟩ := Int.eq_ofNat_of_zero_le (show 0 ≤ ct by omega)
  obtain ⟨mb, rfl⟩ := Int.eq_ofNat_of_zero_le (show 0 ≤ mb by omega)
  obtain ⟨rw_, rfl⟩ := Int.eq_ofNat_of_zero_le (show 0 ≤ rw_ by omega)
  rw [he]
  have hsm := hf.sum
  have hl0 := begunL_length 1 ep sq
  dsimp only at hsm ⊢
  simp only [HdrD.rest, sectF, sectB, flds, List.flatMap_cons, List.flatMap_nil, List.append_nil, Int.toNat_natCast]
  (refine w ?_; repeat ((first | refine VO.step rfl rfl ?_ | refine VD.end rfl rfl rfl ?_ | refine VD.mid rfl rfl rfl ?_); refine OpV.box rfl rfl rfl ?_; intro _; refine w ?_))
  ((first | refine VO.step rfl rfl ?_ | refine VD.end rfl rfl rfl ?_ | refine VD.mid rfl rfl rfl ?_); refine OpV.call rfl rfl (fun _ _ => by simp) (begun_ok 1 ep sq (by omega) (by omega) (by omega)) Ent.re rfl ?_)
  rintro ⟨a1, c1⟩ -
  generalize begunL 1 ep sq = B at *
  (refine w ?_; repeat ((first | refine VO.step rfl rfl ?_ | refine VD.end rfl rfl rfl ?_ | refine VD.mid rfl rfl rfl ?_); refine OpV.box rfl rfl rfl ?_; intro _; refine w ?_))
  refine VO.re 64 (.int .u64 ix) rfl (by rw [wrap64_of (by omega)]) ?_
  ((first | refine VO.step rfl rfl ?_ | refine VD.end rfl rfl rfl ?_ | refine VD.mid rfl rfl rfl ?_); refine OpV.call rfl rfl (fun _ _ => by simp) (put_ok B ix 4 (by omega) (by omega) (by omega)) Ent.re rfl ?_)
  rintro ⟨a2, c2⟩ -
  (refine w ?_; repeat ((first | refine VO.step rfl rfl ?_ | refine VD.end rfl rfl rfl ?_ | refine VD.mid rfl rfl rfl ?_); refine OpV.box rfl rfl rfl ?_; intro _; refine w ?_))
  refine VO.re 69 (.int .u64 ct) rfl (by rw [wrap64_of (by omega)]) ?_
  ((first | refine VO.step rfl rfl ?_ | refine VD.end rfl rfl rfl ?_ | refine VD.mid rfl rfl rfl ?_); refine OpV.call rfl rfl (fun _ _ => by simp) (put_ok (B ++ lowBytes ix 4) ct 4 (by simp [lowBytes_length]; omega) (by omega) (by omega)) Ent.re rfl ?_)
  rintro ⟨a3, c3⟩ -
  (refine w ?_; repeat ((first | refine VO.step rfl rfl ?_ | refine VD.end rfl rfl rfl ?_ | refine VD.mid rfl rfl rfl ?_); refine OpV.box rfl rfl rfl ?_; intro _; refine w ?_))
  refine VO.re 74 (.int .u64 mb) rfl (by rw [wrap64_of (by omega)]) ?_
  ((first | refine VO.step rfl rfl ?_ | refine VD.end rfl rfl rfl ?_ | refine VD.mid rfl rfl rfl ?_); refine OpV.call rfl rfl (fun _ _ => by simp) (put_ok (B ++ lowBytes ix 4 ++ lowBytes ct 4) mb 4 (by simp [lowBytes_length]; omega) (by omega) (by omega)) Ent.re rfl ?_)
  rintro ⟨a4, c4⟩ -
  (refine w ?_; repeat ((first | refine VO.step rfl rfl ?_ | refine VD.end rfl rfl rfl ?_ | refine VD.mid rfl rfl rfl ?_); refine OpV.box rfl rfl rfl ?_; intro _; refine w ?_))
  refine VO.re 79 (.int .u64 rw_) rfl (by rw [wrap64_of (by omega)]) ?_
  ((first | refine VO.step rfl rfl ?_ | refine VD.end rfl rfl rfl ?_ | refine VD.mid rfl rfl rfl ?_); refine OpV.call rfl rfl (fun _ _ => by simp) (put_ok (B ++ lowBytes ix 4 ++ lowBytes ct 4 ++ lowBytes mb 4) rw_ 4 (by simp [lowBytes_length]; omega) (by omega) (by omega)) Ent.re rfl ?_)
  rintro ⟨a5, c5⟩ -
  cases es
  · (refine w ?_; repeat ((first | refine VO.step rfl rfl ?_ | refine VD.end rfl rfl rfl ?_ | refine VD.mid rfl rfl rfl ?_); refine OpV.box rfl rfl rfl ?_; intro _; refine w ?_))
    refine VO.re 84 (.int .u64 (bitN false)) rfl rfl ?_
    ((first | refine VO.step rfl rfl ?_ | refine VD.end rfl rfl rfl ?_ | refine VD.mid rfl rfl rfl ?_); refine OpV.call rfl rfl (fun _ _ => by simp) (put_ok (B ++ lowBytes ix 4 ++ lowBytes ct 4 ++ lowBytes mb 4 ++ lowBytes rw_ 4) (bitN false) 4 (by simp [lowBytes_length]; omega) (by omega) (bitN_lt false)) Ent.re rfl ?_)
    rintro ⟨a6, c6⟩ -
    (refine w ?_; repeat ((first | refine VO.step rfl rfl ?_ | refine VD.end rfl rfl rfl ?_ | refine VD.mid rfl rfl rfl ?_); refine OpV.box rfl rfl rfl ?_; intro _; refine w ?_))
    refine VO.re 89 (.int .u64 sm) rfl (by show Value.int .u64 (IntKind.u64.wrap (sm : Int)) = _; rw [wrap64_of (by omega)]) ?_
    ((first | refine VO.step rfl rfl ?_ | refine VD.end rfl rfl rfl ?_ | refine VD.mid rfl rfl rfl ?_); refine OpV.call rfl rfl (fun _ _ => by simp) (put_ok (B ++ lowBytes ix 4 ++ lowBytes ct 4 ++ lowBytes mb 4 ++ lowBytes rw_ 4 ++ lowBytes (bitN false) 4) sm 4 (by simp [lowBytes_length]; omega) (by omega) (by omega)) Ent.re rfl ?_)
    rintro ⟨a7, c7⟩ -
    (refine w ?_; repeat ((first | refine VO.step rfl rfl ?_ | refine VD.end rfl rfl rfl ?_ | refine VD.mid rfl rfl rfl ?_); refine OpV.box rfl rfl rfl ?_; intro _; refine w ?_))
    ((first | refine VO.step rfl rfl ?_ | refine VD.end rfl rfl rfl ?_ | refine VD.mid rfl rfl rfl ?_); refine OpV.call rfl rfl (fun _ _ => by simp) (ended_ok (B ++ lowBytes ix 4 ++ lowBytes ct 4 ++ lowBytes mb 4 ++ lowBytes rw_ 4 ++ lowBytes (bitN false) 4 ++ lowBytes sm 4) (by simp [lowBytes_length]; omega)) Ent.re rfl ?_)
    rintro ⟨a8, c8⟩ -
    (refine w ?_; repeat ((first | refine VO.step rfl rfl ?_ | refine VD.end rfl rfl rfl ?_ | refine VD.mid rfl rfl rfl ?_); refine OpV.box rfl rfl rfl ?_; intro _; refine w ?_))
    simp only [List.append_assoc]
    exact VE.done (a8, c8) rfl trivial rfl Ent.re
  · (refine w ?_; repeat ((first | refine VO.step rfl rfl ?_ | refine VD.end rfl rfl rfl ?_ | refine VD.mid rfl rfl rfl ?_); refine OpV.box rfl rfl rfl ?_; intro _; refine w ?_))
    refine VO.re 84 (.int .u64 (bitN true)) rfl rfl ?_
    ((first | refine VO.step rfl rfl ?_ | refine VD.end rfl rfl rfl ?_ | refine VD.mid rfl rfl rfl ?_); refine OpV.call rfl rfl (fun _ _ => by simp) (put_ok (B ++ lowBytes ix 4 ++ lowBytes ct 4 ++ lowBytes mb 4 ++ lowBytes rw_ 4) (bitN true) 4 (by simp [lowBytes_length]; omega) (by omega) (bitN_lt true)) Ent.re rfl ?_)
    rintro ⟨a6, c6⟩ -
    (refine w ?_; repeat ((first | refine VO.step rfl rfl ?_ | refine VD.end rfl rfl rfl ?_ | refine VD.mid rfl rfl rfl ?_); refine OpV.box rfl rfl rfl ?_; intro _; refine w ?_))
    refine VO.re 89 (.int .u64 sm) rfl (by show Value.int .u64 (IntKind.u64.wrap (sm : Int)) = _; rw [wrap64_of (by omega)]) ?_
    ((first | refine VO.step rfl rfl ?_ | refine VD.end rfl rfl rfl ?_ | refine VD.mid rfl rfl rfl ?_); refine OpV.call rfl rfl (fun _ _ => by simp) (put_ok (B ++ lowBytes ix 4 ++ lowBytes ct 4 ++ lowBytes mb 4 ++ lowBytes rw_ 4 ++ lowBytes (bitN true) 4) sm 4 (by simp [lowBytes_length]; omega) (by omega) (by omega)) Ent.re rfl ?_)
    rintro ⟨a7, c7⟩ -
    (refine w ?_; repeat ((first | refine VO.step rfl rfl ?_ | refine VD.end rfl rfl rfl ?_ | refine VD.mid rfl rfl rfl ?_); refine OpV.box rfl rfl rfl ?_; intro _; refine w ?_))
    ((first | refine VO.step rfl rfl ?_ | refine VD.end rfl rfl rfl ?_ | refine VD.mid rfl rfl rfl ?_); refine OpV.call rfl rfl (fun _ _ => by simp) (ended_ok (B ++ lowBytes ix 4 ++ lowBytes ct 4 ++ lowBytes mb 4 ++ lowBytes rw_ 4 ++ lowBytes (bitN true) 4 ++ lowBytes sm 4) (by simp [lowBytes_length]; omega)) Ent.re rfl ?_)
    rintro ⟨a8, c8⟩ -
    (refine w ?_; repeat ((first | refine VO.step rfl rfl ?_ | refine VD.end rfl rfl rfl ?_ | refine VD.mid rfl rfl rfl ?_); refine OpV.box rfl rfl rfl ?_; intro _; refine w ?_))
    simp only [List.append_assoc]
    exact VE.done (a8, c8) rfl trivial rfl Ent.re
theorem rencc_ok {W : World} {R : List SProp} (h : CmtD) (hf : h.fit) :
    Does W Try.prog 41 [.agg h.cells.toArray] R (β := Option Addr × Nat) (fun _ => True) (fun x => .tuple #[.slice x.1 h.enc.2.length x.2, .int .i64 h.enc.1]) (fun x => OwnB x h.enc.2 :: R) := by
  have hiff := cmt_iff h
  (refine Does.enter Try.func41 Try.ntmps41 rfl rfl ?_)
  (refine w ?_; repeat ((first | refine VO.step rfl rfl ?_ | refine VD.end rfl rfl rfl ?_ | refine VD.mid rfl rfl rfl ?_); refine OpV.box rfl rfl rfl ?_; intro _; refine w ?_))
  ((first | refine VO.step rfl rfl ?_ | refine VD.end rfl rfl rfl ?_ | refine VD.mid rfl rfl rfl ?_); refine OpV.call rfl rfl (fun _ _ => by simp) (numbers_ok h.epoch h.seq) Ent.refl rfl ?_; intro _ _)
  (refine w ?_; repeat ((first | refine VO.step rfl rfl ?_ | refine VD.end rfl rfl rfl ?_ | refine VD.mid rfl rfl rfl ?_); refine OpV.box rfl rfl rfl ?_; intro _; refine w ?_))
  ((first | refine VO.split rfl rfl rfl ?_ ?_ | refine VD.split rfl rfl rfl ?_ ?_) <;> intro hb)
  · have hb : ¬ cntOk h.epoch h.seq := by simpa using hb
    have hbad := cmt_bad (h := h) (fun g => hb g.1)
    (refine w ?_; repeat ((first | refine VO.step rfl rfl ?_ | refine VD.end rfl rfl rfl ?_ | refine VD.mid rfl rfl rfl ?_); refine OpV.box rfl rfl rfl ?_; intro _; refine w ?_))
    refine VE.done (none, 0) rfl trivial (by rw [hbad]; rfl) ?_
    rw [hbad]; exact Ent.trans (Ent.re (L := R)) (fun w hw => hw.ownNil _ _)
  have h0 : cntOk h.epoch h.seq := by simpa using hb
  have h0 := (cnt_iff _ _).1 h0
  (refine w ?_; repeat ((first | refine VO.step rfl rfl ?_ | refine VD.end rfl rfl rfl ?_ | refine VD.mid rfl rfl rfl ?_); refine OpV.box rfl rfl rfl ?_; intro _; refine w ?_))
  iterate 1
    ((first | refine VO.split rfl rfl rfl ?_ ?_ | refine VD.split rfl rfl rfl ?_ ?_) <;> intro hb)
    · replace hb := of_decide_eq_true hb
      have hbad := cmt_bad (h := h) (fun g => by have := hiff.1 g; omega)
      (refine w ?_; repeat ((first | refine VO.step rfl rfl ?_ | refine VD.end rfl rfl rfl ?_ | refine VD.mid rfl rfl rfl ?_); refine OpV.box rfl rfl rfl ?_; intro _; refine w ?_))
      refine VE.done (none, 0) rfl trivial (by rw [hbad]; rfl) ?_
      rw [hbad]; exact Ent.trans (Ent.re (L := R)) (fun w hw => hw.ownNil _ _)
    replace hb := of_decide_eq_false hb
    (refine w ?_; repeat ((first | refine VO.step rfl rfl ?_ | refine VD.end rfl rfl rfl ?_ | refine VD.mid rfl rfl rfl ?_); refine OpV.box rfl rfl rfl ?_; intro _; refine w ?_))
  (refine VC.cond rfl rfl ?_ ?_ <;> intro hc)
  · replace hc := of_decide_eq_true hc
    have hbad := cmt_bad (h := h) (fun g => by have := hiff.1 g; omega)
    (refine w ?_; repeat ((first | refine VO.step rfl rfl ?_ | refine VD.end rfl rfl rfl ?_ | refine VD.mid rfl rfl rfl ?_); refine OpV.box rfl rfl rfl ?_; intro _; refine w ?_))
    refine VE.done (none, 0) rfl trivial (by rw [hbad]; rfl) ?_
    rw [hbad]; exact Ent.trans (Ent.re (L := R)) (fun w hw => hw.ownNil _ _)
  replace hc := of_decide_eq_false hc
  have hg : h.good := hiff.2 (by omega)
  have he := cmt_ok hg
  obtain ⟨ep, sq, ct, sm⟩ := h
  dsimp only at *
  obtain ⟨ct, rfl⟩ := Int.eq_ofNat_of_zero_le (show 0 ≤ ct by omega)
  rw [he]
  have hsm := hf.sum
  have hl0 := begunL_length 2 ep sq
  dsimp only at hsm ⊢
  simp only [CmtD.rest, sectF, sectB, flds, List.flatMap_cons, List.flatMap_nil, List.append_nil, Int.toNat_natCast]
  (refine w ?_; repeat ((first | refine VO.step rfl rfl ?_ | refine VD.end rfl rfl rfl ?_ | refine VD.mid rfl rfl rfl ?_); refine OpV.box rfl rfl rfl ?_; intro _; refine w ?_))
  ((first | refine VO.step rfl rfl ?_ | refine VD.end rfl rfl rfl ?_ | refine VD.mid rfl rfl rfl ?_); refine OpV.call rfl rfl (fun _ _ => by simp) (begun_ok 2 ep sq (by omega) (by omega) (by omega)) Ent.re rfl ?_)
  rintro ⟨a1, c1⟩ -
  generalize begunL 2 ep sq = B at *
  (refine w ?_; repeat ((first | refine VO.step rfl rfl ?_ | refine VD.end rfl rfl rfl ?_ | refine VD.mid rfl rfl rfl ?_); refine OpV.box rfl rfl rfl ?_; intro _; refine w ?_))
  refine VO.re 31 (.int .u64 ct) rfl (by rw [wrap64_of (by omega)]) ?_
  ((first | refine VO.step rfl rfl ?_ | refine VD.end rfl rfl rfl ?_ | refine VD.mid rfl rfl rfl ?_); refine OpV.call rfl rfl (fun _ _ => by simp) (put_ok B ct 4 (by omega) (by omega) (by omega)) Ent.re rfl ?_)
  rintro ⟨a2, c2⟩ -
  (refine w ?_; repeat ((first | refine VO.step rfl rfl ?_ | refine VD.end rfl rfl rfl ?_ | refine VD.mid rfl rfl rfl ?_); refine OpV.box rfl rfl rfl ?_; intro _; refine w ?_))
  refine VO.re 36 (.int .u64 sm) rfl (by show Value.int .u64 (IntKind.u64.wrap (sm : Int)) = _; rw [wrap64_of (by omega)]) ?_
  ((first | refine VO.step rfl rfl ?_ | refine VD.end rfl rfl rfl ?_ | refine VD.mid rfl rfl rfl ?_); refine OpV.call rfl rfl (fun _ _ => by simp) (put_ok (B ++ lowBytes ct 4) sm 4 (by simp [lowBytes_length]; omega) (by omega) (by omega)) Ent.re rfl ?_)
  rintro ⟨a3, c3⟩ -
  (refine w ?_; repeat ((first | refine VO.step rfl rfl ?_ | refine VD.end rfl rfl rfl ?_ | refine VD.mid rfl rfl rfl ?_); refine OpV.box rfl rfl rfl ?_; intro _; refine w ?_))
  ((first | refine VO.step rfl rfl ?_ | refine VD.end rfl rfl rfl ?_ | refine VD.mid rfl rfl rfl ?_); refine OpV.call rfl rfl (fun _ _ => by simp) (ended_ok (B ++ lowBytes ct 4 ++ lowBytes sm 4) (by simp [lowBytes_length]; omega)) Ent.re rfl ?_)
  rintro ⟨a8, c8⟩ -
  (refine w ?_; repeat ((first | refine VO.step rfl rfl ?_ | refine VD.end rfl rfl rfl ?_ | refine VD.mid rfl rfl rfl ?_); refine OpV.box rfl rfl rfl ?_; intro _; refine w ?_))
  simp only [List.append_assoc]
  exact VE.done (a8, c8) rfl trivial rfl Ent.re
theorem rencs_ok {W : World} {R : List SProp} (h : ChkD) (hf : h.fit) :
    Does W Try.prog 58 [.agg h.cells.toArray] R (β := Option Addr × Nat) (fun _ => True) (fun x => .tuple #[.slice x.1 h.enc.2.length x.2, .int .i64 h.enc.1]) (fun x => OwnB x h.enc.2 :: R) := by
  have hiff := chk_iff h
  (refine Does.enter Try.func58 Try.ntmps58 rfl rfl ?_)
  (refine w ?_; repeat ((first | refine VO.step rfl rfl ?_ | refine VD.end rfl rfl rfl ?_ | refine VD.mid rfl rfl rfl ?_); refine OpV.box rfl rfl rfl ?_; intro _; refine w ?_))
  ((first | refine VO.step rfl rfl ?_ | refine VD.end rfl rfl rfl ?_ | refine VD.mid rfl rfl rfl ?_); refine OpV.call rfl rfl (fun _ _ => by simp) (numbers_ok h.epoch h.seq) Ent.refl rfl ?_; intro _ _)
  (refine w ?_; repeat ((first | refine VO.step rfl rfl ?_ | refine VD.end rfl rfl rfl ?_ | refine VD.mid rfl rfl rfl ?_); refine OpV.box rfl rfl rfl ?_; intro _; refine w ?_))
  ((first | refine VO.split rfl rfl rfl ?_ ?_ | refine VD.split rfl rfl rfl ?_ ?_) <;> intro hb)
  · have hb : ¬ cntOk h.epoch h.seq := by simpa using hb
    have hbad := chk_bad (h := h) (fun g => hb g.1)
    (refine w ?_; repeat ((first | refine VO.step rfl rfl ?_ | refine VD.end rfl rfl rfl ?_ | refine VD.mid rfl rfl rfl ?_); refine OpV.box rfl rfl rfl ?_; intro _; refine w ?_))
    refine VE.done (none, 0) rfl trivial (by rw [hbad]; rfl) ?_
    rw [hbad]; exact Ent.trans (Ent.re (L := R)) (fun w hw => hw.ownNil _ _)
  have h0 : cntOk h.epoch h.seq := by simpa using hb
  have h0 := (cnt_iff _ _).1 h0
  (refine w ?_; repeat ((first | refine VO.step rfl rfl ?_ | refine VD.end rfl rfl rfl ?_ | refine VD.mid rfl rfl rfl ?_); refine OpV.box rfl rfl rfl ?_; intro _; refine w ?_))
  iterate 1
    ((first | refine VO.split rfl rfl rfl ?_ ?_ | refine VD.split rfl rfl rfl ?_ ?_) <;> intro hb)
    · replace hb := of_decide_eq_true hb
      have hbad := chk_bad (h := h) (fun g => by have := hiff.1 g; omega)
      (refine w ?_; repeat ((first | refine VO.step rfl rfl ?_ | refine VD.end rfl rfl rfl ?_ | refine VD.mid rfl rfl rfl ?_); refine OpV.box rfl rfl rfl ?_; intro _; refine w ?_))
      refine VE.done (none, 0) rfl trivial (by rw [hbad]; rfl) ?_
      rw [hbad]; exact Ent.trans (Ent.re (L := R)) (fun w hw => hw.ownNil _ _)
    replace hb := of_decide_eq_false hb
    (refine w ?_; repeat ((first | refine VO.step rfl rfl ?_ | refine VD.end rfl rfl rfl ?_ | refine VD.mid rfl rfl rfl ?_); refine OpV.box rfl rfl rfl ?_; intro _; refine w ?_))
  (refine VC.cond rfl rfl ?_ ?_ <;> intro hc)
  · replace hc := of_decide_eq_true hc
    have hbad := chk_bad (h := h) (fun g => by have := hiff.1 g; omega)
    (refine w ?_; repeat ((first | refine VO.step rfl rfl ?_ | refine VD.end rfl rfl rfl ?_ | refine VD.mid rfl rfl rfl ?_); refine OpV.box rfl rfl rfl ?_; intro _; refine w ?_))
    refine VE.done (none, 0) rfl trivial (by rw [hbad]; rfl) ?_
    rw [hbad]; exact Ent.trans (Ent.re (L := R)) (fun w hw => hw.ownNil _ _)
  replace hc := of_decide_eq_false hc
  have hg : h.good := hiff.2 (by omega)
  have he := chk_ok hg
  obtain ⟨ep, sq, ct⟩ := h
  dsimp only at *
  obtain ⟨ct, rfl⟩ := Int.eq_ofNat_of_zero_le (show 0 ≤ ct by omega)
  rw [he]
  have hl0 := begunL_length 3 ep sq
  dsimp only
  simp only [ChkD.rest, sectF, sectB, flds, List.flatMap_cons, List.flatMap_nil, List.append_nil, Int.toNat_natCast]
  (refine w ?_; repeat ((first | refine VO.step rfl rfl ?_ | refine VD.end rfl rfl rfl ?_ | refine VD.mid rfl rfl rfl ?_); refine OpV.box rfl rfl rfl ?_; intro _; refine w ?_))
  ((first | refine VO.step rfl rfl ?_ | refine VD.end rfl rfl rfl ?_ | refine VD.mid rfl rfl rfl ?_); refine OpV.call rfl rfl (fun _ _ => by simp) (begun_ok 3 ep sq (by omega) (by omega) (by omega)) Ent.re rfl ?_)
  rintro ⟨a1, c1⟩ -
  generalize begunL 3 ep sq = B at *
  (refine w ?_; repeat ((first | refine VO.step rfl rfl ?_ | refine VD.end rfl rfl rfl ?_ | refine VD.mid rfl rfl rfl ?_); refine OpV.box rfl rfl rfl ?_; intro _; refine w ?_))
  refine VO.re 31 (.int .u64 ct) rfl (by rw [wrap64_of (by omega)]) ?_
  ((first | refine VO.step rfl rfl ?_ | refine VD.end rfl rfl rfl ?_ | refine VD.mid rfl rfl rfl ?_); refine OpV.call rfl rfl (fun _ _ => by simp) (put_ok B ct 4 (by omega) (by omega) (by omega)) Ent.re rfl ?_)
  rintro ⟨a2, c2⟩ -
  (refine w ?_; repeat ((first | refine VO.step rfl rfl ?_ | refine VD.end rfl rfl rfl ?_ | refine VD.mid rfl rfl rfl ?_); refine OpV.box rfl rfl rfl ?_; intro _; refine w ?_))
  ((first | refine VO.step rfl rfl ?_ | refine VD.end rfl rfl rfl ?_ | refine VD.mid rfl rfl rfl ?_); refine OpV.call rfl rfl (fun _ _ => by simp) (ended_ok (B ++ lowBytes ct 4) (by simp [lowBytes_length]; omega)) Ent.re rfl ?_)
  rintro ⟨a8, c8⟩ -
  (refine w ?_; repeat ((first | refine VO.step rfl rfl ?_ | refine VD.end rfl rfl rfl ?_ | refine VD.mid rfl rfl rfl ?_); refine OpV.box rfl rfl rfl ?_; intro _; refine w ?_))
  simp only [List.append_assoc]
  exact VE.done (a8, c8) rfl trivial rfl Ent.re
end Go.Proofs.Ytlojjlbngnaphaa
