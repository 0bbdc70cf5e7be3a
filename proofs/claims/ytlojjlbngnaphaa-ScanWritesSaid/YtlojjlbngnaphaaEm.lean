/- The program's DecodeHeader, DecodeCommit, DecodeCheck. -/
import Derived.Test.YtlojjlbngnaphaaEk
set_option maxRecDepth 8000
set_option linter.unusedVariables false
set_option linter.unusedSimpArgs false
set_option linter.unusedSectionVars false
namespace Go.Proofs.Ytlojjlbngnaphaa
open Go.RowKit Go.Sl
attribute [local irreducible] Own

def cellsH (l : List UInt8) (i : Nat) : List Value :=
  [.int .u64 (numAt l 8 8 : Nat), .int .u64 (numAt l 16 8 : Nat)] ++ ((List.range 4).map fun j => .int .i64 (if j < i then ((numAt l (24 + 4 * j) 4 : Nat) : Int) else 0)) ++ [.bool false, .int .u32 0]
theorem cellsH_length (l : List UInt8) (i : Nat) : (cellsH l i).length = 8 := by simp [cellsH]
theorem cellsH_set (l : List UInt8) (i : Nat) (h : i < 4) : (cellsH l i).set (2 + i) (.int .i64 (numAt l (24 + 4 * i) 4 : Nat)) = cellsH l (i + 1) := by
  match i, h with
  | 0, _ => rfl
  | 1, _ => rfl
  | 2, _ => rfl
  | 3, _ => rfl
theorem nat_one (v : Nat) : ((v : Int) == 1) = decide (v = 1) := by
  rw [Bool.eq_iff_iff]; simp only [beq_iff_eq, decide_eq_true_eq]; omega
theorem hdrR_ok {W : World} {R : List SProp} {l : List UInt8} (hl : l.length = 128) (p hb : Nat) :
    Does1 W Try.prog 98 [.pointer (some ⟨p, 0, none⟩), .int .u64 (numAt l 8 8 : Nat), .int .u64 (numAt l 16 8 : Nat), .pointer (some ⟨hb, 0, none⟩)] (ReaderR p ⟨l, 24, 0, 0⟩ :: Row hb 90 zeroH.cells :: R) (.tuple #[]) (Row hb 90 (HdrD.parse l).cells :: R) := by
  have hlt := numAt_lt l
  (refine Does.enter Try.func98 Try.ntmps98 rfl rfl ?_)
  (refine w ?_; repeat ((first | refine VO.step rfl rfl ?_ | refine VD.end rfl rfl rfl ?_ | refine VD.mid rfl rfl rfl ?_); refine OpV.box rfl rfl rfl ?_; intro _; refine w ?_))
  ((first | refine VO.step rfl rfl ?_ | refine VD.end rfl rfl rfl ?_ | refine VD.mid rfl rfl rfl ?_); refine OpV.buildSlice1 st_174 rfl rfl (by first | (simp; done) | simp [Value.oneCell']) (by decide) rfl ?_; intro nb)
  (refine w ?_; repeat ((first | refine VO.step rfl rfl ?_ | refine VD.end rfl rfl rfl ?_ | refine VD.mid rfl rfl rfl ?_); refine OpV.box rfl rfl rfl ?_; intro _; refine w ?_))
  have hrow : ∀ (i : Nat) (h : i < 4), [Value.pointer (some ⟨hb, 2, none⟩), .pointer (some ⟨hb, 3, none⟩), .pointer (some ⟨hb, 4, none⟩), .pointer (some ⟨hb, 5, none⟩)][i]? = some (.pointer (some ⟨hb, 2 + i, none⟩)) := by
    intro i h
    match i, h with
    | 0, _ => rfl
    | 1, _ => rfl
    | 2, _ => rfl
    | 3, _ => rfl
  refine VC.loop (α := Nat) (fun i => i ≤ 4) (fun i => Row nb 173 [Value.pointer (some ⟨hb, 2, none⟩), .pointer (some ⟨hb, 3, none⟩), .pointer (some ⟨hb, 4, none⟩), .pointer (some ⟨hb, 5, none⟩)] :: ReaderR p ⟨l, 24 + 4 * i, 0, 0⟩ :: Row hb 90 (cellsH l i) :: R)
    (fun i => [(0, .pointer (some ⟨p, 0, none⟩)), (3, .pointer (some ⟨hb, 0, none⟩)), (17, .slice (some ⟨nb, 0, none⟩) 4 4), (18, .int .i64 4), (19, .int .i64 i)]) (fun i => 4 - i) rfl 0 (Nat.zero_le _) Ent.re ⟨rfl, rfl, rfl, rfl, rfl, trivial⟩ ?_
  intro i hi
  (refine w ?_; repeat ((first | refine VO.step rfl rfl ?_ | refine VD.end rfl rfl rfl ?_ | refine VD.mid rfl rfl rfl ?_); refine OpV.box rfl rfl rfl ?_; intro _; refine w ?_))
  (refine VC.cond rfl rfl ?_ ?_ <;> intro hc)
  · have hlt4 : i < 4 := by have := of_decide_eq_true hc; omega
    have g24 := Rk.got_good (k := ⟨l, 24 + 4 * i, 0, 0⟩) (n := 4) rfl (by simp only; omega)
    have hrow := hrow i hlt4
    generalize hgl : [Value.pointer (some ⟨hb, 2, none⟩), .pointer (some ⟨hb, 3, none⟩), .pointer (some ⟨hb, 4, none⟩), .pointer (some ⟨hb, 5, none⟩)] = cs at *
    have hr1 : Rds W (Row nb 173 cs :: ReaderR p ⟨l, 24 + 4 * i, 0, 0⟩ :: Row hb 90 (cellsH l i) :: R) 1 (some ⟨nb, 0, none⟩) 4 cs := Rds.row (by rw [← hgl]; simp [Value.oneCell']) (.head _) (by rw [← hgl]; rfl)
    (refine w ?_; repeat ((first | refine VO.step rfl rfl ?_ | refine VD.end rfl rfl rfl ?_ | refine VD.mid rfl rfl rfl ?_); refine OpV.box rfl rfl rfl ?_; intro _; refine w ?_))
    (first | refine VO.pure rfl rfl (PureAt.ldR tab_ok rfl rfl hr1 hrow) rfl ?_ | refine VD.take rfl rfl rfl (PureAt.ldR tab_ok rfl rfl hr1 hrow) rfl ?_ | refine VQ.pure rfl rfl (PureAt.ldR tab_ok rfl rfl hr1 hrow) rfl ?_ | refine VD.end rfl rfl rfl (OpV.pure (PureAt.ldR tab_ok rfl rfl hr1 hrow) rfl ?_))
    (refine w ?_; repeat ((first | refine VO.step rfl rfl ?_ | refine VD.end rfl rfl rfl ?_ | refine VD.mid rfl rfl rfl ?_); refine OpV.box rfl rfl rfl ?_; intro _; refine w ?_))
    (((first | refine VO.step rfl rfl ?_ | refine VD.end rfl rfl rfl ?_ | refine VD.mid rfl rfl rfl ?_); refine OpV.call rfl rfl (fun _ _ => by simp) (r32_ok p ⟨l, 24 + 4 * i, 0, 0⟩) Ent.re rfl ?_); intro _ _)
    rw [g24.1, g24.2.2]
    dsimp only
    (refine w ?_; repeat ((first | refine VO.step rfl rfl ?_ | refine VD.end rfl rfl rfl ?_ | refine VD.mid rfl rfl rfl ?_); refine OpV.box rfl rfl rfl ?_; intro _; refine w ?_))
    refine VO.re 26 (.int .i64 (numAt l (24 + 4 * i) 4 : Nat)) rfl (by rw [show leVal (List.take 4 (List.drop (24 + 4 * i) l)) = numAt l (24 + 4 * i) 4 from rfl, i64_nat (hlt _ 4)]) ?_
    (first | refine VO.step rfl rfl ?_ | refine VD.end rfl rfl rfl ?_ | refine VD.mid rfl rfl rfl ?_)
    refine OpV.st (cs := cellsH l i) tab_ok rfl rfl rfl rfl (by (repeat first | exact .head | apply Hole.tail)) (by rw [cellsH_length]; omega) ?_
    rw [cellsH_set l i hlt4]
    (refine w ?_; repeat ((first | refine VO.step rfl rfl ?_ | refine VD.end rfl rfl rfl ?_ | refine VD.mid rfl rfl rfl ?_); refine OpV.box rfl rfl rfl ?_; intro _; refine w ?_))
    refine VE.round (i + 1) (by omega) (by omega) ⟨rfl, rfl, rfl, rfl, asV rfl (by congr 1), trivial⟩ ?_
    rw [show 24 + 4 * (i + 1) = 24 + 4 * i + 4 by omega]
    exact Ent.re
  · have hge : i = 4 := by have := of_decide_eq_false hc; omega
    subst hge
    have g40 := Rk.got_good (k := ⟨l, 40, 0, 0⟩) (n := 4) rfl (by simp only; omega)
    have g44 := Rk.got_good (k := ⟨l, 44, 0, 0⟩) (n := 4) rfl (by simp only; omega)
    refine VC.ent (Ent.re (L := ReaderR p ⟨l, 40, 0, 0⟩ :: Row hb 90 (HdrD.mk (numAt l 8 8) (numAt l 16 8) (numAt l 24 4) (numAt l 28 4) (numAt l 32 4) (numAt l 36 4) false 0).cells :: R)) ?_
    (refine w ?_; repeat ((first | refine VO.step rfl rfl ?_ | refine VD.end rfl rfl rfl ?_ | refine VD.mid rfl rfl rfl ?_); refine OpV.box rfl rfl rfl ?_; intro _; refine w ?_))
    (((first | refine VO.step rfl rfl ?_ | refine VD.end rfl rfl rfl ?_ | refine VD.mid rfl rfl rfl ?_); refine OpV.call rfl rfl (fun _ _ => by simp) (r32_ok p ⟨l, 40, 0, 0⟩) Ent.re rfl ?_); intro _ _)
    rw [g40.1, g40.2.2]
    dsimp only
    (first | (first | refine VO.nil rfl ?_ | refine VQ.nil rfl ?_ | refine VD.nil ?_ | ((first | apply VO.pure rfl rfl | apply VQ.pure rfl rfl | apply VD.take rfl rfl rfl | (refine VD.end rfl rfl rfl ?_; apply OpV.pure)); (first | (apply PureAt.ar64 rfl rfl rfl; omega) | exact .eval tab_ok rfl | (apply PureAt.ld tab_ok rfl rfl; (focus repeat first | exact .head _ | apply List.Mem.tail); rfl) | (apply PureAt.shr rfl rfl (by decide) (by decide)) | (apply PureAt.shr rfl rfl (by omega) (by simp only [IntKind.bits]; omega)) | exact .fieldAddrA tab_ok rfl rfl | exact .sliceLH tab_ok rfl rfl rfl rfl (by omega) (by omega) | exact .sliceH tab_ok rfl rfl rfl (by omega) | exact .sliceL tab_ok rfl rfl rfl (by omega) | (first | exact .indexAddr tab_ok rfl rfl rfl rfl (by omega) | exact .indexAddrN tab_ok rfl rfl rfl rfl (by omega) | exact .indexAddrI tab_ok rfl rfl rfl rfl (toNatLit _) (by decide) (by omega) | exact .indexAddrNI tab_ok rfl rfl rfl rfl (toNatLit _) (by decide) (by omega) | exact .ldR tab_ok rfl rfl hr1 (List.getElem?_eq_getElem (by omega)) | exact .ldR tab_ok rfl rfl hr2 (List.getElem?_eq_getElem (by omega)) | exact ldB tab_ok rfl rfl hb1 (by omega) | exact ldB tab_ok rfl rfl hb2 (by omega)) | exact .sliceHI tab_ok rfl rfl rfl (toNatLit _) (by decide) (by omega) | exact .sliceLI tab_ok rfl rfl rfl (toNatLit _) (by decide) (by omega) | (apply PureAt.ldA tab_ok rfl rfl; (focus repeat first | exact .head _ | apply List.Mem.tail); rfl; rfl) | exact .ldro tab_ok rfl rfl (by assumption)); rfl) | refine VO.skip rfl rfl rfl rfl ?_ | refine VQ.skip rfl rfl rfl rfl ?_ | refine VD.skip rfl rfl rfl rfl rfl ?_ | refine VD.skipM rfl rfl Ent.refl rfl rfl rfl ?_ | ((first | refine VO.step rfl rfl ?_ | refine VD.end rfl rfl rfl ?_ | refine VD.mid rfl rfl rfl ?_); (first | (apply OpV.st tab_ok rfl rfl rfl rfl (by (repeat first | exact .head | apply Hole.tail); first | done | fail) (by first | (simp; done) | fail)) | (refine OpV.box rfl rfl rfl ?_; intro _))) | refine ⟨Ent.re, ?_⟩) | (first | refine VC.seq rfl ?_ | refine VC.region rfl ?_ | refine VC.condT rfl rfl ?_ | refine VC.condF rfl rfl ?_ | refine VC.block rfl ?_ | refine VC.skip rfl ?_ | refine VC.ret rfl ?_ | refine VC.exit rfl ?_ | refine VC.scope rfl ?_ | refine VC.label rfl ?_) | (first | refine VE.next ?_ | refine VE.passRet ?_ | refine VE.passExit ?_ | refine VE.blockNormal ?_ | refine VE.blockHit ?_ | refine VE.blockMiss rfl ?_ | refine VE.blockRet ?_ | refine VE.loopRet ?_ | refine VE.loopExit ?_ | refine VE.scopeNormal ?_ | refine VE.scopeRet ?_ | refine VE.scopeExit ?_))
    refine VO.re 31 (.bool (HdrD.parse l).escaped) rfl (by rw [show leVal (List.take 4 (List.drop 40 l)) = numAt l 40 4 from rfl]; show Value.bool _ = Value.bool (decide (numAt l 40 4 = 1)); rw [nat_one]) ?_
    (refine w ?_; repeat ((first | refine VO.step rfl rfl ?_ | refine VD.end rfl rfl rfl ?_ | refine VD.mid rfl rfl rfl ?_); refine OpV.box rfl rfl rfl ?_; intro _; refine w ?_))
    (((first | refine VO.step rfl rfl ?_ | refine VD.end rfl rfl rfl ?_ | refine VD.mid rfl rfl rfl ?_); refine OpV.call rfl rfl (fun _ _ => by simp) (r32_ok p ⟨l, 44, 0, 0⟩) Ent.re rfl ?_); intro _ _)
    rw [g44.1, g44.2.2]
    dsimp only
    (refine w ?_; repeat ((first | refine VO.step rfl rfl ?_ | refine VD.end rfl rfl rfl ?_ | refine VD.mid rfl rfl rfl ?_); refine OpV.box rfl rfl rfl ?_; intro _; refine w ?_))
    (refine VE.done1N rfl rfl ?_)
    exact Ent.re (L := Row hb 90 (HdrD.parse l).cells :: R)

theorem dech_ok {W : World} {R : List SProp} {ao : Option Addr} {cap : Nat} {l : List UInt8} (hr : Rds W R 1 ao l.length (bytes l)) (hcap : l.length ≤ cap) :
    Does1 W Try.prog 79 [.slice ao l.length cap] R (.tuple #[.agg (HdrD.dec l).2.cells.toArray, .int .u16 (HdrD.dec l).1]) R := by
  (refine Does.enter Try.func79 Try.ntmps79 rfl rfl ?_)
  (refine w ?_; repeat ((first | refine VO.step rfl rfl ?_ | refine VD.end rfl rfl rfl ?_ | refine VD.mid rfl rfl rfl ?_); refine OpV.box rfl rfl rfl ?_; intro _; refine w ?_))
  ((first | refine VO.step rfl rfl ?_ | refine VD.end rfl rfl rfl ?_ | refine VD.mid rfl rfl rfl ?_); refine OpV.allocS sb_90 rfl ?_; intro nz)
  (refine w ?_; repeat ((first | refine VO.step rfl rfl ?_ | refine VD.end rfl rfl rfl ?_ | refine VD.mid rfl rfl rfl ?_); refine OpV.box rfl rfl rfl ?_; intro _; refine w ?_))
  (first | refine VO.pure rfl rfl (PureAt.makeFuncN rfl) rfl ?_ | refine VD.take rfl rfl rfl (PureAt.makeFuncN rfl) rfl ?_ | refine VQ.pure rfl rfl (PureAt.makeFuncN rfl) rfl ?_ | refine VD.end rfl rfl rfl (OpV.pure (PureAt.makeFuncN rfl) rfl ?_))
  (first | refine VO.pure rfl rfl (PureAt.makeFuncN rfl) rfl ?_ | refine VD.take rfl rfl rfl (PureAt.makeFuncN rfl) rfl ?_ | refine VQ.pure rfl rfl (PureAt.makeFuncN rfl) rfl ?_ | refine VD.end rfl rfl rfl (OpV.pure (PureAt.makeFuncN rfl) rfl ?_))
  have hr1 : ∀ cs, Rds W (Row nz 90 cs :: R) 1 ao l.length (bytes l) := fun cs => hr.ent (Ent.drop Ent.refl)
  by_cases hl : looksM l 1 = 0
  · have h128 := looks_len hl
    have e := show HdrD.dec l = if (HdrD.parse l).good ∧ (HdrD.parse l).enc.2 = l then (0, HdrD.parse l) else (80, zeroH) by unfold HdrD.dec; rw [if_neg (by rw [hl]; simp)]
    ((first | refine VO.step rfl rfl ?_ | refine VD.end rfl rfl rfl ?_ | refine VD.mid rfl rfl rfl ?_); refine OpV.call rfl rfl (fun _ _ => by simp) (read_good (hr1 zeroH.cells) (hr1 (HdrD.parse l).cells) hcap 1 hl 98 99 #[.pointer (some ⟨nz, 0, none⟩)] #[.pointer (some ⟨nz, 0, none⟩)] (fun _ _ => by simp) (fun _ _ => by simp) (HdrD.parse l).enc.2 (HdrD.parse l).enc.1 (fun p => hdrR_ok h128 p nz) (hdr2_ok (HdrD.parse l) (hdr_fit l) nz)) Ent.refl rfl ?_)
    intro _ _
    by_cases hg : (HdrD.parse l).good ∧ (HdrD.parse l).enc.2 = l
    · rw [if_pos hg] at e
      rw [if_pos ⟨Decidable.of_not_not (fun h => enc_bad.1 h hg.1), hg.2⟩, e]
      (refine w ?_; repeat ((first | refine VO.step rfl rfl ?_ | refine VD.end rfl rfl rfl ?_ | refine VD.mid rfl rfl rfl ?_); refine OpV.box rfl rfl rfl ?_; intro _; refine w ?_))
      (first | refine VO.step rfl rfl ?_ | refine VD.end rfl rfl rfl ?_ | refine VD.mid rfl rfl rfl ?_)
      refine OpV.stA (vs := (HdrD.parse l).cells) tab_ok rfl rfl rfl rfl (hdr_one _) (by (repeat first | exact .head | apply Hole.tail)) (by simp) ?_
      (refine w ?_; repeat ((first | refine VO.step rfl rfl ?_ | refine VD.end rfl rfl rfl ?_ | refine VD.mid rfl rfl rfl ?_); refine OpV.box rfl rfl rfl ?_; intro _; refine w ?_))
      exact VE.results2 (.inl rfl) () rfl (ResIs.agg (vs := (HdrD.parse l).cells) tab_ok rfl rfl (by (focus repeat first | exact .head _ | apply List.Mem.tail)) rfl rfl) (.tmp rfl) trivial rfl (Ent.re (L := R))
    · rw [if_neg hg] at e
      rw [if_neg (fun h => hg ⟨Decidable.of_not_not (fun h2 => enc_bad.2 h2 h.1), h.2⟩), e]
      (refine w ?_; repeat ((first | refine VO.step rfl rfl ?_ | refine VD.end rfl rfl rfl ?_ | refine VD.mid rfl rfl rfl ?_); refine OpV.box rfl rfl rfl ?_; intro _; refine w ?_))
      (apply VO.pure rfl rfl; apply PureAt.build sb_90 (pv := []) rfl; rfl; rfl)
      (refine w ?_; repeat ((first | refine VO.step rfl rfl ?_ | refine VD.end rfl rfl rfl ?_ | refine VD.mid rfl rfl rfl ?_); refine OpV.box rfl rfl rfl ?_; intro _; refine w ?_))
      (first | refine VO.step rfl rfl ?_ | refine VD.end rfl rfl rfl ?_ | refine VD.mid rfl rfl rfl ?_)
      refine OpV.stA (vs := zeroH.cells) tab_ok rfl rfl rfl rfl (hdr_one _) (by (repeat first | exact .head | apply Hole.tail)) (by simp) ?_
      (refine w ?_; repeat ((first | refine VO.step rfl rfl ?_ | refine VD.end rfl rfl rfl ?_ | refine VD.mid rfl rfl rfl ?_); refine OpV.box rfl rfl rfl ?_; intro _; refine w ?_))
      exact VE.results2 (.inl rfl) () rfl (ResIs.agg (vs := zeroH.cells) tab_ok rfl rfl (by (focus repeat first | exact .head _ | apply List.Mem.tail)) rfl rfl) (.tmp rfl) trivial rfl (Ent.re (L := R))
  · rw [hdr_decB hl]
    ((first | refine VO.step rfl rfl ?_ | refine VD.end rfl rfl rfl ?_ | refine VD.mid rfl rfl rfl ?_); refine OpV.call rfl rfl (fun _ _ => by simp) (read_bad (hr1 zeroH.cells) hcap 1 hl _ _) Ent.refl rfl ?_)
    intro _ _
    (refine w ?_; repeat ((first | refine VO.step rfl rfl ?_ | refine VD.end rfl rfl rfl ?_ | refine VD.mid rfl rfl rfl ?_); refine OpV.box rfl rfl rfl ?_; intro _; refine w ?_))
    (refine VC.condTe rfl rfl (by simpa using hl) ?_)
    (refine w ?_; repeat ((first | refine VO.step rfl rfl ?_ | refine VD.end rfl rfl rfl ?_ | refine VD.mid rfl rfl rfl ?_); refine OpV.box rfl rfl rfl ?_; intro _; refine w ?_))
    (apply VO.pure rfl rfl; apply PureAt.build sb_90 (pv := []) rfl; rfl; rfl)
    (refine w ?_; repeat ((first | refine VO.step rfl rfl ?_ | refine VD.end rfl rfl rfl ?_ | refine VD.mid rfl rfl rfl ?_); refine OpV.box rfl rfl rfl ?_; intro _; refine w ?_))
    (first | refine VO.step rfl rfl ?_ | refine VD.end rfl rfl rfl ?_ | refine VD.mid rfl rfl rfl ?_)
    refine OpV.stA (vs := zeroH.cells) tab_ok rfl rfl rfl rfl (hdr_one _) (by (repeat first | exact .head | apply Hole.tail)) (by simp) ?_
    (refine w ?_; repeat ((first | refine VO.step rfl rfl ?_ | refine VD.end rfl rfl rfl ?_ | refine VD.mid rfl rfl rfl ?_); refine OpV.box rfl rfl rfl ?_; intro _; refine w ?_))
    exact VE.results2 (.inl rfl) () rfl (ResIs.agg (vs := zeroH.cells) tab_ok rfl rfl (by (focus repeat first | exact .head _ | apply List.Mem.tail)) rfl rfl) (.tmp rfl) trivial rfl (Ent.re (L := R))

theorem decc_ok {W : World} {R : List SProp} {ao : Option Addr} {cap : Nat} {l : List UInt8} (hr : Rds W R 1 ao l.length (bytes l)) (hcap : l.length ≤ cap) :
    Does1 W Try.prog 78 [.slice ao l.length cap] R (.tuple #[.agg (CmtD.dec l).2.cells.toArray, .int .u16 (CmtD.dec l).1]) R := by
  (refine Does.enter Try.func78 Try.ntmps78 rfl rfl ?_)
  (refine w ?_; repeat ((first | refine VO.step rfl rfl ?_ | refine VD.end rfl rfl rfl ?_ | refine VD.mid rfl rfl rfl ?_); refine OpV.box rfl rfl rfl ?_; intro _; refine w ?_))
  ((first | refine VO.step rfl rfl ?_ | refine VD.end rfl rfl rfl ?_ | refine VD.mid rfl rfl rfl ?_); refine OpV.allocS sb_95 rfl ?_; intro nz)
  (refine w ?_; repeat ((first | refine VO.step rfl rfl ?_ | refine VD.end rfl rfl rfl ?_ | refine VD.mid rfl rfl rfl ?_); refine OpV.box rfl rfl rfl ?_; intro _; refine w ?_))
  (first | refine VO.pure rfl rfl (PureAt.makeFuncN rfl) rfl ?_ | refine VD.take rfl rfl rfl (PureAt.makeFuncN rfl) rfl ?_ | refine VQ.pure rfl rfl (PureAt.makeFuncN rfl) rfl ?_ | refine VD.end rfl rfl rfl (OpV.pure (PureAt.makeFuncN rfl) rfl ?_))
  (first | refine VO.pure rfl rfl (PureAt.makeFuncN rfl) rfl ?_ | refine VD.take rfl rfl rfl (PureAt.makeFuncN rfl) rfl ?_ | refine VQ.pure rfl rfl (PureAt.makeFuncN rfl) rfl ?_ | refine VD.end rfl rfl rfl (OpV.pure (PureAt.makeFuncN rfl) rfl ?_))
  have hr1 : ∀ cs, Rds W (Row nz 95 cs :: R) 1 ao l.length (bytes l) := fun cs => hr.ent (Ent.drop Ent.refl)
  by_cases hl : looksM l 2 = 0
  · have h128 := looks_len hl
    have e := cmt_dec2 hl
    ((first | refine VO.step rfl rfl ?_ | refine VD.end rfl rfl rfl ?_ | refine VD.mid rfl rfl rfl ?_); refine OpV.call rfl rfl (fun _ _ => by simp) (read_good (hr1 zeroC.cells) (hr1 (CmtD.parse l).cells) hcap 2 hl 95 97 #[.pointer (some ⟨nz, 0, none⟩)] #[.pointer (some ⟨nz, 0, none⟩)] (fun _ _ => by simp) (fun _ _ => by simp) (CmtD.parse l).enc.2 (CmtD.parse l).enc.1 (fun p => cmtR_ok h128 p nz) (cmt2_ok (CmtD.parse l) (cmt_fit l) nz)) Ent.refl rfl ?_)
    intro _ _
    by_cases hg : (CmtD.parse l).good ∧ (CmtD.parse l).enc.2 = l
    · rw [if_pos hg] at e
      rw [if_pos ⟨Decidable.of_not_not (fun h => encc_bad.1 h hg.1), hg.2⟩, e]
      (refine w ?_; repeat ((first | refine VO.step rfl rfl ?_ | refine VD.end rfl rfl rfl ?_ | refine VD.mid rfl rfl rfl ?_); refine OpV.box rfl rfl rfl ?_; intro _; refine w ?_))
      (first | refine VO.step rfl rfl ?_ | refine VD.end rfl rfl rfl ?_ | refine VD.mid rfl rfl rfl ?_)
      refine OpV.stA (vs := (CmtD.parse l).cells) tab_ok rfl rfl rfl rfl (cmt_one _) (by (repeat first | exact .head | apply Hole.tail)) (by simp) ?_
      (refine w ?_; repeat ((first | refine VO.step rfl rfl ?_ | refine VD.end rfl rfl rfl ?_ | refine VD.mid rfl rfl rfl ?_); refine OpV.box rfl rfl rfl ?_; intro _; refine w ?_))
      exact VE.results2 (.inl rfl) () rfl (ResIs.agg (vs := (CmtD.parse l).cells) tab_ok rfl rfl (by (focus repeat first | exact .head _ | apply List.Mem.tail)) rfl rfl) (.tmp rfl) trivial rfl (Ent.re (L := R))
    · rw [if_neg hg] at e
      rw [if_neg (fun h => hg ⟨Decidable.of_not_not (fun h2 => encc_bad.2 h2 h.1), h.2⟩), e]
      (refine w ?_; repeat ((first | refine VO.step rfl rfl ?_ | refine VD.end rfl rfl rfl ?_ | refine VD.mid rfl rfl rfl ?_); refine OpV.box rfl rfl rfl ?_; intro _; refine w ?_))
      (apply VO.pure rfl rfl; apply PureAt.build sb_95 (pv := []) rfl; rfl; rfl)
      (refine w ?_; repeat ((first | refine VO.step rfl rfl ?_ | refine VD.end rfl rfl rfl ?_ | refine VD.mid rfl rfl rfl ?_); refine OpV.box rfl rfl rfl ?_; intro _; refine w ?_))
      (first | refine VO.step rfl rfl ?_ | refine VD.end rfl rfl rfl ?_ | refine VD.mid rfl rfl rfl ?_)
      refine OpV.stA (vs := zeroC.cells) tab_ok rfl rfl rfl rfl (cmt_one _) (by (repeat first | exact .head | apply Hole.tail)) (by simp) ?_
      (refine w ?_; repeat ((first | refine VO.step rfl rfl ?_ | refine VD.end rfl rfl rfl ?_ | refine VD.mid rfl rfl rfl ?_); refine OpV.box rfl rfl rfl ?_; intro _; refine w ?_))
      exact VE.results2 (.inl rfl) () rfl (ResIs.agg (vs := zeroC.cells) tab_ok rfl rfl (by (focus repeat first | exact .head _ | apply List.Mem.tail)) rfl rfl) (.tmp rfl) trivial rfl (Ent.re (L := R))
  · rw [cmt_decB hl]
    ((first | refine VO.step rfl rfl ?_ | refine VD.end rfl rfl rfl ?_ | refine VD.mid rfl rfl rfl ?_); refine OpV.call rfl rfl (fun _ _ => by simp) (read_bad (hr1 zeroC.cells) hcap 2 hl _ _) Ent.refl rfl ?_)
    intro _ _
    (refine w ?_; repeat ((first | refine VO.step rfl rfl ?_ | refine VD.end rfl rfl rfl ?_ | refine VD.mid rfl rfl rfl ?_); refine OpV.box rfl rfl rfl ?_; intro _; refine w ?_))
    (refine VC.condTe rfl rfl (by simpa using hl) ?_)
    (refine w ?_; repeat ((first | refine VO.step rfl rfl ?_ | refine VD.end rfl rfl rfl ?_ | refine VD.mid rfl rfl rfl ?_); refine OpV.box rfl rfl rfl ?_; intro _; refine w ?_))
    (apply VO.pure rfl rfl; apply PureAt.build sb_95 (pv := []) rfl; rfl; rfl)
    (refine w ?_; repeat ((first | refine VO.step rfl rfl ?_ | refine VD.end rfl rfl rfl ?_ | refine VD.mid rfl rfl rfl ?_); refine OpV.box rfl rfl rfl ?_; intro _; refine w ?_))
    (first | refine VO.step rfl rfl ?_ | refine VD.end rfl rfl rfl ?_ | refine VD.mid rfl rfl rfl ?_)
    refine OpV.stA (vs := zeroC.cells) tab_ok rfl rfl rfl rfl (cmt_one _) (by (repeat first | exact .head | apply Hole.tail)) (by simp) ?_
    (refine w ?_; repeat ((first | refine VO.step rfl rfl ?_ | refine VD.end rfl rfl rfl ?_ | refine VD.mid rfl rfl rfl ?_); refine OpV.box rfl rfl rfl ?_; intro _; refine w ?_))
    exact VE.results2 (.inl rfl) () rfl (ResIs.agg (vs := zeroC.cells) tab_ok rfl rfl (by (focus repeat first | exact .head _ | apply List.Mem.tail)) rfl rfl) (.tmp rfl) trivial rfl (Ent.re (L := R))

end Go.Proofs.Ytlojjlbngnaphaa
