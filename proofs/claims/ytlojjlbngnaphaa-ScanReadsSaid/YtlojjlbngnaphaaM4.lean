import Derived.Test.YtlojjlbngnaphaaM3
/-! Text Em. -/
/- The program's DecodeHeader, DecodeCommit, DecodeCheck. -/
set_option maxRecDepth 8000
set_option linter.unusedVariables false
set_option linter.unusedSimpArgs false
set_option linter.unusedSectionVars false
namespace Go.Proofs.Ytlojjlbngnaphaa
open Go.RowKit Go.Sl
attribute [local irreducible] Own

def cellsH (l : List UInt8) (i : Nat) : List Value :=
  [.int .u64 (numAt l 8 8 : Nat), .int .u64 (numAt l 16 8 : Nat)] ++ ((List.range 4).map fun j => .int .i64 (if j < i then ((numAt l (24 + 4 * j) 4 : Nat) : Int) else 0)) ++ [.bool false, .int .u32 0]
theorem cellsH_length (l : List UInt8) (i : Nat) : (cellsH l i).length = 8 := by simp [cellsH]
theorem cellsH_set (l : List UInt8) (i : Nat) (h : i < 4) : (cellsH l i).set (2 + i) (.int .i64 (numAt l (24 + 4 * i) 4 : Nat)) = cellsH l (i + 1) := by
  match i, h with
  | 0, _ => rfl
  | 1, _ => rfl
  | 2, _ => rfl
  | 3, _ => rfl
theorem nat_one (v : Nat) : ((v : Int) == 1) = decide (v = 1) := by
  rw [Bool.eq_iff_iff]; simp only [beq_iff_eq, decide_eq_true_eq]; omega
theorem hdrR_ok {W : World} {R : List SProp} {l : List UInt8} (hl : l.length = 128) (p hb : Nat) :
    Does1 W Try.prog 98 [.pointer (some ⟨p, 0, none⟩), .int .u64 (numAt l 8 8 : Nat), .int .u64 (numAt l 16 8 : Nat), .pointer (some ⟨hb, 0, none⟩)] (ReaderR p ⟨l, 24, 0, 0⟩ :: Row hb 90 zeroH.cells :: R) (.tuple #[]) (Row hb 90 (HdrD.parse l).cells :: R) := by
  have hlt := numAt_lt l
  (refine Does.enter Try.func98 Try.ntmps98 rfl rfl ?_)
  (refine w ?_; repeat ((first | refine VO.step rfl rfl ?_ | refine VD.end rfl rfl rfl ?_ | refine VD.mid rfl rfl rfl ?_); refine OpV.box rfl rfl rfl ?_; intro _; refine w ?_))
  ((first | refine VO.step rfl rfl ?_ | refine VD.end rfl rfl rfl ?_ | refine VD.mid rfl rfl rfl ?_); refine OpV.buildSlice1 st_174 rfl rfl (by first | (simp; done) | simp [Value.oneCell']) (by decide) rfl ?_; intro nb)
  (refine w ?_; repeat ((first | refine VO.step rfl rfl ?_ | refine VD.end rfl rfl rfl ?_ | refine VD.mid rfl rfl rfl ?_); refine OpV.box rfl rfl rfl ?_; intro _; refine w ?_))
  have hrow : ∀ (i : Nat) (h : i < 4), [Value.pointer (some ⟨hb, 2, none⟩), .pointer (some ⟨hb, 3, none⟩), .pointer (some ⟨hb, 4, none⟩), .pointer (some ⟨hb, 5, none⟩)][i]? = some (.pointer (some ⟨hb, 2 + i, none⟩)) := by
    intro i h
    match i, h with
    | 0, _ => rfl
    | 1, _ => rfl
    | 2, _ => rfl
    | 3, _ => rfl
  refine VC.loop (α := Nat) (fun i => i ≤ 4) (fun i => Row nb 173 [Value.pointer (some ⟨hb, 2, none⟩), .pointer (some ⟨hb, 3, none⟩), .pointer (some ⟨hb, 4, none⟩), .pointer (some ⟨hb, 5, none⟩)] :: ReaderR p ⟨l, 24 + 4 * i, 0, 0⟩ :: Row hb 90 (cellsH l i) :: R)
    (fun i => [(0, .pointer (some ⟨p, 0, none⟩)), (3, .pointer (some ⟨hb, 0, none⟩)), (17, .slice (some ⟨nb, 0, none⟩) 4 4), (18, .int .i64 4), (19, .int .i64 i)]) (fun i => 4 - i) rfl 0 (Nat.zero_le _) Ent.re ⟨rfl, rfl, rfl, rfl, rfl, trivial⟩ ?_
  intro i hi
  (refine w ?_; repeat ((first | refine VO.step rfl rfl ?_ | refine VD.end rfl rfl rfl ?_ | refine VD.mid rfl rfl rfl ?_); refine OpV.box rfl rfl rfl ?_; intro _; refine w ?_))
  (refine VC.cond rfl rfl ?_ ?_ <;> intro hc)
  · have hlt4 : i < 4 := by have := of_decide_eq_true hc; omega
    have g24 := Rk.got_good (k := ⟨l, 24 + 4 * i, 0, 0⟩) (n := 4) rfl (by simp only; omega)
    have hrow := hrow i hlt4
    generalize hgl : [Value.pointer (some ⟨hb, 2, none⟩), .pointer (some ⟨hb, 3, none⟩), .pointer (some ⟨hb, 4, none⟩), .pointer (some ⟨hb, 5, none⟩)] = cs at *
    have hr1 : Rds W (Row nb 173 cs :: ReaderR p ⟨l, 24 + 4 * i, 0, 0⟩ :: Row hb 90 (cellsH l i) :: R) 1 (some ⟨nb, 0, none⟩) 4 cs := Rds.row (by rw [← hgl]; simp [Value.oneCell']) (.head _) (by rw [← hgl]; rfl)
    (refine w ?_; repeat ((first | refine VO.step rfl rfl ?_ | refine VD.end rfl rfl rfl ?_ | refine VD.mid rfl rfl rfl ?_); refine OpV.box rfl rfl rfl ?_; intro _; refine w ?_))
    (first | refine VO.pure rfl rfl (PureAt.ldR tab_ok rfl rfl hr1 hrow) rfl ?_ | refine VD.take rfl rfl rfl (PureAt.ldR tab_ok rfl rfl hr1 hrow) rfl ?_ | refine VQ.pure rfl rfl (PureAt.ldR tab_ok rfl rfl hr1 hrow) rfl ?_ | refine VD.end rfl rfl rfl (OpV.pure (PureAt.ldR tab_ok rfl rfl hr1 hrow) rfl ?_))
    (refine w ?_; repeat ((first | refine VO.step rfl rfl ?_ | refine VD.end rfl rfl rfl ?_ | refine VD.mid rfl rfl rfl ?_); refine OpV.box rfl rfl rfl ?_; intro _; refine w ?_))
    (((first | refine VO.step rfl rfl ?_ | refine VD.end rfl rfl rfl ?_ | refine VD.mid rfl rfl rfl ?_); refine OpV.call rfl rfl (fun _ _ => by simp) (r32_ok p ⟨l, 24 + 4 * i, 0, 0⟩) Ent.re rfl ?_); intro _ _)
    rw [g24.1, g24.2.2]
    dsimp only
    (refine w ?_; repeat ((first | refine VO.step rfl rfl ?_ | refine VD.end rfl rfl rfl ?_ | refine VD.mid rfl rfl rfl ?_); refine OpV.box rfl rfl rfl ?_; intro _; refine w ?_))
    refine VO.re 26 (.int .i64 (numAt l (24 + 4 * i) 4 : Nat)) rfl (by rw [show leVal (List.take 4 (List.drop (24 + 4 * i) l)) = numAt l (24 + 4 * i) 4 from rfl, i64_nat (hlt _ 4)]) ?_
    (first | refine VO.step rfl rfl ?_ | refine VD.end rfl rfl rfl ?_ | refine VD.mid rfl rfl rfl ?_)
    refine OpV.st (cs := cellsH l i) tab_ok rfl rfl rfl rfl (by (repeat first | exact .head | apply Hole.tail)) (by rw [cellsH_length]; omega) ?_
    rw [cellsH_set l i hlt4]
    (refine w ?_; repeat ((first | refine VO.step rfl rfl ?_ | refine VD.end rfl rfl rfl ?_ | refine VD.mid rfl rfl rfl ?_); refine OpV.box rfl rfl rfl ?_; intro _; refine w ?_))
    refine VE.round (i + 1) (by omega) (by omega) ⟨rfl, rfl, rfl, rfl, asV rfl (by congr 1), trivial⟩ ?_
    rw [show 24 + 4 * (i + 1) = 24 + 4 * i + 4 by omega]
    exact Ent.re
  · have hge : i = 4 := by have := of_decide_eq_false hc; omega
    subst hge
    have g40 := Rk.got_good (k := ⟨l, 40, 0, 0⟩) (n := 4) rfl (by simp only; omega)
    have g44 := Rk.got_good (k := ⟨l, 44, 0, 0⟩) (n := 4) rfl (by simp only; omega)
    refine VC.ent (Ent.re (L := ReaderR p ⟨l, 40, 0, 0⟩ :: Row hb 90 (HdrD.mk (numAt l 8 8) (numAt l 16 8) (numAt l 24 4) (numAt l 28 4) (numAt l 32 4) (numAt l 36 4) false 0).cells :: R)) ?_
    (refine w ?_; repeat ((first | refine VO.step rfl rfl ?_ | refine VD.end rfl rfl rfl ?_ | refine VD.mid rfl rfl rfl ?_); refine OpV.box rfl rfl rfl ?_; intro _; refine w ?_))
    (((first | refine VO.step rfl rfl ?_ | refine VD.end rfl rfl rfl ?_ | refine VD.mid rfl rfl rfl ?_); refine OpV.call rfl rfl (fun _ _ => by simp) (r32_ok p ⟨l, 40, 0, 0⟩) Ent.re rfl ?_); intro _ _)
    rw [g40.1, g40.2.2]
    dsimp only
    (first | (first | refine VO.nil rfl ?_ | refine VQ.nil rfl ?_ | refine VD.nil ?_ | ((first | apply VO.pure rfl rfl | apply VQ.pure rfl rfl | apply VD.take rfl rfl rfl | (refine VD.end rfl rfl rfl ?_; apply OpV.pure)); (first | (apply PureAt.ar64 rfl rfl rfl; omega) | exact .eval tab_ok rfl | (apply PureAt.ld tab_ok rfl rfl; (focus repeat first | exact .head _ | apply List.Mem.tail); rfl) | (apply PureAt.shr rfl rfl (by decide) (by decide)) | (apply PureAt.shr rfl rfl (by omega) (by simp only [IntKind.bits]; omega)) | exact .fieldAddrA tab_ok rfl rfl | exact .sliceLH tab_ok rfl rfl rfl rfl (by omega) (by omega) | exact .sliceH tab_ok rfl rfl rfl (by omega) | exact .sliceL tab_ok rfl rfl rfl (by omega) | (first | exact .indexAddr tab_ok rfl rfl rfl rfl (by omega) | exact .indexAddrN tab_ok rfl rfl rfl rfl (by omega) | exact .indexAddrI tab_ok rfl rfl rfl rfl (toNatLit _) (by decide) (by omega) | exact .indexAddrNI tab_ok rfl rfl rfl rfl (toNatLit _) (by decide) (by omega) | exact .ldR tab_ok rfl rfl hr1 (List.getElem?_eq_getElem (by omega)) | exact .ldR tab_ok rfl rfl hr2 (List.getElem?_eq_getElem (by omega)) | exact ldB tab_ok rfl rfl hb1 (by omega) | exact ldB tab_ok rfl rfl hb2 (by omega)) | exact .sliceHI tab_ok rfl rfl rfl (toNatLit _) (by decide) (by omega) | exact .sliceLI tab_ok rfl rfl rfl (toNatLit _) (by decide) (by omega) | (apply PureAt.ldA tab_ok rfl rfl; (focus repeat first | exact .head _ | apply List.Mem.tail); rfl; rfl) | exact .ldro tab_ok rfl rfl (by assumption)); rfl) | refine VO.skip rfl rfl rfl rfl ?_ | refine VQ.skip rfl rfl rfl rfl ?_ | refine VD.skip rfl rfl rfl rfl rfl ?_ | refine VD.skipM rfl rfl Ent.refl rfl rfl rfl ?_ | ((first | refine VO.step rfl rfl ?_ | refine VD.end rfl rfl rfl ?_ | refine VD.mid rfl rfl rfl ?_); (first | (apply OpV.st tab_ok rfl rfl rfl rfl (by (repeat first | exact .head | apply Hole.tail); first | done | fail) (by first | (simp; done) | fail)) | (refine OpV.box rfl rfl rfl ?_; intro _))) | refine ⟨Ent.re, ?_⟩) | (first | refine VC.seq rfl ?_ | refine VC.region rfl ?_ | refine VC.condT rfl rfl ?_ | refine VC.condF rfl rfl ?_ | refine VC.block rfl ?_ | refine VC.skip rfl ?_ | refine VC.ret rfl ?_ | refine VC.exit rfl ?_ | refine VC.scope rfl ?_ | refine VC.label rfl ?_) | (first | refine VE.next ?_ | refine VE.passRet ?_ | refine VE.passExit ?_ | refine VE.blockNormal ?_ | refine VE.blockHit ?_ | refine VE.blockMiss rfl ?_ | refine VE.blockRet ?_ | refine VE.loopRet ?_ | refine VE.loopExit ?_ | refine VE.scopeNormal ?_ | refine VE.scopeRet ?_ | refine VE.scopeExit ?_))
    refine VO.re 31 (.bool (HdrD.parse l).escaped) rfl (by rw [show leVal (List.take 4 (List.drop 40 l)) = numAt l 40 4 from rfl]; show Value.bool _ = Value.bool (decide (numAt l 40 4 = 1)); rw [nat_one]) ?_
    (refine w ?_; repeat ((first | refine VO.step rfl rfl ?_ | refine VD.end rfl rfl rfl ?_ | refine VD.mid rfl rfl rfl ?_); refine OpV.box rfl rfl rfl ?_; intro _; refine w ?_))
    (((first | refine VO.step rfl rfl ?_ | refine VD.end rfl rfl rfl ?_ | refine VD.mid rfl rfl rfl ?_); refine OpV.call rfl rfl (fun _ _ => by simp) (r32_ok p ⟨l, 44, 0, 0⟩) Ent.re rfl ?_); intro _ _)
    rw [g44.1, g44.2.2]
    dsimp only
    (refine w ?_; repeat ((first | refine VO.step rfl rfl ?_ | refine VD.end rfl rfl rfl ?_ | refine VD.mid rfl rfl rfl ?_); refine OpV.box rfl rfl rfl ?_; intro _; refine w ?_))
    (refine VE.done1N rfl rfl ?_)
    exact Ent.re (L := Row hb 90 (HdrD.parse l).cells :: R)

theorem dech_ok {W : World} {R : List SProp} {ao : Option Addr} {cap : Nat} {l : List UInt8} (hr : Rds W R 1 ao l.length (bytes l)) (hcap : l.length ≤ cap) :
    Does1 W Try.prog 79 [.slice ao l.length cap] R (.tuple #[.agg (HdrD.dec l).2.cells.toArray, .int .u16 (HdrD.dec l).1]) R := by
  (refine Does.enter Try.func79 Try.ntmps79 rfl rfl ?_)
  (refine w ?_; repeat ((first | refine VO.step rfl rfl ?_ | refine VD.end rfl rfl rfl ?_ | refine VD.mid rfl rfl rfl ?_); refine OpV.box rfl rfl rfl ?_; intro _; refine w ?_))
  ((first | refine VO.step rfl rfl ?_ | refine VD.end rfl rfl rfl ?_ | refine VD.mid rfl rfl rfl ?_); refine OpV.allocS sb_90 rfl ?_; intro nz)
  (refine w ?_; repeat ((first | refine VO.step rfl rfl ?_ | refine VD.end rfl rfl rfl ?_ | refine VD.mid rfl rfl rfl ?_); refine OpV.box rfl rfl rfl ?_; intro _; refine w ?_))
  (first | refine VO.pure rfl rfl (PureAt.makeFuncN rfl) rfl ?_ | refine VD.take rfl rfl rfl (PureAt.makeFuncN rfl) rfl ?_ | refine VQ.pure rfl rfl (PureAt.makeFuncN rfl) rfl ?_ | refine VD.end rfl rfl rfl (OpV.pure (PureAt.makeFuncN rfl) rfl ?_))
  (first | refine VO.pure rfl rfl (PureAt.makeFuncN rfl) rfl ?_ | refine VD.take rfl rfl rfl (PureAt.makeFuncN rfl) rfl ?_ | refine VQ.pure rfl rfl (PureAt.makeFuncN rfl) rfl ?_ | refine VD.end rfl rfl rfl (OpV.pure (PureAt.makeFuncN rfl) rfl ?_))
  have hr1 : ∀ cs, Rds W (Row nz 90 cs :: R) 1 ao l.length (bytes l) := fun cs => hr.ent (Ent.drop Ent.refl)
  by_cases hl : looksM l 1 = 0
  · have h128 := looks_len hl
    have e := show HdrD.dec l = if (HdrD.parse l).good ∧ (HdrD.parse l).enc.2 = l then (0, HdrD.parse l) else (80, zeroH) by unfold HdrD.dec; rw [if_neg (by rw [hl]; simp)]
    ((first | refine VO.step rfl rfl ?_ | refine VD.end rfl rfl rfl ?_ | refine VD.mid rfl rfl rfl ?_); refine OpV.call rfl rfl (fun _ _ => by simp) (read_good (hr1 zeroH.cells) (hr1 (HdrD.parse l).cells) hcap 1 hl 98 99 #[.pointer (some ⟨nz, 0, none⟩)] #[.pointer (some ⟨nz, 0, none⟩)] (fun _ _ => by simp) (fun _ _ => by simp) (HdrD.parse l).enc.2 (HdrD.parse l).enc.1 (fun p => hdrR_ok h128 p nz) (hdr2_ok (HdrD.parse l) (hdr_fit l) nz)) Ent.refl rfl ?_)
    intro _ _
    by_cases hg : (HdrD.parse l).good ∧ (HdrD.parse l).enc.2 = l
    · rw [if_pos hg] at e
      rw [if_pos ⟨Decidable.of_not_not (fun h => enc_bad.1 h hg.1), hg.2⟩, e]
      (refine w ?_; repeat ((first | refine VO.step rfl rfl ?_ | refine VD.end rfl rfl rfl ?_ | refine VD.mid rfl rfl rfl ?_); refine OpV.box rfl rfl rfl ?_; intro _; refine w ?_))
      (first | refine VO.step rfl rfl ?_ | refine VD.end rfl rfl rfl ?_ | refine VD.mid rfl rfl rfl ?_)
      refine OpV.stA (vs := (HdrD.parse l).cells) tab_ok rfl rfl rfl rfl (hdr_one _) (by (repeat first | exact .head | apply Hole.tail)) (by simp) ?_
      (refine w ?_; repeat ((first | refine VO.step rfl rfl ?_ | refine VD.end rfl rfl rfl ?_ | refine VD.mid rfl rfl rfl ?_); refine OpV.box rfl rfl rfl ?_; intro _; refine w ?_))
      exact VE.results2 (.inl rfl) () rfl (ResIs.agg (vs := (HdrD.parse l).cells) tab_ok rfl rfl (by (focus repeat first | exact .head _ | apply List.Mem.tail)) rfl rfl) (.tmp rfl) trivial rfl (Ent.re (L := R))
    · rw [if_neg hg] at e
      rw [if_neg (fun h => hg ⟨Decidable.of_not_not (fun h2 => enc_bad.2 h2 h.1), h.2⟩), e]
      (refine w ?_; repeat ((first | refine VO.step rfl rfl ?_ | refine VD.end rfl rfl rfl ?_ | refine VD.mid rfl rfl rfl ?_); refine OpV.box rfl rfl rfl ?_; intro _; refine w ?_))
      (apply VO.pure rfl rfl; apply PureAt.build sb_90 (pv := []) rfl; rfl; rfl)
      (refine w ?_; repeat ((first | refine VO.step rfl rfl ?_ | refine VD.end rfl rfl rfl ?_ | refine VD.mid rfl rfl rfl ?_); refine OpV.box rfl rfl rfl ?_; intro _; refine w ?_))
      (first | refine VO.step rfl rfl ?_ | refine VD.end rfl rfl rfl ?_ | refine VD.mid rfl rfl rfl ?_)
      refine OpV.stA (vs := zeroH.cells) tab_ok rfl rfl rfl rfl (hdr_one _) (by (repeat first | exact .head | apply Hole.tail)) (by simp) ?_
      (refine w ?_; repeat ((first | refine VO.step rfl rfl ?_ | refine VD.end rfl rfl rfl ?_ | refine VD.mid rfl rfl rfl ?_); refine OpV.box rfl rfl rfl ?_; intro _; refine w ?_))
      exact VE.results2 (.inl rfl) () rfl (ResIs.agg (vs := zeroH.cells) tab_ok rfl rfl (by (focus repeat first | exact .head _ | apply List.Mem.tail)) rfl rfl) (.tmp rfl) trivial rfl (Ent.re (L := R))
  · rw [hdr_decB hl]
    ((first | refine VO.step rfl rfl ?_ | refine VD.end rfl rfl rfl ?_ | refine VD.mid rfl rfl rfl ?_); refine OpV.call rfl rfl (fun _ _ => by simp) (read_bad (hr1 zeroH.cells) hcap 1 hl _ _) Ent.refl rfl ?_)
    intro _ _
    (refine w ?_; repeat ((first | refine VO.step rfl rfl ?_ | refine VD.end rfl rfl rfl ?_ | refine VD.mid rfl rfl rfl ?_); refine OpV.box rfl rfl rfl ?_; intro _; refine w ?_))
    (refine VC.condTe rfl rfl (by simpa using hl) ?_)
    (refine w ?_; repeat ((first | refine VO.step rfl rfl ?_ | refine VD.end rfl rfl rfl ?_ | refine VD.mid rfl rfl rfl ?_); refine OpV.box rfl rfl rfl ?_; intro _; refine w ?_))
    (apply VO.pure rfl rfl; apply PureAt.build sb_90 (pv := []) rfl; rfl; rfl)
    (refine w ?_; repeat ((first | refine VO.step rfl rfl ?_ | refine VD.end rfl rfl rfl ?_ | refine VD.mid rfl rfl rfl ?_); refine OpV.box rfl rfl rfl ?_; intro _; refine w ?_))
    (first | refine VO.step rfl rfl ?_ | refine VD.end rfl rfl rfl ?_ | refine VD.mid rfl rfl rfl ?_)
    refine OpV.stA (vs := zeroH.cells) tab_ok rfl rfl rfl rfl (hdr_one _) (by (repeat first | exact .head | apply Hole.tail)) (by simp) ?_
    (refine w ?_; repeat ((first | refine VO.step rfl rfl ?_ | refine VD.end rfl rfl rfl ?_ | refine VD.mid rfl rfl rfl ?_); refine OpV.box rfl rfl rfl ?_; intro _; refine w ?_))
    exact VE.results2 (.inl rfl) () rfl (ResIs.agg (vs := zeroH.cells) tab_ok rfl rfl (by (focus repeat first | exact .head _ | apply List.Mem.tail)) rfl rfl) (.tmp rfl) trivial rfl (Ent.re (L := R))

theorem decc_ok {W : World} {R : List SProp} {ao : Option Addr} {cap : Nat} {l : List UInt8} (hr : Rds W R 1 ao l.length (bytes l)) (hcap : l.length ≤ cap) :
    Does1 W Try.prog 78 [.slice ao l.length cap] R (.tuple #[.agg (CmtD.dec l).2.cells.toArray, .int .u16 (CmtD.dec l).1]) R := by
  (refine Does.enter Try.func78 Try.ntmps78 rfl rfl ?_)
  (refine w ?_; repeat ((first | refine VO.step rfl rfl ?_ | refine VD.end rfl rfl rfl ?_ | refine VD.mid rfl rfl rfl ?_); refine OpV.box rfl rfl rfl ?_; intro _; refine w ?_))
  ((first | refine VO.step rfl rfl ?_ | refine VD.end rfl rfl rfl ?_ | refine VD.mid rfl rfl rfl ?_); refine OpV.allocS sb_95 rfl ?_; intro nz)
  (refine w ?_; repeat ((first | refine VO.step rfl rfl ?_ | refine VD.end rfl rfl rfl ?_ | refine VD.mid rfl rfl rfl ?_); refine OpV.box rfl rfl rfl ?_; intro _; refine w ?_))
  (first | refine VO.pure rfl rfl (PureAt.makeFuncN rfl) rfl ?_ | refine VD.take rfl rfl rfl (PureAt.makeFuncN rfl) rfl ?_ | refine VQ.pure rfl rfl (PureAt.makeFuncN rfl) rfl ?_ | refine VD.end rfl rfl rfl (OpV.pure (PureAt.makeFuncN rfl) rfl ?_))
  (first | refine VO.pure rfl rfl (PureAt.makeFuncN rfl) rfl ?_ | refine VD.take rfl rfl rfl (PureAt.makeFuncN rfl) rfl ?_ | refine VQ.pure rfl rfl (PureAt.makeFuncN rfl) rfl ?_ | refine VD.end rfl rfl rfl (OpV.pure (PureAt.makeFuncN rfl) rfl ?_))
  have hr1 : ∀ cs, Rds W (Row nz 95 cs :: R) 1 ao l.length (bytes l) := fun cs => hr.ent (Ent.drop Ent.refl)
  by_cases hl : looksM l 2 = 0
  · have h128 := looks_len hl
    have e := cmt_dec2 hl
    ((first | refine VO.step rfl rfl ?_ | refine VD.end rfl rfl rfl ?_ | refine VD.mid rfl rfl rfl ?_); refine OpV.call rfl rfl (fun _ _ => by simp) (read_good (hr1 zeroC.cells) (hr1 (CmtD.parse l).cells) hcap 2 hl 95 97 #[.pointer (some ⟨nz, 0, none⟩)] #[.pointer (some ⟨nz, 0, none⟩)] (fun _ _ => by simp) (fun _ _ => by simp) (CmtD.parse l).enc.2 (CmtD.parse l).enc.1 (fun p => cmtR_ok h128 p nz) (cmt2_ok (CmtD.parse l) (cmt_fit l) nz)) Ent.refl rfl ?_)
    intro _ _
    by_cases hg : (CmtD.parse l).good ∧ (CmtD.parse l).enc.2 = l
    · rw [if_pos hg] at e
      rw [if_pos ⟨Decidable.of_not_not (fun h => encc_bad.1 h hg.1), hg.2⟩, e]
      (refine w ?_; repeat ((first | refine VO.step rfl rfl ?_ | refine VD.end rfl rfl rfl ?_ | refine VD.mid rfl rfl rfl ?_); refine OpV.box rfl rfl rfl ?_; intro _; refine w ?_))
      (first | refine VO.step rfl rfl ?_ | refine VD.end rfl rfl rfl ?_ | refine VD.mid rfl rfl rfl ?_)
      refine OpV.stA (vs := (CmtD.parse l).cells) tab_ok rfl rfl rfl rfl (cmt_one _) (by (repeat first | exact .head | apply Hole.tail)) (by simp) ?_
      (refine w ?_; repeat ((first | refine VO.step rfl rfl ?_ | refine VD.end rfl rfl rfl ?_ | refine VD.mid rfl rfl rfl ?_); refine OpV.box rfl rfl rfl ?_; intro _; refine w ?_))
      exact VE.results2 (.inl rfl) () rfl (ResIs.agg (vs := (CmtD.parse l).cells) tab_ok rfl rfl (by (focus repeat first | exact .head _ | apply List.Mem.tail)) rfl rfl) (.tmp rfl) trivial rfl (Ent.re (L := R))
    · rw [if_neg hg] at e
      rw [if_neg (fun h => hg ⟨Decidable.of_not_not (fun h2 => encc_bad.2 h2 h.1), h.2⟩), e]
      (refine w ?_; repeat ((first | refine VO.step rfl rfl ?_ | refine VD.end rfl rfl rfl ?_ | refine VD.mid rfl rfl rfl ?_); refine OpV.box rfl rfl rfl ?_; intro _; refine w ?_))
      (apply VO.pure rfl rfl; apply PureAt.build sb_95 (pv := []) rfl; rfl; rfl)
      (refine w ?_; repeat ((first | refine VO.step rfl rfl ?_ | refine VD.end rfl rfl rfl ?_ | refine VD.mid rfl rfl rfl ?_); refine OpV.box rfl rfl rfl ?_; intro _; refine w ?_))
      (first | refine VO.step rfl rfl ?_ | refine VD.end rfl rfl rfl ?_ | refine VD.mid rfl rfl rfl ?_)
      refine OpV.stA (vs := zeroC.cells) tab_ok rfl rfl rfl rfl (cmt_one _) (by (repeat first | exact .head | apply Hole.tail)) (by simp) ?_
      (refine w ?_; repeat ((first | refine VO.step rfl rfl ?_ | refine VD.end rfl rfl rfl ?_ | refine VD.mid rfl rfl rfl ?_); refine OpV.box rfl rfl rfl ?_; intro _; refine w ?_))
      exact VE.results2 (.inl rfl) () rfl (ResIs.agg (vs := zeroC.cells) tab_ok rfl rfl (by (focus repeat first | exact .head _ | apply List.Mem.tail)) rfl rfl) (.tmp rfl) trivial rfl (Ent.re (L := R))
  · rw [cmt_decB hl]
    ((first | refine VO.step rfl rfl ?_ | refine VD.end rfl rfl rfl ?_ | refine VD.mid rfl rfl rfl ?_); refine OpV.call rfl rfl (fun _ _ => by simp) (read_bad (hr1 zeroC.cells) hcap 2 hl _ _) Ent.refl rfl ?_)
    intro _ _
    (refine w ?_; repeat ((first | refine VO.step rfl rfl ?_ | refine VD.end rfl rfl rfl ?_ | refine VD.mid rfl rfl rfl ?_); refine OpV.box rfl rfl rfl ?_; intro _; refine w ?_))
    (refine VC.condTe rfl rfl (by simpa using hl) ?_)
    (refine w ?_; repeat ((first | refine VO.step rfl rfl ?_ | refine VD.end rfl rfl rfl ?_ | refine VD.mid rfl rfl rfl ?_); refine OpV.box rfl rfl rfl ?_; intro _; refine w ?_))
    (apply VO.pure rfl rfl; apply PureAt.build sb_95 (pv := []) rfl; rfl; rfl)
    (refine w ?_; repeat ((first | refine VO.step rfl rfl ?_ | refine VD.end rfl rfl rfl ?_ | refine VD.mid rfl rfl rfl ?_); refine OpV.box rfl rfl rfl ?_; intro _; refine w ?_))
    (first | refine VO.step rfl rfl ?_ | refine VD.end rfl rfl rfl ?_ | refine VD.mid rfl rfl rfl ?_)
    refine OpV.stA (vs := zeroC.cells) tab_ok rfl rfl rfl rfl (cmt_one _) (by (repeat first | exact .head | apply Hole.tail)) (by simp) ?_
    (refine w ?_; repeat ((first | refine VO.step rfl rfl ?_ | refine VD.end rfl rfl rfl ?_ | refine VD.mid rfl rfl rfl ?_); refine OpV.box rfl rfl rfl ?_; intro _; refine w ?_))
    exact VE.results2 (.inl rfl) () rfl (ResIs.agg (vs := zeroC.cells) tab_ok rfl rfl (by (focus repeat first | exact .head _ | apply List.Mem.tail)) rfl rfl) (.tmp rfl) trivial rfl (Ent.re (L := R))

end Go.Proofs.Ytlojjlbngnaphaa

/-! Text En. -/
/- Escape and Unescape, the document's and the program's. -/
set_option maxRecDepth 8000
set_option linter.unusedVariables false
set_option linter.unusedSimpArgs false
set_option linter.unusedSectionVars false
namespace Go.Proofs.Ytlojjlbngnaphaa
open Go.RowKit Go.Sl
attribute [local irreducible] Own

def nought4 : List UInt8 := [0, 0, 0, 0]
/-- What is logged; is it marked? -/
def escM (b : List UInt8) : List UInt8 := if b.take 4 = magicL then nought4 ++ b.drop 4 else b
def isEsc (b : List UInt8) : Bool := decide (b.take 4 = magicL)
structure EscD where
  out : List UInt8
  is : Bool
  err : Int
def escD (b : List UInt8) : EscD := if b.length = 128 then ⟨escM b, isEsc b, 0⟩ else ⟨[], false, 4⟩
def unD (b : List UInt8) (e : Bool) : List UInt8 × Int :=
  if b.length ≠ 128 then ([], 4) else if e = false then (if b.take 4 = magicL then ([], 80) else (b, 0)) else (if b.take 4 = nought4 then (magicL ++ b.drop 4, 0) else ([], 80))

theorem esc_ok {W : World} {R : List SProp} {ao : Option Addr} {cap : Nat} {l : List UInt8} (hr : Rds W R 1 ao l.length (bytes l)) (hcap : l.length ≤ cap) :
    Does W Try.prog 33 [.slice ao l.length cap] R (β := Option Addr × Nat) (fun _ => True) (fun x => .tuple #[.slice x.1 (escD l).out.length x.2, .bool (escD l).is, .int .u16 (escD l).err]) (fun x => OwnB x (escD l).out :: R) := by
  (refine Does.enter Try.func33 Try.ntmps33 rfl rfl ?_)
  (refine w ?_; repeat ((first | refine VO.step rfl rfl ?_ | refine VD.end rfl rfl rfl ?_ | refine VD.mid rfl rfl rfl ?_); refine OpV.box rfl rfl rfl ?_; intro _; refine w ?_))
  (refine VC.cond rfl rfl ?_ ?_ <;> intro hc)
  · have hb : l.length ≠ 128 := by have := hc; simp at this; omega
    have e : escD l = ⟨[], false, 4⟩ := if_neg hb
    rw [e]
    (refine w ?_; repeat ((first | refine VO.step rfl rfl ?_ | refine VD.end rfl rfl rfl ?_ | refine VD.mid rfl rfl rfl ?_); refine OpV.box rfl rfl rfl ?_; intro _; refine w ?_))
    refine VE.done (none, 0) rfl trivial rfl ?_; exact fun w hw => hw.ownNil _ _
  have h128 : l.length = 128 := by have := hc; simp at this; omega
  have e : escD l = ⟨escM l, isEsc l, 0⟩ := if_pos h128
  rw [e]
  dsimp only
  (refine w ?_; repeat ((first | refine VO.step rfl rfl ?_ | refine VD.end rfl rfl rfl ?_ | refine VD.mid rfl rfl rfl ?_); refine OpV.box rfl rfl rfl ?_; intro _; refine w ?_))
  ((first | refine VO.step rfl rfl ?_ | refine VD.end rfl rfl rfl ?_ | refine VD.mid rfl rfl rfl ?_); refine OpV.call rfl rfl (fun _ _ => by simp) (clone_ok hr (by omega)) Ent.re rfl ?_)
  rintro ⟨a1, c1⟩ -
  (refine w ?_; repeat ((first | refine VO.step rfl rfl ?_ | refine VD.end rfl rfl rfl ?_ | refine VD.mid rfl rfl rfl ?_); refine OpV.box rfl rfl rfl ?_; intro _; refine w ?_))
  (first | refine VO.pure rfl rfl (PureAt.toStr (l := l.take 4) tab_ok rfl rfl rfl rfl ((rds_head hr 4 (by omega)).ent (Ent.drop Ent.refl)) rfl) rfl ?_ | refine VD.take rfl rfl rfl (PureAt.toStr (l := l.take 4) tab_ok rfl rfl rfl rfl ((rds_head hr 4 (by omega)).ent (Ent.drop Ent.refl)) rfl) rfl ?_ | refine VQ.pure rfl rfl (PureAt.toStr (l := l.take 4) tab_ok rfl rfl rfl rfl ((rds_head hr 4 (by omega)).ent (Ent.drop Ent.refl)) rfl) rfl ?_ | refine VD.end rfl rfl rfl (OpV.pure (PureAt.toStr (l := l.take 4) tab_ok rfl rfl rfl rfl ((rds_head hr 4 (by omega)).ent (Ent.drop Ent.refl)) rfl) rfl ?_))
  (first | refine VO.pure rfl rfl (PureAt.strEq (b := magicL) tab_ok rfl rfl rfl rfl) rfl ?_ | refine VD.take rfl rfl rfl (PureAt.strEq (b := magicL) tab_ok rfl rfl rfl rfl) rfl ?_ | refine VQ.pure rfl rfl (PureAt.strEq (b := magicL) tab_ok rfl rfl rfl rfl) rfl ?_ | refine VD.end rfl rfl rfl (OpV.pure (PureAt.strEq (b := magicL) tab_ok rfl rfl rfl rfl) rfl ?_))
  (refine w ?_; repeat ((first | refine VO.step rfl rfl ?_ | refine VD.end rfl rfl rfl ?_ | refine VD.mid rfl rfl rfl ?_); refine OpV.box rfl rfl rfl ?_; intro _; refine w ?_))
  (refine VC.cond rfl rfl ?_ ?_ <;> intro hc)
  · have hm : l.take 4 = magicL := by simpa using hc
    rw [show escM l = nought4 ++ l.drop 4 from if_pos hm, show isEsc l = true from decide_eq_true hm]
    refine VC.know (fun w hw => hw.ownCap (.head _)) ?_
    intro hcap1
    (refine w ?_; repeat ((first | refine VO.step rfl rfl ?_ | refine VD.end rfl rfl rfl ?_ | refine VD.mid rfl rfl rfl ?_); refine OpV.box rfl rfl rfl ?_; intro _; refine w ?_))
    (first | refine VO.step rfl rfl ?_ | refine VD.end rfl rfl rfl ?_ | refine VD.mid rfl rfl rfl ?_)
    refine OpV.clearHead (k := 3) st_55 rfl (by (repeat first | exact .head | apply Hole.tail)) (by omega) ?_
    have hx : (Builtin.zeroCells (Value.int .u8 0).cells (3 + 1)).toList ++ (bytes l).drop ((3 + 1) * 1) = bytes (nought4 ++ l.drop 4) := by
      rw [bytes_append, show (Builtin.zeroCells (Value.int .u8 0).cells (3 + 1)).toList = bytes nought4 by simp [Builtin.zeroCells, Value.cells, bytes, nought4, byteV]; rfl]; exact congrArg (bytes nought4 ++ ·) (by simp [bytes])
    rw [hx]
    (refine w ?_; repeat ((first | refine VO.step rfl rfl ?_ | refine VD.end rfl rfl rfl ?_ | refine VD.mid rfl rfl rfl ?_); refine OpV.box rfl rfl rfl ?_; intro _; refine w ?_))
    refine VE.done (a1, c1) rfl trivial ?_ ?_
    · have : (nought4 ++ l.drop 4).length = l.length := by simp [nought4]; omega
      rw [this, hc]
    · have : (nought4 ++ l.drop 4).length = l.length := by simp [nought4]; omega
      rw [show OwnB (a1, c1) (nought4 ++ l.drop 4) = Own 5 1 (.slice a1 l.length c1) l.length (bytes (nought4 ++ l.drop 4)) by unfold OwnB; rw [this]]
      exact Ent.re
  · have hm : ¬ l.take 4 = magicL := by simpa using hc
    rw [show escM l = l from if_neg hm, show isEsc l = false from decide_eq_false hm]
    (refine w ?_; repeat ((first | refine VO.step rfl rfl ?_ | refine VD.end rfl rfl rfl ?_ | refine VD.mid rfl rfl rfl ?_); refine OpV.box rfl rfl rfl ?_; intro _; refine w ?_))
    refine VE.done (a1, c1) rfl trivial ?_ Ent.re
    rw [hc]
theorem unesc_ok {W : World} {R : List SProp} {ao : Option Addr} {cap : Nat} {l : List UInt8} (hr : Rds W R 1 ao l.length (bytes l)) (hcap : l.length ≤ cap) (b : Bool) :
    Does W Try.prog 80 [.slice ao l.length cap, .bool b] R (β := Option Addr × Nat) (fun _ => True) (fun x => .tuple #[.slice x.1 (unD l b).1.length x.2, .int .u16 (unD l b).2]) (fun x => OwnB x (unD l b).1 :: R) := by
  (refine Does.enter Try.func80 Try.ntmps80 rfl rfl ?_)
  (refine w ?_; repeat ((first | refine VO.step rfl rfl ?_ | refine VD.end rfl rfl rfl ?_ | refine VD.mid rfl rfl rfl ?_); refine OpV.box rfl rfl rfl ?_; intro _; refine w ?_))
  (refine VC.cond rfl rfl ?_ ?_ <;> intro hc)
  · have hb : l.length ≠ 128 := by have := hc; simp at this; omega
    have e : unD l b = ([], 4) := if_pos hb
    rw [e]
    (refine w ?_; repeat ((first | refine VO.step rfl rfl ?_ | refine VD.end rfl rfl rfl ?_ | refine VD.mid rfl rfl rfl ?_); refine OpV.box rfl rfl rfl ?_; intro _; refine w ?_))
    refine VE.done (none, 0) rfl trivial rfl ?_; exact fun w hw => hw.ownNil _ _
  have h128 : l.length = 128 := by have := hc; simp at this; omega
  have e0 : unD l b = if b = false then (if l.take 4 = magicL then ([], 80) else (l, 0)) else (if l.take 4 = nought4 then (magicL ++ l.drop 4, 0) else ([], 80)) := if_neg (fun h => h h128)
  rw [e0]
  cases b
  · rw [if_pos rfl]
    (refine w ?_; repeat ((first | refine VO.step rfl rfl ?_ | refine VD.end rfl rfl rfl ?_ | refine VD.mid rfl rfl rfl ?_); refine OpV.box rfl rfl rfl ?_; intro _; refine w ?_))
    (first | refine VO.pure rfl rfl (PureAt.toStr (l := l.take 4) tab_ok rfl rfl rfl rfl (rds_head hr 4 (by omega)) rfl) rfl ?_ | refine VD.take rfl rfl rfl (PureAt.toStr (l := l.take 4) tab_ok rfl rfl rfl rfl (rds_head hr 4 (by omega)) rfl) rfl ?_ | refine VQ.pure rfl rfl (PureAt.toStr (l := l.take 4) tab_ok rfl rfl rfl rfl (rds_head hr 4 (by omega)) rfl) rfl ?_ | refine VD.end rfl rfl rfl (OpV.pure (PureAt.toStr (l := l.take 4) tab_ok rfl rfl rfl rfl (rds_head hr 4 (by omega)) rfl) rfl ?_))
    (first | refine VO.pure rfl rfl (PureAt.strEq (b := magicL) tab_ok rfl rfl rfl rfl) rfl ?_ | refine VD.take rfl rfl rfl (PureAt.strEq (b := magicL) tab_ok rfl rfl rfl rfl) rfl ?_ | refine VQ.pure rfl rfl (PureAt.strEq (b := magicL) tab_ok rfl rfl rfl rfl) rfl ?_ | refine VD.end rfl rfl rfl (OpV.pure (PureAt.strEq (b := magicL) tab_ok rfl rfl rfl rfl) rfl ?_))
    (refine w ?_; repeat ((first | refine VO.step rfl rfl ?_ | refine VD.end rfl rfl rfl ?_ | refine VD.mid rfl rfl rfl ?_); refine OpV.box rfl rfl rfl ?_; intro _; refine w ?_))
    (refine VC.cond rfl rfl ?_ ?_ <;> intro hc)
    · have hm : l.take 4 = magicL := by simpa using hc
      rw [if_pos hm]
      (refine w ?_; repeat ((first | refine VO.step rfl rfl ?_ | refine VD.end rfl rfl rfl ?_ | refine VD.mid rfl rfl rfl ?_); refine OpV.box rfl rfl rfl ?_; intro _; refine w ?_))
      (refine VC.condTe rfl rfl (decide_eq_true hm) ?_)
      (refine w ?_; repeat ((first | refine VO.step rfl rfl ?_ | refine VD.end rfl rfl rfl ?_ | refine VD.mid rfl rfl rfl ?_); refine OpV.box rfl rfl rfl ?_; intro _; refine w ?_))
      refine VE.done (none, 0) rfl trivial rfl ?_; exact fun w hw => hw.ownNil _ _
    · have hm : ¬ l.take 4 = magicL := by simpa using hc
      rw [if_neg hm]
      (refine w ?_; repeat ((first | refine VO.step rfl rfl ?_ | refine VD.end rfl rfl rfl ?_ | refine VD.mid rfl rfl rfl ?_); refine OpV.box rfl rfl rfl ?_; intro _; refine w ?_))
      ((first | refine VO.step rfl rfl ?_ | refine VD.end rfl rfl rfl ?_ | refine VD.mid rfl rfl rfl ?_); refine OpV.call rfl rfl (fun _ _ => by simp) (clone_ok hr (by omega)) Ent.re rfl ?_)
      rintro ⟨a1, c1⟩ -
      (refine w ?_; repeat ((first | refine VO.step rfl rfl ?_ | refine VD.end rfl rfl rfl ?_ | refine VD.mid rfl rfl rfl ?_); refine OpV.box rfl rfl rfl ?_; intro _; refine w ?_))
      exact VE.done (a1, c1) rfl trivial rfl Ent.re
  · rw [if_neg (by decide)]
    (refine w ?_; repeat ((first | refine VO.step rfl rfl ?_ | refine VD.end rfl rfl rfl ?_ | refine VD.mid rfl rfl rfl ?_); refine OpV.box rfl rfl rfl ?_; intro _; refine w ?_))
    (first | refine VO.pure rfl rfl (PureAt.toStr (l := l.take 4) tab_ok rfl rfl rfl rfl (rds_head hr 4 (by omega)) rfl) rfl ?_ | refine VD.take rfl rfl rfl (PureAt.toStr (l := l.take 4) tab_ok rfl rfl rfl rfl (rds_head hr 4 (by omega)) rfl) rfl ?_ | refine VQ.pure rfl rfl (PureAt.toStr (l := l.take 4) tab_ok rfl rfl rfl rfl (rds_head hr 4 (by omega)) rfl) rfl ?_ | refine VD.end rfl rfl rfl (OpV.pure (PureAt.toStr (l := l.take 4) tab_ok rfl rfl rfl rfl (rds_head hr 4 (by omega)) rfl) rfl ?_))
    (first | refine VO.pure rfl rfl (PureAt.strEq (b := nought4) tab_ok rfl rfl rfl rfl) rfl ?_ | refine VD.take rfl rfl rfl (PureAt.strEq (b := nought4) tab_ok rfl rfl rfl rfl) rfl ?_ | refine VQ.pure rfl rfl (PureAt.strEq (b := nought4) tab_ok rfl rfl rfl rfl) rfl ?_ | refine VD.end rfl rfl rfl (OpV.pure (PureAt.strEq (b := nought4) tab_ok rfl rfl rfl rfl) rfl ?_))
    (refine w ?_; repeat ((first | refine VO.step rfl rfl ?_ | refine VD.end rfl rfl rfl ?_ | refine VD.mid rfl rfl rfl ?_); refine OpV.box rfl rfl rfl ?_; intro _; refine w ?_))
    (refine VC.cond rfl rfl ?_ ?_ <;> intro hc)
    · have hm : ¬ l.take 4 = nought4 := by simpa using hc
      rw [if_neg hm]
      (refine w ?_; repeat ((first | refine VO.step rfl rfl ?_ | refine VD.end rfl rfl rfl ?_ | refine VD.mid rfl rfl rfl ?_); refine OpV.box rfl rfl rfl ?_; intro _; refine w ?_))
      refine VE.done (none, 0) rfl trivial rfl ?_; exact fun w hw => hw.ownNil _ _
    · have hm : l.take 4 = nought4 := by simpa using hc
      rw [if_pos hm]
      (refine w ?_; repeat ((first | refine VO.step rfl rfl ?_ | refine VD.end rfl rfl rfl ?_ | refine VD.mid rfl rfl rfl ?_); refine OpV.box rfl rfl rfl ?_; intro _; refine w ?_))
      ((first | refine VO.step rfl rfl ?_ | refine VD.end rfl rfl rfl ?_ | refine VD.mid rfl rfl rfl ?_); refine OpV.call rfl rfl (fun _ _ => by simp) (clone_ok hr (by omega)) Ent.re rfl ?_)
      rintro ⟨a1, c1⟩ -
      (refine w ?_; repeat ((first | refine VO.step rfl rfl ?_ | refine VD.end rfl rfl rfl ?_ | refine VD.mid rfl rfl rfl ?_); refine OpV.box rfl rfl rfl ?_; intro _; refine w ?_))
      (first | refine VO.step rfl rfl ?_ | refine VD.end rfl rfl rfl ?_ | refine VD.mid rfl rfl rfl ?_)
      refine OpV.copyStr (l := magicL) st_55 rfl rfl (by (repeat first | exact .head | apply Hole.tail)) (by simp [magicL]; omega) rfl ?_
      have hx : (magicL.map fun (c : UInt8) => Value.int .u8 (c.toNat : Int)) ++ (bytes l).drop magicL.length = bytes (magicL ++ l.drop 4) := by
        rw [bytes_append]; exact congrArg (bytes magicL ++ ·) (by simp [bytes, magicL])
      rw [hx]
      (refine w ?_; repeat ((first | refine VO.step rfl rfl ?_ | refine VD.end rfl rfl rfl ?_ | refine VD.mid rfl rfl rfl ?_); refine OpV.box rfl rfl rfl ?_; intro _; refine w ?_))
      have : (magicL ++ l.drop 4).length = l.length := by simp [magicL]; omega
      refine VE.done (a1, c1) rfl trivial ?_ ?_
      · rw [this]
      · rw [show OwnB (a1, c1) (magicL ++ l.drop 4) = Own 5 1 (.slice a1 l.length c1) l.length (bytes (magicL ++ l.drop 4)) by unfold OwnB; rw [this]]
        exact Ent.re
theorem runesc_ok {W : World} {R : List SProp} {ao : Option Addr} {cap : Nat} {l : List UInt8} (hr : Rds W R 1 ao l.length (bytes l)) (hcap : l.length ≤ cap) (b : Bool) :
    Does W Try.prog 83 [.slice ao l.length cap, .bool b] R (β := Option Addr × Nat) (fun _ => True) (fun x => .tuple #[.slice x.1 (unD l b).1.length x.2, .int .i64 (unD l b).2]) (fun x => OwnB x (unD l b).1 :: R) := by
  (refine Does.enter Try.func83 Try.ntmps83 rfl rfl ?_)
  (refine w ?_; repeat ((first | refine VO.step rfl rfl ?_ | refine VD.end rfl rfl rfl ?_ | refine VD.mid rfl rfl rfl ?_); refine OpV.box rfl rfl rfl ?_; intro _; refine w ?_))
  (refine VC.cond rfl rfl ?_ ?_ <;> intro hc)
  · have hb : l.length ≠ 128 := by have := hc; simp at this; omega
    have e : unD l b = ([], 4) := if_pos hb
    rw [e]
    (refine w ?_; repeat ((first | refine VO.step rfl rfl ?_ | refine VD.end rfl rfl rfl ?_ | refine VD.mid rfl rfl rfl ?_); refine OpV.box rfl rfl rfl ?_; intro _; refine w ?_))
    refine VE.done (none, 0) rfl trivial rfl ?_; exact fun w hw => hw.ownNil _ _
  have h128 : l.length = 128 := by have := hc; simp at this; omega
  have e0 : unD l b = if b = false then (if l.take 4 = magicL then ([], 80) else (l, 0)) else (if l.take 4 = nought4 then (magicL ++ l.drop 4, 0) else ([], 80)) := if_neg (fun h => h h128)
  rw [e0]
  obtain ⟨a, rfl⟩ : ∃ a, ao = some a := by cases ao with | none => have := hr.nil rfl; omega | some a => exact ⟨a, rfl⟩
  cases b
  · rw [if_pos rfl]
    (refine w ?_; repeat ((first | refine VO.step rfl rfl ?_ | refine VD.end rfl rfl rfl ?_ | refine VD.mid rfl rfl rfl ?_); refine OpV.box rfl rfl rfl ?_; intro _; refine w ?_))
    (first | refine VO.pure rfl rfl (PureAt.toStr (l := l.take 4) tab_ok rfl rfl rfl rfl (rds_head hr 4 (by omega)) rfl) rfl ?_ | refine VD.take rfl rfl rfl (PureAt.toStr (l := l.take 4) tab_ok rfl rfl rfl rfl (rds_head hr 4 (by omega)) rfl) rfl ?_ | refine VQ.pure rfl rfl (PureAt.toStr (l := l.take 4) tab_ok rfl rfl rfl rfl (rds_head hr 4 (by omega)) rfl) rfl ?_ | refine VD.end rfl rfl rfl (OpV.pure (PureAt.toStr (l := l.take 4) tab_ok rfl rfl rfl rfl (rds_head hr 4 (by omega)) rfl) rfl ?_))
    (first | refine VO.pure rfl rfl (PureAt.strEq (b := magicL) tab_ok rfl rfl rfl rfl) rfl ?_ | refine VD.take rfl rfl rfl (PureAt.strEq (b := magicL) tab_ok rfl rfl rfl rfl) rfl ?_ | refine VQ.pure rfl rfl (PureAt.strEq (b := magicL) tab_ok rfl rfl rfl rfl) rfl ?_ | refine VD.end rfl rfl rfl (OpV.pure (PureAt.strEq (b := magicL) tab_ok rfl rfl rfl rfl) rfl ?_))
    (refine w ?_; repeat ((first | refine VO.step rfl rfl ?_ | refine VD.end rfl rfl rfl ?_ | refine VD.mid rfl rfl rfl ?_); refine OpV.box rfl rfl rfl ?_; intro _; refine w ?_))
    (refine VC.cond rfl rfl ?_ ?_ <;> intro hc)
    · have hm : l.take 4 = magicL := by simpa using hc
      rw [if_pos hm]
      (refine w ?_; repeat ((first | refine VO.step rfl rfl ?_ | refine VD.end rfl rfl rfl ?_ | refine VD.mid rfl rfl rfl ?_); refine OpV.box rfl rfl rfl ?_; intro _; refine w ?_))
      refine VE.done (none, 0) rfl trivial rfl ?_; exact fun w hw => hw.ownNil _ _
    · have hm : ¬ l.take 4 = magicL := by simpa using hc
      rw [if_neg hm]
      refine VC.ent (fun w hw => hw.ownNil 5 1) ?_
      (refine w ?_; repeat ((first | refine VO.step rfl rfl ?_ | refine VD.end rfl rfl rfl ?_ | refine VD.mid rfl rfl rfl ?_); refine OpV.box rfl rfl rfl ?_; intro _; refine w ?_))
      (first | refine VO.step rfl rfl ?_ | refine VD.end rfl rfl rfl ?_ | refine VD.mid rfl rfl rfl ?_)
      refine OpV.append st_55 rfl rfl (by (repeat first | exact .head | apply Hole.tail)) (fun w hw => (hr.sees (cap := cap) hw.tail).src st_55.und) (by simp only [maxLen]; omega) (by omega) rfl ?_
      intro a1 c1
      simp only [Nat.zero_add, List.nil_append]
      (refine w ?_; repeat ((first | refine VO.step rfl rfl ?_ | refine VD.end rfl rfl rfl ?_ | refine VD.mid rfl rfl rfl ?_); refine OpV.box rfl rfl rfl ?_; intro _; refine w ?_))
      exact VE.done (a1, c1) rfl trivial rfl Ent.re
  · rw [if_neg (by decide)]
    (refine w ?_; repeat ((first | refine VO.step rfl rfl ?_ | refine VD.end rfl rfl rfl ?_ | refine VD.mid rfl rfl rfl ?_); refine OpV.box rfl rfl rfl ?_; intro _; refine w ?_))
    (first | refine VO.pure rfl rfl (PureAt.toStr (l := l.take 4) tab_ok rfl rfl rfl rfl (rds_head hr 4 (by omega)) rfl) rfl ?_ | refine VD.take rfl rfl rfl (PureAt.toStr (l := l.take 4) tab_ok rfl rfl rfl rfl (rds_head hr 4 (by omega)) rfl) rfl ?_ | refine VQ.pure rfl rfl (PureAt.toStr (l := l.take 4) tab_ok rfl rfl rfl rfl (rds_head hr 4 (by omega)) rfl) rfl ?_ | refine VD.end rfl rfl rfl (OpV.pure (PureAt.toStr (l := l.take 4) tab_ok rfl rfl rfl rfl (rds_head hr 4 (by omega)) rfl) rfl ?_))
    (first | refine VO.pure rfl rfl (PureAt.strEq (b := nought4) tab_ok rfl rfl rfl rfl) rfl ?_ | refine VD.take rfl rfl rfl (PureAt.strEq (b := nought4) tab_ok rfl rfl rfl rfl) rfl ?_ | refine VQ.pure rfl rfl (PureAt.strEq (b := nought4) tab_ok rfl rfl rfl rfl) rfl ?_ | refine VD.end rfl rfl rfl (OpV.pure (PureAt.strEq (b := nought4) tab_ok rfl rfl rfl rfl) rfl ?_))
    (refine w ?_; repeat ((first | refine VO.step rfl rfl ?_ | refine VD.end rfl rfl rfl ?_ | refine VD.mid rfl rfl rfl ?_); refine OpV.box rfl rfl rfl ?_; intro _; refine w ?_))
    (refine VC.cond rfl rfl ?_ ?_ <;> intro hc)
    · have hm : ¬ l.take 4 = nought4 := by simpa using hc
      rw [if_neg hm]
      (refine w ?_; repeat ((first | refine VO.step rfl rfl ?_ | refine VD.end rfl rfl rfl ?_ | refine VD.mid rfl rfl rfl ?_); refine OpV.box rfl rfl rfl ?_; intro _; refine w ?_))
      refine VE.done (none, 0) rfl trivial rfl ?_; exact fun w hw => hw.ownNil _ _
    · have hm : l.take 4 = nought4 := by simpa using hc
      rw [if_pos hm]
      have hp := rds_part hr 4 128 (by omega) (by omega) hcap
      rw [show 128 - 4 = 124 from rfl, List.take_of_length_le (by rw [List.length_drop]; omega)] at hp
      refine VC.ent (fun w hw => hw.ownNil 5 1) ?_
      (refine w ?_; repeat ((first | refine VO.step rfl rfl ?_ | refine VD.end rfl rfl rfl ?_ | refine VD.mid rfl rfl rfl ?_); refine OpV.box rfl rfl rfl ?_; intro _; refine w ?_))
      (first | refine VO.step rfl rfl ?_ | refine VD.end rfl rfl rfl ?_ | refine VD.mid rfl rfl rfl ?_)
      refine OpV.append (news := bytes magicL) (m := 4) st_55 rfl rfl (by (repeat first | exact .head | apply Hole.tail)) (fun w hw => Src.ofString w (TabData.string_ok tab_ok rfl) _) (by decide) (by decide) rfl ?_
      intro a1 c1
      (refine w ?_; repeat ((first | refine VO.step rfl rfl ?_ | refine VD.end rfl rfl rfl ?_ | refine VD.mid rfl rfl rfl ?_); refine OpV.box rfl rfl rfl ?_; intro _; refine w ?_))
      refine VO.re 27 (.slice (subA (some a) cap 4 1) 124 (cap - 4)) rfl (by rw [h128]) ?_
      (first | refine VO.step rfl rfl ?_ | refine VD.end rfl rfl rfl ?_ | refine VD.mid rfl rfl rfl ?_)
      refine OpV.append (news := bytes (l.drop 4)) (m := 124) st_55 rfl rfl (by (repeat first | exact .head | apply Hole.tail)) (fun w hw => ((hp.ent (Ent.drop Ent.refl)).sees (cap := cap - 4) hw).src st_55.und) (by decide) (by decide) rfl ?_
      intro a2 c2
      (refine w ?_; repeat ((first | refine VO.step rfl rfl ?_ | refine VD.end rfl rfl rfl ?_ | refine VD.mid rfl rfl rfl ?_); refine OpV.box rfl rfl rfl ?_; intro _; refine w ?_))
      have hl4 : (magicL ++ l.drop 4).length = 0 + 4 + 124 := by simp [magicL]; omega
      refine VE.done (a2, c2) rfl trivial (by rw [hl4]) ?_
      rw [show OwnB (a2, c2) (magicL ++ l.drop 4) = Own 5 1 (.slice a2 (0 + 4 + 124) c2) (0 + 4 + 124) ([] ++ bytes magicL ++ bytes (l.drop 4)) by unfold OwnB; rw [hl4, bytes_append]; rfl]
      exact Ent.re
end Go.Proofs.Ytlojjlbngnaphaa

/-! Text Np. -/
/- Batches in a ring: what they are as sectors, when one counts, what a scan finds: the plain law. -/
set_option maxRecDepth 8000
set_option linter.unusedVariables false
set_option linter.unusedSimpArgs false
set_option linter.unusedSectionVars false
namespace Go.Proofs.Ytlojjlbngnaphaa
open Go.RowKit Go.Sl
attribute [local irreducible] Own

/-! ### Sums -/
theorem crcF_append (n : BitVec 32) (a b : List UInt8) : crcF n (a ++ b) = crcF (crcF n a) b := by simp [crcF]
theorem crcM_append (n : BitVec 32) (a b : List UInt8) : crcM n (a ++ b) = crcM (crcM n a) b := by
  unfold crcM; rw [crcF_append]; simp
theorem crcM_nil (n : BitVec 32) : crcM n [] = n := by simp [crcM, crcF]
/-! ### What is decoded is what was encoded -/
theorem hdr_decO {b : List UInt8} (h : (HdrD.dec b).1 = 0) : looksM b 1 = 0 ∧ (HdrD.dec b).2.good ∧ (HdrD.dec b).2.enc = (0, b) ∧ (HdrD.dec b).2 = HdrD.parse b := by
  unfold HdrD.dec at h ⊢
  split at h
  · rename_i h1; exact absurd h h1
  · rename_i h1
    split at h
    · rename_i h2
      rw [if_neg h1, if_pos h2]
      exact ⟨Decidable.of_not_not h1, h2.1, by rw [hdr_ok h2.1]; have := h2.2; rw [hdr_ok h2.1] at this; exact congrArg (Prod.mk 0) this, rfl⟩
    · cases h
theorem cmt_decO {b : List UInt8} (h : (CmtD.dec b).1 = 0) : looksM b 2 = 0 ∧ (CmtD.dec b).2.good ∧ (CmtD.dec b).2.enc = (0, b) := by
  unfold CmtD.dec at h ⊢
  split at h
  · rename_i h1; exact absurd h h1
  · rename_i h1
    split at h
    · rename_i h2
      rw [if_neg h1, if_pos h2]
      exact ⟨Decidable.of_not_not h1, h2.1, by rw [cmt_ok h2.1]; have := h2.2; rw [cmt_ok h2.1] at this; exact congrArg (Prod.mk 0) this⟩
    · cases h
/-! ### Escapes -/
theorem nought_magic : magicL ≠ nought4 := by decide
theorem escN_length {b : List UInt8} (h : b.length = 128) : (escM b).length = 128 := by
  unfold escM; split
  · simp [nought4]; omega
  · exact h
theorem escN_head {l : List UInt8} : (escM l).take 4 ≠ magicL := by
  unfold escM; split
  · rw [List.take_left' (by rfl)]; exact fun h => nought_magic h.symm
  · assumption
theorem unN_back {l : List UInt8} (h : l.length = 128) : unD (escM l) (isEsc l) = (l, 0) := by
  have hl := escN_length h
  have hh := escN_head (l := l)
  unfold unD isEsc
  rw [if_neg (by omega)]
  by_cases hm : l.take 4 = magicL
  · rw [decide_eq_true hm, if_neg (by simp)]
    have e : escM l = nought4 ++ l.drop 4 := if_pos hm
    rw [e, List.take_left' (by rfl), if_pos rfl, List.drop_left' (by rfl), ← hm, List.take_append_drop]
  · rw [decide_eq_false hm, if_pos rfl, if_neg hh, show escM l = l from if_neg hm]
/-- What is unescaped is escaped back. -/
theorem unN_esc {b : List UInt8} {e : Bool} (h : (unD b e).2 = 0) : (unD b e).1.length = 128 ∧ escM (unD b e).1 = b ∧ isEsc (unD b e).1 = e := by
  unfold unD at h ⊢
  split at h
  · cases h
  · rename_i h1
    have h128 : b.length = 128 := Decidable.of_not_not h1
    rw [if_neg h1]
    split at h
    · rename_i h2
      rw [if_pos h2]
      split at h
      · cases h
      · rename_i h3
        rw [if_neg h3]
        exact ⟨h128, if_neg h3, by rw [h2]; exact decide_eq_false h3⟩
    · rename_i h2
      rw [if_neg h2]
      split at h
      · rename_i h3
        rw [if_pos h3]
        have ht : (magicL ++ b.drop 4).take 4 = magicL := List.take_left' (by rfl)
        have hd : (magicL ++ b.drop 4).drop 4 = b.drop 4 := List.drop_left' (by rfl)
        refine ⟨by simp [magicL]; omega, ?_, ?_⟩
        · show escM (magicL ++ b.drop 4) = b
          unfold escM
          rw [if_pos ht, hd, ← h3, List.take_append_drop]
        · show isEsc (magicL ++ b.drop 4) = e
          cases e with
          | true => exact decide_eq_true ht
          | false => exact absurd rfl h2
      · cases h
/-! ### Batches as sectors -/
structure PatD where
  member : Int
  row : Int
  data : List UInt8
def PatD.far (p : PatD) : Prop := p.member < 0 ∨ 15 < p.member ∨ p.row < 0 ∨ 4095 < p.row
instance (p : PatD) : Decidable p.far := by unfold PatD.far; exact inferInstance
def hdrP (e s n i : Nat) (p : PatD) : HdrD := ⟨e, s, i, n, p.member, p.row, isEsc p.data, (crcS (escM p.data)).toNat⟩
def headP (e s n i : Nat) (p : PatD) : List UInt8 := (hdrP e s n i p).enc.2
/-- The first so many pairs. -/
def pairsP (e s n : Nat) : List PatD → Nat → List (List UInt8)
  | [], _ => []
  | p :: r, i => headP e s n i p :: escM p.data :: pairsP e s n r (i + 1)
def headsP (e s n : Nat) : List PatD → Nat → List UInt8
  | [], _ => []
  | p :: r, i => headP e s n i p ++ headsP e s n r (i + 1)
def cmtP (e s : Nat) (l : List PatD) : CmtD := ⟨e, s, l.length, (crcS (headsP e s l.length l 0)).toNat⟩
def secsM (e s : Nat) (l : List PatD) : Int × List (List UInt8) :=
  if l.length < 1 ∨ 1023 < l.length then (1, []) else if ¬ cntOk e s ∨ ∃ p ∈ l, p.far then (3, []) else if ∃ p ∈ l, p.data.length ≠ 128 then (4, []) else
  (0, pairsP e s l.length l 0 ++ [(cmtP e s l).enc.2])
theorem pairsP_length (e s n : Nat) : ∀ (l : List PatD) (i : Nat), (pairsP e s n l i).length = 2 * l.length
  | [], _ => rfl
  | _ :: r, i => by simp only [pairsP, List.length_cons, pairsP_length e s n r]; omega
theorem pairsP_get (e s n : Nat) : ∀ (l : List PatD) (i j : Nat) (h : j < l.length), (pairsP e s n l i)[2 * j]? = some (headP e s n (i + j) l[j]) ∧ (pairsP e s n l i)[2 * j + 1]? = some (escM l[j].data)
  | p :: r, i, 0, _ => ⟨rfl, rfl⟩
  | p :: r, i, j + 1, h => by
    have ih := pairsP_get e s n r (i + 1) j (by simpa using h)
    rw [show 2 * (j + 1) = 2 * j + 2 by omega, show 2 * j + 2 + 1 = (2 * j + 1) + 2 by omega]
    simp only [pairsP, List.getElem?_cons_succ, List.getElem_cons_succ]
    rw [show i + (j + 1) = i + 1 + j by omega]
    exact ih
theorem headsP_append (e s n : Nat) : ∀ (l m : List PatD) (i : Nat), headsP e s n (l ++ m) i = headsP e s n l i ++ headsP e s n m (i + l.length)
  | [], m, i => by simp [headsP]
  | p :: r, m, i => by simp only [List.cons_append, headsP, headsP_append e s n r, List.append_assoc, List.length_cons]; rw [show i + 1 + r.length = i + (r.length + 1) by omega]
theorem pairsP_append (e s n : Nat) : ∀ (l m : List PatD) (i : Nat), pairsP e s n (l ++ m) i = pairsP e s n l i ++ pairsP e s n m (i + l.length)
  | [], m, i => by simp [pairsP]
  | p :: r, m, i => by simp only [List.cons_append, pairsP, pairsP_append e s n r, List.length_cons]; rw [show i + 1 + r.length = i + (r.length + 1) by omega]
/-- What is asked of a batch that has sectors. -/
structure Fine (e s : Nat) (l : List PatD) : Prop where
  cnt : cntOk e s
  n1 : 1 ≤ l.length
  n2 : l.length ≤ 1023
  pat : ∀ p ∈ l, (0 ≤ p.member ∧ p.member ≤ 15) ∧ (0 ≤ p.row ∧ p.row ≤ 4095) ∧ p.data.length = 128
def rowsP (e s : Nat) (l : List PatD) : List (List UInt8) := pairsP e s l.length l 0 ++ [(cmtP e s l).enc.2]
theorem rowsP_length (e s : Nat) (l : List PatD) : (rowsP e s l).length = 2 * l.length + 1 := by simp [rowsP, pairsP_length]
theorem secs_fine {e s : Nat} {l : List PatD} (h : Fine e s l) : secsM e s l = (0, rowsP e s l) := by
  unfold secsM
  rw [if_neg (by have := h.n1; have := h.n2; omega), if_neg, if_neg]
  · rfl
  · rintro ⟨p, hp, hd⟩; exact hd (h.pat p hp).2.2
  · rintro (h1 | ⟨p, hp, hf⟩)
    · exact h1 h.cnt
    · have := h.pat p hp; unfold PatD.far at hf; omega
theorem secs_ok {e s : Nat} {l : List PatD} (h : (secsM e s l).1 = 0) : Fine e s l := by
  unfold secsM at h
  split at h
  · cases h
  · rename_i h1
    split at h
    · cases h
    · rename_i h2
      split at h
      · cases h
      · rename_i h3
        refine ⟨Decidable.of_not_not fun q => h2 (.inl q), by omega, by omega, fun p hp => ?_⟩
        have hf : ¬ p.far := fun q => h2 (.inr ⟨p, hp, q⟩)
        have hd : p.data.length = 128 := Decidable.of_not_not fun q => h3 ⟨p, hp, q⟩
        unfold PatD.far at hf
        exact ⟨by omega, by omega, hd⟩
theorem hdrP_good {e s : Nat} {l : List PatD} (h : Fine e s l) {i : Nat} (hi : i < l.length) : (hdrP e s l.length i l[i]).good := by
  have hp := h.pat l[i] (List.getElem_mem hi)
  have := h.n2
  exact ⟨h.cnt, ⟨by simp only [hdrP]; omega, by simp only [hdrP]; omega⟩, ⟨by simp only [hdrP]; omega, by simp only [hdrP]; omega⟩, hp.1, hp.2.1⟩
theorem hdrP_sum (e s n i : Nat) (p : PatD) : (hdrP e s n i p).sum < 4294967296 := (crcS (escM p.data)).isLt
theorem cmtP_good {e s : Nat} {l : List PatD} (h : Fine e s l) : (cmtP e s l).good := ⟨h.cnt, by have := h.n1; simp only [cmtP]; omega, by have := h.n2; simp only [cmtP]; omega⟩
theorem cmtP_sum (e s : Nat) (l : List PatD) : (cmtP e s l).sum < 4294967296 := (crcS _).isLt
theorem headP_dec {e s : Nat} {l : List PatD} (h : Fine e s l) {i : Nat} (hi : i < l.length) : HdrD.dec (headP e s l.length i l[i]) = (0, hdrP e s l.length i l[i]) := hdr_back _ (hdrP_good h hi) (hdrP_sum _ _ _ _ _)
theorem headP_length {e s : Nat} {l : List PatD} (h : Fine e s l) {i : Nat} (hi : i < l.length) : (headP e s l.length i l[i]).length = 128 := by
  unfold headP; rw [hdr_ok (hdrP_good h hi)]; exact sectF_length _ _ _ _ (hdr_sum _)
theorem cmtP_dec {e s : Nat} {l : List PatD} (h : Fine e s l) : CmtD.dec (cmtP e s l).enc.2 = (0, cmtP e s l) := cmt_back _ (cmtP_good h) (cmtP_sum _ _ _)
theorem cmtP_length {e s : Nat} {l : List PatD} (h : Fine e s l) : (cmtP e s l).enc.2.length = 128 := by
  rw [cmt_ok (cmtP_good h)]; exact sectF_length _ _ _ _ (cmt_sum _)
theorem rowsP_even {e s : Nat} {l : List PatD} {i : Nat} (hi : i < l.length) : (rowsP e s l)[2 * i]? = some (headP e s l.length i l[i]) := by
  unfold rowsP
  rw [List.getElem?_append_left (by rw [pairsP_length]; omega), (pairsP_get e s l.length l 0 i hi).1, Nat.zero_add]
theorem rowsP_odd {e s : Nat} {l : List PatD} {i : Nat} (hi : i < l.length) : (rowsP e s l)[2 * i + 1]? = some (escM l[i].data) := by
  unfold rowsP
  rw [List.getElem?_append_left (by rw [pairsP_length]; omega), (pairsP_get e s l.length l 0 i hi).2]
theorem rowsP_last (e s : Nat) (l : List PatD) : (rowsP e s l)[2 * l.length]? = some (cmtP e s l).enc.2 := by
  unfold rowsP
  rw [List.getElem?_append_right (by rw [pairsP_length]; exact Nat.le_refl _), pairsP_length]; simp
theorem rowsP_128 {e s : Nat} {l : List PatD} (h : Fine e s l) : ∀ r ∈ rowsP e s l, r.length = 128 := by
  intro r hr
  obtain ⟨j, hj⟩ := List.mem_iff_getElem?.1 hr
  have hlt := (List.getElem?_eq_some_iff.1 hj).1
  rw [rowsP_length] at hlt
  rcases Nat.lt_or_ge j (2 * l.length) with h1 | h1
  · rcases Nat.mod_two_eq_zero_or_one j with h2 | h2
    · rw [show j = 2 * (j / 2) by omega, rowsP_even (by omega)] at hj
      injection hj with hj; rw [← hj]; exact headP_length h _
    · rw [show j = 2 * (j / 2) + 1 by omega, rowsP_odd (by omega)] at hj
      injection hj with hj; rw [← hj]; exact escN_length (h.pat _ (List.getElem_mem _)).2.2
  · rw [show j = 2 * l.length by omega, rowsP_last] at hj
    injection hj with hj; rw [← hj]; exact cmtP_length h
/-! ### When one counts -/
abbrev SecF := Nat → List UInt8
/-- The i-th pair of sectors is as it must be. -/
def stepOk (sec : SecF) (e s : Nat) (n : Int) (i : Nat) : Prop :=
  (HdrD.dec (sec (2 * i))).1 = 0 ∧ (HdrD.dec (sec (2 * i))).2.epoch = e ∧ (HdrD.dec (sec (2 * i))).2.seq = s ∧ (HdrD.dec (sec (2 * i))).2.index = i ∧ (HdrD.dec (sec (2 * i))).2.count = n ∧
  (unD (sec (2 * i + 1)) (HdrD.dec (sec (2 * i))).2.escaped).2 = 0 ∧ (crcS (sec (2 * i + 1))).toNat = (HdrD.dec (sec (2 * i))).2.sum
instance (sec : SecF) (e s : Nat) (n : Int) (i : Nat) : Decidable (stepOk sec e s n i) := by unfold stepOk; exact inferInstance
def patAt (sec : SecF) (i : Nat) : PatD := ⟨(HdrD.dec (sec (2 * i))).2.member, (HdrD.dec (sec (2 * i))).2.row, (unD (sec (2 * i + 1)) (HdrD.dec (sec (2 * i))).2.escaped).1⟩
def headsF (sec : SecF) : Nat → List UInt8
  | 0 => []
  | i + 1 => headsF sec i ++ sec (2 * i)
def batN (sec : SecF) : Int := (HdrD.dec (sec 0)).2.count
def batOk (sec : SecF) (room e s : Nat) : Prop :=
  (HdrD.dec (sec 0)).1 = 0 ∧ 2 * batN sec + 1 ≤ room ∧ (∀ i, i < (batN sec).toNat → stepOk sec e s (batN sec) i) ∧
  (CmtD.dec (sec (2 * (batN sec).toNat))) = (0, ⟨e, s, batN sec, (crcS (headsF sec (batN sec).toNat)).toNat⟩)
instance instCmtN : DecidableEq CmtD := fun a b => if h : a.epoch = b.epoch ∧ a.seq = b.seq ∧ a.count = b.count ∧ a.sum = b.sum then isTrue (by cases a; cases b; simp_all) else isFalse (fun q => h (by rw [q]; exact ⟨rfl, rfl, rfl, rfl⟩))
instance (sec : SecF) (room e s : Nat) : Decidable (batOk sec room e s) := by unfold batOk; exact inferInstance
def batM (sec : SecF) (room e s : Nat) : Option (List PatD) := if batOk sec room e s then some ((List.range (batN sec).toNat).map (patAt sec)) else none
theorem headsP_map (e s : Nat) (sec : SecF) (n : Nat) : ∀ (m : Nat), (∀ i, i < m → sec (2 * i) = headP e s n i (patAt sec i)) → headsP e s n ((List.range m).map (patAt sec)) 0 = headsF sec m
  | 0, _ => rfl
  | m + 1, h => by
    rw [List.range_succ, List.map_append, headsP_append, headsP_map e s sec n m (fun i hi => h i (by omega))]
    simp only [List.map_cons, List.map_nil, headsP, List.append_nil, List.length_map, List.length_range, Nat.zero_add, headsF]
    rw [h m (by omega)]
/-- WHEN A BATCH COUNTS: just if its own sectors stand there. -/
theorem bat_iff (sec : SecF) (room e s : Nat) (l : List PatD) : batM sec room e s = some l ↔ Fine e s l ∧ 2 * l.length + 1 ≤ room ∧ ∀ j, j < 2 * l.length + 1 → (rowsP e s l)[j]? = some (sec j) := by
  constructor
  · intro h
    unfold batM at h
    split at h
    · rename_i hb
      injection h with h
      obtain ⟨h0, hroom, hst, hc⟩ := hb
      have g0 := (hdr_decO h0).2.1
      have hn1 : 1 ≤ batN sec ∧ batN sec ≤ 1023 := g0.2.1
      obtain ⟨N, hN⟩ : ∃ N : Nat, batN sec = N := ⟨(batN sec).toNat, by omega⟩
      rw [hN] at hst hc hroom hn1
      rw [hN] at h
      rw [Int.toNat_natCast] at hst hc h
      have hl : l.length = N := by rw [← h]; simp
      have hget : ∀ (i : Nat) (hi : i < l.length), l[i] = patAt sec i := by
        intro i hi; simp only [← h, List.getElem_map, List.getElem_range]
      have hs : ∀ i, i < N → sec (2 * i) = headP e s N i (patAt sec i) ∧ sec (2 * i + 1) = escM (patAt sec i).data ∧ (patAt sec i).data.length = 128 ∧ (0 ≤ (patAt sec i).member ∧ (patAt sec i).member ≤ 15) ∧ (0 ≤ (patAt sec i).row ∧ (patAt sec i).row ≤ 4095) ∧ cntOk e s := by
        intro i hi
        obtain ⟨a1, a2, a3, a4, a5, a6, a7⟩ := hst i hi
        obtain ⟨_, b2, b3, b4⟩ := hdr_decO a1
        obtain ⟨c1, c2, c3⟩ := unN_esc a6
        have hh : (HdrD.dec (sec (2 * i))).2 = hdrP e s N i (patAt sec i) := by
          unfold hdrP patAt
          dsimp only
          rw [c2, c3, a7, ← a2, ← a3, ← a4, ← a5]
        refine ⟨?_, c2.symm, c1, b2.2.2.2.1, b2.2.2.2.2, by rw [← a2, ← a3]; exact b2.1⟩
        unfold headP
        rw [← hh, b3]
      have hfine : Fine e s l := by
        refine ⟨(hs 0 (by omega)).2.2.2.2.2, by omega, by omega, fun p hp => ?_⟩
        obtain ⟨i, hi, rfl⟩ := List.mem_iff_getElem.1 hp
        rw [hget i hi]
        have := hs i (by omega)
        exact ⟨this.2.2.2.1, this.2.2.2.2.1, this.2.2.1⟩
      refine ⟨hfine, by omega, fun j hj => ?_⟩
      rcases Nat.lt_or_ge j (2 * l.length) with h1 | h1
      · rcases Nat.mod_two_eq_zero_or_one j with h2 | h2
        · obtain ⟨i, rfl⟩ : ∃ i, j = 2 * i := ⟨j / 2, by omega⟩
          rw [rowsP_even (by omega), hget i (by omega), hl, ← (hs i (by omega)).1]
        · obtain ⟨i, rfl⟩ : ∃ i, j = 2 * i + 1 := ⟨j / 2, by omega⟩
          rw [rowsP_odd (by omega), hget i (by omega), ← (hs i (by omega)).2.1]
      · obtain rfl : j = 2 * l.length := by omega
        rw [rowsP_last]
        have hcm : cmtP e s l = ⟨e, s, N, (crcS (headsF sec N)).toNat⟩ := by
          unfold cmtP
          rw [hl, ← h, headsP_map e s sec N N (fun i hi => (hs i hi).1)]
        have hd := cmt_decO (b := sec (2 * N)) (by rw [hc])
        rw [hc] at hd
        rw [hcm, hd.2.2, hl]
    · cases h
  · rintro ⟨hf, hroom, hrow⟩
    have hn1 := hf.n1
    have he : ∀ (i : Nat) (hi : i < l.length), sec (2 * i) = headP e s l.length i l[i] ∧ sec (2 * i + 1) = escM l[i].data := by
      intro i hi
      have h1 := hrow (2 * i) (by omega)
      have h2 := hrow (2 * i + 1) (by omega)
      rw [rowsP_even hi] at h1
      rw [rowsP_odd hi] at h2
      injection h1 with h1; injection h2 with h2
      exact ⟨h1.symm, h2.symm⟩
    have hd : ∀ (i : Nat) (hi : i < l.length), HdrD.dec (sec (2 * i)) = (0, hdrP e s l.length i l[i]) := fun i hi => by rw [(he i hi).1]; exact headP_dec hf hi
    have hu : ∀ (i : Nat) (hi : i < l.length), unD (sec (2 * i + 1)) (hdrP e s l.length i l[i]).escaped = (l[i].data, 0) := fun i hi => by rw [(he i hi).2]; exact unN_back (hf.pat _ (List.getElem_mem hi)).2.2
    have h0 := hd 0 (by omega)
    rw [Nat.mul_zero] at h0
    have hN : batN sec = l.length := by unfold batN; rw [h0]; rfl
    have hp : ∀ (i : Nat) (hi : i < l.length), patAt sec i = l[i] := by
      intro i hi
      unfold patAt
      rw [hd i hi]; dsimp only
      rw [hu i hi]; rfl
    have hm : (List.range l.length).map (patAt sec) = l := by
      apply List.ext_getElem
      · simp
      · intro i h1 h2; simp only [List.getElem_map, List.getElem_range]; exact hp i h2
    unfold batM
    rw [if_pos]
    · rw [hN, Int.toNat_natCast, hm]
    · refine ⟨by rw [h0], by rw [hN]; omega, ?_, ?_⟩
      · intro i hi
        rw [hN, Int.toNat_natCast] at hi
        unfold stepOk
        rw [hN, hd i hi]
        dsimp only
        rw [hu i hi, (he i hi).2]
        exact ⟨rfl, rfl, rfl, rfl, rfl, rfl, rfl⟩
      · have h1 := hrow (2 * l.length) (by omega)
        rw [rowsP_last] at h1
        injection h1 with h1
        rw [hN, Int.toNat_natCast, ← h1, cmtP_dec hf]
        congr 1
        unfold cmtP
        congr 3
        rw [← headsP_map e s sec l.length l.length (fun i hi => by rw [hp i hi]; exact (he i hi).1), hm]
/-! ### What a scan finds -/
def rotF (sec : SecF) (size hd : Nat) : SecF := fun j => sec ((hd + j) % size)
def ofM (sec : SecF) (size e : Nat) : Nat → Nat → Nat → Nat → List (Nat × List PatD)
  | 0, _, _, _ => []
  | f + 1, nx, us, hd => if nx ≤ 4611686018427387904 then match batM (rotF sec size hd) (size - us) e nx with
    | none => []
    | some l => (nx, l) :: ofM sec size e f (nx + 1) (us + (2 * l.length + 1)) ((hd + (2 * l.length + 1)) % size)
    else []
def costT (ts : List (Nat × List PatD)) : Nat := (ts.map fun t => 2 * t.2.length + 1).sum
end Go.Proofs.Ytlojjlbngnaphaa

/-! Text Nq. -/
/- What a scan finds: the plain law. -/
set_option maxRecDepth 8000
set_option linter.unusedVariables false
set_option linter.unusedSimpArgs false
set_option linter.unusedSectionVars false
namespace Go.Proofs.Ytlojjlbngnaphaa
open Go.RowKit Go.Sl
attribute [local irreducible] Own

def mostC : Nat := 4611686018427387904
/-- Batches, numbered one behind the other. -/
def numb (s : Nat) : List (List PatD) → List (Nat × List PatD)
  | [] => []
  | l :: r => (s, l) :: numb (s + 1) r
def costL (ls : List (List PatD)) : Nat := (ls.map fun l => 2 * l.length + 1).sum
theorem costL_cons (l : List PatD) (r : List (List PatD)) : costL (l :: r) = (2 * l.length + 1) + costL r := by simp [costL]
theorem costL_append (a b : List (List PatD)) : costL (a ++ b) = costL a + costL b := by simp [costL]
theorem costT_cons (t : Nat × List PatD) (r : List (Nat × List PatD)) : costT (t :: r) = (2 * t.2.length + 1) + costT r := by simp [costT]
theorem costT_append (a b : List (Nat × List PatD)) : costT (a ++ b) = costT a + costT b := by simp [costT]
theorem numb_length : ∀ (ls : List (List PatD)) (s : Nat), (numb s ls).length = ls.length
  | [], _ => rfl
  | _ :: r, s => by simp [numb, numb_length r]
theorem rotF_mod (sec : SecF) (size hd : Nat) : rotF sec size (hd % size) = rotF sec size hd := by
  funext j; unfold rotF; rw [Nat.mod_add_mod]
section
variable {sec : SecF} {size e : Nat}
theorem bat_room {room s : Nat} {l : List PatD} (h : batM sec room e s = some l) : 2 * l.length + 1 ≤ room ∧ 1 ≤ l.length := by
  have := (bat_iff sec room e s l).1 h
  exact ⟨this.2.1, this.1.n1⟩
theorem of_cost : ∀ (f nx us hd : Nat), us ≤ size → us + costT (ofM sec size e f nx us hd) ≤ size
  | 0, _, us, _, h => by simpa [ofM, costT] using h
  | f + 1, nx, us, hd, h => by
    unfold ofM
    split
    · split
      · simpa [costT] using h
      · rename_i l hl
        have hr := bat_room hl
        have ih := of_cost f (nx + 1) (us + (2 * l.length + 1)) ((hd + (2 * l.length + 1)) % size) (by omega)
        rw [costT_cons]; dsimp only; omega
    · simpa [costT] using h
/-- Each of them counts where it stands. -/
theorem of_each : ∀ (f nx us hd i : Nat) (t : Nat × List PatD), (ofM sec size e f nx us hd)[i]? = some t → t.1 = nx + i ∧ nx + i ≤ mostC ∧
    batM (rotF sec size (hd + costT ((ofM sec size e f nx us hd).take i))) (size - (us + costT ((ofM sec size e f nx us hd).take i))) e (nx + i) = some t.2
  | 0, _, _, _, i, t, h => by simp [ofM] at h
  | f + 1, nx, us, hd, i, t, h => by
    unfold ofM at h ⊢
    split at h
    · rename_i hm
      rw [if_pos hm]
      split at h
      · simp at h
      · rename_i l hl
        cases i with
        | zero =>
          simp only [List.getElem?_cons_zero, Option.some.injEq] at h
          subst h
          exact ⟨rfl, hm, by simpa [costT] using hl⟩
        | succ i =>
          simp only [List.getElem?_cons_succ] at h
          obtain ⟨h1, h2, h3⟩ := of_each f _ _ _ i t h
          refine ⟨by omega, by omega, ?_⟩
          rw [List.take_succ_cons, costT_cons]
          rw [← rotF_mod] at h3
          rw [Nat.mod_add_mod, rotF_mod] at h3
          rw [show hd + ((2 * (nx, l).2.length + 1) + costT ((ofM sec size e f (nx + 1) (us + (2 * l.length + 1)) ((hd + (2 * l.length + 1)) % size)).take i)) = hd + (2 * l.length + 1) + costT ((ofM sec size e f (nx + 1) (us + (2 * l.length + 1)) ((hd + (2 * l.length + 1)) % size)).take i) by simp only; omega,
            show us + ((2 * (nx, l).2.length + 1) + costT ((ofM sec size e f (nx + 1) (us + (2 * l.length + 1)) ((hd + (2 * l.length + 1)) % size)).take i)) = us + (2 * l.length + 1) + costT ((ofM sec size e f (nx + 1) (us + (2 * l.length + 1)) ((hd + (2 * l.length + 1)) % size)).take i) by simp only; omega,
            show nx + (i + 1) = nx + 1 + i by omega]
          exact h3
    · simp at h
/-- Batches that count, one behind the other, are found. -/
theorem of_prefix : ∀ (ls : List (List PatD)) (f nx us hd : Nat), (∀ (k : Nat) (h : k < ls.length), nx + k ≤ mostC ∧ batM (rotF sec size (hd + costL (ls.take k))) (size - (us + costL (ls.take k))) e (nx + k) = some ls[k]) → ls.length ≤ f →
    ofM sec size e f nx us hd = numb nx ls ++ ofM sec size e (f - ls.length) (nx + ls.length) (us + costL ls) (if ls = [] then hd else (hd + costL ls) % size)
  | [], f, nx, us, hd, _, _ => by simp [numb, costL]
  | l :: r, 0, nx, us, hd, _, h => by simp at h
  | l :: r, f + 1, nx, us, hd, h, hf => by
    obtain ⟨h1, h2⟩ := h 0 (by simp)
    simp only [List.take_zero, Nat.add_zero, List.getElem_cons_zero, show costL [] = 0 from rfl] at h1 h2
    have ih := of_prefix r f (nx + 1) (us + (2 * l.length + 1)) ((hd + (2 * l.length + 1)) % size) (fun k hk => by
      obtain ⟨h3, h4⟩ := h (k + 1) (by simpa using hk)
      rw [List.take_succ_cons, costL_cons, List.getElem_cons_succ] at h4
      refine ⟨by omega, ?_⟩
      rw [← rotF_mod, Nat.mod_add_mod, rotF_mod, show hd + (2 * l.length + 1) + costL (r.take k) = hd + (2 * l.length + 1 + costL (r.take k)) by omega, show us + (2 * l.length + 1) + costL (r.take k) = us + (2 * l.length + 1 + costL (r.take k)) by omega, show nx + 1 + k = nx + (k + 1) by omega]
      exact h4) (by simpa using hf)
    rw [ofM, if_pos (show nx ≤ 4611686018427387904 from h1), h2]
    dsimp only
    rw [ih]
    simp only [numb, List.cons_append, List.length_cons, costL_cons, reduceCtorEq, if_false, List.cons.injEq, true_and]
    congr 2
    · omega
    · omega
    · omega
    · by_cases hr : r = []
      · subst hr; simp [costL]
      · rw [if_neg hr, Nat.mod_add_mod]; congr 1; omega
end
/-! ### Batches laid side by side -/
def flatR (e s : Nat) : List (List PatD) → List (List UInt8)
  | [] => []
  | l :: r => rowsP e s l ++ flatR e (s + 1) r
theorem flatR_length (e : Nat) : ∀ (ls : List (List PatD)) (s : Nat), (flatR e s ls).length = costL ls
  | [], _ => rfl
  | l :: r, s => by rw [flatR, List.length_append, rowsP_length, flatR_length e r, costL_cons]
theorem flatR_append (e : Nat) : ∀ (a b : List (List PatD)) (s : Nat), flatR e s (a ++ b) = flatR e s a ++ flatR e (s + a.length) b
  | [], b, s => rfl
  | l :: r, b, s => by
    simp only [List.cons_append, flatR, flatR_append e r, List.append_assoc, List.length_cons]
    rw [show s + 1 + r.length = s + (r.length + 1) by omega]
theorem flatR_get (e : Nat) (ls : List (List PatD)) (s k j : Nat) (h : k < ls.length) (hj : j < 2 * ls[k].length + 1) : (flatR e s ls)[costL (ls.take k) + j]? = (rowsP e (s + k) ls[k])[j]? := by
  have e1 : ls = ls.take k ++ ls[k] :: ls.drop (k + 1) := by rw [← List.drop_eq_getElem_cons h, List.take_append_drop]
  have e2 : flatR e s ls = flatR e s (ls.take k) ++ (rowsP e (s + k) ls[k] ++ flatR e (s + k + 1) (ls.drop (k + 1))) := by
    conv => lhs; rw [e1]
    rw [flatR_append, flatR, List.length_take, Nat.min_eq_left (by omega)]
  rw [e2, List.getElem?_append_right (by rw [flatR_length]; omega), flatR_length, show costL (ls.take k) + j - costL (ls.take k) = j by omega, List.getElem?_append_left (by rw [rowsP_length]; exact hj)]
theorem costL_take_le (ls : List (List PatD)) (k : Nat) (h : k < ls.length) : costL (ls.take k) + (2 * ls[k].length + 1) ≤ costL ls := by
  have e1 : ls = ls.take k ++ ls[k] :: ls.drop (k + 1) := by rw [← List.drop_eq_getElem_cons h, List.take_append_drop]
  have : costL ls = costL (ls.take k) + ((2 * ls[k].length + 1) + costL (ls.drop (k + 1))) := by
    conv => lhs; rw [e1]
    rw [costL_append, costL_cons]
  omega
/-- All of them fine, by their numbers. -/
def FineL (e s : Nat) (ls : List (List PatD)) : Prop := ∀ (k : Nat) (h : k < ls.length), Fine e (s + k) ls[k]
/-- WHAT IS LAID IS FOUND. -/
theorem laid_found {sec : SecF} {size e s at_ : Nat} {ls : List (List PatD)} (hf : FineL e s ls) (hc : costL ls ≤ size) (hs : ∀ j, j < costL ls → (flatR e s ls)[j]? = some (sec ((at_ + j) % size))) :
    ∀ (k : Nat) (h : k < ls.length), s + k ≤ mostC ∧ batM (rotF sec size (at_ + costL (ls.take k))) (size - (0 + costL (ls.take k))) e (s + k) = some ls[k] := by
  intro k h
  have hk := hf k h
  have hle := costL_take_le ls k h
  refine ⟨hk.cnt.2.2, (bat_iff _ _ _ _ _).2 ⟨hk, by omega, fun j hj => ?_⟩⟩
  rw [← flatR_get e ls s k j h hj, hs _ (by omega)]
  unfold rotF
  rw [Nat.add_assoc]
theorem of_laid {sec : SecF} {size e s at_ f : Nat} {ls : List (List PatD)} (hf : FineL e s ls) (hc : costL ls ≤ size) (hs : ∀ j, j < costL ls → (flatR e s ls)[j]? = some (sec ((at_ + j) % size))) (hl : ls.length ≤ f) :
    ofM sec size e f s 0 at_ = numb s ls ++ ofM sec size e (f - ls.length) (s + ls.length) (costL ls) (if ls = [] then at_ else (at_ + costL ls) % size) := by
  have := of_prefix ls f s 0 at_ (laid_found hf hc hs) hl
  rwa [Nat.zero_add] at this
theorem costL_len : ∀ (ls : List (List PatD)), ls.length ≤ costL ls
  | [] => Nat.le_refl _
  | l :: r => by have := costL_len r; rw [costL_cons, List.length_cons]; omega
/-- Where nothing counts, nothing more is found. -/
theorem of_none {sec : SecF} {size e f nx us hd : Nat} (h : batM (rotF sec size hd) (size - us) e nx = none) : ofM sec size e f nx us hd = [] := by
  cases f with
  | zero => rfl
  | succ f => unfold ofM; split
              · rw [h]
              · rfl
/-- A place that does not begin a batch. -/
theorem bat_no {sec : SecF} {room e s : Nat} (h : (HdrD.dec (sec 0)).1 ≠ 0) : batM sec room e s = none := by
  unfold batM; rw [if_neg (fun q => h q.1)]
theorem bat_head {sec : SecF} {room e s : Nat} {l : List PatD} (h : batM sec room e s = some l) : (HdrD.dec (sec 0)).1 = 0 ∧ (HdrD.dec (sec 0)).2.epoch = e ∧ (HdrD.dec (sec 0)).2.seq = s := by
  obtain ⟨h1, h2, h3⟩ := (bat_iff _ _ _ _ _).1 h
  have h4 := h3 0 (by omega)
  have hn := h1.n1
  have h5 := rowsP_even (e := e) (s := s) (l := l) (i := 0) (by omega)
  rw [Nat.mul_zero] at h5
  rw [h5] at h4
  injection h4 with h4
  rw [← h4, headP_dec h1 (by omega)]
  exact ⟨rfl, rfl, rfl⟩
theorem bat_other {sec : SecF} {room e s e' s' : Nat} {l : List PatD} {room' : Nat} (h : batM sec room e s = some l) (hne : e' ≠ e ∨ s' ≠ s) : batM sec room' e' s' = none := by
  cases h2 : batM sec room' e' s' with
  | none => rfl
  | some l' =>
    have a := bat_head h
    have b := bat_head h2
    omega
theorem kind_nought {b : List UInt8} (h : b.take 4 ≠ magicL) (k : UInt8) (hk : k ≠ 0) : looksM b k ≠ 0 := by
  unfold looksM
  split
  · decide
  · have : kindB b = 0 := by unfold kindB; rw [if_neg (fun q => h q.2.1)]
    rw [this, if_pos (fun q => hk q.symm)]; decide
theorem dec_nought {b : List UInt8} (h : b.take 4 ≠ magicL) : (HdrD.dec b).1 ≠ 0 ∧ (CmtD.dec b).1 ≠ 0 := by
  constructor
  · intro q; exact kind_nought h 1 (by decide) (hdr_decO q).1
  · intro q; exact kind_nought h 2 (by decide) (cmt_decO q).1
/-- ONE SECTOR HURT: the batch that it stands in counts no more (but where a sector of data can't be told by its sum). -/
theorem hurt_none {sec was : SecF} {room room' e s : Nat} {l : List PatD} {j : Nat} {z : List UInt8} (h : batM sec room e s = some l) (hj : j < 2 * l.length + 1) (hz : z.take 4 ≠ magicL) (hw : was j = z) (hk : ∀ i, i < 2 * l.length + 1 → i ≠ j → was i = sec i)
    (hu : (crcS (sec j)).toNat ≠ (crcS z).toNat) : batM was room' e s = none := by
  cases h2 : batM was room' e s with
  | none => rfl
  | some l' =>
    exfalso
    obtain ⟨f1, _, r1⟩ := (bat_iff _ _ _ _ _).1 h
    obtain ⟨f2, _, r2⟩ := (bat_iff _ _ _ _ _).1 h2
    have n1 := f1.n1
    have n2 := f2.n1
    have head : ∀ {x : Nat} {m : List PatD} {q : SecF} (f : Fine e s m) (r : ∀ j, j < 2 * m.length + 1 → (rowsP e s m)[j]? = some (q j)) (hx : x < m.length), HdrD.dec (q (2 * x)) = (0, hdrP e s m.length x m[x]) := by
      intro x m q f r hx
      have := r (2 * x) (by omega)
      rw [rowsP_even hx] at this
      injection this with this
      rw [← this, headP_dec f hx]
    by_cases h0 : j = 0
    · subst h0
      have := head f2 r2 (x := 0) (by omega)
      rw [Nat.mul_zero, hw] at this
      exact (dec_nought hz).1 (by rw [this])
    · have a1 := head f1 r1 (x := 0) (by omega)
      have a2 := head f2 r2 (x := 0) (by omega)
      rw [Nat.mul_zero] at a1 a2
      rw [hk 0 (by omega) (fun q => h0 q.symm), a1] at a2
      have hlen : l.length = l'.length := by
        injection a2 with _ a2
        have : ((l.length : Nat) : Int) = (l'.length : Nat) := congrArg HdrD.count a2
        omega
      rcases Nat.mod_two_eq_zero_or_one j with hp | hp
      · obtain ⟨x, rfl⟩ : ∃ x, j = 2 * x := ⟨j / 2, by omega⟩
        by_cases hx : x < l'.length
        · have := head f2 r2 hx
          rw [hw] at this
          exact (dec_nought hz).1 (by rw [this])
        · have hx2 : x = l'.length := by omega
          subst hx2
          have := r2 (2 * l'.length) (by omega)
          rw [rowsP_last] at this
          injection this with this
          rw [hw] at this
          exact (dec_nought hz).2 (by rw [← this, cmtP_dec f2])
      · obtain ⟨x, rfl⟩ : ∃ x, j = 2 * x + 1 := ⟨j / 2, by omega⟩
        have hx : x < l.length := by omega
        have hx' : x < l'.length := by omega
        have b1 := head f1 r1 hx
        have b2 := head f2 r2 hx'
        rw [hk (2 * x) (by omega) (by omega), b1] at b2
        injection b2 with _ b2
        have hs : (crcS (escM l[x].data)).toNat = (crcS (escM l'[x].data)).toNat := congrArg HdrD.sum b2
        have c1 := r1 (2 * x + 1) (by omega)
        have c2 := r2 (2 * x + 1) (by omega)
        rw [rowsP_odd hx] at c1
        rw [rowsP_odd hx'] at c2
        injection c1 with c1; injection c2 with c2
        rw [hw] at c2
        rw [c1, c2] at hs
        exact hu hs
/-! ### A ring as bytes -/
def secB (ring : List UInt8) : SecF := fun k => (ring.drop (128 * k)).take 128
structure FndD where
  txns : List (Nat × List PatD)
  next : Nat
  head : Nat
  used : Nat
def foundM (ring : List UInt8) (c : ChkD) : Int × FndD :=
  if c.enc.1 ≠ 0 ∨ ring.length % 128 ≠ 0 ∨ ring.length / 128 < 5 ∨ 2048 < ring.length / 128 ∨ ((ring.length / 128 : Nat) : Int) ≤ c.tail then (1, ⟨[], 0, 0, 0⟩) else
  let ts := ofM (secB ring) (ring.length / 128) c.epoch (ring.length / 128 + 1) c.seq 0 c.tail.toNat
  (0, ⟨ts, c.seq + ts.length, (c.tail.toNat + costT ts) % (ring.length / 128), costT ts⟩)
/-- A sector laid in. -/
def putS (b : List UInt8) (k : Nat) (r : List UInt8) : List UInt8 := b.take (128 * k) ++ r ++ b.drop (128 * k + 128)
theorem putS_length {b r : List UInt8} {k n : Nat} (h : b.length = 128 * n) (hk : k < n) (hr : r.length = 128) : (putS b k r).length = 128 * n := by
  unfold putS; simp only [List.length_append, List.length_take, List.length_drop]; omega
theorem sec_put {b r : List UInt8} {k n : Nat} (h : b.length = 128 * n) (hk : k < n) (hr : r.length = 128) (j : Nat) : secB (putS b k r) j = if j = k then r else secB b j := by
  have hl : (b.take (128 * k)).length = 128 * k := by rw [List.length_take]; omega
  unfold secB putS
  by_cases e : j = k
  · subst e
    rw [if_pos rfl, List.append_assoc, List.drop_left' hl, List.take_left' hr]
  · rw [if_neg e]
    apply List.ext_getElem?
    intro i
    by_cases hi : i < 128
    · rw [List.getElem?_take, if_pos hi, List.getElem?_take, if_pos hi, List.getElem?_drop, List.getElem?_drop]
      rcases Nat.lt_or_ge j k with h1 | h1
      · rw [List.append_assoc, List.getElem?_append_left (by omega), List.getElem?_take, if_pos (by omega)]
      · rw [List.getElem?_append_right (by rw [List.length_append, hl, hr]; omega), List.length_append, hl, hr, List.getElem?_drop]
        congr 1; omega
    · rw [List.getElem?_take, if_neg hi, List.getElem?_take, if_neg hi]
/-- The first so many sectors laid in, from a place on. -/
def laidN (ring : List UInt8) (at_ : Nat) (rows : List (List UInt8)) : Nat → List UInt8
  | 0 => ring
  | i + 1 => match rows[i]? with
    | none => laidN ring at_ rows i
    | some r => putS (laidN ring at_ rows i) ((at_ + i) % (ring.length / 128)) r
theorem laidN_length {ring : List UInt8} {at_ n : Nat} {rows : List (List UInt8)} (h : ring.length = 128 * n) (hn : 0 < n) (hr : ∀ r ∈ rows, r.length = 128) : ∀ i, (laidN ring at_ rows i).length = 128 * n
  | 0 => h
  | i + 1 => by
    unfold laidN
    split
    · exact laidN_length h hn hr i
    · rename_i r hi
      have e : ring.length / 128 = n := by omega
      exact putS_length (laidN_length h hn hr i) (by rw [e]; exact Nat.mod_lt _ hn) (hr r (List.mem_of_getElem? hi))
theorem mod_inj {a i j n : Nat} (hi : i < n) (hj : j < n) (h : (a + i) % n = (a + j) % n) : i = j := by
  have h1 := Nat.mod_add_div (a + i) n
  have h2 := Nat.mod_add_div (a + j) n
  rw [h] at h1
  generalize (a + i) / n = x at *
  generalize (a + j) / n = y at *
  rcases Nat.lt_trichotomy x y with hxy | hxy | hxy
  · have : n * x + n ≤ n * y := by rw [← Nat.mul_succ]; exact Nat.mul_le_mul_left _ hxy
    omega
  · subst hxy; omega
  · have : n * y + n ≤ n * x := by rw [← Nat.mul_succ]; exact Nat.mul_le_mul_left _ hxy
    omega
theorem sec_laid {ring : List UInt8} {at_ n : Nat} {rows : List (List UInt8)} (h : ring.length = 128 * n) (hn : 0 < n) (hr : ∀ r ∈ rows, r.length = 128) (hc : rows.length ≤ n) : ∀ i, i ≤ rows.length →
    (∀ j, j < i → some (secB (laidN ring at_ rows i) ((at_ + j) % n)) = rows[j]?) ∧ (∀ j, i ≤ j → j < n → secB (laidN ring at_ rows i) ((at_ + j) % n) = secB ring ((at_ + j) % n))
  | 0, _ => ⟨fun j hj => absurd hj (by omega), fun _ _ _ => rfl⟩
  | i + 1, hi => by
    obtain ⟨h1, h2⟩ := sec_laid h hn hr hc i (by omega)
    have e : ring.length / 128 = n := by omega
    have hget : rows[i]? = some rows[i] := List.getElem?_eq_getElem (by omega)
    have hun : laidN ring at_ rows (i + 1) = putS (laidN ring at_ rows i) ((at_ + i) % n) rows[i] := by
      rw [laidN, hget, e]
    have hs := sec_put (laidN_length (at_ := at_) h hn hr i) (Nat.mod_lt (at_ + i) hn) (hr rows[i] (List.getElem_mem _))
    rw [hun]
    constructor
    · intro j hj
      rw [hs]
      by_cases q : j = i
      · subst q; rw [if_pos rfl, hget]
      · rw [if_neg (fun z => q (mod_inj (by omega) (by omega) z))]; exact h1 j (by omega)
    · intro j hj hjn
      rw [hs, if_neg (fun z => by have := mod_inj (by omega) (by omega) z; omega)]
      exact h2 j (by omega) hjn
end Go.Proofs.Ytlojjlbngnaphaa

