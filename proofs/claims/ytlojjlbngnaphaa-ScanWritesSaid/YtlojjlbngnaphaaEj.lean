/- The program's EncodeHeader, EncodeCommit, EncodeCheck. -/
import Derived.Test.YtlojjlbngnaphaaEh
import Derived.Test.YtlojjlbngnaphaaLp
import Derived.Test.YtlojjlbngnaphaaLs
set_option maxRecDepth 8000
set_option linter.unusedVariables false
set_option linter.unusedSimpArgs false
set_option linter.unusedSectionVars false
namespace Go.Proofs.Ytlojjlbngnaphaa
open Go.RowKit Go.Sl
attribute [local irreducible] Own

/-- Bytes that are read wherever they lie. -/
theorem rawR_ok {W : World} {R : List SProp} {ao : Option Addr} {cap n : Nat} {l : List UInt8} (p : Nat) (k : Pk) (hb : Rds W R 1 ao n (bytes l)) :
    Does1 W Try.prog 88 [.pointer (some ⟨p, 0, none⟩), .slice ao n cap] (PackerR p k :: R) (.tuple #[]) (PackerR p (k.raw l) :: R) := by
  have hl : l.length = n := by have := hb.len; simpa using this
  subst hl
  (refine Does.enter Try.func88 Try.ntmps88 rfl rfl ?_)
  refine VC.know (fun w => PackerR.know) ?_
  intro ⟨h1, h2, h3⟩
  (refine w ?_; repeat ((first | refine VO.step rfl rfl ?_ | refine VD.end rfl rfl rfl ?_ | refine VD.mid rfl rfl rfl ?_); refine OpV.box rfl rfl rfl ?_; intro _; refine w ?_))
  (((first | refine VO.step rfl rfl ?_ | refine VD.end rfl rfl rfl ?_ | refine VD.mid rfl rfl rfl ?_); refine OpV.call rfl rfl (fun _ _ => by simp) (room_ok p k l.length) Ent.re rfl ?_); intro _ _)
  (refine w ?_; repeat ((first | refine VO.step rfl rfl ?_ | refine VD.end rfl rfl rfl ?_ | refine VD.mid rfl rfl rfl ?_); refine OpV.box rfl rfl rfl ?_; intro _; refine w ?_))
  (refine VC.cond rfl rfl ?_ ?_ <;> intro hc)
  · have hr : (k.room l.length).bad = 0 := by simpa using hc
    obtain ⟨e1, e2, e3⟩ := Pk.room_zero hr
    rw [e1]
    refine VC.obtain (fun w => PackerR.open) ?_
    rintro ⟨⟨ao, cap⟩, -⟩
    (refine w ?_; repeat ((first | refine VO.step rfl rfl ?_ | refine VD.end rfl rfl rfl ?_ | refine VD.mid rfl rfl rfl ?_); refine OpV.box rfl rfl rfl ?_; intro _; refine w ?_))
    (first | refine VO.step rfl rfl ?_ | refine VD.end rfl rfl rfl ?_ | refine VD.mid rfl rfl rfl ?_)
    refine OpV.append st_55 rfl rfl (by (repeat first | exact .head | apply Hole.tail)) (fun w hw => (hb.sees hw.tail.tail).src st_55.und) (by simp only [maxLen]; omega) (by omega) rfl ?_
    intro ao' cap'
    (refine w ?_; repeat ((first | refine VO.step rfl rfl ?_ | refine VD.end rfl rfl rfl ?_ | refine VD.mid rfl rfl rfl ?_); refine OpV.box rfl rfl rfl ?_; intro _; refine w ?_))
    (refine VE.done1N rfl rfl ?_)
    rw [show k.raw l = { k with had := k.had ++ l } by unfold Pk.raw; rw [if_pos hr]]
    exact PackerR.shut' (k := { k with had := k.had ++ l }) ⟨by simp; omega, h2, h3⟩ (by simp) (by simp [bytes])
  · have hr : ¬ (k.room l.length).bad = 0 := by simpa using hc
    (refine w ?_; repeat ((first | refine VO.step rfl rfl ?_ | refine VD.end rfl rfl rfl ?_ | refine VD.mid rfl rfl rfl ?_); refine OpV.box rfl rfl rfl ?_; intro _; refine w ?_))
    (refine VE.done1N rfl rfl ?_)
    rw [show k.raw l = k.room l.length by unfold Pk.raw; rw [if_neg hr]]
    exact Ent.refl
theorem Pk.raw_good {k : Pk} {l : List UInt8} (h1 : k.bad = 0) (h2 : k.had.length + l.length ≤ k.size) : k.raw l = { k with had := k.had ++ l } := by
  have e : k.room l.length = k := by unfold Pk.room; rw [if_neg]; omega
  unfold Pk.raw; rw [e, if_pos h1]
theorem image_pad (k : Pk) : k.image = padTo k.size k.had := rfl

theorem written_ok {W : World} {R : List SProp} (kind : UInt8) (e s : Nat) (he : e < 2 ^ 64) (hs : s < 2 ^ 64) (rest : List UInt8) (hrest : rest.length ≤ 100) (g : FuncId) (hg : ∀ a w, (callFunc g a).run Try.prog w = .ok (.enter g a) w) (cap : Array Value)
    (spec : ∀ p, Does1 W Try.prog g (.pointer (some ⟨p, 0, none⟩) :: cap.toList) (PackerR p ⟨124, begunL kind.toNat e s, 0⟩ :: R) (.tuple #[]) (PackerR p ⟨124, begunL kind.toNat e s ++ rest, 0⟩ :: R)) :
    Does W Try.prog 66 [.int .u8 (kind.toNat : Int), .int .u64 e, .int .u64 s, .func (.func g) #[] cap] R (β := Option Addr × Nat) (fun _ => True) (fun x => .tuple #[.slice x.1 (sealS (sectB kind.toNat e s rest)).length x.2, .int .u16 0])
      (fun x => OwnB x (sealS (sectB kind.toNat e s rest)) :: R) := by
  have hlB := begunL_length kind.toNat e s
  have hk8 := kind.toNat_lt
  (refine Does.enter Try.func66 Try.ntmps66 rfl rfl ?_)
  (refine w ?_; repeat ((first | refine VO.step rfl rfl ?_ | refine VD.end rfl rfl rfl ?_ | refine VD.mid rfl rfl rfl ?_); refine OpV.box rfl rfl rfl ?_; intro _; refine w ?_))
  ((first | refine VO.step rfl rfl ?_ | refine VD.end rfl rfl rfl ?_ | refine VD.mid rfl rfl rfl ?_); refine OpV.call rfl rfl (fun _ _ => by simp) (new_ok 124 (by decide)) Ent.re rfl ?_)
  intro p _
  (refine w ?_; repeat ((first | refine VO.step rfl rfl ?_ | refine VD.end rfl rfl rfl ?_ | refine VD.mid rfl rfl rfl ?_); refine OpV.box rfl rfl rfl ?_; intro _; refine w ?_))
  ((first | refine VO.step rfl rfl ?_ | refine VD.end rfl rfl rfl ?_ | refine VD.mid rfl rfl rfl ?_); refine OpV.buildSlice1 st_55 rfl rfl (by first | (simp; done) | simp [Value.oneCell']) (by decide) rfl ?_; intro nb)
  (first | refine VO.step rfl rfl ?_ | refine VD.end rfl rfl rfl ?_ | refine VD.mid rfl rfl rfl ?_)
  refine OpV.markConst tab_ok rfl rfl rfl (by (repeat first | exact .head | apply Hole.tail)) rfl ?_
  (first | refine VO.step rfl rfl ?_ | refine VD.end rfl rfl rfl ?_ | refine VD.mid rfl rfl rfl ?_)
  refine OpV.call rfl rfl (fun _ _ => by simp) (rawR_ok (R := MRow nb 5 (bytes magicL) :: R) (l := magicL) p ⟨124, [], 0⟩ (Rds.mrow (bytes_one _) (.head _) rfl)) Ent.re rfl ?_
  intro _ _
  rw [Pk.raw_good rfl (by decide)]
  dsimp only
  (refine w ?_; repeat ((first | refine VO.step rfl rfl ?_ | refine VD.end rfl rfl rfl ?_ | refine VD.mid rfl rfl rfl ?_); refine OpV.box rfl rfl rfl ?_; intro _; refine w ?_))
  refine VO.re 26 (.int .u32 (kind.toNat : Nat)) rfl (by rw [u32_nat (by omega)]) ?_
  (((first | refine VO.step rfl rfl ?_ | refine VD.end rfl rfl rfl ?_ | refine VD.mid rfl rfl rfl ?_); refine OpV.call rfl rfl (fun _ _ => by simp) (u32_ok p ⟨124, [] ++ magicL, 0⟩ kind.toNat (by omega)) Ent.re rfl ?_); intro _ _)
  rw [Pk.number_good rfl (by simp [magicL])]
  dsimp only
  (refine w ?_; repeat ((first | refine VO.step rfl rfl ?_ | refine VD.end rfl rfl rfl ?_ | refine VD.mid rfl rfl rfl ?_); refine OpV.box rfl rfl rfl ?_; intro _; refine w ?_))
  (((first | refine VO.step rfl rfl ?_ | refine VD.end rfl rfl rfl ?_ | refine VD.mid rfl rfl rfl ?_); refine OpV.call rfl rfl (fun _ _ => by simp) (u64_ok p ⟨124, [] ++ magicL ++ lowBytes kind.toNat 4, 0⟩ e) Ent.re rfl ?_); intro _ _)
  rw [Pk.number_good rfl (by simp [magicL, lowBytes_length])]
  dsimp only
  (refine w ?_; repeat ((first | refine VO.step rfl rfl ?_ | refine VD.end rfl rfl rfl ?_ | refine VD.mid rfl rfl rfl ?_); refine OpV.box rfl rfl rfl ?_; intro _; refine w ?_))
  (((first | refine VO.step rfl rfl ?_ | refine VD.end rfl rfl rfl ?_ | refine VD.mid rfl rfl rfl ?_); refine OpV.call rfl rfl (fun _ _ => by simp) (u64_ok p ⟨124, [] ++ magicL ++ lowBytes kind.toNat 4 ++ lowBytes e 8, 0⟩ s) Ent.re rfl ?_); intro _ _)
  rw [Pk.number_good rfl (by simp [magicL, lowBytes_length])]
  dsimp only
  rw [show [] ++ magicL ++ lowBytes kind.toNat 4 ++ lowBytes e 8 ++ lowBytes s 8 = begunL kind.toNat e s from rfl]
  (refine w ?_; repeat ((first | refine VO.step rfl rfl ?_ | refine VD.end rfl rfl rfl ?_ | refine VD.mid rfl rfl rfl ?_); refine OpV.box rfl rfl rfl ?_; intro _; refine w ?_))
  (first | refine VO.step rfl rfl ?_ | refine VD.end rfl rfl rfl ?_ | refine VD.mid rfl rfl rfl ?_)
  refine OpV.call rfl rfl hg (spec p) Ent.re rfl ?_
  intro _ _
  (refine w ?_; repeat ((first | refine VO.step rfl rfl ?_ | refine VD.end rfl rfl rfl ?_ | refine VD.mid rfl rfl rfl ?_); refine OpV.box rfl rfl rfl ?_; intro _; refine w ?_))
  ((first | refine VO.step rfl rfl ?_ | refine VD.end rfl rfl rfl ?_ | refine VD.mid rfl rfl rfl ?_); refine OpV.call rfl rfl (fun _ _ => by simp) (bytes_ok p ⟨124, begunL kind.toNat e s ++ rest, 0⟩ rfl) Ent.re rfl ?_)
  intro b _
  rw [image_pad]
  dsimp only
  rw [show padTo 124 (begunL kind.toNat e s ++ rest) = sectB kind.toNat e s rest from rfl]
  have hl124 : (sectB kind.toNat e s rest).length = 124 := sectB_length hrest
  generalize sectB kind.toNat e s rest = B at *
  (refine w ?_; repeat ((first | refine VO.step rfl rfl ?_ | refine VD.end rfl rfl rfl ?_ | refine VD.mid rfl rfl rfl ?_); refine OpV.box rfl rfl rfl ?_; intro _; refine w ?_))
  ((first | refine VO.step rfl rfl ?_ | refine VD.end rfl rfl rfl ?_ | refine VD.mid rfl rfl rfl ?_); refine OpV.call rfl rfl (fun _ _ => by simp) (new_ok 128 (by decide)) Ent.re rfl ?_)
  intro q _
  (refine w ?_; repeat ((first | refine VO.step rfl rfl ?_ | refine VD.end rfl rfl rfl ?_ | refine VD.mid rfl rfl rfl ?_); refine OpV.box rfl rfl rfl ?_; intro _; refine w ?_))
  have hrB : Rds W (Own 5 1 (.slice (some ⟨b, 0, none⟩) 124 124) 124 (bytes B) :: R) 1 (some ⟨b, 0, none⟩) 124 (bytes B) := Rds.own (bytes_one _) (.head _) (by simp [hl124]) (by simp)
  (first | refine VO.step rfl rfl ?_ | refine VD.end rfl rfl rfl ?_ | refine VD.mid rfl rfl rfl ?_)
  refine OpV.call rfl rfl (fun _ _ => by simp) (rawR_ok q ⟨128, [], 0⟩ hrB) Ent.re rfl ?_
  intro _ _
  rw [Pk.raw_good rfl (by simp [hl124])]
  dsimp only
  (refine w ?_; repeat ((first | refine VO.step rfl rfl ?_ | refine VD.end rfl rfl rfl ?_ | refine VD.mid rfl rfl rfl ?_); refine OpV.box rfl rfl rfl ?_; intro _; refine w ?_))
  have hsum := sum_ok (W := W) (cap := 124) (l := B) (R := PackerR q ⟨128, [] ++ B, 0⟩ :: Own 5 1 (.slice (some ⟨b, 0, none⟩) 124 124) 124 (bytes B) :: R) (ao := some ⟨b, 0, none⟩) (by rw [hl124]; exact hrB.ent (Ent.drop Ent.refl)) (by omega)
  rw [hl124] at hsum
  ((first | refine VO.step rfl rfl ?_ | refine VD.end rfl rfl rfl ?_ | refine VD.mid rfl rfl rfl ?_); refine OpV.call rfl rfl (fun _ _ => by simp) (hsum) Ent.refl rfl ?_)
  intro _ _
  (refine w ?_; repeat ((first | refine VO.step rfl rfl ?_ | refine VD.end rfl rfl rfl ?_ | refine VD.mid rfl rfl rfl ?_); refine OpV.box rfl rfl rfl ?_; intro _; refine w ?_))
  have hcr := (crcS B).isLt
  (((first | refine VO.step rfl rfl ?_ | refine VD.end rfl rfl rfl ?_ | refine VD.mid rfl rfl rfl ?_); refine OpV.call rfl rfl (fun _ _ => by simp) (u32_ok q ⟨128, [] ++ B, 0⟩ (crcS B).toNat (by omega)) Ent.re rfl ?_); intro _ _)
  rw [Pk.number_good rfl (by simp [hl124])]
  dsimp only
  rw [show [] ++ B ++ lowBytes (crcS B).toNat 4 = sealS B from rfl]
  (refine w ?_; repeat ((first | refine VO.step rfl rfl ?_ | refine VD.end rfl rfl rfl ?_ | refine VD.mid rfl rfl rfl ?_); refine OpV.box rfl rfl rfl ?_; intro _; refine w ?_))
  ((first | refine VO.step rfl rfl ?_ | refine VD.end rfl rfl rfl ?_ | refine VD.mid rfl rfl rfl ?_); refine OpV.call rfl rfl (fun _ _ => by simp) (bytes_ok q ⟨128, sealS B, 0⟩ rfl) Ent.re rfl ?_)
  intro o _
  have hl128 := sealS_length hl124
  have him : (Pk.mk 128 (sealS B) 0).image = sealS B := by
    rw [image_pad]; unfold padTo; dsimp only; rw [hl128]; simp
  rw [him]
  dsimp only
  (refine w ?_; repeat ((first | refine VO.step rfl rfl ?_ | refine VD.end rfl rfl rfl ?_ | refine VD.mid rfl rfl rfl ?_); refine OpV.box rfl rfl rfl ?_; intro _; refine w ?_))
  refine VE.done (some ⟨o, 0, none⟩, 128) rfl trivial (by rw [hl128]; rfl) ?_
  rw [show OwnB (some ⟨o, 0, none⟩, 128) (sealS B) = Own 5 1 (.slice (some ⟨o, 0, none⟩) 128 128) 128 (bytes (sealS B)) by unfold OwnB; rw [hl128]]
  exact Ent.re

/-- What goes in behind, one number of four bytes after the other. -/
def hadH (B : List UInt8) (vs : List Nat) (i : Nat) : List UInt8 := B ++ (vs.take i).flatMap (lowBytes · 4)
theorem hadH_zero (B : List UInt8) (vs : List Nat) : hadH B vs 0 = B := by simp [hadH]
theorem hadH_succ (B : List UInt8) (vs : List Nat) (i : Nat) (h : i < vs.length) : hadH B vs (i + 1) = hadH B vs i ++ lowBytes vs[i] 4 := by
  unfold hadH; rw [List.take_succ_eq_append_getElem h, List.flatMap_append, ← List.append_assoc, List.flatMap_cons, List.flatMap_nil, List.append_nil]
theorem low_flat_length (vs : List Nat) : (vs.flatMap (lowBytes · 4)).length = 4 * vs.length := by
  induction vs with
  | nil => rfl
  | cons v r ih => rw [List.flatMap_cons, List.length_append, lowBytes_length, ih, List.length_cons]; omega
theorem hadH_length (B : List UInt8) (vs : List Nat) (i : Nat) (h : i ≤ vs.length) : (hadH B vs i).length = B.length + 4 * i := by
  unfold hadH; rw [List.length_append, low_flat_length, List.length_take, Nat.min_eq_left h]
theorem hdr1_ok {W : World} {R : List SProp} (h : HdrD) (hg : h.good) (hf : h.fit) (B : List UInt8) (hB : B.length = 24) (p hb : Nat) :
    Does1 W Try.prog 67 [.pointer (some ⟨p, 0, none⟩), .pointer (some ⟨hb, 0, none⟩)] (PackerR p ⟨124, B, 0⟩ :: Row hb 90 h.cells :: R) (.tuple #[]) (PackerR p ⟨124, B ++ flds h.rest, 0⟩ :: Row hb 90 h.cells :: R) := by
  have hiff := (hdr_iff h).1 hg
  obtain ⟨ep, sq, ix, ct, mb, rw_, es, sm⟩ := h
  dsimp only at hiff
  obtain ⟨ix, rfl⟩ := Int.eq_ofNat_of_zero_le (show 0 ≤ ix by omega)
  obtain ⟨ct, rfl⟩ := Int.eq_ofNat_of_zero_le (show 0 ≤ ct by omega)
  obtain ⟨mb, rfl⟩ := Int.eq_ofNat_of_zero_le (show 0 ≤ mb by omega)
  obtain ⟨rw_, rfl⟩ := Int.eq_ofNat_of_zero_le (show 0 ≤ rw_ by omega)
  have hsm : sm < 4294967296 := hf.sum
  clear hf hg
  (refine Does.enter Try.func67 Try.ntmps67 rfl rfl ?_)
  (refine w ?_; repeat ((first | refine VO.step rfl rfl ?_ | refine VD.end rfl rfl rfl ?_ | refine VD.mid rfl rfl rfl ?_); refine OpV.box rfl rfl rfl ?_; intro _; refine w ?_))
  ((first | refine VO.step rfl rfl ?_ | refine VD.end rfl rfl rfl ?_ | refine VD.mid rfl rfl rfl ?_); refine OpV.buildSlice1 st_71 rfl rfl (by first | (simp; done) | simp [Value.oneCell']) (by decide) rfl ?_; intro nb)
  (refine w ?_; repeat ((first | refine VO.step rfl rfl ?_ | refine VD.end rfl rfl rfl ?_ | refine VD.mid rfl rfl rfl ?_); refine OpV.box rfl rfl rfl ?_; intro _; refine w ?_))
  have hvs : ∀ v ∈ [ix, ct, mb, rw_], v < 4294967296 := by
    intro v hv; simp only [List.mem_cons, List.not_mem_nil, or_false] at hv; omega
  have hvl : [ix, ct, mb, rw_].length = 4 := rfl
  have hrow : ∀ (i : Nat) (h : i < [ix, ct, mb, rw_].length), [Value.int .i64 (ix : Int), .int .i64 (ct : Int), .int .i64 (mb : Int), .int .i64 (rw_ : Int)][i]? = some (.int .i64 (([ix, ct, mb, rw_][i] : Nat) : Int)) := by
    intro i h
    match i, h with
    | 0, _ => rfl
    | 1, _ => rfl
    | 2, _ => rfl
    | 3, _ => rfl
  refine VC.loop (α := Nat) (fun i => i ≤ 4) (fun i => Row nb 3 [Value.int .i64 (ix : Int), .int .i64 (ct : Int), .int .i64 (mb : Int), .int .i64 (rw_ : Int)] :: PackerR p ⟨124, hadH B [ix, ct, mb, rw_] i, 0⟩ :: Row hb 90 (HdrD.mk ep sq ix ct mb rw_ es sm).cells :: R)
    (fun i => [(0, .pointer (some ⟨p, 0, none⟩)), (1, .pointer (some ⟨hb, 0, none⟩)), (14, .slice (some ⟨nb, 0, none⟩) 4 4), (15, .int .i64 4), (16, .int .i64 i)]) (fun i => 4 - i) rfl 0 (Nat.zero_le _) (by rw [hadH_zero]; exact Ent.refl) ⟨rfl, rfl, rfl, rfl, rfl, trivial⟩ ?_
  intro i hi
  have hll := hadH_length B [ix, ct, mb, rw_] i hi
  (refine w ?_; repeat ((first | refine VO.step rfl rfl ?_ | refine VD.end rfl rfl rfl ?_ | refine VD.mid rfl rfl rfl ?_); refine OpV.box rfl rfl rfl ?_; intro _; refine w ?_))
  (refine VC.cond rfl rfl ?_ ?_ <;> intro hc)
  · have hlt : i < 4 := by have := of_decide_eq_true hc; omega
    have hr1 : Rds W (Row nb 3 [Value.int .i64 (ix : Int), .int .i64 (ct : Int), .int .i64 (mb : Int), .int .i64 (rw_ : Int)] :: PackerR p ⟨124, hadH B [ix, ct, mb, rw_] i, 0⟩ :: Row hb 90 (HdrD.mk ep sq ix ct mb rw_ es sm).cells :: R) 1 (some ⟨nb, 0, none⟩) 4 [Value.int .i64 (ix : Int), .int .i64 (ct : Int), .int .i64 (mb : Int), .int .i64 (rw_ : Int)] :=
      Rds.row (by simp [Value.oneCell']) (.head _) rfl
    have hsucc := hadH_succ B [ix, ct, mb, rw_] i hlt
    have hrow := hrow i hlt
    have hv := hvs _ (List.getElem_mem (l := [ix, ct, mb, rw_]) hlt)
    generalize [ix, ct, mb, rw_][i]'hlt = v at *
    generalize hgl : [Value.int .i64 (ix : Int), .int .i64 (ct : Int), .int .i64 (mb : Int), .int .i64 (rw_ : Int)] = cs at *
    (refine w ?_; repeat ((first | refine VO.step rfl rfl ?_ | refine VD.end rfl rfl rfl ?_ | refine VD.mid rfl rfl rfl ?_); refine OpV.box rfl rfl rfl ?_; intro _; refine w ?_))
    (first | refine VO.pure rfl rfl (PureAt.ldR tab_ok rfl rfl hr1 hrow) rfl ?_ | refine VD.take rfl rfl rfl (PureAt.ldR tab_ok rfl rfl hr1 hrow) rfl ?_ | refine VQ.pure rfl rfl (PureAt.ldR tab_ok rfl rfl hr1 hrow) rfl ?_ | refine VD.end rfl rfl rfl (OpV.pure (PureAt.ldR tab_ok rfl rfl hr1 hrow) rfl ?_))
    (refine w ?_; repeat ((first | refine VO.step rfl rfl ?_ | refine VD.end rfl rfl rfl ?_ | refine VD.mid rfl rfl rfl ?_); refine OpV.box rfl rfl rfl ?_; intro _; refine w ?_))
    refine VO.re 22 (.int .u32 v) rfl (by rw [u32_nat hv]) ?_
    (((first | refine VO.step rfl rfl ?_ | refine VD.end rfl rfl rfl ?_ | refine VD.mid rfl rfl rfl ?_); refine OpV.call rfl rfl (fun _ _ => by simp) (u32_ok p ⟨124, hadH B [ix, ct, mb, rw_] i, 0⟩ v (by omega)) Ent.re rfl ?_); intro _ _)
    rw [Pk.number_good rfl (by dsimp only; omega)]
    dsimp only
    rw [← hsucc]
    (refine w ?_; repeat ((first | refine VO.step rfl rfl ?_ | refine VD.end rfl rfl rfl ?_ | refine VD.mid rfl rfl rfl ?_); refine OpV.box rfl rfl rfl ?_; intro _; refine w ?_))
    exact VE.round (i + 1) (by omega) (by omega) ⟨rfl, rfl, rfl, rfl, asV rfl (by congr 1), trivial⟩ Ent.re
  · have hge : i = 4 := by have := of_decide_eq_false hc; omega
    subst hge
    have hfl : hadH B [ix, ct, mb, rw_] 4 ++ lowBytes (bitN es) 4 ++ lowBytes sm 4 = B ++ flds (HdrD.mk ep sq ix ct mb rw_ es sm).rest := by
      simp [hadH, flds, HdrD.rest]
    rw [← hfl]
    generalize hadH B [ix, ct, mb, rw_] 4 = D at *
    cases es
    · (refine w ?_; repeat ((first | refine VO.step rfl rfl ?_ | refine VD.end rfl rfl rfl ?_ | refine VD.mid rfl rfl rfl ?_); refine OpV.box rfl rfl rfl ?_; intro _; refine w ?_))
      refine VO.re 28 (.int .u32 (bitN false)) rfl rfl ?_
      (((first | refine VO.step rfl rfl ?_ | refine VD.end rfl rfl rfl ?_ | refine VD.mid rfl rfl rfl ?_); refine OpV.call rfl rfl (fun _ _ => by simp) (u32_ok p ⟨124, D, 0⟩ (bitN false) (bitN_lt _)) Ent.re rfl ?_); intro _ _)
      rw [Pk.number_good rfl (by dsimp only; omega)]
      dsimp only
      (refine w ?_; repeat ((first | refine VO.step rfl rfl ?_ | refine VD.end rfl rfl rfl ?_ | refine VD.mid rfl rfl rfl ?_); refine OpV.box rfl rfl rfl ?_; intro _; refine w ?_))
      refine VO.re 32 (.int .u32 sm) rfl rfl ?_
      (((first | refine VO.step rfl rfl ?_ | refine VD.end rfl rfl rfl ?_ | refine VD.mid rfl rfl rfl ?_); refine OpV.call rfl rfl (fun _ _ => by simp) (u32_ok p ⟨124, D ++ lowBytes (bitN false) 4, 0⟩ sm (by omega)) Ent.re rfl ?_); intro _ _)
      rw [Pk.number_good rfl (by simp [lowBytes_length]; omega)]
      (refine w ?_; repeat ((first | refine VO.step rfl rfl ?_ | refine VD.end rfl rfl rfl ?_ | refine VD.mid rfl rfl rfl ?_); refine OpV.box rfl rfl rfl ?_; intro _; refine w ?_))
      (refine VE.done1N rfl rfl ?_)
      exact Ent.re
    · (refine w ?_; repeat ((first | refine VO.step rfl rfl ?_ | refine VD.end rfl rfl rfl ?_ | refine VD.mid rfl rfl rfl ?_); refine OpV.box rfl rfl rfl ?_; intro _; refine w ?_))
      refine VO.re 28 (.int .u32 (bitN true)) rfl rfl ?_
      (((first | refine VO.step rfl rfl ?_ | refine VD.end rfl rfl rfl ?_ | refine VD.mid rfl rfl rfl ?_); refine OpV.call rfl rfl (fun _ _ => by simp) (u32_ok p ⟨124, D, 0⟩ (bitN true) (bitN_lt _)) Ent.re rfl ?_); intro _ _)
      rw [Pk.number_good rfl (by dsimp only; omega)]
      dsimp only
      (refine w ?_; repeat ((first | refine VO.step rfl rfl ?_ | refine VD.end rfl rfl rfl ?_ | refine VD.mid rfl rfl rfl ?_); refine OpV.box rfl rfl rfl ?_; intro _; refine w ?_))
      refine VO.re 32 (.int .u32 sm) rfl rfl ?_
      (((first | refine VO.step rfl rfl ?_ | refine VD.end rfl rfl rfl ?_ | refine VD.mid rfl rfl rfl ?_); refine OpV.call rfl rfl (fun _ _ => by simp) (u32_ok p ⟨124, D ++ lowBytes (bitN true) 4, 0⟩ sm (by omega)) Ent.re rfl ?_); intro _ _)
      rw [Pk.number_good rfl (by simp [lowBytes_length]; omega)]
      (refine w ?_; repeat ((first | refine VO.step rfl rfl ?_ | refine VD.end rfl rfl rfl ?_ | refine VD.mid rfl rfl rfl ?_); refine OpV.box rfl rfl rfl ?_; intro _; refine w ?_))
      (refine VE.done1N rfl rfl ?_)
      exact Ent.re
theorem cmt1_ok {W : World} {R : List SProp} (h : CmtD) (hg : h.good) (hf : h.fit) (B : List UInt8) (hB : B.length = 24) (p hb : Nat) :
    Does1 W Try.prog 70 [.pointer (some ⟨p, 0, none⟩), .pointer (some ⟨hb, 0, none⟩)] (PackerR p ⟨124, B, 0⟩ :: Row hb 95 h.cells :: R) (.tuple #[]) (PackerR p ⟨124, B ++ flds h.rest, 0⟩ :: Row hb 95 h.cells :: R) := by
  have hiff := (cmt_iff h).1 hg
  obtain ⟨ep, sq, ct, sm⟩ := h
  dsimp only at hiff
  obtain ⟨ct, rfl⟩ := Int.eq_ofNat_of_zero_le (show 0 ≤ ct by omega)
  have hsm : sm < 4294967296 := hf.sum
  clear hf hg
  have hfl : B ++ lowBytes ct 4 ++ lowBytes sm 4 = B ++ flds (CmtD.mk ep sq ct sm).rest := by simp [flds, CmtD.rest]
  rw [← hfl]
  (refine Does.enter Try.func70 Try.ntmps70 rfl rfl ?_)
  (refine w ?_; repeat ((first | refine VO.step rfl rfl ?_ | refine VD.end rfl rfl rfl ?_ | refine VD.mid rfl rfl rfl ?_); refine OpV.box rfl rfl rfl ?_; intro _; refine w ?_))
  refine VO.re 6 (.int .u32 ct) rfl (by show Value.int .u32 (IntKind.u32.wrap (ct : Int)) = _; rw [u32_nat (by omega)]) ?_
  (((first | refine VO.step rfl rfl ?_ | refine VD.end rfl rfl rfl ?_ | refine VD.mid rfl rfl rfl ?_); refine OpV.call rfl rfl (fun _ _ => by simp) (u32_ok p ⟨124, B, 0⟩ ct (by omega)) Ent.re rfl ?_); intro _ _)
  rw [Pk.number_good rfl (by dsimp only; omega)]
  dsimp only
  (refine w ?_; repeat ((first | refine VO.step rfl rfl ?_ | refine VD.end rfl rfl rfl ?_ | refine VD.mid rfl rfl rfl ?_); refine OpV.box rfl rfl rfl ?_; intro _; refine w ?_))
  refine VO.re 10 (.int .u32 sm) rfl rfl ?_
  (((first | refine VO.step rfl rfl ?_ | refine VD.end rfl rfl rfl ?_ | refine VD.mid rfl rfl rfl ?_); refine OpV.call rfl rfl (fun _ _ => by simp) (u32_ok p ⟨124, B ++ lowBytes ct 4, 0⟩ sm (by omega)) Ent.re rfl ?_); intro _ _)
  rw [Pk.number_good rfl (by simp [lowBytes_length]; omega)]
  (refine w ?_; repeat ((first | refine VO.step rfl rfl ?_ | refine VD.end rfl rfl rfl ?_ | refine VD.mid rfl rfl rfl ?_); refine OpV.box rfl rfl rfl ?_; intro _; refine w ?_))
  (refine VE.done1N rfl rfl ?_)
  exact Ent.re
theorem chk1_ok {W : World} {R : List SProp} (h : ChkD) (hg : h.good) (hf : h.fit) (B : List UInt8) (hB : B.length = 24) (p hb : Nat) :
    Does1 W Try.prog 76 [.pointer (some ⟨p, 0, none⟩), .pointer (some ⟨hb, 0, none⟩)] (PackerR p ⟨124, B, 0⟩ :: Row hb 57 h.cells :: R) (.tuple #[]) (PackerR p ⟨124, B ++ flds h.rest, 0⟩ :: Row hb 57 h.cells :: R) := by
  have hiff := (chk_iff h).1 hg
  obtain ⟨ep, sq, ct⟩ := h
  dsimp only at hiff
  obtain ⟨ct, rfl⟩ := Int.eq_ofNat_of_zero_le (show 0 ≤ ct by omega)
  clear hf hg
  have hfl : B ++ lowBytes ct 4 = B ++ flds (ChkD.mk ep sq ct).rest := by simp [flds, ChkD.rest]
  rw [← hfl]
  (refine Does.enter Try.func76 Try.ntmps76 rfl rfl ?_)
  (refine w ?_; repeat ((first | refine VO.step rfl rfl ?_ | refine VD.end rfl rfl rfl ?_ | refine VD.mid rfl rfl rfl ?_); refine OpV.box rfl rfl rfl ?_; intro _; refine w ?_))
  refine VO.re 6 (.int .u32 ct) rfl (by show Value.int .u32 (IntKind.u32.wrap (ct : Int)) = _; rw [u32_nat (by omega)]) ?_
  (((first | refine VO.step rfl rfl ?_ | refine VD.end rfl rfl rfl ?_ | refine VD.mid rfl rfl rfl ?_); refine OpV.call rfl rfl (fun _ _ => by simp) (u32_ok p ⟨124, B, 0⟩ ct (by omega)) Ent.re rfl ?_); intro _ _)
  rw [Pk.number_good rfl (by dsimp only; omega)]
  dsimp only
  (refine w ?_; repeat ((first | refine VO.step rfl rfl ?_ | refine VD.end rfl rfl rfl ?_ | refine VD.mid rfl rfl rfl ?_); refine OpV.box rfl rfl rfl ?_; intro _; refine w ?_))
  (refine VE.done1N rfl rfl ?_)
  exact Ent.re
set_option maxHeartbeats 1000000 in
theorem ench_ok {W : World} {R : List SProp} (h : HdrD) (hf : h.fit) :
    Does W Try.prog 34 [.agg h.cells.toArray] R (β := Option Addr × Nat) (fun _ => True) (fun x => .tuple #[.slice x.1 h.enc.2.length x.2, .int .u16 h.enc.1]) (fun x => OwnB x h.enc.2 :: R) := by
  have hct := hf.count
  (refine Does.enter Try.func34 Try.ntmps34 rfl rfl ?_)
  (refine w ?_; repeat ((first | refine VO.step rfl rfl ?_ | refine VD.end rfl rfl rfl ?_ | refine VD.mid rfl rfl rfl ?_); refine OpV.box rfl rfl rfl ?_; intro _; refine w ?_))
  rename_i hbx
  ((first | refine VO.step rfl rfl ?_ | refine VD.end rfl rfl rfl ?_ | refine VD.mid rfl rfl rfl ?_); refine OpV.call rfl rfl (fun _ _ => by simp) (counts_ok h.epoch h.seq) Ent.refl rfl ?_)
  intro _ _
  (refine w ?_; repeat ((first | refine VO.step rfl rfl ?_ | refine VD.end rfl rfl rfl ?_ | refine VD.mid rfl rfl rfl ?_); refine OpV.box rfl rfl rfl ?_; intro _; refine w ?_))
  ((first | refine VO.split rfl rfl rfl ?_ ?_ | refine VD.split rfl rfl rfl ?_ ?_) <;> intro hb)
  · have hb : ¬ cntOk h.epoch h.seq := by simpa using hb
    have hbad := hdr_bad (h := h) (fun g => hb g.1)
    (refine w ?_; repeat ((first | refine VO.step rfl rfl ?_ | refine VD.end rfl rfl rfl ?_ | refine VD.mid rfl rfl rfl ?_); refine OpV.box rfl rfl rfl ?_; intro _; refine w ?_))
    refine VE.done (none, 0) rfl trivial (by rw [hbad]; rfl) ?_
    rw [hbad]; exact Ent.trans (Ent.re (L := R)) (fun w hw => hw.ownNil _ _)
  have h0 : cntOk h.epoch h.seq := by simpa using hb
  (refine w ?_; repeat ((first | refine VO.step rfl rfl ?_ | refine VD.end rfl rfl rfl ?_ | refine VD.mid rfl rfl rfl ?_); refine OpV.box rfl rfl rfl ?_; intro _; refine w ?_))
  ((first | refine VO.step rfl rfl ?_ | refine VD.end rfl rfl rfl ?_ | refine VD.mid rfl rfl rfl ?_); refine OpV.call rfl rfl (fun _ _ => by simp) (in_ok h.count 1 1023) Ent.refl rfl ?_)
  intro _ _
  (refine w ?_; repeat ((first | refine VO.step rfl rfl ?_ | refine VD.end rfl rfl rfl ?_ | refine VD.mid rfl rfl rfl ?_); refine OpV.box rfl rfl rfl ?_; intro _; refine w ?_))
  ((first | refine VO.split rfl rfl rfl ?_ ?_ | refine VD.split rfl rfl rfl ?_ ?_) <;> intro hb)
  · have hb : ¬ (1 ≤ h.count ∧ h.count ≤ 1023) := by have hq := hb; simp at hq; omega
    have hbad := hdr_bad (h := h) (fun g => hb g.2.1)
    (refine w ?_; repeat ((first | refine VO.step rfl rfl ?_ | refine VD.end rfl rfl rfl ?_ | refine VD.mid rfl rfl rfl ?_); refine OpV.box rfl rfl rfl ?_; intro _; refine w ?_))
    refine VE.done (none, 0) rfl trivial (by rw [hbad]; rfl) ?_
    rw [hbad]; exact Ent.trans (Ent.re (L := R)) (fun w hw => hw.ownNil _ _)
  have h1 : 1 ≤ h.count ∧ h.count ≤ 1023 := by simpa using hb
  (refine w ?_; repeat ((first | refine VO.step rfl rfl ?_ | refine VD.end rfl rfl rfl ?_ | refine VD.mid rfl rfl rfl ?_); refine OpV.box rfl rfl rfl ?_; intro _; refine w ?_))
  ((first | refine VO.step rfl rfl ?_ | refine VD.end rfl rfl rfl ?_ | refine VD.mid rfl rfl rfl ?_); refine OpV.call rfl rfl (fun _ _ => by simp) (in_ok h.index 0 (h.count - 1)) Ent.refl rfl ?_)
  intro _ _
  (refine w ?_; repeat ((first | refine VO.step rfl rfl ?_ | refine VD.end rfl rfl rfl ?_ | refine VD.mid rfl rfl rfl ?_); refine OpV.box rfl rfl rfl ?_; intro _; refine w ?_))
  ((first | refine VO.split rfl rfl rfl ?_ ?_ | refine VD.split rfl rfl rfl ?_ ?_) <;> intro hb)
  · have hb : ¬ (0 ≤ h.index ∧ h.index ≤ h.count - 1) := by have hq := hb; simp at hq; omega
    have hbad := hdr_bad (h := h) (fun g => hb g.2.2.1)
    (refine w ?_; repeat ((first | refine VO.step rfl rfl ?_ | refine VD.end rfl rfl rfl ?_ | refine VD.mid rfl rfl rfl ?_); refine OpV.box rfl rfl rfl ?_; intro _; refine w ?_))
    refine VE.done (none, 0) rfl trivial (by rw [hbad]; rfl) ?_
    rw [hbad]; exact Ent.trans (Ent.re (L := R)) (fun w hw => hw.ownNil _ _)
  have h2 : 0 ≤ h.index ∧ h.index ≤ h.count - 1 := by simpa using hb
  (refine w ?_; repeat ((first | refine VO.step rfl rfl ?_ | refine VD.end rfl rfl rfl ?_ | refine VD.mid rfl rfl rfl ?_); refine OpV.box rfl rfl rfl ?_; intro _; refine w ?_))
  ((first | refine VO.step rfl rfl ?_ | refine VD.end rfl rfl rfl ?_ | refine VD.mid rfl rfl rfl ?_); refine OpV.call rfl rfl (fun _ _ => by simp) (in_ok h.member 0 15) Ent.refl rfl ?_)
  intro _ _
  (refine w ?_; repeat ((first | refine VO.step rfl rfl ?_ | refine VD.end rfl rfl rfl ?_ | refine VD.mid rfl rfl rfl ?_); refine OpV.box rfl rfl rfl ?_; intro _; refine w ?_))
  ((first | refine VO.split rfl rfl rfl ?_ ?_ | refine VD.split rfl rfl rfl ?_ ?_) <;> intro hb)
  · have hb : ¬ (0 ≤ h.member ∧ h.member ≤ 15) := by have hq := hb; simp at hq; omega
    have hbad := hdr_bad (h := h) (fun g => hb g.2.2.2.1)
    (refine w ?_; repeat ((first | refine VO.step rfl rfl ?_ | refine VD.end rfl rfl rfl ?_ | refine VD.mid rfl rfl rfl ?_); refine OpV.box rfl rfl rfl ?_; intro _; refine w ?_))
    refine VE.done (none, 0) rfl trivial (by rw [hbad]; rfl) ?_
    rw [hbad]; exact Ent.trans (Ent.re (L := R)) (fun w hw => hw.ownNil _ _)
  have h3 : 0 ≤ h.member ∧ h.member ≤ 15 := by simpa using hb
  (refine w ?_; repeat ((first | refine VO.step rfl rfl ?_ | refine VD.end rfl rfl rfl ?_ | refine VD.mid rfl rfl rfl ?_); refine OpV.box rfl rfl rfl ?_; intro _; refine w ?_))
  ((first | refine VO.step rfl rfl ?_ | refine VD.end rfl rfl rfl ?_ | refine VD.mid rfl rfl rfl ?_); refine OpV.call rfl rfl (fun _ _ => by simp) (in_ok h.row 0 4095) Ent.refl rfl ?_)
  intro _ _
  (refine w ?_; repeat ((first | refine VO.step rfl rfl ?_ | refine VD.end rfl rfl rfl ?_ | refine VD.mid rfl rfl rfl ?_); refine OpV.box rfl rfl rfl ?_; intro _; refine w ?_))
  (refine VC.cond rfl rfl ?_ ?_ <;> intro hc)
  · have hb : ¬ (0 ≤ h.row ∧ h.row ≤ 4095) := by have hq := hc; simp at hq; omega
    have hbad := hdr_bad (h := h) (fun g => hb g.2.2.2.2)
    (refine w ?_; repeat ((first | refine VO.step rfl rfl ?_ | refine VD.end rfl rfl rfl ?_ | refine VD.mid rfl rfl rfl ?_); refine OpV.box rfl rfl rfl ?_; intro _; refine w ?_))
    refine VE.done (none, 0) rfl trivial (by rw [hbad]; rfl) ?_
    rw [hbad]; exact Ent.trans (Ent.re (L := R)) (fun w hw => hw.ownNil _ _)
  have h4 : 0 ≤ h.row ∧ h.row ≤ 4095 := by simpa using hc
  have hg : h.good := ⟨h0, h1, h2, h3, h4⟩
  have he := hdr_ok hg
  rw [he]
  (refine w ?_; repeat ((first | refine VO.step rfl rfl ?_ | refine VD.end rfl rfl rfl ?_ | refine VD.mid rfl rfl rfl ?_); refine OpV.box rfl rfl rfl ?_; intro _; refine w ?_))
  (first | refine VO.pure rfl rfl (PureAt.makeFuncN rfl) rfl ?_ | refine VD.take rfl rfl rfl (PureAt.makeFuncN rfl) rfl ?_ | refine VQ.pure rfl rfl (PureAt.makeFuncN rfl) rfl ?_ | refine VD.end rfl rfl rfl (OpV.pure (PureAt.makeFuncN rfl) rfl ?_))
  ((first | refine VO.step rfl rfl ?_ | refine VD.end rfl rfl rfl ?_ | refine VD.mid rfl rfl rfl ?_); refine OpV.call rfl rfl (fun _ _ => by simp) (written_ok 1 h.epoch h.seq hf.epoch hf.seq (flds h.rest) (by rw [flds_length]; exact hdr_sum h) 67 (fun _ _ => by simp) #[.pointer (some ⟨hbx, 0, none⟩)] (fun p => hdr1_ok h hg hf _ (begunL_length _ _ _) p hbx)) Ent.re rfl ?_)
  rintro ⟨a1, c1⟩ -
  (refine w ?_; repeat ((first | refine VO.step rfl rfl ?_ | refine VD.end rfl rfl rfl ?_ | refine VD.mid rfl rfl rfl ?_); refine OpV.box rfl rfl rfl ?_; intro _; refine w ?_))
  exact VE.done (a1, c1) rfl trivial rfl Ent.re
theorem encc_ok {W : World} {R : List SProp} (h : CmtD) (hf : h.fit) :
    Does W Try.prog 37 [.agg h.cells.toArray] R (β := Option Addr × Nat) (fun _ => True) (fun x => .tuple #[.slice x.1 h.enc.2.length x.2, .int .u16 h.enc.1]) (fun x => OwnB x h.enc.2 :: R) := by
  (refine Does.enter Try.func37 Try.ntmps37 rfl rfl ?_)
  (refine w ?_; repeat ((first | refine VO.step rfl rfl ?_ | refine VD.end rfl rfl rfl ?_ | refine VD.mid rfl rfl rfl ?_); refine OpV.box rfl rfl rfl ?_; intro _; refine w ?_))
  rename_i hbx
  ((first | refine VO.step rfl rfl ?_ | refine VD.end rfl rfl rfl ?_ | refine VD.mid rfl rfl rfl ?_); refine OpV.call rfl rfl (fun _ _ => by simp) (counts_ok h.epoch h.seq) Ent.refl rfl ?_)
  intro _ _
  (refine w ?_; repeat ((first | refine VO.step rfl rfl ?_ | refine VD.end rfl rfl rfl ?_ | refine VD.mid rfl rfl rfl ?_); refine OpV.box rfl rfl rfl ?_; intro _; refine w ?_))
  ((first | refine VO.split rfl rfl rfl ?_ ?_ | refine VD.split rfl rfl rfl ?_ ?_) <;> intro hb)
  · have hb : ¬ cntOk h.epoch h.seq := by simpa using hb
    have hbad := cmt_bad (h := h) (fun g => hb g.1)
    (refine w ?_; repeat ((first | refine VO.step rfl rfl ?_ | refine VD.end rfl rfl rfl ?_ | refine VD.mid rfl rfl rfl ?_); refine OpV.box rfl rfl rfl ?_; intro _; refine w ?_))
    refine VE.done (none, 0) rfl trivial (by rw [hbad]; rfl) ?_
    rw [hbad]; exact Ent.trans (Ent.re (L := R)) (fun w hw => hw.ownNil _ _)
  have h0 : cntOk h.epoch h.seq := by simpa using hb
  (refine w ?_; repeat ((first | refine VO.step rfl rfl ?_ | refine VD.end rfl rfl rfl ?_ | refine VD.mid rfl rfl rfl ?_); refine OpV.box rfl rfl rfl ?_; intro _; refine w ?_))
  ((first | refine VO.step rfl rfl ?_ | refine VD.end rfl rfl rfl ?_ | refine VD.mid rfl rfl rfl ?_); refine OpV.call rfl rfl (fun _ _ => by simp) (in_ok h.count 1 1023) Ent.refl rfl ?_)
  intro _ _
  (refine w ?_; repeat ((first | refine VO.step rfl rfl ?_ | refine VD.end rfl rfl rfl ?_ | refine VD.mid rfl rfl rfl ?_); refine OpV.box rfl rfl rfl ?_; intro _; refine w ?_))
  (refine VC.cond rfl rfl ?_ ?_ <;> intro hc)
  · have hb : ¬ (1 ≤ h.count ∧ h.count ≤ 1023) := by have hq := hc; simp at hq; omega
    have hbad := cmt_bad (h := h) (fun g => hb g.2)
    (refine w ?_; repeat ((first | refine VO.step rfl rfl ?_ | refine VD.end rfl rfl rfl ?_ | refine VD.mid rfl rfl rfl ?_); refine OpV.box rfl rfl rfl ?_; intro _; refine w ?_))
    refine VE.done (none, 0) rfl trivial (by rw [hbad]; rfl) ?_
    rw [hbad]; exact Ent.trans (Ent.re (L := R)) (fun w hw => hw.ownNil _ _)
  have h4 : 1 ≤ h.count ∧ h.count ≤ 1023 := by simpa using hc
  have hg : h.good := ⟨h0, h4⟩
  have he := cmt_ok hg
  rw [he]
  (refine w ?_; repeat ((first | refine VO.step rfl rfl ?_ | refine VD.end rfl rfl rfl ?_ | refine VD.mid rfl rfl rfl ?_); refine OpV.box rfl rfl rfl ?_; intro _; refine w ?_))
  (first | refine VO.pure rfl rfl (PureAt.makeFuncN rfl) rfl ?_ | refine VD.take rfl rfl rfl (PureAt.makeFuncN rfl) rfl ?_ | refine VQ.pure rfl rfl (PureAt.makeFuncN rfl) rfl ?_ | refine VD.end rfl rfl rfl (OpV.pure (PureAt.makeFuncN rfl) rfl ?_))
  ((first | refine VO.step rfl rfl ?_ | refine VD.end rfl rfl rfl ?_ | refine VD.mid rfl rfl rfl ?_); refine OpV.call rfl rfl (fun _ _ => by simp) (written_ok 2 h.epoch h.seq hf.epoch hf.seq (flds h.rest) (by rw [flds_length]; exact cmt_sum h) 70 (fun _ _ => by simp) #[.pointer (some ⟨hbx, 0, none⟩)] (fun p => cmt1_ok h hg hf _ (begunL_length _ _ _) p hbx)) Ent.re rfl ?_)
  rintro ⟨a1, c1⟩ -
  (refine w ?_; repeat ((first | refine VO.step rfl rfl ?_ | refine VD.end rfl rfl rfl ?_ | refine VD.mid rfl rfl rfl ?_); refine OpV.box rfl rfl rfl ?_; intro _; refine w ?_))
  exact VE.done (a1, c1) rfl trivial rfl Ent.re
theorem encs_ok {W : World} {R : List SProp} (h : ChkD) (hf : h.fit) :
    Does W Try.prog 55 [.agg h.cells.toArray] R (β := Option Addr × Nat) (fun _ => True) (fun x => .tuple #[.slice x.1 h.enc.2.length x.2, .int .u16 h.enc.1]) (fun x => OwnB x h.enc.2 :: R) := by
  (refine Does.enter Try.func55 Try.ntmps55 rfl rfl ?_)
  (refine w ?_; repeat ((first | refine VO.step rfl rfl ?_ | refine VD.end rfl rfl rfl ?_ | refine VD.mid rfl rfl rfl ?_); refine OpV.box rfl rfl rfl ?_; intro _; refine w ?_))
  rename_i hbx
  ((first | refine VO.step rfl rfl ?_ | refine VD.end rfl rfl rfl ?_ | refine VD.mid rfl rfl rfl ?_); refine OpV.call rfl rfl (fun _ _ => by simp) (counts_ok h.epoch h.seq) Ent.refl rfl ?_)
  intro _ _
  (refine w ?_; repeat ((first | refine VO.step rfl rfl ?_ | refine VD.end rfl rfl rfl ?_ | refine VD.mid rfl rfl rfl ?_); refine OpV.box rfl rfl rfl ?_; intro _; refine w ?_))
  ((first | refine VO.split rfl rfl rfl ?_ ?_ | refine VD.split rfl rfl rfl ?_ ?_) <;> intro hb)
  · have hb : ¬ cntOk h.epoch h.seq := by simpa using hb
    have hbad := chk_bad (h := h) (fun g => hb g.1)
    (refine w ?_; repeat ((first | refine VO.step rfl rfl ?_ | refine VD.end rfl rfl rfl ?_ | refine VD.mid rfl rfl rfl ?_); refine OpV.box rfl rfl rfl ?_; intro _; refine w ?_))
    refine VE.done (none, 0) rfl trivial (by rw [hbad]; rfl) ?_
    rw [hbad]; exact Ent.trans (Ent.re (L := R)) (fun w hw => hw.ownNil _ _)
  have h0 : cntOk h.epoch h.seq := by simpa using hb
  (refine w ?_; repeat ((first | refine VO.step rfl rfl ?_ | refine VD.end rfl rfl rfl ?_ | refine VD.mid rfl rfl rfl ?_); refine OpV.box rfl rfl rfl ?_; intro _; refine w ?_))
  ((first | refine VO.step rfl rfl ?_ | refine VD.end rfl rfl rfl ?_ | refine VD.mid rfl rfl rfl ?_); refine OpV.call rfl rfl (fun _ _ => by simp) (in_ok h.tail 0 2047) Ent.refl rfl ?_)
  intro _ _
  (refine w ?_; repeat ((first | refine VO.step rfl rfl ?_ | refine VD.end rfl rfl rfl ?_ | refine VD.mid rfl rfl rfl ?_); refine OpV.box rfl rfl rfl ?_; intro _; refine w ?_))
  (refine VC.cond rfl rfl ?_ ?_ <;> intro hc)
  · have hb : ¬ (0 ≤ h.tail ∧ h.tail ≤ 2047) := by have hq := hc; simp at hq; omega
    have hbad := chk_bad (h := h) (fun g => hb g.2)
    (refine w ?_; repeat ((first | refine VO.step rfl rfl ?_ | refine VD.end rfl rfl rfl ?_ | refine VD.mid rfl rfl rfl ?_); refine OpV.box rfl rfl rfl ?_; intro _; refine w ?_))
    refine VE.done (none, 0) rfl trivial (by rw [hbad]; rfl) ?_
    rw [hbad]; exact Ent.trans (Ent.re (L := R)) (fun w hw => hw.ownNil _ _)
  have h4 : 0 ≤ h.tail ∧ h.tail ≤ 2047 := by simpa using hc
  have hg : h.good := ⟨h0, h4⟩
  have he := chk_ok hg
  rw [he]
  (refine w ?_; repeat ((first | refine VO.step rfl rfl ?_ | refine VD.end rfl rfl rfl ?_ | refine VD.mid rfl rfl rfl ?_); refine OpV.box rfl rfl rfl ?_; intro _; refine w ?_))
  (first | refine VO.pure rfl rfl (PureAt.makeFuncN rfl) rfl ?_ | refine VD.take rfl rfl rfl (PureAt.makeFuncN rfl) rfl ?_ | refine VQ.pure rfl rfl (PureAt.makeFuncN rfl) rfl ?_ | refine VD.end rfl rfl rfl (OpV.pure (PureAt.makeFuncN rfl) rfl ?_))
  ((first | refine VO.step rfl rfl ?_ | refine VD.end rfl rfl rfl ?_ | refine VD.mid rfl rfl rfl ?_); refine OpV.call rfl rfl (fun _ _ => by simp) (written_ok 3 h.epoch h.seq hf.epoch hf.seq (flds h.rest) (by rw [flds_length]; exact chk_sum h) 76 (fun _ _ => by simp) #[.pointer (some ⟨hbx, 0, none⟩)] (fun p => chk1_ok h hg hf _ (begunL_length _ _ _) p hbx)) Ent.re rfl ?_)
  rintro ⟨a1, c1⟩ -
  (refine w ?_; repeat ((first | refine VO.step rfl rfl ?_ | refine VD.end rfl rfl rfl ?_ | refine VD.mid rfl rfl rfl ?_); refine OpV.box rfl rfl rfl ?_; intro _; refine w ?_))
  exact VE.done (a1, c1) rfl trivial rfl Ent.re
end Go.Proofs.Ytlojjlbngnaphaa
