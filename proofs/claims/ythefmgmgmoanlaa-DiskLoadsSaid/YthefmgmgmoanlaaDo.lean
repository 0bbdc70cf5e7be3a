/- DiskFailed: the walk. -/
import Derived.Test.YthefmgmgmoanlaaDn
import Derived.Test.YthefmgmgmoanlaaLd
set_option maxRecDepth 8000
set_option linter.unusedVariables false
set_option linter.unusedSimpArgs false
set_option linter.unusedSectionVars false
namespace Go.Proofs.Ythefmgmgmoanlaa
open Go.RowKit Go.Sl
attribute [local irreducible] Own

theorem bools_of {W : World} {ao : Option Addr} {n cap : Nat} (h : InT Try.prog W 51 [.slice ao n cap]) : ∃ l : List Bool, l.length = n ∧ RdsA W 1 ao n (bools l) ∧ n ≤ 140737488351232 := by
  obtain ⟨ao', n', cap', row, he, h0, hn, hm, hr, hl, hc, hi⟩ := h.slice_inv Try.underlying51
  cases he
  have c1 : Try.prog.cellsOf 4 = 1 := by kernel_rfl
  have b1 : Try.prog.bytesOf 4 = 1 := by kernel_rfl
  rw [c1] at hl hc
  rw [b1] at hr
  have hb : ∀ i, ∃ c : Bool, i < cap → row i = [.bool c] := fun i => by
    by_cases h : i < cap
    · obtain ⟨b, hm1⟩ := (hi i h).bool_inv Try.underlying4
      exact ⟨b, fun _ => hm1⟩
    · exact ⟨false, fun h' => absurd h' h⟩
  obtain ⟨c, hcc⟩ := Classical.axiomOfChoice hb
  refine ⟨(List.range n).map c, by simp, fun R => ?_, by simp only [reachBytes] at hr; omega⟩
  have hs := sees_rows (R := R) h0 hn hl (fun i h u hu => by rw [hcc i h] at hu; simp at hu; subst hu; rfl) hc
  have e : (List.range n).flatMap row = bools ((List.range n).map c) := by
    rw [bools, List.map_map]
    have : ∀ k, k ≤ n → (List.range k).flatMap row = (List.range k).map (Value.bool ∘ c) := by
      intro k
      induction k with
      | zero => intro _; rfl
      | succ k ih =>
        intro hk
        rw [List.range_succ, List.flatMap_append, List.map_append, ih (by omega)]
        simp [hcc k (by omega)]
    exact this n (Nat.le_refl _)
  rw [e] at hs
  exact hs

theorem may_failed {k : DiskD} (h : k.failed = true) (a : Int) : k.may a = 2 := by unfold DiskD.may; rw [h]; rfl

set_option maxHeartbeats 4000000 in
theorem dfailed_ok {W : World} (s : UInt8) (at_ : Int) {bo ko : Option Addr} {nb nk cb ck : Nat} {lb : List UInt8} {lk : List Bool} (hbb : RdsA W 1 bo nb (bytes lb)) (hkk : RdsA W 1 ko nk (bools lk)) :
    Does1 W Try.prog 7 [.int .u8 (s.toNat : Int), .int .i64 at_, .slice bo nb cb, .slice ko nk ck] [] (.bool true) [] := by
  (refine Does.enter Try.func7 Try.ntmps7 rfl rfl ?_)
  (refine w ?_; repeat ((first | refine VO.step rfl rfl ?_ | refine VD.end rfl rfl rfl ?_ | refine VD.mid rfl rfl rfl ?_); refine OpV.box rfl rfl rfl ?_; intro _; refine w ?_))
  have hs9 := s.toNat_lt
  refine VO.re 21 (.int .i64 (s.toNat : Int)) rfl (by rw [IntWalk.i64_in _ ⟨by omega, by omega⟩]) ?_
  (first | refine VO.pure rfl rfl (PureAt.rem (b := 9) rfl rfl (by decide)) rfl ?_ | refine VD.take rfl rfl rfl (PureAt.rem (b := 9) rfl rfl (by decide)) rfl ?_ | refine VQ.pure rfl rfl (PureAt.rem (b := 9) rfl rfl (by decide)) rfl ?_ | refine VD.end rfl rfl rfl (OpV.pure (PureAt.rem (b := 9) rfl rfl (by decide)) rfl ?_))
  (first | (first | refine VO.nil rfl ?_ | refine VQ.nil rfl ?_ | refine VD.nil ?_ | ((first | apply VO.pure rfl rfl | apply VQ.pure rfl rfl | apply VD.take rfl rfl rfl | (refine VD.end rfl rfl rfl ?_; apply OpV.pure)); (first | (apply PureAt.ar64 rfl rfl rfl; omega) | exact .eval tab_ok rfl | (apply PureAt.ld tab_ok rfl rfl; (focus repeat first | exact .head _ | apply List.Mem.tail); rfl) | (apply PureAt.shr rfl rfl (by decide) (by decide)) | (apply PureAt.shr rfl rfl (by omega) (by simp only [IntKind.bits]; omega)) | exact .fieldAddrA tab_ok rfl rfl | exact .sliceLH tab_ok rfl rfl rfl rfl (by omega) (by omega) | exact .sliceH tab_ok rfl rfl rfl (by omega) | exact .sliceL tab_ok rfl rfl rfl (by omega) | (first | exact .indexAddr tab_ok rfl rfl rfl rfl (by omega) | exact .indexAddrN tab_ok rfl rfl rfl rfl (by omega) | exact .ldR tab_ok rfl rfl hr1 (List.getElem?_eq_getElem (by omega)) | exact .ldR tab_ok rfl rfl hr2 (List.getElem?_eq_getElem (by omega)) | exact ldB tab_ok rfl rfl hb1 (by omega) | exact ldB tab_ok rfl rfl hb2 (by omega)) | (apply PureAt.ldA tab_ok rfl rfl; (focus repeat first | exact .head _ | apply List.Mem.tail); rfl; rfl) | exact .ldro tab_ok rfl rfl (by assumption)); rfl) | refine VO.skip rfl rfl rfl rfl ?_ | refine VQ.skip rfl rfl rfl rfl ?_ | refine VD.skip rfl rfl rfl rfl rfl ?_ | ((first | refine VO.step rfl rfl ?_ | refine VD.end rfl rfl rfl ?_ | refine VD.mid rfl rfl rfl ?_); (first | (apply OpV.st tab_ok rfl rfl rfl rfl (by (repeat first | exact .head | apply Hole.tail)) (by simp)) | (refine OpV.box rfl rfl rfl ?_; intro _))) | refine ⟨Ent.re, ?_⟩) | (first | refine VC.seq rfl ?_ | refine VC.region rfl ?_ | refine VC.condT rfl rfl ?_ | refine VC.condF rfl rfl ?_ | refine VC.block rfl ?_ | refine VC.skip rfl ?_ | refine VC.ret rfl ?_ | refine VC.exit rfl ?_) | (first | refine VE.next ?_ | refine VE.passRet ?_ | refine VE.passExit ?_ | refine VE.blockNormal ?_ | refine VE.blockHit ?_ | refine VE.blockMiss rfl ?_ | refine VE.blockRet ?_ | refine VE.loopRet ?_ | refine VE.loopExit ?_))
  refine VO.re 23 (.int .i64 ((s.toNat % 9 + 1 : Nat) : Int)) rfl (by first | rfl | (congr 1; done) | (rw [IntWalk.i64_in _ ⟨by omega, by omega⟩]; rfl)) ?_
  generalize hn : s.toNat % 9 + 1 = n
  have hn1 : 1 ≤ n := by omega
  have hn2 : n ≤ 9 := by omega
  (refine w ?_; repeat ((first | refine VO.step rfl rfl ?_ | refine VD.end rfl rfl rfl ?_ | refine VD.mid rfl rfl rfl ?_); refine OpV.box rfl rfl rfl ?_; intro _; refine w ?_))
  ((first | refine VO.step rfl rfl ?_ | refine VD.end rfl rfl rfl ?_ | refine VD.mid rfl rfl rfl ?_); refine OpV.call rfl rfl (fun _ _ => by simp) (disknew_ok n hn1 (by omega)) Ent.re rfl ?_)
  intro d _
  (refine w ?_; repeat ((first | refine VO.step rfl rfl ?_ | refine VD.end rfl rfl rfl ?_ | refine VD.mid rfl rfl rfl ?_); refine OpV.box rfl rfl rfl ?_; intro _; refine w ?_))
  ((first | refine VO.step rfl rfl ?_ | refine VD.end rfl rfl rfl ?_ | refine VD.mid rfl rfl rfl ?_); refine OpV.call rfl rfl (fun _ _ => by simp) (dknown_ok) Ent.refl rfl ?_; intro _ _)
  (refine w ?_; repeat ((first | refine VO.step rfl rfl ?_ | refine VD.end rfl rfl rfl ?_ | refine VD.mid rfl rfl rfl ?_); refine OpV.box rfl rfl rfl ?_; intro _; refine w ?_))
  ((first | refine VO.step rfl rfl ?_ | refine VD.end rfl rfl rfl ?_ | refine VD.mid rfl rfl rfl ?_); refine OpV.call rfl rfl (fun _ _ => by simp) (sector_lit 1 (by decide)) Ent.re rfl ?_)
  intro s1 _
  (refine w ?_; repeat ((first | refine VO.step rfl rfl ?_ | refine VD.end rfl rfl rfl ?_ | refine VD.mid rfl rfl rfl ?_); refine OpV.box rfl rfl rfl ?_; intro _; refine w ?_))
  (((first | refine VO.step rfl rfl ?_ | refine VD.end rfl rfl rfl ?_ | refine VD.mid rfl rfl rfl ?_); refine OpV.call rfl rfl (fun _ _ => by simp) (write_ok d ⟨List.replicate n zeroSec, [], false⟩ 0 (by rw [List.length_replicate]; exact hn1) rfl (fullSec_length _) (Nat.zero_le _) SecO.rds) Ent.re rfl ?_); intro _ _)
  generalize hk1 : DiskD.write ⟨List.replicate n zeroSec, [], false⟩ 0 (fullSec (UInt8.ofNat 1)) = k1
  have hf1 : k1.failed = false := by subst hk1; rfl
  have hl1 : k1.last.length = n := by subst hk1; exact List.length_replicate
  (refine w ?_; repeat ((first | refine VO.step rfl rfl ?_ | refine VD.end rfl rfl rfl ?_ | refine VD.mid rfl rfl rfl ?_); refine OpV.box rfl rfl rfl ?_; intro _; refine w ?_))
  (((first | refine VO.step rfl rfl ?_ | refine VD.end rfl rfl rfl ?_ | refine VD.mid rfl rfl rfl ?_); refine OpV.call rfl rfl (fun _ _ => by simp) (failed_ok d k1) Ent.re rfl ?_); intro _ _)
  rw [hf1]
  (refine w ?_; repeat ((first | refine VO.step rfl rfl ?_ | refine VD.end rfl rfl rfl ?_ | refine VD.mid rfl rfl rfl ?_); refine OpV.box rfl rfl rfl ?_; intro _; refine w ?_))
  (((first | refine VO.step rfl rfl ?_ | refine VD.end rfl rfl rfl ?_ | refine VD.mid rfl rfl rfl ?_); refine OpV.call rfl rfl (fun _ _ => by simp) (fail_ok d k1) Ent.re rfl ?_); intro _ _)
  generalize hk2 : (DiskD.mk k1.last k1.cache true).settle (fun _ => false) = k2
  have hf2 : k2.failed = true := by subst hk2; rfl
  have hc2 : k2.cache = [] := by subst hk2; rfl
  have hl2 : k2.last.length = n := by subst hk2; exact (sets_length _ _ _ _).trans hl1
  have hcl : k2.cache.length = 0 := by rw [hc2]; rfl
  have hse : k2.settle (keepOf lk) = k2 := by obtain ⟨a, b, c⟩ := k2; simp only at hc2; subst hc2; rfl
  (refine w ?_; repeat ((first | refine VO.step rfl rfl ?_ | refine VD.end rfl rfl rfl ?_ | refine VD.mid rfl rfl rfl ?_); refine OpV.box rfl rfl rfl ?_; intro _; refine w ?_))
  refine VC.loop (α := Nat) (fun i => i ≤ 2) (fun _ => [DiskR d k2])
    (fun i => [(1, .int .i64 at_), (2, .slice bo nb cb), (3, .slice ko nk ck), (9, .int .i64 n), (10, .pointer (some ⟨d, 0, none⟩)), (12, .bool false), (13, .int .i64 i)]) (fun i => 2 - i) rfl 0 (Nat.zero_le _) Ent.re ⟨rfl, rfl, rfl, rfl, rfl, rfl, rfl, trivial⟩ ?_
  intro i hi
  (refine w ?_; repeat ((first | refine VO.step rfl rfl ?_ | refine VD.end rfl rfl rfl ?_ | refine VD.mid rfl rfl rfl ?_); refine OpV.box rfl rfl rfl ?_; intro _; refine w ?_))
  (refine VC.cond rfl rfl ?_ ?_ <;> intro hc)
  · have hlt : i < 2 := by have := of_decide_eq_true hc; omega
    (refine w ?_; repeat ((first | refine VO.step rfl rfl ?_ | refine VD.end rfl rfl rfl ?_ | refine VD.mid rfl rfl rfl ?_); refine OpV.box rfl rfl rfl ?_; intro _; refine w ?_))
    (((first | refine VO.step rfl rfl ?_ | refine VD.end rfl rfl rfl ?_ | refine VD.mid rfl rfl rfl ?_); refine OpV.call rfl rfl (fun _ _ => by simp) (read_bad d k2 at_ (by rw [may_failed hf2]; decide)) Ent.re rfl ?_); intro _ _)
    rw [may_failed hf2]
    (refine w ?_; repeat ((first | refine VO.step rfl rfl ?_ | refine VD.end rfl rfl rfl ?_ | refine VD.mid rfl rfl rfl ?_); refine OpV.box rfl rfl rfl ?_; intro _; refine w ?_))
    (((first | refine VO.step rfl rfl ?_ | refine VD.end rfl rfl rfl ?_ | refine VD.mid rfl rfl rfl ?_); refine OpV.call rfl rfl (fun _ _ => by simp) (write_bad d k2 at_ (by rw [may_failed hf2]; decide)) Ent.re rfl ?_); intro _ _)
    rw [may_failed hf2]
    (refine w ?_; repeat ((first | refine VO.step rfl rfl ?_ | refine VD.end rfl rfl rfl ?_ | refine VD.mid rfl rfl rfl ?_); refine OpV.box rfl rfl rfl ?_; intro _; refine w ?_))
    (((first | refine VO.step rfl rfl ?_ | refine VD.end rfl rfl rfl ?_ | refine VD.mid rfl rfl rfl ?_); refine OpV.call rfl rfl (fun _ _ => by simp) (flush_bad d k2 hf2) Ent.re rfl ?_); intro _ _)
    (refine w ?_; repeat ((first | refine VO.step rfl rfl ?_ | refine VD.end rfl rfl rfl ?_ | refine VD.mid rfl rfl rfl ?_); refine OpV.box rfl rfl rfl ?_; intro _; refine w ?_))
    ((first | refine VO.step rfl rfl ?_ | refine VD.end rfl rfl rfl ?_ | refine VD.mid rfl rfl rfl ?_); refine OpV.call rfl rfl (fun _ _ => by simp) (pending_ok d k2 (by omega)) Ent.re rfl ?_)
    rintro ⟨p, pc⟩ -
    rw [hcl]
    (refine w ?_; repeat ((first | refine VO.step rfl rfl ?_ | refine VD.end rfl rfl rfl ?_ | refine VD.mid rfl rfl rfl ?_); refine OpV.box rfl rfl rfl ?_; intro _; refine w ?_))
    (((first | refine VO.step rfl rfl ?_ | refine VD.end rfl rfl rfl ?_ | refine VD.mid rfl rfl rfl ?_); refine OpV.call rfl rfl (fun _ _ => by simp) (image_bad d k2 hf2) Ent.re rfl ?_); intro _ _)
    (refine w ?_; repeat ((first | refine VO.step rfl rfl ?_ | refine VD.end rfl rfl rfl ?_ | refine VD.mid rfl rfl rfl ?_); refine OpV.box rfl rfl rfl ?_; intro _; refine w ?_))
    (((first | refine VO.step rfl rfl ?_ | refine VD.end rfl rfl rfl ?_ | refine VD.mid rfl rfl rfl ?_); refine OpV.call rfl rfl (fun _ _ => by simp) (crash_ok d k2 (hkk _)) Ent.re rfl ?_); intro _ _)
    rw [hse]
    (refine w ?_; repeat ((first | refine VO.step rfl rfl ?_ | refine VD.end rfl rfl rfl ?_ | refine VD.mid rfl rfl rfl ?_); refine OpV.box rfl rfl rfl ?_; intro _; refine w ?_))
    (((first | refine VO.step rfl rfl ?_ | refine VD.end rfl rfl rfl ?_ | refine VD.mid rfl rfl rfl ?_); refine OpV.call rfl rfl (fun _ _ => by simp) (failed_ok d k2) Ent.re rfl ?_); intro _ _)
    rw [hf2]
    (refine w ?_; repeat ((first | refine VO.step rfl rfl ?_ | refine VD.end rfl rfl rfl ?_ | refine VD.mid rfl rfl rfl ?_); refine OpV.box rfl rfl rfl ?_; intro _; refine w ?_))
    (((first | refine VO.step rfl rfl ?_ | refine VD.end rfl rfl rfl ?_ | refine VD.mid rfl rfl rfl ?_); refine OpV.call rfl rfl (fun _ _ => by simp) (sectors_ok d k2) Ent.re rfl ?_); intro _ _)
    rw [hl2]
    (refine w ?_; repeat ((first | refine VO.step rfl rfl ?_ | refine VD.end rfl rfl rfl ?_ | refine VD.mid rfl rfl rfl ?_); refine OpV.box rfl rfl rfl ?_; intro _; refine w ?_))
    (refine VC.condFe rfl rfl (by simp) ?_)
    (refine w ?_; repeat ((first | refine VO.step rfl rfl ?_ | refine VD.end rfl rfl rfl ?_ | refine VD.mid rfl rfl rfl ?_); refine OpV.box rfl rfl rfl ?_; intro _; refine w ?_))
    exact VE.round (i + 1) hlt (by omega) ⟨rfl, rfl, rfl, rfl, rfl, rfl, rfl, trivial⟩ Ent.re
  · (refine w ?_; repeat ((first | refine VO.step rfl rfl ?_ | refine VD.end rfl rfl rfl ?_ | refine VD.mid rfl rfl rfl ?_); refine OpV.box rfl rfl rfl ?_; intro _; refine w ?_))
    (refine VE.done1 rfl ?_ ?_)
    · rfl
    · exact Reord.ent .nil
end Go.Proofs.Ythefmgmgmoanlaa
