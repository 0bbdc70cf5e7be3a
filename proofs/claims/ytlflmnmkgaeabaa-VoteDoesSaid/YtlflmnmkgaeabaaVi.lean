/- Package vote: fitted. -/
import Derived.Test.YtlflmnmkgaeabaaVh
set_option maxRecDepth 8000
set_option linter.unusedVariables false
set_option linter.unusedSimpArgs false
set_option linter.unusedSectionVars false
namespace Go.Proofs.Ytlflmnmkgaeabaa
open Go.RowKit Go.Sl
attribute [local irreducible] Own

def vCells (s : SuperD) (so : Option Addr) (n sc : Nat) (cur : Int) (ch jr : Bool) : List Value := [.int .u64 s.id, .int .u64 s.events, .int .u64 s.safe, .int .i64 s.role, .int .i64 s.members, .int .i64 s.chunk, .int .i64 s.stripes, .int .i64 s.ring, .bool s.lazy, .bool s.lost, .slice so n sc, .int .i64 cur, .bool ch, .bool jr]
def fitG (v : Nat) (s : SuperD) (a : Addr) (sc : Nat) (jr : Bool) (l : List BalD) (st : List UInt8) (i : Nat) (R : List SProp) : List SProp :=
  Row v 32 (vCells s (some a) st.length sc (if wipeM l s.safe st i = true then 0 else s.cursor) (turnM l s.safe st i) jr) :: Own 59 1 (.slice (some a) st.length sc) st.length (bytes (newSt l s.safe st i)) :: R

theorem bytes_set8 (l : List UInt8) (i : Nat) (c : UInt8) : (bytes l).set i (.int .u8 (c.toNat : Int)) = bytes (l.set i c) := by simp [bytes, List.map_set]; rfl
theorem ne_nat8 (x : UInt8) (k : Nat) (hk : k < 256) : ((x.toNat : Int) != (k : Int)) = (x != UInt8.ofNat k) := by
  rw [Bool.eq_iff_iff]; simp only [bne_iff_ne, ne_eq]
  constructor
  · intro h e; apply h; subst e; simp [Nat.mod_eq_of_lt hk]
  · intro h e; apply h; apply UInt8.toNat_inj.1; simp [Nat.mod_eq_of_lt hk]; omega
theorem eq_nat8 (x : UInt8) (k : Nat) (hk : k < 256) : ((x.toNat : Int) == (k : Int)) = (x == UInt8.ofNat k) := by
  have h := ne_nat8 x k hk
  simp only [bne] at h
  exact Bool.not_inj h

set_option maxHeartbeats 2000000 in
theorem fitted_ok {W : World} {R : List SProp} {a : Addr} {ao : Option Addr} {cap sc v bx : Nat} {l : List BalD} (s : SuperD) (jr : Bool) (st : List UInt8) (hlen : l.length ≤ 1000000) (hst : st.length + 1 = l.length) (hm : Row bx 22 [.slice ao l.length cap] ∈ R) (hb : Bals W R ao l) :
    Does1 W Try.prog 28 [.pointer (some ⟨v, 0, none⟩), .slice ao l.length cap, .func (.func 50) #[] #[.pointer (some ⟨bx, 0, none⟩)]]
      (Row v 32 (vCells s (some a) st.length sc s.cursor false jr) :: Own 59 1 (.slice (some a) st.length sc) st.length (bytes st) :: R)
      (.int .i64 (awayM l s.safe st st.length)) (fitG v s a sc jr l st st.length R) := by
  obtain ⟨la, rfl⟩ : ∃ a, ao = some a := by cases ao with | none => have := hb.rds.nil rfl; omega | some a => exact ⟨a, rfl⟩
  (refine Does.enter Try.func28 Try.ntmps28 rfl rfl ?_)
  unfold vCells
  (refine w ?_; repeat ((first | refine VO.step rfl rfl ?_ | refine VD.end rfl rfl rfl ?_ | refine VD.mid rfl rfl rfl ?_); refine OpV.box rfl rfl rfl ?_; intro _; refine w ?_))
  refine VC.loop (α := Nat) (fun i => i ≤ st.length) (fun i => fitG v s a sc jr l st i R)
    (fun i => [(0, .pointer (some ⟨v, 0, none⟩)), (1, .slice (some la) l.length cap), (2, .func (.func 50) #[] #[.pointer (some ⟨bx, 0, none⟩)]), (7, .int .i64 (awayM l s.safe st i)), (15, .slice (some a) st.length sc), (16, .int .i64 st.length), (17, .int .i64 i)]) (fun i => st.length - i) rfl 0 (Nat.zero_le _) ?_ ⟨rfl, rfl, rfl, rfl, rfl, rfl, rfl, trivial⟩ ?_
  · unfold fitG; rw [newSt_zero]; exact Ent.refl
  intro i hi
  unfold fitG vCells
  (refine w ?_; repeat ((first | refine VO.step rfl rfl ?_ | refine VD.end rfl rfl rfl ?_ | refine VD.mid rfl rfl rfl ?_); refine OpV.box rfl rfl rfl ?_; intro _; refine w ?_))
  (refine VC.cond rfl rfl ?_ ?_ <;> intro hc)
  · have hlt : i < st.length := by have := of_decide_eq_true hc; omega
    have hlt2 : i < l.length := by omega
    have hrs : ∀ X : List SProp, Rds W (X ++ Own 59 1 (.slice (some a) st.length sc) st.length (bytes (newSt l s.safe st i)) :: R) 1 (some a) st.length (bytes (newSt l s.safe st i)) := fun X => Rds.own (bytes_one _) (List.mem_append_right _ (.head _)) (by simp) (by simp)
    (refine w ?_; repeat ((first | refine VO.step rfl rfl ?_ | refine VD.end rfl rfl rfl ?_ | refine VD.mid rfl rfl rfl ?_); refine OpV.box rfl rfl rfl ?_; intro _; refine w ?_))
    (first | refine VO.pure rfl rfl (PureAt.ldR tab_ok rfl rfl (hrs [_]) (show (bytes (newSt l s.safe st i))[i]? = some (.int .u8 ((stAt st i).toNat : Int)) by rw [← newSt_get l s.safe st i hlt]; simp [bytes, hlt]; rfl)) rfl ?_ | refine VD.take rfl rfl rfl (PureAt.ldR tab_ok rfl rfl (hrs [_]) (show (bytes (newSt l s.safe st i))[i]? = some (.int .u8 ((stAt st i).toNat : Int)) by rw [← newSt_get l s.safe st i hlt]; simp [bytes, hlt]; rfl)) rfl ?_ | refine VQ.pure rfl rfl (PureAt.ldR tab_ok rfl rfl (hrs [_]) (show (bytes (newSt l s.safe st i))[i]? = some (.int .u8 ((stAt st i).toNat : Int)) by rw [← newSt_get l s.safe st i hlt]; simp [bytes, hlt]; rfl)) rfl ?_ | refine VD.end rfl rfl rfl (OpV.pure (PureAt.ldR tab_ok rfl rfl (hrs [_]) (show (bytes (newSt l s.safe st i))[i]? = some (.int .u8 ((stAt st i).toNat : Int)) by rw [← newSt_get l s.safe st i hlt]; simp [bytes, hlt]; rfl)) rfl ?_))
    (refine w ?_; repeat ((first | refine VO.step rfl rfl ?_ | refine VD.end rfl rfl rfl ?_ | refine VD.mid rfl rfl rfl ?_); refine OpV.box rfl rfl rfl ?_; intro _; refine w ?_))
    refine VC.joinH [(0, .pointer (some ⟨v, 0, none⟩)), (1, .slice (some la) l.length cap), (2, .func (.func 50) #[] #[.pointer (some ⟨bx, 0, none⟩)]), (7, .int .i64 (awayM l s.safe st i)), (8, .int .i64 i), (9, .int .u8 ((stAt st i).toNat : Int)), (10, .bool (fitM l s.safe st i)), (15, .slice (some a) st.length sc), (16, .int .i64 st.length), (17, .int .i64 i)] ?_ ?_
    · intro Q2 jn
      (refine VC.drawn [5] 19 [0, 1, 2, 3, 4, 5, 6, 7, 8, 9, 10, 11, 12, 13, 14, 15, 16, 17, 18, 19, 20, 21] _ rfl (by kernel_rfl) (by kernel_rfl) Ent.re ?_)
      (refine w ?_; repeat ((first | refine VO.step rfl rfl ?_ | refine VD.end rfl rfl rfl ?_ | refine VD.mid rfl rfl rfl ?_); refine OpV.box rfl rfl rfl ?_; intro _; refine w ?_))
      refine VD.re 24 (.bool (stAt st i != 2)) rfl (congrArg Value.bool (ne_nat8 _ 2 (by decide))) ?_
      cases h2 : stAt st i != 2
      · (refine w ?_; repeat ((first | refine VO.step rfl rfl ?_ | refine VD.end rfl rfl rfl ?_ | refine VD.mid rfl rfl rfl ?_); refine OpV.box rfl rfl rfl ?_; intro _; refine w ?_))
        exact jn.to () trivial ⟨rfl, rfl, rfl, rfl, rfl, rfl, asV rfl (by simp [fitM, h2]), rfl, rfl, rfl, trivial⟩ Ent.re
      (refine w ?_; repeat ((first | refine VO.step rfl rfl ?_ | refine VD.end rfl rfl rfl ?_ | refine VD.mid rfl rfl rfl ?_); refine OpV.box rfl rfl rfl ?_; intro _; refine w ?_))
      ((first | refine VO.step rfl rfl ?_ | refine VD.end rfl rfl rfl ?_ | refine VD.mid rfl rfl rfl ?_); refine OpV.call rfl rfl (fun _ _ => by simp) (countf_ok i hlt2 (by omega) (.tail _ (.tail _ hm)) (hb.ent (Ent.drop (Ent.drop Ent.refl)))) Ent.refl rfl ?_; intro _ _)
      cases h3 : countsB l i
      · (refine w ?_; repeat ((first | refine VO.step rfl rfl ?_ | refine VD.end rfl rfl rfl ?_ | refine VD.mid rfl rfl rfl ?_); refine OpV.box rfl rfl rfl ?_; intro _; refine w ?_))
        exact jn.to () trivial ⟨rfl, rfl, rfl, rfl, rfl, rfl, asV rfl (by simp [fitM, h3]), rfl, rfl, rfl, trivial⟩ Ent.re
      (refine w ?_; repeat ((first | refine VO.step rfl rfl ?_ | refine VD.end rfl rfl rfl ?_ | refine VD.mid rfl rfl rfl ?_); refine OpV.box rfl rfl rfl ?_; intro _; refine w ?_))
      (first | refine VO.pure rfl rfl (PureAt.ldRc tab_ok rfl rfl (hb.rds.ent (Ent.drop (Ent.drop Ent.refl))) (bal_get l i 2 hlt2 (by decide))) rfl ?_ | refine VD.take rfl rfl rfl (PureAt.ldRc tab_ok rfl rfl (hb.rds.ent (Ent.drop (Ent.drop Ent.refl))) (bal_get l i 2 hlt2 (by decide))) rfl ?_ | refine VQ.pure rfl rfl (PureAt.ldRc tab_ok rfl rfl (hb.rds.ent (Ent.drop (Ent.drop Ent.refl))) (bal_get l i 2 hlt2 (by decide))) rfl ?_ | refine VD.end rfl rfl rfl (OpV.pure (PureAt.ldRc tab_ok rfl rfl (hb.rds.ent (Ent.drop (Ent.drop Ent.refl))) (bal_get l i 2 hlt2 (by decide))) rfl ?_))
      (refine w ?_; repeat ((first | refine VO.step rfl rfl ?_ | refine VD.end rfl rfl rfl ?_ | refine VD.mid rfl rfl rfl ?_); refine OpV.box rfl rfl rfl ?_; intro _; refine w ?_))
      refine jn.to () trivial ⟨rfl, rfl, rfl, rfl, rfl, rfl, asV rfl (by simp [fitM, h2, h3, evs, hlt2]), rfl, rfl, rfl, trivial⟩ Ent.re
    have haw : awayM l s.safe st (i + 1) = awayM l s.safe st i + (if (stAt st i != 1 || !fitM l s.safe st i) = true then 1 else 0) := rfl
    have htn : turnM l s.safe st (i + 1) = (turnM l s.safe st i || goneM l s.safe st i) := rfl
    have hwp : wipeM l s.safe st (i + 1) = (wipeM l s.safe st i || (goneM l s.safe st i && stAt st i == 3)) := rfl
    have hgn : goneM l s.safe st i = (stAt st i != 2 && !fitM l s.safe st i) := rfl
    have hab : awayM l s.safe st i ≤ i := by
      clear haw htn hwp hgn hc hrs hlt hlt2 hi
      induction i with
      | zero => exact Nat.le_refl _
      | succ k ih => rw [awayM]; split <;> omega
    refine VC.seq rfl ?_
    refine VC.joinH [(0, .pointer (some ⟨v, 0, none⟩)), (1, .slice (some la) l.length cap), (2, .func (.func 50) #[] #[.pointer (some ⟨bx, 0, none⟩)]), (7, .int .i64 (awayM l s.safe st (i + 1))), (8, .int .i64 i), (9, .int .u8 ((stAt st i).toNat : Int)), (10, .bool (fitM l s.safe st i)), (15, .slice (some a) st.length sc), (16, .int .i64 st.length), (17, .int .i64 i)] ?_ ?_
    · intro Q2 jn
      (refine w ?_; repeat ((first | refine VO.step rfl rfl ?_ | refine VD.end rfl rfl rfl ?_ | refine VD.mid rfl rfl rfl ?_); refine OpV.box rfl rfl rfl ?_; intro _; refine w ?_))
      refine VO.re 45 (.bool (stAt st i != 1)) rfl (congrArg Value.bool (ne_nat8 _ 1 (by decide))) ?_
      cases h1 : stAt st i != 1
      · (refine w ?_; repeat ((first | refine VO.step rfl rfl ?_ | refine VD.end rfl rfl rfl ?_ | refine VD.mid rfl rfl rfl ?_); refine OpV.box rfl rfl rfl ?_; intro _; refine w ?_))
        cases hf : fitM l s.safe st i
        · (refine w ?_; repeat ((first | refine VO.step rfl rfl ?_ | refine VD.end rfl rfl rfl ?_ | refine VD.mid rfl rfl rfl ?_); refine OpV.box rfl rfl rfl ?_; intro _; refine w ?_))
          exact jn.to () trivial ⟨rfl, rfl, rfl, asV rfl (by simp [haw, h1, hf]), rfl, rfl, asV rfl (by rw [hf]), rfl, rfl, rfl, trivial⟩ Ent.re
        · (refine w ?_; repeat ((first | refine VO.step rfl rfl ?_ | refine VD.end rfl rfl rfl ?_ | refine VD.mid rfl rfl rfl ?_); refine OpV.box rfl rfl rfl ?_; intro _; refine w ?_))
          exact jn.to () trivial ⟨rfl, rfl, rfl, asV rfl (by simp [haw, h1, hf]), rfl, rfl, asV rfl (by rw [hf]), rfl, rfl, rfl, trivial⟩ Ent.re
      · (refine w ?_; repeat ((first | refine VO.step rfl rfl ?_ | refine VD.end rfl rfl rfl ?_ | refine VD.mid rfl rfl rfl ?_); refine OpV.box rfl rfl rfl ?_; intro _; refine w ?_))
        exact jn.to () trivial ⟨rfl, rfl, rfl, asV rfl (by simp [haw, h1]), rfl, rfl, rfl, rfl, rfl, rfl, trivial⟩ Ent.re
    cases hf : fitM l s.safe st i
    · rw [hf] at hgn
      (refine w ?_; repeat ((first | refine VO.step rfl rfl ?_ | refine VD.end rfl rfl rfl ?_ | refine VD.mid rfl rfl rfl ?_); refine OpV.box rfl rfl rfl ?_; intro _; refine w ?_))
      refine VC.re 55 (.bool (stAt st i == 2)) rfl (congrArg Value.bool (eq_nat8 _ 2 (by decide))) ?_
      cases h2 : stAt st i == 2
      · have hg : goneM l s.safe st i = true := by rw [hgn, bne, h2]; rfl
        rw [hg] at htn hwp
        rw [Bool.or_true] at htn
        have hss := newSt_gone l s.safe st i hg
        (refine w ?_; repeat ((first | refine VO.step rfl rfl ?_ | refine VD.end rfl rfl rfl ?_ | refine VD.mid rfl rfl rfl ?_); refine OpV.box rfl rfl rfl ?_; intro _; refine w ?_))
        refine VC.re 57 (.bool (stAt st i == 3)) rfl (congrArg Value.bool (eq_nat8 _ 3 (by decide))) ?_
        cases h3 : stAt st i == 3
        · rw [h3] at hwp
          rw [Bool.and_false, Bool.or_false] at hwp
          (refine w ?_; repeat ((first | refine VO.step rfl rfl ?_ | refine VD.end rfl rfl rfl ?_ | refine VD.mid rfl rfl rfl ?_); refine OpV.box rfl rfl rfl ?_; intro _; refine w ?_))
          (first | refine VO.step rfl rfl ?_ | refine VD.end rfl rfl rfl ?_ | refine VD.mid rfl rfl rfl ?_)
          refine OpV.stO tab_ok rfl rfl rfl rfl (.tail .head) (by simp; omega) ?_
          rw [show (.int .u8 2 : Value) = .int .u8 ((2 : UInt8).toNat : Int) from rfl, bytes_set8, ← hss]
          (refine w ?_; repeat ((first | refine VO.step rfl rfl ?_ | refine VD.end rfl rfl rfl ?_ | refine VD.mid rfl rfl rfl ?_); refine OpV.box rfl rfl rfl ?_; intro _; refine w ?_))
          refine VE.round (i + 1) (by omega) (by omega) ⟨rfl, rfl, rfl, rfl, rfl, rfl, asV rfl (by congr 1), trivial⟩ ?_
          (try unfold fitG vCells)
          rw [htn, hwp]
          exact Ent.re
        · rw [h3] at hwp
          rw [Bool.and_true, Bool.or_true] at hwp
          (refine w ?_; repeat ((first | refine VO.step rfl rfl ?_ | refine VD.end rfl rfl rfl ?_ | refine VD.mid rfl rfl rfl ?_); refine OpV.box rfl rfl rfl ?_; intro _; refine w ?_))
          (first | refine VO.step rfl rfl ?_ | refine VD.end rfl rfl rfl ?_ | refine VD.mid rfl rfl rfl ?_)
          refine OpV.stO tab_ok rfl rfl rfl rfl (.tail .head) (by simp; omega) ?_
          rw [show (.int .u8 2 : Value) = .int .u8 ((2 : UInt8).toNat : Int) from rfl, bytes_set8, ← hss]
          (refine w ?_; repeat ((first | refine VO.step rfl rfl ?_ | refine VD.end rfl rfl rfl ?_ | refine VD.mid rfl rfl rfl ?_); refine OpV.box rfl rfl rfl ?_; intro _; refine w ?_))
          refine VE.round (i + 1) (by omega) (by omega) ⟨rfl, rfl, rfl, rfl, rfl, rfl, asV rfl (by congr 1), trivial⟩ ?_
          (try unfold fitG vCells)
          rw [htn, hwp]
          exact Ent.re
      · have hg : goneM l s.safe st i = false := by rw [hgn, bne, h2]; rfl
        rw [hg] at htn hwp
        rw [Bool.or_false] at htn
        rw [Bool.false_and, Bool.or_false] at hwp
        (refine w ?_; repeat ((first | refine VO.step rfl rfl ?_ | refine VD.end rfl rfl rfl ?_ | refine VD.mid rfl rfl rfl ?_); refine OpV.box rfl rfl rfl ?_; intro _; refine w ?_))
        refine VE.round (i + 1) (by omega) (by omega) ⟨rfl, rfl, rfl, rfl, rfl, rfl, asV rfl (by congr 1), trivial⟩ ?_
        (try unfold fitG vCells)
        rw [htn, hwp, newSt_stay l s.safe st i hg]
        exact Ent.re
    · have hg : goneM l s.safe st i = false := by rw [hgn, hf]; simp
      rw [hg] at htn hwp
      rw [Bool.or_false] at htn
      rw [Bool.false_and, Bool.or_false] at hwp
      (refine w ?_; repeat ((first | refine VO.step rfl rfl ?_ | refine VD.end rfl rfl rfl ?_ | refine VD.mid rfl rfl rfl ?_); refine OpV.box rfl rfl rfl ?_; intro _; refine w ?_))
      refine VE.round (i + 1) (by omega) (by omega) ⟨rfl, rfl, rfl, rfl, rfl, rfl, asV rfl (by congr 1), trivial⟩ ?_
      (try unfold fitG vCells)
      rw [htn, hwp, newSt_stay l s.safe st i hg]
      exact Ent.re
  · have hge : i = st.length := by have := of_decide_eq_false hc; omega
    subst hge
    (refine w ?_; repeat ((first | refine VO.step rfl rfl ?_ | refine VD.end rfl rfl rfl ?_ | refine VD.mid rfl rfl rfl ?_); refine OpV.box rfl rfl rfl ?_; intro _; refine w ?_))
    (refine VE.done1 rfl ?_ ?_)
    · rfl
    · exact Ent.refl
end Go.Proofs.Ytlflmnmkgaeabaa
