/- The document's record: get. -/
import Derived.Test.YtlojjlbngnaphaaEc
set_option maxRecDepth 8000
set_option linter.unusedVariables false
set_option linter.unusedSimpArgs false
set_option linter.unusedSectionVars false
namespace Go.Proofs.Ytlojjlbngnaphaa
open Go.RowKit Go.Sl
attribute [local irreducible] Own

theorem drop_step (l : List UInt8) (e j : Nat) (h : j < e) (he : e ≤ l.length) :
    (l.drop (e - (j + 1))).take (j + 1) = l[e - (j + 1)]'(by omega) :: (l.drop (e - j)).take j := by
  rw [List.drop_eq_getElem_cons (by omega), List.take_succ_cons, show e - (j + 1) + 1 = e - j by omega]
/-- A number lies in a list of bytes. -/
theorem get_ok {W : World} {R : List SProp} {ao : Option Addr} {cap : Nat} {l : List UInt8} (hr : Rds W R 1 ao l.length (bytes l)) (a wd : Nat) (hl : l.length ≤ 1099511627776) (hw : wd ≤ 8) (ha : a + wd ≤ l.length) :
    Does1 W Try.prog 101 [.slice ao l.length cap, .int .i64 a, .int .i64 wd] R (.int .u64 (numAt l a wd : Nat)) R := by
  (refine Does.enter Try.func101 Try.ntmps101 rfl rfl ?_)
  (refine w ?_; repeat ((first | refine VO.step rfl rfl ?_ | refine VD.end rfl rfl rfl ?_ | refine VD.mid rfl rfl rfl ?_); refine OpV.box rfl rfl rfl ?_; intro _; refine w ?_))
  refine VC.loop (α := Nat) (fun j => j ≤ wd) (fun j => R)
    (fun j => [(0, .slice ao l.length cap), (1, .int .i64 a), (7, .int .u64 ((leVal ((l.drop (a + wd - j)).take j) : Nat) : Int)), (8, .int .i64 ((wd : Int) - 1 - j))])
    (fun j => wd - j) rfl 0 (Nat.zero_le _) Ent.refl ⟨rfl, rfl, asV rfl (by simp [leVal]), asV rfl (by congr 1; omega), trivial⟩ ?_
  intro j hj
  (refine w ?_; repeat ((first | refine VO.step rfl rfl ?_ | refine VD.end rfl rfl rfl ?_ | refine VD.mid rfl rfl rfl ?_); refine OpV.box rfl rfl rfl ?_; intro _; refine w ?_))
  (refine VC.cond rfl rfl ?_ ?_ <;> intro hc)
  · have hlt : j < wd := by have := of_decide_eq_true hc; omega
    obtain ⟨a0, ha0⟩ : ∃ a0, ao = some a0 := by
      cases e : ao with
      | none => have := hr.nil e; omega
      | some a0 => exact ⟨a0, rfl⟩
    subst ha0
    have hb1 := hr
    (refine w ?_; repeat ((first | refine VO.step rfl rfl ?_ | refine VD.end rfl rfl rfl ?_ | refine VD.mid rfl rfl rfl ?_); refine OpV.box rfl rfl rfl ?_; intro _; refine w ?_))
    ((first | refine VO.step rfl rfl ?_ | refine VD.end rfl rfl rfl ?_ | refine VD.mid rfl rfl rfl ?_); refine OpV.pure (PureAt.shl rfl rfl (by omega)) rfl ?_)
    (refine w ?_; repeat ((first | refine VO.step rfl rfl ?_ | refine VD.end rfl rfl rfl ?_ | refine VD.mid rfl rfl rfl ?_); refine OpV.box rfl rfl rfl ?_; intro _; refine w ?_))
    refine VO.re 20 (.int .i64 ((a + wd - 1 - j : Nat) : Int)) rfl (by congr 1; omega) ?_
    (refine w ?_; repeat ((first | refine VO.step rfl rfl ?_ | refine VD.end rfl rfl rfl ?_ | refine VD.mid rfl rfl rfl ?_); refine OpV.box rfl rfl rfl ?_; intro _; refine w ?_))
    refine VE.round (j + 1) (by omega) (by omega) ⟨rfl, rfl, asV rfl ?_, asV rfl (by congr 1; omega), trivial⟩ Ent.refl
    rw [show a + wd - (j + 1) = a + wd - (j + 1) from rfl, drop_step l (a + wd) j (by omega) ha, leVal]
    have hv := leVal_lt ((l.drop (a + wd - j)).take j)
    rw [show ((l.drop (a + wd - j)).take j).length = j by rw [List.length_take, List.length_drop]; omega] at hv
    have hv2 : leVal ((l.drop (a + wd - j)).take j) < 2 ^ 56 := Nat.lt_of_lt_of_le hv (by rw [show (2 : Nat) ^ 56 = 256 ^ 7 from rfl]; exact Nat.pow_le_pow_right (by decide) (by omega))
    have hc8 := (l[a + wd - (j + 1)]'(by omega)).toNat_lt
    have hor := or_shift (l[a + wd - (j + 1)]'(by omega)).toNat (leVal ((l.drop (a + wd - j)).take j)) 8 hc8 (by omega) (by omega)
    congr 1
    rw [BitVec.or_comm]
    simp only [show a + wd - 1 - j = a + wd - (j + 1) by omega]
    rw [wrap64_of (v := (l[a + wd - (j + 1)]'(by omega)).toNat) (by omega)]
    refine Eq.trans hor ?_
    congr 1; omega
  · have hge : j = wd := by have := of_decide_eq_false hc; omega
    subst hge
    (refine w ?_; repeat ((first | refine VO.step rfl rfl ?_ | refine VD.end rfl rfl rfl ?_ | refine VD.mid rfl rfl rfl ?_); refine OpV.box rfl rfl rfl ?_; intro _; refine w ?_))
    (refine VE.done1 rfl ?_ ?_)
    · congr 2; unfold numAt; rw [show a + j - j = a by omega]
    · exact Ent.refl
end Go.Proofs.Ytlojjlbngnaphaa
