/- RecordEscapes: the walk of the law. -/
import Derived.Test.YtgkpdpoblofehaaEq
set_option maxRecDepth 8000
set_option linter.unusedVariables false
set_option linter.unusedSimpArgs false
set_option linter.unusedSectionVars false
namespace Go.Proofs.Ytgkpdpoblofehaa
open Go.RowKit Go.Sl
attribute [local irreducible] Own

theorem magic_nought : magicL ≠ nought4 := by decide
theorem escM_head {l : List UInt8} (h : l.length = 128) : (escM l).take 4 ≠ magicL := by
  unfold escM; split
  · rw [List.take_left' (by rfl)]; exact fun h => magic_nought h.symm
  · assumption
theorem unD_back {l : List UInt8} (h : l.length = 128) : unD (escM l) (isEsc l) = (l, 0) := by
  have hl := escM_length h
  have hh := escM_head h
  unfold unD isEsc
  rw [if_neg (by omega)]
  by_cases hm : l.take 4 = magicL
  · rw [decide_eq_true hm, if_neg (by simp)]
    have e : escM l = nought4 ++ l.drop 4 := if_pos hm
    rw [e, List.take_left' (by rfl), if_pos rfl, List.drop_left' (by rfl), ← hm, List.take_append_drop]
  · rw [decide_eq_false hm, if_pos rfl, if_neg hh, show escM l = l from if_neg hm]
theorem escM_kind {l : List UInt8} (h : l.length = 128) : kindB (escM l) = 0 := kindB_no (fun _ h2 => absurd h2 (escM_head h))
theorem escD_len (l : List UInt8) (h : l.length ≤ 100000) : (escD l).out.length ≤ 100000 ∧ ((escD l).err = 0 ∨ (escD l).err = 4) := by
  unfold escD; split
  · rename_i h1; exact ⟨by rw [escM_length h1]; omega, .inl rfl⟩
  · exact ⟨by simp, .inr rfl⟩
theorem unD_len (l : List UInt8) (b : Bool) (h : l.length ≤ 100000) : (unD l b).1.length ≤ 100000 ∧ 0 ≤ (unD l b).2 ∧ (unD l b).2 ≤ 80 := by
  unfold unD; split
  · simp
  · split
    · split
      · simp
      · exact ⟨h, by simp, by simp⟩
    · split
      · simp [magicL]; omega
      · simp
set_option maxHeartbeats 4000000 in
theorem escapes_ok {W : World} {ao : Option Addr} {cap : Nat} {l : List UInt8} (hA : RdsA W 1 ao l.length (bytes l)) (hcap : l.length ≤ cap) (b : Bool) :
    Does1 W Try.prog 4 [.slice ao l.length cap, .bool b] [] (.bool true) [] := by
  (refine Does.enter Try.func4 Try.ntmps4 rfl rfl ?_)
  (refine w ?_; repeat ((first | refine VO.step rfl rfl ?_ | refine VD.end rfl rfl rfl ?_ | refine VD.mid rfl rfl rfl ?_); refine OpV.box rfl rfl rfl ?_; intro _; refine w ?_))
  (refine VC.cond rfl rfl ?_ ?_ <;> intro hc)
  · (refine w ?_; repeat ((first | refine VO.step rfl rfl ?_ | refine VD.end rfl rfl rfl ?_ | refine VD.mid rfl rfl rfl ?_); refine OpV.box rfl rfl rfl ?_; intro _; refine w ?_))
    (first | exact VE.done1 rfl rfl Ent.refl | exact VE.done1N rfl rfl Ent.refl)
  have hlen : l.length ≤ 100000 := by have := of_decide_eq_false hc; omega
  obtain ⟨hX1, hX2⟩ := escD_len l hlen
  obtain ⟨hY1, hY2, hY3⟩ := unD_len l b hlen
  have hback : (escD l).err = 0 → l.length = 128 ∧ unD (escD l).out (escD l).is = (l, 0) ∧ kindB (escD l).out = 0 ∧ (escD l).out.take 4 ≠ magicL ∧ (escD l).out.length = 128 := by
    intro h0
    by_cases h : l.length = 128
    · rw [escD_of h]; exact ⟨h, unD_back h, escM_kind h, escM_head h, escM_length h⟩
    · unfold escD at h0; rw [if_neg h] at h0; cases h0
  obtain ⟨D, hD⟩ : ∃ D, D = escD l := ⟨_, rfl⟩
  obtain ⟨U, hU⟩ : ∃ U, U = unD l b := ⟨_, rfl⟩
  rw [← hD] at hX1 hX2 hback
  rw [← hU] at hY1 hY2 hY3
  obtain ⟨X, is, e⟩ := D
  obtain ⟨Y, f⟩ := U
  dsimp only at *
  (refine w ?_; repeat ((first | refine VO.step rfl rfl ?_ | refine VD.end rfl rfl rfl ?_ | refine VD.mid rfl rfl rfl ?_); refine OpV.box rfl rfl rfl ?_; intro _; refine w ?_))
  ((first | refine VO.step rfl rfl ?_ | refine VD.end rfl rfl rfl ?_ | refine VD.mid rfl rfl rfl ?_); refine OpV.call rfl rfl (fun _ _ => by simp) (lent_ok hA (by omega)) Ent.re rfl ?_)
  rintro ⟨x, xc⟩ -
  refine VO.know (p := l.length + 2 ≤ xc) (fun w hw => Holds.ownCap hw (.head _)) ?_
  intro hxc
  (refine w ?_; repeat ((first | refine VO.step rfl rfl ?_ | refine VD.end rfl rfl rfl ?_ | refine VD.mid rfl rfl rfl ?_); refine OpV.box rfl rfl rfl ?_; intro _; refine w ?_))
  ((first | refine VO.step rfl rfl ?_ | refine VD.end rfl rfl rfl ?_ | refine VD.mid rfl rfl rfl ?_); refine OpV.call rfl rfl (fun _ _ => by simp) (esc_ok LentO.rds (by omega)) Ent.refl rfl ?_)
  rw [← hD]; dsimp only
  rintro ⟨a1, c1⟩ -
  (refine VO.know (p := a1 = none → (X).length = 0) (fun w hw => hw.ownNone (.head _)) ?_; intro hn1; refine VO.know (p := (X).length ≤ c1) (fun w hw => hw.ownCap (.head _)) ?_; intro hc1)
  refine VO.ent (Ent.re (L := LentO x xc l :: OwnB (a1, c1) X :: [])) ?_
  (refine w ?_; repeat ((first | refine VO.step rfl rfl ?_ | refine VD.end rfl rfl rfl ?_ | refine VD.mid rfl rfl rfl ?_); refine OpV.box rfl rfl rfl ?_; intro _; refine w ?_))
  ((first | refine VO.step rfl rfl ?_ | refine VD.end rfl rfl rfl ?_ | refine VD.mid rfl rfl rfl ?_); refine OpV.call rfl rfl (fun _ _ => by simp) (unesc_ok LentO.rds (by omega) b) Ent.refl rfl ?_)
  rw [← hU]; dsimp only
  rintro ⟨a2, c2⟩ -
  (refine VO.know (p := a2 = none → (Y).length = 0) (fun w hw => hw.ownNone (.head _)) ?_; intro hn2; refine VO.know (p := (Y).length ≤ c2) (fun w hw => hw.ownCap (.head _)) ?_; intro hc2)
  refine VO.ent (Ent.re (L := LentO x xc l :: OwnB (a2, c2) Y :: OwnB (a1, c1) X :: [])) ?_
  (refine w ?_; repeat ((first | refine VO.step rfl rfl ?_ | refine VD.end rfl rfl rfl ?_ | refine VD.mid rfl rfl rfl ?_); refine OpV.box rfl rfl rfl ?_; intro _; refine w ?_))
  (((first | refine VO.step rfl rfl ?_ | refine VD.end rfl rfl rfl ?_ | refine VD.mid rfl rfl rfl ?_); refine OpV.call rfl rfl (fun _ _ => by simp) (whole_ok hA (by omega)) Ent.re rfl ?_); intro _ _)
  (refine w ?_; repeat ((first | refine VO.step rfl rfl ?_ | refine VD.end rfl rfl rfl ?_ | refine VD.mid rfl rfl rfl ?_); refine OpV.box rfl rfl rfl ?_; intro _; refine w ?_))
  (((first | refine VO.step rfl rfl ?_ | refine VD.end rfl rfl rfl ?_ | refine VD.mid rfl rfl rfl ?_); refine OpV.call rfl rfl (fun _ _ => by simp) (spoil_ok (n := l.length) (m := l.length + 2) (by omega)) Ent.re rfl ?_); intro _ _)
  (refine w ?_; repeat ((first | refine VO.step rfl rfl ?_ | refine VD.end rfl rfl rfl ?_ | refine VD.mid rfl rfl rfl ?_); refine OpV.box rfl rfl rfl ?_; intro _; refine w ?_))
  ((first | refine VO.step rfl rfl ?_ | refine VD.end rfl rfl rfl ?_ | refine VD.mid rfl rfl rfl ?_); refine OpV.call rfl rfl (fun _ _ => by simp) (resc_ok (hA _) hcap) Ent.refl rfl ?_)
  rw [← hD]; dsimp only
  rintro ⟨a3, c3⟩ -
  (refine VO.know (p := a3 = none → (X).length = 0) (fun w hw => hw.ownNone (.head _)) ?_; intro hn3; refine VO.know (p := (X).length ≤ c3) (fun w hw => hw.ownCap (.head _)) ?_; intro hc3)
  (refine w ?_; repeat ((first | refine VO.step rfl rfl ?_ | refine VD.end rfl rfl rfl ?_ | refine VD.mid rfl rfl rfl ?_); refine OpV.box rfl rfl rfl ?_; intro _; refine w ?_))
  ((first | refine VO.step rfl rfl ?_ | refine VD.end rfl rfl rfl ?_ | refine VD.mid rfl rfl rfl ?_); refine OpV.call rfl rfl (fun _ _ => by simp) (runesc_ok (hA _) hcap b) Ent.refl rfl ?_)
  rw [← hU]; dsimp only
  rintro ⟨a4, c4⟩ -
  (refine VO.know (p := a4 = none → (Y).length = 0) (fun w hw => hw.ownNone (.head _)) ?_; intro hn4; refine VO.know (p := (Y).length ≤ c4) (fun w hw => hw.ownCap (.head _)) ?_; intro hc4)
  (refine w ?_; repeat ((first | refine VO.step rfl rfl ?_ | refine VD.end rfl rfl rfl ?_ | refine VD.mid rfl rfl rfl ?_); refine OpV.box rfl rfl rfl ?_; intro _; refine w ?_))
  (apply VO.pure rfl rfl; apply PureAt.build sb_51 rfl; (simp [buildX, setL, Value.cells]; rfl); rfl)
  (refine w ?_; repeat ((first | refine VO.step rfl rfl ?_ | refine VD.end rfl rfl rfl ?_ | refine VD.mid rfl rfl rfl ?_); refine OpV.box rfl rfl rfl ?_; intro _; refine w ?_))
  rename_i bk
  refine VO.ent (Ent.trans (Ent.re (L := Row bk 51 (bookRow none 0 0) :: OwnB (a1, c1) X :: OwnB (a2, c2) Y :: OwnB (a3, c3) X :: OwnB (a4, c4) Y :: [])) (bookB_new bk)) ?_
  (refine w ?_; repeat ((first | refine VO.step rfl rfl ?_ | refine VD.end rfl rfl rfl ?_ | refine VD.mid rfl rfl rfl ?_); refine OpV.box rfl rfl rfl ?_; intro _; refine w ?_))
  ((first | refine VO.step rfl rfl ?_ | refine VD.end rfl rfl rfl ?_ | refine VD.mid rfl rfl rfl ?_); refine OpV.call rfl rfl (fun _ _ => by simp) (bookB_ok bk [] (a1, c1) X (by simp)) Ent.refl rfl ?_)
  intro _ _
  (refine w ?_; repeat ((first | refine VO.step rfl rfl ?_ | refine VD.end rfl rfl rfl ?_ | refine VD.mid rfl rfl rfl ?_); refine OpV.box rfl rfl rfl ?_; intro _; refine w ?_))
  ((first | refine VO.step rfl rfl ?_ | refine VD.end rfl rfl rfl ?_ | refine VD.mid rfl rfl rfl ?_); refine OpV.call rfl rfl (fun _ _ => by simp) (bookB_ok bk _ (a2, c2) Y (by simp)) Ent.refl rfl ?_)
  intro _ _
  (refine w ?_; repeat ((first | refine VO.step rfl rfl ?_ | refine VD.end rfl rfl rfl ?_ | refine VD.mid rfl rfl rfl ?_); refine OpV.box rfl rfl rfl ?_; intro _; refine w ?_))
  ((first | refine VO.step rfl rfl ?_ | refine VD.end rfl rfl rfl ?_ | refine VD.mid rfl rfl rfl ?_); refine OpV.call rfl rfl (fun _ _ => by simp) (same_any (bookB_rds (x := (a1, c1)) (.head _) (by simp) hn1) (own_rds (x := (a3, c3)) hn3 (by (focus repeat first | exact .head _ | apply List.Mem.tail))) (by simp only [maxLen]; omega)) Ent.refl rfl ?_)
  intro _ _
  rw [decide_eq_true (rfl : X = X)]
  (refine w ?_; repeat ((first | refine VO.step rfl rfl ?_ | refine VD.end rfl rfl rfl ?_ | refine VD.mid rfl rfl rfl ?_); refine OpV.box rfl rfl rfl ?_; intro _; refine w ?_))
  ((first | refine VO.step rfl rfl ?_ | refine VD.end rfl rfl rfl ?_ | refine VD.mid rfl rfl rfl ?_); refine OpV.call rfl rfl (fun _ _ => by simp) (same_any (bookB_rds (x := (a2, c2)) (.head _) (by simp) hn2) (own_rds (x := (a4, c4)) hn4 (by (focus repeat first | exact .head _ | apply List.Mem.tail))) (by simp only [maxLen]; omega)) Ent.refl rfl ?_)
  intro _ _
  rw [decide_eq_true (rfl : Y = Y)]
  (refine w ?_; repeat ((first | refine VO.step rfl rfl ?_ | refine VD.end rfl rfl rfl ?_ | refine VD.mid rfl rfl rfl ?_); refine OpV.box rfl rfl rfl ?_; intro _; refine w ?_))
  (first | refine VO.gT rfl rfl rfl (by simp) ?_ | refine VD.gT rfl rfl rfl (by simp) ?_)
  (refine w ?_; repeat ((first | refine VO.step rfl rfl ?_ | refine VD.end rfl rfl rfl ?_ | refine VD.mid rfl rfl rfl ?_); refine OpV.box rfl rfl rfl ?_; intro _; refine w ?_))
  (first | refine VO.gT rfl rfl rfl (by rw [IntWalk.i64_in _ ⟨by omega, by omega⟩]; simp) ?_ | refine VD.gT rfl rfl rfl (by rw [IntWalk.i64_in _ ⟨by omega, by omega⟩]; simp) ?_)
  (refine w ?_; repeat ((first | refine VO.step rfl rfl ?_ | refine VD.end rfl rfl rfl ?_ | refine VD.mid rfl rfl rfl ?_); refine OpV.box rfl rfl rfl ?_; intro _; refine w ?_))
  ((first | refine VO.step rfl rfl ?_ | refine VD.end rfl rfl rfl ?_ | refine VD.mid rfl rfl rfl ?_); refine OpV.call rfl rfl (fun _ _ => by simp) (recknown_ok) Ent.refl rfl ?_)
  intro _ _
  (refine w ?_; repeat ((first | refine VO.step rfl rfl ?_ | refine VD.end rfl rfl rfl ?_ | refine VD.mid rfl rfl rfl ?_); refine OpV.box rfl rfl rfl ?_; intro _; refine w ?_))
  (refine VC.condFe rfl rfl (by rw [IntWalk.i64_in _ ⟨by omega, by omega⟩]; simp) ?_)
  (refine w ?_; repeat ((first | refine VO.step rfl rfl ?_ | refine VD.end rfl rfl rfl ?_ | refine VD.mid rfl rfl rfl ?_); refine OpV.box rfl rfl rfl ?_; intro _; refine w ?_))
  rcases hX2 with rfl | rfl
  · obtain ⟨h128, hun, hki, hhd, hx8⟩ := hback rfl
    have hx1 : X.length ≤ c1 := hc1
    (refine w ?_; repeat ((first | refine VO.step rfl rfl ?_ | refine VD.end rfl rfl rfl ?_ | refine VD.mid rfl rfl rfl ?_); refine OpV.box rfl rfl rfl ?_; intro _; refine w ?_))
    ((first | refine VO.step rfl rfl ?_ | refine VD.end rfl rfl rfl ?_ | refine VD.mid rfl rfl rfl ?_); refine OpV.call rfl rfl (fun _ _ => by simp) (unesc_ok (bookB_rds (x := (a1, c1)) (.head _) (by simp) hn1) hc1 is) Ent.refl rfl ?_)
    rw [hun]; dsimp only
    rintro ⟨a5, c5⟩ -
    (refine VO.know (p := a5 = none → (l).length = 0) (fun w hw => hw.ownNone (.head _)) ?_; intro hn5; refine VO.know (p := (l).length ≤ c5) (fun w hw => hw.ownCap (.head _)) ?_; intro hc5)
    (refine w ?_; repeat ((first | refine VO.step rfl rfl ?_ | refine VD.end rfl rfl rfl ?_ | refine VD.mid rfl rfl rfl ?_); refine OpV.box rfl rfl rfl ?_; intro _; refine w ?_))
    (((first | refine VO.step rfl rfl ?_ | refine VD.end rfl rfl rfl ?_ | refine VD.mid rfl rfl rfl ?_); refine OpV.call rfl rfl (fun _ _ => by simp) (bookB_ok bk ([] ++ [entB (a1, c1) X] ++ [entB (a2, c2) Y]) (a5, c5) l (by simp)) Ent.re rfl ?_); intro _ _)
    (refine w ?_; repeat ((first | refine VO.step rfl rfl ?_ | refine VD.end rfl rfl rfl ?_ | refine VD.mid rfl rfl rfl ?_); refine OpV.box rfl rfl rfl ?_; intro _; refine w ?_))
    ((first | refine VO.step rfl rfl ?_ | refine VD.end rfl rfl rfl ?_ | refine VD.mid rfl rfl rfl ?_); refine OpV.call rfl rfl (fun _ _ => by simp) (same_any (bookB_rds (x := (a5, c5)) (.head _) (by simp) hn5) (hA _) (by simp only [maxLen]; omega)) Ent.refl rfl ?_)
    intro _ _
    rw [decide_eq_true (rfl : l = l)]
    (refine w ?_; repeat ((first | refine VO.step rfl rfl ?_ | refine VD.end rfl rfl rfl ?_ | refine VD.mid rfl rfl rfl ?_); refine OpV.box rfl rfl rfl ?_; intro _; refine w ?_))
    ((first | refine VO.step rfl rfl ?_ | refine VD.end rfl rfl rfl ?_ | refine VD.mid rfl rfl rfl ?_); refine OpV.call rfl rfl (fun _ _ => by simp) (kind_ok (bookB_rds (x := (a1, c1)) (.head _) (by simp) hn1) hc1) Ent.refl rfl ?_)
    intro _ _
    rw [hki]
    (refine w ?_; repeat ((first | refine VO.step rfl rfl ?_ | refine VD.end rfl rfl rfl ?_ | refine VD.mid rfl rfl rfl ?_); refine OpV.box rfl rfl rfl ?_; intro _; refine w ?_))
    (first | refine VO.pure rfl rfl (PureAt.toStr (l := X.take 4) tab_ok rfl rfl rfl rfl (rds_head (bookB_rds (x := (a1, c1)) (.head _) (by simp) hn1) 4 (by omega)) rfl) rfl ?_ | refine VD.take rfl rfl rfl (PureAt.toStr (l := X.take 4) tab_ok rfl rfl rfl rfl (rds_head (bookB_rds (x := (a1, c1)) (.head _) (by simp) hn1) 4 (by omega)) rfl) rfl ?_ | refine VQ.pure rfl rfl (PureAt.toStr (l := X.take 4) tab_ok rfl rfl rfl rfl (rds_head (bookB_rds (x := (a1, c1)) (.head _) (by simp) hn1) 4 (by omega)) rfl) rfl ?_ | refine VD.end rfl rfl rfl (OpV.pure (PureAt.toStr (l := X.take 4) tab_ok rfl rfl rfl rfl (rds_head (bookB_rds (x := (a1, c1)) (.head _) (by simp) hn1) 4 (by omega)) rfl) rfl ?_))
    (first | refine VO.pure rfl rfl (PureAt.strEq (b := magicL) tab_ok rfl rfl rfl rfl) rfl ?_ | refine VD.take rfl rfl rfl (PureAt.strEq (b := magicL) tab_ok rfl rfl rfl rfl) rfl ?_ | refine VQ.pure rfl rfl (PureAt.strEq (b := magicL) tab_ok rfl rfl rfl rfl) rfl ?_ | refine VD.end rfl rfl rfl (OpV.pure (PureAt.strEq (b := magicL) tab_ok rfl rfl rfl rfl) rfl ?_))
    (refine w ?_; repeat ((first | refine VO.step rfl rfl ?_ | refine VD.end rfl rfl rfl ?_ | refine VD.mid rfl rfl rfl ?_); refine OpV.box rfl rfl rfl ?_; intro _; refine w ?_))
    (refine VC.condFe rfl rfl (decide_eq_false hhd) ?_)
    (refine w ?_; repeat ((first | refine VO.step rfl rfl ?_ | refine VD.end rfl rfl rfl ?_ | refine VD.mid rfl rfl rfl ?_); refine OpV.box rfl rfl rfl ?_; intro _; refine w ?_))
    ((first | refine VO.step rfl rfl ?_ | refine VD.end rfl rfl rfl ?_ | refine VD.mid rfl rfl rfl ?_); refine OpV.call rfl rfl (fun _ _ => by simp) (bookown_ok bk _ (by simp) (fun e he => by
      simp only [List.nil_append, List.cons_append, List.mem_cons, List.not_mem_nil, or_false] at he
      rcases he with rfl | rfl | rfl <;> · simp; omega)) Ent.refl rfl ?_)
    intro _ _
    (refine w ?_; repeat ((first | refine VO.step rfl rfl ?_ | refine VD.end rfl rfl rfl ?_ | refine VD.mid rfl rfl rfl ?_); refine OpV.box rfl rfl rfl ?_; intro _; refine w ?_))
    (refine VE.done1 rfl ?_ ?_)
    · rfl
    · exact Ent.re
  · (refine w ?_; repeat ((first | refine VO.step rfl rfl ?_ | refine VD.end rfl rfl rfl ?_ | refine VD.mid rfl rfl rfl ?_); refine OpV.box rfl rfl rfl ?_; intro _; refine w ?_))
    ((first | refine VO.step rfl rfl ?_ | refine VD.end rfl rfl rfl ?_ | refine VD.mid rfl rfl rfl ?_); refine OpV.call rfl rfl (fun _ _ => by simp) (bookown_ok bk _ (by simp) (fun e he => by
      simp only [List.nil_append, List.cons_append, List.mem_cons, List.not_mem_nil, or_false] at he
      rcases he with rfl | rfl <;> · simp; omega)) Ent.refl rfl ?_)
    intro _ _
    (refine w ?_; repeat ((first | refine VO.step rfl rfl ?_ | refine VD.end rfl rfl rfl ?_ | refine VD.mid rfl rfl rfl ?_); refine OpV.box rfl rfl rfl ?_; intro _; refine w ?_))
    (refine VE.done1 rfl ?_ ?_)
    · rfl
    · exact Ent.re
end Go.Proofs.Ytgkpdpoblofehaa
