/- The document's vote: greatest, guide. -/
import Derived.Test.YtlflmnmkgaeabaaVz
set_option maxRecDepth 8000
set_option linter.unusedVariables false
set_option linter.unusedSimpArgs false
set_option linter.unusedSectionVars false
namespace Go.Proofs.Ytlflmnmkgaeabaa
open Go.RowKit Go.Sl
attribute [local irreducible] Own

theorem evs_get (l : List BalD) (i : Nat) (h : i < l.length) : evs l i = l[i].s.events := by simp [evs, h]
theorem rgreatest_ok {W : World} {R : List SProp} {ao : Option Addr} {cap : Nat} {l : List BalD} (hB : ∀ R, Bals W R ao l) (hlen : l.length ≤ 140737488351232) :
    Does1 W Try.prog 34 [.slice ao l.length cap] R (.int .u64 (topN l l.length)) R := by
  (refine Does.enter Try.func34 Try.ntmps34 rfl rfl ?_)
  (refine w ?_; repeat ((first | refine VO.step rfl rfl ?_ | refine VD.end rfl rfl rfl ?_ | refine VD.mid rfl rfl rfl ?_); refine OpV.box rfl rfl rfl ?_; intro _; refine w ?_))
  refine VC.loop (α := Nat) (fun i => i ≤ l.length) (fun _ => R) (fun i => [(0, .slice ao l.length cap), (3, .int .u64 (topN l i)), (4, .int .i64 i)]) (fun i => l.length - i) rfl 0 (Nat.zero_le _) Ent.refl ⟨rfl, rfl, rfl, trivial⟩ ?_
  intro i hi
  (refine w ?_; repeat ((first | refine VO.step rfl rfl ?_ | refine VD.end rfl rfl rfl ?_ | refine VD.mid rfl rfl rfl ?_); refine OpV.box rfl rfl rfl ?_; intro _; refine w ?_))
  (refine VC.cond rfl rfl ?_ ?_ <;> intro hc)
  · have hlt : i < l.length := by have := of_decide_eq_true hc; omega
    obtain ⟨la, rfl⟩ : ∃ x, ao = some x := by cases ao with | none => have := (hB []).rds.nil rfl; omega | some x => exact ⟨x, rfl⟩
    have htp : topN l (i + 1) = if countsB l i = true then max (topN l i) (evs l i) else topN l i := rfl
    have hev := evs_get l i hlt
    (refine w ?_; repeat ((first | refine VO.step rfl rfl ?_ | refine VD.end rfl rfl rfl ?_ | refine VD.mid rfl rfl rfl ?_); refine OpV.box rfl rfl rfl ?_; intro _; refine w ?_))
    ((first | refine VO.step rfl rfl ?_ | refine VD.end rfl rfl rfl ?_ | refine VD.mid rfl rfl rfl ?_); refine OpV.call rfl rfl (fun _ _ => by simp) (rcounts_ok hB i hlt hlen) Ent.refl rfl ?_; intro _ _)
    (refine w ?_; repeat ((first | refine VO.step rfl rfl ?_ | refine VD.end rfl rfl rfl ?_ | refine VD.mid rfl rfl rfl ?_); refine OpV.box rfl rfl rfl ?_; intro _; refine w ?_))
    cases hct : countsB l i
    · rw [hct] at htp
      (refine w ?_; repeat ((first | refine VO.step rfl rfl ?_ | refine VD.end rfl rfl rfl ?_ | refine VD.mid rfl rfl rfl ?_); refine OpV.box rfl rfl rfl ?_; intro _; refine w ?_))
      refine VE.round (i + 1) (by omega) (by omega) ⟨rfl, asV rfl (by rw [htp]; rfl), asV rfl (by congr 1), trivial⟩ Ent.refl
    · rw [hct] at htp
      simp only [if_true] at htp
      (refine w ?_; repeat ((first | refine VO.step rfl rfl ?_ | refine VD.end rfl rfl rfl ?_ | refine VD.mid rfl rfl rfl ?_); refine OpV.box rfl rfl rfl ?_; intro _; refine w ?_))
      (first | refine VO.pure rfl rfl (PureAt.ldRc tab_ok rfl rfl (hB _).rds (bal_get l i 2 hlt (by decide))) rfl ?_ | refine VD.take rfl rfl rfl (PureAt.ldRc tab_ok rfl rfl (hB _).rds (bal_get l i 2 hlt (by decide))) rfl ?_ | refine VQ.pure rfl rfl (PureAt.ldRc tab_ok rfl rfl (hB _).rds (bal_get l i 2 hlt (by decide))) rfl ?_ | refine VD.end rfl rfl rfl (OpV.pure (PureAt.ldRc tab_ok rfl rfl (hB _).rds (bal_get l i 2 hlt (by decide))) rfl ?_))
      (refine w ?_; repeat ((first | refine VO.step rfl rfl ?_ | refine VD.end rfl rfl rfl ?_ | refine VD.mid rfl rfl rfl ?_); refine OpV.box rfl rfl rfl ?_; intro _; refine w ?_))
      (refine VC.cond rfl rfl ?_ ?_ <;> intro hc)
      · have hgt : topN l i < l[i].s.events := by have := of_decide_eq_true hc; omega
        (refine w ?_; repeat ((first | refine VO.step rfl rfl ?_ | refine VD.end rfl rfl rfl ?_ | refine VD.mid rfl rfl rfl ?_); refine OpV.box rfl rfl rfl ?_; intro _; refine w ?_))
        (first | refine VO.pure rfl rfl (PureAt.ldRc tab_ok rfl rfl (hB _).rds (bal_get l i 2 hlt (by decide))) rfl ?_ | refine VD.take rfl rfl rfl (PureAt.ldRc tab_ok rfl rfl (hB _).rds (bal_get l i 2 hlt (by decide))) rfl ?_ | refine VQ.pure rfl rfl (PureAt.ldRc tab_ok rfl rfl (hB _).rds (bal_get l i 2 hlt (by decide))) rfl ?_ | refine VD.end rfl rfl rfl (OpV.pure (PureAt.ldRc tab_ok rfl rfl (hB _).rds (bal_get l i 2 hlt (by decide))) rfl ?_))
        (refine w ?_; repeat ((first | refine VO.step rfl rfl ?_ | refine VD.end rfl rfl rfl ?_ | refine VD.mid rfl rfl rfl ?_); refine OpV.box rfl rfl rfl ?_; intro _; refine w ?_))
        refine VE.round (i + 1) (by omega) (by omega) ⟨rfl, asV rfl (by rw [htp, hev]; congr 1; omega), asV rfl (by congr 1), trivial⟩ Ent.refl
      · have hgt : l[i].s.events ≤ topN l i := by have := of_decide_eq_false hc; omega
        (refine w ?_; repeat ((first | refine VO.step rfl rfl ?_ | refine VD.end rfl rfl rfl ?_ | refine VD.mid rfl rfl rfl ?_); refine OpV.box rfl rfl rfl ?_; intro _; refine w ?_))
        refine VE.round (i + 1) (by omega) (by omega) ⟨rfl, asV rfl (by rw [htp, hev]; congr 1; omega), asV rfl (by congr 1), trivial⟩ Ent.refl
  · have hge : i = l.length := by have := of_decide_eq_false hc; omega
    subst hge
    (refine w ?_; repeat ((first | refine VO.step rfl rfl ?_ | refine VD.end rfl rfl rfl ?_ | refine VD.mid rfl rfl rfl ?_); refine OpV.box rfl rfl rfl ?_; intro _; refine w ?_))
    (refine VE.done1 rfl ?_ ?_)
    · rfl
    · exact Ent.refl

/-- The freshest of the first so many. -/
def freshN (l : List BalD) (i : Nat) : List SuperD := bestN (votesN l i) (topN l l.length)
theorem fresh_yes (l : List BalD) (i : Nat) (hc : countsB l i = true) (he : evs l i = topN l l.length) : freshN l (i + 1) = freshN l i ++ [supAt l i] := by
  have hi := counts_lt l i hc
  unfold freshN bestN
  rw [votesN, if_pos hc, List.filter_append]
  congr 1
  have : (supAt l i).events = topN l l.length := by rw [← he, supAt_get l i hi, evs_get l i hi]
  simp [this]
theorem fresh_no (l : List BalD) (i : Nat) (h : ¬ (countsB l i = true ∧ evs l i = topN l l.length)) : freshN l (i + 1) = freshN l i := by
  unfold freshN bestN
  rw [votesN, List.filter_append]
  by_cases hc : countsB l i = true
  · have hi := counts_lt l i hc
    have : ¬ (supAt l i).events = topN l l.length := fun e => h ⟨hc, by rw [← e, supAt_get l i hi, evs_get l i hi]⟩
    rw [if_pos hc]; simp [this]
  · rw [if_neg hc]; simp
theorem odd_head (B : List SuperD) (h : SuperD) (hB : B.head? = some h) : B.any (oddOne B) = B.any (fun s => !s.alike h) := by
  have hm : h ∈ B := List.mem_of_mem_head? hB
  rw [Bool.eq_iff_iff, List.any_eq_true, List.any_eq_true]
  constructor
  · rintro ⟨s, hs, h2⟩
    obtain ⟨t, ht, h3⟩ := List.any_eq_true.1 h2
    cases hsh : s.alike h
    · exact ⟨s, hs, by rw [hsh]; rfl⟩
    · cases hth : t.alike h
      · exact ⟨t, ht, by rw [hth]; rfl⟩
      · exfalso
        have a := (alike_iff _ _).1 hsh
        have b := (alike_iff _ _).1 hth
        have : s.alike t = true := (alike_iff _ _).2 ⟨⟨a.1.1.trans b.1.1.symm, ⟨a.1.2.1.1.trans b.1.2.1.1.symm, a.1.2.1.2.1.trans b.1.2.1.2.1.symm, a.1.2.1.2.2.trans b.1.2.1.2.2.symm⟩, a.1.2.2.1.trans b.1.2.2.1.symm, a.1.2.2.2.trans b.1.2.2.2.symm⟩, a.2.1.trans b.2.1.symm, a.2.2.1.trans b.2.2.1.symm, a.2.2.2.1.trans b.2.2.2.1.symm, a.2.2.2.2.1.trans b.2.2.2.2.1.symm, a.2.2.2.2.2.trans b.2.2.2.2.2.symm⟩
        rw [this] at h3; cases h3
  · rintro ⟨s, hs, h2⟩
    exact ⟨s, hs, List.any_eq_true.2 ⟨h, hm, h2⟩⟩
theorem fresh_mono (l : List BalD) : ∀ (k i : Nat) (s : SuperD), s ∈ freshN l i → s ∈ freshN l (i + k)
  | 0, _, _, h => h
  | k + 1, i, s, h => by
    have ih := fresh_mono l k i s h
    rw [← Nat.add_assoc]
    unfold freshN bestN at *
    rw [votesN, List.filter_append]
    exact List.mem_append_left _ ih

set_option maxHeartbeats 4000000 in
theorem rguide_ok {W : World} {R : List SProp} {ao : Option Addr} {cap : Nat} {l : List BalD} (hB : ∀ R, Bals W R ao l) (h1 : 1 ≤ l.length) (hlen : l.length ≤ 10000) (hne : votesN l l.length ≠ []) :
    Does W Try.prog 33 [.slice ao l.length cap] R (β := Nat) (fun k => (guideM l).1 = 0 → k < l.length ∧ supAt l k = (guideM l).2 ∧ decide (k = l.length - 1) = countsB l (l.length - 1)) (fun k => .tuple #[.int .i64 k, .int .i64 (guideM l).1]) (fun _ => R) := by
  obtain ⟨la, rfl⟩ : ∃ x, ao = some x := by cases ao with | none => have := (hB []).rds.nil rfl; omega | some x => exact ⟨x, rfl⟩
  have hlast : l.length - 1 < l.length := by omega
  have hgd : guideM l = if countsB l (l.length - 1) = true then (0, supAt l (l.length - 1)) else membersM (bestN (votesN l l.length) (topN l l.length)) := rfl
  (refine Does.enter Try.func33 Try.ntmps33 rfl rfl ?_)
  (refine w ?_; repeat ((first | refine VO.step rfl rfl ?_ | refine VD.end rfl rfl rfl ?_ | refine VD.mid rfl rfl rfl ?_); refine OpV.box rfl rfl rfl ?_; intro _; refine w ?_))
  refine VO.re 4 (.int .i64 ((l.length - 1 : Nat) : Int)) rfl (by congr 1; omega) ?_
  refine VO.re 16 (.int .i64 ((l.length - 1 : Nat) : Int)) rfl (by congr 1; omega) ?_
  ((first | refine VO.step rfl rfl ?_ | refine VD.end rfl rfl rfl ?_ | refine VD.mid rfl rfl rfl ?_); refine OpV.call rfl rfl (fun _ _ => by simp) (rcounts_ok hB (l.length - 1) hlast (by omega)) Ent.refl rfl ?_; intro _ _)
  (refine w ?_; repeat ((first | refine VO.step rfl rfl ?_ | refine VD.end rfl rfl rfl ?_ | refine VD.mid rfl rfl rfl ?_); refine OpV.box rfl rfl rfl ?_; intro _; refine w ?_))
  cases hj : countsB l (l.length - 1)
  rotate_left
  · rw [hj] at hgd
    simp only [if_true] at hgd
    (refine w ?_; repeat ((first | refine VO.step rfl rfl ?_ | refine VD.end rfl rfl rfl ?_ | refine VD.mid rfl rfl rfl ?_); refine OpV.box rfl rfl rfl ?_; intro _; refine w ?_))
    refine VE.done (l.length - 1) rfl (fun _ => ⟨hlast, by rw [hgd], by simp⟩) (by rw [hgd]) Ent.refl
  rw [hj] at hgd
  simp only [Bool.false_eq_true, if_false] at hgd
  (refine w ?_; repeat ((first | refine VO.step rfl rfl ?_ | refine VD.end rfl rfl rfl ?_ | refine VD.mid rfl rfl rfl ?_); refine OpV.box rfl rfl rfl ?_; intro _; refine w ?_))
  ((first | refine VO.step rfl rfl ?_ | refine VD.end rfl rfl rfl ?_ | refine VD.mid rfl rfl rfl ?_); refine OpV.call rfl rfl (fun _ _ => by simp) (rgreatest_ok hB (by omega)) Ent.refl rfl ?_; intro _ _)
  (refine w ?_; repeat ((first | refine VO.step rfl rfl ?_ | refine VD.end rfl rfl rfl ?_ | refine VD.mid rfl rfl rfl ?_); refine OpV.box rfl rfl rfl ?_; intro _; refine w ?_))
  have hB0 : freshN l l.length = bestN (votesN l l.length) (topN l l.length) := rfl
  have hBn : freshN l l.length = freshN l (l.length - 1) := by
    have := fresh_no l (l.length - 1) (fun h => by rw [hj] at h; cases h.1)
    rw [show l.length - 1 + 1 = l.length by omega] at this
    exact this
  refine VC.loop (α := Nat × Int × Bool) (fun y => y.1 ≤ l.length - 1 ∧ (∀ s ∈ freshN l y.1, s.lost = true) ∧ ((freshN l y.1 = [] ∧ y.2.1 = -1 ∧ y.2.2 = false) ∨ ∃ k : Nat, k < l.length - 1 ∧ y.2.1 = (k : Int) ∧ (freshN l y.1).head? = some (supAt l k) ∧ y.2.2 = (freshN l y.1).any (fun s => !s.alike (supAt l k))))
    (fun _ => R) (fun y => [(0, .slice (some la) l.length cap), (2, .int .i64 0), (3, .int .i64 0), (4, .int .i64 ((l.length - 1 : Nat) : Int)), (6, .int .u64 (topN l l.length)), (7, .int .i64 y.2.1), (8, .bool y.2.2), (9, .int .i64 y.1)]) (fun y => l.length - 1 - y.1) rfl (0, -1, false) ⟨Nat.zero_le _, fun s hs => (by cases hs), .inl ⟨rfl, rfl, rfl⟩⟩ Ent.refl ⟨rfl, rfl, rfl, rfl, rfl, rfl, rfl, rfl, trivial⟩ ?_
  rintro ⟨i, b7, sp⟩ ⟨hi, hlost, hst⟩
  dsimp only at hi hlost hst ⊢
  (refine w ?_; repeat ((first | refine VO.step rfl rfl ?_ | refine VD.end rfl rfl rfl ?_ | refine VD.mid rfl rfl rfl ?_); refine OpV.box rfl rfl rfl ?_; intro _; refine w ?_))
  (refine VC.cond rfl rfl ?_ ?_ <;> intro hc)
  · have hlt1 : i < l.length - 1 := by have := of_decide_eq_true hc; omega
    have hlt : i < l.length := by omega
    have hev := evs_get l i hlt
    have hsp := supAt_get l i hlt
    (refine w ?_; repeat ((first | refine VO.step rfl rfl ?_ | refine VD.end rfl rfl rfl ?_ | refine VD.mid rfl rfl rfl ?_); refine OpV.box rfl rfl rfl ?_; intro _; refine w ?_))
    ((first | refine VO.step rfl rfl ?_ | refine VD.end rfl rfl rfl ?_ | refine VD.mid rfl rfl rfl ?_); refine OpV.call rfl rfl (fun _ _ => by simp) (rcounts_ok hB i hlt (by omega)) Ent.refl rfl ?_; intro _ _)
    (refine w ?_; repeat ((first | refine VO.step rfl rfl ?_ | refine VD.end rfl rfl rfl ?_ | refine VD.mid rfl rfl rfl ?_); refine OpV.box rfl rfl rfl ?_; intro _; refine w ?_))
    cases hct : countsB l i
    · have hno := fresh_no l i (fun h => by rw [hct] at h; cases h.1)
      (refine w ?_; repeat ((first | refine VO.step rfl rfl ?_ | refine VD.end rfl rfl rfl ?_ | refine VD.mid rfl rfl rfl ?_); refine OpV.box rfl rfl rfl ?_; intro _; refine w ?_))
      refine VE.round (i + 1, b7, sp) ⟨by simp only; omega, by rw [hno]; exact hlost, by rw [hno]; exact hst⟩ (by simp only; omega) ⟨rfl, rfl, rfl, rfl, rfl, rfl, rfl, asV rfl (by congr 1), trivial⟩ Ent.refl
    (refine w ?_; repeat ((first | refine VO.step rfl rfl ?_ | refine VD.end rfl rfl rfl ?_ | refine VD.mid rfl rfl rfl ?_); refine OpV.box rfl rfl rfl ?_; intro _; refine w ?_))
    (first | refine VO.pure rfl rfl (PureAt.ldRc tab_ok rfl rfl (hB _).rds (bal_get l i 2 hlt (by decide))) rfl ?_ | refine VD.take rfl rfl rfl (PureAt.ldRc tab_ok rfl rfl (hB _).rds (bal_get l i 2 hlt (by decide))) rfl ?_ | refine VQ.pure rfl rfl (PureAt.ldRc tab_ok rfl rfl (hB _).rds (bal_get l i 2 hlt (by decide))) rfl ?_ | refine VD.end rfl rfl rfl (OpV.pure (PureAt.ldRc tab_ok rfl rfl (hB _).rds (bal_get l i 2 hlt (by decide))) rfl ?_))
    (refine w ?_; repeat ((first | refine VO.step rfl rfl ?_ | refine VD.end rfl rfl rfl ?_ | refine VD.mid rfl rfl rfl ?_); refine OpV.box rfl rfl rfl ?_; intro _; refine w ?_))
    (refine VC.cond rfl rfl ?_ ?_ <;> intro hc)
    · have hne2 : ¬ l[i].s.events = topN l l.length := by intro e; rw [e] at hc; simp at hc
      have hno := fresh_no l i (fun h => hne2 (by rw [← hev]; exact h.2))
      (refine w ?_; repeat ((first | refine VO.step rfl rfl ?_ | refine VD.end rfl rfl rfl ?_ | refine VD.mid rfl rfl rfl ?_); refine OpV.box rfl rfl rfl ?_; intro _; refine w ?_))
      refine VE.round (i + 1, b7, sp) ⟨by simp only; omega, by rw [hno]; exact hlost, by rw [hno]; exact hst⟩ (by simp only; omega) ⟨rfl, rfl, rfl, rfl, rfl, rfl, rfl, asV rfl (by congr 1), trivial⟩ Ent.refl
    have heq : l[i].s.events = topN l l.length := natne hc
    have hyes := fresh_yes l i hct (by rw [hev]; exact heq)
    (refine w ?_; repeat ((first | refine VO.step rfl rfl ?_ | refine VD.end rfl rfl rfl ?_ | refine VD.mid rfl rfl rfl ?_); refine OpV.box rfl rfl rfl ?_; intro _; refine w ?_))
    (first | refine VO.pure rfl rfl (PureAt.ldRc tab_ok rfl rfl (hB _).rds (bal_get l i 10 hlt (by decide))) rfl ?_ | refine VD.take rfl rfl rfl (PureAt.ldRc tab_ok rfl rfl (hB _).rds (bal_get l i 10 hlt (by decide))) rfl ?_ | refine VQ.pure rfl rfl (PureAt.ldRc tab_ok rfl rfl (hB _).rds (bal_get l i 10 hlt (by decide))) rfl ?_ | refine VD.end rfl rfl rfl (OpV.pure (PureAt.ldRc tab_ok rfl rfl (hB _).rds (bal_get l i 10 hlt (by decide))) rfl ?_))
    (refine w ?_; repeat ((first | refine VO.step rfl rfl ?_ | refine VD.end rfl rfl rfl ?_ | refine VD.mid rfl rfl rfl ?_); refine OpV.box rfl rfl rfl ?_; intro _; refine w ?_))
    cases hlo : l[i].s.lost
    · (refine w ?_; repeat ((first | refine VO.step rfl rfl ?_ | refine VD.end rfl rfl rfl ?_ | refine VD.mid rfl rfl rfl ?_); refine OpV.box rfl rfl rfl ?_; intro _; refine w ?_))
      have hin : supAt l i ∈ freshN l l.length := by
        have : supAt l i ∈ freshN l (i + 1) := by rw [hyes]; exact List.mem_append_right _ (.head _)
        have := fresh_mono l (l.length - (i + 1)) (i + 1) _ this
        rwa [show i + 1 + (l.length - (i + 1)) = l.length by omega] at this
      have hg1 : guideM l = (153, zeroSup) := by
        rw [hgd, ← hB0]
        exact if_pos (List.any_eq_true.2 ⟨_, hin, by rw [hsp, hlo]; rfl⟩)
      refine VE.done 0 rfl (fun h => by rw [hg1] at h; cases h) (by rw [hg1]; rfl) Ent.refl
    have hlost2 : ∀ s ∈ freshN l (i + 1), s.lost = true := fun s hs => by
      rw [hyes, List.mem_append, List.mem_singleton] at hs
      rcases hs with h | h
      · exact hlost s h
      · rw [h, hsp]; exact hlo
    have hself : (supAt l i).alike (supAt l i) = true := (alike_iff _ _).2 ⟨⟨rfl, ⟨rfl, rfl, rfl⟩, rfl, rfl⟩, rfl, rfl, rfl, rfl, rfl⟩
    (refine w ?_; repeat ((first | refine VO.step rfl rfl ?_ | refine VD.end rfl rfl rfl ?_ | refine VD.mid rfl rfl rfl ?_); refine OpV.box rfl rfl rfl ?_; intro _; refine w ?_))
    refine VC.join (α := Nat × Unit) (fun y => y.1 < l.length - 1 ∧ (freshN l (i + 1)).head? = some (supAt l y.1) ∧ (freshN l (i + 1)).any (fun s => !s.alike (supAt l y.1)) = (sp || !(supAt l i).alike (supAt l y.1))) (fun _ => R) (fun y => [(0, .slice (some la) l.length cap), (2, .int .i64 0), (3, .int .i64 0), (4, .int .i64 ((l.length - 1 : Nat) : Int)), (6, .int .u64 (topN l l.length)), (7, .int .i64 (y.1 : Int)), (8, .bool sp), (9, .int .i64 i)]) ?_ ?_
    · intro Q2 jn
      rcases hst with ⟨e1, e2, e3⟩ | ⟨k, e1, e2, e3, e4⟩
      · subst e2 e3
        (refine VC.condTe rfl rfl (rfl) ?_)
        (refine w ?_; repeat ((first | refine VO.step rfl rfl ?_ | refine VD.end rfl rfl rfl ?_ | refine VD.mid rfl rfl rfl ?_); refine OpV.box rfl rfl rfl ?_; intro _; refine w ?_))
        refine jn.to (i, ()) ⟨hlt1, by rw [hyes, e1]; rfl, by rw [hyes, e1]; simp⟩ ⟨rfl, rfl, rfl, rfl, rfl, rfl, rfl, rfl, trivial⟩ Ent.refl
      · subst e2
        (refine VC.condFe rfl rfl (decide_eq_false (by omega)) ?_)
        (refine w ?_; repeat ((first | refine VO.step rfl rfl ?_ | refine VD.end rfl rfl rfl ?_ | refine VD.mid rfl rfl rfl ?_); refine OpV.box rfl rfl rfl ?_; intro _; refine w ?_))
        refine jn.to (k, ()) ⟨e1, by rw [hyes, List.head?_append, e3]; rfl, by rw [hyes, List.any_append, ← e4]; simp⟩ ⟨rfl, rfl, rfl, rfl, rfl, rfl, rfl, rfl, trivial⟩ Ent.refl
    rintro ⟨k, uu⟩ ⟨hk, hhd, hany⟩
    dsimp only at hk hhd hany ⊢
    have hkl : k < l.length := by omega
    (refine w ?_; repeat ((first | refine VO.step rfl rfl ?_ | refine VD.end rfl rfl rfl ?_ | refine VD.mid rfl rfl rfl ?_); refine OpV.box rfl rfl rfl ?_; intro _; refine w ?_))
    (refine VC.drawn [] 10 [0, 1, 2, 3, 4, 5, 6, 7, 8, 9, 10, 11] _ rfl (by kernel_rfl) (by kernel_rfl) Ent.re ?_)
    (refine w ?_; repeat ((first | refine VO.step rfl rfl ?_ | refine VD.end rfl rfl rfl ?_ | refine VD.mid rfl rfl rfl ?_); refine OpV.box rfl rfl rfl ?_; intro _; refine w ?_))
    (first | refine VO.pure rfl rfl (.ldRA tab_ok rfl rfl (hB _).rds ((bal_sup l i hlt).trans (by rw [← hsp])) rfl) rfl ?_ | refine VD.take rfl rfl rfl (.ldRA tab_ok rfl rfl (hB _).rds ((bal_sup l i hlt).trans (by rw [← hsp])) rfl) rfl ?_ | refine VQ.pure rfl rfl (.ldRA tab_ok rfl rfl (hB _).rds ((bal_sup l i hlt).trans (by rw [← hsp])) rfl) rfl ?_ | refine VD.end rfl rfl rfl (OpV.pure (.ldRA tab_ok rfl rfl (hB _).rds ((bal_sup l i hlt).trans (by rw [← hsp])) rfl) rfl ?_))
    (refine w ?_; repeat ((first | refine VO.step rfl rfl ?_ | refine VD.end rfl rfl rfl ?_ | refine VD.mid rfl rfl rfl ?_); refine OpV.box rfl rfl rfl ?_; intro _; refine w ?_))
    (first | refine VO.pure rfl rfl (.ldRA tab_ok rfl rfl (hB _).rds ((bal_sup l k hkl).trans (by rw [← supAt_get l k hkl])) rfl) rfl ?_ | refine VD.take rfl rfl rfl (.ldRA tab_ok rfl rfl (hB _).rds ((bal_sup l k hkl).trans (by rw [← supAt_get l k hkl])) rfl) rfl ?_ | refine VQ.pure rfl rfl (.ldRA tab_ok rfl rfl (hB _).rds ((bal_sup l k hkl).trans (by rw [← supAt_get l k hkl])) rfl) rfl ?_ | refine VD.end rfl rfl rfl (OpV.pure (.ldRA tab_ok rfl rfl (hB _).rds ((bal_sup l k hkl).trans (by rw [← supAt_get l k hkl])) rfl) rfl ?_))
    (refine w ?_; repeat ((first | refine VO.step rfl rfl ?_ | refine VD.end rfl rfl rfl ?_ | refine VD.mid rfl rfl rfl ?_); refine OpV.box rfl rfl rfl ?_; intro _; refine w ?_))
    ((first | refine VO.step rfl rfl ?_ | refine VD.end rfl rfl rfl ?_ | refine VD.mid rfl rfl rfl ?_); refine OpV.call rfl rfl (fun _ _ => by simp) (ralike_ok (supAt l i) (supAt l k) (by rw [hsp]; exact (hB []).fit _ (List.getElem_mem hlt)) (by rw [supAt_get l k hkl]; exact (hB []).fit _ (List.getElem_mem hkl)) (fun R => by rw [hsp]; exact (hB R).st _ (List.getElem_mem hlt)) (fun R => by rw [supAt_get l k hkl]; exact (hB R).st _ (List.getElem_mem hkl))) Ent.refl rfl ?_; intro _ _)
    (refine w ?_; repeat ((first | refine VO.step rfl rfl ?_ | refine VD.end rfl rfl rfl ?_ | refine VD.mid rfl rfl rfl ?_); refine OpV.box rfl rfl rfl ?_; intro _; refine w ?_))
    cases hs0 : sp
    · rw [hs0] at hany
      (refine w ?_; repeat ((first | refine VO.step rfl rfl ?_ | refine VD.end rfl rfl rfl ?_ | refine VD.mid rfl rfl rfl ?_); refine OpV.box rfl rfl rfl ?_; intro _; refine w ?_))
      refine VE.round (i + 1, (k : Int), !(supAt l i).alike (supAt l k)) ⟨by simp only; omega, hlost2, .inr ⟨k, hk, rfl, hhd, by simp only; rw [hany]; rfl⟩⟩ (by simp only; omega) ⟨rfl, rfl, rfl, rfl, rfl, rfl, rfl, asV rfl (by congr 1), trivial⟩ Ent.refl
    · rw [hs0] at hany
      (refine w ?_; repeat ((first | refine VO.step rfl rfl ?_ | refine VD.end rfl rfl rfl ?_ | refine VD.mid rfl rfl rfl ?_); refine OpV.box rfl rfl rfl ?_; intro _; refine w ?_))
      refine VE.round (i + 1, (k : Int), true) ⟨by simp only; omega, hlost2, .inr ⟨k, hk, rfl, hhd, by simp only; rw [hany]; rfl⟩⟩ (by simp only; omega) ⟨rfl, rfl, rfl, rfl, rfl, rfl, rfl, asV rfl (by congr 1), trivial⟩ Ent.refl
  · have hge : i = l.length - 1 := by have := of_decide_eq_false hc; omega
    subst hge
    rw [← hBn] at hlost hst
    obtain ⟨s0, hs0, he0⟩ := top_att l l.length hne
    have hBne : freshN l l.length ≠ [] := List.ne_nil_of_mem (a := s0) (List.mem_filter.2 ⟨hs0, by simp [he0]⟩)
    rcases hst with ⟨e1, -⟩ | ⟨k, e1, e2, e3, e4⟩
    · exact absurd e1 hBne
    subst e2
    have hnl : ¬ (freshN l l.length).any (fun s => !s.lost) = true := by
      intro h; obtain ⟨s, hs, h2⟩ := List.any_eq_true.1 h; rw [hlost s hs] at h2; cases h2
    rw [← hB0] at hgd
    have hodd := odd_head _ _ e3
    rw [← e4] at hodd
    cases hsv : sp
    · rw [hsv] at hodd
      have hg1 : guideM l = (0, supAt l k) := by
        rw [hgd]
        refine (if_neg hnl).trans ((if_neg (by rw [hodd]; simp)).trans ?_)
        cases hq : freshN l l.length with
        | nil => exact absurd hq hBne
        | cons x r => rw [hq] at e3; cases e3; rfl
      (refine w ?_; repeat ((first | refine VO.step rfl rfl ?_ | refine VD.end rfl rfl rfl ?_ | refine VD.mid rfl rfl rfl ?_); refine OpV.box rfl rfl rfl ?_; intro _; refine w ?_))
      refine VE.done k rfl (fun _ => ⟨by omega, by rw [hg1], decide_eq_false (by omega)⟩) (by rw [hg1]) Ent.refl
    · rw [hsv] at hodd
      have hg1 : guideM l = (151, zeroSup) := by
        rw [hgd]
        exact (if_neg hnl).trans (if_pos hodd)
      (refine w ?_; repeat ((first | refine VO.step rfl rfl ?_ | refine VD.end rfl rfl rfl ?_ | refine VD.mid rfl rfl rfl ?_); refine OpV.box rfl rfl rfl ?_; intro _; refine w ?_))
      refine VE.done 0 rfl (fun h => by rw [hg1] at h; cases h) (by rw [hg1]; rfl) Ent.refl
end Go.Proofs.Ytlflmnmkgaeabaa
