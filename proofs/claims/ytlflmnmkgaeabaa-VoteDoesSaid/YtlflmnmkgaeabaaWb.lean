/- The document's vote: Choose. -/
import Derived.Test.YtlflmnmkgaeabaaWa
set_option maxRecDepth 8000
set_option linter.unusedVariables false
set_option linter.unusedSimpArgs false
set_option linter.unusedSectionVars false
namespace Go.Proofs.Ytlflmnmkgaeabaa
open Go.RowKit Go.Sl
attribute [local irreducible] Own

theorem rakin_ok {W : World} {R : List SProp} (a b : SuperD) (ha : a.fit) (hbf : b.fit) :
    Does1 W Try.prog 32 [.agg a.cells.toArray, .agg b.cells.toArray] R (.bool (a.akin b)) R := by
  (refine Does.enter Try.func32 Try.ntmps32 rfl rfl ?_)
  (refine w ?_; repeat ((first | refine VO.step rfl rfl ?_ | refine VD.end rfl rfl rfl ?_ | refine VD.mid rfl rfl rfl ?_); refine OpV.box rfl rfl rfl ?_; intro _; refine w ?_))
  unfold SuperD.akin
  ((first | refine VO.split rfl rfl rfl ?_ ?_ | refine VD.split rfl rfl rfl ?_ ?_) <;> intro hb)
  · have h1 : a.id = b.id := by have := hb; simp at this; omega
    (refine w ?_; repeat ((first | refine VO.step rfl rfl ?_ | refine VD.end rfl rfl rfl ?_ | refine VD.mid rfl rfl rfl ?_); refine OpV.box rfl rfl rfl ?_; intro _; refine w ?_))
    refine VO.pure rfl rfl (geo_eq (a := a) (b := b) rfl rfl ha hbf rfl) rfl ?_
    (refine w ?_; repeat ((first | refine VO.step rfl rfl ?_ | refine VD.end rfl rfl rfl ?_ | refine VD.mid rfl rfl rfl ?_); refine OpV.box rfl rfl rfl ?_; intro _; refine w ?_))
    ((first | refine VO.split rfl rfl rfl ?_ ?_ | refine VD.split rfl rfl rfl ?_ ?_) <;> intro hb)
    · have h2 : a.members = b.members ∧ a.chunk = b.chunk ∧ a.stripes = b.stripes := of_decide_eq_true hb
      (refine w ?_; repeat ((first | refine VO.step rfl rfl ?_ | refine VD.end rfl rfl rfl ?_ | refine VD.mid rfl rfl rfl ?_); refine OpV.box rfl rfl rfl ?_; intro _; refine w ?_))
      ((first | refine VO.split rfl rfl rfl ?_ ?_ | refine VD.split rfl rfl rfl ?_ ?_) <;> intro hb)
      · have h3 : a.ring = b.ring := by simpa using hb
        (refine w ?_; repeat ((first | refine VO.step rfl rfl ?_ | refine VD.end rfl rfl rfl ?_ | refine VD.mid rfl rfl rfl ?_); refine OpV.box rfl rfl rfl ?_; intro _; refine w ?_))
        (refine VE.done1 rfl ?_ ?_)
        · congr 1; rw [Bool.eq_iff_iff]; simp [h1, h2.1, h2.2.1, h2.2.2, h3]
        · exact Ent.re
      · have h3 : ¬ a.ring = b.ring := by simpa using hb
        (refine w ?_; repeat ((first | refine VO.step rfl rfl ?_ | refine VD.end rfl rfl rfl ?_ | refine VD.mid rfl rfl rfl ?_); refine OpV.box rfl rfl rfl ?_; intro _; refine w ?_))
        (refine VE.done1 rfl ?_ ?_)
        · simp [h3]
        · exact Ent.re
    · have h2 : ¬ (a.members = b.members ∧ a.chunk = b.chunk ∧ a.stripes = b.stripes) := of_decide_eq_false hb
      (refine w ?_; repeat ((first | refine VO.step rfl rfl ?_ | refine VD.end rfl rfl rfl ?_ | refine VD.mid rfl rfl rfl ?_); refine OpV.box rfl rfl rfl ?_; intro _; refine w ?_))
      (refine VE.done1 rfl ?_ ?_)
      · congr 1; symm; exact decide_eq_false (fun h => h2 h.2.1)
      · exact Ent.re
  · have h1 : ¬ a.id = b.id := by have := hb; simp at this; omega
    (refine w ?_; repeat ((first | refine VO.step rfl rfl ?_ | refine VD.end rfl rfl rfl ?_ | refine VD.mid rfl rfl rfl ?_); refine OpV.box rfl rfl rfl ?_; intro _; refine w ?_))
    (refine VE.done1 rfl ?_ ?_)
    · simp [h1]
    · exact Ent.re

theorem votes_head (l : List BalD) (i : Nat) (s : SuperD) (h : (votesN l i).head? = some s) : ∀ k, (votesN l (i + k)).head? = some s
  | 0 => h
  | k + 1 => by
    rw [← Nat.add_assoc, votesN, List.head?_append, votes_head l i s h k]; rfl
theorem akin_refl (s : SuperD) : s.akin s = true := (akin_iff _ _).2 ⟨rfl, ⟨rfl, rfl, rfl⟩, rfl, rfl⟩
theorem newSt_at (l : List BalD) (safe : Nat) (st : List UInt8) (m : Nat) (h : m < st.length) : (newSt l safe st st.length).take (m + 1) = (newSt l safe st st.length).take m ++ [if goneM l safe st m = true then 2 else stAt st m] := by
  rw [List.take_succ_eq_append_getElem (by simpa using h)]
  congr 2
  rw [← stAt_new l safe st m h]
  simp [stAt, h]
theorem bytes_push (l : List UInt8) (c : UInt8) : bytes (l ++ [c]) = bytes l ++ [.int .u8 (c.toNat : Int)] := by simp [bytes]; rfl

set_option maxHeartbeats 8000000 in
theorem rchoose_ok {W : World} {R : List SProp} {ao : Option Addr} {cap : Nat} {l : List BalD} (hB : ∀ R, Bals W R ao l) (hlen : l.length ≤ 10000) :
    Does W Try.prog 14 [.slice ao l.length cap] R (β := Option Addr × Nat) (fun _ => True) (fun x => .tuple #[.agg ((chooseM l).2.cells x).toArray, .int .i64 (chooseM l).1])
      (fun x => Own 59 1 (.slice x.1 (chooseM l).2.st.length x.2) (chooseM l).2.st.length (bytes (chooseM l).2.st) :: R) := by
  (refine Does.enter Try.func14 Try.ntmps14 rfl rfl ?_)
  (refine w ?_; repeat ((first | refine VO.step rfl rfl ?_ | refine VD.end rfl rfl rfl ?_ | refine VD.mid rfl rfl rfl ?_); refine OpV.box rfl rfl rfl ?_; intro _; refine w ?_))
  ((first | refine VO.step rfl rfl ?_ | refine VD.end rfl rfl rfl ?_ | refine VD.mid rfl rfl rfl ?_); refine OpV.allocS sb_32 rfl ?_; intro n2)
  (refine w ?_; repeat ((first | refine VO.step rfl rfl ?_ | refine VD.end rfl rfl rfl ?_ | refine VD.mid rfl rfl rfl ?_); refine OpV.box rfl rfl rfl ?_; intro _; refine w ?_))
  (apply VO.pure rfl rfl; apply PureAt.build sb_32 rfl; (simp [buildX, setL, Value.cells]; rfl); rfl)
  ((first | refine VO.step rfl rfl ?_ | refine VD.end rfl rfl rfl ?_ | refine VD.mid rfl rfl rfl ?_); refine OpV.allocS sb_32 rfl ?_; intro n4)
  (refine w ?_; repeat ((first | refine VO.step rfl rfl ?_ | refine VD.end rfl rfl rfl ?_ | refine VD.mid rfl rfl rfl ?_); refine OpV.box rfl rfl rfl ?_; intro _; refine w ?_))
  (first | refine VO.step rfl rfl ?_ | refine VD.end rfl rfl rfl ?_ | refine VD.mid rfl rfl rfl ?_)
  refine OpV.stA (vs := zeroV) tab_ok rfl rfl rfl rfl (vCells_one _ _ _ _ _ _ _) (by (repeat first | exact .head | apply Hole.tail)) (by simp) ?_
  refine VO.ent (Reord.ent (L := Row n4 32 zeroV :: Row n2 32 zeroV :: R) (by (repeat first | exact .refl | (apply Reord.cons; focus repeat first | exact .head | apply Del.tail) | exact .nil | apply Reord.drop))) ?_
  (refine w ?_; repeat ((first | refine VO.step rfl rfl ?_ | refine VD.end rfl rfl rfl ?_ | refine VD.mid rfl rfl rfl ?_); refine OpV.box rfl rfl rfl ?_; intro _; refine w ?_))
  ((first | refine VO.split rfl rfl rfl ?_ ?_ | refine VD.split rfl rfl rfl ?_ ?_) <;> intro hb)
  · have hcm : chooseM l = (1, noneV) := if_pos (.inl (by have := of_decide_eq_true hb; omega))
    ((refine w ?_; repeat ((first | refine VO.step rfl rfl ?_ | refine VD.end rfl rfl rfl ?_ | refine VD.mid rfl rfl rfl ?_); refine OpV.box rfl rfl rfl ?_; intro _; refine w ?_)); (first | refine VO.step rfl rfl ?_ | refine VD.end rfl rfl rfl ?_ | refine VD.mid rfl rfl rfl ?_); refine OpV.stA (vs := zeroV) tab_ok rfl rfl rfl rfl (vCells_one _ _ _ _ _ _ _) (by (repeat first | exact .head | apply Hole.tail)) (by simp [zeroV, vCells]) ?_; (refine w ?_; repeat ((first | refine VO.step rfl rfl ?_ | refine VD.end rfl rfl rfl ?_ | refine VD.mid rfl rfl rfl ?_); refine OpV.box rfl rfl rfl ?_; intro _; refine w ?_)); refine VE.results2 (.inl rfl) (none, 0) rfl (ResIs.agg (vs := zeroV) tab_ok rfl rfl (by (focus repeat first | exact .head _ | apply List.Mem.tail)) rfl rfl) (.tmp rfl) trivial (by rw [hcm]; rfl) (by rw [hcm]; exact Ent.trans (Ent.re (L := R)) (fun w hw => hw.ownNil _ _)))
  have h4 : 4 ≤ l.length := by have := of_decide_eq_false hb; omega
  (refine w ?_; repeat ((first | refine VO.step rfl rfl ?_ | refine VD.end rfl rfl rfl ?_ | refine VD.mid rfl rfl rfl ?_); refine OpV.box rfl rfl rfl ?_; intro _; refine w ?_))
  (refine VC.cond rfl rfl ?_ ?_ <;> intro hc)
  · have hcm : chooseM l = (1, noneV) := if_pos (.inr (by have := of_decide_eq_true hc; omega))
    ((refine w ?_; repeat ((first | refine VO.step rfl rfl ?_ | refine VD.end rfl rfl rfl ?_ | refine VD.mid rfl rfl rfl ?_); refine OpV.box rfl rfl rfl ?_; intro _; refine w ?_)); (first | refine VO.step rfl rfl ?_ | refine VD.end rfl rfl rfl ?_ | refine VD.mid rfl rfl rfl ?_); refine OpV.stA (vs := zeroV) tab_ok rfl rfl rfl rfl (vCells_one _ _ _ _ _ _ _) (by (repeat first | exact .head | apply Hole.tail)) (by simp [zeroV, vCells]) ?_; (refine w ?_; repeat ((first | refine VO.step rfl rfl ?_ | refine VD.end rfl rfl rfl ?_ | refine VD.mid rfl rfl rfl ?_); refine OpV.box rfl rfl rfl ?_; intro _; refine w ?_)); refine VE.results2 (.inl rfl) (none, 0) rfl (ResIs.agg (vs := zeroV) tab_ok rfl rfl (by (focus repeat first | exact .head _ | apply List.Mem.tail)) rfl rfl) (.tmp rfl) trivial (by rw [hcm]; rfl) (by rw [hcm]; exact Ent.trans (Ent.re (L := R)) (fun w hw => hw.ownNil _ _)))
  have h17 : l.length ≤ 17 := by have := of_decide_eq_false hc; omega
  obtain ⟨la, rfl⟩ : ∃ x, ao = some x := by cases ao with | none => have := (hB []).rds.nil rfl; omega | some x => exact ⟨x, rfl⟩
  have h150 : votesN l l.length = [] → chooseM l = (150, noneV) := fun h => (if_neg (by omega)).trans (if_pos h)
  have h151 : votesN l l.length ≠ [] → (votesN l l.length).any (fun s => !s.akin ((votesN l l.length).headD zeroSup)) = true → chooseM l = (151, noneV) := fun h h2 => (if_neg (by omega)).trans ((if_neg h).trans (if_pos h2))
  have hgg : votesN l l.length ≠ [] → ¬ (votesN l l.length).any (fun s => !s.akin ((votesN l l.length).headD zeroSup)) = true → (guideM l).1 ≠ 0 → chooseM l = ((guideM l).1, noneV) := fun h h2 h3 => (if_neg (by omega)).trans ((if_neg h).trans ((if_neg h2).trans (if_pos h3)))
  have h152 : votesN l l.length ≠ [] → ¬ (votesN l l.length).any (fun s => !s.akin ((votesN l l.length).headD zeroSup)) = true → (guideM l).1 = 0 → 1 < awayM l (guideM l).2.safe (guideM l).2.states (guideM l).2.states.length → chooseM l = (152, noneV) := fun h h2 h3 h4 => (if_neg (by omega)).trans ((if_neg h).trans ((if_neg h2).trans ((if_neg (by omega)).trans (if_pos h4))))
  have h000 : votesN l l.length ≠ [] → ¬ (votesN l l.length).any (fun s => !s.akin ((votesN l l.length).headD zeroSup)) = true → (guideM l).1 = 0 → ¬ 1 < awayM l (guideM l).2.safe (guideM l).2.states (guideM l).2.states.length → chooseM l = (0, fullV l (guideM l).2) := fun h h2 h3 h4 => (if_neg (by omega)).trans ((if_neg h).trans ((if_neg h2).trans ((if_neg (by omega)).trans (if_neg h4))))
  (refine w ?_; repeat ((first | refine VO.step rfl rfl ?_ | refine VD.end rfl rfl rfl ?_ | refine VD.mid rfl rfl rfl ?_); refine OpV.box rfl rfl rfl ?_; intro _; refine w ?_))
  refine VC.loop (α := Nat × Int) (fun y => y.1 ≤ l.length ∧ ((votesN l y.1 = [] ∧ y.2 = -1) ∨ ∃ k : Nat, k < l.length ∧ y.2 = (k : Int) ∧ (votesN l y.1).head? = some (supAt l k) ∧ ∀ s ∈ votesN l y.1, s.akin (supAt l k) = true))
    (fun _ => Row n4 32 zeroV :: Row n2 32 zeroV :: R) (fun y => [(0, .slice (some la) l.length cap), (2, .pointer (some ⟨n2, 0, none⟩)), (3, .int .i64 0), (4, .pointer (some ⟨n4, 0, none⟩)), (5, .int .i64 y.2), (6, .int .i64 y.1)]) (fun y => l.length - y.1) rfl (0, -1) ⟨Nat.zero_le _, .inl ⟨rfl, rfl⟩⟩ Ent.refl ⟨rfl, rfl, rfl, rfl, rfl, rfl, trivial⟩ ?_
  rintro ⟨i, fi⟩ ⟨hi, hst⟩
  dsimp only at hi hst ⊢
  (refine w ?_; repeat ((first | refine VO.step rfl rfl ?_ | refine VD.end rfl rfl rfl ?_ | refine VD.mid rfl rfl rfl ?_); refine OpV.box rfl rfl rfl ?_; intro _; refine w ?_))
  (refine VC.cond rfl rfl ?_ ?_ <;> intro hc)
  · have hlt : i < l.length := by have := of_decide_eq_true hc; omega
    have hsp := supAt_get l i hlt
    have hvs : votesN l (i + 1) = votesN l i ++ (if countsB l i = true then [supAt l i] else []) := rfl
    (refine w ?_; repeat ((first | refine VO.step rfl rfl ?_ | refine VD.end rfl rfl rfl ?_ | refine VD.mid rfl rfl rfl ?_); refine OpV.box rfl rfl rfl ?_; intro _; refine w ?_))
    ((first | refine VO.step rfl rfl ?_ | refine VD.end rfl rfl rfl ?_ | refine VD.mid rfl rfl rfl ?_); refine OpV.call rfl rfl (fun _ _ => by simp) (rcounts_ok hB i hlt (by omega)) Ent.refl rfl ?_; intro _ _)
    (refine w ?_; repeat ((first | refine VO.step rfl rfl ?_ | refine VD.end rfl rfl rfl ?_ | refine VD.mid rfl rfl rfl ?_); refine OpV.box rfl rfl rfl ?_; intro _; refine w ?_))
    cases hct : countsB l i
    · rw [hct] at hvs
      simp only [Bool.false_eq_true, if_false, List.append_nil] at hvs
      (refine w ?_; repeat ((first | refine VO.step rfl rfl ?_ | refine VD.end rfl rfl rfl ?_ | refine VD.mid rfl rfl rfl ?_); refine OpV.box rfl rfl rfl ?_; intro _; refine w ?_))
      (refine VC.drawn [] 12 [0, 1, 2, 3, 4, 5, 6, 7, 8, 9, 10, 11, 12, 13, 14] _ rfl (by kernel_rfl) (by kernel_rfl) Ent.re ?_)
      (refine w ?_; repeat ((first | refine VO.step rfl rfl ?_ | refine VD.end rfl rfl rfl ?_ | refine VD.mid rfl rfl rfl ?_); refine OpV.box rfl rfl rfl ?_; intro _; refine w ?_))
      refine VE.round (i + 1, fi) ⟨by simp only; omega, by simp only; rw [hvs]; exact hst⟩ (by simp only; omega) ⟨rfl, rfl, rfl, rfl, rfl, asV rfl (by congr 1), trivial⟩ Ent.refl
    · rw [hct] at hvs
      simp only [if_true] at hvs
      (refine w ?_; repeat ((first | refine VO.step rfl rfl ?_ | refine VD.end rfl rfl rfl ?_ | refine VD.mid rfl rfl rfl ?_); refine OpV.box rfl rfl rfl ?_; intro _; refine w ?_))
      refine VC.join (α := Nat × Unit) (fun y => y.1 < l.length ∧ (votesN l (i + 1)).head? = some (supAt l y.1) ∧ ∀ s ∈ votesN l i, s.akin (supAt l y.1) = true) (fun _ => Row n4 32 zeroV :: Row n2 32 zeroV :: R) (fun y => [(0, .slice (some la) l.length cap), (2, .pointer (some ⟨n2, 0, none⟩)), (3, .int .i64 0), (4, .pointer (some ⟨n4, 0, none⟩)), (5, .int .i64 (y.1 : Int)), (6, .int .i64 i), (7, .bool true)]) ?_ ?_
      · intro Q2 jn
        rcases hst with ⟨e1, e2⟩ | ⟨k, e1, e2, e3, e4⟩
        · subst e2
          (refine VC.condTe rfl rfl (rfl) ?_)
          (refine w ?_; repeat ((first | refine VO.step rfl rfl ?_ | refine VD.end rfl rfl rfl ?_ | refine VD.mid rfl rfl rfl ?_); refine OpV.box rfl rfl rfl ?_; intro _; refine w ?_))
          exact jn.to (i, ()) ⟨hlt, by rw [hvs, e1]; rfl, by rw [e1]; intro s hs; cases hs⟩ ⟨rfl, rfl, rfl, rfl, rfl, rfl, rfl, trivial⟩ Ent.refl
        · subst e2
          (refine VC.condFe rfl rfl (decide_eq_false (by omega)) ?_)
          (refine w ?_; repeat ((first | refine VO.step rfl rfl ?_ | refine VD.end rfl rfl rfl ?_ | refine VD.mid rfl rfl rfl ?_); refine OpV.box rfl rfl rfl ?_; intro _; refine w ?_))
          exact jn.to (k, ()) ⟨e1, by rw [hvs, List.head?_append, e3]; rfl, e4⟩ ⟨rfl, rfl, rfl, rfl, rfl, rfl, rfl, trivial⟩ Ent.refl
      rintro ⟨k, uu⟩ ⟨hk, hhd, hall⟩
      dsimp only at hk hhd hall ⊢
      have hkp := supAt_get l k hk
      (refine w ?_; repeat ((first | refine VO.step rfl rfl ?_ | refine VD.end rfl rfl rfl ?_ | refine VD.mid rfl rfl rfl ?_); refine OpV.box rfl rfl rfl ?_; intro _; refine w ?_))
      (refine VC.drawn [] 12 [0, 1, 2, 3, 4, 5, 6, 7, 8, 9, 10, 11, 12, 13, 14] _ rfl (by kernel_rfl) (by kernel_rfl) Ent.re ?_)
      (refine w ?_; repeat ((first | refine VO.step rfl rfl ?_ | refine VD.end rfl rfl rfl ?_ | refine VD.mid rfl rfl rfl ?_); refine OpV.box rfl rfl rfl ?_; intro _; refine w ?_))
      (first | refine VO.pure rfl rfl (.ldRA tab_ok rfl rfl (hB _).rds ((bal_sup l i hlt).trans (by rw [← hsp])) rfl) rfl ?_ | refine VD.take rfl rfl rfl (.ldRA tab_ok rfl rfl (hB _).rds ((bal_sup l i hlt).trans (by rw [← hsp])) rfl) rfl ?_ | refine VQ.pure rfl rfl (.ldRA tab_ok rfl rfl (hB _).rds ((bal_sup l i hlt).trans (by rw [← hsp])) rfl) rfl ?_ | refine VD.end rfl rfl rfl (OpV.pure (.ldRA tab_ok rfl rfl (hB _).rds ((bal_sup l i hlt).trans (by rw [← hsp])) rfl) rfl ?_))
      (refine w ?_; repeat ((first | refine VO.step rfl rfl ?_ | refine VD.end rfl rfl rfl ?_ | refine VD.mid rfl rfl rfl ?_); refine OpV.box rfl rfl rfl ?_; intro _; refine w ?_))
      (first | refine VO.pure rfl rfl (.ldRA tab_ok rfl rfl (hB _).rds ((bal_sup l k hk).trans (by rw [← hkp])) rfl) rfl ?_ | refine VD.take rfl rfl rfl (.ldRA tab_ok rfl rfl (hB _).rds ((bal_sup l k hk).trans (by rw [← hkp])) rfl) rfl ?_ | refine VQ.pure rfl rfl (.ldRA tab_ok rfl rfl (hB _).rds ((bal_sup l k hk).trans (by rw [← hkp])) rfl) rfl ?_ | refine VD.end rfl rfl rfl (OpV.pure (.ldRA tab_ok rfl rfl (hB _).rds ((bal_sup l k hk).trans (by rw [← hkp])) rfl) rfl ?_))
      (refine w ?_; repeat ((first | refine VO.step rfl rfl ?_ | refine VD.end rfl rfl rfl ?_ | refine VD.mid rfl rfl rfl ?_); refine OpV.box rfl rfl rfl ?_; intro _; refine w ?_))
      ((first | refine VO.step rfl rfl ?_ | refine VD.end rfl rfl rfl ?_ | refine VD.mid rfl rfl rfl ?_); refine OpV.call rfl rfl (fun _ _ => by simp) (rakin_ok (supAt l i) (supAt l k) (by rw [hsp]; exact (hB []).fit _ (List.getElem_mem hlt)) (by rw [hkp]; exact (hB []).fit _ (List.getElem_mem hk))) Ent.refl rfl ?_; intro _ _)
      (refine w ?_; repeat ((first | refine VO.step rfl rfl ?_ | refine VD.end rfl rfl rfl ?_ | refine VD.mid rfl rfl rfl ?_); refine OpV.box rfl rfl rfl ?_; intro _; refine w ?_))
      cases hak : (supAt l i).akin (supAt l k)
      · have hhn := votes_head l (i + 1) _ hhd (l.length - (i + 1))
        rw [show i + 1 + (l.length - (i + 1)) = l.length by omega] at hhn
        have hne : votesN l l.length ≠ [] := by intro e; rw [e] at hhn; cases hhn
        have hD : (votesN l l.length).headD zeroSup = supAt l k := by
          cases hq : votesN l l.length with
          | nil => exact absurd hq hne
          | cons x r => rw [hq] at hhn; cases hhn; rfl
        have hcm := h151 hne (List.any_eq_true.2 ⟨_, votes_of l l.length i hlt hct, by rw [hD, hak]; rfl⟩)
        ((refine w ?_; repeat ((first | refine VO.step rfl rfl ?_ | refine VD.end rfl rfl rfl ?_ | refine VD.mid rfl rfl rfl ?_); refine OpV.box rfl rfl rfl ?_; intro _; refine w ?_)); (first | refine VO.step rfl rfl ?_ | refine VD.end rfl rfl rfl ?_ | refine VD.mid rfl rfl rfl ?_); refine OpV.stA (vs := zeroV) tab_ok rfl rfl rfl rfl (vCells_one _ _ _ _ _ _ _) (by (repeat first | exact .head | apply Hole.tail)) (by simp [zeroV, vCells]) ?_; (refine w ?_; repeat ((first | refine VO.step rfl rfl ?_ | refine VD.end rfl rfl rfl ?_ | refine VD.mid rfl rfl rfl ?_); refine OpV.box rfl rfl rfl ?_; intro _; refine w ?_)); refine VE.results2 (.inl rfl) (none, 0) rfl (ResIs.agg (vs := zeroV) tab_ok rfl rfl (by (focus repeat first | exact .head _ | apply List.Mem.tail)) rfl rfl) (.tmp rfl) trivial (by rw [hcm]; rfl) (by rw [hcm]; exact Ent.trans (Ent.re (L := R)) (fun w hw => hw.ownNil _ _)))
      · (refine w ?_; repeat ((first | refine VO.step rfl rfl ?_ | refine VD.end rfl rfl rfl ?_ | refine VD.mid rfl rfl rfl ?_); refine OpV.box rfl rfl rfl ?_; intro _; refine w ?_))
        refine VE.round (i + 1, (k : Int)) ⟨by simp only; omega, .inr ⟨k, hk, rfl, hhd, fun s hs => ?_⟩⟩ (by simp only; omega) ⟨rfl, rfl, rfl, rfl, rfl, asV rfl (by congr 1), trivial⟩ Ent.refl
        dsimp only at hs
        rw [hvs, List.mem_append, List.mem_singleton] at hs
        rcases hs with h | h
        · exact hall s h
        · rw [h]; exact hak
  have hge : i = l.length := by have := of_decide_eq_false hc; omega
  subst hge
  rcases hst with ⟨e1, e2⟩ | ⟨k, e1, e2, e3, e4⟩
  · subst e2
    (refine w ?_; repeat ((first | refine VO.step rfl rfl ?_ | refine VD.end rfl rfl rfl ?_ | refine VD.mid rfl rfl rfl ?_); refine OpV.box rfl rfl rfl ?_; intro _; refine w ?_))
    ((refine w ?_; repeat ((first | refine VO.step rfl rfl ?_ | refine VD.end rfl rfl rfl ?_ | refine VD.mid rfl rfl rfl ?_); refine OpV.box rfl rfl rfl ?_; intro _; refine w ?_)); (first | refine VO.step rfl rfl ?_ | refine VD.end rfl rfl rfl ?_ | refine VD.mid rfl rfl rfl ?_); refine OpV.stA (vs := zeroV) tab_ok rfl rfl rfl rfl (vCells_one _ _ _ _ _ _ _) (by (repeat first | exact .head | apply Hole.tail)) (by simp [zeroV, vCells]) ?_; (refine w ?_; repeat ((first | refine VO.step rfl rfl ?_ | refine VD.end rfl rfl rfl ?_ | refine VD.mid rfl rfl rfl ?_); refine OpV.box rfl rfl rfl ?_; intro _; refine w ?_)); refine VE.results2 (.inl rfl) (none, 0) rfl (ResIs.agg (vs := zeroV) tab_ok rfl rfl (by (focus repeat first | exact .head _ | apply List.Mem.tail)) rfl rfl) (.tmp rfl) trivial (by rw [h150 e1]; rfl) (by rw [h150 e1]; exact Ent.trans (Ent.re (L := R)) (fun w hw => hw.ownNil _ _)))
  subst e2
  have hne : votesN l l.length ≠ [] := by intro e; rw [e] at e3; cases e3
  have hD : (votesN l l.length).headD zeroSup = supAt l k := by
    cases hq : votesN l l.length with
    | nil => exact absurd hq hne
    | cons x r => rw [hq] at e3; cases e3; rfl
  have hany : ¬ (votesN l l.length).any (fun s => !s.akin ((votesN l l.length).headD zeroSup)) = true := by
    intro h; obtain ⟨s, hs, h2⟩ := List.any_eq_true.1 h; rw [hD, e4 s hs] at h2; cases h2
  (refine w ?_; repeat ((first | refine VO.step rfl rfl ?_ | refine VD.end rfl rfl rfl ?_ | refine VD.mid rfl rfl rfl ?_); refine OpV.box rfl rfl rfl ?_; intro _; refine w ?_))
  ((first | refine VO.step rfl rfl ?_ | refine VD.end rfl rfl rfl ?_ | refine VD.mid rfl rfl rfl ?_); refine OpV.call rfl rfl (fun _ _ => by simp) (rguide_ok hB (by omega) hlen hne) Ent.refl rfl ?_)
  intro g hg
  (refine w ?_; repeat ((first | refine VO.step rfl rfl ?_ | refine VD.end rfl rfl rfl ?_ | refine VD.mid rfl rfl rfl ?_); refine OpV.box rfl rfl rfl ?_; intro _; refine w ?_))
  (refine VC.cond rfl rfl ?_ ?_ <;> intro hc)
  · have hg0 : (guideM l).1 ≠ 0 := by simpa using hc
    ((refine w ?_; repeat ((first | refine VO.step rfl rfl ?_ | refine VD.end rfl rfl rfl ?_ | refine VD.mid rfl rfl rfl ?_); refine OpV.box rfl rfl rfl ?_; intro _; refine w ?_)); (first | refine VO.step rfl rfl ?_ | refine VD.end rfl rfl rfl ?_ | refine VD.mid rfl rfl rfl ?_); refine OpV.stA (vs := zeroV) tab_ok rfl rfl rfl rfl (vCells_one _ _ _ _ _ _ _) (by (repeat first | exact .head | apply Hole.tail)) (by simp [zeroV, vCells]) ?_; (refine w ?_; repeat ((first | refine VO.step rfl rfl ?_ | refine VD.end rfl rfl rfl ?_ | refine VD.mid rfl rfl rfl ?_); refine OpV.box rfl rfl rfl ?_; intro _; refine w ?_)); refine VE.results2 (.inl rfl) (none, 0) rfl (ResIs.agg (vs := zeroV) tab_ok rfl rfl (by (focus repeat first | exact .head _ | apply List.Mem.tail)) rfl rfl) (.tmp rfl) trivial (by rw [hgg hne hany hg0]; rfl) (by rw [hgg hne hany hg0]; exact Ent.trans (Ent.re (L := R)) (fun w hw => hw.ownNil _ _)))
  have hg0 : (guideM l).1 = 0 := by simpa using hc
  obtain ⟨hgl, hgs, hgj⟩ := hg hg0
  obtain ⟨gi, hgi, hgs2⟩ := guide_states l hg0 hne
  have hgl2 := counts_lt l gi hgi
  have hstl := counts_states l gi hgi
  rw [← hgs2] at hstl
  have hsf : (guideM l).2.fit := by rw [hgs2, supAt_get l gi hgl2]; exact (hB []).fit _ (List.getElem_mem hgl2)
  have hsr : ∀ R, Rds W R 1 (guideM l).2.so (guideM l).2.states.length (bytes (guideM l).2.states) := fun R => by rw [hgs2, supAt_get l gi hgl2]; exact (hB R).st _ (List.getElem_mem hgl2)
  have hfull := show fullV l (guideM l).2 = _ from rfl
  have h152' := h152 hne hany hg0
  have h000' := h000 hne hany hg0
  clear h150 h151 hgg h152 h000 hgs2
  generalize (guideM l).2 = s at *
  generalize hjr : countsB l (l.length - 1) = jr at *
  (refine w ?_; repeat ((first | refine VO.step rfl rfl ?_ | refine VD.end rfl rfl rfl ?_ | refine VD.mid rfl rfl rfl ?_); refine OpV.box rfl rfl rfl ?_; intro _; refine w ?_))
  (first | refine VO.pure rfl rfl (.ldRA tab_ok rfl rfl (hB _).rds ((bal_sup l g hgl).trans (by rw [← supAt_get l g hgl, hgs])) rfl) rfl ?_ | refine VD.take rfl rfl rfl (.ldRA tab_ok rfl rfl (hB _).rds ((bal_sup l g hgl).trans (by rw [← supAt_get l g hgl, hgs])) rfl) rfl ?_ | refine VQ.pure rfl rfl (.ldRA tab_ok rfl rfl (hB _).rds ((bal_sup l g hgl).trans (by rw [← supAt_get l g hgl, hgs])) rfl) rfl ?_ | refine VD.end rfl rfl rfl (OpV.pure (.ldRA tab_ok rfl rfl (hB _).rds ((bal_sup l g hgl).trans (by rw [← supAt_get l g hgl, hgs])) rfl) rfl ?_))
  ((first | refine VO.step rfl rfl ?_ | refine VD.end rfl rfl rfl ?_ | refine VD.mid rfl rfl rfl ?_); refine OpV.allocS sb_30 rfl ?_; intro n11)
  (refine w ?_; repeat ((first | refine VO.step rfl rfl ?_ | refine VD.end rfl rfl rfl ?_ | refine VD.mid rfl rfl rfl ?_); refine OpV.box rfl rfl rfl ?_; intro _; refine w ?_))
  (first | refine VO.step rfl rfl ?_ | refine VD.end rfl rfl rfl ?_ | refine VD.mid rfl rfl rfl ?_)
  refine OpV.stA (vs := s.cells) tab_ok rfl rfl rfl rfl (super_one _) (by (repeat first | exact .head | apply Hole.tail)) (by simp) ?_
  refine VO.ent (Reord.ent (L := Row n11 30 s.cells :: Row n4 32 zeroV :: Row n2 32 zeroV :: R) (by (repeat first | exact .refl | (apply Reord.cons; focus repeat first | exact .head | apply Del.tail) | exact .nil | apply Reord.drop))) ?_
  (refine w ?_; repeat ((first | refine VO.step rfl rfl ?_ | refine VD.end rfl rfl rfl ?_ | refine VD.mid rfl rfl rfl ?_); refine OpV.box rfl rfl rfl ?_; intro _; refine w ?_))
  refine VO.re 85 (.bool jr) rfl (by rw [← hgj]; congr 1; rw [Bool.eq_iff_iff]; simp; omega) ?_
  (apply VO.pure rfl rfl; apply PureAt.build sb_32 rfl; (simp [buildX, setL, Value.cells]; rfl); rfl)
  ((first | refine VO.step rfl rfl ?_ | refine VD.end rfl rfl rfl ?_ | refine VD.mid rfl rfl rfl ?_); refine OpV.allocS sb_32 rfl ?_; intro n12)
  (refine w ?_; repeat ((first | refine VO.step rfl rfl ?_ | refine VD.end rfl rfl rfl ?_ | refine VD.mid rfl rfl rfl ?_); refine OpV.box rfl rfl rfl ?_; intro _; refine w ?_))
  (first | refine VO.step rfl rfl ?_ | refine VD.end rfl rfl rfl ?_ | refine VD.mid rfl rfl rfl ?_)
  refine OpV.stA (vs := vCells s s.so s.states.length s.sc s.cursor false jr) tab_ok rfl rfl rfl rfl (vCells_one _ _ _ _ _ _ _) (by (repeat first | exact .head | apply Hole.tail)) (by simp) ?_
  refine VO.ent (Reord.ent (L := Row n12 32 (vCells s s.so s.states.length s.sc s.cursor false jr) :: Row n11 30 s.cells :: Row n4 32 zeroV :: Row n2 32 zeroV :: R) (by (repeat first | exact .refl | (apply Reord.cons; focus repeat first | exact .head | apply Del.tail) | exact .nil | apply Reord.drop))) ?_
  unfold vCells
  (refine w ?_; repeat ((first | refine VO.step rfl rfl ?_ | refine VD.end rfl rfl rfl ?_ | refine VD.mid rfl rfl rfl ?_); refine OpV.box rfl rfl rfl ?_; intro _; refine w ?_))
  obtain ⟨lb, hlb⟩ : ∃ lb, lb = (s.lost && !jr) := ⟨_, rfl⟩
  refine VO.joinR (α := Unit) (fun _ => True) (fun _ => Row n12 32 (vCells (withL s lb) s.so s.states.length s.sc s.cursor false jr) :: Row n11 30 s.cells :: Row n4 32 zeroV :: Row n2 32 zeroV :: R)
    (fun _ => [(0, .slice (some la) l.length cap), (2, .pointer (some ⟨n2, 0, none⟩)), (3, .int .i64 0), (4, .pointer (some ⟨n4, 0, none⟩)), (11, .pointer (some ⟨n11, 0, none⟩)), (12, .pointer (some ⟨n12, 0, none⟩))]) ?_ ?_
  · intro Q2 jn
    cases hlo : s.lost
    · rw [hlo] at hlb; subst hlb
      (refine w ?_; repeat ((first | refine VO.step rfl rfl ?_ | refine VD.end rfl rfl rfl ?_ | refine VD.mid rfl rfl rfl ?_); refine OpV.box rfl rfl rfl ?_; intro _; refine w ?_))
      exact jn.to () trivial ⟨rfl, rfl, rfl, rfl, rfl, rfl, trivial⟩ Ent.re
    · rw [hlo] at hlb; subst hlb
      (refine w ?_; repeat ((first | refine VO.step rfl rfl ?_ | refine VD.end rfl rfl rfl ?_ | refine VD.mid rfl rfl rfl ?_); refine OpV.box rfl rfl rfl ?_; intro _; refine w ?_))
      exact jn.to () trivial ⟨rfl, rfl, rfl, rfl, rfl, rfl, trivial⟩ Ent.re
  rintro ⟨⟩ -
  have hfull : fullV l s = ⟨withE s lb (topN l l.length), newSt l s.safe s.states s.states.length, if wipeM l s.safe s.states s.states.length = true then 0 else s.cursor, turnM l s.safe s.states s.states.length, jr⟩ := by rw [hlb]; simp only [fullV, hjr, withE]
  unfold vCells
  (refine w ?_; repeat ((first | refine VO.step rfl rfl ?_ | refine VD.end rfl rfl rfl ?_ | refine VD.mid rfl rfl rfl ?_); refine OpV.box rfl rfl rfl ?_; intro _; refine w ?_))
  ((first | refine VO.step rfl rfl ?_ | refine VD.end rfl rfl rfl ?_ | refine VD.mid rfl rfl rfl ?_); refine OpV.call rfl rfl (fun _ _ => by simp) (rgreatest_ok hB (by omega)) Ent.refl rfl ?_)
  intro _ _
  (refine w ?_; repeat ((first | refine VO.step rfl rfl ?_ | refine VD.end rfl rfl rfl ?_ | refine VD.mid rfl rfl rfl ?_); refine OpV.box rfl rfl rfl ?_; intro _; refine w ?_))
  refine VC.ent (H' := Own 59 1 (.slice none 0 0) 0 [] :: Row n12 32 (vCells (withE s lb (topN l l.length)) none 0 0 s.cursor false jr) :: Row n11 30 s.cells :: Row n4 32 zeroV :: Row n2 32 zeroV :: R) (fun w hw => hw.ownNil _ _) ?_
  refine VC.loop (α := Nat × Option Addr × Nat) (fun y => y.1 ≤ s.states.length) (fun y => Own 59 1 (.slice y.2.1 y.1 y.2.2) y.1 (bytes ((newSt l s.safe s.states s.states.length).take y.1)) :: Row n12 32 (vCells (withE s lb (topN l l.length)) y.2.1 y.1 y.2.2 (if wipeM l s.safe s.states y.1 = true then 0 else s.cursor) (turnM l s.safe s.states y.1) jr) :: Row n11 30 s.cells :: Row n4 32 zeroV :: Row n2 32 zeroV :: R)
    (fun y => [(0, .slice (some la) l.length cap), (2, .pointer (some ⟨n2, 0, none⟩)), (3, .int .i64 0), (4, .pointer (some ⟨n4, 0, none⟩)), (11, .pointer (some ⟨n11, 0, none⟩)), (12, .pointer (some ⟨n12, 0, none⟩)), (13, .int .i64 (awayM l s.safe s.states y.1)), (14, .int .i64 y.1)]) (fun y => s.states.length - y.1) rfl (0, none, 0) (Nat.zero_le _) Ent.refl ⟨rfl, rfl, rfl, rfl, rfl, rfl, rfl, rfl, trivial⟩ ?_
  rintro ⟨m, so, sc⟩ hm
  dsimp only at hm ⊢
  unfold vCells
  (refine w ?_; repeat ((first | refine VO.step rfl rfl ?_ | refine VD.end rfl rfl rfl ?_ | refine VD.mid rfl rfl rfl ?_); refine OpV.box rfl rfl rfl ?_; intro _; refine w ?_))
  (refine VC.cond rfl rfl ?_ ?_ <;> intro hc)
  · have hlt : m < s.states.length := by have := of_decide_eq_true hc; omega
    have hlt2 : m < l.length := by omega
    obtain ⟨sa, hsa⟩ : ∃ x, s.so = some x := by cases h : s.so with | none => have := (hsr []).nil h; omega | some x => exact ⟨x, rfl⟩
    have hget : (bytes s.states)[m]? = some (.int .u8 ((stAt s.states m).toNat : Int)) := by simp [bytes, stAt, hlt]; rfl
    have haw : awayM l s.safe s.states (m + 1) = awayM l s.safe s.states m + (if (stAt s.states m != 1 || !fitM l s.safe s.states m) = true then 1 else 0) := rfl
    have htn : turnM l s.safe s.states (m + 1) = (turnM l s.safe s.states m || goneM l s.safe s.states m) := rfl
    have hwp : wipeM l s.safe s.states (m + 1) = (wipeM l s.safe s.states m || (goneM l s.safe s.states m && stAt s.states m == 3)) := rfl
    have hgn : goneM l s.safe s.states m = (stAt s.states m != 2 && !fitM l s.safe s.states m) := rfl
    have hnw := newSt_at l s.safe s.states m hlt
    have hab : awayM l s.safe s.states m ≤ m := by
      clear haw htn hwp hgn hc hlt hlt2 hm hnw hget
      induction m with
      | zero => exact Nat.le_refl _
      | succ k ih => rw [awayM]; split <;> omega
    (refine w ?_; repeat ((first | refine VO.step rfl rfl ?_ | refine VD.end rfl rfl rfl ?_ | refine VD.mid rfl rfl rfl ?_); refine OpV.box rfl rfl rfl ?_; intro _; refine w ?_))
    refine VO.re 112 (.slice (some sa) s.states.length s.sc) rfl (by rw [hsa]) ?_
    (refine w ?_; repeat ((first | refine VO.step rfl rfl ?_ | refine VD.end rfl rfl rfl ?_ | refine VD.mid rfl rfl rfl ?_); refine OpV.box rfl rfl rfl ?_; intro _; refine w ?_))
    (first | refine VO.pure rfl rfl (PureAt.ldR tab_ok rfl rfl (show Rds W _ 1 (some sa) _ _ by rw [← hsa]; exact hsr _) hget) rfl ?_ | refine VD.take rfl rfl rfl (PureAt.ldR tab_ok rfl rfl (show Rds W _ 1 (some sa) _ _ by rw [← hsa]; exact hsr _) hget) rfl ?_ | refine VQ.pure rfl rfl (PureAt.ldR tab_ok rfl rfl (show Rds W _ 1 (some sa) _ _ by rw [← hsa]; exact hsr _) hget) rfl ?_ | refine VD.end rfl rfl rfl (OpV.pure (PureAt.ldR tab_ok rfl rfl (show Rds W _ 1 (some sa) _ _ by rw [← hsa]; exact hsr _) hget) rfl ?_))
    (refine w ?_; repeat ((first | refine VO.step rfl rfl ?_ | refine VD.end rfl rfl rfl ?_ | refine VD.mid rfl rfl rfl ?_); refine OpV.box rfl rfl rfl ?_; intro _; refine w ?_))
    ((first | refine VO.step rfl rfl ?_ | refine VD.end rfl rfl rfl ?_ | refine VD.mid rfl rfl rfl ?_); refine OpV.call rfl rfl (fun _ _ => by simp) (rcounts_ok hB m hlt2 (by omega)) Ent.refl rfl ?_)
    intro _ _
    (refine w ?_; repeat ((first | refine VO.step rfl rfl ?_ | refine VD.end rfl rfl rfl ?_ | refine VD.mid rfl rfl rfl ?_); refine OpV.box rfl rfl rfl ?_; intro _; refine w ?_))
    refine VC.joinH [(0, .slice (some la) l.length cap), (2, .pointer (some ⟨n2, 0, none⟩)), (3, .int .i64 0), (4, .pointer (some ⟨n4, 0, none⟩)), (11, .pointer (some ⟨n11, 0, none⟩)), (12, .pointer (some ⟨n12, 0, none⟩)), (13, .int .i64 (awayM l s.safe s.states m)), (14, .int .i64 m), (15, .int .u8 ((stAt s.states m).toNat : Int)), (17, .bool (fitM l s.safe s.states m))] ?_ ?_
    · intro Q2 jn
      (refine VC.drawn [] 14 [0, 1, 2, 3, 4, 5, 6, 7, 8, 9, 10, 11, 12, 13, 14, 15, 16] _ rfl (by kernel_rfl) (by kernel_rfl) Ent.re ?_)
      cases h3 : countsB l m
      · (refine w ?_; repeat ((first | refine VO.step rfl rfl ?_ | refine VD.end rfl rfl rfl ?_ | refine VD.mid rfl rfl rfl ?_); refine OpV.box rfl rfl rfl ?_; intro _; refine w ?_))
        exact jn.to () trivial ⟨rfl, rfl, rfl, rfl, rfl, rfl, rfl, rfl, rfl, asV rfl (by simp [fitM, h3]), trivial⟩ Ent.re
      (refine w ?_; repeat ((first | refine VO.step rfl rfl ?_ | refine VD.end rfl rfl rfl ?_ | refine VD.mid rfl rfl rfl ?_); refine OpV.box rfl rfl rfl ?_; intro _; refine w ?_))
      refine VD.re 124 (.bool (stAt s.states m != 2)) rfl (congrArg Value.bool (ne_nat8 _ 2 (by decide))) ?_
      cases h2 : stAt s.states m != 2
      · (refine w ?_; repeat ((first | refine VO.step rfl rfl ?_ | refine VD.end rfl rfl rfl ?_ | refine VD.mid rfl rfl rfl ?_); refine OpV.box rfl rfl rfl ?_; intro _; refine w ?_))
        exact jn.to () trivial ⟨rfl, rfl, rfl, rfl, rfl, rfl, rfl, rfl, rfl, asV rfl (by simp [fitM, h2]), trivial⟩ Ent.re
      (refine w ?_; repeat ((first | refine VO.step rfl rfl ?_ | refine VD.end rfl rfl rfl ?_ | refine VD.mid rfl rfl rfl ?_); refine OpV.box rfl rfl rfl ?_; intro _; refine w ?_))
      (first | refine VO.pure rfl rfl (PureAt.ldRc tab_ok rfl rfl (hB _).rds (bal_get l m 2 hlt2 (by decide))) rfl ?_ | refine VD.take rfl rfl rfl (PureAt.ldRc tab_ok rfl rfl (hB _).rds (bal_get l m 2 hlt2 (by decide))) rfl ?_ | refine VQ.pure rfl rfl (PureAt.ldRc tab_ok rfl rfl (hB _).rds (bal_get l m 2 hlt2 (by decide))) rfl ?_ | refine VD.end rfl rfl rfl (OpV.pure (PureAt.ldRc tab_ok rfl rfl (hB _).rds (bal_get l m 2 hlt2 (by decide))) rfl ?_))
      (refine w ?_; repeat ((first | refine VO.step rfl rfl ?_ | refine VD.end rfl rfl rfl ?_ | refine VD.mid rfl rfl rfl ?_); refine OpV.box rfl rfl rfl ?_; intro _; refine w ?_))
      exact jn.to () trivial ⟨rfl, rfl, rfl, rfl, rfl, rfl, rfl, rfl, rfl, asV rfl (by simp [fitM, h2, h3, evs, hlt2]), trivial⟩ Ent.re
    refine VC.seq rfl ?_
    refine VC.joinH [(0, .slice (some la) l.length cap), (2, .pointer (some ⟨n2, 0, none⟩)), (3, .int .i64 0), (4, .pointer (some ⟨n4, 0, none⟩)), (11, .pointer (some ⟨n11, 0, none⟩)), (12, .pointer (some ⟨n12, 0, none⟩)), (13, .int .i64 (awayM l s.safe s.states (m + 1))), (14, .int .i64 m), (15, .int .u8 ((stAt s.states m).toNat : Int)), (17, .bool (fitM l s.safe s.states m))] ?_ ?_
    · intro Q2 jn
      (refine w ?_; repeat ((first | refine VO.step rfl rfl ?_ | refine VD.end rfl rfl rfl ?_ | refine VD.mid rfl rfl rfl ?_); refine OpV.box rfl rfl rfl ?_; intro _; refine w ?_))
      cases hf : fitM l s.safe s.states m
      · (refine w ?_; repeat ((first | refine VO.step rfl rfl ?_ | refine VD.end rfl rfl rfl ?_ | refine VD.mid rfl rfl rfl ?_); refine OpV.box rfl rfl rfl ?_; intro _; refine w ?_))
        exact jn.to () trivial ⟨rfl, rfl, rfl, rfl, rfl, rfl, asV rfl (by simp [haw, hf]), rfl, rfl, asV rfl (by rw [hf]), trivial⟩ Ent.re
      · (refine w ?_; repeat ((first | refine VO.step rfl rfl ?_ | refine VD.end rfl rfl rfl ?_ | refine VD.mid rfl rfl rfl ?_); refine OpV.box rfl rfl rfl ?_; intro _; refine w ?_))
        refine VC.re 140 (.bool (stAt s.states m != 1)) rfl (congrArg Value.bool (ne_nat8 _ 1 (by decide))) ?_
        cases h1 : stAt s.states m != 1
        · (refine w ?_; repeat ((first | refine VO.step rfl rfl ?_ | refine VD.end rfl rfl rfl ?_ | refine VD.mid rfl rfl rfl ?_); refine OpV.box rfl rfl rfl ?_; intro _; refine w ?_))
          exact jn.to () trivial ⟨rfl, rfl, rfl, rfl, rfl, rfl, asV rfl (by simp [haw, hf, h1]), rfl, rfl, asV rfl (by rw [hf]), trivial⟩ Ent.re
        · (refine w ?_; repeat ((first | refine VO.step rfl rfl ?_ | refine VD.end rfl rfl rfl ?_ | refine VD.mid rfl rfl rfl ?_); refine OpV.box rfl rfl rfl ?_; intro _; refine w ?_))
          exact jn.to () trivial ⟨rfl, rfl, rfl, rfl, rfl, rfl, asV rfl (by simp [haw, hf, h1]), rfl, rfl, asV rfl (by rw [hf]), trivial⟩ Ent.re
    cases hf : fitM l s.safe s.states m
    · rw [hf] at hgn
      (refine w ?_; repeat ((first | refine VO.step rfl rfl ?_ | refine VD.end rfl rfl rfl ?_ | refine VD.mid rfl rfl rfl ?_); refine OpV.box rfl rfl rfl ?_; intro _; refine w ?_))
      refine VC.re 148 (.bool (stAt s.states m != 2)) rfl (congrArg Value.bool (ne_nat8 _ 2 (by decide))) ?_
      cases h2 : stAt s.states m != 2
      · have hg : goneM l s.safe s.states m = false := by rw [hgn, h2]; rfl
        rw [hg] at htn hwp hnw
        rw [Bool.or_false] at htn
        rw [Bool.false_and, Bool.or_false] at hwp
        simp only [Bool.false_eq_true, if_false] at hnw
        (refine w ?_; repeat ((first | refine VO.step rfl rfl ?_ | refine VD.end rfl rfl rfl ?_ | refine VD.mid rfl rfl rfl ?_); refine OpV.box rfl rfl rfl ?_; intro _; refine w ?_))
        ((first | refine VO.step rfl rfl ?_ | refine VD.end rfl rfl rfl ?_ | refine VD.mid rfl rfl rfl ?_); refine OpV.buildSlice1 st_28 rfl rfl (by first | (simp; done) | simp [Value.oneCell']) (by decide) rfl ?_; intro nb)
        ((first | refine VO.step rfl rfl ?_ | refine VD.end rfl rfl rfl ?_ | refine VD.mid rfl rfl rfl ?_); refine OpV.appendRow st_28 rfl rfl (by (repeat first | exact .head | apply Hole.tail)) (by (focus repeat first | exact .head _ | apply List.Mem.tail)) rfl (by first | (simp; done) | simp [Value.oneCell']) ?_ ?_ rfl ?_)
        · simp only [maxLen]; omega
        · omega
        intro so' sc'
        (refine w ?_; repeat ((first | refine VO.step rfl rfl ?_ | refine VD.end rfl rfl rfl ?_ | refine VD.mid rfl rfl rfl ?_); refine OpV.box rfl rfl rfl ?_; intro _; refine w ?_))
        refine VE.round (m + 1, so', sc') (by simp only; omega) (by simp only; omega) ⟨rfl, rfl, rfl, rfl, rfl, rfl, rfl, asV rfl (by congr 1), trivial⟩ ?_
        dsimp only
        rw [hnw, bytes_push, htn, hwp]
        exact Ent.re
      · have hg : goneM l s.safe s.states m = true := by rw [hgn, h2]; rfl
        rw [hg] at htn hwp hnw
        rw [Bool.or_true] at htn
        simp only [if_true] at hnw
        (refine w ?_; repeat ((first | refine VO.step rfl rfl ?_ | refine VD.end rfl rfl rfl ?_ | refine VD.mid rfl rfl rfl ?_); refine OpV.box rfl rfl rfl ?_; intro _; refine w ?_))
        refine VC.re 151 (.bool (stAt s.states m == 3)) rfl (congrArg Value.bool (eq_nat8 _ 3 (by decide))) ?_
        cases h3 : stAt s.states m == 3
        · rw [h3, Bool.and_false, Bool.or_false] at hwp
          (refine w ?_; repeat ((first | refine VO.step rfl rfl ?_ | refine VD.end rfl rfl rfl ?_ | refine VD.mid rfl rfl rfl ?_); refine OpV.box rfl rfl rfl ?_; intro _; refine w ?_))
          ((first | refine VO.step rfl rfl ?_ | refine VD.end rfl rfl rfl ?_ | refine VD.mid rfl rfl rfl ?_); refine OpV.buildSlice1 st_28 rfl rfl (by first | (simp; done) | simp [Value.oneCell']) (by decide) rfl ?_; intro nb)
          ((first | refine VO.step rfl rfl ?_ | refine VD.end rfl rfl rfl ?_ | refine VD.mid rfl rfl rfl ?_); refine OpV.appendRow st_28 rfl rfl (by (repeat first | exact .head | apply Hole.tail)) (by (focus repeat first | exact .head _ | apply List.Mem.tail)) rfl (by first | (simp; done) | simp [Value.oneCell']) ?_ ?_ rfl ?_)
          · simp only [maxLen]; omega
          · omega
          intro so' sc'
          (refine w ?_; repeat ((first | refine VO.step rfl rfl ?_ | refine VD.end rfl rfl rfl ?_ | refine VD.mid rfl rfl rfl ?_); refine OpV.box rfl rfl rfl ?_; intro _; refine w ?_))
          refine VE.round (m + 1, so', sc') (by simp only; omega) (by simp only; omega) ⟨rfl, rfl, rfl, rfl, rfl, rfl, rfl, asV rfl (by congr 1), trivial⟩ ?_
          dsimp only
          rw [hnw, bytes_push, htn, hwp]
          exact Ent.re
        · rw [h3, Bool.and_true, Bool.or_true] at hwp
          (refine w ?_; repeat ((first | refine VO.step rfl rfl ?_ | refine VD.end rfl rfl rfl ?_ | refine VD.mid rfl rfl rfl ?_); refine OpV.box rfl rfl rfl ?_; intro _; refine w ?_))
          ((first | refine VO.step rfl rfl ?_ | refine VD.end rfl rfl rfl ?_ | refine VD.mid rfl rfl rfl ?_); refine OpV.buildSlice1 st_28 rfl rfl (by first | (simp; done) | simp [Value.oneCell']) (by decide) rfl ?_; intro nb)
          ((first | refine VO.step rfl rfl ?_ | refine VD.end rfl rfl rfl ?_ | refine VD.mid rfl rfl rfl ?_); refine OpV.appendRow st_28 rfl rfl (by (repeat first | exact .head | apply Hole.tail)) (by (focus repeat first | exact .head _ | apply List.Mem.tail)) rfl (by first | (simp; done) | simp [Value.oneCell']) ?_ ?_ rfl ?_)
          · simp only [maxLen]; omega
          · omega
          intro so' sc'
          (refine w ?_; repeat ((first | refine VO.step rfl rfl ?_ | refine VD.end rfl rfl rfl ?_ | refine VD.mid rfl rfl rfl ?_); refine OpV.box rfl rfl rfl ?_; intro _; refine w ?_))
          refine VE.round (m + 1, so', sc') (by simp only; omega) (by simp only; omega) ⟨rfl, rfl, rfl, rfl, rfl, rfl, rfl, asV rfl (by congr 1), trivial⟩ ?_
          dsimp only
          rw [hnw, bytes_push, htn, hwp]
          exact Ent.re
    · have hg : goneM l s.safe s.states m = false := by rw [hgn, hf]; simp
      rw [hg] at htn hwp hnw
      rw [Bool.or_false] at htn
      rw [Bool.false_and, Bool.or_false] at hwp
      simp only [Bool.false_eq_true, if_false] at hnw
      (refine w ?_; repeat ((first | refine VO.step rfl rfl ?_ | refine VD.end rfl rfl rfl ?_ | refine VD.mid rfl rfl rfl ?_); refine OpV.box rfl rfl rfl ?_; intro _; refine w ?_))
      ((first | refine VO.step rfl rfl ?_ | refine VD.end rfl rfl rfl ?_ | refine VD.mid rfl rfl rfl ?_); refine OpV.buildSlice1 st_28 rfl rfl (by first | (simp; done) | simp [Value.oneCell']) (by decide) rfl ?_; intro nb)
      ((first | refine VO.step rfl rfl ?_ | refine VD.end rfl rfl rfl ?_ | refine VD.mid rfl rfl rfl ?_); refine OpV.appendRow st_28 rfl rfl (by (repeat first | exact .head | apply Hole.tail)) (by (focus repeat first | exact .head _ | apply List.Mem.tail)) rfl (by first | (simp; done) | simp [Value.oneCell']) ?_ ?_ rfl ?_)
      · simp only [maxLen]; omega
      · omega
      intro so' sc'
      (refine w ?_; repeat ((first | refine VO.step rfl rfl ?_ | refine VD.end rfl rfl rfl ?_ | refine VD.mid rfl rfl rfl ?_); refine OpV.box rfl rfl rfl ?_; intro _; refine w ?_))
      refine VE.round (m + 1, so', sc') (by simp only; omega) (by simp only; omega) ⟨rfl, rfl, rfl, rfl, rfl, rfl, rfl, asV rfl (by congr 1), trivial⟩ ?_
      dsimp only
      rw [hnw, bytes_push, htn, hwp]
      exact Ent.re
  have hge : m = s.states.length := by have := of_decide_eq_false hc; omega
  subst hge
  rw [List.take_of_length_le (by simp)]
  (refine w ?_; repeat ((first | refine VO.step rfl rfl ?_ | refine VD.end rfl rfl rfl ?_ | refine VD.mid rfl rfl rfl ?_); refine OpV.box rfl rfl rfl ?_; intro _; refine w ?_))
  (refine VC.cond rfl rfl ?_ ?_ <;> intro hc)
  · have hcm := h152' (by have := of_decide_eq_true hc; omega)
    ((refine w ?_; repeat ((first | refine VO.step rfl rfl ?_ | refine VD.end rfl rfl rfl ?_ | refine VD.mid rfl rfl rfl ?_); refine OpV.box rfl rfl rfl ?_; intro _; refine w ?_)); (first | refine VO.step rfl rfl ?_ | refine VD.end rfl rfl rfl ?_ | refine VD.mid rfl rfl rfl ?_); refine OpV.stA (vs := zeroV) tab_ok rfl rfl rfl rfl (vCells_one _ _ _ _ _ _ _) (by (repeat first | exact .head | apply Hole.tail)) (by simp [zeroV, vCells]) ?_; (refine w ?_; repeat ((first | refine VO.step rfl rfl ?_ | refine VD.end rfl rfl rfl ?_ | refine VD.mid rfl rfl rfl ?_); refine OpV.box rfl rfl rfl ?_; intro _; refine w ?_)); refine VE.results2 (.inl rfl) (none, 0) rfl (ResIs.agg (vs := zeroV) tab_ok rfl rfl (by (focus repeat first | exact .head _ | apply List.Mem.tail)) rfl rfl) (.tmp rfl) trivial (by rw [hcm]; rfl) (by rw [hcm]; exact Ent.trans (Ent.re (L := R)) (fun w hw => hw.ownNil _ _)))
  have hcm := h000' (by have := of_decide_eq_false hc; omega)
  rw [hfull] at hcm
  (refine w ?_; repeat ((first | refine VO.step rfl rfl ?_ | refine VD.end rfl rfl rfl ?_ | refine VD.mid rfl rfl rfl ?_); refine OpV.box rfl rfl rfl ?_; intro _; refine w ?_))
  (first | refine VO.step rfl rfl ?_ | refine VD.end rfl rfl rfl ?_ | refine VD.mid rfl rfl rfl ?_)
  refine OpV.stA (vs := vCells (withE s lb (topN l l.length)) so s.states.length sc (if wipeM l s.safe s.states s.states.length = true then 0 else s.cursor) (turnM l s.safe s.states s.states.length) jr) tab_ok rfl rfl rfl rfl (vCells_one _ _ _ _ _ _ _) (by (repeat first | exact .head | apply Hole.tail)) (by simp [zeroV, vCells]) ?_
  (refine w ?_; repeat ((first | refine VO.step rfl rfl ?_ | refine VD.end rfl rfl rfl ?_ | refine VD.mid rfl rfl rfl ?_); refine OpV.box rfl rfl rfl ?_; intro _; refine w ?_))
  refine VE.results2 (.inl rfl) (so, sc) rfl (ResIs.agg (vs := vCells (withE s lb (topN l l.length)) so s.states.length sc (if wipeM l s.safe s.states s.states.length = true then 0 else s.cursor) (turnM l s.safe s.states s.states.length) jr) tab_ok rfl rfl (by (focus repeat first | exact .head _ | apply List.Mem.tail)) rfl rfl) (.tmp rfl) trivial ?_ ?_
  · rw [hcm]; simp only [VerD.cells, newSt_length]
  · rw [hcm]; simp only [newSt_length]; exact Ent.re
end Go.Proofs.Ytlflmnmkgaeabaa
