/- Package vote: Choose, the walk. -/
import Derived.Test.YtlflmnmkgaeabaaVj
set_option maxRecDepth 8000
set_option linter.unusedVariables false
set_option linter.unusedSimpArgs false
set_option linter.unusedSectionVars false
namespace Go.Proofs.Ytlflmnmkgaeabaa
open Go.RowKit Go.Sl
attribute [local irreducible] Own

def zeroV : List Value := vCells zeroSup none 0 0 0 false false
theorem vCells_one (s : SuperD) (so : Option Addr) (n sc : Nat) (cur : Int) (ch jr : Bool) : ∀ u ∈ vCells s so n sc cur ch jr, u.oneCell' = true := by
  intro u hu; simp only [vCells, List.mem_cons, List.not_mem_nil, or_false] at hu
  rcases hu with h | h | h | h | h | h | h | h | h | h | h | h | h | h <;> subst h <;> rfl
theorem none_cells : noneV.cells (none, 0) = zeroV := rfl
abbrev cfV (bx : Nat) : Value := .func (.func 50) #[] #[.pointer (some ⟨bx, 0, none⟩)]

theorem bal_sup (l : List BalD) (i : Nat) (h : i < l.length) : ((balCells l).drop (i * 13 + 1)).take 12 = l[i].s.cells := by
  have h1 : ((balCells l).drop (i * 13)).take 13 = l[i].cells := flat_part l i h (fun _ _ => rfl)
  have h2 := congrArg (List.drop 1) h1
  rw [List.drop_take, List.drop_drop] at h2
  exact h2
def withL (s : SuperD) (lb : Bool) : SuperD := { s with role := 0, lost := lb }
def withE (s : SuperD) (lb : Bool) (e : Nat) : SuperD := { s with role := 0, lost := lb, events := e }
theorem agg_flat (cs : List Value) : [Value.agg cs.toArray].flatMap (·.cells.toList) = cs := by simp [Value.cells]

set_option maxHeartbeats 8000000 in
theorem choose_ok {W : World} {R : List SProp} {ao : Option Addr} {cap : Nat} {l : List BalD} (hlen : l.length ≤ 1000000) (hb : Bals W R ao l) :
    Does W Try.prog 11 [.slice ao l.length cap] R (β := Option Addr × Nat) (fun _ => True) (fun x => .tuple #[.agg ((chooseM l).2.cells x).toArray, .int .u16 (chooseM l).1])
      (fun x => Own 59 1 (.slice x.1 (chooseM l).2.st.length x.2) (chooseM l).2.st.length (bytes (chooseM l).2.st) :: R) := by
  (refine Does.enter Try.func11 Try.ntmps11 rfl rfl ?_)
  (refine w ?_; repeat ((first | refine VO.step rfl rfl ?_ | refine VD.end rfl rfl rfl ?_ | refine VD.mid rfl rfl rfl ?_); refine OpV.box rfl rfl rfl ?_; intro _; refine w ?_))
  ((first | refine VO.step rfl rfl ?_ | refine VD.end rfl rfl rfl ?_ | refine VD.mid rfl rfl rfl ?_); refine OpV.allocS sb_32 rfl ?_; intro n2)
  (refine w ?_; repeat ((first | refine VO.step rfl rfl ?_ | refine VD.end rfl rfl rfl ?_ | refine VD.mid rfl rfl rfl ?_); refine OpV.box rfl rfl rfl ?_; intro _; refine w ?_))
  (apply VO.pure rfl rfl; apply PureAt.build sb_32 rfl; (simp [buildX, setL, Value.cells]; rfl); rfl)
  ((first | refine VO.step rfl rfl ?_ | refine VD.end rfl rfl rfl ?_ | refine VD.mid rfl rfl rfl ?_); refine OpV.allocS sb_32 rfl ?_; intro n4)
  (refine w ?_; repeat ((first | refine VO.step rfl rfl ?_ | refine VD.end rfl rfl rfl ?_ | refine VD.mid rfl rfl rfl ?_); refine OpV.box rfl rfl rfl ?_; intro _; refine w ?_))
  (first | refine VO.step rfl rfl ?_ | refine VD.end rfl rfl rfl ?_ | refine VD.mid rfl rfl rfl ?_)
  refine OpV.stA (vs := zeroV) tab_ok rfl rfl rfl rfl (vCells_one _ _ _ _ _ _ _) (by (repeat first | exact .head | apply Hole.tail)) (by simp) ?_
  refine VO.ent (Reord.ent (L := Row n4 32 zeroV :: Row n2 32 zeroV :: R) (by (repeat first | exact .refl | (apply Reord.cons; focus repeat first | exact .head | apply Del.tail) | exact .nil | apply Reord.drop))) ?_
  (refine w ?_; repeat ((first | refine VO.step rfl rfl ?_ | refine VD.end rfl rfl rfl ?_ | refine VD.mid rfl rfl rfl ?_); refine OpV.box rfl rfl rfl ?_; intro _; refine w ?_))
  ((first | refine VO.split rfl rfl rfl ?_ ?_ | refine VD.split rfl rfl rfl ?_ ?_) <;> intro hb)
  · have hcm : chooseM l = (1, noneV) := if_pos (.inl (by have := of_decide_eq_true hb; omega))
    ((refine w ?_; repeat ((first | refine VO.step rfl rfl ?_ | refine VD.end rfl rfl rfl ?_ | refine VD.mid rfl rfl rfl ?_); refine OpV.box rfl rfl rfl ?_; intro _; refine w ?_)); (first | refine VO.step rfl rfl ?_ | refine VD.end rfl rfl rfl ?_ | refine VD.mid rfl rfl rfl ?_); refine OpV.stA (vs := zeroV) tab_ok rfl rfl rfl rfl (vCells_one _ _ _ _ _ _ _) (by (repeat first | exact .head | apply Hole.tail)) (by simp [zeroV, vCells]) ?_; (refine w ?_; repeat ((first | refine VO.step rfl rfl ?_ | refine VD.end rfl rfl rfl ?_ | refine VD.mid rfl rfl rfl ?_); refine OpV.box rfl rfl rfl ?_; intro _; refine w ?_)); refine VE.results2 (.inl rfl) (none, 0) rfl (ResIs.agg (vs := zeroV) tab_ok rfl rfl (by (focus repeat first | exact .head _ | apply List.Mem.tail)) rfl rfl) (.tmp rfl) trivial (by rw [hcm]; rfl) (by rw [hcm]; exact Ent.trans (Ent.re (L := R)) (fun w hw => hw.ownNil _ _)))
  have h4 : 4 ≤ l.length := by have := of_decide_eq_false hb; omega
  (refine w ?_; repeat ((first | refine VO.step rfl rfl ?_ | refine VD.end rfl rfl rfl ?_ | refine VD.mid rfl rfl rfl ?_); refine OpV.box rfl rfl rfl ?_; intro _; refine w ?_))
  (refine VC.cond rfl rfl ?_ ?_ <;> intro hc)
  · have hcm : chooseM l = (1, noneV) := if_pos (.inr (by have := of_decide_eq_true hc; omega))
    ((refine w ?_; repeat ((first | refine VO.step rfl rfl ?_ | refine VD.end rfl rfl rfl ?_ | refine VD.mid rfl rfl rfl ?_); refine OpV.box rfl rfl rfl ?_; intro _; refine w ?_)); (first | refine VO.step rfl rfl ?_ | refine VD.end rfl rfl rfl ?_ | refine VD.mid rfl rfl rfl ?_); refine OpV.stA (vs := zeroV) tab_ok rfl rfl rfl rfl (vCells_one _ _ _ _ _ _ _) (by (repeat first | exact .head | apply Hole.tail)) (by simp [zeroV, vCells]) ?_; (refine w ?_; repeat ((first | refine VO.step rfl rfl ?_ | refine VD.end rfl rfl rfl ?_ | refine VD.mid rfl rfl rfl ?_); refine OpV.box rfl rfl rfl ?_; intro _; refine w ?_)); refine VE.results2 (.inl rfl) (none, 0) rfl (ResIs.agg (vs := zeroV) tab_ok rfl rfl (by (focus repeat first | exact .head _ | apply List.Mem.tail)) rfl rfl) (.tmp rfl) trivial (by rw [hcm]; rfl) (by rw [hcm]; exact Ent.trans (Ent.re (L := R)) (fun w hw => hw.ownNil _ _)))
  have h17 : l.length ≤ 17 := by have := of_decide_eq_false hc; omega
  have hcm0 := show chooseM l = _ from if_neg (by omega)
  (refine w ?_; repeat ((first | refine VO.step rfl rfl ?_ | refine VD.end rfl rfl rfl ?_ | refine VD.mid rfl rfl rfl ?_); refine OpV.box rfl rfl rfl ?_; intro _; refine w ?_))
  refine VO.re 5 (.int .i64 ((l.length - 1 : Nat) : Int)) rfl (by congr 1; omega) ?_
  (refine w ?_; repeat ((first | refine VO.step rfl rfl ?_ | refine VD.end rfl rfl rfl ?_ | refine VD.mid rfl rfl rfl ?_); refine OpV.box rfl rfl rfl ?_; intro _; refine w ?_))
  ((first | refine VO.step rfl rfl ?_ | refine VD.end rfl rfl rfl ?_ | refine VD.mid rfl rfl rfl ?_); refine OpV.call rfl rfl (fun _ _ => by simp) (counting_ok) Ent.refl rfl ?_)
  intro bx _
  (refine w ?_; repeat ((first | refine VO.step rfl rfl ?_ | refine VD.end rfl rfl rfl ?_ | refine VD.mid rfl rfl rfl ?_); refine OpV.box rfl rfl rfl ?_; intro _; refine w ?_))
  (first | refine VO.step rfl rfl ?_ | refine VD.end rfl rfl rfl ?_ | refine VD.mid rfl rfl rfl ?_)
  refine OpV.alloc ze_69 rfl rfl ?_
  intro n7
  refine VO.ent (H' := Row n7 69 [.slice none 0 0] :: Own 30 12 (.slice none 0 0) 0 [] :: Row bx 22 [.slice ao l.length cap] :: Row n4 32 zeroV :: Row n2 32 zeroV :: R) (fun w hw => (hw.ownNil _ _).swap) ?_
  (refine w ?_; repeat ((first | refine VO.step rfl rfl ?_ | refine VD.end rfl rfl rfl ?_ | refine VD.mid rfl rfl rfl ?_); refine OpV.box rfl rfl rfl ?_; intro _; refine w ?_))
  refine VC.loop (α := Nat × Option Addr × Nat) (fun y => y.1 ≤ l.length) (fun y => Row n7 69 [.slice y.2.1 (votesN l y.1).length y.2.2] :: Own 30 12 (.slice y.2.1 (votesN l y.1).length y.2.2) (votesN l y.1).length (supCells (votesN l y.1)) :: Row bx 22 [.slice ao l.length cap] :: Row n4 32 zeroV :: Row n2 32 zeroV :: R)
    (fun y => [(0, .slice ao l.length cap), (2, .pointer (some ⟨n2, 0, none⟩)), (3, .int .u16 0), (4, .pointer (some ⟨n4, 0, none⟩)), (5, .int .i64 ((l.length - 1 : Nat) : Int)), (6, cfV bx), (7, .pointer (some ⟨n7, 0, none⟩)), (8, .int .u64 (topN l y.1)), (29, .int .i64 l.length), (30, .int .i64 y.1)]) (fun y => l.length - y.1) rfl (0, none, 0) (Nat.zero_le _) Ent.refl ⟨rfl, rfl, rfl, rfl, rfl, rfl, rfl, rfl, rfl, rfl, trivial⟩ ?_
  rintro ⟨i, so, sc⟩ hi
  dsimp only at hi ⊢
  have hvl := votes_len l i
  obtain ⟨la, rfl⟩ : ∃ a, ao = some a := by cases ao with | none => have := hb.rds.nil rfl; omega | some a => exact ⟨a, rfl⟩
  (refine w ?_; repeat ((first | refine VO.step rfl rfl ?_ | refine VD.end rfl rfl rfl ?_ | refine VD.mid rfl rfl rfl ?_); refine OpV.box rfl rfl rfl ?_; intro _; refine w ?_))
  (refine VC.cond rfl rfl ?_ ?_ <;> intro hc)
  · have hlt : i < l.length := by have := of_decide_eq_true hc; omega
    have eR : ∀ A B C D E : SProp, Ent W (A :: B :: C :: D :: E :: R) R := fun _ _ _ _ _ => Ent.drop (Ent.drop (Ent.drop (Ent.drop (Ent.drop Ent.refl))))
    (refine w ?_; repeat ((first | refine VO.step rfl rfl ?_ | refine VD.end rfl rfl rfl ?_ | refine VD.mid rfl rfl rfl ?_); refine OpV.box rfl rfl rfl ?_; intro _; refine w ?_))
    ((first | refine VO.step rfl rfl ?_ | refine VD.end rfl rfl rfl ?_ | refine VD.mid rfl rfl rfl ?_); refine OpV.call rfl rfl (fun _ _ => by simp) (countf_ok i hlt (by omega) (by (focus repeat first | exact .head _ | apply List.Mem.tail)) (hb.ent (eR _ _ _ _ _))) Ent.refl rfl ?_; intro _ _)
    (refine w ?_; repeat ((first | refine VO.step rfl rfl ?_ | refine VD.end rfl rfl rfl ?_ | refine VD.mid rfl rfl rfl ?_); refine OpV.box rfl rfl rfl ?_; intro _; refine w ?_))
    have hvs : votesN l (i + 1) = votesN l i ++ (if countsB l i = true then [supAt l i] else []) := rfl
    have htp : topN l (i + 1) = if countsB l i = true then max (topN l i) (evs l i) else topN l i := rfl
    cases hct : countsB l i
    · rw [hct] at hvs htp
      simp only [Bool.false_eq_true, if_false, List.append_nil] at hvs htp
      (refine w ?_; repeat ((first | refine VO.step rfl rfl ?_ | refine VD.end rfl rfl rfl ?_ | refine VD.mid rfl rfl rfl ?_); refine OpV.box rfl rfl rfl ?_; intro _; refine w ?_))
      refine VE.round (i + 1, so, sc) hlt (by simp only; omega) ⟨rfl, rfl, rfl, rfl, rfl, rfl, rfl, asV rfl (by rw [htp]), rfl, asV rfl (by congr 1), trivial⟩ ?_
      dsimp only
      rw [hvs]
      exact Ent.re
    · rw [hct] at hvs htp
      simp only [if_true] at hvs htp
      (refine w ?_; repeat ((first | refine VO.step rfl rfl ?_ | refine VD.end rfl rfl rfl ?_ | refine VD.mid rfl rfl rfl ?_); refine OpV.box rfl rfl rfl ?_; intro _; refine w ?_))
      (refine VC.drawn [6] 7 [0, 1, 2, 3, 4, 5, 6, 7, 8] _ rfl (by kernel_rfl) (by kernel_rfl) Ent.re ?_)
      (refine w ?_; repeat ((first | refine VO.step rfl rfl ?_ | refine VD.end rfl rfl rfl ?_ | refine VD.mid rfl rfl rfl ?_); refine OpV.box rfl rfl rfl ?_; intro _; refine w ?_))
      (first | refine VO.pure rfl rfl (.ldRA tab_ok rfl rfl (hb.rds.ent (eR _ _ _ _ _)) ((bal_sup l i hlt).trans (by rw [← supAt_get l i hlt])) rfl) rfl ?_ | refine VD.take rfl rfl rfl (.ldRA tab_ok rfl rfl (hb.rds.ent (eR _ _ _ _ _)) ((bal_sup l i hlt).trans (by rw [← supAt_get l i hlt])) rfl) rfl ?_ | refine VQ.pure rfl rfl (.ldRA tab_ok rfl rfl (hb.rds.ent (eR _ _ _ _ _)) ((bal_sup l i hlt).trans (by rw [← supAt_get l i hlt])) rfl) rfl ?_ | refine VD.end rfl rfl rfl (OpV.pure (.ldRA tab_ok rfl rfl (hb.rds.ent (eR _ _ _ _ _)) ((bal_sup l i hlt).trans (by rw [← supAt_get l i hlt])) rfl) rfl ?_))
      (first | refine VO.step rfl rfl ?_ | refine VD.end rfl rfl rfl ?_ | refine VD.mid rfl rfl rfl ?_)
      refine OpV.buildSlice (cs := (supAt l i).cells) st_69 rfl rfl (by simp [Value.cells]) (agg_flat _) (by decide) rfl ?_
      intro nb
      (refine w ?_; repeat ((first | refine VO.step rfl rfl ?_ | refine VD.end rfl rfl rfl ?_ | refine VD.mid rfl rfl rfl ?_); refine OpV.box rfl rfl rfl ?_; intro _; refine w ?_))
      (first | refine VO.step rfl rfl ?_ | refine VD.end rfl rfl rfl ?_ | refine VD.mid rfl rfl rfl ?_)
      refine OpV.appendRow st_69 rfl rfl (by (repeat first | exact .head | apply Hole.tail)) (by (focus repeat first | exact .head _ | apply List.Mem.tail)) rfl (super_one _) ?_ ?_ rfl ?_
      · simp only [maxLen]; omega
      · omega
      intro so' sc'
      (refine w ?_; repeat ((first | refine VO.step rfl rfl ?_ | refine VD.end rfl rfl rfl ?_ | refine VD.mid rfl rfl rfl ?_); refine OpV.box rfl rfl rfl ?_; intro _; refine w ?_))
      (first | refine VO.pure rfl rfl (PureAt.ldRc tab_ok rfl rfl ((hb.rds.ent (eR _ _ _ _ _)).ent Ent.re) (bal_get l i 2 hlt (by decide))) rfl ?_ | refine VD.take rfl rfl rfl (PureAt.ldRc tab_ok rfl rfl ((hb.rds.ent (eR _ _ _ _ _)).ent Ent.re) (bal_get l i 2 hlt (by decide))) rfl ?_ | refine VQ.pure rfl rfl (PureAt.ldRc tab_ok rfl rfl ((hb.rds.ent (eR _ _ _ _ _)).ent Ent.re) (bal_get l i 2 hlt (by decide))) rfl ?_ | refine VD.end rfl rfl rfl (OpV.pure (PureAt.ldRc tab_ok rfl rfl ((hb.rds.ent (eR _ _ _ _ _)).ent Ent.re) (bal_get l i 2 hlt (by decide))) rfl ?_))
      (refine w ?_; repeat ((first | refine VO.step rfl rfl ?_ | refine VD.end rfl rfl rfl ?_ | refine VD.mid rfl rfl rfl ?_); refine OpV.box rfl rfl rfl ?_; intro _; refine w ?_))
      refine VE.round (i + 1, so', sc') hlt (by simp only; omega) ⟨rfl, rfl, rfl, rfl, rfl, rfl, rfl, asV rfl ?_, rfl, asV rfl (by congr 1), trivial⟩ ?_
      · rw [htp]; simp only [evs, List.getElem?_eq_getElem hlt]; congr 1; omega
      · dsimp only
        rw [hvs, List.length_append, List.length_singleton, show supCells (votesN l i ++ [supAt l i]) = supCells (votesN l i) ++ (supAt l i).cells by simp [supCells]]
        exact Ent.re
  have hge : i = l.length := by have := of_decide_eq_false hc; omega
  subst hge
  have hvf : ∀ s ∈ votesN l l.length, s.fit := fun s hs => by
    obtain ⟨j, h1, h2, rfl⟩ := votes_mem l _ s hs
    rw [supAt_get l j h1]; exact hb.fit _ (List.getElem_mem h1)
  have hvst : ∀ s ∈ votesN l l.length, Rds W R 1 s.so s.states.length (bytes s.states) := fun s hs => by
    obtain ⟨j, h1, h2, rfl⟩ := votes_mem l _ s hs
    rw [supAt_get l j h1]; exact hb.st _ (List.getElem_mem h1)
  have hta := top_att l l.length
  have hgs := guide_states l
  have h150 : votesN l l.length = [] → chooseM l = (150, noneV) := fun h => (if_neg (by omega)).trans (if_pos h)
  have h151 : votesN l l.length ≠ [] → (votesN l l.length).any (fun s => !s.akin ((votesN l l.length).headD zeroSup)) = true → chooseM l = (151, noneV) := fun h h2 => (if_neg (by omega)).trans ((if_neg h).trans (if_pos h2))
  have hgg : votesN l l.length ≠ [] → ¬ (votesN l l.length).any (fun s => !s.akin ((votesN l l.length).headD zeroSup)) = true → (guideM l).1 ≠ 0 → chooseM l = ((guideM l).1, noneV) := fun h h2 h3 => (if_neg (by omega)).trans ((if_neg h).trans ((if_neg h2).trans (if_pos h3)))
  have h152 : votesN l l.length ≠ [] → ¬ (votesN l l.length).any (fun s => !s.akin ((votesN l l.length).headD zeroSup)) = true → (guideM l).1 = 0 → 1 < awayM l (guideM l).2.safe (guideM l).2.states (guideM l).2.states.length → chooseM l = (152, noneV) := fun h h2 h3 h4 => (if_neg (by omega)).trans ((if_neg h).trans ((if_neg h2).trans ((if_neg (by omega)).trans (if_pos h4))))
  have h000 : votesN l l.length ≠ [] → ¬ (votesN l l.length).any (fun s => !s.akin ((votesN l l.length).headD zeroSup)) = true → (guideM l).1 = 0 → ¬ 1 < awayM l (guideM l).2.safe (guideM l).2.states (guideM l).2.states.length → chooseM l = (0, fullV l (guideM l).2) := fun h h2 h3 h4 => (if_neg (by omega)).trans ((if_neg h).trans ((if_neg h2).trans ((if_neg (by omega)).trans (if_neg h4))))
  have hgd : guideM l = if countsB l (l.length - 1) = true then (0, supAt l (l.length - 1)) else membersM (bestN (votesN l l.length) (topN l l.length)) := rfl
  generalize votesN l l.length = V at *
  refine VC.know (p := so = none → V.length = 0) (fun w hw => Holds.ownNone hw (.tail _ (.head _))) ?_
  intro hon
  refine VC.know (p := V.length ≤ sc) (fun w hw => Holds.ownCap hw (.tail _ (.head _))) ?_
  intro hcap
  (refine w ?_; repeat ((first | refine VO.step rfl rfl ?_ | refine VD.end rfl rfl rfl ?_ | refine VD.mid rfl rfl rfl ?_); refine OpV.box rfl rfl rfl ?_; intro _; refine w ?_))
  (refine VC.cond rfl rfl ?_ ?_ <;> intro hc)
  · have hV0 : V = [] := List.eq_nil_of_length_eq_zero (by have := hc; simp at this; rw [this]; rfl)
    ((refine w ?_; repeat ((first | refine VO.step rfl rfl ?_ | refine VD.end rfl rfl rfl ?_ | refine VD.mid rfl rfl rfl ?_); refine OpV.box rfl rfl rfl ?_; intro _; refine w ?_)); (first | refine VO.step rfl rfl ?_ | refine VD.end rfl rfl rfl ?_ | refine VD.mid rfl rfl rfl ?_); refine OpV.stA (vs := zeroV) tab_ok rfl rfl rfl rfl (vCells_one _ _ _ _ _ _ _) (by (repeat first | exact .head | apply Hole.tail)) (by simp [zeroV, vCells]) ?_; (refine w ?_; repeat ((first | refine VO.step rfl rfl ?_ | refine VD.end rfl rfl rfl ?_ | refine VD.mid rfl rfl rfl ?_); refine OpV.box rfl rfl rfl ?_; intro _; refine w ?_)); refine VE.results2 (.inl rfl) (none, 0) rfl (ResIs.agg (vs := zeroV) tab_ok rfl rfl (by (focus repeat first | exact .head _ | apply List.Mem.tail)) rfl rfl) (.tmp rfl) trivial (by rw [h150 hV0]; rfl) (by rw [h150 hV0]; exact Ent.trans (Ent.re (L := R)) (fun w hw => hw.ownNil _ _)))
  have hV0 : V ≠ [] := fun h => by rw [h] at hc; simp at hc
  have hpos : 0 < V.length := List.length_pos_iff.2 hV0
  obtain ⟨sa, rfl⟩ : ∃ a, so = some a := by cases so with | none => have := hon rfl; omega | some a => exact ⟨a, rfl⟩
  have hhd : V.headD zeroSup = V[0] := by cases V with | nil => exact absurd rfl hV0 | cons x r => rfl
  rw [hhd] at h151 hgg h152 h000
  (refine w ?_; repeat ((first | refine VO.step rfl rfl ?_ | refine VD.end rfl rfl rfl ?_ | refine VD.mid rfl rfl rfl ?_); refine OpV.box rfl rfl rfl ?_; intro _; refine w ?_))
  refine VO.pure rfl rfl (PureAt.makeFunc1 rfl) rfl ?_
  have hrV : ∀ X Y : List SProp, Rds W (X ++ Own 30 12 (.slice (some sa) V.length sc) V.length (supCells V) :: Y) 12 (some sa) V.length (supCells V) := fun X Y => Rds.own (sup_one V) (List.mem_append_right _ (.head _)) (sup_len V) (by simp)
  ((first | refine VO.step rfl rfl ?_ | refine VD.end rfl rfl rfl ?_ | refine VD.mid rfl rfl rfl ?_); refine OpV.call rfl rfl (fun _ _ => by simp) (containsfunc_ok (fun s => !s.akin V[0]) (by omega) (hrV [_] _) (fun _ _ => by simp) (fun s hs => choose1_ok s hpos (hvf s hs) (hvf _ (List.getElem_mem hpos)) (hrV [_] _) (.head _))) Ent.refl rfl ?_)
  intro _ _
  (refine w ?_; repeat ((first | refine VO.step rfl rfl ?_ | refine VD.end rfl rfl rfl ?_ | refine VD.mid rfl rfl rfl ?_); refine OpV.box rfl rfl rfl ?_; intro _; refine w ?_))
  (refine VC.cond rfl rfl ?_ ?_ <;> intro hc)
  · ((refine w ?_; repeat ((first | refine VO.step rfl rfl ?_ | refine VD.end rfl rfl rfl ?_ | refine VD.mid rfl rfl rfl ?_); refine OpV.box rfl rfl rfl ?_; intro _; refine w ?_)); (first | refine VO.step rfl rfl ?_ | refine VD.end rfl rfl rfl ?_ | refine VD.mid rfl rfl rfl ?_); refine OpV.stA (vs := zeroV) tab_ok rfl rfl rfl rfl (vCells_one _ _ _ _ _ _ _) (by (repeat first | exact .head | apply Hole.tail)) (by simp [zeroV, vCells]) ?_; (refine w ?_; repeat ((first | refine VO.step rfl rfl ?_ | refine VD.end rfl rfl rfl ?_ | refine VD.mid rfl rfl rfl ?_); refine OpV.box rfl rfl rfl ?_; intro _; refine w ?_)); refine VE.results2 (.inl rfl) (none, 0) rfl (ResIs.agg (vs := zeroV) tab_ok rfl rfl (by (focus repeat first | exact .head _ | apply List.Mem.tail)) rfl rfl) (.tmp rfl) trivial (by rw [h151 hV0 hc]; rfl) (by rw [h151 hV0 hc]; exact Ent.trans (Ent.re (L := R)) (fun w hw => hw.ownNil _ _)))
  have hany : ¬ V.any (fun s => !s.akin V[0]) = true := by rw [hc]; simp
  have hlast : l.length - 1 < l.length := by omega
  (refine w ?_; repeat ((first | refine VO.step rfl rfl ?_ | refine VD.end rfl rfl rfl ?_ | refine VD.mid rfl rfl rfl ?_); refine OpV.box rfl rfl rfl ?_; intro _; refine w ?_))
  ((first | refine VO.step rfl rfl ?_ | refine VD.end rfl rfl rfl ?_ | refine VD.mid rfl rfl rfl ?_); refine OpV.call rfl rfl (fun _ _ => by simp) (countf_ok (l.length - 1) hlast (by omega) (by (focus repeat first | exact .head _ | apply List.Mem.tail)) (hb.ent (Ent.drop (Ent.drop (Ent.drop (Ent.drop (Ent.drop Ent.refl))))))) Ent.refl rfl ?_; intro _ _)
  generalize hjr : countsB l (l.length - 1) = jr at *
  (apply VO.pure rfl rfl; apply PureAt.build sb_32 rfl; (simp [buildX, setL, Value.cells]; rfl); rfl)
  ((first | refine VO.step rfl rfl ?_ | refine VD.end rfl rfl rfl ?_ | refine VD.mid rfl rfl rfl ?_); refine OpV.allocS sb_32 rfl ?_; intro n10)
  (refine w ?_; repeat ((first | refine VO.step rfl rfl ?_ | refine VD.end rfl rfl rfl ?_ | refine VD.mid rfl rfl rfl ?_); refine OpV.box rfl rfl rfl ?_; intro _; refine w ?_))
  (first | refine VO.step rfl rfl ?_ | refine VD.end rfl rfl rfl ?_ | refine VD.mid rfl rfl rfl ?_)
  refine OpV.stA (vs := vCells zeroSup none 0 0 0 false jr) tab_ok rfl rfl rfl rfl (vCells_one _ _ _ _ _ _ _) (by (repeat first | exact .head | apply Hole.tail)) (by simp) ?_
  refine VO.ent (Reord.ent (L := Row n10 32 (vCells zeroSup none 0 0 0 false jr) :: Row n7 69 [.slice (some sa) V.length sc] :: Own 30 12 (.slice (some sa) V.length sc) V.length (supCells V) :: Row bx 22 [.slice (some la) l.length cap] :: Row n4 32 zeroV :: Row n2 32 zeroV :: R) (by (repeat first | exact .refl | (apply Reord.cons; focus repeat first | exact .head | apply Del.tail) | exact .nil | apply Reord.drop))) ?_
  refine VO.nil rfl ?_
  refine VE.next ?_
  refine VC.seq rfl ?_
  refine VC.join (α := Unit) (fun _ => (guideM l).1 = 0) (fun _ => Row n10 32 (vCells (guideM l).2 (guideM l).2.so (guideM l).2.states.length (guideM l).2.sc (guideM l).2.cursor false jr) :: Row bx 22 [.slice (some la) l.length cap] :: Row n4 32 zeroV :: Row n2 32 zeroV :: R)
    (fun _ => [(0, .slice (some la) l.length cap), (2, .pointer (some ⟨n2, 0, none⟩)), (3, .int .u16 0), (4, .pointer (some ⟨n4, 0, none⟩)), (6, cfV bx), (8, .int .u64 (topN l l.length)), (10, .pointer (some ⟨n10, 0, none⟩))]) ?_ ?_
  · intro Q2 jn
    unfold vCells
    (refine w ?_; repeat ((first | refine VO.step rfl rfl ?_ | refine VD.end rfl rfl rfl ?_ | refine VD.mid rfl rfl rfl ?_); refine OpV.box rfl rfl rfl ?_; intro _; refine w ?_))
    cases jr
    · simp only [Bool.false_eq_true, if_false] at hgd
      (refine w ?_; repeat ((first | refine VO.step rfl rfl ?_ | refine VD.end rfl rfl rfl ?_ | refine VD.mid rfl rfl rfl ?_); refine OpV.box rfl rfl rfl ?_; intro _; refine w ?_))
      ((first | refine VO.step rfl rfl ?_ | refine VD.end rfl rfl rfl ?_ | refine VD.mid rfl rfl rfl ?_); refine OpV.call rfl rfl (fun _ _ => by simp) (members_ok (R := Row n10 32 (vCells zeroSup none 0 0 0 false false) :: Row n7 69 [.slice (some sa) V.length sc] :: Row bx 22 [.slice (some la) l.length cap] :: Row n4 32 zeroV :: Row n2 32 zeroV :: R) (by omega) hvf (fun s hs => (hvst s hs).ent (Ent.drop (Ent.drop (Ent.drop (Ent.drop (Ent.drop Ent.refl)))))) (hta hV0) hon hcap) Ent.re rfl ?_)
      intro _ _
      rw [← hgd]
      (refine w ?_; repeat ((first | refine VO.step rfl rfl ?_ | refine VD.end rfl rfl rfl ?_ | refine VD.mid rfl rfl rfl ?_); refine OpV.box rfl rfl rfl ?_; intro _; refine w ?_))
      ((first | refine VO.step rfl rfl ?_ | refine VD.end rfl rfl rfl ?_ | refine VD.mid rfl rfl rfl ?_); refine OpV.allocS sb_30 rfl ?_; intro n11)
      (refine w ?_; repeat ((first | refine VO.step rfl rfl ?_ | refine VD.end rfl rfl rfl ?_ | refine VD.mid rfl rfl rfl ?_); refine OpV.box rfl rfl rfl ?_; intro _; refine w ?_))
      (first | refine VO.step rfl rfl ?_ | refine VD.end rfl rfl rfl ?_ | refine VD.mid rfl rfl rfl ?_)
      refine OpV.stA (vs := (guideM l).2.cells) tab_ok rfl rfl rfl rfl (super_one _) (by (repeat first | exact .head | apply Hole.tail)) (by simp) ?_
      (refine w ?_; repeat ((first | refine VO.step rfl rfl ?_ | refine VD.end rfl rfl rfl ?_ | refine VD.mid rfl rfl rfl ?_); refine OpV.box rfl rfl rfl ?_; intro _; refine w ?_))
      (refine VC.cond rfl rfl ?_ ?_ <;> intro hc)
      · have hg0 : (guideM l).1 ≠ 0 := by simpa using hc
        ((refine w ?_; repeat ((first | refine VO.step rfl rfl ?_ | refine VD.end rfl rfl rfl ?_ | refine VD.mid rfl rfl rfl ?_); refine OpV.box rfl rfl rfl ?_; intro _; refine w ?_)); (first | refine VO.step rfl rfl ?_ | refine VD.end rfl rfl rfl ?_ | refine VD.mid rfl rfl rfl ?_); refine OpV.stA (vs := zeroV) tab_ok rfl rfl rfl rfl (vCells_one _ _ _ _ _ _ _) (by (repeat first | exact .head | apply Hole.tail)) (by simp [zeroV, vCells]) ?_; (refine w ?_; repeat ((first | refine VO.step rfl rfl ?_ | refine VD.end rfl rfl rfl ?_ | refine VD.mid rfl rfl rfl ?_); refine OpV.box rfl rfl rfl ?_; intro _; refine w ?_)); refine jn.ret ?_; (refine w ?_; repeat ((first | refine VO.step rfl rfl ?_ | refine VD.end rfl rfl rfl ?_ | refine VD.mid rfl rfl rfl ?_); refine OpV.box rfl rfl rfl ?_; intro _; refine w ?_)); refine VE.results2 (.inl rfl) (none, 0) rfl (ResIs.agg (vs := zeroV) tab_ok rfl rfl (by (focus repeat first | exact .head _ | apply List.Mem.tail)) rfl rfl) (.tmp rfl) trivial (by rw [hgg hV0 hany hg0]; rfl) (by rw [hgg hV0 hany hg0]; exact Ent.trans (Ent.re (L := R)) (fun w hw => hw.ownNil _ _)))
      · have hg0 : (guideM l).1 = 0 := by simpa using hc
        (refine w ?_; repeat ((first | refine VO.step rfl rfl ?_ | refine VD.end rfl rfl rfl ?_ | refine VD.mid rfl rfl rfl ?_); refine OpV.box rfl rfl rfl ?_; intro _; refine w ?_))
        (first | refine VO.step rfl rfl ?_ | refine VD.end rfl rfl rfl ?_ | refine VD.mid rfl rfl rfl ?_)
        refine OpV.stA (vs := (guideM l).2.cells) tab_ok rfl rfl rfl rfl (super_one _) (by (repeat first | exact .head | apply Hole.tail)) (by simp [vCells]) ?_
        (refine w ?_; repeat ((first | refine VO.step rfl rfl ?_ | refine VD.end rfl rfl rfl ?_ | refine VD.mid rfl rfl rfl ?_); refine OpV.box rfl rfl rfl ?_; intro _; refine w ?_))
        exact jn.to () hg0 ⟨rfl, rfl, rfl, rfl, rfl, rfl, rfl, trivial⟩ Ent.re
    · simp only [if_true] at hgd
      (refine w ?_; repeat ((first | refine VO.step rfl rfl ?_ | refine VD.end rfl rfl rfl ?_ | refine VD.mid rfl rfl rfl ?_); refine OpV.box rfl rfl rfl ?_; intro _; refine w ?_))
      (first | refine VO.pure rfl rfl (.ldRA tab_ok rfl rfl (hb.rds.ent (Ent.drop (Ent.drop (Ent.drop (Ent.drop (Ent.drop (Ent.drop Ent.refl))))))) ((bal_sup l (l.length - 1) hlast).trans (show _ = (guideM l).2.cells by rw [hgd, supAt_get l _ hlast])) rfl) rfl ?_ | refine VD.take rfl rfl rfl (.ldRA tab_ok rfl rfl (hb.rds.ent (Ent.drop (Ent.drop (Ent.drop (Ent.drop (Ent.drop (Ent.drop Ent.refl))))))) ((bal_sup l (l.length - 1) hlast).trans (show _ = (guideM l).2.cells by rw [hgd, supAt_get l _ hlast])) rfl) rfl ?_ | refine VQ.pure rfl rfl (.ldRA tab_ok rfl rfl (hb.rds.ent (Ent.drop (Ent.drop (Ent.drop (Ent.drop (Ent.drop (Ent.drop Ent.refl))))))) ((bal_sup l (l.length - 1) hlast).trans (show _ = (guideM l).2.cells by rw [hgd, supAt_get l _ hlast])) rfl) rfl ?_ | refine VD.end rfl rfl rfl (OpV.pure (.ldRA tab_ok rfl rfl (hb.rds.ent (Ent.drop (Ent.drop (Ent.drop (Ent.drop (Ent.drop (Ent.drop Ent.refl))))))) ((bal_sup l (l.length - 1) hlast).trans (show _ = (guideM l).2.cells by rw [hgd, supAt_get l _ hlast])) rfl) rfl ?_))
      (refine w ?_; repeat ((first | refine VO.step rfl rfl ?_ | refine VD.end rfl rfl rfl ?_ | refine VD.mid rfl rfl rfl ?_); refine OpV.box rfl rfl rfl ?_; intro _; refine w ?_))
      (first | refine VO.step rfl rfl ?_ | refine VD.end rfl rfl rfl ?_ | refine VD.mid rfl rfl rfl ?_)
      refine OpV.stA (vs := (guideM l).2.cells) tab_ok rfl rfl rfl rfl (super_one _) (by (repeat first | exact .head | apply Hole.tail)) (by simp [vCells]) ?_
      (refine w ?_; repeat ((first | refine VO.step rfl rfl ?_ | refine VD.end rfl rfl rfl ?_ | refine VD.mid rfl rfl rfl ?_); refine OpV.box rfl rfl rfl ?_; intro _; refine w ?_))
      exact jn.to () (by rw [hgd]) ⟨rfl, rfl, rfl, rfl, rfl, rfl, rfl, trivial⟩ Ent.re
  rintro ⟨⟩ hg0
  obtain ⟨gi, hgi, hgs2⟩ := hgs hg0 hV0
  have hgl := counts_lt l gi hgi
  have hstl := counts_states l gi hgi
  have hsf : (guideM l).2.fit := by rw [hgs2, supAt_get l gi hgl]; exact hb.fit _ (List.getElem_mem hgl)
  have hsr : Rds W R 1 (guideM l).2.so (guideM l).2.states.length (bytes (guideM l).2.states) := by rw [hgs2, supAt_get l gi hgl]; exact hb.st _ (List.getElem_mem hgl)
  rw [← hgs2] at hstl
  have hfull := show fullV l (guideM l).2 = _ from rfl
  have h152' := h152 hV0 hany hg0
  have h000' := h000 hV0 hany hg0
  clear h150 h151 hgg h152 h000 hgd hgs hgs2 hta
  generalize (guideM l).2 = s at *
  unfold vCells
  (refine w ?_; repeat ((first | refine VO.step rfl rfl ?_ | refine VD.end rfl rfl rfl ?_ | refine VD.mid rfl rfl rfl ?_); refine OpV.box rfl rfl rfl ?_; intro _; refine w ?_))
  have hslen := hsf.len
  ((first | refine VO.step rfl rfl ?_ | refine VD.end rfl rfl rfl ?_ | refine VD.mid rfl rfl rfl ?_); refine OpV.call rfl rfl (fun _ _ => by simp) (clonest_ok (hsr.ent (Ent.drop (Ent.drop (Ent.drop (Ent.drop Ent.refl))))) (by omega)) Ent.refl rfl ?_)
  rintro ⟨co, cc⟩ _
  dsimp only
  refine VO.know (p := co = none → s.states.length = 0) (fun w hw => Holds.ownNone hw (.head _)) ?_
  intro hcn
  obtain ⟨ca, rfl⟩ : ∃ a, co = some a := by cases co with | none => have := hcn rfl; omega | some a => exact ⟨a, rfl⟩
  (refine w ?_; repeat ((first | refine VO.step rfl rfl ?_ | refine VD.end rfl rfl rfl ?_ | refine VD.mid rfl rfl rfl ?_); refine OpV.box rfl rfl rfl ?_; intro _; refine w ?_))
  obtain ⟨lb, hlb⟩ : ∃ lb, lb = (s.lost && !jr) := ⟨_, rfl⟩
  refine VO.joinR (α := Unit) (fun _ => True) (fun _ => Row n10 32 (vCells (withL s lb) (some ca) s.states.length cc s.cursor false jr) :: Own 59 1 (.slice (some ca) s.states.length cc) s.states.length (bytes s.states) :: Row bx 22 [.slice (some la) l.length cap] :: Row n4 32 zeroV :: Row n2 32 zeroV :: R)
    (fun _ => [(0, .slice (some la) l.length cap), (2, .pointer (some ⟨n2, 0, none⟩)), (3, .int .u16 0), (4, .pointer (some ⟨n4, 0, none⟩)), (6, cfV bx), (8, .int .u64 (topN l l.length)), (10, .pointer (some ⟨n10, 0, none⟩))]) ?_ ?_
  · intro Q2 jn
    cases hlo : s.lost
    · rw [hlo] at hlb; subst hlb
      (refine w ?_; repeat ((first | refine VO.step rfl rfl ?_ | refine VD.end rfl rfl rfl ?_ | refine VD.mid rfl rfl rfl ?_); refine OpV.box rfl rfl rfl ?_; intro _; refine w ?_))
      exact jn.to () trivial ⟨rfl, rfl, rfl, rfl, rfl, rfl, rfl, trivial⟩ Ent.re
    · rw [hlo] at hlb; subst hlb
      (refine w ?_; repeat ((first | refine VO.step rfl rfl ?_ | refine VD.end rfl rfl rfl ?_ | refine VD.mid rfl rfl rfl ?_); refine OpV.box rfl rfl rfl ?_; intro _; refine w ?_))
      exact jn.to () trivial ⟨rfl, rfl, rfl, rfl, rfl, rfl, rfl, trivial⟩ Ent.re
  rintro ⟨⟩ -
  have hfull : fullV l s = ⟨(withE s lb (topN l l.length)), newSt l s.safe s.states s.states.length, if wipeM l s.safe s.states s.states.length = true then 0 else s.cursor, turnM l s.safe s.states s.states.length, jr⟩ := by rw [hlb]; simp only [fullV, hjr, withE]
  unfold vCells
  (refine w ?_; repeat ((first | refine VO.step rfl rfl ?_ | refine VD.end rfl rfl rfl ?_ | refine VD.mid rfl rfl rfl ?_); refine OpV.box rfl rfl rfl ?_; intro _; refine w ?_))
  ((first | refine VO.step rfl rfl ?_ | refine VD.end rfl rfl rfl ?_ | refine VD.mid rfl rfl rfl ?_); refine OpV.call rfl rfl (fun _ _ => by simp) (fitted_ok (R := Row bx 22 [.slice (some la) l.length cap] :: Row n4 32 zeroV :: Row n2 32 zeroV :: R) (withE s lb (topN l l.length)) jr s.states (by omega) hstl (.head _) (hb.ent (Ent.drop (Ent.drop (Ent.drop Ent.refl))))) Ent.refl rfl ?_; intro _ _)
  unfold fitG
  (refine w ?_; repeat ((first | refine VO.step rfl rfl ?_ | refine VD.end rfl rfl rfl ?_ | refine VD.mid rfl rfl rfl ?_); refine OpV.box rfl rfl rfl ?_; intro _; refine w ?_))
  (refine VC.cond rfl rfl ?_ ?_ <;> intro hc)
  · have hcm := h152' (by have := of_decide_eq_true hc; simp only [withE] at this; omega)
    ((refine w ?_; repeat ((first | refine VO.step rfl rfl ?_ | refine VD.end rfl rfl rfl ?_ | refine VD.mid rfl rfl rfl ?_); refine OpV.box rfl rfl rfl ?_; intro _; refine w ?_)); (first | refine VO.step rfl rfl ?_ | refine VD.end rfl rfl rfl ?_ | refine VD.mid rfl rfl rfl ?_); refine OpV.stA (vs := zeroV) tab_ok rfl rfl rfl rfl (vCells_one _ _ _ _ _ _ _) (by (repeat first | exact .head | apply Hole.tail)) (by simp [zeroV, vCells]) ?_; (refine w ?_; repeat ((first | refine VO.step rfl rfl ?_ | refine VD.end rfl rfl rfl ?_ | refine VD.mid rfl rfl rfl ?_); refine OpV.box rfl rfl rfl ?_; intro _; refine w ?_)); refine VE.results2 (.inl rfl) (none, 0) rfl (ResIs.agg (vs := zeroV) tab_ok rfl rfl (by (focus repeat first | exact .head _ | apply List.Mem.tail)) rfl rfl) (.tmp rfl) trivial (by rw [hcm]; rfl) (by rw [hcm]; exact Ent.trans (Ent.re (L := R)) (fun w hw => hw.ownNil _ _)))
  have hcm := h000' (by have := of_decide_eq_false hc; simp only [withE] at this; omega)
  rw [hfull] at hcm
  (refine w ?_; repeat ((first | refine VO.step rfl rfl ?_ | refine VD.end rfl rfl rfl ?_ | refine VD.mid rfl rfl rfl ?_); refine OpV.box rfl rfl rfl ?_; intro _; refine w ?_))
  (first | refine VO.step rfl rfl ?_ | refine VD.end rfl rfl rfl ?_ | refine VD.mid rfl rfl rfl ?_)
  refine OpV.stA (vs := vCells (withE s lb (topN l l.length)) (some ca) s.states.length cc (if wipeM l s.safe s.states s.states.length = true then 0 else s.cursor) (turnM l s.safe s.states s.states.length) jr) tab_ok rfl rfl rfl rfl (vCells_one _ _ _ _ _ _ _) (by (repeat first | exact .head | apply Hole.tail)) (by simp [zeroV, vCells]) ?_
  (refine w ?_; repeat ((first | refine VO.step rfl rfl ?_ | refine VD.end rfl rfl rfl ?_ | refine VD.mid rfl rfl rfl ?_); refine OpV.box rfl rfl rfl ?_; intro _; refine w ?_))
  refine VE.results2 (.inl rfl) (some ca, cc) rfl (ResIs.agg (vs := vCells (withE s lb (topN l l.length)) (some ca) s.states.length cc (if wipeM l s.safe s.states s.states.length = true then 0 else s.cursor) (turnM l s.safe s.states s.states.length) jr) tab_ok rfl rfl (by (focus repeat first | exact .head _ | apply List.Mem.tail)) rfl rfl) (.tmp rfl) trivial ?_ ?_
  · rw [hcm]; simp only [VerD.cells, newSt_length]
  · rw [hcm]; simp only [newSt_length]; exact Ent.re
end Go.Proofs.Ytlflmnmkgaeabaa
