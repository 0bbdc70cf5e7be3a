/- VoteBlank: the walk. -/
import Derived.Test.YtlflmnmkgaeabaaVv
set_option maxRecDepth 8000
set_option linter.unusedVariables false
set_option linter.unusedSimpArgs false
set_option linter.unusedSectionVars false
namespace Go.Proofs.Ytlflmnmkgaeabaa
open Go.RowKit Go.Sl
attribute [local irreducible] Own

def zeroB : BalD := ⟨false, zeroSup⟩
def blankB (n i : Nat) (b : BalD) : BalD := if b.s.okP ∧ b.s.role = (i : Int) ∧ b.s.members = (n : Int) - 1 then b else zeroB
def blanks (l : List BalD) : List BalD := l.mapIdx (blankB l.length)
@[simp] theorem blanks_length (l : List BalD) : (blanks l).length = l.length := by simp [blanks]
theorem blanks_get (l : List BalD) (i : Nat) (h : i < l.length) : (blanks l)[i]'(by simpa using h) = blankB l.length i l[i] := by simp [blanks]
theorem blank_counts (l : List BalD) (i : Nat) : countsB (blanks l) i = countsB l i := by
  unfold countsB
  rcases Nat.lt_or_ge i l.length with h | h
  · rw [List.getElem?_eq_getElem h, List.getElem?_eq_getElem (by simpa using h), blanks_get l i h]
    dsimp only
    unfold blankB
    by_cases hc : l[i].s.okP ∧ l[i].s.role = (i : Int) ∧ l[i].s.members = (l.length : Int) - 1
    · rw [if_pos hc, blanks_length]
    · rw [if_neg hc]
      have : ¬ (l[i].s.okP ∧ l[i].s.members = (l.length : Int) - 1 ∧ l[i].s.role = (i : Int)) := fun k => hc ⟨k.1, k.2.2, k.2.1⟩
      rw [decide_eq_false this, Bool.and_false]
      rfl
  · rw [List.getElem?_eq_none h, List.getElem?_eq_none (by simpa using h)]
theorem blank_same (l : List BalD) (i : Nat) (h : countsB l i = true) : (blanks l)[i]? = l[i]? := by
  have hi := counts_lt l i h
  obtain ⟨-, h1, h2, h3⟩ := (counts_iff l i hi).1 h
  rw [List.getElem?_eq_getElem hi, List.getElem?_eq_getElem (by simpa using hi), blanks_get l i hi]
  unfold blankB
  rw [if_pos ⟨h1, h3, h2⟩]
theorem blank_choose (l : List BalD) : chooseM (blanks l) = chooseM l := by
  have hs : ∀ i, countsB l i = true → supAt (blanks l) i = supAt l i := fun i h => by unfold supAt; rw [blank_same l i h]
  have he : ∀ i, countsB l i = true → evs (blanks l) i = evs l i := fun i h => by unfold evs; rw [blank_same l i h]
  have hv : ∀ i, votesN (blanks l) i = votesN l i := by
    intro i
    induction i with
    | zero => rfl
    | succ i ih =>
      rw [votesN, votesN, ih, blank_counts]
      by_cases h : countsB l i = true
      · rw [if_pos h, if_pos h, hs i h]
      · rw [if_neg h, if_neg h]
  refine choose_congr (blanks_length l) (blank_counts l) (fun i h => by rw [hs i h]; exact ⟨rfl, ⟨rfl, rfl, rfl⟩, rfl, rfl⟩) he ?_
  unfold guideM
  rw [blanks_length, blank_counts, hv, top_congr (blank_counts l) he]
  by_cases h : countsB l (l.length - 1) = true
  · rw [if_pos h, if_pos h, hs _ h]
  · rw [if_neg h, if_neg h]
theorem take_push {α : Type} (l : List α) (i : Nat) (h : i < l.length) : l.take (i + 1) = l.take i ++ [l[i]] := List.take_succ_eq_append_getElem h

set_option maxHeartbeats 8000000 in
theorem blank_ok {W : World} {ao : Option Addr} {cap : Nat} (l : List BalD) (hB : ∀ R, Bals W R ao l) (hlen : l.length ≤ 140737488351232) :
    Does1 W Try.prog 6 [.slice ao l.length cap] [] (.bool true) [] := by
  (refine Does.enter Try.func6 Try.ntmps6 rfl rfl ?_)
  (refine w ?_; repeat ((first | refine VO.step rfl rfl ?_ | refine VD.end rfl rfl rfl ?_ | refine VD.mid rfl rfl rfl ?_); refine OpV.box rfl rfl rfl ?_; intro _; refine w ?_))
  ((first | refine VO.step rfl rfl ?_ | refine VD.end rfl rfl rfl ?_ | refine VD.mid rfl rfl rfl ?_); refine OpV.call rfl rfl (fun _ _ => by simp) (vmuch_ok hlen (hB _)) Ent.refl rfl ?_)
  intro mb hmb
  (refine w ?_; repeat ((first | refine VO.step rfl rfl ?_ | refine VD.end rfl rfl rfl ?_ | refine VD.mid rfl rfl rfl ?_); refine OpV.box rfl rfl rfl ?_; intro _; refine w ?_))
  cases mb
  rotate_left
  · (refine w ?_; repeat ((first | refine VO.step rfl rfl ?_ | refine VD.end rfl rfl rfl ?_ | refine VD.mid rfl rfl rfl ?_); refine OpV.box rfl rfl rfl ?_; intro _; refine w ?_))
    (refine VE.done1 rfl ?_ ?_)
    · rfl
    · exact Ent.refl
  obtain ⟨hl1, hl2⟩ := hmb rfl
  (refine w ?_; repeat ((first | refine VO.step rfl rfl ?_ | refine VD.end rfl rfl rfl ?_ | refine VD.mid rfl rfl rfl ?_); refine OpV.box rfl rfl rfl ?_; intro _; refine w ?_))
  (refine VC.cond rfl rfl ?_ ?_ <;> intro hc)
  · (refine w ?_; repeat ((first | refine VO.step rfl rfl ?_ | refine VD.end rfl rfl rfl ?_ | refine VD.mid rfl rfl rfl ?_); refine OpV.box rfl rfl rfl ?_; intro _; refine w ?_))
    (refine VE.done1 rfl ?_ ?_)
    · rfl
    · exact Ent.refl
  refine VC.ent (H' := Own 61 13 (.slice none 0 0) 0 [] :: []) (fun w hw => hw.ownNil _ _) ?_
  (refine w ?_; repeat ((first | refine VO.step rfl rfl ?_ | refine VD.end rfl rfl rfl ?_ | refine VD.mid rfl rfl rfl ?_); refine OpV.box rfl rfl rfl ?_; intro _; refine w ?_))
  refine VC.loop (α := Nat × Option Addr × Nat) (fun y => y.1 ≤ l.length) (fun y => Own 61 13 (.slice y.2.1 y.1 y.2.2) y.1 (balCells ((blanks l).take y.1)) :: [])
    (fun y => [(0, .slice ao l.length cap), (3, .slice y.2.1 y.1 y.2.2), (4, .int .i64 y.1)]) (fun y => l.length - y.1) rfl (0, none, 0) (Nat.zero_le _) Ent.refl ⟨rfl, rfl, rfl, trivial⟩ ?_
  rintro ⟨i, so, sc⟩ hi
  dsimp only at hi ⊢
  (refine w ?_; repeat ((first | refine VO.step rfl rfl ?_ | refine VD.end rfl rfl rfl ?_ | refine VD.mid rfl rfl rfl ?_); refine OpV.box rfl rfl rfl ?_; intro _; refine w ?_))
  (refine VC.cond rfl rfl ?_ ?_ <;> intro hc)
  · have hlt : i < l.length := by have := of_decide_eq_true hc; omega
    obtain ⟨la, rfl⟩ : ∃ x, ao = some x := by cases ao with | none => have := (hB []).rds.nil rfl; omega | some x => exact ⟨x, rfl⟩
    have hft := (hB []).fit _ (List.getElem_mem hlt)
    have hst := fun R => (hB R).st _ (List.getElem_mem hlt)
    (refine w ?_; repeat ((first | refine VO.step rfl rfl ?_ | refine VD.end rfl rfl rfl ?_ | refine VD.mid rfl rfl rfl ?_); refine OpV.box rfl rfl rfl ?_; intro _; refine w ?_))
    (first | refine VO.pure rfl rfl (.ldRA tab_ok rfl rfl (hB _).rds (flat_part l i hlt (fun _ _ => rfl)) rfl) rfl ?_ | refine VD.take rfl rfl rfl (.ldRA tab_ok rfl rfl (hB _).rds (flat_part l i hlt (fun _ _ => rfl)) rfl) rfl ?_ | refine VQ.pure rfl rfl (.ldRA tab_ok rfl rfl (hB _).rds (flat_part l i hlt (fun _ _ => rfl)) rfl) rfl ?_ | refine VD.end rfl rfl rfl (OpV.pure (.ldRA tab_ok rfl rfl (hB _).rds (flat_part l i hlt (fun _ _ => rfl)) rfl) rfl ?_))
    ((first | refine VO.step rfl rfl ?_ | refine VD.end rfl rfl rfl ?_ | refine VD.mid rfl rfl rfl ?_); refine OpV.allocS sb_61 rfl ?_; intro n5)
    (first | refine VO.step rfl rfl ?_ | refine VD.end rfl rfl rfl ?_ | refine VD.mid rfl rfl rfl ?_)
    refine OpV.stA (vs := l[i].cells) tab_ok rfl rfl rfl rfl (bal_one _) (by (repeat first | exact .head | apply Hole.tail)) (by simp) ?_
    refine VO.ent (Reord.ent (L := Row n5 61 l[i].cells :: Own 61 13 (.slice so i sc) i (balCells ((blanks l).take i)) :: []) (by (repeat first | exact .refl | (apply Reord.cons; focus repeat first | exact .head | apply Del.tail) | exact .nil | apply Reord.drop))) ?_
    refine VO.nil rfl ?_
    refine VE.next ?_
    refine VC.seq rfl ?_
    have hbg := blanks_get l i hlt
    have htk := take_push (blanks l) i (by simpa using hlt)
    rw [hbg] at htk
    have hck : (l[i].s.check != 0) = !decide l[i].s.okP := by
      unfold SuperD.check; split
      · rename_i h; simp [h]
      · rename_i h; simp [h]
    refine VC.join (α := Unit) (fun _ => True) (fun _ => Row n5 61 (blankB l.length i l[i]).cells :: Own 61 13 (.slice so i sc) i (balCells ((blanks l).take i)) :: []) (fun _ => [(0, .slice (some la) l.length cap), (3, .slice so i sc), (4, .int .i64 i), (5, .pointer (some ⟨n5, 0, none⟩))]) ?_ ?_
    · intro Q2 jn
      have bad : ¬ (l[i].s.okP ∧ l[i].s.role = (i : Int) ∧ l[i].s.members = (l.length : Int) - 1) → blankB l.length i l[i] = zeroB := fun h => if_neg h
      have good : (l[i].s.okP ∧ l[i].s.role = (i : Int) ∧ l[i].s.members = (l.length : Int) - 1) → blankB l.length i l[i] = l[i] := fun h => if_pos h
      generalize l[i] = b at *
      (refine w ?_; repeat ((first | refine VO.step rfl rfl ?_ | refine VD.end rfl rfl rfl ?_ | refine VD.mid rfl rfl rfl ?_); refine OpV.box rfl rfl rfl ?_; intro _; refine w ?_))
      ((first | refine VO.step rfl rfl ?_ | refine VD.end rfl rfl rfl ?_ | refine VD.mid rfl rfl rfl ?_); refine OpV.call rfl rfl (fun _ _ => by simp) (rcheck_ok b.s hft (hst _)) Ent.refl rfl ?_)
      intro _ _
      (refine w ?_; repeat ((first | refine VO.step rfl rfl ?_ | refine VD.end rfl rfl rfl ?_ | refine VD.mid rfl rfl rfl ?_); refine OpV.box rfl rfl rfl ?_; intro _; refine w ?_))
      ((first | refine VO.split rfl rfl rfl ?_ ?_ | refine VD.split rfl rfl rfl ?_ ?_) <;> intro hb)
      · have h1 : ¬ b.s.okP := by intro h; rw [hck] at hb; simp [h] at hb
        (refine w ?_; repeat ((first | refine VO.step rfl rfl ?_ | refine VD.end rfl rfl rfl ?_ | refine VD.mid rfl rfl rfl ?_); refine OpV.box rfl rfl rfl ?_; intro _; refine w ?_))
        (apply VO.pure rfl rfl; apply PureAt.build sb_61 rfl; (simp [buildX, setL, Value.cells]; rfl); rfl)
        (first | refine VO.step rfl rfl ?_ | refine VD.end rfl rfl rfl ?_ | refine VD.mid rfl rfl rfl ?_)
        refine OpV.stA (vs := zeroB.cells) tab_ok rfl rfl rfl rfl (bal_one _) (by (repeat first | exact .head | apply Hole.tail)) (by simp) ?_
        (refine w ?_; repeat ((first | refine VO.step rfl rfl ?_ | refine VD.end rfl rfl rfl ?_ | refine VD.mid rfl rfl rfl ?_); refine OpV.box rfl rfl rfl ?_; intro _; refine w ?_))
        exact jn.to () trivial ⟨rfl, rfl, rfl, rfl, trivial⟩ (by rw [bad (fun h => h1 h.1)]; exact Ent.re)
      have h1 : b.s.okP := by rw [hck] at hb; simpa using hb
      (refine w ?_; repeat ((first | refine VO.step rfl rfl ?_ | refine VD.end rfl rfl rfl ?_ | refine VD.mid rfl rfl rfl ?_); refine OpV.box rfl rfl rfl ?_; intro _; refine w ?_))
      ((first | refine VO.split rfl rfl rfl ?_ ?_ | refine VD.split rfl rfl rfl ?_ ?_) <;> intro hb)
      · have h2 : ¬ b.s.role = (i : Int) := by simpa using hb
        (refine w ?_; repeat ((first | refine VO.step rfl rfl ?_ | refine VD.end rfl rfl rfl ?_ | refine VD.mid rfl rfl rfl ?_); refine OpV.box rfl rfl rfl ?_; intro _; refine w ?_))
        (apply VO.pure rfl rfl; apply PureAt.build sb_61 rfl; (simp [buildX, setL, Value.cells]; rfl); rfl)
        (first | refine VO.step rfl rfl ?_ | refine VD.end rfl rfl rfl ?_ | refine VD.mid rfl rfl rfl ?_)
        refine OpV.stA (vs := zeroB.cells) tab_ok rfl rfl rfl rfl (bal_one _) (by (repeat first | exact .head | apply Hole.tail)) (by simp) ?_
        (refine w ?_; repeat ((first | refine VO.step rfl rfl ?_ | refine VD.end rfl rfl rfl ?_ | refine VD.mid rfl rfl rfl ?_); refine OpV.box rfl rfl rfl ?_; intro _; refine w ?_))
        exact jn.to () trivial ⟨rfl, rfl, rfl, rfl, trivial⟩ (by rw [bad (fun h => h2 h.2.1)]; exact Ent.re)
      have h2 : b.s.role = (i : Int) := by simpa using hb
      (refine w ?_; repeat ((first | refine VO.step rfl rfl ?_ | refine VD.end rfl rfl rfl ?_ | refine VD.mid rfl rfl rfl ?_); refine OpV.box rfl rfl rfl ?_; intro _; refine w ?_))
      (refine VC.cond rfl rfl ?_ ?_ <;> intro hc)
      · have h3 : ¬ b.s.members = (l.length : Int) - 1 := by simpa using hc
        (refine w ?_; repeat ((first | refine VO.step rfl rfl ?_ | refine VD.end rfl rfl rfl ?_ | refine VD.mid rfl rfl rfl ?_); refine OpV.box rfl rfl rfl ?_; intro _; refine w ?_))
        (apply VO.pure rfl rfl; apply PureAt.build sb_61 rfl; (simp [buildX, setL, Value.cells]; rfl); rfl)
        (first | refine VO.step rfl rfl ?_ | refine VD.end rfl rfl rfl ?_ | refine VD.mid rfl rfl rfl ?_)
        refine OpV.stA (vs := zeroB.cells) tab_ok rfl rfl rfl rfl (bal_one _) (by (repeat first | exact .head | apply Hole.tail)) (by simp) ?_
        (refine w ?_; repeat ((first | refine VO.step rfl rfl ?_ | refine VD.end rfl rfl rfl ?_ | refine VD.mid rfl rfl rfl ?_); refine OpV.box rfl rfl rfl ?_; intro _; refine w ?_))
        exact jn.to () trivial ⟨rfl, rfl, rfl, rfl, trivial⟩ (by rw [bad (fun h => h3 h.2.2)]; exact Ent.re)
      have h3 : b.s.members = (l.length : Int) - 1 := by simpa using hc
      (refine w ?_; repeat ((first | refine VO.step rfl rfl ?_ | refine VD.end rfl rfl rfl ?_ | refine VD.mid rfl rfl rfl ?_); refine OpV.box rfl rfl rfl ?_; intro _; refine w ?_))
      exact jn.to () trivial ⟨rfl, rfl, rfl, rfl, trivial⟩ (by rw [good ⟨h1, h2, h3⟩]; exact Ent.re)
    rintro ⟨⟩ -
    (refine w ?_; repeat ((first | refine VO.step rfl rfl ?_ | refine VD.end rfl rfl rfl ?_ | refine VD.mid rfl rfl rfl ?_); refine OpV.box rfl rfl rfl ?_; intro _; refine w ?_))
    (first | refine VO.step rfl rfl ?_ | refine VD.end rfl rfl rfl ?_ | refine VD.mid rfl rfl rfl ?_)
    refine OpV.buildSlice (cs := (blankB l.length i l[i]).cells) st_22 rfl rfl (by simp [Value.cells]) (agg_flat _) (by decide) rfl ?_
    intro nc
    (first | refine VO.step rfl rfl ?_ | refine VD.end rfl rfl rfl ?_ | refine VD.mid rfl rfl rfl ?_)
    refine OpV.appendRow st_22 rfl rfl (by (repeat first | exact .head | apply Hole.tail)) (by (focus repeat first | exact .head _ | apply List.Mem.tail)) rfl (bal_one _) ?_ ?_ rfl ?_
    · simp only [maxLen]; omega
    · omega
    intro so' sc'
    (refine w ?_; repeat ((first | refine VO.step rfl rfl ?_ | refine VD.end rfl rfl rfl ?_ | refine VD.mid rfl rfl rfl ?_); refine OpV.box rfl rfl rfl ?_; intro _; refine w ?_))
    refine VE.round (i + 1, so', sc') (by simp only; omega) (by simp only; omega) ⟨rfl, rfl, asV rfl (by congr 1), trivial⟩ ?_
    dsimp only
    rw [htk, balCells_push]
    exact Ent.re
  have hge : i = l.length := by have := of_decide_eq_false hc; omega
  subst hge
  rw [List.take_of_length_le (by simp)]
  (refine w ?_; repeat ((first | refine VO.step rfl rfl ?_ | refine VD.end rfl rfl rfl ?_ | refine VD.mid rfl rfl rfl ?_); refine OpV.box rfl rfl rfl ?_; intro _; refine w ?_))
  ((first | refine VO.step rfl rfl ?_ | refine VD.end rfl rfl rfl ?_ | refine VD.mid rfl rfl rfl ?_); refine OpV.call rfl rfl (fun _ _ => by simp) (choose_ok (l := l) (by omega) (hB _)) Ent.refl rfl ?_)
  rintro ⟨xo, xc⟩ _
  dsimp only
  refine VO.know (p := xo = none → (chooseM l).2.st.length = 0) (fun w hw => Holds.ownNone hw (.head _)) ?_
  intro hxn
  refine VO.know (p := (chooseM l).2.st.length ≤ xc) (fun w hw => Holds.ownCap hw (.head _)) ?_
  intro hxc
  have hvf := choose_fit l (hB []).fit (xo, xc) hxc
  (refine w ?_; repeat ((first | refine VO.step rfl rfl ?_ | refine VD.end rfl rfl rfl ?_ | refine VD.mid rfl rfl rfl ?_); refine OpV.box rfl rfl rfl ?_; intro _; refine w ?_))
  ((first | refine VO.step rfl rfl ?_ | refine VD.end rfl rfl rfl ?_ | refine VD.mid rfl rfl rfl ?_); refine OpV.allocS sb_32 rfl ?_; intro n6)
  (refine w ?_; repeat ((first | refine VO.step rfl rfl ?_ | refine VD.end rfl rfl rfl ?_ | refine VD.mid rfl rfl rfl ?_); refine OpV.box rfl rfl rfl ?_; intro _; refine w ?_))
  (first | refine VO.step rfl rfl ?_ | refine VD.end rfl rfl rfl ?_ | refine VD.mid rfl rfl rfl ?_)
  refine OpV.stA (vs := (chooseM l).2.cells (xo, xc)) tab_ok rfl rfl rfl rfl (vCells_one _ _ _ _ _ _ _) (by (repeat first | exact .head | apply Hole.tail)) (by simp) ?_
  refine VO.ent (Reord.ent (L := Row n6 32 ((chooseM l).2.cells (xo, xc)) :: Own 59 1 (.slice xo (chooseM l).2.st.length xc) (chooseM l).2.st.length (bytes (chooseM l).2.st) :: Own 61 13 (.slice so l.length sc) l.length (balCells (blanks l)) :: []) (by (repeat first | exact .refl | (apply Reord.cons; focus repeat first | exact .head | apply Del.tail) | exact .nil | apply Reord.drop))) ?_
  refine VO.know (p := so = none → l.length = 0) (fun w hw => Holds.ownNone hw (.tail _ (.tail _ (.head _)))) ?_
  intro hson
  have hBm : ∀ R, Own 61 13 (.slice so l.length sc) l.length (balCells (blanks l)) ∈ R → Bals W R so (blanks l) := fun R hR => by
    refine ⟨Rds.own (fun u hu => by obtain ⟨b, _, h⟩ := List.mem_flatMap.1 hu; exact bal_one b u h) (by rw [blanks_length]; exact hR) (balCells_length _) (by rw [blanks_length]; exact hson), fun b hb => ?_, fun b hb => ?_⟩
    · obtain ⟨j, hj, rfl⟩ := List.mem_iff_getElem.1 hb
      rw [blanks_get l j (by simpa using hj)]
      unfold blankB; split
      · exact (hB R).st _ (List.getElem_mem _)
      · exact ⟨rfl, (by intro u hu; cases hu), fun _ => rfl, fun w hw a ha => (by cases ha)⟩
    · obtain ⟨j, hj, rfl⟩ := List.mem_iff_getElem.1 hb
      rw [blanks_get l j (by simpa using hj)]
      unfold blankB; split
      · exact (hB R).fit _ (List.getElem_mem _)
      · exact zero_fit
  (refine w ?_; repeat ((first | refine VO.step rfl rfl ?_ | refine VD.end rfl rfl rfl ?_ | refine VD.mid rfl rfl rfl ?_); refine OpV.box rfl rfl rfl ?_; intro _; refine w ?_))
  ((first | refine VO.step rfl rfl ?_ | refine VD.end rfl rfl rfl ?_ | refine VD.mid rfl rfl rfl ?_); refine OpV.call rfl rfl (fun _ _ => by simp) (choose_n (l := blanks l) (blanks_length l) (by rw [blanks_length]; omega) (hBm _ (by (focus repeat first | exact .head _ | apply List.Mem.tail)))) Ent.refl rfl ?_)
  rw [blank_choose l]
  rintro ⟨yo, yc⟩ _
  dsimp only
  refine VO.know (p := yo = none → (chooseM l).2.st.length = 0) (fun w hw => Holds.ownNone hw (.head _)) ?_
  intro hyn
  refine VO.know (p := (chooseM l).2.st.length ≤ yc) (fun w hw => Holds.ownCap hw (.head _)) ?_
  intro hyc
  have hwf := choose_fit l (hB []).fit (yo, yc) hyc
  (refine w ?_; repeat ((first | refine VO.step rfl rfl ?_ | refine VD.end rfl rfl rfl ?_ | refine VD.mid rfl rfl rfl ?_); refine OpV.box rfl rfl rfl ?_; intro _; refine w ?_))
  ((first | refine VO.step rfl rfl ?_ | refine VD.end rfl rfl rfl ?_ | refine VD.mid rfl rfl rfl ?_); refine OpV.allocS sb_32 rfl ?_; intro n8)
  (refine w ?_; repeat ((first | refine VO.step rfl rfl ?_ | refine VD.end rfl rfl rfl ?_ | refine VD.mid rfl rfl rfl ?_); refine OpV.box rfl rfl rfl ?_; intro _; refine w ?_))
  (first | refine VO.step rfl rfl ?_ | refine VD.end rfl rfl rfl ?_ | refine VD.mid rfl rfl rfl ?_)
  refine OpV.stA (vs := (chooseM l).2.cells (yo, yc)) tab_ok rfl rfl rfl rfl (vCells_one _ _ _ _ _ _ _) (by (repeat first | exact .head | apply Hole.tail)) (by simp) ?_
  refine VO.ent (Reord.ent (L := Row n8 32 ((chooseM l).2.cells (yo, yc)) :: Row n6 32 ((chooseM l).2.cells (xo, xc)) :: Own 59 1 (.slice xo (chooseM l).2.st.length xc) (chooseM l).2.st.length (bytes (chooseM l).2.st) :: Own 59 1 (.slice yo (chooseM l).2.st.length yc) (chooseM l).2.st.length (bytes (chooseM l).2.st) :: []) (by (repeat first | exact .refl | (apply Reord.cons; focus repeat first | exact .head | apply Del.tail) | exact .nil | apply Reord.drop))) ?_
  (refine w ?_; repeat ((first | refine VO.step rfl rfl ?_ | refine VD.end rfl rfl rfl ?_ | refine VD.mid rfl rfl rfl ?_); refine OpV.box rfl rfl rfl ?_; intro _; refine w ?_))
  ((first | refine VO.step rfl rfl ?_ | refine VD.end rfl rfl rfl ?_ | refine VD.mid rfl rfl rfl ?_); refine OpV.call rfl rfl (fun _ _ => by simp) (vknown_ok) Ent.refl rfl ?_; intro _ _)
  (refine w ?_; repeat ((first | refine VO.step rfl rfl ?_ | refine VD.end rfl rfl rfl ?_ | refine VD.mid rfl rfl rfl ?_); refine OpV.box rfl rfl rfl ?_; intro _; refine w ?_))
  (first | refine VO.gT rfl rfl rfl (by simp) ?_ | refine VD.gT rfl rfl rfl (by simp) ?_)
  (refine w ?_; repeat ((first | refine VO.step rfl rfl ?_ | refine VD.end rfl rfl rfl ?_ | refine VD.mid rfl rfl rfl ?_); refine OpV.box rfl rfl rfl ?_; intro _; refine w ?_))
  ((first | refine VO.step rfl rfl ?_ | refine VD.end rfl rfl rfl ?_ | refine VD.mid rfl rfl rfl ?_); refine OpV.call rfl rfl (fun _ _ => by simp) (samever_ok (chooseM l).2 (chooseM l).2 (xo, xc) (yo, yc) hvf hwf (Rds.own (bytes_one _) (by (focus repeat first | exact .head _ | apply List.Mem.tail)) (by simp) hxn) (Rds.own (bytes_one _) (by (focus repeat first | exact .head _ | apply List.Mem.tail)) (by simp) hyn)) Ent.refl rfl ?_; intro _ _)
  rw [same_refl]
  (refine w ?_; repeat ((first | refine VO.step rfl rfl ?_ | refine VD.end rfl rfl rfl ?_ | refine VD.mid rfl rfl rfl ?_); refine OpV.box rfl rfl rfl ?_; intro _; refine w ?_))
  (refine VE.done1 rfl ?_ ?_)
  · rfl
  · exact Ent.re
end Go.Proofs.Ytlflmnmkgaeabaa
