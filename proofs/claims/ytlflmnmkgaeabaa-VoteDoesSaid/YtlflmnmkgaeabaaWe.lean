/- VoteDoes: the walk. -/
import Derived.Test.YtlflmnmkgaeabaaWd
set_option maxRecDepth 8000
set_option linter.unusedVariables false
set_option linter.unusedSimpArgs false
set_option linter.unusedSectionVars false
namespace Go.Proofs.Ytlflmnmkgaeabaa
open Go.RowKit Go.Sl
attribute [local irreducible] Own

theorem book_rds {W : World} {H : List SProp} {b : Nat} {E : List Stt.ListE} {e : Stt.ListE} (m : Stt.BookR b E ∈ H) (he : e ∈ E) (h1 : ∀ u ∈ e.xs, u.oneCell' = true) (hn : e.ao = none → e.xs.length = 0) : Rds W H 1 e.ao e.xs.length e.xs := by
  refine ⟨by rw [Nat.mul_one], h1, hn, fun w hw => ?_⟩
  obtain ⟨R, h2, -⟩ := mem_front (W := W) m
  obtain ⟨x, h3⟩ := Stt.BookR.open (h2 w hw)
  have hm : Stt.ListE.res e ∈ Row b 55 (Stt.bookRow x.1 E.length x.2) :: Own 28 1 (.slice x.1 E.length x.2) E.length (E.map Stt.ListE.hdr) :: (E.map Stt.ListE.res ++ R) := .tail _ (.tail _ (List.mem_append_left _ (List.mem_map_of_mem he)))
  exact (Rds.own (W := W) (H := _) h1 hm (by rw [Nat.mul_one]) hn).cell w h3
theorem guide_err (l : List BalD) : (guideM l).1 = 0 ∨ (guideM l).1 = 151 ∨ (guideM l).1 = 153 := by
  unfold guideM
  split
  · exact .inl rfl
  · unfold membersM
    split
    · exact .inr (.inr rfl)
    · split
      · exact .inr (.inl rfl)
      · exact .inl rfl
theorem choose_err (l : List BalD) : 0 ≤ (chooseM l).1 ∧ (chooseM l).1 ≤ 200 := by
  have := guide_err l
  unfold chooseM
  split
  · exact ⟨by decide, by decide⟩
  · split
    · exact ⟨by decide, by decide⟩
    · split
      · exact ⟨by decide, by decide⟩
      · split
        · exact ⟨by simp only; omega, by simp only; omega⟩
        · split
          · exact ⟨by decide, by decide⟩
          · exact ⟨by simp only; omega, by simp only; omega⟩
theorem choose_stlen (l : List BalD) : (chooseM l).2.st.length ≤ l.length := by
  by_cases h : (chooseM l).1 = 0
  · obtain ⟨-, -, hne, -, hg, -, hcm⟩ := choose_inv l h
    obtain ⟨gi, hgi, hgs⟩ := guide_states l hg hne
    have := counts_states l gi hgi
    rw [← hgs] at this
    rw [hcm]
    show (newSt l _ (guideM l).2.states _).length ≤ _
    rw [newSt_length]; omega
  · unfold chooseM at *
    split
    · exact Nat.zero_le _
    · rename_i h1
      rw [if_neg h1] at h
      split
      · exact Nat.zero_le _
      · rename_i h2
        rw [if_neg h2] at h
        split
        · exact Nat.zero_le _
        · rename_i h3
          rw [if_neg h3] at h
          split
          · exact Nat.zero_le _
          · rename_i h4
            rw [if_neg h4] at h
            split
            · exact Nat.zero_le _
            · rename_i h5
              rw [if_neg h5] at h
              exact absurd rfl h
theorem resS (xo : Option Addr) (xc : Nat) (st : List UInt8) : Own 59 1 (.slice xo st.length xc) st.length (bytes st) = Stt.ListE.res ⟨xo, xc, bytes st⟩ := by
  unfold Stt.ListE.res; simp
theorem ent_lent {W : World} {A : SProp} {L R : List SProp} : Ent W (A :: Sl.star L :: R) (A :: (L ++ R)) := fun w hw => hw.swap.join.perm List.perm_middle

set_option maxHeartbeats 8000000 in
theorem vdoes_ok {W : World} {ao : Option Addr} {cap : Nat} (l : List BalD) (hB : ∀ R, Bals W R ao l) (hlen : l.length ≤ 140737488351232) :
    Does1 W Try.prog 3 [.slice ao l.length cap] [] (.bool true) [] := by
  (refine Does.enter Try.func3 Try.ntmps3 rfl rfl ?_)
  (refine w ?_; repeat ((first | refine VO.step rfl rfl ?_ | refine VD.end rfl rfl rfl ?_ | refine VD.mid rfl rfl rfl ?_); refine OpV.box rfl rfl rfl ?_; intro _; refine w ?_))
  ((first | refine VO.step rfl rfl ?_ | refine VD.end rfl rfl rfl ?_ | refine VD.mid rfl rfl rfl ?_); refine OpV.call rfl rfl (fun _ _ => by simp) (vmuch_ok hlen (hB _)) Ent.refl rfl ?_)
  intro mb hmb
  (refine w ?_; repeat ((first | refine VO.step rfl rfl ?_ | refine VD.end rfl rfl rfl ?_ | refine VD.mid rfl rfl rfl ?_); refine OpV.box rfl rfl rfl ?_; intro _; refine w ?_))
  cases mb
  rotate_left
  · (refine w ?_; repeat ((first | refine VO.step rfl rfl ?_ | refine VD.end rfl rfl rfl ?_ | refine VD.mid rfl rfl rfl ?_); refine OpV.box rfl rfl rfl ?_; intro _; refine w ?_))
    (refine VE.done1 rfl ?_ ?_)
    · rfl
    · exact Ent.refl
  obtain ⟨hl1, hl2⟩ := hmb rfl
  have hf := (hB []).fit
  (refine w ?_; repeat ((first | refine VO.step rfl rfl ?_ | refine VD.end rfl rfl rfl ?_ | refine VD.mid rfl rfl rfl ?_); refine OpV.box rfl rfl rfl ?_; intro _; refine w ?_))
  ((first | refine VO.step rfl rfl ?_ | refine VD.end rfl rfl rfl ?_ | refine VD.mid rfl rfl rfl ?_); refine OpV.call rfl rfl (fun _ _ => by simp) (lentb_ok l hB hl1 hl2) Ent.refl rfl ?_)
  rintro ⟨es, a, cp⟩ hes
  dsimp only at hes ⊢
  refine VO.know (fun w hw => lentb_cap hes hw.tail) ?_
  intro hcap
  refine VO.ent (H' := LentB l es a cp :: Sl.star (lentR l es) :: []) (fun w hw => (Holds.nest (L := lentR l es) (R := LentB l es a cp :: []) (hw.perm List.perm_middle.symm)).swap) ?_
  have hBL : ∀ H, Ent W H (LentB l es a cp :: Sl.star (lentR l es) :: []) → Bals W H (some a) (lentL l es) := fun H e => (lentb_bals hes hf (.head _) (fun x hx => .tail _ (List.mem_append_left _ hx)) hcap : Bals W (LentB l es a cp :: (lentR l es ++ [])) (some a) (lentL l es)).ent (e.trans ent_lent)
  have hLl := lentL_length hes
  obtain ⟨hs1, hs2⟩ := (lent_same hes).chs
  have hs3 := same_st hs2
  have hLf : ∀ b ∈ lentL l es, b.s.fit := (hBL _ Ent.refl).fit
  have herr := choose_err l
  (refine w ?_; repeat ((first | refine VO.step rfl rfl ?_ | refine VD.end rfl rfl rfl ?_ | refine VD.mid rfl rfl rfl ?_); refine OpV.box rfl rfl rfl ?_; intro _; refine w ?_))
  ((first | refine VO.step rfl rfl ?_ | refine VD.end rfl rfl rfl ?_ | refine VD.mid rfl rfl rfl ?_); refine OpV.call rfl rfl (fun _ _ => by simp) (choose_n (l := lentL l es) hLl (by omega) (hBL _ Ent.re)) Ent.refl rfl ?_)
  rintro ⟨xo, xc⟩ _
  dsimp only
  refine VO.know (p := xo = none → (chooseM (lentL l es)).2.st.length = 0) (fun w hw => Holds.ownNone hw (.head _)) ?_
  intro hxn
  refine VO.know (p := (chooseM (lentL l es)).2.st.length ≤ xc) (fun w hw => Holds.ownCap hw (.head _)) ?_
  intro hxc
  have hxl := choose_stlen (lentL l es)
  rw [hLl] at hxl
  have hvf := choose_fit (lentL l es) hLf (xo, xc) hxc
  (refine w ?_; repeat ((first | refine VO.step rfl rfl ?_ | refine VD.end rfl rfl rfl ?_ | refine VD.mid rfl rfl rfl ?_); refine OpV.box rfl rfl rfl ?_; intro _; refine w ?_))
  ((first | refine VO.step rfl rfl ?_ | refine VD.end rfl rfl rfl ?_ | refine VD.mid rfl rfl rfl ?_); refine OpV.allocS sb_32 rfl ?_; intro n4)
  (refine w ?_; repeat ((first | refine VO.step rfl rfl ?_ | refine VD.end rfl rfl rfl ?_ | refine VD.mid rfl rfl rfl ?_); refine OpV.box rfl rfl rfl ?_; intro _; refine w ?_))
  (first | refine VO.step rfl rfl ?_ | refine VD.end rfl rfl rfl ?_ | refine VD.mid rfl rfl rfl ?_)
  refine OpV.stA (vs := (chooseM (lentL l es)).2.cells (xo, xc)) tab_ok rfl rfl rfl rfl (vCells_one _ _ _ _ _ _ _) (by (repeat first | exact .head | apply Hole.tail)) (by simp) ?_
  refine VO.ent (Reord.ent (L := Row n4 32 ((chooseM (lentL l es)).2.cells (xo, xc)) :: Own 59 1 (.slice xo (chooseM (lentL l es)).2.st.length xc) (chooseM (lentL l es)).2.st.length (bytes (chooseM (lentL l es)).2.st) :: LentB l es a cp :: Sl.star (lentR l es) :: []) (by (repeat first | exact .refl | (apply Reord.cons; focus repeat first | exact .head | apply Del.tail) | exact .nil | apply Reord.drop))) ?_
  (refine w ?_; repeat ((first | refine VO.step rfl rfl ?_ | refine VD.end rfl rfl rfl ?_ | refine VD.mid rfl rfl rfl ?_); refine OpV.box rfl rfl rfl ?_; intro _; refine w ?_))
  ((first | refine VO.step rfl rfl ?_ | refine VD.end rfl rfl rfl ?_ | refine VD.mid rfl rfl rfl ?_); refine OpV.call rfl rfl (fun _ _ => by simp) (choose_n (l := lentL l es) hLl (by omega) (hBL _ Ent.re)) Ent.refl rfl ?_)
  rintro ⟨yo, yc⟩ _
  dsimp only
  refine VO.know (p := yo = none → (chooseM (lentL l es)).2.st.length = 0) (fun w hw => Holds.ownNone hw (.head _)) ?_
  intro hyn
  refine VO.know (p := (chooseM (lentL l es)).2.st.length ≤ yc) (fun w hw => Holds.ownCap hw (.head _)) ?_
  intro hyc
  have hwf := choose_fit (lentL l es) hLf (yo, yc) hyc
  (refine w ?_; repeat ((first | refine VO.step rfl rfl ?_ | refine VD.end rfl rfl rfl ?_ | refine VD.mid rfl rfl rfl ?_); refine OpV.box rfl rfl rfl ?_; intro _; refine w ?_))
  ((first | refine VO.step rfl rfl ?_ | refine VD.end rfl rfl rfl ?_ | refine VD.mid rfl rfl rfl ?_); refine OpV.allocS sb_32 rfl ?_; intro n6)
  (refine w ?_; repeat ((first | refine VO.step rfl rfl ?_ | refine VD.end rfl rfl rfl ?_ | refine VD.mid rfl rfl rfl ?_); refine OpV.box rfl rfl rfl ?_; intro _; refine w ?_))
  (first | refine VO.step rfl rfl ?_ | refine VD.end rfl rfl rfl ?_ | refine VD.mid rfl rfl rfl ?_)
  refine OpV.stA (vs := (chooseM (lentL l es)).2.cells (yo, yc)) tab_ok rfl rfl rfl rfl (vCells_one _ _ _ _ _ _ _) (by (repeat first | exact .head | apply Hole.tail)) (by simp) ?_
  generalize chooseM (lentL l es) = X at *
  obtain ⟨e, v⟩ := X
  dsimp only at hs1 hs2 hs3 hxn hxc hxl hyn hyc hvf hwf ⊢
  rw [resS xo xc v.st, resS yo yc v.st]
  refine VO.ent (H' := LentB l es a cp :: (lentR l es ++ (Row n6 32 (v.cells (yo, yc)) :: Stt.ListE.res ⟨yo, yc, bytes v.st⟩ :: Row n4 32 (v.cells (xo, xc)) :: Stt.ListE.res ⟨xo, xc, bytes v.st⟩ :: []))) (Ent.trans (Ent.re (L := LentB l es a cp :: Sl.star (lentR l es) :: Row n6 32 (v.cells (yo, yc)) :: Stt.ListE.res ⟨yo, yc, bytes v.st⟩ :: Row n4 32 (v.cells (xo, xc)) :: Stt.ListE.res ⟨xo, xc, bytes v.st⟩ :: [])) ent_lent) ?_
  (refine w ?_; repeat ((first | refine VO.step rfl rfl ?_ | refine VD.end rfl rfl rfl ?_ | refine VD.mid rfl rfl rfl ?_); refine OpV.box rfl rfl rfl ?_; intro _; refine w ?_))
  ((first | refine VO.step rfl rfl ?_ | refine VD.end rfl rfl rfl ?_ | refine VD.mid rfl rfl rfl ?_); refine OpV.call rfl rfl (fun _ _ => by simp) (wholeb_ok l es hes hB hl1 hl2) Ent.refl rfl ?_)
  intro _ _
  (refine w ?_; repeat ((first | refine VO.step rfl rfl ?_ | refine VD.end rfl rfl rfl ?_ | refine VD.mid rfl rfl rfl ?_); refine OpV.box rfl rfl rfl ?_; intro _; refine w ?_))
  ((first | refine VO.step rfl rfl ?_ | refine VD.end rfl rfl rfl ?_ | refine VD.mid rfl rfl rfl ?_); refine OpV.call rfl rfl (fun _ _ => by simp) (spoilb_ok l es hes hl1) Ent.refl rfl ?_)
  intro _ _
  (refine w ?_; repeat ((first | refine VO.step rfl rfl ?_ | refine VD.end rfl rfl rfl ?_ | refine VD.mid rfl rfl rfl ?_); refine OpV.box rfl rfl rfl ?_; intro _; refine w ?_))
  ((first | refine VO.step rfl rfl ?_ | refine VD.end rfl rfl rfl ?_ | refine VD.mid rfl rfl rfl ?_); refine OpV.call rfl rfl (fun _ _ => by simp) (rchoose_ok hB hl1) Ent.refl rfl ?_)
  rintro ⟨zo, zc⟩ _
  dsimp only
  refine VO.know (p := zo = none → (chooseM l).2.st.length = 0) (fun w hw => Holds.ownNone hw (.head _)) ?_
  intro hzn
  refine VO.know (p := (chooseM l).2.st.length ≤ zc) (fun w hw => Holds.ownCap hw (.head _)) ?_
  intro hzc
  have huf := choose_fit l hf (zo, zc) hzc
  (refine w ?_; repeat ((first | refine VO.step rfl rfl ?_ | refine VD.end rfl rfl rfl ?_ | refine VD.mid rfl rfl rfl ?_); refine OpV.box rfl rfl rfl ?_; intro _; refine w ?_))
  ((first | refine VO.step rfl rfl ?_ | refine VD.end rfl rfl rfl ?_ | refine VD.mid rfl rfl rfl ?_); refine OpV.allocS sb_32 rfl ?_; intro n9)
  (refine w ?_; repeat ((first | refine VO.step rfl rfl ?_ | refine VD.end rfl rfl rfl ?_ | refine VD.mid rfl rfl rfl ?_); refine OpV.box rfl rfl rfl ?_; intro _; refine w ?_))
  (first | refine VO.step rfl rfl ?_ | refine VD.end rfl rfl rfl ?_ | refine VD.mid rfl rfl rfl ?_)
  refine OpV.stA (vs := (chooseM l).2.cells (zo, zc)) tab_ok rfl rfl rfl rfl (vCells_one _ _ _ _ _ _ _) (by (repeat first | exact .head | apply Hole.tail)) (by simp) ?_
  generalize chooseM l = X at *
  obtain ⟨e', u⟩ := X
  dsimp only at hs1 hs2 hs3 hzn hzc huf herr ⊢
  subst hs1
  (refine w ?_; repeat ((first | refine VO.step rfl rfl ?_ | refine VD.end rfl rfl rfl ?_ | refine VD.mid rfl rfl rfl ?_); refine OpV.box rfl rfl rfl ?_; intro _; refine w ?_))
  (apply VO.pure rfl rfl; apply PureAt.build sb_55 rfl; (simp [buildX, setL, Value.cells]; rfl); rfl)
  (refine w ?_; repeat ((first | refine VO.step rfl rfl ?_ | refine VD.end rfl rfl rfl ?_ | refine VD.mid rfl rfl rfl ?_); refine OpV.box rfl rfl rfl ?_; intro _; refine w ?_))
  rename_i bk
  refine VO.ent (H' := Stt.BookR bk [] :: Stt.ListE.res ⟨xo, xc, bytes v.st⟩ :: Stt.ListE.res ⟨yo, yc, bytes v.st⟩ :: Row n9 32 (u.cells (zo, zc)) :: Own 59 1 (.slice zo u.st.length zc) u.st.length (bytes u.st) :: Row n6 32 (v.cells (yo, yc)) :: Row n4 32 (v.cells (xo, xc)) :: []) (Ent.trans (Ent.re (L := Row bk 55 (Stt.bookRow none 0 0) :: Stt.ListE.res ⟨xo, xc, bytes v.st⟩ :: Stt.ListE.res ⟨yo, yc, bytes v.st⟩ :: Row n9 32 (u.cells (zo, zc)) :: Own 59 1 (.slice zo u.st.length zc) u.st.length (bytes u.st) :: Row n6 32 (v.cells (yo, yc)) :: Row n4 32 (v.cells (xo, xc)) :: [])) (fun w hw => Stt.BookR.shut (E := []) (lo := none) (lc := 0) ((hw.ownNil _ _).swap))) ?_
  (refine w ?_; repeat ((first | refine VO.step rfl rfl ?_ | refine VD.end rfl rfl rfl ?_ | refine VD.mid rfl rfl rfl ?_); refine OpV.box rfl rfl rfl ?_; intro _; refine w ?_))
  ((first | refine VO.step rfl rfl ?_ | refine VD.end rfl rfl rfl ?_ | refine VD.mid rfl rfl rfl ?_); refine OpV.call rfl rfl (fun _ _ => by simp) (Stt.booksuper_ok bk [] (v.sup (xo, xc)) _ ⟨xo, xc, bytes v.st⟩ (by simp) rfl (by simp [VerD.sup])) Ent.refl rfl ?_)
  intro _ _
  (refine w ?_; repeat ((first | refine VO.step rfl rfl ?_ | refine VD.end rfl rfl rfl ?_ | refine VD.mid rfl rfl rfl ?_); refine OpV.box rfl rfl rfl ?_; intro _; refine w ?_))
  ((first | refine VO.step rfl rfl ?_ | refine VD.end rfl rfl rfl ?_ | refine VD.mid rfl rfl rfl ?_); refine OpV.call rfl rfl (fun _ _ => by simp) (Stt.booksuper_ok bk _ (v.sup (yo, yc)) _ ⟨yo, yc, bytes v.st⟩ (by simp) rfl (by simp [VerD.sup])) Ent.refl rfl ?_)
  intro _ _
  (refine w ?_; repeat ((first | refine VO.step rfl rfl ?_ | refine VD.end rfl rfl rfl ?_ | refine VD.mid rfl rfl rfl ?_); refine OpV.box rfl rfl rfl ?_; intro _; refine w ?_))
  ((first | refine VO.step rfl rfl ?_ | refine VD.end rfl rfl rfl ?_ | refine VD.mid rfl rfl rfl ?_); refine OpV.call rfl rfl (fun _ _ => by simp) (vknown_ok) Ent.refl rfl ?_; intro _ _)
  (refine w ?_; repeat ((first | refine VO.step rfl rfl ?_ | refine VD.end rfl rfl rfl ?_ | refine VD.mid rfl rfl rfl ?_); refine OpV.box rfl rfl rfl ?_; intro _; refine w ?_))
  (first | refine VO.gT rfl rfl rfl (by rw [IntWalk.i64_in _ ⟨by omega, by omega⟩]; simp) ?_ | refine VD.gT rfl rfl rfl (by rw [IntWalk.i64_in _ ⟨by omega, by omega⟩]; simp) ?_)
  (refine w ?_; repeat ((first | refine VO.step rfl rfl ?_ | refine VD.end rfl rfl rfl ?_ | refine VD.mid rfl rfl rfl ?_); refine OpV.box rfl rfl rfl ?_; intro _; refine w ?_))
  (first | refine VO.gT rfl rfl rfl (by rw [IntWalk.i64_in _ ⟨by omega, by omega⟩]; simp) ?_ | refine VD.gT rfl rfl rfl (by rw [IntWalk.i64_in _ ⟨by omega, by omega⟩]; simp) ?_)
  have hRv : ∀ (H : List SProp), Stt.BookR bk ([] ++ [⟨xo, xc, bytes v.st⟩] ++ [⟨yo, yc, bytes v.st⟩]) ∈ H → Rds W H 1 xo v.st.length (bytes v.st) := fun H hm => by
    have := book_rds (W := W) (e := ⟨xo, xc, bytes v.st⟩) hm (by simp) (bytes_one _) (fun h => by simp; exact List.eq_nil_of_length_eq_zero (hxn h))
    simpa using this
  have hRw : ∀ (H : List SProp), Stt.BookR bk ([] ++ [⟨xo, xc, bytes v.st⟩] ++ [⟨yo, yc, bytes v.st⟩]) ∈ H → Rds W H 1 yo v.st.length (bytes v.st) := fun H hm => by
    have := book_rds (W := W) (e := ⟨yo, yc, bytes v.st⟩) hm (by simp) (bytes_one _) (fun h => by simp; exact List.eq_nil_of_length_eq_zero (hyn h))
    simpa using this
  (refine w ?_; repeat ((first | refine VO.step rfl rfl ?_ | refine VD.end rfl rfl rfl ?_ | refine VD.mid rfl rfl rfl ?_); refine OpV.box rfl rfl rfl ?_; intro _; refine w ?_))
  ((first | refine VO.step rfl rfl ?_ | refine VD.end rfl rfl rfl ?_ | refine VD.mid rfl rfl rfl ?_); refine OpV.call rfl rfl (fun _ _ => by simp) (samever_ok v u (xo, xc) (zo, zc) hvf huf (hRv _ (.head _)) (Rds.own (bytes_one _) (by (focus repeat first | exact .head _ | apply List.Mem.tail)) (by simp) hzn)) Ent.refl rfl ?_; intro _ _)
  rw [hs2]
  (refine w ?_; repeat ((first | refine VO.step rfl rfl ?_ | refine VD.end rfl rfl rfl ?_ | refine VD.mid rfl rfl rfl ?_); refine OpV.box rfl rfl rfl ?_; intro _; refine w ?_))
  ((first | refine VO.step rfl rfl ?_ | refine VD.end rfl rfl rfl ?_ | refine VD.mid rfl rfl rfl ?_); refine OpV.call rfl rfl (fun _ _ => by simp) (samever_ok v u (yo, yc) (zo, zc) hwf huf (hRw _ (.head _)) (Rds.own (bytes_one _) (by (focus repeat first | exact .head _ | apply List.Mem.tail)) (by simp) hzn)) Ent.refl rfl ?_; intro _ _)
  rw [hs2]
  (refine w ?_; repeat ((first | refine VO.step rfl rfl ?_ | refine VD.end rfl rfl rfl ?_ | refine VD.mid rfl rfl rfl ?_); refine OpV.box rfl rfl rfl ?_; intro _; refine w ?_))
  ((first | refine VO.step rfl rfl ?_ | refine VD.end rfl rfl rfl ?_ | refine VD.mid rfl rfl rfl ?_); refine OpV.call rfl rfl (fun _ _ => by simp) (Stt.bookown_ok bk _ (by simp) (fun e he => by
    simp only [List.nil_append, List.cons_append, List.mem_cons, List.not_mem_nil, or_false] at he
    rcases he with rfl | rfl <;> · simp; omega)) Ent.refl rfl ?_; intro _ _)
  (refine w ?_; repeat ((first | refine VO.step rfl rfl ?_ | refine VD.end rfl rfl rfl ?_ | refine VD.mid rfl rfl rfl ?_); refine OpV.box rfl rfl rfl ?_; intro _; refine w ?_))
  (refine VE.done1 rfl ?_ ?_)
  · rfl
  · exact Ent.re
end Go.Proofs.Ytlflmnmkgaeabaa
