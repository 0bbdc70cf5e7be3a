/- SuperWrites: the walk of the law. -/
import Derived.Test.YtgkpdpoblofehaaGreatPi
import Derived.Test.YtgkpdpoblofehaaGreatPt
import Derived.Test.YtgkpdpoblofehaaGreatBo
set_option maxRecDepth 8000
set_option linter.unusedVariables false
set_option linter.unusedSimpArgs false
set_option linter.unusedSectionVars false
namespace Go.Proofs.YtgkpdpoblofehaaGreat
open Go.RowKit Go.Sl
attribute [local irreducible] Own

abbrev entP (x : Option Addr × Nat) (X : List UInt8) : ListE := ⟨x.1, x.2, bytes X⟩
theorem bookP_new {W : World} {R : List SProp} (b : Nat) : Ent W (Row b 53 (bookRow none 0 0) :: R) (BookR b [] :: R) := fun w hw =>
  BookR.shut (lo := none) (lc := 0) (E := []) (R := R) ((hw.ownNil 32 1).swap)
theorem bookP_ok {W : World} {R : List SProp} (b : Nat) (E : List ListE) (x : Option Addr × Nat) (X : List UInt8) (hn : E.length ≤ 1000000000) :
    Does1 W Tryz.prog 10 [.pointer (some ⟨b, 0, none⟩), .slice x.1 X.length x.2] (BookR b E :: OwnB x X :: R) (.tuple #[]) (BookR b (E ++ [entP x X]) :: R) := by
  have h := bookbytes_ok (W := W) (R := R) b E (entP x X) hn
  unfold ListE.res at h
  simp only [bytes_length] at h
  exact h
theorem bookP_rds {W : World} {H : List SProp} {b : Nat} {E : List ListE} {x : Option Addr × Nat} {X : List UInt8} (m : BookR b E ∈ H) (he : entP x X ∈ E) (hn : x.1 = none → X.length = 0) : Rds W H 1 x.1 X.length (bytes X) := by
  refine ⟨by simp, bytes_one _, hn, fun w hw => ?_⟩
  obtain ⟨R, p⟩ := mem_perm m
  obtain ⟨y, h3⟩ := BookR.open (hw.perm p)
  have hm : ListE.res (entP x X) ∈ Row b 53 (bookRow y.1 E.length y.2) :: Own 32 1 (.slice y.1 E.length y.2) E.length (E.map ListE.hdr) :: (E.map ListE.res ++ R) := .tail _ (.tail _ (List.mem_append_left _ (List.mem_map_of_mem he)))
  exact (Rds.own (W := W) (H := _) (bytes_one X) hm (by simp) (by simpa using hn)).cell w h3
theorem senc_small (s : SuperD) (hf : s.fit) : (s.enc.1 = 0 ∨ s.enc.1 = 70) ∧ s.enc.2.length ≤ 128 := by
  by_cases hok : s.okP
  · rw [senc_ok hok]; exact ⟨.inl rfl, by rw [enc_length (okP_in hf hok)]; exact Nat.le_refl _⟩
  · rw [senc_bad hok]; exact ⟨.inr rfl, by simp⟩
set_option maxHeartbeats 4000000 in
theorem superwrites_ok {W : World} (s : SuperD) (hf : s.fit) (hr : RdsA W 1 s.so s.states.length (bytes s.states)) :
    Does1 W Tryz.prog 3 [.agg s.cells.toArray] [] (.bool true) [] := by
  (refine Does.enter Tryz.func3 Tryz.ntmps3 rfl rfl ?_)
  (refine w ?_; repeat ((first | refine VO.step rfl rfl ?_ | refine VD.end rfl rfl rfl ?_ | refine VD.mid rfl rfl rfl ?_); refine OpV.box rfl rfl rfl ?_; intro _; refine w ?_))
  (refine VC.cond rfl rfl ?_ ?_ <;> intro hc)
  · (refine w ?_; repeat ((first | refine VO.step rfl rfl ?_ | refine VD.end rfl rfl rfl ?_ | refine VD.mid rfl rfl rfl ?_); refine OpV.box rfl rfl rfl ?_; intro _; refine w ?_))
    (refine VE.done1 rfl ?_ ?_)
    · rfl
    · exact Ent.re
  rename_i b1
  have hlen : s.states.length ≤ 100000 := by have := of_decide_eq_false hc; omega
  (refine w ?_; repeat ((first | refine VO.step rfl rfl ?_ | refine VD.end rfl rfl rfl ?_ | refine VD.mid rfl rfl rfl ?_); refine OpV.box rfl rfl rfl ?_; intro _; refine w ?_))
  ((first | refine VO.step rfl rfl ?_ | refine VD.end rfl rfl rfl ?_ | refine VD.mid rfl rfl rfl ?_); refine OpV.call rfl rfl (fun _ _ => by simp) (lentsup_ok s hr (by omega)) Ent.refl rfl ?_)
  rintro ⟨la, lc⟩ -
  refine VO.know (p := s.states.length + 2 ≤ lc) (fun w hw => Holds.ownCap hw (.head _)) ?_
  intro hlc
  have hfl := lend_fit hf (la, lc) (by simp only; omega)
  have hcl : (s.lend (la, lc)).check = s.check := by
    have h : (s.lend (la, lc)).okP ↔ s.okP := Iff.rfl
    unfold SuperD.check
    by_cases hk : s.okP
    · rw [if_pos hk, if_pos (h.2 hk)]
    · rw [if_neg hk, if_neg (fun q => hk (h.1 q))]
  have hel : (s.lend (la, lc)).enc = s.enc := by
    have h : (s.lend (la, lc)).okP ↔ s.okP := Iff.rfl
    unfold SuperD.enc
    by_cases hk : s.okP
    · rw [if_pos hk, if_pos (h.2 hk)]; rfl
    · rw [if_neg hk, if_neg (fun q => hk (h.1 q))]
  have hck : s.check = s.enc.1 := by
    by_cases hok : s.okP
    · rw [senc_ok hok]; exact if_pos hok
    · rw [senc_bad hok]; exact if_neg hok
  obtain ⟨he, hX⟩ := senc_small s hf
  have hlr : ∀ H, Stt.LentO la lc s.states ∈ H → Rds W H 1 (s.lend (la, lc)).so (s.lend (la, lc)).states.length (bytes (s.lend (la, lc)).states) := fun H m => lentst_rds m
  have hspoil := fun R => spoilsup_ok (W := W) (R := R) s (la, lc)
  have hwhole := fun H m => wholesup_ok (W := W) (H := H) s (la, lc) hf (by simp only; omega) hr (by omega) m
  obtain ⟨T, hT⟩ : ∃ T, T = s.lend (la, lc) := ⟨_, rfl⟩
  rw [← hT] at hfl hcl hel hlr hspoil hwhole ⊢
  dsimp only at hspoil hwhole
  obtain ⟨E, hE⟩ : ∃ E, E = s.enc := ⟨_, rfl⟩
  rw [← hE] at hck hel he hX
  obtain ⟨e, X⟩ := E
  dsimp only at hck he hX
  (refine w ?_; repeat ((first | refine VO.step rfl rfl ?_ | refine VD.end rfl rfl rfl ?_ | refine VD.mid rfl rfl rfl ?_); refine OpV.box rfl rfl rfl ?_; intro _; refine w ?_))
  ((first | refine VO.step rfl rfl ?_ | refine VD.end rfl rfl rfl ?_ | refine VD.mid rfl rfl rfl ?_); refine OpV.allocS sb_27 rfl ?_; intro n3)
  (refine w ?_; repeat ((first | refine VO.step rfl rfl ?_ | refine VD.end rfl rfl rfl ?_ | refine VD.mid rfl rfl rfl ?_); refine OpV.box rfl rfl rfl ?_; intro _; refine w ?_))
  (first | refine VO.step rfl rfl ?_ | refine VD.end rfl rfl rfl ?_ | refine VD.mid rfl rfl rfl ?_)
  refine OpV.stA (vs := T.cells) tab_ok rfl rfl rfl rfl (super_one _) (by (repeat first | exact .head | apply Hole.tail)) (by simp) ?_
  refine VO.ent (Ent.re (L := Row n3 27 T.cells :: Row b1 27 s.cells :: Stt.LentO la lc s.states :: [])) ?_
  (refine w ?_; repeat ((first | refine VO.step rfl rfl ?_ | refine VD.end rfl rfl rfl ?_ | refine VD.mid rfl rfl rfl ?_); refine OpV.box rfl rfl rfl ?_; intro _; refine w ?_))
  ((first | refine VO.step rfl rfl ?_ | refine VD.end rfl rfl rfl ?_ | refine VD.mid rfl rfl rfl ?_); refine OpV.call rfl rfl (fun _ _ => by simp) (scheck_ok T hfl (hlr _ (by (focus repeat first | exact .head _ | apply List.Mem.tail)))) Ent.refl rfl ?_)
  intro _ _
  rw [hcl, hck]
  (refine w ?_; repeat ((first | refine VO.step rfl rfl ?_ | refine VD.end rfl rfl rfl ?_ | refine VD.mid rfl rfl rfl ?_); refine OpV.box rfl rfl rfl ?_; intro _; refine w ?_))
  ((first | refine VO.step rfl rfl ?_ | refine VD.end rfl rfl rfl ?_ | refine VD.mid rfl rfl rfl ?_); refine OpV.call rfl rfl (fun _ _ => by simp) (sencode_ok T hfl (hlr _ (by (focus repeat first | exact .head _ | apply List.Mem.tail)))) Ent.refl rfl ?_)
  rw [hel]; dsimp only
  rintro ⟨a1, c1⟩ -
  (refine VO.know (p := a1 = none → (X).length = 0) (fun w hw => hw.ownNone (.head _)) ?_; intro hn1; refine VO.know (p := (X).length ≤ c1) (fun w hw => hw.ownCap (.head _)) ?_; intro hc1)
  (refine w ?_; repeat ((first | refine VO.step rfl rfl ?_ | refine VD.end rfl rfl rfl ?_ | refine VD.mid rfl rfl rfl ?_); refine OpV.box rfl rfl rfl ?_; intro _; refine w ?_))
  ((first | refine VO.step rfl rfl ?_ | refine VD.end rfl rfl rfl ?_ | refine VD.mid rfl rfl rfl ?_); refine OpV.call rfl rfl (fun _ _ => by simp) (sencode_ok T hfl (hlr _ (by (focus repeat first | exact .head _ | apply List.Mem.tail)))) Ent.refl rfl ?_)
  rw [hel]; dsimp only
  rintro ⟨a2, c2⟩ -
  (refine VO.know (p := a2 = none → (X).length = 0) (fun w hw => hw.ownNone (.head _)) ?_; intro hn2; refine VO.know (p := (X).length ≤ c2) (fun w hw => hw.ownCap (.head _)) ?_; intro hc2)
  (refine w ?_; repeat ((first | refine VO.step rfl rfl ?_ | refine VD.end rfl rfl rfl ?_ | refine VD.mid rfl rfl rfl ?_); refine OpV.box rfl rfl rfl ?_; intro _; refine w ?_))
  ((first | refine VO.step rfl rfl ?_ | refine VD.end rfl rfl rfl ?_ | refine VD.mid rfl rfl rfl ?_); refine OpV.call rfl rfl (fun _ _ => by simp) (hwhole _ (by (focus repeat first | exact .head _ | apply List.Mem.tail))) Ent.refl rfl ?_)
  intro _ _
  (refine w ?_; repeat ((first | refine VO.step rfl rfl ?_ | refine VD.end rfl rfl rfl ?_ | refine VD.mid rfl rfl rfl ?_); refine OpV.box rfl rfl rfl ?_; intro _; refine w ?_))
  (((first | refine VO.step rfl rfl ?_ | refine VD.end rfl rfl rfl ?_ | refine VD.mid rfl rfl rfl ?_); refine OpV.call rfl rfl (fun _ _ => by simp) (hspoil _) Ent.re rfl ?_); intro _ _)
  (refine w ?_; repeat ((first | refine VO.step rfl rfl ?_ | refine VD.end rfl rfl rfl ?_ | refine VD.mid rfl rfl rfl ?_); refine OpV.box rfl rfl rfl ?_; intro _; refine w ?_))
  ((first | refine VO.step rfl rfl ?_ | refine VD.end rfl rfl rfl ?_ | refine VD.mid rfl rfl rfl ?_); refine OpV.call rfl rfl (fun _ _ => by simp) (rsencode_ok s hf (hr _)) Ent.refl rfl ?_)
  rw [← hE]; dsimp only
  rintro ⟨a3, c3⟩ -
  (refine VO.know (p := a3 = none → (X).length = 0) (fun w hw => hw.ownNone (.head _)) ?_; intro hn3; refine VO.know (p := (X).length ≤ c3) (fun w hw => hw.ownCap (.head _)) ?_; intro hc3)
  (refine w ?_; repeat ((first | refine VO.step rfl rfl ?_ | refine VD.end rfl rfl rfl ?_ | refine VD.mid rfl rfl rfl ?_); refine OpV.box rfl rfl rfl ?_; intro _; refine w ?_))
  (apply VO.pure rfl rfl; apply PureAt.build sb_53 (pv := []) rfl; rfl; rfl)
  (refine w ?_; repeat ((first | refine VO.step rfl rfl ?_ | refine VD.end rfl rfl rfl ?_ | refine VD.mid rfl rfl rfl ?_); refine OpV.box rfl rfl rfl ?_; intro _; refine w ?_))
  rename_i bk
  refine VO.ent (Ent.trans (Ent.re (L := Row bk 53 (bookRow none 0 0) :: OwnB (a1, c1) X :: OwnB (a2, c2) X :: OwnB (a3, c3) X :: Row b1 27 s.cells :: [])) (bookP_new bk)) ?_
  (refine w ?_; repeat ((first | refine VO.step rfl rfl ?_ | refine VD.end rfl rfl rfl ?_ | refine VD.mid rfl rfl rfl ?_); refine OpV.box rfl rfl rfl ?_; intro _; refine w ?_))
  ((first | refine VO.step rfl rfl ?_ | refine VD.end rfl rfl rfl ?_ | refine VD.mid rfl rfl rfl ?_); refine OpV.call rfl rfl (fun _ _ => by simp) (bookP_ok bk [] (a1, c1) X (by simp)) Ent.refl rfl ?_)
  intro _ _
  (refine w ?_; repeat ((first | refine VO.step rfl rfl ?_ | refine VD.end rfl rfl rfl ?_ | refine VD.mid rfl rfl rfl ?_); refine OpV.box rfl rfl rfl ?_; intro _; refine w ?_))
  ((first | refine VO.step rfl rfl ?_ | refine VD.end rfl rfl rfl ?_ | refine VD.mid rfl rfl rfl ?_); refine OpV.call rfl rfl (fun _ _ => by simp) (bookP_ok bk _ (a2, c2) X (by simp)) Ent.refl rfl ?_)
  intro _ _
  (refine w ?_; repeat ((first | refine VO.step rfl rfl ?_ | refine VD.end rfl rfl rfl ?_ | refine VD.mid rfl rfl rfl ?_); refine OpV.box rfl rfl rfl ?_; intro _; refine w ?_))
  ((first | refine VO.step rfl rfl ?_ | refine VD.end rfl rfl rfl ?_ | refine VD.mid rfl rfl rfl ?_); refine OpV.call rfl rfl (fun _ _ => by simp) (supknown_ok) Ent.refl rfl ?_)
  intro _ _
  (refine w ?_; repeat ((first | refine VO.step rfl rfl ?_ | refine VD.end rfl rfl rfl ?_ | refine VD.mid rfl rfl rfl ?_); refine OpV.box rfl rfl rfl ?_; intro _; refine w ?_))
  ((first | refine VO.step rfl rfl ?_ | refine VD.end rfl rfl rfl ?_ | refine VD.mid rfl rfl rfl ?_); refine OpV.call rfl rfl (fun _ _ => by simp) (rcheck_ok s hf (hr _)) Ent.refl rfl ?_)
  intro _ _
  rw [hck]
  have hwi : (IntKind.i64.wrap e == e) = true := by rw [IntWalk.i64_in _ ⟨by omega, by omega⟩]; simp
  (refine w ?_; repeat ((first | refine VO.step rfl rfl ?_ | refine VD.end rfl rfl rfl ?_ | refine VD.mid rfl rfl rfl ?_); refine OpV.box rfl rfl rfl ?_; intro _; refine w ?_))
  (first | refine VO.gT rfl rfl rfl (hwi) ?_ | refine VD.gT rfl rfl rfl (hwi) ?_)
  (refine w ?_; repeat ((first | refine VO.step rfl rfl ?_ | refine VD.end rfl rfl rfl ?_ | refine VD.mid rfl rfl rfl ?_); refine OpV.box rfl rfl rfl ?_; intro _; refine w ?_))
  (first | refine VO.gT rfl rfl rfl (hwi) ?_ | refine VD.gT rfl rfl rfl (hwi) ?_)
  (refine w ?_; repeat ((first | refine VO.step rfl rfl ?_ | refine VD.end rfl rfl rfl ?_ | refine VD.mid rfl rfl rfl ?_); refine OpV.box rfl rfl rfl ?_; intro _; refine w ?_))
  (first | refine VO.gT rfl rfl rfl (hwi) ?_ | refine VD.gT rfl rfl rfl (hwi) ?_)
  (refine w ?_; repeat ((first | refine VO.step rfl rfl ?_ | refine VD.end rfl rfl rfl ?_ | refine VD.mid rfl rfl rfl ?_); refine OpV.box rfl rfl rfl ?_; intro _; refine w ?_))
  ((first | refine VO.step rfl rfl ?_ | refine VD.end rfl rfl rfl ?_ | refine VD.mid rfl rfl rfl ?_); refine OpV.call rfl rfl (fun _ _ => by simp) (same_any (bookP_rds (x := (a1, c1)) (.head _) (by simp) hn1) (own_rds (x := (a3, c3)) hn3 (by (focus repeat first | exact .head _ | apply List.Mem.tail))) (by simp only [maxLen]; omega)) Ent.refl rfl ?_)
  intro _ _
  rw [decide_eq_true (rfl : X = X)]
  (refine w ?_; repeat ((first | refine VO.step rfl rfl ?_ | refine VD.end rfl rfl rfl ?_ | refine VD.mid rfl rfl rfl ?_); refine OpV.box rfl rfl rfl ?_; intro _; refine w ?_))
  ((first | refine VO.step rfl rfl ?_ | refine VD.end rfl rfl rfl ?_ | refine VD.mid rfl rfl rfl ?_); refine OpV.call rfl rfl (fun _ _ => by simp) (same_any (bookP_rds (x := (a2, c2)) (.head _) (by simp) hn2) (own_rds (x := (a3, c3)) hn3 (by (focus repeat first | exact .head _ | apply List.Mem.tail))) (by simp only [maxLen]; omega)) Ent.refl rfl ?_)
  intro _ _
  rw [decide_eq_true (rfl : X = X)]
  (refine w ?_; repeat ((first | refine VO.step rfl rfl ?_ | refine VD.end rfl rfl rfl ?_ | refine VD.mid rfl rfl rfl ?_); refine OpV.box rfl rfl rfl ?_; intro _; refine w ?_))
  ((first | refine VO.step rfl rfl ?_ | refine VD.end rfl rfl rfl ?_ | refine VD.mid rfl rfl rfl ?_); refine OpV.call rfl rfl (fun _ _ => by simp) (bookown_ok bk _ (by simp) (fun e he => by
      simp only [List.nil_append, List.cons_append, List.mem_cons, List.not_mem_nil, or_false] at he
      rcases he with rfl | rfl <;> · simp; omega)) Ent.refl rfl ?_)
  intro _ _
  (refine w ?_; repeat ((first | refine VO.step rfl rfl ?_ | refine VD.end rfl rfl rfl ?_ | refine VD.mid rfl rfl rfl ?_); refine OpV.box rfl rfl rfl ?_; intro _; refine w ?_))
  (refine VE.done1 rfl ?_ ?_)
  · rfl
  · exact Ent.re
end Go.Proofs.YtgkpdpoblofehaaGreat
