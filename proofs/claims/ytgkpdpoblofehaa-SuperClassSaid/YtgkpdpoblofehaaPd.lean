/- Package super: Encode. -/
import Derived.Test.YtgkpdpoblofehaaPc
set_option maxRecDepth 8000
set_option linter.unusedVariables false
set_option linter.unusedSimpArgs false
set_option linter.unusedSectionVars false
namespace Go.Proofs.Ytgkpdpoblofehaa
open Go.RowKit Go.Sl
attribute [local irreducible] Own

theorem append_drop : ∀ (L : List SProp) {R : List SProp}, Reord (L ++ R) R
  | [], _ => .refl
  | _ :: L, _ => .drop (append_drop L)
theorem drop_append : ∀ (R L : List SProp), Reord (R ++ L) R
  | [], _ => .nil
  | _ :: R, L => .cons .head (drop_append R L)
theorem fill_pad (X : List UInt8) (h : X.length ≤ 100) : (Pk.mk 128 X 0).fill (124 - X.length) 0 = ⟨128, padTo 124 X, 0⟩ := by
  have hr : (Pk.mk 128 X 0).room (124 - X.length) = ⟨128, X, 0⟩ := by
    unfold Pk.room; rw [if_neg]; rintro ⟨_, h2⟩; simp only at h2; omega
  have e : ((124 : Int) - X.length).toNat = 124 - X.length := by omega
  unfold Pk.fill
  rw [if_neg (by omega), hr, if_pos rfl, e]
  rfl
theorem senc_ok {s : SuperD} (h : s.okP) : s.enc = (0, sealS s.body) := if_pos h
theorem senc_bad {s : SuperD} (h : ¬ s.okP) : s.enc = (70, []) := if_neg h
set_option maxHeartbeats 2000000 in
theorem sencode_ok {W : World} {R : List SProp} (s : SuperD) (hf : s.fit) (hr : Rds W R 1 s.so s.states.length (bytes s.states)) :
    Does W Try.prog 75 [.agg s.cells.toArray] R (β := Option Addr × Nat) (fun _ => True) (fun x => .tuple #[.slice x.1 s.enc.2.length x.2, .int .u16 s.enc.1]) (fun x => OwnB x s.enc.2 :: R) := by
  (refine Does.enter Try.func75 Try.ntmps75 rfl rfl ?_)
  (refine w ?_; repeat ((first | refine VO.step rfl rfl ?_ | refine VD.end rfl rfl rfl ?_ | refine VD.mid rfl rfl rfl ?_); refine OpV.box rfl rfl rfl ?_; intro _; refine w ?_))
  rename_i sb
  ((first | refine VO.step rfl rfl ?_ | refine VD.end rfl rfl rfl ?_ | refine VD.mid rfl rfl rfl ?_); refine OpV.call rfl rfl (fun _ _ => by simp) (scheck_ok s hf (hr.ent (Ent.drop Ent.refl))) Ent.refl rfl ?_)
  intro _ _
  (refine w ?_; repeat ((first | refine VO.step rfl rfl ?_ | refine VD.end rfl rfl rfl ?_ | refine VD.mid rfl rfl rfl ?_); refine OpV.box rfl rfl rfl ?_; intro _; refine w ?_))
  by_cases hok : s.okP
  case neg =>
    rw [show s.check = 70 from if_neg hok]
    (refine w ?_; repeat ((first | refine VO.step rfl rfl ?_ | refine VD.end rfl rfl rfl ?_ | refine VD.mid rfl rfl rfl ?_); refine OpV.box rfl rfl rfl ?_; intro _; refine w ?_))
    refine VE.done (none, 0) rfl trivial (by rw [senc_bad hok]; rfl) ?_
    rw [senc_bad hok]; exact Ent.trans (Ent.re (L := R)) (fun w hw => hw.ownNil _ _)
  rw [show s.check = 0 from if_pos hok, senc_ok hok]
  have hin := okP_in hf hok
  (refine w ?_; repeat ((first | refine VO.step rfl rfl ?_ | refine VD.end rfl rfl rfl ?_ | refine VD.mid rfl rfl rfl ?_); refine OpV.box rfl rfl rfl ?_; intro _; refine w ?_))
  ((first | refine VO.step rfl rfl ?_ | refine VD.end rfl rfl rfl ?_ | refine VD.mid rfl rfl rfl ?_); refine OpV.call rfl rfl (fun _ _ => by simp) (new_ok 128 (by decide)) Ent.re rfl ?_)
  intro p _
  (refine w ?_; repeat ((first | refine VO.step rfl rfl ?_ | refine VD.end rfl rfl rfl ?_ | refine VD.mid rfl rfl rfl ?_); refine OpV.box rfl rfl rfl ?_; intro _; refine w ?_))
  ((first | refine VO.step rfl rfl ?_ | refine VD.end rfl rfl rfl ?_ | refine VD.mid rfl rfl rfl ?_); refine OpV.call rfl rfl (fun _ _ => by simp) (fields_ok) Ent.refl rfl ?_)
  rintro ⟨bx, fb⟩ -
  dsimp only
  (refine w ?_; repeat ((first | refine VO.step rfl rfl ?_ | refine VD.end rfl rfl rfl ?_ | refine VD.mid rfl rfl rfl ?_); refine OpV.box rfl rfl rfl ?_; intro _; refine w ?_))
  refine VC.loop (α := Nat) (fun k => k ≤ 13) (fun k => PackerR p ⟨128, s.had k, 0⟩ :: Row fb 160 (fieldCells bx) :: Row sb 89 s.cells :: (boxes bx ++ R))
    (fun k => [(1, .pointer (some ⟨sb, 0, none⟩)), (5, .pointer (some ⟨p, 0, none⟩)), (22, .slice (some ⟨fb, 0, none⟩) 13 13), (23, .int .i64 13), (24, .int .i64 k)]) (fun k => 13 - k) rfl 0 (by decide) ?_ ⟨rfl, rfl, rfl, rfl, rfl, trivial⟩ ?_
  · rw [had_zero]
    intro w hw
    refine hw.perm ?_
    exact (List.Perm.cons _ ((List.perm_append_comm (l₁ := boxes bx) (l₂ := [PackerR p ⟨128, [], 0⟩, Row sb 89 s.cells] ++ R)).trans (by simp only [List.cons_append, List.nil_append]; exact List.Perm.cons _ (List.Perm.cons _ List.perm_append_comm)))).trans (List.Perm.swap ..)
  intro k hk
  (refine w ?_; repeat ((first | refine VO.step rfl rfl ?_ | refine VD.end rfl rfl rfl ?_ | refine VD.mid rfl rfl rfl ?_); refine OpV.box rfl rfl rfl ?_; intro _; refine w ?_))
  (refine VC.cond rfl rfl ?_ ?_ <;> intro hc)
  · have hlt : k < 13 := by have := of_decide_eq_true hc; omega
    have hput := puts_all (W := W) (s := s) (R := Row fb 160 (fieldCells bx) :: Row sb 89 s.cells :: (boxes bx ++ R)) (x := bx) hin (fun q hq => .tail _ (.tail _ (List.mem_append_left _ hq))) (hr.ent (Ent.drop (Ent.drop (fun w hw => hw.reord (append_drop _)))))  k hlt
    have hat := fieldCells_at bx k hlt
    generalize hpq : (pairs bx)[k]'(by rw [pairs_length]; exact hlt) = pq at hput hat
    obtain ⟨vp, vg⟩ := pq
    have hone : ∀ u ∈ [vp, vg], u.oneCell' = true := fun u hu => fieldCells_one bx u (List.drop_subset _ _ (List.take_subset _ _ (by rw [hat]; exact hu)))
    dsimp only at hput hat
    obtain ⟨g, cap, rfl, hc1, spec⟩ := hput
    have hrow : Rds W (PackerR p ⟨128, s.had k, 0⟩ :: Row fb 160 (fieldCells bx) :: Row sb 89 s.cells :: (boxes bx ++ R)) 2 (some ⟨fb, 0, none⟩) 13 (fieldCells bx) := Rds.row (fieldCells_one bx) (by (focus repeat first | exact .head _ | apply List.Mem.tail)) rfl
    (refine w ?_; repeat ((first | refine VO.step rfl rfl ?_ | refine VD.end rfl rfl rfl ?_ | refine VD.mid rfl rfl rfl ?_); refine OpV.box rfl rfl rfl ?_; intro _; refine w ?_))
    (first | refine VO.pure rfl rfl (PureAt.ldRA tab_ok rfl rfl hrow hat rfl) rfl ?_ | refine VD.take rfl rfl rfl (PureAt.ldRA tab_ok rfl rfl hrow hat rfl) rfl ?_ | refine VQ.pure rfl rfl (PureAt.ldRA tab_ok rfl rfl hrow hat rfl) rfl ?_ | refine VD.end rfl rfl rfl (OpV.pure (PureAt.ldRA tab_ok rfl rfl hrow hat rfl) rfl ?_))
    (refine w ?_; repeat ((first | refine VO.step rfl rfl ?_ | refine VD.end rfl rfl rfl ?_ | refine VD.mid rfl rfl rfl ?_); refine OpV.box rfl rfl rfl ?_; intro _; refine w ?_))
    ((first | refine VO.step rfl rfl ?_ | refine VD.end rfl rfl rfl ?_ | refine VD.mid rfl rfl rfl ?_); refine OpV.allocS sbF rfl ?_; intro n8)
    (first | refine VO.step rfl rfl ?_ | refine VD.end rfl rfl rfl ?_ | refine VD.mid rfl rfl rfl ?_)
    refine OpV.stA tab_ok rfl rfl rfl rfl hone (by (repeat first | exact .head | apply Hole.tail)) (by simp) ?_
    (refine w ?_; repeat ((first | refine VO.step rfl rfl ?_ | refine VD.end rfl rfl rfl ?_ | refine VD.mid rfl rfl rfl ?_); refine OpV.box rfl rfl rfl ?_; intro _; refine w ?_))
    (first | refine VO.step rfl rfl ?_ | refine VD.end rfl rfl rfl ?_ | refine VD.mid rfl rfl rfl ?_)
    refine OpV.call rfl rfl hc1 (spec p) Ent.re rfl ?_
    intro _ _
    (refine w ?_; repeat ((first | refine VO.step rfl rfl ?_ | refine VD.end rfl rfl rfl ?_ | refine VD.mid rfl rfl rfl ?_); refine OpV.box rfl rfl rfl ?_; intro _; refine w ?_))
    refine VE.round (k + 1) (by omega) (by omega) ⟨rfl, rfl, rfl, rfl, asV rfl (by congr 1), trivial⟩ ?_
    exact Ent.re
  · have hge : k = 13 := by have := of_decide_eq_false hc; omega
    subst hge
    have h13 := had_len13 s
    have h16 := hin.len16
    have hbl := body_length hin
    have hel := enc_length hin
    have hbody : s.body = padTo 124 (s.had 13) := rfl
    generalize s.had 13 = X at *
    refine VC.ent (Ent.re (L := PackerR p ⟨128, X, 0⟩ :: (boxes bx ++ R))) ?_
    refine VC.ent (fun w hw => hw.perm (List.Perm.cons _ List.perm_append_comm)) ?_
    refine VC.ent (fun w hw => hw.reord (Reord.cons .head (drop_append _ _))) ?_
    (refine w ?_; repeat ((first | refine VO.step rfl rfl ?_ | refine VD.end rfl rfl rfl ?_ | refine VD.mid rfl rfl rfl ?_); refine OpV.box rfl rfl rfl ?_; intro _; refine w ?_))
    (((first | refine VO.step rfl rfl ?_ | refine VD.end rfl rfl rfl ?_ | refine VD.mid rfl rfl rfl ?_); refine OpV.call rfl rfl (fun _ _ => by simp) (at_ok p ⟨128, X, 0⟩) Ent.re rfl ?_); intro _ _)
    dsimp only
    (refine w ?_; repeat ((first | refine VO.step rfl rfl ?_ | refine VD.end rfl rfl rfl ?_ | refine VD.mid rfl rfl rfl ?_); refine OpV.box rfl rfl rfl ?_; intro _; refine w ?_))
    (((first | refine VO.step rfl rfl ?_ | refine VD.end rfl rfl rfl ?_ | refine VD.mid rfl rfl rfl ?_); refine OpV.call rfl rfl (fun _ _ => by simp) (fill_ok p ⟨128, X, 0⟩ (124 - (X).length) 0) Ent.re rfl ?_); intro _ _)
    rw [fill_pad X (by omega), ← hbody]
    (refine w ?_; repeat ((first | refine VO.step rfl rfl ?_ | refine VD.end rfl rfl rfl ?_ | refine VD.mid rfl rfl rfl ?_); refine OpV.box rfl rfl rfl ?_; intro _; refine w ?_))
    ((first | refine VO.step rfl rfl ?_ | refine VD.end rfl rfl rfl ?_ | refine VD.mid rfl rfl rfl ?_); refine OpV.call rfl rfl (fun _ _ => by simp) (bytes_ok p ⟨128, s.body, 0⟩ rfl) Ent.re rfl ?_)
    intro b _
    rw [image_pad]
    dsimp only
    generalize s.body = B at *
    (refine w ?_; repeat ((first | refine VO.step rfl rfl ?_ | refine VD.end rfl rfl rfl ?_ | refine VD.mid rfl rfl rfl ?_); refine OpV.box rfl rfl rfl ?_; intro _; refine w ?_))
    have hrB : Rds W (Own 5 1 (.slice (some ⟨b, 0, none⟩) 128 128) 128 (bytes (padTo 128 B)) :: PackerR p ⟨128, B, 0⟩ :: R) 1 (some ⟨b, 0, none⟩) 128 (bytes (padTo 128 B)) := Rds.own (bytes_one _) (.head _) (by rw [bytes_length, padTo_length (by omega)]) (by simp)
    have hp : (padTo 128 B).length = 128 := padTo_length (by omega)
    have hr4 := rds_head (l := padTo 128 B) (by rw [hp]; exact hrB) 124 (by omega)
    rw [show (padTo 128 B).take 124 = B from List.take_left' hbl] at hr4
    have hsum := sum_ok (W := W) (cap := 128) (l := B) (ao := some ⟨b, 0, none⟩) (by rw [hbl]; exact hr4) (by omega)
    rw [hbl] at hsum
    ((first | refine VO.step rfl rfl ?_ | refine VD.end rfl rfl rfl ?_ | refine VD.mid rfl rfl rfl ?_); refine OpV.call rfl rfl (fun _ _ => by simp) (hsum) Ent.refl rfl ?_)
    intro _ _
    (refine w ?_; repeat ((first | refine VO.step rfl rfl ?_ | refine VD.end rfl rfl rfl ?_ | refine VD.mid rfl rfl rfl ?_); refine OpV.box rfl rfl rfl ?_; intro _; refine w ?_))
    have hcr := (crcS B).isLt
    (((first | refine VO.step rfl rfl ?_ | refine VD.end rfl rfl rfl ?_ | refine VD.mid rfl rfl rfl ?_); refine OpV.call rfl rfl (fun _ _ => by simp) (u32_ok p ⟨128, B, 0⟩ (crcS B).toNat (by omega)) Ent.re rfl ?_); intro _ _)
    rw [Pk.number_good rfl (by simp only; omega)]
    dsimp only
    rw [show B ++ lowBytes (crcS B).toNat 4 = sealS B from rfl]
    (refine w ?_; repeat ((first | refine VO.step rfl rfl ?_ | refine VD.end rfl rfl rfl ?_ | refine VD.mid rfl rfl rfl ?_); refine OpV.box rfl rfl rfl ?_; intro _; refine w ?_))
    ((first | refine VO.step rfl rfl ?_ | refine VD.end rfl rfl rfl ?_ | refine VD.mid rfl rfl rfl ?_); refine OpV.call rfl rfl (fun _ _ => by simp) (bytes_ok p ⟨128, sealS B, 0⟩ rfl) Ent.re rfl ?_)
    intro b2 _
    rw [image_pad, show padTo 128 (sealS B) = sealS B by unfold padTo; rw [hel]; simp]
    dsimp only
    (refine w ?_; repeat ((first | refine VO.step rfl rfl ?_ | refine VD.end rfl rfl rfl ?_ | refine VD.mid rfl rfl rfl ?_); refine OpV.box rfl rfl rfl ?_; intro _; refine w ?_))
    refine VE.done (some ⟨b2, 0, none⟩, 128) rfl trivial (by rw [hel]; rfl) ?_
    rw [show OwnB (some ⟨b2, 0, none⟩, 128) (sealS B) = Own 5 1 (.slice (some ⟨b2, 0, none⟩) 128 128) 128 (bytes (sealS B)) by unfold OwnB; rw [hel]]
    exact Ent.re
end Go.Proofs.Ytgkpdpoblofehaa
