/- The document's disk: Fail, Image, Pending. -/
import Derived.Test.YthefmgmgmoanlaaRd
set_option maxRecDepth 8000
set_option linter.unusedVariables false
set_option linter.unusedSimpArgs false
set_option linter.unusedSectionVars false
namespace Go.Proofs.Ythefmgmgmoanlaa
open Go.RowKit Go.Sl
attribute [local irreducible] Own

theorem Ent.dropMid {W : World} {R : List SProp} : ∀ X : List SProp, Ent W (X ++ R) R
  | [] => Ent.refl
  | _ :: r => Ent.drop (Ent.dropMid r)

theorem docfail_ok {W : World} {R : List SProp} (d : Nat) (k : DiskD) :
    Does1 W Try.prog 107 [.pointer (some ⟨d, 0, none⟩)] (DocR d k :: R) (.tuple #[]) (DocR d ⟨k.last, [], true⟩ :: R) := by
  (refine Does.enter Try.func107 Try.ntmps107 rfl rfl ?_)
  refine VC.obtain (fun w => DocR.open) ?_
  rintro ⟨⟨⟨lo, lc⟩, ⟨co, cc⟩, C⟩, hk, hf⟩
  dsimp only [DocO]
  (refine w ?_; repeat ((first | refine VO.step rfl rfl ?_ | refine VD.end rfl rfl rfl ?_ | refine VD.mid rfl rfl rfl ?_); refine OpV.box rfl rfl rfl ?_; intro _; refine w ?_))
  (refine VE.done1N rfl ?_ ?_)
  · rfl
  · have := DocR.shut (W := W) (R := R) (d := d) (k := ⟨k.last, [], true⟩) (lo := lo) (lc := lc) (co := none) (cc := 0) (C := []) ⟨hk.last, fun c hc => absurd hc (by simp), hk.size⟩ rfl
    refine Ent.trans (fun w hw => ?_) this
    simp only [DocO, wcs, List.flatMap_nil, List.map_nil, List.nil_append, List.length_nil]
    have h1 : Holds W (Row d 157 [.slice lo k.last.flatten.length lc, .slice none 0 0, .bool true] :: Own 5 1 (.slice lo k.last.flatten.length lc) k.last.flatten.length (bytes k.last.flatten) :: Own 189 2 (.slice co C.length cc) C.length (wcs C) :: (C.map (fun c => c.2.res) ++ R)) w := hw
    have h2 := h1.ownNil 189 2
    have p1 : ∀ (A B D F : SProp) (X : List SProp), Holds W (A :: B :: D :: F :: (X ++ R)) w → Holds W (B :: D :: A :: R) w := fun A B D F X h => by
      have q : (A :: B :: D :: F :: (X ++ R)).Perm ((F :: X) ++ (B :: D :: A :: R)) := by
        refine ((List.perm_middle (l₁ := [A, B, D]) (a := F) (l₂ := X ++ R))).trans ?_
        refine List.Perm.cons _ ?_
        refine List.Perm.trans ?_ (List.perm_append_comm_assoc X [B, D, A] R).symm
        exact List.Perm.append_right (X ++ R) (((List.Perm.swap B A [D])).trans (List.Perm.cons B (List.Perm.swap D A [])))
      exact Ent.dropMid (F :: X) w (h.perm q)
    exact p1 _ _ _ _ _ h2

theorem docimage_bad {W : World} {R : List SProp} (d : Nat) (k : DiskD) (hfa : k.failed = true) :
    Does1 W Try.prog 106 [.pointer (some ⟨d, 0, none⟩)] (DocR d k :: R) (.slice none 0 0) (DocR d k :: R) := by
  (refine Does.enter Try.func106 Try.ntmps106 rfl rfl ?_)
  refine VC.obtain (fun w => DocR.open) ?_
  rintro ⟨⟨⟨lo, lc⟩, ⟨co, cc⟩, C⟩, hk, hf⟩
  dsimp only [DocO]
  (refine w ?_; repeat ((first | refine VO.step rfl rfl ?_ | refine VD.end rfl rfl rfl ?_ | refine VD.mid rfl rfl rfl ?_); refine OpV.box rfl rfl rfl ?_; intro _; refine w ?_))
  (refine VC.condTe rfl rfl (hfa) ?_)
  (refine w ?_; repeat ((first | refine VO.step rfl rfl ?_ | refine VD.end rfl rfl rfl ?_ | refine VD.mid rfl rfl rfl ?_); refine OpV.box rfl rfl rfl ?_; intro _; refine w ?_))
  (refine VE.done1 rfl ?_ ?_)
  · rfl
  · exact DocR.shut hk hf
theorem docimage_ok {W : World} {R : List SProp} (d : Nat) (k : DiskD) (hfa : k.failed = false) :
    Does W Try.prog 106 [.pointer (some ⟨d, 0, none⟩)] (DocR d k :: R) (β := Option Addr × Nat) (fun _ => True) (fun x => .slice x.1 k.last.flatten.length x.2)
      (fun x => Own 5 1 (.slice x.1 k.last.flatten.length x.2) k.last.flatten.length (bytes k.last.flatten) :: DocR d k :: R) := by
  (refine Does.enter Try.func106 Try.ntmps106 rfl rfl ?_)
  refine VC.obtain (fun w => DocR.open) ?_
  rintro ⟨⟨⟨lo, lc⟩, ⟨co, cc⟩, C⟩, hk, hf⟩
  have hfl := flat_len hk
  have hs := hk.size
  dsimp only [DocO]
  refine VC.know (p := lo = none → k.last.flatten.length = 0) (fun w hw => Holds.ownNone hw (.tail _ (.head _))) ?_
  intro hln
  (refine w ?_; repeat ((first | refine VO.step rfl rfl ?_ | refine VD.end rfl rfl rfl ?_ | refine VD.mid rfl rfl rfl ?_); refine OpV.box rfl rfl rfl ?_; intro _; refine w ?_))
  (refine VC.condFe rfl rfl (hfa) ?_)
  (refine w ?_; repeat ((first | refine VO.step rfl rfl ?_ | refine VD.end rfl rfl rfl ?_ | refine VD.mid rfl rfl rfl ?_); refine OpV.box rfl rfl rfl ?_; intro _; refine w ?_))
  refine VO.ent (H' := Own 5 1 (.slice none 0 0) 0 [] :: DocO d k lo lc co cc C R) (fun w hw => hw.ownNil _ _) ?_
  dsimp only [DocO]
  (first | refine VO.step rfl rfl ?_ | refine VD.end rfl rfl rfl ?_ | refine VD.mid rfl rfl rfl ?_)
  refine OpV.append st_35 rfl rfl .head (fun w hw => ((Rds.own (bytes_one k.last.flatten) (.tail _ (.tail _ (.head _))) (by rw [bytes_length, Nat.mul_one]) hln).sees hw).src st_35.und) (by simp only [maxLen]; omega) (by omega) rfl ?_
  intro ao' cap'
  simp only [Nat.zero_add, List.nil_append]
  (refine w ?_; repeat ((first | refine VO.step rfl rfl ?_ | refine VD.end rfl rfl rfl ?_ | refine VD.mid rfl rfl rfl ?_); refine OpV.box rfl rfl rfl ?_; intro _; refine w ?_))
  refine VE.done (ao', cap') rfl trivial rfl ?_
  intro w hw
  exact (DocR.shut (R := Own 5 1 (.slice ao' k.last.flatten.length cap') k.last.flatten.length (bytes k.last.flatten) :: R) hk hf w (hw.perm (List.perm_middle (l₁ := _ :: _ :: _ :: C.map (fun c => c.2.res))).symm)).swap
end Go.Proofs.Ythefmgmgmoanlaa
