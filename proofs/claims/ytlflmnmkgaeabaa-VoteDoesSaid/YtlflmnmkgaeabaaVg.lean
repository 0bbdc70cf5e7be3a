/- Package vote: members. -/
import Derived.Test.YtlflmnmkgaeabaaVf
set_option maxRecDepth 8000
set_option linter.unusedVariables false
set_option linter.unusedSimpArgs false
set_option linter.unusedSectionVars false
namespace Go.Proofs.Ytlflmnmkgaeabaa
open Go.RowKit Go.Sl
attribute [local irreducible] Own

def zeroSup : SuperD := ⟨0, 0, 0, 0, 0, 0, 0, 0, false, false, none, 0, [], 0⟩
def oddOne (l : List SuperD) (s : SuperD) : Bool := l.any fun t => !s.alike t
def membersM (l : List SuperD) : Int × SuperD :=
  if l.any (fun s => !s.lost) then (153, zeroSup) else if l.any (oddOne l) then (151, zeroSup) else (0, l.headD zeroSup)
def bestN (l : List SuperD) (e : Nat) : List SuperD := l.filter fun s => !(!decide (s.events = e))

set_option maxHeartbeats 1000000 in
theorem members_ok {W : World} {R : List SProp} {ao : Option Addr} {cap : Nat} {l : List SuperD} {e : Nat} (hl : l.length ≤ 1000000) (hf : ∀ s ∈ l, s.fit) (hst : ∀ s ∈ l, Rds W R 1 s.so s.states.length (bytes s.states)) (hne : ∃ s ∈ l, s.events = e) (hn : ao = none → l.length = 0) (hcap : l.length ≤ cap) :
    Does1 W Try.prog 26 [.slice ao l.length cap, .int .u64 e] (Own 30 12 (.slice ao l.length cap) l.length (supCells l) :: R)
      (.tuple #[.agg (membersM (bestN l e)).2.cells.toArray, .int .u16 (membersM (bestN l e)).1]) R := by
  (refine Does.enter Try.func26 Try.ntmps26 rfl rfl ?_)
  (refine w ?_; repeat ((first | refine VO.step rfl rfl ?_ | refine VD.end rfl rfl rfl ?_ | refine VD.mid rfl rfl rfl ?_); refine OpV.box rfl rfl rfl ?_; intro _; refine w ?_))
  rename_i b
  ((first | refine VO.step rfl rfl ?_ | refine VD.end rfl rfl rfl ?_ | refine VD.mid rfl rfl rfl ?_); refine OpV.allocS sb_30 rfl ?_; intro na)
  (refine w ?_; repeat ((first | refine VO.step rfl rfl ?_ | refine VD.end rfl rfl rfl ?_ | refine VD.mid rfl rfl rfl ?_); refine OpV.box rfl rfl rfl ?_; intro _; refine w ?_))
  refine VO.pure rfl rfl (PureAt.makeFunc1 rfl) rfl ?_
  ((first | refine VO.step rfl rfl ?_ | refine VD.end rfl rfl rfl ?_ | refine VD.mid rfl rfl rfl ?_); refine OpV.call rfl rfl (fun _ _ => by simp) (deletefunc_ok (R := Row na 30 zeroSup.cells :: Row b 25 [.int .u64 e] :: R) (fun s => !decide (s.events = e)) hl (fun _ _ => by simp) (fun s hs H hH => members1_ok s (hf s hs) (hH _ (.tail _ (.head _)))) hn hcap) Ent.re rfl ?_)
  intro _ _
  have hb : ∀ s ∈ bestN l e, s ∈ l := fun s hs => (List.mem_filter.1 hs).1
  have hbl : (bestN l e).length ≤ l.length := List.length_filter_le _ _
  have hpos : 0 < (bestN l e).length := by
    obtain ⟨s, hs, he⟩ := hne
    exact List.length_pos_of_mem (List.mem_filter.2 ⟨hs, by simp [he]⟩)
  obtain ⟨a, rfl⟩ : ∃ a, ao = some a := by cases ao with | none => have := hn rfl; omega | some a => exact ⟨a, rfl⟩
  change VO _ _ _ _ _ _ (Own 30 12 (.slice (some a) (bestN l e).length cap) (bestN l e).length (supCells (bestN l e)) :: Row na 30 zeroSup.cells :: Row b 25 [.int .u64 e] :: R) ((14, .slice (some a) (bestN l e).length cap) :: _)
  generalize bestN l e = B at *
  (refine w ?_; repeat ((first | refine VO.step rfl rfl ?_ | refine VD.end rfl rfl rfl ?_ | refine VD.mid rfl rfl rfl ?_); refine OpV.box rfl rfl rfl ?_; intro _; refine w ?_))
  have hfB : ∀ s ∈ B, s.fit := fun s hs => hf s (hb s hs)
  have hstB : ∀ s ∈ B, Rds W R 1 s.so s.states.length (bytes s.states) := fun s hs => hst s (hb s hs)
  have hrB : ∀ X : List SProp, Rds W (X ++ Own 30 12 (.slice (some a) B.length cap) B.length (supCells B) :: Row na 30 zeroSup.cells :: Row b 25 [.int .u64 e] :: R) 12 (some a) B.length (supCells B) := fun X => Rds.own (sup_one B) (List.mem_append_right _ (.head _)) (sup_len B) (by simp)
  refine VC.loop (α := Nat × Bool) (fun y => y.1 ≤ B.length ∧ (∀ s ∈ B.take y.1, s.lost = true) ∧ y.2 = (B.take y.1).any (oddOne B))
    (fun _ => Own 30 12 (.slice (some a) B.length cap) B.length (supCells B) :: Row na 30 zeroSup.cells :: Row b 25 [.int .u64 e] :: R)
    (fun y => [(4, .pointer (some ⟨na, 0, none⟩)), (5, .int .u16 0), (6, .slice (some a) B.length cap), (7, .bool y.2), (15, .slice (some a) B.length cap), (16, .int .i64 B.length), (17, .int .i64 y.1)]) (fun y => B.length - y.1) rfl (0, false) ⟨Nat.zero_le _, by simp, by simp⟩ Ent.refl ⟨rfl, rfl, rfl, rfl, rfl, rfl, rfl, trivial⟩ ?_
  rintro ⟨i, sp⟩ ⟨hi, hlost, hsp⟩
  dsimp only at hi hlost hsp ⊢
  (refine w ?_; repeat ((first | refine VO.step rfl rfl ?_ | refine VD.end rfl rfl rfl ?_ | refine VD.mid rfl rfl rfl ?_); refine OpV.box rfl rfl rfl ?_; intro _; refine w ?_))
  (refine VC.cond rfl rfl ?_ ?_ <;> intro hc)
  · have hlt : i < B.length := by have := of_decide_eq_true hc; omega
    have htk := List.take_succ_eq_append_getElem hlt
    have hfi := hfB _ (List.getElem_mem hlt)
    have hsti := hstB _ (List.getElem_mem hlt)
    (refine w ?_; repeat ((first | refine VO.step rfl rfl ?_ | refine VD.end rfl rfl rfl ?_ | refine VD.mid rfl rfl rfl ?_); refine OpV.box rfl rfl rfl ?_; intro _; refine w ?_))
    (first | refine VO.pure rfl rfl (.ldRA tab_ok rfl rfl (hrB []) (sup_part B i hlt) rfl) rfl ?_ | refine VD.take rfl rfl rfl (.ldRA tab_ok rfl rfl (hrB []) (sup_part B i hlt) rfl) rfl ?_ | refine VQ.pure rfl rfl (.ldRA tab_ok rfl rfl (hrB []) (sup_part B i hlt) rfl) rfl ?_ | refine VD.end rfl rfl rfl (OpV.pure (.ldRA tab_ok rfl rfl (hrB []) (sup_part B i hlt) rfl) rfl ?_))
    ((first | refine VO.step rfl rfl ?_ | refine VD.end rfl rfl rfl ?_ | refine VD.mid rfl rfl rfl ?_); refine OpV.allocS sb_30 rfl ?_; intro n9)
    (refine w ?_; repeat ((first | refine VO.step rfl rfl ?_ | refine VD.end rfl rfl rfl ?_ | refine VD.mid rfl rfl rfl ?_); refine OpV.box rfl rfl rfl ?_; intro _; refine w ?_))
    (first | refine VO.step rfl rfl ?_ | refine VD.end rfl rfl rfl ?_ | refine VD.mid rfl rfl rfl ?_)
    refine OpV.stA (vs := B[i].cells) tab_ok rfl rfl rfl rfl (super_one _) (by (repeat first | exact .head | apply Hole.tail)) (by simp) ?_
    refine VO.ent (Reord.ent (L := Row n9 30 B[i].cells :: Own 30 12 (.slice (some a) B.length cap) B.length (supCells B) :: Row na 30 zeroSup.cells :: Row b 25 [.int .u64 e] :: R) (by (repeat first | exact .refl | (apply Reord.cons; focus repeat first | exact .head | apply Del.tail) | exact .nil | apply Reord.drop))) ?_
    (refine w ?_; repeat ((first | refine VO.step rfl rfl ?_ | refine VD.end rfl rfl rfl ?_ | refine VD.mid rfl rfl rfl ?_); refine OpV.box rfl rfl rfl ?_; intro _; refine w ?_))
    cases hlo : B[i].lost
    · (refine w ?_; repeat ((first | refine VO.step rfl rfl ?_ | refine VD.end rfl rfl rfl ?_ | refine VD.mid rfl rfl rfl ?_); refine OpV.box rfl rfl rfl ?_; intro _; refine w ?_))
      (apply VO.pure rfl rfl; apply PureAt.build sb_30 rfl; (simp [buildX, setL, Value.cells]; rfl); rfl)
      (first | refine VO.step rfl rfl ?_ | refine VD.end rfl rfl rfl ?_ | refine VD.mid rfl rfl rfl ?_)
      refine OpV.stA (vs := zeroSup.cells) tab_ok rfl rfl rfl rfl (super_one _) (by (repeat first | exact .head | apply Hole.tail)) (by simp) ?_
      (refine w ?_; repeat ((first | refine VO.step rfl rfl ?_ | refine VD.end rfl rfl rfl ?_ | refine VD.mid rfl rfl rfl ?_); refine OpV.box rfl rfl rfl ?_; intro _; refine w ?_))
      refine VE.results2 (.inl rfl) () rfl (ResIs.agg (vs := zeroSup.cells) tab_ok rfl rfl (by (focus repeat first | exact .head _ | apply List.Mem.tail)) rfl rfl) (.tmp rfl) trivial ?_ (by exact Ent.re)
      rw [show membersM B = (153, zeroSup) from if_pos (List.any_eq_true.2 ⟨_, List.getElem_mem hlt, by simp [hlo]⟩)]
    · (refine w ?_; repeat ((first | refine VO.step rfl rfl ?_ | refine VD.end rfl rfl rfl ?_ | refine VD.mid rfl rfl rfl ?_); refine OpV.box rfl rfl rfl ?_; intro _; refine w ?_))
      refine VC.loop (α := Nat) (fun k => k ≤ B.length ∧ ∀ t ∈ B.take k, B[i].alike t = true)
        (fun _ => Row n9 30 B[i].cells :: Own 30 12 (.slice (some a) B.length cap) B.length (supCells B) :: Row na 30 zeroSup.cells :: Row b 25 [.int .u64 e] :: R)
        (fun k => [(4, .pointer (some ⟨na, 0, none⟩)), (5, .int .u16 0), (6, .slice (some a) B.length cap), (7, .bool sp), (9, .pointer (some ⟨n9, 0, none⟩)), (15, .slice (some a) B.length cap), (16, .int .i64 B.length), (17, .int .i64 i), (25, .slice (some a) B.length cap), (26, .int .i64 B.length), (27, .int .i64 k)]) (fun k => B.length - k) rfl 0 ⟨Nat.zero_le _, by simp⟩ Ent.refl ⟨rfl, rfl, rfl, rfl, rfl, rfl, rfl, rfl, rfl, rfl, rfl, trivial⟩ ?_
      rintro k ⟨hk, hal⟩
      have hlost2 : ∀ s ∈ B.take (i + 1), s.lost = true := by
        intro s hs
        rw [htk, List.mem_append, List.mem_singleton] at hs
        rcases hs with h | h
        · exact hlost s h
        · rw [h]; exact hlo
      have hany : (B.take (i + 1)).any (oddOne B) = (sp || oddOne B B[i]) := by rw [htk, List.any_append, ← hsp]; simp
      (refine w ?_; repeat ((first | refine VO.step rfl rfl ?_ | refine VD.end rfl rfl rfl ?_ | refine VD.mid rfl rfl rfl ?_); refine OpV.box rfl rfl rfl ?_; intro _; refine w ?_))
      (refine VC.cond rfl rfl ?_ ?_ <;> intro hc)
      · have hkt : k < B.length := by have := of_decide_eq_true hc; omega
        (refine w ?_; repeat ((first | refine VO.step rfl rfl ?_ | refine VD.end rfl rfl rfl ?_ | refine VD.mid rfl rfl rfl ?_); refine OpV.box rfl rfl rfl ?_; intro _; refine w ?_))
        (first | refine VO.pure rfl rfl (.ldRA tab_ok rfl rfl (hrB [_]) (sup_part B k hkt) rfl) rfl ?_ | refine VD.take rfl rfl rfl (.ldRA tab_ok rfl rfl (hrB [_]) (sup_part B k hkt) rfl) rfl ?_ | refine VQ.pure rfl rfl (.ldRA tab_ok rfl rfl (hrB [_]) (sup_part B k hkt) rfl) rfl ?_ | refine VD.end rfl rfl rfl (OpV.pure (.ldRA tab_ok rfl rfl (hrB [_]) (sup_part B k hkt) rfl) rfl ?_))
        ((first | refine VO.step rfl rfl ?_ | refine VD.end rfl rfl rfl ?_ | refine VD.mid rfl rfl rfl ?_); refine OpV.allocS sb_30 rfl ?_; intro n11)
        (refine w ?_; repeat ((first | refine VO.step rfl rfl ?_ | refine VD.end rfl rfl rfl ?_ | refine VD.mid rfl rfl rfl ?_); refine OpV.box rfl rfl rfl ?_; intro _; refine w ?_))
        (first | refine VO.step rfl rfl ?_ | refine VD.end rfl rfl rfl ?_ | refine VD.mid rfl rfl rfl ?_)
        refine OpV.stA (vs := B[k].cells) tab_ok rfl rfl rfl rfl (super_one _) (by (repeat first | exact .head | apply Hole.tail)) (by simp) ?_
        refine VO.ent (Reord.ent (L := Row n11 30 B[k].cells :: Row n9 30 B[i].cells :: Own 30 12 (.slice (some a) B.length cap) B.length (supCells B) :: Row na 30 zeroSup.cells :: Row b 25 [.int .u64 e] :: R) (by (repeat first | exact .refl | (apply Reord.cons; focus repeat first | exact .head | apply Del.tail) | exact .nil | apply Reord.drop))) ?_
        (refine w ?_; repeat ((first | refine VO.step rfl rfl ?_ | refine VD.end rfl rfl rfl ?_ | refine VD.mid rfl rfl rfl ?_); refine OpV.box rfl rfl rfl ?_; intro _; refine w ?_))
        have eR : ∀ A C D E F : SProp, Ent W (A :: C :: D :: E :: F :: R) R := fun A C D E F => Ent.drop (Ent.drop (Ent.drop (Ent.drop (Ent.drop Ent.refl))))
        ((first | refine VO.step rfl rfl ?_ | refine VD.end rfl rfl rfl ?_ | refine VD.mid rfl rfl rfl ?_); refine OpV.call rfl rfl (fun _ _ => by simp) (alike_ok B[i] B[k] hfi (hfB _ (List.getElem_mem hkt)) (hsti.ent (eR _ _ _ _ _)) ((hstB _ (List.getElem_mem hkt)).ent (eR _ _ _ _ _))) Ent.refl rfl ?_; intro _ _)
        (refine w ?_; repeat ((first | refine VO.step rfl rfl ?_ | refine VD.end rfl rfl rfl ?_ | refine VD.mid rfl rfl rfl ?_); refine OpV.box rfl rfl rfl ?_; intro _; refine w ?_))
        cases hak : B[i].alike B[k]
        · (refine w ?_; repeat ((first | refine VO.step rfl rfl ?_ | refine VD.end rfl rfl rfl ?_ | refine VD.mid rfl rfl rfl ?_); refine OpV.box rfl rfl rfl ?_; intro _; refine w ?_))
          refine VE.round (i + 1, true) ⟨by simp only; omega, hlost2, ?_⟩ (by simp only; omega) ⟨rfl, rfl, rfl, rfl, rfl, rfl, asV rfl (by congr 1), trivial⟩ Ent.re
          simp only
          rw [hany, show oddOne B B[i] = true from List.any_eq_true.2 ⟨_, List.getElem_mem hkt, by simp [hak]⟩, Bool.or_true]
        · (refine w ?_; repeat ((first | refine VO.step rfl rfl ?_ | refine VD.end rfl rfl rfl ?_ | refine VD.mid rfl rfl rfl ?_); refine OpV.box rfl rfl rfl ?_; intro _; refine w ?_))
          refine VE.round (k + 1) ⟨by omega, ?_⟩ (by omega) ⟨rfl, rfl, rfl, rfl, rfl, rfl, rfl, rfl, rfl, rfl, asV rfl (by congr 1), trivial⟩ Ent.re
          intro t ht
          rw [List.take_succ_eq_append_getElem hkt, List.mem_append, List.mem_singleton] at ht
          rcases ht with h | h
          · exact hal t h
          · rw [h]; exact hak
      · have hge : k = B.length := by have := of_decide_eq_false hc; omega
        subst hge
        rw [List.take_of_length_le (Nat.le_refl _)] at hal
        (refine w ?_; repeat ((first | refine VO.step rfl rfl ?_ | refine VD.end rfl rfl rfl ?_ | refine VD.mid rfl rfl rfl ?_); refine OpV.box rfl rfl rfl ?_; intro _; refine w ?_))
        refine VE.round (i + 1, sp) ⟨by simp only; omega, hlost2, ?_⟩ (by simp only; omega) ⟨rfl, rfl, rfl, rfl, rfl, rfl, asV rfl (by congr 1), trivial⟩ Ent.re
        simp only
        rw [hany, show oddOne B B[i] = false from List.any_eq_false.2 fun t ht => by simp [hal t ht], Bool.or_false]
  · have hge : i = B.length := by have := of_decide_eq_false hc; omega
    subst hge
    rw [List.take_of_length_le (Nat.le_refl _)] at hlost hsp
    have hnl : ¬ B.any (fun s => !s.lost) = true := by
      intro h; obtain ⟨s, hs, h2⟩ := List.any_eq_true.1 h; rw [hlost s hs] at h2; cases h2
    cases hsv : sp
    · rw [hsv] at hsp
      (refine w ?_; repeat ((first | refine VO.step rfl rfl ?_ | refine VD.end rfl rfl rfl ?_ | refine VD.mid rfl rfl rfl ?_); refine OpV.box rfl rfl rfl ?_; intro _; refine w ?_))
      (first | refine VO.pure rfl rfl (.ldRA tab_ok rfl rfl (hrB []) (sup_part B 0 hpos) rfl) rfl ?_ | refine VD.take rfl rfl rfl (.ldRA tab_ok rfl rfl (hrB []) (sup_part B 0 hpos) rfl) rfl ?_ | refine VQ.pure rfl rfl (.ldRA tab_ok rfl rfl (hrB []) (sup_part B 0 hpos) rfl) rfl ?_ | refine VD.end rfl rfl rfl (OpV.pure (.ldRA tab_ok rfl rfl (hrB []) (sup_part B 0 hpos) rfl) rfl ?_))
      (first | refine VO.step rfl rfl ?_ | refine VD.end rfl rfl rfl ?_ | refine VD.mid rfl rfl rfl ?_)
      refine OpV.stA (vs := B[0].cells) tab_ok rfl rfl rfl rfl (super_one _) (by (repeat first | exact .head | apply Hole.tail)) (by simp) ?_
      (refine w ?_; repeat ((first | refine VO.step rfl rfl ?_ | refine VD.end rfl rfl rfl ?_ | refine VD.mid rfl rfl rfl ?_); refine OpV.box rfl rfl rfl ?_; intro _; refine w ?_))
      refine VE.results2 (.inl rfl) () rfl (ResIs.agg (vs := B[0].cells) tab_ok rfl rfl (by (focus repeat first | exact .head _ | apply List.Mem.tail)) rfl rfl) (.tmp rfl) trivial ?_ (by exact Ent.re)
      rw [show membersM B = (0, B.headD zeroSup) from (if_neg hnl).trans (if_neg (by rw [← hsp]; simp))]
      rw [show B.headD zeroSup = B[0] by cases B with | nil => simp at hpos | cons x r => rfl]
    · rw [hsv] at hsp
      (refine w ?_; repeat ((first | refine VO.step rfl rfl ?_ | refine VD.end rfl rfl rfl ?_ | refine VD.mid rfl rfl rfl ?_); refine OpV.box rfl rfl rfl ?_; intro _; refine w ?_))
      (apply VO.pure rfl rfl; apply PureAt.build sb_30 rfl; (simp [buildX, setL, Value.cells]; rfl); rfl)
      (first | refine VO.step rfl rfl ?_ | refine VD.end rfl rfl rfl ?_ | refine VD.mid rfl rfl rfl ?_)
      refine OpV.stA (vs := zeroSup.cells) tab_ok rfl rfl rfl rfl (super_one _) (by (repeat first | exact .head | apply Hole.tail)) (by simp) ?_
      (refine w ?_; repeat ((first | refine VO.step rfl rfl ?_ | refine VD.end rfl rfl rfl ?_ | refine VD.mid rfl rfl rfl ?_); refine OpV.box rfl rfl rfl ?_; intro _; refine w ?_))
      refine VE.results2 (.inl rfl) () rfl (ResIs.agg (vs := zeroSup.cells) tab_ok rfl rfl (by (focus repeat first | exact .head _ | apply List.Mem.tail)) rfl rfl) (.tmp rfl) trivial ?_ (by exact Ent.re)
      rw [show membersM B = (151, zeroSup) from (if_neg hnl).trans (if_pos hsp.symm)]
end Go.Proofs.Ytlflmnmkgaeabaa
