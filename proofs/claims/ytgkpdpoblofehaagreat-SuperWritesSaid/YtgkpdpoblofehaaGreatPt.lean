/- What is lent of a superblock: LentSuper, WholeSuper, SpoilSuper. -/
import Derived.Test.YtgkpdpoblofehaaGreatPs
import Derived.Test.YtgkpdpoblofehaaGreatKt
set_option maxRecDepth 8000
set_option linter.unusedVariables false
set_option linter.unusedSimpArgs false
set_option linter.unusedSectionVars false
namespace Go.Proofs.YtgkpdpoblofehaaGreat
open Go.RowKit Go.Sl
attribute [local irreducible] Own

theorem mem_front {W : World} {X : SProp} {H : List SProp} (m : X ∈ H) : ∃ R, Ent W H (X :: R) ∧ Ent W (X :: R) H := by
  obtain ⟨R, p⟩ := mem_perm m
  exact ⟨R, fun w hw => hw.perm p, fun w hw => hw.perm p.symm⟩
def SuperD.lend (s : SuperD) (e : Addr × Nat) : SuperD := { s with so := some e.1, sc := e.2 }
theorem lend_fit {s : SuperD} (h : s.fit) (e : Addr × Nat) (hc : s.states.length ≤ e.2) : (s.lend e).fit := ⟨h.id, h.events, h.safe, h.role, h.members, h.chunk, h.stripes, h.ring, h.cursor, h.len, hc⟩
theorem lentst_rds {W : World} {H : List SProp} {a : Addr} {cap : Nat} {l : List UInt8} (m : Stt.LentO a cap l ∈ H) : Rds W H 1 (some a) l.length (bytes l) := by
  obtain ⟨R, h1, -⟩ := mem_front (W := W) m
  exact Stt.LentO.rds.ent h1
theorem wholest_mem {W : World} {H : List SProp} {ao : Option Addr} {a : Addr} {cap cap2 : Nat} {l : List UInt8} (hb : RdsA W 1 ao l.length (bytes l)) (hl : l.length ≤ 1000000000) (m : Stt.LentO a cap l ∈ H) :
    Does1 W Tryz.prog 27 [.slice (some a) l.length cap, .slice ao l.length cap2] H (.bool true) H := by
  obtain ⟨R, h1, h2⟩ := mem_front (W := W) m
  exact Does1P (DoesE h1 (Stt.wholest_ok hb hl)) h2

theorem lentsup_ok {W : World} {R : List SProp} (s : SuperD) (hr : RdsA W 1 s.so s.states.length (bytes s.states)) (hl : s.states.length ≤ 1000000000) :
    Does W Tryz.prog 4 [.agg s.cells.toArray] R (β := Addr × Nat) (fun _ => True) (fun x => .agg (s.lend x).cells.toArray) (fun x => Stt.LentO x.1 x.2 s.states :: R) := by
  (refine Does.enter Tryz.func4 Tryz.ntmps4 rfl rfl ?_)
  (refine w ?_; repeat ((first | refine VO.step rfl rfl ?_ | refine VD.end rfl rfl rfl ?_ | refine VD.mid rfl rfl rfl ?_); refine OpV.box rfl rfl rfl ?_; intro _; refine w ?_))
  rename_i b
  ((first | refine VO.step rfl rfl ?_ | refine VD.end rfl rfl rfl ?_ | refine VD.mid rfl rfl rfl ?_); refine OpV.allocS sb_27 rfl ?_; intro n2)
  (refine w ?_; repeat ((first | refine VO.step rfl rfl ?_ | refine VD.end rfl rfl rfl ?_ | refine VD.mid rfl rfl rfl ?_); refine OpV.box rfl rfl rfl ?_; intro _; refine w ?_))
  ((first | refine VO.step rfl rfl ?_ | refine VD.end rfl rfl rfl ?_ | refine VD.mid rfl rfl rfl ?_); refine OpV.call rfl rfl (fun _ _ => by simp) (Stt.lentst_ok hr hl) Ent.refl rfl ?_)
  rintro ⟨a, c⟩ _
  dsimp only
  (refine w ?_; repeat ((first | refine VO.step rfl rfl ?_ | refine VD.end rfl rfl rfl ?_ | refine VD.mid rfl rfl rfl ?_); refine OpV.box rfl rfl rfl ?_; intro _; refine w ?_))
  (first | refine VO.step rfl rfl ?_ | refine VD.end rfl rfl rfl ?_ | refine VD.mid rfl rfl rfl ?_)
  refine OpV.stA (vs := (s.lend (a, c)).cells) tab_ok rfl rfl rfl rfl (super_one _) (by (repeat first | exact .head | apply Hole.tail)) (by simp) ?_
  (refine w ?_; repeat ((first | refine VO.step rfl rfl ?_ | refine VD.end rfl rfl rfl ?_ | refine VD.mid rfl rfl rfl ?_); refine OpV.box rfl rfl rfl ?_; intro _; refine w ?_))
  exact VE.results1 (.inl rfl) (a, c) rfl (ResIs.agg (vs := (s.lend (a, c)).cells) tab_ok rfl rfl (by (focus repeat first | exact .head _ | apply List.Mem.tail)) rfl rfl) trivial rfl Ent.re
theorem wholesup_ok {W : World} {H : List SProp} (s : SuperD) (e : Addr × Nat) (hf : s.fit) (hc : s.states.length ≤ e.2) (hr : RdsA W 1 s.so s.states.length (bytes s.states)) (hl : s.states.length ≤ 1000000000) (m : Stt.LentO e.1 e.2 s.states ∈ H) :
    Does1 W Tryz.prog 7 [.agg (s.lend e).cells.toArray, .agg s.cells.toArray] H (.bool true) H := by
  have hsame : (s.lend e).same s = true := (same_iff _ _).2 ⟨rfl, rfl, rfl, rfl, ⟨rfl, rfl, rfl⟩, rfl, rfl, rfl, rfl, rfl⟩
  (refine Does.enter Tryz.func7 Tryz.ntmps7 rfl rfl ?_)
  (refine w ?_; repeat ((first | refine VO.step rfl rfl ?_ | refine VD.end rfl rfl rfl ?_ | refine VD.mid rfl rfl rfl ?_); refine OpV.box rfl rfl rfl ?_; intro _; refine w ?_))
  ((first | refine VO.step rfl rfl ?_ | refine VD.end rfl rfl rfl ?_ | refine VD.mid rfl rfl rfl ?_); refine OpV.call rfl rfl (fun _ _ => by simp) (samesup_ok (s.lend e) s (lend_fit hf e hc) hf (lentst_rds (.tail _ (.tail _ m))) (hr _)) Ent.refl rfl ?_; intro _ _)
  rw [hsame]
  (refine w ?_; repeat ((first | refine VO.step rfl rfl ?_ | refine VD.end rfl rfl rfl ?_ | refine VD.mid rfl rfl rfl ?_); refine OpV.box rfl rfl rfl ?_; intro _; refine w ?_))
  ((first | refine VO.step rfl rfl ?_ | refine VD.end rfl rfl rfl ?_ | refine VD.mid rfl rfl rfl ?_); refine OpV.call rfl rfl (fun _ _ => by simp) (wholest_mem hr hl (.tail _ (.tail _ m))) Ent.refl rfl ?_; intro _ _)
  (refine w ?_; repeat ((first | refine VO.step rfl rfl ?_ | refine VD.end rfl rfl rfl ?_ | refine VD.mid rfl rfl rfl ?_); refine OpV.box rfl rfl rfl ?_; intro _; refine w ?_))
  (refine VE.done1 rfl ?_ ?_)
  · rfl
  · exact Ent.drop (Ent.drop Ent.refl)
theorem spoilsup_ok {W : World} {R : List SProp} (s : SuperD) (e : Addr × Nat) :
    Does1 W Tryz.prog 8 [.agg (s.lend e).cells.toArray] (Stt.LentO e.1 e.2 s.states :: R) (.tuple #[]) R := by
  (refine Does.enter Tryz.func8 Tryz.ntmps8 rfl rfl ?_)
  refine VC.know (p := s.states.length + 2 ≤ e.2) (fun w hw => Holds.ownCap hw (.head _)) ?_
  intro hc
  (refine w ?_; repeat ((first | refine VO.step rfl rfl ?_ | refine VD.end rfl rfl rfl ?_ | refine VD.mid rfl rfl rfl ?_); refine OpV.box rfl rfl rfl ?_; intro _; refine w ?_))
  rename_i b
  ((first | refine VO.step rfl rfl ?_ | refine VD.end rfl rfl rfl ?_ | refine VD.mid rfl rfl rfl ?_); refine OpV.call rfl rfl (fun _ _ => by simp) (Stt.spoilst_ok (R := Row b 27 (s.lend e).cells :: R) (n := s.states.length) (m := s.states.length + 2) (cap := e.2) (by omega)) Ent.re rfl ?_)
  intro _ _
  (refine w ?_; repeat ((first | refine VO.step rfl rfl ?_ | refine VD.end rfl rfl rfl ?_ | refine VD.mid rfl rfl rfl ?_); refine OpV.box rfl rfl rfl ?_; intro _; refine w ?_))
  (refine VE.done1N rfl ?_ ?_)
  · rfl
  · exact Ent.re

end Go.Proofs.YtgkpdpoblofehaaGreat
