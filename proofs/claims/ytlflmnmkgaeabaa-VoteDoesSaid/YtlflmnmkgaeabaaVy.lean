/- What is lent of ballots: LentSuper, LentBallots, Whole.., Spoil... -/
import Derived.Test.YtlflmnmkgaeabaaVx
import Derived.Test.YtlflmnmkgaeabaaKs
set_option maxRecDepth 8000
set_option linter.unusedVariables false
set_option linter.unusedSimpArgs false
set_option linter.unusedSectionVars false
namespace Go.Proofs.Ytlflmnmkgaeabaa
open Go.RowKit Go.Sl
attribute [local irreducible] Own

theorem mem_front {W : World} {X : SProp} {H : List SProp} (m : X ∈ H) : ∃ R, Ent W H (X :: R) ∧ Ent W (X :: R) H := by
  obtain ⟨R, p⟩ := mem_perm m
  exact ⟨R, fun w hw => hw.perm p, fun w hw => hw.perm p.symm⟩
def SuperD.lend (s : SuperD) (e : Addr × Nat) : SuperD := { s with so := some e.1, sc := e.2 }
theorem lend_fit {s : SuperD} (h : s.fit) (e : Addr × Nat) (hc : s.states.length ≤ e.2) : (s.lend e).fit := ⟨h.id, h.events, h.safe, h.role, h.members, h.chunk, h.stripes, h.ring, h.cursor, h.len, hc⟩
theorem lentst_rds {W : World} {H : List SProp} {a : Addr} {cap : Nat} {l : List UInt8} (m : Stt.LentO a cap l ∈ H) : Rds W H 1 (some a) l.length (bytes l) := by
  obtain ⟨R, h1, -⟩ := mem_front (W := W) m
  exact Stt.LentO.rds.ent h1
theorem wholest_mem {W : World} {H : List SProp} {ao : Option Addr} {a : Addr} {cap cap2 : Nat} {l : List UInt8} (hb : RdsA W 1 ao l.length (bytes l)) (hl : l.length ≤ 1000000000) (m : Stt.LentO a cap l ∈ H) :
    Does1 W Try.prog 56 [.slice (some a) l.length cap, .slice ao l.length cap2] H (.bool true) H := by
  obtain ⟨R, h1, h2⟩ := mem_front (W := W) m
  exact Does1P (DoesE h1 (Stt.wholest_ok hb hl)) h2

theorem lentsup_ok {W : World} {R : List SProp} (s : SuperD) (hr : RdsA W 1 s.so s.states.length (bytes s.states)) (hl : s.states.length ≤ 1000000000) :
    Does W Try.prog 21 [.agg s.cells.toArray] R (β := Addr × Nat) (fun _ => True) (fun x => .agg (s.lend x).cells.toArray) (fun x => Stt.LentO x.1 x.2 s.states :: R) := by
  (refine Does.enter Try.func21 Try.ntmps21 rfl rfl ?_)
  (refine w ?_; repeat ((first | refine VO.step rfl rfl ?_ | refine VD.end rfl rfl rfl ?_ | refine VD.mid rfl rfl rfl ?_); refine OpV.box rfl rfl rfl ?_; intro _; refine w ?_))
  rename_i b
  ((first | refine VO.step rfl rfl ?_ | refine VD.end rfl rfl rfl ?_ | refine VD.mid rfl rfl rfl ?_); refine OpV.allocS sb_30 rfl ?_; intro n2)
  (refine w ?_; repeat ((first | refine VO.step rfl rfl ?_ | refine VD.end rfl rfl rfl ?_ | refine VD.mid rfl rfl rfl ?_); refine OpV.box rfl rfl rfl ?_; intro _; refine w ?_))
  ((first | refine VO.step rfl rfl ?_ | refine VD.end rfl rfl rfl ?_ | refine VD.mid rfl rfl rfl ?_); refine OpV.call rfl rfl (fun _ _ => by simp) (Stt.lentst_ok hr hl) Ent.refl rfl ?_)
  rintro ⟨a, c⟩ _
  dsimp only
  (refine w ?_; repeat ((first | refine VO.step rfl rfl ?_ | refine VD.end rfl rfl rfl ?_ | refine VD.mid rfl rfl rfl ?_); refine OpV.box rfl rfl rfl ?_; intro _; refine w ?_))
  (first | refine VO.step rfl rfl ?_ | refine VD.end rfl rfl rfl ?_ | refine VD.mid rfl rfl rfl ?_)
  refine OpV.stA (vs := (s.lend (a, c)).cells) tab_ok rfl rfl rfl rfl (super_one _) (by (repeat first | exact .head | apply Hole.tail)) (by simp) ?_
  (refine w ?_; repeat ((first | refine VO.step rfl rfl ?_ | refine VD.end rfl rfl rfl ?_ | refine VD.mid rfl rfl rfl ?_); refine OpV.box rfl rfl rfl ?_; intro _; refine w ?_))
  exact VE.results1 (.inl rfl) (a, c) rfl (ResIs.agg (vs := (s.lend (a, c)).cells) tab_ok rfl rfl (by (focus repeat first | exact .head _ | apply List.Mem.tail)) rfl rfl) trivial rfl Ent.re
theorem wholesup_ok {W : World} {H : List SProp} (s : SuperD) (e : Addr × Nat) (hf : s.fit) (hc : s.states.length ≤ e.2) (hr : RdsA W 1 s.so s.states.length (bytes s.states)) (hl : s.states.length ≤ 1000000000) (m : Stt.LentO e.1 e.2 s.states ∈ H) :
    Does1 W Try.prog 29 [.agg (s.lend e).cells.toArray, .agg s.cells.toArray] H (.bool true) H := by
  have hsame : (s.lend e).same s = true := (same_iff _ _).2 ⟨rfl, rfl, rfl, rfl, ⟨rfl, rfl, rfl⟩, rfl, rfl, rfl, rfl, rfl⟩
  (refine Does.enter Try.func29 Try.ntmps29 rfl rfl ?_)
  (refine w ?_; repeat ((first | refine VO.step rfl rfl ?_ | refine VD.end rfl rfl rfl ?_ | refine VD.mid rfl rfl rfl ?_); refine OpV.box rfl rfl rfl ?_; intro _; refine w ?_))
  ((first | refine VO.step rfl rfl ?_ | refine VD.end rfl rfl rfl ?_ | refine VD.mid rfl rfl rfl ?_); refine OpV.call rfl rfl (fun _ _ => by simp) (samesup_ok (s.lend e) s (lend_fit hf e hc) hf (lentst_rds (.tail _ (.tail _ m))) (hr _)) Ent.refl rfl ?_; intro _ _)
  rw [hsame]
  (refine w ?_; repeat ((first | refine VO.step rfl rfl ?_ | refine VD.end rfl rfl rfl ?_ | refine VD.mid rfl rfl rfl ?_); refine OpV.box rfl rfl rfl ?_; intro _; refine w ?_))
  ((first | refine VO.step rfl rfl ?_ | refine VD.end rfl rfl rfl ?_ | refine VD.mid rfl rfl rfl ?_); refine OpV.call rfl rfl (fun _ _ => by simp) (wholest_mem hr hl (.tail _ (.tail _ m))) Ent.refl rfl ?_; intro _ _)
  (refine w ?_; repeat ((first | refine VO.step rfl rfl ?_ | refine VD.end rfl rfl rfl ?_ | refine VD.mid rfl rfl rfl ?_); refine OpV.box rfl rfl rfl ?_; intro _; refine w ?_))
  (refine VE.done1 rfl ?_ ?_)
  · rfl
  · exact Ent.drop (Ent.drop Ent.refl)
theorem spoilsup_ok {W : World} {R : List SProp} (s : SuperD) (e : Addr × Nat) :
    Does1 W Try.prog 30 [.agg (s.lend e).cells.toArray] (Stt.LentO e.1 e.2 s.states :: R) (.tuple #[]) R := by
  (refine Does.enter Try.func30 Try.ntmps30 rfl rfl ?_)
  refine VC.know (p := s.states.length + 2 ≤ e.2) (fun w hw => Holds.ownCap hw (.head _)) ?_
  intro hc
  (refine w ?_; repeat ((first | refine VO.step rfl rfl ?_ | refine VD.end rfl rfl rfl ?_ | refine VD.mid rfl rfl rfl ?_); refine OpV.box rfl rfl rfl ?_; intro _; refine w ?_))
  rename_i b
  ((first | refine VO.step rfl rfl ?_ | refine VD.end rfl rfl rfl ?_ | refine VD.mid rfl rfl rfl ?_); refine OpV.call rfl rfl (fun _ _ => by simp) (Stt.spoilst_ok (R := Row b 30 (s.lend e).cells :: R) (n := s.states.length) (m := s.states.length + 2) (cap := e.2) (by omega)) Ent.re rfl ?_)
  intro _ _
  (refine w ?_; repeat ((first | refine VO.step rfl rfl ?_ | refine VD.end rfl rfl rfl ?_ | refine VD.mid rfl rfl rfl ?_); refine OpV.box rfl rfl rfl ?_; intro _; refine w ?_))
  (refine VE.done1N rfl ?_ ?_)
  · rfl
  · exact Ent.re

/-! ### Lists of ballots -/
def lentL (l : List BalD) (es : List (Addr × Nat)) : List BalD := List.zipWith (fun b e => ⟨b.has, b.s.lend e⟩) l es
def lentR (l : List BalD) (es : List (Addr × Nat)) : List SProp := List.zipWith (fun b e => Stt.LentO e.1 e.2 b.s.states) l es
def markB : BalD := ⟨false, { zeroSup with role := -77 }⟩
theorem zip_push {α β γ : Type} (f : α → β → γ) : ∀ (l : List α) (es : List β) (e : β) (h : es.length < l.length), List.zipWith f l (es ++ [e]) = List.zipWith f l es ++ [f l[es.length] e]
  | [], es, e, h => absurd h (by simp)
  | a :: r, [], e, _ => by simp
  | a :: r, x :: es, e, h => by
    simp only [List.cons_append, List.zipWith_cons_cons, List.length_cons, List.getElem_cons_succ]
    rw [zip_push f r es e (by simpa using h)]
theorem lentL_length {l : List BalD} {es : List (Addr × Nat)} (h : es.length = l.length) : (lentL l es).length = l.length := by simp [lentL, h]
theorem lentL_get {l : List BalD} {es : List (Addr × Nat)} (h : es.length = l.length) (i : Nat) (hi : i < l.length) : (lentL l es)[i]'(by rw [lentL_length h]; exact hi) = ⟨l[i].has, l[i].s.lend (es[i]'(by omega))⟩ := by simp [lentL]
theorem lentR_length {l : List BalD} {es : List (Addr × Nat)} (h : es.length = l.length) : (lentR l es).length = l.length := by simp [lentR, h]
theorem lentR_get {l : List BalD} {es : List (Addr × Nat)} (h : es.length = l.length) (i : Nat) (hi : i < l.length) : (lentR l es)[i]'(by rw [lentR_length h]; exact hi) = Stt.LentO (es[i]'(by omega)).1 (es[i]'(by omega)).2 l[i].s.states := by simp [lentR]
theorem lentR_mem {l : List BalD} {es : List (Addr × Nat)} (h : es.length = l.length) (i : Nat) (hi : i < l.length) : Stt.LentO (es[i]'(by omega)).1 (es[i]'(by omega)).2 l[i].s.states ∈ lentR l es := by
  rw [← lentR_get h i hi]; exact List.getElem_mem _

set_option maxHeartbeats 2000000 in
theorem lentb_ok {W : World} {R : List SProp} {ao : Option Addr} {cap : Nat} (l : List BalD) (hB : ∀ R, Bals W R ao l) (hl : l.length ≤ 10000) (hs : ∀ b ∈ l, b.s.states.length ≤ 10000) :
    Does W Try.prog 10 [.slice ao l.length cap] R (β := List (Addr × Nat) × Addr × Nat) (fun x => x.1.length = l.length) (fun x => .slice (some x.2.1) l.length x.2.2)
      (fun x => Own 61 13 (.slice (some x.2.1) (l.length + 1) x.2.2) (l.length + 1) (balCells (lentL l x.1 ++ [markB])) :: (lentR l x.1 ++ R)) := by
  (refine Does.enter Try.func10 Try.ntmps10 rfl rfl ?_)
  (refine w ?_; repeat ((first | refine VO.step rfl rfl ?_ | refine VD.end rfl rfl rfl ?_ | refine VD.mid rfl rfl rfl ?_); refine OpV.box rfl rfl rfl ?_; intro _; refine w ?_))
  refine VO.re 8 (.int .i64 ((l.length + 1 : Nat) : Int)) rfl (by congr 1) ?_
  (first | refine VO.step rfl rfl ?_ | refine VD.end rfl rfl rfl ?_ | refine VD.mid rfl rfl rfl ?_)
  refine OpV.makeCap (m := l.length + 1) st_22 rfl rfl (by omega) (by simp only [maxLen]; omega) rfl ?_
  intro nb
  (refine w ?_; repeat ((first | refine VO.step rfl rfl ?_ | refine VD.end rfl rfl rfl ?_ | refine VD.mid rfl rfl rfl ?_); refine OpV.box rfl rfl rfl ?_; intro _; refine w ?_))
  refine VC.loop (α := List (Addr × Nat) × Option Addr × Nat) (fun y => y.1.length ≤ l.length) (fun y => Own 61 13 (.slice y.2.1 y.1.length y.2.2) y.1.length (balCells (lentL l y.1)) :: (lentR l y.1 ++ R))
    (fun y => [(0, .slice ao l.length cap), (3, .slice y.2.1 y.1.length y.2.2), (4, .int .i64 y.1.length)]) (fun y => l.length - y.1.length) rfl ([], some ⟨nb, 0, none⟩, l.length + 1) (Nat.zero_le _) (by simp only [lentL, lentR, List.zipWith_nil_right]; exact Ent.refl) ⟨rfl, rfl, rfl, trivial⟩ ?_
  rintro ⟨es, so, sc⟩ hi
  dsimp only at hi ⊢
  (refine w ?_; repeat ((first | refine VO.step rfl rfl ?_ | refine VD.end rfl rfl rfl ?_ | refine VD.mid rfl rfl rfl ?_); refine OpV.box rfl rfl rfl ?_; intro _; refine w ?_))
  (refine VC.cond rfl rfl ?_ ?_ <;> intro hc)
  · have hlt : es.length < l.length := by have := of_decide_eq_true hc; omega
    obtain ⟨la, rfl⟩ : ∃ x, ao = some x := by cases ao with | none => have := (hB []).rds.nil rfl; omega | some x => exact ⟨x, rfl⟩
    have hst := fun R => (hB R).st _ (List.getElem_mem hlt)
    have hsl := hs _ (List.getElem_mem hlt)
    (refine w ?_; repeat ((first | refine VO.step rfl rfl ?_ | refine VD.end rfl rfl rfl ?_ | refine VD.mid rfl rfl rfl ?_); refine OpV.box rfl rfl rfl ?_; intro _; refine w ?_))
    (refine VC.drawn [11, 13] 14 [0, 1, 2, 3, 4, 5, 6, 7, 8, 9, 10, 11, 12, 13, 14, 15] _ rfl (by kernel_rfl) (by kernel_rfl) Ent.re ?_)
    (refine w ?_; repeat ((first | refine VO.step rfl rfl ?_ | refine VD.end rfl rfl rfl ?_ | refine VD.mid rfl rfl rfl ?_); refine OpV.box rfl rfl rfl ?_; intro _; refine w ?_))
    (first | refine VO.pure rfl rfl (PureAt.ldRc tab_ok rfl rfl (hB _).rds (bal_get l es.length 0 hlt (by decide))) rfl ?_ | refine VD.take rfl rfl rfl (PureAt.ldRc tab_ok rfl rfl (hB _).rds (bal_get l es.length 0 hlt (by decide))) rfl ?_ | refine VQ.pure rfl rfl (PureAt.ldRc tab_ok rfl rfl (hB _).rds (bal_get l es.length 0 hlt (by decide))) rfl ?_ | refine VD.end rfl rfl rfl (OpV.pure (PureAt.ldRc tab_ok rfl rfl (hB _).rds (bal_get l es.length 0 hlt (by decide))) rfl ?_))
    (refine w ?_; repeat ((first | refine VO.step rfl rfl ?_ | refine VD.end rfl rfl rfl ?_ | refine VD.mid rfl rfl rfl ?_); refine OpV.box rfl rfl rfl ?_; intro _; refine w ?_))
    (first | refine VO.pure rfl rfl (.ldRA tab_ok rfl rfl (hB _).rds (bal_sup l es.length hlt) rfl) rfl ?_ | refine VD.take rfl rfl rfl (.ldRA tab_ok rfl rfl (hB _).rds (bal_sup l es.length hlt) rfl) rfl ?_ | refine VQ.pure rfl rfl (.ldRA tab_ok rfl rfl (hB _).rds (bal_sup l es.length hlt) rfl) rfl ?_ | refine VD.end rfl rfl rfl (OpV.pure (.ldRA tab_ok rfl rfl (hB _).rds (bal_sup l es.length hlt) rfl) rfl ?_))
    ((first | refine VO.step rfl rfl ?_ | refine VD.end rfl rfl rfl ?_ | refine VD.mid rfl rfl rfl ?_); refine OpV.call rfl rfl (fun _ _ => by simp) (lentsup_ok (l[es.length]).s hst (by omega)) Ent.refl rfl ?_)
    rintro e _
    (refine w ?_; repeat ((first | refine VO.step rfl rfl ?_ | refine VD.end rfl rfl rfl ?_ | refine VD.mid rfl rfl rfl ?_); refine OpV.box rfl rfl rfl ?_; intro _; refine w ?_))
    (first | refine VO.pure rfl rfl (PureAt.build sb_61 rfl (by simp [buildX, setL, Value.cells]; rfl)) rfl ?_ | refine VD.take rfl rfl rfl (PureAt.build sb_61 rfl (by simp [buildX, setL, Value.cells]; rfl)) rfl ?_ | refine VQ.pure rfl rfl (PureAt.build sb_61 rfl (by simp [buildX, setL, Value.cells]; rfl)) rfl ?_ | refine VD.end rfl rfl rfl (OpV.pure (PureAt.build sb_61 rfl (by simp [buildX, setL, Value.cells]; rfl)) rfl ?_))
    (first | refine VO.step rfl rfl ?_ | refine VD.end rfl rfl rfl ?_ | refine VD.mid rfl rfl rfl ?_)
    refine OpV.buildSlice (cs := BalD.cells ⟨(l[es.length]).has, (l[es.length]).s.lend e⟩) st_22 rfl rfl (by simp [Value.cells]) (agg_flat _) (by decide) rfl ?_
    intro nc
    (refine w ?_; repeat ((first | refine VO.step rfl rfl ?_ | refine VD.end rfl rfl rfl ?_ | refine VD.mid rfl rfl rfl ?_); refine OpV.box rfl rfl rfl ?_; intro _; refine w ?_))
    (first | refine VO.step rfl rfl ?_ | refine VD.end rfl rfl rfl ?_ | refine VD.mid rfl rfl rfl ?_)
    refine OpV.appendRow st_22 rfl rfl (by (repeat first | exact .head | apply Hole.tail)) (by (focus repeat first | exact .head _ | apply List.Mem.tail)) rfl (bal_one _) ?_ ?_ rfl ?_
    · simp only [maxLen]; omega
    · omega
    intro so' sc'
    (refine w ?_; repeat ((first | refine VO.step rfl rfl ?_ | refine VD.end rfl rfl rfl ?_ | refine VD.mid rfl rfl rfl ?_); refine OpV.box rfl rfl rfl ?_; intro _; refine w ?_))
    refine VE.round (es ++ [e], so', sc') (by simp only [List.length_append, List.length_singleton]; omega) (by simp only [List.length_append, List.length_singleton]; omega) ⟨rfl, asV rfl (by simp), asV rfl (by simp), trivial⟩ ?_
    dsimp only
    rw [show lentL l (es ++ [e]) = _ from zip_push _ l es e hlt, show lentR l (es ++ [e]) = _ from zip_push _ l es e hlt, balCells_push, List.length_append, List.length_singleton]
    refine Ent.trans (Ent.re (L := Own 61 13 (.slice so' (es.length + 1) sc') (es.length + 1) (balCells (lentL l es) ++ BalD.cells ⟨(l[es.length]).has, (l[es.length]).s.lend e⟩) :: Stt.LentO e.1 e.2 (l[es.length]).s.states :: (lentR l es ++ R))) (fun w hw => ?_)
    rw [List.append_assoc]
    exact hw.perm (List.Perm.cons _ List.perm_middle.symm)
  · have hge : es.length = l.length := by have := of_decide_eq_false hc; omega
    rw [hge]
    (refine w ?_; repeat ((first | refine VO.step rfl rfl ?_ | refine VD.end rfl rfl rfl ?_ | refine VD.mid rfl rfl rfl ?_); refine OpV.box rfl rfl rfl ?_; intro _; refine w ?_))
    (apply VO.pure rfl rfl; apply PureAt.build sb_30 rfl; (simp [buildX, setL, Value.cells]; rfl); rfl)
    (apply VO.pure rfl rfl; apply PureAt.build sb_61 rfl; (simp [buildX, setL, Value.cells]; rfl); rfl)
    (first | refine VO.step rfl rfl ?_ | refine VD.end rfl rfl rfl ?_ | refine VD.mid rfl rfl rfl ?_)
    refine OpV.buildSlice (cs := markB.cells) st_22 rfl rfl (by simp [Value.cells]) (agg_flat _) (by decide) rfl ?_
    intro nc
    (first | refine VO.step rfl rfl ?_ | refine VD.end rfl rfl rfl ?_ | refine VD.mid rfl rfl rfl ?_)
    refine OpV.appendRow st_22 rfl rfl (by (repeat first | exact .head | apply Hole.tail)) (by (focus repeat first | exact .head _ | apply List.Mem.tail)) rfl (bal_one _) ?_ ?_ rfl ?_
    · simp only [maxLen]; omega
    · omega
    intro so' sc'
    refine VO.know (p := so' = none → l.length + 1 = 0) (fun w hw => Holds.ownNone hw (by (focus repeat first | exact .head _ | apply List.Mem.tail))) ?_
    intro hnn
    refine VO.know (p := l.length + 1 ≤ sc') (fun w hw => Holds.ownCap hw (by (focus repeat first | exact .head _ | apply List.Mem.tail))) ?_
    intro hcc
    obtain ⟨sa, rfl⟩ : ∃ x, so' = some x := by cases so' with | none => have := hnn rfl; omega | some x => exact ⟨x, rfl⟩
    (refine w ?_; repeat ((first | refine VO.step rfl rfl ?_ | refine VD.end rfl rfl rfl ?_ | refine VD.mid rfl rfl rfl ?_); refine OpV.box rfl rfl rfl ?_; intro _; refine w ?_))
    refine VE.done (es, sa, sc') rfl hge rfl ?_
    dsimp only
    rw [balCells_push]
    exact Ent.re

theorem lent_get {l : List BalD} {es : List (Addr × Nat)} (h : es.length = l.length) (i : Nat) (hi : i < l.length) : (lentL l es ++ [markB])[i]'(by rw [List.length_append, lentL_length h]; omega) = ⟨l[i].has, l[i].s.lend (es[i]'(by omega))⟩ := by
  rw [List.getElem_append_left (by rw [lentL_length h]; exact hi), lentL_get h i hi]
theorem lent_len {l : List BalD} {es : List (Addr × Nat)} (h : es.length = l.length) : (lentL l es ++ [markB]).length = l.length + 1 := by rw [List.length_append, lentL_length h]; rfl
abbrev LentB (l : List BalD) (es : List (Addr × Nat)) (a : Addr) (cap : Nat) : SProp := Own 61 13 (.slice (some a) (l.length + 1) cap) (l.length + 1) (balCells (lentL l es ++ [markB]))
theorem lentb_rds {W : World} {H : List SProp} {l : List BalD} {es : List (Addr × Nat)} {a : Addr} {cap : Nat} (h : es.length = l.length) (m : LentB l es a cap ∈ H) : Rds W H 13 (some a) (l.length + 1) (balCells (lentL l es ++ [markB])) := rdsBals m (lent_len h)
theorem lentb_cap {W w : World} {R : List SProp} {l : List BalD} {es : List (Addr × Nat)} (h : es.length = l.length) (hw : Holds W (lentR l es ++ R) w) : ∀ (i : Nat) (hi : i < l.length), l[i].s.states.length ≤ (es[i]'(by omega)).2 := fun i hi => by
  have := Holds.ownCap hw (List.mem_append_left _ (lentR_mem h i hi))
  omega
theorem lentb_bals {W : World} {H : List SProp} {l : List BalD} {es : List (Addr × Nat)} {a : Addr} {cap : Nat} (h : es.length = l.length) (hf : ∀ b ∈ l, b.s.fit) (m : LentB l es a cap ∈ H) (hR : ∀ x ∈ lentR l es, x ∈ H) (hc : ∀ (i : Nat) (hi : i < l.length), l[i].s.states.length ≤ (es[i]'(by omega)).2) : Bals W H (some a) (lentL l es) where
  rds := by
    have := Rds.take (W := W) (l := l.length) (lentb_rds h m) (by omega)
    rw [show l.length * 13 = (balCells (lentL l es)).length by rw [balCells_length, lentL_length h], balCells_push, List.take_left] at this
    rw [lentL_length h]; exact this
  st := fun b hb => by
    obtain ⟨i, hi, rfl⟩ := List.mem_iff_getElem.1 hb
    have hi2 : i < l.length := by rw [lentL_length h] at hi; exact hi
    rw [lentL_get h i hi2]
    exact lentst_rds (hR _ (lentR_mem h i hi2))
  fit := fun b hb => by
    obtain ⟨i, hi, rfl⟩ := List.mem_iff_getElem.1 hb
    have hi2 : i < l.length := by rw [lentL_length h] at hi; exact hi
    rw [lentL_get h i hi2]
    exact lend_fit (hf _ (List.getElem_mem hi2)) _ (hc i hi2)

set_option maxHeartbeats 2000000 in
theorem wholeb_ok {W : World} {R : List SProp} {ao : Option Addr} {a : Addr} {cap cap2 : Nat} (l : List BalD) (es : List (Addr × Nat)) (hes : es.length = l.length) (hB : ∀ R, Bals W R ao l) (hl : l.length ≤ 10000) (hs : ∀ b ∈ l, b.s.states.length ≤ 10000) :
    Does1 W Try.prog 12 [.slice (some a) l.length cap, .slice ao l.length cap2] (LentB l es a cap :: (lentR l es ++ R)) (.bool true) (LentB l es a cap :: (lentR l es ++ R)) := by
  (refine Does.enter Try.func12 Try.ntmps12 rfl rfl ?_)
  refine VC.know (p := l.length + 1 ≤ cap) (fun w hw => Holds.ownCap hw (.head _)) ?_
  intro hcc
  refine VC.know (fun w hw => lentb_cap hes hw.tail) ?_
  intro hcap
  (refine w ?_; repeat ((first | refine VO.step rfl rfl ?_ | refine VD.end rfl rfl rfl ?_ | refine VD.mid rfl rfl rfl ?_); refine OpV.box rfl rfl rfl ?_; intro _; refine w ?_))
  (first | refine VO.gF rfl rfl rfl (by simp) ?_ | refine VD.gF rfl rfl rfl (by simp) ?_)
  (refine w ?_; repeat ((first | refine VO.step rfl rfl ?_ | refine VD.end rfl rfl rfl ?_ | refine VD.mid rfl rfl rfl ?_); refine OpV.box rfl rfl rfl ?_; intro _; refine w ?_))
  (refine VC.condFe rfl rfl (decide_eq_false (by omega)) ?_)
  (refine w ?_; repeat ((first | refine VO.step rfl rfl ?_ | refine VD.end rfl rfl rfl ?_ | refine VD.mid rfl rfl rfl ?_); refine OpV.box rfl rfl rfl ?_; intro _; refine w ?_))
  refine VO.re 23 (.int .i64 ((l.length + 1 : Nat) : Int)) rfl (by congr 1) ?_
  (refine w ?_; repeat ((first | refine VO.step rfl rfl ?_ | refine VD.end rfl rfl rfl ?_ | refine VD.mid rfl rfl rfl ?_); refine OpV.box rfl rfl rfl ?_; intro _; refine w ?_))
  refine VO.pure rfl rfl (.indexAddrN (j := l.length) (m := l.length + 1) tab_ok rfl rfl rfl rfl (by omega)) rfl ?_
  (refine w ?_; repeat ((first | refine VO.step rfl rfl ?_ | refine VD.end rfl rfl rfl ?_ | refine VD.mid rfl rfl rfl ?_); refine OpV.box rfl rfl rfl ?_; intro _; refine w ?_))
  (first | refine VO.pure rfl rfl (PureAt.ldRc tab_ok rfl rfl (lentb_rds hes (.head _)) ((bal_get _ l.length 0 (by rw [lent_len hes]; omega) (by decide)).trans (show _ = some (.bool false) by rw [List.getElem_append_right (by rw [lentL_length hes]; exact Nat.le_refl _)]; simp [lentL_length hes, markB]))) rfl ?_ | refine VD.take rfl rfl rfl (PureAt.ldRc tab_ok rfl rfl (lentb_rds hes (.head _)) ((bal_get _ l.length 0 (by rw [lent_len hes]; omega) (by decide)).trans (show _ = some (.bool false) by rw [List.getElem_append_right (by rw [lentL_length hes]; exact Nat.le_refl _)]; simp [lentL_length hes, markB]))) rfl ?_ | refine VQ.pure rfl rfl (PureAt.ldRc tab_ok rfl rfl (lentb_rds hes (.head _)) ((bal_get _ l.length 0 (by rw [lent_len hes]; omega) (by decide)).trans (show _ = some (.bool false) by rw [List.getElem_append_right (by rw [lentL_length hes]; exact Nat.le_refl _)]; simp [lentL_length hes, markB]))) rfl ?_ | refine VD.end rfl rfl rfl (OpV.pure (PureAt.ldRc tab_ok rfl rfl (lentb_rds hes (.head _)) ((bal_get _ l.length 0 (by rw [lent_len hes]; omega) (by decide)).trans (show _ = some (.bool false) by rw [List.getElem_append_right (by rw [lentL_length hes]; exact Nat.le_refl _)]; simp [lentL_length hes, markB]))) rfl ?_))
  (refine w ?_; repeat ((first | refine VO.step rfl rfl ?_ | refine VD.end rfl rfl rfl ?_ | refine VD.mid rfl rfl rfl ?_); refine OpV.box rfl rfl rfl ?_; intro _; refine w ?_))
  refine VO.pure rfl rfl (.indexAddrN (j := l.length) (m := l.length + 1) tab_ok rfl rfl rfl rfl (by omega)) rfl ?_
  (refine w ?_; repeat ((first | refine VO.step rfl rfl ?_ | refine VD.end rfl rfl rfl ?_ | refine VD.mid rfl rfl rfl ?_); refine OpV.box rfl rfl rfl ?_; intro _; refine w ?_))
  (first | refine VO.pure rfl rfl (PureAt.ldRc tab_ok rfl rfl (lentb_rds hes (.head _)) ((bal_get _ l.length 4 (by rw [lent_len hes]; omega) (by decide)).trans (show _ = some (.int .i64 (-77)) by rw [List.getElem_append_right (by rw [lentL_length hes]; exact Nat.le_refl _)]; simp [lentL_length hes, markB]))) rfl ?_ | refine VD.take rfl rfl rfl (PureAt.ldRc tab_ok rfl rfl (lentb_rds hes (.head _)) ((bal_get _ l.length 4 (by rw [lent_len hes]; omega) (by decide)).trans (show _ = some (.int .i64 (-77)) by rw [List.getElem_append_right (by rw [lentL_length hes]; exact Nat.le_refl _)]; simp [lentL_length hes, markB]))) rfl ?_ | refine VQ.pure rfl rfl (PureAt.ldRc tab_ok rfl rfl (lentb_rds hes (.head _)) ((bal_get _ l.length 4 (by rw [lent_len hes]; omega) (by decide)).trans (show _ = some (.int .i64 (-77)) by rw [List.getElem_append_right (by rw [lentL_length hes]; exact Nat.le_refl _)]; simp [lentL_length hes, markB]))) rfl ?_ | refine VD.end rfl rfl rfl (OpV.pure (PureAt.ldRc tab_ok rfl rfl (lentb_rds hes (.head _)) ((bal_get _ l.length 4 (by rw [lent_len hes]; omega) (by decide)).trans (show _ = some (.int .i64 (-77)) by rw [List.getElem_append_right (by rw [lentL_length hes]; exact Nat.le_refl _)]; simp [lentL_length hes, markB]))) rfl ?_))
  (refine w ?_; repeat ((first | refine VO.step rfl rfl ?_ | refine VD.end rfl rfl rfl ?_ | refine VD.mid rfl rfl rfl ?_); refine OpV.box rfl rfl rfl ?_; intro _; refine w ?_))
  refine VC.loop (α := Nat) (fun i => i ≤ l.length) (fun _ => LentB l es a cap :: (lentR l es ++ R)) (fun i => [(0, .slice (some a) l.length cap), (1, .slice ao l.length cap2), (6, .int .i64 i)]) (fun i => l.length - i) rfl 0 (Nat.zero_le _) Ent.refl ⟨rfl, rfl, rfl, trivial⟩ ?_
  intro i hi
  (refine w ?_; repeat ((first | refine VO.step rfl rfl ?_ | refine VD.end rfl rfl rfl ?_ | refine VD.mid rfl rfl rfl ?_); refine OpV.box rfl rfl rfl ?_; intro _; refine w ?_))
  (refine VC.cond rfl rfl ?_ ?_ <;> intro hc)
  · have hlt : i < l.length := by have := of_decide_eq_true hc; omega
    obtain ⟨la, rfl⟩ : ∃ x, ao = some x := by cases ao with | none => have := (hB []).rds.nil rfl; omega | some x => exact ⟨x, rfl⟩
    have hlg := lent_get hes i hlt
    have hll : i < (lentL l es ++ [markB]).length := by rw [lent_len hes]; omega
    have hft := (hB []).fit _ (List.getElem_mem hlt)
    have hst := fun R => (hB R).st _ (List.getElem_mem hlt)
    have hsl := hs _ (List.getElem_mem hlt)
    (refine w ?_; repeat ((first | refine VO.step rfl rfl ?_ | refine VD.end rfl rfl rfl ?_ | refine VD.mid rfl rfl rfl ?_); refine OpV.box rfl rfl rfl ?_; intro _; refine w ?_))
    (refine VC.drawn [] 22 [0, 1, 2, 3, 4, 5, 6, 7, 8, 9, 10, 11, 12, 13, 14, 15, 16, 17, 18, 19, 20, 21, 22, 23, 24] _ rfl (by kernel_rfl) (by kernel_rfl) Ent.re ?_)
    (refine w ?_; repeat ((first | refine VO.step rfl rfl ?_ | refine VD.end rfl rfl rfl ?_ | refine VD.mid rfl rfl rfl ?_); refine OpV.box rfl rfl rfl ?_; intro _; refine w ?_))
    (first | refine VO.pure rfl rfl (PureAt.ldRc tab_ok rfl rfl (lentb_rds hes (.head _)) ((bal_get _ i 0 hll (by decide)).trans (show _ = some (.bool l[i].has) by rw [hlg]; rfl))) rfl ?_ | refine VD.take rfl rfl rfl (PureAt.ldRc tab_ok rfl rfl (lentb_rds hes (.head _)) ((bal_get _ i 0 hll (by decide)).trans (show _ = some (.bool l[i].has) by rw [hlg]; rfl))) rfl ?_ | refine VQ.pure rfl rfl (PureAt.ldRc tab_ok rfl rfl (lentb_rds hes (.head _)) ((bal_get _ i 0 hll (by decide)).trans (show _ = some (.bool l[i].has) by rw [hlg]; rfl))) rfl ?_ | refine VD.end rfl rfl rfl (OpV.pure (PureAt.ldRc tab_ok rfl rfl (lentb_rds hes (.head _)) ((bal_get _ i 0 hll (by decide)).trans (show _ = some (.bool l[i].has) by rw [hlg]; rfl))) rfl ?_))
    (refine w ?_; repeat ((first | refine VO.step rfl rfl ?_ | refine VD.end rfl rfl rfl ?_ | refine VD.mid rfl rfl rfl ?_); refine OpV.box rfl rfl rfl ?_; intro _; refine w ?_))
    (first | refine VO.pure rfl rfl (PureAt.ldRc tab_ok rfl rfl (hB _).rds (bal_get l i 0 hlt (by decide))) rfl ?_ | refine VD.take rfl rfl rfl (PureAt.ldRc tab_ok rfl rfl (hB _).rds (bal_get l i 0 hlt (by decide))) rfl ?_ | refine VQ.pure rfl rfl (PureAt.ldRc tab_ok rfl rfl (hB _).rds (bal_get l i 0 hlt (by decide))) rfl ?_ | refine VD.end rfl rfl rfl (OpV.pure (PureAt.ldRc tab_ok rfl rfl (hB _).rds (bal_get l i 0 hlt (by decide))) rfl ?_))
    (refine w ?_; repeat ((first | refine VO.step rfl rfl ?_ | refine VD.end rfl rfl rfl ?_ | refine VD.mid rfl rfl rfl ?_); refine OpV.box rfl rfl rfl ?_; intro _; refine w ?_))
    (first | refine VO.gF rfl rfl rfl (by simp) ?_ | refine VD.gF rfl rfl rfl (by simp) ?_)
    (refine w ?_; repeat ((first | refine VO.step rfl rfl ?_ | refine VD.end rfl rfl rfl ?_ | refine VD.mid rfl rfl rfl ?_); refine OpV.box rfl rfl rfl ?_; intro _; refine w ?_))
    (first | refine VO.pure rfl rfl (.ldRA tab_ok rfl rfl (lentb_rds hes (.head _)) ((bal_sup _ i hll).trans (by rw [hlg])) rfl) rfl ?_ | refine VD.take rfl rfl rfl (.ldRA tab_ok rfl rfl (lentb_rds hes (.head _)) ((bal_sup _ i hll).trans (by rw [hlg])) rfl) rfl ?_ | refine VQ.pure rfl rfl (.ldRA tab_ok rfl rfl (lentb_rds hes (.head _)) ((bal_sup _ i hll).trans (by rw [hlg])) rfl) rfl ?_ | refine VD.end rfl rfl rfl (OpV.pure (.ldRA tab_ok rfl rfl (lentb_rds hes (.head _)) ((bal_sup _ i hll).trans (by rw [hlg])) rfl) rfl ?_))
    (refine w ?_; repeat ((first | refine VO.step rfl rfl ?_ | refine VD.end rfl rfl rfl ?_ | refine VD.mid rfl rfl rfl ?_); refine OpV.box rfl rfl rfl ?_; intro _; refine w ?_))
    (first | refine VO.pure rfl rfl (.ldRA tab_ok rfl rfl (hB _).rds (bal_sup l i hlt) rfl) rfl ?_ | refine VD.take rfl rfl rfl (.ldRA tab_ok rfl rfl (hB _).rds (bal_sup l i hlt) rfl) rfl ?_ | refine VQ.pure rfl rfl (.ldRA tab_ok rfl rfl (hB _).rds (bal_sup l i hlt) rfl) rfl ?_ | refine VD.end rfl rfl rfl (OpV.pure (.ldRA tab_ok rfl rfl (hB _).rds (bal_sup l i hlt) rfl) rfl ?_))
    (refine w ?_; repeat ((first | refine VO.step rfl rfl ?_ | refine VD.end rfl rfl rfl ?_ | refine VD.mid rfl rfl rfl ?_); refine OpV.box rfl rfl rfl ?_; intro _; refine w ?_))
    ((first | refine VO.step rfl rfl ?_ | refine VD.end rfl rfl rfl ?_ | refine VD.mid rfl rfl rfl ?_); refine OpV.call rfl rfl (fun _ _ => by simp) (wholesup_ok l[i].s (es[i]'(by omega)) hft (hcap i hlt) hst (by omega) (.tail _ (List.mem_append_left _ (lentR_mem hes i hlt)))) Ent.refl rfl ?_; intro _ _)
    (refine w ?_; repeat ((first | refine VO.step rfl rfl ?_ | refine VD.end rfl rfl rfl ?_ | refine VD.mid rfl rfl rfl ?_); refine OpV.box rfl rfl rfl ?_; intro _; refine w ?_))
    exact VE.round (i + 1) (by omega) (by omega) ⟨rfl, rfl, asV rfl (by congr 1), trivial⟩ Ent.refl
  · (refine w ?_; repeat ((first | refine VO.step rfl rfl ?_ | refine VD.end rfl rfl rfl ?_ | refine VD.mid rfl rfl rfl ?_); refine OpV.box rfl rfl rfl ?_; intro _; refine w ?_))
    (refine VE.done1 rfl ?_ ?_)
    · rfl
    · exact Ent.refl

theorem Holds.ownFullN {W w : World} {R : List SProp} {e m cap sz : Nat} {a : Addr} {xs : List Value} (hw : Holds W (Own e sz (.slice (some a) m cap) m xs :: R) w) : ∃ ys : { ys : List Value // ys.length = cap * sz ∧ cap ≤ maxLen }, Holds W (Own e sz (.slice (some a) cap cap) cap ys.1 :: R) w := by
  obtain ⟨hl, hv⟩ := hw.ownOpen
  rcases hv with ⟨he, rfl, hR⟩ | ⟨b, cap0, spare, he, hn, hm, hc, hR⟩
  · cases he
  · cases he
    refine ⟨⟨xs ++ spare, hc, hm⟩, ?_⟩
    exact Holds.ownShut (spare := []) hc (Nat.le_refl _) hm (by rw [List.append_nil]; exact hc) (by rw [List.append_nil]; exact hR)
set_option maxHeartbeats 2000000 in
theorem spoilb_ok {W : World} {R : List SProp} {a : Addr} {cap : Nat} (l : List BalD) (es : List (Addr × Nat)) (hes : es.length = l.length) (hl : l.length ≤ 10000) :
    Does1 W Try.prog 13 [.slice (some a) l.length cap] (LentB l es a cap :: (lentR l es ++ R)) (.tuple #[]) R := by
  (refine Does.enter Try.func13 Try.ntmps13 rfl rfl ?_)
  refine VC.know (p := l.length + 1 ≤ cap) (fun w hw => Holds.ownCap hw (.head _)) ?_
  intro hcc
  (refine w ?_; repeat ((first | refine VO.step rfl rfl ?_ | refine VD.end rfl rfl rfl ?_ | refine VD.mid rfl rfl rfl ?_); refine OpV.box rfl rfl rfl ?_; intro _; refine w ?_))
  refine VC.loop (α := Nat) (fun i => i ≤ l.length) (fun i => LentB l es a cap :: ((lentR l es).drop i ++ R)) (fun i => [(0, .slice (some a) l.length cap), (2, .int .i64 i)]) (fun i => l.length - i) rfl 0 (Nat.zero_le _) Ent.refl ⟨rfl, rfl, trivial⟩ ?_
  intro i hi
  (refine w ?_; repeat ((first | refine VO.step rfl rfl ?_ | refine VD.end rfl rfl rfl ?_ | refine VD.mid rfl rfl rfl ?_); refine OpV.box rfl rfl rfl ?_; intro _; refine w ?_))
  (refine VC.cond rfl rfl ?_ ?_ <;> intro hc)
  · have hlt : i < l.length := by have := of_decide_eq_true hc; omega
    have hlg := lent_get hes i hlt
    have hll : i < (lentL l es ++ [markB]).length := by rw [lent_len hes]; omega
    have hd : (lentR l es).drop i = Stt.LentO (es[i]'(by omega)).1 (es[i]'(by omega)).2 l[i].s.states :: (lentR l es).drop (i + 1) := by
      rw [List.drop_eq_getElem_cons (by rw [lentR_length hes]; exact hlt), lentR_get hes i hlt]
    (refine w ?_; repeat ((first | refine VO.step rfl rfl ?_ | refine VD.end rfl rfl rfl ?_ | refine VD.mid rfl rfl rfl ?_); refine OpV.box rfl rfl rfl ?_; intro _; refine w ?_))
    (first | refine VO.pure rfl rfl (.ldRA tab_ok rfl rfl (lentb_rds hes (.head _)) ((bal_sup _ i hll).trans (by rw [hlg])) rfl) rfl ?_ | refine VD.take rfl rfl rfl (.ldRA tab_ok rfl rfl (lentb_rds hes (.head _)) ((bal_sup _ i hll).trans (by rw [hlg])) rfl) rfl ?_ | refine VQ.pure rfl rfl (.ldRA tab_ok rfl rfl (lentb_rds hes (.head _)) ((bal_sup _ i hll).trans (by rw [hlg])) rfl) rfl ?_ | refine VD.end rfl rfl rfl (OpV.pure (.ldRA tab_ok rfl rfl (lentb_rds hes (.head _)) ((bal_sup _ i hll).trans (by rw [hlg])) rfl) rfl ?_))
    rw [hd]
    (refine w ?_; repeat ((first | refine VO.step rfl rfl ?_ | refine VD.end rfl rfl rfl ?_ | refine VD.mid rfl rfl rfl ?_); refine OpV.box rfl rfl rfl ?_; intro _; refine w ?_))
    ((first | refine VO.step rfl rfl ?_ | refine VD.end rfl rfl rfl ?_ | refine VD.mid rfl rfl rfl ?_); refine OpV.call rfl rfl (fun _ _ => by simp) (spoilsup_ok (R := LentB l es a cap :: ((lentR l es).drop (i + 1) ++ R)) l[i].s (es[i]'(by omega))) Ent.re rfl ?_)
    intro _ _
    (refine w ?_; repeat ((first | refine VO.step rfl rfl ?_ | refine VD.end rfl rfl rfl ?_ | refine VD.mid rfl rfl rfl ?_); refine OpV.box rfl rfl rfl ?_; intro _; refine w ?_))
    exact VE.round (i + 1) (by omega) (by omega) ⟨rfl, asV rfl (by congr 1), trivial⟩ Ent.refl
  have hge : i = l.length := by have := of_decide_eq_false hc; omega
  rw [hge, List.drop_of_length_le (by rw [lentR_length hes]; exact Nat.le_refl _), List.nil_append]
  refine VC.obtain (fun w => Holds.ownFullN) ?_
  rintro ⟨ys, hy, hcm⟩
  dsimp only
  simp only [maxLen] at hcm
  (refine w ?_; repeat ((first | refine VO.step rfl rfl ?_ | refine VD.end rfl rfl rfl ?_ | refine VD.mid rfl rfl rfl ?_); refine OpV.box rfl rfl rfl ?_; intro _; refine w ?_))
  refine VC.loop (α := Nat × List Value) (fun g => g.1 ≤ cap ∧ g.2.length = cap * 13) (fun g => Own 61 13 (.slice (some a) cap cap) cap g.2 :: R)
    (fun g => [(3, .slice (some a) cap cap), (4, .int .i64 g.1)]) (fun g => cap - g.1) rfl (0, ys) ⟨Nat.zero_le _, hy⟩ Ent.refl ⟨rfl, rfl, trivial⟩ ?_
  rintro ⟨k, zs⟩ ⟨hk, hz⟩
  dsimp only at hk hz ⊢
  (refine w ?_; repeat ((first | refine VO.step rfl rfl ?_ | refine VD.end rfl rfl rfl ?_ | refine VD.mid rfl rfl rfl ?_); refine OpV.box rfl rfl rfl ?_; intro _; refine w ?_))
  (refine VC.cond rfl rfl ?_ ?_ <;> intro hc)
  · have hlt : k < cap := by have := of_decide_eq_true hc; omega
    (refine w ?_; repeat ((first | refine VO.step rfl rfl ?_ | refine VD.end rfl rfl rfl ?_ | refine VD.mid rfl rfl rfl ?_); refine OpV.box rfl rfl rfl ?_; intro _; refine w ?_))
    (apply VO.pure rfl rfl; apply PureAt.build sb_30 rfl; (simp [buildX, setL, Value.cells]; rfl); rfl)
    (apply VO.pure rfl rfl; apply PureAt.build sb_61 rfl; (simp [buildX, setL, Value.cells]; rfl); rfl)
    (refine w ?_; repeat ((first | refine VO.step rfl rfl ?_ | refine VD.end rfl rfl rfl ?_ | refine VD.mid rfl rfl rfl ?_); refine OpV.box rfl rfl rfl ?_; intro _; refine w ?_))
    (first | refine VO.step rfl rfl ?_ | refine VD.end rfl rfl rfl ?_ | refine VD.mid rfl rfl rfl ?_)
    refine OpV.stOA (vs := BalD.cells ⟨false, { zeroSup with role := -5 }⟩) tab_ok rfl rfl rfl rfl (bal_one _) .head (by omega) ?_
    (refine w ?_; repeat ((first | refine VO.step rfl rfl ?_ | refine VD.end rfl rfl rfl ?_ | refine VD.mid rfl rfl rfl ?_); refine OpV.box rfl rfl rfl ?_; intro _; refine w ?_))
    exact VE.round (k + 1, _) ⟨hlt, by simp only [List.length_append, List.length_take, List.length_drop, List.length_cons, List.length_nil]; omega⟩ (by simp only; omega) ⟨rfl, asV rfl (by congr 1), trivial⟩ Ent.refl
  · (refine w ?_; repeat ((first | refine VO.step rfl rfl ?_ | refine VD.end rfl rfl rfl ?_ | refine VD.mid rfl rfl rfl ?_); refine OpV.box rfl rfl rfl ?_; intro _; refine w ?_))
    (refine VE.done1N rfl ?_ ?_)
    · rfl
    · exact Ent.drop Ent.refl
end Go.Proofs.Ytlflmnmkgaeabaa
