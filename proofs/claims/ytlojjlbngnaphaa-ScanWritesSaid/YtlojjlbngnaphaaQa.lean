/- What is lent of patches: LentPatches, WholePatches, SpoilPatches. -/
import Derived.Test.YtlojjlbngnaphaaNv
import Derived.Test.YtlojjlbngnaphaaLk
set_option maxRecDepth 8000
set_option linter.unusedVariables false
set_option linter.unusedSimpArgs false
set_option linter.unusedSectionVars false
namespace Go.Proofs.Ytlojjlbngnaphaa
open Go.RowKit Go.Sl
attribute [local irreducible] Sl.Own

theorem memFront {W : World} {X : SProp} {H : List SProp} (m : X ∈ H) : ∃ R, Ent W H (X :: R) ∧ Ent W (X :: R) H := by
  obtain ⟨R, p⟩ := mem_perm m
  exact ⟨R, fun w hw => hw.perm p, fun w hw => hw.perm p.symm⟩
def PatE.lend (p : PatE) (e : Addr × Nat) : PatE := ⟨p.member, p.row, ⟨some e.1, e.2, p.d.data⟩⟩
theorem lendD (p : PatE) (e : Addr × Nat) : (p.lend e).D = p.D := rfl
theorem lent_rds {W : World} {H : List SProp} {a : Addr} {cap : Nat} {l : List UInt8} (m : LentO a cap l ∈ H) : Rds W H 1 (some a) l.length (bytes l) := by
  obtain ⟨R, h1, -⟩ := memFront (W := W) m
  exact LentO.rds.ent h1
theorem whole_mem {W : World} {H : List SProp} {ao : Option Addr} {a : Addr} {cap cap2 : Nat} {l : List UInt8} (hb : RdsA W 1 ao l.length (bytes l)) (hl : l.length ≤ 1000000000) (m : LentO a cap l ∈ H) :
    Does1 W Try.prog 22 [.slice (some a) l.length cap, .slice ao l.length cap2] H (.bool true) H := by
  obtain ⟨R, h1, h2⟩ := memFront (W := W) m
  exact Does1P (DoesE h1 (whole_ok hb hl)) h2
def lentP (l : List PatE) (es : List (Addr × Nat)) : List PatE := List.zipWith PatE.lend l es
def lentPR (l : List PatE) (es : List (Addr × Nat)) : List SProp := List.zipWith (fun p e => LentO e.1 e.2 p.d.data) l es
def markP : PatE := ⟨-77, 0, ⟨none, 0, []⟩⟩
theorem zipPush {α β γ : Type} (f : α → β → γ) : ∀ (l : List α) (es : List β) (e : β) (h : es.length < l.length), List.zipWith f l (es ++ [e]) = List.zipWith f l es ++ [f l[es.length] e]
  | [], es, e, h => absurd h (by simp)
  | a :: r, [], e, _ => by simp
  | a :: r, x :: es, e, h => by
    simp only [List.cons_append, List.zipWith_cons_cons, List.length_cons, List.getElem_cons_succ]
    rw [zipPush f r es e (by simpa using h)]
theorem lentP_length {l : List PatE} {es : List (Addr × Nat)} (h : es.length = l.length) : (lentP l es).length = l.length := by simp [lentP, h]
theorem lentP_get {l : List PatE} {es : List (Addr × Nat)} (h : es.length = l.length) (i : Nat) (hi : i < l.length) : (lentP l es)[i]'(by rw [lentP_length h]; exact hi) = l[i].lend (es[i]'(by omega)) := by simp [lentP]
theorem lentPR_length {l : List PatE} {es : List (Addr × Nat)} (h : es.length = l.length) : (lentPR l es).length = l.length := by simp [lentPR, h]
theorem lentPR_get {l : List PatE} {es : List (Addr × Nat)} (h : es.length = l.length) (i : Nat) (hi : i < l.length) : (lentPR l es)[i]'(by rw [lentPR_length h]; exact hi) = LentO (es[i]'(by omega)).1 (es[i]'(by omega)).2 l[i].d.data := by simp [lentPR]
theorem lentPR_mem {l : List PatE} {es : List (Addr × Nat)} (h : es.length = l.length) (i : Nat) (hi : i < l.length) : LentO (es[i]'(by omega)).1 (es[i]'(by omega)).2 l[i].d.data ∈ lentPR l es := by
  rw [← lentPR_get h i hi]; exact List.getElem_mem _
theorem lentP_D {l : List PatE} {es : List (Addr × Nat)} (h : es.length = l.length) : (lentP l es).map PatE.D = l.map PatE.D := by
  refine List.ext_getElem (by rw [List.length_map, List.length_map, lentP_length h]) fun i h1 h2 => ?_
  have hi : i < l.length := by simpa using h2
  rw [List.getElem_map, List.getElem_map, lentP_get h i hi]; rfl
theorem patCells_push (l : List PatE) (p : PatE) : patCells (l ++ [p]) = patCells l ++ p.cells := by unfold patCells; rw [List.flatMap_append]; simp
/-- Patches that can be read whatever else memory holds. -/
structure PatsA (W : World) (ao : Option Addr) (l : List PatE) : Prop where
  rd : ∀ R, RdPats W R ao l
  len : l.length ≤ 1000000
  data : ∀ p ∈ l, p.d.data.length ≤ 1000000000
theorem PatsA.bytes {W : World} {ao : Option Addr} {l : List PatE} (h : PatsA W ao l) : ∀ p ∈ l, RdsA W 1 p.d.ao p.d.data.length (bytes p.d.data) := fun p hp R => (h.rd R).each p hp
abbrev LentPs (l : List PatE) (es : List (Addr × Nat)) (a : Addr) (cap : Nat) : SProp := Sl.Own 78 3 (.slice (some a) (l.length + 2) cap) (l.length + 2) (patCells (lentP l es ++ [markP, markP]))

set_option maxHeartbeats 2000000 in
theorem lentpats_ok {W : World} {R : List SProp} {ao : Option Addr} {cap : Nat} {l : List PatE} (hP : PatsA W ao l) :
    Does W Try.prog 11 [.slice ao l.length cap] R (β := List (Addr × Nat) × Addr × Nat) (fun x => x.1.length = l.length) (fun x => .slice (some x.2.1) l.length x.2.2)
      (fun x => LentPs l x.1 x.2.1 x.2.2 :: (lentPR l x.1 ++ R)) := by
  have hl := hP.len
  (refine Does.enter Try.func11 Try.ntmps11 rfl rfl ?_)
  (refine w ?_; repeat ((first | refine VO.step rfl rfl ?_ | refine VD.end rfl rfl rfl ?_ | refine VD.mid rfl rfl rfl ?_); refine OpV.box rfl rfl rfl ?_; intro _; refine w ?_))
  refine VO.re 8 (.int .i64 ((l.length + 2 : Nat) : Int)) rfl (by congr 1) ?_
  (first | refine VO.step rfl rfl ?_ | refine VD.end rfl rfl rfl ?_ | refine VD.mid rfl rfl rfl ?_)
  refine OpV.makeCap (m := l.length + 2) st_23 rfl rfl (by omega) (by simp only [maxLen]; omega) rfl ?_
  intro nb
  (refine w ?_; repeat ((first | refine VO.step rfl rfl ?_ | refine VD.end rfl rfl rfl ?_ | refine VD.mid rfl rfl rfl ?_); refine OpV.box rfl rfl rfl ?_; intro _; refine w ?_))
  refine VC.loop (α := List (Addr × Nat) × Option Addr × Nat) (fun y => y.1.length ≤ l.length) (fun y => Sl.Own 78 3 (.slice y.2.1 y.1.length y.2.2) y.1.length (patCells (lentP l y.1)) :: (lentPR l y.1 ++ R))
    (fun y => [(0, .slice ao l.length cap), (3, .slice y.2.1 y.1.length y.2.2), (4, .int .i64 y.1.length)]) (fun y => l.length - y.1.length) rfl ([], some ⟨nb, 0, none⟩, l.length + 2) (Nat.zero_le _) (by simp only [lentP, lentPR, List.zipWith_nil_right]; exact Ent.refl) ⟨rfl, rfl, rfl, trivial⟩ ?_
  rintro ⟨es, so, sc⟩ hi
  dsimp only at hi ⊢
  (refine w ?_; repeat ((first | refine VO.step rfl rfl ?_ | refine VD.end rfl rfl rfl ?_ | refine VD.mid rfl rfl rfl ?_); refine OpV.box rfl rfl rfl ?_; intro _; refine w ?_))
  (refine VC.cond rfl rfl ?_ ?_ <;> intro hc)
  · have hlt : es.length < l.length := by have := of_decide_eq_true hc; omega
    obtain ⟨la, rfl⟩ : ∃ x, ao = some x := by cases ao with | none => have := (hP.rd []).rds.nil rfl; omega | some x => exact ⟨x, rfl⟩
    have hst := hP.bytes _ (List.getElem_mem hlt)
    have hsl := hP.data _ (List.getElem_mem hlt)
    (refine w ?_; repeat ((first | refine VO.step rfl rfl ?_ | refine VD.end rfl rfl rfl ?_ | refine VD.mid rfl rfl rfl ?_); refine OpV.box rfl rfl rfl ?_; intro _; refine w ?_))
    (refine VC.drawn [16, 18] 19 [0, 1, 2, 3, 4, 5, 6, 7, 8, 9, 10, 11, 12, 13, 14, 15, 16, 17, 18, 19, 20] _ rfl (by kernel_rfl) (by kernel_rfl) Ent.re ?_)
    (refine w ?_; repeat ((first | refine VO.step rfl rfl ?_ | refine VD.end rfl rfl rfl ?_ | refine VD.mid rfl rfl rfl ?_); refine OpV.box rfl rfl rfl ?_; intro _; refine w ?_))
    (first | refine VO.pure rfl rfl (PureAt.ldRc tab_ok rfl rfl (hP.rd _).rds (pat_get l es.length 0 hlt (by decide))) rfl ?_ | refine VD.take rfl rfl rfl (PureAt.ldRc tab_ok rfl rfl (hP.rd _).rds (pat_get l es.length 0 hlt (by decide))) rfl ?_ | refine VQ.pure rfl rfl (PureAt.ldRc tab_ok rfl rfl (hP.rd _).rds (pat_get l es.length 0 hlt (by decide))) rfl ?_ | refine VD.end rfl rfl rfl (OpV.pure (PureAt.ldRc tab_ok rfl rfl (hP.rd _).rds (pat_get l es.length 0 hlt (by decide))) rfl ?_))
    (refine w ?_; repeat ((first | refine VO.step rfl rfl ?_ | refine VD.end rfl rfl rfl ?_ | refine VD.mid rfl rfl rfl ?_); refine OpV.box rfl rfl rfl ?_; intro _; refine w ?_))
    (first | refine VO.pure rfl rfl (PureAt.ldRc tab_ok rfl rfl (hP.rd _).rds (pat_get l es.length 1 hlt (by decide))) rfl ?_ | refine VD.take rfl rfl rfl (PureAt.ldRc tab_ok rfl rfl (hP.rd _).rds (pat_get l es.length 1 hlt (by decide))) rfl ?_ | refine VQ.pure rfl rfl (PureAt.ldRc tab_ok rfl rfl (hP.rd _).rds (pat_get l es.length 1 hlt (by decide))) rfl ?_ | refine VD.end rfl rfl rfl (OpV.pure (PureAt.ldRc tab_ok rfl rfl (hP.rd _).rds (pat_get l es.length 1 hlt (by decide))) rfl ?_))
    (refine w ?_; repeat ((first | refine VO.step rfl rfl ?_ | refine VD.end rfl rfl rfl ?_ | refine VD.mid rfl rfl rfl ?_); refine OpV.box rfl rfl rfl ?_; intro _; refine w ?_))
    (first | refine VO.pure rfl rfl (PureAt.ldRc tab_ok rfl rfl (hP.rd _).rds (pat_get l es.length 2 hlt (by decide))) rfl ?_ | refine VD.take rfl rfl rfl (PureAt.ldRc tab_ok rfl rfl (hP.rd _).rds (pat_get l es.length 2 hlt (by decide))) rfl ?_ | refine VQ.pure rfl rfl (PureAt.ldRc tab_ok rfl rfl (hP.rd _).rds (pat_get l es.length 2 hlt (by decide))) rfl ?_ | refine VD.end rfl rfl rfl (OpV.pure (PureAt.ldRc tab_ok rfl rfl (hP.rd _).rds (pat_get l es.length 2 hlt (by decide))) rfl ?_))
    (refine w ?_; repeat ((first | refine VO.step rfl rfl ?_ | refine VD.end rfl rfl rfl ?_ | refine VD.mid rfl rfl rfl ?_); refine OpV.box rfl rfl rfl ?_; intro _; refine w ?_))
    ((first | refine VO.step rfl rfl ?_ | refine VD.end rfl rfl rfl ?_ | refine VD.mid rfl rfl rfl ?_); refine OpV.call rfl rfl (fun _ _ => by simp) (lent_ok hst hsl) Ent.refl rfl ?_)
    rintro e _
    (refine w ?_; repeat ((first | refine VO.step rfl rfl ?_ | refine VD.end rfl rfl rfl ?_ | refine VD.mid rfl rfl rfl ?_); refine OpV.box rfl rfl rfl ?_; intro _; refine w ?_))
    (first | refine VO.pure rfl rfl (PureAt.build sb_78 rfl (by simp [buildX, setL, Value.cells]; rfl)) rfl ?_ | refine VD.take rfl rfl rfl (PureAt.build sb_78 rfl (by simp [buildX, setL, Value.cells]; rfl)) rfl ?_ | refine VQ.pure rfl rfl (PureAt.build sb_78 rfl (by simp [buildX, setL, Value.cells]; rfl)) rfl ?_ | refine VD.end rfl rfl rfl (OpV.pure (PureAt.build sb_78 rfl (by simp [buildX, setL, Value.cells]; rfl)) rfl ?_))
    (first | refine VO.step rfl rfl ?_ | refine VD.end rfl rfl rfl ?_ | refine VD.mid rfl rfl rfl ?_)
    refine OpV.buildSlice (cs := PatE.cells (l[es.length].lend e)) st_23 rfl rfl (by simp [Value.cells]) (by simp [Value.cells, PatE.lend]) (by decide) rfl ?_
    intro nc
    (refine w ?_; repeat ((first | refine VO.step rfl rfl ?_ | refine VD.end rfl rfl rfl ?_ | refine VD.mid rfl rfl rfl ?_); refine OpV.box rfl rfl rfl ?_; intro _; refine w ?_))
    (first | refine VO.step rfl rfl ?_ | refine VD.end rfl rfl rfl ?_ | refine VD.mid rfl rfl rfl ?_)
    refine OpV.appendRow st_23 rfl rfl (by (repeat first | exact .head | apply Hole.tail)) (by (focus repeat first | exact .head _ | apply List.Mem.tail)) rfl (pat_one _) ?_ ?_ rfl ?_
    · simp only [maxLen]; omega
    · omega
    intro so' sc'
    (refine w ?_; repeat ((first | refine VO.step rfl rfl ?_ | refine VD.end rfl rfl rfl ?_ | refine VD.mid rfl rfl rfl ?_); refine OpV.box rfl rfl rfl ?_; intro _; refine w ?_))
    refine VE.round (es ++ [e], so', sc') (by simp only [List.length_append, List.length_singleton]; omega) (by simp only [List.length_append, List.length_singleton]; omega) ⟨rfl, asV rfl (by simp), asV rfl (by simp), trivial⟩ ?_
    dsimp only
    rw [show lentP l (es ++ [e]) = _ from zipPush _ l es e hlt, show lentPR l (es ++ [e]) = _ from zipPush _ l es e hlt, patCells_push, List.length_append, List.length_singleton]
    refine Ent.trans (Ent.re (L := Sl.Own 78 3 (.slice so' (es.length + 1) sc') (es.length + 1) (patCells (lentP l es) ++ PatE.cells (l[es.length].lend e)) :: LentO e.1 e.2 (l[es.length]).d.data :: (lentPR l es ++ R))) (fun w hw => ?_)
    rw [List.append_assoc]
    exact hw.perm (List.Perm.cons _ List.perm_middle.symm)
  · have hge : es.length = l.length := by have := of_decide_eq_false hc; omega
    rw [hge]
    (refine w ?_; repeat ((first | refine VO.step rfl rfl ?_ | refine VD.end rfl rfl rfl ?_ | refine VD.mid rfl rfl rfl ?_); refine OpV.box rfl rfl rfl ?_; intro _; refine w ?_))
    (apply VO.pure rfl rfl; apply PureAt.build sb_78 rfl; (simp [buildX, setL, Value.cells]; rfl); rfl)
    (apply VO.pure rfl rfl; apply PureAt.build sb_78 rfl; (simp [buildX, setL, Value.cells]; rfl); rfl)
    (first | refine VO.step rfl rfl ?_ | refine VD.end rfl rfl rfl ?_ | refine VD.mid rfl rfl rfl ?_)
    refine OpV.buildSlice (cs := markP.cells ++ markP.cells) st_23 rfl rfl (by simp [Value.cells]) (by simp [Value.cells, markP]) (by decide) rfl ?_
    intro nc
    (first | refine VO.step rfl rfl ?_ | refine VD.end rfl rfl rfl ?_ | refine VD.mid rfl rfl rfl ?_)
    refine OpV.appendRow st_23 rfl rfl (by (repeat first | exact .head | apply Hole.tail)) (by (focus repeat first | exact .head _ | apply List.Mem.tail)) rfl (by simp [Value.oneCell']) ?_ ?_ rfl ?_
    · simp only [maxLen]; omega
    · omega
    intro so' sc'
    refine VO.know (p := so' = none → l.length + 2 = 0) (fun w hw => Holds.ownNone hw (by (focus repeat first | exact .head _ | apply List.Mem.tail))) ?_
    intro hnn
    refine VO.know (p := l.length + 2 ≤ sc') (fun w hw => Holds.ownCap hw (by (focus repeat first | exact .head _ | apply List.Mem.tail))) ?_
    intro hcc
    obtain ⟨sa, rfl⟩ : ∃ x, so' = some x := by cases so' with | none => have := hnn rfl; omega | some x => exact ⟨x, rfl⟩
    (refine w ?_; repeat ((first | refine VO.step rfl rfl ?_ | refine VD.end rfl rfl rfl ?_ | refine VD.mid rfl rfl rfl ?_); refine OpV.box rfl rfl rfl ?_; intro _; refine w ?_))
    refine VE.done (es, sa, sc') rfl hge rfl ?_
    dsimp only
    rw [LentPs, show lentP l es ++ [markP, markP] = (lentP l es ++ [markP]) ++ [markP] by simp, patCells_push, patCells_push, List.append_assoc]
    exact Ent.re

theorem lentp_get {l : List PatE} {es : List (Addr × Nat)} (h : es.length = l.length) (i : Nat) (hi : i < l.length) : (lentP l es ++ [markP, markP])[i]'(by rw [List.length_append, lentP_length h]; omega) = l[i].lend (es[i]'(by omega)) := by
  rw [List.getElem_append_left (by rw [lentP_length h]; exact hi), lentP_get h i hi]
theorem lentp_mark {l : List PatE} {es : List (Addr × Nat)} (h : es.length = l.length) (i : Nat) (h1 : l.length ≤ i) (hi : i < l.length + 2) : (lentP l es ++ [markP, markP])[i]'(by rw [List.length_append, lentP_length h]; exact hi) = markP := by
  rw [List.getElem_append_right (by rw [lentP_length h]; exact h1)]
  obtain q | q : i - (lentP l es).length = 0 ∨ i - (lentP l es).length = 1 := by rw [lentP_length h]; omega
  · simp only [q]; rfl
  · simp only [q]; rfl
theorem lentp_len {l : List PatE} {es : List (Addr × Nat)} (h : es.length = l.length) : (lentP l es ++ [markP, markP]).length = l.length + 2 := by rw [List.length_append, lentP_length h]; rfl
theorem lentp_rds {W : World} {H : List SProp} {l : List PatE} {es : List (Addr × Nat)} {a : Addr} {cap : Nat} (h : es.length = l.length) (m : LentPs l es a cap ∈ H) : Rds W H 3 (some a) (l.length + 2) (patCells (lentP l es ++ [markP, markP])) := Rds.own (pats_one _) m (by rw [pats_len, lentp_len h]) (fun h => by cases h)
theorem lentp_cap {W w : World} {R : List SProp} {l : List PatE} {es : List (Addr × Nat)} (h : es.length = l.length) (hw : Holds W (lentPR l es ++ R) w) : ∀ (i : Nat) (hi : i < l.length), l[i].d.data.length ≤ (es[i]'(by omega)).2 := fun i hi => by
  have := Holds.ownCap hw (List.mem_append_left _ (lentPR_mem h i hi))
  omega
theorem lentp_pats {W : World} {H : List SProp} {l : List PatE} {es : List (Addr × Nat)} {a : Addr} {cap : Nat} (h : es.length = l.length) (m : LentPs l es a cap ∈ H) (hR : ∀ x ∈ lentPR l es, x ∈ H) (hc : ∀ (i : Nat) (hi : i < l.length), l[i].d.data.length ≤ (es[i]'(by omega)).2) : RdPats W H (some a) (lentP l es) where
  rds := by
    have := Rds.take (W := W) (l := l.length) (lentp_rds h m) (by omega)
    rw [show l.length * 3 = (patCells (lentP l es)).length by rw [pats_len, lentP_length h], show patCells (lentP l es ++ [markP, markP]) = patCells (lentP l es) ++ patCells [markP, markP] by unfold patCells; rw [List.flatMap_append], List.take_left] at this
    rw [lentP_length h]; exact this
  each := fun b hb => by
    obtain ⟨i, hi, rfl⟩ := List.mem_iff_getElem.1 hb
    have hi2 : i < l.length := by rw [lentP_length h] at hi; exact hi
    rw [lentP_get h i hi2]
    exact lent_rds (hR _ (lentPR_mem h i hi2))
  ok := fun b hb => by
    obtain ⟨i, hi, rfl⟩ := List.mem_iff_getElem.1 hb
    have hi2 : i < l.length := by rw [lentP_length h] at hi; exact hi
    rw [lentP_get h i hi2]
    exact ⟨fun q => (by cases q), hc i hi2⟩

set_option maxHeartbeats 2000000 in
theorem wholepats_ok {W : World} {R : List SProp} {ao : Option Addr} {a : Addr} {cap cap2 : Nat} {l : List PatE} (es : List (Addr × Nat)) (hes : es.length = l.length) (hP : PatsA W ao l) :
    Does1 W Try.prog 13 [.slice (some a) l.length cap, .slice ao l.length cap2] (LentPs l es a cap :: (lentPR l es ++ R)) (.bool true) (LentPs l es a cap :: (lentPR l es ++ R)) := by
  have hl := hP.len
  (refine Does.enter Try.func13 Try.ntmps13 rfl rfl ?_)
  refine VC.know (p := l.length + 2 ≤ cap) (fun w hw => Holds.ownCap hw (.head _)) ?_
  intro hcc
  (refine w ?_; repeat ((first | refine VO.step rfl rfl ?_ | refine VD.end rfl rfl rfl ?_ | refine VD.mid rfl rfl rfl ?_); refine OpV.box rfl rfl rfl ?_; intro _; refine w ?_))
  (first | refine VO.gF rfl rfl rfl (by simp) ?_ | refine VD.gF rfl rfl rfl (by simp) ?_)
  (refine w ?_; repeat ((first | refine VO.step rfl rfl ?_ | refine VD.end rfl rfl rfl ?_ | refine VD.mid rfl rfl rfl ?_); refine OpV.box rfl rfl rfl ?_; intro _; refine w ?_))
  (refine VC.condFe rfl rfl (decide_eq_false (by omega)) ?_)
  (refine w ?_; repeat ((first | refine VO.step rfl rfl ?_ | refine VD.end rfl rfl rfl ?_ | refine VD.mid rfl rfl rfl ?_); refine OpV.box rfl rfl rfl ?_; intro _; refine w ?_))
  refine VC.loop (α := Nat) (fun i => l.length ≤ i ∧ i ≤ l.length + 2) (fun _ => LentPs l es a cap :: (lentPR l es ++ R)) (fun i => [(0, .slice (some a) l.length cap), (1, .slice ao l.length cap2), (5, .slice (some a) (l.length + 2) cap), (6, .int .i64 i)]) (fun i => l.length + 2 - i) rfl l.length ⟨Nat.le_refl _, by omega⟩ Ent.refl ⟨rfl, rfl, rfl, rfl, trivial⟩ ?_
  rintro i ⟨hi1, hi2⟩
  (refine w ?_; repeat ((first | refine VO.step rfl rfl ?_ | refine VD.end rfl rfl rfl ?_ | refine VD.mid rfl rfl rfl ?_); refine OpV.box rfl rfl rfl ?_; intro _; refine w ?_))
  (refine VC.cond rfl rfl ?_ ?_ <;> intro hc)
  · have hlt : i < l.length + 2 := by have := of_decide_eq_true hc; omega
    have hll : i < (lentP l es ++ [markP, markP]).length := by rw [lentp_len hes]; omega
    have hmk := lentp_mark hes i hi1 hlt
    (refine w ?_; repeat ((first | refine VO.step rfl rfl ?_ | refine VD.end rfl rfl rfl ?_ | refine VD.mid rfl rfl rfl ?_); refine OpV.box rfl rfl rfl ?_; intro _; refine w ?_))
    (first | refine VO.pure rfl rfl (PureAt.ldRc tab_ok rfl rfl (lentp_rds hes (.head _)) ((pat_get _ i 0 hll (by decide)).trans (show _ = some (.int .i64 (-77)) by rw [hmk]; rfl))) rfl ?_ | refine VD.take rfl rfl rfl (PureAt.ldRc tab_ok rfl rfl (lentp_rds hes (.head _)) ((pat_get _ i 0 hll (by decide)).trans (show _ = some (.int .i64 (-77)) by rw [hmk]; rfl))) rfl ?_ | refine VQ.pure rfl rfl (PureAt.ldRc tab_ok rfl rfl (lentp_rds hes (.head _)) ((pat_get _ i 0 hll (by decide)).trans (show _ = some (.int .i64 (-77)) by rw [hmk]; rfl))) rfl ?_ | refine VD.end rfl rfl rfl (OpV.pure (PureAt.ldRc tab_ok rfl rfl (lentp_rds hes (.head _)) ((pat_get _ i 0 hll (by decide)).trans (show _ = some (.int .i64 (-77)) by rw [hmk]; rfl))) rfl ?_))
    (refine w ?_; repeat ((first | refine VO.step rfl rfl ?_ | refine VD.end rfl rfl rfl ?_ | refine VD.mid rfl rfl rfl ?_); refine OpV.box rfl rfl rfl ?_; intro _; refine w ?_))
    (first | refine VO.pure rfl rfl (PureAt.ldRc tab_ok rfl rfl (lentp_rds hes (.head _)) ((pat_get _ i 1 hll (by decide)).trans (show _ = some (.int .i64 0) by rw [hmk]; rfl))) rfl ?_ | refine VD.take rfl rfl rfl (PureAt.ldRc tab_ok rfl rfl (lentp_rds hes (.head _)) ((pat_get _ i 1 hll (by decide)).trans (show _ = some (.int .i64 0) by rw [hmk]; rfl))) rfl ?_ | refine VQ.pure rfl rfl (PureAt.ldRc tab_ok rfl rfl (lentp_rds hes (.head _)) ((pat_get _ i 1 hll (by decide)).trans (show _ = some (.int .i64 0) by rw [hmk]; rfl))) rfl ?_ | refine VD.end rfl rfl rfl (OpV.pure (PureAt.ldRc tab_ok rfl rfl (lentp_rds hes (.head _)) ((pat_get _ i 1 hll (by decide)).trans (show _ = some (.int .i64 0) by rw [hmk]; rfl))) rfl ?_))
    (refine w ?_; repeat ((first | refine VO.step rfl rfl ?_ | refine VD.end rfl rfl rfl ?_ | refine VD.mid rfl rfl rfl ?_); refine OpV.box rfl rfl rfl ?_; intro _; refine w ?_))
    (first | refine VO.pure rfl rfl (PureAt.ldRc tab_ok rfl rfl (lentp_rds hes (.head _)) ((pat_get _ i 2 hll (by decide)).trans (show _ = some (.slice none 0 0) by rw [hmk]; rfl))) rfl ?_ | refine VD.take rfl rfl rfl (PureAt.ldRc tab_ok rfl rfl (lentp_rds hes (.head _)) ((pat_get _ i 2 hll (by decide)).trans (show _ = some (.slice none 0 0) by rw [hmk]; rfl))) rfl ?_ | refine VQ.pure rfl rfl (PureAt.ldRc tab_ok rfl rfl (lentp_rds hes (.head _)) ((pat_get _ i 2 hll (by decide)).trans (show _ = some (.slice none 0 0) by rw [hmk]; rfl))) rfl ?_ | refine VD.end rfl rfl rfl (OpV.pure (PureAt.ldRc tab_ok rfl rfl (lentp_rds hes (.head _)) ((pat_get _ i 2 hll (by decide)).trans (show _ = some (.slice none 0 0) by rw [hmk]; rfl))) rfl ?_))
    (refine w ?_; repeat ((first | refine VO.step rfl rfl ?_ | refine VD.end rfl rfl rfl ?_ | refine VD.mid rfl rfl rfl ?_); refine OpV.box rfl rfl rfl ?_; intro _; refine w ?_))
    refine VE.round (i + 1) ⟨by omega, by omega⟩ (by omega) ⟨rfl, rfl, rfl, asV rfl (by congr 1), trivial⟩ Ent.refl
  have hge : i = l.length + 2 := by have := of_decide_eq_false hc; omega
  clear hc
  (refine w ?_; repeat ((first | refine VO.step rfl rfl ?_ | refine VD.end rfl rfl rfl ?_ | refine VD.mid rfl rfl rfl ?_); refine OpV.box rfl rfl rfl ?_; intro _; refine w ?_))
  refine VC.know (fun w hw => lentp_cap hes hw.tail) ?_
  intro hcap
  refine VC.loop (α := Nat) (fun i => i ≤ l.length) (fun _ => LentPs l es a cap :: (lentPR l es ++ R)) (fun i => [(0, .slice (some a) l.length cap), (1, .slice ao l.length cap2), (7, .int .i64 i)]) (fun i => l.length - i) rfl 0 (Nat.zero_le _) Ent.refl ⟨rfl, rfl, rfl, trivial⟩ ?_
  intro i hi
  (refine w ?_; repeat ((first | refine VO.step rfl rfl ?_ | refine VD.end rfl rfl rfl ?_ | refine VD.mid rfl rfl rfl ?_); refine OpV.box rfl rfl rfl ?_; intro _; refine w ?_))
  (refine VC.cond rfl rfl ?_ ?_ <;> intro hc)
  · have hlt : i < l.length := by have := of_decide_eq_true hc; omega
    obtain ⟨la, rfl⟩ : ∃ x, ao = some x := by cases ao with | none => have := (hP.rd []).rds.nil rfl; omega | some x => exact ⟨x, rfl⟩
    have hlg := lentp_get hes i hlt
    have hll : i < (lentP l es ++ [markP, markP]).length := by rw [lentp_len hes]; omega
    have hst := hP.bytes _ (List.getElem_mem hlt)
    have hsl := hP.data _ (List.getElem_mem hlt)
    (refine w ?_; repeat ((first | refine VO.step rfl rfl ?_ | refine VD.end rfl rfl rfl ?_ | refine VD.mid rfl rfl rfl ?_); refine OpV.box rfl rfl rfl ?_; intro _; refine w ?_))
    (refine VC.drawn [] 35 [0, 1, 2, 3, 4, 5, 6, 7, 8, 9, 10, 11, 12, 13, 14, 15, 16, 17, 18, 19, 20, 21, 22, 23, 24, 25, 26, 27, 28, 29, 30, 31, 32, 33, 34, 35, 36, 37] _ rfl (by kernel_rfl) (by kernel_rfl) Ent.re ?_)
    (refine w ?_; repeat ((first | refine VO.step rfl rfl ?_ | refine VD.end rfl rfl rfl ?_ | refine VD.mid rfl rfl rfl ?_); refine OpV.box rfl rfl rfl ?_; intro _; refine w ?_))
    (first | refine VO.pure rfl rfl (PureAt.ldRc tab_ok rfl rfl (lentp_rds hes (.head _)) ((pat_get _ i 0 hll (by decide)).trans (show _ = some (.int .i64 l[i].member) by rw [hlg]; rfl))) rfl ?_ | refine VD.take rfl rfl rfl (PureAt.ldRc tab_ok rfl rfl (lentp_rds hes (.head _)) ((pat_get _ i 0 hll (by decide)).trans (show _ = some (.int .i64 l[i].member) by rw [hlg]; rfl))) rfl ?_ | refine VQ.pure rfl rfl (PureAt.ldRc tab_ok rfl rfl (lentp_rds hes (.head _)) ((pat_get _ i 0 hll (by decide)).trans (show _ = some (.int .i64 l[i].member) by rw [hlg]; rfl))) rfl ?_ | refine VD.end rfl rfl rfl (OpV.pure (PureAt.ldRc tab_ok rfl rfl (lentp_rds hes (.head _)) ((pat_get _ i 0 hll (by decide)).trans (show _ = some (.int .i64 l[i].member) by rw [hlg]; rfl))) rfl ?_))
    (refine w ?_; repeat ((first | refine VO.step rfl rfl ?_ | refine VD.end rfl rfl rfl ?_ | refine VD.mid rfl rfl rfl ?_); refine OpV.box rfl rfl rfl ?_; intro _; refine w ?_))
    (first | refine VO.pure rfl rfl (PureAt.ldRc tab_ok rfl rfl (hP.rd _).rds (pat_get l i 0 hlt (by decide))) rfl ?_ | refine VD.take rfl rfl rfl (PureAt.ldRc tab_ok rfl rfl (hP.rd _).rds (pat_get l i 0 hlt (by decide))) rfl ?_ | refine VQ.pure rfl rfl (PureAt.ldRc tab_ok rfl rfl (hP.rd _).rds (pat_get l i 0 hlt (by decide))) rfl ?_ | refine VD.end rfl rfl rfl (OpV.pure (PureAt.ldRc tab_ok rfl rfl (hP.rd _).rds (pat_get l i 0 hlt (by decide))) rfl ?_))
    (refine w ?_; repeat ((first | refine VO.step rfl rfl ?_ | refine VD.end rfl rfl rfl ?_ | refine VD.mid rfl rfl rfl ?_); refine OpV.box rfl rfl rfl ?_; intro _; refine w ?_))
    (first | refine VO.gF rfl rfl rfl (by simp) ?_ | refine VD.gF rfl rfl rfl (by simp) ?_)
    (refine w ?_; repeat ((first | refine VO.step rfl rfl ?_ | refine VD.end rfl rfl rfl ?_ | refine VD.mid rfl rfl rfl ?_); refine OpV.box rfl rfl rfl ?_; intro _; refine w ?_))
    (first | refine VO.pure rfl rfl (PureAt.ldRc tab_ok rfl rfl (lentp_rds hes (.head _)) ((pat_get _ i 1 hll (by decide)).trans (show _ = some (.int .i64 l[i].row) by rw [hlg]; rfl))) rfl ?_ | refine VD.take rfl rfl rfl (PureAt.ldRc tab_ok rfl rfl (lentp_rds hes (.head _)) ((pat_get _ i 1 hll (by decide)).trans (show _ = some (.int .i64 l[i].row) by rw [hlg]; rfl))) rfl ?_ | refine VQ.pure rfl rfl (PureAt.ldRc tab_ok rfl rfl (lentp_rds hes (.head _)) ((pat_get _ i 1 hll (by decide)).trans (show _ = some (.int .i64 l[i].row) by rw [hlg]; rfl))) rfl ?_ | refine VD.end rfl rfl rfl (OpV.pure (PureAt.ldRc tab_ok rfl rfl (lentp_rds hes (.head _)) ((pat_get _ i 1 hll (by decide)).trans (show _ = some (.int .i64 l[i].row) by rw [hlg]; rfl))) rfl ?_))
    (refine w ?_; repeat ((first | refine VO.step rfl rfl ?_ | refine VD.end rfl rfl rfl ?_ | refine VD.mid rfl rfl rfl ?_); refine OpV.box rfl rfl rfl ?_; intro _; refine w ?_))
    (first | refine VO.pure rfl rfl (PureAt.ldRc tab_ok rfl rfl (hP.rd _).rds (pat_get l i 1 hlt (by decide))) rfl ?_ | refine VD.take rfl rfl rfl (PureAt.ldRc tab_ok rfl rfl (hP.rd _).rds (pat_get l i 1 hlt (by decide))) rfl ?_ | refine VQ.pure rfl rfl (PureAt.ldRc tab_ok rfl rfl (hP.rd _).rds (pat_get l i 1 hlt (by decide))) rfl ?_ | refine VD.end rfl rfl rfl (OpV.pure (PureAt.ldRc tab_ok rfl rfl (hP.rd _).rds (pat_get l i 1 hlt (by decide))) rfl ?_))
    (refine w ?_; repeat ((first | refine VO.step rfl rfl ?_ | refine VD.end rfl rfl rfl ?_ | refine VD.mid rfl rfl rfl ?_); refine OpV.box rfl rfl rfl ?_; intro _; refine w ?_))
    (first | refine VO.gF rfl rfl rfl (by simp) ?_ | refine VD.gF rfl rfl rfl (by simp) ?_)
    (refine w ?_; repeat ((first | refine VO.step rfl rfl ?_ | refine VD.end rfl rfl rfl ?_ | refine VD.mid rfl rfl rfl ?_); refine OpV.box rfl rfl rfl ?_; intro _; refine w ?_))
    (first | refine VO.pure rfl rfl (PureAt.ldRc tab_ok rfl rfl (lentp_rds hes (.head _)) ((pat_get _ i 2 hll (by decide)).trans (show _ = some (.slice (some (es[i]'(by omega)).1) l[i].d.data.length (es[i]'(by omega)).2) by rw [hlg]; rfl))) rfl ?_ | refine VD.take rfl rfl rfl (PureAt.ldRc tab_ok rfl rfl (lentp_rds hes (.head _)) ((pat_get _ i 2 hll (by decide)).trans (show _ = some (.slice (some (es[i]'(by omega)).1) l[i].d.data.length (es[i]'(by omega)).2) by rw [hlg]; rfl))) rfl ?_ | refine VQ.pure rfl rfl (PureAt.ldRc tab_ok rfl rfl (lentp_rds hes (.head _)) ((pat_get _ i 2 hll (by decide)).trans (show _ = some (.slice (some (es[i]'(by omega)).1) l[i].d.data.length (es[i]'(by omega)).2) by rw [hlg]; rfl))) rfl ?_ | refine VD.end rfl rfl rfl (OpV.pure (PureAt.ldRc tab_ok rfl rfl (lentp_rds hes (.head _)) ((pat_get _ i 2 hll (by decide)).trans (show _ = some (.slice (some (es[i]'(by omega)).1) l[i].d.data.length (es[i]'(by omega)).2) by rw [hlg]; rfl))) rfl ?_))
    (refine w ?_; repeat ((first | refine VO.step rfl rfl ?_ | refine VD.end rfl rfl rfl ?_ | refine VD.mid rfl rfl rfl ?_); refine OpV.box rfl rfl rfl ?_; intro _; refine w ?_))
    (first | refine VO.pure rfl rfl (PureAt.ldRc tab_ok rfl rfl (hP.rd _).rds (pat_get l i 2 hlt (by decide))) rfl ?_ | refine VD.take rfl rfl rfl (PureAt.ldRc tab_ok rfl rfl (hP.rd _).rds (pat_get l i 2 hlt (by decide))) rfl ?_ | refine VQ.pure rfl rfl (PureAt.ldRc tab_ok rfl rfl (hP.rd _).rds (pat_get l i 2 hlt (by decide))) rfl ?_ | refine VD.end rfl rfl rfl (OpV.pure (PureAt.ldRc tab_ok rfl rfl (hP.rd _).rds (pat_get l i 2 hlt (by decide))) rfl ?_))
    (refine w ?_; repeat ((first | refine VO.step rfl rfl ?_ | refine VD.end rfl rfl rfl ?_ | refine VD.mid rfl rfl rfl ?_); refine OpV.box rfl rfl rfl ?_; intro _; refine w ?_))
    ((first | refine VO.step rfl rfl ?_ | refine VD.end rfl rfl rfl ?_ | refine VD.mid rfl rfl rfl ?_); refine OpV.call rfl rfl (fun _ _ => by simp) (whole_mem hst hsl (.tail _ (List.mem_append_left _ (lentPR_mem hes i hlt)))) Ent.refl rfl ?_; intro _ _)
    (refine w ?_; repeat ((first | refine VO.step rfl rfl ?_ | refine VD.end rfl rfl rfl ?_ | refine VD.mid rfl rfl rfl ?_); refine OpV.box rfl rfl rfl ?_; intro _; refine w ?_))
    exact VE.round (i + 1) (by omega) (by omega) ⟨rfl, rfl, asV rfl (by congr 1), trivial⟩ Ent.refl
  · (refine w ?_; repeat ((first | refine VO.step rfl rfl ?_ | refine VD.end rfl rfl rfl ?_ | refine VD.mid rfl rfl rfl ?_); refine OpV.box rfl rfl rfl ?_; intro _; refine w ?_))
    (refine VE.done1 rfl ?_ ?_)
    · rfl
    · exact Ent.refl

theorem ownFullN {W w : World} {R : List SProp} {e m cap sz : Nat} {a : Addr} {xs : List Value} (hw : Holds W (Sl.Own e sz (.slice (some a) m cap) m xs :: R) w) : ∃ ys : { ys : List Value // ys.length = cap * sz ∧ cap ≤ maxLen }, Holds W (Sl.Own e sz (.slice (some a) cap cap) cap ys.1 :: R) w := by
  obtain ⟨hl, hv⟩ := hw.ownOpen
  rcases hv with ⟨he, rfl, hR⟩ | ⟨b, cap0, spare, he, hn, hm, hc, hR⟩
  · cases he
  · cases he
    refine ⟨⟨xs ++ spare, hc, hm⟩, ?_⟩
    exact Holds.ownShut (spare := []) hc (Nat.le_refl _) hm (by rw [List.append_nil]; exact hc) (by rw [List.append_nil]; exact hR)
set_option maxHeartbeats 2000000 in
theorem spoilpats_ok {W : World} {R : List SProp} {a : Addr} {cap : Nat} {l : List PatE} (es : List (Addr × Nat)) (hes : es.length = l.length) (hl : l.length ≤ 1000000) :
    Does1 W Try.prog 14 [.slice (some a) l.length cap] (LentPs l es a cap :: (lentPR l es ++ R)) (.tuple #[]) R := by
  (refine Does.enter Try.func14 Try.ntmps14 rfl rfl ?_)
  refine VC.know (p := l.length + 2 ≤ cap) (fun w hw => Holds.ownCap hw (.head _)) ?_
  intro hcc
  refine VC.know (fun w hw => lentp_cap hes hw.tail) ?_
  intro hcap
  (refine w ?_; repeat ((first | refine VO.step rfl rfl ?_ | refine VD.end rfl rfl rfl ?_ | refine VD.mid rfl rfl rfl ?_); refine OpV.box rfl rfl rfl ?_; intro _; refine w ?_))
  refine VC.loop (α := Nat) (fun i => i ≤ l.length) (fun i => LentPs l es a cap :: ((lentPR l es).drop i ++ R)) (fun i => [(0, .slice (some a) l.length cap), (2, .int .i64 i)]) (fun i => l.length - i) rfl 0 (Nat.zero_le _) Ent.refl ⟨rfl, rfl, trivial⟩ ?_
  intro i hi
  (refine w ?_; repeat ((first | refine VO.step rfl rfl ?_ | refine VD.end rfl rfl rfl ?_ | refine VD.mid rfl rfl rfl ?_); refine OpV.box rfl rfl rfl ?_; intro _; refine w ?_))
  (refine VC.cond rfl rfl ?_ ?_ <;> intro hc)
  · have hlt : i < l.length := by have := of_decide_eq_true hc; omega
    have hlg := lentp_get hes i hlt
    have hll : i < (lentP l es ++ [markP, markP]).length := by rw [lentp_len hes]; omega
    have hcpi := hcap i hlt
    have hd : (lentPR l es).drop i = LentO (es[i]'(by omega)).1 (es[i]'(by omega)).2 l[i].d.data :: (lentPR l es).drop (i + 1) := by
      rw [List.drop_eq_getElem_cons (by rw [lentPR_length hes]; exact hlt), lentPR_get hes i hlt]
    (refine w ?_; repeat ((first | refine VO.step rfl rfl ?_ | refine VD.end rfl rfl rfl ?_ | refine VD.mid rfl rfl rfl ?_); refine OpV.box rfl rfl rfl ?_; intro _; refine w ?_))
    (first | refine VO.pure rfl rfl (PureAt.ldRc tab_ok rfl rfl (lentp_rds hes (.head _)) ((pat_get _ i 2 hll (by decide)).trans (show _ = some (.slice (some (es[i]'(by omega)).1) l[i].d.data.length (es[i]'(by omega)).2) by rw [hlg]; rfl))) rfl ?_ | refine VD.take rfl rfl rfl (PureAt.ldRc tab_ok rfl rfl (lentp_rds hes (.head _)) ((pat_get _ i 2 hll (by decide)).trans (show _ = some (.slice (some (es[i]'(by omega)).1) l[i].d.data.length (es[i]'(by omega)).2) by rw [hlg]; rfl))) rfl ?_ | refine VQ.pure rfl rfl (PureAt.ldRc tab_ok rfl rfl (lentp_rds hes (.head _)) ((pat_get _ i 2 hll (by decide)).trans (show _ = some (.slice (some (es[i]'(by omega)).1) l[i].d.data.length (es[i]'(by omega)).2) by rw [hlg]; rfl))) rfl ?_ | refine VD.end rfl rfl rfl (OpV.pure (PureAt.ldRc tab_ok rfl rfl (lentp_rds hes (.head _)) ((pat_get _ i 2 hll (by decide)).trans (show _ = some (.slice (some (es[i]'(by omega)).1) l[i].d.data.length (es[i]'(by omega)).2) by rw [hlg]; rfl))) rfl ?_))
    rw [hd]
    (refine w ?_; repeat ((first | refine VO.step rfl rfl ?_ | refine VD.end rfl rfl rfl ?_ | refine VD.mid rfl rfl rfl ?_); refine OpV.box rfl rfl rfl ?_; intro _; refine w ?_))
    ((first | refine VO.step rfl rfl ?_ | refine VD.end rfl rfl rfl ?_ | refine VD.mid rfl rfl rfl ?_); refine OpV.call rfl rfl (fun _ _ => by simp) (spoil_ok (R := LentPs l es a cap :: ((lentPR l es).drop (i + 1) ++ R)) (m := l[i].d.data.length + 2) (xs := lentV l[i].d.data) hcpi) Ent.re rfl ?_)
    intro _ _
    (refine w ?_; repeat ((first | refine VO.step rfl rfl ?_ | refine VD.end rfl rfl rfl ?_ | refine VD.mid rfl rfl rfl ?_); refine OpV.box rfl rfl rfl ?_; intro _; refine w ?_))
    exact VE.round (i + 1) (by omega) (by omega) ⟨rfl, asV rfl (by congr 1), trivial⟩ Ent.refl
  have hge : i = l.length := by have := of_decide_eq_false hc; omega
  rw [hge, List.drop_of_length_le (by rw [lentPR_length hes]; exact Nat.le_refl _), List.nil_append]
  refine VC.obtain (fun w => ownFullN) ?_
  rintro ⟨ys, hy, hcm⟩
  dsimp only
  simp only [maxLen] at hcm
  (refine w ?_; repeat ((first | refine VO.step rfl rfl ?_ | refine VD.end rfl rfl rfl ?_ | refine VD.mid rfl rfl rfl ?_); refine OpV.box rfl rfl rfl ?_; intro _; refine w ?_))
  refine VC.loop (α := Nat × List Value) (fun g => g.1 ≤ cap ∧ g.2.length = cap * 3) (fun g => Sl.Own 78 3 (.slice (some a) cap cap) cap g.2 :: R)
    (fun g => [(3, .slice (some a) cap cap), (4, .int .i64 g.1)]) (fun g => cap - g.1) rfl (0, ys) ⟨Nat.zero_le _, hy⟩ Ent.refl ⟨rfl, rfl, trivial⟩ ?_
  rintro ⟨k, zs⟩ ⟨hk, hz⟩
  dsimp only at hk hz ⊢
  (refine w ?_; repeat ((first | refine VO.step rfl rfl ?_ | refine VD.end rfl rfl rfl ?_ | refine VD.mid rfl rfl rfl ?_); refine OpV.box rfl rfl rfl ?_; intro _; refine w ?_))
  (refine VC.cond rfl rfl ?_ ?_ <;> intro hc)
  · have hlt : k < cap := by have := of_decide_eq_true hc; omega
    (refine w ?_; repeat ((first | refine VO.step rfl rfl ?_ | refine VD.end rfl rfl rfl ?_ | refine VD.mid rfl rfl rfl ?_); refine OpV.box rfl rfl rfl ?_; intro _; refine w ?_))
    (apply VO.pure rfl rfl; apply PureAt.build sb_78 rfl; (simp [buildX, setL, Value.cells]; rfl); rfl)
    (refine w ?_; repeat ((first | refine VO.step rfl rfl ?_ | refine VD.end rfl rfl rfl ?_ | refine VD.mid rfl rfl rfl ?_); refine OpV.box rfl rfl rfl ?_; intro _; refine w ?_))
    (first | refine VO.step rfl rfl ?_ | refine VD.end rfl rfl rfl ?_ | refine VD.mid rfl rfl rfl ?_)
    refine OpV.stOA (vs := PatE.cells ⟨-77, 0, ⟨none, 0, []⟩⟩) tab_ok rfl rfl rfl rfl (pat_one _) .head (by omega) ?_
    (refine w ?_; repeat ((first | refine VO.step rfl rfl ?_ | refine VD.end rfl rfl rfl ?_ | refine VD.mid rfl rfl rfl ?_); refine OpV.box rfl rfl rfl ?_; intro _; refine w ?_))
    exact VE.round (k + 1, _) ⟨hlt, by simp only [List.length_append, List.length_take, List.length_drop, List.length_cons, List.length_nil]; omega⟩ (by simp only; omega) ⟨rfl, asV rfl (by congr 1), trivial⟩ Ent.refl
  · (refine w ?_; repeat ((first | refine VO.step rfl rfl ?_ | refine VD.end rfl rfl rfl ?_ | refine VD.mid rfl rfl rfl ?_); refine OpV.box rfl rfl rfl ?_; intro _; refine w ?_))
    (refine VE.done1N rfl ?_ ?_)
    · rfl
    · exact Ent.drop Ent.refl
/-! ### What is lent, as one resource -/
def LentA (l : List PatE) (es : List (Addr × Nat)) (a : Addr) (cap : Nat) : SProp := Sl.star (LentPs l es a cap :: lentPR l es)
/-- What is lent of these. -/
structure Lent (l : List PatE) (es : List (Addr × Nat)) : Prop where
  len : es.length = l.length
  cap : ∀ (i : Nat) (hi : i < l.length), l[i].d.data.length ≤ (es[i]'(by omega)).2
theorem lentpatsA_ok {W : World} {R : List SProp} {ao : Option Addr} {cap : Nat} {l : List PatE} (hP : PatsA W ao l) :
    Does W Try.prog 11 [.slice ao l.length cap] R (β := List (Addr × Nat) × Addr × Nat) (fun x => Lent l x.1) (fun x => .slice (some x.2.1) l.length x.2.2) (fun x => [LentA l x.1 x.2.1 x.2.2] ++ R) := by
  have h := DoesA (B := fun x : List (Addr × Nat) × Addr × Nat => Lent l x.1) (lentpats_ok (R := R) (cap := cap) hP) (fun x hx w hw => ⟨hx, lentp_cap hx hw.tail⟩)
  exact Does.mono h (fun x => x) (fun _ h => h) (fun _ _ => rfl) (fun x _ => fun w hw => Holds.nest (L := LentPs l x.1 x.2.1 x.2.2 :: lentPR l x.1) hw)
theorem Lent.rd {W : World} {H : List SProp} {l : List PatE} {es : List (Addr × Nat)} {a : Addr} {cap : Nat} (h : Lent l es) (m : LentA l es a cap ∈ H) : RdPats W H (some a) (lentP l es) := by
  have key : ∀ R, RdPats W ((LentPs l es a cap :: lentPR l es) ++ R) (some a) (lentP l es) := fun R => lentp_pats h.len (.head _) (fun x hx => .tail _ (List.mem_append_left _ hx)) h.cap
  exact ⟨Rds.star m fun R => (key R).rds, fun p hp => Rds.star m fun R => (key R).each p hp, (key []).ok⟩
theorem Lent.fit {l : List PatE} {es : List (Addr × Nat)} (h : Lent l es) (hf : ∀ p ∈ l, p.fit) : ∀ p ∈ lentP l es, p.fit := fun p hp => by
  obtain ⟨i, hi, rfl⟩ := List.mem_iff_getElem.1 hp
  have hi2 : i < l.length := by rw [lentP_length h.len] at hi; exact hi
  rw [lentP_get h.len i hi2]
  exact hf _ (List.getElem_mem hi2) |> fun q => ⟨q.member, q.row, q.len⟩
theorem wholepatsA_ok {W : World} {R : List SProp} {ao : Option Addr} {a : Addr} {cap cap2 : Nat} {l : List PatE} {es : List (Addr × Nat)} (h : Lent l es) (hP : PatsA W ao l) :
    Does1 W Try.prog 13 [.slice (some a) l.length cap, .slice ao l.length cap2] (LentA l es a cap :: R) (.bool true) (LentA l es a cap :: R) :=
  Does1P (DoesE (fun w hw => hw.join) (wholepats_ok (R := R) es h.len hP)) (fun w hw => Holds.nest (L := LentPs l es a cap :: lentPR l es) hw)
theorem spoilpatsA_ok {W : World} {R : List SProp} {a : Addr} {cap : Nat} {l : List PatE} {es : List (Addr × Nat)} (h : Lent l es) (hl : l.length ≤ 1000000) :
    Does1 W Try.prog 14 [.slice (some a) l.length cap] (LentA l es a cap :: R) (.tuple #[]) R :=
  DoesE (fun w hw => hw.join) (spoilpats_ok (R := R) es h.len hl)
end Go.Proofs.Ytlojjlbngnaphaa
