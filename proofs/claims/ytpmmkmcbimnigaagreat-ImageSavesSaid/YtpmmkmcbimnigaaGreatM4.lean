import Derived.Test.YtpmmkmcbimnigaaGreatM3
/-! Text Bk. -/
/- The document's book: lists that are its owner's own. -/
set_option maxRecDepth 8000
set_option linter.unusedVariables false
set_option linter.unusedSimpArgs false
set_option linter.unusedSectionVars false
namespace Go.Proofs.YtpmmkmcbimnigaaGreat
open Go.RowKit Go.Sl
attribute [local irreducible] Own

theorem hole_set {R : List SProp} : ∀ (L : List SProp) (i : Nat) (X : SProp), i < L.length → Hole (L.set i X ++ R) X (fun Y => L.set i Y ++ R)
  | a :: r, 0, X, _ => Hole.head
  | a :: r, i + 1, X, h => Hole.tail (hole_set r i X (by simpa using h))
theorem mem_set {R : List SProp} (L : List SProp) (i : Nat) (X : SProp) (h : i < L.length) : X ∈ L.set i X ++ R := List.mem_append_left _ (List.mem_iff_getElem.2 ⟨i, by rw [List.length_set]; exact h, List.getElem_set_self _⟩)

/-- A list of bytes that somebody owns. -/
structure ListE where
  ao : Option Addr
  cap : Nat
  xs : List Value
def ListE.hdr (e : ListE) : Value := .slice e.ao e.xs.length e.cap
def ListE.res (e : ListE) : SProp := Own 5 1 (.slice e.ao e.xs.length e.cap) e.xs.length e.xs
theorem hdrs_one (l : List ListE) : ∀ u ∈ l.map ListE.hdr, u.oneCell' = true := by
  intro u hu; obtain ⟨c, _, rfl⟩ := List.mem_map.1 hu; rfl

def mk (z : Int) : Value := .int .u8 (IntKind.u8.wrap z)
def marks (a m : Nat) : List Value := (List.range m).map fun (k : Nat) => mk ((a : Int) * 97 + (k : Int) * 13)
def marks2 (a m : Nat) : List Value := (List.range m).map fun (k : Nat) => mk ((-1 - (a : Int)) * 97 + (k : Int) * 13)
@[simp] theorem marks_length (a m : Nat) : (marks a m).length = m := by simp [marks]
@[simp] theorem marks2_length (a m : Nat) : (marks2 a m).length = m := by simp [marks2]
theorem marks_succ (a m : Nat) : marks a (m + 1) = marks a m ++ [mk ((a : Int) * 97 + (m : Int) * 13)] := by simp [marks, List.range_succ]
theorem marks2_succ (a m : Nat) : marks2 a (m + 1) = marks2 a m ++ [mk ((-1 - (a : Int)) * 97 + (m : Int) * 13)] := by simp [marks2, List.range_succ]
theorem marks_one (a m : Nat) : ∀ u ∈ marks a m, u.oneCell' = true := by intro u hu; obtain ⟨c, _, rfl⟩ := List.mem_map.1 hu; rfl
theorem marks2_one (a m : Nat) : ∀ u ∈ marks2 a m, u.oneCell' = true := by intro u hu; obtain ⟨c, _, rfl⟩ := List.mem_map.1 hu; rfl
theorem marks_get (a m k : Nat) (h : k < m) : (marks a m)[k]? = some (mk ((a : Int) * 97 + (k : Int) * 13)) := by simp [marks, h]
theorem marks2_get (a m k : Nat) (h : k < m) : (marks2 a m)[k]? = some (mk ((-1 - (a : Int)) * 97 + (k : Int) * 13)) := by simp [marks2, h]

/-- The lists, the first so many of them marked. -/
def mkd (E : List ListE) (a : Nat) : List ListE := E.mapIdx fun j e => if j < a then ⟨e.ao, e.cap, marks j e.xs.length⟩ else e
theorem mkd_length (E : List ListE) (a : Nat) : (mkd E a).length = E.length := by simp [mkd]
theorem mkd_get (E : List ListE) (a j : Nat) (h : j < E.length) : (mkd E a)[j]'(by rw [mkd_length]; exact h) = if j < a then ⟨E[j].ao, E[j].cap, marks j E[j].xs.length⟩ else E[j] := by simp [mkd]
theorem mkd_zero (E : List ListE) : mkd E 0 = E := by
  apply List.ext_getElem (mkd_length E 0)
  intro j h1 h2
  rw [mkd_get E 0 j h2, if_neg (Nat.not_lt_zero _)]
theorem mkd_set (E : List ListE) (a : Nat) (h : a < E.length) : (mkd E a).set a ⟨E[a].ao, E[a].cap, marks a E[a].xs.length⟩ = mkd E (a + 1) := by
  apply List.ext_getElem (by rw [List.length_set, mkd_length, mkd_length])
  intro j h1 h2
  have hj : j < E.length := by rwa [mkd_length] at h2
  rw [mkd_get E (a + 1) j hj, List.getElem_set]
  by_cases e : a = j
  · subst e; rw [if_pos rfl, if_pos (by omega)]
  · rw [if_neg e, mkd_get E a j hj]
    by_cases q : j < a
    · rw [if_pos q, if_pos (by omega)]
    · rw [if_neg q, if_neg (by omega)]

/-- The lists, the first of them with what has grown out of them. -/
def twin (j : Nat) (e : ListE) (g : Option Addr × Nat) (m : Nat) : SProp := TwinR 5 1 e.ao e.cap e.xs.length e.xs g.1 g.2 (e.xs.length + m) (e.xs ++ marks2 j m)
def grs (M : List ListE) (Gs : List (Option Addr × Nat)) : List SProp := M.mapIdx fun j e => match Gs[j]? with
  | some g => twin j e g 16
  | none => e.res
theorem grs_length (M : List ListE) (Gs : List (Option Addr × Nat)) : (grs M Gs).length = M.length := by simp [grs]
theorem grs_nil (M : List ListE) : grs M [] = M.map ListE.res := by
  apply List.ext_getElem (by simp [grs])
  intro j h1 h2
  simp [grs]
theorem grs_get (M : List ListE) (Gs : List (Option Addr × Nat)) (j : Nat) (h : j < M.length) : (grs M Gs)[j]'(by rw [grs_length]; exact h) = match Gs[j]? with
  | some g => twin j M[j] g 16
  | none => M[j].res := by simp [grs]
theorem grs_set (M : List ListE) (Gs : List (Option Addr × Nat)) (g : Option Addr × Nat) (h : Gs.length < M.length) : (grs M Gs).set Gs.length (twin Gs.length M[Gs.length] g 16) = grs M (Gs ++ [g]) := by
  apply List.ext_getElem (by rw [List.length_set, grs_length, grs_length])
  intro j h1 h2
  have hj : j < M.length := by rwa [grs_length] at h2
  rw [List.getElem_set, grs_get M (Gs ++ [g]) j hj]
  by_cases e : Gs.length = j
  · subst e
    rw [if_pos rfl, List.getElem?_append_right (Nat.le_refl _), Nat.sub_self]; rfl
  · rw [if_neg e, grs_get M Gs j hj]
    by_cases q : j < Gs.length
    · rw [List.getElem?_append_left q]
    · rw [List.getElem?_eq_none (by omega), List.getElem?_eq_none (by rw [List.length_append, List.length_singleton]; omega)]
def longH (M : List ListE) (Gs : List (Option Addr × Nat)) : List Value := Gs.mapIdx fun j g => .slice g.1 (((M[j]?).map fun e => e.xs.length).getD 0 + 16) g.2
theorem longH_length (M : List ListE) (Gs : List (Option Addr × Nat)) : (longH M Gs).length = Gs.length := by simp [longH]
theorem longH_snoc (M : List ListE) (Gs : List (Option Addr × Nat)) (g : Option Addr × Nat) (h : Gs.length < M.length) : longH M (Gs ++ [g]) = longH M Gs ++ [.slice g.1 (M[Gs.length].xs.length + 16) g.2] := by
  unfold longH
  rw [List.mapIdx_concat, List.getElem?_eq_getElem h]; rfl
theorem longH_one (M : List ListE) (Gs : List (Option Addr × Nat)) : ∀ u ∈ longH M Gs, u.oneCell' = true := by
  intro u hu
  obtain ⟨i, h, rfl⟩ := List.mem_iff_getElem.1 hu
  simp [longH, Value.oneCell']
theorem Ent.hole {W : World} {H : List SProp} {X Y : SProp} {C : SProp → List SProp} (u : Hole H X C) (h : ∀ (R : List SProp) (w : World), Holds W (X :: R) w → Holds W (Y :: R) w) : Ent W H (C Y) := by
  intro w hw
  obtain ⟨R, p, q⟩ := u.perm
  exact (h R w (hw.perm p)).perm (q _)
theorem TwinR.none {W w : World} {H : List SProp} {e sz k cap k' cap' : Nat} {ao ao' : Option Addr} {xs ys : List Value} (hw : Holds W H w) (m : TwinR e sz ao cap k xs ao' cap' k' ys ∈ H) : (ao = none → k = 0) ∧ (ao' = none → k' = 0) := by
  obtain ⟨R, p⟩ := mem_perm m
  rcases TwinR.open (hw.perm p) with ⟨⟨e1, e2, e3, e4⟩, h⟩ | h
  · have := h.ownNone (.head _)
    exact ⟨fun q => by have := this (by rw [e1]; exact q); omega, this⟩
  · exact ⟨h.ownNone (.head _), h.ownNone (.tail _ (.head _))⟩

set_option maxHeartbeats 8000000 in
theorem ownbytes_ok {W : World} {R : List SProp} {lo : Option Addr} {lc : Nat} {E : List ListE} (hn : E.length ≤ 1000000000) (hl : ∀ e ∈ E, e.xs.length ≤ 1000000000) :
    Does1 W Tryz.prog 73 [.slice lo E.length lc] (Own 22 1 (.slice lo E.length lc) E.length (E.map ListE.hdr) :: (E.map ListE.res ++ R)) (.bool true) R := by
  (refine Does.enter Tryz.func73 Tryz.ntmps73 rfl rfl ?_)
  refine VC.know (fun w hw => hw.ownNone (by (focus repeat first | exact .head _ | apply List.Mem.tail)) : ∀ w, _ → (lo = none → E.length = 0)) ?_
  intro hln
  (refine w ?_; repeat ((first | refine VO.step rfl rfl ?_ | refine VD.end rfl rfl rfl ?_ | refine VD.mid rfl rfl rfl ?_); refine OpV.box rfl rfl rfl ?_; intro _; refine w ?_))
  refine VC.loop (α := Nat) (fun a => a ≤ E.length) (fun a => Own 22 1 (.slice lo E.length lc) E.length (E.map ListE.hdr) :: ((mkd E a).map ListE.res ++ R))
    (fun a => [(0, .slice lo E.length lc), (3, .int .i64 a)]) (fun a => E.length - a) rfl 0 (Nat.zero_le _) (by rw [mkd_zero]; exact Ent.refl) ⟨rfl, rfl, trivial⟩ ?_
  intro a ha
  (refine w ?_; repeat ((first | refine VO.step rfl rfl ?_ | refine VD.end rfl rfl rfl ?_ | refine VD.mid rfl rfl rfl ?_); refine OpV.box rfl rfl rfl ?_; intro _; refine w ?_))
  (refine VC.cond rfl rfl ?_ ?_ <;> intro hc)
  · have hlt : a < E.length := by have := of_decide_eq_true hc; omega
    obtain ⟨lb, rfl⟩ : ∃ lb, lo = some lb := by cases lo with | none => have := hln rfl; omega | some lb => exact ⟨lb, rfl⟩
    have hla : E[a].xs.length ≤ 1000000000 := hl _ (List.getElem_mem hlt)
    have hget : (E.map ListE.hdr)[a]? = some (.slice E[a].ao E[a].xs.length E[a].cap) := by rw [List.getElem?_map, List.getElem?_eq_getElem hlt]; rfl
    have hmlen : ((mkd E a).map ListE.res).length = E.length := by rw [List.length_map, mkd_length]
    have hself : (mkd E a).map ListE.res = ((mkd E a).map ListE.res).set a (Own 5 1 (.slice E[a].ao E[a].xs.length E[a].cap) E[a].xs.length (marks a 0 ++ E[a].xs.drop 0)) := by
      have e1 : ((mkd E a).map ListE.res)[a]'(by rw [hmlen]; exact hlt) = Own 5 1 (.slice E[a].ao E[a].xs.length E[a].cap) E[a].xs.length (marks a 0 ++ E[a].xs.drop 0) := by
        rw [List.getElem_map, mkd_get E a a hlt, if_neg (Nat.lt_irrefl _)]; rfl
      rw [← e1, List.set_getElem_self]
    have hnext : ((mkd E a).map ListE.res).set a (Own 5 1 (.slice E[a].ao E[a].xs.length E[a].cap) E[a].xs.length (marks a E[a].xs.length)) = (mkd E (a + 1)).map ListE.res := by
      rw [← mkd_set E a hlt, List.map_set]
      congr 1
      unfold ListE.res
      rw [marks_length]
    generalize hL : (mkd E a).map ListE.res = L at *
    (refine w ?_; repeat ((first | refine VO.step rfl rfl ?_ | refine VD.end rfl rfl rfl ?_ | refine VD.mid rfl rfl rfl ?_); refine OpV.box rfl rfl rfl ?_; intro _; refine w ?_))
    refine VC.loop (α := Nat) (fun k => k ≤ E[a].xs.length) (fun k => Own 22 1 (.slice (some lb) E.length lc) E.length (E.map ListE.hdr) :: (L.set a (Own 5 1 (.slice E[a].ao E[a].xs.length E[a].cap) E[a].xs.length (marks a k ++ E[a].xs.drop k)) ++ R))
      (fun k => [(0, .slice (some lb) E.length lc), (3, .int .i64 a), (4, .int .i64 k)]) (fun k => E[a].xs.length - k) rfl 0 (Nat.zero_le _) (by rw [← hself]; exact Ent.refl) ⟨rfl, rfl, rfl, trivial⟩ ?_
    intro k hk
    refine VC.know (p := E[a].ao = none → E[a].xs.length = 0) (fun w hw => Holds.ownNone hw (.tail _ (mem_set L a _ (by omega)))) ?_
    intro han
    (refine w ?_; repeat ((first | refine VO.step rfl rfl ?_ | refine VD.end rfl rfl rfl ?_ | refine VD.mid rfl rfl rfl ?_); refine OpV.box rfl rfl rfl ?_; intro _; refine w ?_))
    (first | refine VO.pure rfl rfl (PureAt.ldR tab_ok rfl rfl (Rds.own (hdrs_one E) (.head _) (by rw [List.length_map, Nat.mul_one]) (fun h => by cases h)) hget) rfl ?_ | refine VD.take rfl rfl rfl (PureAt.ldR tab_ok rfl rfl (Rds.own (hdrs_one E) (.head _) (by rw [List.length_map, Nat.mul_one]) (fun h => by cases h)) hget) rfl ?_ | refine VQ.pure rfl rfl (PureAt.ldR tab_ok rfl rfl (Rds.own (hdrs_one E) (.head _) (by rw [List.length_map, Nat.mul_one]) (fun h => by cases h)) hget) rfl ?_ | refine VD.end rfl rfl rfl (OpV.pure (PureAt.ldR tab_ok rfl rfl (Rds.own (hdrs_one E) (.head _) (by rw [List.length_map, Nat.mul_one]) (fun h => by cases h)) hget) rfl ?_))
    (refine w ?_; repeat ((first | refine VO.step rfl rfl ?_ | refine VD.end rfl rfl rfl ?_ | refine VD.mid rfl rfl rfl ?_); refine OpV.box rfl rfl rfl ?_; intro _; refine w ?_))
    (refine VC.cond rfl rfl ?_ ?_ <;> intro hc)
    · have hkt : k < E[a].xs.length := by have := of_decide_eq_true hc; omega
      obtain ⟨xa, hxa⟩ : ∃ xa, E[a].ao = some xa := by cases h : E[a].ao with | none => have := han h; omega | some xa => exact ⟨xa, rfl⟩
      rw [hxa] at hget ⊢
      (refine w ?_; repeat ((first | refine VO.step rfl rfl ?_ | refine VD.end rfl rfl rfl ?_ | refine VD.mid rfl rfl rfl ?_); refine OpV.box rfl rfl rfl ?_; intro _; refine w ?_))
      (first | refine VO.pure rfl rfl (PureAt.ldR tab_ok rfl rfl (Rds.own (hdrs_one E) (.head _) (by rw [List.length_map, Nat.mul_one]) (fun h => by cases h)) hget) rfl ?_ | refine VD.take rfl rfl rfl (PureAt.ldR tab_ok rfl rfl (Rds.own (hdrs_one E) (.head _) (by rw [List.length_map, Nat.mul_one]) (fun h => by cases h)) hget) rfl ?_ | refine VQ.pure rfl rfl (PureAt.ldR tab_ok rfl rfl (Rds.own (hdrs_one E) (.head _) (by rw [List.length_map, Nat.mul_one]) (fun h => by cases h)) hget) rfl ?_ | refine VD.end rfl rfl rfl (OpV.pure (PureAt.ldR tab_ok rfl rfl (Rds.own (hdrs_one E) (.head _) (by rw [List.length_map, Nat.mul_one]) (fun h => by cases h)) hget) rfl ?_))
      (refine w ?_; repeat ((first | refine VO.step rfl rfl ?_ | refine VD.end rfl rfl rfl ?_ | refine VD.mid rfl rfl rfl ?_); refine OpV.box rfl rfl rfl ?_; intro _; refine w ?_))
      (first | refine VO.step rfl rfl ?_ | refine VD.end rfl rfl rfl ?_ | refine VD.mid rfl rfl rfl ?_)
      refine OpV.stO tab_ok rfl rfl rfl rfl (.tail (hole_set L a _ (by omega))) (by rw [List.length_append, marks_length, List.length_drop]; omega) ?_
      have hset : (marks a k ++ E[a].xs.drop k).set k (.int .u8 (IntKind.u8.wrap ((a : Int) * 97 + (k : Int) * 13))) = marks a (k + 1) ++ E[a].xs.drop (k + 1) := by
        rw [List.set_append_right _ _ (by rw [marks_length]; exact Nat.le_refl _), marks_length, Nat.sub_self, List.drop_eq_getElem_cons hkt, List.set_cons_zero, marks_succ, List.append_assoc]; rfl
      rw [hset]
      (refine w ?_; repeat ((first | refine VO.step rfl rfl ?_ | refine VD.end rfl rfl rfl ?_ | refine VD.mid rfl rfl rfl ?_); refine OpV.box rfl rfl rfl ?_; intro _; refine w ?_))
      exact VE.round (k + 1) hkt (by omega) ⟨rfl, rfl, rfl, trivial⟩ Ent.refl
    · have hge : k = E[a].xs.length := by have := of_decide_eq_false hc; omega
      rw [hge, List.drop_length, List.append_nil, hnext]
      (refine w ?_; repeat ((first | refine VO.step rfl rfl ?_ | refine VD.end rfl rfl rfl ?_ | refine VD.mid rfl rfl rfl ?_); refine OpV.box rfl rfl rfl ?_; intro _; refine w ?_))
      exact VE.round (a + 1) hlt (by omega) ⟨rfl, rfl, trivial⟩ Ent.refl
  have hge : a = E.length := by have := of_decide_eq_false hc; omega
  subst hge
  clear hc ha
  -- every list is marked
  obtain ⟨M, hM⟩ : ∃ M, M = mkd E E.length := ⟨_, rfl⟩
  have hML : M.length = E.length := by rw [hM]; exact mkd_length _ _
  have hMg : ∀ j (h : j < M.length), M[j] = ⟨(E[j]'(by omega)).ao, (E[j]'(by omega)).cap, marks j (E[j]'(by omega)).xs.length⟩ := fun j h => by
    subst hM; rw [mkd_get E _ j (by omega), if_pos (by omega)]
  have hMh : E.map ListE.hdr = M.map ListE.hdr := by
    apply List.ext_getElem (by simp [hML])
    intro j h1 h2
    have hj : j < M.length := by simpa using h2
    rw [List.getElem_map, List.getElem_map, hMg j hj]
    simp [ListE.hdr]
  have hMl : ∀ j (h : j < M.length), M[j].xs.length ≤ 1000000000 ∧ M[j].xs = marks j M[j].xs.length := fun j h => by
    rw [hMg j h]; exact ⟨by rw [marks_length]; exact hl _ (List.getElem_mem _), by simp⟩
  (refine w ?_; repeat ((first | refine VO.step rfl rfl ?_ | refine VD.end rfl rfl rfl ?_ | refine VD.mid rfl rfl rfl ?_); refine OpV.box rfl rfl rfl ?_; intro _; refine w ?_))
  rw [← hM, hMh, ← hML]
  rw [← hML] at hln hn
  clear hMh hMg hl hML hM E
  refine VC.ent (H' := Own 22 1 (.slice none 0 0) 0 (longH M []) :: Own 22 1 (.slice lo M.length lc) M.length (M.map ListE.hdr) :: (grs M [] ++ R)) (fun w hw => by rw [grs_nil]; exact hw.ownNil _ _) ?_
  refine VC.loop (α := List (Option Addr × Nat) × Option Addr × Nat) (fun g => g.1.length ≤ M.length)
    (fun g => Own 22 1 (.slice g.2.1 g.1.length g.2.2) g.1.length (longH M g.1) :: Own 22 1 (.slice lo M.length lc) M.length (M.map ListE.hdr) :: (grs M g.1 ++ R))
    (fun g => [(0, .slice lo M.length lc), (5, .slice g.2.1 g.1.length g.2.2), (6, .int .i64 g.1.length)]) (fun g => M.length - g.1.length) rfl ([], none, 0) (Nat.zero_le _) Ent.refl ⟨rfl, rfl, rfl, trivial⟩ ?_
  rintro ⟨Gs, go, gc⟩ ha
  dsimp only at ha ⊢
  (refine w ?_; repeat ((first | refine VO.step rfl rfl ?_ | refine VD.end rfl rfl rfl ?_ | refine VD.mid rfl rfl rfl ?_); refine OpV.box rfl rfl rfl ?_; intro _; refine w ?_))
  (refine VC.cond rfl rfl ?_ ?_ <;> intro hc)
  · have hlt : Gs.length < M.length := by have := of_decide_eq_true hc; omega
    obtain ⟨lb, rfl⟩ : ∃ lb, lo = some lb := by cases lo with | none => have := hln rfl; omega | some lb => exact ⟨lb, rfl⟩
    obtain ⟨hla, hxs⟩ := hMl Gs.length hlt
    have hget : (M.map ListE.hdr)[Gs.length]? = some (.slice M[Gs.length].ao M[Gs.length].xs.length M[Gs.length].cap) := by rw [List.getElem?_map, List.getElem?_eq_getElem hlt]; rfl
    have hself : grs M Gs = (grs M Gs).set Gs.length M[Gs.length].res := by
      have e1 : (grs M Gs)[Gs.length]'(by rw [grs_length]; exact hlt) = M[Gs.length].res := by
        rw [grs_get M Gs _ hlt, List.getElem?_eq_none (Nat.le_refl _)]
      rw [← e1, List.set_getElem_self]
    have hnext (g : Option Addr × Nat) := grs_set M Gs g hlt
    have hlnext (g : Option Addr × Nat) := longH_snoc M Gs g hlt
    have hgl := grs_length M Gs
    generalize hL : grs M Gs = L at *
    (refine w ?_; repeat ((first | refine VO.step rfl rfl ?_ | refine VD.end rfl rfl rfl ?_ | refine VD.mid rfl rfl rfl ?_); refine OpV.box rfl rfl rfl ?_; intro _; refine w ?_))
    (first | refine VO.pure rfl rfl (PureAt.ldR tab_ok rfl rfl (Rds.own (hdrs_one M) (.tail _ (.head _)) (by rw [List.length_map, Nat.mul_one]) (fun h => by cases h)) hget) rfl ?_ | refine VD.take rfl rfl rfl (PureAt.ldR tab_ok rfl rfl (Rds.own (hdrs_one M) (.tail _ (.head _)) (by rw [List.length_map, Nat.mul_one]) (fun h => by cases h)) hget) rfl ?_ | refine VQ.pure rfl rfl (PureAt.ldR tab_ok rfl rfl (Rds.own (hdrs_one M) (.tail _ (.head _)) (by rw [List.length_map, Nat.mul_one]) (fun h => by cases h)) hget) rfl ?_ | refine VD.end rfl rfl rfl (OpV.pure (PureAt.ldR tab_ok rfl rfl (Rds.own (hdrs_one M) (.tail _ (.head _)) (by rw [List.length_map, Nat.mul_one]) (fun h => by cases h)) hget) rfl ?_))
    (refine w ?_; repeat ((first | refine VO.step rfl rfl ?_ | refine VD.end rfl rfl rfl ?_ | refine VD.mid rfl rfl rfl ?_); refine OpV.box rfl rfl rfl ?_; intro _; refine w ?_))
    refine VC.loop (α := Nat × Option Addr × Nat) (fun g => g.1 ≤ 16)
      (fun g => Own 22 1 (.slice go Gs.length gc) Gs.length (longH M Gs) :: Own 22 1 (.slice (some lb) M.length lc) M.length (M.map ListE.hdr) :: (L.set Gs.length (twin Gs.length M[Gs.length] g.2 g.1) ++ R))
      (fun g => [(0, .slice (some lb) M.length lc), (5, .slice go Gs.length gc), (6, .int .i64 Gs.length), (7, .slice g.2.1 (M[Gs.length].xs.length + g.1) g.2.2), (8, .int .i64 g.1)]) (fun g => 16 - g.1) rfl (0, M[Gs.length].ao, M[Gs.length].cap) (Nat.zero_le _)
      (by
        rw [hself, List.set_set]
        refine Ent.hole (Hole.tail (Hole.tail (hole_set L Gs.length _ (by omega)))) (fun R w hw => ?_)
        have := TwinR.start hw
        simpa [twin, marks2] using this) ⟨rfl, rfl, rfl, rfl, rfl, trivial⟩ ?_
    rintro ⟨k, xo, xc⟩ hk
    dsimp only at hk ⊢
    (refine w ?_; repeat ((first | refine VO.step rfl rfl ?_ | refine VD.end rfl rfl rfl ?_ | refine VD.mid rfl rfl rfl ?_); refine OpV.box rfl rfl rfl ?_; intro _; refine w ?_))
    (refine VC.cond rfl rfl ?_ ?_ <;> intro hc)
    · have hkt : k < 16 := by have := of_decide_eq_true hc; omega
      (refine w ?_; repeat ((first | refine VO.step rfl rfl ?_ | refine VD.end rfl rfl rfl ?_ | refine VD.mid rfl rfl rfl ?_); refine OpV.box rfl rfl rfl ?_; intro _; refine w ?_))
      ((first | refine VO.step rfl rfl ?_ | refine VD.end rfl rfl rfl ?_ | refine VD.mid rfl rfl rfl ?_); refine OpV.buildSlice1 st_22 rfl rfl (by first | (simp; done) | simp [Value.oneCell']) (by decide) rfl ?_; intro nb)
      (first | refine VO.step rfl rfl ?_ | refine VD.end rfl rfl rfl ?_ | refine VD.mid rfl rfl rfl ?_)
      refine OpV.appendT (news := [mk ((-1 - (Gs.length : Int)) * 97 + (k : Int) * 13)]) (m := 1) st_22 rfl rfl (.tail (.tail (.tail (hole_set L Gs.length _ (by omega))))) (fun w hw => (Sees.row (ys := []) (by simp [mk, Value.oneCell']) rfl hw (.head _)).src st_22.und) ?_ ?_ rfl ?_
      · simp only [maxLen]; omega
      · omega
      intro xo' xc'
      (refine w ?_; repeat ((first | refine VO.step rfl rfl ?_ | refine VD.end rfl rfl rfl ?_ | refine VD.mid rfl rfl rfl ?_); refine OpV.box rfl rfl rfl ?_; intro _; refine w ?_))
      refine VE.round (k + 1, xo', xc') hkt (by simp only; omega) ⟨rfl, rfl, rfl, rfl, rfl, trivial⟩ ?_
      unfold twin
      rw [marks2_succ, ← List.append_assoc]
      exact Reord.ent (Reord.drop .refl)
    · have hge : k = 16 := by have := of_decide_eq_false hc; omega
      subst hge
      rw [hnext]
      (refine w ?_; repeat ((first | refine VO.step rfl rfl ?_ | refine VD.end rfl rfl rfl ?_ | refine VD.mid rfl rfl rfl ?_); refine OpV.box rfl rfl rfl ?_; intro _; refine w ?_))
      ((first | refine VO.step rfl rfl ?_ | refine VD.end rfl rfl rfl ?_ | refine VD.mid rfl rfl rfl ?_); refine OpV.buildSlice1 st_45 rfl rfl (by first | (simp; done) | simp [Value.oneCell']) (by decide) rfl ?_; intro nb)
      ((first | refine VO.step rfl rfl ?_ | refine VD.end rfl rfl rfl ?_ | refine VD.mid rfl rfl rfl ?_); refine OpV.appendRow st_45 rfl rfl (by (repeat first | exact .head | apply Hole.tail)) (by (focus repeat first | exact .head _ | apply List.Mem.tail)) rfl (by first | (simp; done) | simp [Value.oneCell']) ?_ ?_ rfl ?_)
      · simp only [maxLen]; omega
      · omega
      intro go' gc'
      rw [← hlnext (xo, xc)]
      (refine w ?_; repeat ((first | refine VO.step rfl rfl ?_ | refine VD.end rfl rfl rfl ?_ | refine VD.mid rfl rfl rfl ?_); refine OpV.box rfl rfl rfl ?_; intro _; refine w ?_))
      refine VE.round (Gs ++ [(xo, xc)], go', gc') (by rw [List.length_append]; exact hlt) (by simp only [List.length_append, List.length_singleton]; omega) ⟨rfl, asV rfl (by rw [List.length_append]; rfl), asV rfl (by rw [List.length_append]; rfl), trivial⟩ ?_
      dsimp only
      rw [List.length_append]
      exact Ent.re
  have hge : Gs.length = M.length := by have := of_decide_eq_false hc; omega
  clear hc ha
  (refine w ?_; repeat ((first | refine VO.step rfl rfl ?_ | refine VD.end rfl rfl rfl ?_ | refine VD.mid rfl rfl rfl ?_); refine OpV.box rfl rfl rfl ?_; intro _; refine w ?_))
  refine VC.know (p := go = none → Gs.length = 0) (fun w hw => Holds.ownNone hw (.head _)) ?_
  intro hgn
  generalize hH : (Own 22 1 (.slice go Gs.length gc) Gs.length (longH M Gs) :: Own 22 1 (.slice lo M.length lc) M.length (M.map ListE.hdr) :: (grs M Gs ++ R)) = HH
  have hr1 : Rds W HH 1 lo M.length (M.map ListE.hdr) := by subst hH; exact Rds.own (hdrs_one M) (.tail _ (.head _)) (by rw [List.length_map, Nat.mul_one]) hln
  have hr2 : Rds W HH 1 go Gs.length (longH M Gs) := by subst hH; exact Rds.own (longH_one M Gs) (.head _) (by rw [longH_length, Nat.mul_one]) hgn
  have hend : Ent W HH R := by
    subst hH
    exact Ent.drop (Ent.drop (fun w hw => by
      have : ∀ (X : List SProp) w, Holds W (X ++ R) w → Holds W R w := fun X => by
        induction X with
        | nil => exact fun w h => h
        | cons a r ih => exact fun w h => ih w h.tail
      exact this _ w hw))
  have htw : ∀ a (h : a < M.length), twin a M[a] (Gs[a]'(by omega)) 16 ∈ HH := fun a h => by
    subst hH
    refine .tail _ (.tail _ (List.mem_append_left _ (List.mem_iff_getElem.2 ⟨a, by rw [grs_length]; exact h, ?_⟩)))
    rw [grs_get M Gs a h, List.getElem?_eq_getElem (by omega)]
  have hlg : ∀ a (h : a < M.length), (longH M Gs)[a]? = some (.slice (Gs[a]'(by omega)).1 (M[a].xs.length + 16) (Gs[a]'(by omega)).2) := fun a h => by
    unfold longH
    rw [List.getElem?_mapIdx, List.getElem?_eq_getElem h, List.getElem?_eq_getElem (l := Gs) (by omega)]; rfl
  clear hH
  refine VC.loop (α := Nat) (fun a => a ≤ M.length) (fun _ => HH)
    (fun a => [(0, .slice lo M.length lc), (5, .slice go Gs.length gc), (9, .int .i64 a)]) (fun a => M.length - a) rfl 0 (Nat.zero_le _) Ent.refl ⟨rfl, rfl, rfl, trivial⟩ ?_
  intro a ha
  (refine w ?_; repeat ((first | refine VO.step rfl rfl ?_ | refine VD.end rfl rfl rfl ?_ | refine VD.mid rfl rfl rfl ?_); refine OpV.box rfl rfl rfl ?_; intro _; refine w ?_))
  (refine VC.cond rfl rfl ?_ ?_ <;> intro hc)
  · have hlt : a < M.length := by have := of_decide_eq_true hc; omega
    obtain ⟨lb, rfl⟩ : ∃ lb, lo = some lb := by cases lo with | none => have := hln rfl; omega | some lb => exact ⟨lb, rfl⟩
    obtain ⟨gb, rfl⟩ : ∃ gb, go = some gb := by cases go with | none => have := hgn rfl; omega | some gb => exact ⟨gb, rfl⟩
    obtain ⟨hla, hxs⟩ := hMl a hlt
    have hget : (M.map ListE.hdr)[a]? = some (.slice M[a].ao M[a].xs.length M[a].cap) := by rw [List.getElem?_map, List.getElem?_eq_getElem hlt]; rfl
    have htw := htw a hlt
    have hlg := hlg a hlt
    have hgl : a < Gs.length := by omega
    generalize Gs[a] = g at *
    generalize M[a] = e at *
    have h1 : ∀ u ∈ e.xs, u.oneCell' = true := by rw [hxs]; exact marks_one _ _
    have h2 : ∀ u ∈ e.xs ++ marks2 a 16, u.oneCell' = true := fun u hu => by
      rcases List.mem_append.1 hu with q | q
      · exact h1 u q
      · exact marks2_one _ _ u q
    refine VC.know (fun w hw => TwinR.none hw htw) ?_
    rintro ⟨hon, hnn⟩
    have ho : Rds W HH 1 e.ao e.xs.length e.xs := TwinR.rdsOld htw h1 (by rw [Nat.mul_one]) hon
    have hw' : Rds W HH 1 g.1 (e.xs.length + 16) (e.xs ++ marks2 a 16) := TwinR.rdsNew htw h2 (by rw [List.length_append, marks2_length, Nat.mul_one]) hnn
    obtain ⟨gx, hgx⟩ : ∃ gx, g.1 = some gx := by cases h : g.1 with | none => have := hnn h; omega | some gx => exact ⟨gx, rfl⟩
    rw [hgx] at hlg hw'
    (refine w ?_; repeat ((first | refine VO.step rfl rfl ?_ | refine VD.end rfl rfl rfl ?_ | refine VD.mid rfl rfl rfl ?_); refine OpV.box rfl rfl rfl ?_; intro _; refine w ?_))
    (first | refine VO.pure rfl rfl (PureAt.ldR tab_ok rfl rfl hr1 hget) rfl ?_ | refine VD.take rfl rfl rfl (PureAt.ldR tab_ok rfl rfl hr1 hget) rfl ?_ | refine VQ.pure rfl rfl (PureAt.ldR tab_ok rfl rfl hr1 hget) rfl ?_ | refine VD.end rfl rfl rfl (OpV.pure (PureAt.ldR tab_ok rfl rfl hr1 hget) rfl ?_))
    (refine w ?_; repeat ((first | refine VO.step rfl rfl ?_ | refine VD.end rfl rfl rfl ?_ | refine VD.mid rfl rfl rfl ?_); refine OpV.box rfl rfl rfl ?_; intro _; refine w ?_))
    refine VC.loop (α := Nat) (fun k => k ≤ e.xs.length) (fun _ => HH)
      (fun k => [(0, .slice (some lb) M.length lc), (5, .slice (some gb) Gs.length gc), (9, .int .i64 a), (10, .int .i64 e.xs.length), (11, .int .i64 k)]) (fun k => e.xs.length - k) rfl 0 (Nat.zero_le _) Ent.refl ⟨rfl, rfl, rfl, rfl, rfl, trivial⟩ ?_
    intro k hk
    (refine w ?_; repeat ((first | refine VO.step rfl rfl ?_ | refine VD.end rfl rfl rfl ?_ | refine VD.mid rfl rfl rfl ?_); refine OpV.box rfl rfl rfl ?_; intro _; refine w ?_))
    (refine VC.cond rfl rfl ?_ ?_ <;> intro hc)
    · have hkt : k < e.xs.length := by have := of_decide_eq_true hc; omega
      obtain ⟨ox, hox⟩ : ∃ ox, e.ao = some ox := by cases h : e.ao with | none => have := hon h; omega | some ox => exact ⟨ox, rfl⟩
      rw [hox] at hget ho
      have hk1 : e.xs[k]? = some (mk ((a : Int) * 97 + (k : Int) * 13)) := by rw [hxs]; exact marks_get a _ k hkt
      have hk2 : (e.xs ++ marks2 a 16)[k]? = some (mk ((a : Int) * 97 + (k : Int) * 13)) := by rw [List.getElem?_append_left hkt]; exact hk1
      (refine w ?_; repeat ((first | refine VO.step rfl rfl ?_ | refine VD.end rfl rfl rfl ?_ | refine VD.mid rfl rfl rfl ?_); refine OpV.box rfl rfl rfl ?_; intro _; refine w ?_))
      (first | refine VO.pure rfl rfl (PureAt.ldR tab_ok rfl rfl hr1 hget) rfl ?_ | refine VD.take rfl rfl rfl (PureAt.ldR tab_ok rfl rfl hr1 hget) rfl ?_ | refine VQ.pure rfl rfl (PureAt.ldR tab_ok rfl rfl hr1 hget) rfl ?_ | refine VD.end rfl rfl rfl (OpV.pure (PureAt.ldR tab_ok rfl rfl hr1 hget) rfl ?_))
      (refine w ?_; repeat ((first | refine VO.step rfl rfl ?_ | refine VD.end rfl rfl rfl ?_ | refine VD.mid rfl rfl rfl ?_); refine OpV.box rfl rfl rfl ?_; intro _; refine w ?_))
      (first | refine VO.pure rfl rfl (PureAt.ldR tab_ok rfl rfl ho hk1) rfl ?_ | refine VD.take rfl rfl rfl (PureAt.ldR tab_ok rfl rfl ho hk1) rfl ?_ | refine VQ.pure rfl rfl (PureAt.ldR tab_ok rfl rfl ho hk1) rfl ?_ | refine VD.end rfl rfl rfl (OpV.pure (PureAt.ldR tab_ok rfl rfl ho hk1) rfl ?_))
      (refine w ?_; repeat ((first | refine VO.step rfl rfl ?_ | refine VD.end rfl rfl rfl ?_ | refine VD.mid rfl rfl rfl ?_); refine OpV.box rfl rfl rfl ?_; intro _; refine w ?_))
      (first | refine VO.gF rfl rfl rfl (by simp) ?_ | refine VD.gF rfl rfl rfl (by simp) ?_)
      (refine w ?_; repeat ((first | refine VO.step rfl rfl ?_ | refine VD.end rfl rfl rfl ?_ | refine VD.mid rfl rfl rfl ?_); refine OpV.box rfl rfl rfl ?_; intro _; refine w ?_))
      (first | refine VO.pure rfl rfl (PureAt.ldR tab_ok rfl rfl hr2 hlg) rfl ?_ | refine VD.take rfl rfl rfl (PureAt.ldR tab_ok rfl rfl hr2 hlg) rfl ?_ | refine VQ.pure rfl rfl (PureAt.ldR tab_ok rfl rfl hr2 hlg) rfl ?_ | refine VD.end rfl rfl rfl (OpV.pure (PureAt.ldR tab_ok rfl rfl hr2 hlg) rfl ?_))
      (refine w ?_; repeat ((first | refine VO.step rfl rfl ?_ | refine VD.end rfl rfl rfl ?_ | refine VD.mid rfl rfl rfl ?_); refine OpV.box rfl rfl rfl ?_; intro _; refine w ?_))
      (first | refine VO.pure rfl rfl (PureAt.ldR tab_ok rfl rfl hw' hk2) rfl ?_ | refine VD.take rfl rfl rfl (PureAt.ldR tab_ok rfl rfl hw' hk2) rfl ?_ | refine VQ.pure rfl rfl (PureAt.ldR tab_ok rfl rfl hw' hk2) rfl ?_ | refine VD.end rfl rfl rfl (OpV.pure (PureAt.ldR tab_ok rfl rfl hw' hk2) rfl ?_))
      (refine w ?_; repeat ((first | refine VO.step rfl rfl ?_ | refine VD.end rfl rfl rfl ?_ | refine VD.mid rfl rfl rfl ?_); refine OpV.box rfl rfl rfl ?_; intro _; refine w ?_))
      (refine VC.condFe rfl rfl (by simp) ?_)
      (refine w ?_; repeat ((first | refine VO.step rfl rfl ?_ | refine VD.end rfl rfl rfl ?_ | refine VD.mid rfl rfl rfl ?_); refine OpV.box rfl rfl rfl ?_; intro _; refine w ?_))
      exact VE.round (k + 1) hkt (by omega) ⟨rfl, rfl, rfl, rfl, rfl, trivial⟩ Ent.refl
    · (refine w ?_; repeat ((first | refine VO.step rfl rfl ?_ | refine VD.end rfl rfl rfl ?_ | refine VD.mid rfl rfl rfl ?_); refine OpV.box rfl rfl rfl ?_; intro _; refine w ?_))
      refine VC.loop (α := Nat) (fun k => k ≤ 16) (fun _ => HH)
        (fun k => [(0, .slice (some lb) M.length lc), (5, .slice (some gb) Gs.length gc), (9, .int .i64 a), (10, .int .i64 e.xs.length), (12, .int .i64 k)]) (fun k => 16 - k) rfl 0 (Nat.zero_le _) Ent.refl ⟨rfl, rfl, rfl, rfl, rfl, trivial⟩ ?_
      intro k hk
      (refine w ?_; repeat ((first | refine VO.step rfl rfl ?_ | refine VD.end rfl rfl rfl ?_ | refine VD.mid rfl rfl rfl ?_); refine OpV.box rfl rfl rfl ?_; intro _; refine w ?_))
      (refine VC.cond rfl rfl ?_ ?_ <;> intro hc)
      · have hkt : k < 16 := by have := of_decide_eq_true hc; omega
        have hk2 : (e.xs ++ marks2 a 16)[e.xs.length + k]? = some (mk ((-1 - (a : Int)) * 97 + (k : Int) * 13)) := by
          rw [List.getElem?_append_right (by omega), Nat.add_sub_cancel_left]; exact marks2_get a 16 k hkt
        (refine w ?_; repeat ((first | refine VO.step rfl rfl ?_ | refine VD.end rfl rfl rfl ?_ | refine VD.mid rfl rfl rfl ?_); refine OpV.box rfl rfl rfl ?_; intro _; refine w ?_))
        (first | refine VO.pure rfl rfl (PureAt.ldR tab_ok rfl rfl hr2 hlg) rfl ?_ | refine VD.take rfl rfl rfl (PureAt.ldR tab_ok rfl rfl hr2 hlg) rfl ?_ | refine VQ.pure rfl rfl (PureAt.ldR tab_ok rfl rfl hr2 hlg) rfl ?_ | refine VD.end rfl rfl rfl (OpV.pure (PureAt.ldR tab_ok rfl rfl hr2 hlg) rfl ?_))
        (first | (first | refine VO.nil rfl ?_ | refine VQ.nil rfl ?_ | refine VD.nil ?_ | ((first | apply VO.pure rfl rfl | apply VQ.pure rfl rfl | apply VD.take rfl rfl rfl | (refine VD.end rfl rfl rfl ?_; apply OpV.pure)); (first | (apply PureAt.ar64 rfl rfl rfl; omega) | exact .eval tab_ok rfl | (apply PureAt.ld tab_ok rfl rfl; (focus repeat first | exact .head _ | apply List.Mem.tail); rfl) | (apply PureAt.shr rfl rfl (by decide) (by decide)) | (apply PureAt.shr rfl rfl (by omega) (by simp only [IntKind.bits]; omega)) | exact .fieldAddrA tab_ok rfl rfl | exact .sliceLH tab_ok rfl rfl rfl rfl (by omega) (by omega) | exact .sliceH tab_ok rfl rfl rfl (by omega) | exact .sliceL tab_ok rfl rfl rfl (by omega) | (first | exact .indexAddr tab_ok rfl rfl rfl rfl (by omega) | exact .indexAddrN tab_ok rfl rfl rfl rfl (by omega) | exact .indexAddrI tab_ok rfl rfl rfl rfl (toNatLit _) (by decide) (by omega) | exact .indexAddrNI tab_ok rfl rfl rfl rfl (toNatLit _) (by decide) (by omega) | exact .ldR tab_ok rfl rfl hr1 (List.getElem?_eq_getElem (by omega)) | exact .ldR tab_ok rfl rfl hr2 (List.getElem?_eq_getElem (by omega)) | exact ldB tab_ok rfl rfl hb1 (by omega) | exact ldB tab_ok rfl rfl hb2 (by omega)) | exact .sliceHI tab_ok rfl rfl rfl (toNatLit _) (by decide) (by omega) | exact .sliceLI tab_ok rfl rfl rfl (toNatLit _) (by decide) (by omega) | (apply PureAt.ldA tab_ok rfl rfl; (focus repeat first | exact .head _ | apply List.Mem.tail); rfl; rfl) | exact .ldro tab_ok rfl rfl (by assumption)); rfl) | refine VO.skip rfl rfl rfl rfl ?_ | refine VQ.skip rfl rfl rfl rfl ?_ | refine VD.skip rfl rfl rfl rfl rfl ?_ | refine VD.skipM rfl rfl Ent.refl rfl rfl rfl ?_ | ((first | refine VO.step rfl rfl ?_ | refine VD.end rfl rfl rfl ?_ | refine VD.mid rfl rfl rfl ?_); (first | (apply OpV.st tab_ok rfl rfl rfl rfl (by (repeat first | exact .head | apply Hole.tail); first | done | fail) (by first | (simp; done) | fail)) | (refine OpV.box rfl rfl rfl ?_; intro _))) | refine ⟨Ent.re, ?_⟩) | (first | refine VC.seq rfl ?_ | refine VC.region rfl ?_ | refine VC.condT rfl rfl ?_ | refine VC.condF rfl rfl ?_ | refine VC.block rfl ?_ | refine VC.skip rfl ?_ | refine VC.ret rfl ?_ | refine VC.exit rfl ?_ | refine VC.scope rfl ?_ | refine VC.label rfl ?_) | (first | refine VE.next ?_ | refine VE.passRet ?_ | refine VE.passExit ?_ | refine VE.blockNormal ?_ | refine VE.blockHit ?_ | refine VE.blockMiss rfl ?_ | refine VE.blockRet ?_ | refine VE.loopRet ?_ | refine VE.loopExit ?_ | refine VE.scopeNormal ?_ | refine VE.scopeRet ?_ | refine VE.scopeExit ?_))
        (first | (first | refine VO.nil rfl ?_ | refine VQ.nil rfl ?_ | refine VD.nil ?_ | ((first | apply VO.pure rfl rfl | apply VQ.pure rfl rfl | apply VD.take rfl rfl rfl | (refine VD.end rfl rfl rfl ?_; apply OpV.pure)); (first | (apply PureAt.ar64 rfl rfl rfl; omega) | exact .eval tab_ok rfl | (apply PureAt.ld tab_ok rfl rfl; (focus repeat first | exact .head _ | apply List.Mem.tail); rfl) | (apply PureAt.shr rfl rfl (by decide) (by decide)) | (apply PureAt.shr rfl rfl (by omega) (by simp only [IntKind.bits]; omega)) | exact .fieldAddrA tab_ok rfl rfl | exact .sliceLH tab_ok rfl rfl rfl rfl (by omega) (by omega) | exact .sliceH tab_ok rfl rfl rfl (by omega) | exact .sliceL tab_ok rfl rfl rfl (by omega) | (first | exact .indexAddr tab_ok rfl rfl rfl rfl (by omega) | exact .indexAddrN tab_ok rfl rfl rfl rfl (by omega) | exact .indexAddrI tab_ok rfl rfl rfl rfl (toNatLit _) (by decide) (by omega) | exact .indexAddrNI tab_ok rfl rfl rfl rfl (toNatLit _) (by decide) (by omega) | exact .ldR tab_ok rfl rfl hr1 (List.getElem?_eq_getElem (by omega)) | exact .ldR tab_ok rfl rfl hr2 (List.getElem?_eq_getElem (by omega)) | exact ldB tab_ok rfl rfl hb1 (by omega) | exact ldB tab_ok rfl rfl hb2 (by omega)) | exact .sliceHI tab_ok rfl rfl rfl (toNatLit _) (by decide) (by omega) | exact .sliceLI tab_ok rfl rfl rfl (toNatLit _) (by decide) (by omega) | (apply PureAt.ldA tab_ok rfl rfl; (focus repeat first | exact .head _ | apply List.Mem.tail); rfl; rfl) | exact .ldro tab_ok rfl rfl (by assumption)); rfl) | refine VO.skip rfl rfl rfl rfl ?_ | refine VQ.skip rfl rfl rfl rfl ?_ | refine VD.skip rfl rfl rfl rfl rfl ?_ | refine VD.skipM rfl rfl Ent.refl rfl rfl rfl ?_ | ((first | refine VO.step rfl rfl ?_ | refine VD.end rfl rfl rfl ?_ | refine VD.mid rfl rfl rfl ?_); (first | (apply OpV.st tab_ok rfl rfl rfl rfl (by (repeat first | exact .head | apply Hole.tail); first | done | fail) (by first | (simp; done) | fail)) | (refine OpV.box rfl rfl rfl ?_; intro _))) | refine ⟨Ent.re, ?_⟩) | (first | refine VC.seq rfl ?_ | refine VC.region rfl ?_ | refine VC.condT rfl rfl ?_ | refine VC.condF rfl rfl ?_ | refine VC.block rfl ?_ | refine VC.skip rfl ?_ | refine VC.ret rfl ?_ | refine VC.exit rfl ?_ | refine VC.scope rfl ?_ | refine VC.label rfl ?_) | (first | refine VE.next ?_ | refine VE.passRet ?_ | refine VE.passExit ?_ | refine VE.blockNormal ?_ | refine VE.blockHit ?_ | refine VE.blockMiss rfl ?_ | refine VE.blockRet ?_ | refine VE.loopRet ?_ | refine VE.loopExit ?_ | refine VE.scopeNormal ?_ | refine VE.scopeRet ?_ | refine VE.scopeExit ?_))
        (first | (first | refine VO.nil rfl ?_ | refine VQ.nil rfl ?_ | refine VD.nil ?_ | ((first | apply VO.pure rfl rfl | apply VQ.pure rfl rfl | apply VD.take rfl rfl rfl | (refine VD.end rfl rfl rfl ?_; apply OpV.pure)); (first | (apply PureAt.ar64 rfl rfl rfl; omega) | exact .eval tab_ok rfl | (apply PureAt.ld tab_ok rfl rfl; (focus repeat first | exact .head _ | apply List.Mem.tail); rfl) | (apply PureAt.shr rfl rfl (by decide) (by decide)) | (apply PureAt.shr rfl rfl (by omega) (by simp only [IntKind.bits]; omega)) | exact .fieldAddrA tab_ok rfl rfl | exact .sliceLH tab_ok rfl rfl rfl rfl (by omega) (by omega) | exact .sliceH tab_ok rfl rfl rfl (by omega) | exact .sliceL tab_ok rfl rfl rfl (by omega) | (first | exact .indexAddr tab_ok rfl rfl rfl rfl (by omega) | exact .indexAddrN tab_ok rfl rfl rfl rfl (by omega) | exact .indexAddrI tab_ok rfl rfl rfl rfl (toNatLit _) (by decide) (by omega) | exact .indexAddrNI tab_ok rfl rfl rfl rfl (toNatLit _) (by decide) (by omega) | exact .ldR tab_ok rfl rfl hr1 (List.getElem?_eq_getElem (by omega)) | exact .ldR tab_ok rfl rfl hr2 (List.getElem?_eq_getElem (by omega)) | exact ldB tab_ok rfl rfl hb1 (by omega) | exact ldB tab_ok rfl rfl hb2 (by omega)) | exact .sliceHI tab_ok rfl rfl rfl (toNatLit _) (by decide) (by omega) | exact .sliceLI tab_ok rfl rfl rfl (toNatLit _) (by decide) (by omega) | (apply PureAt.ldA tab_ok rfl rfl; (focus repeat first | exact .head _ | apply List.Mem.tail); rfl; rfl) | exact .ldro tab_ok rfl rfl (by assumption)); rfl) | refine VO.skip rfl rfl rfl rfl ?_ | refine VQ.skip rfl rfl rfl rfl ?_ | refine VD.skip rfl rfl rfl rfl rfl ?_ | refine VD.skipM rfl rfl Ent.refl rfl rfl rfl ?_ | ((first | refine VO.step rfl rfl ?_ | refine VD.end rfl rfl rfl ?_ | refine VD.mid rfl rfl rfl ?_); (first | (apply OpV.st tab_ok rfl rfl rfl rfl (by (repeat first | exact .head | apply Hole.tail); first | done | fail) (by first | (simp; done) | fail)) | (refine OpV.box rfl rfl rfl ?_; intro _))) | refine ⟨Ent.re, ?_⟩) | (first | refine VC.seq rfl ?_ | refine VC.region rfl ?_ | refine VC.condT rfl rfl ?_ | refine VC.condF rfl rfl ?_ | refine VC.block rfl ?_ | refine VC.skip rfl ?_ | refine VC.ret rfl ?_ | refine VC.exit rfl ?_ | refine VC.scope rfl ?_ | refine VC.label rfl ?_) | (first | refine VE.next ?_ | refine VE.passRet ?_ | refine VE.passExit ?_ | refine VE.blockNormal ?_ | refine VE.blockHit ?_ | refine VE.blockMiss rfl ?_ | refine VE.blockRet ?_ | refine VE.loopRet ?_ | refine VE.loopExit ?_ | refine VE.scopeNormal ?_ | refine VE.scopeRet ?_ | refine VE.scopeExit ?_))
        refine VO.re 124 (.int .i64 ((e.xs.length + k : Nat) : Int)) rfl (by congr 1) ?_
        (refine w ?_; repeat ((first | refine VO.step rfl rfl ?_ | refine VD.end rfl rfl rfl ?_ | refine VD.mid rfl rfl rfl ?_); refine OpV.box rfl rfl rfl ?_; intro _; refine w ?_))
        (first | refine VO.pure rfl rfl (PureAt.ldR tab_ok rfl rfl hw' hk2) rfl ?_ | refine VD.take rfl rfl rfl (PureAt.ldR tab_ok rfl rfl hw' hk2) rfl ?_ | refine VQ.pure rfl rfl (PureAt.ldR tab_ok rfl rfl hw' hk2) rfl ?_ | refine VD.end rfl rfl rfl (OpV.pure (PureAt.ldR tab_ok rfl rfl hw' hk2) rfl ?_))
        (refine w ?_; repeat ((first | refine VO.step rfl rfl ?_ | refine VD.end rfl rfl rfl ?_ | refine VD.mid rfl rfl rfl ?_); refine OpV.box rfl rfl rfl ?_; intro _; refine w ?_))
        (refine VC.condFe rfl rfl (by simp) ?_)
        (refine w ?_; repeat ((first | refine VO.step rfl rfl ?_ | refine VD.end rfl rfl rfl ?_ | refine VD.mid rfl rfl rfl ?_); refine OpV.box rfl rfl rfl ?_; intro _; refine w ?_))
        exact VE.round (k + 1) hkt (by omega) ⟨rfl, rfl, rfl, rfl, rfl, trivial⟩ Ent.refl
      · (refine w ?_; repeat ((first | refine VO.step rfl rfl ?_ | refine VD.end rfl rfl rfl ?_ | refine VD.mid rfl rfl rfl ?_); refine OpV.box rfl rfl rfl ?_; intro _; refine w ?_))
        exact VE.round (a + 1) hlt (by omega) ⟨rfl, rfl, rfl, trivial⟩ Ent.refl
  · (refine w ?_; repeat ((first | refine VO.step rfl rfl ?_ | refine VD.end rfl rfl rfl ?_ | refine VD.mid rfl rfl rfl ?_); refine OpV.box rfl rfl rfl ?_; intro _; refine w ?_))
    (refine VE.done1 rfl ?_ ?_)
    · rfl
    · exact hend
end Go.Proofs.YtpmmkmcbimnigaaGreat

/-! Text Lk. -/
/- What is lent: LentBytes, WholeBytes, SpoilBytes; calls on packers with bytes of one's own. -/
set_option maxRecDepth 8000
set_option linter.unusedVariables false
set_option linter.unusedSimpArgs false
set_option linter.unusedSectionVars false
namespace Go.Proofs.YtpmmkmcbimnigaaGreat
open Go.RowKit Go.Sl
attribute [local irreducible] Own

/-! ### What is lent -/

def lentV (l : List UInt8) : List Value := bytes l ++ [.int .u8 91, .int .u8 92]
theorem lentV_one (l : List UInt8) : ∀ u ∈ lentV l, u.oneCell' = true := by
  intro u hu
  rcases List.mem_append.1 hu with h | h
  · exact bytes_one _ u h
  · simp only [List.mem_cons, List.not_mem_nil, or_false] at h; rcases h with h | h <;> subst h <;> rfl
@[simp] theorem lentV_length (l : List UInt8) : (lentV l).length = l.length + 2 := by simp [lentV]
abbrev LentO (a : Addr) (cap : Nat) (l : List UInt8) : SProp := Own 5 1 (.slice (some a) (l.length + 2) cap) (l.length + 2) (lentV l)
theorem LentO.rds {W : World} {R : List SProp} {a : Addr} {cap : Nat} {l : List UInt8} : Rds W (LentO a cap l :: R) 1 (some a) l.length (bytes l) := by
  have h := Rds.take (l := l.length) (Rds.own (W := W) (H := LentO a cap l :: R) (lentV_one l) (.head _) (by rw [lentV_length, Nat.mul_one]) (fun h => by cases h)) (by omega)
  rw [Nat.mul_one, lentV, List.take_left' (by simp)] at h
  exact h

end Go.Proofs.YtpmmkmcbimnigaaGreat

/-! Text Bo. -/
/- The document's book of lists of bytes: Bytes, Own. -/
set_option maxRecDepth 8000
set_option linter.unusedVariables false
set_option linter.unusedSimpArgs false
set_option linter.unusedSectionVars false
namespace Go.Proofs.YtpmmkmcbimnigaaGreat
open Go.RowKit Go.Sl
attribute [local irreducible] Own

theorem ownTexts_nil {W : World} {R : List SProp} : Does1 W Tryz.prog 74 [.slice none 0 0] R (.bool true) R := by
  (refine Does.enter Tryz.func74 Tryz.ntmps74 rfl rfl ?_)
  (refine w ?_; repeat ((first | refine VO.step rfl rfl ?_ | refine VD.end rfl rfl rfl ?_ | refine VD.mid rfl rfl rfl ?_); refine OpV.box rfl rfl rfl ?_; intro _; refine w ?_))
  refine VC.once rfl ?_
  (refine w ?_; repeat ((first | refine VO.step rfl rfl ?_ | refine VD.end rfl rfl rfl ?_ | refine VD.mid rfl rfl rfl ?_); refine OpV.box rfl rfl rfl ?_; intro _; refine w ?_))
  refine VC.once rfl ?_
  (refine w ?_; repeat ((first | refine VO.step rfl rfl ?_ | refine VD.end rfl rfl rfl ?_ | refine VD.mid rfl rfl rfl ?_); refine OpV.box rfl rfl rfl ?_; intro _; refine w ?_))
  refine VC.once rfl ?_
  (refine w ?_; repeat ((first | refine VO.step rfl rfl ?_ | refine VD.end rfl rfl rfl ?_ | refine VD.mid rfl rfl rfl ?_); refine OpV.box rfl rfl rfl ?_; intro _; refine w ?_))
  (first | exact VE.done1 rfl rfl Ent.refl | exact VE.done1N rfl rfl Ent.refl)
theorem ownInts_nil {W : World} {R : List SProp} : Does1 W Tryz.prog 75 [.slice none 0 0] R (.bool true) R := by
  (refine Does.enter Tryz.func75 Tryz.ntmps75 rfl rfl ?_)
  (refine w ?_; repeat ((first | refine VO.step rfl rfl ?_ | refine VD.end rfl rfl rfl ?_ | refine VD.mid rfl rfl rfl ?_); refine OpV.box rfl rfl rfl ?_; intro _; refine w ?_))
  refine VC.once rfl ?_
  (refine w ?_; repeat ((first | refine VO.step rfl rfl ?_ | refine VD.end rfl rfl rfl ?_ | refine VD.mid rfl rfl rfl ?_); refine OpV.box rfl rfl rfl ?_; intro _; refine w ?_))
  refine VC.once rfl ?_
  (refine w ?_; repeat ((first | refine VO.step rfl rfl ?_ | refine VD.end rfl rfl rfl ?_ | refine VD.mid rfl rfl rfl ?_); refine OpV.box rfl rfl rfl ?_; intro _; refine w ?_))
  refine VC.once rfl ?_
  (refine w ?_; repeat ((first | refine VO.step rfl rfl ?_ | refine VD.end rfl rfl rfl ?_ | refine VD.mid rfl rfl rfl ?_); refine OpV.box rfl rfl rfl ?_; intro _; refine w ?_))
  (first | exact VE.done1 rfl rfl Ent.refl | exact VE.done1N rfl rfl Ent.refl)
theorem ownNumbers_nil {W : World} {R : List SProp} : Does1 W Tryz.prog 76 [.slice none 0 0] R (.bool true) R := by
  (refine Does.enter Tryz.func76 Tryz.ntmps76 rfl rfl ?_)
  (refine w ?_; repeat ((first | refine VO.step rfl rfl ?_ | refine VD.end rfl rfl rfl ?_ | refine VD.mid rfl rfl rfl ?_); refine OpV.box rfl rfl rfl ?_; intro _; refine w ?_))
  refine VC.once rfl ?_
  (refine w ?_; repeat ((first | refine VO.step rfl rfl ?_ | refine VD.end rfl rfl rfl ?_ | refine VD.mid rfl rfl rfl ?_); refine OpV.box rfl rfl rfl ?_; intro _; refine w ?_))
  refine VC.once rfl ?_
  (refine w ?_; repeat ((first | refine VO.step rfl rfl ?_ | refine VD.end rfl rfl rfl ?_ | refine VD.mid rfl rfl rfl ?_); refine OpV.box rfl rfl rfl ?_; intro _; refine w ?_))
  refine VC.once rfl ?_
  (refine w ?_; repeat ((first | refine VO.step rfl rfl ?_ | refine VD.end rfl rfl rfl ?_ | refine VD.mid rfl rfl rfl ?_); refine OpV.box rfl rfl rfl ?_; intro _; refine w ?_))
  (first | exact VE.done1 rfl rfl Ent.refl | exact VE.done1N rfl rfl Ent.refl)
theorem ownErrs_nil {W : World} {R : List SProp} : Does1 W Tryz.prog 77 [.slice none 0 0] R (.bool true) R := by
  (refine Does.enter Tryz.func77 Tryz.ntmps77 rfl rfl ?_)
  (refine w ?_; repeat ((first | refine VO.step rfl rfl ?_ | refine VD.end rfl rfl rfl ?_ | refine VD.mid rfl rfl rfl ?_); refine OpV.box rfl rfl rfl ?_; intro _; refine w ?_))
  refine VC.once rfl ?_
  (refine w ?_; repeat ((first | refine VO.step rfl rfl ?_ | refine VD.end rfl rfl rfl ?_ | refine VD.mid rfl rfl rfl ?_); refine OpV.box rfl rfl rfl ?_; intro _; refine w ?_))
  refine VC.once rfl ?_
  (refine w ?_; repeat ((first | refine VO.step rfl rfl ?_ | refine VD.end rfl rfl rfl ?_ | refine VD.mid rfl rfl rfl ?_); refine OpV.box rfl rfl rfl ?_; intro _; refine w ?_))
  refine VC.once rfl ?_
  (refine w ?_; repeat ((first | refine VO.step rfl rfl ?_ | refine VD.end rfl rfl rfl ?_ | refine VD.mid rfl rfl rfl ?_); refine OpV.box rfl rfl rfl ?_; intro _; refine w ?_))
  (first | exact VE.done1 rfl rfl Ent.refl | exact VE.done1N rfl rfl Ent.refl)
theorem ownSpans_nil {W : World} {R : List SProp} : Does1 W Tryz.prog 78 [.slice none 0 0] R (.bool true) R := by
  (refine Does.enter Tryz.func78 Tryz.ntmps78 rfl rfl ?_)
  (refine w ?_; repeat ((first | refine VO.step rfl rfl ?_ | refine VD.end rfl rfl rfl ?_ | refine VD.mid rfl rfl rfl ?_); refine OpV.box rfl rfl rfl ?_; intro _; refine w ?_))
  refine VC.once rfl ?_
  (refine w ?_; repeat ((first | refine VO.step rfl rfl ?_ | refine VD.end rfl rfl rfl ?_ | refine VD.mid rfl rfl rfl ?_); refine OpV.box rfl rfl rfl ?_; intro _; refine w ?_))
  refine VC.once rfl ?_
  (refine w ?_; repeat ((first | refine VO.step rfl rfl ?_ | refine VD.end rfl rfl rfl ?_ | refine VD.mid rfl rfl rfl ?_); refine OpV.box rfl rfl rfl ?_; intro _; refine w ?_))
  refine VC.once rfl ?_
  (refine w ?_; repeat ((first | refine VO.step rfl rfl ?_ | refine VD.end rfl rfl rfl ?_ | refine VD.mid rfl rfl rfl ?_); refine OpV.box rfl rfl rfl ?_; intro _; refine w ?_))
  (first | exact VE.done1 rfl rfl Ent.refl | exact VE.done1N rfl rfl Ent.refl)
theorem ownStates_nil {W : World} {R : List SProp} : Does1 W Tryz.prog 79 [.slice none 0 0] R (.bool true) R := by
  (refine Does.enter Tryz.func79 Tryz.ntmps79 rfl rfl ?_)
  (refine w ?_; repeat ((first | refine VO.step rfl rfl ?_ | refine VD.end rfl rfl rfl ?_ | refine VD.mid rfl rfl rfl ?_); refine OpV.box rfl rfl rfl ?_; intro _; refine w ?_))
  refine VC.once rfl ?_
  (refine w ?_; repeat ((first | refine VO.step rfl rfl ?_ | refine VD.end rfl rfl rfl ?_ | refine VD.mid rfl rfl rfl ?_); refine OpV.box rfl rfl rfl ?_; intro _; refine w ?_))
  refine VC.once rfl ?_
  (refine w ?_; repeat ((first | refine VO.step rfl rfl ?_ | refine VD.end rfl rfl rfl ?_ | refine VD.mid rfl rfl rfl ?_); refine OpV.box rfl rfl rfl ?_; intro _; refine w ?_))
  refine VC.once rfl ?_
  (refine w ?_; repeat ((first | refine VO.step rfl rfl ?_ | refine VD.end rfl rfl rfl ?_ | refine VD.mid rfl rfl rfl ?_); refine OpV.box rfl rfl rfl ?_; intro _; refine w ?_))
  (first | exact VE.done1 rfl rfl Ent.refl | exact VE.done1N rfl rfl Ent.refl)
theorem ownBools_nil {W : World} {R : List SProp} : Does1 W Tryz.prog 80 [.slice none 0 0] R (.bool true) R := by
  (refine Does.enter Tryz.func80 Tryz.ntmps80 rfl rfl ?_)
  (refine w ?_; repeat ((first | refine VO.step rfl rfl ?_ | refine VD.end rfl rfl rfl ?_ | refine VD.mid rfl rfl rfl ?_); refine OpV.box rfl rfl rfl ?_; intro _; refine w ?_))
  (first | refine VO.step rfl rfl ?_ | refine VD.end rfl rfl rfl ?_ | refine VD.mid rfl rfl rfl ?_)
  refine OpV.makeSlice1 (m := 0) st_52 rfl rfl rfl (by decide) (by decide) rfl ?_
  intro nb
  (refine w ?_; repeat ((first | refine VO.step rfl rfl ?_ | refine VD.end rfl rfl rfl ?_ | refine VD.mid rfl rfl rfl ?_); refine OpV.box rfl rfl rfl ?_; intro _; refine w ?_))
  refine VC.once rfl ?_
  (refine w ?_; repeat ((first | refine VO.step rfl rfl ?_ | refine VD.end rfl rfl rfl ?_ | refine VD.mid rfl rfl rfl ?_); refine OpV.box rfl rfl rfl ?_; intro _; refine w ?_))
  (first | refine VO.pure rfl rfl (PureAt.shl rfl rfl (by decide)) rfl ?_ | refine VD.take rfl rfl rfl (PureAt.shl rfl rfl (by decide)) rfl ?_ | refine VQ.pure rfl rfl (PureAt.shl rfl rfl (by decide)) rfl ?_ | refine VD.end rfl rfl rfl (OpV.pure (PureAt.shl rfl rfl (by decide)) rfl ?_))
  (refine w ?_; repeat ((first | refine VO.step rfl rfl ?_ | refine VD.end rfl rfl rfl ?_ | refine VD.mid rfl rfl rfl ?_); refine OpV.box rfl rfl rfl ?_; intro _; refine w ?_))
  (refine VE.done1 rfl ?_ ?_)
  · rfl
  · exact Ent.re
theorem ownPuts_nil {W : World} {R : List SProp} : Does1 W Tryz.prog 82 [.slice none 0 0] R (.bool true) R := by
  (refine Does.enter Tryz.func82 Tryz.ntmps82 rfl rfl ?_)
  (refine w ?_; repeat ((first | refine VO.step rfl rfl ?_ | refine VD.end rfl rfl rfl ?_ | refine VD.mid rfl rfl rfl ?_); refine OpV.box rfl rfl rfl ?_; intro _; refine w ?_))
  refine VC.once rfl ?_
  (refine w ?_; repeat ((first | refine VO.step rfl rfl ?_ | refine VD.end rfl rfl rfl ?_ | refine VD.mid rfl rfl rfl ?_); refine OpV.box rfl rfl rfl ?_; intro _; refine w ?_))
  refine VC.once rfl ?_
  (refine w ?_; repeat ((first | refine VO.step rfl rfl ?_ | refine VD.end rfl rfl rfl ?_ | refine VD.mid rfl rfl rfl ?_); refine OpV.box rfl rfl rfl ?_; intro _; refine w ?_))
  refine VC.once rfl ?_
  (refine w ?_; repeat ((first | refine VO.step rfl rfl ?_ | refine VD.end rfl rfl rfl ?_ | refine VD.mid rfl rfl rfl ?_); refine OpV.box rfl rfl rfl ?_; intro _; refine w ?_))
  (first | exact VE.done1 rfl rfl Ent.refl | exact VE.done1N rfl rfl Ent.refl)
abbrev bookRow (lo : Option Addr) (n lc : Nat) : List Value := .slice lo n lc :: List.replicate 11 (.slice none 0 0)
def BookR (b : Nat) (E : List ListE) : SProp := ex fun x : Option Addr × Nat => Sl.star (Row b 58 (bookRow x.1 E.length x.2) :: Own 22 1 (.slice x.1 E.length x.2) E.length (E.map ListE.hdr) :: E.map ListE.res)
theorem BookR.open {W w : World} {b : Nat} {E : List ListE} {R : List SProp} (hw : Holds W (BookR b E :: R) w) : ∃ x : Option Addr × Nat, Holds W (Row b 58 (bookRow x.1 E.length x.2) :: Own 22 1 (.slice x.1 E.length x.2) E.length (E.map ListE.hdr) :: (E.map ListE.res ++ R)) w := by
  obtain ⟨x, h⟩ := hw.exOpen
  exact ⟨x, h.join⟩
theorem BookR.shut {W w : World} {b lc : Nat} {lo : Option Addr} {E : List ListE} {R : List SProp} (hw : Holds W (Row b 58 (bookRow lo E.length lc) :: Own 22 1 (.slice lo E.length lc) E.length (E.map ListE.hdr) :: (E.map ListE.res ++ R)) w) : Holds W (BookR b E :: R) w :=
  Holds.exShut (lo, lc) (Holds.nest (L := _ :: _ :: E.map ListE.res) hw)

end Go.Proofs.YtpmmkmcbimnigaaGreat

/-! Text Rd. -/
/- The document's disk. -/
set_option maxRecDepth 8000
set_option linter.unusedVariables false
set_option linter.unusedSimpArgs false
set_option linter.unusedSectionVars false
namespace Go.Proofs.YtpmmkmcbimnigaaGreat
open Go.RowKit Go.Sl
attribute [local irreducible] Own

def wcs (C : List (Nat × ListE)) : List Value := C.flatMap fun c => [.int .i64 (c.1 : Int), c.2.hdr]
/-- What the document's cache holds, against the disk's. -/
def Fits (k : DiskD) (C : List (Nat × ListE)) : Prop := C.map (fun c => (c.1, c.2.xs)) = k.cache.map (fun c => (c.1, bytes c.2))
abbrev DocO (d : Nat) (k : DiskD) (lo : Option Addr) (lc : Nat) (co : Option Addr) (cc : Nat) (C : List (Nat × ListE)) (R : List SProp) : List SProp :=
  Row d 140 [.slice lo k.last.flatten.length lc, .slice co C.length cc, .bool k.failed] :: Own 5 1 (.slice lo k.last.flatten.length lc) k.last.flatten.length (bytes k.last.flatten) ::
    Own 146 2 (.slice co C.length cc) C.length (wcs C) :: (C.map (fun c => c.2.res) ++ R)
def DocR (d : Nat) (k : DiskD) : SProp := ex fun x : (Option Addr × Nat) × (Option Addr × Nat) × List (Nat × ListE) => Sl.star (fact (k.ok ∧ Fits k x.2.2) :: DocO d k x.1.1 x.1.2 x.2.1.1 x.2.1.2 x.2.2 [])
theorem DocR.open {W w : World} {d : Nat} {k : DiskD} {R : List SProp} (hw : Holds W (DocR d k :: R) w) : ∃ x : { x : (Option Addr × Nat) × (Option Addr × Nat) × List (Nat × ListE) // k.ok ∧ Fits k x.2.2 }, Holds W (DocO d k x.1.1.1 x.1.1.2 x.1.2.1.1 x.1.2.1.2 x.1.2.2 R) w := by
  obtain ⟨x, h⟩ := hw.exOpen
  have h := h.join
  refine ⟨⟨x, h.factOpen⟩, ?_⟩
  have := h.tail
  simpa [DocO] using this
theorem DocR.shut {W : World} {d : Nat} {k : DiskD} {R : List SProp} {lo co : Option Addr} {lc cc : Nat} {C : List (Nat × ListE)} (hk : k.ok) (hf : Fits k C) : Ent W (DocO d k lo lc co cc C R) (DocR d k :: R) := fun w hw =>
  Holds.exShut ((lo, lc), (co, cc), C) (Holds.nest (L := _ :: _ :: _ :: _ :: (C.map (fun c => c.2.res) ++ [])) (by
    rw [List.append_nil]
    exact hw.factShut ⟨hk, hf⟩))

theorem docload_bad {W : World} {R : List SProp} {ao : Option Addr} {cap n : Nat} (h : n = 0 ∨ n % 128 ≠ 0 ∨ 1048576 < n) :
    Does1 W Tryz.prog 105 [.slice ao n cap] R (.tuple #[.pointer none, .int .i64 40]) R := by
  (refine Does.enter Tryz.func105 Tryz.ntmps105 rfl rfl ?_)
  (refine w ?_; repeat ((first | refine VO.step rfl rfl ?_ | refine VD.end rfl rfl rfl ?_ | refine VD.mid rfl rfl rfl ?_); refine OpV.box rfl rfl rfl ?_; intro _; refine w ?_))
  ((first | refine VO.split rfl rfl rfl ?_ ?_ | refine VD.split rfl rfl rfl ?_ ?_) <;> intro hb)
  · (refine w ?_; repeat ((first | refine VO.step rfl rfl ?_ | refine VD.end rfl rfl rfl ?_ | refine VD.mid rfl rfl rfl ?_); refine OpV.box rfl rfl rfl ?_; intro _; refine w ?_))
    (first | exact VE.done1 rfl rfl Ent.refl | exact VE.done1N rfl rfl Ent.refl)
  (refine w ?_; repeat ((first | refine VO.step rfl rfl ?_ | refine VD.end rfl rfl rfl ?_ | refine VD.mid rfl rfl rfl ?_); refine OpV.box rfl rfl rfl ?_; intro _; refine w ?_))
  (first | refine VO.pure rfl rfl (PureAt.rem (b := 128) rfl rfl (by decide)) rfl ?_ | refine VD.take rfl rfl rfl (PureAt.rem (b := 128) rfl rfl (by decide)) rfl ?_ | refine VQ.pure rfl rfl (PureAt.rem (b := 128) rfl rfl (by decide)) rfl ?_ | refine VD.end rfl rfl rfl (OpV.pure (PureAt.rem (b := 128) rfl rfl (by decide)) rfl ?_))
  (refine w ?_; repeat ((first | refine VO.step rfl rfl ?_ | refine VD.end rfl rfl rfl ?_ | refine VD.mid rfl rfl rfl ?_); refine OpV.box rfl rfl rfl ?_; intro _; refine w ?_))
  ((first | refine VO.split rfl rfl rfl ?_ ?_ | refine VD.split rfl rfl rfl ?_ ?_) <;> intro hb)
  · (refine w ?_; repeat ((first | refine VO.step rfl rfl ?_ | refine VD.end rfl rfl rfl ?_ | refine VD.mid rfl rfl rfl ?_); refine OpV.box rfl rfl rfl ?_; intro _; refine w ?_))
    (first | exact VE.done1 rfl rfl Ent.refl | exact VE.done1N rfl rfl Ent.refl)
  have n1 : ¬ n = 0 := by simpa using ‹((n : Int) == 0) = false›
  have n2 : n % 128 = 0 := by have := ‹(((n % 128 : Nat) : Int) != 0) = false›; simp at this; omega
  (refine w ?_; repeat ((first | refine VO.step rfl rfl ?_ | refine VD.end rfl rfl rfl ?_ | refine VD.mid rfl rfl rfl ?_); refine OpV.box rfl rfl rfl ?_; intro _; refine w ?_))
  (refine VC.condTe rfl rfl (by simp; omega) ?_)
  (refine w ?_; repeat ((first | refine VO.step rfl rfl ?_ | refine VD.end rfl rfl rfl ?_ | refine VD.mid rfl rfl rfl ?_); refine OpV.box rfl rfl rfl ?_; intro _; refine w ?_))
  (first | exact VE.done1 rfl rfl Ent.refl | exact VE.done1N rfl rfl Ent.refl)

theorem docload_ok {W : World} {R : List SProp} {ao : Option Addr} {cap m : Nat} {l : List UInt8} (hr : RdsA W 1 ao (m * 128) (bytes l)) (h1 : 1 ≤ m) (h2 : m ≤ 8192) :
    Does W Tryz.prog 105 [.slice ao (m * 128) cap] R (β := Nat) (fun _ => True) (fun d => .tuple #[.pointer (some ⟨d, 0, none⟩), .int .i64 0]) (fun d => DocR d ⟨chunks l m, [], false⟩ :: R) := by
  have hl : l.length = m * 128 := by have := (hr []).len; simpa using this
  (refine Does.enter Tryz.func105 Tryz.ntmps105 rfl rfl ?_)
  (refine w ?_; repeat ((first | refine VO.step rfl rfl ?_ | refine VD.end rfl rfl rfl ?_ | refine VD.mid rfl rfl rfl ?_); refine OpV.box rfl rfl rfl ?_; intro _; refine w ?_))
  (first | refine VO.gF rfl rfl rfl (by simp; omega) ?_ | refine VD.gF rfl rfl rfl (by simp; omega) ?_)
  (refine w ?_; repeat ((first | refine VO.step rfl rfl ?_ | refine VD.end rfl rfl rfl ?_ | refine VD.mid rfl rfl rfl ?_); refine OpV.box rfl rfl rfl ?_; intro _; refine w ?_))
  (first | refine VO.pure rfl rfl (PureAt.rem (b := 128) rfl rfl (by decide)) rfl ?_ | refine VD.take rfl rfl rfl (PureAt.rem (b := 128) rfl rfl (by decide)) rfl ?_ | refine VQ.pure rfl rfl (PureAt.rem (b := 128) rfl rfl (by decide)) rfl ?_ | refine VD.end rfl rfl rfl (OpV.pure (PureAt.rem (b := 128) rfl rfl (by decide)) rfl ?_))
  (refine w ?_; repeat ((first | refine VO.step rfl rfl ?_ | refine VD.end rfl rfl rfl ?_ | refine VD.mid rfl rfl rfl ?_); refine OpV.box rfl rfl rfl ?_; intro _; refine w ?_))
  (first | refine VO.gF rfl rfl rfl (by simp) ?_ | refine VD.gF rfl rfl rfl (by simp) ?_)
  (refine w ?_; repeat ((first | refine VO.step rfl rfl ?_ | refine VD.end rfl rfl rfl ?_ | refine VD.mid rfl rfl rfl ?_); refine OpV.box rfl rfl rfl ?_; intro _; refine w ?_))
  (refine VC.condFe rfl rfl (by simp; omega) ?_)
  (refine w ?_; repeat ((first | refine VO.step rfl rfl ?_ | refine VD.end rfl rfl rfl ?_ | refine VD.mid rfl rfl rfl ?_); refine OpV.box rfl rfl rfl ?_; intro _; refine w ?_))
  refine VO.ent (H' := Own 5 1 (.slice none 0 0) 0 [] :: R) (fun w hw => hw.ownNil _ _) ?_
  (first | refine VO.step rfl rfl ?_ | refine VD.end rfl rfl rfl ?_ | refine VD.mid rfl rfl rfl ?_)
  refine OpV.append st_22 rfl rfl .head (fun w hw => ((hr _).sees hw).src st_22.und) (by simp only [maxLen]; omega) (by omega) rfl ?_
  intro ao' cap'
  simp only [Nat.zero_add, List.nil_append]
  (refine w ?_; repeat ((first | refine VO.step rfl rfl ?_ | refine VD.end rfl rfl rfl ?_ | refine VD.mid rfl rfl rfl ?_); refine OpV.box rfl rfl rfl ?_; intro _; refine w ?_))
  (apply VO.pure rfl rfl; apply PureAt.build sb_140 rfl; (simp [buildX, setL, Value.cells]; rfl); rfl)
  (refine w ?_; repeat ((first | refine VO.step rfl rfl ?_ | refine VD.end rfl rfl rfl ?_ | refine VD.mid rfl rfl rfl ?_); refine OpV.box rfl rfl rfl ?_; intro _; refine w ?_))
  rename_i d
  refine VE.done d rfl trivial rfl ?_
  have hfl : (chunks l m).flatten = l := chunks_flatten m l hl
  have := DocR.shut (W := W) (R := R) (d := d) (k := ⟨chunks l m, [], false⟩) (lo := ao') (lc := cap') (co := none) (cc := 0) (C := []) ⟨chunks_128 hl, fun c hc => absurd hc (by simp), by simp only [chunks_length]; exact h2⟩ rfl
  simp only [DocO, hfl, hl, wcs, List.flatMap_nil, List.map_nil, List.nil_append, List.length_nil] at this
  exact fun w hw => this w ((hw.ownNil 146 2).reord (by (repeat first | exact .refl | (apply Reord.cons; focus repeat first | exact .head | apply Del.tail) | exact .nil | apply Reord.drop)))

theorem flat_len {k : DiskD} (hk : k.ok) : k.last.flatten.length = k.last.length * 128 := by
  have : ∀ l : List (List UInt8), (∀ b ∈ l, b.length = 128) → l.flatten.length = l.length * 128 := fun l => by
    induction l with
    | nil => intro _; rfl
    | cons a r ih => intro h; rw [List.flatten_cons, List.length_append, ih (fun b hb => h b (.tail _ hb)), h a (.head _), List.length_cons, Nat.add_mul]; omega
  exact this _ hk.last

theorem docsectors_ok {W : World} {R : List SProp} (d : Nat) (k : DiskD) :
    Does1 W Tryz.prog 107 [.pointer (some ⟨d, 0, none⟩)] (DocR d k :: R) (.int .i64 k.last.length) (DocR d k :: R) := by
  (refine Does.enter Tryz.func107 Tryz.ntmps107 rfl rfl ?_)
  refine VC.obtain (fun w => DocR.open) ?_
  rintro ⟨⟨⟨lo, lc⟩, ⟨co, cc⟩, C⟩, hk, hf⟩
  have hfl := flat_len hk
  have hs := hk.size
  dsimp only [DocO]
  (refine w ?_; repeat ((first | refine VO.step rfl rfl ?_ | refine VD.end rfl rfl rfl ?_ | refine VD.mid rfl rfl rfl ?_); refine OpV.box rfl rfl rfl ?_; intro _; refine w ?_))
  (first | refine VO.pure rfl rfl (PureAt.quo (b := 128) rfl rfl (by decide) (IntWalk.i64_in _ ⟨by omega, by omega⟩)) rfl ?_ | refine VD.take rfl rfl rfl (PureAt.quo (b := 128) rfl rfl (by decide) (IntWalk.i64_in _ ⟨by omega, by omega⟩)) rfl ?_ | refine VQ.pure rfl rfl (PureAt.quo (b := 128) rfl rfl (by decide) (IntWalk.i64_in _ ⟨by omega, by omega⟩)) rfl ?_ | refine VD.end rfl rfl rfl (OpV.pure (PureAt.quo (b := 128) rfl rfl (by decide) (IntWalk.i64_in _ ⟨by omega, by omega⟩)) rfl ?_))
  (refine w ?_; repeat ((first | refine VO.step rfl rfl ?_ | refine VD.end rfl rfl rfl ?_ | refine VD.mid rfl rfl rfl ?_); refine OpV.box rfl rfl rfl ?_; intro _; refine w ?_))
  (refine VE.done1 rfl ?_ ?_)
  · rw [hfl, Nat.mul_div_cancel _ (by decide)]
  · exact DocR.shut hk hf

/-- The tests ahead of a Read or a Write of the document's. -/
theorem docwrite_bad {W : World} {R : List SProp} {ao : Option Addr} {cap nb : Nat} (d : Nat) (k : DiskD) (at_ : Int) (h : k.may at_ ≠ 0) :
    Does1 W Tryz.prog 48 [.pointer (some ⟨d, 0, none⟩), .int .i64 at_, .slice ao nb cap] (DocR d k :: R) (.int .i64 (k.may at_)) (DocR d k :: R) := by
  (refine Does.enter Tryz.func48 Tryz.ntmps48 rfl rfl ?_)
  refine VC.obtain (fun w => DocR.open) ?_
  rintro ⟨⟨⟨lo, lc⟩, ⟨co, cc⟩, C⟩, hk, hf⟩
  have hfl := flat_len hk
  have hs := hk.size
  dsimp only [DocO]
  (refine w ?_; repeat ((first | refine VO.step rfl rfl ?_ | refine VD.end rfl rfl rfl ?_ | refine VD.mid rfl rfl rfl ?_); refine OpV.box rfl rfl rfl ?_; intro _; refine w ?_))
  (refine VC.cond rfl rfl ?_ ?_ <;> intro hc)
  · have hfa : k.failed = true := hc
    (refine w ?_; repeat ((first | refine VO.step rfl rfl ?_ | refine VD.end rfl rfl rfl ?_ | refine VD.mid rfl rfl rfl ?_); refine OpV.box rfl rfl rfl ?_; intro _; refine w ?_))
    (refine VE.done1 rfl ?_ ?_)
    · simp [DiskD.may, hfa]
    · exact DocR.shut hk hf
  have hfa : k.failed = false := hc
  (refine w ?_; repeat ((first | refine VO.step rfl rfl ?_ | refine VD.end rfl rfl rfl ?_ | refine VD.mid rfl rfl rfl ?_); refine OpV.box rfl rfl rfl ?_; intro _; refine w ?_))
  ((first | refine VO.split rfl rfl rfl ?_ ?_ | refine VD.split rfl rfl rfl ?_ ?_) <;> intro hb)
  · have h0 : at_ < 0 := by have := ‹decide (at_ < 0) = true›; exact of_decide_eq_true this
    (refine w ?_; repeat ((first | refine VO.step rfl rfl ?_ | refine VD.end rfl rfl rfl ?_ | refine VD.mid rfl rfl rfl ?_); refine OpV.box rfl rfl rfl ?_; intro _; refine w ?_))
    (refine VE.done1 rfl ?_ ?_)
    · simp [DiskD.may, hfa, h0]
    · exact DocR.shut hk hf
  have h0 : ¬ at_ < 0 := by have := ‹decide (at_ < 0) = false›; exact of_decide_eq_false this
  (refine w ?_; repeat ((first | refine VO.step rfl rfl ?_ | refine VD.end rfl rfl rfl ?_ | refine VD.mid rfl rfl rfl ?_); refine OpV.box rfl rfl rfl ?_; intro _; refine w ?_))
  (first | refine VO.pure rfl rfl (PureAt.quo (b := 128) rfl rfl (by decide) (IntWalk.i64_in _ ⟨by omega, by omega⟩)) rfl ?_ | refine VD.take rfl rfl rfl (PureAt.quo (b := 128) rfl rfl (by decide) (IntWalk.i64_in _ ⟨by omega, by omega⟩)) rfl ?_ | refine VQ.pure rfl rfl (PureAt.quo (b := 128) rfl rfl (by decide) (IntWalk.i64_in _ ⟨by omega, by omega⟩)) rfl ?_ | refine VD.end rfl rfl rfl (OpV.pure (PureAt.quo (b := 128) rfl rfl (by decide) (IntWalk.i64_in _ ⟨by omega, by omega⟩)) rfl ?_))
  (refine w ?_; repeat ((first | refine VO.step rfl rfl ?_ | refine VD.end rfl rfl rfl ?_ | refine VD.mid rfl rfl rfl ?_); refine OpV.box rfl rfl rfl ?_; intro _; refine w ?_))
  have hge : (k.last.length : Int) ≤ at_ := by
    unfold DiskD.may at h
    rw [hfa, if_neg (by simp)] at h
    split at h
    · rename_i q; omega
    · exact absurd rfl h
  (refine VC.condTe rfl rfl (by rw [hfl, Nat.mul_div_cancel _ (by decide)]; simpa using hge) ?_)
  (refine w ?_; repeat ((first | refine VO.step rfl rfl ?_ | refine VD.end rfl rfl rfl ?_ | refine VD.mid rfl rfl rfl ?_); refine OpV.box rfl rfl rfl ?_; intro _; refine w ?_))
  (refine VE.done1 rfl ?_ ?_)
  · simp [DiskD.may, hfa, hge]
  · exact DocR.shut hk hf

theorem docwrite_len {W : World} {R : List SProp} {ao : Option Addr} {cap nb : Nat} (d : Nat) (k : DiskD) (at_ : Int) (h : k.may at_ = 0) (hn : nb ≠ 128) :
    Does1 W Tryz.prog 48 [.pointer (some ⟨d, 0, none⟩), .int .i64 at_, .slice ao nb cap] (DocR d k :: R) (.int .i64 4) (DocR d k :: R) := by
  obtain ⟨hfa, h0, h1⟩ := may_zero h
  (refine Does.enter Tryz.func48 Tryz.ntmps48 rfl rfl ?_)
  refine VC.obtain (fun w => DocR.open) ?_
  rintro ⟨⟨⟨lo, lc⟩, ⟨co, cc⟩, C⟩, hk, hf⟩
  have hfl := flat_len hk
  have hs := hk.size
  dsimp only [DocO]
  (refine w ?_; repeat ((first | refine VO.step rfl rfl ?_ | refine VD.end rfl rfl rfl ?_ | refine VD.mid rfl rfl rfl ?_); refine OpV.box rfl rfl rfl ?_; intro _; refine w ?_))
  (refine VC.condFe rfl rfl (hfa) ?_)
  (refine w ?_; repeat ((first | refine VO.step rfl rfl ?_ | refine VD.end rfl rfl rfl ?_ | refine VD.mid rfl rfl rfl ?_); refine OpV.box rfl rfl rfl ?_; intro _; refine w ?_))
  (first | refine VO.gF rfl rfl rfl (by simp; omega) ?_ | refine VD.gF rfl rfl rfl (by simp; omega) ?_)
  (refine w ?_; repeat ((first | refine VO.step rfl rfl ?_ | refine VD.end rfl rfl rfl ?_ | refine VD.mid rfl rfl rfl ?_); refine OpV.box rfl rfl rfl ?_; intro _; refine w ?_))
  (first | refine VO.pure rfl rfl (PureAt.quo (b := 128) rfl rfl (by decide) (IntWalk.i64_in _ ⟨by omega, by omega⟩)) rfl ?_ | refine VD.take rfl rfl rfl (PureAt.quo (b := 128) rfl rfl (by decide) (IntWalk.i64_in _ ⟨by omega, by omega⟩)) rfl ?_ | refine VQ.pure rfl rfl (PureAt.quo (b := 128) rfl rfl (by decide) (IntWalk.i64_in _ ⟨by omega, by omega⟩)) rfl ?_ | refine VD.end rfl rfl rfl (OpV.pure (PureAt.quo (b := 128) rfl rfl (by decide) (IntWalk.i64_in _ ⟨by omega, by omega⟩)) rfl ?_))
  (refine w ?_; repeat ((first | refine VO.step rfl rfl ?_ | refine VD.end rfl rfl rfl ?_ | refine VD.mid rfl rfl rfl ?_); refine OpV.box rfl rfl rfl ?_; intro _; refine w ?_))
  (refine VC.condFe rfl rfl (by rw [hfl, Nat.mul_div_cancel _ (by decide)]; simp; omega) ?_)
  (refine w ?_; repeat ((first | refine VO.step rfl rfl ?_ | refine VD.end rfl rfl rfl ?_ | refine VD.mid rfl rfl rfl ?_); refine OpV.box rfl rfl rfl ?_; intro _; refine w ?_))
  (refine VC.condTe rfl rfl (by simp; omega) ?_)
  (refine w ?_; repeat ((first | refine VO.step rfl rfl ?_ | refine VD.end rfl rfl rfl ?_ | refine VD.mid rfl rfl rfl ?_); refine OpV.box rfl rfl rfl ?_; intro _; refine w ?_))
  (refine VE.done1 rfl ?_ ?_)
  · rfl
  · exact DocR.shut hk hf

end Go.Proofs.YtpmmkmcbimnigaaGreat

/-! Text Re. -/
/- The document's disk: Fail, Image, Pending. -/
set_option maxRecDepth 8000
set_option linter.unusedVariables false
set_option linter.unusedSimpArgs false
set_option linter.unusedSectionVars false
namespace Go.Proofs.YtpmmkmcbimnigaaGreat
open Go.RowKit Go.Sl
attribute [local irreducible] Own

theorem Ent.dropMid {W : World} {R : List SProp} : ∀ X : List SProp, Ent W (X ++ R) R
  | [] => Ent.refl
  | _ :: r => Ent.drop (Ent.dropMid r)

theorem docfail_ok {W : World} {R : List SProp} (d : Nat) (k : DiskD) :
    Does1 W Tryz.prog 41 [.pointer (some ⟨d, 0, none⟩)] (DocR d k :: R) (.tuple #[]) (DocR d ⟨k.last, [], true⟩ :: R) := by
  (refine Does.enter Tryz.func41 Tryz.ntmps41 rfl rfl ?_)
  refine VC.obtain (fun w => DocR.open) ?_
  rintro ⟨⟨⟨lo, lc⟩, ⟨co, cc⟩, C⟩, hk, hf⟩
  dsimp only [DocO]
  (refine w ?_; repeat ((first | refine VO.step rfl rfl ?_ | refine VD.end rfl rfl rfl ?_ | refine VD.mid rfl rfl rfl ?_); refine OpV.box rfl rfl rfl ?_; intro _; refine w ?_))
  (refine VE.done1N rfl ?_ ?_)
  · rfl
  · have := DocR.shut (W := W) (R := R) (d := d) (k := ⟨k.last, [], true⟩) (lo := lo) (lc := lc) (co := none) (cc := 0) (C := []) ⟨hk.last, fun c hc => absurd hc (by simp), hk.size⟩ rfl
    refine Ent.trans (fun w hw => ?_) this
    simp only [DocO, wcs, List.flatMap_nil, List.map_nil, List.nil_append, List.length_nil]
    have h1 : Holds W (Row d 140 [.slice lo k.last.flatten.length lc, .slice none 0 0, .bool true] :: Own 5 1 (.slice lo k.last.flatten.length lc) k.last.flatten.length (bytes k.last.flatten) :: Own 146 2 (.slice co C.length cc) C.length (wcs C) :: (C.map (fun c => c.2.res) ++ R)) w := hw
    have h2 := h1.ownNil 146 2
    have p1 : ∀ (A B D F : SProp) (X : List SProp), Holds W (A :: B :: D :: F :: (X ++ R)) w → Holds W (B :: D :: A :: R) w := fun A B D F X h => by
      have q : (A :: B :: D :: F :: (X ++ R)).Perm ((F :: X) ++ (B :: D :: A :: R)) := by
        refine ((List.perm_middle (l₁ := [A, B, D]) (a := F) (l₂ := X ++ R))).trans ?_
        refine List.Perm.cons _ ?_
        refine List.Perm.trans ?_ (List.perm_append_comm_assoc X [B, D, A] R).symm
        exact List.Perm.append_right (X ++ R) (((List.Perm.swap B A [D])).trans (List.Perm.cons B (List.Perm.swap D A [])))
      exact Ent.dropMid (F :: X) w (h.perm q)
    exact p1 _ _ _ _ _ h2

theorem docimage_bad {W : World} {R : List SProp} (d : Nat) (k : DiskD) (hfa : k.failed = true) :
    Does1 W Tryz.prog 96 [.pointer (some ⟨d, 0, none⟩)] (DocR d k :: R) (.slice none 0 0) (DocR d k :: R) := by
  (refine Does.enter Tryz.func96 Tryz.ntmps96 rfl rfl ?_)
  refine VC.obtain (fun w => DocR.open) ?_
  rintro ⟨⟨⟨lo, lc⟩, ⟨co, cc⟩, C⟩, hk, hf⟩
  dsimp only [DocO]
  (refine w ?_; repeat ((first | refine VO.step rfl rfl ?_ | refine VD.end rfl rfl rfl ?_ | refine VD.mid rfl rfl rfl ?_); refine OpV.box rfl rfl rfl ?_; intro _; refine w ?_))
  (refine VC.condTe rfl rfl (hfa) ?_)
  (refine w ?_; repeat ((first | refine VO.step rfl rfl ?_ | refine VD.end rfl rfl rfl ?_ | refine VD.mid rfl rfl rfl ?_); refine OpV.box rfl rfl rfl ?_; intro _; refine w ?_))
  (refine VE.done1 rfl ?_ ?_)
  · rfl
  · exact DocR.shut hk hf
theorem docimage_ok {W : World} {R : List SProp} (d : Nat) (k : DiskD) (hfa : k.failed = false) :
    Does W Tryz.prog 96 [.pointer (some ⟨d, 0, none⟩)] (DocR d k :: R) (β := Option Addr × Nat) (fun _ => True) (fun x => .slice x.1 k.last.flatten.length x.2)
      (fun x => Own 5 1 (.slice x.1 k.last.flatten.length x.2) k.last.flatten.length (bytes k.last.flatten) :: DocR d k :: R) := by
  (refine Does.enter Tryz.func96 Tryz.ntmps96 rfl rfl ?_)
  refine VC.obtain (fun w => DocR.open) ?_
  rintro ⟨⟨⟨lo, lc⟩, ⟨co, cc⟩, C⟩, hk, hf⟩
  have hfl := flat_len hk
  have hs := hk.size
  dsimp only [DocO]
  refine VC.know (p := lo = none → k.last.flatten.length = 0) (fun w hw => Holds.ownNone hw (.tail _ (.head _))) ?_
  intro hln
  (refine w ?_; repeat ((first | refine VO.step rfl rfl ?_ | refine VD.end rfl rfl rfl ?_ | refine VD.mid rfl rfl rfl ?_); refine OpV.box rfl rfl rfl ?_; intro _; refine w ?_))
  (refine VC.condFe rfl rfl (hfa) ?_)
  (refine w ?_; repeat ((first | refine VO.step rfl rfl ?_ | refine VD.end rfl rfl rfl ?_ | refine VD.mid rfl rfl rfl ?_); refine OpV.box rfl rfl rfl ?_; intro _; refine w ?_))
  refine VO.ent (H' := Own 5 1 (.slice none 0 0) 0 [] :: DocO d k lo lc co cc C R) (fun w hw => hw.ownNil _ _) ?_
  dsimp only [DocO]
  (first | refine VO.step rfl rfl ?_ | refine VD.end rfl rfl rfl ?_ | refine VD.mid rfl rfl rfl ?_)
  refine OpV.append st_22 rfl rfl .head (fun w hw => ((Rds.own (bytes_one k.last.flatten) (.tail _ (.tail _ (.head _))) (by rw [bytes_length, Nat.mul_one]) hln).sees hw).src st_22.und) (by simp only [maxLen]; omega) (by omega) rfl ?_
  intro ao' cap'
  simp only [Nat.zero_add, List.nil_append]
  (refine w ?_; repeat ((first | refine VO.step rfl rfl ?_ | refine VD.end rfl rfl rfl ?_ | refine VD.mid rfl rfl rfl ?_); refine OpV.box rfl rfl rfl ?_; intro _; refine w ?_))
  refine VE.done (ao', cap') rfl trivial rfl ?_
  intro w hw
  exact (DocR.shut (R := Own 5 1 (.slice ao' k.last.flatten.length cap') k.last.flatten.length (bytes k.last.flatten) :: R) hk hf w (hw.perm (List.perm_middle (l₁ := _ :: _ :: _ :: C.map (fun c => c.2.res))).symm)).swap
end Go.Proofs.YtpmmkmcbimnigaaGreat

/-! Text Rf. -/
/- The document's disk: Pending, Read, lasts, Flush, Crash. -/
set_option maxRecDepth 8000
set_option linter.unusedVariables false
set_option linter.unusedSimpArgs false
set_option linter.unusedSectionVars false
namespace Go.Proofs.YtpmmkmcbimnigaaGreat
open Go.RowKit Go.Sl
attribute [local irreducible] Own

theorem wcs_get : ∀ (C : List (Nat × ListE)) (i : Nat) (h : i < C.length), (wcs C)[i * 2 + 0]? = some (.int .i64 (C[i].1 : Int)) ∧ (wcs C)[i * 2 + 1]? = some C[i].2.hdr
  | c :: r, 0, _ => ⟨rfl, rfl⟩
  | c :: r, i + 1, h => by
    have := wcs_get r i (by simpa using h)
    have e : wcs (c :: r) = [.int .i64 (c.1 : Int), c.2.hdr] ++ wcs r := rfl
    rw [e, List.getElem?_append_right (by simp; omega), List.getElem?_append_right (by simp; omega)]
    simpa [show (i + 1) * 2 + 1 - 2 = i * 2 + 1 by omega, show (i + 1) * 2 - 2 = i * 2 by omega] using this
theorem wcs_length (C : List (Nat × ListE)) : (wcs C).length = C.length * 2 := by
  induction C with
  | nil => rfl
  | cons c r ih =>
    have e : wcs (c :: r) = [.int .i64 (c.1 : Int), c.2.hdr] ++ wcs r := rfl
    rw [e, List.length_append, ih, List.length_cons]; simp only [List.length_cons, List.length_nil]; omega
theorem wcs_one (C : List (Nat × ListE)) : ∀ u ∈ wcs C, u.oneCell' = true := by
  intro u hu
  obtain ⟨c, _, h⟩ := List.mem_flatMap.1 hu
  simp only [List.mem_cons, List.not_mem_nil, or_false] at h
  rcases h with h | h <;> subst h <;> rfl
theorem fits_get {k : DiskD} {C : List (Nat × ListE)} (hf : Fits k C) : C.length = k.cache.length ∧ ∀ i (h : i < C.length) (h2 : i < k.cache.length), C[i].1 = k.cache[i].1 ∧ C[i].2.xs = bytes k.cache[i].2 := by
  have hl : C.length = k.cache.length := by have := congrArg List.length hf; simpa using this
  refine ⟨hl, fun i h h2 => ?_⟩
  have := congrArg (·[i]?) hf
  simpa [h, h2] using this
theorem C_none {W w : World} {H : List SProp} {C : List (Nat × ListE)} (hw : Holds W H w) (hm : ∀ c ∈ C, c.2.res ∈ H) : ∀ c ∈ C, c.2.ao = none → c.2.xs.length = 0 := fun c hc => hw.ownNone (hm c hc)
theorem C_rds {W : World} {H : List SProp} {C : List (Nat × ListE)} (hm : ∀ c ∈ C, c.2.res ∈ H) (hn : ∀ c ∈ C, c.2.ao = none → c.2.xs.length = 0) {c : Nat × ListE} (hc : c ∈ C) {b : List UInt8} (hx : c.2.xs = bytes b) (hb : b.length = 128) : Rds W H 1 c.2.ao 128 (bytes b) := by
  have hl : c.2.xs.length = 128 := by rw [hx, bytes_length, hb]
  have h1 := hm c hc
  unfold ListE.res at h1
  rw [hl, hx] at h1
  exact Rds.own (bytes_one _) h1 (by rw [bytes_length, hb]) (fun h => by have := hn c hc h; omega)

set_option maxHeartbeats 1000000 in
theorem docpending_ok {W : World} {R : List SProp} (d : Nat) (k : DiskD) (hcl : k.cache.length ≤ 1000000000) :
    Does W Tryz.prog 58 [.pointer (some ⟨d, 0, none⟩)] (DocR d k :: R) (β := Option Addr × Nat) (fun _ => True) (fun x => .slice x.1 k.cache.length x.2)
      (fun x => Own 3 1 (.slice x.1 k.cache.length x.2) k.cache.length (ints (k.cache.map (·.1))) :: DocR d k :: R) := by
  (refine Does.enter Tryz.func58 Tryz.ntmps58 rfl rfl ?_)
  refine VC.obtain (fun w => DocR.open) ?_
  rintro ⟨⟨⟨lo, lc⟩, ⟨co, cc⟩, C⟩, hk, hf⟩
  have hf : Fits k C := hf
  obtain ⟨hCl, hCg⟩ := fits_get hf
  dsimp only [DocO]
  refine VC.know (p := co = none → C.length = 0) (fun w hw => Holds.ownNone hw (.tail _ (.tail _ (.head _)))) ?_
  intro hcn
  (refine w ?_; repeat ((first | refine VO.step rfl rfl ?_ | refine VD.end rfl rfl rfl ?_ | refine VD.mid rfl rfl rfl ?_); refine OpV.box rfl rfl rfl ?_; intro _; refine w ?_))
  refine VC.loop (α := Nat × Option Addr × Nat) (fun g => g.1 ≤ C.length)
    (fun g => Own 3 1 (.slice g.2.1 g.1 g.2.2) g.1 (ints ((k.cache.take g.1).map (·.1))) :: DocO d k lo lc co cc C R)
    (fun g => [(0, .pointer (some ⟨d, 0, none⟩)), (3, .slice g.2.1 g.1 g.2.2), (4, .int .i64 g.1)]) (fun g => C.length - g.1) rfl (0, none, 0) (Nat.zero_le _) (fun w hw => hw.ownNil _ _) ⟨rfl, rfl, rfl, trivial⟩ ?_
  rintro ⟨i, ao, cap⟩ hi
  have hi : i ≤ C.length := hi
  dsimp only [DocO]
  (refine w ?_; repeat ((first | refine VO.step rfl rfl ?_ | refine VD.end rfl rfl rfl ?_ | refine VD.mid rfl rfl rfl ?_); refine OpV.box rfl rfl rfl ?_; intro _; refine w ?_))
  (refine VC.cond rfl rfl ?_ ?_ <;> intro hc)
  · have hlt : i < C.length := by have := of_decide_eq_true hc; omega
    have hlt2 : i < k.cache.length := by omega
    obtain ⟨a, rfl⟩ : ∃ a, co = some a := by cases co with | none => have := hcn rfl; omega | some a => exact ⟨a, rfl⟩
    have e : ints ((k.cache.take i).map (·.1)) ++ [.int .i64 (C[i].1 : Int)] = ints ((k.cache.take (i + 1)).map (·.1)) := by
      rw [List.take_succ_eq_append_getElem hlt2, List.map_append, (hCg i hlt hlt2).1]; simp only [ints, List.map_append]; rfl
    (refine w ?_; repeat ((first | refine VO.step rfl rfl ?_ | refine VD.end rfl rfl rfl ?_ | refine VD.mid rfl rfl rfl ?_); refine OpV.box rfl rfl rfl ?_; intro _; refine w ?_))
    (first | refine VO.pure rfl rfl (PureAt.ldRc tab_ok rfl rfl (Rds.own (wcs_one C) (.tail _ (.tail _ (.tail _ (.head _)))) (wcs_length C) hcn) (wcs_get C i hlt).1) rfl ?_ | refine VD.take rfl rfl rfl (PureAt.ldRc tab_ok rfl rfl (Rds.own (wcs_one C) (.tail _ (.tail _ (.tail _ (.head _)))) (wcs_length C) hcn) (wcs_get C i hlt).1) rfl ?_ | refine VQ.pure rfl rfl (PureAt.ldRc tab_ok rfl rfl (Rds.own (wcs_one C) (.tail _ (.tail _ (.tail _ (.head _)))) (wcs_length C) hcn) (wcs_get C i hlt).1) rfl ?_ | refine VD.end rfl rfl rfl (OpV.pure (PureAt.ldRc tab_ok rfl rfl (Rds.own (wcs_one C) (.tail _ (.tail _ (.tail _ (.head _)))) (wcs_length C) hcn) (wcs_get C i hlt).1) rfl ?_))
    (refine w ?_; repeat ((first | refine VO.step rfl rfl ?_ | refine VD.end rfl rfl rfl ?_ | refine VD.mid rfl rfl rfl ?_); refine OpV.box rfl rfl rfl ?_; intro _; refine w ?_))
    ((first | refine VO.step rfl rfl ?_ | refine VD.end rfl rfl rfl ?_ | refine VD.mid rfl rfl rfl ?_); refine OpV.buildSlice1 st_24 rfl rfl (by first | (simp; done) | simp [Value.oneCell']) (by decide) rfl ?_; intro nb)
    ((first | refine VO.step rfl rfl ?_ | refine VD.end rfl rfl rfl ?_ | refine VD.mid rfl rfl rfl ?_); refine OpV.appendRow st_24 rfl rfl (by (repeat first | exact .head | apply Hole.tail)) (by (focus repeat first | exact .head _ | apply List.Mem.tail)) rfl (by first | (simp; done) | simp [Value.oneCell']) ?_ ?_ rfl ?_)
    · simp only [maxLen]; omega
    · omega
    intro ao' cap'
    rw [e]
    (refine w ?_; repeat ((first | refine VO.step rfl rfl ?_ | refine VD.end rfl rfl rfl ?_ | refine VD.mid rfl rfl rfl ?_); refine OpV.box rfl rfl rfl ?_; intro _; refine w ?_))
    exact VE.round (i + 1, ao', cap') hlt (by simp only; omega) ⟨rfl, rfl, rfl, trivial⟩ (fun w hw => hw.tail)
  · have hge : i = C.length := by have := of_decide_eq_false hc; omega
    subst hge
    rw [List.take_of_length_le (Nat.le_of_eq hCl.symm), hCl]
    (refine w ?_; repeat ((first | refine VO.step rfl rfl ?_ | refine VD.end rfl rfl rfl ?_ | refine VD.mid rfl rfl rfl ?_); refine OpV.box rfl rfl rfl ?_; intro _; refine w ?_))
    refine VE.done (ao, cap) rfl trivial rfl ?_
    intro w hw
    rw [← hCl] at hw ⊢
    exact (DocR.shut (R := Own 3 1 (.slice ao C.length cap) C.length (ints (k.cache.map (·.1))) :: R) hk hf w (hw.perm (List.perm_middle (l₁ := _ :: _ :: _ :: C.map (fun c => c.2.res))).symm)).swap

end Go.Proofs.YtpmmkmcbimnigaaGreat

/-! Text Rg. -/
/- The document's disk: lasts, Flush, Crash. -/
set_option maxRecDepth 8000
set_option linter.unusedVariables false
set_option linter.unusedSimpArgs false
set_option linter.unusedSectionVars false
namespace Go.Proofs.YtpmmkmcbimnigaaGreat
open Go.RowKit Go.Sl
attribute [local irreducible] Own

def laidIn (l b : List UInt8) (a : Nat) : List UInt8 := l.take (a * 128) ++ b ++ l.drop (a * 128 + 128)
theorem laidIn_flat {l : List (List UInt8)} (h8 : ∀ b ∈ l, b.length = 128) (b : List UInt8) (a : Nat) (ha : a < l.length) : laidIn l.flatten b a = (l.set a b).flatten := by
  have := flat_set (g := fun x : List UInt8 => x) (w := 128) b l a ha h8
  simp only [List.flatMap_id'] at this
  exact this

set_option maxHeartbeats 2000000 in
theorem doclasts_ok {W : World} {R : List SProp} {cv fv : Value} {lo ao : Option Addr} {lc cap : Nat} {l b : List UInt8} (d a n : Nat) (hl : l.length = n) (ha : a * 128 + 128 ≤ n) (hn : n ≤ 1048576) (hb : b.length = 128) (hr : Rds W R 1 ao 128 (bytes b)) :
    Does W Tryz.prog 90 [.pointer (some ⟨d, 0, none⟩), .agg #[.int .i64 a, .slice ao 128 cap]]
      (Row d 140 [.slice lo n lc, cv, fv] :: Own 5 1 (.slice lo n lc) n (bytes l) :: R) (β := Option Addr × Nat) (fun _ => True) (fun _ => .tuple #[])
      (fun x => Row d 140 [.slice x.1 n x.2, cv, fv] :: Own 5 1 (.slice x.1 n x.2) n (bytes (laidIn l b a)) :: R) := by
  (refine Does.enter Tryz.func90 Tryz.ntmps90 rfl rfl ?_)
  refine VC.know (p := lo = none → n = 0) (fun w hw => Holds.ownNone hw (.tail _ (.head _))) ?_
  intro hln
  refine VC.know (p := n ≤ lc) (fun w hw => Holds.ownCap hw (.tail _ (.head _))) ?_
  intro hlc
  have hrl : ∀ H : List SProp, Own 5 1 (.slice lo n lc) n (bytes l) ∈ H → Rds W H 1 lo n (bytes l) := fun H hm => Rds.own (bytes_one _) hm (by rw [bytes_length, Nat.mul_one, hl]) hln
  (refine w ?_; repeat ((first | refine VO.step rfl rfl ?_ | refine VD.end rfl rfl rfl ?_ | refine VD.mid rfl rfl rfl ?_); refine OpV.box rfl rfl rfl ?_; intro _; refine w ?_))
  rename_i nb
  refine VC.ent (H' := Own 5 1 (.slice none 0 0) 0 [] :: Row nb 146 [.int .i64 a, .slice ao 128 cap] :: Row d 140 [.slice lo n lc, cv, fv] :: Own 5 1 (.slice lo n lc) n (bytes l) :: R) (fun w hw => hw.ownNil _ _) ?_
  (refine VC.drawn [] 9 [0, 1, 2, 3, 4, 5, 6, 7, 8, 9, 10] _ rfl (by kernel_rfl) (by kernel_rfl) Ent.re ?_)
  (refine w ?_; repeat ((first | refine VO.step rfl rfl ?_ | refine VD.end rfl rfl rfl ?_ | refine VD.mid rfl rfl rfl ?_); refine OpV.box rfl rfl rfl ?_; intro _; refine w ?_))
  refine VD.re 12 (.int .i64 ((a * 128 : Nat) : Int)) rfl (by rw [Int.mul_comm]; congr 1) ?_
  (refine w ?_; repeat ((first | refine VO.step rfl rfl ?_ | refine VD.end rfl rfl rfl ?_ | refine VD.mid rfl rfl rfl ?_); refine OpV.box rfl rfl rfl ?_; intro _; refine w ?_))
  (first | refine VO.step rfl rfl ?_ | refine VD.end rfl rfl rfl ?_ | refine VD.mid rfl rfl rfl ?_)
  refine OpV.append st_22 rfl rfl .head (fun w hw => ((Rds.take (l := a * 128) (hrl _ (.tail _ (.tail _ (.tail _ (.head _))))) (by omega)).sees (cap := lc) hw).src st_22.und) (by simp only [maxLen]; omega) (by omega) rfl ?_
  intro b1 c1
  simp only [Nat.zero_add, List.nil_append, Nat.mul_one]
  (refine w ?_; repeat ((first | refine VO.step rfl rfl ?_ | refine VD.end rfl rfl rfl ?_ | refine VD.mid rfl rfl rfl ?_); refine OpV.box rfl rfl rfl ?_; intro _; refine w ?_))
  (first | refine VO.step rfl rfl ?_ | refine VD.end rfl rfl rfl ?_ | refine VD.mid rfl rfl rfl ?_)
  refine OpV.append st_22 rfl rfl .head (fun w hw => ((hr.ent (Ent.drop (Ent.drop (Ent.drop (Ent.drop Ent.refl))))).sees (cap := cap) hw).src st_22.und) (by simp only [maxLen]; omega) (by omega) rfl ?_
  intro b2 c2
  (refine w ?_; repeat ((first | refine VO.step rfl rfl ?_ | refine VD.end rfl rfl rfl ?_ | refine VD.mid rfl rfl rfl ?_); refine OpV.box rfl rfl rfl ?_; intro _; refine w ?_))
  (refine VC.drawn [11] 12 [0, 1, 2, 3, 4, 5, 6, 7, 8, 9, 10, 11, 12, 13, 14] (Row nb 146 [.int .i64 a, .slice ao 128 cap] :: Row d 140 [.slice lo n lc, cv, fv] :: Own 5 1 (.slice lo n lc) n (bytes l) :: R) rfl (by kernel_rfl) (by kernel_rfl) Ent.re ?_)
  (refine w ?_; repeat ((first | refine VO.step rfl rfl ?_ | refine VD.end rfl rfl rfl ?_ | refine VD.mid rfl rfl rfl ?_); refine OpV.box rfl rfl rfl ?_; intro _; refine w ?_))
  refine VD.re 28 (.int .i64 ((a * 128 + 128 : Nat) : Int)) rfl (by rw [Int.mul_comm]; congr 1) ?_
  (refine w ?_; repeat ((first | refine VO.step rfl rfl ?_ | refine VD.end rfl rfl rfl ?_ | refine VD.mid rfl rfl rfl ?_); refine OpV.box rfl rfl rfl ?_; intro _; refine w ?_))
  have hsub : ∀ H : List SProp, Own 5 1 (.slice lo n lc) n (bytes l) ∈ H → Rds W H 1 (subA lo lc (a * 128 + 128) 1) (n - (a * 128 + 128)) (bytes (l.drop (a * 128 + 128))) := by
    intro H hm
    have := (hrl H hm).sub (l := a * 128 + 128) ha (Nat.le_refl _) hlc
    simp only [Nat.mul_one] at this
    rwa [List.take_of_length_le (by simp only [List.length_drop, bytes_length]; omega), show (bytes l).drop (a * 128 + 128) = bytes (l.drop (a * 128 + 128)) by unfold bytes; rw [List.map_drop]] at this
  (first | refine VO.step rfl rfl ?_ | refine VD.end rfl rfl rfl ?_ | refine VD.mid rfl rfl rfl ?_)
  refine OpV.append st_22 rfl rfl .head (fun w hw => ((hsub _ (.tail _ (.tail _ (.tail _ (.head _))))).sees (cap := lc - (a * 128 + 128)) hw).src st_22.und) (by simp only [maxLen]; omega) (by omega) rfl ?_
  intro b3 c3
  refine ⟨Ent.drop Ent.refl, ?_⟩
  refine VD.re 30 (.slice b3 n c3) rfl (by congr 1; omega) ?_
  (refine w ?_; repeat ((first | refine VO.step rfl rfl ?_ | refine VD.end rfl rfl rfl ?_ | refine VD.mid rfl rfl rfl ?_); refine OpV.box rfl rfl rfl ?_; intro _; refine w ?_))
  refine VE.doneN (b3, c3) rfl trivial rfl ?_
  have e1 : a * 128 + 128 + (n - (a * 128 + 128)) = n := by omega
  have e2 : (bytes l).take (a * 128) ++ bytes b ++ bytes (l.drop (a * 128 + 128)) = bytes (laidIn l b a) := by
    unfold laidIn bytes; simp only [List.map_append, List.map_take]
  rw [e1, e2]
  exact fun w hw => (hw.reord (by (repeat first | exact .refl | (apply Reord.cons; focus repeat first | exact .head | apply Del.tail) | exact .nil | apply Reord.drop)))

/-- The cache is gone. -/
theorem DocR.empty {W : World} {R : List SProp} {d : Nat} {k : DiskD} {lo co : Option Addr} {lc cc cc2 n : Nat} {cs : List Value} {l : List UInt8} (X : List SProp) (hk : k.ok) (hc : k.cache = []) (hl : k.last.flatten = l) (hn : l.length = n) :
    Ent W (Row d 140 [.slice lo n lc, .slice none 0 0, .bool k.failed] :: Own 5 1 (.slice lo n lc) n (bytes l) :: Own 146 2 (.slice co cc cc2) cc cs :: (X ++ R)) (DocR d k :: R) := by
  intro w hw
  subst hl
  subst hn
  refine DocR.shut (C := []) (lo := lo) (lc := lc) (co := none) (cc := 0) hk (by unfold Fits; rw [hc]; rfl) w ?_
  simp only [DocO, wcs, List.flatMap_nil, List.map_nil, List.nil_append, List.length_nil]
  have h1 := Ent.dropMid (Own 146 2 (.slice co cc cc2) cc cs :: X) w (hw.perm (List.perm_append_comm_assoc [_, _] (_ :: X) R))
  exact (h1.ownNil 146 2).reord (by (repeat first | exact .refl | (apply Reord.cons; focus repeat first | exact .head | apply Del.tail) | exact .nil | apply Reord.drop))

theorem wcs_part {C : List (Nat × ListE)} (i : Nat) (h : i < C.length) (hl : C[i].2.xs.length = 128) : ((wcs C).drop (i * 2)).take 2 = [.int .i64 (C[i].1 : Int), .slice C[i].2.ao 128 C[i].2.cap] := by
  have := flat_part (g := fun c : Nat × ListE => [.int .i64 (c.1 : Int), c.2.hdr]) (w := 2) C i h (fun _ _ => rfl)
  unfold wcs
  rw [this]
  unfold ListE.hdr
  rw [hl]
theorem sets_next {k : DiskD} {keep : Nat → Bool} (i : Nat) (h : i < k.cache.length) : sets keep k.last 0 (k.cache.take (i + 1)) = if keep i = true then (sets keep k.last 0 (k.cache.take i)).set k.cache[i].1 k.cache[i].2 else sets keep k.last 0 (k.cache.take i) := by
  rw [List.take_succ_eq_append_getElem h, sets_snoc, List.length_take, Nat.zero_add, Nat.min_eq_left (by omega)]
theorem sets_flat_len {k : DiskD} (hk : k.ok) (keep : Nat → Bool) (i : Nat) : (sets keep k.last 0 (k.cache.take i)).flatten.length = k.last.flatten.length ∧ ∀ b ∈ sets keep k.last 0 (k.cache.take i), b.length = 128 := by
  have h8 := sets_128 keep (k.cache.take i) k.last 0 hk.last (fun c h => (hk.cache c (List.mem_of_mem_take h)).2)
  refine ⟨?_, h8⟩
  have h1 := flat_length (g := fun x : List UInt8 => x) (w := 128) _ h8
  have h2 := flat_length (g := fun x : List UInt8 => x) (w := 128) _ hk.last
  simp only [List.flatMap_id'] at h1 h2
  rw [h1, h2, sets_length]

set_option maxHeartbeats 2000000 in
theorem docflush_ok {W : World} {R : List SProp} (d : Nat) (k : DiskD) (hfa : k.failed = false) (hcl : k.cache.length ≤ 1000000000) :
    Does1 W Tryz.prog 37 [.pointer (some ⟨d, 0, none⟩)] (DocR d k :: R) (.int .i64 0) (DocR d (k.settle fun _ => true) :: R) := by
  (refine Does.enter Tryz.func37 Tryz.ntmps37 rfl rfl ?_)
  refine VC.obtain (fun w => DocR.open) ?_
  rintro ⟨⟨⟨lo, lc⟩, ⟨co, cc⟩, C⟩, hk, hf⟩
  have hf : Fits k C := hf
  have hfl := flat_len hk
  have hs := hk.size
  obtain ⟨hCl, hCg⟩ := fits_get hf
  refine VC.know (p := co = none → C.length = 0) (fun w hw => Holds.ownNone hw (.tail _ (.tail _ (.head _)))) ?_
  intro hcn
  refine VC.know (p := ∀ c ∈ C, c.2.ao = none → c.2.xs.length = 0) (fun w hw => C_none hw (fun c hc => .tail _ (.tail _ (.tail _ (List.mem_append_left _ (List.mem_map.2 ⟨c, hc, rfl⟩)))))) ?_
  intro hnn
  have hsl := sets_flat_len hk (fun _ => true)
  dsimp only [DocO]
  generalize hn : k.last.flatten.length = n at *
  (refine w ?_; repeat ((first | refine VO.step rfl rfl ?_ | refine VD.end rfl rfl rfl ?_ | refine VD.mid rfl rfl rfl ?_); refine OpV.box rfl rfl rfl ?_; intro _; refine w ?_))
  (refine VC.condFe rfl rfl (hfa) ?_)
  (refine w ?_; repeat ((first | refine VO.step rfl rfl ?_ | refine VD.end rfl rfl rfl ?_ | refine VD.mid rfl rfl rfl ?_); refine OpV.box rfl rfl rfl ?_; intro _; refine w ?_))
  refine VC.loop (α := Nat × Option Addr × Nat) (fun g => g.1 ≤ C.length)
    (fun g => Row d 140 [.slice g.2.1 n g.2.2, .slice co C.length cc, .bool k.failed] :: Own 5 1 (.slice g.2.1 n g.2.2) n (bytes (sets (fun _ => true) k.last 0 (k.cache.take g.1)).flatten) :: Own 146 2 (.slice co C.length cc) C.length (wcs C) :: (C.map (fun c => c.2.res) ++ R))
    (fun g => [(0, .pointer (some ⟨d, 0, none⟩)), (3, .int .i64 g.1)]) (fun g => C.length - g.1) rfl (0, lo, lc) (Nat.zero_le _) Ent.refl ⟨rfl, rfl, trivial⟩ ?_
  rintro ⟨i, ao, cap⟩ hi
  have hi : i ≤ C.length := hi
  dsimp only
  (refine w ?_; repeat ((first | refine VO.step rfl rfl ?_ | refine VD.end rfl rfl rfl ?_ | refine VD.mid rfl rfl rfl ?_); refine OpV.box rfl rfl rfl ?_; intro _; refine w ?_))
  (refine VC.cond rfl rfl ?_ ?_ <;> intro hc)
  · have hlt : i < C.length := by have := of_decide_eq_true hc; omega
    have hlt2 : i < k.cache.length := by omega
    obtain ⟨c, rfl⟩ : ∃ c, co = some c := by cases co with | none => have := hcn rfl; omega | some c => exact ⟨c, rfl⟩
    have hg := hCg i hlt hlt2
    obtain ⟨hx1, hx2⟩ := hk.cache _ (List.getElem_mem hlt2)
    have hxl : C[i].2.xs.length = 128 := by rw [hg.2, bytes_length, hx2]
    (refine w ?_; repeat ((first | refine VO.step rfl rfl ?_ | refine VD.end rfl rfl rfl ?_ | refine VD.mid rfl rfl rfl ?_); refine OpV.box rfl rfl rfl ?_; intro _; refine w ?_))
    (first | refine VO.pure rfl rfl (.ldRA tab_ok rfl rfl (Rds.own (wcs_one C) (.tail _ (.tail _ (.head _))) (wcs_length C) hcn) (wcs_part i hlt hxl) rfl) rfl ?_ | refine VD.take rfl rfl rfl (.ldRA tab_ok rfl rfl (Rds.own (wcs_one C) (.tail _ (.tail _ (.head _))) (wcs_length C) hcn) (wcs_part i hlt hxl) rfl) rfl ?_ | refine VQ.pure rfl rfl (.ldRA tab_ok rfl rfl (Rds.own (wcs_one C) (.tail _ (.tail _ (.head _))) (wcs_length C) hcn) (wcs_part i hlt hxl) rfl) rfl ?_ | refine VD.end rfl rfl rfl (OpV.pure (.ldRA tab_ok rfl rfl (Rds.own (wcs_one C) (.tail _ (.tail _ (.head _))) (wcs_length C) hcn) (wcs_part i hlt hxl) rfl) rfl ?_))
    have hslen := sets_length (fun _ => true) (k.cache.take i) k.last 0
    ((first | refine VO.step rfl rfl ?_ | refine VD.end rfl rfl rfl ?_ | refine VD.mid rfl rfl rfl ?_); refine OpV.call rfl rfl (fun _ _ => by simp) (doclasts_ok d C[i].1 n (hsl i).1 (by rw [hg.1]; omega) (by omega) hx2 (C_rds (fun c hc => .tail _ (List.mem_append_left _ (List.mem_map.2 ⟨c, hc, rfl⟩))) hnn (List.getElem_mem hlt) hg.2 hx2)) Ent.refl rfl ?_)
    rintro ⟨lo2, lc2⟩ -
    dsimp only
    rw [hg.1, laidIn_flat (hsl i).2 _ _ (by omega), show (sets (fun _ => true) k.last 0 (k.cache.take i)).set k.cache[i].1 k.cache[i].2 = sets (fun _ => true) k.last 0 (k.cache.take (i + 1)) by rw [sets_next i hlt2, if_pos rfl]]
    (refine w ?_; repeat ((first | refine VO.step rfl rfl ?_ | refine VD.end rfl rfl rfl ?_ | refine VD.mid rfl rfl rfl ?_); refine OpV.box rfl rfl rfl ?_; intro _; refine w ?_))
    exact VE.round (i + 1, lo2, lc2) hlt (by simp only; omega) ⟨rfl, rfl, trivial⟩ Ent.refl
  · have hge : i = C.length := by have := of_decide_eq_false hc; omega
    subst hge
    rw [List.take_of_length_le (Nat.le_of_eq hCl.symm)]
    (refine w ?_; repeat ((first | refine VO.step rfl rfl ?_ | refine VD.end rfl rfl rfl ?_ | refine VD.mid rfl rfl rfl ?_); refine OpV.box rfl rfl rfl ?_; intro _; refine w ?_))
    (refine VE.done1 rfl ?_ ?_)
    · rfl
    · have := hsl k.cache.length
      rw [List.take_of_length_le (Nat.le_refl _)] at this
      exact fun w hw => DocR.empty (k := k.settle fun _ => true) _ (DiskD.settle_okk hk) rfl rfl this.1 w hw

theorem docflush_bad {W : World} {R : List SProp} (d : Nat) (k : DiskD) (hfa : k.failed = true) :
    Does1 W Tryz.prog 37 [.pointer (some ⟨d, 0, none⟩)] (DocR d k :: R) (.int .i64 2) (DocR d k :: R) := by
  (refine Does.enter Tryz.func37 Tryz.ntmps37 rfl rfl ?_)
  refine VC.obtain (fun w => DocR.open) ?_
  rintro ⟨⟨⟨lo, lc⟩, ⟨co, cc⟩, C⟩, hk, hf⟩
  dsimp only [DocO]
  (refine w ?_; repeat ((first | refine VO.step rfl rfl ?_ | refine VD.end rfl rfl rfl ?_ | refine VD.mid rfl rfl rfl ?_); refine OpV.box rfl rfl rfl ?_; intro _; refine w ?_))
  (refine VC.condTe rfl rfl (hfa) ?_)
  (refine w ?_; repeat ((first | refine VO.step rfl rfl ?_ | refine VD.end rfl rfl rfl ?_ | refine VD.mid rfl rfl rfl ?_); refine OpV.box rfl rfl rfl ?_; intro _; refine w ?_))
  (refine VE.done1 rfl ?_ ?_)
  · rfl
  · exact DocR.shut hk hf

set_option maxHeartbeats 2000000 in
theorem doccrash_ok {W : World} {R : List SProp} {ko : Option Addr} {nk ck : Nat} {lk : List Bool} (d : Nat) (k : DiskD) (hcl : k.cache.length ≤ 1000000000) (hr : RdsA W 1 ko nk (bools lk)) :
    Does1 W Tryz.prog 44 [.pointer (some ⟨d, 0, none⟩), .slice ko nk ck] (DocR d k :: R) (.tuple #[]) (DocR d (k.settle (keepOf lk)) :: R) := by
  have hkl : lk.length = nk := by have := (hr []).len; simpa using this
  (refine Does.enter Tryz.func44 Tryz.ntmps44 rfl rfl ?_)
  refine VC.obtain (fun w => DocR.open) ?_
  rintro ⟨⟨⟨lo, lc⟩, ⟨co, cc⟩, C⟩, hk, hf⟩
  have hf : Fits k C := hf
  have hfl := flat_len hk
  have hs := hk.size
  obtain ⟨hCl, hCg⟩ := fits_get hf
  refine VC.know (p := co = none → C.length = 0) (fun w hw => Holds.ownNone hw (.tail _ (.tail _ (.head _)))) ?_
  intro hcn
  refine VC.know (p := ∀ c ∈ C, c.2.ao = none → c.2.xs.length = 0) (fun w hw => C_none hw (fun c hc => .tail _ (.tail _ (.tail _ (List.mem_append_left _ (List.mem_map.2 ⟨c, hc, rfl⟩)))))) ?_
  intro hnn
  generalize hkeep : keepOf lk = keep
  have hsl := sets_flat_len hk keep
  dsimp only [DocO]
  generalize hn : k.last.flatten.length = n at *
  (refine w ?_; repeat ((first | refine VO.step rfl rfl ?_ | refine VD.end rfl rfl rfl ?_ | refine VD.mid rfl rfl rfl ?_); refine OpV.box rfl rfl rfl ?_; intro _; refine w ?_))
  refine VC.loop (α := Nat × Option Addr × Nat) (fun g => g.1 ≤ C.length)
    (fun g => Row d 140 [.slice g.2.1 n g.2.2, .slice co C.length cc, .bool k.failed] :: Own 5 1 (.slice g.2.1 n g.2.2) n (bytes (sets keep k.last 0 (k.cache.take g.1)).flatten) :: Own 146 2 (.slice co C.length cc) C.length (wcs C) :: (C.map (fun c => c.2.res) ++ R))
    (fun g => [(0, .pointer (some ⟨d, 0, none⟩)), (1, .slice ko nk ck), (4, .int .i64 g.1)]) (fun g => C.length - g.1) rfl (0, lo, lc) (Nat.zero_le _) Ent.refl ⟨rfl, rfl, rfl, trivial⟩ ?_
  rintro ⟨i, ao, cap⟩ hi
  have hi : i ≤ C.length := hi
  dsimp only
  (refine w ?_; repeat ((first | refine VO.step rfl rfl ?_ | refine VD.end rfl rfl rfl ?_ | refine VD.mid rfl rfl rfl ?_); refine OpV.box rfl rfl rfl ?_; intro _; refine w ?_))
  (refine VC.cond rfl rfl ?_ ?_ <;> intro hc)
  · have hlt : i < C.length := by have := of_decide_eq_true hc; omega
    have hlt2 : i < k.cache.length := by omega
    obtain ⟨c, rfl⟩ : ∃ c, co = some c := by cases co with | none => have := hcn rfl; omega | some c => exact ⟨c, rfl⟩
    have hg := hCg i hlt hlt2
    obtain ⟨hx1, hx2⟩ := hk.cache _ (List.getElem_mem hlt2)
    have hxl : C[i].2.xs.length = 128 := by rw [hg.2, bytes_length, hx2]
    have hslen := sets_length keep (k.cache.take i) k.last 0
    have hno : keep i = false → sets keep k.last 0 (k.cache.take (i + 1)) = sets keep k.last 0 (k.cache.take i) := fun h => by rw [sets_next i hlt2, if_neg (by simp [h])]
    (refine w ?_; repeat ((first | refine VO.step rfl rfl ?_ | refine VD.end rfl rfl rfl ?_ | refine VD.mid rfl rfl rfl ?_); refine OpV.box rfl rfl rfl ?_; intro _; refine w ?_))
    ((first | refine VO.split rfl rfl rfl ?_ ?_ | refine VD.split rfl rfl rfl ?_ ?_) <;> intro hb)
    · have hik : i < nk := by have := of_decide_eq_true hb; omega
      obtain ⟨ka, rfl⟩ : ∃ a, ko = some a := by cases ko with | none => have := (hr []).nil rfl; omega | some a => exact ⟨a, rfl⟩
      (refine w ?_; repeat ((first | refine VO.step rfl rfl ?_ | refine VD.end rfl rfl rfl ?_ | refine VD.mid rfl rfl rfl ?_); refine OpV.box rfl rfl rfl ?_; intro _; refine w ?_))
      (first | refine VO.pure rfl rfl (PureAt.ldR tab_ok rfl rfl (hr _) (show (bools lk)[i]? = some (.bool (keep i)) by subst hkeep; simp [bools, keepOf, hkl, hik])) rfl ?_ | refine VD.take rfl rfl rfl (PureAt.ldR tab_ok rfl rfl (hr _) (show (bools lk)[i]? = some (.bool (keep i)) by subst hkeep; simp [bools, keepOf, hkl, hik])) rfl ?_ | refine VQ.pure rfl rfl (PureAt.ldR tab_ok rfl rfl (hr _) (show (bools lk)[i]? = some (.bool (keep i)) by subst hkeep; simp [bools, keepOf, hkl, hik])) rfl ?_ | refine VD.end rfl rfl rfl (OpV.pure (PureAt.ldR tab_ok rfl rfl (hr _) (show (bools lk)[i]? = some (.bool (keep i)) by subst hkeep; simp [bools, keepOf, hkl, hik])) rfl ?_))
      (refine w ?_; repeat ((first | refine VO.step rfl rfl ?_ | refine VD.end rfl rfl rfl ?_ | refine VD.mid rfl rfl rfl ?_); refine OpV.box rfl rfl rfl ?_; intro _; refine w ?_))
      (refine VC.cond rfl rfl ?_ ?_ <;> intro hc)
      · have hk1 : keep i = true := hc
        (refine w ?_; repeat ((first | refine VO.step rfl rfl ?_ | refine VD.end rfl rfl rfl ?_ | refine VD.mid rfl rfl rfl ?_); refine OpV.box rfl rfl rfl ?_; intro _; refine w ?_))
        (first | refine VO.pure rfl rfl (.ldRA tab_ok rfl rfl (Rds.own (wcs_one C) (.tail _ (.tail _ (.head _))) (wcs_length C) hcn) (wcs_part i hlt hxl) rfl) rfl ?_ | refine VD.take rfl rfl rfl (.ldRA tab_ok rfl rfl (Rds.own (wcs_one C) (.tail _ (.tail _ (.head _))) (wcs_length C) hcn) (wcs_part i hlt hxl) rfl) rfl ?_ | refine VQ.pure rfl rfl (.ldRA tab_ok rfl rfl (Rds.own (wcs_one C) (.tail _ (.tail _ (.head _))) (wcs_length C) hcn) (wcs_part i hlt hxl) rfl) rfl ?_ | refine VD.end rfl rfl rfl (OpV.pure (.ldRA tab_ok rfl rfl (Rds.own (wcs_one C) (.tail _ (.tail _ (.head _))) (wcs_length C) hcn) (wcs_part i hlt hxl) rfl) rfl ?_))
        ((first | refine VO.step rfl rfl ?_ | refine VD.end rfl rfl rfl ?_ | refine VD.mid rfl rfl rfl ?_); refine OpV.call rfl rfl (fun _ _ => by simp) (doclasts_ok d C[i].1 n (hsl i).1 (by rw [hg.1]; omega) (by omega) hx2 (C_rds (fun c hc => .tail _ (List.mem_append_left _ (List.mem_map.2 ⟨c, hc, rfl⟩))) hnn (List.getElem_mem hlt) hg.2 hx2)) Ent.refl rfl ?_)
        rintro ⟨lo2, lc2⟩ -
        dsimp only
        rw [hg.1, laidIn_flat (hsl i).2 _ _ (by omega), show (sets keep k.last 0 (k.cache.take i)).set k.cache[i].1 k.cache[i].2 = sets keep k.last 0 (k.cache.take (i + 1)) by rw [sets_next i hlt2, if_pos hk1]]
        (refine w ?_; repeat ((first | refine VO.step rfl rfl ?_ | refine VD.end rfl rfl rfl ?_ | refine VD.mid rfl rfl rfl ?_); refine OpV.box rfl rfl rfl ?_; intro _; refine w ?_))
        exact VE.round (i + 1, lo2, lc2) hlt (by simp only; omega) ⟨rfl, rfl, rfl, trivial⟩ Ent.refl
      · have hk0 : keep i = false := hc
        (refine w ?_; repeat ((first | refine VO.step rfl rfl ?_ | refine VD.end rfl rfl rfl ?_ | refine VD.mid rfl rfl rfl ?_); refine OpV.box rfl rfl rfl ?_; intro _; refine w ?_))
        refine VE.round (i + 1, ao, cap) hlt (by simp only; omega) ⟨rfl, rfl, rfl, trivial⟩ ?_
        dsimp only
        rw [hno hk0]
        exact Ent.refl
    · have hik : nk ≤ i := by have := of_decide_eq_false hb; omega
      have hk0 : keep i = false := by subst hkeep; simp [keepOf, hkl, hik]
      (refine w ?_; repeat ((first | refine VO.step rfl rfl ?_ | refine VD.end rfl rfl rfl ?_ | refine VD.mid rfl rfl rfl ?_); refine OpV.box rfl rfl rfl ?_; intro _; refine w ?_))
      refine VE.round (i + 1, ao, cap) hlt (by simp only; omega) ⟨rfl, rfl, rfl, trivial⟩ ?_
      dsimp only
      rw [hno hk0]
      exact Ent.refl
  · have hge : i = C.length := by have := of_decide_eq_false hc; omega
    subst hge
    rw [List.take_of_length_le (Nat.le_of_eq hCl.symm)]
    (refine w ?_; repeat ((first | refine VO.step rfl rfl ?_ | refine VD.end rfl rfl rfl ?_ | refine VD.mid rfl rfl rfl ?_); refine OpV.box rfl rfl rfl ?_; intro _; refine w ?_))
    (refine VE.done1N rfl ?_ ?_)
    · rfl
    · have := hsl k.cache.length
      rw [List.take_of_length_le (Nat.le_refl _)] at this
      exact fun w hw => DocR.empty (k := k.settle keep) _ (DiskD.settle_okk hk) rfl rfl this.1 w hw
end Go.Proofs.YtpmmkmcbimnigaaGreat

/-! Text Bi. -/
/- The document's book: lists of ints that are its owner's own (turned out of Bk by program). -/
set_option maxRecDepth 8000
set_option linter.unusedVariables false
set_option linter.unusedSimpArgs false
set_option linter.unusedSectionVars false
namespace Go.Proofs.YtpmmkmcbimnigaaGreat
open Go.RowKit Go.Sl
attribute [local irreducible] Own

/-- A list of ints that somebody owns. -/
structure ListI where
  ao : Option Addr
  cap : Nat
  xs : List Value
def ListI.hdr (e : ListI) : Value := .slice e.ao e.xs.length e.cap
def ListI.res (e : ListI) : SProp := Own 3 1 (.slice e.ao e.xs.length e.cap) e.xs.length e.xs
def mkI (z : Int) : Value := .int .i64 z
def marksI (a m : Nat) : List Value := (List.range m).map fun (k : Nat) => mkI ((a : Int) * 1000 + (k : Int))
def marksITwo (a m : Nat) : List Value := (List.range m).map fun (k : Nat) => mkI ((-1 - (a : Int)) * 1000 + (k : Int))
@[simp] theorem marksI_length (a m : Nat) : (marksI a m).length = m := by simp [marksI]
@[simp] theorem marksITwo_length (a m : Nat) : (marksITwo a m).length = m := by simp [marksITwo]
end Go.Proofs.YtpmmkmcbimnigaaGreat

/-! Text Rh. -/
/- What is lent of bools; the book with lists of bytes and lists of ints. -/
set_option maxRecDepth 8000
set_option linter.unusedVariables false
set_option linter.unusedSimpArgs false
set_option linter.unusedSectionVars false
namespace Go.Proofs.YtpmmkmcbimnigaaGreat
open Go.RowKit Go.Sl
attribute [local irreducible] Own

def lentVB (l : List Bool) : List Value := bools l ++ [.bool true, .bool false]
theorem lentVB_one (l : List Bool) : ∀ u ∈ lentVB l, u.oneCell' = true := by
  intro u hu
  rcases List.mem_append.1 hu with h | h
  · exact bools_one _ u h
  · simp only [List.mem_cons, List.not_mem_nil, or_false] at h; rcases h with h | h <;> subst h <;> rfl
@[simp] theorem lentVB_length (l : List Bool) : (lentVB l).length = l.length + 2 := by simp [lentVB]
abbrev LentB (a : Addr) (cap : Nat) (l : List Bool) : SProp := Own 4 1 (.slice (some a) (l.length + 2) cap) (l.length + 2) (lentVB l)
theorem LentB.rds {W : World} {R : List SProp} {a : Addr} {cap : Nat} {l : List Bool} : Rds W (LentB a cap l :: R) 1 (some a) l.length (bools l) := by
  have h := Rds.take (l := l.length) (Rds.own (W := W) (H := LentB a cap l :: R) (lentVB_one l) (.head _) (by rw [lentVB_length, Nat.mul_one]) (fun h => by cases h)) (by omega)
  rw [Nat.mul_one, lentVB, List.take_left' (by simp)] at h
  exact h

/-! ### The book with lists of bytes and of ints -/

abbrev bookRow2 (lo : Option Addr) (n lc : Nat) (li : Option Addr) (m ic : Nat) : List Value := .slice lo n lc :: .slice none 0 0 :: .slice li m ic :: List.replicate 9 (.slice none 0 0)
abbrev BookO (b : Nat) (E : List ListE) (F : List ListI) (x : (Option Addr × Nat) × (Option Addr × Nat)) (R : List SProp) : List SProp :=
  Row b 58 (bookRow2 x.1.1 E.length x.1.2 x.2.1 F.length x.2.2) :: Own 22 1 (.slice x.1.1 E.length x.1.2) E.length (E.map ListE.hdr) :: Own 24 1 (.slice x.2.1 F.length x.2.2) F.length (F.map ListI.hdr) :: (E.map ListE.res ++ (F.map ListI.res ++ R))
def Book2 (b : Nat) (E : List ListE) (F : List ListI) : SProp := ex fun x : (Option Addr × Nat) × (Option Addr × Nat) => Sl.star (BookO b E F x [])
theorem Book2.open {W w : World} {b : Nat} {E : List ListE} {F : List ListI} {R : List SProp} (hw : Holds W (Book2 b E F :: R) w) : ∃ x, Holds W (BookO b E F x R) w := by
  obtain ⟨x, h⟩ := hw.exOpen
  refine ⟨x, ?_⟩
  have := h.join
  simpa [BookO] using this
theorem Book2.shut {W : World} {b : Nat} {E : List ListE} {F : List ListI} {R : List SProp} {x : (Option Addr × Nat) × (Option Addr × Nat)} : Ent W (BookO b E F x R) (Book2 b E F :: R) := fun w hw =>
  Holds.exShut x (Holds.nest (L := BookO b E F x []) (by simpa [BookO] using hw))
end Go.Proofs.YtpmmkmcbimnigaaGreat

/-! Text Dn. -/
/- The statements of the disk: sector, SameInts, known. -/
set_option maxRecDepth 8000
set_option linter.unusedVariables false
set_option linter.unusedSimpArgs false
set_option linter.unusedSectionVars false
namespace Go.Proofs.YtpmmkmcbimnigaaGreat
open Go.RowKit Go.Sl
attribute [local irreducible] Own

def fullSec (c : UInt8) : List UInt8 := List.replicate 128 c
@[simp] theorem fullSec_length (c : UInt8) : (fullSec c).length = 128 := List.length_replicate
abbrev SecO (b : Nat) (c : UInt8) : SProp := Own 5 1 (.slice (some ⟨b, 0, none⟩) 128 128) 128 (bytes (fullSec c))
theorem SecO.rds {W : World} {R : List SProp} {b : Nat} {c : UInt8} : Rds W (SecO b c :: R) 1 (some ⟨b, 0, none⟩) 128 (bytes (fullSec c)) := Rds.own (bytes_one _) (.head _) (by rw [bytes_length, fullSec_length]) (fun h => by cases h)
theorem sameints_any {W : World} {R : List SProp} {ao ao' : Option Addr} {n n' cap cap' : Nat} {a b : List Nat} (ha : Rds W R 1 ao n (ints a)) (hb : Rds W R 1 ao' n' (ints b)) (hn : n ≤ maxLen) :
    Does1 W Tryz.prog 20 [.slice ao n cap, .slice ao' n' cap'] R (.bool (decide (a = b))) R := by
  have la : a.length = n := by have := ha.len; simpa using this
  have lb : b.length = n' := by have := hb.len; simpa using this
  unfold maxLen at hn
  (refine Does.enter Tryz.func20 Tryz.ntmps20 rfl rfl ?_)
  (refine w ?_; repeat ((first | refine VO.step rfl rfl ?_ | refine VD.end rfl rfl rfl ?_ | refine VD.mid rfl rfl rfl ?_); refine OpV.box rfl rfl rfl ?_; intro _; refine w ?_))
  by_cases hl : n = n'
  · subst hl
    (refine VC.condFe rfl rfl (by simp) ?_)
    (refine w ?_; repeat ((first | refine VO.step rfl rfl ?_ | refine VD.end rfl rfl rfl ?_ | refine VD.mid rfl rfl rfl ?_); refine OpV.box rfl rfl rfl ?_; intro _; refine w ?_))
    refine VC.loop (α := Nat) (fun j => j ≤ n ∧ ∀ i (h : i < a.length) (h' : i < b.length), i < j → a[i] = b[i]) (fun j => R)
      (fun j => [(0, .slice ao n cap), (1, .slice ao' n cap'), (5, .int .i64 j)]) (fun j => n - j) rfl 0 ⟨Nat.zero_le _, fun _ _ _ h => absurd h (by omega)⟩ Ent.refl ⟨rfl, rfl, rfl, trivial⟩ ?_
    rintro j ⟨hj, hi⟩
    (refine w ?_; repeat ((first | refine VO.step rfl rfl ?_ | refine VD.end rfl rfl rfl ?_ | refine VD.mid rfl rfl rfl ?_); refine OpV.box rfl rfl rfl ?_; intro _; refine w ?_))
    (refine VC.cond rfl rfl ?_ ?_ <;> intro hc)
    · have hlt : j < n := by simpa using hc
      obtain ⟨a0, rfl⟩ : ∃ a0, ao = some a0 := by cases ao with | none => have := ha.nil rfl; omega | some a0 => exact ⟨a0, rfl⟩
      obtain ⟨b0, rfl⟩ : ∃ b0, ao' = some b0 := by cases ao' with | none => have := hb.nil rfl; omega | some b0 => exact ⟨b0, rfl⟩
      (refine w ?_; repeat ((first | refine VO.step rfl rfl ?_ | refine VD.end rfl rfl rfl ?_ | refine VD.mid rfl rfl rfl ?_); refine OpV.box rfl rfl rfl ?_; intro _; refine w ?_))
      ((refine VC.quiet rfl (by kernel_rfl) (by kernel_rfl) ?_); (refine w ?_; repeat ((first | refine VO.step rfl rfl ?_ | refine VD.end rfl rfl rfl ?_ | refine VD.mid rfl rfl rfl ?_); refine OpV.box rfl rfl rfl ?_; intro _; refine w ?_)))
      (first | refine VO.pure rfl rfl (PureAt.ldR tab_ok rfl rfl ha (show (ints a)[j]? = some (.int .i64 ((a[j]'(by omega) : Nat) : Int)) by simp [ints, la, hlt])) rfl ?_ | refine VD.take rfl rfl rfl (PureAt.ldR tab_ok rfl rfl ha (show (ints a)[j]? = some (.int .i64 ((a[j]'(by omega) : Nat) : Int)) by simp [ints, la, hlt])) rfl ?_ | refine VQ.pure rfl rfl (PureAt.ldR tab_ok rfl rfl ha (show (ints a)[j]? = some (.int .i64 ((a[j]'(by omega) : Nat) : Int)) by simp [ints, la, hlt])) rfl ?_ | refine VD.end rfl rfl rfl (OpV.pure (PureAt.ldR tab_ok rfl rfl ha (show (ints a)[j]? = some (.int .i64 ((a[j]'(by omega) : Nat) : Int)) by simp [ints, la, hlt])) rfl ?_))
      (refine w ?_; repeat ((first | refine VO.step rfl rfl ?_ | refine VD.end rfl rfl rfl ?_ | refine VD.mid rfl rfl rfl ?_); refine OpV.box rfl rfl rfl ?_; intro _; refine w ?_))
      (first | refine VO.pure rfl rfl (PureAt.ldR tab_ok rfl rfl hb (show (ints b)[j]? = some (.int .i64 ((b[j]'(by omega) : Nat) : Int)) by simp [ints, lb, hlt])) rfl ?_ | refine VD.take rfl rfl rfl (PureAt.ldR tab_ok rfl rfl hb (show (ints b)[j]? = some (.int .i64 ((b[j]'(by omega) : Nat) : Int)) by simp [ints, lb, hlt])) rfl ?_ | refine VQ.pure rfl rfl (PureAt.ldR tab_ok rfl rfl hb (show (ints b)[j]? = some (.int .i64 ((b[j]'(by omega) : Nat) : Int)) by simp [ints, lb, hlt])) rfl ?_ | refine VD.end rfl rfl rfl (OpV.pure (PureAt.ldR tab_ok rfl rfl hb (show (ints b)[j]? = some (.int .i64 ((b[j]'(by omega) : Nat) : Int)) by simp [ints, lb, hlt])) rfl ?_))
      (refine w ?_; repeat ((first | refine VO.step rfl rfl ?_ | refine VD.end rfl rfl rfl ?_ | refine VD.mid rfl rfl rfl ?_); refine OpV.box rfl rfl rfl ?_; intro _; refine w ?_))
      (refine VC.cond rfl rfl ?_ ?_ <;> intro hc)
      · (refine w ?_; repeat ((first | refine VO.step rfl rfl ?_ | refine VD.end rfl rfl rfl ?_ | refine VD.mid rfl rfl rfl ?_); refine OpV.box rfl rfl rfl ?_; intro _; refine w ?_))
        (refine VE.done1 rfl ?_ ?_)
        · have hne : a[j]'(by omega) ≠ b[j]'(by omega) := by
            intro e; rw [e] at hc; simp at hc
          have : a ≠ b := fun e => hne (by subst e; rfl)
          simp [this]
        · exact Ent.refl
      · (refine w ?_; repeat ((first | refine VO.step rfl rfl ?_ | refine VD.end rfl rfl rfl ?_ | refine VD.mid rfl rfl rfl ?_); refine OpV.box rfl rfl rfl ?_; intro _; refine w ?_))
        have he : a[j]'(by omega) = b[j]'(by omega) := by
          have : ((a[j]'(by omega) : Nat) : Int) = ((b[j]'(by omega) : Nat) : Int) := by simpa using hc
          omega
        refine VE.round (j + 1) ⟨by omega, fun i h h' hij => ?_⟩ (by omega) ⟨rfl, rfl, rfl, trivial⟩ Ent.refl
        by_cases e : i = j
        · subst e; exact he
        · exact hi i h h' (by omega)
    · have hge : j = n := by have : ¬ j < n := by simpa using hc
                             omega
      (refine w ?_; repeat ((first | refine VO.step rfl rfl ?_ | refine VD.end rfl rfl rfl ?_ | refine VD.mid rfl rfl rfl ?_); refine OpV.box rfl rfl rfl ?_; intro _; refine w ?_))
      (refine VE.done1 rfl ?_ ?_)
      · have : a = b := List.ext_getElem (by omega) fun i h h' => hi i h h' (by omega)
        simp [this]
      · exact Ent.refl
  · (refine VC.condTe rfl rfl (by simp; omega) ?_)
    (refine w ?_; repeat ((first | refine VO.step rfl rfl ?_ | refine VD.end rfl rfl rfl ?_ | refine VD.mid rfl rfl rfl ?_); refine OpV.box rfl rfl rfl ?_; intro _; refine w ?_))
    (refine VE.done1 rfl ?_ ?_)
    · have : a ≠ b := fun e => hl (by subst e; omega)
      simp [this]
    · exact Ent.refl

end Go.Proofs.YtpmmkmcbimnigaaGreat

