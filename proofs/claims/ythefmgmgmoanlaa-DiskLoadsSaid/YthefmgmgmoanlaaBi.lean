/- The document's book: lists of ints that are its owner's own (turned out of Bk by program). -/
import Derived.Test.YthefmgmgmoanlaaBk
set_option maxRecDepth 8000
set_option linter.unusedVariables false
set_option linter.unusedSimpArgs false
set_option linter.unusedSectionVars false
namespace Go.Proofs.Ythefmgmgmoanlaa
open Go.RowKit Go.Sl
attribute [local irreducible] Own

/-- A list of ints that somebody owns. -/
structure ListI where
  ao : Option Addr
  cap : Nat
  xs : List Value
def ListI.hdr (e : ListI) : Value := .slice e.ao e.xs.length e.cap
def ListI.res (e : ListI) : SProp := Own 3 1 (.slice e.ao e.xs.length e.cap) e.xs.length e.xs
theorem hdrsI_one (l : List ListI) : ∀ u ∈ l.map ListI.hdr, u.oneCell' = true := by
  intro u hu; obtain ⟨c, _, rfl⟩ := List.mem_map.1 hu; rfl

def mkI (z : Int) : Value := .int .i64 z
def marksI (a m : Nat) : List Value := (List.range m).map fun (k : Nat) => mkI ((a : Int) * 1000 + (k : Int))
def marksITwo (a m : Nat) : List Value := (List.range m).map fun (k : Nat) => mkI ((-1 - (a : Int)) * 1000 + (k : Int))
@[simp] theorem marksI_length (a m : Nat) : (marksI a m).length = m := by simp [marksI]
@[simp] theorem marksITwo_length (a m : Nat) : (marksITwo a m).length = m := by simp [marksITwo]
theorem marksI_succ (a m : Nat) : marksI a (m + 1) = marksI a m ++ [mkI ((a : Int) * 1000 + (m : Int))] := by simp [marksI, List.range_succ]
theorem marksITwo_succ (a m : Nat) : marksITwo a (m + 1) = marksITwo a m ++ [mkI ((-1 - (a : Int)) * 1000 + (m : Int))] := by simp [marksITwo, List.range_succ]
theorem marksI_one (a m : Nat) : ∀ u ∈ marksI a m, u.oneCell' = true := by intro u hu; obtain ⟨c, _, rfl⟩ := List.mem_map.1 hu; rfl
theorem marksITwo_one (a m : Nat) : ∀ u ∈ marksITwo a m, u.oneCell' = true := by intro u hu; obtain ⟨c, _, rfl⟩ := List.mem_map.1 hu; rfl
theorem marksI_get (a m k : Nat) (h : k < m) : (marksI a m)[k]? = some (mkI ((a : Int) * 1000 + (k : Int))) := by simp [marksI, h]
theorem marksITwo_get (a m k : Nat) (h : k < m) : (marksITwo a m)[k]? = some (mkI ((-1 - (a : Int)) * 1000 + (k : Int))) := by simp [marksITwo, h]

/-- The lists, the first so many of them marked. -/
def mkdI (E : List ListI) (a : Nat) : List ListI := E.mapIdx fun j e => if j < a then ⟨e.ao, e.cap, marksI j e.xs.length⟩ else e
theorem mkdI_length (E : List ListI) (a : Nat) : (mkdI E a).length = E.length := by simp [mkdI]
theorem mkdI_get (E : List ListI) (a j : Nat) (h : j < E.length) : (mkdI E a)[j]'(by rw [mkdI_length]; exact h) = if j < a then ⟨E[j].ao, E[j].cap, marksI j E[j].xs.length⟩ else E[j] := by simp [mkdI]
theorem mkdI_zero (E : List ListI) : mkdI E 0 = E := by
  apply List.ext_getElem (mkdI_length E 0)
  intro j h1 h2
  rw [mkdI_get E 0 j h2, if_neg (Nat.not_lt_zero _)]
theorem mkdI_set (E : List ListI) (a : Nat) (h : a < E.length) : (mkdI E a).set a ⟨E[a].ao, E[a].cap, marksI a E[a].xs.length⟩ = mkdI E (a + 1) := by
  apply List.ext_getElem (by rw [List.length_set, mkdI_length, mkdI_length])
  intro j h1 h2
  have hj : j < E.length := by rwa [mkdI_length] at h2
  rw [mkdI_get E (a + 1) j hj, List.getElem_set]
  by_cases e : a = j
  · subst e; rw [if_pos rfl, if_pos (by omega)]
  · rw [if_neg e, mkdI_get E a j hj]
    by_cases q : j < a
    · rw [if_pos q, if_pos (by omega)]
    · rw [if_neg q, if_neg (by omega)]

/-- The lists, the first of them with what has grown out of them. -/
def twinI (j : Nat) (e : ListI) (g : Option Addr × Nat) (m : Nat) : SProp := TwinR 3 1 e.ao e.cap e.xs.length e.xs g.1 g.2 (e.xs.length + m) (e.xs ++ marksITwo j m)
def grsI (M : List ListI) (Gs : List (Option Addr × Nat)) : List SProp := M.mapIdx fun j e => match Gs[j]? with
  | some g => twinI j e g 16
  | none => e.res
theorem grsI_length (M : List ListI) (Gs : List (Option Addr × Nat)) : (grsI M Gs).length = M.length := by simp [grsI]
theorem grsI_nil (M : List ListI) : grsI M [] = M.map ListI.res := by
  apply List.ext_getElem (by simp [grsI])
  intro j h1 h2
  simp [grsI]
theorem grsI_get (M : List ListI) (Gs : List (Option Addr × Nat)) (j : Nat) (h : j < M.length) : (grsI M Gs)[j]'(by rw [grsI_length]; exact h) = match Gs[j]? with
  | some g => twinI j M[j] g 16
  | none => M[j].res := by simp [grsI]
theorem grsI_set (M : List ListI) (Gs : List (Option Addr × Nat)) (g : Option Addr × Nat) (h : Gs.length < M.length) : (grsI M Gs).set Gs.length (twinI Gs.length M[Gs.length] g 16) = grsI M (Gs ++ [g]) := by
  apply List.ext_getElem (by rw [List.length_set, grsI_length, grsI_length])
  intro j h1 h2
  have hj : j < M.length := by rwa [grsI_length] at h2
  rw [List.getElem_set, grsI_get M (Gs ++ [g]) j hj]
  by_cases e : Gs.length = j
  · subst e
    rw [if_pos rfl, List.getElem?_append_right (Nat.le_refl _), Nat.sub_self]; rfl
  · rw [if_neg e, grsI_get M Gs j hj]
    by_cases q : j < Gs.length
    · rw [List.getElem?_append_left q]
    · rw [List.getElem?_eq_none (by omega), List.getElem?_eq_none (by rw [List.length_append, List.length_singleton]; omega)]
def longI (M : List ListI) (Gs : List (Option Addr × Nat)) : List Value := Gs.mapIdx fun j g => .slice g.1 (((M[j]?).map fun e => e.xs.length).getD 0 + 16) g.2
theorem longI_length (M : List ListI) (Gs : List (Option Addr × Nat)) : (longI M Gs).length = Gs.length := by simp [longI]
theorem longI_snoc (M : List ListI) (Gs : List (Option Addr × Nat)) (g : Option Addr × Nat) (h : Gs.length < M.length) : longI M (Gs ++ [g]) = longI M Gs ++ [.slice g.1 (M[Gs.length].xs.length + 16) g.2] := by
  unfold longI
  rw [List.mapIdx_concat, List.getElem?_eq_getElem h]; rfl
theorem longI_one (M : List ListI) (Gs : List (Option Addr × Nat)) : ∀ u ∈ longI M Gs, u.oneCell' = true := by
  intro u hu
  obtain ⟨i, h, rfl⟩ := List.mem_iff_getElem.1 hu
  simp [longI, Value.oneCell']
set_option maxHeartbeats 8000000 in
theorem ownints_ok {W : World} {R : List SProp} {lo : Option Addr} {lc : Nat} {E : List ListI} (hn : E.length ≤ 1000000000) (hl : ∀ e ∈ E, e.xs.length ≤ 1000000000) :
    Does1 W Try.prog 84 [.slice lo E.length lc] (Own 61 1 (.slice lo E.length lc) E.length (E.map ListI.hdr) :: (E.map ListI.res ++ R)) (.bool true) R := by
  (refine Does.enter Try.func84 Try.ntmps84 rfl rfl ?_)
  refine VC.know (fun w hw => hw.ownNone (by (focus repeat first | exact .head _ | apply List.Mem.tail)) : ∀ w, _ → (lo = none → E.length = 0)) ?_
  intro hln
  (refine w ?_; repeat ((first | refine VO.step rfl rfl ?_ | refine VD.end rfl rfl rfl ?_ | refine VD.mid rfl rfl rfl ?_); refine OpV.box rfl rfl rfl ?_; intro _; refine w ?_))
  refine VC.loop (α := Nat) (fun a => a ≤ E.length) (fun a => Own 61 1 (.slice lo E.length lc) E.length (E.map ListI.hdr) :: ((mkdI E a).map ListI.res ++ R))
    (fun a => [(0, .slice lo E.length lc), (3, .int .i64 a)]) (fun a => E.length - a) rfl 0 (Nat.zero_le _) (by rw [mkdI_zero]; exact Ent.refl) ⟨rfl, rfl, trivial⟩ ?_
  intro a ha
  (refine w ?_; repeat ((first | refine VO.step rfl rfl ?_ | refine VD.end rfl rfl rfl ?_ | refine VD.mid rfl rfl rfl ?_); refine OpV.box rfl rfl rfl ?_; intro _; refine w ?_))
  (refine VC.cond rfl rfl ?_ ?_ <;> intro hc)
  · have hlt : a < E.length := by have := of_decide_eq_true hc; omega
    obtain ⟨lb, rfl⟩ : ∃ lb, lo = some lb := by cases lo with | none => have := hln rfl; omega | some lb => exact ⟨lb, rfl⟩
    have hla : E[a].xs.length ≤ 1000000000 := hl _ (List.getElem_mem hlt)
    have hget : (E.map ListI.hdr)[a]? = some (.slice E[a].ao E[a].xs.length E[a].cap) := by rw [List.getElem?_map, List.getElem?_eq_getElem hlt]; rfl
    have hmlen : ((mkdI E a).map ListI.res).length = E.length := by rw [List.length_map, mkdI_length]
    have hself : (mkdI E a).map ListI.res = ((mkdI E a).map ListI.res).set a (Own 3 1 (.slice E[a].ao E[a].xs.length E[a].cap) E[a].xs.length (marksI a 0 ++ E[a].xs.drop 0)) := by
      have e1 : ((mkdI E a).map ListI.res)[a]'(by rw [hmlen]; exact hlt) = Own 3 1 (.slice E[a].ao E[a].xs.length E[a].cap) E[a].xs.length (marksI a 0 ++ E[a].xs.drop 0) := by
        rw [List.getElem_map, mkdI_get E a a hlt, if_neg (Nat.lt_irrefl _)]; rfl
      rw [← e1, List.set_getElem_self]
    have hnext : ((mkdI E a).map ListI.res).set a (Own 3 1 (.slice E[a].ao E[a].xs.length E[a].cap) E[a].xs.length (marksI a E[a].xs.length)) = (mkdI E (a + 1)).map ListI.res := by
      rw [← mkdI_set E a hlt, List.map_set]
      congr 1
      unfold ListI.res
      rw [marksI_length]
    generalize hL : (mkdI E a).map ListI.res = L at *
    (refine w ?_; repeat ((first | refine VO.step rfl rfl ?_ | refine VD.end rfl rfl rfl ?_ | refine VD.mid rfl rfl rfl ?_); refine OpV.box rfl rfl rfl ?_; intro _; refine w ?_))
    refine VC.loop (α := Nat) (fun k => k ≤ E[a].xs.length) (fun k => Own 61 1 (.slice (some lb) E.length lc) E.length (E.map ListI.hdr) :: (L.set a (Own 3 1 (.slice E[a].ao E[a].xs.length E[a].cap) E[a].xs.length (marksI a k ++ E[a].xs.drop k)) ++ R))
      (fun k => [(0, .slice (some lb) E.length lc), (3, .int .i64 a), (4, .int .i64 k)]) (fun k => E[a].xs.length - k) rfl 0 (Nat.zero_le _) (by rw [← hself]; exact Ent.refl) ⟨rfl, rfl, rfl, trivial⟩ ?_
    intro k hk
    refine VC.know (p := E[a].ao = none → E[a].xs.length = 0) (fun w hw => Holds.ownNone hw (.tail _ (mem_set L a _ (by omega)))) ?_
    intro han
    (refine w ?_; repeat ((first | refine VO.step rfl rfl ?_ | refine VD.end rfl rfl rfl ?_ | refine VD.mid rfl rfl rfl ?_); refine OpV.box rfl rfl rfl ?_; intro _; refine w ?_))
    (first | refine VO.pure rfl rfl (PureAt.ldR tab_ok rfl rfl (Rds.own (hdrsI_one E) (.head _) (by rw [List.length_map, Nat.mul_one]) (fun h => by cases h)) hget) rfl ?_ | refine VD.take rfl rfl rfl (PureAt.ldR tab_ok rfl rfl (Rds.own (hdrsI_one E) (.head _) (by rw [List.length_map, Nat.mul_one]) (fun h => by cases h)) hget) rfl ?_ | refine VQ.pure rfl rfl (PureAt.ldR tab_ok rfl rfl (Rds.own (hdrsI_one E) (.head _) (by rw [List.length_map, Nat.mul_one]) (fun h => by cases h)) hget) rfl ?_ | refine VD.end rfl rfl rfl (OpV.pure (PureAt.ldR tab_ok rfl rfl (Rds.own (hdrsI_one E) (.head _) (by rw [List.length_map, Nat.mul_one]) (fun h => by cases h)) hget) rfl ?_))
    (refine w ?_; repeat ((first | refine VO.step rfl rfl ?_ | refine VD.end rfl rfl rfl ?_ | refine VD.mid rfl rfl rfl ?_); refine OpV.box rfl rfl rfl ?_; intro _; refine w ?_))
    (refine VC.cond rfl rfl ?_ ?_ <;> intro hc)
    · have hkt : k < E[a].xs.length := by have := of_decide_eq_true hc; omega
      obtain ⟨xa, hxa⟩ : ∃ xa, E[a].ao = some xa := by cases h : E[a].ao with | none => have := han h; omega | some xa => exact ⟨xa, rfl⟩
      rw [hxa] at hget ⊢
      (refine w ?_; repeat ((first | refine VO.step rfl rfl ?_ | refine VD.end rfl rfl rfl ?_ | refine VD.mid rfl rfl rfl ?_); refine OpV.box rfl rfl rfl ?_; intro _; refine w ?_))
      (first | refine VO.pure rfl rfl (PureAt.ldR tab_ok rfl rfl (Rds.own (hdrsI_one E) (.head _) (by rw [List.length_map, Nat.mul_one]) (fun h => by cases h)) hget) rfl ?_ | refine VD.take rfl rfl rfl (PureAt.ldR tab_ok rfl rfl (Rds.own (hdrsI_one E) (.head _) (by rw [List.length_map, Nat.mul_one]) (fun h => by cases h)) hget) rfl ?_ | refine VQ.pure rfl rfl (PureAt.ldR tab_ok rfl rfl (Rds.own (hdrsI_one E) (.head _) (by rw [List.length_map, Nat.mul_one]) (fun h => by cases h)) hget) rfl ?_ | refine VD.end rfl rfl rfl (OpV.pure (PureAt.ldR tab_ok rfl rfl (Rds.own (hdrsI_one E) (.head _) (by rw [List.length_map, Nat.mul_one]) (fun h => by cases h)) hget) rfl ?_))
      (refine w ?_; repeat ((first | refine VO.step rfl rfl ?_ | refine VD.end rfl rfl rfl ?_ | refine VD.mid rfl rfl rfl ?_); refine OpV.box rfl rfl rfl ?_; intro _; refine w ?_))
      (first | refine VO.step rfl rfl ?_ | refine VD.end rfl rfl rfl ?_ | refine VD.mid rfl rfl rfl ?_)
      refine OpV.stO tab_ok rfl rfl rfl rfl (.tail (hole_set L a _ (by omega))) (by rw [List.length_append, marksI_length, List.length_drop]; omega) ?_
      have hset : (marksI a k ++ E[a].xs.drop k).set k (.int .i64 ((a : Int) * 1000 + (k : Int))) = marksI a (k + 1) ++ E[a].xs.drop (k + 1) := by
        rw [List.set_append_right _ _ (by rw [marksI_length]; exact Nat.le_refl _), marksI_length, Nat.sub_self, List.drop_eq_getElem_cons hkt, List.set_cons_zero, marksI_succ, List.append_assoc]; rfl
      rw [hset]
      (refine w ?_; repeat ((first | refine VO.step rfl rfl ?_ | refine VD.end rfl rfl rfl ?_ | refine VD.mid rfl rfl rfl ?_); refine OpV.box rfl rfl rfl ?_; intro _; refine w ?_))
      exact VE.round (k + 1) hkt (by omega) ⟨rfl, rfl, rfl, trivial⟩ Ent.refl
    · have hge : k = E[a].xs.length := by have := of_decide_eq_false hc; omega
      rw [hge, List.drop_length, List.append_nil, hnext]
      (refine w ?_; repeat ((first | refine VO.step rfl rfl ?_ | refine VD.end rfl rfl rfl ?_ | refine VD.mid rfl rfl rfl ?_); refine OpV.box rfl rfl rfl ?_; intro _; refine w ?_))
      exact VE.round (a + 1) hlt (by omega) ⟨rfl, rfl, trivial⟩ Ent.refl
  have hge : a = E.length := by have := of_decide_eq_false hc; omega
  subst hge
  clear hc ha
  -- every list is marked
  obtain ⟨M, hM⟩ : ∃ M, M = mkdI E E.length := ⟨_, rfl⟩
  have hML : M.length = E.length := by rw [hM]; exact mkdI_length _ _
  have hMg : ∀ j (h : j < M.length), M[j] = ⟨(E[j]'(by omega)).ao, (E[j]'(by omega)).cap, marksI j (E[j]'(by omega)).xs.length⟩ := fun j h => by
    subst hM; rw [mkdI_get E _ j (by omega), if_pos (by omega)]
  have hMh : E.map ListI.hdr = M.map ListI.hdr := by
    apply List.ext_getElem (by simp [hML])
    intro j h1 h2
    have hj : j < M.length := by simpa using h2
    rw [List.getElem_map, List.getElem_map, hMg j hj]
    simp [ListI.hdr]
  have hMl : ∀ j (h : j < M.length), M[j].xs.length ≤ 1000000000 ∧ M[j].xs = marksI j M[j].xs.length := fun j h => by
    rw [hMg j h]; exact ⟨by rw [marksI_length]; exact hl _ (List.getElem_mem _), by simp⟩
  (refine w ?_; repeat ((first | refine VO.step rfl rfl ?_ | refine VD.end rfl rfl rfl ?_ | refine VD.mid rfl rfl rfl ?_); refine OpV.box rfl rfl rfl ?_; intro _; refine w ?_))
  rw [← hM, hMh, ← hML]
  rw [← hML] at hln hn
  clear hMh hMg hl hML hM E
  refine VC.ent (H' := Own 61 1 (.slice none 0 0) 0 (longI M []) :: Own 61 1 (.slice lo M.length lc) M.length (M.map ListI.hdr) :: (grsI M [] ++ R)) (fun w hw => by rw [grsI_nil]; exact hw.ownNil _ _) ?_
  refine VC.loop (α := List (Option Addr × Nat) × Option Addr × Nat) (fun g => g.1.length ≤ M.length)
    (fun g => Own 61 1 (.slice g.2.1 g.1.length g.2.2) g.1.length (longI M g.1) :: Own 61 1 (.slice lo M.length lc) M.length (M.map ListI.hdr) :: (grsI M g.1 ++ R))
    (fun g => [(0, .slice lo M.length lc), (5, .slice g.2.1 g.1.length g.2.2), (6, .int .i64 g.1.length)]) (fun g => M.length - g.1.length) rfl ([], none, 0) (Nat.zero_le _) Ent.refl ⟨rfl, rfl, rfl, trivial⟩ ?_
  rintro ⟨Gs, go, gc⟩ ha
  dsimp only at ha ⊢
  (refine w ?_; repeat ((first | refine VO.step rfl rfl ?_ | refine VD.end rfl rfl rfl ?_ | refine VD.mid rfl rfl rfl ?_); refine OpV.box rfl rfl rfl ?_; intro _; refine w ?_))
  (refine VC.cond rfl rfl ?_ ?_ <;> intro hc)
  · have hlt : Gs.length < M.length := by have := of_decide_eq_true hc; omega
    obtain ⟨lb, rfl⟩ : ∃ lb, lo = some lb := by cases lo with | none => have := hln rfl; omega | some lb => exact ⟨lb, rfl⟩
    obtain ⟨hla, hxs⟩ := hMl Gs.length hlt
    have hget : (M.map ListI.hdr)[Gs.length]? = some (.slice M[Gs.length].ao M[Gs.length].xs.length M[Gs.length].cap) := by rw [List.getElem?_map, List.getElem?_eq_getElem hlt]; rfl
    have hself : grsI M Gs = (grsI M Gs).set Gs.length M[Gs.length].res := by
      have e1 : (grsI M Gs)[Gs.length]'(by rw [grsI_length]; exact hlt) = M[Gs.length].res := by
        rw [grsI_get M Gs _ hlt, List.getElem?_eq_none (Nat.le_refl _)]
      rw [← e1, List.set_getElem_self]
    have hnext (g : Option Addr × Nat) := grsI_set M Gs g hlt
    have hlnext (g : Option Addr × Nat) := longI_snoc M Gs g hlt
    have hgl := grsI_length M Gs
    generalize hL : grsI M Gs = L at *
    (refine w ?_; repeat ((first | refine VO.step rfl rfl ?_ | refine VD.end rfl rfl rfl ?_ | refine VD.mid rfl rfl rfl ?_); refine OpV.box rfl rfl rfl ?_; intro _; refine w ?_))
    (first | refine VO.pure rfl rfl (PureAt.ldR tab_ok rfl rfl (Rds.own (hdrsI_one M) (.tail _ (.head _)) (by rw [List.length_map, Nat.mul_one]) (fun h => by cases h)) hget) rfl ?_ | refine VD.take rfl rfl rfl (PureAt.ldR tab_ok rfl rfl (Rds.own (hdrsI_one M) (.tail _ (.head _)) (by rw [List.length_map, Nat.mul_one]) (fun h => by cases h)) hget) rfl ?_ | refine VQ.pure rfl rfl (PureAt.ldR tab_ok rfl rfl (Rds.own (hdrsI_one M) (.tail _ (.head _)) (by rw [List.length_map, Nat.mul_one]) (fun h => by cases h)) hget) rfl ?_ | refine VD.end rfl rfl rfl (OpV.pure (PureAt.ldR tab_ok rfl rfl (Rds.own (hdrsI_one M) (.tail _ (.head _)) (by rw [List.length_map, Nat.mul_one]) (fun h => by cases h)) hget) rfl ?_))
    (refine w ?_; repeat ((first | refine VO.step rfl rfl ?_ | refine VD.end rfl rfl rfl ?_ | refine VD.mid rfl rfl rfl ?_); refine OpV.box rfl rfl rfl ?_; intro _; refine w ?_))
    refine VC.loop (α := Nat × Option Addr × Nat) (fun g => g.1 ≤ 16)
      (fun g => Own 61 1 (.slice go Gs.length gc) Gs.length (longI M Gs) :: Own 61 1 (.slice (some lb) M.length lc) M.length (M.map ListI.hdr) :: (L.set Gs.length (twinI Gs.length M[Gs.length] g.2 g.1) ++ R))
      (fun g => [(0, .slice (some lb) M.length lc), (5, .slice go Gs.length gc), (6, .int .i64 Gs.length), (7, .slice g.2.1 (M[Gs.length].xs.length + g.1) g.2.2), (8, .int .i64 g.1)]) (fun g => 16 - g.1) rfl (0, M[Gs.length].ao, M[Gs.length].cap) (Nat.zero_le _)
      (by
        rw [hself, List.set_set]
        refine Ent.hole (Hole.tail (Hole.tail (hole_set L Gs.length _ (by omega)))) (fun R w hw => ?_)
        have := TwinR.start hw
        simpa [twinI, marksITwo] using this) ⟨rfl, rfl, rfl, rfl, rfl, trivial⟩ ?_
    rintro ⟨k, xo, xc⟩ hk
    dsimp only at hk ⊢
    (refine w ?_; repeat ((first | refine VO.step rfl rfl ?_ | refine VD.end rfl rfl rfl ?_ | refine VD.mid rfl rfl rfl ?_); refine OpV.box rfl rfl rfl ?_; intro _; refine w ?_))
    (refine VC.cond rfl rfl ?_ ?_ <;> intro hc)
    · have hkt : k < 16 := by have := of_decide_eq_true hc; omega
      (refine w ?_; repeat ((first | refine VO.step rfl rfl ?_ | refine VD.end rfl rfl rfl ?_ | refine VD.mid rfl rfl rfl ?_); refine OpV.box rfl rfl rfl ?_; intro _; refine w ?_))
      ((first | refine VO.step rfl rfl ?_ | refine VD.end rfl rfl rfl ?_ | refine VD.mid rfl rfl rfl ?_); refine OpV.buildSlice1 st_61 rfl rfl (by first | (simp; done) | simp [Value.oneCell']) (by decide) rfl ?_; intro nb)
      (first | refine VO.step rfl rfl ?_ | refine VD.end rfl rfl rfl ?_ | refine VD.mid rfl rfl rfl ?_)
      refine OpV.appendT (news := [mkI ((-1 - (Gs.length : Int)) * 1000 + (k : Int))]) (m := 1) st_61 rfl rfl (.tail (.tail (.tail (hole_set L Gs.length _ (by omega))))) (fun w hw => (Sees.row (ys := []) (by simp [mkI, Value.oneCell']) rfl hw (.head _)).src st_61.und) ?_ ?_ rfl ?_
      · simp only [maxLen]; omega
      · omega
      intro xo' xc'
      (refine w ?_; repeat ((first | refine VO.step rfl rfl ?_ | refine VD.end rfl rfl rfl ?_ | refine VD.mid rfl rfl rfl ?_); refine OpV.box rfl rfl rfl ?_; intro _; refine w ?_))
      refine VE.round (k + 1, xo', xc') hkt (by simp only; omega) ⟨rfl, rfl, rfl, rfl, rfl, trivial⟩ ?_
      unfold twinI
      rw [marksITwo_succ, ← List.append_assoc]
      exact Reord.ent (Reord.drop .refl)
    · have hge : k = 16 := by have := of_decide_eq_false hc; omega
      subst hge
      rw [hnext]
      (refine w ?_; repeat ((first | refine VO.step rfl rfl ?_ | refine VD.end rfl rfl rfl ?_ | refine VD.mid rfl rfl rfl ?_); refine OpV.box rfl rfl rfl ?_; intro _; refine w ?_))
      ((first | refine VO.step rfl rfl ?_ | refine VD.end rfl rfl rfl ?_ | refine VD.mid rfl rfl rfl ?_); refine OpV.buildSlice1 st_71 rfl rfl (by first | (simp; done) | simp [Value.oneCell']) (by decide) rfl ?_; intro nb)
      ((first | refine VO.step rfl rfl ?_ | refine VD.end rfl rfl rfl ?_ | refine VD.mid rfl rfl rfl ?_); refine OpV.appendRow st_71 rfl rfl (by (repeat first | exact .head | apply Hole.tail)) (by (focus repeat first | exact .head _ | apply List.Mem.tail)) rfl (by first | (simp; done) | simp [Value.oneCell']) ?_ ?_ rfl ?_)
      · simp only [maxLen]; omega
      · omega
      intro go' gc'
      rw [← hlnext (xo, xc)]
      (refine w ?_; repeat ((first | refine VO.step rfl rfl ?_ | refine VD.end rfl rfl rfl ?_ | refine VD.mid rfl rfl rfl ?_); refine OpV.box rfl rfl rfl ?_; intro _; refine w ?_))
      refine VE.round (Gs ++ [(xo, xc)], go', gc') (by rw [List.length_append]; exact hlt) (by simp only [List.length_append, List.length_singleton]; omega) ⟨rfl, asV rfl (by rw [List.length_append]; rfl), asV rfl (by rw [List.length_append]; rfl), trivial⟩ ?_
      dsimp only
      rw [List.length_append]
      exact Ent.re
  have hge : Gs.length = M.length := by have := of_decide_eq_false hc; omega
  clear hc ha
  (refine w ?_; repeat ((first | refine VO.step rfl rfl ?_ | refine VD.end rfl rfl rfl ?_ | refine VD.mid rfl rfl rfl ?_); refine OpV.box rfl rfl rfl ?_; intro _; refine w ?_))
  refine VC.know (p := go = none → Gs.length = 0) (fun w hw => Holds.ownNone hw (.head _)) ?_
  intro hgn
  generalize hH : (Own 61 1 (.slice go Gs.length gc) Gs.length (longI M Gs) :: Own 61 1 (.slice lo M.length lc) M.length (M.map ListI.hdr) :: (grsI M Gs ++ R)) = HH
  have hr1 : Rds W HH 1 lo M.length (M.map ListI.hdr) := by subst hH; exact Rds.own (hdrsI_one M) (.tail _ (.head _)) (by rw [List.length_map, Nat.mul_one]) hln
  have hr2 : Rds W HH 1 go Gs.length (longI M Gs) := by subst hH; exact Rds.own (longI_one M Gs) (.head _) (by rw [longI_length, Nat.mul_one]) hgn
  have hend : Ent W HH R := by
    subst hH
    exact Ent.drop (Ent.drop (fun w hw => by
      have : ∀ (X : List SProp) w, Holds W (X ++ R) w → Holds W R w := fun X => by
        induction X with
        | nil => exact fun w h => h
        | cons a r ih => exact fun w h => ih w h.tail
      exact this _ w hw))
  have htw : ∀ a (h : a < M.length), twinI a M[a] (Gs[a]'(by omega)) 16 ∈ HH := fun a h => by
    subst hH
    refine .tail _ (.tail _ (List.mem_append_left _ (List.mem_iff_getElem.2 ⟨a, by rw [grsI_length]; exact h, ?_⟩)))
    rw [grsI_get M Gs a h, List.getElem?_eq_getElem (by omega)]
  have hlg : ∀ a (h : a < M.length), (longI M Gs)[a]? = some (.slice (Gs[a]'(by omega)).1 (M[a].xs.length + 16) (Gs[a]'(by omega)).2) := fun a h => by
    unfold longI
    rw [List.getElem?_mapIdx, List.getElem?_eq_getElem h, List.getElem?_eq_getElem (l := Gs) (by omega)]; rfl
  clear hH
  refine VC.loop (α := Nat) (fun a => a ≤ M.length) (fun _ => HH)
    (fun a => [(0, .slice lo M.length lc), (5, .slice go Gs.length gc), (9, .int .i64 a)]) (fun a => M.length - a) rfl 0 (Nat.zero_le _) Ent.refl ⟨rfl, rfl, rfl, trivial⟩ ?_
  intro a ha
  (refine w ?_; repeat ((first | refine VO.step rfl rfl ?_ | refine VD.end rfl rfl rfl ?_ | refine VD.mid rfl rfl rfl ?_); refine OpV.box rfl rfl rfl ?_; intro _; refine w ?_))
  (refine VC.cond rfl rfl ?_ ?_ <;> intro hc)
  · have hlt : a < M.length := by have := of_decide_eq_true hc; omega
    obtain ⟨lb, rfl⟩ : ∃ lb, lo = some lb := by cases lo with | none => have := hln rfl; omega | some lb => exact ⟨lb, rfl⟩
    obtain ⟨gb, rfl⟩ : ∃ gb, go = some gb := by cases go with | none => have := hgn rfl; omega | some gb => exact ⟨gb, rfl⟩
    obtain ⟨hla, hxs⟩ := hMl a hlt
    have hget : (M.map ListI.hdr)[a]? = some (.slice M[a].ao M[a].xs.length M[a].cap) := by rw [List.getElem?_map, List.getElem?_eq_getElem hlt]; rfl
    have htw := htw a hlt
    have hlg := hlg a hlt
    have hgl : a < Gs.length := by omega
    generalize Gs[a] = g at *
    generalize M[a] = e at *
    have h1 : ∀ u ∈ e.xs, u.oneCell' = true := by rw [hxs]; exact marksI_one _ _
    have h2 : ∀ u ∈ e.xs ++ marksITwo a 16, u.oneCell' = true := fun u hu => by
      rcases List.mem_append.1 hu with q | q
      · exact h1 u q
      · exact marksITwo_one _ _ u q
    refine VC.know (fun w hw => TwinR.none hw htw) ?_
    rintro ⟨hon, hnn⟩
    have ho : Rds W HH 1 e.ao e.xs.length e.xs := TwinR.rdsOld htw h1 (by rw [Nat.mul_one]) hon
    have hw' : Rds W HH 1 g.1 (e.xs.length + 16) (e.xs ++ marksITwo a 16) := TwinR.rdsNew htw h2 (by rw [List.length_append, marksITwo_length, Nat.mul_one]) hnn
    obtain ⟨gx, hgx⟩ : ∃ gx, g.1 = some gx := by cases h : g.1 with | none => have := hnn h; omega | some gx => exact ⟨gx, rfl⟩
    rw [hgx] at hlg hw'
    (refine w ?_; repeat ((first | refine VO.step rfl rfl ?_ | refine VD.end rfl rfl rfl ?_ | refine VD.mid rfl rfl rfl ?_); refine OpV.box rfl rfl rfl ?_; intro _; refine w ?_))
    (first | refine VO.pure rfl rfl (PureAt.ldR tab_ok rfl rfl hr1 hget) rfl ?_ | refine VD.take rfl rfl rfl (PureAt.ldR tab_ok rfl rfl hr1 hget) rfl ?_ | refine VQ.pure rfl rfl (PureAt.ldR tab_ok rfl rfl hr1 hget) rfl ?_ | refine VD.end rfl rfl rfl (OpV.pure (PureAt.ldR tab_ok rfl rfl hr1 hget) rfl ?_))
    (refine w ?_; repeat ((first | refine VO.step rfl rfl ?_ | refine VD.end rfl rfl rfl ?_ | refine VD.mid rfl rfl rfl ?_); refine OpV.box rfl rfl rfl ?_; intro _; refine w ?_))
    refine VC.loop (α := Nat) (fun k => k ≤ e.xs.length) (fun _ => HH)
      (fun k => [(0, .slice (some lb) M.length lc), (5, .slice (some gb) Gs.length gc), (9, .int .i64 a), (10, .int .i64 e.xs.length), (11, .int .i64 k)]) (fun k => e.xs.length - k) rfl 0 (Nat.zero_le _) Ent.refl ⟨rfl, rfl, rfl, rfl, rfl, trivial⟩ ?_
    intro k hk
    (refine w ?_; repeat ((first | refine VO.step rfl rfl ?_ | refine VD.end rfl rfl rfl ?_ | refine VD.mid rfl rfl rfl ?_); refine OpV.box rfl rfl rfl ?_; intro _; refine w ?_))
    (refine VC.cond rfl rfl ?_ ?_ <;> intro hc)
    · have hkt : k < e.xs.length := by have := of_decide_eq_true hc; omega
      obtain ⟨ox, hox⟩ : ∃ ox, e.ao = some ox := by cases h : e.ao with | none => have := hon h; omega | some ox => exact ⟨ox, rfl⟩
      rw [hox] at hget ho
      have hk1 : e.xs[k]? = some (mkI ((a : Int) * 1000 + (k : Int))) := by rw [hxs]; exact marksI_get a _ k hkt
      have hk2 : (e.xs ++ marksITwo a 16)[k]? = some (mkI ((a : Int) * 1000 + (k : Int))) := by rw [List.getElem?_append_left hkt]; exact hk1
      (refine w ?_; repeat ((first | refine VO.step rfl rfl ?_ | refine VD.end rfl rfl rfl ?_ | refine VD.mid rfl rfl rfl ?_); refine OpV.box rfl rfl rfl ?_; intro _; refine w ?_))
      (first | refine VO.pure rfl rfl (PureAt.ldR tab_ok rfl rfl hr1 hget) rfl ?_ | refine VD.take rfl rfl rfl (PureAt.ldR tab_ok rfl rfl hr1 hget) rfl ?_ | refine VQ.pure rfl rfl (PureAt.ldR tab_ok rfl rfl hr1 hget) rfl ?_ | refine VD.end rfl rfl rfl (OpV.pure (PureAt.ldR tab_ok rfl rfl hr1 hget) rfl ?_))
      (refine w ?_; repeat ((first | refine VO.step rfl rfl ?_ | refine VD.end rfl rfl rfl ?_ | refine VD.mid rfl rfl rfl ?_); refine OpV.box rfl rfl rfl ?_; intro _; refine w ?_))
      (first | refine VO.pure rfl rfl (PureAt.ldR tab_ok rfl rfl ho hk1) rfl ?_ | refine VD.take rfl rfl rfl (PureAt.ldR tab_ok rfl rfl ho hk1) rfl ?_ | refine VQ.pure rfl rfl (PureAt.ldR tab_ok rfl rfl ho hk1) rfl ?_ | refine VD.end rfl rfl rfl (OpV.pure (PureAt.ldR tab_ok rfl rfl ho hk1) rfl ?_))
      (refine w ?_; repeat ((first | refine VO.step rfl rfl ?_ | refine VD.end rfl rfl rfl ?_ | refine VD.mid rfl rfl rfl ?_); refine OpV.box rfl rfl rfl ?_; intro _; refine w ?_))
      (first | refine VO.gF rfl rfl rfl (by simp) ?_ | refine VD.gF rfl rfl rfl (by simp) ?_)
      (refine w ?_; repeat ((first | refine VO.step rfl rfl ?_ | refine VD.end rfl rfl rfl ?_ | refine VD.mid rfl rfl rfl ?_); refine OpV.box rfl rfl rfl ?_; intro _; refine w ?_))
      (first | refine VO.pure rfl rfl (PureAt.ldR tab_ok rfl rfl hr2 hlg) rfl ?_ | refine VD.take rfl rfl rfl (PureAt.ldR tab_ok rfl rfl hr2 hlg) rfl ?_ | refine VQ.pure rfl rfl (PureAt.ldR tab_ok rfl rfl hr2 hlg) rfl ?_ | refine VD.end rfl rfl rfl (OpV.pure (PureAt.ldR tab_ok rfl rfl hr2 hlg) rfl ?_))
      (refine w ?_; repeat ((first | refine VO.step rfl rfl ?_ | refine VD.end rfl rfl rfl ?_ | refine VD.mid rfl rfl rfl ?_); refine OpV.box rfl rfl rfl ?_; intro _; refine w ?_))
      (first | refine VO.pure rfl rfl (PureAt.ldR tab_ok rfl rfl hw' hk2) rfl ?_ | refine VD.take rfl rfl rfl (PureAt.ldR tab_ok rfl rfl hw' hk2) rfl ?_ | refine VQ.pure rfl rfl (PureAt.ldR tab_ok rfl rfl hw' hk2) rfl ?_ | refine VD.end rfl rfl rfl (OpV.pure (PureAt.ldR tab_ok rfl rfl hw' hk2) rfl ?_))
      (refine w ?_; repeat ((first | refine VO.step rfl rfl ?_ | refine VD.end rfl rfl rfl ?_ | refine VD.mid rfl rfl rfl ?_); refine OpV.box rfl rfl rfl ?_; intro _; refine w ?_))
      (refine VC.condFe rfl rfl (by simp) ?_)
      (refine w ?_; repeat ((first | refine VO.step rfl rfl ?_ | refine VD.end rfl rfl rfl ?_ | refine VD.mid rfl rfl rfl ?_); refine OpV.box rfl rfl rfl ?_; intro _; refine w ?_))
      exact VE.round (k + 1) hkt (by omega) ⟨rfl, rfl, rfl, rfl, rfl, trivial⟩ Ent.refl
    · (refine w ?_; repeat ((first | refine VO.step rfl rfl ?_ | refine VD.end rfl rfl rfl ?_ | refine VD.mid rfl rfl rfl ?_); refine OpV.box rfl rfl rfl ?_; intro _; refine w ?_))
      refine VC.loop (α := Nat) (fun k => k ≤ 16) (fun _ => HH)
        (fun k => [(0, .slice (some lb) M.length lc), (5, .slice (some gb) Gs.length gc), (9, .int .i64 a), (10, .int .i64 e.xs.length), (12, .int .i64 k)]) (fun k => 16 - k) rfl 0 (Nat.zero_le _) Ent.refl ⟨rfl, rfl, rfl, rfl, rfl, trivial⟩ ?_
      intro k hk
      (refine w ?_; repeat ((first | refine VO.step rfl rfl ?_ | refine VD.end rfl rfl rfl ?_ | refine VD.mid rfl rfl rfl ?_); refine OpV.box rfl rfl rfl ?_; intro _; refine w ?_))
      (refine VC.cond rfl rfl ?_ ?_ <;> intro hc)
      · have hkt : k < 16 := by have := of_decide_eq_true hc; omega
        have hk2 : (e.xs ++ marksITwo a 16)[e.xs.length + k]? = some (mkI ((-1 - (a : Int)) * 1000 + (k : Int))) := by
          rw [List.getElem?_append_right (by omega), Nat.add_sub_cancel_left]; exact marksITwo_get a 16 k hkt
        (refine w ?_; repeat ((first | refine VO.step rfl rfl ?_ | refine VD.end rfl rfl rfl ?_ | refine VD.mid rfl rfl rfl ?_); refine OpV.box rfl rfl rfl ?_; intro _; refine w ?_))
        (first | refine VO.pure rfl rfl (PureAt.ldR tab_ok rfl rfl hr2 hlg) rfl ?_ | refine VD.take rfl rfl rfl (PureAt.ldR tab_ok rfl rfl hr2 hlg) rfl ?_ | refine VQ.pure rfl rfl (PureAt.ldR tab_ok rfl rfl hr2 hlg) rfl ?_ | refine VD.end rfl rfl rfl (OpV.pure (PureAt.ldR tab_ok rfl rfl hr2 hlg) rfl ?_))
        (first | (first | refine VO.nil rfl ?_ | refine VQ.nil rfl ?_ | refine VD.nil ?_ | ((first | apply VO.pure rfl rfl | apply VQ.pure rfl rfl | apply VD.take rfl rfl rfl | (refine VD.end rfl rfl rfl ?_; apply OpV.pure)); (first | (apply PureAt.ar64 rfl rfl rfl; omega) | exact .eval tab_ok rfl | (apply PureAt.ld tab_ok rfl rfl; (focus repeat first | exact .head _ | apply List.Mem.tail); rfl) | (apply PureAt.shr rfl rfl (by decide) (by decide)) | (apply PureAt.shr rfl rfl (by omega) (by simp only [IntKind.bits]; omega)) | exact .fieldAddrA tab_ok rfl rfl | exact .sliceLH tab_ok rfl rfl rfl rfl (by omega) (by omega) | exact .sliceH tab_ok rfl rfl rfl (by omega) | exact .sliceL tab_ok rfl rfl rfl (by omega) | (first | exact .indexAddr tab_ok rfl rfl rfl rfl (by omega) | exact .indexAddrN tab_ok rfl rfl rfl rfl (by omega) | exact .ldR tab_ok rfl rfl hr1 (List.getElem?_eq_getElem (by omega)) | exact .ldR tab_ok rfl rfl hr2 (List.getElem?_eq_getElem (by omega)) | exact ldB tab_ok rfl rfl hb1 (by omega) | exact ldB tab_ok rfl rfl hb2 (by omega)) | (apply PureAt.ldA tab_ok rfl rfl; (focus repeat first | exact .head _ | apply List.Mem.tail); rfl; rfl) | exact .ldro tab_ok rfl rfl (by assumption)); rfl) | refine VO.skip rfl rfl rfl rfl ?_ | refine VQ.skip rfl rfl rfl rfl ?_ | refine VD.skip rfl rfl rfl rfl rfl ?_ | ((first | refine VO.step rfl rfl ?_ | refine VD.end rfl rfl rfl ?_ | refine VD.mid rfl rfl rfl ?_); (first | (apply OpV.st tab_ok rfl rfl rfl rfl (by (repeat first | exact .head | apply Hole.tail)) (by simp)) | (refine OpV.box rfl rfl rfl ?_; intro _))) | refine ⟨Ent.re, ?_⟩) | (first | refine VC.seq rfl ?_ | refine VC.region rfl ?_ | refine VC.condT rfl rfl ?_ | refine VC.condF rfl rfl ?_ | refine VC.block rfl ?_ | refine VC.skip rfl ?_ | refine VC.ret rfl ?_ | refine VC.exit rfl ?_) | (first | refine VE.next ?_ | refine VE.passRet ?_ | refine VE.passExit ?_ | refine VE.blockNormal ?_ | refine VE.blockHit ?_ | refine VE.blockMiss rfl ?_ | refine VE.blockRet ?_ | refine VE.loopRet ?_ | refine VE.loopExit ?_))
        (first | (first | refine VO.nil rfl ?_ | refine VQ.nil rfl ?_ | refine VD.nil ?_ | ((first | apply VO.pure rfl rfl | apply VQ.pure rfl rfl | apply VD.take rfl rfl rfl | (refine VD.end rfl rfl rfl ?_; apply OpV.pure)); (first | (apply PureAt.ar64 rfl rfl rfl; omega) | exact .eval tab_ok rfl | (apply PureAt.ld tab_ok rfl rfl; (focus repeat first | exact .head _ | apply List.Mem.tail); rfl) | (apply PureAt.shr rfl rfl (by decide) (by decide)) | (apply PureAt.shr rfl rfl (by omega) (by simp only [IntKind.bits]; omega)) | exact .fieldAddrA tab_ok rfl rfl | exact .sliceLH tab_ok rfl rfl rfl rfl (by omega) (by omega) | exact .sliceH tab_ok rfl rfl rfl (by omega) | exact .sliceL tab_ok rfl rfl rfl (by omega) | (first | exact .indexAddr tab_ok rfl rfl rfl rfl (by omega) | exact .indexAddrN tab_ok rfl rfl rfl rfl (by omega) | exact .ldR tab_ok rfl rfl hr1 (List.getElem?_eq_getElem (by omega)) | exact .ldR tab_ok rfl rfl hr2 (List.getElem?_eq_getElem (by omega)) | exact ldB tab_ok rfl rfl hb1 (by omega) | exact ldB tab_ok rfl rfl hb2 (by omega)) | (apply PureAt.ldA tab_ok rfl rfl; (focus repeat first | exact .head _ | apply List.Mem.tail); rfl; rfl) | exact .ldro tab_ok rfl rfl (by assumption)); rfl) | refine VO.skip rfl rfl rfl rfl ?_ | refine VQ.skip rfl rfl rfl rfl ?_ | refine VD.skip rfl rfl rfl rfl rfl ?_ | ((first | refine VO.step rfl rfl ?_ | refine VD.end rfl rfl rfl ?_ | refine VD.mid rfl rfl rfl ?_); (first | (apply OpV.st tab_ok rfl rfl rfl rfl (by (repeat first | exact .head | apply Hole.tail)) (by simp)) | (refine OpV.box rfl rfl rfl ?_; intro _))) | refine ⟨Ent.re, ?_⟩) | (first | refine VC.seq rfl ?_ | refine VC.region rfl ?_ | refine VC.condT rfl rfl ?_ | refine VC.condF rfl rfl ?_ | refine VC.block rfl ?_ | refine VC.skip rfl ?_ | refine VC.ret rfl ?_ | refine VC.exit rfl ?_) | (first | refine VE.next ?_ | refine VE.passRet ?_ | refine VE.passExit ?_ | refine VE.blockNormal ?_ | refine VE.blockHit ?_ | refine VE.blockMiss rfl ?_ | refine VE.blockRet ?_ | refine VE.loopRet ?_ | refine VE.loopExit ?_))
        (first | (first | refine VO.nil rfl ?_ | refine VQ.nil rfl ?_ | refine VD.nil ?_ | ((first | apply VO.pure rfl rfl | apply VQ.pure rfl rfl | apply VD.take rfl rfl rfl | (refine VD.end rfl rfl rfl ?_; apply OpV.pure)); (first | (apply PureAt.ar64 rfl rfl rfl; omega) | exact .eval tab_ok rfl | (apply PureAt.ld tab_ok rfl rfl; (focus repeat first | exact .head _ | apply List.Mem.tail); rfl) | (apply PureAt.shr rfl rfl (by decide) (by decide)) | (apply PureAt.shr rfl rfl (by omega) (by simp only [IntKind.bits]; omega)) | exact .fieldAddrA tab_ok rfl rfl | exact .sliceLH tab_ok rfl rfl rfl rfl (by omega) (by omega) | exact .sliceH tab_ok rfl rfl rfl (by omega) | exact .sliceL tab_ok rfl rfl rfl (by omega) | (first | exact .indexAddr tab_ok rfl rfl rfl rfl (by omega) | exact .indexAddrN tab_ok rfl rfl rfl rfl (by omega) | exact .ldR tab_ok rfl rfl hr1 (List.getElem?_eq_getElem (by omega)) | exact .ldR tab_ok rfl rfl hr2 (List.getElem?_eq_getElem (by omega)) | exact ldB tab_ok rfl rfl hb1 (by omega) | exact ldB tab_ok rfl rfl hb2 (by omega)) | (apply PureAt.ldA tab_ok rfl rfl; (focus repeat first | exact .head _ | apply List.Mem.tail); rfl; rfl) | exact .ldro tab_ok rfl rfl (by assumption)); rfl) | refine VO.skip rfl rfl rfl rfl ?_ | refine VQ.skip rfl rfl rfl rfl ?_ | refine VD.skip rfl rfl rfl rfl rfl ?_ | ((first | refine VO.step rfl rfl ?_ | refine VD.end rfl rfl rfl ?_ | refine VD.mid rfl rfl rfl ?_); (first | (apply OpV.st tab_ok rfl rfl rfl rfl (by (repeat first | exact .head | apply Hole.tail)) (by simp)) | (refine OpV.box rfl rfl rfl ?_; intro _))) | refine ⟨Ent.re, ?_⟩) | (first | refine VC.seq rfl ?_ | refine VC.region rfl ?_ | refine VC.condT rfl rfl ?_ | refine VC.condF rfl rfl ?_ | refine VC.block rfl ?_ | refine VC.skip rfl ?_ | refine VC.ret rfl ?_ | refine VC.exit rfl ?_) | (first | refine VE.next ?_ | refine VE.passRet ?_ | refine VE.passExit ?_ | refine VE.blockNormal ?_ | refine VE.blockHit ?_ | refine VE.blockMiss rfl ?_ | refine VE.blockRet ?_ | refine VE.loopRet ?_ | refine VE.loopExit ?_))
        refine VO.re 116 (.int .i64 ((e.xs.length + k : Nat) : Int)) rfl (by congr 1) ?_
        (refine w ?_; repeat ((first | refine VO.step rfl rfl ?_ | refine VD.end rfl rfl rfl ?_ | refine VD.mid rfl rfl rfl ?_); refine OpV.box rfl rfl rfl ?_; intro _; refine w ?_))
        (first | refine VO.pure rfl rfl (PureAt.ldR tab_ok rfl rfl hw' hk2) rfl ?_ | refine VD.take rfl rfl rfl (PureAt.ldR tab_ok rfl rfl hw' hk2) rfl ?_ | refine VQ.pure rfl rfl (PureAt.ldR tab_ok rfl rfl hw' hk2) rfl ?_ | refine VD.end rfl rfl rfl (OpV.pure (PureAt.ldR tab_ok rfl rfl hw' hk2) rfl ?_))
        (refine w ?_; repeat ((first | refine VO.step rfl rfl ?_ | refine VD.end rfl rfl rfl ?_ | refine VD.mid rfl rfl rfl ?_); refine OpV.box rfl rfl rfl ?_; intro _; refine w ?_))
        (refine VC.condFe rfl rfl (by simp) ?_)
        (refine w ?_; repeat ((first | refine VO.step rfl rfl ?_ | refine VD.end rfl rfl rfl ?_ | refine VD.mid rfl rfl rfl ?_); refine OpV.box rfl rfl rfl ?_; intro _; refine w ?_))
        exact VE.round (k + 1) hkt (by omega) ⟨rfl, rfl, rfl, rfl, rfl, trivial⟩ Ent.refl
      · (refine w ?_; repeat ((first | refine VO.step rfl rfl ?_ | refine VD.end rfl rfl rfl ?_ | refine VD.mid rfl rfl rfl ?_); refine OpV.box rfl rfl rfl ?_; intro _; refine w ?_))
        exact VE.round (a + 1) hlt (by omega) ⟨rfl, rfl, rfl, trivial⟩ Ent.refl
  · (refine w ?_; repeat ((first | refine VO.step rfl rfl ?_ | refine VD.end rfl rfl rfl ?_ | refine VD.mid rfl rfl rfl ?_); refine OpV.box rfl rfl rfl ?_; intro _; refine w ?_))
    (refine VE.done1 rfl ?_ ?_)
    · rfl
    · exact hend
end Go.Proofs.Ythefmgmgmoanlaa
