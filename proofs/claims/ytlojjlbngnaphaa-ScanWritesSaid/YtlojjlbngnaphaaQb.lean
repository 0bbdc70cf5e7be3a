/- The document's book: lists of patches that are its owner's own. Written by gen_own.py. -/
import Derived.Test.YtlojjlbngnaphaaQz
set_option maxRecDepth 8000
set_option linter.unusedVariables false
set_option linter.unusedSimpArgs false
set_option linter.unusedSectionVars false
namespace Go.Proofs.Ytlojjlbngnaphaa
open Go.RowKit Go.Sl
attribute [local irreducible] Own
namespace Pt

def mk (z : Int) : List Value := [.int .i64 0, .int .i64 z, .slice none 0 0]
abbrev val (z : Int) : Value := .int .i64 z
def marks (a m : Nat) : List Value := (List.range m).flatMap fun (k : Nat) => mk ((a : Int) * 1000 + (k : Int))
def marks2 (a m : Nat) : List Value := (List.range m).flatMap fun (k : Nat) => mk ((-1 - (a : Int)) * 1000 + (k : Int))
theorem marks_length (a m : Nat) : (marks a m).length = m * 3 := by
  have := flat_length (w := 3) (g := fun (k : Nat) => mk ((a : Int) * 1000 + (k : Int))) (List.range m) (fun _ _ => rfl); rwa [List.length_range] at this
theorem marks2_length (a m : Nat) : (marks2 a m).length = m * 3 := by
  have := flat_length (w := 3) (g := fun (k : Nat) => mk ((-1 - (a : Int)) * 1000 + (k : Int))) (List.range m) (fun _ _ => rfl); rwa [List.length_range] at this
theorem marks_succ (a m : Nat) : marks a (m + 1) = marks a m ++ mk ((a : Int) * 1000 + (m : Int)) := by unfold marks; rw [List.range_succ, List.flatMap_append]; simp
theorem marks2_succ (a m : Nat) : marks2 a (m + 1) = marks2 a m ++ mk ((-1 - (a : Int)) * 1000 + (m : Int)) := by unfold marks2; rw [List.range_succ, List.flatMap_append]; simp
theorem mk_one (z : Int) : ∀ u ∈ mk z, u.oneCell' = true := by simp [mk, Value.oneCell']
theorem marks_one (a m : Nat) : ∀ u ∈ marks a m, u.oneCell' = true := by
  intro u hu; obtain ⟨k, _, h⟩ := List.mem_flatMap.1 hu; exact mk_one _ u h
theorem marks2_one (a m : Nat) : ∀ u ∈ marks2 a m, u.oneCell' = true := by
  intro u hu; obtain ⟨k, _, h⟩ := List.mem_flatMap.1 hu; exact mk_one _ u h
theorem marks_get (a m k : Nat) (h : k < m) : (marks a m)[k * 3 + 1]? = some (val ((a : Int) * 1000 + (k : Int))) := by
  have := flat_at (w := 3) (g := fun (k : Nat) => mk ((a : Int) * 1000 + (k : Int))) (List.range m) k 1 (by rw [List.length_range]; exact h) (fun _ _ => rfl) (by decide)
  rw [List.getElem_range] at this
  exact this
theorem marks2_get (a m k : Nat) (h : k < m) : (marks2 a m)[k * 3 + 1]? = some (val ((-1 - (a : Int)) * 1000 + (k : Int))) := by
  have := flat_at (w := 3) (g := fun (k : Nat) => mk ((-1 - (a : Int)) * 1000 + (k : Int))) (List.range m) k 1 (by rw [List.length_range]; exact h) (fun _ _ => rfl) (by decide)
  rw [List.getElem_range] at this
  exact this
def res (e : ListN) : SProp := Own 78 3 (.slice e.ao e.n e.cap) e.n e.xs
/-- The lists, the first so many of them marked. -/
def mkd (E : List ListN) (a : Nat) : List ListN := E.mapIdx fun j e => if j < a then ⟨e.ao, e.cap, e.n, marks j e.n⟩ else e
theorem mkd_length (E : List ListN) (a : Nat) : (mkd E a).length = E.length := by simp [mkd]
theorem mkd_get (E : List ListN) (a j : Nat) (h : j < E.length) : (mkd E a)[j]'(by rw [mkd_length]; exact h) = if j < a then ⟨E[j].ao, E[j].cap, E[j].n, marks j E[j].n⟩ else E[j] := by simp [mkd]
theorem mkd_zero (E : List ListN) : mkd E 0 = E := by
  unfold mkd; apply List.ext_getElem (by simp); intro i h1 h2; simp
theorem mkd_set (E : List ListN) (a : Nat) (h : a < E.length) : (mkd E a).set a ⟨E[a].ao, E[a].cap, E[a].n, marks a E[a].n⟩ = mkd E (a + 1) := by
  apply List.ext_getElem (by simp [mkd_length])
  intro j h1 h2
  have hj : j < E.length := by simpa [mkd_length] using h2
  rw [List.getElem_set, mkd_get E (a + 1) j hj]
  split
  · rename_i q; subst q; rw [if_pos (Nat.lt_succ_self _)]
  · rename_i q
    rw [mkd_get E a j hj]
    by_cases q2 : j < a
    · rw [if_pos q2, if_pos (by omega)]
    · rw [if_neg q2, if_neg (by omega)]
/-- The lists, the first of them with what has grown out of them. -/
def twin (j : Nat) (e : ListN) (g : Option Addr × Nat) (m : Nat) : SProp := TwinR 78 3 e.ao e.cap e.n e.xs g.1 g.2 (e.n + m) (e.xs ++ marks2 j m)
def grs (M : List ListN) (Gs : List (Option Addr × Nat)) : List SProp := M.mapIdx fun j e => match Gs[j]? with
  | some g => twin j e g 16
  | none => res e
theorem grs_length (M : List ListN) (Gs : List (Option Addr × Nat)) : (grs M Gs).length = M.length := by simp [grs]
theorem grs_nil (M : List ListN) : grs M [] = M.map res := by
  unfold grs; apply List.ext_getElem (by simp); intro i h1 h2; simp
theorem grs_get (M : List ListN) (Gs : List (Option Addr × Nat)) (j : Nat) (h : j < M.length) : (grs M Gs)[j]'(by rw [grs_length]; exact h) = match Gs[j]? with
  | some g => twin j M[j] g 16
  | none => res M[j] := by simp [grs]
theorem grs_set (M : List ListN) (Gs : List (Option Addr × Nat)) (g : Option Addr × Nat) (h : Gs.length < M.length) : (grs M Gs).set Gs.length (twin Gs.length M[Gs.length] g 16) = grs M (Gs ++ [g]) := by
  apply List.ext_getElem (by simp [grs_length])
  intro j h1 h2
  have hj : j < M.length := by simpa [grs_length] using h2
  rw [List.getElem_set, grs_get M (Gs ++ [g]) j hj]
  split
  · rename_i q; subst q; rw [List.getElem?_append_right (Nat.le_refl _)]; simp
  · rename_i q
    rw [grs_get M Gs j hj]
    by_cases q2 : j < Gs.length
    · rw [List.getElem?_append_left q2]
    · rw [List.getElem?_eq_none (by omega), List.getElem?_eq_none (by simp; omega)]
def longH (M : List ListN) (Gs : List (Option Addr × Nat)) : List Value := Gs.mapIdx fun j g => .slice g.1 (((M[j]?).map fun e => e.n).getD 0 + 16) g.2
theorem longH_length (M : List ListN) (Gs : List (Option Addr × Nat)) : (longH M Gs).length = Gs.length := by simp [longH]
theorem longH_snoc (M : List ListN) (Gs : List (Option Addr × Nat)) (g : Option Addr × Nat) (h : Gs.length < M.length) : longH M (Gs ++ [g]) = longH M Gs ++ [.slice g.1 (M[Gs.length].n + 16) g.2] := by
  unfold longH
  rw [List.mapIdx_append]
  congr 1
  simp [List.getElem?_eq_getElem h]
theorem longH_one (M : List ListN) (Gs : List (Option Addr × Nat)) : ∀ u ∈ longH M Gs, u.oneCell' = true := by
  intro u hu
  obtain ⟨j, hj, rfl⟩ := List.mem_iff_getElem.1 hu
  simp [longH, Value.oneCell']
set_option maxHeartbeats 8000000 in
theorem own_ok {W : World} {R : List SProp} {lo : Option Addr} {lc : Nat} {E : List ListN} (hn : E.length ≤ 1000000000) (hl : ∀ e ∈ E, e.n ≤ 1000000000) :
    Does1 W Try.prog 53 [.slice lo E.length lc] (Own 23 1 (.slice lo E.length lc) E.length (E.map ListN.hdr) :: (E.map res ++ R)) (.bool true) R := by
  (refine Does.enter Try.func53 Try.ntmps53 rfl rfl ?_)
  refine VC.know (p := lo = none → E.length = 0) (fun w hw => hw.ownNone (.head _)) ?_
  intro hln
  (refine w ?_; repeat ((first | refine VO.step rfl rfl ?_ | refine VD.end rfl rfl rfl ?_ | refine VD.mid rfl rfl rfl ?_); refine OpV.box rfl rfl rfl ?_; intro _; refine w ?_))
  refine VC.loop (α := Nat) (fun a => a ≤ E.length) (fun a => Own 23 1 (.slice lo E.length lc) E.length (E.map ListN.hdr) :: ((mkd E a).map res ++ R)) (fun a => [(0, .slice lo E.length lc), (3, .int .i64 a)]) (fun a => E.length - a) rfl 0 (Nat.zero_le _) (by rw [mkd_zero]; exact Ent.refl) ⟨rfl, rfl, trivial⟩ ?_
  intro a ha
  (refine w ?_; repeat ((first | refine VO.step rfl rfl ?_ | refine VD.end rfl rfl rfl ?_ | refine VD.mid rfl rfl rfl ?_); refine OpV.box rfl rfl rfl ?_; intro _; refine w ?_))
  (refine VC.cond rfl rfl ?_ ?_ <;> intro hc)
  · have hlt : a < E.length := by have := of_decide_eq_true hc; omega
    obtain ⟨lb, rfl⟩ : ∃ lb, lo = some lb := by cases lo with | none => have := hln rfl; omega | some lb => exact ⟨lb, rfl⟩
    have hla := hl _ (List.getElem_mem hlt)
    have hget : (E.map ListN.hdr)[a]? = some (.slice E[a].ao E[a].n E[a].cap) := by rw [List.getElem?_map, List.getElem?_eq_getElem hlt]; rfl
    have hmlen : ((mkd E a).map res).length = E.length := by rw [List.length_map, mkd_length]
    have hself : (mkd E a).map res = ((mkd E a).map res).set a (Own 78 3 (.slice E[a].ao E[a].n E[a].cap) E[a].n (marks a 0 ++ E[a].xs.drop (0 * 3))) := by
      have e1 : ((mkd E a).map res)[a]'(by rw [hmlen]; exact hlt) = Own 78 3 (.slice E[a].ao E[a].n E[a].cap) E[a].n (marks a 0 ++ E[a].xs.drop (0 * 3)) := by
        rw [List.getElem_map, mkd_get E a a hlt, if_neg (Nat.lt_irrefl _)]; rfl
      rw [← e1, List.set_getElem_self]
    have hnext : ((mkd E a).map res).set a (Own 78 3 (.slice E[a].ao E[a].n E[a].cap) E[a].n (marks a E[a].n)) = (mkd E (a + 1)).map res := by
      rw [← mkd_set E a hlt, List.map_set]; rfl
    generalize hL : (mkd E a).map res = L at *
    (refine w ?_; repeat ((first | refine VO.step rfl rfl ?_ | refine VD.end rfl rfl rfl ?_ | refine VD.mid rfl rfl rfl ?_); refine OpV.box rfl rfl rfl ?_; intro _; refine w ?_))
    refine VC.loop (α := Nat) (fun k => k ≤ E[a].n) (fun k => Own 23 1 (.slice (some lb) E.length lc) E.length (E.map ListN.hdr) :: (L.set a (Own 78 3 (.slice E[a].ao E[a].n E[a].cap) E[a].n (marks a k ++ E[a].xs.drop (k * 3))) ++ R))
      (fun k => [(0, .slice (some lb) E.length lc), (3, .int .i64 a), (4, .int .i64 k)]) (fun k => E[a].n - k) rfl 0 (Nat.zero_le _) (by rw [← hself]; exact Ent.refl) ⟨rfl, rfl, rfl, trivial⟩ ?_
    intro k hk
    refine VC.know (p := E[a].ao = none → E[a].n = 0) (fun w hw => Holds.ownNone hw (.tail _ (mem_set L a _ (by omega)))) ?_
    intro han
    refine VC.know (fun w hw => Holds.ownLen hw (.tail _ (mem_set L a _ (by omega)))) ?_
    intro hlen
    (refine w ?_; repeat ((first | refine VO.step rfl rfl ?_ | refine VD.end rfl rfl rfl ?_ | refine VD.mid rfl rfl rfl ?_); refine OpV.box rfl rfl rfl ?_; intro _; refine w ?_))
    (first | refine VO.pure rfl rfl (PureAt.ldR tab_ok rfl rfl (Rds.own (ListN.hdrs_one E) (.head _) (by rw [List.length_map, Nat.mul_one]) (fun h => by cases h)) hget) rfl ?_ | refine VD.take rfl rfl rfl (PureAt.ldR tab_ok rfl rfl (Rds.own (ListN.hdrs_one E) (.head _) (by rw [List.length_map, Nat.mul_one]) (fun h => by cases h)) hget) rfl ?_ | refine VQ.pure rfl rfl (PureAt.ldR tab_ok rfl rfl (Rds.own (ListN.hdrs_one E) (.head _) (by rw [List.length_map, Nat.mul_one]) (fun h => by cases h)) hget) rfl ?_ | refine VD.end rfl rfl rfl (OpV.pure (PureAt.ldR tab_ok rfl rfl (Rds.own (ListN.hdrs_one E) (.head _) (by rw [List.length_map, Nat.mul_one]) (fun h => by cases h)) hget) rfl ?_))
    (refine w ?_; repeat ((first | refine VO.step rfl rfl ?_ | refine VD.end rfl rfl rfl ?_ | refine VD.mid rfl rfl rfl ?_); refine OpV.box rfl rfl rfl ?_; intro _; refine w ?_))
    (refine VC.cond rfl rfl ?_ ?_ <;> intro hc)
    · have hkt : k < E[a].n := by have := of_decide_eq_true hc; omega
      obtain ⟨xa, hxa⟩ : ∃ xa, E[a].ao = some xa := by cases h : E[a].ao with | none => have := han h; omega | some xa => exact ⟨xa, rfl⟩
      rw [hxa] at hget ⊢
      (refine w ?_; repeat ((first | refine VO.step rfl rfl ?_ | refine VD.end rfl rfl rfl ?_ | refine VD.mid rfl rfl rfl ?_); refine OpV.box rfl rfl rfl ?_; intro _; refine w ?_))
      (first | refine VO.pure rfl rfl (PureAt.ldR tab_ok rfl rfl (Rds.own (ListN.hdrs_one E) (.head _) (by rw [List.length_map, Nat.mul_one]) (fun h => by cases h)) hget) rfl ?_ | refine VD.take rfl rfl rfl (PureAt.ldR tab_ok rfl rfl (Rds.own (ListN.hdrs_one E) (.head _) (by rw [List.length_map, Nat.mul_one]) (fun h => by cases h)) hget) rfl ?_ | refine VQ.pure rfl rfl (PureAt.ldR tab_ok rfl rfl (Rds.own (ListN.hdrs_one E) (.head _) (by rw [List.length_map, Nat.mul_one]) (fun h => by cases h)) hget) rfl ?_ | refine VD.end rfl rfl rfl (OpV.pure (PureAt.ldR tab_ok rfl rfl (Rds.own (ListN.hdrs_one E) (.head _) (by rw [List.length_map, Nat.mul_one]) (fun h => by cases h)) hget) rfl ?_))
      (refine w ?_; repeat ((first | refine VO.step rfl rfl ?_ | refine VD.end rfl rfl rfl ?_ | refine VD.mid rfl rfl rfl ?_); refine OpV.box rfl rfl rfl ?_; intro _; refine w ?_))
      (apply VO.pure rfl rfl; apply PureAt.build sb_78 rfl; (simp [buildX, setL, Value.cells]; rfl); rfl)
      (refine w ?_; repeat ((first | refine VO.step rfl rfl ?_ | refine VD.end rfl rfl rfl ?_ | refine VD.mid rfl rfl rfl ?_); refine OpV.box rfl rfl rfl ?_; intro _; refine w ?_))
      (first | refine VO.step rfl rfl ?_ | refine VD.end rfl rfl rfl ?_ | refine VD.mid rfl rfl rfl ?_)
      refine OpV.stOA (vs := mk ((a : Int) * 1000 + (k : Int))) tab_ok rfl rfl rfl rfl (mk_one _) (.tail (hole_set L a _ (by omega))) (by rw [hlen]; omega) ?_
      have hset : (marks a k ++ E[a].xs.drop (k * 3)).take (k * 3) ++ mk ((a : Int) * 1000 + (k : Int)) ++ (marks a k ++ E[a].xs.drop (k * 3)).drop (k * 3 + 3) = marks a (k + 1) ++ E[a].xs.drop ((k + 1) * 3) := by
        rw [List.take_left' (marks_length a k), marks_succ, List.drop_append, marks_length, List.drop_of_length_le (by rw [marks_length]; omega), List.nil_append, List.drop_drop]
        congr 2
        omega
      rw [hset]
      (refine w ?_; repeat ((first | refine VO.step rfl rfl ?_ | refine VD.end rfl rfl rfl ?_ | refine VD.mid rfl rfl rfl ?_); refine OpV.box rfl rfl rfl ?_; intro _; refine w ?_))
      exact VE.round (k + 1) hkt (by omega) ⟨rfl, rfl, rfl, trivial⟩ Ent.refl
    · have hge : k = E[a].n := by have := of_decide_eq_false hc; omega
      rw [List.length_append, marks_length] at hlen
      have hz : E[a].xs.drop (k * 3) = [] := List.eq_nil_of_length_eq_zero (by rw [hge] at hlen ⊢; omega)
      rw [hz, List.append_nil, hge, hnext]
      (refine w ?_; repeat ((first | refine VO.step rfl rfl ?_ | refine VD.end rfl rfl rfl ?_ | refine VD.mid rfl rfl rfl ?_); refine OpV.box rfl rfl rfl ?_; intro _; refine w ?_))
      exact VE.round (a + 1) hlt (by omega) ⟨rfl, rfl, trivial⟩ Ent.refl
  have hge : a = E.length := by have := of_decide_eq_false hc; omega
  subst hge
  clear hc ha
  -- every list is marked
  obtain ⟨M, hM⟩ : ∃ M, M = mkd E E.length := ⟨_, rfl⟩
  have hML : M.length = E.length := by rw [hM]; exact mkd_length _ _
  have hMg : ∀ j (h : j < M.length), M[j] = ⟨(E[j]'(by omega)).ao, (E[j]'(by omega)).cap, (E[j]'(by omega)).n, marks j (E[j]'(by omega)).n⟩ := fun j h => by
    subst hM; rw [mkd_get E _ j (by omega), if_pos (by omega)]
  have hMh : E.map ListN.hdr = M.map ListN.hdr := by
    apply List.ext_getElem (by simp [hML])
    intro j h1 h2
    have hj : j < M.length := by simpa using h2
    rw [List.getElem_map, List.getElem_map, hMg j hj]
  have hMl : ∀ j (h : j < M.length), M[j].n ≤ 1000000000 ∧ M[j].xs = marks j M[j].n := fun j h => by
    rw [hMg j h]; exact ⟨hl (E[j]'(by omega)) (List.getElem_mem _), rfl⟩
  (refine w ?_; repeat ((first | refine VO.step rfl rfl ?_ | refine VD.end rfl rfl rfl ?_ | refine VD.mid rfl rfl rfl ?_); refine OpV.box rfl rfl rfl ?_; intro _; refine w ?_))
  rw [← hM, hMh, ← hML]
  rw [← hML] at hln hn
  clear hMh hMg hl hML hM E
  refine VC.ent (H' := Own 23 1 (.slice none 0 0) 0 (longH M []) :: Own 23 1 (.slice lo M.length lc) M.length (M.map ListN.hdr) :: (grs M [] ++ R)) (fun w hw => by rw [grs_nil]; exact hw.ownNil _ _) ?_
  refine VC.loop (α := List (Option Addr × Nat) × Option Addr × Nat) (fun g => g.1.length ≤ M.length)
    (fun g => Own 23 1 (.slice g.2.1 g.1.length g.2.2) g.1.length (longH M g.1) :: Own 23 1 (.slice lo M.length lc) M.length (M.map ListN.hdr) :: (grs M g.1 ++ R))
    (fun g => [(0, .slice lo M.length lc), (5, .slice g.2.1 g.1.length g.2.2), (6, .int .i64 g.1.length)]) (fun g => M.length - g.1.length) rfl ([], none, 0) (Nat.zero_le _) Ent.refl ⟨rfl, rfl, rfl, trivial⟩ ?_
  rintro ⟨Gs, go, gc⟩ ha
  dsimp only at ha ⊢
  (refine w ?_; repeat ((first | refine VO.step rfl rfl ?_ | refine VD.end rfl rfl rfl ?_ | refine VD.mid rfl rfl rfl ?_); refine OpV.box rfl rfl rfl ?_; intro _; refine w ?_))
  (refine VC.cond rfl rfl ?_ ?_ <;> intro hc)
  · have hlt : Gs.length < M.length := by have := of_decide_eq_true hc; omega
    obtain ⟨lb, rfl⟩ : ∃ lb, lo = some lb := by cases lo with | none => have := hln rfl; omega | some lb => exact ⟨lb, rfl⟩
    obtain ⟨hla, hxs⟩ := hMl Gs.length hlt
    have hget : (M.map ListN.hdr)[Gs.length]? = some (.slice M[Gs.length].ao M[Gs.length].n M[Gs.length].cap) := by rw [List.getElem?_map, List.getElem?_eq_getElem hlt]; rfl
    have hself : grs M Gs = (grs M Gs).set Gs.length (res M[Gs.length]) := by
      have e1 : (grs M Gs)[Gs.length]'(by rw [grs_length]; exact hlt) = res M[Gs.length] := by
        rw [grs_get M Gs _ hlt, List.getElem?_eq_none (Nat.le_refl _)]
      rw [← e1, List.set_getElem_self]
    have hnext (g : Option Addr × Nat) := grs_set M Gs g hlt
    have hlnext (g : Option Addr × Nat) := longH_snoc M Gs g hlt
    have hgl := grs_length M Gs
    generalize hL : grs M Gs = L at *
    (refine w ?_; repeat ((first | refine VO.step rfl rfl ?_ | refine VD.end rfl rfl rfl ?_ | refine VD.mid rfl rfl rfl ?_); refine OpV.box rfl rfl rfl ?_; intro _; refine w ?_))
    (first | refine VO.pure rfl rfl (PureAt.ldR tab_ok rfl rfl (Rds.own (ListN.hdrs_one M) (.tail _ (.head _)) (by rw [List.length_map, Nat.mul_one]) (fun h => by cases h)) hget) rfl ?_ | refine VD.take rfl rfl rfl (PureAt.ldR tab_ok rfl rfl (Rds.own (ListN.hdrs_one M) (.tail _ (.head _)) (by rw [List.length_map, Nat.mul_one]) (fun h => by cases h)) hget) rfl ?_ | refine VQ.pure rfl rfl (PureAt.ldR tab_ok rfl rfl (Rds.own (ListN.hdrs_one M) (.tail _ (.head _)) (by rw [List.length_map, Nat.mul_one]) (fun h => by cases h)) hget) rfl ?_ | refine VD.end rfl rfl rfl (OpV.pure (PureAt.ldR tab_ok rfl rfl (Rds.own (ListN.hdrs_one M) (.tail _ (.head _)) (by rw [List.length_map, Nat.mul_one]) (fun h => by cases h)) hget) rfl ?_))
    (refine w ?_; repeat ((first | refine VO.step rfl rfl ?_ | refine VD.end rfl rfl rfl ?_ | refine VD.mid rfl rfl rfl ?_); refine OpV.box rfl rfl rfl ?_; intro _; refine w ?_))
    refine VC.loop (α := Nat × Option Addr × Nat) (fun g => g.1 ≤ 16)
      (fun g => Own 23 1 (.slice go Gs.length gc) Gs.length (longH M Gs) :: Own 23 1 (.slice (some lb) M.length lc) M.length (M.map ListN.hdr) :: (L.set Gs.length (twin Gs.length M[Gs.length] g.2 g.1) ++ R))
      (fun g => [(0, .slice (some lb) M.length lc), (5, .slice go Gs.length gc), (6, .int .i64 Gs.length), (7, .slice g.2.1 (M[Gs.length].n + g.1) g.2.2), (8, .int .i64 g.1)]) (fun g => 16 - g.1) rfl (0, M[Gs.length].ao, M[Gs.length].cap) (Nat.zero_le _)
      (by
        rw [hself, List.set_set]
        refine Ent.hole (Hole.tail (Hole.tail (hole_set L Gs.length _ (by omega)))) (fun R w hw => ?_)
        have := TwinR.start hw
        simpa [twin, marks2] using this) ⟨rfl, rfl, rfl, rfl, rfl, trivial⟩ ?_
    rintro ⟨k, xo, xc⟩ hk
    dsimp only at hk ⊢
    (refine w ?_; repeat ((first | refine VO.step rfl rfl ?_ | refine VD.end rfl rfl rfl ?_ | refine VD.mid rfl rfl rfl ?_); refine OpV.box rfl rfl rfl ?_; intro _; refine w ?_))
    (refine VC.cond rfl rfl ?_ ?_ <;> intro hc)
    · have hkt : k < 16 := by have := of_decide_eq_true hc; omega
      (refine w ?_; repeat ((first | refine VO.step rfl rfl ?_ | refine VD.end rfl rfl rfl ?_ | refine VD.mid rfl rfl rfl ?_); refine OpV.box rfl rfl rfl ?_; intro _; refine w ?_))
      (apply VO.pure rfl rfl; apply PureAt.build sb_78 rfl; (simp [buildX, setL, Value.cells]; rfl); rfl)
      (first | refine VO.step rfl rfl ?_ | refine VD.end rfl rfl rfl ?_ | refine VD.mid rfl rfl rfl ?_)
      refine OpV.buildSlice (cs := mk ((-1 - (Gs.length : Int)) * 1000 + (k : Int))) st_23 rfl rfl (by simp [Value.cells]) (by simp [Value.cells, mk]) (by decide) rfl ?_
      intro nb
      (first | refine VO.step rfl rfl ?_ | refine VD.end rfl rfl rfl ?_ | refine VD.mid rfl rfl rfl ?_)
      refine OpV.appendT (news := mk ((-1 - (Gs.length : Int)) * 1000 + (k : Int))) (m := 1) st_23 rfl rfl (.tail (.tail (.tail (hole_set L Gs.length _ (by omega))))) (fun w hw => (Sees.row (ys := []) (mk_one _) rfl (by simpa using hw) (.head _)).src st_23.und) ?_ ?_ rfl ?_
      · simp only [maxLen]; omega
      · omega
      intro xo' xc'
      (refine w ?_; repeat ((first | refine VO.step rfl rfl ?_ | refine VD.end rfl rfl rfl ?_ | refine VD.mid rfl rfl rfl ?_); refine OpV.box rfl rfl rfl ?_; intro _; refine w ?_))
      refine VE.round (k + 1, xo', xc') hkt (by simp only; omega) ⟨rfl, rfl, rfl, rfl, rfl, trivial⟩ ?_
      unfold twin
      rw [marks2_succ, ← List.append_assoc]
      exact Reord.ent (Reord.drop .refl)
    · have hge : k = 16 := by have := of_decide_eq_false hc; omega
      subst hge
      rw [hnext]
      (refine w ?_; repeat ((first | refine VO.step rfl rfl ?_ | refine VD.end rfl rfl rfl ?_ | refine VD.mid rfl rfl rfl ?_); refine OpV.box rfl rfl rfl ?_; intro _; refine w ?_))
      ((first | refine VO.step rfl rfl ?_ | refine VD.end rfl rfl rfl ?_ | refine VD.mid rfl rfl rfl ?_); refine OpV.buildSlice1 st_47 rfl rfl (by first | (simp; done) | simp [Value.oneCell']) (by decide) rfl ?_; intro nb)
      ((first | refine VO.step rfl rfl ?_ | refine VD.end rfl rfl rfl ?_ | refine VD.mid rfl rfl rfl ?_); refine OpV.appendRow st_47 rfl rfl (by (repeat first | exact .head | apply Hole.tail)) (by (focus repeat first | exact .head _ | apply List.Mem.tail)) rfl (by first | (simp; done) | simp [Value.oneCell']) ?_ ?_ rfl ?_)
      · simp only [maxLen]; omega
      · omega
      intro go' gc'
      rw [← hlnext (xo, xc)]
      (refine w ?_; repeat ((first | refine VO.step rfl rfl ?_ | refine VD.end rfl rfl rfl ?_ | refine VD.mid rfl rfl rfl ?_); refine OpV.box rfl rfl rfl ?_; intro _; refine w ?_))
      refine VE.round (Gs ++ [(xo, xc)], go', gc') (by rw [List.length_append]; exact hlt) (by simp only [List.length_append, List.length_singleton]; omega) ⟨rfl, asV rfl (by rw [List.length_append]; rfl), asV rfl (by rw [List.length_append]; rfl), trivial⟩ ?_
      dsimp only
      rw [List.length_append]
      exact Ent.re
  have hge : Gs.length = M.length := by have := of_decide_eq_false hc; omega
  clear hc ha
  (refine w ?_; repeat ((first | refine VO.step rfl rfl ?_ | refine VD.end rfl rfl rfl ?_ | refine VD.mid rfl rfl rfl ?_); refine OpV.box rfl rfl rfl ?_; intro _; refine w ?_))
  refine VC.know (p := go = none → Gs.length = 0) (fun w hw => Holds.ownNone hw (.head _)) ?_
  intro hgn
  generalize hH : (Own 23 1 (.slice go Gs.length gc) Gs.length (longH M Gs) :: Own 23 1 (.slice lo M.length lc) M.length (M.map ListN.hdr) :: (grs M Gs ++ R)) = HH
  have hr1 : Rds W HH 1 lo M.length (M.map ListN.hdr) := by subst hH; exact Rds.own (ListN.hdrs_one M) (.tail _ (.head _)) (by rw [List.length_map, Nat.mul_one]) hln
  have hr2 : Rds W HH 1 go Gs.length (longH M Gs) := by subst hH; exact Rds.own (longH_one M Gs) (.head _) (by rw [longH_length, Nat.mul_one]) hgn
  have hend : Ent W HH R := by
    subst hH
    exact Ent.drop (Ent.drop (fun w hw => by
      have : ∀ (X : List SProp) w, Holds W (X ++ R) w → Holds W R w := fun X => by
        induction X with
        | nil => exact fun w h => h
        | cons a r ih => exact fun w h => ih w h.tail
      exact this _ w hw))
  have htw : ∀ a (h : a < M.length), twin a M[a] (Gs[a]'(by omega)) 16 ∈ HH := fun a h => by
    subst hH
    refine .tail _ (.tail _ (List.mem_append_left _ (List.mem_iff_getElem.2 ⟨a, by rw [grs_length]; exact h, ?_⟩)))
    rw [grs_get M Gs a h, List.getElem?_eq_getElem (by omega)]
  have hlg : ∀ a (h : a < M.length), (longH M Gs)[a]? = some (.slice (Gs[a]'(by omega)).1 (M[a].n + 16) (Gs[a]'(by omega)).2) := fun a h => by
    unfold longH
    rw [List.getElem?_mapIdx, List.getElem?_eq_getElem h, List.getElem?_eq_getElem (l := Gs) (by omega)]; rfl
  clear hH
  refine VC.loop (α := Nat) (fun a => a ≤ M.length) (fun _ => HH)
    (fun a => [(0, .slice lo M.length lc), (5, .slice go Gs.length gc), (9, .int .i64 a)]) (fun a => M.length - a) rfl 0 (Nat.zero_le _) Ent.refl ⟨rfl, rfl, rfl, trivial⟩ ?_
  intro a ha
  (refine w ?_; repeat ((first | refine VO.step rfl rfl ?_ | refine VD.end rfl rfl rfl ?_ | refine VD.mid rfl rfl rfl ?_); refine OpV.box rfl rfl rfl ?_; intro _; refine w ?_))
  (refine VC.cond rfl rfl ?_ ?_ <;> intro hc)
  · have hlt : a < M.length := by have := of_decide_eq_true hc; omega
    obtain ⟨lb, rfl⟩ : ∃ lb, lo = some lb := by cases lo with | none => have := hln rfl; omega | some lb => exact ⟨lb, rfl⟩
    obtain ⟨gb, rfl⟩ : ∃ gb, go = some gb := by cases go with | none => have := hgn rfl; omega | some gb => exact ⟨gb, rfl⟩
    obtain ⟨hla, hxs⟩ := hMl a hlt
    have hget : (M.map ListN.hdr)[a]? = some (.slice M[a].ao M[a].n M[a].cap) := by rw [List.getElem?_map, List.getElem?_eq_getElem hlt]; rfl
    have htw := htw a hlt
    have hlg := hlg a hlt
    have hgl : a < Gs.length := by omega
    generalize Gs[a] = g at *
    generalize M[a] = e at *
    have hel : e.xs.length = e.n * 3 := by rw [hxs, marks_length]
    have h1 : ∀ u ∈ e.xs, u.oneCell' = true := by rw [hxs]; exact marks_one _ _
    have h2 : ∀ u ∈ e.xs ++ marks2 a 16, u.oneCell' = true := fun u hu => by
      rcases List.mem_append.1 hu with q | q
      · exact h1 u q
      · exact marks2_one _ _ u q
    refine VC.know (fun w hw => TwinR.none hw htw) ?_
    rintro ⟨hon, hnn⟩
    have ho : Rds W HH 3 e.ao e.n e.xs := TwinR.rdsOld htw h1 hel hon
    have hw' : Rds W HH 3 g.1 (e.n + 16) (e.xs ++ marks2 a 16) := TwinR.rdsNew htw h2 (by rw [List.length_append, marks2_length, hel]; omega) hnn
    obtain ⟨gx, hgx⟩ : ∃ gx, g.1 = some gx := by cases h : g.1 with | none => have := hnn h; omega | some gx => exact ⟨gx, rfl⟩
    rw [hgx] at hlg hw'
    (refine w ?_; repeat ((first | refine VO.step rfl rfl ?_ | refine VD.end rfl rfl rfl ?_ | refine VD.mid rfl rfl rfl ?_); refine OpV.box rfl rfl rfl ?_; intro _; refine w ?_))
    (first | refine VO.pure rfl rfl (PureAt.ldR tab_ok rfl rfl hr1 hget) rfl ?_ | refine VD.take rfl rfl rfl (PureAt.ldR tab_ok rfl rfl hr1 hget) rfl ?_ | refine VQ.pure rfl rfl (PureAt.ldR tab_ok rfl rfl hr1 hget) rfl ?_ | refine VD.end rfl rfl rfl (OpV.pure (PureAt.ldR tab_ok rfl rfl hr1 hget) rfl ?_))
    (refine w ?_; repeat ((first | refine VO.step rfl rfl ?_ | refine VD.end rfl rfl rfl ?_ | refine VD.mid rfl rfl rfl ?_); refine OpV.box rfl rfl rfl ?_; intro _; refine w ?_))
    refine VC.loop (α := Nat) (fun k => k ≤ e.n) (fun _ => HH)
      (fun k => [(0, .slice (some lb) M.length lc), (5, .slice (some gb) Gs.length gc), (9, .int .i64 a), (10, .int .i64 e.n), (11, .int .i64 k)]) (fun k => e.n - k) rfl 0 (Nat.zero_le _) Ent.refl ⟨rfl, rfl, rfl, rfl, rfl, trivial⟩ ?_
    intro k hk
    (refine w ?_; repeat ((first | refine VO.step rfl rfl ?_ | refine VD.end rfl rfl rfl ?_ | refine VD.mid rfl rfl rfl ?_); refine OpV.box rfl rfl rfl ?_; intro _; refine w ?_))
    (refine VC.cond rfl rfl ?_ ?_ <;> intro hc)
    · have hkt : k < e.n := by have := of_decide_eq_true hc; omega
      obtain ⟨ox, hox⟩ : ∃ ox, e.ao = some ox := by cases h : e.ao with | none => have := hon h; omega | some ox => exact ⟨ox, rfl⟩
      rw [hox] at hget ho
      have hk1 : e.xs[k * 3 + 1]? = some (val ((a : Int) * 1000 + (k : Int))) := by rw [hxs]; exact marks_get a _ k hkt
      have hk2 : (e.xs ++ marks2 a 16)[k * 3 + 1]? = some (val ((a : Int) * 1000 + (k : Int))) := by rw [List.getElem?_append_left (by omega)]; exact hk1
      (refine w ?_; repeat ((first | refine VO.step rfl rfl ?_ | refine VD.end rfl rfl rfl ?_ | refine VD.mid rfl rfl rfl ?_); refine OpV.box rfl rfl rfl ?_; intro _; refine w ?_))
      (first | refine VO.pure rfl rfl (PureAt.ldR tab_ok rfl rfl hr1 hget) rfl ?_ | refine VD.take rfl rfl rfl (PureAt.ldR tab_ok rfl rfl hr1 hget) rfl ?_ | refine VQ.pure rfl rfl (PureAt.ldR tab_ok rfl rfl hr1 hget) rfl ?_ | refine VD.end rfl rfl rfl (OpV.pure (PureAt.ldR tab_ok rfl rfl hr1 hget) rfl ?_))
      (refine w ?_; repeat ((first | refine VO.step rfl rfl ?_ | refine VD.end rfl rfl rfl ?_ | refine VD.mid rfl rfl rfl ?_); refine OpV.box rfl rfl rfl ?_; intro _; refine w ?_))
      (first | refine VO.pure rfl rfl (PureAt.ldRc tab_ok rfl rfl ho hk1) rfl ?_ | refine VD.take rfl rfl rfl (PureAt.ldRc tab_ok rfl rfl ho hk1) rfl ?_ | refine VQ.pure rfl rfl (PureAt.ldRc tab_ok rfl rfl ho hk1) rfl ?_ | refine VD.end rfl rfl rfl (OpV.pure (PureAt.ldRc tab_ok rfl rfl ho hk1) rfl ?_))
      (refine w ?_; repeat ((first | refine VO.step rfl rfl ?_ | refine VD.end rfl rfl rfl ?_ | refine VD.mid rfl rfl rfl ?_); refine OpV.box rfl rfl rfl ?_; intro _; refine w ?_))
      (first | refine VO.gF rfl rfl rfl (by simp) ?_ | refine VD.gF rfl rfl rfl (by simp) ?_)
      (refine w ?_; repeat ((first | refine VO.step rfl rfl ?_ | refine VD.end rfl rfl rfl ?_ | refine VD.mid rfl rfl rfl ?_); refine OpV.box rfl rfl rfl ?_; intro _; refine w ?_))
      (first | refine VO.pure rfl rfl (PureAt.ldR tab_ok rfl rfl hr2 hlg) rfl ?_ | refine VD.take rfl rfl rfl (PureAt.ldR tab_ok rfl rfl hr2 hlg) rfl ?_ | refine VQ.pure rfl rfl (PureAt.ldR tab_ok rfl rfl hr2 hlg) rfl ?_ | refine VD.end rfl rfl rfl (OpV.pure (PureAt.ldR tab_ok rfl rfl hr2 hlg) rfl ?_))
      (refine w ?_; repeat ((first | refine VO.step rfl rfl ?_ | refine VD.end rfl rfl rfl ?_ | refine VD.mid rfl rfl rfl ?_); refine OpV.box rfl rfl rfl ?_; intro _; refine w ?_))
      (first | refine VO.pure rfl rfl (PureAt.ldRc tab_ok rfl rfl hw' hk2) rfl ?_ | refine VD.take rfl rfl rfl (PureAt.ldRc tab_ok rfl rfl hw' hk2) rfl ?_ | refine VQ.pure rfl rfl (PureAt.ldRc tab_ok rfl rfl hw' hk2) rfl ?_ | refine VD.end rfl rfl rfl (OpV.pure (PureAt.ldRc tab_ok rfl rfl hw' hk2) rfl ?_))
      (refine w ?_; repeat ((first | refine VO.step rfl rfl ?_ | refine VD.end rfl rfl rfl ?_ | refine VD.mid rfl rfl rfl ?_); refine OpV.box rfl rfl rfl ?_; intro _; refine w ?_))
      (refine VC.condFe rfl rfl (by simp) ?_)
      (refine w ?_; repeat ((first | refine VO.step rfl rfl ?_ | refine VD.end rfl rfl rfl ?_ | refine VD.mid rfl rfl rfl ?_); refine OpV.box rfl rfl rfl ?_; intro _; refine w ?_))
      exact VE.round (k + 1) hkt (by omega) ⟨rfl, rfl, rfl, rfl, rfl, trivial⟩ Ent.refl
    · (refine w ?_; repeat ((first | refine VO.step rfl rfl ?_ | refine VD.end rfl rfl rfl ?_ | refine VD.mid rfl rfl rfl ?_); refine OpV.box rfl rfl rfl ?_; intro _; refine w ?_))
      refine VC.loop (α := Nat) (fun k => k ≤ 16) (fun _ => HH)
        (fun k => [(0, .slice (some lb) M.length lc), (5, .slice (some gb) Gs.length gc), (9, .int .i64 a), (10, .int .i64 e.n), (12, .int .i64 k)]) (fun k => 16 - k) rfl 0 (Nat.zero_le _) Ent.refl ⟨rfl, rfl, rfl, rfl, rfl, trivial⟩ ?_
      intro k hk
      (refine w ?_; repeat ((first | refine VO.step rfl rfl ?_ | refine VD.end rfl rfl rfl ?_ | refine VD.mid rfl rfl rfl ?_); refine OpV.box rfl rfl rfl ?_; intro _; refine w ?_))
      (refine VC.cond rfl rfl ?_ ?_ <;> intro hc)
      · have hkt : k < 16 := by have := of_decide_eq_true hc; omega
        have hk2 : (e.xs ++ marks2 a 16)[(e.n + k) * 3 + 1]? = some (val ((-1 - (a : Int)) * 1000 + (k : Int))) := by
          rw [List.getElem?_append_right (by omega), hel, show (e.n + k) * 3 + 1 - e.n * 3 = k * 3 + 1 by omega]; exact marks2_get a 16 k hkt
        (refine w ?_; repeat ((first | refine VO.step rfl rfl ?_ | refine VD.end rfl rfl rfl ?_ | refine VD.mid rfl rfl rfl ?_); refine OpV.box rfl rfl rfl ?_; intro _; refine w ?_))
        (first | refine VO.pure rfl rfl (PureAt.ldR tab_ok rfl rfl hr2 hlg) rfl ?_ | refine VD.take rfl rfl rfl (PureAt.ldR tab_ok rfl rfl hr2 hlg) rfl ?_ | refine VQ.pure rfl rfl (PureAt.ldR tab_ok rfl rfl hr2 hlg) rfl ?_ | refine VD.end rfl rfl rfl (OpV.pure (PureAt.ldR tab_ok rfl rfl hr2 hlg) rfl ?_))
        (first | (first | refine VO.nil rfl ?_ | refine VQ.nil rfl ?_ | refine VD.nil ?_ | ((first | apply VO.pure rfl rfl | apply VQ.pure rfl rfl | apply VD.take rfl rfl rfl | (refine VD.end rfl rfl rfl ?_; apply OpV.pure)); (first | (apply PureAt.ar64 rfl rfl rfl; omega) | exact .eval tab_ok rfl | (apply PureAt.ld tab_ok rfl rfl; (focus repeat first | exact .head _ | apply List.Mem.tail); rfl) | (apply PureAt.shr rfl rfl (by decide) (by decide)) | (apply PureAt.shr rfl rfl (by omega) (by simp only [IntKind.bits]; omega)) | exact .fieldAddrA tab_ok rfl rfl | exact .sliceLH tab_ok rfl rfl rfl rfl (by omega) (by omega) | exact .sliceH tab_ok rfl rfl rfl (by omega) | exact .sliceL tab_ok rfl rfl rfl (by omega) | (first | exact .indexAddr tab_ok rfl rfl rfl rfl (by omega) | exact .indexAddrN tab_ok rfl rfl rfl rfl (by omega) | exact .indexAddrI tab_ok rfl rfl rfl rfl (toNatLit _) (by decide) (by omega) | exact .indexAddrNI tab_ok rfl rfl rfl rfl (toNatLit _) (by decide) (by omega) | exact .ldR tab_ok rfl rfl hr1 (List.getElem?_eq_getElem (by omega)) | exact .ldR tab_ok rfl rfl hr2 (List.getElem?_eq_getElem (by omega)) | exact ldB tab_ok rfl rfl hb1 (by omega) | exact ldB tab_ok rfl rfl hb2 (by omega)) | exact .sliceHI tab_ok rfl rfl rfl (toNatLit _) (by decide) (by omega) | exact .sliceLI tab_ok rfl rfl rfl (toNatLit _) (by decide) (by omega) | (apply PureAt.ldA tab_ok rfl rfl; (focus repeat first | exact .head _ | apply List.Mem.tail); rfl; rfl) | exact .ldro tab_ok rfl rfl (by assumption)); rfl) | refine VO.skip rfl rfl rfl rfl ?_ | refine VQ.skip rfl rfl rfl rfl ?_ | refine VD.skip rfl rfl rfl rfl rfl ?_ | refine VD.skipM rfl rfl Ent.refl rfl rfl rfl ?_ | ((first | refine VO.step rfl rfl ?_ | refine VD.end rfl rfl rfl ?_ | refine VD.mid rfl rfl rfl ?_); (first | (apply OpV.st tab_ok rfl rfl rfl rfl (by (repeat first | exact .head | apply Hole.tail); first | done | fail) (by first | (simp; done) | fail)) | (refine OpV.box rfl rfl rfl ?_; intro _))) | refine ⟨Ent.re, ?_⟩) | (first | refine VC.seq rfl ?_ | refine VC.region rfl ?_ | refine VC.condT rfl rfl ?_ | refine VC.condF rfl rfl ?_ | refine VC.block rfl ?_ | refine VC.skip rfl ?_ | refine VC.ret rfl ?_ | refine VC.exit rfl ?_ | refine VC.scope rfl ?_ | refine VC.label rfl ?_) | (first | refine VE.next ?_ | refine VE.passRet ?_ | refine VE.passExit ?_ | refine VE.blockNormal ?_ | refine VE.blockHit ?_ | refine VE.blockMiss rfl ?_ | refine VE.blockRet ?_ | refine VE.loopRet ?_ | refine VE.loopExit ?_ | refine VE.scopeNormal ?_ | refine VE.scopeRet ?_ | refine VE.scopeExit ?_))
        (first | (first | refine VO.nil rfl ?_ | refine VQ.nil rfl ?_ | refine VD.nil ?_ | ((first | apply VO.pure rfl rfl | apply VQ.pure rfl rfl | apply VD.take rfl rfl rfl | (refine VD.end rfl rfl rfl ?_; apply OpV.pure)); (first | (apply PureAt.ar64 rfl rfl rfl; omega) | exact .eval tab_ok rfl | (apply PureAt.ld tab_ok rfl rfl; (focus repeat first | exact .head _ | apply List.Mem.tail); rfl) | (apply PureAt.shr rfl rfl (by decide) (by decide)) | (apply PureAt.shr rfl rfl (by omega) (by simp only [IntKind.bits]; omega)) | exact .fieldAddrA tab_ok rfl rfl | exact .sliceLH tab_ok rfl rfl rfl rfl (by omega) (by omega) | exact .sliceH tab_ok rfl rfl rfl (by omega) | exact .sliceL tab_ok rfl rfl rfl (by omega) | (first | exact .indexAddr tab_ok rfl rfl rfl rfl (by omega) | exact .indexAddrN tab_ok rfl rfl rfl rfl (by omega) | exact .indexAddrI tab_ok rfl rfl rfl rfl (toNatLit _) (by decide) (by omega) | exact .indexAddrNI tab_ok rfl rfl rfl rfl (toNatLit _) (by decide) (by omega) | exact .ldR tab_ok rfl rfl hr1 (List.getElem?_eq_getElem (by omega)) | exact .ldR tab_ok rfl rfl hr2 (List.getElem?_eq_getElem (by omega)) | exact ldB tab_ok rfl rfl hb1 (by omega) | exact ldB tab_ok rfl rfl hb2 (by omega)) | exact .sliceHI tab_ok rfl rfl rfl (toNatLit _) (by decide) (by omega) | exact .sliceLI tab_ok rfl rfl rfl (toNatLit _) (by decide) (by omega) | (apply PureAt.ldA tab_ok rfl rfl; (focus repeat first | exact .head _ | apply List.Mem.tail); rfl; rfl) | exact .ldro tab_ok rfl rfl (by assumption)); rfl) | refine VO.skip rfl rfl rfl rfl ?_ | refine VQ.skip rfl rfl rfl rfl ?_ | refine VD.skip rfl rfl rfl rfl rfl ?_ | refine VD.skipM rfl rfl Ent.refl rfl rfl rfl ?_ | ((first | refine VO.step rfl rfl ?_ | refine VD.end rfl rfl rfl ?_ | refine VD.mid rfl rfl rfl ?_); (first | (apply OpV.st tab_ok rfl rfl rfl rfl (by (repeat first | exact .head | apply Hole.tail); first | done | fail) (by first | (simp; done) | fail)) | (refine OpV.box rfl rfl rfl ?_; intro _))) | refine ⟨Ent.re, ?_⟩) | (first | refine VC.seq rfl ?_ | refine VC.region rfl ?_ | refine VC.condT rfl rfl ?_ | refine VC.condF rfl rfl ?_ | refine VC.block rfl ?_ | refine VC.skip rfl ?_ | refine VC.ret rfl ?_ | refine VC.exit rfl ?_ | refine VC.scope rfl ?_ | refine VC.label rfl ?_) | (first | refine VE.next ?_ | refine VE.passRet ?_ | refine VE.passExit ?_ | refine VE.blockNormal ?_ | refine VE.blockHit ?_ | refine VE.blockMiss rfl ?_ | refine VE.blockRet ?_ | refine VE.loopRet ?_ | refine VE.loopExit ?_ | refine VE.scopeNormal ?_ | refine VE.scopeRet ?_ | refine VE.scopeExit ?_))
        (first | (first | refine VO.nil rfl ?_ | refine VQ.nil rfl ?_ | refine VD.nil ?_ | ((first | apply VO.pure rfl rfl | apply VQ.pure rfl rfl | apply VD.take rfl rfl rfl | (refine VD.end rfl rfl rfl ?_; apply OpV.pure)); (first | (apply PureAt.ar64 rfl rfl rfl; omega) | exact .eval tab_ok rfl | (apply PureAt.ld tab_ok rfl rfl; (focus repeat first | exact .head _ | apply List.Mem.tail); rfl) | (apply PureAt.shr rfl rfl (by decide) (by decide)) | (apply PureAt.shr rfl rfl (by omega) (by simp only [IntKind.bits]; omega)) | exact .fieldAddrA tab_ok rfl rfl | exact .sliceLH tab_ok rfl rfl rfl rfl (by omega) (by omega) | exact .sliceH tab_ok rfl rfl rfl (by omega) | exact .sliceL tab_ok rfl rfl rfl (by omega) | (first | exact .indexAddr tab_ok rfl rfl rfl rfl (by omega) | exact .indexAddrN tab_ok rfl rfl rfl rfl (by omega) | exact .indexAddrI tab_ok rfl rfl rfl rfl (toNatLit _) (by decide) (by omega) | exact .indexAddrNI tab_ok rfl rfl rfl rfl (toNatLit _) (by decide) (by omega) | exact .ldR tab_ok rfl rfl hr1 (List.getElem?_eq_getElem (by omega)) | exact .ldR tab_ok rfl rfl hr2 (List.getElem?_eq_getElem (by omega)) | exact ldB tab_ok rfl rfl hb1 (by omega) | exact ldB tab_ok rfl rfl hb2 (by omega)) | exact .sliceHI tab_ok rfl rfl rfl (toNatLit _) (by decide) (by omega) | exact .sliceLI tab_ok rfl rfl rfl (toNatLit _) (by decide) (by omega) | (apply PureAt.ldA tab_ok rfl rfl; (focus repeat first | exact .head _ | apply List.Mem.tail); rfl; rfl) | exact .ldro tab_ok rfl rfl (by assumption)); rfl) | refine VO.skip rfl rfl rfl rfl ?_ | refine VQ.skip rfl rfl rfl rfl ?_ | refine VD.skip rfl rfl rfl rfl rfl ?_ | refine VD.skipM rfl rfl Ent.refl rfl rfl rfl ?_ | ((first | refine VO.step rfl rfl ?_ | refine VD.end rfl rfl rfl ?_ | refine VD.mid rfl rfl rfl ?_); (first | (apply OpV.st tab_ok rfl rfl rfl rfl (by (repeat first | exact .head | apply Hole.tail); first | done | fail) (by first | (simp; done) | fail)) | (refine OpV.box rfl rfl rfl ?_; intro _))) | refine ⟨Ent.re, ?_⟩) | (first | refine VC.seq rfl ?_ | refine VC.region rfl ?_ | refine VC.condT rfl rfl ?_ | refine VC.condF rfl rfl ?_ | refine VC.block rfl ?_ | refine VC.skip rfl ?_ | refine VC.ret rfl ?_ | refine VC.exit rfl ?_ | refine VC.scope rfl ?_ | refine VC.label rfl ?_) | (first | refine VE.next ?_ | refine VE.passRet ?_ | refine VE.passExit ?_ | refine VE.blockNormal ?_ | refine VE.blockHit ?_ | refine VE.blockMiss rfl ?_ | refine VE.blockRet ?_ | refine VE.loopRet ?_ | refine VE.loopExit ?_ | refine VE.scopeNormal ?_ | refine VE.scopeRet ?_ | refine VE.scopeExit ?_))
        refine VO.re 120 (.int .i64 ((e.n + k : Nat) : Int)) rfl (by congr 1) ?_
        (refine w ?_; repeat ((first | refine VO.step rfl rfl ?_ | refine VD.end rfl rfl rfl ?_ | refine VD.mid rfl rfl rfl ?_); refine OpV.box rfl rfl rfl ?_; intro _; refine w ?_))
        (first | refine VO.pure rfl rfl (PureAt.ldRc tab_ok rfl rfl hw' hk2) rfl ?_ | refine VD.take rfl rfl rfl (PureAt.ldRc tab_ok rfl rfl hw' hk2) rfl ?_ | refine VQ.pure rfl rfl (PureAt.ldRc tab_ok rfl rfl hw' hk2) rfl ?_ | refine VD.end rfl rfl rfl (OpV.pure (PureAt.ldRc tab_ok rfl rfl hw' hk2) rfl ?_))
        (refine w ?_; repeat ((first | refine VO.step rfl rfl ?_ | refine VD.end rfl rfl rfl ?_ | refine VD.mid rfl rfl rfl ?_); refine OpV.box rfl rfl rfl ?_; intro _; refine w ?_))
        (refine VC.condFe rfl rfl (by simp) ?_)
        (refine w ?_; repeat ((first | refine VO.step rfl rfl ?_ | refine VD.end rfl rfl rfl ?_ | refine VD.mid rfl rfl rfl ?_); refine OpV.box rfl rfl rfl ?_; intro _; refine w ?_))
        exact VE.round (k + 1) hkt (by omega) ⟨rfl, rfl, rfl, rfl, rfl, trivial⟩ Ent.refl
      · (refine w ?_; repeat ((first | refine VO.step rfl rfl ?_ | refine VD.end rfl rfl rfl ?_ | refine VD.mid rfl rfl rfl ?_); refine OpV.box rfl rfl rfl ?_; intro _; refine w ?_))
        exact VE.round (a + 1) hlt (by omega) ⟨rfl, rfl, rfl, trivial⟩ Ent.refl
  · (refine w ?_; repeat ((first | refine VO.step rfl rfl ?_ | refine VD.end rfl rfl rfl ?_ | refine VD.mid rfl rfl rfl ?_); refine OpV.box rfl rfl rfl ?_; intro _; refine w ?_))
    (refine VE.done1 rfl ?_ ?_)
    · rfl
    · exact hend
end Pt
end Go.Proofs.Ytlojjlbngnaphaa
