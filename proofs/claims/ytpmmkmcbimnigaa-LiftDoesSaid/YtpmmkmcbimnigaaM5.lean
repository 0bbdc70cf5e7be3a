import Derived.Test.YtpmmkmcbimnigaaM4
import Derived.WalkKit
import Derived.ProofKit
import Derived.OpenShut
/-! Text Ld. -/
/- What the law's arguments are: bytes, scripts of calls. -/
set_option maxRecDepth 8000
set_option linter.unusedVariables false
set_option linter.unusedSimpArgs false
set_option linter.unusedSectionVars false
namespace Go.Proofs.Ytpmmkmcbimnigaa
open Go.RowKit Go.Sl

theorem byte_of {n : Int} (h : (Lit.int .u8 n).wf = true) : ∃ c : UInt8, n = (c.toNat : Int) := by
  have hb : 0 ≤ n ∧ n ≤ 255 := by simpa [Lit.wf, IntKind.min, IntKind.max, IntKind.signed, IntKind.bits] using h
  refine ⟨UInt8.ofNat n.toNat, ?_⟩
  simp; omega

end Go.Proofs.Ytpmmkmcbimnigaa

/-! Text Eo. -/
/- The journal's sectors: what the chapter's example fixes; arguments; comparisons of structs. -/
set_option maxRecDepth 8000
set_option linter.unusedVariables false
set_option linter.unusedSimpArgs false
set_option linter.unusedSectionVars false
namespace Go.Proofs.Ytpmmkmcbimnigaa
open Go.RowKit Go.Sl
attribute [local irreducible] Own

theorem hdr_same (a b : HdrD) : a = b ↔ a.epoch = b.epoch ∧ a.seq = b.seq ∧ a.index = b.index ∧ a.count = b.count ∧ a.member = b.member ∧ a.row = b.row ∧ a.escaped = b.escaped ∧ a.sum = b.sum := by cases a; cases b; simp
theorem cmt_same (a b : CmtD) : a = b ↔ a.epoch = b.epoch ∧ a.seq = b.seq ∧ a.count = b.count ∧ a.sum = b.sum := by cases a; cases b; simp
theorem chk_same (a b : ChkD) : a = b ↔ a.epoch = b.epoch ∧ a.seq = b.seq ∧ a.tail = b.tail := by cases a; cases b; simp
instance : DecidableEq HdrD := fun a b => decidable_of_iff _ (hdr_same a b).symm
instance : DecidableEq CmtD := fun a b => decidable_of_iff _ (cmt_same a b).symm
instance : DecidableEq ChkD := fun a b => decidable_of_iff _ (chk_same a b).symm
section
variable {W : World} {n : Nat} {H : List SProp} {f : Fr} {dst : Option Tmp} {ty_ : TypeId} {pos : String} {after : Array Edge} {guard : Option (Nat × Bool)} {op : BinOp} {x y : Operand} {u : TypeId} {v : Value}
end
/-! ### Arguments -/
theorem i64_of {z : Int} (h : (Lit.int .i64 z).wf = true) : -9223372036854775808 ≤ z ∧ z ≤ 9223372036854775807 := by
  simp [Lit.wf, IntKind.min, IntKind.max, IntKind.signed, IntKind.bits] at h; omega
/-! ### What the example fixes -/
def h0 : HdrD := ⟨1, 2, 0, 2, 3, 5, false, 9⟩
end Go.Proofs.Ytpmmkmcbimnigaa

/-! Text Bk. -/
/- The document's book: lists that are its owner's own. -/
set_option maxRecDepth 8000
set_option linter.unusedVariables false
set_option linter.unusedSimpArgs false
set_option linter.unusedSectionVars false
namespace Go.Proofs.Ytpmmkmcbimnigaa
open Go.RowKit Go.Sl
attribute [local irreducible] Own

theorem hole_set {R : List SProp} : ∀ (L : List SProp) (i : Nat) (X : SProp), i < L.length → Hole (L.set i X ++ R) X (fun Y => L.set i Y ++ R)
  | a :: r, 0, X, _ => Hole.head
  | a :: r, i + 1, X, h => Hole.tail (hole_set r i X (by simpa using h))
theorem mem_set {R : List SProp} (L : List SProp) (i : Nat) (X : SProp) (h : i < L.length) : X ∈ L.set i X ++ R := List.mem_append_left _ (List.mem_iff_getElem.2 ⟨i, by rw [List.length_set]; exact h, List.getElem_set_self _⟩)

/-- A list of bytes that somebody owns. -/
structure ListE where
  ao : Option Addr
  cap : Nat
  xs : List Value
def ListE.hdr (e : ListE) : Value := .slice e.ao e.xs.length e.cap
def ListE.res (e : ListE) : SProp := Own 5 1 (.slice e.ao e.xs.length e.cap) e.xs.length e.xs
theorem hdrs_one (l : List ListE) : ∀ u ∈ l.map ListE.hdr, u.oneCell' = true := by
  intro u hu; obtain ⟨c, _, rfl⟩ := List.mem_map.1 hu; rfl

def mk (z : Int) : Value := .int .u8 (IntKind.u8.wrap z)
def marks (a m : Nat) : List Value := (List.range m).map fun (k : Nat) => mk ((a : Int) * 97 + (k : Int) * 13)
def marks2 (a m : Nat) : List Value := (List.range m).map fun (k : Nat) => mk ((-1 - (a : Int)) * 97 + (k : Int) * 13)
@[simp] theorem marks_length (a m : Nat) : (marks a m).length = m := by simp [marks]
@[simp] theorem marks2_length (a m : Nat) : (marks2 a m).length = m := by simp [marks2]
theorem marks_succ (a m : Nat) : marks a (m + 1) = marks a m ++ [mk ((a : Int) * 97 + (m : Int) * 13)] := by simp [marks, List.range_succ]
theorem marks2_succ (a m : Nat) : marks2 a (m + 1) = marks2 a m ++ [mk ((-1 - (a : Int)) * 97 + (m : Int) * 13)] := by simp [marks2, List.range_succ]
theorem marks_one (a m : Nat) : ∀ u ∈ marks a m, u.oneCell' = true := by intro u hu; obtain ⟨c, _, rfl⟩ := List.mem_map.1 hu; rfl
theorem marks2_one (a m : Nat) : ∀ u ∈ marks2 a m, u.oneCell' = true := by intro u hu; obtain ⟨c, _, rfl⟩ := List.mem_map.1 hu; rfl
theorem marks_get (a m k : Nat) (h : k < m) : (marks a m)[k]? = some (mk ((a : Int) * 97 + (k : Int) * 13)) := by simp [marks, h]
theorem marks2_get (a m k : Nat) (h : k < m) : (marks2 a m)[k]? = some (mk ((-1 - (a : Int)) * 97 + (k : Int) * 13)) := by simp [marks2, h]

/-- The lists, the first so many of them marked. -/
def mkd (E : List ListE) (a : Nat) : List ListE := E.mapIdx fun j e => if j < a then ⟨e.ao, e.cap, marks j e.xs.length⟩ else e
theorem mkd_length (E : List ListE) (a : Nat) : (mkd E a).length = E.length := by simp [mkd]
theorem mkd_get (E : List ListE) (a j : Nat) (h : j < E.length) : (mkd E a)[j]'(by rw [mkd_length]; exact h) = if j < a then ⟨E[j].ao, E[j].cap, marks j E[j].xs.length⟩ else E[j] := by simp [mkd]
theorem mkd_zero (E : List ListE) : mkd E 0 = E := by
  apply List.ext_getElem (mkd_length E 0)
  intro j h1 h2
  rw [mkd_get E 0 j h2, if_neg (Nat.not_lt_zero _)]
theorem mkd_set (E : List ListE) (a : Nat) (h : a < E.length) : (mkd E a).set a ⟨E[a].ao, E[a].cap, marks a E[a].xs.length⟩ = mkd E (a + 1) := by
  apply List.ext_getElem (by rw [List.length_set, mkd_length, mkd_length])
  intro j h1 h2
  have hj : j < E.length := by rwa [mkd_length] at h2
  rw [mkd_get E (a + 1) j hj, List.getElem_set]
  by_cases e : a = j
  · subst e; rw [if_pos rfl, if_pos (by omega)]
  · rw [if_neg e, mkd_get E a j hj]
    by_cases q : j < a
    · rw [if_pos q, if_pos (by omega)]
    · rw [if_neg q, if_neg (by omega)]

/-- The lists, the first of them with what has grown out of them. -/
def twin (j : Nat) (e : ListE) (g : Option Addr × Nat) (m : Nat) : SProp := TwinR 5 1 e.ao e.cap e.xs.length e.xs g.1 g.2 (e.xs.length + m) (e.xs ++ marks2 j m)
def grs (M : List ListE) (Gs : List (Option Addr × Nat)) : List SProp := M.mapIdx fun j e => match Gs[j]? with
  | some g => twin j e g 16
  | none => e.res
theorem grs_length (M : List ListE) (Gs : List (Option Addr × Nat)) : (grs M Gs).length = M.length := by simp [grs]
theorem grs_nil (M : List ListE) : grs M [] = M.map ListE.res := by
  apply List.ext_getElem (by simp [grs])
  intro j h1 h2
  simp [grs]
theorem grs_get (M : List ListE) (Gs : List (Option Addr × Nat)) (j : Nat) (h : j < M.length) : (grs M Gs)[j]'(by rw [grs_length]; exact h) = match Gs[j]? with
  | some g => twin j M[j] g 16
  | none => M[j].res := by simp [grs]
theorem grs_set (M : List ListE) (Gs : List (Option Addr × Nat)) (g : Option Addr × Nat) (h : Gs.length < M.length) : (grs M Gs).set Gs.length (twin Gs.length M[Gs.length] g 16) = grs M (Gs ++ [g]) := by
  apply List.ext_getElem (by rw [List.length_set, grs_length, grs_length])
  intro j h1 h2
  have hj : j < M.length := by rwa [grs_length] at h2
  rw [List.getElem_set, grs_get M (Gs ++ [g]) j hj]
  by_cases e : Gs.length = j
  · subst e
    rw [if_pos rfl, List.getElem?_append_right (Nat.le_refl _), Nat.sub_self]; rfl
  · rw [if_neg e, grs_get M Gs j hj]
    by_cases q : j < Gs.length
    · rw [List.getElem?_append_left q]
    · rw [List.getElem?_eq_none (by omega), List.getElem?_eq_none (by rw [List.length_append, List.length_singleton]; omega)]
def longH (M : List ListE) (Gs : List (Option Addr × Nat)) : List Value := Gs.mapIdx fun j g => .slice g.1 (((M[j]?).map fun e => e.xs.length).getD 0 + 16) g.2
theorem longH_length (M : List ListE) (Gs : List (Option Addr × Nat)) : (longH M Gs).length = Gs.length := by simp [longH]
theorem longH_snoc (M : List ListE) (Gs : List (Option Addr × Nat)) (g : Option Addr × Nat) (h : Gs.length < M.length) : longH M (Gs ++ [g]) = longH M Gs ++ [.slice g.1 (M[Gs.length].xs.length + 16) g.2] := by
  unfold longH
  rw [List.mapIdx_concat, List.getElem?_eq_getElem h]; rfl
theorem longH_one (M : List ListE) (Gs : List (Option Addr × Nat)) : ∀ u ∈ longH M Gs, u.oneCell' = true := by
  intro u hu
  obtain ⟨i, h, rfl⟩ := List.mem_iff_getElem.1 hu
  simp [longH, Value.oneCell']
theorem Ent.hole {W : World} {H : List SProp} {X Y : SProp} {C : SProp → List SProp} (u : Hole H X C) (h : ∀ (R : List SProp) (w : World), Holds W (X :: R) w → Holds W (Y :: R) w) : Ent W H (C Y) := by
  intro w hw
  obtain ⟨R, p, q⟩ := u.perm
  exact (h R w (hw.perm p)).perm (q _)
theorem TwinR.none {W w : World} {H : List SProp} {e sz k cap k' cap' : Nat} {ao ao' : Option Addr} {xs ys : List Value} (hw : Holds W H w) (m : TwinR e sz ao cap k xs ao' cap' k' ys ∈ H) : (ao = none → k = 0) ∧ (ao' = none → k' = 0) := by
  obtain ⟨R, p⟩ := mem_perm m
  rcases TwinR.open (hw.perm p) with ⟨⟨e1, e2, e3, e4⟩, h⟩ | h
  · have := h.ownNone (.head _)
    exact ⟨fun q => by have := this (by rw [e1]; exact q); omega, this⟩
  · exact ⟨h.ownNone (.head _), h.ownNone (.tail _ (.head _))⟩

set_option maxHeartbeats 8000000 in
theorem ownbytes_ok {W : World} {R : List SProp} {lo : Option Addr} {lc : Nat} {E : List ListE} (hn : E.length ≤ 1000000000) (hl : ∀ e ∈ E, e.xs.length ≤ 1000000000) :
    Does1 W Try.prog 45 [.slice lo E.length lc] (Own 47 1 (.slice lo E.length lc) E.length (E.map ListE.hdr) :: (E.map ListE.res ++ R)) (.bool true) R := by
  (refine Does.enter Try.func45 Try.ntmps45 rfl rfl ?_)
  refine VC.know (fun w hw => hw.ownNone (by (focus repeat first | exact .head _ | apply List.Mem.tail)) : ∀ w, _ → (lo = none → E.length = 0)) ?_
  intro hln
  (refine w ?_; repeat ((first | refine VO.step rfl rfl ?_ | refine VD.end rfl rfl rfl ?_ | refine VD.mid rfl rfl rfl ?_); refine OpV.box rfl rfl rfl ?_; intro _; refine w ?_))
  refine VC.loop (α := Nat) (fun a => a ≤ E.length) (fun a => Own 47 1 (.slice lo E.length lc) E.length (E.map ListE.hdr) :: ((mkd E a).map ListE.res ++ R))
    (fun a => [(0, .slice lo E.length lc), (3, .int .i64 a)]) (fun a => E.length - a) rfl 0 (Nat.zero_le _) (by rw [mkd_zero]; exact Ent.refl) ⟨rfl, rfl, trivial⟩ ?_
  intro a ha
  (refine w ?_; repeat ((first | refine VO.step rfl rfl ?_ | refine VD.end rfl rfl rfl ?_ | refine VD.mid rfl rfl rfl ?_); refine OpV.box rfl rfl rfl ?_; intro _; refine w ?_))
  (refine VC.cond rfl rfl ?_ ?_ <;> intro hc)
  · have hlt : a < E.length := by have := of_decide_eq_true hc; omega
    obtain ⟨lb, rfl⟩ : ∃ lb, lo = some lb := by cases lo with | none => have := hln rfl; omega | some lb => exact ⟨lb, rfl⟩
    have hla : E[a].xs.length ≤ 1000000000 := hl _ (List.getElem_mem hlt)
    have hget : (E.map ListE.hdr)[a]? = some (.slice E[a].ao E[a].xs.length E[a].cap) := by rw [List.getElem?_map, List.getElem?_eq_getElem hlt]; rfl
    have hmlen : ((mkd E a).map ListE.res).length = E.length := by rw [List.length_map, mkd_length]
    have hself : (mkd E a).map ListE.res = ((mkd E a).map ListE.res).set a (Own 5 1 (.slice E[a].ao E[a].xs.length E[a].cap) E[a].xs.length (marks a 0 ++ E[a].xs.drop 0)) := by
      have e1 : ((mkd E a).map ListE.res)[a]'(by rw [hmlen]; exact hlt) = Own 5 1 (.slice E[a].ao E[a].xs.length E[a].cap) E[a].xs.length (marks a 0 ++ E[a].xs.drop 0) := by
        rw [List.getElem_map, mkd_get E a a hlt, if_neg (Nat.lt_irrefl _)]; rfl
      rw [← e1, List.set_getElem_self]
    have hnext : ((mkd E a).map ListE.res).set a (Own 5 1 (.slice E[a].ao E[a].xs.length E[a].cap) E[a].xs.length (marks a E[a].xs.length)) = (mkd E (a + 1)).map ListE.res := by
      rw [← mkd_set E a hlt, List.map_set]
      congr 1
      unfold ListE.res
      rw [marks_length]
    generalize hL : (mkd E a).map ListE.res = L at *
    (refine w ?_; repeat ((first | refine VO.step rfl rfl ?_ | refine VD.end rfl rfl rfl ?_ | refine VD.mid rfl rfl rfl ?_); refine OpV.box rfl rfl rfl ?_; intro _; refine w ?_))
    refine VC.loop (α := Nat) (fun k => k ≤ E[a].xs.length) (fun k => Own 47 1 (.slice (some lb) E.length lc) E.length (E.map ListE.hdr) :: (L.set a (Own 5 1 (.slice E[a].ao E[a].xs.length E[a].cap) E[a].xs.length (marks a k ++ E[a].xs.drop k)) ++ R))
      (fun k => [(0, .slice (some lb) E.length lc), (3, .int .i64 a), (4, .int .i64 k)]) (fun k => E[a].xs.length - k) rfl 0 (Nat.zero_le _) (by rw [← hself]; exact Ent.refl) ⟨rfl, rfl, rfl, trivial⟩ ?_
    intro k hk
    refine VC.know (p := E[a].ao = none → E[a].xs.length = 0) (fun w hw => Holds.ownNone hw (.tail _ (mem_set L a _ (by omega)))) ?_
    intro han
    (refine w ?_; repeat ((first | refine VO.step rfl rfl ?_ | refine VD.end rfl rfl rfl ?_ | refine VD.mid rfl rfl rfl ?_); refine OpV.box rfl rfl rfl ?_; intro _; refine w ?_))
    (first | refine VO.pure rfl rfl (PureAt.ldR tab_ok rfl rfl (Rds.own (hdrs_one E) (.head _) (by rw [List.length_map, Nat.mul_one]) (fun h => by cases h)) hget) rfl ?_ | refine VD.take rfl rfl rfl (PureAt.ldR tab_ok rfl rfl (Rds.own (hdrs_one E) (.head _) (by rw [List.length_map, Nat.mul_one]) (fun h => by cases h)) hget) rfl ?_ | refine VQ.pure rfl rfl (PureAt.ldR tab_ok rfl rfl (Rds.own (hdrs_one E) (.head _) (by rw [List.length_map, Nat.mul_one]) (fun h => by cases h)) hget) rfl ?_ | refine VD.end rfl rfl rfl (OpV.pure (PureAt.ldR tab_ok rfl rfl (Rds.own (hdrs_one E) (.head _) (by rw [List.length_map, Nat.mul_one]) (fun h => by cases h)) hget) rfl ?_))
    (refine w ?_; repeat ((first | refine VO.step rfl rfl ?_ | refine VD.end rfl rfl rfl ?_ | refine VD.mid rfl rfl rfl ?_); refine OpV.box rfl rfl rfl ?_; intro _; refine w ?_))
    (refine VC.cond rfl rfl ?_ ?_ <;> intro hc)
    · have hkt : k < E[a].xs.length := by have := of_decide_eq_true hc; omega
      obtain ⟨xa, hxa⟩ : ∃ xa, E[a].ao = some xa := by cases h : E[a].ao with | none => have := han h; omega | some xa => exact ⟨xa, rfl⟩
      rw [hxa] at hget ⊢
      (refine w ?_; repeat ((first | refine VO.step rfl rfl ?_ | refine VD.end rfl rfl rfl ?_ | refine VD.mid rfl rfl rfl ?_); refine OpV.box rfl rfl rfl ?_; intro _; refine w ?_))
      (first | refine VO.pure rfl rfl (PureAt.ldR tab_ok rfl rfl (Rds.own (hdrs_one E) (.head _) (by rw [List.length_map, Nat.mul_one]) (fun h => by cases h)) hget) rfl ?_ | refine VD.take rfl rfl rfl (PureAt.ldR tab_ok rfl rfl (Rds.own (hdrs_one E) (.head _) (by rw [List.length_map, Nat.mul_one]) (fun h => by cases h)) hget) rfl ?_ | refine VQ.pure rfl rfl (PureAt.ldR tab_ok rfl rfl (Rds.own (hdrs_one E) (.head _) (by rw [List.length_map, Nat.mul_one]) (fun h => by cases h)) hget) rfl ?_ | refine VD.end rfl rfl rfl (OpV.pure (PureAt.ldR tab_ok rfl rfl (Rds.own (hdrs_one E) (.head _) (by rw [List.length_map, Nat.mul_one]) (fun h => by cases h)) hget) rfl ?_))
      (refine w ?_; repeat ((first | refine VO.step rfl rfl ?_ | refine VD.end rfl rfl rfl ?_ | refine VD.mid rfl rfl rfl ?_); refine OpV.box rfl rfl rfl ?_; intro _; refine w ?_))
      (first | refine VO.step rfl rfl ?_ | refine VD.end rfl rfl rfl ?_ | refine VD.mid rfl rfl rfl ?_)
      refine OpV.stO tab_ok rfl rfl rfl rfl (.tail (hole_set L a _ (by omega))) (by rw [List.length_append, marks_length, List.length_drop]; omega) ?_
      have hset : (marks a k ++ E[a].xs.drop k).set k (.int .u8 (IntKind.u8.wrap ((a : Int) * 97 + (k : Int) * 13))) = marks a (k + 1) ++ E[a].xs.drop (k + 1) := by
        rw [List.set_append_right _ _ (by rw [marks_length]; exact Nat.le_refl _), marks_length, Nat.sub_self, List.drop_eq_getElem_cons hkt, List.set_cons_zero, marks_succ, List.append_assoc]; rfl
      rw [hset]
      (refine w ?_; repeat ((first | refine VO.step rfl rfl ?_ | refine VD.end rfl rfl rfl ?_ | refine VD.mid rfl rfl rfl ?_); refine OpV.box rfl rfl rfl ?_; intro _; refine w ?_))
      exact VE.round (k + 1) hkt (by omega) ⟨rfl, rfl, rfl, trivial⟩ Ent.refl
    · have hge : k = E[a].xs.length := by have := of_decide_eq_false hc; omega
      rw [hge, List.drop_length, List.append_nil, hnext]
      (refine w ?_; repeat ((first | refine VO.step rfl rfl ?_ | refine VD.end rfl rfl rfl ?_ | refine VD.mid rfl rfl rfl ?_); refine OpV.box rfl rfl rfl ?_; intro _; refine w ?_))
      exact VE.round (a + 1) hlt (by omega) ⟨rfl, rfl, trivial⟩ Ent.refl
  have hge : a = E.length := by have := of_decide_eq_false hc; omega
  subst hge
  clear hc ha
  -- every list is marked
  obtain ⟨M, hM⟩ : ∃ M, M = mkd E E.length := ⟨_, rfl⟩
  have hML : M.length = E.length := by rw [hM]; exact mkd_length _ _
  have hMg : ∀ j (h : j < M.length), M[j] = ⟨(E[j]'(by omega)).ao, (E[j]'(by omega)).cap, marks j (E[j]'(by omega)).xs.length⟩ := fun j h => by
    subst hM; rw [mkd_get E _ j (by omega), if_pos (by omega)]
  have hMh : E.map ListE.hdr = M.map ListE.hdr := by
    apply List.ext_getElem (by simp [hML])
    intro j h1 h2
    have hj : j < M.length := by simpa using h2
    rw [List.getElem_map, List.getElem_map, hMg j hj]
    simp [ListE.hdr]
  have hMl : ∀ j (h : j < M.length), M[j].xs.length ≤ 1000000000 ∧ M[j].xs = marks j M[j].xs.length := fun j h => by
    rw [hMg j h]; exact ⟨by rw [marks_length]; exact hl _ (List.getElem_mem _), by simp⟩
  (refine w ?_; repeat ((first | refine VO.step rfl rfl ?_ | refine VD.end rfl rfl rfl ?_ | refine VD.mid rfl rfl rfl ?_); refine OpV.box rfl rfl rfl ?_; intro _; refine w ?_))
  rw [← hM, hMh, ← hML]
  rw [← hML] at hln hn
  clear hMh hMg hl hML hM E
  refine VC.ent (H' := Own 47 1 (.slice none 0 0) 0 (longH M []) :: Own 47 1 (.slice lo M.length lc) M.length (M.map ListE.hdr) :: (grs M [] ++ R)) (fun w hw => by rw [grs_nil]; exact hw.ownNil _ _) ?_
  refine VC.loop (α := List (Option Addr × Nat) × Option Addr × Nat) (fun g => g.1.length ≤ M.length)
    (fun g => Own 47 1 (.slice g.2.1 g.1.length g.2.2) g.1.length (longH M g.1) :: Own 47 1 (.slice lo M.length lc) M.length (M.map ListE.hdr) :: (grs M g.1 ++ R))
    (fun g => [(0, .slice lo M.length lc), (5, .slice g.2.1 g.1.length g.2.2), (6, .int .i64 g.1.length)]) (fun g => M.length - g.1.length) rfl ([], none, 0) (Nat.zero_le _) Ent.refl ⟨rfl, rfl, rfl, trivial⟩ ?_
  rintro ⟨Gs, go, gc⟩ ha
  dsimp only at ha ⊢
  (refine w ?_; repeat ((first | refine VO.step rfl rfl ?_ | refine VD.end rfl rfl rfl ?_ | refine VD.mid rfl rfl rfl ?_); refine OpV.box rfl rfl rfl ?_; intro _; refine w ?_))
  (refine VC.cond rfl rfl ?_ ?_ <;> intro hc)
  · have hlt : Gs.length < M.length := by have := of_decide_eq_true hc; omega
    obtain ⟨lb, rfl⟩ : ∃ lb, lo = some lb := by cases lo with | none => have := hln rfl; omega | some lb => exact ⟨lb, rfl⟩
    obtain ⟨hla, hxs⟩ := hMl Gs.length hlt
    have hget : (M.map ListE.hdr)[Gs.length]? = some (.slice M[Gs.length].ao M[Gs.length].xs.length M[Gs.length].cap) := by rw [List.getElem?_map, List.getElem?_eq_getElem hlt]; rfl
    have hself : grs M Gs = (grs M Gs).set Gs.length M[Gs.length].res := by
      have e1 : (grs M Gs)[Gs.length]'(by rw [grs_length]; exact hlt) = M[Gs.length].res := by
        rw [grs_get M Gs _ hlt, List.getElem?_eq_none (Nat.le_refl _)]
      rw [← e1, List.set_getElem_self]
    have hnext (g : Option Addr × Nat) := grs_set M Gs g hlt
    have hlnext (g : Option Addr × Nat) := longH_snoc M Gs g hlt
    have hgl := grs_length M Gs
    generalize hL : grs M Gs = L at *
    (refine w ?_; repeat ((first | refine VO.step rfl rfl ?_ | refine VD.end rfl rfl rfl ?_ | refine VD.mid rfl rfl rfl ?_); refine OpV.box rfl rfl rfl ?_; intro _; refine w ?_))
    (first | refine VO.pure rfl rfl (PureAt.ldR tab_ok rfl rfl (Rds.own (hdrs_one M) (.tail _ (.head _)) (by rw [List.length_map, Nat.mul_one]) (fun h => by cases h)) hget) rfl ?_ | refine VD.take rfl rfl rfl (PureAt.ldR tab_ok rfl rfl (Rds.own (hdrs_one M) (.tail _ (.head _)) (by rw [List.length_map, Nat.mul_one]) (fun h => by cases h)) hget) rfl ?_ | refine VQ.pure rfl rfl (PureAt.ldR tab_ok rfl rfl (Rds.own (hdrs_one M) (.tail _ (.head _)) (by rw [List.length_map, Nat.mul_one]) (fun h => by cases h)) hget) rfl ?_ | refine VD.end rfl rfl rfl (OpV.pure (PureAt.ldR tab_ok rfl rfl (Rds.own (hdrs_one M) (.tail _ (.head _)) (by rw [List.length_map, Nat.mul_one]) (fun h => by cases h)) hget) rfl ?_))
    (refine w ?_; repeat ((first | refine VO.step rfl rfl ?_ | refine VD.end rfl rfl rfl ?_ | refine VD.mid rfl rfl rfl ?_); refine OpV.box rfl rfl rfl ?_; intro _; refine w ?_))
    refine VC.loop (α := Nat × Option Addr × Nat) (fun g => g.1 ≤ 16)
      (fun g => Own 47 1 (.slice go Gs.length gc) Gs.length (longH M Gs) :: Own 47 1 (.slice (some lb) M.length lc) M.length (M.map ListE.hdr) :: (L.set Gs.length (twin Gs.length M[Gs.length] g.2 g.1) ++ R))
      (fun g => [(0, .slice (some lb) M.length lc), (5, .slice go Gs.length gc), (6, .int .i64 Gs.length), (7, .slice g.2.1 (M[Gs.length].xs.length + g.1) g.2.2), (8, .int .i64 g.1)]) (fun g => 16 - g.1) rfl (0, M[Gs.length].ao, M[Gs.length].cap) (Nat.zero_le _)
      (by
        rw [hself, List.set_set]
        refine Ent.hole (Hole.tail (Hole.tail (hole_set L Gs.length _ (by omega)))) (fun R w hw => ?_)
        have := TwinR.start hw
        simpa [twin, marks2] using this) ⟨rfl, rfl, rfl, rfl, rfl, trivial⟩ ?_
    rintro ⟨k, xo, xc⟩ hk
    dsimp only at hk ⊢
    (refine w ?_; repeat ((first | refine VO.step rfl rfl ?_ | refine VD.end rfl rfl rfl ?_ | refine VD.mid rfl rfl rfl ?_); refine OpV.box rfl rfl rfl ?_; intro _; refine w ?_))
    (refine VC.cond rfl rfl ?_ ?_ <;> intro hc)
    · have hkt : k < 16 := by have := of_decide_eq_true hc; omega
      (refine w ?_; repeat ((first | refine VO.step rfl rfl ?_ | refine VD.end rfl rfl rfl ?_ | refine VD.mid rfl rfl rfl ?_); refine OpV.box rfl rfl rfl ?_; intro _; refine w ?_))
      ((first | refine VO.step rfl rfl ?_ | refine VD.end rfl rfl rfl ?_ | refine VD.mid rfl rfl rfl ?_); refine OpV.buildSlice1 st_47 rfl rfl (by first | (simp; done) | simp [Value.oneCell']) (by decide) rfl ?_; intro nb)
      (first | refine VO.step rfl rfl ?_ | refine VD.end rfl rfl rfl ?_ | refine VD.mid rfl rfl rfl ?_)
      refine OpV.appendT (news := [mk ((-1 - (Gs.length : Int)) * 97 + (k : Int) * 13)]) (m := 1) st_47 rfl rfl (.tail (.tail (.tail (hole_set L Gs.length _ (by omega))))) (fun w hw => (Sees.row (ys := []) (by simp [mk, Value.oneCell']) rfl hw (.head _)).src st_47.und) ?_ ?_ rfl ?_
      · simp only [maxLen]; omega
      · omega
      intro xo' xc'
      (refine w ?_; repeat ((first | refine VO.step rfl rfl ?_ | refine VD.end rfl rfl rfl ?_ | refine VD.mid rfl rfl rfl ?_); refine OpV.box rfl rfl rfl ?_; intro _; refine w ?_))
      refine VE.round (k + 1, xo', xc') hkt (by simp only; omega) ⟨rfl, rfl, rfl, rfl, rfl, trivial⟩ ?_
      unfold twin
      rw [marks2_succ, ← List.append_assoc]
      exact Reord.ent (Reord.drop .refl)
    · have hge : k = 16 := by have := of_decide_eq_false hc; omega
      subst hge
      rw [hnext]
      (refine w ?_; repeat ((first | refine VO.step rfl rfl ?_ | refine VD.end rfl rfl rfl ?_ | refine VD.mid rfl rfl rfl ?_); refine OpV.box rfl rfl rfl ?_; intro _; refine w ?_))
      ((first | refine VO.step rfl rfl ?_ | refine VD.end rfl rfl rfl ?_ | refine VD.mid rfl rfl rfl ?_); refine OpV.buildSlice1 st_33 rfl rfl (by first | (simp; done) | simp [Value.oneCell']) (by decide) rfl ?_; intro nb)
      ((first | refine VO.step rfl rfl ?_ | refine VD.end rfl rfl rfl ?_ | refine VD.mid rfl rfl rfl ?_); refine OpV.appendRow st_33 rfl rfl (by (repeat first | exact .head | apply Hole.tail)) (by (focus repeat first | exact .head _ | apply List.Mem.tail)) rfl (by first | (simp; done) | simp [Value.oneCell']) ?_ ?_ rfl ?_)
      · simp only [maxLen]; omega
      · omega
      intro go' gc'
      rw [← hlnext (xo, xc)]
      (refine w ?_; repeat ((first | refine VO.step rfl rfl ?_ | refine VD.end rfl rfl rfl ?_ | refine VD.mid rfl rfl rfl ?_); refine OpV.box rfl rfl rfl ?_; intro _; refine w ?_))
      refine VE.round (Gs ++ [(xo, xc)], go', gc') (by rw [List.length_append]; exact hlt) (by simp only [List.length_append, List.length_singleton]; omega) ⟨rfl, asV rfl (by rw [List.length_append]; rfl), asV rfl (by rw [List.length_append]; rfl), trivial⟩ ?_
      dsimp only
      rw [List.length_append]
      exact Ent.re
  have hge : Gs.length = M.length := by have := of_decide_eq_false hc; omega
  clear hc ha
  (refine w ?_; repeat ((first | refine VO.step rfl rfl ?_ | refine VD.end rfl rfl rfl ?_ | refine VD.mid rfl rfl rfl ?_); refine OpV.box rfl rfl rfl ?_; intro _; refine w ?_))
  refine VC.know (p := go = none → Gs.length = 0) (fun w hw => Holds.ownNone hw (.head _)) ?_
  intro hgn
  generalize hH : (Own 47 1 (.slice go Gs.length gc) Gs.length (longH M Gs) :: Own 47 1 (.slice lo M.length lc) M.length (M.map ListE.hdr) :: (grs M Gs ++ R)) = HH
  have hr1 : Rds W HH 1 lo M.length (M.map ListE.hdr) := by subst hH; exact Rds.own (hdrs_one M) (.tail _ (.head _)) (by rw [List.length_map, Nat.mul_one]) hln
  have hr2 : Rds W HH 1 go Gs.length (longH M Gs) := by subst hH; exact Rds.own (longH_one M Gs) (.head _) (by rw [longH_length, Nat.mul_one]) hgn
  have hend : Ent W HH R := by
    subst hH
    exact Ent.drop (Ent.drop (fun w hw => by
      have : ∀ (X : List SProp) w, Holds W (X ++ R) w → Holds W R w := fun X => by
        induction X with
        | nil => exact fun w h => h
        | cons a r ih => exact fun w h => ih w h.tail
      exact this _ w hw))
  have htw : ∀ a (h : a < M.length), twin a M[a] (Gs[a]'(by omega)) 16 ∈ HH := fun a h => by
    subst hH
    refine .tail _ (.tail _ (List.mem_append_left _ (List.mem_iff_getElem.2 ⟨a, by rw [grs_length]; exact h, ?_⟩)))
    rw [grs_get M Gs a h, List.getElem?_eq_getElem (by omega)]
  have hlg : ∀ a (h : a < M.length), (longH M Gs)[a]? = some (.slice (Gs[a]'(by omega)).1 (M[a].xs.length + 16) (Gs[a]'(by omega)).2) := fun a h => by
    unfold longH
    rw [List.getElem?_mapIdx, List.getElem?_eq_getElem h, List.getElem?_eq_getElem (l := Gs) (by omega)]; rfl
  clear hH
  refine VC.loop (α := Nat) (fun a => a ≤ M.length) (fun _ => HH)
    (fun a => [(0, .slice lo M.length lc), (5, .slice go Gs.length gc), (9, .int .i64 a)]) (fun a => M.length - a) rfl 0 (Nat.zero_le _) Ent.refl ⟨rfl, rfl, rfl, trivial⟩ ?_
  intro a ha
  (refine w ?_; repeat ((first | refine VO.step rfl rfl ?_ | refine VD.end rfl rfl rfl ?_ | refine VD.mid rfl rfl rfl ?_); refine OpV.box rfl rfl rfl ?_; intro _; refine w ?_))
  (refine VC.cond rfl rfl ?_ ?_ <;> intro hc)
  · have hlt : a < M.length := by have := of_decide_eq_true hc; omega
    obtain ⟨lb, rfl⟩ : ∃ lb, lo = some lb := by cases lo with | none => have := hln rfl; omega | some lb => exact ⟨lb, rfl⟩
    obtain ⟨gb, rfl⟩ : ∃ gb, go = some gb := by cases go with | none => have := hgn rfl; omega | some gb => exact ⟨gb, rfl⟩
    obtain ⟨hla, hxs⟩ := hMl a hlt
    have hget : (M.map ListE.hdr)[a]? = some (.slice M[a].ao M[a].xs.length M[a].cap) := by rw [List.getElem?_map, List.getElem?_eq_getElem hlt]; rfl
    have htw := htw a hlt
    have hlg := hlg a hlt
    have hgl : a < Gs.length := by omega
    generalize Gs[a] = g at *
    generalize M[a] = e at *
    have h1 : ∀ u ∈ e.xs, u.oneCell' = true := by rw [hxs]; exact marks_one _ _
    have h2 : ∀ u ∈ e.xs ++ marks2 a 16, u.oneCell' = true := fun u hu => by
      rcases List.mem_append.1 hu with q | q
      · exact h1 u q
      · exact marks2_one _ _ u q
    refine VC.know (fun w hw => TwinR.none hw htw) ?_
    rintro ⟨hon, hnn⟩
    have ho : Rds W HH 1 e.ao e.xs.length e.xs := TwinR.rdsOld htw h1 (by rw [Nat.mul_one]) hon
    have hw' : Rds W HH 1 g.1 (e.xs.length + 16) (e.xs ++ marks2 a 16) := TwinR.rdsNew htw h2 (by rw [List.length_append, marks2_length, Nat.mul_one]) hnn
    obtain ⟨gx, hgx⟩ : ∃ gx, g.1 = some gx := by cases h : g.1 with | none => have := hnn h; omega | some gx => exact ⟨gx, rfl⟩
    rw [hgx] at hlg hw'
    (refine w ?_; repeat ((first | refine VO.step rfl rfl ?_ | refine VD.end rfl rfl rfl ?_ | refine VD.mid rfl rfl rfl ?_); refine OpV.box rfl rfl rfl ?_; intro _; refine w ?_))
    (first | refine VO.pure rfl rfl (PureAt.ldR tab_ok rfl rfl hr1 hget) rfl ?_ | refine VD.take rfl rfl rfl (PureAt.ldR tab_ok rfl rfl hr1 hget) rfl ?_ | refine VQ.pure rfl rfl (PureAt.ldR tab_ok rfl rfl hr1 hget) rfl ?_ | refine VD.end rfl rfl rfl (OpV.pure (PureAt.ldR tab_ok rfl rfl hr1 hget) rfl ?_))
    (refine w ?_; repeat ((first | refine VO.step rfl rfl ?_ | refine VD.end rfl rfl rfl ?_ | refine VD.mid rfl rfl rfl ?_); refine OpV.box rfl rfl rfl ?_; intro _; refine w ?_))
    refine VC.loop (α := Nat) (fun k => k ≤ e.xs.length) (fun _ => HH)
      (fun k => [(0, .slice (some lb) M.length lc), (5, .slice (some gb) Gs.length gc), (9, .int .i64 a), (10, .int .i64 e.xs.length), (11, .int .i64 k)]) (fun k => e.xs.length - k) rfl 0 (Nat.zero_le _) Ent.refl ⟨rfl, rfl, rfl, rfl, rfl, trivial⟩ ?_
    intro k hk
    (refine w ?_; repeat ((first | refine VO.step rfl rfl ?_ | refine VD.end rfl rfl rfl ?_ | refine VD.mid rfl rfl rfl ?_); refine OpV.box rfl rfl rfl ?_; intro _; refine w ?_))
    (refine VC.cond rfl rfl ?_ ?_ <;> intro hc)
    · have hkt : k < e.xs.length := by have := of_decide_eq_true hc; omega
      obtain ⟨ox, hox⟩ : ∃ ox, e.ao = some ox := by cases h : e.ao with | none => have := hon h; omega | some ox => exact ⟨ox, rfl⟩
      rw [hox] at hget ho
      have hk1 : e.xs[k]? = some (mk ((a : Int) * 97 + (k : Int) * 13)) := by rw [hxs]; exact marks_get a _ k hkt
      have hk2 : (e.xs ++ marks2 a 16)[k]? = some (mk ((a : Int) * 97 + (k : Int) * 13)) := by rw [List.getElem?_append_left hkt]; exact hk1
      (refine w ?_; repeat ((first | refine VO.step rfl rfl ?_ | refine VD.end rfl rfl rfl ?_ | refine VD.mid rfl rfl rfl ?_); refine OpV.box rfl rfl rfl ?_; intro _; refine w ?_))
      (first | refine VO.pure rfl rfl (PureAt.ldR tab_ok rfl rfl hr1 hget) rfl ?_ | refine VD.take rfl rfl rfl (PureAt.ldR tab_ok rfl rfl hr1 hget) rfl ?_ | refine VQ.pure rfl rfl (PureAt.ldR tab_ok rfl rfl hr1 hget) rfl ?_ | refine VD.end rfl rfl rfl (OpV.pure (PureAt.ldR tab_ok rfl rfl hr1 hget) rfl ?_))
      (refine w ?_; repeat ((first | refine VO.step rfl rfl ?_ | refine VD.end rfl rfl rfl ?_ | refine VD.mid rfl rfl rfl ?_); refine OpV.box rfl rfl rfl ?_; intro _; refine w ?_))
      (first | refine VO.pure rfl rfl (PureAt.ldR tab_ok rfl rfl ho hk1) rfl ?_ | refine VD.take rfl rfl rfl (PureAt.ldR tab_ok rfl rfl ho hk1) rfl ?_ | refine VQ.pure rfl rfl (PureAt.ldR tab_ok rfl rfl ho hk1) rfl ?_ | refine VD.end rfl rfl rfl (OpV.pure (PureAt.ldR tab_ok rfl rfl ho hk1) rfl ?_))
      (refine w ?_; repeat ((first | refine VO.step rfl rfl ?_ | refine VD.end rfl rfl rfl ?_ | refine VD.mid rfl rfl rfl ?_); refine OpV.box rfl rfl rfl ?_; intro _; refine w ?_))
      (first | refine VO.gF rfl rfl rfl (by simp) ?_ | refine VD.gF rfl rfl rfl (by simp) ?_)
      (refine w ?_; repeat ((first | refine VO.step rfl rfl ?_ | refine VD.end rfl rfl rfl ?_ | refine VD.mid rfl rfl rfl ?_); refine OpV.box rfl rfl rfl ?_; intro _; refine w ?_))
      (first | refine VO.pure rfl rfl (PureAt.ldR tab_ok rfl rfl hr2 hlg) rfl ?_ | refine VD.take rfl rfl rfl (PureAt.ldR tab_ok rfl rfl hr2 hlg) rfl ?_ | refine VQ.pure rfl rfl (PureAt.ldR tab_ok rfl rfl hr2 hlg) rfl ?_ | refine VD.end rfl rfl rfl (OpV.pure (PureAt.ldR tab_ok rfl rfl hr2 hlg) rfl ?_))
      (refine w ?_; repeat ((first | refine VO.step rfl rfl ?_ | refine VD.end rfl rfl rfl ?_ | refine VD.mid rfl rfl rfl ?_); refine OpV.box rfl rfl rfl ?_; intro _; refine w ?_))
      (first | refine VO.pure rfl rfl (PureAt.ldR tab_ok rfl rfl hw' hk2) rfl ?_ | refine VD.take rfl rfl rfl (PureAt.ldR tab_ok rfl rfl hw' hk2) rfl ?_ | refine VQ.pure rfl rfl (PureAt.ldR tab_ok rfl rfl hw' hk2) rfl ?_ | refine VD.end rfl rfl rfl (OpV.pure (PureAt.ldR tab_ok rfl rfl hw' hk2) rfl ?_))
      (refine w ?_; repeat ((first | refine VO.step rfl rfl ?_ | refine VD.end rfl rfl rfl ?_ | refine VD.mid rfl rfl rfl ?_); refine OpV.box rfl rfl rfl ?_; intro _; refine w ?_))
      (refine VC.condFe rfl rfl (by simp) ?_)
      (refine w ?_; repeat ((first | refine VO.step rfl rfl ?_ | refine VD.end rfl rfl rfl ?_ | refine VD.mid rfl rfl rfl ?_); refine OpV.box rfl rfl rfl ?_; intro _; refine w ?_))
      exact VE.round (k + 1) hkt (by omega) ⟨rfl, rfl, rfl, rfl, rfl, trivial⟩ Ent.refl
    · (refine w ?_; repeat ((first | refine VO.step rfl rfl ?_ | refine VD.end rfl rfl rfl ?_ | refine VD.mid rfl rfl rfl ?_); refine OpV.box rfl rfl rfl ?_; intro _; refine w ?_))
      refine VC.loop (α := Nat) (fun k => k ≤ 16) (fun _ => HH)
        (fun k => [(0, .slice (some lb) M.length lc), (5, .slice (some gb) Gs.length gc), (9, .int .i64 a), (10, .int .i64 e.xs.length), (12, .int .i64 k)]) (fun k => 16 - k) rfl 0 (Nat.zero_le _) Ent.refl ⟨rfl, rfl, rfl, rfl, rfl, trivial⟩ ?_
      intro k hk
      (refine w ?_; repeat ((first | refine VO.step rfl rfl ?_ | refine VD.end rfl rfl rfl ?_ | refine VD.mid rfl rfl rfl ?_); refine OpV.box rfl rfl rfl ?_; intro _; refine w ?_))
      (refine VC.cond rfl rfl ?_ ?_ <;> intro hc)
      · have hkt : k < 16 := by have := of_decide_eq_true hc; omega
        have hk2 : (e.xs ++ marks2 a 16)[e.xs.length + k]? = some (mk ((-1 - (a : Int)) * 97 + (k : Int) * 13)) := by
          rw [List.getElem?_append_right (by omega), Nat.add_sub_cancel_left]; exact marks2_get a 16 k hkt
        (refine w ?_; repeat ((first | refine VO.step rfl rfl ?_ | refine VD.end rfl rfl rfl ?_ | refine VD.mid rfl rfl rfl ?_); refine OpV.box rfl rfl rfl ?_; intro _; refine w ?_))
        (first | refine VO.pure rfl rfl (PureAt.ldR tab_ok rfl rfl hr2 hlg) rfl ?_ | refine VD.take rfl rfl rfl (PureAt.ldR tab_ok rfl rfl hr2 hlg) rfl ?_ | refine VQ.pure rfl rfl (PureAt.ldR tab_ok rfl rfl hr2 hlg) rfl ?_ | refine VD.end rfl rfl rfl (OpV.pure (PureAt.ldR tab_ok rfl rfl hr2 hlg) rfl ?_))
        (first | (first | refine VO.nil rfl ?_ | refine VQ.nil rfl ?_ | refine VD.nil ?_ | ((first | apply VO.pure rfl rfl | apply VQ.pure rfl rfl | apply VD.take rfl rfl rfl | (refine VD.end rfl rfl rfl ?_; apply OpV.pure)); (first | (apply PureAt.ar64 rfl rfl rfl; omega) | exact .eval tab_ok rfl | (apply PureAt.ld tab_ok rfl rfl; (focus repeat first | exact .head _ | apply List.Mem.tail); rfl) | (apply PureAt.shr rfl rfl (by decide) (by decide)) | (apply PureAt.shr rfl rfl (by omega) (by simp only [IntKind.bits]; omega)) | exact .fieldAddrA tab_ok rfl rfl | exact .sliceLH tab_ok rfl rfl rfl rfl (by omega) (by omega) | exact .sliceH tab_ok rfl rfl rfl (by omega) | exact .sliceL tab_ok rfl rfl rfl (by omega) | (first | exact .indexAddr tab_ok rfl rfl rfl rfl (by omega) | exact .indexAddrN tab_ok rfl rfl rfl rfl (by omega) | exact .indexAddrI tab_ok rfl rfl rfl rfl (toNatLit _) (by decide) (by omega) | exact .indexAddrNI tab_ok rfl rfl rfl rfl (toNatLit _) (by decide) (by omega) | exact .ldR tab_ok rfl rfl hr1 (List.getElem?_eq_getElem (by omega)) | exact .ldR tab_ok rfl rfl hr2 (List.getElem?_eq_getElem (by omega)) | exact ldB tab_ok rfl rfl hb1 (by omega) | exact ldB tab_ok rfl rfl hb2 (by omega)) | exact .sliceHI tab_ok rfl rfl rfl (toNatLit _) (by decide) (by omega) | exact .sliceLI tab_ok rfl rfl rfl (toNatLit _) (by decide) (by omega) | (apply PureAt.ldA tab_ok rfl rfl; (focus repeat first | exact .head _ | apply List.Mem.tail); rfl; rfl) | exact .ldro tab_ok rfl rfl (by assumption)); rfl) | refine VO.skip rfl rfl rfl rfl ?_ | refine VQ.skip rfl rfl rfl rfl ?_ | refine VD.skip rfl rfl rfl rfl rfl ?_ | refine VD.skipM rfl rfl Ent.refl rfl rfl rfl ?_ | ((first | refine VO.step rfl rfl ?_ | refine VD.end rfl rfl rfl ?_ | refine VD.mid rfl rfl rfl ?_); (first | (apply OpV.st tab_ok rfl rfl rfl rfl (by (repeat first | exact .head | apply Hole.tail); first | done | fail) (by first | (simp; done) | fail)) | (refine OpV.box rfl rfl rfl ?_; intro _))) | refine ⟨Ent.re, ?_⟩) | (first | refine VC.seq rfl ?_ | refine VC.region rfl ?_ | refine VC.condT rfl rfl ?_ | refine VC.condF rfl rfl ?_ | refine VC.block rfl ?_ | refine VC.skip rfl ?_ | refine VC.ret rfl ?_ | refine VC.exit rfl ?_ | refine VC.scope rfl ?_ | refine VC.label rfl ?_) | (first | refine VE.next ?_ | refine VE.passRet ?_ | refine VE.passExit ?_ | refine VE.blockNormal ?_ | refine VE.blockHit ?_ | refine VE.blockMiss rfl ?_ | refine VE.blockRet ?_ | refine VE.loopRet ?_ | refine VE.loopExit ?_ | refine VE.scopeNormal ?_ | refine VE.scopeRet ?_ | refine VE.scopeExit ?_))
        (first | (first | refine VO.nil rfl ?_ | refine VQ.nil rfl ?_ | refine VD.nil ?_ | ((first | apply VO.pure rfl rfl | apply VQ.pure rfl rfl | apply VD.take rfl rfl rfl | (refine VD.end rfl rfl rfl ?_; apply OpV.pure)); (first | (apply PureAt.ar64 rfl rfl rfl; omega) | exact .eval tab_ok rfl | (apply PureAt.ld tab_ok rfl rfl; (focus repeat first | exact .head _ | apply List.Mem.tail); rfl) | (apply PureAt.shr rfl rfl (by decide) (by decide)) | (apply PureAt.shr rfl rfl (by omega) (by simp only [IntKind.bits]; omega)) | exact .fieldAddrA tab_ok rfl rfl | exact .sliceLH tab_ok rfl rfl rfl rfl (by omega) (by omega) | exact .sliceH tab_ok rfl rfl rfl (by omega) | exact .sliceL tab_ok rfl rfl rfl (by omega) | (first | exact .indexAddr tab_ok rfl rfl rfl rfl (by omega) | exact .indexAddrN tab_ok rfl rfl rfl rfl (by omega) | exact .indexAddrI tab_ok rfl rfl rfl rfl (toNatLit _) (by decide) (by omega) | exact .indexAddrNI tab_ok rfl rfl rfl rfl (toNatLit _) (by decide) (by omega) | exact .ldR tab_ok rfl rfl hr1 (List.getElem?_eq_getElem (by omega)) | exact .ldR tab_ok rfl rfl hr2 (List.getElem?_eq_getElem (by omega)) | exact ldB tab_ok rfl rfl hb1 (by omega) | exact ldB tab_ok rfl rfl hb2 (by omega)) | exact .sliceHI tab_ok rfl rfl rfl (toNatLit _) (by decide) (by omega) | exact .sliceLI tab_ok rfl rfl rfl (toNatLit _) (by decide) (by omega) | (apply PureAt.ldA tab_ok rfl rfl; (focus repeat first | exact .head _ | apply List.Mem.tail); rfl; rfl) | exact .ldro tab_ok rfl rfl (by assumption)); rfl) | refine VO.skip rfl rfl rfl rfl ?_ | refine VQ.skip rfl rfl rfl rfl ?_ | refine VD.skip rfl rfl rfl rfl rfl ?_ | refine VD.skipM rfl rfl Ent.refl rfl rfl rfl ?_ | ((first | refine VO.step rfl rfl ?_ | refine VD.end rfl rfl rfl ?_ | refine VD.mid rfl rfl rfl ?_); (first | (apply OpV.st tab_ok rfl rfl rfl rfl (by (repeat first | exact .head | apply Hole.tail); first | done | fail) (by first | (simp; done) | fail)) | (refine OpV.box rfl rfl rfl ?_; intro _))) | refine ⟨Ent.re, ?_⟩) | (first | refine VC.seq rfl ?_ | refine VC.region rfl ?_ | refine VC.condT rfl rfl ?_ | refine VC.condF rfl rfl ?_ | refine VC.block rfl ?_ | refine VC.skip rfl ?_ | refine VC.ret rfl ?_ | refine VC.exit rfl ?_ | refine VC.scope rfl ?_ | refine VC.label rfl ?_) | (first | refine VE.next ?_ | refine VE.passRet ?_ | refine VE.passExit ?_ | refine VE.blockNormal ?_ | refine VE.blockHit ?_ | refine VE.blockMiss rfl ?_ | refine VE.blockRet ?_ | refine VE.loopRet ?_ | refine VE.loopExit ?_ | refine VE.scopeNormal ?_ | refine VE.scopeRet ?_ | refine VE.scopeExit ?_))
        (first | (first | refine VO.nil rfl ?_ | refine VQ.nil rfl ?_ | refine VD.nil ?_ | ((first | apply VO.pure rfl rfl | apply VQ.pure rfl rfl | apply VD.take rfl rfl rfl | (refine VD.end rfl rfl rfl ?_; apply OpV.pure)); (first | (apply PureAt.ar64 rfl rfl rfl; omega) | exact .eval tab_ok rfl | (apply PureAt.ld tab_ok rfl rfl; (focus repeat first | exact .head _ | apply List.Mem.tail); rfl) | (apply PureAt.shr rfl rfl (by decide) (by decide)) | (apply PureAt.shr rfl rfl (by omega) (by simp only [IntKind.bits]; omega)) | exact .fieldAddrA tab_ok rfl rfl | exact .sliceLH tab_ok rfl rfl rfl rfl (by omega) (by omega) | exact .sliceH tab_ok rfl rfl rfl (by omega) | exact .sliceL tab_ok rfl rfl rfl (by omega) | (first | exact .indexAddr tab_ok rfl rfl rfl rfl (by omega) | exact .indexAddrN tab_ok rfl rfl rfl rfl (by omega) | exact .indexAddrI tab_ok rfl rfl rfl rfl (toNatLit _) (by decide) (by omega) | exact .indexAddrNI tab_ok rfl rfl rfl rfl (toNatLit _) (by decide) (by omega) | exact .ldR tab_ok rfl rfl hr1 (List.getElem?_eq_getElem (by omega)) | exact .ldR tab_ok rfl rfl hr2 (List.getElem?_eq_getElem (by omega)) | exact ldB tab_ok rfl rfl hb1 (by omega) | exact ldB tab_ok rfl rfl hb2 (by omega)) | exact .sliceHI tab_ok rfl rfl rfl (toNatLit _) (by decide) (by omega) | exact .sliceLI tab_ok rfl rfl rfl (toNatLit _) (by decide) (by omega) | (apply PureAt.ldA tab_ok rfl rfl; (focus repeat first | exact .head _ | apply List.Mem.tail); rfl; rfl) | exact .ldro tab_ok rfl rfl (by assumption)); rfl) | refine VO.skip rfl rfl rfl rfl ?_ | refine VQ.skip rfl rfl rfl rfl ?_ | refine VD.skip rfl rfl rfl rfl rfl ?_ | refine VD.skipM rfl rfl Ent.refl rfl rfl rfl ?_ | ((first | refine VO.step rfl rfl ?_ | refine VD.end rfl rfl rfl ?_ | refine VD.mid rfl rfl rfl ?_); (first | (apply OpV.st tab_ok rfl rfl rfl rfl (by (repeat first | exact .head | apply Hole.tail); first | done | fail) (by first | (simp; done) | fail)) | (refine OpV.box rfl rfl rfl ?_; intro _))) | refine ⟨Ent.re, ?_⟩) | (first | refine VC.seq rfl ?_ | refine VC.region rfl ?_ | refine VC.condT rfl rfl ?_ | refine VC.condF rfl rfl ?_ | refine VC.block rfl ?_ | refine VC.skip rfl ?_ | refine VC.ret rfl ?_ | refine VC.exit rfl ?_ | refine VC.scope rfl ?_ | refine VC.label rfl ?_) | (first | refine VE.next ?_ | refine VE.passRet ?_ | refine VE.passExit ?_ | refine VE.blockNormal ?_ | refine VE.blockHit ?_ | refine VE.blockMiss rfl ?_ | refine VE.blockRet ?_ | refine VE.loopRet ?_ | refine VE.loopExit ?_ | refine VE.scopeNormal ?_ | refine VE.scopeRet ?_ | refine VE.scopeExit ?_))
        refine VO.re 124 (.int .i64 ((e.xs.length + k : Nat) : Int)) rfl (by congr 1) ?_
        (refine w ?_; repeat ((first | refine VO.step rfl rfl ?_ | refine VD.end rfl rfl rfl ?_ | refine VD.mid rfl rfl rfl ?_); refine OpV.box rfl rfl rfl ?_; intro _; refine w ?_))
        (first | refine VO.pure rfl rfl (PureAt.ldR tab_ok rfl rfl hw' hk2) rfl ?_ | refine VD.take rfl rfl rfl (PureAt.ldR tab_ok rfl rfl hw' hk2) rfl ?_ | refine VQ.pure rfl rfl (PureAt.ldR tab_ok rfl rfl hw' hk2) rfl ?_ | refine VD.end rfl rfl rfl (OpV.pure (PureAt.ldR tab_ok rfl rfl hw' hk2) rfl ?_))
        (refine w ?_; repeat ((first | refine VO.step rfl rfl ?_ | refine VD.end rfl rfl rfl ?_ | refine VD.mid rfl rfl rfl ?_); refine OpV.box rfl rfl rfl ?_; intro _; refine w ?_))
        (refine VC.condFe rfl rfl (by simp) ?_)
        (refine w ?_; repeat ((first | refine VO.step rfl rfl ?_ | refine VD.end rfl rfl rfl ?_ | refine VD.mid rfl rfl rfl ?_); refine OpV.box rfl rfl rfl ?_; intro _; refine w ?_))
        exact VE.round (k + 1) hkt (by omega) ⟨rfl, rfl, rfl, rfl, rfl, trivial⟩ Ent.refl
      · (refine w ?_; repeat ((first | refine VO.step rfl rfl ?_ | refine VD.end rfl rfl rfl ?_ | refine VD.mid rfl rfl rfl ?_); refine OpV.box rfl rfl rfl ?_; intro _; refine w ?_))
        exact VE.round (a + 1) hlt (by omega) ⟨rfl, rfl, rfl, trivial⟩ Ent.refl
  · (refine w ?_; repeat ((first | refine VO.step rfl rfl ?_ | refine VD.end rfl rfl rfl ?_ | refine VD.mid rfl rfl rfl ?_); refine OpV.box rfl rfl rfl ?_; intro _; refine w ?_))
    (refine VE.done1 rfl ?_ ?_)
    · rfl
    · exact hend
end Go.Proofs.Ytpmmkmcbimnigaa

/-! Text Lk. -/
/- What is lent: LentBytes, WholeBytes, SpoilBytes; calls on packers with bytes of one's own. -/
set_option maxRecDepth 8000
set_option linter.unusedVariables false
set_option linter.unusedSimpArgs false
set_option linter.unusedSectionVars false
namespace Go.Proofs.Ytpmmkmcbimnigaa
open Go.RowKit Go.Sl
attribute [local irreducible] Own

/-! ### What is lent -/

def lentV (l : List UInt8) : List Value := bytes l ++ [.int .u8 91, .int .u8 92]
theorem lentV_one (l : List UInt8) : ∀ u ∈ lentV l, u.oneCell' = true := by
  intro u hu
  rcases List.mem_append.1 hu with h | h
  · exact bytes_one _ u h
  · simp only [List.mem_cons, List.not_mem_nil, or_false] at h; rcases h with h | h <;> subst h <;> rfl
@[simp] theorem lentV_length (l : List UInt8) : (lentV l).length = l.length + 2 := by simp [lentV]
abbrev LentO (a : Addr) (cap : Nat) (l : List UInt8) : SProp := Own 5 1 (.slice (some a) (l.length + 2) cap) (l.length + 2) (lentV l)
theorem LentO.rds {W : World} {R : List SProp} {a : Addr} {cap : Nat} {l : List UInt8} : Rds W (LentO a cap l :: R) 1 (some a) l.length (bytes l) := by
  have h := Rds.take (l := l.length) (Rds.own (W := W) (H := LentO a cap l :: R) (lentV_one l) (.head _) (by rw [lentV_length, Nat.mul_one]) (fun h => by cases h)) (by omega)
  rw [Nat.mul_one, lentV, List.take_left' (by simp)] at h
  exact h

theorem lent_ok {W : World} {R : List SProp} {ao : Option Addr} {cap : Nat} {l : List UInt8} (hb : RdsA W 1 ao l.length (bytes l)) (hl : l.length ≤ 1000000000) :
    Does W Try.prog 31 [.slice ao l.length cap] R (β := Addr × Nat) (fun _ => True) (fun x => .slice (some x.1) l.length x.2) (fun x => LentO x.1 x.2 l :: R) := by
  (refine Does.enter Try.func31 Try.ntmps31 rfl rfl ?_)
  (refine w ?_; repeat ((first | refine VO.step rfl rfl ?_ | refine VD.end rfl rfl rfl ?_ | refine VD.mid rfl rfl rfl ?_); refine OpV.box rfl rfl rfl ?_; intro _; refine w ?_))
  refine VO.re 7 (.int .i64 ((l.length + 2 : Nat) : Int)) rfl (by congr 1) ?_
  (first | refine VO.step rfl rfl ?_ | refine VD.end rfl rfl rfl ?_ | refine VD.mid rfl rfl rfl ?_)
  refine OpV.makeCap (m := l.length + 2) st_47 rfl rfl (by omega) (by simp only [maxLen]; omega) rfl ?_
  intro nb
  (refine w ?_; repeat ((first | refine VO.step rfl rfl ?_ | refine VD.end rfl rfl rfl ?_ | refine VD.mid rfl rfl rfl ?_); refine OpV.box rfl rfl rfl ?_; intro _; refine w ?_))
  (first | refine VO.step rfl rfl ?_ | refine VD.end rfl rfl rfl ?_ | refine VD.mid rfl rfl rfl ?_)
  refine OpV.append st_47 rfl rfl (by (repeat first | exact .head | apply Hole.tail)) (fun w hw => ((hb _).sees hw).src st_47.und) (by simp only [maxLen]; omega) (by omega) rfl ?_
  intro ao1 cap1
  simp only [Nat.zero_add, List.nil_append]
  (refine w ?_; repeat ((first | refine VO.step rfl rfl ?_ | refine VD.end rfl rfl rfl ?_ | refine VD.mid rfl rfl rfl ?_); refine OpV.box rfl rfl rfl ?_; intro _; refine w ?_))
  ((first | refine VO.step rfl rfl ?_ | refine VD.end rfl rfl rfl ?_ | refine VD.mid rfl rfl rfl ?_); refine OpV.buildSlice1 st_47 rfl rfl (by first | (simp; done) | simp [Value.oneCell']) (by decide) rfl ?_; intro nb)
  ((first | refine VO.step rfl rfl ?_ | refine VD.end rfl rfl rfl ?_ | refine VD.mid rfl rfl rfl ?_); refine OpV.appendRow st_47 rfl rfl (by (repeat first | exact .head | apply Hole.tail)) (by (focus repeat first | exact .head _ | apply List.Mem.tail)) rfl (by first | (simp; done) | simp [Value.oneCell']) ?_ ?_ rfl ?_)
  · simp only [maxLen]; omega
  · omega
  intro ao2 cap2
  refine VO.know (p := ao2 = none → l.length + 2 = 0) (fun w hw => Holds.ownNone hw (.tail _ (.head _))) ?_
  intro hnn
  refine VO.know (p := l.length + 2 ≤ cap2) (fun w hw => Holds.ownCap hw (.tail _ (.head _))) ?_
  intro hcc
  obtain ⟨a2, rfl⟩ : ∃ a, ao2 = some a := by cases ao2 with | none => have := hnn rfl; omega | some a => exact ⟨a, rfl⟩
  (refine w ?_; repeat ((first | refine VO.step rfl rfl ?_ | refine VD.end rfl rfl rfl ?_ | refine VD.mid rfl rfl rfl ?_); refine OpV.box rfl rfl rfl ?_; intro _; refine w ?_))
  refine VE.done (a2, cap2) rfl trivial rfl ?_
  exact Ent.re

theorem whole_ok {W : World} {R : List SProp} {ao : Option Addr} {a : Addr} {cap cap2 : Nat} {l : List UInt8} (hb : RdsA W 1 ao l.length (bytes l)) (hl : l.length ≤ 1000000000) :
    Does1 W Try.prog 32 [.slice (some a) l.length cap, .slice ao l.length cap2] (LentO a cap l :: R) (.bool true) (LentO a cap l :: R) := by
  have hr : Rds W (LentO a cap l :: R) 1 (some a) (l.length + 2) (lentV l) := Rds.own (lentV_one l) (.head _) (by rw [lentV_length, Nat.mul_one]) (fun h => by cases h)
  (refine Does.enter Try.func32 Try.ntmps32 rfl rfl ?_)
  refine VC.know (p := l.length + 2 ≤ cap) (fun w hw => Holds.ownCap hw (.head _)) ?_
  intro hcc
  (refine w ?_; repeat ((first | refine VO.step rfl rfl ?_ | refine VD.end rfl rfl rfl ?_ | refine VD.mid rfl rfl rfl ?_); refine OpV.box rfl rfl rfl ?_; intro _; refine w ?_))
  (refine VC.condFe rfl rfl (by simp; omega) ?_)
  (refine w ?_; repeat ((first | refine VO.step rfl rfl ?_ | refine VD.end rfl rfl rfl ?_ | refine VD.mid rfl rfl rfl ?_); refine OpV.box rfl rfl rfl ?_; intro _; refine w ?_))
  refine VO.re 5 (.slice (some a) (l.length + 2) cap) rfl rfl ?_
  refine VO.re 17 (.slice (some a) (l.length + 2) cap) rfl rfl ?_
  (refine w ?_; repeat ((first | refine VO.step rfl rfl ?_ | refine VD.end rfl rfl rfl ?_ | refine VD.mid rfl rfl rfl ?_); refine OpV.box rfl rfl rfl ?_; intro _; refine w ?_))
  (first | refine VO.pure rfl rfl (PureAt.ldR tab_ok rfl rfl hr (show (lentV l)[l.length]? = some (.int .u8 91) by simp [lentV, List.getElem?_append_right])) rfl ?_ | refine VD.take rfl rfl rfl (PureAt.ldR tab_ok rfl rfl hr (show (lentV l)[l.length]? = some (.int .u8 91) by simp [lentV, List.getElem?_append_right])) rfl ?_ | refine VQ.pure rfl rfl (PureAt.ldR tab_ok rfl rfl hr (show (lentV l)[l.length]? = some (.int .u8 91) by simp [lentV, List.getElem?_append_right])) rfl ?_ | refine VD.end rfl rfl rfl (OpV.pure (PureAt.ldR tab_ok rfl rfl hr (show (lentV l)[l.length]? = some (.int .u8 91) by simp [lentV, List.getElem?_append_right])) rfl ?_))
  (refine w ?_; repeat ((first | refine VO.step rfl rfl ?_ | refine VD.end rfl rfl rfl ?_ | refine VD.mid rfl rfl rfl ?_); refine OpV.box rfl rfl rfl ?_; intro _; refine w ?_))
  refine VO.re 27 (.int .i64 ((l.length + 1 : Nat) : Int)) rfl rfl ?_
  (refine w ?_; repeat ((first | refine VO.step rfl rfl ?_ | refine VD.end rfl rfl rfl ?_ | refine VD.mid rfl rfl rfl ?_); refine OpV.box rfl rfl rfl ?_; intro _; refine w ?_))
  (first | refine VO.pure rfl rfl (PureAt.ldR tab_ok rfl rfl hr (show (lentV l)[l.length + 1]? = some (.int .u8 92) by simp [lentV, List.getElem?_append_right])) rfl ?_ | refine VD.take rfl rfl rfl (PureAt.ldR tab_ok rfl rfl hr (show (lentV l)[l.length + 1]? = some (.int .u8 92) by simp [lentV, List.getElem?_append_right])) rfl ?_ | refine VQ.pure rfl rfl (PureAt.ldR tab_ok rfl rfl hr (show (lentV l)[l.length + 1]? = some (.int .u8 92) by simp [lentV, List.getElem?_append_right])) rfl ?_ | refine VD.end rfl rfl rfl (OpV.pure (PureAt.ldR tab_ok rfl rfl hr (show (lentV l)[l.length + 1]? = some (.int .u8 92) by simp [lentV, List.getElem?_append_right])) rfl ?_))
  (refine w ?_; repeat ((first | refine VO.step rfl rfl ?_ | refine VD.end rfl rfl rfl ?_ | refine VD.mid rfl rfl rfl ?_); refine OpV.box rfl rfl rfl ?_; intro _; refine w ?_))
  ((first | refine VO.step rfl rfl ?_ | refine VD.end rfl rfl rfl ?_ | refine VD.mid rfl rfl rfl ?_); refine OpV.call rfl rfl (fun _ _ => by simp) (same_any (a := l) (b := l) LentO.rds (hb _) (by simp only [maxLen]; omega)) Ent.refl rfl ?_; intro _ _)
  (refine w ?_; repeat ((first | refine VO.step rfl rfl ?_ | refine VD.end rfl rfl rfl ?_ | refine VD.mid rfl rfl rfl ?_); refine OpV.box rfl rfl rfl ?_; intro _; refine w ?_))
  (refine VE.done1 rfl ?_ ?_)
  · simp
  · exact Ent.refl

theorem Holds.ownFull {W w : World} {R : List SProp} {e m cap : Nat} {a : Addr} {xs : List Value} (hw : Holds W (Own e 1 (.slice (some a) m cap) m xs :: R) w) : ∃ ys : { ys : List Value // ys.length = cap ∧ cap ≤ maxLen }, Holds W (Own e 1 (.slice (some a) cap cap) cap ys.1 :: R) w := by
  obtain ⟨hl, hv⟩ := hw.ownOpen
  rcases hv with ⟨he, rfl, hR⟩ | ⟨b, cap0, spare, he, hn, hm, hc, hR⟩
  · cases he
  · cases he
    refine ⟨⟨xs ++ spare, by rw [hc, Nat.mul_one], hm⟩, ?_⟩
    exact Holds.ownShut (spare := []) hc (Nat.le_refl _) hm (by rw [List.append_nil]; exact hc) (by rw [List.append_nil]; exact hR)

theorem spoil_ok {W : World} {R : List SProp} {a : Addr} {n m cap : Nat} {xs : List Value} (hn : n ≤ cap) :
    Does1 W Try.prog 33 [.slice (some a) n cap] (Own 5 1 (.slice (some a) m cap) m xs :: R) (.tuple #[]) R := by
  (refine Does.enter Try.func33 Try.ntmps33 rfl rfl ?_)
  refine VC.obtain (fun w => Holds.ownFull) ?_
  rintro ⟨ys, hy, hcm⟩
  dsimp only
  simp only [maxLen] at hcm
  (refine w ?_; repeat ((first | refine VO.step rfl rfl ?_ | refine VD.end rfl rfl rfl ?_ | refine VD.mid rfl rfl rfl ?_); refine OpV.box rfl rfl rfl ?_; intro _; refine w ?_))
  refine VC.loop (α := Nat × List Value) (fun g => g.1 ≤ cap ∧ g.2.length = cap) (fun g => Own 5 1 (.slice (some a) cap cap) cap g.2 :: R)
    (fun g => [(2, .slice (some a) cap cap), (3, .int .i64 g.1)]) (fun g => cap - g.1) rfl (0, ys) ⟨Nat.zero_le _, hy⟩ Ent.refl ⟨rfl, rfl, trivial⟩ ?_
  rintro ⟨i, zs⟩ ⟨hi, hz⟩
  dsimp only at hi hz ⊢
  (refine w ?_; repeat ((first | refine VO.step rfl rfl ?_ | refine VD.end rfl rfl rfl ?_ | refine VD.mid rfl rfl rfl ?_); refine OpV.box rfl rfl rfl ?_; intro _; refine w ?_))
  (refine VC.cond rfl rfl ?_ ?_ <;> intro hc)
  · have hlt : i < cap := by have := of_decide_eq_true hc; omega
    (refine w ?_; repeat ((first | refine VO.step rfl rfl ?_ | refine VD.end rfl rfl rfl ?_ | refine VD.mid rfl rfl rfl ?_); refine OpV.box rfl rfl rfl ?_; intro _; refine w ?_))
    (first | refine VO.step rfl rfl ?_ | refine VD.end rfl rfl rfl ?_ | refine VD.mid rfl rfl rfl ?_)
    refine OpV.stO tab_ok rfl rfl rfl rfl .head (by omega) ?_
    (refine w ?_; repeat ((first | refine VO.step rfl rfl ?_ | refine VD.end rfl rfl rfl ?_ | refine VD.mid rfl rfl rfl ?_); refine OpV.box rfl rfl rfl ?_; intro _; refine w ?_))
    exact VE.round (i + 1, _) ⟨hlt, by rw [List.length_set]; exact hz⟩ (by simp only; omega) ⟨rfl, rfl, trivial⟩ Ent.refl
  · (refine w ?_; repeat ((first | refine VO.step rfl rfl ?_ | refine VD.end rfl rfl rfl ?_ | refine VD.mid rfl rfl rfl ?_); refine OpV.box rfl rfl rfl ?_; intro _; refine w ?_))
    (refine VE.done1N rfl ?_ ?_)
    · rfl
    · exact Ent.drop Ent.refl
end Go.Proofs.Ytpmmkmcbimnigaa

/-! Text Bo. -/
/- The document's book of lists of bytes: Bytes, Own. -/
set_option maxRecDepth 8000
set_option linter.unusedVariables false
set_option linter.unusedSimpArgs false
set_option linter.unusedSectionVars false
namespace Go.Proofs.Ytpmmkmcbimnigaa
open Go.RowKit Go.Sl
attribute [local irreducible] Own

theorem ownTexts_nil {W : World} {R : List SProp} : Does1 W Try.prog 46 [.slice none 0 0] R (.bool true) R := by
  (refine Does.enter Try.func46 Try.ntmps46 rfl rfl ?_)
  (refine w ?_; repeat ((first | refine VO.step rfl rfl ?_ | refine VD.end rfl rfl rfl ?_ | refine VD.mid rfl rfl rfl ?_); refine OpV.box rfl rfl rfl ?_; intro _; refine w ?_))
  refine VC.once rfl ?_
  (refine w ?_; repeat ((first | refine VO.step rfl rfl ?_ | refine VD.end rfl rfl rfl ?_ | refine VD.mid rfl rfl rfl ?_); refine OpV.box rfl rfl rfl ?_; intro _; refine w ?_))
  refine VC.once rfl ?_
  (refine w ?_; repeat ((first | refine VO.step rfl rfl ?_ | refine VD.end rfl rfl rfl ?_ | refine VD.mid rfl rfl rfl ?_); refine OpV.box rfl rfl rfl ?_; intro _; refine w ?_))
  refine VC.once rfl ?_
  (refine w ?_; repeat ((first | refine VO.step rfl rfl ?_ | refine VD.end rfl rfl rfl ?_ | refine VD.mid rfl rfl rfl ?_); refine OpV.box rfl rfl rfl ?_; intro _; refine w ?_))
  (first | exact VE.done1 rfl rfl Ent.refl | exact VE.done1N rfl rfl Ent.refl)
theorem ownInts_nil {W : World} {R : List SProp} : Does1 W Try.prog 47 [.slice none 0 0] R (.bool true) R := by
  (refine Does.enter Try.func47 Try.ntmps47 rfl rfl ?_)
  (refine w ?_; repeat ((first | refine VO.step rfl rfl ?_ | refine VD.end rfl rfl rfl ?_ | refine VD.mid rfl rfl rfl ?_); refine OpV.box rfl rfl rfl ?_; intro _; refine w ?_))
  refine VC.once rfl ?_
  (refine w ?_; repeat ((first | refine VO.step rfl rfl ?_ | refine VD.end rfl rfl rfl ?_ | refine VD.mid rfl rfl rfl ?_); refine OpV.box rfl rfl rfl ?_; intro _; refine w ?_))
  refine VC.once rfl ?_
  (refine w ?_; repeat ((first | refine VO.step rfl rfl ?_ | refine VD.end rfl rfl rfl ?_ | refine VD.mid rfl rfl rfl ?_); refine OpV.box rfl rfl rfl ?_; intro _; refine w ?_))
  refine VC.once rfl ?_
  (refine w ?_; repeat ((first | refine VO.step rfl rfl ?_ | refine VD.end rfl rfl rfl ?_ | refine VD.mid rfl rfl rfl ?_); refine OpV.box rfl rfl rfl ?_; intro _; refine w ?_))
  (first | exact VE.done1 rfl rfl Ent.refl | exact VE.done1N rfl rfl Ent.refl)
theorem ownNumbers_nil {W : World} {R : List SProp} : Does1 W Try.prog 48 [.slice none 0 0] R (.bool true) R := by
  (refine Does.enter Try.func48 Try.ntmps48 rfl rfl ?_)
  (refine w ?_; repeat ((first | refine VO.step rfl rfl ?_ | refine VD.end rfl rfl rfl ?_ | refine VD.mid rfl rfl rfl ?_); refine OpV.box rfl rfl rfl ?_; intro _; refine w ?_))
  refine VC.once rfl ?_
  (refine w ?_; repeat ((first | refine VO.step rfl rfl ?_ | refine VD.end rfl rfl rfl ?_ | refine VD.mid rfl rfl rfl ?_); refine OpV.box rfl rfl rfl ?_; intro _; refine w ?_))
  refine VC.once rfl ?_
  (refine w ?_; repeat ((first | refine VO.step rfl rfl ?_ | refine VD.end rfl rfl rfl ?_ | refine VD.mid rfl rfl rfl ?_); refine OpV.box rfl rfl rfl ?_; intro _; refine w ?_))
  refine VC.once rfl ?_
  (refine w ?_; repeat ((first | refine VO.step rfl rfl ?_ | refine VD.end rfl rfl rfl ?_ | refine VD.mid rfl rfl rfl ?_); refine OpV.box rfl rfl rfl ?_; intro _; refine w ?_))
  (first | exact VE.done1 rfl rfl Ent.refl | exact VE.done1N rfl rfl Ent.refl)
theorem ownErrs_nil {W : World} {R : List SProp} : Does1 W Try.prog 49 [.slice none 0 0] R (.bool true) R := by
  (refine Does.enter Try.func49 Try.ntmps49 rfl rfl ?_)
  (refine w ?_; repeat ((first | refine VO.step rfl rfl ?_ | refine VD.end rfl rfl rfl ?_ | refine VD.mid rfl rfl rfl ?_); refine OpV.box rfl rfl rfl ?_; intro _; refine w ?_))
  refine VC.once rfl ?_
  (refine w ?_; repeat ((first | refine VO.step rfl rfl ?_ | refine VD.end rfl rfl rfl ?_ | refine VD.mid rfl rfl rfl ?_); refine OpV.box rfl rfl rfl ?_; intro _; refine w ?_))
  refine VC.once rfl ?_
  (refine w ?_; repeat ((first | refine VO.step rfl rfl ?_ | refine VD.end rfl rfl rfl ?_ | refine VD.mid rfl rfl rfl ?_); refine OpV.box rfl rfl rfl ?_; intro _; refine w ?_))
  refine VC.once rfl ?_
  (refine w ?_; repeat ((first | refine VO.step rfl rfl ?_ | refine VD.end rfl rfl rfl ?_ | refine VD.mid rfl rfl rfl ?_); refine OpV.box rfl rfl rfl ?_; intro _; refine w ?_))
  (first | exact VE.done1 rfl rfl Ent.refl | exact VE.done1N rfl rfl Ent.refl)
theorem ownSpans_nil {W : World} {R : List SProp} : Does1 W Try.prog 50 [.slice none 0 0] R (.bool true) R := by
  (refine Does.enter Try.func50 Try.ntmps50 rfl rfl ?_)
  (refine w ?_; repeat ((first | refine VO.step rfl rfl ?_ | refine VD.end rfl rfl rfl ?_ | refine VD.mid rfl rfl rfl ?_); refine OpV.box rfl rfl rfl ?_; intro _; refine w ?_))
  refine VC.once rfl ?_
  (refine w ?_; repeat ((first | refine VO.step rfl rfl ?_ | refine VD.end rfl rfl rfl ?_ | refine VD.mid rfl rfl rfl ?_); refine OpV.box rfl rfl rfl ?_; intro _; refine w ?_))
  refine VC.once rfl ?_
  (refine w ?_; repeat ((first | refine VO.step rfl rfl ?_ | refine VD.end rfl rfl rfl ?_ | refine VD.mid rfl rfl rfl ?_); refine OpV.box rfl rfl rfl ?_; intro _; refine w ?_))
  refine VC.once rfl ?_
  (refine w ?_; repeat ((first | refine VO.step rfl rfl ?_ | refine VD.end rfl rfl rfl ?_ | refine VD.mid rfl rfl rfl ?_); refine OpV.box rfl rfl rfl ?_; intro _; refine w ?_))
  (first | exact VE.done1 rfl rfl Ent.refl | exact VE.done1N rfl rfl Ent.refl)
theorem ownStates_nil {W : World} {R : List SProp} : Does1 W Try.prog 51 [.slice none 0 0] R (.bool true) R := by
  (refine Does.enter Try.func51 Try.ntmps51 rfl rfl ?_)
  (refine w ?_; repeat ((first | refine VO.step rfl rfl ?_ | refine VD.end rfl rfl rfl ?_ | refine VD.mid rfl rfl rfl ?_); refine OpV.box rfl rfl rfl ?_; intro _; refine w ?_))
  refine VC.once rfl ?_
  (refine w ?_; repeat ((first | refine VO.step rfl rfl ?_ | refine VD.end rfl rfl rfl ?_ | refine VD.mid rfl rfl rfl ?_); refine OpV.box rfl rfl rfl ?_; intro _; refine w ?_))
  refine VC.once rfl ?_
  (refine w ?_; repeat ((first | refine VO.step rfl rfl ?_ | refine VD.end rfl rfl rfl ?_ | refine VD.mid rfl rfl rfl ?_); refine OpV.box rfl rfl rfl ?_; intro _; refine w ?_))
  refine VC.once rfl ?_
  (refine w ?_; repeat ((first | refine VO.step rfl rfl ?_ | refine VD.end rfl rfl rfl ?_ | refine VD.mid rfl rfl rfl ?_); refine OpV.box rfl rfl rfl ?_; intro _; refine w ?_))
  (first | exact VE.done1 rfl rfl Ent.refl | exact VE.done1N rfl rfl Ent.refl)
theorem ownBools_nil {W : World} {R : List SProp} : Does1 W Try.prog 52 [.slice none 0 0] R (.bool true) R := by
  (refine Does.enter Try.func52 Try.ntmps52 rfl rfl ?_)
  (refine w ?_; repeat ((first | refine VO.step rfl rfl ?_ | refine VD.end rfl rfl rfl ?_ | refine VD.mid rfl rfl rfl ?_); refine OpV.box rfl rfl rfl ?_; intro _; refine w ?_))
  (first | refine VO.step rfl rfl ?_ | refine VD.end rfl rfl rfl ?_ | refine VD.mid rfl rfl rfl ?_)
  refine OpV.makeSlice1 (m := 0) st_40 rfl rfl rfl (by decide) (by decide) rfl ?_
  intro nb
  (refine w ?_; repeat ((first | refine VO.step rfl rfl ?_ | refine VD.end rfl rfl rfl ?_ | refine VD.mid rfl rfl rfl ?_); refine OpV.box rfl rfl rfl ?_; intro _; refine w ?_))
  refine VC.once rfl ?_
  (refine w ?_; repeat ((first | refine VO.step rfl rfl ?_ | refine VD.end rfl rfl rfl ?_ | refine VD.mid rfl rfl rfl ?_); refine OpV.box rfl rfl rfl ?_; intro _; refine w ?_))
  (first | refine VO.pure rfl rfl (PureAt.shl rfl rfl (by decide)) rfl ?_ | refine VD.take rfl rfl rfl (PureAt.shl rfl rfl (by decide)) rfl ?_ | refine VQ.pure rfl rfl (PureAt.shl rfl rfl (by decide)) rfl ?_ | refine VD.end rfl rfl rfl (OpV.pure (PureAt.shl rfl rfl (by decide)) rfl ?_))
  (refine w ?_; repeat ((first | refine VO.step rfl rfl ?_ | refine VD.end rfl rfl rfl ?_ | refine VD.mid rfl rfl rfl ?_); refine OpV.box rfl rfl rfl ?_; intro _; refine w ?_))
  (refine VE.done1 rfl ?_ ?_)
  · rfl
  · exact Ent.re
theorem ownPuts_nil {W : World} {R : List SProp} : Does1 W Try.prog 54 [.slice none 0 0] R (.bool true) R := by
  (refine Does.enter Try.func54 Try.ntmps54 rfl rfl ?_)
  (refine w ?_; repeat ((first | refine VO.step rfl rfl ?_ | refine VD.end rfl rfl rfl ?_ | refine VD.mid rfl rfl rfl ?_); refine OpV.box rfl rfl rfl ?_; intro _; refine w ?_))
  refine VC.once rfl ?_
  (refine w ?_; repeat ((first | refine VO.step rfl rfl ?_ | refine VD.end rfl rfl rfl ?_ | refine VD.mid rfl rfl rfl ?_); refine OpV.box rfl rfl rfl ?_; intro _; refine w ?_))
  refine VC.once rfl ?_
  (refine w ?_; repeat ((first | refine VO.step rfl rfl ?_ | refine VD.end rfl rfl rfl ?_ | refine VD.mid rfl rfl rfl ?_); refine OpV.box rfl rfl rfl ?_; intro _; refine w ?_))
  refine VC.once rfl ?_
  (refine w ?_; repeat ((first | refine VO.step rfl rfl ?_ | refine VD.end rfl rfl rfl ?_ | refine VD.mid rfl rfl rfl ?_); refine OpV.box rfl rfl rfl ?_; intro _; refine w ?_))
  (first | exact VE.done1 rfl rfl Ent.refl | exact VE.done1N rfl rfl Ent.refl)
abbrev bookRow (lo : Option Addr) (n lc : Nat) : List Value := .slice lo n lc :: List.replicate 11 (.slice none 0 0)
def BookR (b : Nat) (E : List ListE) : SProp := ex fun x : Option Addr × Nat => Sl.star (Row b 46 (bookRow x.1 E.length x.2) :: Own 47 1 (.slice x.1 E.length x.2) E.length (E.map ListE.hdr) :: E.map ListE.res)
theorem BookR.open {W w : World} {b : Nat} {E : List ListE} {R : List SProp} (hw : Holds W (BookR b E :: R) w) : ∃ x : Option Addr × Nat, Holds W (Row b 46 (bookRow x.1 E.length x.2) :: Own 47 1 (.slice x.1 E.length x.2) E.length (E.map ListE.hdr) :: (E.map ListE.res ++ R)) w := by
  obtain ⟨x, h⟩ := hw.exOpen
  exact ⟨x, h.join⟩
theorem BookR.shut {W w : World} {b lc : Nat} {lo : Option Addr} {E : List ListE} {R : List SProp} (hw : Holds W (Row b 46 (bookRow lo E.length lc) :: Own 47 1 (.slice lo E.length lc) E.length (E.map ListE.hdr) :: (E.map ListE.res ++ R)) w) : Holds W (BookR b E :: R) w :=
  Holds.exShut (lo, lc) (Holds.nest (L := _ :: _ :: E.map ListE.res) hw)

end Go.Proofs.Ytpmmkmcbimnigaa

/-! Text Ep. -/
/- RecordLogged, RecordReads: the walks of the laws. -/
set_option maxRecDepth 8000
set_option linter.unusedVariables false
set_option linter.unusedSimpArgs false
set_option linter.unusedSectionVars false
namespace Go.Proofs.Ytpmmkmcbimnigaa
open Go.RowKit Go.Sl
attribute [local irreducible] Own

theorem flatMap_byteV (l : List UInt8) : l.flatMap (fun c => [byteV c]) = bytes l := by
  induction l with
  | nil => rfl
  | cons a r ih => simp only [List.flatMap_cons, ih]; rfl
theorem bytesC_of {W : World} {ao : Option Addr} {n cap : Nat} (h : InT Try.prog W 47 [.slice ao n cap]) : ∃ l : List UInt8, l.length = n ∧ RdsA W 1 ao n (bytes l) ∧ n ≤ 140737488351232 ∧ n ≤ cap := by
  obtain ⟨l, h1, h2, -, h4, h5⟩ := h.list (fun c : UInt8 => [byteV c]) (fun _ => True) 0 Try.underlying47 (by kernel_rfl) (fun o _ u hu => by simp at hu; subst hu; rfl) (fun cs hc => by
    obtain ⟨m, rfl, hw⟩ := hc.int_inv Try.underlying5
    obtain ⟨c, rfl⟩ := byte_of hw
    exact ⟨c, rfl, trivial⟩)
  have b1 : Try.prog.bytesOf 5 = 1 := by kernel_rfl
  rw [b1] at h5
  rw [flatMap_byteV] at h2
  exact ⟨l, h1, h2, by simp only [reachBytes] at h5; omega, h4⟩
end Go.Proofs.Ytpmmkmcbimnigaa

/-! Text Qz. -/
/- Lists of structs that somebody owns. -/
set_option maxRecDepth 8000
set_option linter.unusedVariables false
set_option linter.unusedSimpArgs false
set_option linter.unusedSectionVars false
namespace Go.Proofs.Ytpmmkmcbimnigaa
open Go.RowKit Go.Sl
attribute [local irreducible] Own

structure ListN where
  ao : Option Addr
  cap : Nat
  n : Nat
  xs : List Value
abbrev ListN.hdr (e : ListN) : Value := .slice e.ao e.n e.cap
theorem ListN.hdrs_one (l : List ListN) : ∀ u ∈ l.map ListN.hdr, u.oneCell' = true := by
  intro u hu; obtain ⟨e, _, rfl⟩ := List.mem_map.1 hu; rfl
end Go.Proofs.Ytpmmkmcbimnigaa

/-! Text Qb. -/
/- The document's book: lists of patches that are its owner's own. Written by gen_own.py. -/
set_option maxRecDepth 8000
set_option linter.unusedVariables false
set_option linter.unusedSimpArgs false
set_option linter.unusedSectionVars false
namespace Go.Proofs.Ytpmmkmcbimnigaa
open Go.RowKit Go.Sl
attribute [local irreducible] Own
namespace Pt

def mk (z : Int) : List Value := [.int .i64 0, .int .i64 z, .slice none 0 0]
abbrev val (z : Int) : Value := .int .i64 z
def marks (a m : Nat) : List Value := (List.range m).flatMap fun (k : Nat) => mk ((a : Int) * 1000 + (k : Int))
def marks2 (a m : Nat) : List Value := (List.range m).flatMap fun (k : Nat) => mk ((-1 - (a : Int)) * 1000 + (k : Int))
theorem marks_length (a m : Nat) : (marks a m).length = m * 3 := by
  have := flat_length (w := 3) (g := fun (k : Nat) => mk ((a : Int) * 1000 + (k : Int))) (List.range m) (fun _ _ => rfl); rwa [List.length_range] at this
theorem marks2_length (a m : Nat) : (marks2 a m).length = m * 3 := by
  have := flat_length (w := 3) (g := fun (k : Nat) => mk ((-1 - (a : Int)) * 1000 + (k : Int))) (List.range m) (fun _ _ => rfl); rwa [List.length_range] at this
theorem marks_succ (a m : Nat) : marks a (m + 1) = marks a m ++ mk ((a : Int) * 1000 + (m : Int)) := by unfold marks; rw [List.range_succ, List.flatMap_append]; simp
theorem marks2_succ (a m : Nat) : marks2 a (m + 1) = marks2 a m ++ mk ((-1 - (a : Int)) * 1000 + (m : Int)) := by unfold marks2; rw [List.range_succ, List.flatMap_append]; simp
theorem mk_one (z : Int) : ∀ u ∈ mk z, u.oneCell' = true := by simp [mk, Value.oneCell']
theorem marks_one (a m : Nat) : ∀ u ∈ marks a m, u.oneCell' = true := by
  intro u hu; obtain ⟨k, _, h⟩ := List.mem_flatMap.1 hu; exact mk_one _ u h
theorem marks2_one (a m : Nat) : ∀ u ∈ marks2 a m, u.oneCell' = true := by
  intro u hu; obtain ⟨k, _, h⟩ := List.mem_flatMap.1 hu; exact mk_one _ u h
theorem marks_get (a m k : Nat) (h : k < m) : (marks a m)[k * 3 + 1]? = some (val ((a : Int) * 1000 + (k : Int))) := by
  have := flat_at (w := 3) (g := fun (k : Nat) => mk ((a : Int) * 1000 + (k : Int))) (List.range m) k 1 (by rw [List.length_range]; exact h) (fun _ _ => rfl) (by decide)
  rw [List.getElem_range] at this
  exact this
theorem marks2_get (a m k : Nat) (h : k < m) : (marks2 a m)[k * 3 + 1]? = some (val ((-1 - (a : Int)) * 1000 + (k : Int))) := by
  have := flat_at (w := 3) (g := fun (k : Nat) => mk ((-1 - (a : Int)) * 1000 + (k : Int))) (List.range m) k 1 (by rw [List.length_range]; exact h) (fun _ _ => rfl) (by decide)
  rw [List.getElem_range] at this
  exact this
def res (e : ListN) : SProp := Own 49 3 (.slice e.ao e.n e.cap) e.n e.xs
/-- The lists, the first so many of them marked. -/
def mkd (E : List ListN) (a : Nat) : List ListN := E.mapIdx fun j e => if j < a then ⟨e.ao, e.cap, e.n, marks j e.n⟩ else e
theorem mkd_length (E : List ListN) (a : Nat) : (mkd E a).length = E.length := by simp [mkd]
theorem mkd_get (E : List ListN) (a j : Nat) (h : j < E.length) : (mkd E a)[j]'(by rw [mkd_length]; exact h) = if j < a then ⟨E[j].ao, E[j].cap, E[j].n, marks j E[j].n⟩ else E[j] := by simp [mkd]
theorem mkd_zero (E : List ListN) : mkd E 0 = E := by
  unfold mkd; apply List.ext_getElem (by simp); intro i h1 h2; simp
theorem mkd_set (E : List ListN) (a : Nat) (h : a < E.length) : (mkd E a).set a ⟨E[a].ao, E[a].cap, E[a].n, marks a E[a].n⟩ = mkd E (a + 1) := by
  apply List.ext_getElem (by simp [mkd_length])
  intro j h1 h2
  have hj : j < E.length := by simpa [mkd_length] using h2
  rw [List.getElem_set, mkd_get E (a + 1) j hj]
  split
  · rename_i q; subst q; rw [if_pos (Nat.lt_succ_self _)]
  · rename_i q
    rw [mkd_get E a j hj]
    by_cases q2 : j < a
    · rw [if_pos q2, if_pos (by omega)]
    · rw [if_neg q2, if_neg (by omega)]
/-- The lists, the first of them with what has grown out of them. -/
def twin (j : Nat) (e : ListN) (g : Option Addr × Nat) (m : Nat) : SProp := TwinR 49 3 e.ao e.cap e.n e.xs g.1 g.2 (e.n + m) (e.xs ++ marks2 j m)
def grs (M : List ListN) (Gs : List (Option Addr × Nat)) : List SProp := M.mapIdx fun j e => match Gs[j]? with
  | some g => twin j e g 16
  | none => res e
theorem grs_length (M : List ListN) (Gs : List (Option Addr × Nat)) : (grs M Gs).length = M.length := by simp [grs]
theorem grs_nil (M : List ListN) : grs M [] = M.map res := by
  unfold grs; apply List.ext_getElem (by simp); intro i h1 h2; simp
theorem grs_get (M : List ListN) (Gs : List (Option Addr × Nat)) (j : Nat) (h : j < M.length) : (grs M Gs)[j]'(by rw [grs_length]; exact h) = match Gs[j]? with
  | some g => twin j M[j] g 16
  | none => res M[j] := by simp [grs]
theorem grs_set (M : List ListN) (Gs : List (Option Addr × Nat)) (g : Option Addr × Nat) (h : Gs.length < M.length) : (grs M Gs).set Gs.length (twin Gs.length M[Gs.length] g 16) = grs M (Gs ++ [g]) := by
  apply List.ext_getElem (by simp [grs_length])
  intro j h1 h2
  have hj : j < M.length := by simpa [grs_length] using h2
  rw [List.getElem_set, grs_get M (Gs ++ [g]) j hj]
  split
  · rename_i q; subst q; rw [List.getElem?_append_right (Nat.le_refl _)]; simp
  · rename_i q
    rw [grs_get M Gs j hj]
    by_cases q2 : j < Gs.length
    · rw [List.getElem?_append_left q2]
    · rw [List.getElem?_eq_none (by omega), List.getElem?_eq_none (by simp; omega)]
def longH (M : List ListN) (Gs : List (Option Addr × Nat)) : List Value := Gs.mapIdx fun j g => .slice g.1 (((M[j]?).map fun e => e.n).getD 0 + 16) g.2
theorem longH_length (M : List ListN) (Gs : List (Option Addr × Nat)) : (longH M Gs).length = Gs.length := by simp [longH]
theorem longH_snoc (M : List ListN) (Gs : List (Option Addr × Nat)) (g : Option Addr × Nat) (h : Gs.length < M.length) : longH M (Gs ++ [g]) = longH M Gs ++ [.slice g.1 (M[Gs.length].n + 16) g.2] := by
  unfold longH
  rw [List.mapIdx_append]
  congr 1
  simp [List.getElem?_eq_getElem h]
theorem longH_one (M : List ListN) (Gs : List (Option Addr × Nat)) : ∀ u ∈ longH M Gs, u.oneCell' = true := by
  intro u hu
  obtain ⟨j, hj, rfl⟩ := List.mem_iff_getElem.1 hu
  simp [longH, Value.oneCell']
set_option maxHeartbeats 8000000 in
theorem own_ok {W : World} {R : List SProp} {lo : Option Addr} {lc : Nat} {E : List ListN} (hn : E.length ≤ 1000000000) (hl : ∀ e ∈ E, e.n ≤ 1000000000) :
    Does1 W Try.prog 55 [.slice lo E.length lc] (Own 56 1 (.slice lo E.length lc) E.length (E.map ListN.hdr) :: (E.map res ++ R)) (.bool true) R := by
  (refine Does.enter Try.func55 Try.ntmps55 rfl rfl ?_)
  refine VC.know (p := lo = none → E.length = 0) (fun w hw => hw.ownNone (.head _)) ?_
  intro hln
  (refine w ?_; repeat ((first | refine VO.step rfl rfl ?_ | refine VD.end rfl rfl rfl ?_ | refine VD.mid rfl rfl rfl ?_); refine OpV.box rfl rfl rfl ?_; intro _; refine w ?_))
  refine VC.loop (α := Nat) (fun a => a ≤ E.length) (fun a => Own 56 1 (.slice lo E.length lc) E.length (E.map ListN.hdr) :: ((mkd E a).map res ++ R)) (fun a => [(0, .slice lo E.length lc), (3, .int .i64 a)]) (fun a => E.length - a) rfl 0 (Nat.zero_le _) (by rw [mkd_zero]; exact Ent.refl) ⟨rfl, rfl, trivial⟩ ?_
  intro a ha
  (refine w ?_; repeat ((first | refine VO.step rfl rfl ?_ | refine VD.end rfl rfl rfl ?_ | refine VD.mid rfl rfl rfl ?_); refine OpV.box rfl rfl rfl ?_; intro _; refine w ?_))
  (refine VC.cond rfl rfl ?_ ?_ <;> intro hc)
  · have hlt : a < E.length := by have := of_decide_eq_true hc; omega
    obtain ⟨lb, rfl⟩ : ∃ lb, lo = some lb := by cases lo with | none => have := hln rfl; omega | some lb => exact ⟨lb, rfl⟩
    have hla := hl _ (List.getElem_mem hlt)
    have hget : (E.map ListN.hdr)[a]? = some (.slice E[a].ao E[a].n E[a].cap) := by rw [List.getElem?_map, List.getElem?_eq_getElem hlt]; rfl
    have hmlen : ((mkd E a).map res).length = E.length := by rw [List.length_map, mkd_length]
    have hself : (mkd E a).map res = ((mkd E a).map res).set a (Own 49 3 (.slice E[a].ao E[a].n E[a].cap) E[a].n (marks a 0 ++ E[a].xs.drop (0 * 3))) := by
      have e1 : ((mkd E a).map res)[a]'(by rw [hmlen]; exact hlt) = Own 49 3 (.slice E[a].ao E[a].n E[a].cap) E[a].n (marks a 0 ++ E[a].xs.drop (0 * 3)) := by
        rw [List.getElem_map, mkd_get E a a hlt, if_neg (Nat.lt_irrefl _)]; rfl
      rw [← e1, List.set_getElem_self]
    have hnext : ((mkd E a).map res).set a (Own 49 3 (.slice E[a].ao E[a].n E[a].cap) E[a].n (marks a E[a].n)) = (mkd E (a + 1)).map res := by
      rw [← mkd_set E a hlt, List.map_set]; rfl
    generalize hL : (mkd E a).map res = L at *
    (refine w ?_; repeat ((first | refine VO.step rfl rfl ?_ | refine VD.end rfl rfl rfl ?_ | refine VD.mid rfl rfl rfl ?_); refine OpV.box rfl rfl rfl ?_; intro _; refine w ?_))
    refine VC.loop (α := Nat) (fun k => k ≤ E[a].n) (fun k => Own 56 1 (.slice (some lb) E.length lc) E.length (E.map ListN.hdr) :: (L.set a (Own 49 3 (.slice E[a].ao E[a].n E[a].cap) E[a].n (marks a k ++ E[a].xs.drop (k * 3))) ++ R))
      (fun k => [(0, .slice (some lb) E.length lc), (3, .int .i64 a), (4, .int .i64 k)]) (fun k => E[a].n - k) rfl 0 (Nat.zero_le _) (by rw [← hself]; exact Ent.refl) ⟨rfl, rfl, rfl, trivial⟩ ?_
    intro k hk
    refine VC.know (p := E[a].ao = none → E[a].n = 0) (fun w hw => Holds.ownNone hw (.tail _ (mem_set L a _ (by omega)))) ?_
    intro han
    refine VC.know (fun w hw => Holds.ownLen hw (.tail _ (mem_set L a _ (by omega)))) ?_
    intro hlen
    (refine w ?_; repeat ((first | refine VO.step rfl rfl ?_ | refine VD.end rfl rfl rfl ?_ | refine VD.mid rfl rfl rfl ?_); refine OpV.box rfl rfl rfl ?_; intro _; refine w ?_))
    (first | refine VO.pure rfl rfl (PureAt.ldR tab_ok rfl rfl (Rds.own (ListN.hdrs_one E) (.head _) (by rw [List.length_map, Nat.mul_one]) (fun h => by cases h)) hget) rfl ?_ | refine VD.take rfl rfl rfl (PureAt.ldR tab_ok rfl rfl (Rds.own (ListN.hdrs_one E) (.head _) (by rw [List.length_map, Nat.mul_one]) (fun h => by cases h)) hget) rfl ?_ | refine VQ.pure rfl rfl (PureAt.ldR tab_ok rfl rfl (Rds.own (ListN.hdrs_one E) (.head _) (by rw [List.length_map, Nat.mul_one]) (fun h => by cases h)) hget) rfl ?_ | refine VD.end rfl rfl rfl (OpV.pure (PureAt.ldR tab_ok rfl rfl (Rds.own (ListN.hdrs_one E) (.head _) (by rw [List.length_map, Nat.mul_one]) (fun h => by cases h)) hget) rfl ?_))
    (refine w ?_; repeat ((first | refine VO.step rfl rfl ?_ | refine VD.end rfl rfl rfl ?_ | refine VD.mid rfl rfl rfl ?_); refine OpV.box rfl rfl rfl ?_; intro _; refine w ?_))
    (refine VC.cond rfl rfl ?_ ?_ <;> intro hc)
    · have hkt : k < E[a].n := by have := of_decide_eq_true hc; omega
      obtain ⟨xa, hxa⟩ : ∃ xa, E[a].ao = some xa := by cases h : E[a].ao with | none => have := han h; omega | some xa => exact ⟨xa, rfl⟩
      rw [hxa] at hget ⊢
      (refine w ?_; repeat ((first | refine VO.step rfl rfl ?_ | refine VD.end rfl rfl rfl ?_ | refine VD.mid rfl rfl rfl ?_); refine OpV.box rfl rfl rfl ?_; intro _; refine w ?_))
      (first | refine VO.pure rfl rfl (PureAt.ldR tab_ok rfl rfl (Rds.own (ListN.hdrs_one E) (.head _) (by rw [List.length_map, Nat.mul_one]) (fun h => by cases h)) hget) rfl ?_ | refine VD.take rfl rfl rfl (PureAt.ldR tab_ok rfl rfl (Rds.own (ListN.hdrs_one E) (.head _) (by rw [List.length_map, Nat.mul_one]) (fun h => by cases h)) hget) rfl ?_ | refine VQ.pure rfl rfl (PureAt.ldR tab_ok rfl rfl (Rds.own (ListN.hdrs_one E) (.head _) (by rw [List.length_map, Nat.mul_one]) (fun h => by cases h)) hget) rfl ?_ | refine VD.end rfl rfl rfl (OpV.pure (PureAt.ldR tab_ok rfl rfl (Rds.own (ListN.hdrs_one E) (.head _) (by rw [List.length_map, Nat.mul_one]) (fun h => by cases h)) hget) rfl ?_))
      (refine w ?_; repeat ((first | refine VO.step rfl rfl ?_ | refine VD.end rfl rfl rfl ?_ | refine VD.mid rfl rfl rfl ?_); refine OpV.box rfl rfl rfl ?_; intro _; refine w ?_))
      (apply VO.pure rfl rfl; apply PureAt.build sb_49 rfl; (simp [buildX, setL, Value.cells]; rfl); rfl)
      (refine w ?_; repeat ((first | refine VO.step rfl rfl ?_ | refine VD.end rfl rfl rfl ?_ | refine VD.mid rfl rfl rfl ?_); refine OpV.box rfl rfl rfl ?_; intro _; refine w ?_))
      (first | refine VO.step rfl rfl ?_ | refine VD.end rfl rfl rfl ?_ | refine VD.mid rfl rfl rfl ?_)
      refine OpV.stOA (vs := mk ((a : Int) * 1000 + (k : Int))) tab_ok rfl rfl rfl rfl (mk_one _) (.tail (hole_set L a _ (by omega))) (by rw [hlen]; omega) ?_
      have hset : (marks a k ++ E[a].xs.drop (k * 3)).take (k * 3) ++ mk ((a : Int) * 1000 + (k : Int)) ++ (marks a k ++ E[a].xs.drop (k * 3)).drop (k * 3 + 3) = marks a (k + 1) ++ E[a].xs.drop ((k + 1) * 3) := by
        rw [List.take_left' (marks_length a k), marks_succ, List.drop_append, marks_length, List.drop_of_length_le (by rw [marks_length]; omega), List.nil_append, List.drop_drop]
        congr 2
        omega
      rw [hset]
      (refine w ?_; repeat ((first | refine VO.step rfl rfl ?_ | refine VD.end rfl rfl rfl ?_ | refine VD.mid rfl rfl rfl ?_); refine OpV.box rfl rfl rfl ?_; intro _; refine w ?_))
      exact VE.round (k + 1) hkt (by omega) ⟨rfl, rfl, rfl, trivial⟩ Ent.refl
    · have hge : k = E[a].n := by have := of_decide_eq_false hc; omega
      rw [List.length_append, marks_length] at hlen
      have hz : E[a].xs.drop (k * 3) = [] := List.eq_nil_of_length_eq_zero (by rw [hge] at hlen ⊢; omega)
      rw [hz, List.append_nil, hge, hnext]
      (refine w ?_; repeat ((first | refine VO.step rfl rfl ?_ | refine VD.end rfl rfl rfl ?_ | refine VD.mid rfl rfl rfl ?_); refine OpV.box rfl rfl rfl ?_; intro _; refine w ?_))
      exact VE.round (a + 1) hlt (by omega) ⟨rfl, rfl, trivial⟩ Ent.refl
  have hge : a = E.length := by have := of_decide_eq_false hc; omega
  subst hge
  clear hc ha
  -- every list is marked
  obtain ⟨M, hM⟩ : ∃ M, M = mkd E E.length := ⟨_, rfl⟩
  have hML : M.length = E.length := by rw [hM]; exact mkd_length _ _
  have hMg : ∀ j (h : j < M.length), M[j] = ⟨(E[j]'(by omega)).ao, (E[j]'(by omega)).cap, (E[j]'(by omega)).n, marks j (E[j]'(by omega)).n⟩ := fun j h => by
    subst hM; rw [mkd_get E _ j (by omega), if_pos (by omega)]
  have hMh : E.map ListN.hdr = M.map ListN.hdr := by
    apply List.ext_getElem (by simp [hML])
    intro j h1 h2
    have hj : j < M.length := by simpa using h2
    rw [List.getElem_map, List.getElem_map, hMg j hj]
  have hMl : ∀ j (h : j < M.length), M[j].n ≤ 1000000000 ∧ M[j].xs = marks j M[j].n := fun j h => by
    rw [hMg j h]; exact ⟨hl (E[j]'(by omega)) (List.getElem_mem _), rfl⟩
  (refine w ?_; repeat ((first | refine VO.step rfl rfl ?_ | refine VD.end rfl rfl rfl ?_ | refine VD.mid rfl rfl rfl ?_); refine OpV.box rfl rfl rfl ?_; intro _; refine w ?_))
  rw [← hM, hMh, ← hML]
  rw [← hML] at hln hn
  clear hMh hMg hl hML hM E
  refine VC.ent (H' := Own 56 1 (.slice none 0 0) 0 (longH M []) :: Own 56 1 (.slice lo M.length lc) M.length (M.map ListN.hdr) :: (grs M [] ++ R)) (fun w hw => by rw [grs_nil]; exact hw.ownNil _ _) ?_
  refine VC.loop (α := List (Option Addr × Nat) × Option Addr × Nat) (fun g => g.1.length ≤ M.length)
    (fun g => Own 56 1 (.slice g.2.1 g.1.length g.2.2) g.1.length (longH M g.1) :: Own 56 1 (.slice lo M.length lc) M.length (M.map ListN.hdr) :: (grs M g.1 ++ R))
    (fun g => [(0, .slice lo M.length lc), (5, .slice g.2.1 g.1.length g.2.2), (6, .int .i64 g.1.length)]) (fun g => M.length - g.1.length) rfl ([], none, 0) (Nat.zero_le _) Ent.refl ⟨rfl, rfl, rfl, trivial⟩ ?_
  rintro ⟨Gs, go, gc⟩ ha
  dsimp only at ha ⊢
  (refine w ?_; repeat ((first | refine VO.step rfl rfl ?_ | refine VD.end rfl rfl rfl ?_ | refine VD.mid rfl rfl rfl ?_); refine OpV.box rfl rfl rfl ?_; intro _; refine w ?_))
  (refine VC.cond rfl rfl ?_ ?_ <;> intro hc)
  · have hlt : Gs.length < M.length := by have := of_decide_eq_true hc; omega
    obtain ⟨lb, rfl⟩ : ∃ lb, lo = some lb := by cases lo with | none => have := hln rfl; omega | some lb => exact ⟨lb, rfl⟩
    obtain ⟨hla, hxs⟩ := hMl Gs.length hlt
    have hget : (M.map ListN.hdr)[Gs.length]? = some (.slice M[Gs.length].ao M[Gs.length].n M[Gs.length].cap) := by rw [List.getElem?_map, List.getElem?_eq_getElem hlt]; rfl
    have hself : grs M Gs = (grs M Gs).set Gs.length (res M[Gs.length]) := by
      have e1 : (grs M Gs)[Gs.length]'(by rw [grs_length]; exact hlt) = res M[Gs.length] := by
        rw [grs_get M Gs _ hlt, List.getElem?_eq_none (Nat.le_refl _)]
      rw [← e1, List.set_getElem_self]
    have hnext (g : Option Addr × Nat) := grs_set M Gs g hlt
    have hlnext (g : Option Addr × Nat) := longH_snoc M Gs g hlt
    have hgl := grs_length M Gs
    generalize hL : grs M Gs = L at *
    (refine w ?_; repeat ((first | refine VO.step rfl rfl ?_ | refine VD.end rfl rfl rfl ?_ | refine VD.mid rfl rfl rfl ?_); refine OpV.box rfl rfl rfl ?_; intro _; refine w ?_))
    (first | refine VO.pure rfl rfl (PureAt.ldR tab_ok rfl rfl (Rds.own (ListN.hdrs_one M) (.tail _ (.head _)) (by rw [List.length_map, Nat.mul_one]) (fun h => by cases h)) hget) rfl ?_ | refine VD.take rfl rfl rfl (PureAt.ldR tab_ok rfl rfl (Rds.own (ListN.hdrs_one M) (.tail _ (.head _)) (by rw [List.length_map, Nat.mul_one]) (fun h => by cases h)) hget) rfl ?_ | refine VQ.pure rfl rfl (PureAt.ldR tab_ok rfl rfl (Rds.own (ListN.hdrs_one M) (.tail _ (.head _)) (by rw [List.length_map, Nat.mul_one]) (fun h => by cases h)) hget) rfl ?_ | refine VD.end rfl rfl rfl (OpV.pure (PureAt.ldR tab_ok rfl rfl (Rds.own (ListN.hdrs_one M) (.tail _ (.head _)) (by rw [List.length_map, Nat.mul_one]) (fun h => by cases h)) hget) rfl ?_))
    (refine w ?_; repeat ((first | refine VO.step rfl rfl ?_ | refine VD.end rfl rfl rfl ?_ | refine VD.mid rfl rfl rfl ?_); refine OpV.box rfl rfl rfl ?_; intro _; refine w ?_))
    refine VC.loop (α := Nat × Option Addr × Nat) (fun g => g.1 ≤ 16)
      (fun g => Own 56 1 (.slice go Gs.length gc) Gs.length (longH M Gs) :: Own 56 1 (.slice (some lb) M.length lc) M.length (M.map ListN.hdr) :: (L.set Gs.length (twin Gs.length M[Gs.length] g.2 g.1) ++ R))
      (fun g => [(0, .slice (some lb) M.length lc), (5, .slice go Gs.length gc), (6, .int .i64 Gs.length), (7, .slice g.2.1 (M[Gs.length].n + g.1) g.2.2), (8, .int .i64 g.1)]) (fun g => 16 - g.1) rfl (0, M[Gs.length].ao, M[Gs.length].cap) (Nat.zero_le _)
      (by
        rw [hself, List.set_set]
        refine Ent.hole (Hole.tail (Hole.tail (hole_set L Gs.length _ (by omega)))) (fun R w hw => ?_)
        have := TwinR.start hw
        simpa [twin, marks2] using this) ⟨rfl, rfl, rfl, rfl, rfl, trivial⟩ ?_
    rintro ⟨k, xo, xc⟩ hk
    dsimp only at hk ⊢
    (refine w ?_; repeat ((first | refine VO.step rfl rfl ?_ | refine VD.end rfl rfl rfl ?_ | refine VD.mid rfl rfl rfl ?_); refine OpV.box rfl rfl rfl ?_; intro _; refine w ?_))
    (refine VC.cond rfl rfl ?_ ?_ <;> intro hc)
    · have hkt : k < 16 := by have := of_decide_eq_true hc; omega
      (refine w ?_; repeat ((first | refine VO.step rfl rfl ?_ | refine VD.end rfl rfl rfl ?_ | refine VD.mid rfl rfl rfl ?_); refine OpV.box rfl rfl rfl ?_; intro _; refine w ?_))
      (apply VO.pure rfl rfl; apply PureAt.build sb_49 rfl; (simp [buildX, setL, Value.cells]; rfl); rfl)
      (first | refine VO.step rfl rfl ?_ | refine VD.end rfl rfl rfl ?_ | refine VD.mid rfl rfl rfl ?_)
      refine OpV.buildSlice (cs := mk ((-1 - (Gs.length : Int)) * 1000 + (k : Int))) st_56 rfl rfl (by simp [Value.cells]) (by simp [Value.cells, mk]) (by decide) rfl ?_
      intro nb
      (first | refine VO.step rfl rfl ?_ | refine VD.end rfl rfl rfl ?_ | refine VD.mid rfl rfl rfl ?_)
      refine OpV.appendT (news := mk ((-1 - (Gs.length : Int)) * 1000 + (k : Int))) (m := 1) st_56 rfl rfl (.tail (.tail (.tail (hole_set L Gs.length _ (by omega))))) (fun w hw => (Sees.row (ys := []) (mk_one _) rfl (by simpa using hw) (.head _)).src st_56.und) ?_ ?_ rfl ?_
      · simp only [maxLen]; omega
      · omega
      intro xo' xc'
      (refine w ?_; repeat ((first | refine VO.step rfl rfl ?_ | refine VD.end rfl rfl rfl ?_ | refine VD.mid rfl rfl rfl ?_); refine OpV.box rfl rfl rfl ?_; intro _; refine w ?_))
      refine VE.round (k + 1, xo', xc') hkt (by simp only; omega) ⟨rfl, rfl, rfl, rfl, rfl, trivial⟩ ?_
      unfold twin
      rw [marks2_succ, ← List.append_assoc]
      exact Reord.ent (Reord.drop .refl)
    · have hge : k = 16 := by have := of_decide_eq_false hc; omega
      subst hge
      rw [hnext]
      (refine w ?_; repeat ((first | refine VO.step rfl rfl ?_ | refine VD.end rfl rfl rfl ?_ | refine VD.mid rfl rfl rfl ?_); refine OpV.box rfl rfl rfl ?_; intro _; refine w ?_))
      ((first | refine VO.step rfl rfl ?_ | refine VD.end rfl rfl rfl ?_ | refine VD.mid rfl rfl rfl ?_); refine OpV.buildSlice1 st_43 rfl rfl (by first | (simp; done) | simp [Value.oneCell']) (by decide) rfl ?_; intro nb)
      ((first | refine VO.step rfl rfl ?_ | refine VD.end rfl rfl rfl ?_ | refine VD.mid rfl rfl rfl ?_); refine OpV.appendRow st_43 rfl rfl (by (repeat first | exact .head | apply Hole.tail)) (by (focus repeat first | exact .head _ | apply List.Mem.tail)) rfl (by first | (simp; done) | simp [Value.oneCell']) ?_ ?_ rfl ?_)
      · simp only [maxLen]; omega
      · omega
      intro go' gc'
      rw [← hlnext (xo, xc)]
      (refine w ?_; repeat ((first | refine VO.step rfl rfl ?_ | refine VD.end rfl rfl rfl ?_ | refine VD.mid rfl rfl rfl ?_); refine OpV.box rfl rfl rfl ?_; intro _; refine w ?_))
      refine VE.round (Gs ++ [(xo, xc)], go', gc') (by rw [List.length_append]; exact hlt) (by simp only [List.length_append, List.length_singleton]; omega) ⟨rfl, asV rfl (by rw [List.length_append]; rfl), asV rfl (by rw [List.length_append]; rfl), trivial⟩ ?_
      dsimp only
      rw [List.length_append]
      exact Ent.re
  have hge : Gs.length = M.length := by have := of_decide_eq_false hc; omega
  clear hc ha
  (refine w ?_; repeat ((first | refine VO.step rfl rfl ?_ | refine VD.end rfl rfl rfl ?_ | refine VD.mid rfl rfl rfl ?_); refine OpV.box rfl rfl rfl ?_; intro _; refine w ?_))
  refine VC.know (p := go = none → Gs.length = 0) (fun w hw => Holds.ownNone hw (.head _)) ?_
  intro hgn
  generalize hH : (Own 56 1 (.slice go Gs.length gc) Gs.length (longH M Gs) :: Own 56 1 (.slice lo M.length lc) M.length (M.map ListN.hdr) :: (grs M Gs ++ R)) = HH
  have hr1 : Rds W HH 1 lo M.length (M.map ListN.hdr) := by subst hH; exact Rds.own (ListN.hdrs_one M) (.tail _ (.head _)) (by rw [List.length_map, Nat.mul_one]) hln
  have hr2 : Rds W HH 1 go Gs.length (longH M Gs) := by subst hH; exact Rds.own (longH_one M Gs) (.head _) (by rw [longH_length, Nat.mul_one]) hgn
  have hend : Ent W HH R := by
    subst hH
    exact Ent.drop (Ent.drop (fun w hw => by
      have : ∀ (X : List SProp) w, Holds W (X ++ R) w → Holds W R w := fun X => by
        induction X with
        | nil => exact fun w h => h
        | cons a r ih => exact fun w h => ih w h.tail
      exact this _ w hw))
  have htw : ∀ a (h : a < M.length), twin a M[a] (Gs[a]'(by omega)) 16 ∈ HH := fun a h => by
    subst hH
    refine .tail _ (.tail _ (List.mem_append_left _ (List.mem_iff_getElem.2 ⟨a, by rw [grs_length]; exact h, ?_⟩)))
    rw [grs_get M Gs a h, List.getElem?_eq_getElem (by omega)]
  have hlg : ∀ a (h : a < M.length), (longH M Gs)[a]? = some (.slice (Gs[a]'(by omega)).1 (M[a].n + 16) (Gs[a]'(by omega)).2) := fun a h => by
    unfold longH
    rw [List.getElem?_mapIdx, List.getElem?_eq_getElem h, List.getElem?_eq_getElem (l := Gs) (by omega)]; rfl
  clear hH
  refine VC.loop (α := Nat) (fun a => a ≤ M.length) (fun _ => HH)
    (fun a => [(0, .slice lo M.length lc), (5, .slice go Gs.length gc), (9, .int .i64 a)]) (fun a => M.length - a) rfl 0 (Nat.zero_le _) Ent.refl ⟨rfl, rfl, rfl, trivial⟩ ?_
  intro a ha
  (refine w ?_; repeat ((first | refine VO.step rfl rfl ?_ | refine VD.end rfl rfl rfl ?_ | refine VD.mid rfl rfl rfl ?_); refine OpV.box rfl rfl rfl ?_; intro _; refine w ?_))
  (refine VC.cond rfl rfl ?_ ?_ <;> intro hc)
  · have hlt : a < M.length := by have := of_decide_eq_true hc; omega
    obtain ⟨lb, rfl⟩ : ∃ lb, lo = some lb := by cases lo with | none => have := hln rfl; omega | some lb => exact ⟨lb, rfl⟩
    obtain ⟨gb, rfl⟩ : ∃ gb, go = some gb := by cases go with | none => have := hgn rfl; omega | some gb => exact ⟨gb, rfl⟩
    obtain ⟨hla, hxs⟩ := hMl a hlt
    have hget : (M.map ListN.hdr)[a]? = some (.slice M[a].ao M[a].n M[a].cap) := by rw [List.getElem?_map, List.getElem?_eq_getElem hlt]; rfl
    have htw := htw a hlt
    have hlg := hlg a hlt
    have hgl : a < Gs.length := by omega
    generalize Gs[a] = g at *
    generalize M[a] = e at *
    have hel : e.xs.length = e.n * 3 := by rw [hxs, marks_length]
    have h1 : ∀ u ∈ e.xs, u.oneCell' = true := by rw [hxs]; exact marks_one _ _
    have h2 : ∀ u ∈ e.xs ++ marks2 a 16, u.oneCell' = true := fun u hu => by
      rcases List.mem_append.1 hu with q | q
      · exact h1 u q
      · exact marks2_one _ _ u q
    refine VC.know (fun w hw => TwinR.none hw htw) ?_
    rintro ⟨hon, hnn⟩
    have ho : Rds W HH 3 e.ao e.n e.xs := TwinR.rdsOld htw h1 hel hon
    have hw' : Rds W HH 3 g.1 (e.n + 16) (e.xs ++ marks2 a 16) := TwinR.rdsNew htw h2 (by rw [List.length_append, marks2_length, hel]; omega) hnn
    obtain ⟨gx, hgx⟩ : ∃ gx, g.1 = some gx := by cases h : g.1 with | none => have := hnn h; omega | some gx => exact ⟨gx, rfl⟩
    rw [hgx] at hlg hw'
    (refine w ?_; repeat ((first | refine VO.step rfl rfl ?_ | refine VD.end rfl rfl rfl ?_ | refine VD.mid rfl rfl rfl ?_); refine OpV.box rfl rfl rfl ?_; intro _; refine w ?_))
    (first | refine VO.pure rfl rfl (PureAt.ldR tab_ok rfl rfl hr1 hget) rfl ?_ | refine VD.take rfl rfl rfl (PureAt.ldR tab_ok rfl rfl hr1 hget) rfl ?_ | refine VQ.pure rfl rfl (PureAt.ldR tab_ok rfl rfl hr1 hget) rfl ?_ | refine VD.end rfl rfl rfl (OpV.pure (PureAt.ldR tab_ok rfl rfl hr1 hget) rfl ?_))
    (refine w ?_; repeat ((first | refine VO.step rfl rfl ?_ | refine VD.end rfl rfl rfl ?_ | refine VD.mid rfl rfl rfl ?_); refine OpV.box rfl rfl rfl ?_; intro _; refine w ?_))
    refine VC.loop (α := Nat) (fun k => k ≤ e.n) (fun _ => HH)
      (fun k => [(0, .slice (some lb) M.length lc), (5, .slice (some gb) Gs.length gc), (9, .int .i64 a), (10, .int .i64 e.n), (11, .int .i64 k)]) (fun k => e.n - k) rfl 0 (Nat.zero_le _) Ent.refl ⟨rfl, rfl, rfl, rfl, rfl, trivial⟩ ?_
    intro k hk
    (refine w ?_; repeat ((first | refine VO.step rfl rfl ?_ | refine VD.end rfl rfl rfl ?_ | refine VD.mid rfl rfl rfl ?_); refine OpV.box rfl rfl rfl ?_; intro _; refine w ?_))
    (refine VC.cond rfl rfl ?_ ?_ <;> intro hc)
    · have hkt : k < e.n := by have := of_decide_eq_true hc; omega
      obtain ⟨ox, hox⟩ : ∃ ox, e.ao = some ox := by cases h : e.ao with | none => have := hon h; omega | some ox => exact ⟨ox, rfl⟩
      rw [hox] at hget ho
      have hk1 : e.xs[k * 3 + 1]? = some (val ((a : Int) * 1000 + (k : Int))) := by rw [hxs]; exact marks_get a _ k hkt
      have hk2 : (e.xs ++ marks2 a 16)[k * 3 + 1]? = some (val ((a : Int) * 1000 + (k : Int))) := by rw [List.getElem?_append_left (by omega)]; exact hk1
      (refine w ?_; repeat ((first | refine VO.step rfl rfl ?_ | refine VD.end rfl rfl rfl ?_ | refine VD.mid rfl rfl rfl ?_); refine OpV.box rfl rfl rfl ?_; intro _; refine w ?_))
      (first | refine VO.pure rfl rfl (PureAt.ldR tab_ok rfl rfl hr1 hget) rfl ?_ | refine VD.take rfl rfl rfl (PureAt.ldR tab_ok rfl rfl hr1 hget) rfl ?_ | refine VQ.pure rfl rfl (PureAt.ldR tab_ok rfl rfl hr1 hget) rfl ?_ | refine VD.end rfl rfl rfl (OpV.pure (PureAt.ldR tab_ok rfl rfl hr1 hget) rfl ?_))
      (refine w ?_; repeat ((first | refine VO.step rfl rfl ?_ | refine VD.end rfl rfl rfl ?_ | refine VD.mid rfl rfl rfl ?_); refine OpV.box rfl rfl rfl ?_; intro _; refine w ?_))
      (first | refine VO.pure rfl rfl (PureAt.ldRc tab_ok rfl rfl ho hk1) rfl ?_ | refine VD.take rfl rfl rfl (PureAt.ldRc tab_ok rfl rfl ho hk1) rfl ?_ | refine VQ.pure rfl rfl (PureAt.ldRc tab_ok rfl rfl ho hk1) rfl ?_ | refine VD.end rfl rfl rfl (OpV.pure (PureAt.ldRc tab_ok rfl rfl ho hk1) rfl ?_))
      (refine w ?_; repeat ((first | refine VO.step rfl rfl ?_ | refine VD.end rfl rfl rfl ?_ | refine VD.mid rfl rfl rfl ?_); refine OpV.box rfl rfl rfl ?_; intro _; refine w ?_))
      (first | refine VO.gF rfl rfl rfl (by simp) ?_ | refine VD.gF rfl rfl rfl (by simp) ?_)
      (refine w ?_; repeat ((first | refine VO.step rfl rfl ?_ | refine VD.end rfl rfl rfl ?_ | refine VD.mid rfl rfl rfl ?_); refine OpV.box rfl rfl rfl ?_; intro _; refine w ?_))
      (first | refine VO.pure rfl rfl (PureAt.ldR tab_ok rfl rfl hr2 hlg) rfl ?_ | refine VD.take rfl rfl rfl (PureAt.ldR tab_ok rfl rfl hr2 hlg) rfl ?_ | refine VQ.pure rfl rfl (PureAt.ldR tab_ok rfl rfl hr2 hlg) rfl ?_ | refine VD.end rfl rfl rfl (OpV.pure (PureAt.ldR tab_ok rfl rfl hr2 hlg) rfl ?_))
      (refine w ?_; repeat ((first | refine VO.step rfl rfl ?_ | refine VD.end rfl rfl rfl ?_ | refine VD.mid rfl rfl rfl ?_); refine OpV.box rfl rfl rfl ?_; intro _; refine w ?_))
      (first | refine VO.pure rfl rfl (PureAt.ldRc tab_ok rfl rfl hw' hk2) rfl ?_ | refine VD.take rfl rfl rfl (PureAt.ldRc tab_ok rfl rfl hw' hk2) rfl ?_ | refine VQ.pure rfl rfl (PureAt.ldRc tab_ok rfl rfl hw' hk2) rfl ?_ | refine VD.end rfl rfl rfl (OpV.pure (PureAt.ldRc tab_ok rfl rfl hw' hk2) rfl ?_))
      (refine w ?_; repeat ((first | refine VO.step rfl rfl ?_ | refine VD.end rfl rfl rfl ?_ | refine VD.mid rfl rfl rfl ?_); refine OpV.box rfl rfl rfl ?_; intro _; refine w ?_))
      (refine VC.condFe rfl rfl (by simp) ?_)
      (refine w ?_; repeat ((first | refine VO.step rfl rfl ?_ | refine VD.end rfl rfl rfl ?_ | refine VD.mid rfl rfl rfl ?_); refine OpV.box rfl rfl rfl ?_; intro _; refine w ?_))
      exact VE.round (k + 1) hkt (by omega) ⟨rfl, rfl, rfl, rfl, rfl, trivial⟩ Ent.refl
    · (refine w ?_; repeat ((first | refine VO.step rfl rfl ?_ | refine VD.end rfl rfl rfl ?_ | refine VD.mid rfl rfl rfl ?_); refine OpV.box rfl rfl rfl ?_; intro _; refine w ?_))
      refine VC.loop (α := Nat) (fun k => k ≤ 16) (fun _ => HH)
        (fun k => [(0, .slice (some lb) M.length lc), (5, .slice (some gb) Gs.length gc), (9, .int .i64 a), (10, .int .i64 e.n), (12, .int .i64 k)]) (fun k => 16 - k) rfl 0 (Nat.zero_le _) Ent.refl ⟨rfl, rfl, rfl, rfl, rfl, trivial⟩ ?_
      intro k hk
      (refine w ?_; repeat ((first | refine VO.step rfl rfl ?_ | refine VD.end rfl rfl rfl ?_ | refine VD.mid rfl rfl rfl ?_); refine OpV.box rfl rfl rfl ?_; intro _; refine w ?_))
      (refine VC.cond rfl rfl ?_ ?_ <;> intro hc)
      · have hkt : k < 16 := by have := of_decide_eq_true hc; omega
        have hk2 : (e.xs ++ marks2 a 16)[(e.n + k) * 3 + 1]? = some (val ((-1 - (a : Int)) * 1000 + (k : Int))) := by
          rw [List.getElem?_append_right (by omega), hel, show (e.n + k) * 3 + 1 - e.n * 3 = k * 3 + 1 by omega]; exact marks2_get a 16 k hkt
        (refine w ?_; repeat ((first | refine VO.step rfl rfl ?_ | refine VD.end rfl rfl rfl ?_ | refine VD.mid rfl rfl rfl ?_); refine OpV.box rfl rfl rfl ?_; intro _; refine w ?_))
        (first | refine VO.pure rfl rfl (PureAt.ldR tab_ok rfl rfl hr2 hlg) rfl ?_ | refine VD.take rfl rfl rfl (PureAt.ldR tab_ok rfl rfl hr2 hlg) rfl ?_ | refine VQ.pure rfl rfl (PureAt.ldR tab_ok rfl rfl hr2 hlg) rfl ?_ | refine VD.end rfl rfl rfl (OpV.pure (PureAt.ldR tab_ok rfl rfl hr2 hlg) rfl ?_))
        (first | (first | refine VO.nil rfl ?_ | refine VQ.nil rfl ?_ | refine VD.nil ?_ | ((first | apply VO.pure rfl rfl | apply VQ.pure rfl rfl | apply VD.take rfl rfl rfl | (refine VD.end rfl rfl rfl ?_; apply OpV.pure)); (first | (apply PureAt.ar64 rfl rfl rfl; omega) | exact .eval tab_ok rfl | (apply PureAt.ld tab_ok rfl rfl; (focus repeat first | exact .head _ | apply List.Mem.tail); rfl) | (apply PureAt.shr rfl rfl (by decide) (by decide)) | (apply PureAt.shr rfl rfl (by omega) (by simp only [IntKind.bits]; omega)) | exact .fieldAddrA tab_ok rfl rfl | exact .sliceLH tab_ok rfl rfl rfl rfl (by omega) (by omega) | exact .sliceH tab_ok rfl rfl rfl (by omega) | exact .sliceL tab_ok rfl rfl rfl (by omega) | (first | exact .indexAddr tab_ok rfl rfl rfl rfl (by omega) | exact .indexAddrN tab_ok rfl rfl rfl rfl (by omega) | exact .indexAddrI tab_ok rfl rfl rfl rfl (toNatLit _) (by decide) (by omega) | exact .indexAddrNI tab_ok rfl rfl rfl rfl (toNatLit _) (by decide) (by omega) | exact .ldR tab_ok rfl rfl hr1 (List.getElem?_eq_getElem (by omega)) | exact .ldR tab_ok rfl rfl hr2 (List.getElem?_eq_getElem (by omega)) | exact ldB tab_ok rfl rfl hb1 (by omega) | exact ldB tab_ok rfl rfl hb2 (by omega)) | exact .sliceHI tab_ok rfl rfl rfl (toNatLit _) (by decide) (by omega) | exact .sliceLI tab_ok rfl rfl rfl (toNatLit _) (by decide) (by omega) | (apply PureAt.ldA tab_ok rfl rfl; (focus repeat first | exact .head _ | apply List.Mem.tail); rfl; rfl) | exact .ldro tab_ok rfl rfl (by assumption)); rfl) | refine VO.skip rfl rfl rfl rfl ?_ | refine VQ.skip rfl rfl rfl rfl ?_ | refine VD.skip rfl rfl rfl rfl rfl ?_ | refine VD.skipM rfl rfl Ent.refl rfl rfl rfl ?_ | ((first | refine VO.step rfl rfl ?_ | refine VD.end rfl rfl rfl ?_ | refine VD.mid rfl rfl rfl ?_); (first | (apply OpV.st tab_ok rfl rfl rfl rfl (by (repeat first | exact .head | apply Hole.tail); first | done | fail) (by first | (simp; done) | fail)) | (refine OpV.box rfl rfl rfl ?_; intro _))) | refine ⟨Ent.re, ?_⟩) | (first | refine VC.seq rfl ?_ | refine VC.region rfl ?_ | refine VC.condT rfl rfl ?_ | refine VC.condF rfl rfl ?_ | refine VC.block rfl ?_ | refine VC.skip rfl ?_ | refine VC.ret rfl ?_ | refine VC.exit rfl ?_ | refine VC.scope rfl ?_ | refine VC.label rfl ?_) | (first | refine VE.next ?_ | refine VE.passRet ?_ | refine VE.passExit ?_ | refine VE.blockNormal ?_ | refine VE.blockHit ?_ | refine VE.blockMiss rfl ?_ | refine VE.blockRet ?_ | refine VE.loopRet ?_ | refine VE.loopExit ?_ | refine VE.scopeNormal ?_ | refine VE.scopeRet ?_ | refine VE.scopeExit ?_))
        (first | (first | refine VO.nil rfl ?_ | refine VQ.nil rfl ?_ | refine VD.nil ?_ | ((first | apply VO.pure rfl rfl | apply VQ.pure rfl rfl | apply VD.take rfl rfl rfl | (refine VD.end rfl rfl rfl ?_; apply OpV.pure)); (first | (apply PureAt.ar64 rfl rfl rfl; omega) | exact .eval tab_ok rfl | (apply PureAt.ld tab_ok rfl rfl; (focus repeat first | exact .head _ | apply List.Mem.tail); rfl) | (apply PureAt.shr rfl rfl (by decide) (by decide)) | (apply PureAt.shr rfl rfl (by omega) (by simp only [IntKind.bits]; omega)) | exact .fieldAddrA tab_ok rfl rfl | exact .sliceLH tab_ok rfl rfl rfl rfl (by omega) (by omega) | exact .sliceH tab_ok rfl rfl rfl (by omega) | exact .sliceL tab_ok rfl rfl rfl (by omega) | (first | exact .indexAddr tab_ok rfl rfl rfl rfl (by omega) | exact .indexAddrN tab_ok rfl rfl rfl rfl (by omega) | exact .indexAddrI tab_ok rfl rfl rfl rfl (toNatLit _) (by decide) (by omega) | exact .indexAddrNI tab_ok rfl rfl rfl rfl (toNatLit _) (by decide) (by omega) | exact .ldR tab_ok rfl rfl hr1 (List.getElem?_eq_getElem (by omega)) | exact .ldR tab_ok rfl rfl hr2 (List.getElem?_eq_getElem (by omega)) | exact ldB tab_ok rfl rfl hb1 (by omega) | exact ldB tab_ok rfl rfl hb2 (by omega)) | exact .sliceHI tab_ok rfl rfl rfl (toNatLit _) (by decide) (by omega) | exact .sliceLI tab_ok rfl rfl rfl (toNatLit _) (by decide) (by omega) | (apply PureAt.ldA tab_ok rfl rfl; (focus repeat first | exact .head _ | apply List.Mem.tail); rfl; rfl) | exact .ldro tab_ok rfl rfl (by assumption)); rfl) | refine VO.skip rfl rfl rfl rfl ?_ | refine VQ.skip rfl rfl rfl rfl ?_ | refine VD.skip rfl rfl rfl rfl rfl ?_ | refine VD.skipM rfl rfl Ent.refl rfl rfl rfl ?_ | ((first | refine VO.step rfl rfl ?_ | refine VD.end rfl rfl rfl ?_ | refine VD.mid rfl rfl rfl ?_); (first | (apply OpV.st tab_ok rfl rfl rfl rfl (by (repeat first | exact .head | apply Hole.tail); first | done | fail) (by first | (simp; done) | fail)) | (refine OpV.box rfl rfl rfl ?_; intro _))) | refine ⟨Ent.re, ?_⟩) | (first | refine VC.seq rfl ?_ | refine VC.region rfl ?_ | refine VC.condT rfl rfl ?_ | refine VC.condF rfl rfl ?_ | refine VC.block rfl ?_ | refine VC.skip rfl ?_ | refine VC.ret rfl ?_ | refine VC.exit rfl ?_ | refine VC.scope rfl ?_ | refine VC.label rfl ?_) | (first | refine VE.next ?_ | refine VE.passRet ?_ | refine VE.passExit ?_ | refine VE.blockNormal ?_ | refine VE.blockHit ?_ | refine VE.blockMiss rfl ?_ | refine VE.blockRet ?_ | refine VE.loopRet ?_ | refine VE.loopExit ?_ | refine VE.scopeNormal ?_ | refine VE.scopeRet ?_ | refine VE.scopeExit ?_))
        (first | (first | refine VO.nil rfl ?_ | refine VQ.nil rfl ?_ | refine VD.nil ?_ | ((first | apply VO.pure rfl rfl | apply VQ.pure rfl rfl | apply VD.take rfl rfl rfl | (refine VD.end rfl rfl rfl ?_; apply OpV.pure)); (first | (apply PureAt.ar64 rfl rfl rfl; omega) | exact .eval tab_ok rfl | (apply PureAt.ld tab_ok rfl rfl; (focus repeat first | exact .head _ | apply List.Mem.tail); rfl) | (apply PureAt.shr rfl rfl (by decide) (by decide)) | (apply PureAt.shr rfl rfl (by omega) (by simp only [IntKind.bits]; omega)) | exact .fieldAddrA tab_ok rfl rfl | exact .sliceLH tab_ok rfl rfl rfl rfl (by omega) (by omega) | exact .sliceH tab_ok rfl rfl rfl (by omega) | exact .sliceL tab_ok rfl rfl rfl (by omega) | (first | exact .indexAddr tab_ok rfl rfl rfl rfl (by omega) | exact .indexAddrN tab_ok rfl rfl rfl rfl (by omega) | exact .indexAddrI tab_ok rfl rfl rfl rfl (toNatLit _) (by decide) (by omega) | exact .indexAddrNI tab_ok rfl rfl rfl rfl (toNatLit _) (by decide) (by omega) | exact .ldR tab_ok rfl rfl hr1 (List.getElem?_eq_getElem (by omega)) | exact .ldR tab_ok rfl rfl hr2 (List.getElem?_eq_getElem (by omega)) | exact ldB tab_ok rfl rfl hb1 (by omega) | exact ldB tab_ok rfl rfl hb2 (by omega)) | exact .sliceHI tab_ok rfl rfl rfl (toNatLit _) (by decide) (by omega) | exact .sliceLI tab_ok rfl rfl rfl (toNatLit _) (by decide) (by omega) | (apply PureAt.ldA tab_ok rfl rfl; (focus repeat first | exact .head _ | apply List.Mem.tail); rfl; rfl) | exact .ldro tab_ok rfl rfl (by assumption)); rfl) | refine VO.skip rfl rfl rfl rfl ?_ | refine VQ.skip rfl rfl rfl rfl ?_ | refine VD.skip rfl rfl rfl rfl rfl ?_ | refine VD.skipM rfl rfl Ent.refl rfl rfl rfl ?_ | ((first | refine VO.step rfl rfl ?_ | refine VD.end rfl rfl rfl ?_ | refine VD.mid rfl rfl rfl ?_); (first | (apply OpV.st tab_ok rfl rfl rfl rfl (by (repeat first | exact .head | apply Hole.tail); first | done | fail) (by first | (simp; done) | fail)) | (refine OpV.box rfl rfl rfl ?_; intro _))) | refine ⟨Ent.re, ?_⟩) | (first | refine VC.seq rfl ?_ | refine VC.region rfl ?_ | refine VC.condT rfl rfl ?_ | refine VC.condF rfl rfl ?_ | refine VC.block rfl ?_ | refine VC.skip rfl ?_ | refine VC.ret rfl ?_ | refine VC.exit rfl ?_ | refine VC.scope rfl ?_ | refine VC.label rfl ?_) | (first | refine VE.next ?_ | refine VE.passRet ?_ | refine VE.passExit ?_ | refine VE.blockNormal ?_ | refine VE.blockHit ?_ | refine VE.blockMiss rfl ?_ | refine VE.blockRet ?_ | refine VE.loopRet ?_ | refine VE.loopExit ?_ | refine VE.scopeNormal ?_ | refine VE.scopeRet ?_ | refine VE.scopeExit ?_))
        refine VO.re 120 (.int .i64 ((e.n + k : Nat) : Int)) rfl (by congr 1) ?_
        (refine w ?_; repeat ((first | refine VO.step rfl rfl ?_ | refine VD.end rfl rfl rfl ?_ | refine VD.mid rfl rfl rfl ?_); refine OpV.box rfl rfl rfl ?_; intro _; refine w ?_))
        (first | refine VO.pure rfl rfl (PureAt.ldRc tab_ok rfl rfl hw' hk2) rfl ?_ | refine VD.take rfl rfl rfl (PureAt.ldRc tab_ok rfl rfl hw' hk2) rfl ?_ | refine VQ.pure rfl rfl (PureAt.ldRc tab_ok rfl rfl hw' hk2) rfl ?_ | refine VD.end rfl rfl rfl (OpV.pure (PureAt.ldRc tab_ok rfl rfl hw' hk2) rfl ?_))
        (refine w ?_; repeat ((first | refine VO.step rfl rfl ?_ | refine VD.end rfl rfl rfl ?_ | refine VD.mid rfl rfl rfl ?_); refine OpV.box rfl rfl rfl ?_; intro _; refine w ?_))
        (refine VC.condFe rfl rfl (by simp) ?_)
        (refine w ?_; repeat ((first | refine VO.step rfl rfl ?_ | refine VD.end rfl rfl rfl ?_ | refine VD.mid rfl rfl rfl ?_); refine OpV.box rfl rfl rfl ?_; intro _; refine w ?_))
        exact VE.round (k + 1) hkt (by omega) ⟨rfl, rfl, rfl, rfl, rfl, trivial⟩ Ent.refl
      · (refine w ?_; repeat ((first | refine VO.step rfl rfl ?_ | refine VD.end rfl rfl rfl ?_ | refine VD.mid rfl rfl rfl ?_); refine OpV.box rfl rfl rfl ?_; intro _; refine w ?_))
        exact VE.round (a + 1) hlt (by omega) ⟨rfl, rfl, rfl, trivial⟩ Ent.refl
  · (refine w ?_; repeat ((first | refine VO.step rfl rfl ?_ | refine VD.end rfl rfl rfl ?_ | refine VD.mid rfl rfl rfl ?_); refine OpV.box rfl rfl rfl ?_; intro _; refine w ?_))
    (refine VE.done1 rfl ?_ ?_)
    · rfl
    · exact hend
end Pt
end Go.Proofs.Ytpmmkmcbimnigaa

/-! Text Qc. -/
/- The document's book: lists of batches that are its owner's own. Written by gen_own.py. -/
set_option maxRecDepth 8000
set_option linter.unusedVariables false
set_option linter.unusedSimpArgs false
set_option linter.unusedSectionVars false
namespace Go.Proofs.Ytpmmkmcbimnigaa
open Go.RowKit Go.Sl
attribute [local irreducible] Own
namespace Tx

def mk (z : Int) : List Value := [.int .u64 (IntKind.u64.wrap z), .slice none 0 0]
abbrev val (z : Int) : Value := .int .u64 (IntKind.u64.wrap z)
def marks (a m : Nat) : List Value := (List.range m).flatMap fun (k : Nat) => mk ((a : Int) * 1000 + (k : Int) + 7000000)
def marks2 (a m : Nat) : List Value := (List.range m).flatMap fun (k : Nat) => mk ((-1 - (a : Int)) * 1000 + (k : Int) + 7000000)
theorem marks_length (a m : Nat) : (marks a m).length = m * 2 := by
  have := flat_length (w := 2) (g := fun (k : Nat) => mk ((a : Int) * 1000 + (k : Int) + 7000000)) (List.range m) (fun _ _ => rfl); rwa [List.length_range] at this
theorem marks2_length (a m : Nat) : (marks2 a m).length = m * 2 := by
  have := flat_length (w := 2) (g := fun (k : Nat) => mk ((-1 - (a : Int)) * 1000 + (k : Int) + 7000000)) (List.range m) (fun _ _ => rfl); rwa [List.length_range] at this
theorem marks_succ (a m : Nat) : marks a (m + 1) = marks a m ++ mk ((a : Int) * 1000 + (m : Int) + 7000000) := by unfold marks; rw [List.range_succ, List.flatMap_append]; simp
theorem marks2_succ (a m : Nat) : marks2 a (m + 1) = marks2 a m ++ mk ((-1 - (a : Int)) * 1000 + (m : Int) + 7000000) := by unfold marks2; rw [List.range_succ, List.flatMap_append]; simp
theorem mk_one (z : Int) : ∀ u ∈ mk z, u.oneCell' = true := by simp [mk, Value.oneCell']
theorem marks_one (a m : Nat) : ∀ u ∈ marks a m, u.oneCell' = true := by
  intro u hu; obtain ⟨k, _, h⟩ := List.mem_flatMap.1 hu; exact mk_one _ u h
theorem marks2_one (a m : Nat) : ∀ u ∈ marks2 a m, u.oneCell' = true := by
  intro u hu; obtain ⟨k, _, h⟩ := List.mem_flatMap.1 hu; exact mk_one _ u h
theorem marks_get (a m k : Nat) (h : k < m) : (marks a m)[k * 2 + 0]? = some (val ((a : Int) * 1000 + (k : Int) + 7000000)) := by
  have := flat_at (w := 2) (g := fun (k : Nat) => mk ((a : Int) * 1000 + (k : Int) + 7000000)) (List.range m) k 0 (by rw [List.length_range]; exact h) (fun _ _ => rfl) (by decide)
  rw [List.getElem_range] at this
  exact this
theorem marks2_get (a m k : Nat) (h : k < m) : (marks2 a m)[k * 2 + 0]? = some (val ((-1 - (a : Int)) * 1000 + (k : Int) + 7000000)) := by
  have := flat_at (w := 2) (g := fun (k : Nat) => mk ((-1 - (a : Int)) * 1000 + (k : Int) + 7000000)) (List.range m) k 0 (by rw [List.length_range]; exact h) (fun _ _ => rfl) (by decide)
  rw [List.getElem_range] at this
  exact this
def res (e : ListN) : SProp := Own 170 2 (.slice e.ao e.n e.cap) e.n e.xs
/-- The lists, the first so many of them marked. -/
def mkd (E : List ListN) (a : Nat) : List ListN := E.mapIdx fun j e => if j < a then ⟨e.ao, e.cap, e.n, marks j e.n⟩ else e
theorem mkd_length (E : List ListN) (a : Nat) : (mkd E a).length = E.length := by simp [mkd]
theorem mkd_get (E : List ListN) (a j : Nat) (h : j < E.length) : (mkd E a)[j]'(by rw [mkd_length]; exact h) = if j < a then ⟨E[j].ao, E[j].cap, E[j].n, marks j E[j].n⟩ else E[j] := by simp [mkd]
theorem mkd_zero (E : List ListN) : mkd E 0 = E := by
  unfold mkd; apply List.ext_getElem (by simp); intro i h1 h2; simp
theorem mkd_set (E : List ListN) (a : Nat) (h : a < E.length) : (mkd E a).set a ⟨E[a].ao, E[a].cap, E[a].n, marks a E[a].n⟩ = mkd E (a + 1) := by
  apply List.ext_getElem (by simp [mkd_length])
  intro j h1 h2
  have hj : j < E.length := by simpa [mkd_length] using h2
  rw [List.getElem_set, mkd_get E (a + 1) j hj]
  split
  · rename_i q; subst q; rw [if_pos (Nat.lt_succ_self _)]
  · rename_i q
    rw [mkd_get E a j hj]
    by_cases q2 : j < a
    · rw [if_pos q2, if_pos (by omega)]
    · rw [if_neg q2, if_neg (by omega)]
/-- The lists, the first of them with what has grown out of them. -/
def twin (j : Nat) (e : ListN) (g : Option Addr × Nat) (m : Nat) : SProp := TwinR 170 2 e.ao e.cap e.n e.xs g.1 g.2 (e.n + m) (e.xs ++ marks2 j m)
def grs (M : List ListN) (Gs : List (Option Addr × Nat)) : List SProp := M.mapIdx fun j e => match Gs[j]? with
  | some g => twin j e g 16
  | none => res e
theorem grs_length (M : List ListN) (Gs : List (Option Addr × Nat)) : (grs M Gs).length = M.length := by simp [grs]
theorem grs_nil (M : List ListN) : grs M [] = M.map res := by
  unfold grs; apply List.ext_getElem (by simp); intro i h1 h2; simp
theorem grs_get (M : List ListN) (Gs : List (Option Addr × Nat)) (j : Nat) (h : j < M.length) : (grs M Gs)[j]'(by rw [grs_length]; exact h) = match Gs[j]? with
  | some g => twin j M[j] g 16
  | none => res M[j] := by simp [grs]
theorem grs_set (M : List ListN) (Gs : List (Option Addr × Nat)) (g : Option Addr × Nat) (h : Gs.length < M.length) : (grs M Gs).set Gs.length (twin Gs.length M[Gs.length] g 16) = grs M (Gs ++ [g]) := by
  apply List.ext_getElem (by simp [grs_length])
  intro j h1 h2
  have hj : j < M.length := by simpa [grs_length] using h2
  rw [List.getElem_set, grs_get M (Gs ++ [g]) j hj]
  split
  · rename_i q; subst q; rw [List.getElem?_append_right (Nat.le_refl _)]; simp
  · rename_i q
    rw [grs_get M Gs j hj]
    by_cases q2 : j < Gs.length
    · rw [List.getElem?_append_left q2]
    · rw [List.getElem?_eq_none (by omega), List.getElem?_eq_none (by simp; omega)]
def longH (M : List ListN) (Gs : List (Option Addr × Nat)) : List Value := Gs.mapIdx fun j g => .slice g.1 (((M[j]?).map fun e => e.n).getD 0 + 16) g.2
theorem longH_length (M : List ListN) (Gs : List (Option Addr × Nat)) : (longH M Gs).length = Gs.length := by simp [longH]
theorem longH_snoc (M : List ListN) (Gs : List (Option Addr × Nat)) (g : Option Addr × Nat) (h : Gs.length < M.length) : longH M (Gs ++ [g]) = longH M Gs ++ [.slice g.1 (M[Gs.length].n + 16) g.2] := by
  unfold longH
  rw [List.mapIdx_append]
  congr 1
  simp [List.getElem?_eq_getElem h]
theorem longH_one (M : List ListN) (Gs : List (Option Addr × Nat)) : ∀ u ∈ longH M Gs, u.oneCell' = true := by
  intro u hu
  obtain ⟨j, hj, rfl⟩ := List.mem_iff_getElem.1 hu
  simp [longH, Value.oneCell']
set_option maxHeartbeats 8000000 in
theorem own_ok {W : World} {R : List SProp} {lo : Option Addr} {lc : Nat} {E : List ListN} (hn : E.length ≤ 1000000000) (hl : ∀ e ∈ E, e.n ≤ 1000000000) :
    Does1 W Try.prog 56 [.slice lo E.length lc] (Own 168 1 (.slice lo E.length lc) E.length (E.map ListN.hdr) :: (E.map res ++ R)) (.bool true) R := by
  (refine Does.enter Try.func56 Try.ntmps56 rfl rfl ?_)
  refine VC.know (p := lo = none → E.length = 0) (fun w hw => hw.ownNone (.head _)) ?_
  intro hln
  (refine w ?_; repeat ((first | refine VO.step rfl rfl ?_ | refine VD.end rfl rfl rfl ?_ | refine VD.mid rfl rfl rfl ?_); refine OpV.box rfl rfl rfl ?_; intro _; refine w ?_))
  refine VC.loop (α := Nat) (fun a => a ≤ E.length) (fun a => Own 168 1 (.slice lo E.length lc) E.length (E.map ListN.hdr) :: ((mkd E a).map res ++ R)) (fun a => [(0, .slice lo E.length lc), (3, .int .i64 a)]) (fun a => E.length - a) rfl 0 (Nat.zero_le _) (by rw [mkd_zero]; exact Ent.refl) ⟨rfl, rfl, trivial⟩ ?_
  intro a ha
  (refine w ?_; repeat ((first | refine VO.step rfl rfl ?_ | refine VD.end rfl rfl rfl ?_ | refine VD.mid rfl rfl rfl ?_); refine OpV.box rfl rfl rfl ?_; intro _; refine w ?_))
  (refine VC.cond rfl rfl ?_ ?_ <;> intro hc)
  · have hlt : a < E.length := by have := of_decide_eq_true hc; omega
    obtain ⟨lb, rfl⟩ : ∃ lb, lo = some lb := by cases lo with | none => have := hln rfl; omega | some lb => exact ⟨lb, rfl⟩
    have hla := hl _ (List.getElem_mem hlt)
    have hget : (E.map ListN.hdr)[a]? = some (.slice E[a].ao E[a].n E[a].cap) := by rw [List.getElem?_map, List.getElem?_eq_getElem hlt]; rfl
    have hmlen : ((mkd E a).map res).length = E.length := by rw [List.length_map, mkd_length]
    have hself : (mkd E a).map res = ((mkd E a).map res).set a (Own 170 2 (.slice E[a].ao E[a].n E[a].cap) E[a].n (marks a 0 ++ E[a].xs.drop (0 * 2))) := by
      have e1 : ((mkd E a).map res)[a]'(by rw [hmlen]; exact hlt) = Own 170 2 (.slice E[a].ao E[a].n E[a].cap) E[a].n (marks a 0 ++ E[a].xs.drop (0 * 2)) := by
        rw [List.getElem_map, mkd_get E a a hlt, if_neg (Nat.lt_irrefl _)]; rfl
      rw [← e1, List.set_getElem_self]
    have hnext : ((mkd E a).map res).set a (Own 170 2 (.slice E[a].ao E[a].n E[a].cap) E[a].n (marks a E[a].n)) = (mkd E (a + 1)).map res := by
      rw [← mkd_set E a hlt, List.map_set]; rfl
    generalize hL : (mkd E a).map res = L at *
    (refine w ?_; repeat ((first | refine VO.step rfl rfl ?_ | refine VD.end rfl rfl rfl ?_ | refine VD.mid rfl rfl rfl ?_); refine OpV.box rfl rfl rfl ?_; intro _; refine w ?_))
    refine VC.loop (α := Nat) (fun k => k ≤ E[a].n) (fun k => Own 168 1 (.slice (some lb) E.length lc) E.length (E.map ListN.hdr) :: (L.set a (Own 170 2 (.slice E[a].ao E[a].n E[a].cap) E[a].n (marks a k ++ E[a].xs.drop (k * 2))) ++ R))
      (fun k => [(0, .slice (some lb) E.length lc), (3, .int .i64 a), (4, .int .i64 k)]) (fun k => E[a].n - k) rfl 0 (Nat.zero_le _) (by rw [← hself]; exact Ent.refl) ⟨rfl, rfl, rfl, trivial⟩ ?_
    intro k hk
    refine VC.know (p := E[a].ao = none → E[a].n = 0) (fun w hw => Holds.ownNone hw (.tail _ (mem_set L a _ (by omega)))) ?_
    intro han
    refine VC.know (fun w hw => Holds.ownLen hw (.tail _ (mem_set L a _ (by omega)))) ?_
    intro hlen
    (refine w ?_; repeat ((first | refine VO.step rfl rfl ?_ | refine VD.end rfl rfl rfl ?_ | refine VD.mid rfl rfl rfl ?_); refine OpV.box rfl rfl rfl ?_; intro _; refine w ?_))
    (first | refine VO.pure rfl rfl (PureAt.ldR tab_ok rfl rfl (Rds.own (ListN.hdrs_one E) (.head _) (by rw [List.length_map, Nat.mul_one]) (fun h => by cases h)) hget) rfl ?_ | refine VD.take rfl rfl rfl (PureAt.ldR tab_ok rfl rfl (Rds.own (ListN.hdrs_one E) (.head _) (by rw [List.length_map, Nat.mul_one]) (fun h => by cases h)) hget) rfl ?_ | refine VQ.pure rfl rfl (PureAt.ldR tab_ok rfl rfl (Rds.own (ListN.hdrs_one E) (.head _) (by rw [List.length_map, Nat.mul_one]) (fun h => by cases h)) hget) rfl ?_ | refine VD.end rfl rfl rfl (OpV.pure (PureAt.ldR tab_ok rfl rfl (Rds.own (ListN.hdrs_one E) (.head _) (by rw [List.length_map, Nat.mul_one]) (fun h => by cases h)) hget) rfl ?_))
    (refine w ?_; repeat ((first | refine VO.step rfl rfl ?_ | refine VD.end rfl rfl rfl ?_ | refine VD.mid rfl rfl rfl ?_); refine OpV.box rfl rfl rfl ?_; intro _; refine w ?_))
    (refine VC.cond rfl rfl ?_ ?_ <;> intro hc)
    · have hkt : k < E[a].n := by have := of_decide_eq_true hc; omega
      obtain ⟨xa, hxa⟩ : ∃ xa, E[a].ao = some xa := by cases h : E[a].ao with | none => have := han h; omega | some xa => exact ⟨xa, rfl⟩
      rw [hxa] at hget ⊢
      (refine w ?_; repeat ((first | refine VO.step rfl rfl ?_ | refine VD.end rfl rfl rfl ?_ | refine VD.mid rfl rfl rfl ?_); refine OpV.box rfl rfl rfl ?_; intro _; refine w ?_))
      (first | refine VO.pure rfl rfl (PureAt.ldR tab_ok rfl rfl (Rds.own (ListN.hdrs_one E) (.head _) (by rw [List.length_map, Nat.mul_one]) (fun h => by cases h)) hget) rfl ?_ | refine VD.take rfl rfl rfl (PureAt.ldR tab_ok rfl rfl (Rds.own (ListN.hdrs_one E) (.head _) (by rw [List.length_map, Nat.mul_one]) (fun h => by cases h)) hget) rfl ?_ | refine VQ.pure rfl rfl (PureAt.ldR tab_ok rfl rfl (Rds.own (ListN.hdrs_one E) (.head _) (by rw [List.length_map, Nat.mul_one]) (fun h => by cases h)) hget) rfl ?_ | refine VD.end rfl rfl rfl (OpV.pure (PureAt.ldR tab_ok rfl rfl (Rds.own (ListN.hdrs_one E) (.head _) (by rw [List.length_map, Nat.mul_one]) (fun h => by cases h)) hget) rfl ?_))
      (refine w ?_; repeat ((first | refine VO.step rfl rfl ?_ | refine VD.end rfl rfl rfl ?_ | refine VD.mid rfl rfl rfl ?_); refine OpV.box rfl rfl rfl ?_; intro _; refine w ?_))
      (apply VO.pure rfl rfl; apply PureAt.build sb_170 rfl; (simp [buildX, setL, Value.cells]; rfl); rfl)
      (refine w ?_; repeat ((first | refine VO.step rfl rfl ?_ | refine VD.end rfl rfl rfl ?_ | refine VD.mid rfl rfl rfl ?_); refine OpV.box rfl rfl rfl ?_; intro _; refine w ?_))
      (first | refine VO.step rfl rfl ?_ | refine VD.end rfl rfl rfl ?_ | refine VD.mid rfl rfl rfl ?_)
      refine OpV.stOA (vs := mk ((a : Int) * 1000 + (k : Int) + 7000000)) tab_ok rfl rfl rfl rfl (mk_one _) (.tail (hole_set L a _ (by omega))) (by rw [hlen]; omega) ?_
      have hset : (marks a k ++ E[a].xs.drop (k * 2)).take (k * 2) ++ mk ((a : Int) * 1000 + (k : Int) + 7000000) ++ (marks a k ++ E[a].xs.drop (k * 2)).drop (k * 2 + 2) = marks a (k + 1) ++ E[a].xs.drop ((k + 1) * 2) := by
        rw [List.take_left' (marks_length a k), marks_succ, List.drop_append, marks_length, List.drop_of_length_le (by rw [marks_length]; omega), List.nil_append, List.drop_drop]
        congr 2
        omega
      rw [hset]
      (refine w ?_; repeat ((first | refine VO.step rfl rfl ?_ | refine VD.end rfl rfl rfl ?_ | refine VD.mid rfl rfl rfl ?_); refine OpV.box rfl rfl rfl ?_; intro _; refine w ?_))
      exact VE.round (k + 1) hkt (by omega) ⟨rfl, rfl, rfl, trivial⟩ Ent.refl
    · have hge : k = E[a].n := by have := of_decide_eq_false hc; omega
      rw [List.length_append, marks_length] at hlen
      have hz : E[a].xs.drop (k * 2) = [] := List.eq_nil_of_length_eq_zero (by rw [hge] at hlen ⊢; omega)
      rw [hz, List.append_nil, hge, hnext]
      (refine w ?_; repeat ((first | refine VO.step rfl rfl ?_ | refine VD.end rfl rfl rfl ?_ | refine VD.mid rfl rfl rfl ?_); refine OpV.box rfl rfl rfl ?_; intro _; refine w ?_))
      exact VE.round (a + 1) hlt (by omega) ⟨rfl, rfl, trivial⟩ Ent.refl
  have hge : a = E.length := by have := of_decide_eq_false hc; omega
  subst hge
  clear hc ha
  -- every list is marked
  obtain ⟨M, hM⟩ : ∃ M, M = mkd E E.length := ⟨_, rfl⟩
  have hML : M.length = E.length := by rw [hM]; exact mkd_length _ _
  have hMg : ∀ j (h : j < M.length), M[j] = ⟨(E[j]'(by omega)).ao, (E[j]'(by omega)).cap, (E[j]'(by omega)).n, marks j (E[j]'(by omega)).n⟩ := fun j h => by
    subst hM; rw [mkd_get E _ j (by omega), if_pos (by omega)]
  have hMh : E.map ListN.hdr = M.map ListN.hdr := by
    apply List.ext_getElem (by simp [hML])
    intro j h1 h2
    have hj : j < M.length := by simpa using h2
    rw [List.getElem_map, List.getElem_map, hMg j hj]
  have hMl : ∀ j (h : j < M.length), M[j].n ≤ 1000000000 ∧ M[j].xs = marks j M[j].n := fun j h => by
    rw [hMg j h]; exact ⟨hl (E[j]'(by omega)) (List.getElem_mem _), rfl⟩
  (refine w ?_; repeat ((first | refine VO.step rfl rfl ?_ | refine VD.end rfl rfl rfl ?_ | refine VD.mid rfl rfl rfl ?_); refine OpV.box rfl rfl rfl ?_; intro _; refine w ?_))
  rw [← hM, hMh, ← hML]
  rw [← hML] at hln hn
  clear hMh hMg hl hML hM E
  refine VC.ent (H' := Own 168 1 (.slice none 0 0) 0 (longH M []) :: Own 168 1 (.slice lo M.length lc) M.length (M.map ListN.hdr) :: (grs M [] ++ R)) (fun w hw => by rw [grs_nil]; exact hw.ownNil _ _) ?_
  refine VC.loop (α := List (Option Addr × Nat) × Option Addr × Nat) (fun g => g.1.length ≤ M.length)
    (fun g => Own 168 1 (.slice g.2.1 g.1.length g.2.2) g.1.length (longH M g.1) :: Own 168 1 (.slice lo M.length lc) M.length (M.map ListN.hdr) :: (grs M g.1 ++ R))
    (fun g => [(0, .slice lo M.length lc), (5, .slice g.2.1 g.1.length g.2.2), (6, .int .i64 g.1.length)]) (fun g => M.length - g.1.length) rfl ([], none, 0) (Nat.zero_le _) Ent.refl ⟨rfl, rfl, rfl, trivial⟩ ?_
  rintro ⟨Gs, go, gc⟩ ha
  dsimp only at ha ⊢
  (refine w ?_; repeat ((first | refine VO.step rfl rfl ?_ | refine VD.end rfl rfl rfl ?_ | refine VD.mid rfl rfl rfl ?_); refine OpV.box rfl rfl rfl ?_; intro _; refine w ?_))
  (refine VC.cond rfl rfl ?_ ?_ <;> intro hc)
  · have hlt : Gs.length < M.length := by have := of_decide_eq_true hc; omega
    obtain ⟨lb, rfl⟩ : ∃ lb, lo = some lb := by cases lo with | none => have := hln rfl; omega | some lb => exact ⟨lb, rfl⟩
    obtain ⟨hla, hxs⟩ := hMl Gs.length hlt
    have hget : (M.map ListN.hdr)[Gs.length]? = some (.slice M[Gs.length].ao M[Gs.length].n M[Gs.length].cap) := by rw [List.getElem?_map, List.getElem?_eq_getElem hlt]; rfl
    have hself : grs M Gs = (grs M Gs).set Gs.length (res M[Gs.length]) := by
      have e1 : (grs M Gs)[Gs.length]'(by rw [grs_length]; exact hlt) = res M[Gs.length] := by
        rw [grs_get M Gs _ hlt, List.getElem?_eq_none (Nat.le_refl _)]
      rw [← e1, List.set_getElem_self]
    have hnext (g : Option Addr × Nat) := grs_set M Gs g hlt
    have hlnext (g : Option Addr × Nat) := longH_snoc M Gs g hlt
    have hgl := grs_length M Gs
    generalize hL : grs M Gs = L at *
    (refine w ?_; repeat ((first | refine VO.step rfl rfl ?_ | refine VD.end rfl rfl rfl ?_ | refine VD.mid rfl rfl rfl ?_); refine OpV.box rfl rfl rfl ?_; intro _; refine w ?_))
    (first | refine VO.pure rfl rfl (PureAt.ldR tab_ok rfl rfl (Rds.own (ListN.hdrs_one M) (.tail _ (.head _)) (by rw [List.length_map, Nat.mul_one]) (fun h => by cases h)) hget) rfl ?_ | refine VD.take rfl rfl rfl (PureAt.ldR tab_ok rfl rfl (Rds.own (ListN.hdrs_one M) (.tail _ (.head _)) (by rw [List.length_map, Nat.mul_one]) (fun h => by cases h)) hget) rfl ?_ | refine VQ.pure rfl rfl (PureAt.ldR tab_ok rfl rfl (Rds.own (ListN.hdrs_one M) (.tail _ (.head _)) (by rw [List.length_map, Nat.mul_one]) (fun h => by cases h)) hget) rfl ?_ | refine VD.end rfl rfl rfl (OpV.pure (PureAt.ldR tab_ok rfl rfl (Rds.own (ListN.hdrs_one M) (.tail _ (.head _)) (by rw [List.length_map, Nat.mul_one]) (fun h => by cases h)) hget) rfl ?_))
    (refine w ?_; repeat ((first | refine VO.step rfl rfl ?_ | refine VD.end rfl rfl rfl ?_ | refine VD.mid rfl rfl rfl ?_); refine OpV.box rfl rfl rfl ?_; intro _; refine w ?_))
    refine VC.loop (α := Nat × Option Addr × Nat) (fun g => g.1 ≤ 16)
      (fun g => Own 168 1 (.slice go Gs.length gc) Gs.length (longH M Gs) :: Own 168 1 (.slice (some lb) M.length lc) M.length (M.map ListN.hdr) :: (L.set Gs.length (twin Gs.length M[Gs.length] g.2 g.1) ++ R))
      (fun g => [(0, .slice (some lb) M.length lc), (5, .slice go Gs.length gc), (6, .int .i64 Gs.length), (7, .slice g.2.1 (M[Gs.length].n + g.1) g.2.2), (8, .int .i64 g.1)]) (fun g => 16 - g.1) rfl (0, M[Gs.length].ao, M[Gs.length].cap) (Nat.zero_le _)
      (by
        rw [hself, List.set_set]
        refine Ent.hole (Hole.tail (Hole.tail (hole_set L Gs.length _ (by omega)))) (fun R w hw => ?_)
        have := TwinR.start hw
        simpa [twin, marks2] using this) ⟨rfl, rfl, rfl, rfl, rfl, trivial⟩ ?_
    rintro ⟨k, xo, xc⟩ hk
    dsimp only at hk ⊢
    (refine w ?_; repeat ((first | refine VO.step rfl rfl ?_ | refine VD.end rfl rfl rfl ?_ | refine VD.mid rfl rfl rfl ?_); refine OpV.box rfl rfl rfl ?_; intro _; refine w ?_))
    (refine VC.cond rfl rfl ?_ ?_ <;> intro hc)
    · have hkt : k < 16 := by have := of_decide_eq_true hc; omega
      (refine w ?_; repeat ((first | refine VO.step rfl rfl ?_ | refine VD.end rfl rfl rfl ?_ | refine VD.mid rfl rfl rfl ?_); refine OpV.box rfl rfl rfl ?_; intro _; refine w ?_))
      (apply VO.pure rfl rfl; apply PureAt.build sb_170 rfl; (simp [buildX, setL, Value.cells]; rfl); rfl)
      (first | refine VO.step rfl rfl ?_ | refine VD.end rfl rfl rfl ?_ | refine VD.mid rfl rfl rfl ?_)
      refine OpV.buildSlice (cs := mk ((-1 - (Gs.length : Int)) * 1000 + (k : Int) + 7000000)) st_168 rfl rfl (by simp [Value.cells]) (by simp [Value.cells, mk]) (by decide) rfl ?_
      intro nb
      (first | refine VO.step rfl rfl ?_ | refine VD.end rfl rfl rfl ?_ | refine VD.mid rfl rfl rfl ?_)
      refine OpV.appendT (news := mk ((-1 - (Gs.length : Int)) * 1000 + (k : Int) + 7000000)) (m := 1) st_168 rfl rfl (.tail (.tail (.tail (hole_set L Gs.length _ (by omega))))) (fun w hw => (Sees.row (ys := []) (mk_one _) rfl (by simpa using hw) (.head _)).src st_168.und) ?_ ?_ rfl ?_
      · simp only [maxLen]; omega
      · omega
      intro xo' xc'
      (refine w ?_; repeat ((first | refine VO.step rfl rfl ?_ | refine VD.end rfl rfl rfl ?_ | refine VD.mid rfl rfl rfl ?_); refine OpV.box rfl rfl rfl ?_; intro _; refine w ?_))
      refine VE.round (k + 1, xo', xc') hkt (by simp only; omega) ⟨rfl, rfl, rfl, rfl, rfl, trivial⟩ ?_
      unfold twin
      rw [marks2_succ, ← List.append_assoc]
      exact Reord.ent (Reord.drop .refl)
    · have hge : k = 16 := by have := of_decide_eq_false hc; omega
      subst hge
      rw [hnext]
      (refine w ?_; repeat ((first | refine VO.step rfl rfl ?_ | refine VD.end rfl rfl rfl ?_ | refine VD.mid rfl rfl rfl ?_); refine OpV.box rfl rfl rfl ?_; intro _; refine w ?_))
      ((first | refine VO.step rfl rfl ?_ | refine VD.end rfl rfl rfl ?_ | refine VD.mid rfl rfl rfl ?_); refine OpV.buildSlice1 st_44 rfl rfl (by first | (simp; done) | simp [Value.oneCell']) (by decide) rfl ?_; intro nb)
      ((first | refine VO.step rfl rfl ?_ | refine VD.end rfl rfl rfl ?_ | refine VD.mid rfl rfl rfl ?_); refine OpV.appendRow st_44 rfl rfl (by (repeat first | exact .head | apply Hole.tail)) (by (focus repeat first | exact .head _ | apply List.Mem.tail)) rfl (by first | (simp; done) | simp [Value.oneCell']) ?_ ?_ rfl ?_)
      · simp only [maxLen]; omega
      · omega
      intro go' gc'
      rw [← hlnext (xo, xc)]
      (refine w ?_; repeat ((first | refine VO.step rfl rfl ?_ | refine VD.end rfl rfl rfl ?_ | refine VD.mid rfl rfl rfl ?_); refine OpV.box rfl rfl rfl ?_; intro _; refine w ?_))
      refine VE.round (Gs ++ [(xo, xc)], go', gc') (by rw [List.length_append]; exact hlt) (by simp only [List.length_append, List.length_singleton]; omega) ⟨rfl, asV rfl (by rw [List.length_append]; rfl), asV rfl (by rw [List.length_append]; rfl), trivial⟩ ?_
      dsimp only
      rw [List.length_append]
      exact Ent.re
  have hge : Gs.length = M.length := by have := of_decide_eq_false hc; omega
  clear hc ha
  (refine w ?_; repeat ((first | refine VO.step rfl rfl ?_ | refine VD.end rfl rfl rfl ?_ | refine VD.mid rfl rfl rfl ?_); refine OpV.box rfl rfl rfl ?_; intro _; refine w ?_))
  refine VC.know (p := go = none → Gs.length = 0) (fun w hw => Holds.ownNone hw (.head _)) ?_
  intro hgn
  generalize hH : (Own 168 1 (.slice go Gs.length gc) Gs.length (longH M Gs) :: Own 168 1 (.slice lo M.length lc) M.length (M.map ListN.hdr) :: (grs M Gs ++ R)) = HH
  have hr1 : Rds W HH 1 lo M.length (M.map ListN.hdr) := by subst hH; exact Rds.own (ListN.hdrs_one M) (.tail _ (.head _)) (by rw [List.length_map, Nat.mul_one]) hln
  have hr2 : Rds W HH 1 go Gs.length (longH M Gs) := by subst hH; exact Rds.own (longH_one M Gs) (.head _) (by rw [longH_length, Nat.mul_one]) hgn
  have hend : Ent W HH R := by
    subst hH
    exact Ent.drop (Ent.drop (fun w hw => by
      have : ∀ (X : List SProp) w, Holds W (X ++ R) w → Holds W R w := fun X => by
        induction X with
        | nil => exact fun w h => h
        | cons a r ih => exact fun w h => ih w h.tail
      exact this _ w hw))
  have htw : ∀ a (h : a < M.length), twin a M[a] (Gs[a]'(by omega)) 16 ∈ HH := fun a h => by
    subst hH
    refine .tail _ (.tail _ (List.mem_append_left _ (List.mem_iff_getElem.2 ⟨a, by rw [grs_length]; exact h, ?_⟩)))
    rw [grs_get M Gs a h, List.getElem?_eq_getElem (by omega)]
  have hlg : ∀ a (h : a < M.length), (longH M Gs)[a]? = some (.slice (Gs[a]'(by omega)).1 (M[a].n + 16) (Gs[a]'(by omega)).2) := fun a h => by
    unfold longH
    rw [List.getElem?_mapIdx, List.getElem?_eq_getElem h, List.getElem?_eq_getElem (l := Gs) (by omega)]; rfl
  clear hH
  refine VC.loop (α := Nat) (fun a => a ≤ M.length) (fun _ => HH)
    (fun a => [(0, .slice lo M.length lc), (5, .slice go Gs.length gc), (9, .int .i64 a)]) (fun a => M.length - a) rfl 0 (Nat.zero_le _) Ent.refl ⟨rfl, rfl, rfl, trivial⟩ ?_
  intro a ha
  (refine w ?_; repeat ((first | refine VO.step rfl rfl ?_ | refine VD.end rfl rfl rfl ?_ | refine VD.mid rfl rfl rfl ?_); refine OpV.box rfl rfl rfl ?_; intro _; refine w ?_))
  (refine VC.cond rfl rfl ?_ ?_ <;> intro hc)
  · have hlt : a < M.length := by have := of_decide_eq_true hc; omega
    obtain ⟨lb, rfl⟩ : ∃ lb, lo = some lb := by cases lo with | none => have := hln rfl; omega | some lb => exact ⟨lb, rfl⟩
    obtain ⟨gb, rfl⟩ : ∃ gb, go = some gb := by cases go with | none => have := hgn rfl; omega | some gb => exact ⟨gb, rfl⟩
    obtain ⟨hla, hxs⟩ := hMl a hlt
    have hget : (M.map ListN.hdr)[a]? = some (.slice M[a].ao M[a].n M[a].cap) := by rw [List.getElem?_map, List.getElem?_eq_getElem hlt]; rfl
    have htw := htw a hlt
    have hlg := hlg a hlt
    have hgl : a < Gs.length := by omega
    generalize Gs[a] = g at *
    generalize M[a] = e at *
    have hel : e.xs.length = e.n * 2 := by rw [hxs, marks_length]
    have h1 : ∀ u ∈ e.xs, u.oneCell' = true := by rw [hxs]; exact marks_one _ _
    have h2 : ∀ u ∈ e.xs ++ marks2 a 16, u.oneCell' = true := fun u hu => by
      rcases List.mem_append.1 hu with q | q
      · exact h1 u q
      · exact marks2_one _ _ u q
    refine VC.know (fun w hw => TwinR.none hw htw) ?_
    rintro ⟨hon, hnn⟩
    have ho : Rds W HH 2 e.ao e.n e.xs := TwinR.rdsOld htw h1 hel hon
    have hw' : Rds W HH 2 g.1 (e.n + 16) (e.xs ++ marks2 a 16) := TwinR.rdsNew htw h2 (by rw [List.length_append, marks2_length, hel]; omega) hnn
    obtain ⟨gx, hgx⟩ : ∃ gx, g.1 = some gx := by cases h : g.1 with | none => have := hnn h; omega | some gx => exact ⟨gx, rfl⟩
    rw [hgx] at hlg hw'
    (refine w ?_; repeat ((first | refine VO.step rfl rfl ?_ | refine VD.end rfl rfl rfl ?_ | refine VD.mid rfl rfl rfl ?_); refine OpV.box rfl rfl rfl ?_; intro _; refine w ?_))
    (first | refine VO.pure rfl rfl (PureAt.ldR tab_ok rfl rfl hr1 hget) rfl ?_ | refine VD.take rfl rfl rfl (PureAt.ldR tab_ok rfl rfl hr1 hget) rfl ?_ | refine VQ.pure rfl rfl (PureAt.ldR tab_ok rfl rfl hr1 hget) rfl ?_ | refine VD.end rfl rfl rfl (OpV.pure (PureAt.ldR tab_ok rfl rfl hr1 hget) rfl ?_))
    (refine w ?_; repeat ((first | refine VO.step rfl rfl ?_ | refine VD.end rfl rfl rfl ?_ | refine VD.mid rfl rfl rfl ?_); refine OpV.box rfl rfl rfl ?_; intro _; refine w ?_))
    refine VC.loop (α := Nat) (fun k => k ≤ e.n) (fun _ => HH)
      (fun k => [(0, .slice (some lb) M.length lc), (5, .slice (some gb) Gs.length gc), (9, .int .i64 a), (10, .int .i64 e.n), (11, .int .i64 k)]) (fun k => e.n - k) rfl 0 (Nat.zero_le _) Ent.refl ⟨rfl, rfl, rfl, rfl, rfl, trivial⟩ ?_
    intro k hk
    (refine w ?_; repeat ((first | refine VO.step rfl rfl ?_ | refine VD.end rfl rfl rfl ?_ | refine VD.mid rfl rfl rfl ?_); refine OpV.box rfl rfl rfl ?_; intro _; refine w ?_))
    (refine VC.cond rfl rfl ?_ ?_ <;> intro hc)
    · have hkt : k < e.n := by have := of_decide_eq_true hc; omega
      obtain ⟨ox, hox⟩ : ∃ ox, e.ao = some ox := by cases h : e.ao with | none => have := hon h; omega | some ox => exact ⟨ox, rfl⟩
      rw [hox] at hget ho
      have hk1 : e.xs[k * 2 + 0]? = some (val ((a : Int) * 1000 + (k : Int) + 7000000)) := by rw [hxs]; exact marks_get a _ k hkt
      have hk2 : (e.xs ++ marks2 a 16)[k * 2 + 0]? = some (val ((a : Int) * 1000 + (k : Int) + 7000000)) := by rw [List.getElem?_append_left (by omega)]; exact hk1
      (refine w ?_; repeat ((first | refine VO.step rfl rfl ?_ | refine VD.end rfl rfl rfl ?_ | refine VD.mid rfl rfl rfl ?_); refine OpV.box rfl rfl rfl ?_; intro _; refine w ?_))
      (first | refine VO.pure rfl rfl (PureAt.ldR tab_ok rfl rfl hr1 hget) rfl ?_ | refine VD.take rfl rfl rfl (PureAt.ldR tab_ok rfl rfl hr1 hget) rfl ?_ | refine VQ.pure rfl rfl (PureAt.ldR tab_ok rfl rfl hr1 hget) rfl ?_ | refine VD.end rfl rfl rfl (OpV.pure (PureAt.ldR tab_ok rfl rfl hr1 hget) rfl ?_))
      (refine w ?_; repeat ((first | refine VO.step rfl rfl ?_ | refine VD.end rfl rfl rfl ?_ | refine VD.mid rfl rfl rfl ?_); refine OpV.box rfl rfl rfl ?_; intro _; refine w ?_))
      (first | refine VO.pure rfl rfl (PureAt.ldRc tab_ok rfl rfl ho hk1) rfl ?_ | refine VD.take rfl rfl rfl (PureAt.ldRc tab_ok rfl rfl ho hk1) rfl ?_ | refine VQ.pure rfl rfl (PureAt.ldRc tab_ok rfl rfl ho hk1) rfl ?_ | refine VD.end rfl rfl rfl (OpV.pure (PureAt.ldRc tab_ok rfl rfl ho hk1) rfl ?_))
      obtain ⟨Z, hZ⟩ : ∃ Z, Z = (a : Int) * 1000 + (k : Int) + 7000000 := ⟨_, rfl⟩
      (first | (first | refine VO.nil rfl ?_ | refine VQ.nil rfl ?_ | refine VD.nil ?_ | ((first | apply VO.pure rfl rfl | apply VQ.pure rfl rfl | apply VD.take rfl rfl rfl | (refine VD.end rfl rfl rfl ?_; apply OpV.pure)); (first | (apply PureAt.ar64 rfl rfl rfl; omega) | exact .eval tab_ok rfl | (apply PureAt.ld tab_ok rfl rfl; (focus repeat first | exact .head _ | apply List.Mem.tail); rfl) | (apply PureAt.shr rfl rfl (by decide) (by decide)) | (apply PureAt.shr rfl rfl (by omega) (by simp only [IntKind.bits]; omega)) | exact .fieldAddrA tab_ok rfl rfl | exact .sliceLH tab_ok rfl rfl rfl rfl (by omega) (by omega) | exact .sliceH tab_ok rfl rfl rfl (by omega) | exact .sliceL tab_ok rfl rfl rfl (by omega) | (first | exact .indexAddr tab_ok rfl rfl rfl rfl (by omega) | exact .indexAddrN tab_ok rfl rfl rfl rfl (by omega) | exact .indexAddrI tab_ok rfl rfl rfl rfl (toNatLit _) (by decide) (by omega) | exact .indexAddrNI tab_ok rfl rfl rfl rfl (toNatLit _) (by decide) (by omega) | exact .ldR tab_ok rfl rfl hr1 (List.getElem?_eq_getElem (by omega)) | exact .ldR tab_ok rfl rfl hr2 (List.getElem?_eq_getElem (by omega)) | exact ldB tab_ok rfl rfl hb1 (by omega) | exact ldB tab_ok rfl rfl hb2 (by omega)) | exact .sliceHI tab_ok rfl rfl rfl (toNatLit _) (by decide) (by omega) | exact .sliceLI tab_ok rfl rfl rfl (toNatLit _) (by decide) (by omega) | (apply PureAt.ldA tab_ok rfl rfl; (focus repeat first | exact .head _ | apply List.Mem.tail); rfl; rfl) | exact .ldro tab_ok rfl rfl (by assumption)); rfl) | refine VO.skip rfl rfl rfl rfl ?_ | refine VQ.skip rfl rfl rfl rfl ?_ | refine VD.skip rfl rfl rfl rfl rfl ?_ | refine VD.skipM rfl rfl Ent.refl rfl rfl rfl ?_ | ((first | refine VO.step rfl rfl ?_ | refine VD.end rfl rfl rfl ?_ | refine VD.mid rfl rfl rfl ?_); (first | (apply OpV.st tab_ok rfl rfl rfl rfl (by (repeat first | exact .head | apply Hole.tail); first | done | fail) (by first | (simp; done) | fail)) | (refine OpV.box rfl rfl rfl ?_; intro _))) | refine ⟨Ent.re, ?_⟩) | (first | refine VC.seq rfl ?_ | refine VC.region rfl ?_ | refine VC.condT rfl rfl ?_ | refine VC.condF rfl rfl ?_ | refine VC.block rfl ?_ | refine VC.skip rfl ?_ | refine VC.ret rfl ?_ | refine VC.exit rfl ?_ | refine VC.scope rfl ?_ | refine VC.label rfl ?_) | (first | refine VE.next ?_ | refine VE.passRet ?_ | refine VE.passExit ?_ | refine VE.blockNormal ?_ | refine VE.blockHit ?_ | refine VE.blockMiss rfl ?_ | refine VE.blockRet ?_ | refine VE.loopRet ?_ | refine VE.loopExit ?_ | refine VE.scopeNormal ?_ | refine VE.scopeRet ?_ | refine VE.scopeExit ?_))
      (first | (first | refine VO.nil rfl ?_ | refine VQ.nil rfl ?_ | refine VD.nil ?_ | ((first | apply VO.pure rfl rfl | apply VQ.pure rfl rfl | apply VD.take rfl rfl rfl | (refine VD.end rfl rfl rfl ?_; apply OpV.pure)); (first | (apply PureAt.ar64 rfl rfl rfl; omega) | exact .eval tab_ok rfl | (apply PureAt.ld tab_ok rfl rfl; (focus repeat first | exact .head _ | apply List.Mem.tail); rfl) | (apply PureAt.shr rfl rfl (by decide) (by decide)) | (apply PureAt.shr rfl rfl (by omega) (by simp only [IntKind.bits]; omega)) | exact .fieldAddrA tab_ok rfl rfl | exact .sliceLH tab_ok rfl rfl rfl rfl (by omega) (by omega) | exact .sliceH tab_ok rfl rfl rfl (by omega) | exact .sliceL tab_ok rfl rfl rfl (by omega) | (first | exact .indexAddr tab_ok rfl rfl rfl rfl (by omega) | exact .indexAddrN tab_ok rfl rfl rfl rfl (by omega) | exact .indexAddrI tab_ok rfl rfl rfl rfl (toNatLit _) (by decide) (by omega) | exact .indexAddrNI tab_ok rfl rfl rfl rfl (toNatLit _) (by decide) (by omega) | exact .ldR tab_ok rfl rfl hr1 (List.getElem?_eq_getElem (by omega)) | exact .ldR tab_ok rfl rfl hr2 (List.getElem?_eq_getElem (by omega)) | exact ldB tab_ok rfl rfl hb1 (by omega) | exact ldB tab_ok rfl rfl hb2 (by omega)) | exact .sliceHI tab_ok rfl rfl rfl (toNatLit _) (by decide) (by omega) | exact .sliceLI tab_ok rfl rfl rfl (toNatLit _) (by decide) (by omega) | (apply PureAt.ldA tab_ok rfl rfl; (focus repeat first | exact .head _ | apply List.Mem.tail); rfl; rfl) | exact .ldro tab_ok rfl rfl (by assumption)); rfl) | refine VO.skip rfl rfl rfl rfl ?_ | refine VQ.skip rfl rfl rfl rfl ?_ | refine VD.skip rfl rfl rfl rfl rfl ?_ | refine VD.skipM rfl rfl Ent.refl rfl rfl rfl ?_ | ((first | refine VO.step rfl rfl ?_ | refine VD.end rfl rfl rfl ?_ | refine VD.mid rfl rfl rfl ?_); (first | (apply OpV.st tab_ok rfl rfl rfl rfl (by (repeat first | exact .head | apply Hole.tail); first | done | fail) (by first | (simp; done) | fail)) | (refine OpV.box rfl rfl rfl ?_; intro _))) | refine ⟨Ent.re, ?_⟩) | (first | refine VC.seq rfl ?_ | refine VC.region rfl ?_ | refine VC.condT rfl rfl ?_ | refine VC.condF rfl rfl ?_ | refine VC.block rfl ?_ | refine VC.skip rfl ?_ | refine VC.ret rfl ?_ | refine VC.exit rfl ?_ | refine VC.scope rfl ?_ | refine VC.label rfl ?_) | (first | refine VE.next ?_ | refine VE.passRet ?_ | refine VE.passExit ?_ | refine VE.blockNormal ?_ | refine VE.blockHit ?_ | refine VE.blockMiss rfl ?_ | refine VE.blockRet ?_ | refine VE.loopRet ?_ | refine VE.loopExit ?_ | refine VE.scopeNormal ?_ | refine VE.scopeRet ?_ | refine VE.scopeExit ?_))
      (first | (first | refine VO.nil rfl ?_ | refine VQ.nil rfl ?_ | refine VD.nil ?_ | ((first | apply VO.pure rfl rfl | apply VQ.pure rfl rfl | apply VD.take rfl rfl rfl | (refine VD.end rfl rfl rfl ?_; apply OpV.pure)); (first | (apply PureAt.ar64 rfl rfl rfl; omega) | exact .eval tab_ok rfl | (apply PureAt.ld tab_ok rfl rfl; (focus repeat first | exact .head _ | apply List.Mem.tail); rfl) | (apply PureAt.shr rfl rfl (by decide) (by decide)) | (apply PureAt.shr rfl rfl (by omega) (by simp only [IntKind.bits]; omega)) | exact .fieldAddrA tab_ok rfl rfl | exact .sliceLH tab_ok rfl rfl rfl rfl (by omega) (by omega) | exact .sliceH tab_ok rfl rfl rfl (by omega) | exact .sliceL tab_ok rfl rfl rfl (by omega) | (first | exact .indexAddr tab_ok rfl rfl rfl rfl (by omega) | exact .indexAddrN tab_ok rfl rfl rfl rfl (by omega) | exact .indexAddrI tab_ok rfl rfl rfl rfl (toNatLit _) (by decide) (by omega) | exact .indexAddrNI tab_ok rfl rfl rfl rfl (toNatLit _) (by decide) (by omega) | exact .ldR tab_ok rfl rfl hr1 (List.getElem?_eq_getElem (by omega)) | exact .ldR tab_ok rfl rfl hr2 (List.getElem?_eq_getElem (by omega)) | exact ldB tab_ok rfl rfl hb1 (by omega) | exact ldB tab_ok rfl rfl hb2 (by omega)) | exact .sliceHI tab_ok rfl rfl rfl (toNatLit _) (by decide) (by omega) | exact .sliceLI tab_ok rfl rfl rfl (toNatLit _) (by decide) (by omega) | (apply PureAt.ldA tab_ok rfl rfl; (focus repeat first | exact .head _ | apply List.Mem.tail); rfl; rfl) | exact .ldro tab_ok rfl rfl (by assumption)); rfl) | refine VO.skip rfl rfl rfl rfl ?_ | refine VQ.skip rfl rfl rfl rfl ?_ | refine VD.skip rfl rfl rfl rfl rfl ?_ | refine VD.skipM rfl rfl Ent.refl rfl rfl rfl ?_ | ((first | refine VO.step rfl rfl ?_ | refine VD.end rfl rfl rfl ?_ | refine VD.mid rfl rfl rfl ?_); (first | (apply OpV.st tab_ok rfl rfl rfl rfl (by (repeat first | exact .head | apply Hole.tail); first | done | fail) (by first | (simp; done) | fail)) | (refine OpV.box rfl rfl rfl ?_; intro _))) | refine ⟨Ent.re, ?_⟩) | (first | refine VC.seq rfl ?_ | refine VC.region rfl ?_ | refine VC.condT rfl rfl ?_ | refine VC.condF rfl rfl ?_ | refine VC.block rfl ?_ | refine VC.skip rfl ?_ | refine VC.ret rfl ?_ | refine VC.exit rfl ?_ | refine VC.scope rfl ?_ | refine VC.label rfl ?_) | (first | refine VE.next ?_ | refine VE.passRet ?_ | refine VE.passExit ?_ | refine VE.blockNormal ?_ | refine VE.blockHit ?_ | refine VE.blockMiss rfl ?_ | refine VE.blockRet ?_ | refine VE.loopRet ?_ | refine VE.loopExit ?_ | refine VE.scopeNormal ?_ | refine VE.scopeRet ?_ | refine VE.scopeExit ?_))
      (first | (first | refine VO.nil rfl ?_ | refine VQ.nil rfl ?_ | refine VD.nil ?_ | ((first | apply VO.pure rfl rfl | apply VQ.pure rfl rfl | apply VD.take rfl rfl rfl | (refine VD.end rfl rfl rfl ?_; apply OpV.pure)); (first | (apply PureAt.ar64 rfl rfl rfl; omega) | exact .eval tab_ok rfl | (apply PureAt.ld tab_ok rfl rfl; (focus repeat first | exact .head _ | apply List.Mem.tail); rfl) | (apply PureAt.shr rfl rfl (by decide) (by decide)) | (apply PureAt.shr rfl rfl (by omega) (by simp only [IntKind.bits]; omega)) | exact .fieldAddrA tab_ok rfl rfl | exact .sliceLH tab_ok rfl rfl rfl rfl (by omega) (by omega) | exact .sliceH tab_ok rfl rfl rfl (by omega) | exact .sliceL tab_ok rfl rfl rfl (by omega) | (first | exact .indexAddr tab_ok rfl rfl rfl rfl (by omega) | exact .indexAddrN tab_ok rfl rfl rfl rfl (by omega) | exact .indexAddrI tab_ok rfl rfl rfl rfl (toNatLit _) (by decide) (by omega) | exact .indexAddrNI tab_ok rfl rfl rfl rfl (toNatLit _) (by decide) (by omega) | exact .ldR tab_ok rfl rfl hr1 (List.getElem?_eq_getElem (by omega)) | exact .ldR tab_ok rfl rfl hr2 (List.getElem?_eq_getElem (by omega)) | exact ldB tab_ok rfl rfl hb1 (by omega) | exact ldB tab_ok rfl rfl hb2 (by omega)) | exact .sliceHI tab_ok rfl rfl rfl (toNatLit _) (by decide) (by omega) | exact .sliceLI tab_ok rfl rfl rfl (toNatLit _) (by decide) (by omega) | (apply PureAt.ldA tab_ok rfl rfl; (focus repeat first | exact .head _ | apply List.Mem.tail); rfl; rfl) | exact .ldro tab_ok rfl rfl (by assumption)); rfl) | refine VO.skip rfl rfl rfl rfl ?_ | refine VQ.skip rfl rfl rfl rfl ?_ | refine VD.skip rfl rfl rfl rfl rfl ?_ | refine VD.skipM rfl rfl Ent.refl rfl rfl rfl ?_ | ((first | refine VO.step rfl rfl ?_ | refine VD.end rfl rfl rfl ?_ | refine VD.mid rfl rfl rfl ?_); (first | (apply OpV.st tab_ok rfl rfl rfl rfl (by (repeat first | exact .head | apply Hole.tail); first | done | fail) (by first | (simp; done) | fail)) | (refine OpV.box rfl rfl rfl ?_; intro _))) | refine ⟨Ent.re, ?_⟩) | (first | refine VC.seq rfl ?_ | refine VC.region rfl ?_ | refine VC.condT rfl rfl ?_ | refine VC.condF rfl rfl ?_ | refine VC.block rfl ?_ | refine VC.skip rfl ?_ | refine VC.ret rfl ?_ | refine VC.exit rfl ?_ | refine VC.scope rfl ?_ | refine VC.label rfl ?_) | (first | refine VE.next ?_ | refine VE.passRet ?_ | refine VE.passExit ?_ | refine VE.blockNormal ?_ | refine VE.blockHit ?_ | refine VE.blockMiss rfl ?_ | refine VE.blockRet ?_ | refine VE.loopRet ?_ | refine VE.loopExit ?_ | refine VE.scopeNormal ?_ | refine VE.scopeRet ?_ | refine VE.scopeExit ?_))
      (first | (first | refine VO.nil rfl ?_ | refine VQ.nil rfl ?_ | refine VD.nil ?_ | ((first | apply VO.pure rfl rfl | apply VQ.pure rfl rfl | apply VD.take rfl rfl rfl | (refine VD.end rfl rfl rfl ?_; apply OpV.pure)); (first | (apply PureAt.ar64 rfl rfl rfl; omega) | exact .eval tab_ok rfl | (apply PureAt.ld tab_ok rfl rfl; (focus repeat first | exact .head _ | apply List.Mem.tail); rfl) | (apply PureAt.shr rfl rfl (by decide) (by decide)) | (apply PureAt.shr rfl rfl (by omega) (by simp only [IntKind.bits]; omega)) | exact .fieldAddrA tab_ok rfl rfl | exact .sliceLH tab_ok rfl rfl rfl rfl (by omega) (by omega) | exact .sliceH tab_ok rfl rfl rfl (by omega) | exact .sliceL tab_ok rfl rfl rfl (by omega) | (first | exact .indexAddr tab_ok rfl rfl rfl rfl (by omega) | exact .indexAddrN tab_ok rfl rfl rfl rfl (by omega) | exact .indexAddrI tab_ok rfl rfl rfl rfl (toNatLit _) (by decide) (by omega) | exact .indexAddrNI tab_ok rfl rfl rfl rfl (toNatLit _) (by decide) (by omega) | exact .ldR tab_ok rfl rfl hr1 (List.getElem?_eq_getElem (by omega)) | exact .ldR tab_ok rfl rfl hr2 (List.getElem?_eq_getElem (by omega)) | exact ldB tab_ok rfl rfl hb1 (by omega) | exact ldB tab_ok rfl rfl hb2 (by omega)) | exact .sliceHI tab_ok rfl rfl rfl (toNatLit _) (by decide) (by omega) | exact .sliceLI tab_ok rfl rfl rfl (toNatLit _) (by decide) (by omega) | (apply PureAt.ldA tab_ok rfl rfl; (focus repeat first | exact .head _ | apply List.Mem.tail); rfl; rfl) | exact .ldro tab_ok rfl rfl (by assumption)); rfl) | refine VO.skip rfl rfl rfl rfl ?_ | refine VQ.skip rfl rfl rfl rfl ?_ | refine VD.skip rfl rfl rfl rfl rfl ?_ | refine VD.skipM rfl rfl Ent.refl rfl rfl rfl ?_ | ((first | refine VO.step rfl rfl ?_ | refine VD.end rfl rfl rfl ?_ | refine VD.mid rfl rfl rfl ?_); (first | (apply OpV.st tab_ok rfl rfl rfl rfl (by (repeat first | exact .head | apply Hole.tail); first | done | fail) (by first | (simp; done) | fail)) | (refine OpV.box rfl rfl rfl ?_; intro _))) | refine ⟨Ent.re, ?_⟩) | (first | refine VC.seq rfl ?_ | refine VC.region rfl ?_ | refine VC.condT rfl rfl ?_ | refine VC.condF rfl rfl ?_ | refine VC.block rfl ?_ | refine VC.skip rfl ?_ | refine VC.ret rfl ?_ | refine VC.exit rfl ?_ | refine VC.scope rfl ?_ | refine VC.label rfl ?_) | (first | refine VE.next ?_ | refine VE.passRet ?_ | refine VE.passExit ?_ | refine VE.blockNormal ?_ | refine VE.blockHit ?_ | refine VE.blockMiss rfl ?_ | refine VE.blockRet ?_ | refine VE.loopRet ?_ | refine VE.loopExit ?_ | refine VE.scopeNormal ?_ | refine VE.scopeRet ?_ | refine VE.scopeExit ?_))
      refine VO.re 98 (.int .i64 Z) rfl (by rw [hZ]) ?_
      (refine w ?_; repeat ((first | refine VO.step rfl rfl ?_ | refine VD.end rfl rfl rfl ?_ | refine VD.mid rfl rfl rfl ?_); refine OpV.box rfl rfl rfl ?_; intro _; refine w ?_))
      (first | refine VO.gF rfl rfl rfl (by simp [hZ]) ?_ | refine VD.gF rfl rfl rfl (by simp [hZ]) ?_)
      (refine w ?_; repeat ((first | refine VO.step rfl rfl ?_ | refine VD.end rfl rfl rfl ?_ | refine VD.mid rfl rfl rfl ?_); refine OpV.box rfl rfl rfl ?_; intro _; refine w ?_))
      (first | refine VO.pure rfl rfl (PureAt.ldR tab_ok rfl rfl hr2 hlg) rfl ?_ | refine VD.take rfl rfl rfl (PureAt.ldR tab_ok rfl rfl hr2 hlg) rfl ?_ | refine VQ.pure rfl rfl (PureAt.ldR tab_ok rfl rfl hr2 hlg) rfl ?_ | refine VD.end rfl rfl rfl (OpV.pure (PureAt.ldR tab_ok rfl rfl hr2 hlg) rfl ?_))
      (refine w ?_; repeat ((first | refine VO.step rfl rfl ?_ | refine VD.end rfl rfl rfl ?_ | refine VD.mid rfl rfl rfl ?_); refine OpV.box rfl rfl rfl ?_; intro _; refine w ?_))
      (first | refine VO.pure rfl rfl (PureAt.ldRc tab_ok rfl rfl hw' hk2) rfl ?_ | refine VD.take rfl rfl rfl (PureAt.ldRc tab_ok rfl rfl hw' hk2) rfl ?_ | refine VQ.pure rfl rfl (PureAt.ldRc tab_ok rfl rfl hw' hk2) rfl ?_ | refine VD.end rfl rfl rfl (OpV.pure (PureAt.ldRc tab_ok rfl rfl hw' hk2) rfl ?_))
      (first | (first | refine VO.nil rfl ?_ | refine VQ.nil rfl ?_ | refine VD.nil ?_ | ((first | apply VO.pure rfl rfl | apply VQ.pure rfl rfl | apply VD.take rfl rfl rfl | (refine VD.end rfl rfl rfl ?_; apply OpV.pure)); (first | (apply PureAt.ar64 rfl rfl rfl; omega) | exact .eval tab_ok rfl | (apply PureAt.ld tab_ok rfl rfl; (focus repeat first | exact .head _ | apply List.Mem.tail); rfl) | (apply PureAt.shr rfl rfl (by decide) (by decide)) | (apply PureAt.shr rfl rfl (by omega) (by simp only [IntKind.bits]; omega)) | exact .fieldAddrA tab_ok rfl rfl | exact .sliceLH tab_ok rfl rfl rfl rfl (by omega) (by omega) | exact .sliceH tab_ok rfl rfl rfl (by omega) | exact .sliceL tab_ok rfl rfl rfl (by omega) | (first | exact .indexAddr tab_ok rfl rfl rfl rfl (by omega) | exact .indexAddrN tab_ok rfl rfl rfl rfl (by omega) | exact .indexAddrI tab_ok rfl rfl rfl rfl (toNatLit _) (by decide) (by omega) | exact .indexAddrNI tab_ok rfl rfl rfl rfl (toNatLit _) (by decide) (by omega) | exact .ldR tab_ok rfl rfl hr1 (List.getElem?_eq_getElem (by omega)) | exact .ldR tab_ok rfl rfl hr2 (List.getElem?_eq_getElem (by omega)) | exact ldB tab_ok rfl rfl hb1 (by omega) | exact ldB tab_ok rfl rfl hb2 (by omega)) | exact .sliceHI tab_ok rfl rfl rfl (toNatLit _) (by decide) (by omega) | exact .sliceLI tab_ok rfl rfl rfl (toNatLit _) (by decide) (by omega) | (apply PureAt.ldA tab_ok rfl rfl; (focus repeat first | exact .head _ | apply List.Mem.tail); rfl; rfl) | exact .ldro tab_ok rfl rfl (by assumption)); rfl) | refine VO.skip rfl rfl rfl rfl ?_ | refine VQ.skip rfl rfl rfl rfl ?_ | refine VD.skip rfl rfl rfl rfl rfl ?_ | refine VD.skipM rfl rfl Ent.refl rfl rfl rfl ?_ | ((first | refine VO.step rfl rfl ?_ | refine VD.end rfl rfl rfl ?_ | refine VD.mid rfl rfl rfl ?_); (first | (apply OpV.st tab_ok rfl rfl rfl rfl (by (repeat first | exact .head | apply Hole.tail); first | done | fail) (by first | (simp; done) | fail)) | (refine OpV.box rfl rfl rfl ?_; intro _))) | refine ⟨Ent.re, ?_⟩) | (first | refine VC.seq rfl ?_ | refine VC.region rfl ?_ | refine VC.condT rfl rfl ?_ | refine VC.condF rfl rfl ?_ | refine VC.block rfl ?_ | refine VC.skip rfl ?_ | refine VC.ret rfl ?_ | refine VC.exit rfl ?_ | refine VC.scope rfl ?_ | refine VC.label rfl ?_) | (first | refine VE.next ?_ | refine VE.passRet ?_ | refine VE.passExit ?_ | refine VE.blockNormal ?_ | refine VE.blockHit ?_ | refine VE.blockMiss rfl ?_ | refine VE.blockRet ?_ | refine VE.loopRet ?_ | refine VE.loopExit ?_ | refine VE.scopeNormal ?_ | refine VE.scopeRet ?_ | refine VE.scopeExit ?_))
      (first | (first | refine VO.nil rfl ?_ | refine VQ.nil rfl ?_ | refine VD.nil ?_ | ((first | apply VO.pure rfl rfl | apply VQ.pure rfl rfl | apply VD.take rfl rfl rfl | (refine VD.end rfl rfl rfl ?_; apply OpV.pure)); (first | (apply PureAt.ar64 rfl rfl rfl; omega) | exact .eval tab_ok rfl | (apply PureAt.ld tab_ok rfl rfl; (focus repeat first | exact .head _ | apply List.Mem.tail); rfl) | (apply PureAt.shr rfl rfl (by decide) (by decide)) | (apply PureAt.shr rfl rfl (by omega) (by simp only [IntKind.bits]; omega)) | exact .fieldAddrA tab_ok rfl rfl | exact .sliceLH tab_ok rfl rfl rfl rfl (by omega) (by omega) | exact .sliceH tab_ok rfl rfl rfl (by omega) | exact .sliceL tab_ok rfl rfl rfl (by omega) | (first | exact .indexAddr tab_ok rfl rfl rfl rfl (by omega) | exact .indexAddrN tab_ok rfl rfl rfl rfl (by omega) | exact .indexAddrI tab_ok rfl rfl rfl rfl (toNatLit _) (by decide) (by omega) | exact .indexAddrNI tab_ok rfl rfl rfl rfl (toNatLit _) (by decide) (by omega) | exact .ldR tab_ok rfl rfl hr1 (List.getElem?_eq_getElem (by omega)) | exact .ldR tab_ok rfl rfl hr2 (List.getElem?_eq_getElem (by omega)) | exact ldB tab_ok rfl rfl hb1 (by omega) | exact ldB tab_ok rfl rfl hb2 (by omega)) | exact .sliceHI tab_ok rfl rfl rfl (toNatLit _) (by decide) (by omega) | exact .sliceLI tab_ok rfl rfl rfl (toNatLit _) (by decide) (by omega) | (apply PureAt.ldA tab_ok rfl rfl; (focus repeat first | exact .head _ | apply List.Mem.tail); rfl; rfl) | exact .ldro tab_ok rfl rfl (by assumption)); rfl) | refine VO.skip rfl rfl rfl rfl ?_ | refine VQ.skip rfl rfl rfl rfl ?_ | refine VD.skip rfl rfl rfl rfl rfl ?_ | refine VD.skipM rfl rfl Ent.refl rfl rfl rfl ?_ | ((first | refine VO.step rfl rfl ?_ | refine VD.end rfl rfl rfl ?_ | refine VD.mid rfl rfl rfl ?_); (first | (apply OpV.st tab_ok rfl rfl rfl rfl (by (repeat first | exact .head | apply Hole.tail); first | done | fail) (by first | (simp; done) | fail)) | (refine OpV.box rfl rfl rfl ?_; intro _))) | refine ⟨Ent.re, ?_⟩) | (first | refine VC.seq rfl ?_ | refine VC.region rfl ?_ | refine VC.condT rfl rfl ?_ | refine VC.condF rfl rfl ?_ | refine VC.block rfl ?_ | refine VC.skip rfl ?_ | refine VC.ret rfl ?_ | refine VC.exit rfl ?_ | refine VC.scope rfl ?_ | refine VC.label rfl ?_) | (first | refine VE.next ?_ | refine VE.passRet ?_ | refine VE.passExit ?_ | refine VE.blockNormal ?_ | refine VE.blockHit ?_ | refine VE.blockMiss rfl ?_ | refine VE.blockRet ?_ | refine VE.loopRet ?_ | refine VE.loopExit ?_ | refine VE.scopeNormal ?_ | refine VE.scopeRet ?_ | refine VE.scopeExit ?_))
      (first | (first | refine VO.nil rfl ?_ | refine VQ.nil rfl ?_ | refine VD.nil ?_ | ((first | apply VO.pure rfl rfl | apply VQ.pure rfl rfl | apply VD.take rfl rfl rfl | (refine VD.end rfl rfl rfl ?_; apply OpV.pure)); (first | (apply PureAt.ar64 rfl rfl rfl; omega) | exact .eval tab_ok rfl | (apply PureAt.ld tab_ok rfl rfl; (focus repeat first | exact .head _ | apply List.Mem.tail); rfl) | (apply PureAt.shr rfl rfl (by decide) (by decide)) | (apply PureAt.shr rfl rfl (by omega) (by simp only [IntKind.bits]; omega)) | exact .fieldAddrA tab_ok rfl rfl | exact .sliceLH tab_ok rfl rfl rfl rfl (by omega) (by omega) | exact .sliceH tab_ok rfl rfl rfl (by omega) | exact .sliceL tab_ok rfl rfl rfl (by omega) | (first | exact .indexAddr tab_ok rfl rfl rfl rfl (by omega) | exact .indexAddrN tab_ok rfl rfl rfl rfl (by omega) | exact .indexAddrI tab_ok rfl rfl rfl rfl (toNatLit _) (by decide) (by omega) | exact .indexAddrNI tab_ok rfl rfl rfl rfl (toNatLit _) (by decide) (by omega) | exact .ldR tab_ok rfl rfl hr1 (List.getElem?_eq_getElem (by omega)) | exact .ldR tab_ok rfl rfl hr2 (List.getElem?_eq_getElem (by omega)) | exact ldB tab_ok rfl rfl hb1 (by omega) | exact ldB tab_ok rfl rfl hb2 (by omega)) | exact .sliceHI tab_ok rfl rfl rfl (toNatLit _) (by decide) (by omega) | exact .sliceLI tab_ok rfl rfl rfl (toNatLit _) (by decide) (by omega) | (apply PureAt.ldA tab_ok rfl rfl; (focus repeat first | exact .head _ | apply List.Mem.tail); rfl; rfl) | exact .ldro tab_ok rfl rfl (by assumption)); rfl) | refine VO.skip rfl rfl rfl rfl ?_ | refine VQ.skip rfl rfl rfl rfl ?_ | refine VD.skip rfl rfl rfl rfl rfl ?_ | refine VD.skipM rfl rfl Ent.refl rfl rfl rfl ?_ | ((first | refine VO.step rfl rfl ?_ | refine VD.end rfl rfl rfl ?_ | refine VD.mid rfl rfl rfl ?_); (first | (apply OpV.st tab_ok rfl rfl rfl rfl (by (repeat first | exact .head | apply Hole.tail); first | done | fail) (by first | (simp; done) | fail)) | (refine OpV.box rfl rfl rfl ?_; intro _))) | refine ⟨Ent.re, ?_⟩) | (first | refine VC.seq rfl ?_ | refine VC.region rfl ?_ | refine VC.condT rfl rfl ?_ | refine VC.condF rfl rfl ?_ | refine VC.block rfl ?_ | refine VC.skip rfl ?_ | refine VC.ret rfl ?_ | refine VC.exit rfl ?_ | refine VC.scope rfl ?_ | refine VC.label rfl ?_) | (first | refine VE.next ?_ | refine VE.passRet ?_ | refine VE.passExit ?_ | refine VE.blockNormal ?_ | refine VE.blockHit ?_ | refine VE.blockMiss rfl ?_ | refine VE.blockRet ?_ | refine VE.loopRet ?_ | refine VE.loopExit ?_ | refine VE.scopeNormal ?_ | refine VE.scopeRet ?_ | refine VE.scopeExit ?_))
      (first | (first | refine VO.nil rfl ?_ | refine VQ.nil rfl ?_ | refine VD.nil ?_ | ((first | apply VO.pure rfl rfl | apply VQ.pure rfl rfl | apply VD.take rfl rfl rfl | (refine VD.end rfl rfl rfl ?_; apply OpV.pure)); (first | (apply PureAt.ar64 rfl rfl rfl; omega) | exact .eval tab_ok rfl | (apply PureAt.ld tab_ok rfl rfl; (focus repeat first | exact .head _ | apply List.Mem.tail); rfl) | (apply PureAt.shr rfl rfl (by decide) (by decide)) | (apply PureAt.shr rfl rfl (by omega) (by simp only [IntKind.bits]; omega)) | exact .fieldAddrA tab_ok rfl rfl | exact .sliceLH tab_ok rfl rfl rfl rfl (by omega) (by omega) | exact .sliceH tab_ok rfl rfl rfl (by omega) | exact .sliceL tab_ok rfl rfl rfl (by omega) | (first | exact .indexAddr tab_ok rfl rfl rfl rfl (by omega) | exact .indexAddrN tab_ok rfl rfl rfl rfl (by omega) | exact .indexAddrI tab_ok rfl rfl rfl rfl (toNatLit _) (by decide) (by omega) | exact .indexAddrNI tab_ok rfl rfl rfl rfl (toNatLit _) (by decide) (by omega) | exact .ldR tab_ok rfl rfl hr1 (List.getElem?_eq_getElem (by omega)) | exact .ldR tab_ok rfl rfl hr2 (List.getElem?_eq_getElem (by omega)) | exact ldB tab_ok rfl rfl hb1 (by omega) | exact ldB tab_ok rfl rfl hb2 (by omega)) | exact .sliceHI tab_ok rfl rfl rfl (toNatLit _) (by decide) (by omega) | exact .sliceLI tab_ok rfl rfl rfl (toNatLit _) (by decide) (by omega) | (apply PureAt.ldA tab_ok rfl rfl; (focus repeat first | exact .head _ | apply List.Mem.tail); rfl; rfl) | exact .ldro tab_ok rfl rfl (by assumption)); rfl) | refine VO.skip rfl rfl rfl rfl ?_ | refine VQ.skip rfl rfl rfl rfl ?_ | refine VD.skip rfl rfl rfl rfl rfl ?_ | refine VD.skipM rfl rfl Ent.refl rfl rfl rfl ?_ | ((first | refine VO.step rfl rfl ?_ | refine VD.end rfl rfl rfl ?_ | refine VD.mid rfl rfl rfl ?_); (first | (apply OpV.st tab_ok rfl rfl rfl rfl (by (repeat first | exact .head | apply Hole.tail); first | done | fail) (by first | (simp; done) | fail)) | (refine OpV.box rfl rfl rfl ?_; intro _))) | refine ⟨Ent.re, ?_⟩) | (first | refine VC.seq rfl ?_ | refine VC.region rfl ?_ | refine VC.condT rfl rfl ?_ | refine VC.condF rfl rfl ?_ | refine VC.block rfl ?_ | refine VC.skip rfl ?_ | refine VC.ret rfl ?_ | refine VC.exit rfl ?_ | refine VC.scope rfl ?_ | refine VC.label rfl ?_) | (first | refine VE.next ?_ | refine VE.passRet ?_ | refine VE.passExit ?_ | refine VE.blockNormal ?_ | refine VE.blockHit ?_ | refine VE.blockMiss rfl ?_ | refine VE.blockRet ?_ | refine VE.loopRet ?_ | refine VE.loopExit ?_ | refine VE.scopeNormal ?_ | refine VE.scopeRet ?_ | refine VE.scopeExit ?_))
      (first | (first | refine VO.nil rfl ?_ | refine VQ.nil rfl ?_ | refine VD.nil ?_ | ((first | apply VO.pure rfl rfl | apply VQ.pure rfl rfl | apply VD.take rfl rfl rfl | (refine VD.end rfl rfl rfl ?_; apply OpV.pure)); (first | (apply PureAt.ar64 rfl rfl rfl; omega) | exact .eval tab_ok rfl | (apply PureAt.ld tab_ok rfl rfl; (focus repeat first | exact .head _ | apply List.Mem.tail); rfl) | (apply PureAt.shr rfl rfl (by decide) (by decide)) | (apply PureAt.shr rfl rfl (by omega) (by simp only [IntKind.bits]; omega)) | exact .fieldAddrA tab_ok rfl rfl | exact .sliceLH tab_ok rfl rfl rfl rfl (by omega) (by omega) | exact .sliceH tab_ok rfl rfl rfl (by omega) | exact .sliceL tab_ok rfl rfl rfl (by omega) | (first | exact .indexAddr tab_ok rfl rfl rfl rfl (by omega) | exact .indexAddrN tab_ok rfl rfl rfl rfl (by omega) | exact .indexAddrI tab_ok rfl rfl rfl rfl (toNatLit _) (by decide) (by omega) | exact .indexAddrNI tab_ok rfl rfl rfl rfl (toNatLit _) (by decide) (by omega) | exact .ldR tab_ok rfl rfl hr1 (List.getElem?_eq_getElem (by omega)) | exact .ldR tab_ok rfl rfl hr2 (List.getElem?_eq_getElem (by omega)) | exact ldB tab_ok rfl rfl hb1 (by omega) | exact ldB tab_ok rfl rfl hb2 (by omega)) | exact .sliceHI tab_ok rfl rfl rfl (toNatLit _) (by decide) (by omega) | exact .sliceLI tab_ok rfl rfl rfl (toNatLit _) (by decide) (by omega) | (apply PureAt.ldA tab_ok rfl rfl; (focus repeat first | exact .head _ | apply List.Mem.tail); rfl; rfl) | exact .ldro tab_ok rfl rfl (by assumption)); rfl) | refine VO.skip rfl rfl rfl rfl ?_ | refine VQ.skip rfl rfl rfl rfl ?_ | refine VD.skip rfl rfl rfl rfl rfl ?_ | refine VD.skipM rfl rfl Ent.refl rfl rfl rfl ?_ | ((first | refine VO.step rfl rfl ?_ | refine VD.end rfl rfl rfl ?_ | refine VD.mid rfl rfl rfl ?_); (first | (apply OpV.st tab_ok rfl rfl rfl rfl (by (repeat first | exact .head | apply Hole.tail); first | done | fail) (by first | (simp; done) | fail)) | (refine OpV.box rfl rfl rfl ?_; intro _))) | refine ⟨Ent.re, ?_⟩) | (first | refine VC.seq rfl ?_ | refine VC.region rfl ?_ | refine VC.condT rfl rfl ?_ | refine VC.condF rfl rfl ?_ | refine VC.block rfl ?_ | refine VC.skip rfl ?_ | refine VC.ret rfl ?_ | refine VC.exit rfl ?_ | refine VC.scope rfl ?_ | refine VC.label rfl ?_) | (first | refine VE.next ?_ | refine VE.passRet ?_ | refine VE.passExit ?_ | refine VE.blockNormal ?_ | refine VE.blockHit ?_ | refine VE.blockMiss rfl ?_ | refine VE.blockRet ?_ | refine VE.loopRet ?_ | refine VE.loopExit ?_ | refine VE.scopeNormal ?_ | refine VE.scopeRet ?_ | refine VE.scopeExit ?_))
      refine VO.re 114 (.int .i64 Z) rfl (by rw [hZ]) ?_
      (refine w ?_; repeat ((first | refine VO.step rfl rfl ?_ | refine VD.end rfl rfl rfl ?_ | refine VD.mid rfl rfl rfl ?_); refine OpV.box rfl rfl rfl ?_; intro _; refine w ?_))
      (refine VC.condFe rfl rfl (by simp [hZ]) ?_)
      (refine w ?_; repeat ((first | refine VO.step rfl rfl ?_ | refine VD.end rfl rfl rfl ?_ | refine VD.mid rfl rfl rfl ?_); refine OpV.box rfl rfl rfl ?_; intro _; refine w ?_))
      exact VE.round (k + 1) hkt (by omega) ⟨rfl, rfl, rfl, rfl, rfl, trivial⟩ Ent.refl
    · (refine w ?_; repeat ((first | refine VO.step rfl rfl ?_ | refine VD.end rfl rfl rfl ?_ | refine VD.mid rfl rfl rfl ?_); refine OpV.box rfl rfl rfl ?_; intro _; refine w ?_))
      refine VC.loop (α := Nat) (fun k => k ≤ 16) (fun _ => HH)
        (fun k => [(0, .slice (some lb) M.length lc), (5, .slice (some gb) Gs.length gc), (9, .int .i64 a), (10, .int .i64 e.n), (12, .int .i64 k)]) (fun k => 16 - k) rfl 0 (Nat.zero_le _) Ent.refl ⟨rfl, rfl, rfl, rfl, rfl, trivial⟩ ?_
      intro k hk
      (refine w ?_; repeat ((first | refine VO.step rfl rfl ?_ | refine VD.end rfl rfl rfl ?_ | refine VD.mid rfl rfl rfl ?_); refine OpV.box rfl rfl rfl ?_; intro _; refine w ?_))
      (refine VC.cond rfl rfl ?_ ?_ <;> intro hc)
      · have hkt : k < 16 := by have := of_decide_eq_true hc; omega
        have hk2 : (e.xs ++ marks2 a 16)[(e.n + k) * 2 + 0]? = some (val ((-1 - (a : Int)) * 1000 + (k : Int) + 7000000)) := by
          rw [List.getElem?_append_right (by omega), hel, show (e.n + k) * 2 + 0 - e.n * 2 = k * 2 + 0 by omega]; exact marks2_get a 16 k hkt
        (refine w ?_; repeat ((first | refine VO.step rfl rfl ?_ | refine VD.end rfl rfl rfl ?_ | refine VD.mid rfl rfl rfl ?_); refine OpV.box rfl rfl rfl ?_; intro _; refine w ?_))
        (first | refine VO.pure rfl rfl (PureAt.ldR tab_ok rfl rfl hr2 hlg) rfl ?_ | refine VD.take rfl rfl rfl (PureAt.ldR tab_ok rfl rfl hr2 hlg) rfl ?_ | refine VQ.pure rfl rfl (PureAt.ldR tab_ok rfl rfl hr2 hlg) rfl ?_ | refine VD.end rfl rfl rfl (OpV.pure (PureAt.ldR tab_ok rfl rfl hr2 hlg) rfl ?_))
        (first | (first | refine VO.nil rfl ?_ | refine VQ.nil rfl ?_ | refine VD.nil ?_ | ((first | apply VO.pure rfl rfl | apply VQ.pure rfl rfl | apply VD.take rfl rfl rfl | (refine VD.end rfl rfl rfl ?_; apply OpV.pure)); (first | (apply PureAt.ar64 rfl rfl rfl; omega) | exact .eval tab_ok rfl | (apply PureAt.ld tab_ok rfl rfl; (focus repeat first | exact .head _ | apply List.Mem.tail); rfl) | (apply PureAt.shr rfl rfl (by decide) (by decide)) | (apply PureAt.shr rfl rfl (by omega) (by simp only [IntKind.bits]; omega)) | exact .fieldAddrA tab_ok rfl rfl | exact .sliceLH tab_ok rfl rfl rfl rfl (by omega) (by omega) | exact .sliceH tab_ok rfl rfl rfl (by omega) | exact .sliceL tab_ok rfl rfl rfl (by omega) | (first | exact .indexAddr tab_ok rfl rfl rfl rfl (by omega) | exact .indexAddrN tab_ok rfl rfl rfl rfl (by omega) | exact .indexAddrI tab_ok rfl rfl rfl rfl (toNatLit _) (by decide) (by omega) | exact .indexAddrNI tab_ok rfl rfl rfl rfl (toNatLit _) (by decide) (by omega) | exact .ldR tab_ok rfl rfl hr1 (List.getElem?_eq_getElem (by omega)) | exact .ldR tab_ok rfl rfl hr2 (List.getElem?_eq_getElem (by omega)) | exact ldB tab_ok rfl rfl hb1 (by omega) | exact ldB tab_ok rfl rfl hb2 (by omega)) | exact .sliceHI tab_ok rfl rfl rfl (toNatLit _) (by decide) (by omega) | exact .sliceLI tab_ok rfl rfl rfl (toNatLit _) (by decide) (by omega) | (apply PureAt.ldA tab_ok rfl rfl; (focus repeat first | exact .head _ | apply List.Mem.tail); rfl; rfl) | exact .ldro tab_ok rfl rfl (by assumption)); rfl) | refine VO.skip rfl rfl rfl rfl ?_ | refine VQ.skip rfl rfl rfl rfl ?_ | refine VD.skip rfl rfl rfl rfl rfl ?_ | refine VD.skipM rfl rfl Ent.refl rfl rfl rfl ?_ | ((first | refine VO.step rfl rfl ?_ | refine VD.end rfl rfl rfl ?_ | refine VD.mid rfl rfl rfl ?_); (first | (apply OpV.st tab_ok rfl rfl rfl rfl (by (repeat first | exact .head | apply Hole.tail); first | done | fail) (by first | (simp; done) | fail)) | (refine OpV.box rfl rfl rfl ?_; intro _))) | refine ⟨Ent.re, ?_⟩) | (first | refine VC.seq rfl ?_ | refine VC.region rfl ?_ | refine VC.condT rfl rfl ?_ | refine VC.condF rfl rfl ?_ | refine VC.block rfl ?_ | refine VC.skip rfl ?_ | refine VC.ret rfl ?_ | refine VC.exit rfl ?_ | refine VC.scope rfl ?_ | refine VC.label rfl ?_) | (first | refine VE.next ?_ | refine VE.passRet ?_ | refine VE.passExit ?_ | refine VE.blockNormal ?_ | refine VE.blockHit ?_ | refine VE.blockMiss rfl ?_ | refine VE.blockRet ?_ | refine VE.loopRet ?_ | refine VE.loopExit ?_ | refine VE.scopeNormal ?_ | refine VE.scopeRet ?_ | refine VE.scopeExit ?_))
        (first | (first | refine VO.nil rfl ?_ | refine VQ.nil rfl ?_ | refine VD.nil ?_ | ((first | apply VO.pure rfl rfl | apply VQ.pure rfl rfl | apply VD.take rfl rfl rfl | (refine VD.end rfl rfl rfl ?_; apply OpV.pure)); (first | (apply PureAt.ar64 rfl rfl rfl; omega) | exact .eval tab_ok rfl | (apply PureAt.ld tab_ok rfl rfl; (focus repeat first | exact .head _ | apply List.Mem.tail); rfl) | (apply PureAt.shr rfl rfl (by decide) (by decide)) | (apply PureAt.shr rfl rfl (by omega) (by simp only [IntKind.bits]; omega)) | exact .fieldAddrA tab_ok rfl rfl | exact .sliceLH tab_ok rfl rfl rfl rfl (by omega) (by omega) | exact .sliceH tab_ok rfl rfl rfl (by omega) | exact .sliceL tab_ok rfl rfl rfl (by omega) | (first | exact .indexAddr tab_ok rfl rfl rfl rfl (by omega) | exact .indexAddrN tab_ok rfl rfl rfl rfl (by omega) | exact .indexAddrI tab_ok rfl rfl rfl rfl (toNatLit _) (by decide) (by omega) | exact .indexAddrNI tab_ok rfl rfl rfl rfl (toNatLit _) (by decide) (by omega) | exact .ldR tab_ok rfl rfl hr1 (List.getElem?_eq_getElem (by omega)) | exact .ldR tab_ok rfl rfl hr2 (List.getElem?_eq_getElem (by omega)) | exact ldB tab_ok rfl rfl hb1 (by omega) | exact ldB tab_ok rfl rfl hb2 (by omega)) | exact .sliceHI tab_ok rfl rfl rfl (toNatLit _) (by decide) (by omega) | exact .sliceLI tab_ok rfl rfl rfl (toNatLit _) (by decide) (by omega) | (apply PureAt.ldA tab_ok rfl rfl; (focus repeat first | exact .head _ | apply List.Mem.tail); rfl; rfl) | exact .ldro tab_ok rfl rfl (by assumption)); rfl) | refine VO.skip rfl rfl rfl rfl ?_ | refine VQ.skip rfl rfl rfl rfl ?_ | refine VD.skip rfl rfl rfl rfl rfl ?_ | refine VD.skipM rfl rfl Ent.refl rfl rfl rfl ?_ | ((first | refine VO.step rfl rfl ?_ | refine VD.end rfl rfl rfl ?_ | refine VD.mid rfl rfl rfl ?_); (first | (apply OpV.st tab_ok rfl rfl rfl rfl (by (repeat first | exact .head | apply Hole.tail); first | done | fail) (by first | (simp; done) | fail)) | (refine OpV.box rfl rfl rfl ?_; intro _))) | refine ⟨Ent.re, ?_⟩) | (first | refine VC.seq rfl ?_ | refine VC.region rfl ?_ | refine VC.condT rfl rfl ?_ | refine VC.condF rfl rfl ?_ | refine VC.block rfl ?_ | refine VC.skip rfl ?_ | refine VC.ret rfl ?_ | refine VC.exit rfl ?_ | refine VC.scope rfl ?_ | refine VC.label rfl ?_) | (first | refine VE.next ?_ | refine VE.passRet ?_ | refine VE.passExit ?_ | refine VE.blockNormal ?_ | refine VE.blockHit ?_ | refine VE.blockMiss rfl ?_ | refine VE.blockRet ?_ | refine VE.loopRet ?_ | refine VE.loopExit ?_ | refine VE.scopeNormal ?_ | refine VE.scopeRet ?_ | refine VE.scopeExit ?_))
        (first | (first | refine VO.nil rfl ?_ | refine VQ.nil rfl ?_ | refine VD.nil ?_ | ((first | apply VO.pure rfl rfl | apply VQ.pure rfl rfl | apply VD.take rfl rfl rfl | (refine VD.end rfl rfl rfl ?_; apply OpV.pure)); (first | (apply PureAt.ar64 rfl rfl rfl; omega) | exact .eval tab_ok rfl | (apply PureAt.ld tab_ok rfl rfl; (focus repeat first | exact .head _ | apply List.Mem.tail); rfl) | (apply PureAt.shr rfl rfl (by decide) (by decide)) | (apply PureAt.shr rfl rfl (by omega) (by simp only [IntKind.bits]; omega)) | exact .fieldAddrA tab_ok rfl rfl | exact .sliceLH tab_ok rfl rfl rfl rfl (by omega) (by omega) | exact .sliceH tab_ok rfl rfl rfl (by omega) | exact .sliceL tab_ok rfl rfl rfl (by omega) | (first | exact .indexAddr tab_ok rfl rfl rfl rfl (by omega) | exact .indexAddrN tab_ok rfl rfl rfl rfl (by omega) | exact .indexAddrI tab_ok rfl rfl rfl rfl (toNatLit _) (by decide) (by omega) | exact .indexAddrNI tab_ok rfl rfl rfl rfl (toNatLit _) (by decide) (by omega) | exact .ldR tab_ok rfl rfl hr1 (List.getElem?_eq_getElem (by omega)) | exact .ldR tab_ok rfl rfl hr2 (List.getElem?_eq_getElem (by omega)) | exact ldB tab_ok rfl rfl hb1 (by omega) | exact ldB tab_ok rfl rfl hb2 (by omega)) | exact .sliceHI tab_ok rfl rfl rfl (toNatLit _) (by decide) (by omega) | exact .sliceLI tab_ok rfl rfl rfl (toNatLit _) (by decide) (by omega) | (apply PureAt.ldA tab_ok rfl rfl; (focus repeat first | exact .head _ | apply List.Mem.tail); rfl; rfl) | exact .ldro tab_ok rfl rfl (by assumption)); rfl) | refine VO.skip rfl rfl rfl rfl ?_ | refine VQ.skip rfl rfl rfl rfl ?_ | refine VD.skip rfl rfl rfl rfl rfl ?_ | refine VD.skipM rfl rfl Ent.refl rfl rfl rfl ?_ | ((first | refine VO.step rfl rfl ?_ | refine VD.end rfl rfl rfl ?_ | refine VD.mid rfl rfl rfl ?_); (first | (apply OpV.st tab_ok rfl rfl rfl rfl (by (repeat first | exact .head | apply Hole.tail); first | done | fail) (by first | (simp; done) | fail)) | (refine OpV.box rfl rfl rfl ?_; intro _))) | refine ⟨Ent.re, ?_⟩) | (first | refine VC.seq rfl ?_ | refine VC.region rfl ?_ | refine VC.condT rfl rfl ?_ | refine VC.condF rfl rfl ?_ | refine VC.block rfl ?_ | refine VC.skip rfl ?_ | refine VC.ret rfl ?_ | refine VC.exit rfl ?_ | refine VC.scope rfl ?_ | refine VC.label rfl ?_) | (first | refine VE.next ?_ | refine VE.passRet ?_ | refine VE.passExit ?_ | refine VE.blockNormal ?_ | refine VE.blockHit ?_ | refine VE.blockMiss rfl ?_ | refine VE.blockRet ?_ | refine VE.loopRet ?_ | refine VE.loopExit ?_ | refine VE.scopeNormal ?_ | refine VE.scopeRet ?_ | refine VE.scopeExit ?_))
        refine VO.re 128 (.int .i64 ((e.n + k : Nat) : Int)) rfl (by congr 1) ?_
        (refine w ?_; repeat ((first | refine VO.step rfl rfl ?_ | refine VD.end rfl rfl rfl ?_ | refine VD.mid rfl rfl rfl ?_); refine OpV.box rfl rfl rfl ?_; intro _; refine w ?_))
        (first | refine VO.pure rfl rfl (PureAt.ldRc tab_ok rfl rfl hw' hk2) rfl ?_ | refine VD.take rfl rfl rfl (PureAt.ldRc tab_ok rfl rfl hw' hk2) rfl ?_ | refine VQ.pure rfl rfl (PureAt.ldRc tab_ok rfl rfl hw' hk2) rfl ?_ | refine VD.end rfl rfl rfl (OpV.pure (PureAt.ldRc tab_ok rfl rfl hw' hk2) rfl ?_))
        obtain ⟨Z, hZ⟩ : ∃ Z, Z = (-1 - (a : Int)) * 1000 + (k : Int) + 7000000 := ⟨_, rfl⟩
        (first | (first | refine VO.nil rfl ?_ | refine VQ.nil rfl ?_ | refine VD.nil ?_ | ((first | apply VO.pure rfl rfl | apply VQ.pure rfl rfl | apply VD.take rfl rfl rfl | (refine VD.end rfl rfl rfl ?_; apply OpV.pure)); (first | (apply PureAt.ar64 rfl rfl rfl; omega) | exact .eval tab_ok rfl | (apply PureAt.ld tab_ok rfl rfl; (focus repeat first | exact .head _ | apply List.Mem.tail); rfl) | (apply PureAt.shr rfl rfl (by decide) (by decide)) | (apply PureAt.shr rfl rfl (by omega) (by simp only [IntKind.bits]; omega)) | exact .fieldAddrA tab_ok rfl rfl | exact .sliceLH tab_ok rfl rfl rfl rfl (by omega) (by omega) | exact .sliceH tab_ok rfl rfl rfl (by omega) | exact .sliceL tab_ok rfl rfl rfl (by omega) | (first | exact .indexAddr tab_ok rfl rfl rfl rfl (by omega) | exact .indexAddrN tab_ok rfl rfl rfl rfl (by omega) | exact .indexAddrI tab_ok rfl rfl rfl rfl (toNatLit _) (by decide) (by omega) | exact .indexAddrNI tab_ok rfl rfl rfl rfl (toNatLit _) (by decide) (by omega) | exact .ldR tab_ok rfl rfl hr1 (List.getElem?_eq_getElem (by omega)) | exact .ldR tab_ok rfl rfl hr2 (List.getElem?_eq_getElem (by omega)) | exact ldB tab_ok rfl rfl hb1 (by omega) | exact ldB tab_ok rfl rfl hb2 (by omega)) | exact .sliceHI tab_ok rfl rfl rfl (toNatLit _) (by decide) (by omega) | exact .sliceLI tab_ok rfl rfl rfl (toNatLit _) (by decide) (by omega) | (apply PureAt.ldA tab_ok rfl rfl; (focus repeat first | exact .head _ | apply List.Mem.tail); rfl; rfl) | exact .ldro tab_ok rfl rfl (by assumption)); rfl) | refine VO.skip rfl rfl rfl rfl ?_ | refine VQ.skip rfl rfl rfl rfl ?_ | refine VD.skip rfl rfl rfl rfl rfl ?_ | refine VD.skipM rfl rfl Ent.refl rfl rfl rfl ?_ | ((first | refine VO.step rfl rfl ?_ | refine VD.end rfl rfl rfl ?_ | refine VD.mid rfl rfl rfl ?_); (first | (apply OpV.st tab_ok rfl rfl rfl rfl (by (repeat first | exact .head | apply Hole.tail); first | done | fail) (by first | (simp; done) | fail)) | (refine OpV.box rfl rfl rfl ?_; intro _))) | refine ⟨Ent.re, ?_⟩) | (first | refine VC.seq rfl ?_ | refine VC.region rfl ?_ | refine VC.condT rfl rfl ?_ | refine VC.condF rfl rfl ?_ | refine VC.block rfl ?_ | refine VC.skip rfl ?_ | refine VC.ret rfl ?_ | refine VC.exit rfl ?_ | refine VC.scope rfl ?_ | refine VC.label rfl ?_) | (first | refine VE.next ?_ | refine VE.passRet ?_ | refine VE.passExit ?_ | refine VE.blockNormal ?_ | refine VE.blockHit ?_ | refine VE.blockMiss rfl ?_ | refine VE.blockRet ?_ | refine VE.loopRet ?_ | refine VE.loopExit ?_ | refine VE.scopeNormal ?_ | refine VE.scopeRet ?_ | refine VE.scopeExit ?_))
        (first | (first | refine VO.nil rfl ?_ | refine VQ.nil rfl ?_ | refine VD.nil ?_ | ((first | apply VO.pure rfl rfl | apply VQ.pure rfl rfl | apply VD.take rfl rfl rfl | (refine VD.end rfl rfl rfl ?_; apply OpV.pure)); (first | (apply PureAt.ar64 rfl rfl rfl; omega) | exact .eval tab_ok rfl | (apply PureAt.ld tab_ok rfl rfl; (focus repeat first | exact .head _ | apply List.Mem.tail); rfl) | (apply PureAt.shr rfl rfl (by decide) (by decide)) | (apply PureAt.shr rfl rfl (by omega) (by simp only [IntKind.bits]; omega)) | exact .fieldAddrA tab_ok rfl rfl | exact .sliceLH tab_ok rfl rfl rfl rfl (by omega) (by omega) | exact .sliceH tab_ok rfl rfl rfl (by omega) | exact .sliceL tab_ok rfl rfl rfl (by omega) | (first | exact .indexAddr tab_ok rfl rfl rfl rfl (by omega) | exact .indexAddrN tab_ok rfl rfl rfl rfl (by omega) | exact .indexAddrI tab_ok rfl rfl rfl rfl (toNatLit _) (by decide) (by omega) | exact .indexAddrNI tab_ok rfl rfl rfl rfl (toNatLit _) (by decide) (by omega) | exact .ldR tab_ok rfl rfl hr1 (List.getElem?_eq_getElem (by omega)) | exact .ldR tab_ok rfl rfl hr2 (List.getElem?_eq_getElem (by omega)) | exact ldB tab_ok rfl rfl hb1 (by omega) | exact ldB tab_ok rfl rfl hb2 (by omega)) | exact .sliceHI tab_ok rfl rfl rfl (toNatLit _) (by decide) (by omega) | exact .sliceLI tab_ok rfl rfl rfl (toNatLit _) (by decide) (by omega) | (apply PureAt.ldA tab_ok rfl rfl; (focus repeat first | exact .head _ | apply List.Mem.tail); rfl; rfl) | exact .ldro tab_ok rfl rfl (by assumption)); rfl) | refine VO.skip rfl rfl rfl rfl ?_ | refine VQ.skip rfl rfl rfl rfl ?_ | refine VD.skip rfl rfl rfl rfl rfl ?_ | refine VD.skipM rfl rfl Ent.refl rfl rfl rfl ?_ | ((first | refine VO.step rfl rfl ?_ | refine VD.end rfl rfl rfl ?_ | refine VD.mid rfl rfl rfl ?_); (first | (apply OpV.st tab_ok rfl rfl rfl rfl (by (repeat first | exact .head | apply Hole.tail); first | done | fail) (by first | (simp; done) | fail)) | (refine OpV.box rfl rfl rfl ?_; intro _))) | refine ⟨Ent.re, ?_⟩) | (first | refine VC.seq rfl ?_ | refine VC.region rfl ?_ | refine VC.condT rfl rfl ?_ | refine VC.condF rfl rfl ?_ | refine VC.block rfl ?_ | refine VC.skip rfl ?_ | refine VC.ret rfl ?_ | refine VC.exit rfl ?_ | refine VC.scope rfl ?_ | refine VC.label rfl ?_) | (first | refine VE.next ?_ | refine VE.passRet ?_ | refine VE.passExit ?_ | refine VE.blockNormal ?_ | refine VE.blockHit ?_ | refine VE.blockMiss rfl ?_ | refine VE.blockRet ?_ | refine VE.loopRet ?_ | refine VE.loopExit ?_ | refine VE.scopeNormal ?_ | refine VE.scopeRet ?_ | refine VE.scopeExit ?_))
        (first | (first | refine VO.nil rfl ?_ | refine VQ.nil rfl ?_ | refine VD.nil ?_ | ((first | apply VO.pure rfl rfl | apply VQ.pure rfl rfl | apply VD.take rfl rfl rfl | (refine VD.end rfl rfl rfl ?_; apply OpV.pure)); (first | (apply PureAt.ar64 rfl rfl rfl; omega) | exact .eval tab_ok rfl | (apply PureAt.ld tab_ok rfl rfl; (focus repeat first | exact .head _ | apply List.Mem.tail); rfl) | (apply PureAt.shr rfl rfl (by decide) (by decide)) | (apply PureAt.shr rfl rfl (by omega) (by simp only [IntKind.bits]; omega)) | exact .fieldAddrA tab_ok rfl rfl | exact .sliceLH tab_ok rfl rfl rfl rfl (by omega) (by omega) | exact .sliceH tab_ok rfl rfl rfl (by omega) | exact .sliceL tab_ok rfl rfl rfl (by omega) | (first | exact .indexAddr tab_ok rfl rfl rfl rfl (by omega) | exact .indexAddrN tab_ok rfl rfl rfl rfl (by omega) | exact .indexAddrI tab_ok rfl rfl rfl rfl (toNatLit _) (by decide) (by omega) | exact .indexAddrNI tab_ok rfl rfl rfl rfl (toNatLit _) (by decide) (by omega) | exact .ldR tab_ok rfl rfl hr1 (List.getElem?_eq_getElem (by omega)) | exact .ldR tab_ok rfl rfl hr2 (List.getElem?_eq_getElem (by omega)) | exact ldB tab_ok rfl rfl hb1 (by omega) | exact ldB tab_ok rfl rfl hb2 (by omega)) | exact .sliceHI tab_ok rfl rfl rfl (toNatLit _) (by decide) (by omega) | exact .sliceLI tab_ok rfl rfl rfl (toNatLit _) (by decide) (by omega) | (apply PureAt.ldA tab_ok rfl rfl; (focus repeat first | exact .head _ | apply List.Mem.tail); rfl; rfl) | exact .ldro tab_ok rfl rfl (by assumption)); rfl) | refine VO.skip rfl rfl rfl rfl ?_ | refine VQ.skip rfl rfl rfl rfl ?_ | refine VD.skip rfl rfl rfl rfl rfl ?_ | refine VD.skipM rfl rfl Ent.refl rfl rfl rfl ?_ | ((first | refine VO.step rfl rfl ?_ | refine VD.end rfl rfl rfl ?_ | refine VD.mid rfl rfl rfl ?_); (first | (apply OpV.st tab_ok rfl rfl rfl rfl (by (repeat first | exact .head | apply Hole.tail); first | done | fail) (by first | (simp; done) | fail)) | (refine OpV.box rfl rfl rfl ?_; intro _))) | refine ⟨Ent.re, ?_⟩) | (first | refine VC.seq rfl ?_ | refine VC.region rfl ?_ | refine VC.condT rfl rfl ?_ | refine VC.condF rfl rfl ?_ | refine VC.block rfl ?_ | refine VC.skip rfl ?_ | refine VC.ret rfl ?_ | refine VC.exit rfl ?_ | refine VC.scope rfl ?_ | refine VC.label rfl ?_) | (first | refine VE.next ?_ | refine VE.passRet ?_ | refine VE.passExit ?_ | refine VE.blockNormal ?_ | refine VE.blockHit ?_ | refine VE.blockMiss rfl ?_ | refine VE.blockRet ?_ | refine VE.loopRet ?_ | refine VE.loopExit ?_ | refine VE.scopeNormal ?_ | refine VE.scopeRet ?_ | refine VE.scopeExit ?_))
        (first | (first | refine VO.nil rfl ?_ | refine VQ.nil rfl ?_ | refine VD.nil ?_ | ((first | apply VO.pure rfl rfl | apply VQ.pure rfl rfl | apply VD.take rfl rfl rfl | (refine VD.end rfl rfl rfl ?_; apply OpV.pure)); (first | (apply PureAt.ar64 rfl rfl rfl; omega) | exact .eval tab_ok rfl | (apply PureAt.ld tab_ok rfl rfl; (focus repeat first | exact .head _ | apply List.Mem.tail); rfl) | (apply PureAt.shr rfl rfl (by decide) (by decide)) | (apply PureAt.shr rfl rfl (by omega) (by simp only [IntKind.bits]; omega)) | exact .fieldAddrA tab_ok rfl rfl | exact .sliceLH tab_ok rfl rfl rfl rfl (by omega) (by omega) | exact .sliceH tab_ok rfl rfl rfl (by omega) | exact .sliceL tab_ok rfl rfl rfl (by omega) | (first | exact .indexAddr tab_ok rfl rfl rfl rfl (by omega) | exact .indexAddrN tab_ok rfl rfl rfl rfl (by omega) | exact .indexAddrI tab_ok rfl rfl rfl rfl (toNatLit _) (by decide) (by omega) | exact .indexAddrNI tab_ok rfl rfl rfl rfl (toNatLit _) (by decide) (by omega) | exact .ldR tab_ok rfl rfl hr1 (List.getElem?_eq_getElem (by omega)) | exact .ldR tab_ok rfl rfl hr2 (List.getElem?_eq_getElem (by omega)) | exact ldB tab_ok rfl rfl hb1 (by omega) | exact ldB tab_ok rfl rfl hb2 (by omega)) | exact .sliceHI tab_ok rfl rfl rfl (toNatLit _) (by decide) (by omega) | exact .sliceLI tab_ok rfl rfl rfl (toNatLit _) (by decide) (by omega) | (apply PureAt.ldA tab_ok rfl rfl; (focus repeat first | exact .head _ | apply List.Mem.tail); rfl; rfl) | exact .ldro tab_ok rfl rfl (by assumption)); rfl) | refine VO.skip rfl rfl rfl rfl ?_ | refine VQ.skip rfl rfl rfl rfl ?_ | refine VD.skip rfl rfl rfl rfl rfl ?_ | refine VD.skipM rfl rfl Ent.refl rfl rfl rfl ?_ | ((first | refine VO.step rfl rfl ?_ | refine VD.end rfl rfl rfl ?_ | refine VD.mid rfl rfl rfl ?_); (first | (apply OpV.st tab_ok rfl rfl rfl rfl (by (repeat first | exact .head | apply Hole.tail); first | done | fail) (by first | (simp; done) | fail)) | (refine OpV.box rfl rfl rfl ?_; intro _))) | refine ⟨Ent.re, ?_⟩) | (first | refine VC.seq rfl ?_ | refine VC.region rfl ?_ | refine VC.condT rfl rfl ?_ | refine VC.condF rfl rfl ?_ | refine VC.block rfl ?_ | refine VC.skip rfl ?_ | refine VC.ret rfl ?_ | refine VC.exit rfl ?_ | refine VC.scope rfl ?_ | refine VC.label rfl ?_) | (first | refine VE.next ?_ | refine VE.passRet ?_ | refine VE.passExit ?_ | refine VE.blockNormal ?_ | refine VE.blockHit ?_ | refine VE.blockMiss rfl ?_ | refine VE.blockRet ?_ | refine VE.loopRet ?_ | refine VE.loopExit ?_ | refine VE.scopeNormal ?_ | refine VE.scopeRet ?_ | refine VE.scopeExit ?_))
        (first | (first | refine VO.nil rfl ?_ | refine VQ.nil rfl ?_ | refine VD.nil ?_ | ((first | apply VO.pure rfl rfl | apply VQ.pure rfl rfl | apply VD.take rfl rfl rfl | (refine VD.end rfl rfl rfl ?_; apply OpV.pure)); (first | (apply PureAt.ar64 rfl rfl rfl; omega) | exact .eval tab_ok rfl | (apply PureAt.ld tab_ok rfl rfl; (focus repeat first | exact .head _ | apply List.Mem.tail); rfl) | (apply PureAt.shr rfl rfl (by decide) (by decide)) | (apply PureAt.shr rfl rfl (by omega) (by simp only [IntKind.bits]; omega)) | exact .fieldAddrA tab_ok rfl rfl | exact .sliceLH tab_ok rfl rfl rfl rfl (by omega) (by omega) | exact .sliceH tab_ok rfl rfl rfl (by omega) | exact .sliceL tab_ok rfl rfl rfl (by omega) | (first | exact .indexAddr tab_ok rfl rfl rfl rfl (by omega) | exact .indexAddrN tab_ok rfl rfl rfl rfl (by omega) | exact .indexAddrI tab_ok rfl rfl rfl rfl (toNatLit _) (by decide) (by omega) | exact .indexAddrNI tab_ok rfl rfl rfl rfl (toNatLit _) (by decide) (by omega) | exact .ldR tab_ok rfl rfl hr1 (List.getElem?_eq_getElem (by omega)) | exact .ldR tab_ok rfl rfl hr2 (List.getElem?_eq_getElem (by omega)) | exact ldB tab_ok rfl rfl hb1 (by omega) | exact ldB tab_ok rfl rfl hb2 (by omega)) | exact .sliceHI tab_ok rfl rfl rfl (toNatLit _) (by decide) (by omega) | exact .sliceLI tab_ok rfl rfl rfl (toNatLit _) (by decide) (by omega) | (apply PureAt.ldA tab_ok rfl rfl; (focus repeat first | exact .head _ | apply List.Mem.tail); rfl; rfl) | exact .ldro tab_ok rfl rfl (by assumption)); rfl) | refine VO.skip rfl rfl rfl rfl ?_ | refine VQ.skip rfl rfl rfl rfl ?_ | refine VD.skip rfl rfl rfl rfl rfl ?_ | refine VD.skipM rfl rfl Ent.refl rfl rfl rfl ?_ | ((first | refine VO.step rfl rfl ?_ | refine VD.end rfl rfl rfl ?_ | refine VD.mid rfl rfl rfl ?_); (first | (apply OpV.st tab_ok rfl rfl rfl rfl (by (repeat first | exact .head | apply Hole.tail); first | done | fail) (by first | (simp; done) | fail)) | (refine OpV.box rfl rfl rfl ?_; intro _))) | refine ⟨Ent.re, ?_⟩) | (first | refine VC.seq rfl ?_ | refine VC.region rfl ?_ | refine VC.condT rfl rfl ?_ | refine VC.condF rfl rfl ?_ | refine VC.block rfl ?_ | refine VC.skip rfl ?_ | refine VC.ret rfl ?_ | refine VC.exit rfl ?_ | refine VC.scope rfl ?_ | refine VC.label rfl ?_) | (first | refine VE.next ?_ | refine VE.passRet ?_ | refine VE.passExit ?_ | refine VE.blockNormal ?_ | refine VE.blockHit ?_ | refine VE.blockMiss rfl ?_ | refine VE.blockRet ?_ | refine VE.loopRet ?_ | refine VE.loopExit ?_ | refine VE.scopeNormal ?_ | refine VE.scopeRet ?_ | refine VE.scopeExit ?_))
        (first | (first | refine VO.nil rfl ?_ | refine VQ.nil rfl ?_ | refine VD.nil ?_ | ((first | apply VO.pure rfl rfl | apply VQ.pure rfl rfl | apply VD.take rfl rfl rfl | (refine VD.end rfl rfl rfl ?_; apply OpV.pure)); (first | (apply PureAt.ar64 rfl rfl rfl; omega) | exact .eval tab_ok rfl | (apply PureAt.ld tab_ok rfl rfl; (focus repeat first | exact .head _ | apply List.Mem.tail); rfl) | (apply PureAt.shr rfl rfl (by decide) (by decide)) | (apply PureAt.shr rfl rfl (by omega) (by simp only [IntKind.bits]; omega)) | exact .fieldAddrA tab_ok rfl rfl | exact .sliceLH tab_ok rfl rfl rfl rfl (by omega) (by omega) | exact .sliceH tab_ok rfl rfl rfl (by omega) | exact .sliceL tab_ok rfl rfl rfl (by omega) | (first | exact .indexAddr tab_ok rfl rfl rfl rfl (by omega) | exact .indexAddrN tab_ok rfl rfl rfl rfl (by omega) | exact .indexAddrI tab_ok rfl rfl rfl rfl (toNatLit _) (by decide) (by omega) | exact .indexAddrNI tab_ok rfl rfl rfl rfl (toNatLit _) (by decide) (by omega) | exact .ldR tab_ok rfl rfl hr1 (List.getElem?_eq_getElem (by omega)) | exact .ldR tab_ok rfl rfl hr2 (List.getElem?_eq_getElem (by omega)) | exact ldB tab_ok rfl rfl hb1 (by omega) | exact ldB tab_ok rfl rfl hb2 (by omega)) | exact .sliceHI tab_ok rfl rfl rfl (toNatLit _) (by decide) (by omega) | exact .sliceLI tab_ok rfl rfl rfl (toNatLit _) (by decide) (by omega) | (apply PureAt.ldA tab_ok rfl rfl; (focus repeat first | exact .head _ | apply List.Mem.tail); rfl; rfl) | exact .ldro tab_ok rfl rfl (by assumption)); rfl) | refine VO.skip rfl rfl rfl rfl ?_ | refine VQ.skip rfl rfl rfl rfl ?_ | refine VD.skip rfl rfl rfl rfl rfl ?_ | refine VD.skipM rfl rfl Ent.refl rfl rfl rfl ?_ | ((first | refine VO.step rfl rfl ?_ | refine VD.end rfl rfl rfl ?_ | refine VD.mid rfl rfl rfl ?_); (first | (apply OpV.st tab_ok rfl rfl rfl rfl (by (repeat first | exact .head | apply Hole.tail); first | done | fail) (by first | (simp; done) | fail)) | (refine OpV.box rfl rfl rfl ?_; intro _))) | refine ⟨Ent.re, ?_⟩) | (first | refine VC.seq rfl ?_ | refine VC.region rfl ?_ | refine VC.condT rfl rfl ?_ | refine VC.condF rfl rfl ?_ | refine VC.block rfl ?_ | refine VC.skip rfl ?_ | refine VC.ret rfl ?_ | refine VC.exit rfl ?_ | refine VC.scope rfl ?_ | refine VC.label rfl ?_) | (first | refine VE.next ?_ | refine VE.passRet ?_ | refine VE.passExit ?_ | refine VE.blockNormal ?_ | refine VE.blockHit ?_ | refine VE.blockMiss rfl ?_ | refine VE.blockRet ?_ | refine VE.loopRet ?_ | refine VE.loopExit ?_ | refine VE.scopeNormal ?_ | refine VE.scopeRet ?_ | refine VE.scopeExit ?_))
        refine VO.re 137 (.int .i64 Z) rfl (by rw [hZ]) ?_
        (refine w ?_; repeat ((first | refine VO.step rfl rfl ?_ | refine VD.end rfl rfl rfl ?_ | refine VD.mid rfl rfl rfl ?_); refine OpV.box rfl rfl rfl ?_; intro _; refine w ?_))
        (refine VC.condFe rfl rfl (by simp [hZ]) ?_)
        (refine w ?_; repeat ((first | refine VO.step rfl rfl ?_ | refine VD.end rfl rfl rfl ?_ | refine VD.mid rfl rfl rfl ?_); refine OpV.box rfl rfl rfl ?_; intro _; refine w ?_))
        exact VE.round (k + 1) hkt (by omega) ⟨rfl, rfl, rfl, rfl, rfl, trivial⟩ Ent.refl
      · (refine w ?_; repeat ((first | refine VO.step rfl rfl ?_ | refine VD.end rfl rfl rfl ?_ | refine VD.mid rfl rfl rfl ?_); refine OpV.box rfl rfl rfl ?_; intro _; refine w ?_))
        exact VE.round (a + 1) hlt (by omega) ⟨rfl, rfl, rfl, trivial⟩ Ent.refl
  · (refine w ?_; repeat ((first | refine VO.step rfl rfl ?_ | refine VD.end rfl rfl rfl ?_ | refine VD.mid rfl rfl rfl ?_); refine OpV.box rfl rfl rfl ?_; intro _; refine w ?_))
    (refine VE.done1 rfl ?_ ?_)
    · rfl
    · exact hend
end Tx
end Go.Proofs.Ytpmmkmcbimnigaa

/-! Text Qd. -/
/- The document's book: lists of rows that are their owner's own (ownRows). -/
set_option maxRecDepth 8000
set_option linter.unusedVariables false
set_option linter.unusedSimpArgs false
set_option linter.unusedSectionVars false
namespace Go.Proofs.Ytpmmkmcbimnigaa
open Go.RowKit Go.Sl
attribute [local irreducible] Own
namespace Rw

theorem shrI {W : World} {P : Program} {n : Nat} {H : List SProp} {f : Fr} {dst : Option Tmp} {ty_ : TypeId} {pos : String} {after : Array Edge} {guard : Option (Nat × Bool)} {x y : Operand} {s u : TypeId} {k k' : IntKind} {m : Int} {j : Int} (hx : evalX f x = some (.int k m)) (hy : evalX f y = some (.int k' j)) (h0 : 0 ≤ j) (hb : j.toNat ≤ k.bits) :
    PureAt W P n H f { dst, op := .binOp .shr s x y u, type := ty_, pos, after, guard } (.int k (m.fdiv (2 ^ j.toNat))) := by
  unfold PureAt
  intro tm w hk _
  have e1 : ¬ j < 0 := by omega
  simp [execOp, hk.eval hx, hk.eval hy, eqGuard, binOp, Op.shift, e1, Nat.min_eq_left hb]
def ub (z : Int) : UInt8 := UInt8.ofNat (z % 256).toNat
theorem ub_of (z : Int) : byteV (ub z) = Value.int .u8 (IntKind.u8.wrap z) := by
  have h : IntKind.u8.wrap z = z % 256 := by
    simp only [IntKind.wrap, IntKind.bits, IntKind.signed, Bool.false_and, Bool.false_eq_true, if_false]
    omega
  unfold byteV ub
  rw [h]
  congr 1
  have : (z % 256).toNat < 256 := by omega
  rw [UInt8.toNat_ofNat', Nat.mod_eq_of_lt (by simpa using this)]
  omega
def rb (x y k : Int) : List UInt8 := [ub x, ub y, ub k, 5]
theorem rb_bytes (x y k : Int) : bytes (rb x y k) = [.int .u8 (IntKind.u8.wrap x), .int .u8 (IntKind.u8.wrap y), .int .u8 (IntKind.u8.wrap k), .int .u8 5] := by
  show [byteV (ub x), byteV (ub y), byteV (ub k), byteV 5] = _
  rw [ub_of, ub_of, ub_of]; rfl
abbrev rb1 (a k : Nat) : List UInt8 := rb (a : Int) (((a / 2 ^ 8 : Nat)) : Int) (k : Int)
abbrev rb2 (a k : Nat) : List UInt8 := rb (-1 - (a : Int)) ((-1 - (a : Int)).fdiv (2 ^ 8)) (k : Int)
abbrev hd (b : Nat) : Value := .slice (some ⟨b, 0, none⟩) 4 4
abbrev hdrs (bs : List Nat) : List Value := bs.map hd
theorem hdrs_one (bs : List Nat) : ∀ u ∈ hdrs bs, u.oneCell' = true := by
  intro u hu; obtain ⟨b, _, rfl⟩ := List.mem_map.1 hu; rfl
abbrev Pool := List (Nat × List UInt8)
def rowR (x : Nat × List UInt8) : SProp := Row x.1 5 (bytes x.2)
abbrev poolR (p : Pool) : SProp := pile rowR p
theorem pool_rds {W : World} {H : List SProp} {p : Pool} {b : Nat} {l : List UInt8} (m : poolR p ∈ H) (h : (b, l) ∈ p) : Rds W H 1 (some ⟨b, 0, none⟩) l.length (bytes l) :=
  Rds.pile m h fun R hR => Rds.row (bytes_one _) hR (by simp)
def res (e : ListN) : SProp := Own 47 1 (.slice e.ao e.n e.cap) e.n e.xs
/-- The lists, the first so many of them with new rows. -/
def mkd (E : List ListN) (Bs : List (List Nat)) : List ListN := E.mapIdx fun j e => match Bs[j]? with
  | some bs => ⟨e.ao, e.cap, e.n, hdrs bs⟩
  | none => e
theorem mkd_length (E : List ListN) (Bs : List (List Nat)) : (mkd E Bs).length = E.length := by simp [mkd]
theorem mkd_get (E : List ListN) (Bs : List (List Nat)) (j : Nat) (h : j < E.length) : (mkd E Bs)[j]'(by rw [mkd_length]; exact h) = match Bs[j]? with
  | some bs => ⟨E[j].ao, E[j].cap, E[j].n, hdrs bs⟩
  | none => E[j] := by simp [mkd]
theorem mkd_nil (E : List ListN) : mkd E [] = E := by
  unfold mkd; apply List.ext_getElem (by simp); intro i h1 h2; simp
theorem mkd_set (E : List ListN) (Bs : List (List Nat)) (bs : List Nat) (h : Bs.length < E.length) : (mkd E Bs).set Bs.length ⟨E[Bs.length].ao, E[Bs.length].cap, E[Bs.length].n, hdrs bs⟩ = mkd E (Bs ++ [bs]) := by
  apply List.ext_getElem (by simp [mkd_length])
  intro j h1 h2
  have hj : j < E.length := by simpa [mkd_length] using h2
  rw [List.getElem_set, mkd_get E (Bs ++ [bs]) j hj]
  split
  · rename_i q; subst q; rw [List.getElem?_append_right (Nat.le_refl _)]; simp
  · rename_i q
    rw [mkd_get E Bs j hj]
    by_cases q2 : j < Bs.length
    · rw [List.getElem?_append_left q2]
    · rw [List.getElem?_eq_none (by omega), List.getElem?_eq_none (by simp; omega)]
structure In (a : Nat) (n : Nat) (bs : List Nat) (p : Pool) (g : Nat → Nat → List UInt8) : Prop where
  len : bs.length = n
  all : ∀ k b, bs[k]? = some b → (b, g a k) ∈ p
theorem In.more {a n : Nat} {bs : List Nat} {p : Pool} {g : Nat → Nat → List UInt8} (h : In a n bs p g) {q : Pool} (hs : ∀ x ∈ p, x ∈ q) : In a n bs q g := ⟨h.len, fun k b hk => hs _ (h.all k b hk)⟩
theorem In.push {a : Nat} {bs : List Nat} {p : Pool} {g : Nat → Nat → List UInt8} (h : In a bs.length bs p g) (b : Nat) : In a (bs ++ [b]).length (bs ++ [b]) (p ++ [(b, g a bs.length)]) g := by
  refine ⟨rfl, fun k c hk => ?_⟩
  by_cases q : k < bs.length
  · rw [List.getElem?_append_left q] at hk
    exact List.mem_append_left _ (h.all k c hk)
  · rw [List.getElem?_append_right (by omega)] at hk
    have hkk : k - bs.length = 0 := by
      cases hz : k - bs.length with
      | zero => rfl
      | succ z => rw [hz] at hk; cases hk
    rw [hkk] at hk
    injection hk with hk
    subst hk
    rw [show k = bs.length by omega]
    simp
/-- The lists, the first of them with what has grown out of them. -/
abbrev Grn := Option Addr × Nat × List Nat
def twin (e : ListN) (g : Grn) : SProp := TwinR 47 1 e.ao e.cap e.n e.xs g.1 g.2.1 (e.n + g.2.2.length) (e.xs ++ hdrs g.2.2)
def grs (M : List ListN) (Gs : List Grn) : List SProp := M.mapIdx fun j e => match Gs[j]? with
  | some g => twin e g
  | none => res e
theorem grs_length (M : List ListN) (Gs : List Grn) : (grs M Gs).length = M.length := by simp [grs]
theorem grs_nil (M : List ListN) : grs M [] = M.map res := by
  unfold grs; apply List.ext_getElem (by simp); intro i h1 h2; simp
theorem grs_get (M : List ListN) (Gs : List Grn) (j : Nat) (h : j < M.length) : (grs M Gs)[j]'(by rw [grs_length]; exact h) = match Gs[j]? with
  | some g => twin M[j] g
  | none => res M[j] := by simp [grs]
theorem grs_set (M : List ListN) (Gs : List Grn) (g : Grn) (h : Gs.length < M.length) : (grs M Gs).set Gs.length (twin M[Gs.length] g) = grs M (Gs ++ [g]) := by
  apply List.ext_getElem (by simp [grs_length])
  intro j h1 h2
  have hj : j < M.length := by simpa [grs_length] using h2
  rw [List.getElem_set, grs_get M (Gs ++ [g]) j hj]
  split
  · rename_i q; subst q; rw [List.getElem?_append_right (Nat.le_refl _)]; simp
  · rename_i q
    rw [grs_get M Gs j hj]
    by_cases q2 : j < Gs.length
    · rw [List.getElem?_append_left q2]
    · rw [List.getElem?_eq_none (by omega), List.getElem?_eq_none (by simp; omega)]
def longH (M : List ListN) (Gs : List Grn) : List Value := Gs.mapIdx fun j g => .slice g.1 (((M[j]?).map fun e => e.n).getD 0 + g.2.2.length) g.2.1
theorem longH_length (M : List ListN) (Gs : List Grn) : (longH M Gs).length = Gs.length := by simp [longH]
theorem longH_snoc (M : List ListN) (Gs : List Grn) (g : Grn) (h : Gs.length < M.length) : longH M (Gs ++ [g]) = longH M Gs ++ [.slice g.1 (M[Gs.length].n + g.2.2.length) g.2.1] := by
  unfold longH
  rw [List.mapIdx_append]
  congr 1
  simp [List.getElem?_eq_getElem h]
theorem longH_one (M : List ListN) (Gs : List Grn) : ∀ u ∈ longH M Gs, u.oneCell' = true := by
  intro u hu
  obtain ⟨j, hj, rfl⟩ := List.mem_iff_getElem.1 hu
  simp [longH, Value.oneCell']
theorem hdrs_set {bs : List Nat} {xs : List Value} {k : Nat} (hk : bs.length = k) (h : k < xs.length) (b : Nat) : (hdrs bs ++ xs.drop k).set k (hd b) = hdrs (bs ++ [b]) ++ xs.drop (k + 1) := by
  subst hk
  rw [List.set_append_right _ _ (by rw [List.length_map]; exact Nat.le_refl _), List.length_map, Nat.sub_self, List.drop_eq_getElem_cons h, List.set_cons_zero, hdrs, hdrs, List.map_append, List.append_assoc]; rfl
set_option maxHeartbeats 8000000 in
theorem own_ok {W : World} {R : List SProp} {lo : Option Addr} {lc : Nat} {E : List ListN} (hn : E.length ≤ 1000000000) (hl : ∀ e ∈ E, e.n ≤ 1000000000) :
    Does1 W Try.prog 53 [.slice lo E.length lc] (Own 33 1 (.slice lo E.length lc) E.length (E.map ListN.hdr) :: (E.map res ++ R)) (.bool true) R := by
  (refine Does.enter Try.func53 Try.ntmps53 rfl rfl ?_)
  refine VC.know (p := lo = none → E.length = 0) (fun w hw => hw.ownNone (.head _)) ?_
  intro hln
  (refine w ?_; repeat ((first | refine VO.step rfl rfl ?_ | refine VD.end rfl rfl rfl ?_ | refine VD.mid rfl rfl rfl ?_); refine OpV.box rfl rfl rfl ?_; intro _; refine w ?_))
  refine VC.loop (α := List (List Nat) × Pool) (fun y => y.1.length ≤ E.length ∧ ∀ j bs, y.1[j]? = some bs → ∀ e, E[j]? = some e → In j e.n bs y.2 rb1)
    (fun y => Own 33 1 (.slice lo E.length lc) E.length (E.map ListN.hdr) :: poolR y.2 :: ((mkd E y.1).map res ++ R)) (fun y => [(0, .slice lo E.length lc), (3, .int .i64 y.1.length)]) (fun y => E.length - y.1.length) rfl ([], []) ⟨Nat.zero_le _, fun j bs h => (by cases h)⟩
    (by rw [mkd_nil]; exact fun w hw => (pile_nil (res := rowR) hw).swap) ⟨rfl, rfl, trivial⟩ ?_
  rintro ⟨Bs, pool⟩ ⟨ha, hin⟩
  dsimp only at ha hin ⊢
  (refine w ?_; repeat ((first | refine VO.step rfl rfl ?_ | refine VD.end rfl rfl rfl ?_ | refine VD.mid rfl rfl rfl ?_); refine OpV.box rfl rfl rfl ?_; intro _; refine w ?_))
  (refine VC.cond rfl rfl ?_ ?_ <;> intro hc)
  · have hlt : Bs.length < E.length := by have := of_decide_eq_true hc; omega
    obtain ⟨lb, rfl⟩ : ∃ lb, lo = some lb := by cases lo with | none => have := hln rfl; omega | some lb => exact ⟨lb, rfl⟩
    have hla := hl _ (List.getElem_mem hlt)
    have hget : (E.map ListN.hdr)[Bs.length]? = some (.slice E[Bs.length].ao E[Bs.length].n E[Bs.length].cap) := by rw [List.getElem?_map, List.getElem?_eq_getElem hlt]; rfl
    have hmlen : ((mkd E Bs).map res).length = E.length := by rw [List.length_map, mkd_length]
    have hself : (mkd E Bs).map res = ((mkd E Bs).map res).set Bs.length (Own 47 1 (.slice E[Bs.length].ao E[Bs.length].n E[Bs.length].cap) E[Bs.length].n (hdrs [] ++ E[Bs.length].xs.drop 0)) := by
      have e1 : ((mkd E Bs).map res)[Bs.length]'(by rw [hmlen]; exact hlt) = Own 47 1 (.slice E[Bs.length].ao E[Bs.length].n E[Bs.length].cap) E[Bs.length].n (hdrs [] ++ E[Bs.length].xs.drop 0) := by
        rw [List.getElem_map, mkd_get E Bs _ hlt, List.getElem?_eq_none (Nat.le_refl _)]; rfl
      rw [← e1, List.set_getElem_self]
    have hnext : ∀ bs, ((mkd E Bs).map res).set Bs.length (Own 47 1 (.slice E[Bs.length].ao E[Bs.length].n E[Bs.length].cap) E[Bs.length].n (hdrs bs)) = (mkd E (Bs ++ [bs])).map res := fun bs => by
      rw [← mkd_set E Bs bs hlt, List.map_set]; rfl
    generalize hL : (mkd E Bs).map res = L at *
    (refine w ?_; repeat ((first | refine VO.step rfl rfl ?_ | refine VD.end rfl rfl rfl ?_ | refine VD.mid rfl rfl rfl ?_); refine OpV.box rfl rfl rfl ?_; intro _; refine w ?_))
    refine VC.loop (α := List Nat × Pool) (fun y => y.1.length ≤ E[Bs.length].n ∧ In Bs.length y.1.length y.1 y.2 rb1 ∧ ∀ x ∈ pool, x ∈ y.2)
      (fun y => Own 33 1 (.slice (some lb) E.length lc) E.length (E.map ListN.hdr) :: poolR y.2 :: (L.set Bs.length (Own 47 1 (.slice E[Bs.length].ao E[Bs.length].n E[Bs.length].cap) E[Bs.length].n (hdrs y.1 ++ E[Bs.length].xs.drop y.1.length)) ++ R))
      (fun y => [(0, .slice (some lb) E.length lc), (3, .int .i64 Bs.length), (4, .int .i64 y.1.length)]) (fun y => E[Bs.length].n - y.1.length) rfl ([], pool) ⟨Nat.zero_le _, ⟨rfl, fun k b h => (by cases h)⟩, fun _ h => h⟩ (by dsimp only [List.length_nil]; rw [← hself]; exact Ent.refl) ⟨rfl, rfl, rfl, trivial⟩ ?_
    rintro ⟨bs, pl⟩ ⟨hk, hb, hs⟩
    dsimp only at hk hb hs ⊢
    refine VC.know (p := E[Bs.length].ao = none → E[Bs.length].n = 0) (fun w hw => Holds.ownNone hw (.tail _ (.tail _ (mem_set L _ _ (by omega))))) ?_
    intro han
    refine VC.know (fun w hw => Holds.ownLen hw (.tail _ (.tail _ (mem_set L _ _ (by omega))))) ?_
    intro hlen
    (refine w ?_; repeat ((first | refine VO.step rfl rfl ?_ | refine VD.end rfl rfl rfl ?_ | refine VD.mid rfl rfl rfl ?_); refine OpV.box rfl rfl rfl ?_; intro _; refine w ?_))
    (first | refine VO.pure rfl rfl (PureAt.ldR tab_ok rfl rfl (Rds.own (ListN.hdrs_one E) (.head _) (by rw [List.length_map, Nat.mul_one]) (fun h => by cases h)) hget) rfl ?_ | refine VD.take rfl rfl rfl (PureAt.ldR tab_ok rfl rfl (Rds.own (ListN.hdrs_one E) (.head _) (by rw [List.length_map, Nat.mul_one]) (fun h => by cases h)) hget) rfl ?_ | refine VQ.pure rfl rfl (PureAt.ldR tab_ok rfl rfl (Rds.own (ListN.hdrs_one E) (.head _) (by rw [List.length_map, Nat.mul_one]) (fun h => by cases h)) hget) rfl ?_ | refine VD.end rfl rfl rfl (OpV.pure (PureAt.ldR tab_ok rfl rfl (Rds.own (ListN.hdrs_one E) (.head _) (by rw [List.length_map, Nat.mul_one]) (fun h => by cases h)) hget) rfl ?_))
    (refine w ?_; repeat ((first | refine VO.step rfl rfl ?_ | refine VD.end rfl rfl rfl ?_ | refine VD.mid rfl rfl rfl ?_); refine OpV.box rfl rfl rfl ?_; intro _; refine w ?_))
    (refine VC.cond rfl rfl ?_ ?_ <;> intro hc)
    · have hkt : bs.length < E[Bs.length].n := by have := of_decide_eq_true hc; omega
      obtain ⟨xa, hxa⟩ : ∃ xa, E[Bs.length].ao = some xa := by cases h : E[Bs.length].ao with | none => have := han h; omega | some xa => exact ⟨xa, rfl⟩
      rw [hxa] at hget ⊢
      (refine w ?_; repeat ((first | refine VO.step rfl rfl ?_ | refine VD.end rfl rfl rfl ?_ | refine VD.mid rfl rfl rfl ?_); refine OpV.box rfl rfl rfl ?_; intro _; refine w ?_))
      (first | refine VO.pure rfl rfl (PureAt.ldR tab_ok rfl rfl (Rds.own (ListN.hdrs_one E) (.head _) (by rw [List.length_map, Nat.mul_one]) (fun h => by cases h)) hget) rfl ?_ | refine VD.take rfl rfl rfl (PureAt.ldR tab_ok rfl rfl (Rds.own (ListN.hdrs_one E) (.head _) (by rw [List.length_map, Nat.mul_one]) (fun h => by cases h)) hget) rfl ?_ | refine VQ.pure rfl rfl (PureAt.ldR tab_ok rfl rfl (Rds.own (ListN.hdrs_one E) (.head _) (by rw [List.length_map, Nat.mul_one]) (fun h => by cases h)) hget) rfl ?_ | refine VD.end rfl rfl rfl (OpV.pure (PureAt.ldR tab_ok rfl rfl (Rds.own (ListN.hdrs_one E) (.head _) (by rw [List.length_map, Nat.mul_one]) (fun h => by cases h)) hget) rfl ?_))
      (refine w ?_; repeat ((first | refine VO.step rfl rfl ?_ | refine VD.end rfl rfl rfl ?_ | refine VD.mid rfl rfl rfl ?_); refine OpV.box rfl rfl rfl ?_; intro _; refine w ?_))
      ((first | refine VO.step rfl rfl ?_ | refine VD.end rfl rfl rfl ?_ | refine VD.mid rfl rfl rfl ?_); refine OpV.buildSlice1 st_47 rfl rfl (by first | (simp; done) | simp [Value.oneCell']) (by decide) rfl ?_; intro nb)
      (refine w ?_; repeat ((first | refine VO.step rfl rfl ?_ | refine VD.end rfl rfl rfl ?_ | refine VD.mid rfl rfl rfl ?_); refine OpV.box rfl rfl rfl ?_; intro _; refine w ?_))
      (first | refine VO.step rfl rfl ?_ | refine VD.end rfl rfl rfl ?_ | refine VD.mid rfl rfl rfl ?_)
      refine OpV.stO tab_ok rfl rfl rfl rfl (.tail (.tail (.tail (hole_set L _ _ (by omega))))) (by rw [hlen]; omega) ?_
      rw [hdrs_set rfl (by rw [List.length_append, List.length_map, List.length_drop] at hlen; omega) nb]
      (refine w ?_; repeat ((first | refine VO.step rfl rfl ?_ | refine VD.end rfl rfl rfl ?_ | refine VD.mid rfl rfl rfl ?_); refine OpV.box rfl rfl rfl ?_; intro _; refine w ?_))
      refine VE.round (bs ++ [nb], pl ++ [(nb, rb1 Bs.length bs.length)]) ⟨by simp only [List.length_append, List.length_singleton]; omega, hb.push nb, fun x hx => List.mem_append_left _ (hs x hx)⟩ (by simp only [List.length_append, List.length_singleton]; omega) ⟨rfl, rfl, asV rfl (by simp), trivial⟩ ?_
      dsimp only
      rw [List.length_append, List.length_singleton]
      have hrow : Row nb 5 [.int .u8 (IntKind.u8.wrap (Bs.length : Int)), .int .u8 (IntKind.u8.wrap ((Bs.length / 2 ^ 8 : Nat) : Int)), .int .u8 (IntKind.u8.wrap (bs.length : Int)), .int .u8 5] = rowR (nb, rb1 Bs.length bs.length) := by
        unfold rowR; rw [rb_bytes]
      refine Ent.trans (H' := rowR (nb, rb1 Bs.length bs.length) :: poolR pl :: Own 33 1 (.slice (some lb) E.length lc) E.length (E.map ListN.hdr) :: (L.set Bs.length (Own 47 1 (.slice (some xa) E[Bs.length].n E[Bs.length].cap) E[Bs.length].n (hdrs (bs ++ [nb]) ++ E[Bs.length].xs.drop (bs.length + 1))) ++ R)) (by rw [← hrow]; exact Ent.re) (fun w hw => (pile_push (res := rowR) hw).swap)
    · have hge : bs.length = E[Bs.length].n := by have := of_decide_eq_false hc; omega
      rw [List.length_append, List.length_map] at hlen
      have hz : E[Bs.length].xs.drop bs.length = [] := List.eq_nil_of_length_eq_zero (by omega)
      rw [hz, List.append_nil, hnext]
      (refine w ?_; repeat ((first | refine VO.step rfl rfl ?_ | refine VD.end rfl rfl rfl ?_ | refine VD.mid rfl rfl rfl ?_); refine OpV.box rfl rfl rfl ?_; intro _; refine w ?_))
      refine VE.round (Bs ++ [bs], pl) ⟨by simp only [List.length_append, List.length_singleton]; omega, fun j cs hj e he => ?_⟩ (by simp only [List.length_append, List.length_singleton]; omega) ⟨rfl, asV rfl (by simp), trivial⟩ Ent.refl
      by_cases q : j < Bs.length
      · dsimp only at hj
        rw [List.getElem?_append_left q] at hj
        exact (hin j cs hj e he).more hs
      · dsimp only at hj
        rw [List.getElem?_append_right (by omega)] at hj
        have hz : j - Bs.length = 0 := by
          cases hz : j - Bs.length with
          | zero => rfl
          | succ z => rw [hz] at hj; cases hj
        rw [hz] at hj
        injection hj with hj
        subst hj
        obtain rfl : j = Bs.length := by omega
        rw [List.getElem?_eq_getElem hlt] at he
        injection he with he
        subst he
        exact ⟨hge, hb.all⟩
  have hge : Bs.length = E.length := by have := of_decide_eq_false hc; omega
  clear hc ha
  -- every list has new rows
  obtain ⟨M, hM⟩ : ∃ M, M = mkd E Bs := ⟨_, rfl⟩
  have hML : M.length = E.length := by rw [hM]; exact mkd_length _ _
  have hMg : ∀ j (h : j < M.length), M[j] = ⟨(E[j]'(by omega)).ao, (E[j]'(by omega)).cap, (E[j]'(by omega)).n, hdrs (Bs[j]'(by omega))⟩ := fun j h => by
    subst hM; rw [mkd_get E _ j (by omega), List.getElem?_eq_getElem (by omega)]
  have hMh : E.map ListN.hdr = M.map ListN.hdr := by
    apply List.ext_getElem (by simp [hML])
    intro j h1 h2
    have hj : j < M.length := by simpa using h2
    rw [List.getElem_map, List.getElem_map, hMg j hj]
  have hMl : ∀ j (h : j < M.length), M[j].n ≤ 1000000000 ∧ ∃ bs, M[j].xs = hdrs bs ∧ In j M[j].n bs pool rb1 := fun j h => by
    have := hin j (Bs[j]'(by omega)) (List.getElem?_eq_getElem _) (E[j]'(by omega)) (List.getElem?_eq_getElem _)
    rw [hMg j h]; exact ⟨hl (E[j]'(by omega)) (List.getElem_mem _), _, rfl, this⟩
  (refine w ?_; repeat ((first | refine VO.step rfl rfl ?_ | refine VD.end rfl rfl rfl ?_ | refine VD.mid rfl rfl rfl ?_); refine OpV.box rfl rfl rfl ?_; intro _; refine w ?_))
  rw [← hM, hMh, ← hML]
  rw [← hML] at hln hn
  clear hMh hMg hl hML hM hin hge
  refine VC.ent (H' := Own 33 1 (.slice none 0 0) 0 (longH M []) :: Own 33 1 (.slice lo M.length lc) M.length (M.map ListN.hdr) :: poolR pool :: (grs M [] ++ R)) (fun w hw => by rw [grs_nil]; exact hw.ownNil _ _) ?_
  refine VC.loop (α := List Grn × Pool × Option Addr × Nat) (fun g => g.1.length ≤ M.length ∧ (∀ x ∈ pool, x ∈ g.2.1) ∧ ∀ j c, g.1[j]? = some c → In j 16 c.2.2 g.2.1 rb2)
    (fun g => Own 33 1 (.slice g.2.2.1 g.1.length g.2.2.2) g.1.length (longH M g.1) :: Own 33 1 (.slice lo M.length lc) M.length (M.map ListN.hdr) :: poolR g.2.1 :: (grs M g.1 ++ R))
    (fun g => [(0, .slice lo M.length lc), (5, .slice g.2.2.1 g.1.length g.2.2.2), (6, .int .i64 g.1.length)]) (fun g => M.length - g.1.length) rfl ([], pool, none, 0) ⟨Nat.zero_le _, fun _ h => h, fun j c h => (by cases h)⟩ Ent.refl ⟨rfl, rfl, rfl, trivial⟩ ?_
  rintro ⟨Gs, pl, go, gc⟩ ⟨ha, hsub, hgin⟩
  dsimp only at ha hsub hgin ⊢
  (refine w ?_; repeat ((first | refine VO.step rfl rfl ?_ | refine VD.end rfl rfl rfl ?_ | refine VD.mid rfl rfl rfl ?_); refine OpV.box rfl rfl rfl ?_; intro _; refine w ?_))
  (refine VC.cond rfl rfl ?_ ?_ <;> intro hc)
  · have hlt : Gs.length < M.length := by have := of_decide_eq_true hc; omega
    obtain ⟨lb, rfl⟩ : ∃ lb, lo = some lb := by cases lo with | none => have := hln rfl; omega | some lb => exact ⟨lb, rfl⟩
    obtain ⟨hla, -⟩ := hMl Gs.length hlt
    have hget : (M.map ListN.hdr)[Gs.length]? = some (.slice M[Gs.length].ao M[Gs.length].n M[Gs.length].cap) := by rw [List.getElem?_map, List.getElem?_eq_getElem hlt]; rfl
    have hself : grs M Gs = (grs M Gs).set Gs.length (res M[Gs.length]) := by
      have e1 : (grs M Gs)[Gs.length]'(by rw [grs_length]; exact hlt) = res M[Gs.length] := by
        rw [grs_get M Gs _ hlt, List.getElem?_eq_none (Nat.le_refl _)]
      rw [← e1, List.set_getElem_self]
    have hnext (g : Grn) := grs_set M Gs g hlt
    have hlnext (g : Grn) := longH_snoc M Gs g hlt
    have hgl := grs_length M Gs
    generalize hL : grs M Gs = L at *
    (refine w ?_; repeat ((first | refine VO.step rfl rfl ?_ | refine VD.end rfl rfl rfl ?_ | refine VD.mid rfl rfl rfl ?_); refine OpV.box rfl rfl rfl ?_; intro _; refine w ?_))
    (first | refine VO.pure rfl rfl (PureAt.ldR tab_ok rfl rfl (Rds.own (ListN.hdrs_one M) (.tail _ (.head _)) (by rw [List.length_map, Nat.mul_one]) (fun h => by cases h)) hget) rfl ?_ | refine VD.take rfl rfl rfl (PureAt.ldR tab_ok rfl rfl (Rds.own (ListN.hdrs_one M) (.tail _ (.head _)) (by rw [List.length_map, Nat.mul_one]) (fun h => by cases h)) hget) rfl ?_ | refine VQ.pure rfl rfl (PureAt.ldR tab_ok rfl rfl (Rds.own (ListN.hdrs_one M) (.tail _ (.head _)) (by rw [List.length_map, Nat.mul_one]) (fun h => by cases h)) hget) rfl ?_ | refine VD.end rfl rfl rfl (OpV.pure (PureAt.ldR tab_ok rfl rfl (Rds.own (ListN.hdrs_one M) (.tail _ (.head _)) (by rw [List.length_map, Nat.mul_one]) (fun h => by cases h)) hget) rfl ?_))
    (refine w ?_; repeat ((first | refine VO.step rfl rfl ?_ | refine VD.end rfl rfl rfl ?_ | refine VD.mid rfl rfl rfl ?_); refine OpV.box rfl rfl rfl ?_; intro _; refine w ?_))
    refine VC.loop (α := Grn × Pool) (fun g => g.1.2.2.length ≤ 16 ∧ In Gs.length g.1.2.2.length g.1.2.2 g.2 rb2 ∧ ∀ x ∈ pl, x ∈ g.2)
      (fun g => Own 33 1 (.slice go Gs.length gc) Gs.length (longH M Gs) :: Own 33 1 (.slice (some lb) M.length lc) M.length (M.map ListN.hdr) :: poolR g.2 :: (L.set Gs.length (twin M[Gs.length] g.1) ++ R))
      (fun g => [(0, .slice (some lb) M.length lc), (5, .slice go Gs.length gc), (6, .int .i64 Gs.length), (7, .slice g.1.1 (M[Gs.length].n + g.1.2.2.length) g.1.2.1), (8, .int .i64 g.1.2.2.length)]) (fun g => 16 - g.1.2.2.length) rfl ((M[Gs.length].ao, M[Gs.length].cap, []), pl) ⟨Nat.zero_le _, ⟨rfl, fun k b h => (by cases h)⟩, fun _ h => h⟩
      (by
        rw [hself, List.set_set]
        refine Ent.hole (Hole.tail (Hole.tail (Hole.tail (hole_set L Gs.length _ (by omega))))) (fun R w hw => ?_)
        have := TwinR.start hw
        simpa [twin] using this) ⟨rfl, rfl, rfl, rfl, rfl, trivial⟩ ?_
    rintro ⟨⟨xo, xc, cs⟩, pm⟩ ⟨hk, hb, hs⟩
    dsimp only at hk hb hs ⊢
    (refine w ?_; repeat ((first | refine VO.step rfl rfl ?_ | refine VD.end rfl rfl rfl ?_ | refine VD.mid rfl rfl rfl ?_); refine OpV.box rfl rfl rfl ?_; intro _; refine w ?_))
    (refine VC.cond rfl rfl ?_ ?_ <;> intro hc)
    · have hkt : cs.length < 16 := by have := of_decide_eq_true hc; omega
      (refine w ?_; repeat ((first | refine VO.step rfl rfl ?_ | refine VD.end rfl rfl rfl ?_ | refine VD.mid rfl rfl rfl ?_); refine OpV.box rfl rfl rfl ?_; intro _; refine w ?_))
      (first | refine VO.pure rfl rfl (shrI rfl rfl (by decide) (by decide)) rfl ?_ | refine VD.take rfl rfl rfl (shrI rfl rfl (by decide) (by decide)) rfl ?_ | refine VQ.pure rfl rfl (shrI rfl rfl (by decide) (by decide)) rfl ?_ | refine VD.end rfl rfl rfl (OpV.pure (shrI rfl rfl (by decide) (by decide)) rfl ?_))
      (refine w ?_; repeat ((first | refine VO.step rfl rfl ?_ | refine VD.end rfl rfl rfl ?_ | refine VD.mid rfl rfl rfl ?_); refine OpV.box rfl rfl rfl ?_; intro _; refine w ?_))
      ((first | refine VO.step rfl rfl ?_ | refine VD.end rfl rfl rfl ?_ | refine VD.mid rfl rfl rfl ?_); refine OpV.buildSlice1 st_47 rfl rfl (by first | (simp; done) | simp [Value.oneCell']) (by decide) rfl ?_; intro n4)
      ((first | refine VO.step rfl rfl ?_ | refine VD.end rfl rfl rfl ?_ | refine VD.mid rfl rfl rfl ?_); refine OpV.buildSlice1 st_33 rfl rfl (by first | (simp; done) | simp [Value.oneCell']) (by decide) rfl ?_; intro nb)
      (first | refine VO.step rfl rfl ?_ | refine VD.end rfl rfl rfl ?_ | refine VD.mid rfl rfl rfl ?_)
      refine OpV.appendT (news := [hd n4]) (m := 1) st_33 rfl rfl (.tail (.tail (.tail (.tail (.tail (hole_set L Gs.length _ (by omega))))))) (fun w hw => (Sees.row (ys := []) (by simp [Value.oneCell']) rfl hw (.head _)).src st_33.und) ?_ ?_ rfl ?_
      · simp only [maxLen]; omega
      · omega
      intro xo' xc'
      (refine w ?_; repeat ((first | refine VO.step rfl rfl ?_ | refine VD.end rfl rfl rfl ?_ | refine VD.mid rfl rfl rfl ?_); refine OpV.box rfl rfl rfl ?_; intro _; refine w ?_))
      refine VE.round ((xo', xc', cs ++ [n4]), pm ++ [(n4, rb2 Gs.length cs.length)]) ⟨by simp only [List.length_append, List.length_singleton]; omega, hb.push n4, fun x hx => List.mem_append_left _ (hs x hx)⟩ (by simp only [List.length_append, List.length_singleton]; omega) ⟨rfl, rfl, rfl, asV rfl (by simp [Nat.add_assoc]), asV rfl (by simp), trivial⟩ ?_
      dsimp only
      have hrow : Row n4 5 [.int .u8 (IntKind.u8.wrap (-1 - (Gs.length : Int))), .int .u8 (IntKind.u8.wrap ((-1 - (Gs.length : Int)).fdiv (2 ^ 8))), .int .u8 (IntKind.u8.wrap (cs.length : Int)), .int .u8 5] = rowR (n4, rb2 Gs.length cs.length) := by
        unfold rowR; rw [rb_bytes]
      have htw : twin M[Gs.length] (xo', xc', cs ++ [n4]) = TwinR 47 1 M[Gs.length].ao M[Gs.length].cap M[Gs.length].n M[Gs.length].xs xo' xc' (M[Gs.length].n + cs.length + 1) (M[Gs.length].xs ++ hdrs cs ++ [hd n4]) := by
        unfold twin
        dsimp only
        rw [List.length_append, List.length_singleton, hdrs, List.map_append, ← List.append_assoc, ← Nat.add_assoc]; rfl
      rw [htw]
      refine Ent.trans (H' := rowR (n4, rb2 Gs.length cs.length) :: poolR pm :: Own 33 1 (.slice go Gs.length gc) Gs.length (longH M Gs) :: Own 33 1 (.slice (some lb) M.length lc) M.length (M.map ListN.hdr) :: (L.set Gs.length (TwinR 47 1 M[Gs.length].ao M[Gs.length].cap M[Gs.length].n M[Gs.length].xs xo' xc' (M[Gs.length].n + cs.length + 1) (M[Gs.length].xs ++ hdrs cs ++ [hd n4])) ++ R)) (by rw [← hrow]; exact Ent.re) (fun w hw => ?_)
      exact (pile_push (res := rowR) hw).perm ((List.Perm.swap _ _ _).trans ((List.Perm.swap _ _ _).cons _))
    · have hge : cs.length = 16 := by have := of_decide_eq_false hc; omega
      rw [hnext]
      (refine w ?_; repeat ((first | refine VO.step rfl rfl ?_ | refine VD.end rfl rfl rfl ?_ | refine VD.mid rfl rfl rfl ?_); refine OpV.box rfl rfl rfl ?_; intro _; refine w ?_))
      ((first | refine VO.step rfl rfl ?_ | refine VD.end rfl rfl rfl ?_ | refine VD.mid rfl rfl rfl ?_); refine OpV.buildSlice1 st_41 rfl rfl (by first | (simp; done) | simp [Value.oneCell']) (by decide) rfl ?_; intro nb)
      ((first | refine VO.step rfl rfl ?_ | refine VD.end rfl rfl rfl ?_ | refine VD.mid rfl rfl rfl ?_); refine OpV.appendRow st_41 rfl rfl (by (repeat first | exact .head | apply Hole.tail)) (by (focus repeat first | exact .head _ | apply List.Mem.tail)) rfl (by first | (simp; done) | simp [Value.oneCell']) ?_ ?_ rfl ?_)
      · simp only [maxLen]; omega
      · omega
      intro go' gc'
      rw [← hlnext (xo, xc, cs)]
      (refine w ?_; repeat ((first | refine VO.step rfl rfl ?_ | refine VD.end rfl rfl rfl ?_ | refine VD.mid rfl rfl rfl ?_); refine OpV.box rfl rfl rfl ?_; intro _; refine w ?_))
      refine VE.round (Gs ++ [(xo, xc, cs)], pm, go', gc') ⟨by rw [List.length_append]; exact hlt, fun x hx => hs x (hsub x hx), fun j c hj => ?_⟩ (by simp only [List.length_append, List.length_singleton]; omega) ⟨rfl, asV rfl (by rw [List.length_append]; rfl), asV rfl (by rw [List.length_append]; rfl), trivial⟩ ?_
      · dsimp only at hj
        by_cases q : j < Gs.length
        · rw [List.getElem?_append_left q] at hj
          exact (hgin j c hj).more hs
        · rw [List.getElem?_append_right (by omega)] at hj
          have hz : j - Gs.length = 0 := by
            cases hz : j - Gs.length with
            | zero => rfl
            | succ z => rw [hz] at hj; cases hj
          rw [hz] at hj
          injection hj with hj
          subst hj
          obtain rfl : j = Gs.length := by omega
          exact ⟨hge, hb.all⟩
      dsimp only
      rw [List.length_append]
      exact Ent.re
  have hge : Gs.length = M.length := by have := of_decide_eq_false hc; omega
  clear hc ha
  (refine w ?_; repeat ((first | refine VO.step rfl rfl ?_ | refine VD.end rfl rfl rfl ?_ | refine VD.mid rfl rfl rfl ?_); refine OpV.box rfl rfl rfl ?_; intro _; refine w ?_))
  refine VC.know (p := go = none → Gs.length = 0) (fun w hw => Holds.ownNone hw (.head _)) ?_
  intro hgn
  generalize hH : (Own 33 1 (.slice go Gs.length gc) Gs.length (longH M Gs) :: Own 33 1 (.slice lo M.length lc) M.length (M.map ListN.hdr) :: poolR pl :: (grs M Gs ++ R)) = HH
  have hr1 : Rds W HH 1 lo M.length (M.map ListN.hdr) := by subst hH; exact Rds.own (ListN.hdrs_one M) (.tail _ (.head _)) (by rw [List.length_map, Nat.mul_one]) hln
  have hr2 : Rds W HH 1 go Gs.length (longH M Gs) := by subst hH; exact Rds.own (longH_one M Gs) (.head _) (by rw [longH_length, Nat.mul_one]) hgn
  have hpm : poolR pl ∈ HH := by subst hH; exact .tail _ (.tail _ (.head _))
  have hend : Ent W HH R := by
    subst hH
    exact Ent.drop (Ent.drop (Ent.drop (fun w hw => by
      have : ∀ (X : List SProp) w, Holds W (X ++ R) w → Holds W R w := fun X => by
        induction X with
        | nil => exact fun w h => h
        | cons a r ih => exact fun w h => ih w h.tail
      exact this _ w hw)))
  have htw : ∀ a (h : a < M.length), twin M[a] (Gs[a]'(by omega)) ∈ HH := fun a h => by
    subst hH
    refine .tail _ (.tail _ (.tail _ (List.mem_append_left _ (List.mem_iff_getElem.2 ⟨a, by rw [grs_length]; exact h, ?_⟩))))
    rw [grs_get M Gs a h, List.getElem?_eq_getElem (by omega)]
  have hlg : ∀ a (h : a < M.length), (longH M Gs)[a]? = some (.slice (Gs[a]'(by omega)).1 (M[a].n + (Gs[a]'(by omega)).2.2.length) (Gs[a]'(by omega)).2.1) := fun a h => by
    unfold longH
    rw [List.getElem?_mapIdx, List.getElem?_eq_getElem h, List.getElem?_eq_getElem (l := Gs) (by omega)]; rfl
  clear hH
  refine VC.loop (α := Nat) (fun a => a ≤ M.length) (fun _ => HH)
    (fun a => [(0, .slice lo M.length lc), (5, .slice go Gs.length gc), (9, .int .i64 a)]) (fun a => M.length - a) rfl 0 (Nat.zero_le _) Ent.refl ⟨rfl, rfl, rfl, trivial⟩ ?_
  intro a ha
  (refine w ?_; repeat ((first | refine VO.step rfl rfl ?_ | refine VD.end rfl rfl rfl ?_ | refine VD.mid rfl rfl rfl ?_); refine OpV.box rfl rfl rfl ?_; intro _; refine w ?_))
  (refine VC.cond rfl rfl ?_ ?_ <;> intro hc)
  · have hlt : a < M.length := by have := of_decide_eq_true hc; omega
    obtain ⟨lb, rfl⟩ : ∃ lb, lo = some lb := by cases lo with | none => have := hln rfl; omega | some lb => exact ⟨lb, rfl⟩
    obtain ⟨gb, rfl⟩ : ∃ gb, go = some gb := by cases go with | none => have := hgn rfl; omega | some gb => exact ⟨gb, rfl⟩
    obtain ⟨hla, bs, hxs, hbs⟩ := hMl a hlt
    have hget : (M.map ListN.hdr)[a]? = some (.slice M[a].ao M[a].n M[a].cap) := by rw [List.getElem?_map, List.getElem?_eq_getElem hlt]; rfl
    have htw := htw a hlt
    have hlg := hlg a hlt
    have hgl : a < Gs.length := by omega
    have hgs := hgin a (Gs[a]'hgl) (List.getElem?_eq_getElem hgl)
    generalize Gs[a] = g at *
    generalize M[a] = e at *
    obtain ⟨g1, g2, cs⟩ := g
    dsimp only at hgs hlg htw
    have hcl := hgs.len
    rw [hcl] at hlg
    have hel : e.xs.length = e.n := by rw [hxs, List.length_map, hbs.len]
    have h1 : ∀ u ∈ e.xs, u.oneCell' = true := by rw [hxs]; exact hdrs_one _
    have h2 : ∀ u ∈ e.xs ++ hdrs cs, u.oneCell' = true := fun u hu => by
      rcases List.mem_append.1 hu with q | q
      · exact h1 u q
      · exact hdrs_one _ u q
    refine VC.know (fun w hw => TwinR.none hw htw) ?_
    rintro ⟨hon, hnn⟩
    dsimp only at hnn
    have ho : Rds W HH 1 e.ao e.n e.xs := TwinR.rdsOld htw h1 (by rw [hel, Nat.mul_one]) hon
    have hw' : Rds W HH 1 g1 (e.n + 16) (e.xs ++ hdrs cs) := by
      have := TwinR.rdsNew (W := W) htw h2 (by rw [List.length_append, List.length_map, hel, Nat.mul_one]) hnn
      dsimp only at this
      rwa [hcl] at this
    obtain ⟨gx, rfl⟩ : ∃ gx, g1 = some gx := by cases h : g1 with | none => have := hnn h; omega | some gx => exact ⟨gx, rfl⟩
    (refine w ?_; repeat ((first | refine VO.step rfl rfl ?_ | refine VD.end rfl rfl rfl ?_ | refine VD.mid rfl rfl rfl ?_); refine OpV.box rfl rfl rfl ?_; intro _; refine w ?_))
    (first | refine VO.pure rfl rfl (PureAt.ldR tab_ok rfl rfl hr1 hget) rfl ?_ | refine VD.take rfl rfl rfl (PureAt.ldR tab_ok rfl rfl hr1 hget) rfl ?_ | refine VQ.pure rfl rfl (PureAt.ldR tab_ok rfl rfl hr1 hget) rfl ?_ | refine VD.end rfl rfl rfl (OpV.pure (PureAt.ldR tab_ok rfl rfl hr1 hget) rfl ?_))
    (refine w ?_; repeat ((first | refine VO.step rfl rfl ?_ | refine VD.end rfl rfl rfl ?_ | refine VD.mid rfl rfl rfl ?_); refine OpV.box rfl rfl rfl ?_; intro _; refine w ?_))
    refine VC.loop (α := Nat) (fun k => k ≤ e.n) (fun _ => HH)
      (fun k => [(0, .slice (some lb) M.length lc), (5, .slice (some gb) Gs.length gc), (9, .int .i64 a), (10, .int .i64 e.n), (11, .int .i64 k)]) (fun k => e.n - k) rfl 0 (Nat.zero_le _) Ent.refl ⟨rfl, rfl, rfl, rfl, rfl, trivial⟩ ?_
    intro k hk
    (refine w ?_; repeat ((first | refine VO.step rfl rfl ?_ | refine VD.end rfl rfl rfl ?_ | refine VD.mid rfl rfl rfl ?_); refine OpV.box rfl rfl rfl ?_; intro _; refine w ?_))
    (refine VC.cond rfl rfl ?_ ?_ <;> intro hc)
    · have hkt : k < e.n := by have := of_decide_eq_true hc; omega
      obtain ⟨ox, hox⟩ : ∃ ox, e.ao = some ox := by cases h : e.ao with | none => have := hon h; omega | some ox => exact ⟨ox, rfl⟩
      rw [hox] at hget ho
      have hbk : k < bs.length := by rw [hbs.len]; exact hkt
      have hk1 : e.xs[k]? = some (.slice (some ⟨bs[k], 0, none⟩) 4 4) := by rw [hxs, List.getElem?_map, List.getElem?_eq_getElem hbk]; rfl
      have hk2 : (e.xs ++ hdrs cs)[k]? = some (.slice (some ⟨bs[k], 0, none⟩) 4 4) := by rw [List.getElem?_append_left (by omega)]; exact hk1
      have hpk : Rds W HH 1 (some ⟨bs[k], 0, none⟩) 4 (bytes (rb1 a k)) := pool_rds hpm (hsub _ (hbs.all k _ (List.getElem?_eq_getElem hbk)))
      (refine w ?_; repeat ((first | refine VO.step rfl rfl ?_ | refine VD.end rfl rfl rfl ?_ | refine VD.mid rfl rfl rfl ?_); refine OpV.box rfl rfl rfl ?_; intro _; refine w ?_))
      (first | refine VO.pure rfl rfl (PureAt.ldR tab_ok rfl rfl hr1 hget) rfl ?_ | refine VD.take rfl rfl rfl (PureAt.ldR tab_ok rfl rfl hr1 hget) rfl ?_ | refine VQ.pure rfl rfl (PureAt.ldR tab_ok rfl rfl hr1 hget) rfl ?_ | refine VD.end rfl rfl rfl (OpV.pure (PureAt.ldR tab_ok rfl rfl hr1 hget) rfl ?_))
      (refine w ?_; repeat ((first | refine VO.step rfl rfl ?_ | refine VD.end rfl rfl rfl ?_ | refine VD.mid rfl rfl rfl ?_); refine OpV.box rfl rfl rfl ?_; intro _; refine w ?_))
      (first | refine VO.pure rfl rfl (PureAt.ldR tab_ok rfl rfl ho hk1) rfl ?_ | refine VD.take rfl rfl rfl (PureAt.ldR tab_ok rfl rfl ho hk1) rfl ?_ | refine VQ.pure rfl rfl (PureAt.ldR tab_ok rfl rfl ho hk1) rfl ?_ | refine VD.end rfl rfl rfl (OpV.pure (PureAt.ldR tab_ok rfl rfl ho hk1) rfl ?_))
      (refine w ?_; repeat ((first | refine VO.step rfl rfl ?_ | refine VD.end rfl rfl rfl ?_ | refine VD.mid rfl rfl rfl ?_); refine OpV.box rfl rfl rfl ?_; intro _; refine w ?_))
      ((first | refine VO.step rfl rfl ?_ | refine VD.end rfl rfl rfl ?_ | refine VD.mid rfl rfl rfl ?_); refine OpV.buildSlice1 st_47 rfl rfl (by first | (simp; done) | simp [Value.oneCell']) (by decide) rfl ?_; intro n1)
      refine VO.ent (H' := Row n1 5 (bytes (rb1 a k)) :: HH) (by rw [rb_bytes]; exact Ent.refl) ?_
      (refine w ?_; repeat ((first | refine VO.step rfl rfl ?_ | refine VD.end rfl rfl rfl ?_ | refine VD.mid rfl rfl rfl ?_); refine OpV.box rfl rfl rfl ?_; intro _; refine w ?_))
      ((first | refine VO.step rfl rfl ?_ | refine VD.end rfl rfl rfl ?_ | refine VD.mid rfl rfl rfl ?_); refine OpV.call rfl rfl (fun _ _ => by simp) (same_any (a := rb1 a k) (b := rb1 a k) (hpk.ent (Ent.drop Ent.refl)) (Rds.row (bytes_one _) (.head _) (by simp [rb])) (by decide)) Ent.refl rfl ?_)
      intro _ _
      (refine w ?_; repeat ((first | refine VO.step rfl rfl ?_ | refine VD.end rfl rfl rfl ?_ | refine VD.mid rfl rfl rfl ?_); refine OpV.box rfl rfl rfl ?_; intro _; refine w ?_))
      (first | refine VO.gF rfl rfl rfl (by simp) ?_ | refine VD.gF rfl rfl rfl (by simp) ?_)
      (refine w ?_; repeat ((first | refine VO.step rfl rfl ?_ | refine VD.end rfl rfl rfl ?_ | refine VD.mid rfl rfl rfl ?_); refine OpV.box rfl rfl rfl ?_; intro _; refine w ?_))
      (first | refine VO.pure rfl rfl (PureAt.ldR tab_ok rfl rfl (hr2.ent (Ent.drop Ent.refl)) hlg) rfl ?_ | refine VD.take rfl rfl rfl (PureAt.ldR tab_ok rfl rfl (hr2.ent (Ent.drop Ent.refl)) hlg) rfl ?_ | refine VQ.pure rfl rfl (PureAt.ldR tab_ok rfl rfl (hr2.ent (Ent.drop Ent.refl)) hlg) rfl ?_ | refine VD.end rfl rfl rfl (OpV.pure (PureAt.ldR tab_ok rfl rfl (hr2.ent (Ent.drop Ent.refl)) hlg) rfl ?_))
      (refine w ?_; repeat ((first | refine VO.step rfl rfl ?_ | refine VD.end rfl rfl rfl ?_ | refine VD.mid rfl rfl rfl ?_); refine OpV.box rfl rfl rfl ?_; intro _; refine w ?_))
      (first | refine VO.pure rfl rfl (PureAt.ldR tab_ok rfl rfl (hw'.ent (Ent.drop Ent.refl)) hk2) rfl ?_ | refine VD.take rfl rfl rfl (PureAt.ldR tab_ok rfl rfl (hw'.ent (Ent.drop Ent.refl)) hk2) rfl ?_ | refine VQ.pure rfl rfl (PureAt.ldR tab_ok rfl rfl (hw'.ent (Ent.drop Ent.refl)) hk2) rfl ?_ | refine VD.end rfl rfl rfl (OpV.pure (PureAt.ldR tab_ok rfl rfl (hw'.ent (Ent.drop Ent.refl)) hk2) rfl ?_))
      (refine w ?_; repeat ((first | refine VO.step rfl rfl ?_ | refine VD.end rfl rfl rfl ?_ | refine VD.mid rfl rfl rfl ?_); refine OpV.box rfl rfl rfl ?_; intro _; refine w ?_))
      ((first | refine VO.step rfl rfl ?_ | refine VD.end rfl rfl rfl ?_ | refine VD.mid rfl rfl rfl ?_); refine OpV.buildSlice1 st_47 rfl rfl (by first | (simp; done) | simp [Value.oneCell']) (by decide) rfl ?_; intro n2)
      refine VO.ent (H' := Row n2 5 (bytes (rb1 a k)) :: Row n1 5 (bytes (rb1 a k)) :: HH) (by rw [rb_bytes]; exact Ent.refl) ?_
      (refine w ?_; repeat ((first | refine VO.step rfl rfl ?_ | refine VD.end rfl rfl rfl ?_ | refine VD.mid rfl rfl rfl ?_); refine OpV.box rfl rfl rfl ?_; intro _; refine w ?_))
      ((first | refine VO.step rfl rfl ?_ | refine VD.end rfl rfl rfl ?_ | refine VD.mid rfl rfl rfl ?_); refine OpV.call rfl rfl (fun _ _ => by simp) (same_any (a := rb1 a k) (b := rb1 a k) (hpk.ent (Ent.drop (Ent.drop Ent.refl))) (Rds.row (bytes_one _) (.head _) (by simp [rb])) (by decide)) Ent.refl rfl ?_)
      intro _ _
      (refine w ?_; repeat ((first | refine VO.step rfl rfl ?_ | refine VD.end rfl rfl rfl ?_ | refine VD.mid rfl rfl rfl ?_); refine OpV.box rfl rfl rfl ?_; intro _; refine w ?_))
      (refine VC.condFe rfl rfl (by simp) ?_)
      (refine w ?_; repeat ((first | refine VO.step rfl rfl ?_ | refine VD.end rfl rfl rfl ?_ | refine VD.mid rfl rfl rfl ?_); refine OpV.box rfl rfl rfl ?_; intro _; refine w ?_))
      exact VE.round (k + 1) hkt (by omega) ⟨rfl, rfl, rfl, rfl, rfl, trivial⟩ (Ent.drop (Ent.drop Ent.refl))
    · (refine w ?_; repeat ((first | refine VO.step rfl rfl ?_ | refine VD.end rfl rfl rfl ?_ | refine VD.mid rfl rfl rfl ?_); refine OpV.box rfl rfl rfl ?_; intro _; refine w ?_))
      refine VC.loop (α := Nat) (fun k => k ≤ 16) (fun _ => HH)
        (fun k => [(0, .slice (some lb) M.length lc), (5, .slice (some gb) Gs.length gc), (9, .int .i64 a), (10, .int .i64 e.n), (12, .int .i64 k)]) (fun k => 16 - k) rfl 0 (Nat.zero_le _) Ent.refl ⟨rfl, rfl, rfl, rfl, rfl, trivial⟩ ?_
      intro k hk
      (refine w ?_; repeat ((first | refine VO.step rfl rfl ?_ | refine VD.end rfl rfl rfl ?_ | refine VD.mid rfl rfl rfl ?_); refine OpV.box rfl rfl rfl ?_; intro _; refine w ?_))
      (refine VC.cond rfl rfl ?_ ?_ <;> intro hc)
      · have hkt : k < 16 := by have := of_decide_eq_true hc; omega
        have hck : k < cs.length := by omega
        have hk2 : (e.xs ++ hdrs cs)[e.n + k]? = some (.slice (some ⟨cs[k], 0, none⟩) 4 4) := by
          rw [List.getElem?_append_right (by omega), hel, Nat.add_sub_cancel_left, List.getElem?_map, List.getElem?_eq_getElem hck]; rfl
        have hpk : Rds W HH 1 (some ⟨cs[k], 0, none⟩) 4 (bytes (rb2 a k)) := pool_rds hpm (hgs.all k _ (List.getElem?_eq_getElem hck))
        (refine w ?_; repeat ((first | refine VO.step rfl rfl ?_ | refine VD.end rfl rfl rfl ?_ | refine VD.mid rfl rfl rfl ?_); refine OpV.box rfl rfl rfl ?_; intro _; refine w ?_))
        (first | refine VO.pure rfl rfl (PureAt.ldR tab_ok rfl rfl hr2 hlg) rfl ?_ | refine VD.take rfl rfl rfl (PureAt.ldR tab_ok rfl rfl hr2 hlg) rfl ?_ | refine VQ.pure rfl rfl (PureAt.ldR tab_ok rfl rfl hr2 hlg) rfl ?_ | refine VD.end rfl rfl rfl (OpV.pure (PureAt.ldR tab_ok rfl rfl hr2 hlg) rfl ?_))
        (first | (first | refine VO.nil rfl ?_ | refine VQ.nil rfl ?_ | refine VD.nil ?_ | ((first | apply VO.pure rfl rfl | apply VQ.pure rfl rfl | apply VD.take rfl rfl rfl | (refine VD.end rfl rfl rfl ?_; apply OpV.pure)); (first | (apply PureAt.ar64 rfl rfl rfl; omega) | exact .eval tab_ok rfl | (apply PureAt.ld tab_ok rfl rfl; (focus repeat first | exact .head _ | apply List.Mem.tail); rfl) | (apply PureAt.shr rfl rfl (by decide) (by decide)) | (apply PureAt.shr rfl rfl (by omega) (by simp only [IntKind.bits]; omega)) | exact .fieldAddrA tab_ok rfl rfl | exact .sliceLH tab_ok rfl rfl rfl rfl (by omega) (by omega) | exact .sliceH tab_ok rfl rfl rfl (by omega) | exact .sliceL tab_ok rfl rfl rfl (by omega) | (first | exact .indexAddr tab_ok rfl rfl rfl rfl (by omega) | exact .indexAddrN tab_ok rfl rfl rfl rfl (by omega) | exact .indexAddrI tab_ok rfl rfl rfl rfl (toNatLit _) (by decide) (by omega) | exact .indexAddrNI tab_ok rfl rfl rfl rfl (toNatLit _) (by decide) (by omega) | exact .ldR tab_ok rfl rfl hr1 (List.getElem?_eq_getElem (by omega)) | exact .ldR tab_ok rfl rfl hr2 (List.getElem?_eq_getElem (by omega)) | exact ldB tab_ok rfl rfl hb1 (by omega) | exact ldB tab_ok rfl rfl hb2 (by omega)) | exact .sliceHI tab_ok rfl rfl rfl (toNatLit _) (by decide) (by omega) | exact .sliceLI tab_ok rfl rfl rfl (toNatLit _) (by decide) (by omega) | (apply PureAt.ldA tab_ok rfl rfl; (focus repeat first | exact .head _ | apply List.Mem.tail); rfl; rfl) | exact .ldro tab_ok rfl rfl (by assumption)); rfl) | refine VO.skip rfl rfl rfl rfl ?_ | refine VQ.skip rfl rfl rfl rfl ?_ | refine VD.skip rfl rfl rfl rfl rfl ?_ | refine VD.skipM rfl rfl Ent.refl rfl rfl rfl ?_ | ((first | refine VO.step rfl rfl ?_ | refine VD.end rfl rfl rfl ?_ | refine VD.mid rfl rfl rfl ?_); (first | (apply OpV.st tab_ok rfl rfl rfl rfl (by (repeat first | exact .head | apply Hole.tail); first | done | fail) (by first | (simp; done) | fail)) | (refine OpV.box rfl rfl rfl ?_; intro _))) | refine ⟨Ent.re, ?_⟩) | (first | refine VC.seq rfl ?_ | refine VC.region rfl ?_ | refine VC.condT rfl rfl ?_ | refine VC.condF rfl rfl ?_ | refine VC.block rfl ?_ | refine VC.skip rfl ?_ | refine VC.ret rfl ?_ | refine VC.exit rfl ?_ | refine VC.scope rfl ?_ | refine VC.label rfl ?_) | (first | refine VE.next ?_ | refine VE.passRet ?_ | refine VE.passExit ?_ | refine VE.blockNormal ?_ | refine VE.blockHit ?_ | refine VE.blockMiss rfl ?_ | refine VE.blockRet ?_ | refine VE.loopRet ?_ | refine VE.loopExit ?_ | refine VE.scopeNormal ?_ | refine VE.scopeRet ?_ | refine VE.scopeExit ?_))
        (first | (first | refine VO.nil rfl ?_ | refine VQ.nil rfl ?_ | refine VD.nil ?_ | ((first | apply VO.pure rfl rfl | apply VQ.pure rfl rfl | apply VD.take rfl rfl rfl | (refine VD.end rfl rfl rfl ?_; apply OpV.pure)); (first | (apply PureAt.ar64 rfl rfl rfl; omega) | exact .eval tab_ok rfl | (apply PureAt.ld tab_ok rfl rfl; (focus repeat first | exact .head _ | apply List.Mem.tail); rfl) | (apply PureAt.shr rfl rfl (by decide) (by decide)) | (apply PureAt.shr rfl rfl (by omega) (by simp only [IntKind.bits]; omega)) | exact .fieldAddrA tab_ok rfl rfl | exact .sliceLH tab_ok rfl rfl rfl rfl (by omega) (by omega) | exact .sliceH tab_ok rfl rfl rfl (by omega) | exact .sliceL tab_ok rfl rfl rfl (by omega) | (first | exact .indexAddr tab_ok rfl rfl rfl rfl (by omega) | exact .indexAddrN tab_ok rfl rfl rfl rfl (by omega) | exact .indexAddrI tab_ok rfl rfl rfl rfl (toNatLit _) (by decide) (by omega) | exact .indexAddrNI tab_ok rfl rfl rfl rfl (toNatLit _) (by decide) (by omega) | exact .ldR tab_ok rfl rfl hr1 (List.getElem?_eq_getElem (by omega)) | exact .ldR tab_ok rfl rfl hr2 (List.getElem?_eq_getElem (by omega)) | exact ldB tab_ok rfl rfl hb1 (by omega) | exact ldB tab_ok rfl rfl hb2 (by omega)) | exact .sliceHI tab_ok rfl rfl rfl (toNatLit _) (by decide) (by omega) | exact .sliceLI tab_ok rfl rfl rfl (toNatLit _) (by decide) (by omega) | (apply PureAt.ldA tab_ok rfl rfl; (focus repeat first | exact .head _ | apply List.Mem.tail); rfl; rfl) | exact .ldro tab_ok rfl rfl (by assumption)); rfl) | refine VO.skip rfl rfl rfl rfl ?_ | refine VQ.skip rfl rfl rfl rfl ?_ | refine VD.skip rfl rfl rfl rfl rfl ?_ | refine VD.skipM rfl rfl Ent.refl rfl rfl rfl ?_ | ((first | refine VO.step rfl rfl ?_ | refine VD.end rfl rfl rfl ?_ | refine VD.mid rfl rfl rfl ?_); (first | (apply OpV.st tab_ok rfl rfl rfl rfl (by (repeat first | exact .head | apply Hole.tail); first | done | fail) (by first | (simp; done) | fail)) | (refine OpV.box rfl rfl rfl ?_; intro _))) | refine ⟨Ent.re, ?_⟩) | (first | refine VC.seq rfl ?_ | refine VC.region rfl ?_ | refine VC.condT rfl rfl ?_ | refine VC.condF rfl rfl ?_ | refine VC.block rfl ?_ | refine VC.skip rfl ?_ | refine VC.ret rfl ?_ | refine VC.exit rfl ?_ | refine VC.scope rfl ?_ | refine VC.label rfl ?_) | (first | refine VE.next ?_ | refine VE.passRet ?_ | refine VE.passExit ?_ | refine VE.blockNormal ?_ | refine VE.blockHit ?_ | refine VE.blockMiss rfl ?_ | refine VE.blockRet ?_ | refine VE.loopRet ?_ | refine VE.loopExit ?_ | refine VE.scopeNormal ?_ | refine VE.scopeRet ?_ | refine VE.scopeExit ?_))
        (first | (first | refine VO.nil rfl ?_ | refine VQ.nil rfl ?_ | refine VD.nil ?_ | ((first | apply VO.pure rfl rfl | apply VQ.pure rfl rfl | apply VD.take rfl rfl rfl | (refine VD.end rfl rfl rfl ?_; apply OpV.pure)); (first | (apply PureAt.ar64 rfl rfl rfl; omega) | exact .eval tab_ok rfl | (apply PureAt.ld tab_ok rfl rfl; (focus repeat first | exact .head _ | apply List.Mem.tail); rfl) | (apply PureAt.shr rfl rfl (by decide) (by decide)) | (apply PureAt.shr rfl rfl (by omega) (by simp only [IntKind.bits]; omega)) | exact .fieldAddrA tab_ok rfl rfl | exact .sliceLH tab_ok rfl rfl rfl rfl (by omega) (by omega) | exact .sliceH tab_ok rfl rfl rfl (by omega) | exact .sliceL tab_ok rfl rfl rfl (by omega) | (first | exact .indexAddr tab_ok rfl rfl rfl rfl (by omega) | exact .indexAddrN tab_ok rfl rfl rfl rfl (by omega) | exact .indexAddrI tab_ok rfl rfl rfl rfl (toNatLit _) (by decide) (by omega) | exact .indexAddrNI tab_ok rfl rfl rfl rfl (toNatLit _) (by decide) (by omega) | exact .ldR tab_ok rfl rfl hr1 (List.getElem?_eq_getElem (by omega)) | exact .ldR tab_ok rfl rfl hr2 (List.getElem?_eq_getElem (by omega)) | exact ldB tab_ok rfl rfl hb1 (by omega) | exact ldB tab_ok rfl rfl hb2 (by omega)) | exact .sliceHI tab_ok rfl rfl rfl (toNatLit _) (by decide) (by omega) | exact .sliceLI tab_ok rfl rfl rfl (toNatLit _) (by decide) (by omega) | (apply PureAt.ldA tab_ok rfl rfl; (focus repeat first | exact .head _ | apply List.Mem.tail); rfl; rfl) | exact .ldro tab_ok rfl rfl (by assumption)); rfl) | refine VO.skip rfl rfl rfl rfl ?_ | refine VQ.skip rfl rfl rfl rfl ?_ | refine VD.skip rfl rfl rfl rfl rfl ?_ | refine VD.skipM rfl rfl Ent.refl rfl rfl rfl ?_ | ((first | refine VO.step rfl rfl ?_ | refine VD.end rfl rfl rfl ?_ | refine VD.mid rfl rfl rfl ?_); (first | (apply OpV.st tab_ok rfl rfl rfl rfl (by (repeat first | exact .head | apply Hole.tail); first | done | fail) (by first | (simp; done) | fail)) | (refine OpV.box rfl rfl rfl ?_; intro _))) | refine ⟨Ent.re, ?_⟩) | (first | refine VC.seq rfl ?_ | refine VC.region rfl ?_ | refine VC.condT rfl rfl ?_ | refine VC.condF rfl rfl ?_ | refine VC.block rfl ?_ | refine VC.skip rfl ?_ | refine VC.ret rfl ?_ | refine VC.exit rfl ?_ | refine VC.scope rfl ?_ | refine VC.label rfl ?_) | (first | refine VE.next ?_ | refine VE.passRet ?_ | refine VE.passExit ?_ | refine VE.blockNormal ?_ | refine VE.blockHit ?_ | refine VE.blockMiss rfl ?_ | refine VE.blockRet ?_ | refine VE.loopRet ?_ | refine VE.loopExit ?_ | refine VE.scopeNormal ?_ | refine VE.scopeRet ?_ | refine VE.scopeExit ?_))
        refine VO.re 135 (.int .i64 ((e.n + k : Nat) : Int)) rfl (by congr 1) ?_
        (refine w ?_; repeat ((first | refine VO.step rfl rfl ?_ | refine VD.end rfl rfl rfl ?_ | refine VD.mid rfl rfl rfl ?_); refine OpV.box rfl rfl rfl ?_; intro _; refine w ?_))
        (first | refine VO.pure rfl rfl (PureAt.ldR tab_ok rfl rfl hw' hk2) rfl ?_ | refine VD.take rfl rfl rfl (PureAt.ldR tab_ok rfl rfl hw' hk2) rfl ?_ | refine VQ.pure rfl rfl (PureAt.ldR tab_ok rfl rfl hw' hk2) rfl ?_ | refine VD.end rfl rfl rfl (OpV.pure (PureAt.ldR tab_ok rfl rfl hw' hk2) rfl ?_))
        (refine w ?_; repeat ((first | refine VO.step rfl rfl ?_ | refine VD.end rfl rfl rfl ?_ | refine VD.mid rfl rfl rfl ?_); refine OpV.box rfl rfl rfl ?_; intro _; refine w ?_))
        (first | refine VO.pure rfl rfl (shrI rfl rfl (by decide) (by decide)) rfl ?_ | refine VD.take rfl rfl rfl (shrI rfl rfl (by decide) (by decide)) rfl ?_ | refine VQ.pure rfl rfl (shrI rfl rfl (by decide) (by decide)) rfl ?_ | refine VD.end rfl rfl rfl (OpV.pure (shrI rfl rfl (by decide) (by decide)) rfl ?_))
        (refine w ?_; repeat ((first | refine VO.step rfl rfl ?_ | refine VD.end rfl rfl rfl ?_ | refine VD.mid rfl rfl rfl ?_); refine OpV.box rfl rfl rfl ?_; intro _; refine w ?_))
        ((first | refine VO.step rfl rfl ?_ | refine VD.end rfl rfl rfl ?_ | refine VD.mid rfl rfl rfl ?_); refine OpV.buildSlice1 st_47 rfl rfl (by first | (simp; done) | simp [Value.oneCell']) (by decide) rfl ?_; intro n1)
        refine VO.ent (H' := Row n1 5 (bytes (rb2 a k)) :: HH) (by rw [rb_bytes]; exact Ent.refl) ?_
        (refine w ?_; repeat ((first | refine VO.step rfl rfl ?_ | refine VD.end rfl rfl rfl ?_ | refine VD.mid rfl rfl rfl ?_); refine OpV.box rfl rfl rfl ?_; intro _; refine w ?_))
        ((first | refine VO.step rfl rfl ?_ | refine VD.end rfl rfl rfl ?_ | refine VD.mid rfl rfl rfl ?_); refine OpV.call rfl rfl (fun _ _ => by simp) (same_any (a := rb2 a k) (b := rb2 a k) (hpk.ent (Ent.drop Ent.refl)) (Rds.row (bytes_one _) (.head _) (by simp [rb])) (by decide)) Ent.refl rfl ?_)
        intro _ _
        (refine w ?_; repeat ((first | refine VO.step rfl rfl ?_ | refine VD.end rfl rfl rfl ?_ | refine VD.mid rfl rfl rfl ?_); refine OpV.box rfl rfl rfl ?_; intro _; refine w ?_))
        (refine VC.condFe rfl rfl (by simp) ?_)
        (refine w ?_; repeat ((first | refine VO.step rfl rfl ?_ | refine VD.end rfl rfl rfl ?_ | refine VD.mid rfl rfl rfl ?_); refine OpV.box rfl rfl rfl ?_; intro _; refine w ?_))
        exact VE.round (k + 1) hkt (by omega) ⟨rfl, rfl, rfl, rfl, rfl, trivial⟩ (Ent.drop Ent.refl)
      · (refine w ?_; repeat ((first | refine VO.step rfl rfl ?_ | refine VD.end rfl rfl rfl ?_ | refine VD.mid rfl rfl rfl ?_); refine OpV.box rfl rfl rfl ?_; intro _; refine w ?_))
        exact VE.round (a + 1) hlt (by omega) ⟨rfl, rfl, rfl, trivial⟩ Ent.refl
  · (refine w ?_; repeat ((first | refine VO.step rfl rfl ?_ | refine VD.end rfl rfl rfl ?_ | refine VD.mid rfl rfl rfl ?_); refine OpV.box rfl rfl rfl ?_; intro _; refine w ?_))
    (refine VE.done1 rfl ?_ ?_)
    · rfl
    · exact hend
end Rw
end Go.Proofs.Ytpmmkmcbimnigaa

