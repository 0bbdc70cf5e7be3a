import Derived.Test.YtdbhpikmagkopaaGreatM4
import Derived.WalkKit
import Derived.ProofKit
import Derived.OpenShut
/-! Text Ld. -/
set_option maxRecDepth 8000
set_option maxHeartbeats 16000000
set_option linter.unusedVariables false
set_option linter.unusedSimpArgs false
set_option linter.unusedSectionVars false
namespace Go.Proofs.YtdbhpikmagkopaaGreat
open Go.RowKit Go.Sl
theorem byte_of {n : Int} (h : (Lit.int .u8 n).wf = true) : ∃ c : UInt8, n = (c.toNat : Int) := by
 have hb : 0 <= n /\ n <= 255 := by simpa [Lit.wf, IntKind.min, IntKind.max, IntKind.signed, IntKind.bits] using h
 refine ⟨UInt8.ofNat n.toNat, ?_⟩
 simp; omega
end Go.Proofs.YtdbhpikmagkopaaGreat
/-! Text Eo. -/
namespace Go.Proofs.YtdbhpikmagkopaaGreat
open Go.RowKit Go.Sl
attribute [local irreducible] Own
variable {W : World} {R : List SProp}
theorem hdr_same (a b : HdrD) : a = b ↔ a.epoch = b.epoch /\ a.seq = b.seq /\ a.index = b.index /\ a.count = b.count /\ a.member = b.member /\ a.row = b.row /\ a.escaped = b.escaped /\ a.sum = b.sum := by cases a; cases b; simp
theorem cmt_same (a b : CmtD) : a = b ↔ a.epoch = b.epoch /\ a.seq = b.seq /\ a.count = b.count /\ a.sum = b.sum := by cases a; cases b; simp
theorem chk_same (a b : ChkD) : a = b ↔ a.epoch = b.epoch /\ a.seq = b.seq /\ a.tail = b.tail := by cases a; cases b; simp
instance : DecidableEq HdrD := fun a b => decidable_of_iff _ (hdr_same a b).symm
instance : DecidableEq CmtD := fun a b => decidable_of_iff _ (cmt_same a b).symm
instance : DecidableEq ChkD := fun a b => decidable_of_iff _ (chk_same a b).symm
section
variable {W : World} {n : Nat} {H : List SProp} {f : Fr} {dst : Option Tmp} {ty_ : TypeId} {pos : String} {after : Array Edge} {guard : Option (Nat × Bool)} {op : BinOp} {x y : Operand} {u : TypeId} {v : Value}
end
theorem i64_of {z : Int} (h : (Lit.int .i64 z).wf = true) : -9223372036854775808 <= z /\ z <= 9223372036854775807 := by
 simp [Lit.wf, IntKind.min, IntKind.max, IntKind.signed, IntKind.bits] at h; omega
def h0 : HdrD := ⟨1, 2, 0, 2, 3, 5, false, 9⟩
theorem hole_set {R : List SProp} : ∀ (L : List SProp) (i : Nat) (X : SProp), i < L.length -> Hole (L.set i X ++ R) X (fun Y => L.set i Y ++ R)
 | a :: r, 0, X, _ => Hole.head
 | a :: r, i + 1, X, h => Hole.tail (hole_set r i X (by simpa using h))
theorem mem_set {R : List SProp} (L : List SProp) (i : Nat) (X : SProp) (h : i < L.length) : X ∈ L.set i X ++ R := List.mem_append_left _ (List.mem_iff_getElem.2 ⟨i, by rw [List.length_set]; exact h, List.getElem_set_self _⟩)
structure ListE where
  ao : Option Addr
  cap : Nat
  xs : List Value
def ListE.hdr (e : ListE) : Value := .slice e.ao e.xs.length e.cap
def ListE.res (e : ListE) : SProp := Own 5 1 (.slice e.ao e.xs.length e.cap) e.xs.length e.xs
theorem hdrs_one (l : List ListE) : ∀ u ∈ l.map ListE.hdr, u.oneCell' = true := by
 intro u hu; obtain ⟨c, _, rfl⟩ := List.mem_map.1 hu; rfl
def mk (z : Int) : Value := .int .u8 (IntKind.u8.wrap z)
def marks (a m : Nat) : List Value := (List.range m).map fun (k : Nat) => mk ((a : Int) * 97 + (k : Int) * 13)
def marks2 (a m : Nat) : List Value := (List.range m).map fun (k : Nat) => mk ((-1 - (a : Int)) * 97 + (k : Int) * 13)
@[simp] theorem marks_length (a m : Nat) : (marks a m).length = m := by simp [marks]
@[simp] theorem marks2_length (a m : Nat) : (marks2 a m).length = m := by simp [marks2]
theorem marks_succ (a m : Nat) : marks a (m + 1) = marks a m ++ [mk ((a : Int) * 97 + (m : Int) * 13)] := by simp [marks, List.range_succ]
theorem marks2_succ (a m : Nat) : marks2 a (m + 1) = marks2 a m ++ [mk ((-1 - (a : Int)) * 97 + (m : Int) * 13)] := by simp [marks2, List.range_succ]
theorem marks_one (a m : Nat) : ∀ u ∈ marks a m, u.oneCell' = true := by intro u hu; obtain ⟨c, _, rfl⟩ := List.mem_map.1 hu; rfl
theorem marks2_one (a m : Nat) : ∀ u ∈ marks2 a m, u.oneCell' = true := by intro u hu; obtain ⟨c, _, rfl⟩ := List.mem_map.1 hu; rfl
theorem marks_get (a m k : Nat) (h : k < m) : (marks a m)[k]? = some (mk ((a : Int) * 97 + (k : Int) * 13)) := by simp [marks, h]
theorem marks2_get (a m k : Nat) (h : k < m) : (marks2 a m)[k]? = some (mk ((-1 - (a : Int)) * 97 + (k : Int) * 13)) := by simp [marks2, h]
def mkd (E : List ListE) (a : Nat) : List ListE := E.mapIdx fun j e => if j < a then ⟨e.ao, e.cap, marks j e.xs.length⟩ else e
theorem mkd_length (E : List ListE) (a : Nat) : (mkd E a).length = E.length := by simp [mkd]
theorem mkd_get (E : List ListE) (a j : Nat) (h : j < E.length) : (mkd E a)[j]'(by rw [mkd_length]; exact h) = if j < a then ⟨E[j].ao, E[j].cap, marks j E[j].xs.length⟩ else E[j] := by simp [mkd]
theorem mkd_zero (E : List ListE) : mkd E 0 = E := by
 apply List.ext_getElem (mkd_length E 0)
 intro j h1 h2
 rw [mkd_get E 0 j h2, if_neg (Nat.not_lt_zero _)]
theorem mkd_set (E : List ListE) (a : Nat) (h : a < E.length) : (mkd E a).set a ⟨E[a].ao, E[a].cap, marks a E[a].xs.length⟩ = mkd E (a + 1) := by
 apply List.ext_getElem (by rw [List.length_set, mkd_length, mkd_length])
 intro j h1 h2
 have hj : j < E.length := by rwa [mkd_length] at h2
 rw [mkd_get E (a + 1) j hj, List.getElem_set]
 by_cases e : a = j
 · subst e; rw [if_pos rfl, if_pos (by omega)]
 ·
  rw [if_neg e, mkd_get E a j hj]
  by_cases q : j < a
  · rw [if_pos q, if_pos (by omega)]
  · rw [if_neg q, if_neg (by omega)]
def twin (j : Nat) (e : ListE) (g : Option Addr × Nat) (m : Nat) : SProp := TwinR 5 1 e.ao e.cap e.xs.length e.xs g.1 g.2 (e.xs.length + m) (e.xs ++ marks2 j m)
def grs (M : List ListE) (Gs : List (Option Addr × Nat)) : List SProp := M.mapIdx fun j e => match Gs[j]? with
  | some g => twin j e g 16
  | none => e.res
theorem grs_length (M : List ListE) (Gs : List (Option Addr × Nat)) : (grs M Gs).length = M.length := by simp [grs]
theorem grs_nil (M : List ListE) : grs M [] = M.map ListE.res := by
 apply List.ext_getElem (by simp [grs])
 intro j h1 h2
 simp [grs]
theorem grs_get (M : List ListE) (Gs : List (Option Addr × Nat)) (j : Nat) (h : j < M.length) : (grs M Gs)[j]'(by rw [grs_length]; exact h) = match Gs[j]? with
 | some g => twin j M[j] g 16
 | none => M[j].res := by simp [grs]
theorem grs_set (M : List ListE) (Gs : List (Option Addr × Nat)) (g : Option Addr × Nat) (h : Gs.length < M.length) : (grs M Gs).set Gs.length (twin Gs.length M[Gs.length] g 16) = grs M (Gs ++ [g]) := by
 apply List.ext_getElem (by rw [List.length_set, grs_length, grs_length])
 intro j h1 h2
 have hj : j < M.length := by rwa [grs_length] at h2
 rw [List.getElem_set, grs_get M (Gs ++ [g]) j hj]
 by_cases e : Gs.length = j
 ·
  subst e
  rw [if_pos rfl, List.getElem?_append_right (Nat.le_refl _), Nat.sub_self]; rfl
 ·
  rw [if_neg e, grs_get M Gs j hj]
  by_cases q : j < Gs.length
  · rw [List.getElem?_append_left q]
  · rw [List.getElem?_eq_none (by omega), List.getElem?_eq_none (by rw [List.length_append, List.length_singleton]; omega)]
def longH (M : List ListE) (Gs : List (Option Addr × Nat)) : List Value := Gs.mapIdx fun j g => .slice g.1 (((M[j]?).map fun e => e.xs.length).getD 0 + 16) g.2
theorem longH_length (M : List ListE) (Gs : List (Option Addr × Nat)) : (longH M Gs).length = Gs.length := by simp [longH]
theorem longH_snoc (M : List ListE) (Gs : List (Option Addr × Nat)) (g : Option Addr × Nat) (h : Gs.length < M.length) : longH M (Gs ++ [g]) = longH M Gs ++ [.slice g.1 (M[Gs.length].xs.length + 16) g.2] := by
 unfold longH
 rw [List.mapIdx_concat, List.getElem?_eq_getElem h]; rfl
theorem longH_one (M : List ListE) (Gs : List (Option Addr × Nat)) : ∀ u ∈ longH M Gs, u.oneCell' = true := by
 intro u hu
 obtain ⟨i, h, rfl⟩ := List.mem_iff_getElem.1 hu
 simp [longH, Value.oneCell']
theorem Ent.hole {H : List SProp} {X Y : SProp} {C : SProp -> List SProp} (u : Hole H X C) (h : ∀ (R : List SProp) (w : World), Holds W (X :: R) w -> Holds W (Y :: R) w) : Ent W H (C Y) := by
 intro w hw
 obtain ⟨R, p, q⟩ := u.perm
 exact (h R w (hw.perm p)).perm (q _)
theorem TwinR.none {W w : World} {H : List SProp} {e sz k cap k' cap' : Nat} {ao ao' : Option Addr} {xs ys : List Value} (hw : Holds W H w) (m : TwinR e sz ao cap k xs ao' cap' k' ys ∈ H) : (ao = none -> k = 0) /\ (ao' = none -> k' = 0) := by
 obtain ⟨R, p⟩ := mem_perm m
 rcases TwinR.open (hw.perm p) with ⟨⟨e1, e2, e3, e4⟩, h⟩ | h
 ·
  have := h.ownNone (.head _)
  exact ⟨fun q => by have := this (by rw [e1]; exact q); omega, this⟩
 · exact ⟨h.ownNone (.head _), h.ownNone (.tail _ (.head _))⟩
theorem ownbytes_ok {lo : Option Addr} {lc : Nat} {E : List ListE} (hn : E.length <= 1000000000) (hl : ∀ e ∈ E, e.xs.length <= 1000000000) :
  Does1 W Tryz.prog 65 [.slice lo E.length lc] (Own 65 1 (.slice lo E.length lc) E.length (E.map ListE.hdr) :: (E.map ListE.res ++ R)) (.bool true) R := by
 (refine Does.enter Tryz.func65 Tryz.ntmps65 rfl rfl ?_)
 refine VC.know (fun w hw => hw.ownNone zm : ∀ w, _ -> (lo = none -> E.length = 0)) ?_
 intro hln
 refine w ?_
 refine VC.loop (α := Nat) (fun a => a <= E.length) (fun a => Own 65 1 (.slice lo E.length lc) E.length (E.map ListE.hdr) :: ((mkd E a).map ListE.res ++ R))
  (fun a => [(0, .slice lo E.length lc), (3, .int .i64 a)]) (fun a => E.length - a) rfl 0 (Nat.zero_le _) (by rw [mkd_zero]; exact Ent.refl) ⟨rfl, rfl, trivial⟩ ?_
 intro a ha
 refine w ?_
 refine zk ?_ ?_ <;> intro hc
 ·
  have hlt : a < E.length := by have := of_decide_eq_true hc; omega
  obtain ⟨lb, rfl⟩ : ∃ lb, lo = some lb := by cases lo with | none => have := hln rfl; omega | some lb => exact ⟨lb, rfl⟩
  have hla : E[a].xs.length <= 1000000000 := hl _ (List.getElem_mem hlt)
  have hget : (E.map ListE.hdr)[a]? = some (.slice E[a].ao E[a].xs.length E[a].cap) := by rw [List.getElem?_map, List.getElem?_eq_getElem hlt]; rfl
  have hmlen : ((mkd E a).map ListE.res).length = E.length := by rw [List.length_map, mkd_length]
  have hself : (mkd E a).map ListE.res = ((mkd E a).map ListE.res).set a (Own 5 1 (.slice E[a].ao E[a].xs.length E[a].cap) E[a].xs.length (marks a 0 ++ E[a].xs.drop 0)) := by
   have e1 : ((mkd E a).map ListE.res)[a]'(by rw [hmlen]; exact hlt) = Own 5 1 (.slice E[a].ao E[a].xs.length E[a].cap) E[a].xs.length (marks a 0 ++ E[a].xs.drop 0) := by
    rw [List.getElem_map, mkd_get E a a hlt, if_neg (Nat.lt_irrefl _)]; rfl
   rw [<- e1, List.set_getElem_self]
  have hnext : ((mkd E a).map ListE.res).set a (Own 5 1 (.slice E[a].ao E[a].xs.length E[a].cap) E[a].xs.length (marks a E[a].xs.length)) = (mkd E (a + 1)).map ListE.res := by
   rw [<- mkd_set E a hlt, List.map_set]
   congr 1
   unfold ListE.res
   rw [marks_length]
  generalize hL : (mkd E a).map ListE.res = L at *
  refine w ?_
  refine VC.loop (α := Nat) (fun k => k <= E[a].xs.length) (fun k => Own 65 1 (.slice (some lb) E.length lc) E.length (E.map ListE.hdr) :: (L.set a (Own 5 1 (.slice E[a].ao E[a].xs.length E[a].cap) E[a].xs.length (marks a k ++ E[a].xs.drop k)) ++ R))
   (fun k => [(0, .slice (some lb) E.length lc), (3, .int .i64 a), (4, .int .i64 k)]) (fun k => E[a].xs.length - k) rfl 0 (Nat.zero_le _) (by rw [<- hself]; exact Ent.refl) ⟨rfl, rfl, rfl, trivial⟩ ?_
  intro k hk
  refine VC.know (p := E[a].ao = none -> E[a].xs.length = 0) (fun w hw => Holds.ownNone hw (.tail _ (mem_set L a _ (by omega)))) ?_
  intro han
  refine w ?_
  refine VO.pure rfl rfl (PureAt.ldR tab_ok rfl rfl (Rds.own (hdrs_one E) (.head _) (by rw [List.length_map, Nat.mul_one]) (fun h => by cases h)) hget) rfl ?_
  refine w ?_
  refine zk ?_ ?_ <;> intro hc
  ·
   have hkt : k < E[a].xs.length := by have := of_decide_eq_true hc; omega
   obtain ⟨xa, hxa⟩ : ∃ xa, E[a].ao = some xa := by cases h : E[a].ao with | none => have := han h; omega | some xa => exact ⟨xa, rfl⟩
   rw [hxa] at hget ⊢
   refine w ?_
   refine VO.pure rfl rfl (PureAt.ldR tab_ok rfl rfl (Rds.own (hdrs_one E) (.head _) (by rw [List.length_map, Nat.mul_one]) (fun h => by cases h)) hget) rfl ?_
   refine w ?_
   refine zq ?_
   refine OpV.stO tab_ok rfl rfl rfl rfl (.tail (hole_set L a _ (by omega))) (by rw [List.length_append, marks_length, List.length_drop]; omega) ?_
   have hset : (marks a k ++ E[a].xs.drop k).set k (.int .u8 (IntKind.u8.wrap ((a : Int) * 97 + (k : Int) * 13))) = marks a (k + 1) ++ E[a].xs.drop (k + 1) := by
    rw [List.set_append_right _ _ (by rw [marks_length]; exact Nat.le_refl _), marks_length, Nat.sub_self, List.drop_eq_getElem_cons hkt, List.set_cons_zero, marks_succ, List.append_assoc]; rfl
   rw [hset]
   refine w ?_
   exact VE.round (k + 1) hkt (by omega) ⟨rfl, rfl, rfl, trivial⟩ Ent.refl
  ·
   have hge : k = E[a].xs.length := by have := of_decide_eq_false hc; omega
   rw [hge, List.drop_length, List.append_nil, hnext]
   refine w ?_
   exact VE.round (a + 1) hlt (by omega) ⟨rfl, rfl, trivial⟩ Ent.refl
 have hge : a = E.length := by have := of_decide_eq_false hc; omega
 subst hge
 clear hc ha
 -- every list is marked
 obtain ⟨M, hM⟩ : ∃ M, M = mkd E E.length := ⟨_, rfl⟩
 have hML : M.length = E.length := by rw [hM]; exact mkd_length _ _
 have hMg : ∀ j (h : j < M.length), M[j] = ⟨(E[j]'(by omega)).ao, (E[j]'(by omega)).cap, marks j (E[j]'(by omega)).xs.length⟩ := fun j h => by
  subst hM; rw [mkd_get E _ j (by omega), if_pos (by omega)]
 have hMh : E.map ListE.hdr = M.map ListE.hdr := by
  apply List.ext_getElem (by simp [hML])
  intro j h1 h2
  have hj : j < M.length := by simpa using h2
  rw [List.getElem_map, List.getElem_map, hMg j hj]
  simp [ListE.hdr]
 have hMl : ∀ j (h : j < M.length), M[j].xs.length <= 1000000000 /\ M[j].xs = marks j M[j].xs.length := fun j h => by
  rw [hMg j h]; exact ⟨by rw [marks_length]; exact hl _ (List.getElem_mem _), by simp⟩
 refine w ?_
 rw [<- hM, hMh, <- hML]
 rw [<- hML] at hln hn
 clear hMh hMg hl hML hM E
 refine VC.ent (H' := Own 65 1 (.slice none 0 0) 0 (longH M []) :: Own 65 1 (.slice lo M.length lc) M.length (M.map ListE.hdr) :: (grs M [] ++ R)) (fun w hw => by rw [grs_nil]; exact hw.ownNil _ _) ?_
 refine VC.loop (α := List (Option Addr × Nat) × Option Addr × Nat) (fun g => g.1.length <= M.length)
  (fun g => Own 65 1 (.slice g.2.1 g.1.length g.2.2) g.1.length (longH M g.1) :: Own 65 1 (.slice lo M.length lc) M.length (M.map ListE.hdr) :: (grs M g.1 ++ R))
  (fun g => [(0, .slice lo M.length lc), (5, .slice g.2.1 g.1.length g.2.2), (6, .int .i64 g.1.length)]) (fun g => M.length - g.1.length) rfl ([], none, 0) (Nat.zero_le _) Ent.refl ⟨rfl, rfl, rfl, trivial⟩ ?_
 rintro ⟨Gs, go, gc⟩ ha
 dsimp only at ha ⊢
 refine w ?_
 refine zk ?_ ?_ <;> intro hc
 ·
  have hlt : Gs.length < M.length := by have := of_decide_eq_true hc; omega
  obtain ⟨lb, rfl⟩ : ∃ lb, lo = some lb := by cases lo with | none => have := hln rfl; omega | some lb => exact ⟨lb, rfl⟩
  obtain ⟨hla, hxs⟩ := hMl Gs.length hlt
  have hget : (M.map ListE.hdr)[Gs.length]? = some (.slice M[Gs.length].ao M[Gs.length].xs.length M[Gs.length].cap) := by rw [List.getElem?_map, List.getElem?_eq_getElem hlt]; rfl
  have hself : grs M Gs = (grs M Gs).set Gs.length M[Gs.length].res := by
   have e1 : (grs M Gs)[Gs.length]'(by rw [grs_length]; exact hlt) = M[Gs.length].res := by
    rw [grs_get M Gs _ hlt, List.getElem?_eq_none (Nat.le_refl _)]
   rw [<- e1, List.set_getElem_self]
  have hnext (g : Option Addr × Nat) := grs_set M Gs g hlt
  have hlnext (g : Option Addr × Nat) := longH_snoc M Gs g hlt
  have hgl := grs_length M Gs
  generalize hL : grs M Gs = L at *
  refine w ?_
  refine VO.pure rfl rfl (PureAt.ldR tab_ok rfl rfl (Rds.own (hdrs_one M) (.tail _ (.head _)) (by rw [List.length_map, Nat.mul_one]) (fun h => by cases h)) hget) rfl ?_
  refine w ?_
  refine VC.loop (α := Nat × Option Addr × Nat) (fun g => g.1 <= 16)
   (fun g => Own 65 1 (.slice go Gs.length gc) Gs.length (longH M Gs) :: Own 65 1 (.slice (some lb) M.length lc) M.length (M.map ListE.hdr) :: (L.set Gs.length (twin Gs.length M[Gs.length] g.2 g.1) ++ R))
   (fun g => [(0, .slice (some lb) M.length lc), (5, .slice go Gs.length gc), (6, .int .i64 Gs.length), (7, .slice g.2.1 (M[Gs.length].xs.length + g.1) g.2.2), (8, .int .i64 g.1)]) (fun g => 16 - g.1) rfl (0, M[Gs.length].ao, M[Gs.length].cap) (Nat.zero_le _)
   (by
    rw [hself, List.set_set]
    refine Ent.hole (Hole.tail (Hole.tail (hole_set L Gs.length _ (by omega)))) (fun R w hw => ?_)
    have := TwinR.start hw
    simpa [twin, marks2] using this) ⟨rfl, rfl, rfl, rfl, rfl, trivial⟩ ?_
  rintro ⟨k, xo, xc⟩ hk
  dsimp only at hk ⊢
  refine w ?_
  refine zk ?_ ?_ <;> intro hc
  ·
   have hkt : k < 16 := by have := of_decide_eq_true hc; omega
   refine w ?_
   (refine zq ?_; refine OpV.buildSlice1 st_65 rfl rfl (by first | (simp; done) | simp [Value.oneCell']) (by decide) rfl ?_; intro nb)
   refine zq ?_
   refine OpV.appendT (news := [mk ((-1 - (Gs.length : Int)) * 97 + (k : Int) * 13)]) (m := 1) st_65 rfl rfl (.tail (.tail (.tail (hole_set L Gs.length _ (by omega))))) (fun w hw => (Sees.row (ys := []) (by simp [mk, Value.oneCell']) rfl hw (.head _)).src st_65.und) ?_ ?_ rfl ?_
   · simp only [maxLen]; omega
   · omega
   intro xo' xc'
   refine w ?_
   refine VE.round (k + 1, xo', xc') hkt (by simp only; omega) ⟨rfl, rfl, rfl, rfl, rfl, trivial⟩ ?_
   unfold twin
   rw [marks2_succ, <- List.append_assoc]
   exact Reord.ent (Reord.drop .refl)
  ·
   have hge : k = 16 := by have := of_decide_eq_false hc; omega
   subst hge
   rw [hnext]
   refine w ?_
   (refine zq ?_; refine OpV.buildSlice1 st_43 rfl rfl (by first | (simp; done) | simp [Value.oneCell']) (by decide) rfl ?_; intro nb)
   (refine zq ?_; refine OpV.appendRow st_43 rfl rfl zh zm rfl (by first | (simp; done) | simp [Value.oneCell']) ?_ ?_ rfl ?_)
   · simp only [maxLen]; omega
   · omega
   intro go' gc'
   rw [<- hlnext (xo, xc)]
   refine w ?_
   refine VE.round (Gs ++ [(xo, xc)], go', gc') (by rw [List.length_append]; exact hlt) (by simp only [List.length_append, List.length_singleton]; omega) ⟨rfl, asV rfl (by rw [List.length_append]; rfl), asV rfl (by rw [List.length_append]; rfl), trivial⟩ ?_
   dsimp only
   rw [List.length_append]
   exact Ent.re
 have hge : Gs.length = M.length := by have := of_decide_eq_false hc; omega
 clear hc ha
 refine w ?_
 refine VC.know (p := go = none -> Gs.length = 0) (fun w hw => Holds.ownNone hw (.head _)) ?_
 intro hgn
 generalize hH : (Own 65 1 (.slice go Gs.length gc) Gs.length (longH M Gs) :: Own 65 1 (.slice lo M.length lc) M.length (M.map ListE.hdr) :: (grs M Gs ++ R)) = HH
 have hr1 : Rds W HH 1 lo M.length (M.map ListE.hdr) := by subst hH; exact Rds.own (hdrs_one M) (.tail _ (.head _)) (by rw [List.length_map, Nat.mul_one]) hln
 have hr2 : Rds W HH 1 go Gs.length (longH M Gs) := by subst hH; exact Rds.own (longH_one M Gs) (.head _) (by rw [longH_length, Nat.mul_one]) hgn
 have hend : Ent W HH R := by
  subst hH
  exact Ent.drop (Ent.drop (fun w hw => by
   have : ∀ (X : List SProp) w, Holds W (X ++ R) w -> Holds W R w := fun X => by
    induction X with
    | nil => exact fun w h => h
    | cons a r ih => exact fun w h => ih w h.tail
   exact this _ w hw))
 have htw : ∀ a (h : a < M.length), twin a M[a] (Gs[a]'(by omega)) 16 ∈ HH := fun a h => by
  subst hH
  refine .tail _ (.tail _ (List.mem_append_left _ (List.mem_iff_getElem.2 ⟨a, by rw [grs_length]; exact h, ?_⟩)))
  rw [grs_get M Gs a h, List.getElem?_eq_getElem (by omega)]
 have hlg : ∀ a (h : a < M.length), (longH M Gs)[a]? = some (.slice (Gs[a]'(by omega)).1 (M[a].xs.length + 16) (Gs[a]'(by omega)).2) := fun a h => by
  unfold longH
  rw [List.getElem?_mapIdx, List.getElem?_eq_getElem h, List.getElem?_eq_getElem (l := Gs) (by omega)]; rfl
 clear hH
 refine VC.loop (α := Nat) (fun a => a <= M.length) (fun _ => HH)
  (fun a => [(0, .slice lo M.length lc), (5, .slice go Gs.length gc), (9, .int .i64 a)]) (fun a => M.length - a) rfl 0 (Nat.zero_le _) Ent.refl ⟨rfl, rfl, rfl, trivial⟩ ?_
 intro a ha
 refine w ?_
 refine zk ?_ ?_ <;> intro hc
 ·
  have hlt : a < M.length := by have := of_decide_eq_true hc; omega
  obtain ⟨lb, rfl⟩ : ∃ lb, lo = some lb := by cases lo with | none => have := hln rfl; omega | some lb => exact ⟨lb, rfl⟩
  obtain ⟨gb, rfl⟩ : ∃ gb, go = some gb := by cases go with | none => have := hgn rfl; omega | some gb => exact ⟨gb, rfl⟩
  obtain ⟨hla, hxs⟩ := hMl a hlt
  have hget : (M.map ListE.hdr)[a]? = some (.slice M[a].ao M[a].xs.length M[a].cap) := by rw [List.getElem?_map, List.getElem?_eq_getElem hlt]; rfl
  have htw := htw a hlt
  have hlg := hlg a hlt
  have hgl : a < Gs.length := by omega
  generalize Gs[a] = g at *
  generalize M[a] = e at *
  have h1 : ∀ u ∈ e.xs, u.oneCell' = true := by rw [hxs]; exact marks_one _ _
  have h2 : ∀ u ∈ e.xs ++ marks2 a 16, u.oneCell' = true := fun u hu => by
   rcases List.mem_append.1 hu with q | q
   · exact h1 u q
   · exact marks2_one _ _ u q
  refine VC.know (fun w hw => TwinR.none hw htw) ?_
  rintro ⟨hon, hnn⟩
  have ho : Rds W HH 1 e.ao e.xs.length e.xs := TwinR.rdsOld htw h1 (by rw [Nat.mul_one]) hon
  have hw' : Rds W HH 1 g.1 (e.xs.length + 16) (e.xs ++ marks2 a 16) := TwinR.rdsNew htw h2 (by rw [List.length_append, marks2_length, Nat.mul_one]) hnn
  obtain ⟨gx, hgx⟩ : ∃ gx, g.1 = some gx := by cases h : g.1 with | none => have := hnn h; omega | some gx => exact ⟨gx, rfl⟩
  rw [hgx] at hlg hw'
  refine w ?_
  refine VO.pure rfl rfl (PureAt.ldR tab_ok rfl rfl hr1 hget) rfl ?_
  refine w ?_
  refine VC.loop (α := Nat) (fun k => k <= e.xs.length) (fun _ => HH)
   (fun k => [(0, .slice (some lb) M.length lc), (5, .slice (some gb) Gs.length gc), (9, .int .i64 a), (10, .int .i64 e.xs.length), (11, .int .i64 k)]) (fun k => e.xs.length - k) rfl 0 (Nat.zero_le _) Ent.refl ⟨rfl, rfl, rfl, rfl, rfl, trivial⟩ ?_
  intro k hk
  refine w ?_
  refine zk ?_ ?_ <;> intro hc
  ·
   have hkt : k < e.xs.length := by have := of_decide_eq_true hc; omega
   obtain ⟨ox, hox⟩ : ∃ ox, e.ao = some ox := by cases h : e.ao with | none => have := hon h; omega | some ox => exact ⟨ox, rfl⟩
   rw [hox] at hget ho
   have hk1 : e.xs[k]? = some (mk ((a : Int) * 97 + (k : Int) * 13)) := by rw [hxs]; exact marks_get a _ k hkt
   have hk2 : (e.xs ++ marks2 a 16)[k]? = some (mk ((a : Int) * 97 + (k : Int) * 13)) := by rw [List.getElem?_append_left hkt]; exact hk1
   refine w ?_
   refine VO.pure rfl rfl (PureAt.ldR tab_ok rfl rfl hr1 hget) rfl ?_
   refine w ?_
   refine VO.pure rfl rfl (PureAt.ldR tab_ok rfl rfl ho hk1) rfl ?_
   refine w ?_
   (first | refine VO.gF rfl rfl rfl (by simp) ?_ | refine VD.gF rfl rfl rfl (by simp) ?_)
   refine w ?_
   refine VO.pure rfl rfl (PureAt.ldR tab_ok rfl rfl hr2 hlg) rfl ?_
   refine w ?_
   refine VO.pure rfl rfl (PureAt.ldR tab_ok rfl rfl hw' hk2) rfl ?_
   refine w ?_
   (refine VC.condFe rfl rfl (by simp) ?_)
   refine w ?_
   exact VE.round (k + 1) hkt (by omega) ⟨rfl, rfl, rfl, rfl, rfl, trivial⟩ Ent.refl
  ·
   refine w ?_
   refine VC.loop (α := Nat) (fun k => k <= 16) (fun _ => HH)
    (fun k => [(0, .slice (some lb) M.length lc), (5, .slice (some gb) Gs.length gc), (9, .int .i64 a), (10, .int .i64 e.xs.length), (12, .int .i64 k)]) (fun k => 16 - k) rfl 0 (Nat.zero_le _) Ent.refl ⟨rfl, rfl, rfl, rfl, rfl, trivial⟩ ?_
   intro k hk
   refine w ?_
   refine zk ?_ ?_ <;> intro hc
   ·
    have hkt : k < 16 := by have := of_decide_eq_true hc; omega
    have hk2 : (e.xs ++ marks2 a 16)[e.xs.length + k]? = some (mk ((-1 - (a : Int)) * 97 + (k : Int) * 13)) := by
     rw [List.getElem?_append_right (by omega), Nat.add_sub_cancel_left]; exact marks2_get a 16 k hkt
    refine w ?_
    refine VO.pure rfl rfl (PureAt.ldR tab_ok rfl rfl hr2 hlg) rfl ?_
    refine zv ?_
    refine zv ?_
    refine zv ?_
    refine VO.re 124 (.int .i64 ((e.xs.length + k : Nat) : Int)) rfl (by congr 1) ?_
    refine w ?_
    refine VO.pure rfl rfl (PureAt.ldR tab_ok rfl rfl hw' hk2) rfl ?_
    refine w ?_
    (refine VC.condFe rfl rfl (by simp) ?_)
    refine w ?_
    exact VE.round (k + 1) hkt (by omega) ⟨rfl, rfl, rfl, rfl, rfl, trivial⟩ Ent.refl
   ·
    refine w ?_
    exact VE.round (a + 1) hlt (by omega) ⟨rfl, rfl, rfl, trivial⟩ Ent.refl
 ·
  refine w ?_
  refine VE.done1 rfl ?_ ?_
  · rfl
  · exact hend
def lentV (l : List UInt8) : List Value := bytes l ++ [.int .u8 91, .int .u8 92]
theorem lentV_one (l : List UInt8) : ∀ u ∈ lentV l, u.oneCell' = true := by
 intro u hu
 rcases List.mem_append.1 hu with h | h
 · exact bytes_one _ u h
 · simp only [List.mem_cons, List.not_mem_nil, or_false] at h; rcases h with h | h <;> subst h <;> rfl
@[simp] theorem lentV_length (l : List UInt8) : (lentV l).length = l.length + 2 := by simp [lentV]
abbrev LentO (a : Addr) (cap : Nat) (l : List UInt8) : SProp := Own 5 1 (.slice (some a) (l.length + 2) cap) (l.length + 2) (lentV l)
theorem LentO.rds {a : Addr} {cap : Nat} {l : List UInt8} : Rds W (LentO a cap l :: R) 1 (some a) l.length (bytes l) := by
 have h := Rds.take (l := l.length) (Rds.own (W := W) (H := LentO a cap l :: R) (lentV_one l) (.head _) (by rw [lentV_length, Nat.mul_one]) (fun h => by cases h)) (by omega)
 rw [Nat.mul_one, lentV, List.take_left' (by simp)] at h
 exact h
theorem lent_ok {ao : Option Addr} {cap : Nat} {l : List UInt8} (hb : RdsA W 1 ao l.length (bytes l)) (hl : l.length <= 1000000000) :
  Does W Tryz.prog 113 [.slice ao l.length cap] R (β := Addr × Nat) (fun _ => True) (fun x => .slice (some x.1) l.length x.2) (fun x => LentO x.1 x.2 l :: R) := by
 (refine Does.enter Tryz.func113 Tryz.ntmps113 rfl rfl ?_)
 refine w ?_
 refine VO.re 7 (.int .i64 ((l.length + 2 : Nat) : Int)) rfl (by congr 1) ?_
 refine zq ?_
 refine OpV.makeCap (m := l.length + 2) st_65 rfl rfl (by omega) (by simp only [maxLen]; omega) rfl ?_
 intro nb
 refine w ?_
 refine zq ?_
 refine OpV.append st_65 rfl rfl zh (fun w hw => ((hb _).sees hw).src st_65.und) (by simp only [maxLen]; omega) (by omega) rfl ?_
 intro ao1 cap1
 simp only [Nat.zero_add, List.nil_append]
 refine w ?_
 (refine zq ?_; refine OpV.buildSlice1 st_65 rfl rfl (by first | (simp; done) | simp [Value.oneCell']) (by decide) rfl ?_; intro nb)
 (refine zq ?_; refine OpV.appendRow st_65 rfl rfl zh zm rfl (by first | (simp; done) | simp [Value.oneCell']) ?_ ?_ rfl ?_)
 · simp only [maxLen]; omega
 · omega
 intro ao2 cap2
 refine VO.know (p := ao2 = none -> l.length + 2 = 0) (fun w hw => Holds.ownNone hw (.tail _ (.head _))) ?_
 intro hnn
 refine VO.know (p := l.length + 2 <= cap2) (fun w hw => Holds.ownCap hw (.tail _ (.head _))) ?_
 intro hcc
 obtain ⟨a2, rfl⟩ : ∃ a, ao2 = some a := by cases ao2 with | none => have := hnn rfl; omega | some a => exact ⟨a, rfl⟩
 refine w ?_
 refine VE.done (a2, cap2) rfl trivial rfl ?_
 exact Ent.re
theorem whole_ok {ao : Option Addr} {a : Addr} {cap cap2 : Nat} {l : List UInt8} (hb : RdsA W 1 ao l.length (bytes l)) (hl : l.length <= 1000000000) :
  Does1 W Tryz.prog 114 [.slice (some a) l.length cap, .slice ao l.length cap2] (LentO a cap l :: R) (.bool true) (LentO a cap l :: R) := by
 have hr : Rds W (LentO a cap l :: R) 1 (some a) (l.length + 2) (lentV l) := Rds.own (lentV_one l) (.head _) (by rw [lentV_length, Nat.mul_one]) (fun h => by cases h)
 (refine Does.enter Tryz.func114 Tryz.ntmps114 rfl rfl ?_)
 refine VC.know (p := l.length + 2 <= cap) (fun w hw => Holds.ownCap hw (.head _)) ?_
 intro hcc
 refine w ?_
 (refine VC.condFe rfl rfl (by simp; omega) ?_)
 refine w ?_
 refine VO.re 5 (.slice (some a) (l.length + 2) cap) rfl rfl ?_
 refine VO.re 17 (.slice (some a) (l.length + 2) cap) rfl rfl ?_
 refine w ?_
 refine VO.pure rfl rfl (PureAt.ldR tab_ok rfl rfl hr (show (lentV l)[l.length]? = some (.int .u8 91) by simp [lentV, List.getElem?_append_right])) rfl ?_
 refine w ?_
 refine VO.re 27 (.int .i64 ((l.length + 1 : Nat) : Int)) rfl rfl ?_
 refine w ?_
 refine VO.pure rfl rfl (PureAt.ldR tab_ok rfl rfl hr (show (lentV l)[l.length + 1]? = some (.int .u8 92) by simp [lentV, List.getElem?_append_right])) rfl ?_
 refine w ?_
 (refine zq ?_; refine zy rfl rfl (same_any (a := l) (b := l) LentO.rds (hb _) (by simp only [maxLen]; omega)) ?_; intro _ _)
 refine w ?_
 refine VE.done1 rfl ?_ ?_
 · simp
 · exact Ent.refl
theorem Holds.ownFull {W w : World} {R : List SProp} {e m cap : Nat} {a : Addr} {xs : List Value} (hw : Holds W (Own e 1 (.slice (some a) m cap) m xs :: R) w) : ∃ ys : { ys : List Value // ys.length = cap /\ cap <= maxLen }, Holds W (Own e 1 (.slice (some a) cap cap) cap ys.1 :: R) w := by
 obtain ⟨hl, hv⟩ := hw.ownOpen
 rcases hv with ⟨he, rfl, hR⟩ | ⟨b, cap0, spare, he, hn, hm, hc, hR⟩
 · cases he
 ·
  cases he
  refine ⟨⟨xs ++ spare, by rw [hc, Nat.mul_one], hm⟩, ?_⟩
  exact Holds.ownShut (spare := []) hc (Nat.le_refl _) hm (by rw [List.append_nil]; exact hc) (by rw [List.append_nil]; exact hR)
theorem spoil_ok {a : Addr} {n m cap : Nat} {xs : List Value} (hn : n <= cap) :
  Does1 W Tryz.prog 115 [.slice (some a) n cap] (Own 5 1 (.slice (some a) m cap) m xs :: R) (.tuple #[]) R := by
 (refine Does.enter Tryz.func115 Tryz.ntmps115 rfl rfl ?_)
 refine VC.obtain (fun w => Holds.ownFull) ?_
 rintro ⟨ys, hy, hcm⟩
 dsimp only
 simp only [maxLen] at hcm
 refine w ?_
 refine VC.loop (α := Nat × List Value) (fun g => g.1 <= cap /\ g.2.length = cap) (fun g => Own 5 1 (.slice (some a) cap cap) cap g.2 :: R)
  (fun g => [(2, .slice (some a) cap cap), (3, .int .i64 g.1)]) (fun g => cap - g.1) rfl (0, ys) ⟨Nat.zero_le _, hy⟩ Ent.refl ⟨rfl, rfl, trivial⟩ ?_
 rintro ⟨i, zs⟩ ⟨hi, hz⟩
 dsimp only at hi hz ⊢
 refine w ?_
 refine zk ?_ ?_ <;> intro hc
 ·
  have hlt : i < cap := by have := of_decide_eq_true hc; omega
  refine w ?_
  refine zq ?_
  refine OpV.stO tab_ok rfl rfl rfl rfl .head (by omega) ?_
  refine w ?_
  exact VE.round (i + 1, _) ⟨hlt, by rw [List.length_set]; exact hz⟩ (by simp only; omega) ⟨rfl, rfl, trivial⟩ Ent.refl
 ·
  refine w ?_
  (refine VE.done1N rfl ?_ ?_)
  · rfl
  · exact Ent.drop Ent.refl
theorem ownTexts_nil : Does1 W Tryz.prog 66 [.slice none 0 0] R (.bool true) R := by
 (refine Does.enter Tryz.func66 Tryz.ntmps66 rfl rfl ?_)
 refine w ?_
 refine VC.once rfl ?_
 refine w ?_
 refine VC.once rfl ?_
 refine w ?_
 refine VC.once rfl ?_
 refine w ?_
 (first | exact VE.done1 rfl rfl Ent.refl | exact VE.done1N rfl rfl Ent.refl)
theorem ownInts_nil : Does1 W Tryz.prog 67 [.slice none 0 0] R (.bool true) R := by
 (refine Does.enter Tryz.func67 Tryz.ntmps67 rfl rfl ?_)
 refine w ?_
 refine VC.once rfl ?_
 refine w ?_
 refine VC.once rfl ?_
 refine w ?_
 refine VC.once rfl ?_
 refine w ?_
 (first | exact VE.done1 rfl rfl Ent.refl | exact VE.done1N rfl rfl Ent.refl)
theorem ownNumbers_nil : Does1 W Tryz.prog 68 [.slice none 0 0] R (.bool true) R := by
 (refine Does.enter Tryz.func68 Tryz.ntmps68 rfl rfl ?_)
 refine w ?_
 refine VC.once rfl ?_
 refine w ?_
 refine VC.once rfl ?_
 refine w ?_
 refine VC.once rfl ?_
 refine w ?_
 (first | exact VE.done1 rfl rfl Ent.refl | exact VE.done1N rfl rfl Ent.refl)
theorem ownErrs_nil : Does1 W Tryz.prog 69 [.slice none 0 0] R (.bool true) R := by
 (refine Does.enter Tryz.func69 Tryz.ntmps69 rfl rfl ?_)
 refine w ?_
 refine VC.once rfl ?_
 refine w ?_
 refine VC.once rfl ?_
 refine w ?_
 refine VC.once rfl ?_
 refine w ?_
 (first | exact VE.done1 rfl rfl Ent.refl | exact VE.done1N rfl rfl Ent.refl)
theorem ownSpans_nil : Does1 W Tryz.prog 70 [.slice none 0 0] R (.bool true) R := by
 (refine Does.enter Tryz.func70 Tryz.ntmps70 rfl rfl ?_)
 refine w ?_
 refine VC.once rfl ?_
 refine w ?_
 refine VC.once rfl ?_
 refine w ?_
 refine VC.once rfl ?_
 refine w ?_
 (first | exact VE.done1 rfl rfl Ent.refl | exact VE.done1N rfl rfl Ent.refl)
theorem ownStates_nil : Does1 W Tryz.prog 71 [.slice none 0 0] R (.bool true) R := by
 (refine Does.enter Tryz.func71 Tryz.ntmps71 rfl rfl ?_)
 refine w ?_
 refine VC.once rfl ?_
 refine w ?_
 refine VC.once rfl ?_
 refine w ?_
 refine VC.once rfl ?_
 refine w ?_
 (first | exact VE.done1 rfl rfl Ent.refl | exact VE.done1N rfl rfl Ent.refl)
theorem ownBools_nil : Does1 W Tryz.prog 72 [.slice none 0 0] R (.bool true) R := by
 (refine Does.enter Tryz.func72 Tryz.ntmps72 rfl rfl ?_)
 refine w ?_
 refine zq ?_
 refine OpV.makeSlice1 (m := 0) st_50 rfl rfl rfl (by decide) (by decide) rfl ?_
 intro nb
 refine w ?_
 refine VC.once rfl ?_
 refine w ?_
 refine VO.pure rfl rfl (PureAt.shl rfl rfl (by decide)) rfl ?_
 refine w ?_
 refine VE.done1 rfl ?_ ?_
 · rfl
 · exact Ent.re
theorem ownPuts_nil : Does1 W Tryz.prog 74 [.slice none 0 0] R (.bool true) R := by
 (refine Does.enter Tryz.func74 Tryz.ntmps74 rfl rfl ?_)
 refine w ?_
 refine VC.once rfl ?_
 refine w ?_
 refine VC.once rfl ?_
 refine w ?_
 refine VC.once rfl ?_
 refine w ?_
 (first | exact VE.done1 rfl rfl Ent.refl | exact VE.done1N rfl rfl Ent.refl)
abbrev bookRow (lo : Option Addr) (n lc : Nat) : List Value := .slice lo n lc :: List.replicate 11 (.slice none 0 0)
def BookR (b : Nat) (E : List ListE) : SProp := ex fun x : Option Addr × Nat => Sl.star (Row b 56 (bookRow x.1 E.length x.2) :: Own 65 1 (.slice x.1 E.length x.2) E.length (E.map ListE.hdr) :: E.map ListE.res)
theorem BookR.open {W w : World} {b : Nat} {E : List ListE} {R : List SProp} (hw : Holds W (BookR b E :: R) w) : ∃ x : Option Addr × Nat, Holds W (Row b 56 (bookRow x.1 E.length x.2) :: Own 65 1 (.slice x.1 E.length x.2) E.length (E.map ListE.hdr) :: (E.map ListE.res ++ R)) w := by
 obtain ⟨x, h⟩ := hw.exOpen
 exact ⟨x, h.join⟩
theorem BookR.shut {W w : World} {b lc : Nat} {lo : Option Addr} {E : List ListE} {R : List SProp} (hw : Holds W (Row b 56 (bookRow lo E.length lc) :: Own 65 1 (.slice lo E.length lc) E.length (E.map ListE.hdr) :: (E.map ListE.res ++ R)) w) : Holds W (BookR b E :: R) w :=
 Holds.exShut (lo, lc) (Holds.nest (L := _ :: _ :: E.map ListE.res) hw)
theorem flatMap_byteV (l : List UInt8) : l.flatMap (fun c => [byteV c]) = bytes l := by
 induction l with
 | nil => rfl
 | cons a r ih => simp only [List.flatMap_cons, ih]; rfl
theorem bytesC_of {ao : Option Addr} {n cap : Nat} (h : InT Tryz.prog W 65 [.slice ao n cap]) : ∃ l : List UInt8, l.length = n /\ RdsA W 1 ao n (bytes l) /\ n <= 140737488351232 /\ n <= cap := by
 obtain ⟨l, h1, h2, -, h4, h5⟩ := h.list (fun c : UInt8 => [byteV c]) (fun _ => True) 0 Tryz.underlying65 (by kernel_rfl) (fun o _ u hu => by simp at hu; subst hu; rfl) (fun cs hc => by
  obtain ⟨m, rfl, hw⟩ := hc.int_inv Tryz.underlying5
  obtain ⟨c, rfl⟩ := byte_of hw
  exact ⟨c, rfl, trivial⟩)
 have b1 : Tryz.prog.bytesOf 5 = 1 := by kernel_rfl
 rw [b1] at h5
 rw [flatMap_byteV] at h2
 exact ⟨l, h1, h2, by simp only [reachBytes] at h5; omega, h4⟩
structure KeepD where
  ao : Option Addr
  cap : Nat
  l : List Bool
abbrev KeepD.hdr (x : KeepD) : Value := .slice x.ao x.l.length x.cap
structure Keeps (W : World) (R : List SProp) (ao : Option Addr) (kl : List KeepD) : Prop where
  rds : Rds W R 1 ao kl.length (kl.map KeepD.hdr)
  wf : ∀ x ∈ kl, Rds W R 1 x.ao x.l.length (bools x.l)
theorem Keeps.ent {H R : List SProp} {ao : Option Addr} {kl : List KeepD} (h : Keeps W R ao kl) (e : Ent W H R) : Keeps W H ao kl := ⟨h.rds.ent e, fun x hx => (h.wf x hx).ent e⟩
def SlotD.cut (s : SlotD) (l : List Bool) : SlotD :=
  if s.coming.isSome then ⟨s.coming, s.aside, none⟩ else ⟨s.in_.map fun v => ⟨v.k.settle (keepOf l), v.worn, v.left⟩, s.aside, none⟩
def BayD.cut (D : BayD) (kl : List (List Bool)) : BayD := { D with slots := D.slots.mapIdx fun i s => s.cut (kl.getD i []), dark := false, trip := -1 }
theorem cut_step (sl : List SlotD) (kl : List (List Bool)) (i : Nat) (h : i < sl.length) : (sl.mapIdx fun j s => s.cut (kl.getD j [])).take (i + 1) = (sl.mapIdx fun j s => s.cut (kl.getD j [])).take i ++ [sl[i].cut (kl.getD i [])] := by
 rw [List.take_succ_eq_append_getElem (by simpa using h)]
 simp
theorem bayInR {b n : Nat} {D : BayD} {a : Addr} {l1 l2 : List SlotP} {R : List SProp} (s' : SlotP) (hn : (l1 ++ s' :: l2).length = n) :
  Ent W (devRes s'.in_ :: devRes s'.aside :: devRes s'.coming :: bayRow b D a n :: Own 124 3 (.slice (some a) n n) n ((l1 ++ s' :: l2).flatMap slotCells) :: ((l1 ++ l2).map slotRes ++ R))
   (bayRow b D a n :: Own 124 3 (.slice (some a) n n) n ((l1 ++ s' :: l2).flatMap slotCells) :: ((l1 ++ s' :: l2).map slotRes ++ R)) := by
 subst hn
 exact bayIn
theorem baycut_ok {ao : Option Addr} {cap : Nat} {kl : List KeepD} (b : Nat) (D : BayD) (hk : Keeps W R ao kl) :
    Does1 W Tryz.prog 12 [.pointer (some ⟨b, 0, none⟩), .slice ao kl.length cap] (BayR b D :: R) (.tuple #[]) (BayR b (D.cut (kl.map KeepD.l)) :: R) := by
  (refine Does.enter Tryz.func12 Tryz.ntmps12 rfl rfl ?_)
  refine VC.obtain (fun w => BayR.open) ?_
  rintro ⟨⟨a, sp⟩, h1, h2⟩
  dsimp only at h1 h2 ⊢
  have hl : D.slots.length = sp.length := by rw [h1, List.length_map]
  refine w ?_
  refine VC.loop (α := List SlotP) (fun dn => dn.length <= sp.length /\ dn.map SlotP.D = (D.cut (kl.map KeepD.l)).slots.take dn.length)
    (fun dn => bayRow b D a sp.length :: Own 124 3 (.slice (some a) sp.length sp.length) sp.length ((dn ++ sp.drop dn.length).flatMap slotCells) :: ((dn ++ sp.drop dn.length).map slotRes ++ R))
    (fun dn => [(0, .pointer (some ⟨b, 0, none⟩)), (1, .slice ao kl.length cap), (11, .int .i64 sp.length), (12, .int .i64 dn.length)]) (fun dn => sp.length - dn.length) rfl [] ⟨Nat.zero_le _, rfl⟩ (by simp only [List.length_nil, List.drop_zero, List.nil_append]; exact Ent.re) ⟨rfl, rfl, rfl, rfl, trivial⟩ ?_
  rintro dn ⟨hdn, hdD⟩
  refine w ?_
  refine zk ?_ ?_ <;> intro hc
  · have hlt : dn.length < sp.length := by have := of_decide_eq_true hc; omega
    have hsp := List.drop_eq_getElem_cons hlt
    rw [hsp]
    generalize hs : sp[dn.length] = s at *
    generalize hl2 : sp.drop (dn.length + 1) = l2 at *
    have hn : (dn ++ s :: l2).length = sp.length := by rw [<- hl2]; simp; omega
    have hsD : D.slots[dn.length]'(by omega) = s.D := by simp only [h1, List.getElem_map, hs]
    rw [<- hn]
    have c0 := slots_get (dn ++ s :: l2) dn.length 0 (by simp) (by decide)
    have c2 := slots_get (dn ++ s :: l2) dn.length 2 (by simp) (by decide)
    simp only [List.getElem_append_right (Nat.le_refl _), Nat.sub_self, List.getElem_cons_zero] at c0 c2
    refine w ?_
    refine VO.ent (bayOut (D := D)) ?_
    refine w ?_
    refine VO.pure rfl rfl (.ldRc tab_ok rfl rfl (slots_rds zm) (c0.trans rfl)) rfl ?_
    refine w ?_
    (refine VC.join (α := Option DevP) (fun x => devPtr x = devPtr s.in_ /\ x.map DevP.v = s.D.in_.map fun v => ⟨v.k.settle (keepOf ((kl.map KeepD.l).getD dn.length [])), v.worn, v.left⟩) (fun x => devRes x :: BayX b D a dn s l2 R) (fun _ => [(0, .pointer (some ⟨b, 0, none⟩)), (1, .slice ao kl.length cap), (5, .pointer (some (a.add (dn.length * 3)))), (11, .int .i64 (dn ++ s :: l2).length), (12, .int .i64 dn.length)]) ?_ ?_)
    · intro Q2 jn
      cases hi : s.in_ with
      | none =>
        dsimp only [devPtr, Option.map_none, Option.isNone_none, Bool.not_true]
        refine w ?_
        refine jn.to none ⟨by rw [hi], by rw [show s.D.in_ = s.in_.map DevP.v from rfl, hi]; rfl⟩ ⟨rfl, rfl, rfl, rfl, rfl, trivial⟩ Ent.refl
      | some p =>
        dsimp only [devPtr, Option.map_some, Option.isNone_some, Bool.not_false]
        refine w ?_
        (refine VC.join (α := KeepD) (fun x => x.l = (kl.map KeepD.l).getD dn.length [] /\ Rds W R 1 x.ao x.l.length (bools x.l)) (fun _ => devRes (some p) :: BayX b D a dn s l2 R) (fun x => [(0, .pointer (some ⟨b, 0, none⟩)), (1, .slice ao kl.length cap), (5, .pointer (some (a.add (dn.length * 3)))), (6, x.hdr), (11, .int .i64 (dn ++ s :: l2).length), (12, .int .i64 dn.length)]) ?_ ?_)
        · intro Q3 jn3
          refine zk ?_ ?_ <;> intro hc
          · have hlk : dn.length < kl.length := by have := of_decide_eq_true hc; omega
            have hk2 := hk.ent (Ent.dropAll (W := W) (R := R) (devRes (some p) :: devRes s.aside :: devRes s.coming :: bayRow b D a (dn ++ s :: l2).length :: slotsOwn a (dn ++ s :: l2) :: (dn ++ l2).map slotRes))
            obtain ⟨ka, rfl⟩ : ∃ ka, ao = some ka := by cases ao with | none => have := hk.rds.nil rfl; omega | some ka => exact ⟨ka, rfl⟩
            refine w ?_
            refine VO.pure rfl rfl (.ldRc tab_ok rfl rfl hk2.rds (show (kl.map KeepD.hdr)[dn.length]? = some (kl[dn.length].hdr) by rw [List.getElem?_map, List.getElem?_eq_getElem hlk]; rfl)) rfl ?_
            refine w ?_
            refine jn3.to kl[dn.length] ⟨by simp [List.getD, hlk], hk.wf _ (List.getElem_mem hlk)⟩ ⟨rfl, rfl, rfl, rfl, rfl, rfl, trivial⟩ Ent.refl
          · have hlk : ¬ dn.length < kl.length := by have := of_decide_eq_false hc; omega
            refine w ?_
            refine jn3.to ⟨none, 0, []⟩ ⟨by simp [List.getD, hlk], nilBools⟩ ⟨rfl, rfl, rfl, rfl, rfl, rfl, trivial⟩ Ent.refl
        · rintro x ⟨hx, hxr⟩
          refine w ?_
          refine VO.pure rfl rfl (.ldRc tab_ok rfl rfl (slots_rds zm) (c0.trans (by simp [slotCells, devPtr, hi]; rfl))) rfl ?_
          refine VO.ent (devOut p _) ?_
          refine w ?_
          ((refine zq ?_; refine zd rfl rfl (crash_ok (l := x.l) p.d p.v.k (hxr.ent (Ent.dropAll (W := W) (R := R) (devRow p :: devRes s.aside :: devRes s.coming :: bayRow b D a (dn ++ s :: l2).length :: slotsOwn a (dn ++ s :: l2) :: (dn ++ l2).map slotRes)))) ?_); intro _ _)
          refine w ?_
          refine jn.to (some ⟨p.r, p.d, ⟨p.v.k.settle (keepOf x.l), p.v.worn, p.v.left⟩⟩) ⟨by rw [hi]; rfl, ?_⟩ ⟨rfl, rfl, rfl, rfl, rfl, trivial⟩ ?_
          · rw [show s.D.in_ = s.in_.map DevP.v from rfl, hi, <- hx]; rfl
          · exact Ent.trans Ent.re (devIn ⟨p.r, p.d, ⟨p.v.k.settle (keepOf x.l), p.v.worn, p.v.left⟩⟩ _)
    · rintro x ⟨hx1, hx2⟩
      refine w ?_
      refine VO.pure rfl rfl (.ldRc tab_ok rfl rfl (slots_rds zm) (c2.trans rfl)) rfl ?_
      refine w ?_
      have hcut : ∀ s' : SlotP, s'.D = s.D.cut ((kl.map KeepD.l).getD dn.length []) -> (dn ++ [s']).map SlotP.D = (D.cut (kl.map KeepD.l)).slots.take (dn ++ [s']).length := by
        intro s' hs'
        rw [List.length_append, List.length_singleton, List.map_append, hdD]
        unfold BayD.cut
        rw [cut_step _ _ _ (by omega), hsD, <- hs']; rfl
      have hdr : ∀ s' : SlotP, dn ++ [s'] ++ sp.drop (dn ++ [s']).length = dn ++ s' :: l2 := by intro s'; rw [List.length_append, List.length_singleton, hl2]; simp
      cases hco : s.coming with
      | none =>
        dsimp only [devPtr, Option.map_none, Option.isNone_none, Bool.not_true]
        refine w ?_
        have e1 : slotCells s = slotCells ⟨x, s.aside, none⟩ := by unfold slotCells; rw [hx1, hco]
        refine VE.round (dn ++ [⟨x, s.aside, none⟩]) ⟨by rw [List.length_append, List.length_singleton]; omega, hcut _ ?_⟩ (by rw [hn, List.length_append, List.length_singleton]; omega) ⟨rfl, rfl, rfl, asV rfl (by simp), trivial⟩ ?_
        · unfold SlotD.cut
          rw [show s.D.coming = s.coming.map DevP.v from rfl, hco, if_neg (by simp), <- hx2]; rfl
        · rw [hdr]
          have e2 : (dn ++ s :: l2).flatMap slotCells = (dn ++ ⟨x, s.aside, none⟩ :: l2).flatMap slotCells := by simp only [List.flatMap_append, List.flatMap_cons, e1]
          simp only [BayX, slotsOwn]
          rw [e2, hco]
          exact bayInR ⟨x, s.aside, none⟩ (by simp)
      | some q =>
        dsimp only [devPtr, Option.map_some, Option.isNone_some, Bool.not_false]
        refine w ?_
        refine VO.pure rfl rfl (.ldRc tab_ok rfl rfl (slots_rds zm) (c2.trans (by simp [slotCells, devPtr, hco]; rfl))) rfl ?_
        refine w ?_
        refine zq ?_
        refine OpV.stO2 tab_ok rfl rfl rfl rfl zh (slots_len 0 (by decide)) (slots_in (some q)) ?_
        refine w ?_
        refine zq ?_
        refine OpV.stO2 tab_ok rfl rfl rfl rfl zh (by rw [<- slots_in (s := s) (some q), List.length_set]; exact slots_len 2 (by decide)) (slots_coming none) ?_
        refine w ?_
        refine VE.round (dn ++ [⟨some q, s.aside, none⟩]) ⟨by rw [List.length_append, List.length_singleton]; omega, hcut _ ?_⟩ (by rw [hn, List.length_append, List.length_singleton]; omega) ⟨rfl, rfl, rfl, asV rfl (by simp), trivial⟩ ?_
        · unfold SlotD.cut
          rw [show s.D.coming = s.coming.map DevP.v from rfl, hco, if_pos (by simp)]; rfl
        · rw [hdr]
          refine Ent.trans (devDrop x _) ?_
          rw [hco]
          refine Ent.trans (Ent.re (L := devRes (some q) :: devRes s.aside :: bayRow b D a (dn ++ s :: l2).length :: Own 124 3 (.slice (some a) (dn ++ s :: l2).length (dn ++ s :: l2).length) (dn ++ s :: l2).length ((dn ++ ⟨some q, s.aside, none⟩ :: l2).flatMap slotCells) :: ((dn ++ l2).map slotRes ++ R))) ?_
          refine Ent.trans (devNone _) ?_
          refine Ent.trans (Ent.re (L := devRes (some q) :: devRes s.aside :: devRes none :: bayRow b D a (dn ++ s :: l2).length :: Own 124 3 (.slice (some a) (dn ++ s :: l2).length (dn ++ s :: l2).length) (dn ++ s :: l2).length ((dn ++ ⟨some q, s.aside, none⟩ :: l2).flatMap slotCells) :: ((dn ++ l2).map slotRes ++ R))) ?_
          exact bayInR ⟨some q, s.aside, none⟩ (by simp)
  · refine w ?_
    have hge : dn.length = sp.length := by have := of_decide_eq_false hc; omega
    (refine VE.done1N rfl ?_ ?_)
    · rfl
    · rw [List.drop_eq_nil_of_le (by omega), List.append_nil, <- hge]
      rw [hge, List.take_of_length_le (by unfold BayD.cut; simp [hl])] at hdD
      exact BayR.shut (D := D.cut (kl.map KeepD.l)) hdD.symm (by omega)
def intsI (l : List Int) : List Value := l.map fun n => .int .i64 n
@[simp] theorem intsI_length (l : List Int) : (intsI l).length = l.length := by simp [intsI]
theorem intsI_one (l : List Int) : ∀ u ∈ intsI l, u.oneCell' = true := by
 intro u hu; obtain ⟨c, _, rfl⟩ := List.mem_map.1 hu; rfl
theorem intsI_get (l : List Int) (i : Nat) (h : i < l.length) : (intsI l)[i]? = some (.int .i64 l[i]) := by simp [intsI, h]
def sizeOk (n : Int) : Bool := decide (0 <= n /\ n <= 8192)
def bayE (l : List Int) : Int := if l.length < 1 \/ 17 < l.length then 1 else if l.all sizeOk then 0 else 40
def slotOf (n : Int) : SlotD := if n = 0 then ⟨none, none, none⟩ else ⟨some ⟨.blank n.toNat, false, 0⟩, none, none⟩
def BayD.new (l : List Int) : BayD := ⟨l.map slotOf, false, -1, ⟨0, 0, 0⟩⟩
def noneP : SlotP := ⟨none, none, none⟩
theorem st_slots : SliceT Tryz.prog 118 124 (.agg #[.pointer none, .pointer none, .pointer none]) 3 24 := ⟨by kernel_rfl, by kernel_rfl, rfl, by simp [Value.cells, Value.oneCell']⟩
theorem addSlot {A B : SProp} (dn : List SlotP) (s : SlotP) (R : List SProp) : Ent W (devRes s.in_ :: devRes s.aside :: devRes s.coming :: A :: B :: (dn.map slotRes ++ R)) (A :: B :: ((dn ++ [s]).map slotRes ++ R)) := fun w hw => by
 have h := Holds.nest (L := [devRes s.in_, devRes s.aside, devRes s.coming]) hw
 refine Holds.perm ?_ h
 have p1 : (A :: B :: ((dn ++ [s]).map slotRes ++ R)).Perm (A :: B :: slotRes s :: (dn.map slotRes ++ R)) := by
  refine List.Perm.cons _ (List.Perm.cons _ ?_)
  rw [List.map_append, List.append_assoc]
  exact List.perm_middle
 refine List.Perm.trans ?_ p1.symm
 exact List.Perm.append_right (dn.map slotRes ++ R) (show [slotRes s, A, B].Perm [A, B, slotRes s] from List.perm_append_comm (l₁ := [slotRes s]) (l₂ := [A, B]))
theorem addNone {A B : SProp} (dn : List SlotP) (R : List SProp) : Ent W (A :: B :: (dn.map slotRes ++ R)) (A :: B :: ((dn ++ [noneP]).map slotRes ++ R)) :=
 (((devNone _).trans (devNone _)).trans (devNone _)).trans (addSlot dn noneP R)
theorem baynew_ok {ao : Option Addr} {cap : Nat} {l : List Int} (hr : Rds W R 1 ao l.length (intsI l)) (hlen : l.length <= 1000000000) :
  Does W Tryz.prog 19 [.slice ao l.length cap] R (β := Option Nat) (fun x => x.isSome = decide (bayE l = 0)) (fun x => .tuple #[.pointer (x.map fun b => ⟨b, 0, none⟩), .int .u16 (bayE l)]) (fun x => x.elim R fun b => BayR b (BayD.new l) :: R) := by
 (refine Does.enter Tryz.func19 Tryz.ntmps19 rfl rfl ?_)
 refine w ?_; repeat (refine zj fun _ => ?_; refine w ?_)
 unfold bayE
 refine zg ?_ ?_ <;> intro hb
 ·
  have h : l.length < 1 := by have := of_decide_eq_true hb; omega
  refine w ?_; repeat (refine zj fun _ => ?_; refine w ?_)
  refine VE.done none rfl (by rw [if_pos (Or.inl h)]; rfl) (by rw [if_pos (Or.inl h)]; rfl) Ent.refl
 have h1 : ¬ l.length < 1 := by have := of_decide_eq_false hb; omega
 refine w ?_; repeat (refine zj fun _ => ?_; refine w ?_)
 refine zk ?_ ?_ <;> intro hc
 ·
  have h : 17 < l.length := by have : (17 : Int) < l.length := (by simpa using hc); omega
  refine w ?_; repeat (refine zj fun _ => ?_; refine w ?_)
  refine VE.done none rfl (by rw [if_pos (Or.inr h)]; rfl) (by rw [if_pos (Or.inr h)]; rfl) Ent.refl
 have h2 : ¬ 17 < l.length := by have : (l.length : Int) <= 17 := (by simpa using hc); omega
 rw [if_neg (by omega)]
 refine w ?_; repeat (refine zj fun _ => ?_; refine w ?_)
 refine zq ?_
 refine OpV.makeSlice st_slots rfl rfl (by omega) (by simp only [maxLen]; omega) rfl ?_
 intro nb
 have e0 : (madeCells (Value.agg #[.pointer none, .pointer none, .pointer none]).cells (l.length * 3)).toList = (List.replicate l.length noneP).flatMap slotCells := by
  have := madeCells_same (.pointer none) 3 (l.length * 3) (by decide)
  have e : ∀ n : Nat, (List.replicate n noneP).flatMap slotCells = List.replicate (n * 3) (.pointer none) := by
   intro n
   induction n with
   | zero => rfl
   | succ n ih => rw [List.replicate_succ, List.flatMap_cons, ih, Nat.add_mul, Nat.one_mul, Nat.add_comm, <- List.replicate_append_replicate]; rfl
  rw [e]; exact this
 rw [e0]
 (apply VO.pure rfl rfl; apply PureAt.build sb_120 rfl; (simp [buildX, setL, Value.cells]; rfl); rfl)
 refine w ?_; repeat (refine zj fun _ => ?_; refine w ?_)
 rename_i b
 refine VC.loop (α := List SlotP) (fun dn => dn.length <= l.length /\ dn.map SlotP.D = (l.map slotOf).take dn.length /\ (l.take dn.length).all sizeOk = true)
  (fun dn => bayRow b (BayD.new l) ⟨nb, 0, none⟩ l.length :: Own 124 3 (.slice (some ⟨nb, 0, none⟩) l.length l.length) l.length ((dn ++ List.replicate (l.length - dn.length) noneP).flatMap slotCells) :: (dn.map slotRes ++ R))
  (fun dn => [(4, .pointer (some ⟨b, 0, none⟩)), (22, .slice ao l.length cap), (23, .int .i64 l.length), (24, .int .i64 dn.length)]) (fun dn => l.length - dn.length) rfl [] ⟨Nat.zero_le _, rfl, rfl⟩ (by simp only [List.length_nil, Nat.sub_zero, List.nil_append]; exact Ent.re) ⟨rfl, rfl, rfl, rfl, trivial⟩ ?_
 rintro dn ⟨hdn, hdD, hall⟩
 refine w ?_; repeat (refine zj fun _ => ?_; refine w ?_)
 refine zk ?_ ?_ <;> intro hc
 ·
  have hlt : dn.length < l.length := by have := of_decide_eq_true hc; omega
  obtain ⟨ka, rfl⟩ : ∃ ka, ao = some ka := by cases ao with | none => have := hr.nil rfl; omega | some ka => exact ⟨ka, rfl⟩
  have hr2 := fun A B => hr.ent (Ent.dropAll (W := W) (R := R) (A :: B :: dn.map slotRes))
  refine w ?_; repeat (refine zj fun _ => ?_; refine w ?_)
  refine VO.pure rfl rfl (.ldRc tab_ok rfl rfl (hr2 _ _) (intsI_get l dn.length hlt)) rfl ?_
  refine w ?_; repeat (refine zj fun _ => ?_; refine w ?_)
  generalize hn : l[dn.length] = n at *
  have hrep : List.replicate (l.length - dn.length) noneP = noneP :: List.replicate (l.length - (dn.length + 1)) noneP := by rw [show l.length - dn.length = (l.length - (dn.length + 1)) + 1 by omega, List.replicate_succ]
  have hstep : ∀ s : SlotP, s.D = slotOf n -> (dn ++ [s]).map SlotP.D = (l.map slotOf).take (dn ++ [s]).length := by
   intro s hs
   rw [List.length_append, List.length_singleton, List.map_append, hdD, List.take_succ_eq_append_getElem (by simpa using hlt)]
   simp [hs, hn]
  have hall2 : ∀ s : SlotP, sizeOk n = true -> (l.take (dn ++ [s]).length).all sizeOk = true := by
   intro s hs
   rw [List.length_append, List.length_singleton, List.take_succ_eq_append_getElem hlt, List.all_append, hall, hn]; simp [hs]
  refine zk ?_ ?_ <;> intro hc
  ·
   have h0 : n = 0 := by simpa using hc
   refine w ?_; repeat (refine zj fun _ => ?_; refine w ?_)
   refine VE.round (dn ++ [noneP]) ⟨by rw [List.length_append, List.length_singleton]; omega, hstep _ (by rw [h0]; rfl), hall2 _ (by rw [h0]; rfl)⟩ (by rw [List.length_append, List.length_singleton]; omega) ⟨rfl, rfl, rfl, asV rfl (by simp), trivial⟩ ?_
   rw [hrep, List.length_append, List.length_singleton, List.append_assoc]
   exact addNone dn R
  ·
   have h0 : ¬ n = 0 := by simpa using hc
   refine w ?_; repeat (refine zj fun _ => ?_; refine w ?_)
   by_cases hs : sizeOk n = true
   ·
    obtain ⟨g1, g2⟩ : 0 <= n /\ n <= 8192 := of_decide_eq_true hs
    obtain ⟨m, rfl⟩ := Int.eq_ofNat_of_zero_le g1
    (refine zq ?_; refine zd rfl rfl (disknew_ok m (by omega) (by omega)) ?_)
    intro d _
    refine w ?_; repeat (refine zj fun _ => ?_; refine w ?_)
    (apply VO.pure rfl rfl; apply PureAt.build sb_128 rfl; (simp [buildX, setL, Value.cells]; rfl); rfl)
    refine w ?_; repeat (refine zj fun _ => ?_; refine w ?_)
    rename_i nr
    rw [hrep]
    refine zq ?_
    refine OpV.stO2 tab_ok rfl rfl rfl rfl zh (slots_len 0 (by decide)) (slots_in (some ⟨nr, d, ⟨⟨List.replicate m zeroSec, [], false⟩, false, 0⟩⟩)) ?_
    refine w ?_; repeat (refine zj fun _ => ?_; refine w ?_)
    refine VE.round (dn ++ [⟨some ⟨nr, d, ⟨⟨List.replicate m zeroSec, [], false⟩, false, 0⟩⟩, none, none⟩]) ⟨by rw [List.length_append, List.length_singleton]; omega, hstep _ ?_, hall2 _ hs⟩ (by rw [List.length_append, List.length_singleton]; omega) ⟨rfl, rfl, rfl, asV rfl (by simp), trivial⟩ ?_
    · unfold slotOf; rw [if_neg h0]; rfl
    ·
     rw [List.length_append, List.length_singleton, List.append_assoc]
     refine Ent.trans (Ent.re (L := devRow ⟨nr, d, ⟨⟨List.replicate m zeroSec, [], false⟩, false, 0⟩⟩ :: DiskR d ⟨List.replicate m zeroSec, [], false⟩ :: bayRow b (BayD.new l) ⟨nb, 0, none⟩ l.length :: Own 124 3 (.slice (some ⟨nb, 0, none⟩) l.length l.length) l.length ((dn ++ ⟨some ⟨nr, d, ⟨⟨List.replicate m zeroSec, [], false⟩, false, 0⟩⟩, none, none⟩ :: List.replicate (l.length - (dn.length + 1)) noneP).flatMap slotCells) :: (dn.map slotRes ++ R))) ?_
     refine Ent.trans (devIn ⟨nr, d, ⟨⟨List.replicate m zeroSec, [], false⟩, false, 0⟩⟩ _) ?_
     refine Ent.trans (devNone _) ?_
     refine Ent.trans (devNone _) ?_
     refine Ent.trans (Ent.re (L := devRes (some ⟨nr, d, ⟨⟨List.replicate m zeroSec, [], false⟩, false, 0⟩⟩) :: devRes none :: devRes none :: bayRow b (BayD.new l) ⟨nb, 0, none⟩ l.length :: Own 124 3 (.slice (some ⟨nb, 0, none⟩) l.length l.length) l.length ((dn ++ ⟨some ⟨nr, d, ⟨⟨List.replicate m zeroSec, [], false⟩, false, 0⟩⟩, none, none⟩ :: List.replicate (l.length - (dn.length + 1)) noneP).flatMap slotCells) :: (dn.map slotRes ++ R))) ?_
     exact addSlot dn ⟨some ⟨nr, d, ⟨⟨List.replicate m zeroSec, [], false⟩, false, 0⟩⟩, none, none⟩ R
   ·
    have hs2 : n < 1 \/ 8192 < n := by
     have : ¬ (0 <= n /\ n <= 8192) := fun h => hs (decide_eq_true h)
     omega
    ((refine zq ?_; refine zd rfl rfl (disknew_bad n hs2) ?_); intro _ _)
    refine w ?_; repeat (refine zj fun _ => ?_; refine w ?_)
    have hno : l.all sizeOk = false := by
     rw [Bool.eq_false_iff]
     intro h
     rw [List.all_eq_true] at h
     exact hs (h n (by rw [<- hn]; exact List.getElem_mem hlt))
    refine VE.done none rfl (by simp [hno]) (by simp [hno]) ?_
    exact Ent.dropAll (_ :: _ :: dn.map slotRes)
 ·
  have hge : dn.length = l.length := by have := of_decide_eq_false hc; omega
  refine w ?_; repeat (refine zj fun _ => ?_; refine w ?_)
  rw [hge, List.take_of_length_le (Nat.le_refl _)] at hall
  refine VE.done (some b) rfl (by simp [hall]) (by simp [hall]) ?_
  rw [hge, List.take_of_length_le (by simp)] at hdD
  rw [hge, Nat.sub_self, List.replicate_zero, List.append_nil, <- hge]
  exact BayR.shut (D := BayD.new l) hdD.symm (by omega)
def fullSec (c : UInt8) : List UInt8 := List.replicate 128 c
@[simp] theorem fullSec_length (c : UInt8) : (fullSec c).length = 128 := List.length_replicate
abbrev SecO (b : Nat) (c : UInt8) : SProp := Own 5 1 (.slice (some ⟨b, 0, none⟩) 128 128) 128 (bytes (fullSec c))
theorem SecO.rds {b : Nat} {c : UInt8} : Rds W (SecO b c :: R) 1 (some ⟨b, 0, none⟩) 128 (bytes (fullSec c)) := Rds.own (bytes_one _) (.head _) (by rw [bytes_length, fullSec_length]) (fun h => by cases h)
theorem sameints_any {ao ao' : Option Addr} {n n' cap cap' : Nat} {a b : List Nat} (ha : Rds W R 1 ao n (ints a)) (hb : Rds W R 1 ao' n' (ints b)) (hn : n <= maxLen) :
    Does1 W Tryz.prog 38 [.slice ao n cap, .slice ao' n' cap'] R (.bool (decide (a = b))) R := by
  have la : a.length = n := by have := ha.len; simpa using this
  have lb : b.length = n' := by have := hb.len; simpa using this
  unfold maxLen at hn
  (refine Does.enter Tryz.func38 Tryz.ntmps38 rfl rfl ?_)
  refine w ?_
  by_cases hl : n = n'
  · subst hl
    (refine VC.condFe rfl rfl (by simp) ?_)
    refine w ?_
    refine VC.loop (α := Nat) (fun j => j <= n /\ ∀ i (h : i < a.length) (h' : i < b.length), i < j -> a[i] = b[i]) (fun j => R)
      (fun j => [(0, .slice ao n cap), (1, .slice ao' n cap'), (5, .int .i64 j)]) (fun j => n - j) rfl 0 ⟨Nat.zero_le _, fun _ _ _ h => absurd h (by omega)⟩ Ent.refl ⟨rfl, rfl, rfl, trivial⟩ ?_
    rintro j ⟨hj, hi⟩
    refine w ?_
    refine zk ?_ ?_ <;> intro hc
    · have hlt : j < n := by simpa using hc
      obtain ⟨a0, rfl⟩ : ∃ a0, ao = some a0 := by cases ao with | none => have := ha.nil rfl; omega | some a0 => exact ⟨a0, rfl⟩
      obtain ⟨b0, rfl⟩ : ∃ b0, ao' = some b0 := by cases ao' with | none => have := hb.nil rfl; omega | some b0 => exact ⟨b0, rfl⟩
      refine w ?_
      ((refine VC.quiet rfl (by kernel_rfl) (by kernel_rfl) ?_); refine w ?_)
      ((first | apply VO.pure rfl rfl | apply VQ.pure rfl rfl | apply VD.take rfl rfl rfl | (refine VD.end rfl rfl rfl ?_; apply OpV.pure)); exact PureAt.ldR tab_ok rfl rfl ha (show (ints a)[j]? = some (.int .i64 ((a[j]'(by omega) : Nat) : Int)) by simp [ints, la, hlt]); rfl)
      refine w ?_
      ((first | apply VO.pure rfl rfl | apply VQ.pure rfl rfl | apply VD.take rfl rfl rfl | (refine VD.end rfl rfl rfl ?_; apply OpV.pure)); exact PureAt.ldR tab_ok rfl rfl hb (show (ints b)[j]? = some (.int .i64 ((b[j]'(by omega) : Nat) : Int)) by simp [ints, lb, hlt]); rfl)
      refine w ?_
      refine zk ?_ ?_ <;> intro hc
      · refine w ?_
        refine VE.done1 rfl ?_ ?_
        · have hne : a[j]'(by omega) ≠ b[j]'(by omega) := by
            intro e; rw [e] at hc; simp at hc
          have : a ≠ b := fun e => hne (by subst e; rfl)
          simp [this]
        · exact Ent.refl
      · refine w ?_
        have he : a[j]'(by omega) = b[j]'(by omega) := by
          have : ((a[j]'(by omega) : Nat) : Int) = ((b[j]'(by omega) : Nat) : Int) := by simpa using hc
          omega
        refine VE.round (j + 1) ⟨by omega, fun i h h' hij => ?_⟩ (by omega) ⟨rfl, rfl, rfl, trivial⟩ Ent.refl
        by_cases e : i = j
        · subst e; exact he
        · exact hi i h h' (by omega)
    · have hge : j = n := by have : ¬ j < n := by simpa using hc
                             omega
      refine w ?_
      refine VE.done1 rfl ?_ ?_
      · have : a = b := List.ext_getElem (by omega) fun i h h' => hi i h h' (by omega)
        simp [this]
      · exact Ent.refl
  · (refine VC.condTe rfl rfl (by simp; omega) ?_)
    refine w ?_
    refine VE.done1 rfl ?_ ?_
    · have : a ≠ b := fun e => hl (by subst e; omega)
      simp [this]
    · exact Ent.refl
theorem bools_of {ao : Option Addr} {n cap : Nat} (h : InT Tryz.prog W 59 [.slice ao n cap]) : ∃ l : List Bool, l.length = n /\ RdsA W 1 ao n (bools l) /\ n <= 140737488351232 := by
  obtain ⟨ao', n', cap', row, he, h0, hn, hm, hr, hl, hc, hi⟩ := h.slice_inv Tryz.underlying59
  cases he
  have c1 : Tryz.prog.cellsOf 4 = 1 := by kernel_rfl
  have b1 : Tryz.prog.bytesOf 4 = 1 := by kernel_rfl
  rw [c1] at hl hc
  rw [b1] at hr
  have hb : ∀ i, ∃ c : Bool, i < cap -> row i = [.bool c] := fun i => by
    by_cases h : i < cap
    · obtain ⟨b, hm1⟩ := (hi i h).bool_inv Tryz.underlying4
      exact ⟨b, fun _ => hm1⟩
    · exact ⟨false, fun h' => absurd h' h⟩
  obtain ⟨c, hcc⟩ := Classical.axiomOfChoice hb
  refine ⟨(List.range n).map c, by simp, fun R => ?_, by simp only [reachBytes] at hr; omega⟩
  have hs := sees_rows (R := R) h0 hn hl (fun i h u hu => by rw [hcc i h] at hu; simp at hu; subst hu; rfl) hc
  have e : (List.range n).flatMap row = bools ((List.range n).map c) := by
    rw [bools, List.map_map]
    have : ∀ k, k <= n -> (List.range k).flatMap row = (List.range k).map (Value.bool ∘ c) := by
      intro k
      induction k with
      | zero => intro _; rfl
      | succ k ih =>
        intro hk
        rw [List.range_succ, List.flatMap_append, List.map_append, ih (by omega)]
        simp [hcc k (by omega)]
    exact this n (Nat.le_refl _)
  rw [e] at hs
  exact hs
structure BopD where
  kind : Int
  slot : Int
  n : Int
  ao : Option Addr
  cap : Nat
  b : List UInt8
  ko : Option Addr
  kcap : Nat
  keeps : List KeepD
abbrev BopD.cells (o : BopD) : List Value := [.int .i64 o.kind, .int .i64 o.slot, .int .i64 o.n, .slice o.ao o.b.length o.cap, .slice o.ko o.keeps.length o.kcap]
structure BopD.wf (W : World) (o : BopD) : Prop where
  b : RdsA W 1 o.ao o.b.length (bytes o.b)
  bl : o.b.length <= 140737488351232
  bc : o.b.length <= o.cap
  ks : ∀ R, Keeps W R o.ko o.keeps
  kl : ∀ x ∈ o.keeps, x.l.length <= 140737488351232
  kn : o.keeps.length <= 140737488351232
  n1 : -9223372036854775808 <= o.n
  n2 : o.n <= 9223372036854775807
  s1 : -9223372036854775808 <= o.slot
  s2 : o.slot <= 9223372036854775807
def bopCells (l : List BopD) : List Value := l.flatMap BopD.cells
structure BScr (W : World) (R : List SProp) (ao : Option Addr) (l : List BopD) : Prop where
  rds : Rds W R 5 ao l.length (bopCells l)
  wf : ∀ o ∈ l, o.wf W
theorem BScr.ent {H R : List SProp} {ao : Option Addr} {l : List BopD} (h : BScr W R ao l) (e : Ent W H R) : BScr W H ao l := ⟨h.rds.ent e, h.wf⟩
def BayD.plain (D : BayD) (kind slot n : Int) (b : List UInt8) : (List UInt8 × Int) × BayD :=
  if kind = 1 then D.read slot n else if kind = 2 then (([], (D.write slot n b).1), (D.write slot n b).2) else (([], (D.flush slot).1), (D.flush slot).2)
def CntD.total (c : CntD) : Int := IntKind.i64.wrap (IntKind.i64.wrap (c.r + c.w) + c.f)
theorem cnt_eq {n : Nat} {H : List SProp} {f : Fr} {dst : Option Tmp} {ty_ : TypeId} {pos : String} {after : Array Edge} {guard : Option (Nat × Bool)} {op : BinOp} {x y : Operand} {u : TypeId} {c d : CntD} {v : Value} (hx : evalX f x = some (cntV c)) (hy : evalX f y = some (cntV d))
  (hwc : (Lit.int .i64 c.r).wf = true /\ (Lit.int .i64 c.w).wf = true /\ (Lit.int .i64 c.f).wf = true) (hwd : (Lit.int .i64 d.r).wf = true /\ (Lit.int .i64 d.w).wf = true /\ (Lit.int .i64 d.f).wf = true)
  (hv : eqB op (decide (c.r = d.r /\ c.w = d.w /\ c.f = d.f)) = some v) : PureAt W Tryz.prog n H f { dst, op := .binOp op 76 x y u, type := ty_, pos, after, guard } v := by
 refine PureAt.eqFlat (ks := [some .i64, some .i64, some .i64]) (cs := [.int .i64 c.r, .int .i64 c.w, .int .i64 c.f]) (ds := [.int .i64 d.r, .int .i64 d.w, .int .i64 d.f]) (by kernel_rfl) hx hy rfl rfl rfl rfl ?_ ?_ ?_ hv
 ·
  intro l hl; simp only [List.mem_cons, List.not_mem_nil, or_false] at hl; rcases hl with h | h | h
  · subst h; exact hwc.1
  · subst h; exact hwc.2.1
  · subst h; exact hwc.2.2
 ·
  intro l hl; simp only [List.mem_cons, List.not_mem_nil, or_false] at hl; rcases hl with h | h | h
  · subst h; exact hwd.1
  · subst h; exact hwd.2.1
  · subst h; exact hwd.2.2
 · simp
def kx : List UInt8 := (List.replicate 128 0).set 5 9
def kD0 : BayD := BayD.new [2, 0]
def kD1 : BayD := (kD0.write 0 1 kx).2
def kD2 : BayD := (kD1.flush 0).2
def kD3 : BayD := (kD2.read 1 0).2
def kD4 : BayD := (kD3.trips 1).2
def kD5 : BayD := (kD4.read 0 1).2
def kD6 : BayD := (kD5.read 0 1).2
theorem k1 : (kD0.write 0 1 kx).1 = 0 := by kernel_rfl
theorem k2 : (kD1.flush 0).1 = 0 := by kernel_rfl
theorem k3 : (kD2.read 1 0).1 = ([], 51) := by kernel_rfl
theorem k4 : (kD3.trips 1).1 = 0 := by kernel_rfl
theorem k6 : (kD5.read 0 1).1 = ([], 50) := by kernel_rfl
theorem k7 : kD6.n = ⟨2, 1, 1⟩ := by kernel_rfl
end Go.Proofs.YtdbhpikmagkopaaGreat
/-! Text Bm. -/
namespace Go.Proofs.YtdbhpikmagkopaaGreat
open Go.RowKit Go.Sl
def SlotD.capd (s : SlotD) (c : Nat) : Prop := ∀ v, (s.in_ = some v \/ s.aside = some v \/ s.coming = some v) -> v.k.cache.length <= c
def BayD.capd (D : BayD) (c : Nat) : Prop := ∀ s ∈ D.slots, s.capd c
theorem BayD.capd.mono {D : BayD} {c c' : Nat} (h : D.capd c) (hc : c <= c') : D.capd c' := fun s hs v hv => Nat.le_trans (h s hs v hv) hc
theorem noneS_capd (c : Nat) : SlotD.capd ⟨none, none, none⟩ c := fun v hv => by rcases hv with h | h | h <;> cases h
theorem dev_mem {D : BayD} {k : Int} {v : DevD} (h : D.dev k = some v) : ∃ s ∈ D.slots, s.in_ = some v := by
 unfold BayD.dev at h
 split at h
 ·
  obtain ⟨s, h1, h2⟩ := Option.bind_eq_some_iff.1 h
  exact ⟨s, List.mem_of_getElem? h1, h2⟩
 · cases h
theorem use_cap {v : DevD} {c : Nat} (h : v.k.cache.length <= c) : v.use.k.cache.length <= c := by
 unfold DevD.use; split
 · exact h
 ·
  split
  · exact Nat.zero_le _
  · exact h
theorem dv_cap {D : BayD} {c : Nat} (h : D.capd c) (k : Int) : (D.dv k).k.cache.length <= c := by
  unfold BayD.dv
  refine use_cap ?_
  cases hd : D.dev k with
  | none => exact Nat.zero_le _
  | some v =>
    obtain ⟨s, hs, hi⟩ := dev_mem hd
    exact h s hs v (.inl hi)
theorem slot_capd {D : BayD} {c : Nat} (h : D.capd c) (i : Nat) : SlotD.capd ((D.slots[i]?).getD ⟨none, none, none⟩) c := by
 cases hg : D.slots[i]? with
 | none => exact noneS_capd c
 | some s => exact h s (List.mem_of_getElem? hg)
theorem set_capd {D : BayD} {c i : Nat} {s : SlotD} (h : D.capd c) (hs : s.capd c) : (D.setSlot i s).capd c := by
 intro x hx
 rcases List.mem_or_eq_of_mem_set hx with q | q
 · exact h x q
 · subst q; exact hs
theorem setIn_capd {D : BayD} {c i : Nat} {v : DevD} (h : D.capd c) (hv : v.k.cache.length <= c) : (D.setIn i v).capd c := by
 have hg := slot_capd h i
 refine set_capd (s := { (D.slots[i]?.getD ⟨none, none, none⟩) with in_ := some v }) h ?_
 intro x hx
 rcases hx with q | q | q
 · cases q; exact hv
 · exact hg x (.inr (.inl q))
 · exact hg x (.inr (.inr q))
theorem ahead_capd {D : BayD} {c : Nat} (h : D.capd c) (k : Int) (j : Nat) : (D.ahead k j).capd c := by intro s hs; rw [D.ahead_slots] at hs; exact h s hs
theorem wr_cap {k : DiskD} {a : Int} {b : List UInt8} {c : Nat} (h : k.cache.length <= c) : (k.wr a b).2.cache.length <= c + 1 := by
 unfold DiskD.wr; split
 · exact Nat.le_succ_of_le h
 ·
  split
  · exact Nat.le_succ_of_le h
  ·
   show (k.cache ++ [_]).length <= _
   rw [List.length_append, List.length_singleton]; omega
theorem fl_cap {k : DiskD} {c : Nat} (h : k.cache.length <= c) : k.fl.2.cache.length <= c := by
 unfold DiskD.fl; split
 · exact h
 · exact Nat.zero_le _
theorem plain_capd {D : BayD} {c : Nat} (h : D.capd c) (kind slot n : Int) (b : List UInt8) : (D.plain kind slot n b).2.capd (c + 1) := by
 have hd := dv_cap h slot
 unfold BayD.plain BayD.read BayD.write BayD.flush
 split
 ·
  split
  · exact (setIn_capd (ahead_capd h _ _) hd).mono (Nat.le_succ _)
  · exact (ahead_capd h _ _).mono (Nat.le_succ _)
 ·
  split
  ·
   dsimp only; split
   · exact setIn_capd ((ahead_capd h _ _).mono (Nat.le_succ _)) (wr_cap hd)
   · exact (ahead_capd h _ _).mono (Nat.le_succ _)
  ·
   dsimp only; split
   · exact (setIn_capd (ahead_capd h _ _) (fl_cap hd)).mono (Nat.le_succ _)
   · exact (ahead_capd h _ _).mono (Nat.le_succ _)
theorem fail_capd {D : BayD} {c : Nat} (h : D.capd c) (k : Int) : (D.fail k).2.capd c := by
 unfold BayD.fail; split
 · exact setIn_capd h (Nat.zero_le _)
 · exact h
theorem wear_capd {D : BayD} {c : Nat} (h : D.capd c) (k n : Int) : (D.wear k n).2.capd c := by
 unfold BayD.wear; split
 · exact h
 ·
  split
  ·
   rename_i v hv
   obtain ⟨s, hs, hi⟩ := dev_mem hv
   exact setIn_capd h (h s hs v (.inl hi))
  · exact h
theorem lay_capd {D : BayD} {c : Nat} (h : D.capd c) (k e : Int) (kd : DiskD) (hk : kd.cache.length <= c) : (D.lay k e kd).2.capd c := by
 unfold BayD.lay; split
 · exact h
 ·
  split
  · exact h
  ·
   refine set_capd h ?_
   intro x hx
   rcases hx with q | q | q
   · cases q; exact hk
   · exact slot_capd h k.toNat x (.inr (.inl q))
   · exact slot_capd h k.toNat x (.inr (.inr q))
theorem load_capd {D : BayD} {c : Nat} (h : D.capd c) (k : Int) (l : List UInt8) : (D.load k l).2.capd c := lay_capd h _ _ _ (Nat.zero_le _)
theorem trips_capd {D : BayD} {c : Nat} (h : D.capd c) (n : Int) : (D.trips n).2.capd c := by
 unfold BayD.trips; split
 · exact h
 ·
  split
  · exact h
  · exact h
theorem cut_capd {D : BayD} {c : Nat} (h : D.capd c) (kl : List (List Bool)) : (D.cut kl).capd c := by
 intro s hs
 simp only [BayD.cut, List.mem_mapIdx] at hs
 obtain ⟨i, hi, rfl⟩ := hs
 have h0 := h D.slots[i] (List.getElem_mem hi)
 intro v hv
 unfold SlotD.cut at hv
 split at hv
 ·
  rcases hv with q | q | q
  · exact h0 v (.inr (.inr q))
  · exact h0 v (.inr (.inl q))
  · cases q
 ·
  rcases hv with q | q | q
  ·
   obtain ⟨u, _, rfl⟩ := Option.map_eq_some_iff.1 q
   exact Nat.zero_le _
  · exact h0 v (.inr (.inl q))
  · cases q
theorem new_capd (l : List Int) : (BayD.new l).capd 0 := by
 intro s hs
 obtain ⟨n, _, rfl⟩ := List.mem_map.1 hs
 intro v hv
 unfold slotOf at hv
 split at hv
 · rcases hv with q | q | q <;> cases q
 ·
  rcases hv with q | q | q
  · cases q; exact Nat.le_refl _
  · cases q
  · cases q
def CntD.ok (c : CntD) : Prop := (Lit.int .i64 c.r).wf = true /\ (Lit.int .i64 c.w).wf = true /\ (Lit.int .i64 c.f).wf = true
end Go.Proofs.YtdbhpikmagkopaaGreat
/-! Text Rd. -/
namespace Go.Proofs.YtdbhpikmagkopaaGreat
open Go.RowKit Go.Sl
attribute [local irreducible] Own
variable {W : World} {R : List SProp}
def wcs (C : List (Nat × ListE)) : List Value := C.flatMap fun c => [.int .i64 (c.1 : Int), c.2.hdr]
def Fits (k : DiskD) (C : List (Nat × ListE)) : Prop := C.map (fun c => (c.1, c.2.xs)) = k.cache.map (fun c => (c.1, bytes c.2))
abbrev DocO (d : Nat) (k : DiskD) (lo : Option Addr) (lc : Nat) (co : Option Addr) (cc : Nat) (C : List (Nat × ListE)) (R : List SProp) : List SProp :=
  Row d 196 [.slice lo k.last.flatten.length lc, .slice co C.length cc, .bool k.failed] :: Own 5 1 (.slice lo k.last.flatten.length lc) k.last.flatten.length (bytes k.last.flatten) ::
    Own 199 2 (.slice co C.length cc) C.length (wcs C) :: (C.map (fun c => c.2.res) ++ R)
def DocR (d : Nat) (k : DiskD) : SProp := ex fun x : (Option Addr × Nat) × (Option Addr × Nat) × List (Nat × ListE) => Sl.star (fact (k.ok /\ Fits k x.2.2) :: DocO d k x.1.1 x.1.2 x.2.1.1 x.2.1.2 x.2.2 [])
theorem DocR.open {W w : World} {d : Nat} {k : DiskD} {R : List SProp} (hw : Holds W (DocR d k :: R) w) : ∃ x : { x : (Option Addr × Nat) × (Option Addr × Nat) × List (Nat × ListE) // k.ok /\ Fits k x.2.2 }, Holds W (DocO d k x.1.1.1 x.1.1.2 x.1.2.1.1 x.1.2.1.2 x.1.2.2 R) w := by
 obtain ⟨x, h⟩ := hw.exOpen
 have h := h.join
 refine ⟨⟨x, h.factOpen⟩, ?_⟩
 have := h.tail
 simpa [DocO] using this
theorem DocR.shut {d : Nat} {k : DiskD} {R : List SProp} {lo co : Option Addr} {lc cc : Nat} {C : List (Nat × ListE)} (hk : k.ok) (hf : Fits k C) : Ent W (DocO d k lo lc co cc C R) (DocR d k :: R) := fun w hw =>
 Holds.exShut ((lo, lc), (co, cc), C) (Holds.nest (L := _ :: _ :: _ :: _ :: (C.map (fun c => c.2.res) ++ [])) (by
  rw [List.append_nil]
  exact hw.factShut ⟨hk, hf⟩))
theorem docload_bad {ao : Option Addr} {cap n : Nat} (h : n = 0 \/ n % 128 ≠ 0 \/ 1048576 < n) :
  Does1 W Tryz.prog 81 [.slice ao n cap] R (.tuple #[.pointer none, .int .i64 40]) R := by
 (refine Does.enter Tryz.func81 Tryz.ntmps81 rfl rfl ?_)
 refine w ?_; repeat (refine zj fun _ => ?_; refine w ?_)
 refine zg ?_ ?_ <;> intro hb
 ·
  refine w ?_; repeat (refine zj fun _ => ?_; refine w ?_)
  (first | exact VE.done1 rfl rfl Ent.refl | exact VE.done1N rfl rfl Ent.refl)
 refine w ?_; repeat (refine zj fun _ => ?_; refine w ?_)
 refine VO.pure rfl rfl (PureAt.rem (b := 128) rfl rfl (by decide)) rfl ?_
 refine w ?_; repeat (refine zj fun _ => ?_; refine w ?_)
 refine zg ?_ ?_ <;> intro hb
 ·
  refine w ?_; repeat (refine zj fun _ => ?_; refine w ?_)
  (first | exact VE.done1 rfl rfl Ent.refl | exact VE.done1N rfl rfl Ent.refl)
 have n1 : ¬ n = 0 := by simpa using ‹((n : Int) == 0) = false›
 have n2 : n % 128 = 0 := by have := ‹(((n % 128 : Nat) : Int) != 0) = false›; simp at this; omega
 refine w ?_; repeat (refine zj fun _ => ?_; refine w ?_)
 (refine VC.condTe rfl rfl (by simp; omega) ?_)
 refine w ?_; repeat (refine zj fun _ => ?_; refine w ?_)
 (first | exact VE.done1 rfl rfl Ent.refl | exact VE.done1N rfl rfl Ent.refl)
theorem docload_ok {ao : Option Addr} {cap m : Nat} {l : List UInt8} (hr : RdsA W 1 ao (m * 128) (bytes l)) (h1 : 1 <= m) (h2 : m <= 8192) :
  Does W Tryz.prog 81 [.slice ao (m * 128) cap] R (β := Nat) (fun _ => True) (fun d => .tuple #[.pointer (some ⟨d, 0, none⟩), .int .i64 0]) (fun d => DocR d ⟨chunks l m, [], false⟩ :: R) := by
 have hl : l.length = m * 128 := by have := (hr []).len; simpa using this
 (refine Does.enter Tryz.func81 Tryz.ntmps81 rfl rfl ?_)
 refine w ?_; repeat (refine zj fun _ => ?_; refine w ?_)
 (first | refine VO.gF rfl rfl rfl (by simp; omega) ?_ | refine VD.gF rfl rfl rfl (by simp; omega) ?_)
 refine w ?_; repeat (refine zj fun _ => ?_; refine w ?_)
 refine VO.pure rfl rfl (PureAt.rem (b := 128) rfl rfl (by decide)) rfl ?_
 refine w ?_; repeat (refine zj fun _ => ?_; refine w ?_)
 (first | refine VO.gF rfl rfl rfl (by simp) ?_ | refine VD.gF rfl rfl rfl (by simp) ?_)
 refine w ?_; repeat (refine zj fun _ => ?_; refine w ?_)
 (refine VC.condFe rfl rfl (by simp; omega) ?_)
 refine w ?_; repeat (refine zj fun _ => ?_; refine w ?_)
 refine VO.ent (H' := Own 5 1 (.slice none 0 0) 0 [] :: R) (fun w hw => hw.ownNil _ _) ?_
 refine zq ?_
 refine OpV.append st_65 rfl rfl .head (fun w hw => ((hr _).sees hw).src st_65.und) (by simp only [maxLen]; omega) (by omega) rfl ?_
 intro ao' cap'
 simp only [Nat.zero_add, List.nil_append]
 refine w ?_; repeat (refine zj fun _ => ?_; refine w ?_)
 (apply VO.pure rfl rfl; apply PureAt.build sb_196 rfl; (simp [buildX, setL, Value.cells]; rfl); rfl)
 refine w ?_; repeat (refine zj fun _ => ?_; refine w ?_)
 rename_i d
 refine VE.done d rfl trivial rfl ?_
 have hfl : (chunks l m).flatten = l := chunks_flatten m l hl
 have := DocR.shut (W := W) (R := R) (d := d) (k := ⟨chunks l m, [], false⟩) (lo := ao') (lc := cap') (co := none) (cc := 0) (C := []) ⟨chunks_128 hl, fun c hc => absurd hc (by simp), by simp only [chunks_length]; exact h2⟩ rfl
 simp only [DocO, hfl, hl, wcs, List.flatMap_nil, List.map_nil, List.nil_append, List.length_nil] at this
 exact fun w hw => this w ((hw.ownNil 199 2).reord (by (repeat first | exact .refl | (apply Reord.cons; focus repeat first | exact .head | apply Del.tail) | exact .nil | apply Reord.drop)))
theorem flat_len {k : DiskD} (hk : k.ok) : k.last.flatten.length = k.last.length * 128 := by
 have : ∀ l : List (List UInt8), (∀ b ∈ l, b.length = 128) -> l.flatten.length = l.length * 128 := fun l => by
  induction l with
  | nil => intro _; rfl
  | cons a r ih => intro h; rw [List.flatten_cons, List.length_append, ih (fun b hb => h b (.tail _ hb)), h a (.head _), List.length_cons, Nat.add_mul]; omega
 exact this _ hk.last
theorem docwrite_bad {ao : Option Addr} {cap nb : Nat} (d : Nat) (k : DiskD) (at_ : Int) (h : k.may at_ ≠ 0) :
  Does1 W Tryz.prog 103 [.pointer (some ⟨d, 0, none⟩), .int .i64 at_, .slice ao nb cap] (DocR d k :: R) (.int .i64 (k.may at_)) (DocR d k :: R) := by
 (refine Does.enter Tryz.func103 Tryz.ntmps103 rfl rfl ?_)
 refine VC.obtain (fun w => DocR.open) ?_
 rintro ⟨⟨⟨lo, lc⟩, ⟨co, cc⟩, C⟩, hk, hf⟩
 have hfl := flat_len hk
 have hs := hk.size
 dsimp only [DocO]
 refine w ?_
 refine zk ?_ ?_ <;> intro hc
 ·
  have hfa : k.failed = true := hc
  refine w ?_
  refine VE.done1 rfl ?_ ?_
  · simp [DiskD.may, hfa]
  · exact DocR.shut hk hf
 have hfa : k.failed = false := hc
 refine w ?_
 refine zg ?_ ?_ <;> intro hb
 ·
  have h0 : at_ < 0 := by have := ‹decide (at_ < 0) = true›; exact of_decide_eq_true this
  refine w ?_
  refine VE.done1 rfl ?_ ?_
  · simp [DiskD.may, hfa, h0]
  · exact DocR.shut hk hf
 have h0 : ¬ at_ < 0 := by have := ‹decide (at_ < 0) = false›; exact of_decide_eq_false this
 refine w ?_
 refine VO.pure rfl rfl (PureAt.quo (b := 128) rfl rfl (by decide) (IntWalk.i64_in _ ⟨by omega, by omega⟩)) rfl ?_
 refine w ?_
 have hge : (k.last.length : Int) <= at_ := by
  unfold DiskD.may at h
  rw [hfa, if_neg (by simp)] at h
  split at h
  · rename_i q; omega
  · exact absurd rfl h
 (refine VC.condTe rfl rfl (by rw [hfl, Nat.mul_div_cancel _ (by decide)]; simpa using hge) ?_)
 refine w ?_
 refine VE.done1 rfl ?_ ?_
 · simp [DiskD.may, hfa, hge]
 · exact DocR.shut hk hf
theorem docwrite_len {ao : Option Addr} {cap nb : Nat} (d : Nat) (k : DiskD) (at_ : Int) (h : k.may at_ = 0) (hn : nb ≠ 128) :
  Does1 W Tryz.prog 103 [.pointer (some ⟨d, 0, none⟩), .int .i64 at_, .slice ao nb cap] (DocR d k :: R) (.int .i64 4) (DocR d k :: R) := by
 obtain ⟨hfa, h0, h1⟩ := may_zero h
 (refine Does.enter Tryz.func103 Tryz.ntmps103 rfl rfl ?_)
 refine VC.obtain (fun w => DocR.open) ?_
 rintro ⟨⟨⟨lo, lc⟩, ⟨co, cc⟩, C⟩, hk, hf⟩
 have hfl := flat_len hk
 have hs := hk.size
 dsimp only [DocO]
 refine w ?_
 (refine VC.condFe rfl rfl (hfa) ?_)
 refine w ?_
 (first | refine VO.gF rfl rfl rfl (by simp; omega) ?_ | refine VD.gF rfl rfl rfl (by simp; omega) ?_)
 refine w ?_
 refine VO.pure rfl rfl (PureAt.quo (b := 128) rfl rfl (by decide) (IntWalk.i64_in _ ⟨by omega, by omega⟩)) rfl ?_
 refine w ?_
 (refine VC.condFe rfl rfl (by rw [hfl, Nat.mul_div_cancel _ (by decide)]; simp; omega) ?_)
 refine w ?_
 (refine VC.condTe rfl rfl (by simp; omega) ?_)
 refine w ?_
 refine VE.done1 rfl ?_ ?_
 · rfl
 · exact DocR.shut hk hf
theorem Ent.dropMid : ∀ X : List SProp, Ent W (X ++ R) R
 | [] => Ent.refl
 | _ :: r => Ent.drop (Ent.dropMid r)
theorem docfail_ok (d : Nat) (k : DiskD) :
  Does1 W Tryz.prog 112 [.pointer (some ⟨d, 0, none⟩)] (DocR d k :: R) (.tuple #[]) (DocR d ⟨k.last, [], true⟩ :: R) := by
 (refine Does.enter Tryz.func112 Tryz.ntmps112 rfl rfl ?_)
 refine VC.obtain (fun w => DocR.open) ?_
 rintro ⟨⟨⟨lo, lc⟩, ⟨co, cc⟩, C⟩, hk, hf⟩
 dsimp only [DocO]
 refine w ?_
 (refine VE.done1N rfl ?_ ?_)
 · rfl
 ·
  have := DocR.shut (W := W) (R := R) (d := d) (k := ⟨k.last, [], true⟩) (lo := lo) (lc := lc) (co := none) (cc := 0) (C := []) ⟨hk.last, fun c hc => absurd hc (by simp), hk.size⟩ rfl
  refine Ent.trans (fun w hw => ?_) this
  simp only [DocO, wcs, List.flatMap_nil, List.map_nil, List.nil_append, List.length_nil]
  have h1 : Holds W (Row d 196 [.slice lo k.last.flatten.length lc, .slice none 0 0, .bool true] :: Own 5 1 (.slice lo k.last.flatten.length lc) k.last.flatten.length (bytes k.last.flatten) :: Own 199 2 (.slice co C.length cc) C.length (wcs C) :: (C.map (fun c => c.2.res) ++ R)) w := hw
  have h2 := h1.ownNil 199 2
  have p1 : ∀ (A B D F : SProp) (X : List SProp), Holds W (A :: B :: D :: F :: (X ++ R)) w -> Holds W (B :: D :: A :: R) w := fun A B D F X h => by
   have q : (A :: B :: D :: F :: (X ++ R)).Perm ((F :: X) ++ (B :: D :: A :: R)) := by
    refine ((List.perm_middle (l₁ := [A, B, D]) (a := F) (l₂ := X ++ R))).trans ?_
    refine List.Perm.cons _ ?_
    refine List.Perm.trans ?_ (List.perm_append_comm_assoc X [B, D, A] R).symm
    exact List.Perm.append_right (X ++ R) (((List.Perm.swap B A [D])).trans (List.Perm.cons B (List.Perm.swap D A [])))
   exact Ent.dropMid (F :: X) w (h.perm q)
  exact p1 _ _ _ _ _ h2
theorem docimage_bad (d : Nat) (k : DiskD) (hfa : k.failed = true) :
  Does1 W Tryz.prog 125 [.pointer (some ⟨d, 0, none⟩)] (DocR d k :: R) (.slice none 0 0) (DocR d k :: R) := by
 (refine Does.enter Tryz.func125 Tryz.ntmps125 rfl rfl ?_)
 refine VC.obtain (fun w => DocR.open) ?_
 rintro ⟨⟨⟨lo, lc⟩, ⟨co, cc⟩, C⟩, hk, hf⟩
 dsimp only [DocO]
 refine w ?_
 (refine VC.condTe rfl rfl (hfa) ?_)
 refine w ?_
 refine VE.done1 rfl ?_ ?_
 · rfl
 · exact DocR.shut hk hf
theorem docimage_ok (d : Nat) (k : DiskD) (hfa : k.failed = false) :
  Does W Tryz.prog 125 [.pointer (some ⟨d, 0, none⟩)] (DocR d k :: R) (β := Option Addr × Nat) (fun _ => True) (fun x => .slice x.1 k.last.flatten.length x.2)
   (fun x => Own 5 1 (.slice x.1 k.last.flatten.length x.2) k.last.flatten.length (bytes k.last.flatten) :: DocR d k :: R) := by
 (refine Does.enter Tryz.func125 Tryz.ntmps125 rfl rfl ?_)
 refine VC.obtain (fun w => DocR.open) ?_
 rintro ⟨⟨⟨lo, lc⟩, ⟨co, cc⟩, C⟩, hk, hf⟩
 have hfl := flat_len hk
 have hs := hk.size
 dsimp only [DocO]
 refine VC.know (p := lo = none -> k.last.flatten.length = 0) (fun w hw => Holds.ownNone hw (.tail _ (.head _))) ?_
 intro hln
 refine w ?_
 (refine VC.condFe rfl rfl (hfa) ?_)
 refine w ?_
 refine VO.ent (H' := Own 5 1 (.slice none 0 0) 0 [] :: DocO d k lo lc co cc C R) (fun w hw => hw.ownNil _ _) ?_
 dsimp only [DocO]
 refine zq ?_
 refine OpV.append st_65 rfl rfl .head (fun w hw => ((Rds.own (bytes_one k.last.flatten) (.tail _ (.tail _ (.head _))) (by rw [bytes_length, Nat.mul_one]) hln).sees hw).src st_65.und) (by simp only [maxLen]; omega) (by omega) rfl ?_
 intro ao' cap'
 simp only [Nat.zero_add, List.nil_append]
 refine w ?_
 refine VE.done (ao', cap') rfl trivial rfl ?_
 intro w hw
 exact (DocR.shut (R := Own 5 1 (.slice ao' k.last.flatten.length cap') k.last.flatten.length (bytes k.last.flatten) :: R) hk hf w (hw.perm (List.perm_middle (l₁ := _ :: _ :: _ :: C.map (fun c => c.2.res))).symm)).swap
theorem wcs_get : ∀ (C : List (Nat × ListE)) (i : Nat) (h : i < C.length), (wcs C)[i * 2 + 0]? = some (.int .i64 (C[i].1 : Int)) /\ (wcs C)[i * 2 + 1]? = some C[i].2.hdr
  | c :: r, 0, _ => ⟨rfl, rfl⟩
  | c :: r, i + 1, h => by
    have := wcs_get r i (by simpa using h)
    have e : wcs (c :: r) = [.int .i64 (c.1 : Int), c.2.hdr] ++ wcs r := rfl
    rw [e, List.getElem?_append_right (by simp; omega), List.getElem?_append_right (by simp; omega)]
    simpa [show (i + 1) * 2 + 1 - 2 = i * 2 + 1 by omega, show (i + 1) * 2 - 2 = i * 2 by omega] using this
theorem wcs_length (C : List (Nat × ListE)) : (wcs C).length = C.length * 2 := by
  induction C with
  | nil => rfl
  | cons c r ih =>
    have e : wcs (c :: r) = [.int .i64 (c.1 : Int), c.2.hdr] ++ wcs r := rfl
    rw [e, List.length_append, ih, List.length_cons]; simp only [List.length_cons, List.length_nil]; omega
theorem wcs_one (C : List (Nat × ListE)) : ∀ u ∈ wcs C, u.oneCell' = true := by
 intro u hu
 obtain ⟨c, _, h⟩ := List.mem_flatMap.1 hu
 simp only [List.mem_cons, List.not_mem_nil, or_false] at h
 rcases h with h | h <;> subst h <;> rfl
theorem fits_get {k : DiskD} {C : List (Nat × ListE)} (hf : Fits k C) : C.length = k.cache.length /\ ∀ i (h : i < C.length) (h2 : i < k.cache.length), C[i].1 = k.cache[i].1 /\ C[i].2.xs = bytes k.cache[i].2 := by
 have hl : C.length = k.cache.length := by have := congrArg List.length hf; simpa using this
 refine ⟨hl, fun i h h2 => ?_⟩
 have := congrArg (·[i]?) hf
 simpa [h, h2] using this
theorem C_none {W w : World} {H : List SProp} {C : List (Nat × ListE)} (hw : Holds W H w) (hm : ∀ c ∈ C, c.2.res ∈ H) : ∀ c ∈ C, c.2.ao = none -> c.2.xs.length = 0 := fun c hc => hw.ownNone (hm c hc)
theorem C_rds {H : List SProp} {C : List (Nat × ListE)} (hm : ∀ c ∈ C, c.2.res ∈ H) (hn : ∀ c ∈ C, c.2.ao = none -> c.2.xs.length = 0) {c : Nat × ListE} (hc : c ∈ C) {b : List UInt8} (hx : c.2.xs = bytes b) (hb : b.length = 128) : Rds W H 1 c.2.ao 128 (bytes b) := by
 have hl : c.2.xs.length = 128 := by rw [hx, bytes_length, hb]
 have h1 := hm c hc
 unfold ListE.res at h1
 rw [hl, hx] at h1
 exact Rds.own (bytes_one _) h1 (by rw [bytes_length, hb]) (fun h => by have := hn c hc h; omega)
theorem docpending_ok (d : Nat) (k : DiskD) (hcl : k.cache.length <= 1000000000) :
  Does W Tryz.prog 108 [.pointer (some ⟨d, 0, none⟩)] (DocR d k :: R) (β := Option Addr × Nat) (fun _ => True) (fun x => .slice x.1 k.cache.length x.2)
   (fun x => Own 3 1 (.slice x.1 k.cache.length x.2) k.cache.length (ints (k.cache.map (·.1))) :: DocR d k :: R) := by
 (refine Does.enter Tryz.func108 Tryz.ntmps108 rfl rfl ?_)
 refine VC.obtain (fun w => DocR.open) ?_
 rintro ⟨⟨⟨lo, lc⟩, ⟨co, cc⟩, C⟩, hk, hf⟩
 have hf : Fits k C := hf
 obtain ⟨hCl, hCg⟩ := fits_get hf
 dsimp only [DocO]
 refine VC.know (p := co = none -> C.length = 0) (fun w hw => Holds.ownNone hw (.tail _ (.tail _ (.head _)))) ?_
 intro hcn
 refine w ?_
 refine VC.loop (α := Nat × Option Addr × Nat) (fun g => g.1 <= C.length)
  (fun g => Own 3 1 (.slice g.2.1 g.1 g.2.2) g.1 (ints ((k.cache.take g.1).map (·.1))) :: DocO d k lo lc co cc C R)
  (fun g => [(0, .pointer (some ⟨d, 0, none⟩)), (3, .slice g.2.1 g.1 g.2.2), (4, .int .i64 g.1)]) (fun g => C.length - g.1) rfl (0, none, 0) (Nat.zero_le _) (fun w hw => hw.ownNil _ _) ⟨rfl, rfl, rfl, trivial⟩ ?_
 rintro ⟨i, ao, cap⟩ hi
 have hi : i <= C.length := hi
 dsimp only [DocO]
 refine w ?_
 refine zk ?_ ?_ <;> intro hc
 ·
  have hlt : i < C.length := by have := of_decide_eq_true hc; omega
  have hlt2 : i < k.cache.length := by omega
  obtain ⟨a, rfl⟩ : ∃ a, co = some a := by cases co with | none => have := hcn rfl; omega | some a => exact ⟨a, rfl⟩
  have e : ints ((k.cache.take i).map (·.1)) ++ [.int .i64 (C[i].1 : Int)] = ints ((k.cache.take (i + 1)).map (·.1)) := by
   rw [List.take_succ_eq_append_getElem hlt2, List.map_append, (hCg i hlt hlt2).1]; simp only [ints, List.map_append]; rfl
  refine w ?_
  refine VO.pure rfl rfl (PureAt.ldRc tab_ok rfl rfl (Rds.own (wcs_one C) (.tail _ (.tail _ (.tail _ (.head _)))) (wcs_length C) hcn) (wcs_get C i hlt).1) rfl ?_
  refine w ?_
  (refine zq ?_; refine OpV.buildSlice1 st_22 rfl rfl (by first | (simp; done) | simp [Value.oneCell']) (by decide) rfl ?_; intro nb)
  (refine zq ?_; refine OpV.appendRow st_22 rfl rfl zh zm rfl (by first | (simp; done) | simp [Value.oneCell']) ?_ ?_ rfl ?_)
  · simp only [maxLen]; omega
  · omega
  intro ao' cap'
  rw [e]
  refine w ?_
  exact VE.round (i + 1, ao', cap') hlt (by simp only; omega) ⟨rfl, rfl, rfl, trivial⟩ (fun w hw => hw.tail)
 ·
  have hge : i = C.length := by have := of_decide_eq_false hc; omega
  subst hge
  rw [List.take_of_length_le (Nat.le_of_eq hCl.symm), hCl]
  refine w ?_
  refine VE.done (ao, cap) rfl trivial rfl ?_
  intro w hw
  rw [<- hCl] at hw ⊢
  exact (DocR.shut (R := Own 3 1 (.slice ao C.length cap) C.length (ints (k.cache.map (·.1))) :: R) hk hf w (hw.perm (List.perm_middle (l₁ := _ :: _ :: _ :: C.map (fun c => c.2.res))).symm)).swap
theorem docread_bad (d : Nat) (k : DiskD) (at_ : Int) (h : k.may at_ ≠ 0) :
  Does1 W Tryz.prog 180 [.pointer (some ⟨d, 0, none⟩), .int .i64 at_] (DocR d k :: R) (.tuple #[.slice none 0 0, .int .i64 (k.may at_)]) (DocR d k :: R) := by
 (refine Does.enter Tryz.func180 Tryz.ntmps180 rfl rfl ?_)
 refine VC.obtain (fun w => DocR.open) ?_
 rintro ⟨⟨⟨lo, lc⟩, ⟨co, cc⟩, C⟩, hk, hf⟩
 have hfl := flat_len hk
 have hs := hk.size
 dsimp only [DocO]
 refine w ?_
 refine zk ?_ ?_ <;> intro hc
 ·
  have hfa : k.failed = true := hc
  refine w ?_
  refine VE.done1 rfl ?_ ?_
  · simp [DiskD.may, hfa]
  · exact DocR.shut hk hf
 have hfa : k.failed = false := hc
 refine w ?_
 refine zg ?_ ?_ <;> intro hb
 ·
  have h0 : at_ < 0 := by have := ‹decide (at_ < 0) = true›; exact of_decide_eq_true this
  refine w ?_
  refine VE.done1 rfl ?_ ?_
  · simp [DiskD.may, hfa, h0]
  · exact DocR.shut hk hf
 have h0 : ¬ at_ < 0 := by have := ‹decide (at_ < 0) = false›; exact of_decide_eq_false this
 refine w ?_
 refine VO.pure rfl rfl (PureAt.quo (b := 128) rfl rfl (by decide) (IntWalk.i64_in _ ⟨by omega, by omega⟩)) rfl ?_
 refine w ?_
 have hge : (k.last.length : Int) <= at_ := by
  unfold DiskD.may at h
  rw [hfa, if_neg (by simp)] at h
  split at h
  · rename_i q; omega
  · exact absurd rfl h
 (refine VC.condTe rfl rfl (by rw [hfl, Nat.mul_div_cancel _ (by decide)]; simpa using hge) ?_)
 refine w ?_
 refine VE.done1 rfl ?_ ?_
 · simp [DiskD.may, hfa, hge]
 · exact DocR.shut hk hf
theorem look_take {k : DiskD} (i : Nat) (h : i < k.cache.length) (a : Nat) : (DiskD.mk k.last (k.cache.take (i + 1)) k.failed).look a = if a = k.cache[i].1 then k.cache[i].2 else (DiskD.mk k.last (k.cache.take i) k.failed).look a := by
 have := DiskD.look_write (DiskD.mk k.last (k.cache.take i) k.failed) k.cache[i].1 k.cache[i].2 a
 rw [<- this]
 unfold DiskD.write
 rw [List.take_succ_eq_append_getElem h]
theorem flat_sec {l : List (List UInt8)} (h8 : ∀ b ∈ l, b.length = 128) (a : Nat) (ha : a < l.length) : ((bytes l.flatten).drop (a * 128)).take 128 = bytes l[a] := by
 rw [bytes_flatten]
 exact flat_part (g := bytes) l a ha (fun b h => by simp [h8 b h])
theorem docread_ok (d : Nat) (k : DiskD) (a : Nat) (hfa : k.failed = false) (ha : a < k.last.length) (hcl : k.cache.length <= 1000000000) :
  Does W Tryz.prog 180 [.pointer (some ⟨d, 0, none⟩), .int .i64 a] (DocR d k :: R) (β := Option Addr × Nat) (fun _ => True) (fun x => .tuple #[.slice x.1 128 x.2, .int .i64 0])
   (fun x => Own 5 1 (.slice x.1 128 x.2) 128 (bytes (k.look a)) :: DocR d k :: R) := by
 (refine Does.enter Tryz.func180 Tryz.ntmps180 rfl rfl ?_)
 refine VC.obtain (fun w => DocR.open) ?_
 rintro ⟨⟨⟨lo, lc⟩, ⟨co, cc⟩, C⟩, hk, hf⟩
 have hfl := flat_len hk
 have hs := hk.size
 have hf : Fits k C := hf
 obtain ⟨hCl, hCg⟩ := fits_get hf
 refine VC.know (p := co = none -> C.length = 0) (fun w hw => Holds.ownNone hw (.tail _ (.tail _ (.head _)))) ?_
 intro hcn
 refine VC.know (p := lo = none -> k.last.flatten.length = 0) (fun w hw => Holds.ownNone hw (.tail _ (.head _))) ?_
 intro hln
 refine VC.know (p := k.last.flatten.length <= lc) (fun w hw => Holds.ownCap hw (.tail _ (.head _))) ?_
 intro hlc
 have hmem : ∀ c ∈ C, c.2.res ∈ DocO d k lo lc co cc C R := fun c hc => .tail _ (.tail _ (.tail _ (List.mem_append_left _ (List.mem_map.2 ⟨c, hc, rfl⟩))))
 refine VC.know (p := ∀ c ∈ C, c.2.ao = none -> c.2.xs.length = 0) (fun w hw => C_none hw hmem) ?_
 intro hnn
 have hrl : Rds W (DocO d k lo lc co cc C R) 1 lo k.last.flatten.length (bytes k.last.flatten) := Rds.own (bytes_one _) (.tail _ (.head _)) (by rw [bytes_length, Nat.mul_one]) hln
 generalize hH : DocO d k lo lc co cc C R = H at hmem hrl
 have hH' := hH
 dsimp only [DocO] at hH'
 subst hH'
 refine w ?_
 (refine VC.condFe rfl rfl (hfa) ?_)
 refine w ?_
 refine VO.pure rfl rfl (PureAt.quo (b := 128) rfl rfl (by decide) (IntWalk.i64_in _ ⟨by omega, by omega⟩)) rfl ?_
 refine w ?_
 (refine VC.condFe rfl rfl (by rw [hfl, Nat.mul_div_cancel _ (by decide)]; simp; omega) ?_)
 refine w ?_
 refine VO.re 30 (.int .i64 ((128 * a : Nat) : Int)) rfl (by congr 1) ?_
 refine VO.re 33 (.int .i64 ((128 * a + 128 : Nat) : Int)) rfl (by congr 1) ?_
 refine w ?_
 have hsub : Rds W (DocO d k lo lc co cc C R) 1 (subA lo lc (128 * a) 1) (128 * a + 128 - 128 * a) _ := hrl.sub (by omega) (by omega) hlc
 rw [show 128 * a + 128 - 128 * a = 128 by omega] at hsub
 simp only [Nat.mul_one] at hsub
 rw [Nat.mul_comm 128 a, flat_sec hk.last a ha] at hsub
 rw [show 128 * a + 128 - 128 * a = 128 by omega, Nat.mul_comm 128 a]
 refine VC.loop (α := Nat × Option Addr × Nat) (fun g => g.1 <= C.length /\ Rds W (DocO d k lo lc co cc C R) 1 g.2.1 128 (bytes ((DiskD.mk k.last (k.cache.take g.1) k.failed).look a)))
  (fun g => DocO d k lo lc co cc C R)
  (fun g => [(0, .pointer (some ⟨d, 0, none⟩)), (1, .int .i64 a), (6, .slice g.2.1 128 g.2.2), (7, .int .i64 g.1)]) (fun g => C.length - g.1) rfl (0, subA lo lc (a * 128) 1, lc - a * 128) ⟨Nat.zero_le _, ?_⟩ Ent.refl ⟨rfl, rfl, rfl, rfl, trivial⟩ ?_
 · rw [List.take_zero, DiskD.look_clean rfl, List.getElem?_eq_getElem ha]; exact hsub
 rintro ⟨i, ao, cap⟩ ⟨hi, hr⟩
 dsimp only at hi hr ⊢
 dsimp only [DocO]
 refine w ?_
 refine zk ?_ ?_ <;> intro hc
 ·
  have hlt : i < C.length := by have := of_decide_eq_true hc; omega
  have hlt2 : i < k.cache.length := by omega
  obtain ⟨c, rfl⟩ : ∃ c, co = some c := by cases co with | none => have := hcn rfl; omega | some c => exact ⟨c, rfl⟩
  have hg := hCg i hlt hlt2
  have hx2 : k.cache[i].2.length = 128 := (hk.cache _ (List.getElem_mem hlt2)).2
  have hxl : C[i].2.xs.length = 128 := by rw [hg.2, bytes_length, hx2]
  have hrc : Rds W (DocO d k lo lc (some c) cc C R) 2 (some c) C.length (wcs C) := Rds.own (wcs_one C) (.tail _ (.tail _ (.head _))) (wcs_length C) hcn
  refine w ?_
  refine VO.pure rfl rfl (PureAt.ldRc tab_ok rfl rfl hrc (wcs_get C i hlt).1) rfl ?_
  refine w ?_
  refine zk ?_ ?_ <;> intro hc
  ·
   have he : a = k.cache[i].1 := by have := hc; simp at this; omega
   refine w ?_
   refine VO.pure rfl rfl (PureAt.ldRc tab_ok rfl rfl hrc (wcs_get C i hlt).2) rfl ?_
   refine w ?_
   refine VE.round (i + 1, C[i].2.ao, C[i].2.cap) ⟨hlt, ?_⟩ (by simp only; omega) ⟨rfl, rfl, ?_, rfl, trivial⟩ Ent.refl
   ·
    rw [look_take i hlt2, if_pos he]
    exact C_rds hmem hnn (List.getElem_mem hlt) hg.2 hx2
   ·
    show some C[i].2.hdr = _
    unfold ListE.hdr; rw [hxl]
  ·
   have he : ¬ a = k.cache[i].1 := by have := hc; simp at this; omega
   refine w ?_
   refine VE.round (i + 1, ao, cap) ⟨hlt, ?_⟩ (by simp only; omega) ⟨rfl, rfl, rfl, rfl, trivial⟩ Ent.refl
   rw [look_take i hlt2, if_neg he]; exact hr
 ·
  have hge : i = C.length := by have := of_decide_eq_false hc; omega
  subst hge
  rw [List.take_of_length_le (Nat.le_of_eq hCl.symm)] at hr
  refine w ?_
  refine VO.ent (H' := Own 5 1 (.slice none 0 0) 0 [] :: DocO d k lo lc co cc C R) (fun w hw => hw.ownNil _ _) ?_
  dsimp only [DocO]
  refine zq ?_
  refine OpV.append st_65 rfl rfl .head (fun w hw => (hr.sees (cap := cap) hw.tail).src st_65.und) (by decide) (by decide) rfl ?_
  intro ao' cap'
  simp only [Nat.zero_add, List.nil_append]
  refine w ?_
  refine VE.done (ao', cap') rfl trivial rfl ?_
  intro w hw
  exact (DocR.shut (R := Own 5 1 (.slice ao' 128 cap') 128 (bytes (k.look a)) :: R) hk hf w (hw.perm (List.perm_middle (l₁ := _ :: _ :: _ :: C.map (fun c => c.2.res))).symm)).swap
def laidIn (l b : List UInt8) (a : Nat) : List UInt8 := l.take (a * 128) ++ b ++ l.drop (a * 128 + 128)
theorem laidIn_flat {l : List (List UInt8)} (h8 : ∀ b ∈ l, b.length = 128) (b : List UInt8) (a : Nat) (ha : a < l.length) : laidIn l.flatten b a = (l.set a b).flatten := by
 have := flat_set (g := fun x : List UInt8 => x) (w := 128) b l a ha h8
 simp only [List.flatMap_id'] at this
 exact this
theorem doclasts_ok {cv fv : Value} {lo ao : Option Addr} {lc cap : Nat} {l b : List UInt8} (d a n : Nat) (hl : l.length = n) (ha : a * 128 + 128 <= n) (hn : n <= 1048576) (hb : b.length = 128) (hr : Rds W R 1 ao 128 (bytes b)) :
  Does W Tryz.prog 123 [.pointer (some ⟨d, 0, none⟩), .agg #[.int .i64 a, .slice ao 128 cap]]
   (Row d 196 [.slice lo n lc, cv, fv] :: Own 5 1 (.slice lo n lc) n (bytes l) :: R) (β := Option Addr × Nat) (fun _ => True) (fun _ => .tuple #[])
   (fun x => Row d 196 [.slice x.1 n x.2, cv, fv] :: Own 5 1 (.slice x.1 n x.2) n (bytes (laidIn l b a)) :: R) := by
 (refine Does.enter Tryz.func123 Tryz.ntmps123 rfl rfl ?_)
 refine VC.know (p := lo = none -> n = 0) (fun w hw => Holds.ownNone hw (.tail _ (.head _))) ?_
 intro hln
 refine VC.know (p := n <= lc) (fun w hw => Holds.ownCap hw (.tail _ (.head _))) ?_
 intro hlc
 have hrl : ∀ H : List SProp, Own 5 1 (.slice lo n lc) n (bytes l) ∈ H -> Rds W H 1 lo n (bytes l) := fun H hm => Rds.own (bytes_one _) hm (by rw [bytes_length, Nat.mul_one, hl]) hln
 refine w ?_; repeat (refine zj fun _ => ?_; refine w ?_)
 rename_i nb
 refine VC.ent (H' := Own 5 1 (.slice none 0 0) 0 [] :: Row nb 199 [.int .i64 a, .slice ao 128 cap] :: Row d 196 [.slice lo n lc, cv, fv] :: Own 5 1 (.slice lo n lc) n (bytes l) :: R) (fun w hw => hw.ownNil _ _) ?_
 (refine VC.drawn [] 9 [0, 1, 2, 3, 4, 5, 6, 7, 8, 9, 10] _ rfl (by kernel_rfl) (by kernel_rfl) Ent.re ?_)
 refine w ?_; repeat (refine zj fun _ => ?_; refine w ?_)
 refine VD.re 12 (.int .i64 ((a * 128 : Nat) : Int)) rfl (by rw [Int.mul_comm]; congr 1) ?_
 refine w ?_; repeat (refine zj fun _ => ?_; refine w ?_)
 refine zq ?_
 refine OpV.append st_65 rfl rfl .head (fun w hw => ((Rds.take (l := a * 128) (hrl _ (.tail _ (.tail _ (.tail _ (.head _))))) (by omega)).sees (cap := lc) hw).src st_65.und) (by simp only [maxLen]; omega) (by omega) rfl ?_
 intro b1 c1
 simp only [Nat.zero_add, List.nil_append, Nat.mul_one]
 refine w ?_; repeat (refine zj fun _ => ?_; refine w ?_)
 refine zq ?_
 refine OpV.append st_65 rfl rfl .head (fun w hw => ((hr.ent (Ent.drop (Ent.drop (Ent.drop (Ent.drop Ent.refl))))).sees (cap := cap) hw).src st_65.und) (by simp only [maxLen]; omega) (by omega) rfl ?_
 intro b2 c2
 refine w ?_; repeat (refine zj fun _ => ?_; refine w ?_)
 (refine VC.drawn [11] 12 [0, 1, 2, 3, 4, 5, 6, 7, 8, 9, 10, 11, 12, 13, 14] (Row nb 199 [.int .i64 a, .slice ao 128 cap] :: Row d 196 [.slice lo n lc, cv, fv] :: Own 5 1 (.slice lo n lc) n (bytes l) :: R) rfl (by kernel_rfl) (by kernel_rfl) Ent.re ?_)
 refine w ?_; repeat (refine zj fun _ => ?_; refine w ?_)
 refine VD.re 28 (.int .i64 ((a * 128 + 128 : Nat) : Int)) rfl (by rw [Int.mul_comm]; congr 1) ?_
 refine w ?_; repeat (refine zj fun _ => ?_; refine w ?_)
 have hsub : ∀ H : List SProp, Own 5 1 (.slice lo n lc) n (bytes l) ∈ H -> Rds W H 1 (subA lo lc (a * 128 + 128) 1) (n - (a * 128 + 128)) (bytes (l.drop (a * 128 + 128))) := by
  intro H hm
  have := (hrl H hm).sub (l := a * 128 + 128) ha (Nat.le_refl _) hlc
  simp only [Nat.mul_one] at this
  rwa [List.take_of_length_le (by simp only [List.length_drop, bytes_length]; omega), show (bytes l).drop (a * 128 + 128) = bytes (l.drop (a * 128 + 128)) by unfold bytes; rw [List.map_drop]] at this
 refine zq ?_
 refine OpV.append st_65 rfl rfl .head (fun w hw => ((hsub _ (.tail _ (.tail _ (.tail _ (.head _))))).sees (cap := lc - (a * 128 + 128)) hw).src st_65.und) (by simp only [maxLen]; omega) (by omega) rfl ?_
 intro b3 c3
 refine ⟨Ent.drop Ent.refl, ?_⟩
 refine VD.re 30 (.slice b3 n c3) rfl (by congr 1; omega) ?_
 refine w ?_; repeat (refine zj fun _ => ?_; refine w ?_)
 refine VE.doneN (b3, c3) rfl trivial rfl ?_
 have e1 : a * 128 + 128 + (n - (a * 128 + 128)) = n := by omega
 have e2 : (bytes l).take (a * 128) ++ bytes b ++ bytes (l.drop (a * 128 + 128)) = bytes (laidIn l b a) := by
  unfold laidIn bytes; simp only [List.map_append, List.map_take]
 rw [e1, e2]
 exact fun w hw => (hw.reord (by (repeat first | exact .refl | (apply Reord.cons; focus repeat first | exact .head | apply Del.tail) | exact .nil | apply Reord.drop)))
theorem DocR.empty {d : Nat} {k : DiskD} {lo co : Option Addr} {lc cc cc2 n : Nat} {cs : List Value} {l : List UInt8} (X : List SProp) (hk : k.ok) (hc : k.cache = []) (hl : k.last.flatten = l) (hn : l.length = n) :
  Ent W (Row d 196 [.slice lo n lc, .slice none 0 0, .bool k.failed] :: Own 5 1 (.slice lo n lc) n (bytes l) :: Own 199 2 (.slice co cc cc2) cc cs :: (X ++ R)) (DocR d k :: R) := by
 intro w hw
 subst hl
 subst hn
 refine DocR.shut (C := []) (lo := lo) (lc := lc) (co := none) (cc := 0) hk (by unfold Fits; rw [hc]; rfl) w ?_
 simp only [DocO, wcs, List.flatMap_nil, List.map_nil, List.nil_append, List.length_nil]
 have h1 := Ent.dropMid (Own 199 2 (.slice co cc cc2) cc cs :: X) w (hw.perm (List.perm_append_comm_assoc [_, _] (_ :: X) R))
 exact (h1.ownNil 199 2).reord (by (repeat first | exact .refl | (apply Reord.cons; focus repeat first | exact .head | apply Del.tail) | exact .nil | apply Reord.drop))
theorem wcs_part {C : List (Nat × ListE)} (i : Nat) (h : i < C.length) (hl : C[i].2.xs.length = 128) : ((wcs C).drop (i * 2)).take 2 = [.int .i64 (C[i].1 : Int), .slice C[i].2.ao 128 C[i].2.cap] := by
 have := flat_part (g := fun c : Nat × ListE => [.int .i64 (c.1 : Int), c.2.hdr]) (w := 2) C i h (fun _ _ => rfl)
 unfold wcs
 rw [this]
 unfold ListE.hdr
 rw [hl]
theorem sets_next {k : DiskD} {keep : Nat -> Bool} (i : Nat) (h : i < k.cache.length) : sets keep k.last 0 (k.cache.take (i + 1)) = if keep i = true then (sets keep k.last 0 (k.cache.take i)).set k.cache[i].1 k.cache[i].2 else sets keep k.last 0 (k.cache.take i) := by
 rw [List.take_succ_eq_append_getElem h, sets_snoc, List.length_take, Nat.zero_add, Nat.min_eq_left (by omega)]
theorem sets_flat_len {k : DiskD} (hk : k.ok) (keep : Nat -> Bool) (i : Nat) : (sets keep k.last 0 (k.cache.take i)).flatten.length = k.last.flatten.length /\ ∀ b ∈ sets keep k.last 0 (k.cache.take i), b.length = 128 := by
 have h8 := sets_128 keep (k.cache.take i) k.last 0 hk.last (fun c h => (hk.cache c (List.mem_of_mem_take h)).2)
 refine ⟨?_, h8⟩
 have h1 := flat_length (g := fun x : List UInt8 => x) (w := 128) _ h8
 have h2 := flat_length (g := fun x : List UInt8 => x) (w := 128) _ hk.last
 simp only [List.flatMap_id'] at h1 h2
 rw [h1, h2, sets_length]
theorem docflush_ok (d : Nat) (k : DiskD) (hfa : k.failed = false) (hcl : k.cache.length <= 1000000000) :
  Does1 W Tryz.prog 169 [.pointer (some ⟨d, 0, none⟩)] (DocR d k :: R) (.int .i64 0) (DocR d (k.settle fun _ => true) :: R) := by
 (refine Does.enter Tryz.func169 Tryz.ntmps169 rfl rfl ?_)
 refine VC.obtain (fun w => DocR.open) ?_
 rintro ⟨⟨⟨lo, lc⟩, ⟨co, cc⟩, C⟩, hk, hf⟩
 have hf : Fits k C := hf
 have hfl := flat_len hk
 have hs := hk.size
 obtain ⟨hCl, hCg⟩ := fits_get hf
 refine VC.know (p := co = none -> C.length = 0) (fun w hw => Holds.ownNone hw (.tail _ (.tail _ (.head _)))) ?_
 intro hcn
 refine VC.know (p := ∀ c ∈ C, c.2.ao = none -> c.2.xs.length = 0) (fun w hw => C_none hw (fun c hc => .tail _ (.tail _ (.tail _ (List.mem_append_left _ (List.mem_map.2 ⟨c, hc, rfl⟩)))))) ?_
 intro hnn
 have hsl := sets_flat_len hk (fun _ => true)
 dsimp only [DocO]
 generalize hn : k.last.flatten.length = n at *
 refine w ?_
 (refine VC.condFe rfl rfl (hfa) ?_)
 refine w ?_
 refine VC.loop (α := Nat × Option Addr × Nat) (fun g => g.1 <= C.length)
  (fun g => Row d 196 [.slice g.2.1 n g.2.2, .slice co C.length cc, .bool k.failed] :: Own 5 1 (.slice g.2.1 n g.2.2) n (bytes (sets (fun _ => true) k.last 0 (k.cache.take g.1)).flatten) :: Own 199 2 (.slice co C.length cc) C.length (wcs C) :: (C.map (fun c => c.2.res) ++ R))
  (fun g => [(0, .pointer (some ⟨d, 0, none⟩)), (3, .int .i64 g.1)]) (fun g => C.length - g.1) rfl (0, lo, lc) (Nat.zero_le _) Ent.refl ⟨rfl, rfl, trivial⟩ ?_
 rintro ⟨i, ao, cap⟩ hi
 have hi : i <= C.length := hi
 dsimp only
 refine w ?_
 refine zk ?_ ?_ <;> intro hc
 ·
  have hlt : i < C.length := by have := of_decide_eq_true hc; omega
  have hlt2 : i < k.cache.length := by omega
  obtain ⟨c, rfl⟩ : ∃ c, co = some c := by cases co with | none => have := hcn rfl; omega | some c => exact ⟨c, rfl⟩
  have hg := hCg i hlt hlt2
  obtain ⟨hx1, hx2⟩ := hk.cache _ (List.getElem_mem hlt2)
  have hxl : C[i].2.xs.length = 128 := by rw [hg.2, bytes_length, hx2]
  refine w ?_
  refine VO.pure rfl rfl (.ldRA tab_ok rfl rfl (Rds.own (wcs_one C) (.tail _ (.tail _ (.head _))) (wcs_length C) hcn) (wcs_part i hlt hxl) rfl) rfl ?_
  have hslen := sets_length (fun _ => true) (k.cache.take i) k.last 0
  (refine zq ?_; refine zy rfl rfl (doclasts_ok d C[i].1 n (hsl i).1 (by rw [hg.1]; omega) (by omega) hx2 (C_rds (fun c hc => .tail _ (List.mem_append_left _ (List.mem_map.2 ⟨c, hc, rfl⟩))) hnn (List.getElem_mem hlt) hg.2 hx2)) ?_)
  rintro ⟨lo2, lc2⟩ -
  dsimp only
  rw [hg.1, laidIn_flat (hsl i).2 _ _ (by omega), show (sets (fun _ => true) k.last 0 (k.cache.take i)).set k.cache[i].1 k.cache[i].2 = sets (fun _ => true) k.last 0 (k.cache.take (i + 1)) by rw [sets_next i hlt2, if_pos rfl]]
  refine w ?_
  exact VE.round (i + 1, lo2, lc2) hlt (by simp only; omega) ⟨rfl, rfl, trivial⟩ Ent.refl
 ·
  have hge : i = C.length := by have := of_decide_eq_false hc; omega
  subst hge
  rw [List.take_of_length_le (Nat.le_of_eq hCl.symm)]
  refine w ?_
  refine VE.done1 rfl ?_ ?_
  · rfl
  ·
   have := hsl k.cache.length
   rw [List.take_of_length_le (Nat.le_refl _)] at this
   exact fun w hw => DocR.empty (k := k.settle fun _ => true) _ (DiskD.settle_okk hk) rfl rfl this.1 w hw
theorem docflush_bad (d : Nat) (k : DiskD) (hfa : k.failed = true) :
  Does1 W Tryz.prog 169 [.pointer (some ⟨d, 0, none⟩)] (DocR d k :: R) (.int .i64 2) (DocR d k :: R) := by
 (refine Does.enter Tryz.func169 Tryz.ntmps169 rfl rfl ?_)
 refine VC.obtain (fun w => DocR.open) ?_
 rintro ⟨⟨⟨lo, lc⟩, ⟨co, cc⟩, C⟩, hk, hf⟩
 dsimp only [DocO]
 refine w ?_
 (refine VC.condTe rfl rfl (hfa) ?_)
 refine w ?_
 refine VE.done1 rfl ?_ ?_
 · rfl
 · exact DocR.shut hk hf
theorem doccrash_ok {ko : Option Addr} {nk ck : Nat} {lk : List Bool} (d : Nat) (k : DiskD) (hcl : k.cache.length <= 1000000000) (hr : RdsA W 1 ko nk (bools lk)) :
  Does1 W Tryz.prog 61 [.pointer (some ⟨d, 0, none⟩), .slice ko nk ck] (DocR d k :: R) (.tuple #[]) (DocR d (k.settle (keepOf lk)) :: R) := by
 have hkl : lk.length = nk := by have := (hr []).len; simpa using this
 (refine Does.enter Tryz.func61 Tryz.ntmps61 rfl rfl ?_)
 refine VC.obtain (fun w => DocR.open) ?_
 rintro ⟨⟨⟨lo, lc⟩, ⟨co, cc⟩, C⟩, hk, hf⟩
 have hf : Fits k C := hf
 have hfl := flat_len hk
 have hs := hk.size
 obtain ⟨hCl, hCg⟩ := fits_get hf
 refine VC.know (p := co = none -> C.length = 0) (fun w hw => Holds.ownNone hw (.tail _ (.tail _ (.head _)))) ?_
 intro hcn
 refine VC.know (p := ∀ c ∈ C, c.2.ao = none -> c.2.xs.length = 0) (fun w hw => C_none hw (fun c hc => .tail _ (.tail _ (.tail _ (List.mem_append_left _ (List.mem_map.2 ⟨c, hc, rfl⟩)))))) ?_
 intro hnn
 generalize hkeep : keepOf lk = keep
 have hsl := sets_flat_len hk keep
 dsimp only [DocO]
 generalize hn : k.last.flatten.length = n at *
 refine w ?_
 refine VC.loop (α := Nat × Option Addr × Nat) (fun g => g.1 <= C.length)
  (fun g => Row d 196 [.slice g.2.1 n g.2.2, .slice co C.length cc, .bool k.failed] :: Own 5 1 (.slice g.2.1 n g.2.2) n (bytes (sets keep k.last 0 (k.cache.take g.1)).flatten) :: Own 199 2 (.slice co C.length cc) C.length (wcs C) :: (C.map (fun c => c.2.res) ++ R))
  (fun g => [(0, .pointer (some ⟨d, 0, none⟩)), (1, .slice ko nk ck), (4, .int .i64 g.1)]) (fun g => C.length - g.1) rfl (0, lo, lc) (Nat.zero_le _) Ent.refl ⟨rfl, rfl, rfl, trivial⟩ ?_
 rintro ⟨i, ao, cap⟩ hi
 have hi : i <= C.length := hi
 dsimp only
 refine w ?_
 refine zk ?_ ?_ <;> intro hc
 ·
  have hlt : i < C.length := by have := of_decide_eq_true hc; omega
  have hlt2 : i < k.cache.length := by omega
  obtain ⟨c, rfl⟩ : ∃ c, co = some c := by cases co with | none => have := hcn rfl; omega | some c => exact ⟨c, rfl⟩
  have hg := hCg i hlt hlt2
  obtain ⟨hx1, hx2⟩ := hk.cache _ (List.getElem_mem hlt2)
  have hxl : C[i].2.xs.length = 128 := by rw [hg.2, bytes_length, hx2]
  have hslen := sets_length keep (k.cache.take i) k.last 0
  have hno : keep i = false -> sets keep k.last 0 (k.cache.take (i + 1)) = sets keep k.last 0 (k.cache.take i) := fun h => by rw [sets_next i hlt2, if_neg (by simp [h])]
  refine w ?_
  refine zg ?_ ?_ <;> intro hb
  ·
   have hik : i < nk := by have := of_decide_eq_true hb; omega
   obtain ⟨ka, rfl⟩ : ∃ a, ko = some a := by cases ko with | none => have := (hr []).nil rfl; omega | some a => exact ⟨a, rfl⟩
   refine w ?_
   refine VO.pure rfl rfl (PureAt.ldR tab_ok rfl rfl (hr _) (show (bools lk)[i]? = some (.bool (keep i)) by subst hkeep; simp [bools, keepOf, hkl, hik])) rfl ?_
   refine w ?_
   refine zk ?_ ?_ <;> intro hc
   ·
    have hk1 : keep i = true := hc
    refine w ?_
    refine VO.pure rfl rfl (.ldRA tab_ok rfl rfl (Rds.own (wcs_one C) (.tail _ (.tail _ (.head _))) (wcs_length C) hcn) (wcs_part i hlt hxl) rfl) rfl ?_
    (refine zq ?_; refine zy rfl rfl (doclasts_ok d C[i].1 n (hsl i).1 (by rw [hg.1]; omega) (by omega) hx2 (C_rds (fun c hc => .tail _ (List.mem_append_left _ (List.mem_map.2 ⟨c, hc, rfl⟩))) hnn (List.getElem_mem hlt) hg.2 hx2)) ?_)
    rintro ⟨lo2, lc2⟩ -
    dsimp only
    rw [hg.1, laidIn_flat (hsl i).2 _ _ (by omega), show (sets keep k.last 0 (k.cache.take i)).set k.cache[i].1 k.cache[i].2 = sets keep k.last 0 (k.cache.take (i + 1)) by rw [sets_next i hlt2, if_pos hk1]]
    refine w ?_
    exact VE.round (i + 1, lo2, lc2) hlt (by simp only; omega) ⟨rfl, rfl, rfl, trivial⟩ Ent.refl
   ·
    have hk0 : keep i = false := hc
    refine w ?_
    refine VE.round (i + 1, ao, cap) hlt (by simp only; omega) ⟨rfl, rfl, rfl, trivial⟩ ?_
    dsimp only
    rw [hno hk0]
    exact Ent.refl
  ·
   have hik : nk <= i := by have := of_decide_eq_false hb; omega
   have hk0 : keep i = false := by subst hkeep; simp [keepOf, hkl, hik]
   refine w ?_
   refine VE.round (i + 1, ao, cap) hlt (by simp only; omega) ⟨rfl, rfl, rfl, trivial⟩ ?_
   dsimp only
   rw [hno hk0]
   exact Ent.refl
 ·
  have hge : i = C.length := by have := of_decide_eq_false hc; omega
  subst hge
  rw [List.take_of_length_le (Nat.le_of_eq hCl.symm)]
  refine w ?_
  (refine VE.done1N rfl ?_ ?_)
  · rfl
  ·
   have := hsl k.cache.length
   rw [List.take_of_length_le (Nat.le_refl _)] at this
   exact fun w hw => DocR.empty (k := k.settle keep) _ (DiskD.settle_okk hk) rfl rfl this.1 w hw
structure ListI where
  ao : Option Addr
  cap : Nat
  xs : List Value
def ListI.hdr (e : ListI) : Value := .slice e.ao e.xs.length e.cap
def ListI.res (e : ListI) : SProp := Own 3 1 (.slice e.ao e.xs.length e.cap) e.xs.length e.xs
def mkI (z : Int) : Value := .int .i64 z
def marksI (a m : Nat) : List Value := (List.range m).map fun (k : Nat) => mkI ((a : Int) * 1000 + (k : Int))
def marksITwo (a m : Nat) : List Value := (List.range m).map fun (k : Nat) => mkI ((-1 - (a : Int)) * 1000 + (k : Int))
@[simp] theorem marksI_length (a m : Nat) : (marksI a m).length = m := by simp [marksI]
@[simp] theorem marksITwo_length (a m : Nat) : (marksITwo a m).length = m := by simp [marksITwo]
def lentVB (l : List Bool) : List Value := bools l ++ [.bool true, .bool false]
theorem lentVB_one (l : List Bool) : ∀ u ∈ lentVB l, u.oneCell' = true := by
 intro u hu
 rcases List.mem_append.1 hu with h | h
 · exact bools_one _ u h
 · simp only [List.mem_cons, List.not_mem_nil, or_false] at h; rcases h with h | h <;> subst h <;> rfl
@[simp] theorem lentVB_length (l : List Bool) : (lentVB l).length = l.length + 2 := by simp [lentVB]
abbrev LentB (a : Addr) (cap : Nat) (l : List Bool) : SProp := Own 4 1 (.slice (some a) (l.length + 2) cap) (l.length + 2) (lentVB l)
theorem LentB.rds {a : Addr} {cap : Nat} {l : List Bool} : Rds W (LentB a cap l :: R) 1 (some a) l.length (bools l) := by
 have h := Rds.take (l := l.length) (Rds.own (W := W) (H := LentB a cap l :: R) (lentVB_one l) (.head _) (by rw [lentVB_length, Nat.mul_one]) (fun h => by cases h)) (by omega)
 rw [Nat.mul_one, lentVB, List.take_left' (by simp)] at h
 exact h
abbrev bookRow2 (lo : Option Addr) (n lc : Nat) (li : Option Addr) (m ic : Nat) : List Value := .slice lo n lc :: .slice none 0 0 :: .slice li m ic :: List.replicate 9 (.slice none 0 0)
abbrev BookO (b : Nat) (E : List ListE) (F : List ListI) (x : (Option Addr × Nat) × (Option Addr × Nat)) (R : List SProp) : List SProp :=
  Row b 56 (bookRow2 x.1.1 E.length x.1.2 x.2.1 F.length x.2.2) :: Own 65 1 (.slice x.1.1 E.length x.1.2) E.length (E.map ListE.hdr) :: Own 22 1 (.slice x.2.1 F.length x.2.2) F.length (F.map ListI.hdr) :: (E.map ListE.res ++ (F.map ListI.res ++ R))
def Book2 (b : Nat) (E : List ListE) (F : List ListI) : SProp := ex fun x : (Option Addr × Nat) × (Option Addr × Nat) => Sl.star (BookO b E F x [])
theorem Book2.open {W w : World} {b : Nat} {E : List ListE} {F : List ListI} {R : List SProp} (hw : Holds W (Book2 b E F :: R) w) : ∃ x, Holds W (BookO b E F x R) w := by
 obtain ⟨x, h⟩ := hw.exOpen
 refine ⟨x, ?_⟩
 have := h.join
 simpa [BookO] using this
theorem Book2.shut {b : Nat} {E : List ListE} {F : List ListI} {R : List SProp} {x : (Option Addr × Nat) × (Option Addr × Nat)} : Ent W (BookO b E F x R) (Book2 b E F :: R) := fun w hw =>
 Holds.exShut x (Holds.nest (L := BookO b E F x []) (by simpa [BookO] using hw))
structure ActD where
  kind : UInt8
  at_ : Int
  dao : Option Addr
  dcap : Nat
  data : List UInt8
  kao : Option Addr
  kcap : Nat
  keep : List Bool
abbrev ActD.cells (o : ActD) : List Value := [.int .u8 (o.kind.toNat : Int), .int .i64 o.at_, .slice o.dao o.data.length o.dcap, .slice o.kao o.keep.length o.kcap]
structure ActD.wf (W : World) (o : ActD) : Prop where
  data : RdsA W 1 o.dao o.data.length (bytes o.data)
  keep : RdsA W 1 o.kao o.keep.length (bools o.keep)
  dl : o.data.length <= 140737488355328
  kl : o.keep.length <= 140737488355328
theorem flat_get {α β : Type} {g : α -> List β} {w : Nat} (l : List α) (j i : Nat) (h : j < l.length) (hw : ∀ a ∈ l, (g a).length = w) (hi : i < w) : (l.flatMap g)[j * w + i]? = (g l[j])[i]? := by
 rw [<- flat_part l j h hw, List.getElem?_take, if_pos hi, List.getElem?_drop]
def Inv (c : Nat) (k : DiskD) (E : List ListE) (F : List ListI) : Prop := k.cache.length <= c /\ E.length <= c /\ F.length <= c /\ (∀ e ∈ E, e.xs.length <= 1000000000) /\ ∀ e ∈ F, e.xs.length <= 1000000000
theorem Inv.up {c : Nat} {k : DiskD} {E : List ListE} {F : List ListI} (h : Inv c k E F) : Inv (c + 1) k E F := by
 obtain ⟨h1, h2, h3, h4, h5⟩ := h; exact ⟨by omega, by omega, by omega, h4, h5⟩
theorem Inv.disk {c : Nat} {k k' : DiskD} {E : List ListE} {F : List ListI} (h : Inv c k E F) (hk : k'.cache.length <= c + 1) : Inv (c + 1) k' E F := by
 obtain ⟨h1, h2, h3, h4, h5⟩ := h; exact ⟨hk, by omega, by omega, h4, h5⟩
theorem Inv.bytes {c : Nat} {k : DiskD} {E : List ListE} {F : List ListI} {e : ListE} (h : Inv c k E F) (he : e.xs.length <= 1000000000) : Inv (c + 1) k (E ++ [e]) F := by
 obtain ⟨h1, h2, h3, h4, h5⟩ := h
 refine ⟨by omega, by rw [List.length_append, List.length_singleton]; omega, by omega, fun x hx => ?_, h5⟩
 rcases List.mem_append.1 hx with q | q
 · exact h4 x q
 · rw [List.mem_singleton] at q; subst q; exact he
theorem Inv.ints {c : Nat} {k : DiskD} {E : List ListE} {F : List ListI} {e : ListI} (h : Inv c k E F) (he : e.xs.length <= 1000000000) : Inv (c + 1) k E (F ++ [e]) := by
 obtain ⟨h1, h2, h3, h4, h5⟩ := h
 refine ⟨by omega, by omega, by rw [List.length_append, List.length_singleton]; omega, h4, fun x hx => ?_⟩
 rcases List.mem_append.1 hx with q | q
 · exact h5 x q
 · rw [List.mem_singleton] at q; subst q; exact he
theorem docrd_ok (d : Nat) (k : DiskD) (a : Int) (hcl : k.cache.length <= 1000000000) :
  Does W Tryz.prog 180 [.pointer (some ⟨d, 0, none⟩), .int .i64 a] (DocR d k :: R) (β := Option Addr × Nat) (fun x => x.1 = none -> (k.rd a).1.length = 0) (fun x => .tuple #[sliceB x (k.rd a).1, .int .i64 (k.rd a).2]) (fun x => OwnB x (k.rd a).1 :: DocR d k :: R) := by
 refine DoesA (A := fun _ => True) ?_ (fun x _ w hw => hw.ownNone (.head _))
 by_cases h : k.may a = 0
 ·
  obtain ⟨hf, h0, h1⟩ := may_zero h
  obtain ⟨n, rfl⟩ := Int.eq_ofNat_of_zero_le h0
  have hn : n < k.last.length := by omega
  have e : k.rd (n : Int) = (k.look n, 0) := by unfold DiskD.rd; rw [if_pos h]; rfl
  rw [e]
  refine DoesO (fun w => DocR.open) fun ⟨x, hx⟩ => ?_
  refine DoesE (DocR.shut hx.1 hx.2) ?_
  have hl := DiskD.look_128 hx.1 hn
  refine Does.mono (docread_ok d k n hf hn hcl) id (fun _ _ => trivial) (fun x _ => by simp only [sliceB, hl]; rfl) fun x _ => ?_
  simp only [OwnB, hl, id]; exact Ent.refl
 ·
  have e : k.rd a = ([], k.may a) := by unfold DiskD.rd; rw [if_neg h]
  rw [e]
  exact Does1M (docread_bad d k a h) (none, 0) trivial rfl fun w hw => hw.ownNil 5 1
theorem docfl_ok (d : Nat) (k : DiskD) (hc : k.cache.length <= 1000000000) :
  Does1 W Tryz.prog 169 [.pointer (some ⟨d, 0, none⟩)] (DocR d k :: R) (.int .i64 k.fl.1) (DocR d k.fl.2 :: R) := by
 unfold DiskD.fl
 cases h : k.failed
 · exact docflush_ok d k h hc
 · exact docflush_bad d k h
theorem docimg_ok (d : Nat) (k : DiskD) :
  Does W Tryz.prog 125 [.pointer (some ⟨d, 0, none⟩)] (DocR d k :: R) (β := Option Addr × Nat) (fun x => x.1 = none -> k.img.length = 0) (fun x => sliceB x k.img) (fun x => OwnB x k.img :: DocR d k :: R) := by
 refine DoesA (A := fun _ => True) ?_ (fun x _ w hw => hw.ownNone (.head _))
 unfold DiskD.img
 cases h : k.failed
 · exact docimage_ok d k h
 · exact Does1M (docimage_bad d k h) (none, 0) trivial rfl fun w hw => hw.ownNil 5 1
theorem DiskD.img_len {k : DiskD} (hk : k.ok) : k.img.length <= 1048576 := by
 unfold DiskD.img; split
 · simp
 · have := Go.Proofs.YtdbhpikmagkopaaGreat.img_len hk; have := hk.size; omega
theorem may_small (k : DiskD) (a : Int) : 0 <= k.may a /\ k.may a <= 3 := by rcases k.may_cases a with h | h | h <;> rw [h] <;> decide
theorem rd_small (k : DiskD) (a : Int) : 0 <= (k.rd a).2 /\ (k.rd a).2 <= 100 := by
 have := may_small k a
 unfold DiskD.rd; split <;> dsimp only <;> omega
theorem wr_small (k : DiskD) (a : Int) (b : List UInt8) : 0 <= (k.wr a b).1 /\ (k.wr a b).1 <= 100 := by
 have := may_small k a
 unfold DiskD.wr; split
 · dsimp only; omega
 · split <;> simp
theorem fl_small (k : DiskD) : 0 <= k.fl.1 /\ k.fl.1 <= 100 := by unfold DiskD.fl; split <;> simp
theorem DocR.failedCell {H : List SProp} {d : Nat} {k : DiskD} (m : DocR d k ∈ H) : ∀ w, Holds W H w -> w.cell? ⟨d, 2, none⟩ = some (.bool k.failed) := by
 intro w hw
 obtain ⟨R, p⟩ := mem_perm m
 obtain ⟨x, h⟩ := DocR.open (hw.perm p)
 exact h.cell (.head _) rfl
theorem sets_never : ∀ (l : List (Nat × List UInt8)) (last : List (List UInt8)) (i : Nat), sets (fun _ => false) last i l = last
 | [], _, _ => rfl
 | x :: r, last, i => by rw [sets, if_neg (by simp), sets_never r]
structure RDevP where
  d : Nat
  v : DevD
structure RSlotP where
  in_ : Option RDevP
  aside : Option RDevP
  coming : Option RDevP
def RSlotP.D (s : RSlotP) : SlotD := ⟨s.in_.map RDevP.v, s.aside.map RDevP.v, s.coming.map RDevP.v⟩
abbrev rPtr (p : Option RDevP) : Value := .pointer (p.map fun x => ⟨x.d, 0, none⟩)
def wearV : Option RDevP -> Int
  | none => -1
  | some p => if p.v.worn then p.v.left else -1
def rslotCells (s : RSlotP) : List Value := [rPtr s.in_, rPtr s.aside, rPtr s.coming, .int .i64 (wearV s.in_), .int .i64 (wearV s.aside), .int .i64 (wearV s.coming)]
theorem rslotCells_length (s : RSlotP) : (rslotCells s).length = 6 := rfl
theorem rslot_one (s : RSlotP) : ∀ u ∈ rslotCells s, u.oneCell' = true := by
 intro u hu
 simp only [rslotCells, List.mem_cons, List.not_mem_nil, or_false] at hu
 rcases hu with rfl | rfl | rfl | rfl | rfl | rfl <;> rfl
theorem rslots_one (l : List RSlotP) : ∀ u ∈ l.flatMap rslotCells, u.oneCell' = true := by
 intro u hu
 obtain ⟨s, _, h⟩ := List.mem_flatMap.1 hu
 exact rslot_one s u h
theorem rslots_len (l : List RSlotP) : (l.flatMap rslotCells).length = l.length * 6 := flat_length l (fun _ _ => rfl)
theorem rslots_get (l : List RSlotP) (j i : Nat) (h : j < l.length) (hi : i < 6) : (l.flatMap rslotCells)[j * 6 + i]? = (rslotCells l[j])[i]? := flat_at l j i h (fun _ _ => rfl) hi
def rdevRes : Option RDevP -> SProp
  | none => fact True
  | some p => DocR p.d p.v.k
def rslotRes (s : RSlotP) : SProp := Sl.star [rdevRes s.in_, rdevRes s.aside, rdevRes s.coming]
abbrev rbayRow (b : Nat) (D : BayD) (x : Option Addr × Nat) (n : Nat) : SProp := Row b 108 [.slice x.1 n x.2, .bool D.dark, .int .i64 D.trip, .int .i64 D.n.r, .int .i64 D.n.w, .int .i64 D.n.f]
abbrev rslotsOwn (x : Option Addr × Nat) (sp : List RSlotP) : SProp := Sl.Own 132 6 (.slice x.1 sp.length x.2) sp.length (sp.flatMap rslotCells)
abbrev RBayO (b : Nat) (D : BayD) (x : Option Addr × Nat) (sp : List RSlotP) (R : List SProp) : List SProp := rbayRow b D x sp.length :: rslotsOwn x sp :: (sp.map rslotRes ++ R)
def RBayR (b : Nat) (D : BayD) : SProp := ex fun x : (Option Addr × Nat) × List RSlotP => Sl.star (fact (D.slots = x.2.map RSlotP.D /\ x.2.length <= 17) :: RBayO b D x.1 x.2 [])
theorem RBayR.open {W w : World} {b : Nat} {D : BayD} {R : List SProp} (hw : Holds W (RBayR b D :: R) w) : ∃ x : { x : (Option Addr × Nat) × List RSlotP // D.slots = x.2.map RSlotP.D /\ x.2.length <= 17 }, Holds W (RBayO b D x.1.1 x.1.2 R) w := by
 obtain ⟨x, h⟩ := hw.exOpen
 have h := h.join
 refine ⟨⟨x, h.factOpen⟩, ?_⟩
 have h := h.tail
 have e : RBayO b D x.1 x.2 [] ++ R = RBayO b D x.1 x.2 R := by simp only [RBayO, List.cons_append, List.append_assoc, List.nil_append]
 rw [<- e]; exact h
theorem RBayR.shut {b : Nat} {D : BayD} {R : List SProp} {x : Option Addr × Nat} {sp : List RSlotP} (h1 : D.slots = sp.map RSlotP.D) (h2 : sp.length <= 17) : Ent W (RBayO b D x sp R) (RBayR b D :: R) := fun w hw =>
 Holds.exShut (x, sp) (Holds.nest (L := fact _ :: RBayO b D x sp []) (by
  have h : Holds W (fact (D.slots = sp.map RSlotP.D /\ sp.length <= 17) :: RBayO b D x sp R) w := hw.factShut ⟨h1, h2⟩
  simpa only [RBayO, List.cons_append, List.append_assoc, List.nil_append] using h))
theorem st_rslots : SliceT Tryz.prog 106 132 (.agg #[.pointer none, .pointer none, .pointer none, .int .i64 0, .int .i64 0, .int .i64 0]) 6 48 := ⟨by kernel_rfl, by kernel_rfl, rfl, by simp [Value.cells, Value.oneCell']⟩
theorem agg_cells (cs : List Value) : [Value.agg cs.toArray].flatMap (·.cells.toList) = cs := by simp [Value.cells]
theorem zeros_bytes (n : Nat) : bytes (List.replicate n zeroSec).flatten = List.replicate (n * 128) (.int .u8 0) := by
 rw [bytes_flatten]; exact zeros_flat n
theorem docnew_ok {n : Nat} (h1 : 1 <= n) (h2 : n <= 8192) : Does W Tryz.prog 87 [.int .i64 n] R (β := Nat) (fun _ => True) (fun d => .tuple #[.pointer (some ⟨d, 0, none⟩), .int .i64 0]) (fun d => DocR d (.blank n) :: R) := by
 (refine Does.enter Tryz.func87 Tryz.ntmps87 rfl rfl ?_)
 refine w ?_; repeat (refine zj fun _ => ?_; refine w ?_)
 (first | refine VO.gF rfl rfl rfl (decide_eq_false (by omega)) ?_ | refine VD.gF rfl rfl rfl (decide_eq_false (by omega)) ?_)
 refine w ?_; repeat (refine zj fun _ => ?_; refine w ?_)
 (refine VC.condFe rfl rfl (decide_eq_false (by omega)) ?_)
 refine w ?_; repeat (refine zj fun _ => ?_; refine w ?_)
 refine VO.re 11 (.int .i64 ((n * 128 : Nat) : Int)) rfl (by rw [Nat.mul_comm]; congr 1) ?_
 refine zq ?_
 refine OpV.makeSlice1 (m := n * 128) st_65 rfl rfl rfl (by omega) (by simp only [maxLen]; omega) rfl ?_
 intro nb
 refine w ?_; repeat (refine zj fun _ => ?_; refine w ?_)
 (apply VO.pure rfl rfl; apply PureAt.build sb_196 rfl; (simp [buildX, setL, Value.cells]; rfl); rfl)
 refine zq ?_
 refine OpV.box rfl rfl rfl ?_
 intro d
 refine w ?_; repeat (refine zj fun _ => ?_; refine w ?_)
 refine VE.done d rfl trivial rfl ?_
 have hk : (DiskD.blank n).ok := ⟨fun b hb => by
  have := (List.mem_replicate.1 hb).2
  rw [this]; exact zeroSec_length, (fun c hc => nomatch hc), by show (List.replicate n zeroSec).length <= 8192; rw [List.length_replicate]; exact h2⟩
 have hfl : (DiskD.blank n).last.flatten.length = n * 128 := by
  have := img_len hk
  rw [this]; show (List.replicate n zeroSec).length * 128 = _
  rw [List.length_replicate]
 intro w hw
 have h3 := Holds.ownNil 199 2 hw
 refine DocR.shut (lo := some ⟨nb, 0, none⟩) (lc := n * 128) (co := none) (cc := 0) (C := []) hk rfl w ?_
 have hE : Ent W (Sl.Own 199 2 (.slice none 0 0) 0 [] :: Row d 196 [.slice (some ⟨nb, 0, none⟩) (n * 128) (n * 128), .slice none 0 0, .bool false] :: Sl.Own 5 1 (.slice (some ⟨nb, 0, none⟩) (n * 128) (n * 128)) (n * 128) (List.replicate (n * 128) (.int .u8 0)) :: R) (DocO d (.blank n) (some ⟨nb, 0, none⟩) (n * 128) none 0 [] R) := by
  unfold DocO
  rw [hfl, show bytes (DiskD.blank n).last.flatten = List.replicate (n * 128) (.int .u8 0) from zeros_bytes n]
  exact Ent.re
 exact hE w h3
theorem rslot_push (l : List RSlotP) (s : RSlotP) : (l ++ [s]).flatMap rslotCells = l.flatMap rslotCells ++ rslotCells s := by rw [List.flatMap_append]; simp
theorem rslotNew {A B : SProp} {l : List RSlotP} {s : RSlotP} {R : List SProp} : Ent W (rdevRes s.in_ :: rdevRes s.aside :: rdevRes s.coming :: A :: B :: (l.map rslotRes ++ R)) (A :: B :: ((l ++ [s]).map rslotRes ++ R)) := fun w hw => by
 have h1 : Holds W (rslotRes s :: A :: B :: (l.map rslotRes ++ R)) w := Holds.nest (L := [_, _, _]) hw
 refine h1.perm ?_
 rw [List.map_append, List.map_singleton, List.append_assoc]
 have p : (rslotRes s :: A :: B :: (l.map rslotRes ++ R)).Perm (A :: B :: rslotRes s :: (l.map rslotRes ++ R)) := (List.Perm.swap _ _ _).trans ((List.Perm.swap _ _ _).cons _)
 exact p.trans ((List.perm_middle.symm.cons _).cons _)
theorem rslotGrow {b : Nat} {so : Option Addr} {sc : Nat} {p : Option RDevP} {sp : List RSlotP} {vs : List Value} {R : List SProp} :
  Ent W (rdevRes p :: Row b 108 (.slice so (sp.length + 1) sc :: vs) :: Sl.Own 132 6 (.slice so (sp.length + 1) sc) (sp.length + 1) (sp.flatMap rslotCells ++ rslotCells ⟨p, none, none⟩) :: (sp.map rslotRes ++ R))
   (Row b 108 (.slice so (sp ++ [(⟨p, none, none⟩ : RSlotP)]).length sc :: vs) :: rslotsOwn (so, sc) (sp ++ [(⟨p, none, none⟩ : RSlotP)]) :: ((sp ++ [(⟨p, none, none⟩ : RSlotP)]).map rslotRes ++ R)) := fun w hw => by
 unfold rslotsOwn
 rw [rslot_push, List.length_append, List.length_singleton]
 have h0 : ∀ {L : List SProp}, Holds W L w -> Holds W (rdevRes none :: L) w := fun h => h.factShut trivial
 refine rslotNew (s := ⟨p, none, none⟩) w ?_
 have h1 := h0 (h0 hw)
 refine Holds.perm ?_ h1
 exact List.perm_middle (l₁ := [rdevRes none, rdevRes none])
theorem rbaynew_ok {ao : Option Addr} {cap : Nat} {l : List Int} (hr : Rds W R 1 ao l.length (intsI l)) (hlen : l.length <= 1000000000) :
  Does W Tryz.prog 20 [.slice ao l.length cap] R (β := Option Nat) (fun x => x.isSome = decide (bayE l = 0)) (fun x => .tuple #[.pointer (x.map fun b => ⟨b, 0, none⟩), .int .u16 (bayE l)]) (fun x => x.elim R fun b => RBayR b (BayD.new l) :: R) := by
 (refine Does.enter Tryz.func20 Tryz.ntmps20 rfl rfl ?_)
 refine w ?_; repeat (refine zj fun _ => ?_; refine w ?_)
 unfold bayE
 refine zg ?_ ?_ <;> intro hb
 ·
  have h : l.length < 1 := by have := of_decide_eq_true hb; omega
  refine w ?_; repeat (refine zj fun _ => ?_; refine w ?_)
  refine VE.done none rfl (by rw [if_pos (Or.inl h)]; rfl) (by rw [if_pos (Or.inl h)]; rfl) Ent.refl
 have h1 : ¬ l.length < 1 := by have := of_decide_eq_false hb; omega
 clear hb
 refine w ?_; repeat (refine zj fun _ => ?_; refine w ?_)
 refine zk ?_ ?_ <;> intro hc
 ·
  have h : 17 < l.length := by have := of_decide_eq_true hc; omega
  refine w ?_; repeat (refine zj fun _ => ?_; refine w ?_)
  refine VE.done none rfl (by rw [if_pos (Or.inr h)]; rfl) (by rw [if_pos (Or.inr h)]; rfl) Ent.refl
 have h2 : ¬ 17 < l.length := by have := of_decide_eq_false hc; omega
 clear hc
 rw [if_neg (by omega)]
 obtain ⟨la, rfl⟩ : ∃ x, ao = some x := by cases ao with | none => have := hr.nil rfl; omega | some x => exact ⟨x, rfl⟩
 refine w ?_; repeat (refine zj fun _ => ?_; refine w ?_)
 (apply VO.pure rfl rfl; apply PureAt.build sb_108 rfl; (simp [buildX, setL, Value.cells]; rfl); rfl)
 refine zq ?_
 refine OpV.box rfl rfl rfl ?_
 intro b
 refine w ?_; repeat (refine zj fun _ => ?_; refine w ?_)
 have hb0 : ∀ i, i < l.length -> ∀ H : List SProp, Ent W H R -> Rds W H 1 (some la) l.length (intsI l) := fun i _ H e => hr.ent e
 refine VC.loop (α := Nat) (fun i => i <= l.length /\ ∀ (j : Nat) (h : j < l.length), j < i -> sizeOk l[j] = true) (fun _ => Row b 108 [.slice none 0 0, .bool false, .int .i64 (-1), .int .i64 0, .int .i64 0, .int .i64 0] :: R)
  (fun i => [(0, .slice (some la) l.length cap), (4, .pointer (some ⟨b, 0, none⟩)), (5, .int .i64 i)]) (fun i => l.length - i) rfl 0 ⟨Nat.zero_le _, fun j h h' => absurd h' (by omega)⟩ Ent.refl ⟨rfl, rfl, rfl, trivial⟩ ?_
 rintro i ⟨hi, hall⟩
 refine w ?_; repeat (refine zj fun _ => ?_; refine w ?_)
 refine zk ?_ ?_ <;> intro hc
 ·
  have hlt : i < l.length := by have := of_decide_eq_true hc; omega
  clear hc
  have hbad : sizeOk l[i] = false -> l.all sizeOk = false := fun h => by
   rw [<- Bool.not_eq_true]
   intro h'
   have := List.all_eq_true.1 h' _ (List.getElem_mem hlt)
   rw [h] at this; cases this
  refine w ?_; repeat (refine zj fun _ => ?_; refine w ?_)
  ((first | apply VO.pure rfl rfl | apply VQ.pure rfl rfl | apply VD.take rfl rfl rfl | (refine VD.end rfl rfl rfl ?_; apply OpV.pure)); exact PureAt.ldR tab_ok rfl rfl (hr.ent (Ent.drop Ent.refl)) (intsI_get l i hlt); rfl)
  refine w ?_; repeat (refine zj fun _ => ?_; refine w ?_)
  refine zg ?_ ?_ <;> intro hb
  ·
   have h : l[i] < 0 := of_decide_eq_true hb
   have h3 := hbad (by unfold sizeOk; exact decide_eq_false (by omega))
   refine w ?_; repeat (refine zj fun _ => ?_; refine w ?_)
   refine VE.done none rfl (by rw [h3]; rfl) (by rw [h3]; rfl) (Ent.drop Ent.refl)
  have h3 : ¬ l[i] < 0 := of_decide_eq_false hb
  clear hb
  refine w ?_; repeat (refine zj fun _ => ?_; refine w ?_)
  ((first | apply VO.pure rfl rfl | apply VQ.pure rfl rfl | apply VD.take rfl rfl rfl | (refine VD.end rfl rfl rfl ?_; apply OpV.pure)); exact PureAt.ldR tab_ok rfl rfl (hr.ent (Ent.drop Ent.refl)) (intsI_get l i hlt); rfl)
  refine w ?_; repeat (refine zj fun _ => ?_; refine w ?_)
  refine zk ?_ ?_ <;> intro hc
  ·
   have h : 8192 < l[i] := of_decide_eq_true hc
   have h4 := hbad (by unfold sizeOk; exact decide_eq_false (by omega))
   refine w ?_; repeat (refine zj fun _ => ?_; refine w ?_)
   refine VE.done none rfl (by rw [h4]; rfl) (by rw [h4]; rfl) (Ent.drop Ent.refl)
  have h4 : ¬ 8192 < l[i] := of_decide_eq_false hc
  clear hc
  refine w ?_; repeat (refine zj fun _ => ?_; refine w ?_)
  refine VE.round (i + 1) ⟨hlt, fun j h h' => ?_⟩ (by omega) ⟨rfl, rfl, asV rfl (by congr 1), trivial⟩ Ent.refl
  by_cases hji : j < i
  · exact hall j h hji
  ·
   have : j = i := by omega
   subst this
   unfold sizeOk
   exact decide_eq_true (by omega)
 have hge : i = l.length := by have := of_decide_eq_false hc; omega
 clear hc
 subst hge
 have hok : l.all sizeOk = true := List.all_eq_true.2 fun u hu => by
  obtain ⟨j, hj, rfl⟩ := List.mem_iff_getElem.1 hu
  exact hall j hj hj
 rw [hok]
 simp only [if_true]
 refine w ?_; repeat (refine zj fun _ => ?_; refine w ?_)
 refine VC.ent (fun w hw => Holds.ownNil 132 6 hw) ?_
 refine VC.loop (α := Nat × List RSlotP × Option Addr × Nat) (fun y => y.1 <= l.length /\ y.2.1.length = y.1 /\ y.2.1.map RSlotP.D = (l.take y.1).map slotOf) (fun y => Row b 108 [.slice y.2.2.1 y.2.1.length y.2.2.2, .bool false, .int .i64 (-1), .int .i64 0, .int .i64 0, .int .i64 0] :: rslotsOwn y.2.2 y.2.1 :: (y.2.1.map rslotRes ++ R))
  (fun y => [(0, .slice (some la) l.length cap), (4, .pointer (some ⟨b, 0, none⟩)), (6, .int .i64 y.1)]) (fun y => l.length - y.1) rfl (0, [], none, 0) ⟨Nat.zero_le _, rfl, rfl⟩ Ent.re ⟨rfl, rfl, rfl, trivial⟩ ?_
 rintro ⟨i, sp, so, sc⟩ ⟨hi, hsl, hsd⟩
 dsimp only at hi hsl hsd ⊢
 refine w ?_; repeat (refine zj fun _ => ?_; refine w ?_)
 refine zk ?_ ?_ <;> intro hc
 ·
  have hlt : i < l.length := by have := of_decide_eq_true hc; omega
  clear hc
  have hRm : ∀ A : List SProp, Rds W (A ++ (sp.map rslotRes ++ R)) 1 (some la) l.length (intsI l) := fun A => by rw [<- List.append_assoc]; exact hr.ent (Ent.dropAll _)
  have hsz := List.all_eq_true.1 hok _ (List.getElem_mem hlt)
  have hsz2 : 0 <= l[i] /\ l[i] <= 8192 := of_decide_eq_true hsz
  refine w ?_; repeat (refine zj fun _ => ?_; refine w ?_)
  (apply VO.pure rfl rfl; apply PureAt.build sb_132 rfl; (simp [buildX, setL, Value.cells]; rfl); rfl)
  refine zq ?_
  refine OpV.allocS sb_132 rfl ?_
  intro n7
  refine zq ?_
  refine OpV.stA (vs := rslotCells ⟨none, none, none⟩) tab_ok rfl rfl rfl rfl (rslot_one _) zh (by simp) ?_
  change VO _ _ _ _ _ _ (Row n7 _ (rslotCells ⟨none, none, none⟩) :: _) _
  refine w ?_; repeat (refine zj fun _ => ?_; refine w ?_)
  (first | refine VO.join (α := Option RDevP) (fun p => RSlotP.D ⟨p, none, none⟩ = slotOf l[i]) (fun p => rdevRes p :: Row n7 132 (rslotCells ⟨p, none, none⟩) :: Row b 108 [.slice so sp.length sc, .bool false, .int .i64 (-1), .int .i64 0, .int .i64 0, .int .i64 0] :: rslotsOwn (so, sc) sp :: (sp.map rslotRes ++ R)) (fun _ => [(0, .slice (some la) l.length cap), (4, .pointer (some ⟨b, 0, none⟩)), (6, .int .i64 i), (7, .pointer (some ⟨n7, 0, none⟩))]) ?_ ?_ | refine VC.joinTB (α := Option RDevP) (fun p => RSlotP.D ⟨p, none, none⟩ = slotOf l[i]) (fun p => rdevRes p :: Row n7 132 (rslotCells ⟨p, none, none⟩) :: Row b 108 [.slice so sp.length sc, .bool false, .int .i64 (-1), .int .i64 0, .int .i64 0, .int .i64 0] :: rslotsOwn (so, sc) sp :: (sp.map rslotRes ++ R)) (fun _ => [(0, .slice (some la) l.length cap), (4, .pointer (some ⟨b, 0, none⟩)), (6, .int .i64 i), (7, .pointer (some ⟨n7, 0, none⟩))]) ?_ ?_ | refine VC.joinB (α := Option RDevP) (fun p => RSlotP.D ⟨p, none, none⟩ = slotOf l[i]) (fun p => rdevRes p :: Row n7 132 (rslotCells ⟨p, none, none⟩) :: Row b 108 [.slice so sp.length sc, .bool false, .int .i64 (-1), .int .i64 0, .int .i64 0, .int .i64 0] :: rslotsOwn (so, sc) sp :: (sp.map rslotRes ++ R)) (fun _ => [(0, .slice (some la) l.length cap), (4, .pointer (some ⟨b, 0, none⟩)), (6, .int .i64 i), (7, .pointer (some ⟨n7, 0, none⟩))]) ?_ ?_ | refine VC.join (α := Option RDevP) (fun p => RSlotP.D ⟨p, none, none⟩ = slotOf l[i]) (fun p => rdevRes p :: Row n7 132 (rslotCells ⟨p, none, none⟩) :: Row b 108 [.slice so sp.length sc, .bool false, .int .i64 (-1), .int .i64 0, .int .i64 0, .int .i64 0] :: rslotsOwn (so, sc) sp :: (sp.map rslotRes ++ R)) (fun _ => [(0, .slice (some la) l.length cap), (4, .pointer (some ⟨b, 0, none⟩)), (6, .int .i64 i), (7, .pointer (some ⟨n7, 0, none⟩))]) ?_ ?_)
  ·
   intro Q2 jn
   ((first | apply VO.pure rfl rfl | apply VQ.pure rfl rfl | apply VD.take rfl rfl rfl | (refine VD.end rfl rfl rfl ?_; apply OpV.pure)); exact PureAt.ldR tab_ok rfl rfl (hRm [_, _, _]) (intsI_get l i hlt); rfl)
   refine w ?_; repeat (refine zj fun _ => ?_; refine w ?_)
   refine zk ?_ ?_ <;> intro hc
   ·
    have hpos : 0 < l[i] := of_decide_eq_true hc
    obtain ⟨m, hm⟩ := Int.eq_ofNat_of_zero_le hsz2.1
    rw [hm] at hpos hsz2
    have hs : slotOf l[i] = ⟨some ⟨.blank m, false, 0⟩, none, none⟩ := by unfold slotOf; rw [hm, if_neg (by omega)]; rfl
    refine w ?_; repeat (refine zj fun _ => ?_; refine w ?_)
    ((first | apply VO.pure rfl rfl | apply VQ.pure rfl rfl | apply VD.take rfl rfl rfl | (refine VD.end rfl rfl rfl ?_; apply OpV.pure)); exact PureAt.ldR tab_ok rfl rfl (hRm [_, _, _]) (intsI_get l i hlt); rfl)
    rw [hm]
    (refine zq ?_; refine zd rfl rfl (docnew_ok (n := m) (by omega) (by omega)) ?_)
    intro d _
    refine w ?_; repeat (refine zj fun _ => ?_; refine w ?_)
    refine zq ?_
    refine OpV.st (cs := rslotCells ⟨none, none, none⟩) tab_ok rfl rfl rfl rfl zh (by decide) ?_
    refine w ?_; repeat (refine zj fun _ => ?_; refine w ?_)
    refine jn.to (some ⟨d, ⟨.blank m, false, 0⟩⟩) hs.symm ⟨rfl, rfl, rfl, rfl, trivial⟩ ?_
    exact Ent.refl
   ·
    have hneg : l[i] = 0 := by have := of_decide_eq_false hc; omega
    refine w ?_; repeat (refine zj fun _ => ?_; refine w ?_)
    refine jn.to none (by rw [hneg]; rfl) ⟨rfl, rfl, rfl, rfl, trivial⟩ ?_
    exact fun w hw => hw.factShut trivial
  intro p hp
  (refine VC.drawn [6, 7] 8 [0, 1, 2, 3, 4, 5, 6, 7, 8, 9, 10] (rdevRes p :: Row n7 132 (rslotCells ⟨p, none, none⟩) :: Row b 108 [.slice so sp.length sc, .bool false, .int .i64 (-1), .int .i64 0, .int .i64 0, .int .i64 0] :: (sp.map rslotRes ++ R)) rfl (by kernel_rfl) (by kernel_rfl) Ent.re ?_)
  refine w ?_; repeat (refine zj fun _ => ?_; refine w ?_)
  refine zq ?_
  refine OpV.buildSlice (cs := rslotCells ⟨p, none, none⟩) st_rslots rfl rfl (by intro v hv; rw [List.mem_singleton.1 hv]; rfl) (agg_cells _) (by decide) rfl ?_
  intro nc
  refine w ?_; repeat (refine zj fun _ => ?_; refine w ?_)
  refine zq ?_
  refine OpV.appendRow st_rslots rfl rfl zh zm rfl (rslot_one _) (by simp only [maxLen]; omega) (by omega) rfl ?_
  intro so' sc'
  refine w ?_; repeat (refine zj fun _ => ?_; refine w ?_)
  refine VE.round (i + 1, sp ++ [⟨p, none, none⟩], so', sc') ⟨hlt, by dsimp only; rw [List.length_append, hsl]; rfl, by dsimp only; rw [List.map_append, hsd, List.take_succ_eq_append_getElem hlt, List.map_append, List.map_singleton, List.map_singleton, hp]⟩ (by dsimp only; omega) ⟨rfl, rfl, rfl, trivial⟩ ?_
  refine Ent.trans ?_ rslotGrow
  exact Ent.re
 have hge : i = l.length := by have := of_decide_eq_false hc; omega
 clear hc
 subst hge
 refine w ?_; repeat (refine zj fun _ => ?_; refine w ?_)
 refine VE.done (some b) rfl (by rfl) rfl ?_
 rw [List.take_length] at hsd
 exact RBayR.shut (D := BayD.new l) (x := (so, sc)) hsd.symm (by omega)
def rinP (sp : List RSlotP) (k : Int) : Option RDevP := if 0 <= k then (sp[k.toNat]?).bind RSlotP.in_ else none
theorem rinP_D {D : BayD} {sp : List RSlotP} (h : D.slots = sp.map RSlotP.D) (k : Int) : D.dev k = (rinP sp k).map RDevP.v := by
 unfold BayD.dev rinP
 split
 ·
  rw [h, List.getElem?_map]
  cases sp[k.toNat]? with
  | none => rfl
  | some s => rfl
 · rfl
theorem rinP_range {sp : List RSlotP} {k : Int} (h : inRange sp.length k = false) : rinP sp k = none := by
 unfold inRange at h
 have h := of_decide_eq_false h
 unfold rinP
 split
 · rw [List.getElem?_eq_none (by omega)]; rfl
 · rfl
theorem rrange_split {sp : List RSlotP} {k : Int} (h : inRange sp.length k = true) : ∃ (l1 : List RSlotP) (s : RSlotP) (l2 : List RSlotP), sp = l1 ++ s :: l2 /\ k = (l1.length : Int) := by
 obtain ⟨h0, h1⟩ : 0 <= k /\ k < (sp.length : Int) := of_decide_eq_true h
 obtain ⟨i, rfl⟩ := Int.eq_ofNat_of_zero_le h0
 have hi : i < sp.length := by omega
 refine ⟨sp.take i, sp[i], sp.drop (i + 1), ?_, by rw [List.length_take, Nat.min_eq_left (by omega)]⟩
 rw [<- List.drop_eq_getElem_cons hi, List.take_append_drop]
theorem rinP_mid (l1 : List RSlotP) (s : RSlotP) (l2 : List RSlotP) : rinP (l1 ++ s :: l2) (l1.length : Int) = s.in_ := by
 unfold rinP
 rw [if_pos (by omega), Int.toNat_natCast]; simp
theorem rin_mid (l1 : List RSlotP) (s : RSlotP) (l2 : List RSlotP) : inRange (l1 ++ s :: l2).length (l1.length : Int) = true := decide_eq_true (by simp; omega)
theorem rslot_at {D : BayD} {l1 l2 : List RSlotP} {s : RSlotP} (h : D.slots = (l1 ++ s :: l2).map RSlotP.D) : D.slot (l1.length : Int) = s.D := by
 unfold BayD.slot
 rw [h, Int.toNat_natCast]; simp
abbrev RBayX (b : Nat) (D : BayD) (x : Option Addr × Nat) (l1 : List RSlotP) (s : RSlotP) (l2 : List RSlotP) (R : List SProp) : List SProp :=
  rbayRow b D x (l1 ++ s :: l2).length :: rslotsOwn x (l1 ++ s :: l2) :: ((l1 ++ l2).map rslotRes ++ R)
theorem rslotOut {A B : SProp} (l1 l2 : List RSlotP) (s : RSlotP) (R : List SProp) : Ent W (A :: B :: ((l1 ++ s :: l2).map rslotRes ++ R)) (rdevRes s.in_ :: rdevRes s.aside :: rdevRes s.coming :: A :: B :: ((l1 ++ l2).map rslotRes ++ R)) := fun w hw => by
 have p : (A :: B :: ((l1 ++ s :: l2).map rslotRes ++ R)).Perm (rslotRes s :: A :: B :: ((l1 ++ l2).map rslotRes ++ R)) := by
  simp only [List.map_append, List.map_cons, List.append_assoc, List.cons_append]
  exact ((List.perm_middle.cons _).cons _).trans (List.perm_middle (l₁ := [A, B]))
 exact (hw.perm p).join
theorem rslotIn {A B : SProp} (l1 l2 : List RSlotP) (s : RSlotP) (R : List SProp) : Ent W (rdevRes s.in_ :: rdevRes s.aside :: rdevRes s.coming :: A :: B :: ((l1 ++ l2).map rslotRes ++ R)) (A :: B :: ((l1 ++ s :: l2).map rslotRes ++ R)) := fun w hw => by
 have p : (rslotRes s :: A :: B :: ((l1 ++ l2).map rslotRes ++ R)).Perm (A :: B :: ((l1 ++ s :: l2).map rslotRes ++ R)) := by
  simp only [List.map_append, List.map_cons, List.append_assoc, List.cons_append]
  exact (((List.perm_middle.cons _).cons _).trans (List.perm_middle (l₁ := [A, B]))).symm
 exact (Holds.nest (L := [_, _, _]) hw).perm p
theorem rbayOut {b : Nat} {D : BayD} {x : Option Addr × Nat} {l1 l2 : List RSlotP} {s : RSlotP} {R : List SProp} : Ent W (RBayO b D x (l1 ++ s :: l2) R) (rdevRes s.in_ :: rdevRes s.aside :: rdevRes s.coming :: RBayX b D x l1 s l2 R) := rslotOut l1 l2 s R
theorem rbayIn {b : Nat} {D : BayD} {x : Option Addr × Nat} {l1 l2 : List RSlotP} {s : RSlotP} {R : List SProp} : Ent W (rdevRes s.in_ :: rdevRes s.aside :: rdevRes s.coming :: RBayX b D x l1 s l2 R) (RBayO b D x (l1 ++ s :: l2) R) := rslotIn l1 l2 s R
theorem rbayOutP {b : Nat} {D : BayD} {x : Option Addr × Nat} {l1 l2 : List RSlotP} {s : RSlotP} {R : List SProp} {p : RDevP} (hs : s.in_ = some p) : Ent W (RBayO b D x (l1 ++ s :: l2) R) (DocR p.d p.v.k :: rdevRes s.aside :: rdevRes s.coming :: RBayX b D x l1 s l2 R) := fun w hw => by
 have h := rbayOut w hw
 rw [hs] at h
 exact h
theorem rbayInP {b : Nat} {D : BayD} {x : Option Addr × Nat} {l1 l2 : List RSlotP} {s : RSlotP} {R : List SProp} {p : RDevP} (hs : s.in_ = some p) : Ent W (DocR p.d p.v.k :: rdevRes s.aside :: rdevRes s.coming :: RBayX b D x l1 s l2 R) (RBayO b D x (l1 ++ s :: l2) R) := fun w hw => by
 refine rbayIn w ?_
 rw [hs]
 exact hw
theorem rbayShutC {P : SProp} {b : Nat} {D : BayD} {x : Option Addr × Nat} {l1 l2 : List RSlotP} {s : RSlotP} {R : List SProp} {p : RDevP} (h1 : D.slots = (l1 ++ s :: l2).map RSlotP.D) (h2 : (l1 ++ s :: l2).length <= 17) (hs : s.in_ = some p) :
  Ent W (P :: DocR p.d p.v.k :: rdevRes s.aside :: rdevRes s.coming :: RBayX b D x l1 s l2 R) (P :: RBayR b D :: R) :=
 Ent.ctx (X := [P]) (L := DocR p.d p.v.k :: rdevRes s.aside :: rdevRes s.coming :: rbayRow b D x (l1 ++ s :: l2).length :: rslotsOwn x (l1 ++ s :: l2) :: (l1 ++ l2).map rslotRes) (L' := [RBayR b D]) ((rbayInP hs).trans (RBayR.shut h1 h2))
theorem rslots_rds {H : List SProp} {a : Addr} {c : Nat} {sp : List RSlotP} (m : rslotsOwn (some a, c) sp ∈ H) : Rds W H 6 (some a) sp.length (sp.flatMap rslotCells) :=
 Rds.own (rslots_one _) m (flat_length _ fun _ _ => rfl) (fun h => by cases h)
theorem ris_ok {D : BayD} {x : Option Addr × Nat} {n : Nat} (b : Nat) (k : Int) :
  Does1 W Tryz.prog 80 [.pointer (some ⟨b, 0, none⟩), .int .i64 k] (rbayRow b D x n :: R) (.bool (inRange n k)) (rbayRow b D x n :: R) := by
 (refine Does.enter Tryz.func80 Tryz.ntmps80 rfl rfl ?_)
 refine w ?_
 refine zg ?_ ?_ <;> intro hb
 ·
  have h : 0 <= k := of_decide_eq_true hb
  refine w ?_
  refine VE.done1 rfl ?_ ?_
  · unfold inRange; simp [h]
  · exact Ent.refl
 ·
  have h : ¬ 0 <= k := of_decide_eq_false hb
  refine w ?_
  refine VE.done1 rfl ?_ ?_
  · unfold inRange; rw [decide_eq_false (fun h2 => h h2.1)]
  · exact Ent.refl
theorem rhas_ok {D : BayD} {x : Option Addr × Nat} {sp : List RSlotP} (b : Nat) (k : Int) (hn : sp.length <= 17) :
    Does1 W Tryz.prog 179 [.pointer (some ⟨b, 0, none⟩), .int .i64 k] (RBayO b D x sp R) (.bool ((rinP sp k).any fun p => !p.v.k.failed)) (RBayO b D x sp R) := by
  (refine Does.enter Tryz.func179 Tryz.ntmps179 rfl rfl ?_)
  refine VC.know (p := x.1 = none -> sp.length = 0) (fun w hw => Holds.ownNone hw (.tail _ (.head _))) ?_
  intro hx
  obtain ⟨xa, xc⟩ := x
  dsimp only at hx
  refine w ?_
  ((refine zq ?_; refine zd rfl rfl (ris_ok (D := D) (x := (xa, xc)) (n := sp.length) b k) ?_); intro _ _)
  cases hr : inRange sp.length k
  · refine w ?_
    refine VE.done1 rfl ?_ ?_
    · rw [rinP_range hr]; rfl
    · exact Ent.refl
  obtain ⟨l1, s, l2, rfl, rfl⟩ := rrange_split hr
  have hlt : l1.length < (l1 ++ s :: l2).length := by simp
  obtain ⟨a, rfl⟩ : ∃ a, xa = some a := by cases xa with | none => have := hx rfl; omega | some a => exact ⟨a, rfl⟩
  rw [rinP_mid]
  have c0 : ((l1 ++ s :: l2).flatMap rslotCells)[l1.length * 6 + 0]? = some (rPtr s.in_) := (rslots_get _ _ 0 hlt (by decide)).trans (by simp [rslotCells])
  refine w ?_
  refine VO.pure rfl rfl (.ldRc tab_ok rfl rfl (rslots_rds zm) c0) rfl ?_
  cases hs : s.in_ with
  | none =>
    refine w ?_
    refine VE.done1 rfl ?_ ?_
    · rfl
    · exact Ent.refl
  | some p =>
    dsimp only [rPtr, Option.map_some]
    have c1 : ((l1 ++ s :: l2).flatMap rslotCells)[l1.length * 6 + 0]? = some (.pointer (some ⟨p.d, 0, none⟩)) := by rw [c0, hs]; rfl
    refine w ?_
    refine VO.pure rfl rfl (.ldRc tab_ok rfl rfl (rslots_rds zm) c1) rfl ?_
    refine w ?_
    refine VO.ent (rbayOutP hs) ?_
    refine VO.pure rfl rfl (PureAt.ldc tab_ok rfl rfl (DocR.failedCell zm)) rfl ?_
    refine VO.ent (rbayInP hs) ?_
    refine w ?_
    refine VE.done1 rfl ?_ ?_
    · rfl
    · exact Ent.refl
theorem rthere_ok {D : BayD} {x : Option Addr × Nat} {sp : List RSlotP} (b : Nat) (k : Int) (hn : sp.length <= 17) :
    Does1 W Tryz.prog 111 [.pointer (some ⟨b, 0, none⟩), .int .i64 k] (RBayO b D x sp R) (.int .u16 (thereE sp.length (rinP sp k).isSome k)) (RBayO b D x sp R) := by
  (refine Does.enter Tryz.func111 Tryz.ntmps111 rfl rfl ?_)
  refine VC.know (p := x.1 = none -> sp.length = 0) (fun w hw => Holds.ownNone hw (.tail _ (.head _))) ?_
  intro hx
  obtain ⟨xa, xc⟩ := x
  dsimp only at hx
  refine w ?_
  ((refine zq ?_; refine zd rfl rfl (ris_ok (D := D) (x := (xa, xc)) (n := sp.length) b k) ?_); intro _ _)
  unfold thereE
  cases hr : inRange sp.length k
  · refine w ?_
    refine VE.done1 rfl ?_ ?_
    · rfl
    · exact Ent.refl
  obtain ⟨l1, s, l2, rfl, rfl⟩ := rrange_split hr
  have hlt : l1.length < (l1 ++ s :: l2).length := by simp
  obtain ⟨a, rfl⟩ : ∃ a, xa = some a := by cases xa with | none => have := hx rfl; omega | some a => exact ⟨a, rfl⟩
  rw [rinP_mid]
  have c0 : ((l1 ++ s :: l2).flatMap rslotCells)[l1.length * 6 + 0]? = some (rPtr s.in_) := (rslots_get _ _ 0 hlt (by decide)).trans (by simp [rslotCells])
  refine w ?_
  refine VO.pure rfl rfl (.ldRc tab_ok rfl rfl (rslots_rds zm) c0) rfl ?_
  cases hs : s.in_ with
  | none =>
    refine w ?_
    refine VE.done1 rfl ?_ ?_
    · rfl
    · exact Ent.refl
  | some p =>
    dsimp only [rPtr, Option.map_some]
    refine w ?_
    refine VE.done1 rfl ?_ ?_
    · rfl
    · exact Ent.refl
theorem rtaken_ok {D : BayD} {a : Addr} {xc : Nat} {l1 l2 : List RSlotP} {s : RSlotP} (b : Nat) (hn : (l1 ++ s :: l2).length <= 17) :
    Does1 W Tryz.prog 129 [.pointer (some ⟨b, 0, none⟩), .int .i64 (l1.length : Int)] (RBayO b D (some a, xc) (l1 ++ s :: l2) R) (.bool s.D.taken) (RBayO b D (some a, xc) (l1 ++ s :: l2) R) := by
  (refine Does.enter Tryz.func129 Tryz.ntmps129 rfl rfl ?_)
  have hlt : l1.length < (l1 ++ s :: l2).length := by simp
  have c2 : ((l1 ++ s :: l2).flatMap rslotCells)[l1.length * 6 + 2]? = some (rPtr s.coming) := (rslots_get _ _ 2 hlt (by decide)).trans (by simp [rslotCells])
  refine w ?_
  ((refine zq ?_; refine zd rfl rfl (rhas_ok (D := D) (x := (some a, xc)) (sp := l1 ++ s :: l2) b (l1.length : Int) hn) ?_); intro _ _)
  rw [rinP_mid]
  have e : (s.in_.any fun p => !p.v.k.failed) = (s.D.in_.any fun v => !v.k.failed) := by unfold RSlotP.D; cases s.in_ <;> rfl
  unfold SlotD.taken
  rw [e]
  cases ht : (s.D.in_.any fun v => !v.k.failed)
  · refine w ?_
    refine VO.pure rfl rfl (.ldRc tab_ok rfl rfl (rslots_rds zm) c2) rfl ?_
    have e2 : s.D.coming.isSome = s.coming.isSome := by unfold RSlotP.D; cases s.coming <;> rfl
    rw [e2]
    cases hs : s.coming with
    | none =>
      refine w ?_
      refine VE.done1 rfl ?_ ?_
      · rfl
      · exact Ent.refl
    | some p =>
      dsimp only [rPtr, Option.map_some]
      refine w ?_
      refine VE.done1 rfl ?_ ?_
      · rfl
      · exact Ent.refl
  · refine w ?_
    refine VE.done1 rfl ?_ ?_
    · rfl
    · exact Ent.refl
theorem rbayimage_ok (b : Nat) (D : BayD) (k : Int) :
    Does W Tryz.prog 64 [.pointer (some ⟨b, 0, none⟩), .int .i64 k] (RBayR b D :: R) (β := Option Addr × Nat) (fun x => x.1 = none -> (D.image k).1.length = 0) (fun x => .tuple #[sliceB x (D.image k).1, .int .u16 (D.image k).2]) (fun x => OwnB x (D.image k).1 :: RBayR b D :: R) := by
  refine DoesA (A := fun _ => True) ?_ (fun x _ w hw => hw.ownNone (.head _))
  refine DoesO (fun w => RBayR.open) ?_
  rintro ⟨⟨x, sp⟩, h1, h2⟩
  dsimp only at h1 h2 ⊢
  (refine Does.enter Tryz.func64 Tryz.ntmps64 rfl rfl ?_)
  refine VC.know (p := x.1 = none -> sp.length = 0) (fun w hw => Holds.ownNone hw (.tail _ (.head _))) ?_
  intro hx
  obtain ⟨xa, xc⟩ := x
  dsimp only at hx
  refine w ?_
  ((refine zq ?_; refine zd rfl rfl (rthere_ok (D := D) (x := (xa, xc)) (sp := sp) b k h2) ?_); intro _ _)
  unfold BayD.image
  rw [rinP_D h1, show D.slots.length = sp.length by rw [h1, List.length_map]]
  have nope : thereE sp.length false k ≠ 0 := by unfold thereE; split <;> simp
  cases hp : rinP sp k with
  | none =>
    dsimp only [Option.map_none, Option.isSome_none]
    refine w ?_
    (refine VC.condTe rfl rfl (by simpa using nope) ?_)
    refine w ?_
    refine VE.done (none, 0) rfl trivial rfl fun w hw => (RBayR.shut (x := (xa, xc)) h1 h2 w hw).ownNil 5 1
  | some p =>
    have hr : inRange sp.length k = true := by rw [<- Bool.not_eq_false]; intro h; rw [rinP_range h] at hp; cases hp
    obtain ⟨l1, s, l2, rfl, rfl⟩ := rrange_split hr
    have hlt : l1.length < (l1 ++ s :: l2).length := by simp
    obtain ⟨a, rfl⟩ : ∃ a, xa = some a := by cases xa with | none => have := hx rfl; omega | some a => exact ⟨a, rfl⟩
    rw [rinP_mid] at hp
    have c0 : ((l1 ++ s :: l2).flatMap rslotCells)[l1.length * 6 + 0]? = some (rPtr (some p)) := (rslots_get _ _ 0 hlt (by decide)).trans (by simp [rslotCells, hp])
    have he : thereE (l1 ++ s :: l2).length true (l1.length : Int) = 0 := by unfold thereE; rw [rin_mid]; rfl
    dsimp only [Option.map_some, Option.isSome_some]
    rw [he]
    refine w ?_
    refine VO.pure rfl rfl (.ldRc tab_ok rfl rfl (rslots_rds zm) c0) rfl ?_
    refine w ?_
    refine VO.ent (rbayOutP hp) ?_
    (refine zq ?_; refine zd rfl rfl (docimg_ok p.d p.v.k) ?_)
    intro y _
    refine w ?_
    refine VE.done y rfl trivial rfl ?_
    exact rbayShutC h1 h2 hp
theorem rslots_mid (l1 l2 : List RSlotP) (cs : List Value) (hc : cs.length = 6) (i : Nat) (hi : i < 6) (v : Value) :
  (l1.flatMap rslotCells ++ (cs ++ l2.flatMap rslotCells)).set (l1.length * 6 + i) v = l1.flatMap rslotCells ++ (cs.set i v ++ l2.flatMap rslotCells) := by
 rw [List.set_append_right _ _ (by rw [rslots_len]; omega), rslots_len, Nat.add_sub_cancel_left, List.set_append_left _ _ (by omega)]
theorem rslots_split (l1 l2 : List RSlotP) (s : RSlotP) : (l1 ++ s :: l2).flatMap rslotCells = l1.flatMap rslotCells ++ (rslotCells s ++ l2.flatMap rslotCells) := by
 rw [List.flatMap_append, List.flatMap_cons]
theorem rlays_no {D : BayD} {a : Addr} {xc : Nat} {l1 l2 : List RSlotP} {s : RSlotP} {p : Option Addr} (b : Nat) (hn : (l1 ++ s :: l2).length <= 17) (e : Int) (he : e = 0 \/ e = 40) (h : s.D.taken = true \/ e = 40) :
  Does1 W Tryz.prog 82 [.pointer (some ⟨b, 0, none⟩), .int .i64 (l1.length : Int), .pointer p, .int .i64 e] (RBayO b D (some a, xc) (l1 ++ s :: l2) R) (.int .u16 (if s.D.taken then 52 else e)) (RBayO b D (some a, xc) (l1 ++ s :: l2) R) := by
 (refine Does.enter Tryz.func82 Tryz.ntmps82 rfl rfl ?_)
 refine w ?_
 ((refine zq ?_; refine zd rfl rfl (rtaken_ok (D := D) (a := a) (xc := xc) (l1 := l1) (l2 := l2) (s := s) b hn) ?_); intro _ _)
 cases ht : s.D.taken
 ·
  have he : e = 40 := by rcases h with h | h; rw [ht] at h; cases h; exact h
  subst he
  refine w ?_
  refine VE.done1 rfl ?_ ?_
  · rfl
  · exact Ent.refl
 ·
  refine w ?_
  refine VE.done1 rfl ?_ ?_
  · rfl
  · exact Ent.refl
theorem rlays_ok {D : BayD} {a : Addr} {xc d : Nat} {kd : DiskD} {l1 l2 : List RSlotP} {s : RSlotP} (b : Nat) (h1 : D.slots = (l1 ++ s :: l2).map RSlotP.D) (hn : (l1 ++ s :: l2).length <= 17) (ht : s.D.taken = false) :
  Does1 W Tryz.prog 82 [.pointer (some ⟨b, 0, none⟩), .int .i64 (l1.length : Int), .pointer (some ⟨d, 0, none⟩), .int .i64 0] (RBayO b D (some a, xc) (l1 ++ s :: l2) (DocR d kd :: R)) (.int .u16 0) (RBayR b (D.setSlot l1.length ⟨some ⟨kd, false, 0⟩, s.D.aside, s.D.coming⟩) :: R) := by
 (refine Does.enter Tryz.func82 Tryz.ntmps82 rfl rfl ?_)
 have hlt : l1.length < (l1 ++ s :: l2).length := by simp
 refine w ?_
 ((refine zq ?_; refine zd rfl rfl (rtaken_ok (D := D) (a := a) (xc := xc) (l1 := l1) (l2 := l2) (s := s) b hn) ?_); intro _ _)
 rw [ht]
 refine w ?_
 refine zq ?_
 refine OpV.stO2 tab_ok rfl rfl rfl rfl zh (by rw [rslots_len]; omega) (by rw [rslots_split, rslots_mid l1 l2 _ rfl 0 (by decide)]) ?_
 refine w ?_
 refine zq ?_
 refine OpV.stO2 tab_ok rfl rfl rfl rfl zh (by simp only [List.length_append, List.length_set, rslots_len, rslotCells_length, List.length_cons]; omega) (by rw [rslots_mid l1 l2 _ (by rw [List.length_set]; rfl) 3 (by decide)]) ?_
 refine w ?_
 refine VE.done1 rfl ?_ ?_
 · rfl
 have e1 : (((rslotCells s).set 0 (.pointer (some ⟨d, 0, none⟩))).set 3 (.int .i64 (-1))) = rslotCells ⟨some ⟨d, ⟨kd, false, 0⟩⟩, s.aside, s.coming⟩ := rfl
 rw [e1, <- rslots_split]
 have e2 : (l1 ++ s :: l2).length = (l1 ++ (⟨some ⟨d, ⟨kd, false, 0⟩⟩, s.aside, s.coming⟩ : RSlotP) :: l2).length := by simp
 refine Ent.trans (fun w hw => rslotOut l1 l2 s _ w hw) ?_
 rw [e2]
 refine Ent.trans ?_ (RBayR.shut (x := (some a, xc)) (sp := l1 ++ (⟨some ⟨d, ⟨kd, false, 0⟩⟩, s.aside, s.coming⟩ : RSlotP) :: l2) ?_ (by rw [<- e2]; exact hn))
 ·
  refine Ent.trans (fun w hw => ?_) rbayIn
  have p := List.perm_middle (l₁ := rdevRes s.in_ :: rdevRes s.aside :: rdevRes s.coming :: rbayRow b D (some a, xc) (l1 ++ (⟨some ⟨d, ⟨kd, false, 0⟩⟩, s.aside, s.coming⟩ : RSlotP) :: l2).length :: rslotsOwn (some a, xc) (l1 ++ (⟨some ⟨d, ⟨kd, false, 0⟩⟩, s.aside, s.coming⟩ : RSlotP) :: l2) :: (l1 ++ l2).map rslotRes) (a := DocR d kd) (l₂ := R)
  exact ((hw.perm p).perm (List.Perm.swap _ _ _)).tail
 ·
  unfold BayD.setSlot
  simp only [h1, List.map_append, List.map_cons]
  rw [List.set_append_right _ _ (by simp)]
  simp [RSlotP.D]
theorem docload_bad1 {n : Nat} (h : ¬ (n % 128 = 0 /\ 1 <= n / 128 /\ n / 128 <= 8192)) : n = 0 \/ n % 128 ≠ 0 \/ 1048576 < n := by omega
theorem rbayload_ok {ao : Option Addr} {cap : Nat} {l : List UInt8} (b : Nat) (D : BayD) (k : Int) (hl : RdsA W 1 ao l.length (bytes l)) (hlen : l.length <= 1000000000) :
  Does1 W Tryz.prog 17 [.pointer (some ⟨b, 0, none⟩), .int .i64 k, .slice ao l.length cap] (RBayR b D :: R) (.int .u16 (D.load k l).1) (RBayR b (D.load k l).2 :: R) := by
 refine DoesO (fun w => RBayR.open) ?_
 rintro ⟨⟨x, sp⟩, h1, h2⟩
 dsimp only at h1 h2 ⊢
 (refine Does.enter Tryz.func17 Tryz.ntmps17 rfl rfl ?_)
 refine VC.know (p := x.1 = none -> sp.length = 0) (fun w hw => Holds.ownNone hw (.tail _ (.head _))) ?_
 intro hx
 obtain ⟨xa, xc⟩ := x
 dsimp only at hx
 refine w ?_
 ((refine zq ?_; refine zd rfl rfl (ris_ok (D := D) (x := (xa, xc)) (n := sp.length) b k) ?_); intro _ _)
 unfold BayD.load BayD.lay BayD.layE
 rw [show D.slots.length = sp.length by rw [h1, List.length_map]]
 cases hr : inRange sp.length k
 ·
  refine w ?_
  refine VE.done1 rfl ?_ ?_
  · rfl
  · exact RBayR.shut (x := (xa, xc)) h1 h2
 obtain ⟨l1, s, l2, rfl, rfl⟩ := rrange_split hr
 have hlt : l1.length < (l1 ++ s :: l2).length := by simp
 obtain ⟨a, rfl⟩ : ∃ a, xa = some a := by cases xa with | none => have := hx rfl; omega | some a => exact ⟨a, rfl⟩
 rw [rslot_at h1]
 refine w ?_
 by_cases hL : l.length % 128 = 0 /\ 1 <= l.length / 128 /\ l.length / 128 <= 8192
 ·
  have hm : l.length = l.length / 128 * 128 := by omega
  have hE : loadE l.length = 0 := by unfold loadE; rw [if_pos hL]
  rw [hE]
  obtain ⟨m, hm2⟩ : ∃ m, l.length / 128 = m := ⟨_, rfl⟩
  rw [hm2] at hm hL ⊢
  rw [hm] at hl ⊢
  (refine zq ?_; refine zd rfl rfl (docload_ok hl hL.2.1 hL.2.2) ?_)
  intro d _
  refine w ?_
  cases ht : s.D.taken
  ·
   refine VO.ent (H' := RBayO b D (some a, xc) (l1 ++ s :: l2) (DocR d ⟨chunks l m, [], false⟩ :: R)) (fun w hw => ?_) ?_
   · exact hw.perm (List.perm_middle (l₁ := rbayRow b D (some a, xc) (l1 ++ s :: l2).length :: rslotsOwn (some a, xc) (l1 ++ s :: l2) :: (l1 ++ s :: l2).map rslotRes)).symm
   ((refine zq ?_; refine zd rfl rfl (rlays_ok (D := D) (a := a) (xc := xc) (l1 := l1) (l2 := l2) (s := s) (d := d) (kd := ⟨chunks l m, [], false⟩) (R := R) b h1 h2 ht) ?_); intro _ _)
   refine w ?_
   refine VE.done1 rfl ?_ ?_
   · rfl
   · exact Ent.refl
  ·
   refine VO.ent (fun w hw => hw.tail) ?_
   ((refine zq ?_; refine zd rfl rfl (rlays_no (D := D) (a := a) (xc := xc) (l1 := l1) (l2 := l2) (s := s) (p := some ⟨d, 0, none⟩) b h2 0 (.inl rfl) (.inl ht)) ?_); intro _ _)
   rw [ht]
   refine w ?_
   refine VE.done1 rfl ?_ ?_
   · rfl
   · exact RBayR.shut h1 h2
 ·
  have hE : loadE l.length = 40 := by unfold loadE; rw [if_neg hL]
  rw [hE]
  ((refine zq ?_; refine zd rfl rfl (docload_bad (docload_bad1 hL)) ?_); intro _ _)
  refine w ?_
  ((refine zq ?_; refine zd rfl rfl (rlays_no (D := D) (a := a) (xc := xc) (l1 := l1) (l2 := l2) (s := s) b h2 40 (.inr rfl) (.inr rfl)) ?_); intro _ _)
  refine w ?_
  cases ht : s.D.taken
  ·
   refine VE.done1 rfl ?_ ?_
   · rfl
   · exact RBayR.shut h1 h2
  ·
   refine VE.done1 rfl ?_ ?_
   · rfl
   · exact RBayR.shut h1 h2
theorem docwriteR_ok {ao : Option Addr} {cap : Nat} {b : List UInt8} (d : Nat) (k : DiskD) (a : Nat) (ha : a < k.last.length) (hfa : k.failed = false) (hb8 : b.length = 128) (hcl : k.cache.length <= 1000000000) (hr : Rds W R 1 ao 128 (bytes b)) :
  Does1 W Tryz.prog 103 [.pointer (some ⟨d, 0, none⟩), .int .i64 a, .slice ao 128 cap] (DocR d k :: R) (.int .i64 0) (DocR d (k.write a b) :: R) := by
 (refine Does.enter Tryz.func103 Tryz.ntmps103 rfl rfl ?_)
 refine VC.obtain (fun w => DocR.open) ?_
 rintro ⟨⟨⟨lo, lc⟩, ⟨co, cc⟩, C⟩, hk, hf⟩
 have hfl := flat_len hk
 have hs := hk.size
 have hCl : C.length = k.cache.length := by have := congrArg List.length hf; simpa using this
 dsimp only [DocO]
 refine w ?_
 (refine VC.condFe rfl rfl (hfa) ?_)
 refine w ?_
 refine VO.pure rfl rfl (PureAt.quo (b := 128) rfl rfl (by decide) (IntWalk.i64_in _ ⟨by omega, by omega⟩)) rfl ?_
 refine w ?_
 (refine VC.condFe rfl rfl (by rw [hfl, Nat.mul_div_cancel _ (by decide)]; simp; omega) ?_)
 refine w ?_
 refine VO.ent (H' := Own 5 1 (.slice none 0 0) 0 [] :: DocO d k lo lc co cc C R) (fun w hw => hw.ownNil _ _) ?_
 dsimp only [DocO]
 refine zq ?_
 refine OpV.append st_65 rfl rfl .head (fun w hw => ((hr.ent (Ent.drop (Ent.drop (Ent.drop (Ent.drop (Ent.dropAll (C.map fun c => c.2.res))))))).sees hw).src st_65.und) (by decide) (by decide) rfl ?_
 intro ao' cap'
 simp only [Nat.zero_add, List.nil_append]
 refine w ?_
 (apply VO.pure rfl rfl; apply PureAt.build sb_199 rfl; (simp [buildX, setL, Value.cells]; rfl); rfl)
 refine zq ?_
 refine OpV.buildSlice (vs := [.agg #[.int .i64 (a : Int), .slice ao' 128 cap']]) (cs := [.int .i64 (a : Int), .slice ao' 128 cap']) st_194 rfl rfl (by simp [Value.cells]) (by simp [Value.cells]) (by decide) rfl ?_
 intro nb
 refine zq ?_
 refine OpV.appendRow st_194 rfl rfl zh zm rfl (by simp [Value.oneCell']) ?_ ?_ rfl ?_
 · simp only [maxLen]; omega
 · omega
 intro co' cc'
 refine w ?_
 refine VE.done1 rfl ?_ ?_
 · rfl
 ·
  have er : Own 5 1 (.slice ao' 128 cap') 128 (bytes b) = ListE.res ⟨ao', cap', bytes b⟩ := by unfold ListE.res; simp only [bytes_length, hb8]
  have hb9 : (bytes b).length = 128 := by rw [bytes_length, hb8]
  have := DocR.shut (W := W) (R := R) (d := d) (k := k.write a b) (lo := lo) (lc := lc) (co := co') (cc := cc') (C := C ++ [(a, ⟨ao', cap', bytes b⟩)]) (DiskD.write_okk hk ha hb8) (by
   unfold Fits at hf ⊢
   rw [List.map_append, hf]
   show _ = (k.cache ++ [(a, b)]).map _
   rw [List.map_append]; rfl)
  refine Ent.trans ?_ this
  have e2 : (k.write a b).last = k.last := rfl
  have e3 : (k.write a b).failed = k.failed := rfl
  have e4 : wcs (C ++ [(a, (⟨ao', cap', bytes b⟩ : ListE))]) = wcs C ++ [.int .i64 (a : Int), .slice ao' 128 cap'] := by
   unfold wcs; rw [List.flatMap_append]; simp [ListE.hdr, hb8]
  simp only [DocO, e2, e3, e4, List.length_append, List.length_singleton, List.map_append, List.map_cons, List.map_nil, List.append_assoc, List.cons_append, List.nil_append]
  rw [er]
  intro w hw
  refine Holds.perm ?_ (hw.tail)
  exact (List.perm_middle (l₁ := _ :: _ :: _ :: C.map (fun c => c.2.res))).symm
theorem docwrR_ok {ao : Option Addr} {cap : Nat} {b : List UInt8} (d : Nat) (k : DiskD) (a : Int) (hc : k.cache.length <= 1000000000) (hr : Rds W R 1 ao b.length (bytes b)) :
  Does1 W Tryz.prog 103 [.pointer (some ⟨d, 0, none⟩), .int .i64 a, .slice ao b.length cap] (DocR d k :: R) (.int .i64 (k.wr a b).1) (DocR d (k.wr a b).2 :: R) := by
 unfold DiskD.wr
 by_cases h : k.may a = 0
 ·
  rw [if_neg (by simpa using h)]
  by_cases hb : b.length = 128
  ·
   rw [if_neg (by simpa using hb)]
   obtain ⟨hf, h0, h1⟩ := may_zero h
   obtain ⟨n, rfl⟩ := Int.eq_ofNat_of_zero_le h0
   rw [hb] at hr ⊢
   exact docwriteR_ok d k n (by omega) hf hb hc hr
  · rw [if_pos hb]; exact docwrite_len d k a h hb
 · rw [if_pos h]; exact docwrite_bad d k a h
theorem rbayInK {b : Nat} {D : BayD} {x : Option Addr × Nat} {l1 l2 : List RSlotP} {s : RSlotP} {R : List SProp} {p : RDevP} (k' : DiskD) (hs : s.in_ = some p) (h1 : D.slots = (l1 ++ s :: l2).map RSlotP.D) (h2 : (l1 ++ s :: l2).length <= 17) :
  Ent W (DocR p.d k' :: rdevRes s.aside :: rdevRes s.coming :: RBayX b D x l1 s l2 R) (RBayR b (D.setIn l1.length ⟨k', p.v.worn, p.v.left⟩) :: R) := fun w hw => by
 obtain ⟨s', hs'⟩ : ∃ s' : RSlotP, s' = ⟨some ⟨p.d, ⟨k', p.v.worn, p.v.left⟩⟩, s.aside, s.coming⟩ := ⟨_, rfl⟩
 have e1 : (l1 ++ s' :: l2).length = (l1 ++ s :: l2).length := by simp
 have ec : rslotCells s' = rslotCells s := by subst hs'; unfold rslotCells; rw [hs]; rfl
 have e2 : rslotsOwn x (l1 ++ s' :: l2) = rslotsOwn x (l1 ++ s :: l2) := by
  unfold rslotsOwn
  rw [e1, List.flatMap_append, List.flatMap_cons, List.flatMap_append, List.flatMap_cons, ec]
 have hD : (D.setIn l1.length ⟨k', p.v.worn, p.v.left⟩).slots = (l1 ++ s' :: l2).map RSlotP.D := by
  unfold BayD.setIn
  simp only [h1, List.map_append, List.map_cons]
  rw [List.set_append_right _ _ (by simp), List.getElem?_append_right (by simp)]
  subst hs'
  simp [RSlotP.D]
 refine RBayR.shut (x := x) hD (by rw [e1]; exact h2) w ?_
 refine rbayIn w ?_
 have h3 : Holds W (rdevRes s'.in_ :: rdevRes s'.aside :: rdevRes s'.coming :: RBayX b D x l1 s l2 R) w := by subst hs'; exact hw
 simp only [RBayX, e1, e2] at h3 ⊢
 exact h3
def BayD.beg (D : BayD) (k : Int) (j : Nat) : BayD := if D.refuse k = 0 then (D.ahead k j).setIn k.toNat (D.dv k) else D.ahead k j
theorem dev_slots {D E : BayD} (h : E.slots = D.slots) (k : Int) : E.dev k = D.dev k := by unfold BayD.dev; rw [h]
theorem setIn_dev {D : BayD} {k : Int} {u v : DevD} (h : D.dev k = some u) : (D.setIn k.toNat v).dev k = some v := by
 unfold BayD.dev at h ⊢
 split at h
 ·
  rename_i h0
  rw [if_pos h0]
  obtain ⟨s, h1, h2⟩ := Option.bind_eq_some_iff.1 h
  obtain ⟨hi, e⟩ := List.getElem?_eq_some_iff.1 h1
  unfold BayD.setIn
  dsimp only
  rw [List.getElem?_set_self hi]; rfl
 · cases h
theorem setIn_setIn (D : BayD) (i : Nat) (u v : DevD) : (D.setIn i u).setIn i v = D.setIn i v := by
 unfold BayD.setIn
 dsimp only
 congr 1
 by_cases h : i < D.slots.length
 · rw [List.getElem?_set_self h, List.set_set]; rfl
 · simp only [List.set_eq_of_length_le (show D.slots.length <= i by omega)]
theorem refuse_dev {D : BayD} {k : Int} (h : D.refuse k = 0) : inRange D.slots.length k = true /\ D.pow.dark = false /\ ∃ v, D.dev k = some v := by
 unfold BayD.refuse at h
 split at h
 · cases h
 ·
  rename_i h1
  split at h
  · cases h
  ·
   rename_i h2
   have h1 : inRange D.slots.length k = true := by simpa using h1
   refine ⟨h1, by simpa using h2, ?_⟩
   unfold thereE at h
   rw [if_pos h1] at h
   cases hd : D.dev k with
   | none => rw [hd] at h; cases h
   | some v => exact ⟨v, rfl⟩
theorem beg_dev {D : BayD} {k : Int} {j : Nat} (h : D.refuse k = 0) : (D.beg k j).dev k = some (D.dv k) := by
 obtain ⟨_, _, v, hv⟩ := refuse_dev h
 unfold BayD.beg
 rw [if_pos h]
 exact setIn_dev (u := v) (by rw [dev_slots (D.ahead_slots k j)]; exact hv)
theorem beg_setIn {D : BayD} {k : Int} {j : Nat} (h : D.refuse k = 0) (v : DevD) : (D.beg k j).setIn k.toNat v = (D.ahead k j).setIn k.toNat v := by
 unfold BayD.beg
 rw [if_pos h, setIn_setIn]
end Go.Proofs.YtdbhpikmagkopaaGreat
/-! Text Oi. -/
namespace Go.Proofs.YtdbhpikmagkopaaGreat
open Go.RowKit Go.Sl
structure CntIn (n : CntD) (c : Nat) : Prop where
  r : 0 <= n.r /\ n.r <= c
  w : 0 <= n.w /\ n.w <= c
  f : 0 <= n.f /\ n.f <= c
structure Calm (D : BayD) (m c : Nat) : Prop where
  len : D.slots.length = m
  dark : D.dark = false
  trip : D.trip = -1
  worn : ∀ s ∈ D.slots, ∀ v, s.in_ = some v -> v.worn = false
  cap : D.capd c
  n : CntIn D.n c
theorem CntIn.mono {n : CntD} {c c' : Nat} (h : CntIn n c) (hc : c <= c') : CntIn n c' := ⟨⟨h.r.1, by have := h.r.2; omega⟩, ⟨h.w.1, by have := h.w.2; omega⟩, ⟨h.f.1, by have := h.f.2; omega⟩⟩
theorem CntIn.inc {n : CntD} {c : Nat} (h : CntIn n c) (hc : c < 1000000000) (j : Nat) : CntIn (n.inc j) (c + 1) := by
 have h1 := h.r; have h2 := h.w; have h3 := h.f
 have e : ∀ x : Int, 0 <= x /\ x <= c -> IntKind.i64.wrap (x + 1) = x + 1 := fun x hx => IntWalk.i64_in _ ⟨by omega, by omega⟩
 unfold CntD.inc
 split
 · exact ⟨by dsimp only; rw [e _ h1]; omega, by dsimp only; omega, by dsimp only; omega⟩
 · exact ⟨by dsimp only; omega, by dsimp only; rw [e _ h2]; omega, by dsimp only; omega⟩
 · exact ⟨by dsimp only; omega, by dsimp only; omega, by dsimp only; rw [e _ h3]; omega⟩
theorem Calm.pow {D : BayD} {m c : Nat} (h : Calm D m c) : D.pow = D := by unfold BayD.pow; rw [if_neg (by rw [h.trip]; decide)]
theorem Calm.ahead {D : BayD} {m c : Nat} (h : Calm D m c) (hc : c < 1000000000) (k : Int) (j : Nat) : Calm (D.ahead k j) m (c + 1) := by
 unfold BayD.ahead
 split
 · exact ⟨h.len, h.dark, h.trip, h.worn, h.cap.mono (Nat.le_succ _), h.n.mono (Nat.le_succ _)⟩
 ·
  rw [h.pow, if_neg (by rw [h.dark]; decide)]
  refine ⟨h.len, h.dark, ?_, h.worn, h.cap.mono (Nat.le_succ _), h.n.inc hc j⟩
  show (if 0 < D.trip then _ else D.trip) = -1
  rw [h.trip]; rfl
theorem Calm.dev {D : BayD} {m c : Nat} (h : Calm D m c) {k : Int} {v : DevD} (hv : D.dev k = some v) : v.worn = false /\ v.k.cache.length <= c /\ D.dv k = v := by
 obtain ⟨s, hs, hi⟩ := dev_mem hv
 have hw := h.worn s hs v hi
 refine ⟨hw, h.cap s hs v (.inl hi), ?_⟩
 unfold BayD.dv
 rw [hv]
 show v.use = v
 unfold DevD.use; rw [if_pos hw]
theorem Calm.setIn {D : BayD} {m c : Nat} (h : Calm D m c) (i : Nat) {v : DevD} (hw : v.worn = false) (hc : v.k.cache.length <= c) : Calm (D.setIn i v) m c := by
 refine ⟨by unfold BayD.setIn; rw [List.length_set]; exact h.len, h.dark, h.trip, fun s hs u hu => ?_, setIn_capd h.cap hc, h.n⟩
 rcases List.mem_or_eq_of_mem_set hs with q | q
 · exact h.worn s q u hu
 ·
  subst q
  have hu : some v = some u := hu
  cases hu; exact hw
theorem Calm.mono {D : BayD} {m c c' : Nat} (h : Calm D m c) (hc : c <= c') : Calm D m c' := ⟨h.len, h.dark, h.trip, h.worn, h.cap.mono hc, h.n.mono hc⟩
theorem Calm.write {D : BayD} {m c : Nat} (h : Calm D m c) (hc : c < 1000000000) (k a : Int) (b : List UInt8) : Calm (D.write k a b).2 m (c + 1) := by
 unfold BayD.write
 split
 ·
  rename_i hr
  obtain ⟨_, _, v, hv⟩ := refuse_dev hr
  obtain ⟨h1, h2, h3⟩ := h.dev hv
  rw [h3]
  exact (h.ahead hc k 1).setIn _ h1 (wr_cap h2)
 · exact h.ahead hc k 1
theorem Calm.flush {D : BayD} {m c : Nat} (h : Calm D m c) (hc : c < 1000000000) (k : Int) : Calm (D.flush k).2 m (c + 1) := by
 unfold BayD.flush
 split
 ·
  rename_i hr
  obtain ⟨_, _, v, hv⟩ := refuse_dev hr
  obtain ⟨h1, h2, h3⟩ := h.dev hv
  rw [h3]
  exact (h.ahead hc k 2).setIn _ h1 (Nat.le_succ_of_le (fl_cap h2))
 · exact h.ahead hc k 2
theorem Calm.fail {D : BayD} {m c : Nat} (h : Calm D m c) (k : Int) : Calm (D.fail k).2 m c := by
 unfold BayD.fail
 split
 ·
  rename_i v hv
  exact h.setIn _ (h.dev hv).1 (Nat.zero_le _)
 · exact h
theorem Calm.new {l : List Int} : Calm (BayD.new l) l.length 0 := by
 refine ⟨by unfold BayD.new; simp, rfl, rfl, fun s hs v hv => ?_, fun s hs v hv => ?_, (show CntIn ⟨0, 0, 0⟩ 0 from ⟨⟨by decide, by decide⟩, ⟨by decide, by decide⟩, ⟨by decide, by decide⟩⟩)⟩
 ·
  obtain ⟨n, _, rfl⟩ := List.mem_map.1 hs
  unfold slotOf at hv
  split at hv
  · cases hv
  · cases hv; rfl
 ·
  obtain ⟨n, _, rfl⟩ := List.mem_map.1 hs
  unfold slotOf at hv
  split at hv
  · rcases hv with h | h | h <;> cases h
  ·
   rcases hv with h | h | h
   · cases h; exact Nat.zero_le _
   · cases h
   · cases h
end Go.Proofs.YtdbhpikmagkopaaGreat
/-! Text Oj. -/
namespace Go.Proofs.YtdbhpikmagkopaaGreat
open Go.RowKit Go.Sl
attribute [local irreducible] Sl.Own
variable {W : World} {R : List SProp}
theorem setIn_same {D : BayD} {l1 l2 : List RSlotP} {s : RSlotP} {p : RDevP} (h : D.slots = (l1 ++ s :: l2).map RSlotP.D) (hs : s.in_ = some p) : D.setIn l1.length p.v = D := by
 unfold BayD.setIn
 have e : D.slots.set l1.length { (D.slots[l1.length]?.getD ⟨none, none, none⟩) with in_ := some p.v } = D.slots := by
  simp only [h, List.map_append, List.map_cons]
  rw [List.set_append_right _ _ (by simp), List.getElem?_append_right (by simp)]
  simp [RSlotP.D, hs]
 rw [e]
theorem rmid_rds {H : List SProp} {a : Addr} {c n : Nat} {l1 l2 : List RSlotP} {cs : List Value} (m : Sl.Own 132 6 (.slice (some a) n c) n (l1.flatMap rslotCells ++ (cs ++ l2.flatMap rslotCells)) ∈ H) (hn : n = l1.length + 1 + l2.length) (hc : cs.length = 6) (h1 : ∀ u ∈ cs, u.oneCell' = true) :
  Rds W H 6 (some a) n (l1.flatMap rslotCells ++ (cs ++ l2.flatMap rslotCells)) := by
 refine Rds.own (fun u hu => ?_) m ?_ (fun h => by cases h)
 ·
  rcases List.mem_append.1 hu with q | q
  · exact rslots_one _ u q
  ·
   rcases List.mem_append.1 q with q | q
   · exact h1 u q
   · exact rslots_one _ u q
 · rw [List.length_append, List.length_append, rslots_len, rslots_len, hc, hn]; omega
theorem rmid_get (l1 l2 : List RSlotP) (cs : List Value) (hc : cs.length = 6) (i : Nat) (hi : i < 6) : (l1.flatMap rslotCells ++ (cs ++ l2.flatMap rslotCells))[l1.length * 6 + i]? = cs[i]? := by
 rw [List.getElem?_append_right (by rw [rslots_len]; omega), rslots_len, Nat.add_sub_cancel_left, List.getElem?_append_left (by omega)]
theorem rbegins_ok (b : Nat) (D : BayD) (k : Int) (j : Nat) (hj : j < 3) (hdk : D.dark = true -> D.trip ≠ 0) (hw : ∀ v, D.dev k = some v -> v.worn = true -> 0 <= v.left) :
    Does1 W Tryz.prog 102 [.pointer (some ⟨b, 0, none⟩), .int .i64 k, .int .i64 ((j + 1 : Nat) : Int)] (RBayR b D :: R) (.int .u16 (D.refuse k)) (RBayR b (D.beg k j) :: R) := by
  refine DoesO (fun w => RBayR.open) ?_
  rintro ⟨⟨x, sp⟩, h1, h2⟩
  dsimp only at h1 h2 ⊢
  have hl : D.slots.length = sp.length := by rw [h1, List.length_map]
  (refine Does.enter Tryz.func102 Tryz.ntmps102 rfl rfl ?_)
  refine VC.know (p := x.1 = none -> sp.length = 0) (fun w hw => Holds.ownNone hw (.tail _ (.head _))) ?_
  intro hx
  obtain ⟨xa, xc⟩ := x
  dsimp only at hx
  refine w ?_
  ((refine zq ?_; refine zd rfl rfl (ris_ok (D := D) (x := (xa, xc)) (n := sp.length) b k) ?_); intro _ _)
  unfold BayD.beg BayD.refuse BayD.ahead
  rw [hl]
  cases hr : inRange sp.length k
  · refine w ?_
    refine VE.done1 rfl ?_ ?_
    · rfl
    · exact RBayR.shut (x := (xa, xc)) h1 h2
  obtain ⟨l1, s, l2, rfl, rfl⟩ := rrange_split hr
  have hlt : l1.length < (l1 ++ s :: l2).length := by simp
  obtain ⟨a, rfl⟩ : ∃ a, xa = some a := by cases xa with | none => have := hx rfl; omega | some a => exact ⟨a, rfl⟩
  have c0 : ((l1 ++ s :: l2).flatMap rslotCells)[l1.length * 6 + 0]? = some (rPtr s.in_) := (rslots_get _ _ 0 hlt (by decide)).trans (by simp [rslotCells])
  have c3 : ((l1 ++ s :: l2).flatMap rslotCells)[l1.length * 6 + 3]? = some (.int .i64 (wearV s.in_)) := (rslots_get _ _ 3 hlt (by decide)).trans (by simp [rslotCells])
  have hdev : D.dev (l1.length : Int) = s.in_.map RDevP.v := by rw [rinP_D h1, rinP_mid]
  refine w ?_
  cases hd : D.dark
  rotate_left
  · have hp : D.pow = D := by unfold BayD.pow; rw [if_neg (hdk hd)]
    refine w ?_
    refine VE.done1 rfl ?_ ?_
    · rw [hp, hd]; rfl
    · rw [hp, hd]; exact RBayR.shut (x := (some a, xc)) h1 h2
  refine w ?_
  refine zk ?_ ?_ <;> intro hc
  · have ht : D.trip = 0 := by simpa using hc
    have hp : D.pow = { D with dark := true, trip := -1 } := by unfold BayD.pow; rw [if_pos ht]
    refine w ?_
    refine VE.done1 rfl ?_ ?_
    · rw [hp]; rfl
    · rw [hp]; exact RBayR.shut (D := { D with dark := true, trip := -1 }) (x := (some a, xc)) h1 h2
  have ht : ¬ D.trip = 0 := by simpa using hc
  clear hc
  have hp : D.pow = D := by unfold BayD.pow; rw [if_neg ht]
  rw [hp, hd]
  refine w ?_
  (refine VC.join (α := Unit) (fun _ => True) (fun _ => rbayRow b D.less (some a, xc) (l1 ++ s :: l2).length :: rslotsOwn (some a, xc) (l1 ++ s :: l2) :: ((l1 ++ s :: l2).map rslotRes ++ R)) (fun _ => [(0, .pointer (some ⟨b, 0, none⟩)), (1, .int .i64 (l1.length : Int)), (2, .int .i64 ((j + 1 : Nat) : Int))]) ?_ ?_)
  · intro Q2 jn
    refine zk ?_ ?_ <;> intro hc
    · have h0 : 0 < D.trip := of_decide_eq_true hc
      refine w ?_
      refine jn.to () trivial ⟨rfl, rfl, rfl, trivial⟩ ?_
      unfold BayD.less
      rw [if_pos h0]
      exact Ent.re
    · have h0 : ¬ 0 < D.trip := of_decide_eq_false hc
      refine w ?_
      refine jn.to () trivial ⟨rfl, rfl, rfl, trivial⟩ ?_
      unfold BayD.less
      rw [if_neg h0]
      exact Ent.re
  intro _ _
  refine w ?_
  (first | refine VO.join (α := Unit) (fun _ => True) (fun _ => rbayRow b (D.step j) (some a, xc) (l1 ++ s :: l2).length :: rslotsOwn (some a, xc) (l1 ++ s :: l2) :: ((l1 ++ s :: l2).map rslotRes ++ R)) (fun _ => [(0, .pointer (some ⟨b, 0, none⟩)), (1, .int .i64 (l1.length : Int))]) ?_ ?_ | refine VC.joinTB (α := Unit) (fun _ => True) (fun _ => rbayRow b (D.step j) (some a, xc) (l1 ++ s :: l2).length :: rslotsOwn (some a, xc) (l1 ++ s :: l2) :: ((l1 ++ s :: l2).map rslotRes ++ R)) (fun _ => [(0, .pointer (some ⟨b, 0, none⟩)), (1, .int .i64 (l1.length : Int))]) ?_ ?_ | refine VC.joinB (α := Unit) (fun _ => True) (fun _ => rbayRow b (D.step j) (some a, xc) (l1 ++ s :: l2).length :: rslotsOwn (some a, xc) (l1 ++ s :: l2) :: ((l1 ++ s :: l2).map rslotRes ++ R)) (fun _ => [(0, .pointer (some ⟨b, 0, none⟩)), (1, .int .i64 (l1.length : Int))]) ?_ ?_ | refine VC.join (α := Unit) (fun _ => True) (fun _ => rbayRow b (D.step j) (some a, xc) (l1 ++ s :: l2).length :: rslotsOwn (some a, xc) (l1 ++ s :: l2) :: ((l1 ++ s :: l2).map rslotRes ++ R)) (fun _ => [(0, .pointer (some ⟨b, 0, none⟩)), (1, .int .i64 (l1.length : Int))]) ?_ ?_)
  · intro Q2 jn
    rcases (show j = 0 \/ j = 1 \/ j = 2 by omega) with rfl | rfl | rfl
    · (refine VC.condTe rfl rfl (rfl) ?_)
      refine w ?_
      refine jn.to () trivial ⟨rfl, rfl, trivial⟩ ?_
      exact Ent.refl
    · (refine VC.condFe rfl rfl (rfl) ?_)
      refine w ?_
      refine jn.to () trivial ⟨rfl, rfl, trivial⟩ ?_
      exact Ent.refl
    · (refine VC.condFe rfl rfl (rfl) ?_)
      refine w ?_
      refine jn.to () trivial ⟨rfl, rfl, trivial⟩ ?_
      exact Ent.refl
  intro _ _
  refine w ?_
  refine VO.pure rfl rfl (.ldRc tab_ok rfl rfl (rslots_rds zm) c0) rfl ?_
  have hth : thereE (l1 ++ s :: l2).length (D.dev (l1.length : Int)).isSome (l1.length : Int) = if s.in_.isSome then 0 else 51 := by
    unfold thereE
    rw [rin_mid, hdev]
    cases s.in_ <;> rfl
  rw [hth]
  cases hs : s.in_ with
  | none =>
    refine w ?_
    refine VE.done1 rfl ?_ ?_
    · rfl
    · exact RBayR.shut (D := D.step j) (x := (some a, xc)) h1 h2
  | some p =>
    dsimp only [rPtr, Option.map_some]
    have hpv : D.dev (l1.length : Int) = some p.v := by rw [hdev, hs]; rfl
    have hdv0 : D.dv (l1.length : Int) = p.v.use := by unfold BayD.dv; rw [hpv]; rfl
    have hlen : (l1 ++ s :: l2).length = l1.length + 1 + l2.length := by simp; omega
    have ecs : rslotCells s = [.pointer (some ⟨p.d, 0, none⟩), rPtr s.aside, rPtr s.coming, .int .i64 (wearV (some p)), .int .i64 (wearV s.aside), .int .i64 (wearV s.coming)] := by unfold rslotCells; rw [hs]; rfl
    cases hwn : p.v.worn
    · have hdv : D.dv (l1.length : Int) = p.v := by
        rw [hdv0]; unfold DevD.use; rw [if_pos hwn]
      have c3' : ((l1 ++ s :: l2).flatMap rslotCells)[l1.length * 6 + 3]? = some (.int .i64 (-1)) := by rw [c3, hs, show wearV (some p) = -1 by show (if p.v.worn = true then p.v.left else -1) = -1; rw [hwn]; rfl]
      refine w ?_
      refine VO.pure rfl rfl (.ldRc tab_ok rfl rfl (rslots_rds zm) c3') rfl ?_
      refine w ?_
      refine VO.pure rfl rfl (.ldRc tab_ok rfl rfl (rslots_rds zm) c3') rfl ?_
      refine w ?_
      refine VE.done1 rfl ?_ ?_
      · rfl
      · rw [hdv]
        have e : (D.step j).setIn l1.length p.v = D.step j := setIn_same (D := D.step j) h1 hs
        show Ent W _ (RBayR b ((D.step j).setIn (l1.length : Int).toNat p.v) :: R)
        rw [Int.toNat_natCast, e]
        exact RBayR.shut (D := D.step j) (x := (some a, xc)) h1 h2
    have hl0 : 0 <= p.v.left := hw p.v hpv hwn
    have hwv : wearV (some p) = p.v.left := by show (if p.v.worn = true then p.v.left else -1) = p.v.left; rw [hwn]; rfl
    have c3' : ((l1 ++ s :: l2).flatMap rslotCells)[l1.length * 6 + 3]? = some (.int .i64 p.v.left) := by rw [c3, hs, hwv]
    have fin : ∀ v' : DevD, wearV (some ⟨p.d, v'⟩) = wearV (some ⟨p.d, v'⟩) -> Ent W (DocR p.d v'.k :: rdevRes s.aside :: rdevRes s.coming :: rbayRow b (D.step j) (some a, xc) (l1 ++ s :: l2).length :: Sl.Own 132 6 (.slice (some a) (l1 ++ s :: l2).length xc) (l1 ++ s :: l2).length (l1.flatMap rslotCells ++ ((rslotCells s).set 3 (.int .i64 (wearV (some ⟨p.d, v'⟩))) ++ l2.flatMap rslotCells)) :: ((l1 ++ l2).map rslotRes ++ R)) (RBayR b ((D.step j).setIn l1.length v') :: R) := fun v' _ => by
      obtain ⟨s', hs'⟩ : ∃ s' : RSlotP, s' = ⟨some ⟨p.d, v'⟩, s.aside, s.coming⟩ := ⟨_, rfl⟩
      have e1 : (l1 ++ s' :: l2).length = (l1 ++ s :: l2).length := by simp
      have ec : rslotCells s' = (rslotCells s).set 3 (.int .i64 (wearV (some ⟨p.d, v'⟩))) := by subst hs'; rw [ecs]; rfl
      have hD : ((D.step j).setIn l1.length v').slots = (l1 ++ s' :: l2).map RSlotP.D := by
        unfold BayD.setIn
        have h1' : (D.step j).slots = (l1 ++ s :: l2).map RSlotP.D := h1
        simp only [h1', List.map_append, List.map_cons]
        rw [List.set_append_right _ _ (by simp), List.getElem?_append_right (by simp)]
        subst hs'
        simp [RSlotP.D]
      rw [<- ec, <- rslots_split, <- e1]
      refine Ent.trans (fun w hw => ?_) (RBayR.shut (D := (D.step j).setIn l1.length v') (x := (some a, xc)) hD (by rw [e1]; exact h2))
      refine rbayIn w ?_
      subst hs'
      exact hw
    have one3 : ∀ v : Value, v.oneCell' = true -> ∀ u ∈ (rslotCells s).set 3 v, u.oneCell' = true := fun v hv u hu => by
      rcases List.mem_or_eq_of_mem_set hu with q | q
      · exact rslot_one s u q
      · subst q; exact hv
    refine w ?_
    refine VO.pure rfl rfl (.ldRc tab_ok rfl rfl (rslots_rds zm) c3') rfl ?_
    refine w ?_
    by_cases hz : p.v.left = 0
    · have c0' : ((l1 ++ s :: l2).flatMap rslotCells)[l1.length * 6 + 0]? = some (.pointer (some ⟨p.d, 0, none⟩)) := by rw [c0, hs]; rfl
      have hu : p.v.use = ⟨⟨p.v.k.last, [], true⟩, false, p.v.left⟩ := by
        unfold DevD.use
        rw [if_neg (by rw [hwn]; simp), if_pos hz, show p.v.k.fail = ⟨p.v.k.last, [], true⟩ by unfold DiskD.fail DiskD.settle; rw [sets_never]]
      (refine VC.condTe rfl rfl (by simpa using hz) ?_)
      refine w ?_
      refine VO.pure rfl rfl (.ldRc tab_ok rfl rfl (rslots_rds zm) c0') rfl ?_
      refine w ?_
      refine VO.ent (rbayOutP (D := D.step j) hs) ?_
      (refine zq ?_; refine zy rfl rfl (docfail_ok p.d p.v.k) ?_)
      intro _ _
      refine w ?_
      refine zq ?_
      refine OpV.stO2 tab_ok rfl rfl rfl rfl zh (by rw [rslots_len]; omega) (by rw [rslots_split, rslots_mid l1 l2 _ rfl 3 (by decide)]) ?_
      refine w ?_
      have hl6 : ((rslotCells s).set 3 (.int .i64 (-1))).length = 6 := by rw [List.length_set]; rfl
      have c3n : (l1.flatMap rslotCells ++ ((rslotCells s).set 3 (.int .i64 (-1)) ++ l2.flatMap rslotCells))[l1.length * 6 + 3]? = some (.int .i64 (-1)) := (rmid_get l1 l2 _ hl6 3 (by decide)).trans (by rw [ecs]; rfl)
      refine VO.pure rfl rfl (.ldRc tab_ok rfl rfl (rmid_rds (c := xc) zm hlen hl6 (one3 _ rfl)) c3n) rfl ?_
      refine w ?_
      refine VE.done1 rfl ?_ ?_
      · rfl
      · rw [hdv0, hu]
        show Ent W _ (RBayR b ((D.step j).setIn (l1.length : Int).toNat _) :: R)
        rw [Int.toNat_natCast]
        exact fin ⟨⟨p.v.k.last, [], true⟩, false, p.v.left⟩ rfl
    · have hu : p.v.use = ⟨p.v.k, true, IntKind.i64.wrap (p.v.left - 1)⟩ := by
        unfold DevD.use
        rw [if_neg (by rw [hwn]; simp), if_neg hz, hwn]
      (refine VC.condFe rfl rfl (by simpa using hz) ?_)
      refine w ?_
      refine VO.pure rfl rfl (.ldRc tab_ok rfl rfl (rslots_rds zm) c3') rfl ?_
      refine w ?_
      (refine VC.condTe rfl rfl (by simp; omega) ?_)
      refine w ?_
      refine VO.pure rfl rfl (.ldRc tab_ok rfl rfl (rslots_rds zm) c3') rfl ?_
      refine w ?_
      refine VO.ent (rbayOutP (D := D.step j) hs) ?_
      refine zq ?_
      refine OpV.stO2 tab_ok rfl rfl rfl rfl zh (by rw [rslots_len]; omega) (by rw [rslots_split, rslots_mid l1 l2 _ rfl 3 (by decide)]) ?_
      refine w ?_
      refine VE.done1 rfl ?_ ?_
      · rfl
      · rw [hdv0, hu]
        show Ent W _ (RBayR b ((D.step j).setIn (l1.length : Int).toNat _) :: R)
        rw [Int.toNat_natCast]
        exact fin ⟨p.v.k, true, IntKind.i64.wrap (p.v.left - 1)⟩ rfl
theorem rbaywrite_ok {ao : Option Addr} {cap : Nat} {l : List UInt8} (b : Nat) (D : BayD) (k a : Int) (hdk : D.dark = true -> D.trip ≠ 0) (hw : ∀ v, D.dev k = some v -> v.worn = true -> 0 <= v.left) (hc : (D.dv k).k.cache.length <= 1000000000) (hr : Rds W R 1 ao l.length (bytes l)) :
    Does1 W Tryz.prog 34 [.pointer (some ⟨b, 0, none⟩), .int .i64 k, .int .i64 a, .slice ao l.length cap] (RBayR b D :: R) (.int .u16 (D.write k a l).1) (RBayR b (D.write k a l).2 :: R) := by
  (refine Does.enter Tryz.func34 Tryz.ntmps34 rfl rfl ?_)
  refine w ?_
  ((refine zq ?_; refine zd rfl rfl (rbegins_ok b D k 1 (by decide) hdk hw) ?_); intro _ _)
  unfold BayD.write
  by_cases hr0 : D.refuse k = 0
  rotate_left
  · rw [if_neg hr0]
    refine w ?_
    (refine VC.condTe rfl rfl (by simpa using hr0) ?_)
    refine w ?_
    refine VE.done1 rfl ?_ ?_
    · rfl
    · unfold BayD.beg; rw [if_neg hr0]; exact Ent.refl
  rw [if_pos hr0]
  have hbd := beg_dev (j := 1) hr0
  have hbs := beg_setIn (j := 1) hr0
  rw [hr0, <- hbs]
  generalize D.beg k 1 = E at hbd ⊢
  refine VO.obtain (fun w => RBayR.open) ?_
  rintro ⟨⟨x, sp⟩, h1, h2⟩
  dsimp only at h1 h2 ⊢
  refine VO.know (p := x.1 = none -> sp.length = 0) (fun w hw => Holds.ownNone hw (.tail _ (.head _))) ?_
  intro hx
  obtain ⟨xa, xc⟩ := x
  dsimp only at hx
  rw [rinP_D h1] at hbd
  cases hp : rinP sp k with
  | none => rw [hp] at hbd; cases hbd
  | some p =>
    have hin : inRange sp.length k = true := by rw [<- Bool.not_eq_false]; intro h; rw [rinP_range h] at hp; cases hp
    obtain ⟨l1, s, l2, rfl, rfl⟩ := rrange_split hin
    have hlt : l1.length < (l1 ++ s :: l2).length := by simp
    obtain ⟨aa, rfl⟩ : ∃ a, xa = some a := by cases xa with | none => have := hx rfl; omega | some a => exact ⟨a, rfl⟩
    rw [hp] at hbd
    rw [rinP_mid] at hp
    have hv : p.v = D.dv (l1.length : Int) := Option.some.inj hbd
    have c0 : ((l1 ++ s :: l2).flatMap rslotCells)[l1.length * 6 + 0]? = some (rPtr (some p)) := (rslots_get _ _ 0 hlt (by decide)).trans (by simp [rslotCells, hp])
    refine w ?_
    refine VO.pure rfl rfl (.ldRc tab_ok rfl rfl (rslots_rds zm) c0) rfl ?_
    refine w ?_
    refine VO.ent (rbayOutP hp) ?_
    rw [<- hv] at hc ⊢
    (refine zq ?_; refine zy rfl rfl (docwrR_ok p.d p.v.k a hc (hr.ent (Ent.drop (Ent.drop (Ent.drop (Ent.drop (Ent.dropAll ((l1 ++ l2).map rslotRes)))))))) ?_)
    intro _ _
    have hsm := wr_small p.v.k a l
    refine VO.pure rfl rfl (PureAt.conv0 tab_ok rfl rfl rfl (by rw [IntKind.wrap_u16]; omega)) rfl ?_
    refine w ?_
    refine VE.done1 rfl ?_ ?_
    · rfl
    · rw [Int.toNat_natCast]
      exact rbayInK _ hp h1 h2
theorem rbayflush_ok (b : Nat) (D : BayD) (k : Int) (hdk : D.dark = true -> D.trip ≠ 0) (hw : ∀ v, D.dev k = some v -> v.worn = true -> 0 <= v.left) (hc : (D.dv k).k.cache.length <= 1000000000) :
    Does1 W Tryz.prog 105 [.pointer (some ⟨b, 0, none⟩), .int .i64 k] (RBayR b D :: R) (.int .u16 (D.flush k).1) (RBayR b (D.flush k).2 :: R) := by
  (refine Does.enter Tryz.func105 Tryz.ntmps105 rfl rfl ?_)
  refine w ?_
  ((refine zq ?_; refine zd rfl rfl (rbegins_ok b D k 2 (by decide) hdk hw) ?_); intro _ _)
  unfold BayD.flush
  by_cases hr0 : D.refuse k = 0
  rotate_left
  · rw [if_neg hr0]
    refine w ?_
    (refine VC.condTe rfl rfl (by simpa using hr0) ?_)
    refine w ?_
    refine VE.done1 rfl ?_ ?_
    · rfl
    · unfold BayD.beg; rw [if_neg hr0]; exact Ent.refl
  rw [if_pos hr0]
  have hbd := beg_dev (j := 2) hr0
  have hbs := beg_setIn (j := 2) hr0
  rw [hr0, <- hbs]
  generalize D.beg k 2 = E at hbd ⊢
  refine VO.obtain (fun w => RBayR.open) ?_
  rintro ⟨⟨x, sp⟩, h1, h2⟩
  dsimp only at h1 h2 ⊢
  refine VO.know (p := x.1 = none -> sp.length = 0) (fun w hw => Holds.ownNone hw (.tail _ (.head _))) ?_
  intro hx
  obtain ⟨xa, xc⟩ := x
  dsimp only at hx
  rw [rinP_D h1] at hbd
  cases hp : rinP sp k with
  | none => rw [hp] at hbd; cases hbd
  | some p =>
    have hin : inRange sp.length k = true := by rw [<- Bool.not_eq_false]; intro h; rw [rinP_range h] at hp; cases hp
    obtain ⟨l1, s, l2, rfl, rfl⟩ := rrange_split hin
    have hlt : l1.length < (l1 ++ s :: l2).length := by simp
    obtain ⟨aa, rfl⟩ : ∃ a, xa = some a := by cases xa with | none => have := hx rfl; omega | some a => exact ⟨a, rfl⟩
    rw [hp] at hbd
    rw [rinP_mid] at hp
    have hv : p.v = D.dv (l1.length : Int) := Option.some.inj hbd
    have c0 : ((l1 ++ s :: l2).flatMap rslotCells)[l1.length * 6 + 0]? = some (rPtr (some p)) := (rslots_get _ _ 0 hlt (by decide)).trans (by simp [rslotCells, hp])
    refine w ?_
    refine VO.pure rfl rfl (.ldRc tab_ok rfl rfl (rslots_rds zm) c0) rfl ?_
    refine w ?_
    refine VO.ent (rbayOutP hp) ?_
    rw [<- hv] at hc ⊢
    (refine zq ?_; refine zy rfl rfl (docfl_ok p.d p.v.k hc) ?_)
    intro _ _
    have hsm := fl_small p.v.k
    refine VO.pure rfl rfl (PureAt.conv0 tab_ok rfl rfl rfl (by rw [IntKind.wrap_u16]; omega)) rfl ?_
    refine w ?_
    refine VE.done1 rfl ?_ ?_
    · rfl
    · rw [Int.toNat_natCast]
      exact rbayInK _ hp h1 h2
theorem rbayfail_ok (b : Nat) (D : BayD) (k : Int) :
    Does1 W Tryz.prog 46 [.pointer (some ⟨b, 0, none⟩), .int .i64 k] (RBayR b D :: R) (.int .u16 (D.fail k).1) (RBayR b (D.fail k).2 :: R) := by
  refine DoesO (fun w => RBayR.open) ?_
  rintro ⟨⟨x, sp⟩, h1, h2⟩
  dsimp only at h1 h2 ⊢
  (refine Does.enter Tryz.func46 Tryz.ntmps46 rfl rfl ?_)
  refine VC.know (p := x.1 = none -> sp.length = 0) (fun w hw => Holds.ownNone hw (.tail _ (.head _))) ?_
  intro hx
  obtain ⟨xa, xc⟩ := x
  dsimp only at hx
  refine w ?_
  ((refine zq ?_; refine zd rfl rfl (rthere_ok (D := D) (x := (xa, xc)) (sp := sp) b k h2) ?_); intro _ _)
  unfold BayD.fail BayD.tE
  rw [rinP_D h1, show D.slots.length = sp.length by rw [h1, List.length_map]]
  have nope : thereE sp.length false k ≠ 0 := by unfold thereE; split <;> simp
  cases hp : rinP sp k with
  | none =>
    dsimp only [Option.map_none, Option.isSome_none]
    refine w ?_
    (refine VC.condFe rfl rfl (by simpa using nope) ?_)
    refine w ?_
    refine VE.done1 rfl ?_ ?_
    · rfl
    · exact RBayR.shut (x := (xa, xc)) h1 h2
  | some p =>
    have hin : inRange sp.length k = true := by rw [<- Bool.not_eq_false]; intro h; rw [rinP_range h] at hp; cases hp
    obtain ⟨l1, s, l2, rfl, rfl⟩ := rrange_split hin
    have hlt : l1.length < (l1 ++ s :: l2).length := by simp
    obtain ⟨aa, rfl⟩ : ∃ a, xa = some a := by cases xa with | none => have := hx rfl; omega | some a => exact ⟨a, rfl⟩
    rw [rinP_mid] at hp
    have c0 : ((l1 ++ s :: l2).flatMap rslotCells)[l1.length * 6 + 0]? = some (rPtr (some p)) := (rslots_get _ _ 0 hlt (by decide)).trans (by simp [rslotCells, hp])
    have he : thereE (l1 ++ s :: l2).length true (l1.length : Int) = 0 := by unfold thereE; rw [rin_mid]; rfl
    dsimp only [Option.map_some, Option.isSome_some]
    rw [he]
    refine w ?_
    refine VO.pure rfl rfl (.ldRc tab_ok rfl rfl (rslots_rds zm) c0) rfl ?_
    refine w ?_
    refine VO.ent (rbayOutP hp) ?_
    (refine zq ?_; refine zy rfl rfl (docfail_ok p.d p.v.k) ?_)
    intro _ _
    refine w ?_
    refine VE.done1 rfl ?_ ?_
    · rfl
    · rw [Int.toNat_natCast, show p.v.k.fail = ⟨p.v.k.last, [], true⟩ by unfold DiskD.fail DiskD.settle; rw [sets_never]]
      exact rbayInK _ hp h1 h2
theorem rbaytrip_ok (b : Nat) (D : BayD) (n : Int) :
  Does1 W Tryz.prog 44 [.pointer (some ⟨b, 0, none⟩), .int .i64 n] (RBayR b D :: R) (.int .u16 (D.trips n).1) (RBayR b (D.trips n).2 :: R) := by
 refine DoesO (fun w => RBayR.open) ?_
 rintro ⟨⟨x, sp⟩, h1, h2⟩
 dsimp only at h1 h2 ⊢
 (refine Does.enter Tryz.func44 Tryz.ntmps44 rfl rfl ?_)
 refine w ?_
 unfold BayD.trips
 refine zk ?_ ?_ <;> intro hc
 ·
  have h : n < 0 := of_decide_eq_true hc
  rw [if_pos h]
  refine w ?_
  refine VE.done1 rfl ?_ ?_
  · rfl
  · exact RBayR.shut (x := x) h1 h2
 have h : ¬ n < 0 := of_decide_eq_false hc
 rw [if_neg h]
 refine w ?_
 refine zk ?_ ?_ <;> intro hc
 ·
  rw [if_pos hc]
  refine w ?_
  refine VE.done1 rfl ?_ ?_
  · rfl
  · exact RBayR.shut (x := x) h1 h2
 ·
  rw [if_neg (by rw [show D.dark = false from hc]; simp)]
  refine w ?_
  refine VE.done1 rfl ?_ ?_
  · rfl
  · exact RBayR.shut (D := { D with trip := n }) (x := x) h1 h2
theorem rbaywear_ok (b : Nat) (D : BayD) (k n : Int) :
    Does1 W Tryz.prog 48 [.pointer (some ⟨b, 0, none⟩), .int .i64 k, .int .i64 n] (RBayR b D :: R) (.int .u16 (D.wear k n).1) (RBayR b (D.wear k n).2 :: R) := by
  refine DoesO (fun w => RBayR.open) ?_
  rintro ⟨⟨x, sp⟩, h1, h2⟩
  dsimp only at h1 h2 ⊢
  (refine Does.enter Tryz.func48 Tryz.ntmps48 rfl rfl ?_)
  refine VC.know (p := x.1 = none -> sp.length = 0) (fun w hw => Holds.ownNone hw (.tail _ (.head _))) ?_
  intro hx
  obtain ⟨xa, xc⟩ := x
  dsimp only at hx
  refine w ?_
  unfold BayD.wear BayD.tE
  refine zk ?_ ?_ <;> intro hc
  · have h : n < 0 := of_decide_eq_true hc
    rw [if_pos h]
    refine w ?_
    refine VE.done1 rfl ?_ ?_
    · rfl
    · exact RBayR.shut (x := (xa, xc)) h1 h2
  have h : ¬ n < 0 := of_decide_eq_false hc
  clear hc
  rw [if_neg h]
  refine w ?_
  ((refine zq ?_; refine zd rfl rfl (rthere_ok (D := D) (x := (xa, xc)) (sp := sp) b k h2) ?_); intro _ _)
  rw [rinP_D h1, show D.slots.length = sp.length by rw [h1, List.length_map]]
  have nope : thereE sp.length false k ≠ 0 := by unfold thereE; split <;> simp
  cases hp : rinP sp k with
  | none =>
    dsimp only [Option.map_none, Option.isSome_none]
    refine w ?_
    (refine VC.condFe rfl rfl (by simpa using nope) ?_)
    refine w ?_
    refine VE.done1 rfl ?_ ?_
    · rfl
    · exact RBayR.shut (x := (xa, xc)) h1 h2
  | some p =>
    have hin : inRange sp.length k = true := by rw [<- Bool.not_eq_false]; intro h; rw [rinP_range h] at hp; cases hp
    obtain ⟨l1, s, l2, rfl, rfl⟩ := rrange_split hin
    have hlt : l1.length < (l1 ++ s :: l2).length := by simp
    have hlen : (l1 ++ s :: l2).length = l1.length + 1 + l2.length := by simp; omega
    obtain ⟨aa, rfl⟩ : ∃ a, xa = some a := by cases xa with | none => have := hx rfl; omega | some a => exact ⟨a, rfl⟩
    rw [rinP_mid] at hp
    have he : thereE (l1 ++ s :: l2).length true (l1.length : Int) = 0 := by unfold thereE; rw [rin_mid]; rfl
    dsimp only [Option.map_some, Option.isSome_some]
    rw [he]
    have ecs : rslotCells s = [.pointer (some ⟨p.d, 0, none⟩), rPtr s.aside, rPtr s.coming, .int .i64 (wearV (some p)), .int .i64 (wearV s.aside), .int .i64 (wearV s.coming)] := by unfold rslotCells; rw [hp]; rfl
    refine w ?_
    refine VO.ent (rbayOutP hp) ?_
    refine zq ?_
    refine OpV.stO2 tab_ok rfl rfl rfl rfl zh (by rw [rslots_len]; omega) (by rw [rslots_split, rslots_mid l1 l2 _ rfl 3 (by decide)]) ?_
    refine w ?_
    refine VE.done1 rfl ?_ ?_
    · rfl
    obtain ⟨s', hs'⟩ : ∃ s' : RSlotP, s' = ⟨some ⟨p.d, ⟨p.v.k, true, n⟩⟩, s.aside, s.coming⟩ := ⟨_, rfl⟩
    have e1 : (l1 ++ s' :: l2).length = (l1 ++ s :: l2).length := by simp
    have ec : rslotCells s' = (rslotCells s).set 3 (.int .i64 n) := by subst hs'; rw [ecs]; rfl
    have hD : (D.setIn l1.length ⟨p.v.k, true, n⟩).slots = (l1 ++ s' :: l2).map RSlotP.D := by
      unfold BayD.setIn
      simp only [h1, List.map_append, List.map_cons]
      rw [List.set_append_right _ _ (by simp), List.getElem?_append_right (by simp)]
      subst hs'
      simp [RSlotP.D]
    rw [<- ec, <- rslots_split, <- e1, Int.toNat_natCast]
    refine Ent.trans (fun w hw => ?_) (RBayR.shut (D := D.setIn l1.length ⟨p.v.k, true, n⟩) (x := (some aa, xc)) hD (by rw [e1]; exact h2))
    refine rbayIn w ?_
    subst hs'
    exact hw
theorem rbayread_ok (b : Nat) (D : BayD) (k a : Int) (hdk : D.dark = true -> D.trip ≠ 0) (hw : ∀ v, D.dev k = some v -> v.worn = true -> 0 <= v.left) (hc : (D.dv k).k.cache.length <= 1000000000) :
    Does W Tryz.prog 130 [.pointer (some ⟨b, 0, none⟩), .int .i64 k, .int .i64 a] (RBayR b D :: R) (β := Option Addr × Nat) (fun x => x.1 = none -> (D.read k a).1.1.length = 0) (fun x => .tuple #[sliceB x (D.read k a).1.1, .int .u16 (D.read k a).1.2]) (fun x => OwnB x (D.read k a).1.1 :: RBayR b (D.read k a).2 :: R) := by
  (refine Does.enter Tryz.func130 Tryz.ntmps130 rfl rfl ?_)
  refine w ?_
  ((refine zq ?_; refine zd rfl rfl (rbegins_ok b D k 0 (by decide) hdk hw) ?_); intro _ _)
  unfold BayD.read
  by_cases hr0 : D.refuse k = 0
  rotate_left
  · rw [if_neg hr0]
    refine w ?_
    (refine VC.condTe rfl rfl (by simpa using hr0) ?_)
    refine w ?_
    refine VE.done (none, 0) rfl (fun _ => rfl) rfl ?_
    rw [show D.beg k 0 = D.ahead k 0 by unfold BayD.beg; rw [if_neg hr0]]
    exact fun w hw => hw.ownNil 5 1
  rw [if_pos hr0]
  have hbd := beg_dev (j := 0) hr0
  have hbs := beg_setIn (j := 0) hr0
  have hself : D.beg k 0 = (D.beg k 0).setIn k.toNat (D.dv k) := by rw [hbs]; unfold BayD.beg; rw [if_pos hr0]
  rw [hr0, <- hbs]
  generalize D.beg k 0 = E at hbd hself ⊢
  refine VO.obtain (fun w => RBayR.open) ?_
  rintro ⟨⟨x, sp⟩, h1, h2⟩
  dsimp only at h1 h2 ⊢
  refine VO.know (p := x.1 = none -> sp.length = 0) (fun w hw => Holds.ownNone hw (.tail _ (.head _))) ?_
  intro hx
  obtain ⟨xa, xc⟩ := x
  dsimp only at hx
  rw [rinP_D h1] at hbd
  cases hp : rinP sp k with
  | none => rw [hp] at hbd; cases hbd
  | some p =>
    have hin : inRange sp.length k = true := by rw [<- Bool.not_eq_false]; intro h; rw [rinP_range h] at hp; cases hp
    obtain ⟨l1, s, l2, rfl, rfl⟩ := rrange_split hin
    have hlt : l1.length < (l1 ++ s :: l2).length := by simp
    obtain ⟨aa, rfl⟩ : ∃ a, xa = some a := by cases xa with | none => have := hx rfl; omega | some a => exact ⟨a, rfl⟩
    rw [hp] at hbd
    rw [rinP_mid] at hp
    have hv : p.v = D.dv (l1.length : Int) := Option.some.inj hbd
    have c0 : ((l1 ++ s :: l2).flatMap rslotCells)[l1.length * 6 + 0]? = some (rPtr (some p)) := (rslots_get _ _ 0 hlt (by decide)).trans (by simp [rslotCells, hp])
    refine w ?_
    refine VO.pure rfl rfl (.ldRc tab_ok rfl rfl (rslots_rds zm) c0) rfl ?_
    refine w ?_
    refine VO.ent (rbayOutP hp) ?_
    rw [<- hv] at hc hself ⊢
    rw [<- hself]
    (refine zq ?_; refine zy rfl rfl (docrd_ok p.d p.v.k a hc) ?_)
    rintro ⟨yo, yc⟩ hy
    dsimp only at hy
    have hsm := rd_small p.v.k a
    refine w ?_
    rw [show IntKind.u16.wrap (p.v.k.rd a).2 = (p.v.k.rd a).2 by rw [IntKind.wrap_u16]; omega]
    refine VE.done (yo, yc) rfl hy rfl ?_
    exact rbayShutC h1 h2 hp
def CntD.fits (c : CntD) : Prop := (-9223372036854775808 <= c.r /\ c.r <= 9223372036854775807) /\ (-9223372036854775808 <= c.w /\ c.w <= 9223372036854775807) /\ (-9223372036854775808 <= c.f /\ c.f <= 9223372036854775807)
theorem CntD.fits.inc {c : CntD} (h : c.fits) (j : Nat) : (c.inc j).fits := by
 have hr : ∀ x : Int, -9223372036854775808 <= IntKind.i64.wrap x /\ IntKind.i64.wrap x <= 9223372036854775807 := fun x => by rw [IntKind.wrap_i64]; omega
 unfold CntD.inc
 split
 · exact ⟨hr _, h.2.1, h.2.2⟩
 · exact ⟨h.1, hr _, h.2.2⟩
 · exact ⟨h.1, h.2.1, hr _⟩
theorem CntD.fits.wf {c : CntD} (h : c.fits) : (Lit.int .i64 c.r).wf = true /\ (Lit.int .i64 c.w).wf = true /\ (Lit.int .i64 c.f).wf = true := by
 have hw : ∀ x : Int, -9223372036854775808 <= x /\ x <= 9223372036854775807 -> (Lit.int .i64 x).wf = true := fun x hx => by
  simp [Lit.wf, IntKind.min, IntKind.max, IntKind.signed, IntKind.bits]; omega
 exact ⟨hw _ h.1, hw _ h.2.1, hw _ h.2.2⟩
structure BayD.sane (D : BayD) : Prop where
  cw : D.n.fits
  dk : D.dark = true -> D.trip ≠ 0
  slot : ∀ s ∈ D.slots, s.coming = none /\ ∀ v, s.in_ = some v -> v.worn = true -> 0 <= v.left /\ v.left <= 9223372036854775807
theorem BayD.dev_mem {D : BayD} {k : Int} {v : DevD} (h : D.dev k = some v) : ∃ s ∈ D.slots, s.in_ = some v := by
 unfold BayD.dev at h
 split at h
 ·
  obtain ⟨s, h1, h2⟩ := Option.bind_eq_some_iff.1 h
  exact ⟨s, List.mem_of_getElem? h1, h2⟩
 · cases h
theorem BayD.sane.dev {D : BayD} (h : D.sane) (k : Int) : ∀ v, D.dev k = some v -> v.worn = true -> 0 <= v.left := fun v hv hw => by
 obtain ⟨s, hs, e⟩ := BayD.dev_mem hv
 exact ((h.slot s hs).2 v e hw).1
theorem BayD.sane.dv {D : BayD} (h : D.sane) (k : Int) : (D.dv k).worn = true -> 0 <= (D.dv k).left /\ (D.dv k).left <= 9223372036854775807 := by
  unfold BayD.dv
  cases hd : D.dev k with
  | none => intro q; revert q; show (DevD.use ⟨⟨[], [], false⟩, false, 0⟩).worn = true -> _; unfold DevD.use; simp
  | some v =>
    obtain ⟨s, hs, e⟩ := BayD.dev_mem hd
    have hv := (h.slot s hs).2 v e
    show v.use.worn = true -> 0 <= v.use.left /\ v.use.left <= 9223372036854775807
    unfold DevD.use
    split
    · exact hv
    · rename_i hw
      split
      · intro q; cases q
      · rename_i h0
        intro _
        have := hv (by simpa using hw)
        have e : IntKind.i64.wrap (v.left - 1) = v.left - 1 := IntWalk.i64_in _ ⟨by omega, by omega⟩
        show 0 <= IntKind.i64.wrap (v.left - 1) /\ IntKind.i64.wrap (v.left - 1) <= 9223372036854775807
        rw [e]; omega
theorem BayD.sane.ahead {D : BayD} (h : D.sane) (k : Int) (j : Nat) : (D.ahead k j).sane := by
 have hs : ∀ E : BayD, E.slots = D.slots -> (E.dark = true -> E.trip ≠ 0) -> E.n.fits -> E.sane := fun E e d c => ⟨c, d, fun s hs => h.slot s (by rw [<- e]; exact hs)⟩
 have hn : D.pow.n = D.n := by unfold BayD.pow; split <;> rfl
 unfold BayD.ahead
 split
 · exact h
 ·
  have hp : D.pow.dark = true -> D.pow.trip ≠ 0 := by
   unfold BayD.pow
   split
   · intro _; show (-1 : Int) ≠ 0; decide
   · exact h.dk
  split
  · exact hs _ D.pow_slots hp (by rw [hn]; exact h.cw)
  ·
   rename_i hd
   exact hs _ D.pow_slots (fun q => absurd q hd) (by show (D.pow.n.inc j).fits; rw [hn]; exact h.cw.inc j)
theorem BayD.sane.setIn {D : BayD} (h : D.sane) (i : Nat) (v : DevD) (hv : v.worn = true -> 0 <= v.left /\ v.left <= 9223372036854775807) : (D.setIn i v).sane := by
 refine ⟨h.cw, h.dk, fun s hs => ?_⟩
 unfold BayD.setIn at hs
 rcases List.mem_or_eq_of_mem_set hs with q | q
 · exact h.slot s q
 ·
  subst q
  by_cases hi : i < D.slots.length
  ·
   rw [List.getElem?_eq_getElem hi]
   refine ⟨(h.slot _ (List.getElem_mem hi)).1, fun u hu hw => ?_⟩
   cases hu; exact hv hw
  ·
   rw [List.getElem?_eq_none (by omega)]
   refine ⟨rfl, fun u hu hw => ?_⟩
   cases hu; exact hv hw
theorem BayD.sane.write {D : BayD} (h : D.sane) (k a : Int) (l : List UInt8) : (D.write k a l).2.sane := by
 unfold BayD.write
 split
 · exact (h.ahead k 1).setIn _ _ (h.dv k)
 · exact h.ahead k 1
theorem BayD.sane.flush {D : BayD} (h : D.sane) (k : Int) : (D.flush k).2.sane := by
 unfold BayD.flush
 split
 · exact (h.ahead k 2).setIn _ _ (h.dv k)
 · exact h.ahead k 2
theorem BayD.sane.read {D : BayD} (h : D.sane) (k a : Int) : (D.read k a).2.sane := by
 unfold BayD.read
 split
 · exact (h.ahead k 0).setIn _ _ (h.dv k)
 · exact h.ahead k 0
theorem BayD.sane.fail {D : BayD} (h : D.sane) (k : Int) : (D.fail k).2.sane := by
  unfold BayD.fail
  cases hd : D.dev k with
  | none => exact h
  | some v =>
    obtain ⟨s, hs, e⟩ := BayD.dev_mem hd
    exact h.setIn _ _ (fun q => (h.slot s hs).2 v e q)
theorem BayD.sane.wear {D : BayD} (h : D.sane) (k n : Int) (hn : n <= 9223372036854775807) : (D.wear k n).2.sane := by
 unfold BayD.wear
 split
 · exact h
 ·
  rename_i h0
  cases hd : D.dev k with
  | none => exact h
  | some v => exact h.setIn _ _ (fun _ => ⟨by show 0 <= n; omega, hn⟩)
theorem BayD.sane.trips {D : BayD} (h : D.sane) (n : Int) : (D.trips n).2.sane := by
 unfold BayD.trips
 split
 · exact h
 ·
  split
  · exact h
  ·
   rename_i hd
   exact ⟨h.cw, fun q => absurd q hd, h.slot⟩
theorem BayD.sane.cut {D : BayD} (h : D.sane) (kl : List (List Bool)) : (D.cut kl).sane := by
  refine ⟨h.cw, fun q => (by cases q), fun s hs => ?_⟩
  unfold BayD.cut at hs
  obtain ⟨i, hi, rfl⟩ := List.mem_iff_getElem.1 hs
  have hi' : i < D.slots.length := by simpa using hi
  have h0 := h.slot _ (List.getElem_mem hi')
  simp only [List.getElem_mapIdx]
  unfold SlotD.cut
  rw [h0.1]
  refine ⟨rfl, fun v hv hw => ?_⟩
  simp only [Option.isSome_none, Bool.false_eq_true, if_false] at hv
  cases hin : D.slots[i].in_ with
  | none => rw [hin] at hv; cases hv
  | some u =>
    rw [hin] at hv
    cases hv
    exact h0.2 u hin hw
theorem BayD.sane.new (l : List Int) : (BayD.new l).sane := by
 refine ⟨(show CntD.fits ⟨0, 0, 0⟩ from ⟨⟨by decide, by decide⟩, ⟨by decide, by decide⟩, ⟨by decide, by decide⟩⟩), fun q => (by cases q), fun s hs => ?_⟩
 obtain ⟨n, _, rfl⟩ := List.mem_map.1 hs
 unfold slotOf
 split
 · exact ⟨rfl, fun v hv => by cases hv⟩
 ·
  refine ⟨rfl, fun v hv hw => ?_⟩
  cases hv; cases hw
theorem rbaycut_ok {ao : Option Addr} {cap : Nat} {kl : List KeepD} (b : Nat) (D : BayD) (hk : Rds W R 1 ao kl.length (kl.map KeepD.hdr)) (hkb : ∀ x ∈ kl, RdsA W 1 x.ao x.l.length (bools x.l)) (hcap : ∀ s ∈ D.slots, ∀ v, s.in_ = some v -> v.k.cache.length <= 1000000000) (hcom : ∀ s ∈ D.slots, s.coming = none) :
    Does1 W Tryz.prog 13 [.pointer (some ⟨b, 0, none⟩), .slice ao kl.length cap] (RBayR b D :: R) (.tuple #[]) (RBayR b (D.cut (kl.map KeepD.l)) :: R) := by
  refine DoesO (fun w => RBayR.open) ?_
  rintro ⟨⟨x, sp⟩, h1, h2⟩
  dsimp only at h1 h2 ⊢
  have hl : D.slots.length = sp.length := by rw [h1, List.length_map]
  (refine Does.enter Tryz.func13 Tryz.ntmps13 rfl rfl ?_)
  refine VC.know (p := x.1 = none -> sp.length = 0) (fun w hw => Holds.ownNone hw (.tail _ (.head _))) ?_
  intro hx
  obtain ⟨xa, xc⟩ := x
  dsimp only at hx
  refine w ?_
  refine VC.loop (α := List RSlotP) (fun dn => dn.length <= sp.length /\ dn.map RSlotP.D = (D.cut (kl.map KeepD.l)).slots.take dn.length)
    (fun dn => rbayRow b D (xa, xc) sp.length :: Sl.Own 132 6 (.slice xa sp.length xc) sp.length ((dn ++ sp.drop dn.length).flatMap rslotCells) :: ((dn ++ sp.drop dn.length).map rslotRes ++ R))
    (fun dn => [(0, .pointer (some ⟨b, 0, none⟩)), (1, .slice ao kl.length cap), (4, .int .i64 dn.length)]) (fun dn => sp.length - dn.length) rfl [] ⟨Nat.zero_le _, rfl⟩ (by simp only [List.length_nil, List.drop_zero, List.nil_append]; exact Ent.re) ⟨rfl, rfl, rfl, trivial⟩ ?_
  rintro dn ⟨hdn, hdD⟩
  refine w ?_
  refine zk ?_ ?_ <;> intro hc
  · have hlt : dn.length < sp.length := by have := of_decide_eq_true hc; omega
    clear hc
    have hsp := List.drop_eq_getElem_cons hlt
    rw [hsp]
    generalize hs : sp[dn.length] = s at *
    generalize hl2 : sp.drop (dn.length + 1) = l2 at *
    have hn : (dn ++ s :: l2).length = sp.length := by rw [<- hl2]; simp; omega
    have hsD : D.slots[dn.length]'(by omega) = s.D := by simp only [h1, List.getElem_map, hs]
    have hmem : s.D ∈ D.slots := by rw [<- hsD]; exact List.getElem_mem _
    have hco : s.coming = none := by
      have := hcom _ hmem
      cases hq : s.coming with
      | none => rfl
      | some p => exact absurd (show (s.coming.map RDevP.v) = none from this) (by rw [hq]; simp)
    rw [<- hn]
    obtain ⟨a, rfl⟩ : ∃ a, xa = some a := by cases xa with | none => have := hx rfl; omega | some a => exact ⟨a, rfl⟩
    have c0 : ((dn ++ s :: l2).flatMap rslotCells)[dn.length * 6 + 0]? = some (rPtr s.in_) := (rslots_get _ _ 0 (by simp) (by decide)).trans (by simp [rslotCells])
    have c2 : ((dn ++ s :: l2).flatMap rslotCells)[dn.length * 6 + 2]? = some (.pointer none) := (rslots_get _ _ 2 (by simp) (by decide)).trans (by simp [rslotCells, hco, rPtr])
    refine w ?_
    ((first | apply VO.pure rfl rfl | apply VQ.pure rfl rfl | apply VD.take rfl rfl rfl | (refine VD.end rfl rfl rfl ?_; apply OpV.pure)); exact .ldRc tab_ok rfl rfl (rslots_rds zm) c0; rfl)
    refine w ?_
    refine VC.ent (rbayOut (D := D)) ?_
    (refine VC.join (α := Option RDevP) (fun y => rPtr y = rPtr s.in_ /\ wearV y = wearV s.in_ /\ y.map RDevP.v = s.D.in_.map fun v => ⟨v.k.settle (keepOf ((kl.map KeepD.l).getD dn.length [])), v.worn, v.left⟩) (fun y => rdevRes y :: rdevRes s.aside :: rdevRes s.coming :: RBayX b D (some a, xc) dn s l2 R) (fun _ => [(0, .pointer (some ⟨b, 0, none⟩)), (1, .slice ao kl.length cap), (4, .int .i64 dn.length), (5, .pointer (some (a.add (dn.length * 6))))]) ?_ ?_)
    · intro Q2 jn
      have hD0 : s.D.in_ = s.in_.map RDevP.v := rfl
      have hcp : ∀ p, s.in_ = some p -> p.v.k.cache.length <= 1000000000 := fun p hp => hcap _ hmem p.v (by rw [hD0, hp]; rfl)
      cases hi : s.in_ with
      | none =>
        dsimp only [rPtr, Option.map_none, Option.isNone_none, Bool.not_true]
        (refine VC.condFe rfl rfl (rfl) ?_)
        refine w ?_
        refine jn.to none ⟨by rw [hi], by rw [hi], by rw [hD0, hi]; rfl⟩ ⟨rfl, rfl, rfl, rfl, trivial⟩ Ent.refl
      | some p =>
        have hcpp := hcp p hi
        have c0' : ((dn ++ s :: l2).flatMap rslotCells)[dn.length * 6 + 0]? = some (.pointer (some ⟨p.d, 0, none⟩)) := by rw [c0, hi]; rfl
        dsimp only [rPtr, Option.map_some, Option.isNone_some, Bool.not_false]
        (refine VC.condTe rfl rfl (rfl) ?_)
        refine w ?_
        refine zk ?_ ?_ <;> intro hc
        · have hlk : dn.length < kl.length := by have := of_decide_eq_true hc; omega
          have hk2 := hk.ent (Ent.dropAll (W := W) (R := R) (DocR p.d p.v.k :: rdevRes s.aside :: rdevRes s.coming :: rbayRow b D (some a, xc) (dn ++ s :: l2).length :: rslotsOwn (some a, xc) (dn ++ s :: l2) :: (dn ++ l2).map rslotRes))
          obtain ⟨ka, rfl⟩ : ∃ ka, ao = some ka := by cases ao with | none => have := hk.nil rfl; omega | some ka => exact ⟨ka, rfl⟩
          refine VC.ent (H' := DocR p.d p.v.k :: rdevRes s.aside :: rdevRes s.coming :: RBayX b D (some a, xc) dn s l2 R) Ent.refl ?_
          refine w ?_
          (refine VC.drawn [] 8 [0, 1, 2, 3, 4, 5, 6, 7, 8] _ rfl (by kernel_rfl) (by kernel_rfl) Ent.re ?_)
          refine w ?_
          ((first | apply VO.pure rfl rfl | apply VQ.pure rfl rfl | apply VD.take rfl rfl rfl | (refine VD.end rfl rfl rfl ?_; apply OpV.pure)); exact .ldRc tab_ok rfl rfl (rslots_rds zm) c0'; rfl)
          refine w ?_
          ((first | apply VO.pure rfl rfl | apply VQ.pure rfl rfl | apply VD.take rfl rfl rfl | (refine VD.end rfl rfl rfl ?_; apply OpV.pure)); exact .ldRc tab_ok rfl rfl hk2 (show (kl.map KeepD.hdr)[dn.length]? = some (kl[dn.length].hdr) by rw [List.getElem?_map, List.getElem?_eq_getElem hlk]; rfl); rfl)
          refine w ?_
          (refine zq ?_; refine zy rfl rfl (doccrash_ok p.d p.v.k hcpp (hkb _ (List.getElem_mem hlk))) ?_)
          intro _ _
          refine w ?_
          refine jn.to (some ⟨p.d, ⟨p.v.k.settle (keepOf kl[dn.length].l), p.v.worn, p.v.left⟩⟩) ⟨by rw [hi]; rfl, by rw [hi]; rfl, ?_⟩ ⟨rfl, rfl, rfl, rfl, trivial⟩ Ent.refl
          rw [hD0, hi]
          simp [List.getD, hlk]
        · have hlk : ¬ dn.length < kl.length := by have := of_decide_eq_false hc; omega
          refine VC.ent (H' := DocR p.d p.v.k :: rdevRes s.aside :: rdevRes s.coming :: RBayX b D (some a, xc) dn s l2 R) Ent.refl ?_
          refine w ?_
          ((first | apply VO.pure rfl rfl | apply VQ.pure rfl rfl | apply VD.take rfl rfl rfl | (refine VD.end rfl rfl rfl ?_; apply OpV.pure)); exact .ldRc tab_ok rfl rfl (rslots_rds zm) c0'; rfl)
          refine w ?_
          (refine zq ?_; refine zy rfl rfl (doccrash_ok p.d p.v.k hcpp (fun R => nilBools)) ?_)
          intro _ _
          refine w ?_
          refine jn.to (some ⟨p.d, ⟨p.v.k.settle (keepOf []), p.v.worn, p.v.left⟩⟩) ⟨by rw [hi]; rfl, by rw [hi]; rfl, ?_⟩ ⟨rfl, rfl, rfl, rfl, trivial⟩ Ent.refl
          rw [hD0, hi]
          simp [List.getD, hlk]
    · rintro y ⟨hy1, hy3, hy2⟩
      refine w ?_
      ((first | apply VO.pure rfl rfl | apply VQ.pure rfl rfl | apply VD.take rfl rfl rfl | (refine VD.end rfl rfl rfl ?_; apply OpV.pure)); exact .ldRc tab_ok rfl rfl (rslots_rds zm) c2; rfl)
      refine w ?_
      obtain ⟨s', hs'⟩ : ∃ s' : RSlotP, s' = ⟨y, s.aside, s.coming⟩ := ⟨_, rfl⟩
      have ec : rslotCells s' = rslotCells s := by subst hs'; unfold rslotCells; dsimp only; rw [hy1, hy3]
      have e1 : (dn ++ s' :: l2).length = (dn ++ s :: l2).length := by simp
      have hdr : dn ++ [s'] ++ sp.drop (dn ++ [s']).length = dn ++ s' :: l2 := by rw [List.length_append, List.length_singleton, hl2]; simp
      have hD' : s'.D = s.D.cut ((kl.map KeepD.l).getD dn.length []) := by
        subst hs'
        unfold SlotD.cut
        rw [show s.D.coming = s.coming.map RDevP.v from rfl, hco]
        rw [if_neg (by simp), <- hy2]
        rfl
      have hcut : (dn ++ [s']).map RSlotP.D = (D.cut (kl.map KeepD.l)).slots.take (dn ++ [s']).length := by
        rw [List.length_append, List.length_singleton, List.map_append, hdD]
        unfold BayD.cut
        rw [cut_step _ _ _ (by omega), hsD, <- hD']; rfl
      refine VE.round (dn ++ [s']) ⟨by rw [List.length_append, List.length_singleton]; omega, hcut⟩ (by rw [hn, List.length_append, List.length_singleton]; omega) ⟨rfl, rfl, asV rfl (by rw [List.length_append, List.length_singleton]; congr 1), trivial⟩ ?_
      rw [hdr]
      have e2 : (dn ++ s' :: l2).flatMap rslotCells = (dn ++ s :: l2).flatMap rslotCells := by
        rw [List.flatMap_append, List.flatMap_cons, List.flatMap_append, List.flatMap_cons, ec]
      rw [e2]
      have e3 : RBayX b D (some a, xc) dn s' l2 R = RBayX b D (some a, xc) dn s l2 R := by
        unfold RBayX rslotsOwn
        rw [e1, e2]
      have h3 : Ent W (rdevRes s'.in_ :: rdevRes s'.aside :: rdevRes s'.coming :: RBayX b D (some a, xc) dn s' l2 R) (RBayO b D (some a, xc) (dn ++ s' :: l2) R) := rbayIn
      rw [e3] at h3
      unfold RBayO rslotsOwn at h3
      rw [e1, e2] at h3
      subst hs'
      exact h3
  have hge : dn.length = sp.length := by have := of_decide_eq_false hc; omega
  clear hc
  have hdr : dn ++ sp.drop dn.length = dn := by rw [hge, List.drop_length, List.append_nil]
  rw [hdr, <- hge]
  refine w ?_
  (refine VE.done1N rfl ?_ ?_)
  · rfl
  · have hD2 : (D.cut (kl.map KeepD.l)).slots = dn.map RSlotP.D := by
      rw [hdD, hge, List.take_of_length_le (by unfold BayD.cut; simp [hl])]
    exact RBayR.shut (D := D.cut (kl.map KeepD.l)) (x := (xa, xc)) hD2 (by omega)
structure ListN where
  ao : Option Addr
  cap : Nat
  n : Nat
  xs : List Value
abbrev ListN.hdr (e : ListN) : Value := .slice e.ao e.n e.cap
theorem ListN.hdrs_one (l : List ListN) : ∀ u ∈ l.map ListN.hdr, u.oneCell' = true := by
 intro u hu; obtain ⟨e, _, rfl⟩ := List.mem_map.1 hu; rfl
namespace Pt
def mk (z : Int) : List Value := [.int .i64 0, .int .i64 z, .slice none 0 0]
abbrev val (z : Int) : Value := .int .i64 z
def marks (a m : Nat) : List Value := (List.range m).flatMap fun (k : Nat) => mk ((a : Int) * 1000 + (k : Int))
def marks2 (a m : Nat) : List Value := (List.range m).flatMap fun (k : Nat) => mk ((-1 - (a : Int)) * 1000 + (k : Int))
theorem marks_length (a m : Nat) : (marks a m).length = m * 3 := by
 have := flat_length (w := 3) (g := fun (k : Nat) => mk ((a : Int) * 1000 + (k : Int))) (List.range m) (fun _ _ => rfl); rwa [List.length_range] at this
theorem marks2_length (a m : Nat) : (marks2 a m).length = m * 3 := by
 have := flat_length (w := 3) (g := fun (k : Nat) => mk ((-1 - (a : Int)) * 1000 + (k : Int))) (List.range m) (fun _ _ => rfl); rwa [List.length_range] at this
theorem marks_succ (a m : Nat) : marks a (m + 1) = marks a m ++ mk ((a : Int) * 1000 + (m : Int)) := by unfold marks; rw [List.range_succ, List.flatMap_append]; simp
theorem marks2_succ (a m : Nat) : marks2 a (m + 1) = marks2 a m ++ mk ((-1 - (a : Int)) * 1000 + (m : Int)) := by unfold marks2; rw [List.range_succ, List.flatMap_append]; simp
theorem mk_one (z : Int) : ∀ u ∈ mk z, u.oneCell' = true := by simp [mk, Value.oneCell']
theorem marks_one (a m : Nat) : ∀ u ∈ marks a m, u.oneCell' = true := by
 intro u hu; obtain ⟨k, _, h⟩ := List.mem_flatMap.1 hu; exact mk_one _ u h
theorem marks2_one (a m : Nat) : ∀ u ∈ marks2 a m, u.oneCell' = true := by
 intro u hu; obtain ⟨k, _, h⟩ := List.mem_flatMap.1 hu; exact mk_one _ u h
theorem marks_get (a m k : Nat) (h : k < m) : (marks a m)[k * 3 + 1]? = some (val ((a : Int) * 1000 + (k : Int))) := by
 have := flat_at (w := 3) (g := fun (k : Nat) => mk ((a : Int) * 1000 + (k : Int))) (List.range m) k 1 (by rw [List.length_range]; exact h) (fun _ _ => rfl) (by decide)
 rw [List.getElem_range] at this
 exact this
theorem marks2_get (a m k : Nat) (h : k < m) : (marks2 a m)[k * 3 + 1]? = some (val ((-1 - (a : Int)) * 1000 + (k : Int))) := by
 have := flat_at (w := 3) (g := fun (k : Nat) => mk ((-1 - (a : Int)) * 1000 + (k : Int))) (List.range m) k 1 (by rw [List.length_range]; exact h) (fun _ _ => rfl) (by decide)
 rw [List.getElem_range] at this
 exact this
def res (e : ListN) : SProp := Own 70 3 (.slice e.ao e.n e.cap) e.n e.xs
def mkd (E : List ListN) (a : Nat) : List ListN := E.mapIdx fun j e => if j < a then ⟨e.ao, e.cap, e.n, marks j e.n⟩ else e
theorem mkd_length (E : List ListN) (a : Nat) : (mkd E a).length = E.length := by simp [mkd]
theorem mkd_get (E : List ListN) (a j : Nat) (h : j < E.length) : (mkd E a)[j]'(by rw [mkd_length]; exact h) = if j < a then ⟨E[j].ao, E[j].cap, E[j].n, marks j E[j].n⟩ else E[j] := by simp [mkd]
theorem mkd_zero (E : List ListN) : mkd E 0 = E := by
 unfold mkd; apply List.ext_getElem (by simp); intro i h1 h2; simp
theorem mkd_set (E : List ListN) (a : Nat) (h : a < E.length) : (mkd E a).set a ⟨E[a].ao, E[a].cap, E[a].n, marks a E[a].n⟩ = mkd E (a + 1) := by
 apply List.ext_getElem (by simp [mkd_length])
 intro j h1 h2
 have hj : j < E.length := by simpa [mkd_length] using h2
 rw [List.getElem_set, mkd_get E (a + 1) j hj]
 split
 · rename_i q; subst q; rw [if_pos (Nat.lt_succ_self _)]
 ·
  rename_i q
  rw [mkd_get E a j hj]
  by_cases q2 : j < a
  · rw [if_pos q2, if_pos (by omega)]
  · rw [if_neg q2, if_neg (by omega)]
def twin (j : Nat) (e : ListN) (g : Option Addr × Nat) (m : Nat) : SProp := TwinR 70 3 e.ao e.cap e.n e.xs g.1 g.2 (e.n + m) (e.xs ++ marks2 j m)
def grs (M : List ListN) (Gs : List (Option Addr × Nat)) : List SProp := M.mapIdx fun j e => match Gs[j]? with
  | some g => twin j e g 16
  | none => res e
theorem grs_length (M : List ListN) (Gs : List (Option Addr × Nat)) : (grs M Gs).length = M.length := by simp [grs]
theorem grs_nil (M : List ListN) : grs M [] = M.map res := by
 unfold grs; apply List.ext_getElem (by simp); intro i h1 h2; simp
theorem grs_get (M : List ListN) (Gs : List (Option Addr × Nat)) (j : Nat) (h : j < M.length) : (grs M Gs)[j]'(by rw [grs_length]; exact h) = match Gs[j]? with
 | some g => twin j M[j] g 16
 | none => res M[j] := by simp [grs]
theorem grs_set (M : List ListN) (Gs : List (Option Addr × Nat)) (g : Option Addr × Nat) (h : Gs.length < M.length) : (grs M Gs).set Gs.length (twin Gs.length M[Gs.length] g 16) = grs M (Gs ++ [g]) := by
 apply List.ext_getElem (by simp [grs_length])
 intro j h1 h2
 have hj : j < M.length := by simpa [grs_length] using h2
 rw [List.getElem_set, grs_get M (Gs ++ [g]) j hj]
 split
 · rename_i q; subst q; rw [List.getElem?_append_right (Nat.le_refl _)]; simp
 ·
  rename_i q
  rw [grs_get M Gs j hj]
  by_cases q2 : j < Gs.length
  · rw [List.getElem?_append_left q2]
  · rw [List.getElem?_eq_none (by omega), List.getElem?_eq_none (by simp; omega)]
def longH (M : List ListN) (Gs : List (Option Addr × Nat)) : List Value := Gs.mapIdx fun j g => .slice g.1 (((M[j]?).map fun e => e.n).getD 0 + 16) g.2
theorem longH_length (M : List ListN) (Gs : List (Option Addr × Nat)) : (longH M Gs).length = Gs.length := by simp [longH]
theorem longH_snoc (M : List ListN) (Gs : List (Option Addr × Nat)) (g : Option Addr × Nat) (h : Gs.length < M.length) : longH M (Gs ++ [g]) = longH M Gs ++ [.slice g.1 (M[Gs.length].n + 16) g.2] := by
 unfold longH
 rw [List.mapIdx_append]
 congr 1
 simp [List.getElem?_eq_getElem h]
theorem longH_one (M : List ListN) (Gs : List (Option Addr × Nat)) : ∀ u ∈ longH M Gs, u.oneCell' = true := by
 intro u hu
 obtain ⟨j, hj, rfl⟩ := List.mem_iff_getElem.1 hu
 simp [longH, Value.oneCell']
theorem own_ok {lo : Option Addr} {lc : Nat} {E : List ListN} (hn : E.length <= 1000000000) (hl : ∀ e ∈ E, e.n <= 1000000000) :
  Does1 W Tryz.prog 75 [.slice lo E.length lc] (Own 58 1 (.slice lo E.length lc) E.length (E.map ListN.hdr) :: (E.map res ++ R)) (.bool true) R := by
 (refine Does.enter Tryz.func75 Tryz.ntmps75 rfl rfl ?_)
 refine VC.know (p := lo = none -> E.length = 0) (fun w hw => hw.ownNone (.head _)) ?_
 intro hln
 refine w ?_
 refine VC.loop (α := Nat) (fun a => a <= E.length) (fun a => Own 58 1 (.slice lo E.length lc) E.length (E.map ListN.hdr) :: ((mkd E a).map res ++ R)) (fun a => [(0, .slice lo E.length lc), (3, .int .i64 a)]) (fun a => E.length - a) rfl 0 (Nat.zero_le _) (by rw [mkd_zero]; exact Ent.refl) ⟨rfl, rfl, trivial⟩ ?_
 intro a ha
 refine w ?_
 refine zk ?_ ?_ <;> intro hc
 ·
  have hlt : a < E.length := by have := of_decide_eq_true hc; omega
  obtain ⟨lb, rfl⟩ : ∃ lb, lo = some lb := by cases lo with | none => have := hln rfl; omega | some lb => exact ⟨lb, rfl⟩
  have hla := hl _ (List.getElem_mem hlt)
  have hget : (E.map ListN.hdr)[a]? = some (.slice E[a].ao E[a].n E[a].cap) := by rw [List.getElem?_map, List.getElem?_eq_getElem hlt]; rfl
  have hmlen : ((mkd E a).map res).length = E.length := by rw [List.length_map, mkd_length]
  have hself : (mkd E a).map res = ((mkd E a).map res).set a (Own 70 3 (.slice E[a].ao E[a].n E[a].cap) E[a].n (marks a 0 ++ E[a].xs.drop (0 * 3))) := by
   have e1 : ((mkd E a).map res)[a]'(by rw [hmlen]; exact hlt) = Own 70 3 (.slice E[a].ao E[a].n E[a].cap) E[a].n (marks a 0 ++ E[a].xs.drop (0 * 3)) := by
    rw [List.getElem_map, mkd_get E a a hlt, if_neg (Nat.lt_irrefl _)]; rfl
   rw [<- e1, List.set_getElem_self]
  have hnext : ((mkd E a).map res).set a (Own 70 3 (.slice E[a].ao E[a].n E[a].cap) E[a].n (marks a E[a].n)) = (mkd E (a + 1)).map res := by
   rw [<- mkd_set E a hlt, List.map_set]; rfl
  generalize hL : (mkd E a).map res = L at *
  refine w ?_
  refine VC.loop (α := Nat) (fun k => k <= E[a].n) (fun k => Own 58 1 (.slice (some lb) E.length lc) E.length (E.map ListN.hdr) :: (L.set a (Own 70 3 (.slice E[a].ao E[a].n E[a].cap) E[a].n (marks a k ++ E[a].xs.drop (k * 3))) ++ R))
   (fun k => [(0, .slice (some lb) E.length lc), (3, .int .i64 a), (4, .int .i64 k)]) (fun k => E[a].n - k) rfl 0 (Nat.zero_le _) (by rw [<- hself]; exact Ent.refl) ⟨rfl, rfl, rfl, trivial⟩ ?_
  intro k hk
  refine VC.know (p := E[a].ao = none -> E[a].n = 0) (fun w hw => Holds.ownNone hw (.tail _ (mem_set L a _ (by omega)))) ?_
  intro han
  refine VC.know (fun w hw => Holds.ownLen hw (.tail _ (mem_set L a _ (by omega)))) ?_
  intro hlen
  refine w ?_
  refine VO.pure rfl rfl (PureAt.ldR tab_ok rfl rfl (Rds.own (ListN.hdrs_one E) (.head _) (by rw [List.length_map, Nat.mul_one]) (fun h => by cases h)) hget) rfl ?_
  refine w ?_
  refine zk ?_ ?_ <;> intro hc
  ·
   have hkt : k < E[a].n := by have := of_decide_eq_true hc; omega
   obtain ⟨xa, hxa⟩ : ∃ xa, E[a].ao = some xa := by cases h : E[a].ao with | none => have := han h; omega | some xa => exact ⟨xa, rfl⟩
   rw [hxa] at hget ⊢
   refine w ?_
   refine VO.pure rfl rfl (PureAt.ldR tab_ok rfl rfl (Rds.own (ListN.hdrs_one E) (.head _) (by rw [List.length_map, Nat.mul_one]) (fun h => by cases h)) hget) rfl ?_
   refine w ?_
   (apply VO.pure rfl rfl; apply PureAt.build sb_70 rfl; (simp [buildX, setL, Value.cells]; rfl); rfl)
   refine w ?_
   refine zq ?_
   refine OpV.stOA (vs := mk ((a : Int) * 1000 + (k : Int))) tab_ok rfl rfl rfl rfl (mk_one _) (.tail (hole_set L a _ (by omega))) (by rw [hlen]; omega) ?_
   have hset : (marks a k ++ E[a].xs.drop (k * 3)).take (k * 3) ++ mk ((a : Int) * 1000 + (k : Int)) ++ (marks a k ++ E[a].xs.drop (k * 3)).drop (k * 3 + 3) = marks a (k + 1) ++ E[a].xs.drop ((k + 1) * 3) := by
    rw [List.take_left' (marks_length a k), marks_succ, List.drop_append, marks_length, List.drop_of_length_le (by rw [marks_length]; omega), List.nil_append, List.drop_drop]
    congr 2
    omega
   rw [hset]
   refine w ?_
   exact VE.round (k + 1) hkt (by omega) ⟨rfl, rfl, rfl, trivial⟩ Ent.refl
  ·
   have hge : k = E[a].n := by have := of_decide_eq_false hc; omega
   rw [List.length_append, marks_length] at hlen
   have hz : E[a].xs.drop (k * 3) = [] := List.eq_nil_of_length_eq_zero (by rw [hge] at hlen ⊢; omega)
   rw [hz, List.append_nil, hge, hnext]
   refine w ?_
   exact VE.round (a + 1) hlt (by omega) ⟨rfl, rfl, trivial⟩ Ent.refl
 have hge : a = E.length := by have := of_decide_eq_false hc; omega
 subst hge
 clear hc ha
 -- every list is marked
 obtain ⟨M, hM⟩ : ∃ M, M = mkd E E.length := ⟨_, rfl⟩
 have hML : M.length = E.length := by rw [hM]; exact mkd_length _ _
 have hMg : ∀ j (h : j < M.length), M[j] = ⟨(E[j]'(by omega)).ao, (E[j]'(by omega)).cap, (E[j]'(by omega)).n, marks j (E[j]'(by omega)).n⟩ := fun j h => by
  subst hM; rw [mkd_get E _ j (by omega), if_pos (by omega)]
 have hMh : E.map ListN.hdr = M.map ListN.hdr := by
  apply List.ext_getElem (by simp [hML])
  intro j h1 h2
  have hj : j < M.length := by simpa using h2
  rw [List.getElem_map, List.getElem_map, hMg j hj]
 have hMl : ∀ j (h : j < M.length), M[j].n <= 1000000000 /\ M[j].xs = marks j M[j].n := fun j h => by
  rw [hMg j h]; exact ⟨hl (E[j]'(by omega)) (List.getElem_mem _), rfl⟩
 refine w ?_
 rw [<- hM, hMh, <- hML]
 rw [<- hML] at hln hn
 clear hMh hMg hl hML hM E
 refine VC.ent (H' := Own 58 1 (.slice none 0 0) 0 (longH M []) :: Own 58 1 (.slice lo M.length lc) M.length (M.map ListN.hdr) :: (grs M [] ++ R)) (fun w hw => by rw [grs_nil]; exact hw.ownNil _ _) ?_
 refine VC.loop (α := List (Option Addr × Nat) × Option Addr × Nat) (fun g => g.1.length <= M.length)
  (fun g => Own 58 1 (.slice g.2.1 g.1.length g.2.2) g.1.length (longH M g.1) :: Own 58 1 (.slice lo M.length lc) M.length (M.map ListN.hdr) :: (grs M g.1 ++ R))
  (fun g => [(0, .slice lo M.length lc), (5, .slice g.2.1 g.1.length g.2.2), (6, .int .i64 g.1.length)]) (fun g => M.length - g.1.length) rfl ([], none, 0) (Nat.zero_le _) Ent.refl ⟨rfl, rfl, rfl, trivial⟩ ?_
 rintro ⟨Gs, go, gc⟩ ha
 dsimp only at ha ⊢
 refine w ?_
 refine zk ?_ ?_ <;> intro hc
 ·
  have hlt : Gs.length < M.length := by have := of_decide_eq_true hc; omega
  obtain ⟨lb, rfl⟩ : ∃ lb, lo = some lb := by cases lo with | none => have := hln rfl; omega | some lb => exact ⟨lb, rfl⟩
  obtain ⟨hla, hxs⟩ := hMl Gs.length hlt
  have hget : (M.map ListN.hdr)[Gs.length]? = some (.slice M[Gs.length].ao M[Gs.length].n M[Gs.length].cap) := by rw [List.getElem?_map, List.getElem?_eq_getElem hlt]; rfl
  have hself : grs M Gs = (grs M Gs).set Gs.length (res M[Gs.length]) := by
   have e1 : (grs M Gs)[Gs.length]'(by rw [grs_length]; exact hlt) = res M[Gs.length] := by
    rw [grs_get M Gs _ hlt, List.getElem?_eq_none (Nat.le_refl _)]
   rw [<- e1, List.set_getElem_self]
  have hnext (g : Option Addr × Nat) := grs_set M Gs g hlt
  have hlnext (g : Option Addr × Nat) := longH_snoc M Gs g hlt
  have hgl := grs_length M Gs
  generalize hL : grs M Gs = L at *
  refine w ?_
  refine VO.pure rfl rfl (PureAt.ldR tab_ok rfl rfl (Rds.own (ListN.hdrs_one M) (.tail _ (.head _)) (by rw [List.length_map, Nat.mul_one]) (fun h => by cases h)) hget) rfl ?_
  refine w ?_
  refine VC.loop (α := Nat × Option Addr × Nat) (fun g => g.1 <= 16)
   (fun g => Own 58 1 (.slice go Gs.length gc) Gs.length (longH M Gs) :: Own 58 1 (.slice (some lb) M.length lc) M.length (M.map ListN.hdr) :: (L.set Gs.length (twin Gs.length M[Gs.length] g.2 g.1) ++ R))
   (fun g => [(0, .slice (some lb) M.length lc), (5, .slice go Gs.length gc), (6, .int .i64 Gs.length), (7, .slice g.2.1 (M[Gs.length].n + g.1) g.2.2), (8, .int .i64 g.1)]) (fun g => 16 - g.1) rfl (0, M[Gs.length].ao, M[Gs.length].cap) (Nat.zero_le _)
   (by
    rw [hself, List.set_set]
    refine Ent.hole (Hole.tail (Hole.tail (hole_set L Gs.length _ (by omega)))) (fun R w hw => ?_)
    have := TwinR.start hw
    simpa [twin, marks2] using this) ⟨rfl, rfl, rfl, rfl, rfl, trivial⟩ ?_
  rintro ⟨k, xo, xc⟩ hk
  dsimp only at hk ⊢
  refine w ?_
  refine zk ?_ ?_ <;> intro hc
  ·
   have hkt : k < 16 := by have := of_decide_eq_true hc; omega
   refine w ?_
   (apply VO.pure rfl rfl; apply PureAt.build sb_70 rfl; (simp [buildX, setL, Value.cells]; rfl); rfl)
   refine zq ?_
   refine OpV.buildSlice (cs := mk ((-1 - (Gs.length : Int)) * 1000 + (k : Int))) st_58 rfl rfl (by simp [Value.cells]) (by simp [Value.cells, mk]) (by decide) rfl ?_
   intro nb
   refine zq ?_
   refine OpV.appendT (news := mk ((-1 - (Gs.length : Int)) * 1000 + (k : Int))) (m := 1) st_58 rfl rfl (.tail (.tail (.tail (hole_set L Gs.length _ (by omega))))) (fun w hw => (Sees.row (ys := []) (mk_one _) rfl (by simpa using hw) (.head _)).src st_58.und) ?_ ?_ rfl ?_
   · simp only [maxLen]; omega
   · omega
   intro xo' xc'
   refine w ?_
   refine VE.round (k + 1, xo', xc') hkt (by simp only; omega) ⟨rfl, rfl, rfl, rfl, rfl, trivial⟩ ?_
   unfold twin
   rw [marks2_succ, <- List.append_assoc]
   exact Reord.ent (Reord.drop .refl)
  ·
   have hge : k = 16 := by have := of_decide_eq_false hc; omega
   subst hge
   rw [hnext]
   refine w ?_
   (refine zq ?_; refine OpV.buildSlice1 st_53 rfl rfl (by first | (simp; done) | simp [Value.oneCell']) (by decide) rfl ?_; intro nb)
   (refine zq ?_; refine OpV.appendRow st_53 rfl rfl zh zm rfl (by first | (simp; done) | simp [Value.oneCell']) ?_ ?_ rfl ?_)
   · simp only [maxLen]; omega
   · omega
   intro go' gc'
   rw [<- hlnext (xo, xc)]
   refine w ?_
   refine VE.round (Gs ++ [(xo, xc)], go', gc') (by rw [List.length_append]; exact hlt) (by simp only [List.length_append, List.length_singleton]; omega) ⟨rfl, asV rfl (by rw [List.length_append]; rfl), asV rfl (by rw [List.length_append]; rfl), trivial⟩ ?_
   dsimp only
   rw [List.length_append]
   exact Ent.re
 have hge : Gs.length = M.length := by have := of_decide_eq_false hc; omega
 clear hc ha
 refine w ?_
 refine VC.know (p := go = none -> Gs.length = 0) (fun w hw => Holds.ownNone hw (.head _)) ?_
 intro hgn
 generalize hH : (Own 58 1 (.slice go Gs.length gc) Gs.length (longH M Gs) :: Own 58 1 (.slice lo M.length lc) M.length (M.map ListN.hdr) :: (grs M Gs ++ R)) = HH
 have hr1 : Rds W HH 1 lo M.length (M.map ListN.hdr) := by subst hH; exact Rds.own (ListN.hdrs_one M) (.tail _ (.head _)) (by rw [List.length_map, Nat.mul_one]) hln
 have hr2 : Rds W HH 1 go Gs.length (longH M Gs) := by subst hH; exact Rds.own (longH_one M Gs) (.head _) (by rw [longH_length, Nat.mul_one]) hgn
 have hend : Ent W HH R := by
  subst hH
  exact Ent.drop (Ent.drop (fun w hw => by
   have : ∀ (X : List SProp) w, Holds W (X ++ R) w -> Holds W R w := fun X => by
    induction X with
    | nil => exact fun w h => h
    | cons a r ih => exact fun w h => ih w h.tail
   exact this _ w hw))
 have htw : ∀ a (h : a < M.length), twin a M[a] (Gs[a]'(by omega)) 16 ∈ HH := fun a h => by
  subst hH
  refine .tail _ (.tail _ (List.mem_append_left _ (List.mem_iff_getElem.2 ⟨a, by rw [grs_length]; exact h, ?_⟩)))
  rw [grs_get M Gs a h, List.getElem?_eq_getElem (by omega)]
 have hlg : ∀ a (h : a < M.length), (longH M Gs)[a]? = some (.slice (Gs[a]'(by omega)).1 (M[a].n + 16) (Gs[a]'(by omega)).2) := fun a h => by
  unfold longH
  rw [List.getElem?_mapIdx, List.getElem?_eq_getElem h, List.getElem?_eq_getElem (l := Gs) (by omega)]; rfl
 clear hH
 refine VC.loop (α := Nat) (fun a => a <= M.length) (fun _ => HH)
  (fun a => [(0, .slice lo M.length lc), (5, .slice go Gs.length gc), (9, .int .i64 a)]) (fun a => M.length - a) rfl 0 (Nat.zero_le _) Ent.refl ⟨rfl, rfl, rfl, trivial⟩ ?_
 intro a ha
 refine w ?_
 refine zk ?_ ?_ <;> intro hc
 ·
  have hlt : a < M.length := by have := of_decide_eq_true hc; omega
  obtain ⟨lb, rfl⟩ : ∃ lb, lo = some lb := by cases lo with | none => have := hln rfl; omega | some lb => exact ⟨lb, rfl⟩
  obtain ⟨gb, rfl⟩ : ∃ gb, go = some gb := by cases go with | none => have := hgn rfl; omega | some gb => exact ⟨gb, rfl⟩
  obtain ⟨hla, hxs⟩ := hMl a hlt
  have hget : (M.map ListN.hdr)[a]? = some (.slice M[a].ao M[a].n M[a].cap) := by rw [List.getElem?_map, List.getElem?_eq_getElem hlt]; rfl
  have htw := htw a hlt
  have hlg := hlg a hlt
  have hgl : a < Gs.length := by omega
  generalize Gs[a] = g at *
  generalize M[a] = e at *
  have hel : e.xs.length = e.n * 3 := by rw [hxs, marks_length]
  have h1 : ∀ u ∈ e.xs, u.oneCell' = true := by rw [hxs]; exact marks_one _ _
  have h2 : ∀ u ∈ e.xs ++ marks2 a 16, u.oneCell' = true := fun u hu => by
   rcases List.mem_append.1 hu with q | q
   · exact h1 u q
   · exact marks2_one _ _ u q
  refine VC.know (fun w hw => TwinR.none hw htw) ?_
  rintro ⟨hon, hnn⟩
  have ho : Rds W HH 3 e.ao e.n e.xs := TwinR.rdsOld htw h1 hel hon
  have hw' : Rds W HH 3 g.1 (e.n + 16) (e.xs ++ marks2 a 16) := TwinR.rdsNew htw h2 (by rw [List.length_append, marks2_length, hel]; omega) hnn
  obtain ⟨gx, hgx⟩ : ∃ gx, g.1 = some gx := by cases h : g.1 with | none => have := hnn h; omega | some gx => exact ⟨gx, rfl⟩
  rw [hgx] at hlg hw'
  refine w ?_
  refine VO.pure rfl rfl (PureAt.ldR tab_ok rfl rfl hr1 hget) rfl ?_
  refine w ?_
  refine VC.loop (α := Nat) (fun k => k <= e.n) (fun _ => HH)
   (fun k => [(0, .slice (some lb) M.length lc), (5, .slice (some gb) Gs.length gc), (9, .int .i64 a), (10, .int .i64 e.n), (11, .int .i64 k)]) (fun k => e.n - k) rfl 0 (Nat.zero_le _) Ent.refl ⟨rfl, rfl, rfl, rfl, rfl, trivial⟩ ?_
  intro k hk
  refine w ?_
  refine zk ?_ ?_ <;> intro hc
  ·
   have hkt : k < e.n := by have := of_decide_eq_true hc; omega
   obtain ⟨ox, hox⟩ : ∃ ox, e.ao = some ox := by cases h : e.ao with | none => have := hon h; omega | some ox => exact ⟨ox, rfl⟩
   rw [hox] at hget ho
   have hk1 : e.xs[k * 3 + 1]? = some (val ((a : Int) * 1000 + (k : Int))) := by rw [hxs]; exact marks_get a _ k hkt
   have hk2 : (e.xs ++ marks2 a 16)[k * 3 + 1]? = some (val ((a : Int) * 1000 + (k : Int))) := by rw [List.getElem?_append_left (by omega)]; exact hk1
   refine w ?_
   refine VO.pure rfl rfl (PureAt.ldR tab_ok rfl rfl hr1 hget) rfl ?_
   refine w ?_
   refine VO.pure rfl rfl (PureAt.ldRc tab_ok rfl rfl ho hk1) rfl ?_
   refine w ?_
   (first | refine VO.gF rfl rfl rfl (by simp) ?_ | refine VD.gF rfl rfl rfl (by simp) ?_)
   refine w ?_
   refine VO.pure rfl rfl (PureAt.ldR tab_ok rfl rfl hr2 hlg) rfl ?_
   refine w ?_
   refine VO.pure rfl rfl (PureAt.ldRc tab_ok rfl rfl hw' hk2) rfl ?_
   refine w ?_
   (refine VC.condFe rfl rfl (by simp) ?_)
   refine w ?_
   exact VE.round (k + 1) hkt (by omega) ⟨rfl, rfl, rfl, rfl, rfl, trivial⟩ Ent.refl
  ·
   refine w ?_
   refine VC.loop (α := Nat) (fun k => k <= 16) (fun _ => HH)
    (fun k => [(0, .slice (some lb) M.length lc), (5, .slice (some gb) Gs.length gc), (9, .int .i64 a), (10, .int .i64 e.n), (12, .int .i64 k)]) (fun k => 16 - k) rfl 0 (Nat.zero_le _) Ent.refl ⟨rfl, rfl, rfl, rfl, rfl, trivial⟩ ?_
   intro k hk
   refine w ?_
   refine zk ?_ ?_ <;> intro hc
   ·
    have hkt : k < 16 := by have := of_decide_eq_true hc; omega
    have hk2 : (e.xs ++ marks2 a 16)[(e.n + k) * 3 + 1]? = some (val ((-1 - (a : Int)) * 1000 + (k : Int))) := by
     rw [List.getElem?_append_right (by omega), hel, show (e.n + k) * 3 + 1 - e.n * 3 = k * 3 + 1 by omega]; exact marks2_get a 16 k hkt
    refine w ?_
    refine VO.pure rfl rfl (PureAt.ldR tab_ok rfl rfl hr2 hlg) rfl ?_
    refine zv ?_
    refine zv ?_
    refine zv ?_
    refine VO.re 120 (.int .i64 ((e.n + k : Nat) : Int)) rfl (by congr 1) ?_
    refine w ?_
    refine VO.pure rfl rfl (PureAt.ldRc tab_ok rfl rfl hw' hk2) rfl ?_
    refine w ?_
    (refine VC.condFe rfl rfl (by simp) ?_)
    refine w ?_
    exact VE.round (k + 1) hkt (by omega) ⟨rfl, rfl, rfl, rfl, rfl, trivial⟩ Ent.refl
   ·
    refine w ?_
    exact VE.round (a + 1) hlt (by omega) ⟨rfl, rfl, rfl, trivial⟩ Ent.refl
 ·
  refine w ?_
  refine VE.done1 rfl ?_ ?_
  · rfl
  · exact hend
end Pt
end Go.Proofs.YtdbhpikmagkopaaGreat
/-! Text Qc. -/
namespace Go.Proofs.YtdbhpikmagkopaaGreat
open Go.RowKit Go.Sl
attribute [local irreducible] Own
variable {W : World} {R : List SProp}
namespace Tx
def mk (z : Int) : List Value := [.int .u64 (IntKind.u64.wrap z), .slice none 0 0]
abbrev val (z : Int) : Value := .int .u64 (IntKind.u64.wrap z)
def marks (a m : Nat) : List Value := (List.range m).flatMap fun (k : Nat) => mk ((a : Int) * 1000 + (k : Int) + 7000000)
def marks2 (a m : Nat) : List Value := (List.range m).flatMap fun (k : Nat) => mk ((-1 - (a : Int)) * 1000 + (k : Int) + 7000000)
theorem marks_length (a m : Nat) : (marks a m).length = m * 2 := by
 have := flat_length (w := 2) (g := fun (k : Nat) => mk ((a : Int) * 1000 + (k : Int) + 7000000)) (List.range m) (fun _ _ => rfl); rwa [List.length_range] at this
theorem marks2_length (a m : Nat) : (marks2 a m).length = m * 2 := by
 have := flat_length (w := 2) (g := fun (k : Nat) => mk ((-1 - (a : Int)) * 1000 + (k : Int) + 7000000)) (List.range m) (fun _ _ => rfl); rwa [List.length_range] at this
theorem marks_succ (a m : Nat) : marks a (m + 1) = marks a m ++ mk ((a : Int) * 1000 + (m : Int) + 7000000) := by unfold marks; rw [List.range_succ, List.flatMap_append]; simp
theorem marks2_succ (a m : Nat) : marks2 a (m + 1) = marks2 a m ++ mk ((-1 - (a : Int)) * 1000 + (m : Int) + 7000000) := by unfold marks2; rw [List.range_succ, List.flatMap_append]; simp
theorem mk_one (z : Int) : ∀ u ∈ mk z, u.oneCell' = true := by simp [mk, Value.oneCell']
theorem marks_one (a m : Nat) : ∀ u ∈ marks a m, u.oneCell' = true := by
 intro u hu; obtain ⟨k, _, h⟩ := List.mem_flatMap.1 hu; exact mk_one _ u h
theorem marks2_one (a m : Nat) : ∀ u ∈ marks2 a m, u.oneCell' = true := by
 intro u hu; obtain ⟨k, _, h⟩ := List.mem_flatMap.1 hu; exact mk_one _ u h
theorem marks_get (a m k : Nat) (h : k < m) : (marks a m)[k * 2 + 0]? = some (val ((a : Int) * 1000 + (k : Int) + 7000000)) := by
 have := flat_at (w := 2) (g := fun (k : Nat) => mk ((a : Int) * 1000 + (k : Int) + 7000000)) (List.range m) k 0 (by rw [List.length_range]; exact h) (fun _ _ => rfl) (by decide)
 rw [List.getElem_range] at this
 exact this
theorem marks2_get (a m k : Nat) (h : k < m) : (marks2 a m)[k * 2 + 0]? = some (val ((-1 - (a : Int)) * 1000 + (k : Int) + 7000000)) := by
 have := flat_at (w := 2) (g := fun (k : Nat) => mk ((-1 - (a : Int)) * 1000 + (k : Int) + 7000000)) (List.range m) k 0 (by rw [List.length_range]; exact h) (fun _ _ => rfl) (by decide)
 rw [List.getElem_range] at this
 exact this
def res (e : ListN) : SProp := Own 87 2 (.slice e.ao e.n e.cap) e.n e.xs
def mkd (E : List ListN) (a : Nat) : List ListN := E.mapIdx fun j e => if j < a then ⟨e.ao, e.cap, e.n, marks j e.n⟩ else e
theorem mkd_length (E : List ListN) (a : Nat) : (mkd E a).length = E.length := by simp [mkd]
theorem mkd_get (E : List ListN) (a j : Nat) (h : j < E.length) : (mkd E a)[j]'(by rw [mkd_length]; exact h) = if j < a then ⟨E[j].ao, E[j].cap, E[j].n, marks j E[j].n⟩ else E[j] := by simp [mkd]
theorem mkd_zero (E : List ListN) : mkd E 0 = E := by
 unfold mkd; apply List.ext_getElem (by simp); intro i h1 h2; simp
theorem mkd_set (E : List ListN) (a : Nat) (h : a < E.length) : (mkd E a).set a ⟨E[a].ao, E[a].cap, E[a].n, marks a E[a].n⟩ = mkd E (a + 1) := by
 apply List.ext_getElem (by simp [mkd_length])
 intro j h1 h2
 have hj : j < E.length := by simpa [mkd_length] using h2
 rw [List.getElem_set, mkd_get E (a + 1) j hj]
 split
 · rename_i q; subst q; rw [if_pos (Nat.lt_succ_self _)]
 ·
  rename_i q
  rw [mkd_get E a j hj]
  by_cases q2 : j < a
  · rw [if_pos q2, if_pos (by omega)]
  · rw [if_neg q2, if_neg (by omega)]
def twin (j : Nat) (e : ListN) (g : Option Addr × Nat) (m : Nat) : SProp := TwinR 87 2 e.ao e.cap e.n e.xs g.1 g.2 (e.n + m) (e.xs ++ marks2 j m)
def grs (M : List ListN) (Gs : List (Option Addr × Nat)) : List SProp := M.mapIdx fun j e => match Gs[j]? with
  | some g => twin j e g 16
  | none => res e
theorem grs_length (M : List ListN) (Gs : List (Option Addr × Nat)) : (grs M Gs).length = M.length := by simp [grs]
theorem grs_nil (M : List ListN) : grs M [] = M.map res := by
 unfold grs; apply List.ext_getElem (by simp); intro i h1 h2; simp
theorem grs_get (M : List ListN) (Gs : List (Option Addr × Nat)) (j : Nat) (h : j < M.length) : (grs M Gs)[j]'(by rw [grs_length]; exact h) = match Gs[j]? with
 | some g => twin j M[j] g 16
 | none => res M[j] := by simp [grs]
theorem grs_set (M : List ListN) (Gs : List (Option Addr × Nat)) (g : Option Addr × Nat) (h : Gs.length < M.length) : (grs M Gs).set Gs.length (twin Gs.length M[Gs.length] g 16) = grs M (Gs ++ [g]) := by
 apply List.ext_getElem (by simp [grs_length])
 intro j h1 h2
 have hj : j < M.length := by simpa [grs_length] using h2
 rw [List.getElem_set, grs_get M (Gs ++ [g]) j hj]
 split
 · rename_i q; subst q; rw [List.getElem?_append_right (Nat.le_refl _)]; simp
 ·
  rename_i q
  rw [grs_get M Gs j hj]
  by_cases q2 : j < Gs.length
  · rw [List.getElem?_append_left q2]
  · rw [List.getElem?_eq_none (by omega), List.getElem?_eq_none (by simp; omega)]
def longH (M : List ListN) (Gs : List (Option Addr × Nat)) : List Value := Gs.mapIdx fun j g => .slice g.1 (((M[j]?).map fun e => e.n).getD 0 + 16) g.2
theorem longH_length (M : List ListN) (Gs : List (Option Addr × Nat)) : (longH M Gs).length = Gs.length := by simp [longH]
theorem longH_snoc (M : List ListN) (Gs : List (Option Addr × Nat)) (g : Option Addr × Nat) (h : Gs.length < M.length) : longH M (Gs ++ [g]) = longH M Gs ++ [.slice g.1 (M[Gs.length].n + 16) g.2] := by
 unfold longH
 rw [List.mapIdx_append]
 congr 1
 simp [List.getElem?_eq_getElem h]
theorem longH_one (M : List ListN) (Gs : List (Option Addr × Nat)) : ∀ u ∈ longH M Gs, u.oneCell' = true := by
 intro u hu
 obtain ⟨j, hj, rfl⟩ := List.mem_iff_getElem.1 hu
 simp [longH, Value.oneCell']
theorem own_ok {lo : Option Addr} {lc : Nat} {E : List ListN} (hn : E.length <= 1000000000) (hl : ∀ e ∈ E, e.n <= 1000000000) :
  Does1 W Tryz.prog 76 [.slice lo E.length lc] (Own 81 1 (.slice lo E.length lc) E.length (E.map ListN.hdr) :: (E.map res ++ R)) (.bool true) R := by
 (refine Does.enter Tryz.func76 Tryz.ntmps76 rfl rfl ?_)
 refine VC.know (p := lo = none -> E.length = 0) (fun w hw => hw.ownNone (.head _)) ?_
 intro hln
 refine w ?_
 refine VC.loop (α := Nat) (fun a => a <= E.length) (fun a => Own 81 1 (.slice lo E.length lc) E.length (E.map ListN.hdr) :: ((mkd E a).map res ++ R)) (fun a => [(0, .slice lo E.length lc), (3, .int .i64 a)]) (fun a => E.length - a) rfl 0 (Nat.zero_le _) (by rw [mkd_zero]; exact Ent.refl) ⟨rfl, rfl, trivial⟩ ?_
 intro a ha
 refine w ?_
 refine zk ?_ ?_ <;> intro hc
 ·
  have hlt : a < E.length := by have := of_decide_eq_true hc; omega
  obtain ⟨lb, rfl⟩ : ∃ lb, lo = some lb := by cases lo with | none => have := hln rfl; omega | some lb => exact ⟨lb, rfl⟩
  have hla := hl _ (List.getElem_mem hlt)
  have hget : (E.map ListN.hdr)[a]? = some (.slice E[a].ao E[a].n E[a].cap) := by rw [List.getElem?_map, List.getElem?_eq_getElem hlt]; rfl
  have hmlen : ((mkd E a).map res).length = E.length := by rw [List.length_map, mkd_length]
  have hself : (mkd E a).map res = ((mkd E a).map res).set a (Own 87 2 (.slice E[a].ao E[a].n E[a].cap) E[a].n (marks a 0 ++ E[a].xs.drop (0 * 2))) := by
   have e1 : ((mkd E a).map res)[a]'(by rw [hmlen]; exact hlt) = Own 87 2 (.slice E[a].ao E[a].n E[a].cap) E[a].n (marks a 0 ++ E[a].xs.drop (0 * 2)) := by
    rw [List.getElem_map, mkd_get E a a hlt, if_neg (Nat.lt_irrefl _)]; rfl
   rw [<- e1, List.set_getElem_self]
  have hnext : ((mkd E a).map res).set a (Own 87 2 (.slice E[a].ao E[a].n E[a].cap) E[a].n (marks a E[a].n)) = (mkd E (a + 1)).map res := by
   rw [<- mkd_set E a hlt, List.map_set]; rfl
  generalize hL : (mkd E a).map res = L at *
  refine w ?_
  refine VC.loop (α := Nat) (fun k => k <= E[a].n) (fun k => Own 81 1 (.slice (some lb) E.length lc) E.length (E.map ListN.hdr) :: (L.set a (Own 87 2 (.slice E[a].ao E[a].n E[a].cap) E[a].n (marks a k ++ E[a].xs.drop (k * 2))) ++ R))
   (fun k => [(0, .slice (some lb) E.length lc), (3, .int .i64 a), (4, .int .i64 k)]) (fun k => E[a].n - k) rfl 0 (Nat.zero_le _) (by rw [<- hself]; exact Ent.refl) ⟨rfl, rfl, rfl, trivial⟩ ?_
  intro k hk
  refine VC.know (p := E[a].ao = none -> E[a].n = 0) (fun w hw => Holds.ownNone hw (.tail _ (mem_set L a _ (by omega)))) ?_
  intro han
  refine VC.know (fun w hw => Holds.ownLen hw (.tail _ (mem_set L a _ (by omega)))) ?_
  intro hlen
  refine w ?_
  refine VO.pure rfl rfl (PureAt.ldR tab_ok rfl rfl (Rds.own (ListN.hdrs_one E) (.head _) (by rw [List.length_map, Nat.mul_one]) (fun h => by cases h)) hget) rfl ?_
  refine w ?_
  refine zk ?_ ?_ <;> intro hc
  ·
   have hkt : k < E[a].n := by have := of_decide_eq_true hc; omega
   obtain ⟨xa, hxa⟩ : ∃ xa, E[a].ao = some xa := by cases h : E[a].ao with | none => have := han h; omega | some xa => exact ⟨xa, rfl⟩
   rw [hxa] at hget ⊢
   refine w ?_
   refine VO.pure rfl rfl (PureAt.ldR tab_ok rfl rfl (Rds.own (ListN.hdrs_one E) (.head _) (by rw [List.length_map, Nat.mul_one]) (fun h => by cases h)) hget) rfl ?_
   refine w ?_
   (apply VO.pure rfl rfl; apply PureAt.build sb_87 rfl; (simp [buildX, setL, Value.cells]; rfl); rfl)
   refine w ?_
   refine zq ?_
   refine OpV.stOA (vs := mk ((a : Int) * 1000 + (k : Int) + 7000000)) tab_ok rfl rfl rfl rfl (mk_one _) (.tail (hole_set L a _ (by omega))) (by rw [hlen]; omega) ?_
   have hset : (marks a k ++ E[a].xs.drop (k * 2)).take (k * 2) ++ mk ((a : Int) * 1000 + (k : Int) + 7000000) ++ (marks a k ++ E[a].xs.drop (k * 2)).drop (k * 2 + 2) = marks a (k + 1) ++ E[a].xs.drop ((k + 1) * 2) := by
    rw [List.take_left' (marks_length a k), marks_succ, List.drop_append, marks_length, List.drop_of_length_le (by rw [marks_length]; omega), List.nil_append, List.drop_drop]
    congr 2
    omega
   rw [hset]
   refine w ?_
   exact VE.round (k + 1) hkt (by omega) ⟨rfl, rfl, rfl, trivial⟩ Ent.refl
  ·
   have hge : k = E[a].n := by have := of_decide_eq_false hc; omega
   rw [List.length_append, marks_length] at hlen
   have hz : E[a].xs.drop (k * 2) = [] := List.eq_nil_of_length_eq_zero (by rw [hge] at hlen ⊢; omega)
   rw [hz, List.append_nil, hge, hnext]
   refine w ?_
   exact VE.round (a + 1) hlt (by omega) ⟨rfl, rfl, trivial⟩ Ent.refl
 have hge : a = E.length := by have := of_decide_eq_false hc; omega
 subst hge
 clear hc ha
 -- every list is marked
 obtain ⟨M, hM⟩ : ∃ M, M = mkd E E.length := ⟨_, rfl⟩
 have hML : M.length = E.length := by rw [hM]; exact mkd_length _ _
 have hMg : ∀ j (h : j < M.length), M[j] = ⟨(E[j]'(by omega)).ao, (E[j]'(by omega)).cap, (E[j]'(by omega)).n, marks j (E[j]'(by omega)).n⟩ := fun j h => by
  subst hM; rw [mkd_get E _ j (by omega), if_pos (by omega)]
 have hMh : E.map ListN.hdr = M.map ListN.hdr := by
  apply List.ext_getElem (by simp [hML])
  intro j h1 h2
  have hj : j < M.length := by simpa using h2
  rw [List.getElem_map, List.getElem_map, hMg j hj]
 have hMl : ∀ j (h : j < M.length), M[j].n <= 1000000000 /\ M[j].xs = marks j M[j].n := fun j h => by
  rw [hMg j h]; exact ⟨hl (E[j]'(by omega)) (List.getElem_mem _), rfl⟩
 refine w ?_
 rw [<- hM, hMh, <- hML]
 rw [<- hML] at hln hn
 clear hMh hMg hl hML hM E
 refine VC.ent (H' := Own 81 1 (.slice none 0 0) 0 (longH M []) :: Own 81 1 (.slice lo M.length lc) M.length (M.map ListN.hdr) :: (grs M [] ++ R)) (fun w hw => by rw [grs_nil]; exact hw.ownNil _ _) ?_
 refine VC.loop (α := List (Option Addr × Nat) × Option Addr × Nat) (fun g => g.1.length <= M.length)
  (fun g => Own 81 1 (.slice g.2.1 g.1.length g.2.2) g.1.length (longH M g.1) :: Own 81 1 (.slice lo M.length lc) M.length (M.map ListN.hdr) :: (grs M g.1 ++ R))
  (fun g => [(0, .slice lo M.length lc), (5, .slice g.2.1 g.1.length g.2.2), (6, .int .i64 g.1.length)]) (fun g => M.length - g.1.length) rfl ([], none, 0) (Nat.zero_le _) Ent.refl ⟨rfl, rfl, rfl, trivial⟩ ?_
 rintro ⟨Gs, go, gc⟩ ha
 dsimp only at ha ⊢
 refine w ?_
 refine zk ?_ ?_ <;> intro hc
 ·
  have hlt : Gs.length < M.length := by have := of_decide_eq_true hc; omega
  obtain ⟨lb, rfl⟩ : ∃ lb, lo = some lb := by cases lo with | none => have := hln rfl; omega | some lb => exact ⟨lb, rfl⟩
  obtain ⟨hla, hxs⟩ := hMl Gs.length hlt
  have hget : (M.map ListN.hdr)[Gs.length]? = some (.slice M[Gs.length].ao M[Gs.length].n M[Gs.length].cap) := by rw [List.getElem?_map, List.getElem?_eq_getElem hlt]; rfl
  have hself : grs M Gs = (grs M Gs).set Gs.length (res M[Gs.length]) := by
   have e1 : (grs M Gs)[Gs.length]'(by rw [grs_length]; exact hlt) = res M[Gs.length] := by
    rw [grs_get M Gs _ hlt, List.getElem?_eq_none (Nat.le_refl _)]
   rw [<- e1, List.set_getElem_self]
  have hnext (g : Option Addr × Nat) := grs_set M Gs g hlt
  have hlnext (g : Option Addr × Nat) := longH_snoc M Gs g hlt
  have hgl := grs_length M Gs
  generalize hL : grs M Gs = L at *
  refine w ?_
  refine VO.pure rfl rfl (PureAt.ldR tab_ok rfl rfl (Rds.own (ListN.hdrs_one M) (.tail _ (.head _)) (by rw [List.length_map, Nat.mul_one]) (fun h => by cases h)) hget) rfl ?_
  refine w ?_
  refine VC.loop (α := Nat × Option Addr × Nat) (fun g => g.1 <= 16)
   (fun g => Own 81 1 (.slice go Gs.length gc) Gs.length (longH M Gs) :: Own 81 1 (.slice (some lb) M.length lc) M.length (M.map ListN.hdr) :: (L.set Gs.length (twin Gs.length M[Gs.length] g.2 g.1) ++ R))
   (fun g => [(0, .slice (some lb) M.length lc), (5, .slice go Gs.length gc), (6, .int .i64 Gs.length), (7, .slice g.2.1 (M[Gs.length].n + g.1) g.2.2), (8, .int .i64 g.1)]) (fun g => 16 - g.1) rfl (0, M[Gs.length].ao, M[Gs.length].cap) (Nat.zero_le _)
   (by
    rw [hself, List.set_set]
    refine Ent.hole (Hole.tail (Hole.tail (hole_set L Gs.length _ (by omega)))) (fun R w hw => ?_)
    have := TwinR.start hw
    simpa [twin, marks2] using this) ⟨rfl, rfl, rfl, rfl, rfl, trivial⟩ ?_
  rintro ⟨k, xo, xc⟩ hk
  dsimp only at hk ⊢
  refine w ?_
  refine zk ?_ ?_ <;> intro hc
  ·
   have hkt : k < 16 := by have := of_decide_eq_true hc; omega
   refine w ?_
   (apply VO.pure rfl rfl; apply PureAt.build sb_87 rfl; (simp [buildX, setL, Value.cells]; rfl); rfl)
   refine zq ?_
   refine OpV.buildSlice (cs := mk ((-1 - (Gs.length : Int)) * 1000 + (k : Int) + 7000000)) st_81 rfl rfl (by simp [Value.cells]) (by simp [Value.cells, mk]) (by decide) rfl ?_
   intro nb
   refine zq ?_
   refine OpV.appendT (news := mk ((-1 - (Gs.length : Int)) * 1000 + (k : Int) + 7000000)) (m := 1) st_81 rfl rfl (.tail (.tail (.tail (hole_set L Gs.length _ (by omega))))) (fun w hw => (Sees.row (ys := []) (mk_one _) rfl (by simpa using hw) (.head _)).src st_81.und) ?_ ?_ rfl ?_
   · simp only [maxLen]; omega
   · omega
   intro xo' xc'
   refine w ?_
   refine VE.round (k + 1, xo', xc') hkt (by simp only; omega) ⟨rfl, rfl, rfl, rfl, rfl, trivial⟩ ?_
   unfold twin
   rw [marks2_succ, <- List.append_assoc]
   exact Reord.ent (Reord.drop .refl)
  ·
   have hge : k = 16 := by have := of_decide_eq_false hc; omega
   subst hge
   rw [hnext]
   refine w ?_
   (refine zq ?_; refine OpV.buildSlice1 st_54 rfl rfl (by first | (simp; done) | simp [Value.oneCell']) (by decide) rfl ?_; intro nb)
   (refine zq ?_; refine OpV.appendRow st_54 rfl rfl zh zm rfl (by first | (simp; done) | simp [Value.oneCell']) ?_ ?_ rfl ?_)
   · simp only [maxLen]; omega
   · omega
   intro go' gc'
   rw [<- hlnext (xo, xc)]
   refine w ?_
   refine VE.round (Gs ++ [(xo, xc)], go', gc') (by rw [List.length_append]; exact hlt) (by simp only [List.length_append, List.length_singleton]; omega) ⟨rfl, asV rfl (by rw [List.length_append]; rfl), asV rfl (by rw [List.length_append]; rfl), trivial⟩ ?_
   dsimp only
   rw [List.length_append]
   exact Ent.re
 have hge : Gs.length = M.length := by have := of_decide_eq_false hc; omega
 clear hc ha
 refine w ?_
 refine VC.know (p := go = none -> Gs.length = 0) (fun w hw => Holds.ownNone hw (.head _)) ?_
 intro hgn
 generalize hH : (Own 81 1 (.slice go Gs.length gc) Gs.length (longH M Gs) :: Own 81 1 (.slice lo M.length lc) M.length (M.map ListN.hdr) :: (grs M Gs ++ R)) = HH
 have hr1 : Rds W HH 1 lo M.length (M.map ListN.hdr) := by subst hH; exact Rds.own (ListN.hdrs_one M) (.tail _ (.head _)) (by rw [List.length_map, Nat.mul_one]) hln
 have hr2 : Rds W HH 1 go Gs.length (longH M Gs) := by subst hH; exact Rds.own (longH_one M Gs) (.head _) (by rw [longH_length, Nat.mul_one]) hgn
 have hend : Ent W HH R := by
  subst hH
  exact Ent.drop (Ent.drop (fun w hw => by
   have : ∀ (X : List SProp) w, Holds W (X ++ R) w -> Holds W R w := fun X => by
    induction X with
    | nil => exact fun w h => h
    | cons a r ih => exact fun w h => ih w h.tail
   exact this _ w hw))
 have htw : ∀ a (h : a < M.length), twin a M[a] (Gs[a]'(by omega)) 16 ∈ HH := fun a h => by
  subst hH
  refine .tail _ (.tail _ (List.mem_append_left _ (List.mem_iff_getElem.2 ⟨a, by rw [grs_length]; exact h, ?_⟩)))
  rw [grs_get M Gs a h, List.getElem?_eq_getElem (by omega)]
 have hlg : ∀ a (h : a < M.length), (longH M Gs)[a]? = some (.slice (Gs[a]'(by omega)).1 (M[a].n + 16) (Gs[a]'(by omega)).2) := fun a h => by
  unfold longH
  rw [List.getElem?_mapIdx, List.getElem?_eq_getElem h, List.getElem?_eq_getElem (l := Gs) (by omega)]; rfl
 clear hH
 refine VC.loop (α := Nat) (fun a => a <= M.length) (fun _ => HH)
  (fun a => [(0, .slice lo M.length lc), (5, .slice go Gs.length gc), (9, .int .i64 a)]) (fun a => M.length - a) rfl 0 (Nat.zero_le _) Ent.refl ⟨rfl, rfl, rfl, trivial⟩ ?_
 intro a ha
 refine w ?_
 refine zk ?_ ?_ <;> intro hc
 ·
  have hlt : a < M.length := by have := of_decide_eq_true hc; omega
  obtain ⟨lb, rfl⟩ : ∃ lb, lo = some lb := by cases lo with | none => have := hln rfl; omega | some lb => exact ⟨lb, rfl⟩
  obtain ⟨gb, rfl⟩ : ∃ gb, go = some gb := by cases go with | none => have := hgn rfl; omega | some gb => exact ⟨gb, rfl⟩
  obtain ⟨hla, hxs⟩ := hMl a hlt
  have hget : (M.map ListN.hdr)[a]? = some (.slice M[a].ao M[a].n M[a].cap) := by rw [List.getElem?_map, List.getElem?_eq_getElem hlt]; rfl
  have htw := htw a hlt
  have hlg := hlg a hlt
  have hgl : a < Gs.length := by omega
  generalize Gs[a] = g at *
  generalize M[a] = e at *
  have hel : e.xs.length = e.n * 2 := by rw [hxs, marks_length]
  have h1 : ∀ u ∈ e.xs, u.oneCell' = true := by rw [hxs]; exact marks_one _ _
  have h2 : ∀ u ∈ e.xs ++ marks2 a 16, u.oneCell' = true := fun u hu => by
   rcases List.mem_append.1 hu with q | q
   · exact h1 u q
   · exact marks2_one _ _ u q
  refine VC.know (fun w hw => TwinR.none hw htw) ?_
  rintro ⟨hon, hnn⟩
  have ho : Rds W HH 2 e.ao e.n e.xs := TwinR.rdsOld htw h1 hel hon
  have hw' : Rds W HH 2 g.1 (e.n + 16) (e.xs ++ marks2 a 16) := TwinR.rdsNew htw h2 (by rw [List.length_append, marks2_length, hel]; omega) hnn
  obtain ⟨gx, hgx⟩ : ∃ gx, g.1 = some gx := by cases h : g.1 with | none => have := hnn h; omega | some gx => exact ⟨gx, rfl⟩
  rw [hgx] at hlg hw'
  refine w ?_
  refine VO.pure rfl rfl (PureAt.ldR tab_ok rfl rfl hr1 hget) rfl ?_
  refine w ?_
  refine VC.loop (α := Nat) (fun k => k <= e.n) (fun _ => HH)
   (fun k => [(0, .slice (some lb) M.length lc), (5, .slice (some gb) Gs.length gc), (9, .int .i64 a), (10, .int .i64 e.n), (11, .int .i64 k)]) (fun k => e.n - k) rfl 0 (Nat.zero_le _) Ent.refl ⟨rfl, rfl, rfl, rfl, rfl, trivial⟩ ?_
  intro k hk
  refine w ?_
  refine zk ?_ ?_ <;> intro hc
  ·
   have hkt : k < e.n := by have := of_decide_eq_true hc; omega
   obtain ⟨ox, hox⟩ : ∃ ox, e.ao = some ox := by cases h : e.ao with | none => have := hon h; omega | some ox => exact ⟨ox, rfl⟩
   rw [hox] at hget ho
   have hk1 : e.xs[k * 2 + 0]? = some (val ((a : Int) * 1000 + (k : Int) + 7000000)) := by rw [hxs]; exact marks_get a _ k hkt
   have hk2 : (e.xs ++ marks2 a 16)[k * 2 + 0]? = some (val ((a : Int) * 1000 + (k : Int) + 7000000)) := by rw [List.getElem?_append_left (by omega)]; exact hk1
   refine w ?_
   refine VO.pure rfl rfl (PureAt.ldR tab_ok rfl rfl hr1 hget) rfl ?_
   refine w ?_
   refine VO.pure rfl rfl (PureAt.ldRc tab_ok rfl rfl ho hk1) rfl ?_
   obtain ⟨Z, hZ⟩ : ∃ Z, Z = (a : Int) * 1000 + (k : Int) + 7000000 := ⟨_, rfl⟩
   refine zv ?_
   refine zv ?_
   refine zv ?_
   refine zv ?_
   refine zv ?_
   refine VO.re 98 (.int .i64 Z) rfl (by rw [hZ]) ?_
   refine w ?_
   (first | refine VO.gF rfl rfl rfl (by simp [hZ]) ?_ | refine VD.gF rfl rfl rfl (by simp [hZ]) ?_)
   refine w ?_
   refine VO.pure rfl rfl (PureAt.ldR tab_ok rfl rfl hr2 hlg) rfl ?_
   refine w ?_
   refine VO.pure rfl rfl (PureAt.ldRc tab_ok rfl rfl hw' hk2) rfl ?_
   refine zv ?_
   refine zv ?_
   refine zv ?_
   refine zv ?_
   refine zv ?_
   refine VO.re 114 (.int .i64 Z) rfl (by rw [hZ]) ?_
   refine w ?_
   (refine VC.condFe rfl rfl (by simp [hZ]) ?_)
   refine w ?_
   exact VE.round (k + 1) hkt (by omega) ⟨rfl, rfl, rfl, rfl, rfl, trivial⟩ Ent.refl
  ·
   refine w ?_
   refine VC.loop (α := Nat) (fun k => k <= 16) (fun _ => HH)
    (fun k => [(0, .slice (some lb) M.length lc), (5, .slice (some gb) Gs.length gc), (9, .int .i64 a), (10, .int .i64 e.n), (12, .int .i64 k)]) (fun k => 16 - k) rfl 0 (Nat.zero_le _) Ent.refl ⟨rfl, rfl, rfl, rfl, rfl, trivial⟩ ?_
   intro k hk
   refine w ?_
   refine zk ?_ ?_ <;> intro hc
   ·
    have hkt : k < 16 := by have := of_decide_eq_true hc; omega
    have hk2 : (e.xs ++ marks2 a 16)[(e.n + k) * 2 + 0]? = some (val ((-1 - (a : Int)) * 1000 + (k : Int) + 7000000)) := by
     rw [List.getElem?_append_right (by omega), hel, show (e.n + k) * 2 + 0 - e.n * 2 = k * 2 + 0 by omega]; exact marks2_get a 16 k hkt
    refine w ?_
    refine VO.pure rfl rfl (PureAt.ldR tab_ok rfl rfl hr2 hlg) rfl ?_
    refine zv ?_
    refine zv ?_
    refine zv ?_
    refine VO.re 128 (.int .i64 ((e.n + k : Nat) : Int)) rfl (by congr 1) ?_
    refine w ?_
    refine VO.pure rfl rfl (PureAt.ldRc tab_ok rfl rfl hw' hk2) rfl ?_
    obtain ⟨Z, hZ⟩ : ∃ Z, Z = (-1 - (a : Int)) * 1000 + (k : Int) + 7000000 := ⟨_, rfl⟩
    refine zv ?_
    refine zv ?_
    refine zv ?_
    refine zv ?_
    refine zv ?_
    refine zv ?_
    refine VO.re 137 (.int .i64 Z) rfl (by rw [hZ]) ?_
    refine w ?_
    (refine VC.condFe rfl rfl (by simp [hZ]) ?_)
    refine w ?_
    exact VE.round (k + 1) hkt (by omega) ⟨rfl, rfl, rfl, rfl, rfl, trivial⟩ Ent.refl
   ·
    refine w ?_
    exact VE.round (a + 1) hlt (by omega) ⟨rfl, rfl, rfl, trivial⟩ Ent.refl
 ·
  refine w ?_
  refine VE.done1 rfl ?_ ?_
  · rfl
  · exact hend
end Tx
end Go.Proofs.YtdbhpikmagkopaaGreat
