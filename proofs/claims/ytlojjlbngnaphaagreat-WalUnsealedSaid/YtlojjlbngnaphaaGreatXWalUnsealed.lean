import Derived.Test.YtlojjlbngnaphaaGreatM8
/-! Text Sl, more of it. -/
set_option maxRecDepth 8000
set_option linter.unusedVariables false
set_option linter.unusedSimpArgs false
set_option linter.unusedSectionVars false
namespace Go.Sl
open Go.RowKit

section
variable {W w : World} {H H' R L : List SProp} {P P' Q : SProp}

end
end Go.Sl

set_option maxRecDepth 8000
set_option linter.unusedVariables false
set_option linter.unusedSimpArgs false
set_option linter.unusedSectionVars false
namespace Go.Sl
open Go.RowKit

section
variable {P : Program} {W w : World} {H H' : List SProp} {ops : Array Oper} {rest : List Oper} {a : Act} {Q : Exit → Act → World → Prop} {K : Act → World → Prop}

end
end Go.Sl

set_option maxRecDepth 8000
set_option linter.unusedVariables false
set_option linter.unusedSimpArgs false
set_option linter.unusedSectionVars false
namespace Go.Sl
open Go.RowKit

section
variable {W : World} {P : Program} {n : Nat} {c : Code} {Q : Exit → Act → World → Prop} {H H' L S : List SProp} {f F : Fr}

variable {N : List SProp → Fr → Prop} {dst : Option Tmp} {d : Nat} {ty_ : TypeId} {pos : String} {after : Array Edge} {guard : Option (Nat × Bool)}

end
section
variable {W : World} {P : Program} {n : Nat} {c : Code} {Q : Exit → Act → World → Prop} {H H' L S : List SProp} {f F : Fr} {C : SProp → List SProp}
variable {N : List SProp → Fr → Prop} {dst : Option Tmp} {d : Nat} {ty_ : TypeId} {pos : String} {after : Array Edge} {guard : Option (Nat × Bool)}

theorem VE.doneN {fn : Func} {β : Type} {A : β → Prop} {r : β → Value} {G : β → List SProp} {v : Value} (x : β) (hr : resOf f fn.results.toList = some v) (hA : A x) (hv : v = r x) (hH : Ent W H (G x)) : VE W n (bodyPost P fn (Post W A r G)) .normal H f :=
  VE.result (.inr rfl) hr fun w hw => ⟨x, hA, by rw [hv], hH w hw⟩

end
end Go.Sl

/-! Text Tab, more of it. -/
namespace Go.Proofs.YtlojjlbngnaphaaGreat
open Go.Sl
theorem st_22 : SliceT Tryz.prog 22 37 (.agg #[.int .i64 0, .int .i64 0, .slice none 0 0, .slice none 0 0]) 4 64 := ⟨by kernel_rfl, by kernel_rfl, rfl, by simp [Value.cells, Value.oneCell']⟩
theorem st_47 : SliceT Tryz.prog 47 34 (.slice none 0 0) 1 24 := ⟨by kernel_rfl, by kernel_rfl, rfl, by simp [Value.cells, Value.oneCell']⟩
theorem sb_37 : StructT Tryz.prog 37 [.int .i64 0, .int .i64 0, .slice none 0 0, .slice none 0 0] [(0, 1), (1, 1), (2, 1), (3, 1)] := ⟨fun w => by simp, _, Tryz.underlying37, fun w => by simp⟩
theorem sb_49 : StructT Tryz.prog 49 [.slice none 0 0, .int .i64 0, .slice none 0 0] [(0, 1), (1, 1), (2, 1)] := ⟨fun w => by simp, _, Tryz.underlying49, fun w => by simp⟩
end Go.Proofs.YtlojjlbngnaphaaGreat

/-! Text Nm, more of it. -/
set_option maxRecDepth 8000
set_option linter.unusedVariables false
set_option linter.unusedSimpArgs false
set_option linter.unusedSectionVars false
namespace Go.Proofs.YtlojjlbngnaphaaGreat
open Go.RowKit Go.Sl
attribute [local irreducible] Own

set_option maxHeartbeats 1000000 in
theorem samepats_ok {W : World} {R : List SProp} {ao bo : Option Addr} {ac bc : Nat} {l m : List PatE} (hl : RdPats W R ao l) (hm : RdPats W R bo m) (hn : l.length ≤ 140737488351232) (hd : ∀ p ∈ l, p.d.data.length ≤ maxLen) :
    Does1 W Tryz.prog 62 [.slice ao l.length ac, .slice bo m.length bc] R (.bool (decide (l.map PatE.D = m.map PatE.D))) R := by
  (refine Does.enter Tryz.func62 Tryz.ntmps62 rfl rfl ?_)
  (refine w ?_; repeat ((first | refine VO.step rfl rfl ?_ | refine VD.end rfl rfl rfl ?_ | refine VD.mid rfl rfl rfl ?_); refine OpV.box rfl rfl rfl ?_; intro _; refine w ?_))
  (refine VC.cond rfl rfl ?_ ?_ <;> intro hc)
  · have h : ¬ l.length = m.length := by have : ¬ (l.length : Int) = m.length := (by simpa using hc); omega
    (refine w ?_; repeat ((first | refine VO.step rfl rfl ?_ | refine VD.end rfl rfl rfl ?_ | refine VD.mid rfl rfl rfl ?_); refine OpV.box rfl rfl rfl ?_; intro _; refine w ?_))
    (refine VE.done1 rfl ?_ ?_)
    · congr 1; symm; exact decide_eq_false (fun e => h (by have := congrArg List.length e; rwa [List.length_map, List.length_map] at this))
    · exact Ent.refl
  have h : l.length = m.length := by have : (l.length : Int) = m.length := (by simpa using hc); omega
  (refine w ?_; repeat ((first | refine VO.step rfl rfl ?_ | refine VD.end rfl rfl rfl ?_ | refine VD.mid rfl rfl rfl ?_); refine OpV.box rfl rfl rfl ?_; intro _; refine w ?_))
  refine VC.loop (α := Nat) (fun i => i ≤ l.length ∧ (l.map PatE.D).take i = (m.map PatE.D).take i) (fun _ => R) (fun i => [(0, .slice ao l.length ac), (1, .slice bo m.length bc), (5, .int .i64 i)]) (fun i => l.length - i) rfl 0 ⟨Nat.zero_le _, by simp⟩ Ent.refl ⟨rfl, rfl, rfl, trivial⟩ ?_
  rintro i ⟨hi, he⟩
  (refine w ?_; repeat ((first | refine VO.step rfl rfl ?_ | refine VD.end rfl rfl rfl ?_ | refine VD.mid rfl rfl rfl ?_); refine OpV.box rfl rfl rfl ?_; intro _; refine w ?_))
  (refine VC.cond rfl rfl ?_ ?_ <;> intro hc)
  · have hlt : i < l.length := by have := of_decide_eq_true hc; omega
    have hlt2 : i < m.length := by omega
    obtain ⟨a, rfl⟩ := some_of_pos hl.rds.nil (by omega)
    obtain ⟨b, rfl⟩ := some_of_pos hm.rds.nil (by omega)
    have hno : l[i].D ≠ m[i].D → Value.bool false = Value.bool (decide (l.map PatE.D = m.map PatE.D)) := fun hx => by
      congr 1; symm
      refine decide_eq_false (fun e => hx ?_)
      have h1 := congrArg (fun z => z[i]?) e
      simpa [List.getElem?_map, List.getElem?_eq_getElem hlt, List.getElem?_eq_getElem hlt2] using h1
    (refine w ?_; repeat ((first | refine VO.step rfl rfl ?_ | refine VD.end rfl rfl rfl ?_ | refine VD.mid rfl rfl rfl ?_); refine OpV.box rfl rfl rfl ?_; intro _; refine w ?_))
    ((refine VC.quiet rfl (by kernel_rfl) (by kernel_rfl) ?_); (refine w ?_; repeat ((first | refine VO.step rfl rfl ?_ | refine VD.end rfl rfl rfl ?_ | refine VD.mid rfl rfl rfl ?_); refine OpV.box rfl rfl rfl ?_; intro _; refine w ?_)))
    (first | refine VO.pure rfl rfl (PureAt.ldRc tab_ok rfl rfl hl.rds (pat_get l i 0 hlt (by decide))) rfl ?_ | refine VD.take rfl rfl rfl (PureAt.ldRc tab_ok rfl rfl hl.rds (pat_get l i 0 hlt (by decide))) rfl ?_ | refine VQ.pure rfl rfl (PureAt.ldRc tab_ok rfl rfl hl.rds (pat_get l i 0 hlt (by decide))) rfl ?_ | refine VD.end rfl rfl rfl (OpV.pure (PureAt.ldRc tab_ok rfl rfl hl.rds (pat_get l i 0 hlt (by decide))) rfl ?_))
    (refine w ?_; repeat ((first | refine VO.step rfl rfl ?_ | refine VD.end rfl rfl rfl ?_ | refine VD.mid rfl rfl rfl ?_); refine OpV.box rfl rfl rfl ?_; intro _; refine w ?_))
    (first | refine VO.pure rfl rfl (PureAt.ldRc tab_ok rfl rfl hm.rds (pat_get m i 0 hlt2 (by decide))) rfl ?_ | refine VD.take rfl rfl rfl (PureAt.ldRc tab_ok rfl rfl hm.rds (pat_get m i 0 hlt2 (by decide))) rfl ?_ | refine VQ.pure rfl rfl (PureAt.ldRc tab_ok rfl rfl hm.rds (pat_get m i 0 hlt2 (by decide))) rfl ?_ | refine VD.end rfl rfl rfl (OpV.pure (PureAt.ldRc tab_ok rfl rfl hm.rds (pat_get m i 0 hlt2 (by decide))) rfl ?_))
    (refine w ?_; repeat ((first | refine VO.step rfl rfl ?_ | refine VD.end rfl rfl rfl ?_ | refine VD.mid rfl rfl rfl ?_); refine OpV.box rfl rfl rfl ?_; intro _; refine w ?_))
    (refine VQ.split rfl rfl rfl ?_ ?_ <;> intro hb)
    · (refine w ?_; repeat ((first | refine VO.step rfl rfl ?_ | refine VD.end rfl rfl rfl ?_ | refine VD.mid rfl rfl rfl ?_); refine OpV.box rfl rfl rfl ?_; intro _; refine w ?_))
      (refine VE.done1 rfl ?_ ?_)
      · exact hno (fun e => by have := congrArg PatD.member e; simp [PatE.D] at this; simp [this] at hb)
      · exact Ent.refl
    (refine w ?_; repeat ((first | refine VO.step rfl rfl ?_ | refine VD.end rfl rfl rfl ?_ | refine VD.mid rfl rfl rfl ?_); refine OpV.box rfl rfl rfl ?_; intro _; refine w ?_))
    (first | refine VO.pure rfl rfl (PureAt.ldRc tab_ok rfl rfl hl.rds (pat_get l i 1 hlt (by decide))) rfl ?_ | refine VD.take rfl rfl rfl (PureAt.ldRc tab_ok rfl rfl hl.rds (pat_get l i 1 hlt (by decide))) rfl ?_ | refine VQ.pure rfl rfl (PureAt.ldRc tab_ok rfl rfl hl.rds (pat_get l i 1 hlt (by decide))) rfl ?_ | refine VD.end rfl rfl rfl (OpV.pure (PureAt.ldRc tab_ok rfl rfl hl.rds (pat_get l i 1 hlt (by decide))) rfl ?_))
    (refine w ?_; repeat ((first | refine VO.step rfl rfl ?_ | refine VD.end rfl rfl rfl ?_ | refine VD.mid rfl rfl rfl ?_); refine OpV.box rfl rfl rfl ?_; intro _; refine w ?_))
    (first | refine VO.pure rfl rfl (PureAt.ldRc tab_ok rfl rfl hm.rds (pat_get m i 1 hlt2 (by decide))) rfl ?_ | refine VD.take rfl rfl rfl (PureAt.ldRc tab_ok rfl rfl hm.rds (pat_get m i 1 hlt2 (by decide))) rfl ?_ | refine VQ.pure rfl rfl (PureAt.ldRc tab_ok rfl rfl hm.rds (pat_get m i 1 hlt2 (by decide))) rfl ?_ | refine VD.end rfl rfl rfl (OpV.pure (PureAt.ldRc tab_ok rfl rfl hm.rds (pat_get m i 1 hlt2 (by decide))) rfl ?_))
    have hm0 : l[i].member = m[i].member := by simpa using hb
    clear hb
    (refine w ?_; repeat ((first | refine VO.step rfl rfl ?_ | refine VD.end rfl rfl rfl ?_ | refine VD.mid rfl rfl rfl ?_); refine OpV.box rfl rfl rfl ?_; intro _; refine w ?_))
    (refine VQ.split rfl rfl rfl ?_ ?_ <;> intro hb)
    · (refine w ?_; repeat ((first | refine VO.step rfl rfl ?_ | refine VD.end rfl rfl rfl ?_ | refine VD.mid rfl rfl rfl ?_); refine OpV.box rfl rfl rfl ?_; intro _; refine w ?_))
      (refine VE.done1 rfl ?_ ?_)
      · exact hno (fun e => by have := congrArg PatD.row e; simp [PatE.D] at this; simp [this] at hb)
      · exact Ent.refl
    have hr0 : l[i].row = m[i].row := by simpa using hb
    clear hb
    (refine w ?_; repeat ((first | refine VO.step rfl rfl ?_ | refine VD.end rfl rfl rfl ?_ | refine VD.mid rfl rfl rfl ?_); refine OpV.box rfl rfl rfl ?_; intro _; refine w ?_))
    (first | refine VO.pure rfl rfl (PureAt.ldRc tab_ok rfl rfl hl.rds (pat_get l i 2 hlt (by decide))) rfl ?_ | refine VD.take rfl rfl rfl (PureAt.ldRc tab_ok rfl rfl hl.rds (pat_get l i 2 hlt (by decide))) rfl ?_ | refine VQ.pure rfl rfl (PureAt.ldRc tab_ok rfl rfl hl.rds (pat_get l i 2 hlt (by decide))) rfl ?_ | refine VD.end rfl rfl rfl (OpV.pure (PureAt.ldRc tab_ok rfl rfl hl.rds (pat_get l i 2 hlt (by decide))) rfl ?_))
    (refine w ?_; repeat ((first | refine VO.step rfl rfl ?_ | refine VD.end rfl rfl rfl ?_ | refine VD.mid rfl rfl rfl ?_); refine OpV.box rfl rfl rfl ?_; intro _; refine w ?_))
    (first | refine VO.pure rfl rfl (PureAt.ldRc tab_ok rfl rfl hm.rds (pat_get m i 2 hlt2 (by decide))) rfl ?_ | refine VD.take rfl rfl rfl (PureAt.ldRc tab_ok rfl rfl hm.rds (pat_get m i 2 hlt2 (by decide))) rfl ?_ | refine VQ.pure rfl rfl (PureAt.ldRc tab_ok rfl rfl hm.rds (pat_get m i 2 hlt2 (by decide))) rfl ?_ | refine VD.end rfl rfl rfl (OpV.pure (PureAt.ldRc tab_ok rfl rfl hm.rds (pat_get m i 2 hlt2 (by decide))) rfl ?_))
    (refine w ?_; repeat ((first | refine VO.step rfl rfl ?_ | refine VD.end rfl rfl rfl ?_ | refine VD.mid rfl rfl rfl ?_); refine OpV.box rfl rfl rfl ?_; intro _; refine w ?_))
    (refine VQ.call rfl rfl rfl rfl (fun _ _ => by simp) (same_any (hl.each _ (List.getElem_mem hlt)) (hm.each _ (List.getElem_mem hlt2)) (hd _ (List.getElem_mem hlt))) Ent.refl Ent.refl rfl ?_)
    (refine w ?_; repeat ((first | refine VO.step rfl rfl ?_ | refine VD.end rfl rfl rfl ?_ | refine VD.mid rfl rfl rfl ?_); refine OpV.box rfl rfl rfl ?_; intro _; refine w ?_))
    (refine VC.cond rfl rfl ?_ ?_ <;> intro hc)
    · have hx : l[i].d.data ≠ m[i].d.data := by simpa using hc
      (refine w ?_; repeat ((first | refine VO.step rfl rfl ?_ | refine VD.end rfl rfl rfl ?_ | refine VD.mid rfl rfl rfl ?_); refine OpV.box rfl rfl rfl ?_; intro _; refine w ?_))
      (refine VE.done1 rfl ?_ ?_)
      · exact hno (fun e => hx (congrArg PatD.data e))
      · exact Ent.refl
    · have hx : l[i].d.data = m[i].d.data := by simpa using hc
      (refine w ?_; repeat ((first | refine VO.step rfl rfl ?_ | refine VD.end rfl rfl rfl ?_ | refine VD.mid rfl rfl rfl ?_); refine OpV.box rfl rfl rfl ?_; intro _; refine w ?_))
      refine VE.round (i + 1) ⟨hlt, ?_⟩ (by omega) ⟨rfl, rfl, asV rfl (by congr 1), trivial⟩ Ent.refl
      rw [List.take_succ_eq_append_getElem (by simpa using hlt), List.take_succ_eq_append_getElem (by simpa using hlt2), he, List.getElem_map, List.getElem_map]
      congr 2
      unfold PatE.D
      rw [hm0, hr0, hx]
  · have hge : i = l.length := by have := of_decide_eq_false hc; omega
    subst hge
    rw [List.take_of_length_le (by simp), List.take_of_length_le (by simp; omega)] at he
    (refine w ?_; repeat ((first | refine VO.step rfl rfl ?_ | refine VD.end rfl rfl rfl ?_ | refine VD.mid rfl rfl rfl ?_); refine OpV.box rfl rfl rfl ?_; intro _; refine w ?_))
    (refine VE.done1 rfl ?_ ?_)
    · rw [he]; simp
    · exact Ent.refl

end Go.Proofs.YtlojjlbngnaphaaGreat

/-! Text Uj, more of it. -/
set_option maxRecDepth 8000
set_option linter.unusedVariables false
set_option linter.unusedSimpArgs false
set_option linter.unusedSectionVars false
namespace Go.Proofs.YtlojjlbngnaphaaGreat
open Go.RowKit Go.Sl
attribute [local irreducible] Own

theorem opsC_one (l : List OpE) : ∀ u ∈ opsC l, u.oneCell' = true := by
  intro u hu; obtain ⟨p, _, h⟩ := List.mem_flatMap.1 hu; exact opE_one p u h
end Go.Proofs.YtlojjlbngnaphaaGreat

/-! Text Uq. -/
/- The journal's laws: a life: what was done: walked. -/
set_option maxRecDepth 8000
set_option linter.unusedVariables false
set_option linter.unusedSimpArgs false
set_option linter.unusedSectionVars false
namespace Go.Proofs.YtlojjlbngnaphaaGreat
open Go.RowKit Go.Sl
attribute [local irreducible] Own

structure LifeE where
  sealed : List PlsE
  sure : Nat
  logged : PlsE
abbrev nilPl : PlsE := ⟨none, 0, []⟩
abbrev lifeRow (p : Nat) (x : Option Addr × Nat) (L : LifeE) : SProp := Row p 49 [.slice x.1 L.sealed.length x.2, .int .i64 L.sure, L.logged.hdr]
abbrev lifeOwn (x : Option Addr × Nat) (l : List PlsE) : SProp := Sl.Own 34 1 (.slice x.1 l.length x.2) l.length (l.map PlsE.hdr)
abbrev OpE.pl (o : OpE) : PlsE := ⟨o.x.1, o.x.2, o.pats⟩
def LifeE.does (L : LifeE) (o : OpE) : LifeE :=
  if o.kind = 1 then ⟨L.sealed, L.sealed.length, o.pl⟩ else if o.kind = 2 then ⟨L.sealed ++ [L.logged], L.sure, nilPl⟩ else
  if o.kind = 3 then ⟨L.sealed, L.sealed.length, L.logged⟩ else if o.kind = 4 ∨ o.kind = 5 then ⟨[], 0, nilPl⟩ else L
set_option maxHeartbeats 2000000 in
theorem lifedoes_ok {W : World} {R : List SProp} (p : Nat) (x : Option Addr × Nat) (L : LifeE) (hl : L.sealed.length ≤ 1000000) (o : OpE) :
    Does W Tryz.prog 22 [.pointer (some ⟨p, 0, none⟩), .agg o.cells.toArray] (lifeRow p x L :: lifeOwn x L.sealed :: R) (β := Option Addr × Nat) (fun _ => True) (fun _ => .tuple #[])
      (fun y => lifeRow p y (L.does o) :: lifeOwn y (L.does o).sealed :: R) := by
  obtain ⟨xo, xc⟩ := x
  unfold LifeE.does
  (refine Does.enter Tryz.func22 Tryz.ntmps22 rfl rfl ?_)
  (refine w ?_; repeat ((first | refine VO.step rfl rfl ?_ | refine VD.end rfl rfl rfl ?_ | refine VD.mid rfl rfl rfl ?_); refine OpV.box rfl rfl rfl ?_; intro _; refine w ?_))
  rename_i bo
  (refine w ?_; repeat ((first | refine VO.step rfl rfl ?_ | refine VD.end rfl rfl rfl ?_ | refine VD.mid rfl rfl rfl ?_); refine OpV.box rfl rfl rfl ?_; intro _; refine w ?_))
  (refine VC.cond rfl rfl ?_ ?_ <;> intro hc)
  · have hk : o.kind = 1 := by simpa using hc
    rw [if_pos hk]
    (refine w ?_; repeat ((first | refine VO.step rfl rfl ?_ | refine VD.end rfl rfl rfl ?_ | refine VD.mid rfl rfl rfl ?_); refine OpV.box rfl rfl rfl ?_; intro _; refine w ?_))
    exact VE.doneN (xo, xc) rfl trivial rfl Ent.re
  have k1 : o.kind ≠ 1 := by simpa using hc
  rw [if_neg k1]
  (refine w ?_; repeat ((first | refine VO.step rfl rfl ?_ | refine VD.end rfl rfl rfl ?_ | refine VD.mid rfl rfl rfl ?_); refine OpV.box rfl rfl rfl ?_; intro _; refine w ?_))
  (refine VC.cond rfl rfl ?_ ?_ <;> intro hc)
  · have hk : o.kind = 2 := by simpa using hc
    rw [if_pos hk]
    (refine w ?_; repeat ((first | refine VO.step rfl rfl ?_ | refine VD.end rfl rfl rfl ?_ | refine VD.mid rfl rfl rfl ?_); refine OpV.box rfl rfl rfl ?_; intro _; refine w ?_))
    refine VC.ent (Ent.re (L := lifeOwn (xo, xc) L.sealed :: lifeRow p (xo, xc) L :: R)) ?_
    refine VC.drawn [9, 10] 11 [0, 1, 2, 3, 4, 5, 6, 7, 8, 9, 10, 11, 12, 13] (lifeRow p (xo, xc) L :: R) rfl (by kernel_rfl) (by kernel_rfl) (Ent.drop Ent.refl) ?_
    (refine w ?_; repeat ((first | refine VO.step rfl rfl ?_ | refine VD.end rfl rfl rfl ?_ | refine VD.mid rfl rfl rfl ?_); refine OpV.box rfl rfl rfl ?_; intro _; refine w ?_))
    ((first | refine VO.step rfl rfl ?_ | refine VD.end rfl rfl rfl ?_ | refine VD.mid rfl rfl rfl ?_); refine OpV.buildSlice1 st_47 rfl rfl (by first | (simp; done) | simp [Value.oneCell']) (by decide) rfl ?_; intro nb)
    refine ⟨Ent.re, ?_⟩
    (refine w ?_; repeat ((first | refine VO.step rfl rfl ?_ | refine VD.end rfl rfl rfl ?_ | refine VD.mid rfl rfl rfl ?_); refine OpV.box rfl rfl rfl ?_; intro _; refine w ?_))
    (first | refine VO.step rfl rfl ?_ | refine VD.end rfl rfl rfl ?_ | refine VD.mid rfl rfl rfl ?_)
    refine OpV.appendRow st_47 rfl rfl (by (repeat first | exact .head | apply Hole.tail)) (by (focus repeat first | exact .head _ | apply List.Mem.tail)) rfl (by simp [Value.oneCell']) (by simp only [maxLen]; omega) (by omega) rfl ?_
    intro so sc
    refine ⟨Ent.re, ?_⟩
    (refine w ?_; repeat ((first | refine VO.step rfl rfl ?_ | refine VD.end rfl rfl rfl ?_ | refine VD.mid rfl rfl rfl ?_); refine OpV.box rfl rfl rfl ?_; intro _; refine w ?_))
    refine VE.doneN (so, sc) rfl trivial rfl ?_
    rw [show lifeOwn (so, sc) (LifeE.mk (L.sealed ++ [L.logged]) L.sure nilPl).sealed = Sl.Own 34 1 (.slice so (L.sealed.length + 1) sc) (L.sealed.length + 1) (L.sealed.map PlsE.hdr ++ [L.logged.hdr]) by
      show Sl.Own 34 1 (.slice so (L.sealed ++ [L.logged]).length sc) (L.sealed ++ [L.logged]).length ((L.sealed ++ [L.logged]).map PlsE.hdr) = _
      rw [List.length_append, List.map_append]; rfl]
    rw [show lifeRow p (so, sc) (LifeE.mk (L.sealed ++ [L.logged]) L.sure nilPl) = Row p 49 [.slice so (L.sealed.length + 1) sc, .int .i64 L.sure, .slice none 0 0] by
      show Row p 49 [.slice so (L.sealed ++ [L.logged]).length sc, .int .i64 L.sure, .slice none 0 0] = _
      rw [List.length_append]; rfl]
    exact Ent.re
  have k2 : o.kind ≠ 2 := by simpa using hc
  rw [if_neg k2]
  (refine w ?_; repeat ((first | refine VO.step rfl rfl ?_ | refine VD.end rfl rfl rfl ?_ | refine VD.mid rfl rfl rfl ?_); refine OpV.box rfl rfl rfl ?_; intro _; refine w ?_))
  (refine VC.cond rfl rfl ?_ ?_ <;> intro hc)
  · have hk : o.kind = 3 := by simpa using hc
    rw [if_pos hk]
    (refine w ?_; repeat ((first | refine VO.step rfl rfl ?_ | refine VD.end rfl rfl rfl ?_ | refine VD.mid rfl rfl rfl ?_); refine OpV.box rfl rfl rfl ?_; intro _; refine w ?_))
    exact VE.doneN (xo, xc) rfl trivial rfl Ent.re
  have k3 : o.kind ≠ 3 := by simpa using hc
  rw [if_neg k3]
  (refine w ?_; repeat ((first | refine VO.step rfl rfl ?_ | refine VD.end rfl rfl rfl ?_ | refine VD.mid rfl rfl rfl ?_); refine OpV.box rfl rfl rfl ?_; intro _; refine w ?_))
  (refine VC.cond rfl rfl ?_ ?_ <;> intro hc)
  · have hk : o.kind = 4 := by simpa using hc
    rw [if_pos (.inl hk)]
    (refine w ?_; repeat ((first | refine VO.step rfl rfl ?_ | refine VD.end rfl rfl rfl ?_ | refine VD.mid rfl rfl rfl ?_); refine OpV.box rfl rfl rfl ?_; intro _; refine w ?_))
    (refine VC.condTe rfl rfl (hc) ?_)
    (refine w ?_; repeat ((first | refine VO.step rfl rfl ?_ | refine VD.end rfl rfl rfl ?_ | refine VD.mid rfl rfl rfl ?_); refine OpV.box rfl rfl rfl ?_; intro _; refine w ?_))
    refine VE.doneN (β := Option Addr × Nat) (A := fun _ => True) (none, 0) rfl trivial rfl ?_
    exact (Ent.trans (Ent.re (L := lifeRow p (none, 0) ⟨[], 0, nilPl⟩ :: R)) (fun w hw => (Holds.ownNil 34 1 hw).swap))
  have k4 : o.kind ≠ 4 := by simpa using hc
  (refine w ?_; repeat ((first | refine VO.step rfl rfl ?_ | refine VD.end rfl rfl rfl ?_ | refine VD.mid rfl rfl rfl ?_); refine OpV.box rfl rfl rfl ?_; intro _; refine w ?_))
  (refine VC.cond rfl rfl ?_ ?_ <;> intro hc)
  · have hk : o.kind = 5 := by simpa using hc
    rw [if_pos (.inr hk)]
    (refine w ?_; repeat ((first | refine VO.step rfl rfl ?_ | refine VD.end rfl rfl rfl ?_ | refine VD.mid rfl rfl rfl ?_); refine OpV.box rfl rfl rfl ?_; intro _; refine w ?_))
    refine VE.doneN (β := Option Addr × Nat) (A := fun _ => True) (none, 0) rfl trivial rfl ?_
    exact (Ent.trans (Ent.re (L := lifeRow p (none, 0) ⟨[], 0, nilPl⟩ :: R)) (fun w hw => (Holds.ownNil 34 1 hw).swap))
  have k5 : o.kind ≠ 5 := by simpa using hc
  rw [if_neg (by omega)]
  (refine w ?_; repeat ((first | refine VO.step rfl rfl ?_ | refine VD.end rfl rfl rfl ?_ | refine VD.mid rfl rfl rfl ?_); refine OpV.box rfl rfl rfl ?_; intro _; refine w ?_))
  exact VE.doneN (xo, xc) rfl trivial rfl Ent.re
end Go.Proofs.YtlojjlbngnaphaaGreat

/-! Text Ur. -/
/- The journal's laws: are these the first of those: walked. -/
set_option maxRecDepth 8000
set_option linter.unusedVariables false
set_option linter.unusedSimpArgs false
set_option linter.unusedSectionVars false
namespace Go.Proofs.YtlojjlbngnaphaaGreat
open Go.RowKit Go.Sl
attribute [local irreducible] Own

/-- Batches that are the first of some, numbered one behind the other. -/
structure Firsts (base : Nat) (ts : List TxnE) (all : List PlsE) : Prop where
  len : ts.length ≤ all.length
  pats : ∀ (i : Nat) (h : i < ts.length), ts[i].pats.map PatE.D = (all[i]'(Nat.lt_of_lt_of_le h len)).pats.map PatE.D
  seq : ∀ (i : Nat) (h : i < ts.length), ts[i].seq = base + i
  lim : base + ts.length ≤ 4611686018427387905
set_option maxHeartbeats 2000000 in
theorem are_ok {W : World} {R : List SProp} {yo ao : Option Addr} {yc ac base : Nat} {ts : List TxnE} {all : List PlsE} (hT : RdTxns W R yo ts) (hA : Rds W R 1 ao all.length (all.map PlsE.hdr)) (hP : ∀ p ∈ all, RdPats W R p.ao p.pats)
    (hl : ∀ t ∈ ts, t.pats.length ≤ 140737488351232 ∧ ∀ p ∈ t.pats, p.d.data.length ≤ maxLen) (hal : all.length ≤ 140737488351232) (least : Int) (h1 : least ≤ ts.length) (hF : Firsts base ts all) :
    Does1 W Tryz.prog 26 [.slice yo ts.length yc, .slice ao all.length ac, .int .i64 least] R (.bool true) R := by
  have hlen := hF.len
  have hlim := hF.lim
  (refine Does.enter Tryz.func26 Tryz.ntmps26 rfl rfl ?_)
  (refine w ?_; repeat ((first | refine VO.step rfl rfl ?_ | refine VD.end rfl rfl rfl ?_ | refine VD.mid rfl rfl rfl ?_); refine OpV.box rfl rfl rfl ?_; intro _; refine w ?_))
  (first | refine VO.gF rfl rfl rfl (decide_eq_false (by omega)) ?_ | refine VD.gF rfl rfl rfl (decide_eq_false (by omega)) ?_)
  (refine w ?_; repeat ((first | refine VO.step rfl rfl ?_ | refine VD.end rfl rfl rfl ?_ | refine VD.mid rfl rfl rfl ?_); refine OpV.box rfl rfl rfl ?_; intro _; refine w ?_))
  (refine VC.condFe rfl rfl (decide_eq_false (by omega)) ?_)
  (refine w ?_; repeat ((first | refine VO.step rfl rfl ?_ | refine VD.end rfl rfl rfl ?_ | refine VD.mid rfl rfl rfl ?_); refine OpV.box rfl rfl rfl ?_; intro _; refine w ?_))
  refine VC.loop (α := Nat) (fun i => i ≤ ts.length) (fun _ => R) (fun i => [(0, .slice yo ts.length yc), (1, .slice ao all.length ac), (7, .int .i64 i)]) (fun i => ts.length - i) rfl 0 (Nat.zero_le _) Ent.refl ⟨rfl, rfl, rfl, trivial⟩ ?_
  intro i hi
  (refine w ?_; repeat ((first | refine VO.step rfl rfl ?_ | refine VD.end rfl rfl rfl ?_ | refine VD.mid rfl rfl rfl ?_); refine OpV.box rfl rfl rfl ?_; intro _; refine w ?_))
  (refine VC.cond rfl rfl ?_ ?_ <;> intro hc)
  · have hit : i < ts.length := by have := of_decide_eq_true hc; omega
    have hia : i < all.length := by omega
    obtain ⟨ya, rfl⟩ := some_of_pos hT.rds.nil (by omega)
    obtain ⟨aa, rfl⟩ := some_of_pos hA.nil (by omega)
    have hsi := hF.seq i hit
    have hti := hT.each _ (List.getElem_mem hit)
    have hai := hP _ (List.getElem_mem hia)
    obtain ⟨hl1, hl2⟩ := hl _ (List.getElem_mem hit)
    (refine w ?_; repeat ((first | refine VO.step rfl rfl ?_ | refine VD.end rfl rfl rfl ?_ | refine VD.mid rfl rfl rfl ?_); refine OpV.box rfl rfl rfl ?_; intro _; refine w ?_))
    ((refine VC.quiet rfl (by kernel_rfl) (by kernel_rfl) ?_); (refine w ?_; repeat ((first | refine VO.step rfl rfl ?_ | refine VD.end rfl rfl rfl ?_ | refine VD.mid rfl rfl rfl ?_); refine OpV.box rfl rfl rfl ?_; intro _; refine w ?_)))
    (first | refine VO.pure rfl rfl (PureAt.ldRc tab_ok rfl rfl hT.rds (show (txnCells ts)[i * 2 + 1]? = some (.slice ts[i].ao ts[i].pats.length ts[i].cap) by rw [txn_get ts i 1 hit (by decide)]; rfl)) rfl ?_ | refine VD.take rfl rfl rfl (PureAt.ldRc tab_ok rfl rfl hT.rds (show (txnCells ts)[i * 2 + 1]? = some (.slice ts[i].ao ts[i].pats.length ts[i].cap) by rw [txn_get ts i 1 hit (by decide)]; rfl)) rfl ?_ | refine VQ.pure rfl rfl (PureAt.ldRc tab_ok rfl rfl hT.rds (show (txnCells ts)[i * 2 + 1]? = some (.slice ts[i].ao ts[i].pats.length ts[i].cap) by rw [txn_get ts i 1 hit (by decide)]; rfl)) rfl ?_ | refine VD.end rfl rfl rfl (OpV.pure (PureAt.ldRc tab_ok rfl rfl hT.rds (show (txnCells ts)[i * 2 + 1]? = some (.slice ts[i].ao ts[i].pats.length ts[i].cap) by rw [txn_get ts i 1 hit (by decide)]; rfl)) rfl ?_))
    (refine w ?_; repeat ((first | refine VO.step rfl rfl ?_ | refine VD.end rfl rfl rfl ?_ | refine VD.mid rfl rfl rfl ?_); refine OpV.box rfl rfl rfl ?_; intro _; refine w ?_))
    (first | refine VO.pure rfl rfl (PureAt.ldR tab_ok rfl rfl hA (show (all.map PlsE.hdr)[i]? = some (.slice all[i].ao all[i].pats.length all[i].cap) by rw [List.getElem?_map, List.getElem?_eq_getElem hia]; rfl)) rfl ?_ | refine VD.take rfl rfl rfl (PureAt.ldR tab_ok rfl rfl hA (show (all.map PlsE.hdr)[i]? = some (.slice all[i].ao all[i].pats.length all[i].cap) by rw [List.getElem?_map, List.getElem?_eq_getElem hia]; rfl)) rfl ?_ | refine VQ.pure rfl rfl (PureAt.ldR tab_ok rfl rfl hA (show (all.map PlsE.hdr)[i]? = some (.slice all[i].ao all[i].pats.length all[i].cap) by rw [List.getElem?_map, List.getElem?_eq_getElem hia]; rfl)) rfl ?_ | refine VD.end rfl rfl rfl (OpV.pure (PureAt.ldR tab_ok rfl rfl hA (show (all.map PlsE.hdr)[i]? = some (.slice all[i].ao all[i].pats.length all[i].cap) by rw [List.getElem?_map, List.getElem?_eq_getElem hia]; rfl)) rfl ?_))
    (refine w ?_; repeat ((first | refine VO.step rfl rfl ?_ | refine VD.end rfl rfl rfl ?_ | refine VD.mid rfl rfl rfl ?_); refine OpV.box rfl rfl rfl ?_; intro _; refine w ?_))
    (refine VQ.call rfl rfl rfl rfl (fun _ _ => by simp) (samepats_ok hti hai hl1 hl2) Ent.refl Ent.refl rfl ?_)
    rw [decide_eq_true (hF.pats i hit)]
    (refine w ?_; repeat ((first | refine VO.step rfl rfl ?_ | refine VD.end rfl rfl rfl ?_ | refine VD.mid rfl rfl rfl ?_); refine OpV.box rfl rfl rfl ?_; intro _; refine w ?_))
    (refine VQ.split rfl rfl rfl ?_ ?_ <;> intro hb)
    · have hi0 : 0 < i := by have := of_decide_eq_true hb; omega
      have hs2 := hF.seq (i - 1) (by omega)
      (refine w ?_; repeat ((first | refine VO.step rfl rfl ?_ | refine VD.end rfl rfl rfl ?_ | refine VD.mid rfl rfl rfl ?_); refine OpV.box rfl rfl rfl ?_; intro _; refine w ?_))
      (first | refine VO.pure rfl rfl (PureAt.ldRc tab_ok rfl rfl hT.rds (show (txnCells ts)[i * 2 + 0]? = some (.int .u64 ((base + i : Nat) : Int)) by rw [txn_get ts i 0 hit (by decide), ← hsi]; rfl)) rfl ?_ | refine VD.take rfl rfl rfl (PureAt.ldRc tab_ok rfl rfl hT.rds (show (txnCells ts)[i * 2 + 0]? = some (.int .u64 ((base + i : Nat) : Int)) by rw [txn_get ts i 0 hit (by decide), ← hsi]; rfl)) rfl ?_ | refine VQ.pure rfl rfl (PureAt.ldRc tab_ok rfl rfl hT.rds (show (txnCells ts)[i * 2 + 0]? = some (.int .u64 ((base + i : Nat) : Int)) by rw [txn_get ts i 0 hit (by decide), ← hsi]; rfl)) rfl ?_ | refine VD.end rfl rfl rfl (OpV.pure (PureAt.ldRc tab_ok rfl rfl hT.rds (show (txnCells ts)[i * 2 + 0]? = some (.int .u64 ((base + i : Nat) : Int)) by rw [txn_get ts i 0 hit (by decide), ← hsi]; rfl)) rfl ?_))
      (refine w ?_; repeat ((first | refine VO.step rfl rfl ?_ | refine VD.end rfl rfl rfl ?_ | refine VD.mid rfl rfl rfl ?_); refine OpV.box rfl rfl rfl ?_; intro _; refine w ?_))
      refine VQ.re 47 (.int .i64 ((i - 1 : Nat) : Int)) rfl (by congr 1; omega) ?_
      (refine w ?_; repeat ((first | refine VO.step rfl rfl ?_ | refine VD.end rfl rfl rfl ?_ | refine VD.mid rfl rfl rfl ?_); refine OpV.box rfl rfl rfl ?_; intro _; refine w ?_))
      (first | refine VO.pure rfl rfl (PureAt.ldRc tab_ok rfl rfl hT.rds (show (txnCells ts)[(i - 1) * 2 + 0]? = some (.int .u64 ((base + (i - 1) : Nat) : Int)) by rw [txn_get ts (i - 1) 0 (by omega) (by decide), ← hs2]; rfl)) rfl ?_ | refine VD.take rfl rfl rfl (PureAt.ldRc tab_ok rfl rfl hT.rds (show (txnCells ts)[(i - 1) * 2 + 0]? = some (.int .u64 ((base + (i - 1) : Nat) : Int)) by rw [txn_get ts (i - 1) 0 (by omega) (by decide), ← hs2]; rfl)) rfl ?_ | refine VQ.pure rfl rfl (PureAt.ldRc tab_ok rfl rfl hT.rds (show (txnCells ts)[(i - 1) * 2 + 0]? = some (.int .u64 ((base + (i - 1) : Nat) : Int)) by rw [txn_get ts (i - 1) 0 (by omega) (by decide), ← hs2]; rfl)) rfl ?_ | refine VD.end rfl rfl rfl (OpV.pure (PureAt.ldRc tab_ok rfl rfl hT.rds (show (txnCells ts)[(i - 1) * 2 + 0]? = some (.int .u64 ((base + (i - 1) : Nat) : Int)) by rw [txn_get ts (i - 1) 0 (by omega) (by decide), ← hs2]; rfl)) rfl ?_))
      have hw : IntKind.u64.wrap ((base : Int) + ((i - 1 : Nat) : Int) + 1) = (base : Int) + (i : Int) := by
        have h := wrap64_of (show base + i < 2 ^ 64 by omega)
        rw [show ((base : Int) + ((i - 1 : Nat) : Int) + 1) = ((base + i : Nat) : Int) by omega, h]; omega
      (refine w ?_; repeat ((first | refine VO.step rfl rfl ?_ | refine VD.end rfl rfl rfl ?_ | refine VD.mid rfl rfl rfl ?_); refine OpV.box rfl rfl rfl ?_; intro _; refine w ?_))
      (refine VC.condFe rfl rfl (by simp [hw]) ?_)
      (refine w ?_; repeat ((first | refine VO.step rfl rfl ?_ | refine VD.end rfl rfl rfl ?_ | refine VD.mid rfl rfl rfl ?_); refine OpV.box rfl rfl rfl ?_; intro _; refine w ?_))
      refine VE.round (i + 1) hit (by omega) ⟨rfl, rfl, asV rfl (by congr 1), trivial⟩ Ent.refl
    · (refine w ?_; repeat ((first | refine VO.step rfl rfl ?_ | refine VD.end rfl rfl rfl ?_ | refine VD.mid rfl rfl rfl ?_); refine OpV.box rfl rfl rfl ?_; intro _; refine w ?_))
      refine VE.round (i + 1) hit (by omega) ⟨rfl, rfl, asV rfl (by congr 1), trivial⟩ Ent.refl
  · (refine w ?_; repeat ((first | refine VO.step rfl rfl ?_ | refine VD.end rfl rfl rfl ?_ | refine VD.mid rfl rfl rfl ?_); refine OpV.box rfl rfl rfl ?_; intro _; refine w ?_))
    exact VE.done1 rfl rfl Ent.refl
end Go.Proofs.YtlojjlbngnaphaaGreat

/-! Text Us. -/
/- The journal's laws: may these have been found: walked. -/
set_option maxRecDepth 8000
set_option linter.unusedVariables false
set_option linter.unusedSimpArgs false
set_option linter.unusedSectionVars false
namespace Go.Proofs.YtlojjlbngnaphaaGreat
open Go.RowKit Go.Sl
attribute [local irreducible] Own

end Go.Proofs.YtlojjlbngnaphaaGreat

/-! Text Ut. -/
/- The journal's laws: Sync and Reclaim with the power on; a life in memory and a life; what a cut leaves: plainly. -/
set_option maxRecDepth 8000
set_option linter.unusedVariables false
set_option linter.unusedSimpArgs false
set_option linter.unusedSectionVars false
namespace Go.Proofs.YtlojjlbngnaphaaGreat
open Go.RowKit Go.Sl
attribute [local irreducible] Own

section
variable {v : WalD} {k : DiskD} {base : Nat} {x : LifeD} {D : BayD} {s : Nat}
end
abbrev PlsE.T (q : PlsE) : List PatD := q.pats.map PatE.D
/-- A life in memory is this one. -/
structure Cor (W : World) (L : LifeE) (x : LifeD) : Prop where
  sealed : x.sealed = L.sealed.map PlsE.T
  sure : x.sure = L.sure
  logged : ∀ l, x.logged = some l → L.logged.T = l
  rd : ∀ q ∈ L.sealed, ∀ R, RdPats W R q.ao q.pats
  rdl : ∀ R, RdPats W R L.logged.ao L.logged.pats
theorem rdPats_nil {W : World} {R : List SProp} : RdPats W R none [] := by
  refine ⟨?_, fun p hp => (by cases hp), fun p hp => (by cases hp)⟩
  exact ⟨rfl, fun _ h => (by cases h), fun _ => rfl, fun _ _ _ h => (by cases h)⟩
theorem Cor.start (W : World) : Cor W ⟨[], 0, nilPl⟩ ⟨[], 0, none⟩ := ⟨rfl, rfl, fun l h => (by cases h), fun q h => (by cases h), fun R => rdPats_nil⟩
theorem Cor.does {W : World} {L : LifeE} {x : LifeD} (h : Cor W L x) {o : OpE} (ho : o.wf W) (h2 : o.kind = 2 → ∃ l, x.logged = some l) : Cor W (L.does o) (x.does o.kind.toNat (o.pats.map PatE.D)) := by
  have hlen : x.sealed.length = L.sealed.length := by rw [h.sealed, List.length_map]
  unfold LifeE.does
  by_cases k1 : o.kind = 1
  · rw [if_pos k1, k1]
    exact ⟨h.sealed, hlen, fun l hl => Option.some.inj hl, h.rd, ho.rd⟩
  by_cases k2 : o.kind = 2
  · rw [if_neg k1, if_pos k2]
    obtain ⟨l, hl⟩ := h2 k2
    rw [k2]
    refine ⟨?_, h.sure, fun l hl => (by cases hl), fun q hq => ?_, fun R => rdPats_nil⟩
    · show x.sealed ++ [x.logged.getD []] = (L.sealed ++ [L.logged]).map PlsE.T
      rw [h.sealed, hl, List.map_append, ← h.logged l hl]; rfl
    · rcases List.mem_append.1 hq with q1 | q1
      · exact h.rd q q1
      · rw [List.mem_singleton] at q1; subst q1; exact h.rdl
  by_cases k3 : o.kind = 3
  · rw [if_neg k1, if_neg k2, if_pos k3, k3]
    exact ⟨h.sealed, hlen, h.logged, h.rd, h.rdl⟩
  by_cases k45 : o.kind = 4 ∨ o.kind = 5
  · rw [if_neg k1, if_neg k2, if_neg k3, if_pos k45]
    have e : x.does o.kind.toNat (o.pats.map PatE.D) = ⟨[], 0, none⟩ := by rcases k45 with q | q <;> rw [q] <;> rfl
    rw [e]
    exact Cor.start W
  · rw [if_neg k1, if_neg k2, if_neg k3, if_neg k45]
    have e : x.does o.kind.toNat (o.pats.map PatE.D) = x := by
      unfold LifeD.does; split <;> first | rfl | (exfalso; omega)
    rw [e]; exact h
theorem seal_some {v : WalD} {k : DiskD} {base : Nat} {x : LifeD} {D : BayD} (h : LiveX v k base x) (h0 : (wSeal (v, D)).1 = 0) : ∃ l, x.logged = some l := by
  cases hl : x.logged with
  | some l => exact ⟨l, rfl⟩
  | none => rw [seal_none h.nob (h.nolg hl)] at h0; cases h0
/-- Behind a cut, whatever outlives it, Open finds the first of the sealed, and all that are sure. -/
theorem cut_open {v : WalD} {k : DiskD} {base : Nat} {x : LifeD} {D : BayD} (hs : D.slots[0]? = some ⟨some ⟨k, false, 0⟩, none, none⟩) (h : LiveX v k base x) (kl : List (List Bool)) :
    ∃ c v' D' k' e b, x.sure ≤ c ∧ c ≤ x.sealed.length ∧ wOpen (D.cut kl) 0 (v.size : Int) = (((some v', numb base (x.sealed.take c)), 0), D') ∧ v'.next = base + c ∧ Pw D' 0 k' ∧ LiveX v' k' base ⟨x.sealed.take c, c, none⟩ ∧ v'.size = v.size ∧ (e, b) = (v'.epoch, base) ∧ e = v.epoch := by
  obtain ⟨hp, ht⟩ := cut_pw hs h.live kl
  have hm := h.mle
  have key : ∀ c, c ≤ x.sealed.length → Rep v.size v.epoch base v.tail (x.sealed.take c) (k.settle (keepOf (kl.getD 0 []))).last →
      x.sure ≤ c → ∃ c v' D' k' e b, x.sure ≤ c ∧ c ≤ x.sealed.length ∧ wOpen (D.cut kl) 0 (v.size : Int) = (((some v', numb base (x.sealed.take c)), 0), D') ∧ v'.next = base + c ∧ Pw D' 0 k' ∧ LiveX v' k' base ⟨x.sealed.take c, c, none⟩ ∧ v'.size = v.size ∧ (e, b) = (v'.epoch, base) ∧ e = v.epoch := by
    intro c hc hr hsc
    obtain ⟨D', o1, o2, o3⟩ := rep_open (s := 0) hp ht hr rfl
    have hlv := Live.open (s := 0) hr rfl hp.live
    have hlen : (x.sealed.take c).length = c := by rw [List.length_take]; omega
    rw [hlen] at hlv o1
    exact ⟨c, _, D', _, v.epoch, base, hsc, hc, o1, rfl, o2, hlv, rfl, rfl, rfl⟩
  rcases h.cov (keepOf (kl.getD 0 [])) with hr | hr
  · exact key x.sure hm hr (Nat.le_refl _)
  · exact key x.sealed.length (Nat.le_refl _) (by rw [List.take_length]; exact hr) hm
end Go.Proofs.YtlojjlbngnaphaaGreat

/-! Text Uu. -/
/- The law WalForgets. -/
set_option maxRecDepth 8000
set_option linter.unusedVariables false
set_option linter.unusedSimpArgs false
set_option linter.unusedSectionVars false
namespace Go.Proofs.YtlojjlbngnaphaaGreat
open Go.RowKit Go.Sl
attribute [local irreducible] Own

/-- Calls that leave the checkpoint where it is, so many of them. -/
structure FInv (n c N base j : Nat) (v : WalD) (D : BayD) (x : LifeD) : Prop where
  slot : v.slot = 0
  size : v.size = n
  next : v.next ≤ 1 + N + j
  epoch : v.epoch ≤ 10 + N + j
  cap : D.capd (c + 4100 * j)
  calm : D.trip = -1
  pos : 1 ≤ base
  live : ∃ k, Pw D 0 k ∧ LiveX v k base x
  len : x.sealed.length ≤ j
theorem FInv.wok {n c N base j : Nat} {v : WalD} {D : BayD} {x : LifeD} (h : FInv n c N base j v D x) (hN : N ≤ 20000) (hj : j ≤ 20000) : v.ok := by
  obtain ⟨k, h1, h2⟩ := h.live
  have := h.next; have := h.epoch
  exact h2.wok (by omega) (by omega) h.pos
theorem FInv.step {n c N base j : Nat} {v : WalD} {D : BayD} {x : LifeD} (h : FInv n c N base j v D x) (hN : N ≤ 20000) (hj : j ≤ 20000) (kind : Nat) (hk : kind < 4) (ps : List PatD) :
    ((wDo (v, D) kind ps).1 = 0 → FInv n c N base (j + 1) (wDo (v, D) kind ps).2.1 (wDo (v, D) kind ps).2.2 (x.does kind ps)) ∧
    ((wDo (v, D) kind ps).1 ≠ 0 → FInv n c N base (j + 1) (wDo (v, D) kind ps).2.1 (wDo (v, D) kind ps).2.2 x) ∧
    (kind = 2 → (wDo (v, D) kind ps).1 = 0 → ∃ l, x.logged = some l) := by
  obtain ⟨k, h1, h2⟩ := h.live
  have hnx := h2.next
  have hn := h.next; have he := h.epoch; have hb1 := h.pos; have hlx := h.len
  have hcp := wDo_capd (v := v) h.cap kind ps
  have hs := step_ok h1 h.slot h2 kind ps ⟨by omega, by omega, by omega⟩
  have h3 : kind = 2 → (wDo (v, D) kind ps).1 = 0 → ∃ l, x.logged = some l := by
    rintro rfl h0; exact seal_some h2 h0
  generalize wDo (v, D) kind ps = r at hs hcp h3
  cases hs with
  | good k' base' hg hp hl hf hb hb2 =>
    dsimp only at hcp h3 ⊢
    refine ⟨fun _ => ⟨hg.slot.trans h.slot, hg.size.trans h.size, by rw [hg.next]; split <;> omega, by have := hg.epoch; omega, hcp.mono (by omega), hf.calm h.calm, h.pos, ⟨k', hp, by rw [hb hk] at hl; exact hl⟩, ?_⟩, fun q => absurd rfl q, h3⟩
    unfold LifeD.does
    split
    · show x.sealed.length ≤ _; omega
    · show (x.sealed ++ [x.logged.getD []]).length ≤ _; rw [List.length_append, List.length_singleton]; omega
    · show x.sealed.length ≤ _; omega
    · exact Nat.zero_le _
    · exact Nat.zero_le _
    · omega
  | no e h0 h5 =>
    dsimp only at hcp ⊢
    exact ⟨fun q => absurd q h0, fun _ => ⟨h.slot, h.size, by omega, by omega, h.cap.mono (by omega), h.calm, h.pos, ⟨k, h1, h2⟩, by omega⟩, fun _ q => absurd q h0⟩
  | dark k' ht hd hl => exact absurd h.calm ht
end Go.Proofs.YtlojjlbngnaphaaGreat

/-! Text Uw. -/
/- The journal's laws: much, of a script that lies in memory of one's own; WalUnsealed, plainly. -/
set_option maxRecDepth 8000
set_option linter.unusedVariables false
set_option linter.unusedSimpArgs false
set_option linter.unusedSectionVars false
namespace Go.Proofs.YtlojjlbngnaphaaGreat
open Go.RowKit Go.Sl
attribute [local irreducible] Own

theorem wmuchR_ok {W : World} {R : List SProp} {ao : Option Addr} {cap : Nat} {l : List OpE} (hr : Rds W R 4 ao l.length (opsC l)) (hwf : ∀ o ∈ l, o.wf W) (hll : l.length ≤ 140737488351232) :
    Does W Tryz.prog 12 [.slice ao l.length cap] R (β := Bool) (fun b => b = false → FewO l) (fun b => .bool b) (fun _ => R) := by
  (refine Does.enter Tryz.func12 Tryz.ntmps12 rfl rfl ?_)
  (refine w ?_; repeat ((first | refine VO.step rfl rfl ?_ | refine VD.end rfl rfl rfl ?_ | refine VD.mid rfl rfl rfl ?_); refine OpV.box rfl rfl rfl ?_; intro _; refine w ?_))
  refine VC.loop (α := Nat × Nat) (fun y => y.1 ≤ l.length ∧ y.1 ≤ y.2 ∧ y.2 ≤ 1407374883512320 ∧ ∀ x ∈ l.take y.1, x.pats.length ≤ y.2 ∧ x.keep.length ≤ y.2) (fun _ => R) (fun y => [(0, .slice ao l.length cap), (3, .int .i64 y.2), (4, .int .i64 y.1)]) (fun y => l.length - y.1) rfl (0, 0) ⟨Nat.zero_le _, Nat.le_refl _, by simp only; omega, by simp⟩ Ent.refl ⟨rfl, rfl, rfl, trivial⟩ ?_
  rintro ⟨i, n⟩ ⟨hi, h1, h2, h3⟩
  dsimp only at hi h1 h2 h3 ⊢
  (refine w ?_; repeat ((first | refine VO.step rfl rfl ?_ | refine VD.end rfl rfl rfl ?_ | refine VD.mid rfl rfl rfl ?_); refine OpV.box rfl rfl rfl ?_; intro _; refine w ?_))
  ((first | refine VO.split rfl rfl rfl ?_ ?_ | refine VD.split rfl rfl rfl ?_ ?_) <;> intro hb)
  · have hlt : i < l.length := by have := of_decide_eq_true hb; omega
    obtain ⟨a, rfl⟩ := some_of_pos hr.nil (by omega)
    have hw := hwf _ (List.getElem_mem hlt)
    have hpl := hw.len
    have hkl := hw.klen
    (refine w ?_; repeat ((first | refine VO.step rfl rfl ?_ | refine VD.end rfl rfl rfl ?_ | refine VD.mid rfl rfl rfl ?_); refine OpV.box rfl rfl rfl ?_; intro _; refine w ?_))
    (refine VC.cond rfl rfl ?_ ?_ <;> intro hc)
    · have hle : n ≤ 5000 := by have := of_decide_eq_true hc; omega
      (refine w ?_; repeat ((first | refine VO.step rfl rfl ?_ | refine VD.end rfl rfl rfl ?_ | refine VD.mid rfl rfl rfl ?_); refine OpV.box rfl rfl rfl ?_; intro _; refine w ?_))
      ((refine VC.quiet rfl (by kernel_rfl) (by kernel_rfl) ?_); (refine w ?_; repeat ((first | refine VO.step rfl rfl ?_ | refine VD.end rfl rfl rfl ?_ | refine VD.mid rfl rfl rfl ?_); refine OpV.box rfl rfl rfl ?_; intro _; refine w ?_)))
      (first | refine VO.pure rfl rfl (PureAt.ldRc tab_ok rfl rfl hr (opsC_get l i 2 hlt (by decide))) rfl ?_ | refine VD.take rfl rfl rfl (PureAt.ldRc tab_ok rfl rfl hr (opsC_get l i 2 hlt (by decide))) rfl ?_ | refine VQ.pure rfl rfl (PureAt.ldRc tab_ok rfl rfl hr (opsC_get l i 2 hlt (by decide))) rfl ?_ | refine VD.end rfl rfl rfl (OpV.pure (PureAt.ldRc tab_ok rfl rfl hr (opsC_get l i 2 hlt (by decide))) rfl ?_))
      (refine w ?_; repeat ((first | refine VO.step rfl rfl ?_ | refine VD.end rfl rfl rfl ?_ | refine VD.mid rfl rfl rfl ?_); refine OpV.box rfl rfl rfl ?_; intro _; refine w ?_))
      (first | refine VO.pure rfl rfl (PureAt.ldRc tab_ok rfl rfl hr (opsC_get l i 3 hlt (by decide))) rfl ?_ | refine VD.take rfl rfl rfl (PureAt.ldRc tab_ok rfl rfl hr (opsC_get l i 3 hlt (by decide))) rfl ?_ | refine VQ.pure rfl rfl (PureAt.ldRc tab_ok rfl rfl hr (opsC_get l i 3 hlt (by decide))) rfl ?_ | refine VD.end rfl rfl rfl (OpV.pure (PureAt.ldRc tab_ok rfl rfl hr (opsC_get l i 3 hlt (by decide))) rfl ?_))
      (refine w ?_; repeat ((first | refine VO.step rfl rfl ?_ | refine VD.end rfl rfl rfl ?_ | refine VD.mid rfl rfl rfl ?_); refine OpV.box rfl rfl rfl ?_; intro _; refine w ?_))
      refine VC.re 3 (.int .i64 ((n + (1 + l[i].pats.length + l[i].keep.length) : Nat) : Int)) rfl (by congr 1) ?_
      (refine w ?_; repeat ((first | refine VO.step rfl rfl ?_ | refine VD.end rfl rfl rfl ?_ | refine VD.mid rfl rfl rfl ?_); refine OpV.box rfl rfl rfl ?_; intro _; refine w ?_))
      refine VC.loop (α := Nat × Nat) (fun y => y.1 ≤ l[i].pats.length ∧ n + (1 + l[i].pats.length + l[i].keep.length) ≤ y.2 ∧ y.2 ≤ 1407374883512320) (fun _ => R) (fun y => [(0, .slice (some a) l.length cap), (3, .int .i64 y.2), (4, .int .i64 i), (5, .int .i64 y.1)]) (fun y => l[i].pats.length - y.1) rfl (0, n + (1 + l[i].pats.length + l[i].keep.length)) ⟨Nat.zero_le _, Nat.le_refl _, by simp only; omega⟩ Ent.refl ⟨rfl, rfl, rfl, rfl, trivial⟩ ?_
      rintro ⟨k, m⟩ ⟨hk, g1, g2⟩
      dsimp only at hk g1 g2 ⊢
      (refine w ?_; repeat ((first | refine VO.step rfl rfl ?_ | refine VD.end rfl rfl rfl ?_ | refine VD.mid rfl rfl rfl ?_); refine OpV.box rfl rfl rfl ?_; intro _; refine w ?_))
      (first | refine VO.pure rfl rfl (PureAt.ldRc tab_ok rfl rfl hr (opsC_get l i 2 hlt (by decide))) rfl ?_ | refine VD.take rfl rfl rfl (PureAt.ldRc tab_ok rfl rfl hr (opsC_get l i 2 hlt (by decide))) rfl ?_ | refine VQ.pure rfl rfl (PureAt.ldRc tab_ok rfl rfl hr (opsC_get l i 2 hlt (by decide))) rfl ?_ | refine VD.end rfl rfl rfl (OpV.pure (PureAt.ldRc tab_ok rfl rfl hr (opsC_get l i 2 hlt (by decide))) rfl ?_))
      (refine w ?_; repeat ((first | refine VO.step rfl rfl ?_ | refine VD.end rfl rfl rfl ?_ | refine VD.mid rfl rfl rfl ?_); refine OpV.box rfl rfl rfl ?_; intro _; refine w ?_))
      have hend : ∀ x ∈ l.take (i + 1), x.pats.length ≤ m ∧ x.keep.length ≤ m := by
        intro x hx
        rw [List.take_succ_eq_append_getElem hlt, List.mem_append, List.mem_singleton] at hx
        rcases hx with h | h
        · have := h3 x h; omega
        · subst h; omega
      ((first | refine VO.split rfl rfl rfl ?_ ?_ | refine VD.split rfl rfl rfl ?_ ?_) <;> intro hb)
      · have hkt : k < l[i].pats.length := by have := of_decide_eq_true hb; omega
        have hrp := hw.rd R
        obtain ⟨pa, hpa⟩ := some_of_pos hrp.rds.nil (by omega)
        rw [hpa] at hrp
        have hfl := (hw.fit _ (List.getElem_mem hkt)).len
        (refine w ?_; repeat ((first | refine VO.step rfl rfl ?_ | refine VD.end rfl rfl rfl ?_ | refine VD.mid rfl rfl rfl ?_); refine OpV.box rfl rfl rfl ?_; intro _; refine w ?_))
        (refine VC.cond rfl rfl ?_ ?_ <;> intro hc)
        · have hle2 : m ≤ 5000 := by have := of_decide_eq_true hc; omega
          (refine w ?_; repeat ((first | refine VO.step rfl rfl ?_ | refine VD.end rfl rfl rfl ?_ | refine VD.mid rfl rfl rfl ?_); refine OpV.box rfl rfl rfl ?_; intro _; refine w ?_))
          (first | refine VO.pure rfl rfl (PureAt.ldRc tab_ok rfl rfl hr (show (opsC l)[i * 4 + 2]? = some (.slice (some pa) l[i].pats.length l[i].x.2) by rw [opsC_get l i 2 hlt (by decide), ← hpa]; rfl)) rfl ?_ | refine VD.take rfl rfl rfl (PureAt.ldRc tab_ok rfl rfl hr (show (opsC l)[i * 4 + 2]? = some (.slice (some pa) l[i].pats.length l[i].x.2) by rw [opsC_get l i 2 hlt (by decide), ← hpa]; rfl)) rfl ?_ | refine VQ.pure rfl rfl (PureAt.ldRc tab_ok rfl rfl hr (show (opsC l)[i * 4 + 2]? = some (.slice (some pa) l[i].pats.length l[i].x.2) by rw [opsC_get l i 2 hlt (by decide), ← hpa]; rfl)) rfl ?_ | refine VD.end rfl rfl rfl (OpV.pure (PureAt.ldRc tab_ok rfl rfl hr (show (opsC l)[i * 4 + 2]? = some (.slice (some pa) l[i].pats.length l[i].x.2) by rw [opsC_get l i 2 hlt (by decide), ← hpa]; rfl)) rfl ?_))
          (refine w ?_; repeat ((first | refine VO.step rfl rfl ?_ | refine VD.end rfl rfl rfl ?_ | refine VD.mid rfl rfl rfl ?_); refine OpV.box rfl rfl rfl ?_; intro _; refine w ?_))
          (first | refine VO.pure rfl rfl (PureAt.ldRc tab_ok rfl rfl hrp.rds (pat_get l[i].pats k 2 hkt (by decide))) rfl ?_ | refine VD.take rfl rfl rfl (PureAt.ldRc tab_ok rfl rfl hrp.rds (pat_get l[i].pats k 2 hkt (by decide))) rfl ?_ | refine VQ.pure rfl rfl (PureAt.ldRc tab_ok rfl rfl hrp.rds (pat_get l[i].pats k 2 hkt (by decide))) rfl ?_ | refine VD.end rfl rfl rfl (OpV.pure (PureAt.ldRc tab_ok rfl rfl hrp.rds (pat_get l[i].pats k 2 hkt (by decide))) rfl ?_))
          (refine w ?_; repeat ((first | refine VO.step rfl rfl ?_ | refine VD.end rfl rfl rfl ?_ | refine VD.mid rfl rfl rfl ?_); refine OpV.box rfl rfl rfl ?_; intro _; refine w ?_))
          (first | refine VO.pure rfl rfl (PureAt.quo (a := l[i].pats[k].d.data.length) (b := 64) rfl rfl (by decide) (IntWalk.i64_in _ ⟨by omega, by omega⟩)) rfl ?_ | refine VD.take rfl rfl rfl (PureAt.quo (a := l[i].pats[k].d.data.length) (b := 64) rfl rfl (by decide) (IntWalk.i64_in _ ⟨by omega, by omega⟩)) rfl ?_ | refine VQ.pure rfl rfl (PureAt.quo (a := l[i].pats[k].d.data.length) (b := 64) rfl rfl (by decide) (IntWalk.i64_in _ ⟨by omega, by omega⟩)) rfl ?_ | refine VD.end rfl rfl rfl (OpV.pure (PureAt.quo (a := l[i].pats[k].d.data.length) (b := 64) rfl rfl (by decide) (IntWalk.i64_in _ ⟨by omega, by omega⟩)) rfl ?_))
          (refine w ?_; repeat ((first | refine VO.step rfl rfl ?_ | refine VD.end rfl rfl rfl ?_ | refine VD.mid rfl rfl rfl ?_); refine OpV.box rfl rfl rfl ?_; intro _; refine w ?_))
          refine VE.round (k + 1, m + l[i].pats[k].d.data.length / 64) ⟨hkt, by simp only; omega, by simp only; omega⟩ (by simp only; omega) ⟨rfl, asV rfl (by congr 1), rfl, asV rfl (by congr 1), trivial⟩ Ent.refl
        · (refine w ?_; repeat ((first | refine VO.step rfl rfl ?_ | refine VD.end rfl rfl rfl ?_ | refine VD.mid rfl rfl rfl ?_); refine OpV.box rfl rfl rfl ?_; intro _; refine w ?_))
          refine VE.round (i + 1, m) ⟨hlt, by simp only; omega, by simp only; omega, hend⟩ (by simp only; omega) ⟨rfl, rfl, asV rfl (by congr 1), trivial⟩ Ent.refl
      · (refine w ?_; repeat ((first | refine VO.step rfl rfl ?_ | refine VD.end rfl rfl rfl ?_ | refine VD.mid rfl rfl rfl ?_); refine OpV.box rfl rfl rfl ?_; intro _; refine w ?_))
        (refine w ?_; repeat ((first | refine VO.step rfl rfl ?_ | refine VD.end rfl rfl rfl ?_ | refine VD.mid rfl rfl rfl ?_); refine OpV.box rfl rfl rfl ?_; intro _; refine w ?_))
        refine VE.round (i + 1, m) ⟨hlt, by simp only; omega, by simp only; omega, hend⟩ (by simp only; omega) ⟨rfl, rfl, asV rfl (by congr 1), trivial⟩ Ent.refl
    · have hgt : 5000 < n := by have := of_decide_eq_false hc; omega
      (refine w ?_; repeat ((first | refine VO.step rfl rfl ?_ | refine VD.end rfl rfl rfl ?_ | refine VD.mid rfl rfl rfl ?_); refine OpV.box rfl rfl rfl ?_; intro _; refine w ?_))
      refine VE.done true rfl (by simp) (by congr 1; simp; omega) Ent.refl
  · have hge : i = l.length := by have := of_decide_eq_false hb; omega
    subst hge
    rw [List.take_length] at h3
    (refine w ?_; repeat ((first | refine VO.step rfl rfl ?_ | refine VD.end rfl rfl rfl ?_ | refine VD.mid rfl rfl rfl ?_); refine OpV.box rfl rfl rfl ?_; intro _; refine w ?_))
    (refine w ?_; repeat ((first | refine VO.step rfl rfl ?_ | refine VD.end rfl rfl rfl ?_ | refine VD.mid rfl rfl rfl ?_); refine OpV.box rfl rfl rfl ?_; intro _; refine w ?_))
    refine VE.done (decide (5000 < n)) rfl (fun q => ?_) (by congr 1; rw [decide_eq_decide]; omega) Ent.refl
    have hq : ¬ 5000 < n := of_decide_eq_false q
    exact ⟨by omega, fun p hp => by have := h3 p hp; omega⟩
/-- A life over all kinds of calls, the power being on. -/
structure UInv (n c j : Nat) (v : WalD) (D : BayD) (x : LifeD) : Prop where
  slot : v.slot = 0
  size : v.size = n
  next : v.next ≤ 1 + j
  epoch : v.epoch ≤ 10 + j
  cap : D.capd (c + 4100 * j)
  calm : D.trip = -1
  live : ∃ k base, 1 ≤ base ∧ Pw D 0 k ∧ LiveX v k base x
  len : x.sealed.length ≤ j
theorem UInv.wok {n c j : Nat} {v : WalD} {D : BayD} {x : LifeD} (h : UInv n c j v D x) (hj : j ≤ 20000) : v.ok := by
  obtain ⟨k, base, h3, h1, h2⟩ := h.live
  have := h.next; have := h.epoch
  exact h2.wok (by omega) (by omega) h3
theorem UInv.step {n c j : Nat} {v : WalD} {D : BayD} {x : LifeD} (h : UInv n c j v D x) (hj : j ≤ 20000) (kind : Nat) (ps : List PatD) :
    ((wDo (v, D) kind ps).1 = 0 → UInv n c (j + 1) (wDo (v, D) kind ps).2.1 (wDo (v, D) kind ps).2.2 (x.does kind ps)) ∧
    ((wDo (v, D) kind ps).1 ≠ 0 → UInv n c (j + 1) (wDo (v, D) kind ps).2.1 (wDo (v, D) kind ps).2.2 x ∧ (wDo (v, D) kind ps).2.1 = v) ∧
    (kind = 2 → (wDo (v, D) kind ps).1 = 0 → ∃ l, x.logged = some l) := by
  obtain ⟨k, base, h3, h1, h2⟩ := h.live
  have hnx := h2.next
  have hn := h.next; have he := h.epoch; have hlx := h.len
  have hcp := wDo_capd (v := v) h.cap kind ps
  have hs := step_ok h1 h.slot h2 kind ps ⟨by omega, by omega, by omega⟩
  have h4 : kind = 2 → (wDo (v, D) kind ps).1 = 0 → ∃ l, x.logged = some l := by
    rintro rfl h0; exact seal_some h2 h0
  generalize wDo (v, D) kind ps = r at hs hcp h4
  cases hs with
  | good k' base' hg hp hl hf hb hb2 =>
    dsimp only at hcp h4 ⊢
    have hb1 : 1 ≤ base' := by
      by_cases q : kind < 4
      · rw [hb q]; exact h3
      · by_cases q2 : kind ≤ 5
        · rw [hb2 (by omega) q2]; omega
        · have hl1 := hl.next
          rw [hg.next, if_neg (by omega)] at hl1
          have : x.does kind ps = x := by
            unfold LifeD.does; split <;> first | rfl | (exfalso; omega)
          rw [this] at hl1
          omega
    refine ⟨fun _ => ⟨hg.slot.trans h.slot, hg.size.trans h.size, by rw [hg.next]; split <;> omega, by have := hg.epoch; omega, hcp.mono (by omega), hf.calm h.calm, ⟨k', base', hb1, hp, hl⟩, ?_⟩, fun q => absurd rfl q, h4⟩
    unfold LifeD.does
    split
    · show x.sealed.length ≤ _; omega
    · show (x.sealed ++ [x.logged.getD []]).length ≤ _; rw [List.length_append, List.length_singleton]; omega
    · show x.sealed.length ≤ _; omega
    · exact Nat.zero_le _
    · exact Nat.zero_le _
    · omega
  | no e h0 h5 =>
    dsimp only at hcp ⊢
    exact ⟨fun q => absurd q h0, fun _ => ⟨⟨h.slot, h.size, by omega, by omega, h.cap.mono (by omega), h.calm, ⟨k, base, h3, h1, h2⟩, by omega⟩, rfl⟩, fun _ q => absurd q h0⟩
  | dark k' ht hd hl => exact absurd h.calm ht
theorem beg_uinv {n : Nat} (hn : 5 ≤ n ∧ n ≤ 2048) : UInv n (n + 2) 0 (fresh0 0 1 n) (begD n) ⟨[], 0, none⟩ := by
  obtain ⟨e, k', h1, h2, h3⟩ := beg_live hn
  exact ⟨rfl, rfl, by show 1 ≤ 1; decide, by show 1 ≤ 10; decide, (beg_capd n).mono (by omega), h3.calm rfl, ⟨k', 1, Nat.le_refl _, h1, h2⟩, Nat.le_refl _⟩
end Go.Proofs.YtlojjlbngnaphaaGreat

/-! Text Ux. -/
/- The law WalUnsealed: walked. -/
set_option maxRecDepth 8000
set_option linter.unusedVariables false
set_option linter.unusedSimpArgs false
set_option linter.unusedSectionVars false
namespace Go.Proofs.YtlojjlbngnaphaaGreat
open Go.RowKit Go.Sl
attribute [local irreducible] Own

theorem nilBoolsA {W : World} : RdsA W 1 none 0 (bools []) := fun H => by
  refine ⟨rfl, fun _ h => (by cases h), fun _ => rfl, fun _ _ _ h => (by cases h)⟩
set_option maxHeartbeats 8000000 in
theorem wunsealed_law {W : World} {R : List SProp} {ao po ko : Option Addr} {cap pcap kcap : Nat} {l : List OpE} {ps : List PatE} {lk : List Bool} (hbs : RdOps W ao l) (hpr : ∀ R, RdPats W R po ps) (hpf : ∀ p ∈ ps, p.fit) (hpl : ps.length ≤ 140737488351232) (hk : RdsA W 1 ko lk.length (bools lk)) (hkl : lk.length ≤ 140737488351232) (ring : Int) :
    Does1 W Tryz.prog 5 [.int .i64 ring, .slice ao l.length cap, .slice po ps.length pcap, .slice ko lk.length kcap] R (.bool true) R := by
  have how : (OpE.mk 0 0 (po, pcap) ps (none, 0) []).wf W := ⟨hpr, hpf, hpl, nilBoolsA, Nat.zero_le _, by show (-9223372036854775808 : Int) ≤ 0 ∧ (0 : Int) ≤ 9223372036854775807; decide, by show (-9223372036854775808 : Int) ≤ 0 ∧ (0 : Int) ≤ 9223372036854775807; decide⟩
  (refine Does.enter Tryz.func5 Tryz.ntmps5 rfl rfl ?_)
  (refine w ?_; repeat ((first | refine VO.step rfl rfl ?_ | refine VD.end rfl rfl rfl ?_ | refine VD.mid rfl rfl rfl ?_); refine OpV.box rfl rfl rfl ?_; intro _; refine w ?_))
  ((first | refine VO.step rfl rfl ?_ | refine VD.end rfl rfl rfl ?_ | refine VD.mid rfl rfl rfl ?_); refine OpV.call rfl rfl (fun _ _ => by simp) (wmuch_ok hbs) Ent.refl rfl ?_)
  intro mu hmu
  cases mu with
  | true =>
    (refine w ?_; repeat ((first | refine VO.step rfl rfl ?_ | refine VD.end rfl rfl rfl ?_ | refine VD.mid rfl rfl rfl ?_); refine OpV.box rfl rfl rfl ?_; intro _; refine w ?_))
    exact VE.done1 rfl rfl Ent.refl
  | false =>
  have hf := hmu rfl
  (refine w ?_; repeat ((first | refine VO.step rfl rfl ?_ | refine VD.end rfl rfl rfl ?_ | refine VD.mid rfl rfl rfl ?_); refine OpV.box rfl rfl rfl ?_; intro _; refine w ?_))
  ((first | apply VO.pure rfl rfl | apply VD.take rfl rfl rfl | (refine VD.end rfl rfl rfl ?_; apply OpV.pure)); apply PureAt.build sb_37 rfl; (simp [buildX, setL, Value.cells]; rfl); rfl)
  (first | refine VO.step rfl rfl ?_ | refine VD.end rfl rfl rfl ?_ | refine VD.mid rfl rfl rfl ?_)
  refine OpV.buildSlice (cs := OpE.cells ⟨0, 0, (po, pcap), ps, (none, 0), []⟩) st_22 rfl rfl (by simp [Value.cells]) (by simp [Value.cells]) (by decide) rfl ?_
  intro nb
  (refine w ?_; repeat ((first | refine VO.step rfl rfl ?_ | refine VD.end rfl rfl rfl ?_ | refine VD.mid rfl rfl rfl ?_); refine OpV.box rfl rfl rfl ?_; intro _; refine w ?_))
  have hro : Rds W (Row nb 37 (OpE.cells ⟨0, 0, (po, pcap), ps, (none, 0), []⟩) :: R) 4 (some ⟨nb, 0, none⟩) 1 (opsC [⟨0, 0, (po, pcap), ps, (none, 0), []⟩]) := Rds.row (opsC_one _) (.head _) rfl
  ((first | refine VO.step rfl rfl ?_ | refine VD.end rfl rfl rfl ?_ | refine VD.mid rfl rfl rfl ?_); refine OpV.call rfl rfl (fun _ _ => by simp) (wmuchR_ok (l := [⟨0, 0, (po, pcap), ps, (none, 0), []⟩]) hro (fun o ho => by rw [List.mem_singleton] at ho; subst ho; exact how) (by simp)) Ent.refl rfl ?_)
  intro mm hmm
  cases mm with
  | true =>
    (refine w ?_; repeat ((first | refine VO.step rfl rfl ?_ | refine VD.end rfl rfl rfl ?_ | refine VD.mid rfl rfl rfl ?_); refine OpV.box rfl rfl rfl ?_; intro _; refine w ?_))
    exact VE.done1 rfl rfl Ent.re
  | false =>
  have hfm := hmm rfl
  (refine w ?_; repeat ((first | refine VO.step rfl rfl ?_ | refine VD.end rfl rfl rfl ?_ | refine VD.mid rfl rfl rfl ?_); refine OpV.box rfl rfl rfl ?_; intro _; refine w ?_))
  (refine VC.cond rfl rfl ?_ ?_ <;> intro hc)
  · (refine w ?_; repeat ((first | refine VO.step rfl rfl ?_ | refine VD.end rfl rfl rfl ?_ | refine VD.mid rfl rfl rfl ?_); refine OpV.box rfl rfl rfl ?_; intro _; refine w ?_))
    exact VE.done1 rfl rfl Ent.re
  (refine w ?_; repeat ((first | refine VO.step rfl rfl ?_ | refine VD.end rfl rfl rfl ?_ | refine VD.mid rfl rfl rfl ?_); refine OpV.box rfl rfl rfl ?_; intro _; refine w ?_))
  refine VO.ent (Ent.re (L := R)) ?_
  ((first | refine VO.step rfl rfl ?_ | refine VD.end rfl rfl rfl ?_ | refine VD.mid rfl rfl rfl ?_); refine OpV.call rfl rfl (fun _ _ => by simp) (wbegun_ok ring) Ent.refl rfl ?_)
  intro x hx
  cases x with
  | none =>
    have hn : ¬ (5 ≤ ring ∧ ring ≤ 2048) := fun q => by have := hx.2 q; cases this
    dsimp only [Option.elim_none, Option.map_none]
    (refine w ?_; repeat ((first | refine VO.step rfl rfl ?_ | refine VD.end rfl rfl rfl ?_ | refine VD.mid rfl rfl rfl ?_); refine OpV.box rfl rfl rfl ?_; intro _; refine w ?_))
    ((first | refine VO.step rfl rfl ?_ | refine VD.end rfl rfl rfl ?_ | refine VD.mid rfl rfl rfl ?_); refine OpV.call rfl rfl (fun _ _ => by simp) (wknown_ok) Ent.refl rfl ?_)
    intro _ _
    (refine w ?_; repeat ((first | refine VO.step rfl rfl ?_ | refine VD.end rfl rfl rfl ?_ | refine VD.mid rfl rfl rfl ?_); refine OpV.box rfl rfl rfl ?_; intro _; refine w ?_))
    ((first | refine VO.split rfl rfl rfl ?_ ?_ | refine VD.split rfl rfl rfl ?_ ?_) <;> intro hb)
    · (refine w ?_; repeat ((first | refine VO.step rfl rfl ?_ | refine VD.end rfl rfl rfl ?_ | refine VD.mid rfl rfl rfl ?_); refine OpV.box rfl rfl rfl ?_; intro _; refine w ?_))
      exact VE.done1 rfl rfl Ent.refl
    · have h5 := of_decide_eq_false hb
      (refine w ?_; repeat ((first | refine VO.step rfl rfl ?_ | refine VD.end rfl rfl rfl ?_ | refine VD.mid rfl rfl rfl ?_); refine OpV.box rfl rfl rfl ?_; intro _; refine w ?_))
      exact VE.done1 rfl (by congr 1; simp; omega) Ent.refl
  | some y =>
    obtain ⟨b, wp⟩ := y
    have hn : 5 ≤ ring ∧ ring ≤ 2048 := hx.1 rfl
    obtain ⟨n, rfl⟩ : ∃ n : Nat, ring = n := ⟨ring.toNat, by omega⟩
    dsimp only [Option.elim_some, Option.map_some]
    rw [Int.toNat_natCast]
    (refine w ?_; repeat ((first | refine VO.step rfl rfl ?_ | refine VD.end rfl rfl rfl ?_ | refine VD.mid rfl rfl rfl ?_); refine OpV.box rfl rfl rfl ?_; intro _; refine w ?_))
    ((first | refine VO.step rfl rfl ?_ | refine VD.end rfl rfl rfl ?_ | refine VD.mid rfl rfl rfl ?_); refine OpV.call rfl rfl (fun _ _ => by simp) (wknown_ok) Ent.refl rfl ?_)
    intro _ _
    have hll := hf.len
    (refine w ?_; repeat ((first | refine VO.step rfl rfl ?_ | refine VD.end rfl rfl rfl ?_ | refine VD.mid rfl rfl rfl ?_); refine OpV.box rfl rfl rfl ?_; intro _; refine w ?_))
    ((first | apply VO.pure rfl rfl | apply VD.take rfl rfl rfl | (refine VD.end rfl rfl rfl ?_; apply OpV.pure)); apply PureAt.build sb_49 rfl; (simp [buildX, setL, Value.cells]; rfl); rfl)
    (refine w ?_; repeat ((first | refine VO.step rfl rfl ?_ | refine VD.end rfl rfl rfl ?_ | refine VD.mid rfl rfl rfl ?_); refine OpV.box rfl rfl rfl ?_; intro _; refine w ?_))
    rename_i pl
    refine VC.loop (α := Nat × WalD × BayD × (Option Addr × Nat) × LifeE) (fun y => y.1 ≤ l.length ∧ ∃ X, UInv n (n + 2) y.1 y.2.1 y.2.2.1 X ∧ Cor W y.2.2.2.2 X)
      (fun y => WalR wp b y.2.1 :: BayR b y.2.2.1 :: lifeRow pl y.2.2.2.1 y.2.2.2.2 :: lifeOwn y.2.2.2.1 y.2.2.2.2.sealed :: R)
      (fun y => [(0, .int .i64 n), (1, .slice ao l.length cap), (2, .slice po ps.length pcap), (3, .slice ko lk.length kcap), (9, .pointer (some ⟨b, 0, none⟩)), (10, .pointer (some ⟨wp, 0, none⟩)), (11, .pointer (some ⟨pl, 0, none⟩)), (12, .int .i64 y.1)]) (fun y => l.length - y.1) rfl (0, fresh0 0 1 n, begD n, (none, 0), ⟨[], 0, nilPl⟩) ⟨Nat.zero_le _, _, beg_uinv ⟨by omega, by omega⟩, Cor.start W⟩
      (Ent.trans (Ent.re (L := WalR wp b (fresh0 0 1 n) :: BayR b (begD n) :: lifeRow pl (none, 0) ⟨[], 0, nilPl⟩ :: R)) (fun w hw => Holds.perm (List.Perm.trans (List.Perm.swap _ _ _) (List.Perm.cons _ (List.Perm.trans (List.Perm.swap _ _ _) (List.Perm.cons _ (List.Perm.swap _ _ _))))) (Holds.ownNil 34 1 hw))) ⟨rfl, rfl, rfl, rfl, rfl, rfl, rfl, rfl, trivial⟩ ?_
    rintro ⟨j, v, D, ⟨xo, xc⟩, L⟩ ⟨hj, X, hI, hC⟩
    dsimp only at hj hI hC ⊢
    (refine w ?_; repeat ((first | refine VO.step rfl rfl ?_ | refine VD.end rfl rfl rfl ?_ | refine VD.mid rfl rfl rfl ?_); refine OpV.box rfl rfl rfl ?_; intro _; refine w ?_))
    (refine VC.cond rfl rfl ?_ ?_ <;> intro hc)
    · have hlt : j < l.length := by have := of_decide_eq_true hc; omega
      have hr := hbs.rds (WalR wp b v :: BayR b D :: lifeRow pl (xo, xc) L :: lifeOwn (xo, xc) L.sealed :: R)
      obtain ⟨a, rfl⟩ := some_of_pos hr.nil (by omega)
      have ho := hbs.each _ (List.getElem_mem hlt)
      obtain ⟨s1, s2, s3⟩ := hI.step (by omega) l[j].kind.toNat (l[j].pats.map PatE.D)
      (refine w ?_; repeat ((first | refine VO.step rfl rfl ?_ | refine VD.end rfl rfl rfl ?_ | refine VD.mid rfl rfl rfl ?_); refine OpV.box rfl rfl rfl ?_; intro _; refine w ?_))
      (first | refine VO.pure rfl rfl (.ldRA tab_ok rfl rfl hr (opsC_at l j hlt) rfl) rfl ?_ | refine VD.take rfl rfl rfl (.ldRA tab_ok rfl rfl hr (opsC_at l j hlt) rfl) rfl ?_ | refine VQ.pure rfl rfl (.ldRA tab_ok rfl rfl hr (opsC_at l j hlt) rfl) rfl ?_ | refine VD.end rfl rfl rfl (OpV.pure (.ldRA tab_ok rfl rfl hr (opsC_at l j hlt) rfl) rfl ?_))
      (refine w ?_; repeat ((first | refine VO.step rfl rfl ?_ | refine VD.end rfl rfl rfl ?_ | refine VD.mid rfl rfl rfl ?_); refine OpV.box rfl rfl rfl ?_; intro _; refine w ?_))
      ((first | refine VO.step rfl rfl ?_ | refine VD.end rfl rfl rfl ?_ | refine VD.mid rfl rfl rfl ?_); refine OpV.call rfl rfl (fun _ _ => by simp) (calls_ok wp b v (hI.wok (by omega)) hI.cap (by omega) l[j] ho) Ent.refl rfl ?_)
      intro _ _
      generalize wDo (v, D) l[j].kind.toNat (l[j].pats.map PatE.D) = rr at s1 s2 s3 ⊢
      obtain ⟨e, v2, D2⟩ := rr
      dsimp only at s1 s2 s3 ⊢
      (refine w ?_; repeat ((first | refine VO.step rfl rfl ?_ | refine VD.end rfl rfl rfl ?_ | refine VD.mid rfl rfl rfl ?_); refine OpV.box rfl rfl rfl ?_; intro _; refine w ?_))
      (refine VC.cond rfl rfl ?_ ?_ <;> intro hc)
      · have he : e = 0 := by simpa using hc
        have hr2 := hbs.rds (WalR wp b v2 :: BayR b D2 :: lifeRow pl (xo, xc) L :: lifeOwn (xo, xc) L.sealed :: R)
        (refine w ?_; repeat ((first | refine VO.step rfl rfl ?_ | refine VD.end rfl rfl rfl ?_ | refine VD.mid rfl rfl rfl ?_); refine OpV.box rfl rfl rfl ?_; intro _; refine w ?_))
        (first | refine VO.pure rfl rfl (.ldRA tab_ok rfl rfl hr2 (opsC_at l j hlt) rfl) rfl ?_ | refine VD.take rfl rfl rfl (.ldRA tab_ok rfl rfl hr2 (opsC_at l j hlt) rfl) rfl ?_ | refine VQ.pure rfl rfl (.ldRA tab_ok rfl rfl hr2 (opsC_at l j hlt) rfl) rfl ?_ | refine VD.end rfl rfl rfl (OpV.pure (.ldRA tab_ok rfl rfl hr2 (opsC_at l j hlt) rfl) rfl ?_))
        refine VO.ent (Ent.re (L := lifeRow pl (xo, xc) L :: lifeOwn (xo, xc) L.sealed :: WalR wp b v2 :: BayR b D2 :: R)) ?_
        have hsl : L.sealed.length ≤ 1000000 := by have := hI.len; rw [hC.sealed, List.length_map] at this; omega
        ((first | refine VO.step rfl rfl ?_ | refine VD.end rfl rfl rfl ?_ | refine VD.mid rfl rfl rfl ?_); refine OpV.call rfl rfl (fun _ _ => by simp) (lifedoes_ok pl (xo, xc) L hsl l[j]) Ent.refl rfl ?_)
        intro x2 _
        (refine w ?_; repeat ((first | refine VO.step rfl rfl ?_ | refine VD.end rfl rfl rfl ?_ | refine VD.mid rfl rfl rfl ?_); refine OpV.box rfl rfl rfl ?_; intro _; refine w ?_))
        refine VE.round (j + 1, v2, D2, x2, L.does l[j]) ⟨hlt, _, s1 he, hC.does ho (fun q => s3 (by rw [q]; rfl) he)⟩ (by simp only; omega) ⟨rfl, rfl, rfl, rfl, rfl, rfl, rfl, asV rfl (by congr 1), trivial⟩ Ent.re
      · have he : e ≠ 0 := by simpa using hc
        (refine w ?_; repeat ((first | refine VO.step rfl rfl ?_ | refine VD.end rfl rfl rfl ?_ | refine VD.mid rfl rfl rfl ?_); refine OpV.box rfl rfl rfl ?_; intro _; refine w ?_))
        refine VE.round (j + 1, v2, D2, (xo, xc), L) ⟨hlt, X, (s2 he).1, hC⟩ (by simp only; omega) ⟨rfl, rfl, rfl, rfl, rfl, rfl, rfl, asV rfl (by congr 1), trivial⟩ Ent.refl
    · have hje : j = l.length := by have := of_decide_eq_false hc; omega
      obtain ⟨s1, s2, -⟩ := hI.step (by omega) 1 (ps.map PatE.D)
      rw [show wDo (v, D) 1 (ps.map PatE.D) = wLog (v, D) (ps.map PatE.D) from rfl] at s1 s2
      (refine w ?_; repeat ((first | refine VO.step rfl rfl ?_ | refine VD.end rfl rfl rfl ?_ | refine VD.mid rfl rfl rfl ?_); refine OpV.box rfl rfl rfl ?_; intro _; refine w ?_))
      ((first | refine VO.step rfl rfl ?_ | refine VD.end rfl rfl rfl ?_ | refine VD.mid rfl rfl rfl ?_); refine OpV.call rfl rfl (fun _ _ => by simp) (wallog_ok wp b v (hI.wok (by omega)) hI.cap (by omega) (hpr _) hpf hpl) Ent.refl rfl ?_)
      intro _ _
      generalize wLog (v, D) (ps.map PatE.D) = rr at s1 s2 ⊢
      obtain ⟨e, v2, D2⟩ := rr
      dsimp only at s1 s2 ⊢
      (refine w ?_; repeat ((first | refine VO.step rfl rfl ?_ | refine VD.end rfl rfl rfl ?_ | refine VD.mid rfl rfl rfl ?_); refine OpV.box rfl rfl rfl ?_; intro _; refine w ?_))
      (refine VC.cond rfl rfl ?_ ?_ <;> intro hc)
      · (refine w ?_; repeat ((first | refine VO.step rfl rfl ?_ | refine VD.end rfl rfl rfl ?_ | refine VD.mid rfl rfl rfl ?_); refine OpV.box rfl rfl rfl ?_; intro _; refine w ?_))
        exact VE.done1 rfl rfl Ent.re
      have he : e = 0 := by simpa using hc
      obtain ⟨k, base, hb1, hp, hlv⟩ := (s1 he).live
      obtain ⟨c, v5, D5, k5, e5, b5, hc1, hc2, hop, hn5, hp5, hl5, hs5, -, -⟩ := cut_open hp.slot hlv [lk]
      rw [(s1 he).size] at hop
      have hnx := hlv.next
      have hsd : (X.does 1 (ps.map PatE.D)).sealed = X.sealed := rfl
      have hsu : (X.does 1 (ps.map PatE.D)).sure = X.sealed.length := rfl
      rw [hsd] at hc2 hop hnx hl5
      rw [hsu] at hc1
      obtain rfl : c = X.sealed.length := by omega
      rw [List.take_length] at hop hl5
      have hvn := (s1 he).next
      (refine w ?_; repeat ((first | refine VO.step rfl rfl ?_ | refine VD.end rfl rfl rfl ?_ | refine VD.mid rfl rfl rfl ?_); refine OpV.box rfl rfl rfl ?_; intro _; refine w ?_))
      ((first | refine VO.step rfl rfl ?_ | refine VD.end rfl rfl rfl ?_ | refine VD.mid rfl rfl rfl ?_); refine OpV.buildSlice1 st_92 rfl rfl (by first | (simp; done) | simp [Value.oneCell']) (by decide) rfl ?_; intro nb)
      have hk1 : ∀ Y : List SProp, Keeps W (Row nb 35 [(KeepD.mk ko kcap lk).hdr] :: Y) (some ⟨nb, 0, none⟩) [⟨ko, kcap, lk⟩] := fun Y =>
        ⟨Rds.row (fun u hu => by simp only [List.map_cons, List.map_nil, List.mem_cons, List.not_mem_nil, or_false] at hu; subst hu; rfl) (.head _) rfl, fun x hx => by simp only [List.mem_cons, List.not_mem_nil, or_false] at hx; subst hx; exact hk _⟩
      (refine w ?_; repeat ((first | refine VO.step rfl rfl ?_ | refine VD.end rfl rfl rfl ?_ | refine VD.mid rfl rfl rfl ?_); refine OpV.box rfl rfl rfl ?_; intro _; refine w ?_))
      refine VO.ent (Ent.re (L := BayR b D2 :: Row nb 35 [(KeepD.mk ko kcap lk).hdr] :: WalR wp b v2 :: lifeRow pl (xo, xc) L :: lifeOwn (xo, xc) L.sealed :: R)) ?_
      ((first | refine VO.step rfl rfl ?_ | refine VD.end rfl rfl rfl ?_ | refine VD.mid rfl rfl rfl ?_); refine OpV.call rfl rfl (fun _ _ => by simp) (baycut_ok (kl := [⟨ko, kcap, lk⟩]) b D2 (hk1 _)) Ent.refl rfl ?_)
      intro _ _
      (refine w ?_; repeat ((first | refine VO.step rfl rfl ?_ | refine VD.end rfl rfl rfl ?_ | refine VD.mid rfl rfl rfl ?_); refine OpV.box rfl rfl rfl ?_; intro _; refine w ?_))
      have hO := walopen_ok (W := W) (R := WalR wp b v2 :: lifeRow pl (xo, xc) L :: lifeOwn (xo, xc) L.sealed :: R) (D := D2.cut [lk]) b 0 (n : Int)
      rw [hop] at hO
      refine VO.ent (Ent.re (L := BayR b (D2.cut [lk]) :: WalR wp b v2 :: lifeRow pl (xo, xc) L :: lifeOwn (xo, xc) L.sealed :: R)) ?_
      ((first | refine VO.step rfl rfl ?_ | refine VD.end rfl rfl rfl ?_ | refine VD.mid rfl rfl rfl ?_); refine OpV.call rfl rfl (fun _ _ => by simp) (hO) Ent.refl rfl ?_)
      rintro ⟨yw, ⟨yo, yc⟩, ts⟩ ⟨hy1, hy2⟩
      dsimp only at hy1 hy2
      obtain ⟨w5, rfl⟩ : ∃ w, yw = some w := by cases yw with | none => cases hy1 | some w => exact ⟨w, rfl⟩
      dsimp only [Option.elim_some, Option.getD_some, Option.map_some]
      (refine w ?_; repeat ((first | refine VO.step rfl rfl ?_ | refine VD.end rfl rfl rfl ?_ | refine VD.mid rfl rfl rfl ?_); refine OpV.box rfl rfl rfl ?_; intro _; refine w ?_))
      have htl : ts.length = X.sealed.length := by have := congrArg List.length hy2; rwa [List.length_map, numb_length] at this
      have hLl : L.sealed.length = X.sealed.length := by rw [hC.sealed, List.length_map]
      have hget : ∀ (i : Nat) (h : i < ts.length), ts[i].seq = base + i ∧ ts[i].pats.map PatE.D = X.sealed[i]'(by omega) := by
        intro i h
        have h1 : (ts.map TxnE.T)[i]? = (numb base X.sealed)[i]? := by rw [hy2]
        rw [List.getElem?_map, List.getElem?_eq_getElem h, numb_get _ base i (by omega)] at h1
        injection h1 with h1
        exact ⟨congrArg Prod.fst h1, congrArg Prod.snd h1⟩
      have hfl := hI.len
      have hF : Firsts base ts L.sealed := ⟨by omega, fun i h => by
        rw [(hget i h).2]
        have := hC.sealed
        simp only [this, List.getElem_map], fun i h => (hget i h).1, by omega⟩
      have hfine := hl5.all.lays.fine
      have hlens : ∀ t ∈ ts, t.pats.length ≤ 140737488351232 ∧ ∀ p ∈ t.pats, p.d.data.length ≤ maxLen := by
        intro t ht
        obtain ⟨i, hi2, rfl⟩ := List.mem_iff_getElem.1 ht
        have hg := (hget i hi2).2
        have hfi := hfine i (by show i < X.sealed.length; omega)
        have hfi2 : Fine v5.epoch (base + i) (ts[i].pats.map PatE.D) := by rw [hg]; exact hfi
        have hn2 := hfi2.n2
        rw [List.length_map] at hn2
        refine ⟨by omega, fun p hp => ?_⟩
        have := (hfi2.pat p.D (List.mem_map_of_mem hp)).2.2
        have h128 : p.d.data.length = 128 := this
        rw [h128]; decide
      refine VC.know (p := yo = none → ts.length = 0) (fun w hw => hw.ownNone (.head _)) ?_
      intro hyo
      refine VC.know (p := ∀ t ∈ ts, t.ok) (fun w hw => PilT.know hw.tail) ?_
      intro hok
      refine VC.know (p := xo = none → L.sealed.length = 0) (fun w hw => hw.tail.tail.tail.tail.tail.tail.ownNone (.head _)) ?_
      intro hxo
      refine VC.ent (Ent.re (L := WalR w5 b v5 :: WalR wp b v2 :: lifeRow pl (xo, xc) L :: lifeOwn (xo, xc) L.sealed :: TxnsO (yo, yc) ts :: PilT ts :: R)) ?_
      have hRT : RdTxns W (WalR w5 b v5 :: WalR wp b v2 :: lifeRow pl (xo, xc) L :: lifeOwn (xo, xc) L.sealed :: TxnsO (yo, yc) ts :: PilT ts :: R) yo ts := RdTxns.own (x := (yo, yc)) hyo hok (.tail _ (.tail _ (.tail _ (.tail _ (.head _))))) (.tail _ (.tail _ (.tail _ (.tail _ (.tail _ (.head _))))))
      have hOne : ∀ u ∈ L.sealed.map PlsE.hdr, u.oneCell' = true := by
        intro u hu; obtain ⟨q, _, rfl⟩ := List.mem_map.1 hu; rfl
      have hRA : Rds W (WalR w5 b v5 :: WalR wp b v2 :: lifeRow pl (xo, xc) L :: lifeOwn (xo, xc) L.sealed :: TxnsO (yo, yc) ts :: PilT ts :: R) 1 xo L.sealed.length (L.sealed.map PlsE.hdr) := Rds.own hOne (.tail _ (.tail _ (.tail _ (.head _)))) (by simp) hxo
      refine VC.re 14 (.slice yo ts.length yc) rfl rfl ?_
      refine VC.drawn [23, 27] 29 [0, 1, 2, 3, 4, 5, 6, 7, 8, 9, 10, 11, 12, 13, 14, 15, 16, 17, 18, 19, 20, 21, 22, 23, 24, 25, 26, 28, 27, 29, 30, 31, 32] (lifeRow pl (xo, xc) L :: lifeOwn (xo, xc) L.sealed :: TxnsO (yo, yc) ts :: PilT ts :: R) rfl (by kernel_rfl) (by kernel_rfl) (Ent.drop (Ent.drop Ent.refl)) ?_
      (refine w ?_; repeat ((first | refine VO.step rfl rfl ?_ | refine VD.end rfl rfl rfl ?_ | refine VD.mid rfl rfl rfl ?_); refine OpV.box rfl rfl rfl ?_; intro _; refine w ?_))
      (first | refine VO.gT rfl rfl rfl (by simp; omega) ?_ | refine VD.gT rfl rfl rfl (by simp; omega) ?_)
      (refine w ?_; repeat ((first | refine VO.step rfl rfl ?_ | refine VD.end rfl rfl rfl ?_ | refine VD.mid rfl rfl rfl ?_); refine OpV.box rfl rfl rfl ?_; intro _; refine w ?_))
      ((first | refine VO.step rfl rfl ?_ | refine VD.end rfl rfl rfl ?_ | refine VD.mid rfl rfl rfl ?_); refine OpV.call rfl rfl (fun _ _ => by simp) (are_ok hRT hRA (fun q hq => hC.rd q hq _) hlens (by omega) (L.sealed.length : Int) (by omega) hF) Ent.refl rfl ?_)
      intro _ _
      try refine ⟨Ent.re, ?_⟩
      (refine w ?_; repeat ((first | refine VO.step rfl rfl ?_ | refine VD.end rfl rfl rfl ?_ | refine VD.mid rfl rfl rfl ?_); refine OpV.box rfl rfl rfl ?_; intro _; refine w ?_))
      ((first | refine VO.step rfl rfl ?_ | refine VD.end rfl rfl rfl ?_ | refine VD.mid rfl rfl rfl ?_); refine OpV.call rfl rfl (fun _ _ => by simp) (walnext_ok w5 b v5) Ent.refl rfl ?_)
      intro _ _
      rw [hn5]
      try refine ⟨Ent.re, ?_⟩
      (refine w ?_; repeat ((first | refine VO.step rfl rfl ?_ | refine VD.end rfl rfl rfl ?_ | refine VD.mid rfl rfl rfl ?_); refine OpV.box rfl rfl rfl ?_; intro _; refine w ?_))
      (((first | refine VO.step rfl rfl ?_ | refine VD.end rfl rfl rfl ?_ | refine VD.mid rfl rfl rfl ?_); refine OpV.call rfl rfl (fun _ _ => by simp) (walnext_ok wp b v2) Ent.re rfl ?_); intro _ _)
      rw [hnx]
      (refine w ?_; repeat ((first | refine VO.step rfl rfl ?_ | refine VD.end rfl rfl rfl ?_ | refine VD.mid rfl rfl rfl ?_); refine OpV.box rfl rfl rfl ?_; intro _; refine w ?_))
      exact VE.done1 rfl (by congr 1; simp) Ent.re
end Go.Proofs.YtlojjlbngnaphaaGreat

