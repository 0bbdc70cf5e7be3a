import Derived.Test.YtlojjlbngnaphaaGreatM8
/-! Text Sl, more of it. -/
set_option maxRecDepth 8000
set_option linter.unusedVariables false
set_option linter.unusedSimpArgs false
set_option linter.unusedSectionVars false
namespace Go.Sl
open Go.RowKit

section
variable {W w : World} {H H' R L : List SProp} {P P' Q : SProp}

end
end Go.Sl

set_option maxRecDepth 8000
set_option linter.unusedVariables false
set_option linter.unusedSimpArgs false
set_option linter.unusedSectionVars false
namespace Go.Sl
open Go.RowKit

section
variable {P : Program} {W w : World} {H H' : List SProp} {ops : Array Oper} {rest : List Oper} {a : Act} {Q : Exit → Act → World → Prop} {K : Act → World → Prop}

end
end Go.Sl

set_option maxRecDepth 8000
set_option linter.unusedVariables false
set_option linter.unusedSimpArgs false
set_option linter.unusedSectionVars false
namespace Go.Sl
open Go.RowKit

section
variable {W : World} {P : Program} {n : Nat} {c : Code} {Q : Exit → Act → World → Prop} {H H' L S : List SProp} {f F : Fr}

variable {N : List SProp → Fr → Prop} {dst : Option Tmp} {d : Nat} {ty_ : TypeId} {pos : String} {after : Array Edge} {guard : Option (Nat × Bool)}

end
section
variable {W : World} {P : Program} {n : Nat} {c : Code} {Q : Exit → Act → World → Prop} {H H' L S : List SProp} {f F : Fr} {C : SProp → List SProp}
variable {N : List SProp → Fr → Prop} {dst : Option Tmp} {d : Nat} {ty_ : TypeId} {pos : String} {after : Array Edge} {guard : Option (Nat × Bool)}

theorem VE.doneN {fn : Func} {β : Type} {A : β → Prop} {r : β → Value} {G : β → List SProp} {v : Value} (x : β) (hr : resOf f fn.results.toList = some v) (hA : A x) (hv : v = r x) (hH : Ent W H (G x)) : VE W n (bodyPost P fn (Post W A r G)) .normal H f :=
  VE.result (.inr rfl) hr fun w hw => ⟨x, hA, by rw [hv], hH w hw⟩

end
end Go.Sl

/-! Text Sk, more of it. -/
set_option maxRecDepth 8000
set_option linter.unusedVariables false
set_option linter.unusedSimpArgs false
set_option linter.unusedSectionVars false
namespace Go.Sl
open Go.RowKit

section
variable {P : Program} {ops : Array Oper} {Q : Exit → Act → World → Prop} {md : Region.Mode} {S : World → Prop}

end

section
variable {W : World} {P : Program} {n : Nat} {c : Code} {Q : Exit → Act → World → Prop} {H H' L R : List SProp} {f F : Fr} {mv ord r : List Nat} {tl i : Nat}
variable {dst : Option Tmp} {d : Nat} {ty_ : TypeId} {pos : String} {after : Array Edge} {guard : Option (Nat × Bool)}

end
end Go.Sl

set_option maxRecDepth 8000
set_option linter.unusedVariables false
set_option linter.unusedSimpArgs false
set_option linter.unusedSectionVars false
namespace Go.Sl
open Go
variable {W : World} {P : Program} {n : Nat} {c c1 c2 : Code} {Q : Exit → Act → World → Prop} {H : List SProp} {f : Fr}

end Go.Sl

set_option maxRecDepth 8000
set_option linter.unusedVariables false
set_option linter.unusedSimpArgs false
set_option linter.unusedSectionVars false
namespace Go.Sl
open Go Go.RowKit
section
variable {W : World} {P : Program} {n : Nat} {c : Code} {Q : Exit → Act → World → Prop} {H H' L S : List SProp} {f F : Fr} {C : SProp → List SProp}
variable {N : List SProp → Fr → Prop} {dst : Option Tmp} {d : Nat} {ty_ : TypeId} {pos : String} {after : Array Edge} {guard : Option (Nat × Bool)}

end
end Go.Sl

set_option maxRecDepth 8000
set_option linter.unusedVariables false
set_option linter.unusedSimpArgs false
set_option linter.unusedSectionVars false
namespace Go.Sl
open Go Go.RowKit Go.MapKept
section
variable {W : World} {P : Program} {n : Nat} {c : Code} {Q : Exit → Act → World → Prop} {H H' L S : List SProp} {f F : Fr} {C : SProp → List SProp}
variable {N : List SProp → Fr → Prop} {dst : Option Tmp} {d : Nat} {ty_ : TypeId} {pos : String} {after : Array Edge} {guard : Option (Nat × Bool)}

end

section
variable {α β : Type}
end
end Go.Sl

set_option maxRecDepth 8000
set_option linter.unusedVariables false
set_option linter.unusedSimpArgs false
set_option linter.unusedSectionVars false
namespace Go.Sl
open Go.RowKit

section
variable {H : Type} {enc : TypeId × Value → H} {P : Program} {W : World}

end
end Go.Sl

set_option maxRecDepth 8000
set_option linter.unusedVariables false
set_option linter.unusedSimpArgs false
set_option linter.unusedSectionVars false
namespace Go.Sl
open Go Go.RowKit
section
variable {W : World} {P : Program} {n : Nat} {c : Code} {Q : Exit → Act → World → Prop} {H H' L S R : List SProp} {f F : Fr} {C : SProp → List SProp}
variable {N : List SProp → Fr → Prop} {dst : Option Tmp} {d : Nat} {ty_ : TypeId} {pos : String} {after : Array Edge} {guard : Option (Nat × Bool)}

end
end Go.Sl

set_option maxRecDepth 8000
set_option linter.unusedVariables false
set_option linter.unusedSimpArgs false
set_option linter.unusedSectionVars false
namespace Go.Sl
open Go.RowKit
section
variable {W : World} {P : Program} {H : List SProp} {g : FuncId} {args : List Value}
end

section
variable {W : World} {P : Program} {n : Nat} {c c1 c2 : Code} {Q : Exit → Act → World → Prop} {H : List SProp} {f : Fr}
end
end Go.Sl

set_option maxRecDepth 8000
set_option linter.unusedVariables false
namespace Go.Sl
open Go Go.RowKit
section
variable {W : World} {P : Program} {n : Nat} {H : List SProp} {f : Fr} {dst : Option Tmp} {ty_ : TypeId} {pos : String} {after : Array Edge} {guard : Option (Nat × Bool)}
end
end Go.Sl

set_option linter.unusedVariables false
namespace Go.Sl
end Go.Sl

set_option maxRecDepth 8000
set_option linter.unusedVariables false
set_option linter.unusedSimpArgs false
set_option linter.unusedSectionVars false
namespace Go.Sl
open Go.RowKit

section
variable {W : World} {P : Program} {n : Nat} {H : List SProp} {f : Fr} {dst : Option Tmp} {d : Nat} {ty_ : TypeId} {pos : String} {after : Array Edge} {guard : Option (Nat × Bool)}

end
end Go.Sl

set_option maxRecDepth 8000
set_option linter.unusedVariables false
set_option linter.unusedSimpArgs false
set_option linter.unusedSectionVars false
namespace Go.Sl
open Go.RowKit

end Go.Sl

set_option maxRecDepth 8000
set_option linter.unusedVariables false
set_option linter.unusedSimpArgs false
set_option linter.unusedSectionVars false
namespace Go.Sl
open Go Go.RowKit
section
variable {W : World} {P : Program} {n : Nat} {Q : Exit → Act → World → Prop} {H : List SProp} {f : Fr} {C : SProp → List SProp}
variable {N : List SProp → Fr → Prop} {ty_ : TypeId} {pos : String} {after : Array Edge} {guard : Option (Nat × Bool)}

end
section
variable {W : World} {P : Program} {n : Nat} {c c2 : Code} {Q : Exit → Act → World → Prop} {H : List SProp} {f : Fr}
/-- Branches of a region that meet behind it. -/
theorem VO.joinR {α : Type} {k : Nat} (A : α → Prop) (G : α → List SProp) (F : α → Fr) (h1 : ∀ Q2, Met W n Q Q2 A G F → VO W P n c k Q2 H f) (h2 : ∀ x, A x → VC W P n c2 Q (G x) (F x)) :
    VO W P n c k (thenC P c2 Q) H f := h1 _ (Met.of h2)
end
end Go.Sl

set_option maxRecDepth 8000
set_option linter.unusedVariables false
set_option linter.unusedSimpArgs false
set_option linter.unusedSectionVars false
namespace Go.Sl
open Go Go.RowKit
section
variable {W : World} {P : Program} {n : Nat} {c : Code} {Q : Exit → Act → World → Prop} {H : List SProp} {f : Fr} {C : SProp → List SProp}
variable {N : List SProp → Fr → Prop} {dst : Option Tmp} {d : Nat} {ty_ : TypeId} {pos : String} {after : Array Edge} {guard : Option (Nat × Bool)}

end
end Go.Sl

set_option maxRecDepth 8000
set_option linter.unusedVariables false
set_option linter.unusedSimpArgs false
set_option linter.unusedSectionVars false
namespace Go.Sl
open Go Go.RowKit
section
variable {W : World} {P : Program} {n : Nat} {Q : Exit → Act → World → Prop} {H : List SProp} {f : Fr} {C : SProp → List SProp}
variable {N : List SProp → Fr → Prop} {d : Nat} {ty_ : TypeId} {pos : String} {after : Array Edge} {guard : Option (Nat × Bool)}

end
end Go.Sl

set_option maxRecDepth 8000
set_option linter.unusedVariables false
set_option linter.unusedSimpArgs false
set_option linter.unusedSectionVars false
namespace Go.Sl
open Go Go.RowKit
section
variable {P : Program} {ops : Array Oper} {Q : Exit → Act → World → Prop} {S : World → Prop}

end
section
variable {W : World} {P : Program} {n : Nat} {c : Code} {Q : Exit → Act → World → Prop} {H H' L R : List SProp} {f F : Fr} {mv ord r : List Nat} {tl i x : Nat}
variable {dst : Option Tmp} {d e : Nat} {ty_ : TypeId} {pos : String} {after : Array Edge} {guard : Option (Nat × Bool)} {X : Nat → SProp} {vx : Nat → Value}

end
end Go.Sl

/-! Text Tab, more of it. -/
namespace Go.Proofs.YtlojjlbngnaphaaGreat
open Go.Sl
theorem st_47 : SliceT Tryz.prog 47 34 (.slice none 0 0) 1 24 := ⟨by kernel_rfl, by kernel_rfl, rfl, by simp [Value.cells, Value.oneCell']⟩
theorem sb_37 : StructT Tryz.prog 37 [.int .i64 0, .int .i64 0, .slice none 0 0, .slice none 0 0] [(0, 1), (1, 1), (2, 1), (3, 1)] := ⟨fun w => by simp, _, Tryz.underlying37, fun w => by simp⟩
theorem sb_49 : StructT Tryz.prog 49 [.slice none 0 0, .int .i64 0, .slice none 0 0] [(0, 1), (1, 1), (2, 1)] := ⟨fun w => by simp, _, Tryz.underlying49, fun w => by simp⟩
end Go.Proofs.YtlojjlbngnaphaaGreat

/-! Text Bd, more of it. -/
set_option maxRecDepth 8000
set_option linter.unusedVariables false
set_option linter.unusedSimpArgs false
set_option linter.unusedSectionVars false
namespace Go.Proofs.YtlojjlbngnaphaaGreat
open Go.RowKit Go.Sl
attribute [local irreducible] Own

theorem baytrip_ok {W : World} {R : List SProp} (b : Nat) (D : BayD) (n : Int) :
    Does1 W Tryz.prog 34 [.pointer (some ⟨b, 0, none⟩), .int .i64 n] (BayR b D :: R) (.int .u16 (D.trips n).1) (BayR b (D.trips n).2 :: R) := by
  (refine Does.enter Tryz.func34 Tryz.ntmps34 rfl rfl ?_)
  refine VC.obtain (fun w => BayR.open) ?_
  rintro ⟨⟨a, sp⟩, h1, h2⟩
  dsimp only at h1 h2 ⊢
  (refine w ?_; repeat ((first | refine VO.step rfl rfl ?_ | refine VD.end rfl rfl rfl ?_ | refine VD.mid rfl rfl rfl ?_); refine OpV.box rfl rfl rfl ?_; intro _; refine w ?_))
  unfold BayD.trips
  (refine VC.cond rfl rfl ?_ ?_ <;> intro hc)
  · have h : n < 0 := of_decide_eq_true hc
    rw [if_pos h]
    (refine w ?_; repeat ((first | refine VO.step rfl rfl ?_ | refine VD.end rfl rfl rfl ?_ | refine VD.mid rfl rfl rfl ?_); refine OpV.box rfl rfl rfl ?_; intro _; refine w ?_))
    (refine VE.done1 rfl ?_ ?_)
    · rfl
    · exact BayR.shut h1 h2
  have h : ¬ n < 0 := of_decide_eq_false hc
  rw [if_neg h]
  (refine w ?_; repeat ((first | refine VO.step rfl rfl ?_ | refine VD.end rfl rfl rfl ?_ | refine VD.mid rfl rfl rfl ?_); refine OpV.box rfl rfl rfl ?_; intro _; refine w ?_))
  (refine VC.cond rfl rfl ?_ ?_ <;> intro hc)
  · rw [if_pos hc]
    (refine w ?_; repeat ((first | refine VO.step rfl rfl ?_ | refine VD.end rfl rfl rfl ?_ | refine VD.mid rfl rfl rfl ?_); refine OpV.box rfl rfl rfl ?_; intro _; refine w ?_))
    (refine VE.done1 rfl ?_ ?_)
    · rfl
    · exact BayR.shut h1 h2
  · rw [if_neg (by rw [show D.dark = false from hc]; simp)]
    (refine w ?_; repeat ((first | refine VO.step rfl rfl ?_ | refine VD.end rfl rfl rfl ?_ | refine VD.mid rfl rfl rfl ?_); refine OpV.box rfl rfl rfl ?_; intro _; refine w ?_))
    (refine VE.done1 rfl ?_ ?_)
    · rfl
    · exact BayR.shut (D := { D with trip := n }) h1 h2

end Go.Proofs.YtlojjlbngnaphaaGreat

/-! Text Bh, more of it. -/
set_option maxRecDepth 8000
set_option linter.unusedVariables false
set_option linter.unusedSimpArgs false
set_option linter.unusedSectionVars false
namespace Go.Proofs.YtlojjlbngnaphaaGreat
open Go.RowKit Go.Sl
attribute [local irreducible] Own

def kD5 : BayD := (kD4.read 0 1).2
def kD6 : BayD := (kD5.read 0 1).2
theorem k7 : kD6.n = ⟨2, 1, 1⟩ := by kernel_rfl

end Go.Proofs.YtlojjlbngnaphaaGreat

/-! Text Bm, more of it. -/
set_option maxRecDepth 8000
set_option linter.unusedVariables false
set_option linter.unusedSimpArgs false
set_option linter.unusedSectionVars false
namespace Go.Proofs.YtlojjlbngnaphaaGreat
open Go.RowKit Go.Sl

theorem cut_capd {D : BayD} {c : Nat} (h : D.capd c) (kl : List (List Bool)) : (D.cut kl).capd c := by
  intro s hs
  simp only [BayD.cut, List.mem_mapIdx] at hs
  obtain ⟨i, hi, rfl⟩ := hs
  have h0 := h D.slots[i] (List.getElem_mem hi)
  intro v hv
  unfold SlotD.cut at hv
  split at hv
  · rcases hv with q | q | q
    · exact h0 v (.inr (.inr q))
    · exact h0 v (.inr (.inl q))
    · cases q
  · rcases hv with q | q | q
    · obtain ⟨u, _, rfl⟩ := Option.map_eq_some_iff.1 q
      exact Nat.zero_le _
    · exact h0 v (.inr (.inl q))
    · cases q
end Go.Proofs.YtlojjlbngnaphaaGreat

/-! Text Nm, more of it. -/
set_option maxRecDepth 8000
set_option linter.unusedVariables false
set_option linter.unusedSimpArgs false
set_option linter.unusedSectionVars false
namespace Go.Proofs.YtlojjlbngnaphaaGreat
open Go.RowKit Go.Sl
attribute [local irreducible] Own

set_option maxHeartbeats 1000000 in
theorem samepats_ok {W : World} {R : List SProp} {ao bo : Option Addr} {ac bc : Nat} {l m : List PatE} (hl : RdPats W R ao l) (hm : RdPats W R bo m) (hn : l.length ≤ 140737488351232) (hd : ∀ p ∈ l, p.d.data.length ≤ maxLen) :
    Does1 W Tryz.prog 62 [.slice ao l.length ac, .slice bo m.length bc] R (.bool (decide (l.map PatE.D = m.map PatE.D))) R := by
  (refine Does.enter Tryz.func62 Tryz.ntmps62 rfl rfl ?_)
  (refine w ?_; repeat ((first | refine VO.step rfl rfl ?_ | refine VD.end rfl rfl rfl ?_ | refine VD.mid rfl rfl rfl ?_); refine OpV.box rfl rfl rfl ?_; intro _; refine w ?_))
  (refine VC.cond rfl rfl ?_ ?_ <;> intro hc)
  · have h : ¬ l.length = m.length := by have : ¬ (l.length : Int) = m.length := (by simpa using hc); omega
    (refine w ?_; repeat ((first | refine VO.step rfl rfl ?_ | refine VD.end rfl rfl rfl ?_ | refine VD.mid rfl rfl rfl ?_); refine OpV.box rfl rfl rfl ?_; intro _; refine w ?_))
    (refine VE.done1 rfl ?_ ?_)
    · congr 1; symm; exact decide_eq_false (fun e => h (by have := congrArg List.length e; rwa [List.length_map, List.length_map] at this))
    · exact Ent.refl
  have h : l.length = m.length := by have : (l.length : Int) = m.length := (by simpa using hc); omega
  (refine w ?_; repeat ((first | refine VO.step rfl rfl ?_ | refine VD.end rfl rfl rfl ?_ | refine VD.mid rfl rfl rfl ?_); refine OpV.box rfl rfl rfl ?_; intro _; refine w ?_))
  refine VC.loop (α := Nat) (fun i => i ≤ l.length ∧ (l.map PatE.D).take i = (m.map PatE.D).take i) (fun _ => R) (fun i => [(0, .slice ao l.length ac), (1, .slice bo m.length bc), (5, .int .i64 i)]) (fun i => l.length - i) rfl 0 ⟨Nat.zero_le _, by simp⟩ Ent.refl ⟨rfl, rfl, rfl, trivial⟩ ?_
  rintro i ⟨hi, he⟩
  (refine w ?_; repeat ((first | refine VO.step rfl rfl ?_ | refine VD.end rfl rfl rfl ?_ | refine VD.mid rfl rfl rfl ?_); refine OpV.box rfl rfl rfl ?_; intro _; refine w ?_))
  (refine VC.cond rfl rfl ?_ ?_ <;> intro hc)
  · have hlt : i < l.length := by have := of_decide_eq_true hc; omega
    have hlt2 : i < m.length := by omega
    obtain ⟨a, rfl⟩ := some_of_pos hl.rds.nil (by omega)
    obtain ⟨b, rfl⟩ := some_of_pos hm.rds.nil (by omega)
    have hno : l[i].D ≠ m[i].D → Value.bool false = Value.bool (decide (l.map PatE.D = m.map PatE.D)) := fun hx => by
      congr 1; symm
      refine decide_eq_false (fun e => hx ?_)
      have h1 := congrArg (fun z => z[i]?) e
      simpa [List.getElem?_map, List.getElem?_eq_getElem hlt, List.getElem?_eq_getElem hlt2] using h1
    (refine w ?_; repeat ((first | refine VO.step rfl rfl ?_ | refine VD.end rfl rfl rfl ?_ | refine VD.mid rfl rfl rfl ?_); refine OpV.box rfl rfl rfl ?_; intro _; refine w ?_))
    ((refine VC.quiet rfl (by kernel_rfl) (by kernel_rfl) ?_); (refine w ?_; repeat ((first | refine VO.step rfl rfl ?_ | refine VD.end rfl rfl rfl ?_ | refine VD.mid rfl rfl rfl ?_); refine OpV.box rfl rfl rfl ?_; intro _; refine w ?_)))
    (first | refine VO.pure rfl rfl (PureAt.ldRc tab_ok rfl rfl hl.rds (pat_get l i 0 hlt (by decide))) rfl ?_ | refine VD.take rfl rfl rfl (PureAt.ldRc tab_ok rfl rfl hl.rds (pat_get l i 0 hlt (by decide))) rfl ?_ | refine VQ.pure rfl rfl (PureAt.ldRc tab_ok rfl rfl hl.rds (pat_get l i 0 hlt (by decide))) rfl ?_ | refine VD.end rfl rfl rfl (OpV.pure (PureAt.ldRc tab_ok rfl rfl hl.rds (pat_get l i 0 hlt (by decide))) rfl ?_))
    (refine w ?_; repeat ((first | refine VO.step rfl rfl ?_ | refine VD.end rfl rfl rfl ?_ | refine VD.mid rfl rfl rfl ?_); refine OpV.box rfl rfl rfl ?_; intro _; refine w ?_))
    (first | refine VO.pure rfl rfl (PureAt.ldRc tab_ok rfl rfl hm.rds (pat_get m i 0 hlt2 (by decide))) rfl ?_ | refine VD.take rfl rfl rfl (PureAt.ldRc tab_ok rfl rfl hm.rds (pat_get m i 0 hlt2 (by decide))) rfl ?_ | refine VQ.pure rfl rfl (PureAt.ldRc tab_ok rfl rfl hm.rds (pat_get m i 0 hlt2 (by decide))) rfl ?_ | refine VD.end rfl rfl rfl (OpV.pure (PureAt.ldRc tab_ok rfl rfl hm.rds (pat_get m i 0 hlt2 (by decide))) rfl ?_))
    (refine w ?_; repeat ((first | refine VO.step rfl rfl ?_ | refine VD.end rfl rfl rfl ?_ | refine VD.mid rfl rfl rfl ?_); refine OpV.box rfl rfl rfl ?_; intro _; refine w ?_))
    (refine VQ.split rfl rfl rfl ?_ ?_ <;> intro hb)
    · (refine w ?_; repeat ((first | refine VO.step rfl rfl ?_ | refine VD.end rfl rfl rfl ?_ | refine VD.mid rfl rfl rfl ?_); refine OpV.box rfl rfl rfl ?_; intro _; refine w ?_))
      (refine VE.done1 rfl ?_ ?_)
      · exact hno (fun e => by have := congrArg PatD.member e; simp [PatE.D] at this; simp [this] at hb)
      · exact Ent.refl
    (refine w ?_; repeat ((first | refine VO.step rfl rfl ?_ | refine VD.end rfl rfl rfl ?_ | refine VD.mid rfl rfl rfl ?_); refine OpV.box rfl rfl rfl ?_; intro _; refine w ?_))
    (first | refine VO.pure rfl rfl (PureAt.ldRc tab_ok rfl rfl hl.rds (pat_get l i 1 hlt (by decide))) rfl ?_ | refine VD.take rfl rfl rfl (PureAt.ldRc tab_ok rfl rfl hl.rds (pat_get l i 1 hlt (by decide))) rfl ?_ | refine VQ.pure rfl rfl (PureAt.ldRc tab_ok rfl rfl hl.rds (pat_get l i 1 hlt (by decide))) rfl ?_ | refine VD.end rfl rfl rfl (OpV.pure (PureAt.ldRc tab_ok rfl rfl hl.rds (pat_get l i 1 hlt (by decide))) rfl ?_))
    (refine w ?_; repeat ((first | refine VO.step rfl rfl ?_ | refine VD.end rfl rfl rfl ?_ | refine VD.mid rfl rfl rfl ?_); refine OpV.box rfl rfl rfl ?_; intro _; refine w ?_))
    (first | refine VO.pure rfl rfl (PureAt.ldRc tab_ok rfl rfl hm.rds (pat_get m i 1 hlt2 (by decide))) rfl ?_ | refine VD.take rfl rfl rfl (PureAt.ldRc tab_ok rfl rfl hm.rds (pat_get m i 1 hlt2 (by decide))) rfl ?_ | refine VQ.pure rfl rfl (PureAt.ldRc tab_ok rfl rfl hm.rds (pat_get m i 1 hlt2 (by decide))) rfl ?_ | refine VD.end rfl rfl rfl (OpV.pure (PureAt.ldRc tab_ok rfl rfl hm.rds (pat_get m i 1 hlt2 (by decide))) rfl ?_))
    have hm0 : l[i].member = m[i].member := by simpa using hb
    clear hb
    (refine w ?_; repeat ((first | refine VO.step rfl rfl ?_ | refine VD.end rfl rfl rfl ?_ | refine VD.mid rfl rfl rfl ?_); refine OpV.box rfl rfl rfl ?_; intro _; refine w ?_))
    (refine VQ.split rfl rfl rfl ?_ ?_ <;> intro hb)
    · (refine w ?_; repeat ((first | refine VO.step rfl rfl ?_ | refine VD.end rfl rfl rfl ?_ | refine VD.mid rfl rfl rfl ?_); refine OpV.box rfl rfl rfl ?_; intro _; refine w ?_))
      (refine VE.done1 rfl ?_ ?_)
      · exact hno (fun e => by have := congrArg PatD.row e; simp [PatE.D] at this; simp [this] at hb)
      · exact Ent.refl
    have hr0 : l[i].row = m[i].row := by simpa using hb
    clear hb
    (refine w ?_; repeat ((first | refine VO.step rfl rfl ?_ | refine VD.end rfl rfl rfl ?_ | refine VD.mid rfl rfl rfl ?_); refine OpV.box rfl rfl rfl ?_; intro _; refine w ?_))
    (first | refine VO.pure rfl rfl (PureAt.ldRc tab_ok rfl rfl hl.rds (pat_get l i 2 hlt (by decide))) rfl ?_ | refine VD.take rfl rfl rfl (PureAt.ldRc tab_ok rfl rfl hl.rds (pat_get l i 2 hlt (by decide))) rfl ?_ | refine VQ.pure rfl rfl (PureAt.ldRc tab_ok rfl rfl hl.rds (pat_get l i 2 hlt (by decide))) rfl ?_ | refine VD.end rfl rfl rfl (OpV.pure (PureAt.ldRc tab_ok rfl rfl hl.rds (pat_get l i 2 hlt (by decide))) rfl ?_))
    (refine w ?_; repeat ((first | refine VO.step rfl rfl ?_ | refine VD.end rfl rfl rfl ?_ | refine VD.mid rfl rfl rfl ?_); refine OpV.box rfl rfl rfl ?_; intro _; refine w ?_))
    (first | refine VO.pure rfl rfl (PureAt.ldRc tab_ok rfl rfl hm.rds (pat_get m i 2 hlt2 (by decide))) rfl ?_ | refine VD.take rfl rfl rfl (PureAt.ldRc tab_ok rfl rfl hm.rds (pat_get m i 2 hlt2 (by decide))) rfl ?_ | refine VQ.pure rfl rfl (PureAt.ldRc tab_ok rfl rfl hm.rds (pat_get m i 2 hlt2 (by decide))) rfl ?_ | refine VD.end rfl rfl rfl (OpV.pure (PureAt.ldRc tab_ok rfl rfl hm.rds (pat_get m i 2 hlt2 (by decide))) rfl ?_))
    (refine w ?_; repeat ((first | refine VO.step rfl rfl ?_ | refine VD.end rfl rfl rfl ?_ | refine VD.mid rfl rfl rfl ?_); refine OpV.box rfl rfl rfl ?_; intro _; refine w ?_))
    (refine VQ.call rfl rfl rfl rfl (fun _ _ => by simp) (same_any (hl.each _ (List.getElem_mem hlt)) (hm.each _ (List.getElem_mem hlt2)) (hd _ (List.getElem_mem hlt))) Ent.refl Ent.refl rfl ?_)
    (refine w ?_; repeat ((first | refine VO.step rfl rfl ?_ | refine VD.end rfl rfl rfl ?_ | refine VD.mid rfl rfl rfl ?_); refine OpV.box rfl rfl rfl ?_; intro _; refine w ?_))
    (refine VC.cond rfl rfl ?_ ?_ <;> intro hc)
    · have hx : l[i].d.data ≠ m[i].d.data := by simpa using hc
      (refine w ?_; repeat ((first | refine VO.step rfl rfl ?_ | refine VD.end rfl rfl rfl ?_ | refine VD.mid rfl rfl rfl ?_); refine OpV.box rfl rfl rfl ?_; intro _; refine w ?_))
      (refine VE.done1 rfl ?_ ?_)
      · exact hno (fun e => hx (congrArg PatD.data e))
      · exact Ent.refl
    · have hx : l[i].d.data = m[i].d.data := by simpa using hc
      (refine w ?_; repeat ((first | refine VO.step rfl rfl ?_ | refine VD.end rfl rfl rfl ?_ | refine VD.mid rfl rfl rfl ?_); refine OpV.box rfl rfl rfl ?_; intro _; refine w ?_))
      refine VE.round (i + 1) ⟨hlt, ?_⟩ (by omega) ⟨rfl, rfl, asV rfl (by congr 1), trivial⟩ Ent.refl
      rw [List.take_succ_eq_append_getElem (by simpa using hlt), List.take_succ_eq_append_getElem (by simpa using hlt2), he, List.getElem_map, List.getElem_map]
      congr 2
      unfold PatE.D
      rw [hm0, hr0, hx]
  · have hge : i = l.length := by have := of_decide_eq_false hc; omega
    subst hge
    rw [List.take_of_length_le (by simp), List.take_of_length_le (by simp; omega)] at he
    (refine w ?_; repeat ((first | refine VO.step rfl rfl ?_ | refine VD.end rfl rfl rfl ?_ | refine VD.mid rfl rfl rfl ?_); refine OpV.box rfl rfl rfl ?_; intro _; refine w ?_))
    (refine VE.done1 rfl ?_ ?_)
    · rw [he]; simp
    · exact Ent.refl

set_option maxHeartbeats 1000000 in
theorem sametxns_ok {W : World} {R : List SProp} {ao bo : Option Addr} {ac bc : Nat} {l m : List TxnE} (hl : RdTxns W R ao l) (hm : RdTxns W R bo m) (hn : l.length ≤ 140737488351232) (hd : ∀ t ∈ l, t.pats.length ≤ 140737488351232 ∧ ∀ p ∈ t.pats, p.d.data.length ≤ maxLen) :
    Does1 W Tryz.prog 35 [.slice ao l.length ac, .slice bo m.length bc] R (.bool (decide (l.map TxnE.T = m.map TxnE.T))) R := by
  (refine Does.enter Tryz.func35 Tryz.ntmps35 rfl rfl ?_)
  (refine w ?_; repeat ((first | refine VO.step rfl rfl ?_ | refine VD.end rfl rfl rfl ?_ | refine VD.mid rfl rfl rfl ?_); refine OpV.box rfl rfl rfl ?_; intro _; refine w ?_))
  (refine VC.cond rfl rfl ?_ ?_ <;> intro hc)
  · have h : ¬ l.length = m.length := by have : ¬ (l.length : Int) = m.length := (by simpa using hc); omega
    (refine w ?_; repeat ((first | refine VO.step rfl rfl ?_ | refine VD.end rfl rfl rfl ?_ | refine VD.mid rfl rfl rfl ?_); refine OpV.box rfl rfl rfl ?_; intro _; refine w ?_))
    (refine VE.done1 rfl ?_ ?_)
    · congr 1; symm; exact decide_eq_false (fun e => h (by have := congrArg List.length e; rwa [List.length_map, List.length_map] at this))
    · exact Ent.refl
  have h : l.length = m.length := by have : (l.length : Int) = m.length := (by simpa using hc); omega
  (refine w ?_; repeat ((first | refine VO.step rfl rfl ?_ | refine VD.end rfl rfl rfl ?_ | refine VD.mid rfl rfl rfl ?_); refine OpV.box rfl rfl rfl ?_; intro _; refine w ?_))
  refine VC.loop (α := Nat) (fun i => i ≤ l.length ∧ (l.map TxnE.T).take i = (m.map TxnE.T).take i) (fun _ => R) (fun i => [(0, .slice ao l.length ac), (1, .slice bo m.length bc), (5, .int .i64 i)]) (fun i => l.length - i) rfl 0 ⟨Nat.zero_le _, by simp⟩ Ent.refl ⟨rfl, rfl, rfl, trivial⟩ ?_
  rintro i ⟨hi, he⟩
  (refine w ?_; repeat ((first | refine VO.step rfl rfl ?_ | refine VD.end rfl rfl rfl ?_ | refine VD.mid rfl rfl rfl ?_); refine OpV.box rfl rfl rfl ?_; intro _; refine w ?_))
  (refine VC.cond rfl rfl ?_ ?_ <;> intro hc)
  · have hlt : i < l.length := by have := of_decide_eq_true hc; omega
    have hlt2 : i < m.length := by omega
    obtain ⟨a, rfl⟩ := some_of_pos hl.rds.nil (by omega)
    obtain ⟨b, rfl⟩ := some_of_pos hm.rds.nil (by omega)
    have hno : l[i].T ≠ m[i].T → Value.bool false = Value.bool (decide (l.map TxnE.T = m.map TxnE.T)) := fun hx => by
      congr 1; symm
      refine decide_eq_false (fun e => hx ?_)
      have h1 := congrArg (fun z => z[i]?) e
      simpa [List.getElem?_map, List.getElem?_eq_getElem hlt, List.getElem?_eq_getElem hlt2] using h1
    (refine w ?_; repeat ((first | refine VO.step rfl rfl ?_ | refine VD.end rfl rfl rfl ?_ | refine VD.mid rfl rfl rfl ?_); refine OpV.box rfl rfl rfl ?_; intro _; refine w ?_))
    ((refine VC.quiet rfl (by kernel_rfl) (by kernel_rfl) ?_); (refine w ?_; repeat ((first | refine VO.step rfl rfl ?_ | refine VD.end rfl rfl rfl ?_ | refine VD.mid rfl rfl rfl ?_); refine OpV.box rfl rfl rfl ?_; intro _; refine w ?_)))
    (first | refine VO.pure rfl rfl (PureAt.ldRc tab_ok rfl rfl hl.rds (txn_get l i 0 hlt (by decide))) rfl ?_ | refine VD.take rfl rfl rfl (PureAt.ldRc tab_ok rfl rfl hl.rds (txn_get l i 0 hlt (by decide))) rfl ?_ | refine VQ.pure rfl rfl (PureAt.ldRc tab_ok rfl rfl hl.rds (txn_get l i 0 hlt (by decide))) rfl ?_ | refine VD.end rfl rfl rfl (OpV.pure (PureAt.ldRc tab_ok rfl rfl hl.rds (txn_get l i 0 hlt (by decide))) rfl ?_))
    (refine w ?_; repeat ((first | refine VO.step rfl rfl ?_ | refine VD.end rfl rfl rfl ?_ | refine VD.mid rfl rfl rfl ?_); refine OpV.box rfl rfl rfl ?_; intro _; refine w ?_))
    (first | refine VO.pure rfl rfl (PureAt.ldRc tab_ok rfl rfl hm.rds (txn_get m i 0 hlt2 (by decide))) rfl ?_ | refine VD.take rfl rfl rfl (PureAt.ldRc tab_ok rfl rfl hm.rds (txn_get m i 0 hlt2 (by decide))) rfl ?_ | refine VQ.pure rfl rfl (PureAt.ldRc tab_ok rfl rfl hm.rds (txn_get m i 0 hlt2 (by decide))) rfl ?_ | refine VD.end rfl rfl rfl (OpV.pure (PureAt.ldRc tab_ok rfl rfl hm.rds (txn_get m i 0 hlt2 (by decide))) rfl ?_))
    (refine w ?_; repeat ((first | refine VO.step rfl rfl ?_ | refine VD.end rfl rfl rfl ?_ | refine VD.mid rfl rfl rfl ?_); refine OpV.box rfl rfl rfl ?_; intro _; refine w ?_))
    (refine VQ.split rfl rfl rfl ?_ ?_ <;> intro hb)
    · (refine w ?_; repeat ((first | refine VO.step rfl rfl ?_ | refine VD.end rfl rfl rfl ?_ | refine VD.mid rfl rfl rfl ?_); refine OpV.box rfl rfl rfl ?_; intro _; refine w ?_))
      (refine VE.done1 rfl ?_ ?_)
      · exact hno (fun e => by have := congrArg Prod.fst e; simp [TxnE.T] at this; simp [this] at hb)
      · exact Ent.refl
    have hs0 : l[i].seq = m[i].seq := by have : (l[i].seq : Int) = m[i].seq := (by simpa using hb); omega
    clear hb
    (refine w ?_; repeat ((first | refine VO.step rfl rfl ?_ | refine VD.end rfl rfl rfl ?_ | refine VD.mid rfl rfl rfl ?_); refine OpV.box rfl rfl rfl ?_; intro _; refine w ?_))
    (first | refine VO.pure rfl rfl (PureAt.ldRc tab_ok rfl rfl hl.rds (txn_get l i 1 hlt (by decide))) rfl ?_ | refine VD.take rfl rfl rfl (PureAt.ldRc tab_ok rfl rfl hl.rds (txn_get l i 1 hlt (by decide))) rfl ?_ | refine VQ.pure rfl rfl (PureAt.ldRc tab_ok rfl rfl hl.rds (txn_get l i 1 hlt (by decide))) rfl ?_ | refine VD.end rfl rfl rfl (OpV.pure (PureAt.ldRc tab_ok rfl rfl hl.rds (txn_get l i 1 hlt (by decide))) rfl ?_))
    (refine w ?_; repeat ((first | refine VO.step rfl rfl ?_ | refine VD.end rfl rfl rfl ?_ | refine VD.mid rfl rfl rfl ?_); refine OpV.box rfl rfl rfl ?_; intro _; refine w ?_))
    (first | refine VO.pure rfl rfl (PureAt.ldRc tab_ok rfl rfl hm.rds (txn_get m i 1 hlt2 (by decide))) rfl ?_ | refine VD.take rfl rfl rfl (PureAt.ldRc tab_ok rfl rfl hm.rds (txn_get m i 1 hlt2 (by decide))) rfl ?_ | refine VQ.pure rfl rfl (PureAt.ldRc tab_ok rfl rfl hm.rds (txn_get m i 1 hlt2 (by decide))) rfl ?_ | refine VD.end rfl rfl rfl (OpV.pure (PureAt.ldRc tab_ok rfl rfl hm.rds (txn_get m i 1 hlt2 (by decide))) rfl ?_))
    (refine w ?_; repeat ((first | refine VO.step rfl rfl ?_ | refine VD.end rfl rfl rfl ?_ | refine VD.mid rfl rfl rfl ?_); refine OpV.box rfl rfl rfl ?_; intro _; refine w ?_))
    (refine VQ.call rfl rfl rfl rfl (fun _ _ => by simp) (samepats_ok (hl.each _ (List.getElem_mem hlt)) (hm.each _ (List.getElem_mem hlt2)) (hd _ (List.getElem_mem hlt)).1 (hd _ (List.getElem_mem hlt)).2) Ent.refl Ent.refl rfl ?_)
    (refine w ?_; repeat ((first | refine VO.step rfl rfl ?_ | refine VD.end rfl rfl rfl ?_ | refine VD.mid rfl rfl rfl ?_); refine OpV.box rfl rfl rfl ?_; intro _; refine w ?_))
    (refine VC.cond rfl rfl ?_ ?_ <;> intro hc)
    · have hx : l[i].pats.map PatE.D ≠ m[i].pats.map PatE.D := by simpa using hc
      (refine w ?_; repeat ((first | refine VO.step rfl rfl ?_ | refine VD.end rfl rfl rfl ?_ | refine VD.mid rfl rfl rfl ?_); refine OpV.box rfl rfl rfl ?_; intro _; refine w ?_))
      (refine VE.done1 rfl ?_ ?_)
      · exact hno (fun e => hx (congrArg Prod.snd e))
      · exact Ent.refl
    · have hx : l[i].pats.map PatE.D = m[i].pats.map PatE.D := by simpa using hc
      (refine w ?_; repeat ((first | refine VO.step rfl rfl ?_ | refine VD.end rfl rfl rfl ?_ | refine VD.mid rfl rfl rfl ?_); refine OpV.box rfl rfl rfl ?_; intro _; refine w ?_))
      refine VE.round (i + 1) ⟨hlt, ?_⟩ (by omega) ⟨rfl, rfl, asV rfl (by congr 1), trivial⟩ Ent.refl
      rw [List.take_succ_eq_append_getElem (by simpa using hlt), List.take_succ_eq_append_getElem (by simpa using hlt2), he, List.getElem_map, List.getElem_map]
      congr 2
      unfold TxnE.T
      rw [hs0, hx]
  · have hge : i = l.length := by have := of_decide_eq_false hc; omega
    subst hge
    rw [List.take_of_length_le (by simp), List.take_of_length_le (by simp; omega)] at he
    (refine w ?_; repeat ((first | refine VO.step rfl rfl ?_ | refine VD.end rfl rfl rfl ?_ | refine VD.mid rfl rfl rfl ?_); refine OpV.box rfl rfl rfl ?_; intro _; refine w ?_))
    (refine VE.done1 rfl ?_ ?_)
    · rw [he]; simp
    · exact Ent.refl

end Go.Proofs.YtlojjlbngnaphaaGreat

/-! Text Uq. -/
/- The journal's laws: a life: what was done: walked. -/
set_option maxRecDepth 8000
set_option linter.unusedVariables false
set_option linter.unusedSimpArgs false
set_option linter.unusedSectionVars false
namespace Go.Proofs.YtlojjlbngnaphaaGreat
open Go.RowKit Go.Sl
attribute [local irreducible] Own

structure LifeE where
  sealed : List PlsE
  sure : Nat
  logged : PlsE
abbrev nilPl : PlsE := ⟨none, 0, []⟩
abbrev lifeRow (p : Nat) (x : Option Addr × Nat) (L : LifeE) : SProp := Row p 49 [.slice x.1 L.sealed.length x.2, .int .i64 L.sure, L.logged.hdr]
abbrev lifeOwn (x : Option Addr × Nat) (l : List PlsE) : SProp := Sl.Own 34 1 (.slice x.1 l.length x.2) l.length (l.map PlsE.hdr)
abbrev OpE.pl (o : OpE) : PlsE := ⟨o.x.1, o.x.2, o.pats⟩
def LifeE.does (L : LifeE) (o : OpE) : LifeE :=
  if o.kind = 1 then ⟨L.sealed, L.sealed.length, o.pl⟩ else if o.kind = 2 then ⟨L.sealed ++ [L.logged], L.sure, nilPl⟩ else
  if o.kind = 3 then ⟨L.sealed, L.sealed.length, L.logged⟩ else if o.kind = 4 ∨ o.kind = 5 then ⟨[], 0, nilPl⟩ else L
set_option maxHeartbeats 2000000 in
theorem lifedoes_ok {W : World} {R : List SProp} (p : Nat) (x : Option Addr × Nat) (L : LifeE) (hl : L.sealed.length ≤ 1000000) (o : OpE) :
    Does W Tryz.prog 22 [.pointer (some ⟨p, 0, none⟩), .agg o.cells.toArray] (lifeRow p x L :: lifeOwn x L.sealed :: R) (β := Option Addr × Nat) (fun _ => True) (fun _ => .tuple #[])
      (fun y => lifeRow p y (L.does o) :: lifeOwn y (L.does o).sealed :: R) := by
  obtain ⟨xo, xc⟩ := x
  unfold LifeE.does
  (refine Does.enter Tryz.func22 Tryz.ntmps22 rfl rfl ?_)
  (refine w ?_; repeat ((first | refine VO.step rfl rfl ?_ | refine VD.end rfl rfl rfl ?_ | refine VD.mid rfl rfl rfl ?_); refine OpV.box rfl rfl rfl ?_; intro _; refine w ?_))
  rename_i bo
  (refine w ?_; repeat ((first | refine VO.step rfl rfl ?_ | refine VD.end rfl rfl rfl ?_ | refine VD.mid rfl rfl rfl ?_); refine OpV.box rfl rfl rfl ?_; intro _; refine w ?_))
  (refine VC.cond rfl rfl ?_ ?_ <;> intro hc)
  · have hk : o.kind = 1 := by simpa using hc
    rw [if_pos hk]
    (refine w ?_; repeat ((first | refine VO.step rfl rfl ?_ | refine VD.end rfl rfl rfl ?_ | refine VD.mid rfl rfl rfl ?_); refine OpV.box rfl rfl rfl ?_; intro _; refine w ?_))
    exact VE.doneN (xo, xc) rfl trivial rfl Ent.re
  have k1 : o.kind ≠ 1 := by simpa using hc
  rw [if_neg k1]
  (refine w ?_; repeat ((first | refine VO.step rfl rfl ?_ | refine VD.end rfl rfl rfl ?_ | refine VD.mid rfl rfl rfl ?_); refine OpV.box rfl rfl rfl ?_; intro _; refine w ?_))
  (refine VC.cond rfl rfl ?_ ?_ <;> intro hc)
  · have hk : o.kind = 2 := by simpa using hc
    rw [if_pos hk]
    (refine w ?_; repeat ((first | refine VO.step rfl rfl ?_ | refine VD.end rfl rfl rfl ?_ | refine VD.mid rfl rfl rfl ?_); refine OpV.box rfl rfl rfl ?_; intro _; refine w ?_))
    refine VC.ent (Ent.re (L := lifeOwn (xo, xc) L.sealed :: lifeRow p (xo, xc) L :: R)) ?_
    refine VC.drawn [9, 10] 11 [0, 1, 2, 3, 4, 5, 6, 7, 8, 9, 10, 11, 12, 13] (lifeRow p (xo, xc) L :: R) rfl (by kernel_rfl) (by kernel_rfl) (Ent.drop Ent.refl) ?_
    (refine w ?_; repeat ((first | refine VO.step rfl rfl ?_ | refine VD.end rfl rfl rfl ?_ | refine VD.mid rfl rfl rfl ?_); refine OpV.box rfl rfl rfl ?_; intro _; refine w ?_))
    ((first | refine VO.step rfl rfl ?_ | refine VD.end rfl rfl rfl ?_ | refine VD.mid rfl rfl rfl ?_); refine OpV.buildSlice1 st_47 rfl rfl (by first | (simp; done) | simp [Value.oneCell']) (by decide) rfl ?_; intro nb)
    refine ⟨Ent.re, ?_⟩
    (refine w ?_; repeat ((first | refine VO.step rfl rfl ?_ | refine VD.end rfl rfl rfl ?_ | refine VD.mid rfl rfl rfl ?_); refine OpV.box rfl rfl rfl ?_; intro _; refine w ?_))
    (first | refine VO.step rfl rfl ?_ | refine VD.end rfl rfl rfl ?_ | refine VD.mid rfl rfl rfl ?_)
    refine OpV.appendRow st_47 rfl rfl (by (repeat first | exact .head | apply Hole.tail)) (by (focus repeat first | exact .head _ | apply List.Mem.tail)) rfl (by simp [Value.oneCell']) (by simp only [maxLen]; omega) (by omega) rfl ?_
    intro so sc
    refine ⟨Ent.re, ?_⟩
    (refine w ?_; repeat ((first | refine VO.step rfl rfl ?_ | refine VD.end rfl rfl rfl ?_ | refine VD.mid rfl rfl rfl ?_); refine OpV.box rfl rfl rfl ?_; intro _; refine w ?_))
    refine VE.doneN (so, sc) rfl trivial rfl ?_
    rw [show lifeOwn (so, sc) (LifeE.mk (L.sealed ++ [L.logged]) L.sure nilPl).sealed = Sl.Own 34 1 (.slice so (L.sealed.length + 1) sc) (L.sealed.length + 1) (L.sealed.map PlsE.hdr ++ [L.logged.hdr]) by
      show Sl.Own 34 1 (.slice so (L.sealed ++ [L.logged]).length sc) (L.sealed ++ [L.logged]).length ((L.sealed ++ [L.logged]).map PlsE.hdr) = _
      rw [List.length_append, List.map_append]; rfl]
    rw [show lifeRow p (so, sc) (LifeE.mk (L.sealed ++ [L.logged]) L.sure nilPl) = Row p 49 [.slice so (L.sealed.length + 1) sc, .int .i64 L.sure, .slice none 0 0] by
      show Row p 49 [.slice so (L.sealed ++ [L.logged]).length sc, .int .i64 L.sure, .slice none 0 0] = _
      rw [List.length_append]; rfl]
    exact Ent.re
  have k2 : o.kind ≠ 2 := by simpa using hc
  rw [if_neg k2]
  (refine w ?_; repeat ((first | refine VO.step rfl rfl ?_ | refine VD.end rfl rfl rfl ?_ | refine VD.mid rfl rfl rfl ?_); refine OpV.box rfl rfl rfl ?_; intro _; refine w ?_))
  (refine VC.cond rfl rfl ?_ ?_ <;> intro hc)
  · have hk : o.kind = 3 := by simpa using hc
    rw [if_pos hk]
    (refine w ?_; repeat ((first | refine VO.step rfl rfl ?_ | refine VD.end rfl rfl rfl ?_ | refine VD.mid rfl rfl rfl ?_); refine OpV.box rfl rfl rfl ?_; intro _; refine w ?_))
    exact VE.doneN (xo, xc) rfl trivial rfl Ent.re
  have k3 : o.kind ≠ 3 := by simpa using hc
  rw [if_neg k3]
  (refine w ?_; repeat ((first | refine VO.step rfl rfl ?_ | refine VD.end rfl rfl rfl ?_ | refine VD.mid rfl rfl rfl ?_); refine OpV.box rfl rfl rfl ?_; intro _; refine w ?_))
  (refine VC.cond rfl rfl ?_ ?_ <;> intro hc)
  · have hk : o.kind = 4 := by simpa using hc
    rw [if_pos (.inl hk)]
    (refine w ?_; repeat ((first | refine VO.step rfl rfl ?_ | refine VD.end rfl rfl rfl ?_ | refine VD.mid rfl rfl rfl ?_); refine OpV.box rfl rfl rfl ?_; intro _; refine w ?_))
    (refine VC.condTe rfl rfl (hc) ?_)
    (refine w ?_; repeat ((first | refine VO.step rfl rfl ?_ | refine VD.end rfl rfl rfl ?_ | refine VD.mid rfl rfl rfl ?_); refine OpV.box rfl rfl rfl ?_; intro _; refine w ?_))
    refine VE.doneN (β := Option Addr × Nat) (A := fun _ => True) (none, 0) rfl trivial rfl ?_
    exact (Ent.trans (Ent.re (L := lifeRow p (none, 0) ⟨[], 0, nilPl⟩ :: R)) (fun w hw => (Holds.ownNil 34 1 hw).swap))
  have k4 : o.kind ≠ 4 := by simpa using hc
  (refine w ?_; repeat ((first | refine VO.step rfl rfl ?_ | refine VD.end rfl rfl rfl ?_ | refine VD.mid rfl rfl rfl ?_); refine OpV.box rfl rfl rfl ?_; intro _; refine w ?_))
  (refine VC.cond rfl rfl ?_ ?_ <;> intro hc)
  · have hk : o.kind = 5 := by simpa using hc
    rw [if_pos (.inr hk)]
    (refine w ?_; repeat ((first | refine VO.step rfl rfl ?_ | refine VD.end rfl rfl rfl ?_ | refine VD.mid rfl rfl rfl ?_); refine OpV.box rfl rfl rfl ?_; intro _; refine w ?_))
    refine VE.doneN (β := Option Addr × Nat) (A := fun _ => True) (none, 0) rfl trivial rfl ?_
    exact (Ent.trans (Ent.re (L := lifeRow p (none, 0) ⟨[], 0, nilPl⟩ :: R)) (fun w hw => (Holds.ownNil 34 1 hw).swap))
  have k5 : o.kind ≠ 5 := by simpa using hc
  rw [if_neg (by omega)]
  (refine w ?_; repeat ((first | refine VO.step rfl rfl ?_ | refine VD.end rfl rfl rfl ?_ | refine VD.mid rfl rfl rfl ?_); refine OpV.box rfl rfl rfl ?_; intro _; refine w ?_))
  exact VE.doneN (xo, xc) rfl trivial rfl Ent.re
end Go.Proofs.YtlojjlbngnaphaaGreat

/-! Text Ur. -/
/- The journal's laws: are these the first of those: walked. -/
set_option maxRecDepth 8000
set_option linter.unusedVariables false
set_option linter.unusedSimpArgs false
set_option linter.unusedSectionVars false
namespace Go.Proofs.YtlojjlbngnaphaaGreat
open Go.RowKit Go.Sl
attribute [local irreducible] Own

/-- Batches that are the first of some, numbered one behind the other. -/
structure Firsts (base : Nat) (ts : List TxnE) (all : List PlsE) : Prop where
  len : ts.length ≤ all.length
  pats : ∀ (i : Nat) (h : i < ts.length), ts[i].pats.map PatE.D = (all[i]'(Nat.lt_of_lt_of_le h len)).pats.map PatE.D
  seq : ∀ (i : Nat) (h : i < ts.length), ts[i].seq = base + i
  lim : base + ts.length ≤ 4611686018427387905
set_option maxHeartbeats 2000000 in
theorem are_ok {W : World} {R : List SProp} {yo ao : Option Addr} {yc ac base : Nat} {ts : List TxnE} {all : List PlsE} (hT : RdTxns W R yo ts) (hA : Rds W R 1 ao all.length (all.map PlsE.hdr)) (hP : ∀ p ∈ all, RdPats W R p.ao p.pats)
    (hl : ∀ t ∈ ts, t.pats.length ≤ 140737488351232 ∧ ∀ p ∈ t.pats, p.d.data.length ≤ maxLen) (hal : all.length ≤ 140737488351232) (least : Int) (h1 : least ≤ ts.length) (hF : Firsts base ts all) :
    Does1 W Tryz.prog 26 [.slice yo ts.length yc, .slice ao all.length ac, .int .i64 least] R (.bool true) R := by
  have hlen := hF.len
  have hlim := hF.lim
  (refine Does.enter Tryz.func26 Tryz.ntmps26 rfl rfl ?_)
  (refine w ?_; repeat ((first | refine VO.step rfl rfl ?_ | refine VD.end rfl rfl rfl ?_ | refine VD.mid rfl rfl rfl ?_); refine OpV.box rfl rfl rfl ?_; intro _; refine w ?_))
  (first | refine VO.gF rfl rfl rfl (decide_eq_false (by omega)) ?_ | refine VD.gF rfl rfl rfl (decide_eq_false (by omega)) ?_)
  (refine w ?_; repeat ((first | refine VO.step rfl rfl ?_ | refine VD.end rfl rfl rfl ?_ | refine VD.mid rfl rfl rfl ?_); refine OpV.box rfl rfl rfl ?_; intro _; refine w ?_))
  (refine VC.condFe rfl rfl (decide_eq_false (by omega)) ?_)
  (refine w ?_; repeat ((first | refine VO.step rfl rfl ?_ | refine VD.end rfl rfl rfl ?_ | refine VD.mid rfl rfl rfl ?_); refine OpV.box rfl rfl rfl ?_; intro _; refine w ?_))
  refine VC.loop (α := Nat) (fun i => i ≤ ts.length) (fun _ => R) (fun i => [(0, .slice yo ts.length yc), (1, .slice ao all.length ac), (7, .int .i64 i)]) (fun i => ts.length - i) rfl 0 (Nat.zero_le _) Ent.refl ⟨rfl, rfl, rfl, trivial⟩ ?_
  intro i hi
  (refine w ?_; repeat ((first | refine VO.step rfl rfl ?_ | refine VD.end rfl rfl rfl ?_ | refine VD.mid rfl rfl rfl ?_); refine OpV.box rfl rfl rfl ?_; intro _; refine w ?_))
  (refine VC.cond rfl rfl ?_ ?_ <;> intro hc)
  · have hit : i < ts.length := by have := of_decide_eq_true hc; omega
    have hia : i < all.length := by omega
    obtain ⟨ya, rfl⟩ := some_of_pos hT.rds.nil (by omega)
    obtain ⟨aa, rfl⟩ := some_of_pos hA.nil (by omega)
    have hsi := hF.seq i hit
    have hti := hT.each _ (List.getElem_mem hit)
    have hai := hP _ (List.getElem_mem hia)
    obtain ⟨hl1, hl2⟩ := hl _ (List.getElem_mem hit)
    (refine w ?_; repeat ((first | refine VO.step rfl rfl ?_ | refine VD.end rfl rfl rfl ?_ | refine VD.mid rfl rfl rfl ?_); refine OpV.box rfl rfl rfl ?_; intro _; refine w ?_))
    ((refine VC.quiet rfl (by kernel_rfl) (by kernel_rfl) ?_); (refine w ?_; repeat ((first | refine VO.step rfl rfl ?_ | refine VD.end rfl rfl rfl ?_ | refine VD.mid rfl rfl rfl ?_); refine OpV.box rfl rfl rfl ?_; intro _; refine w ?_)))
    (first | refine VO.pure rfl rfl (PureAt.ldRc tab_ok rfl rfl hT.rds (show (txnCells ts)[i * 2 + 1]? = some (.slice ts[i].ao ts[i].pats.length ts[i].cap) by rw [txn_get ts i 1 hit (by decide)]; rfl)) rfl ?_ | refine VD.take rfl rfl rfl (PureAt.ldRc tab_ok rfl rfl hT.rds (show (txnCells ts)[i * 2 + 1]? = some (.slice ts[i].ao ts[i].pats.length ts[i].cap) by rw [txn_get ts i 1 hit (by decide)]; rfl)) rfl ?_ | refine VQ.pure rfl rfl (PureAt.ldRc tab_ok rfl rfl hT.rds (show (txnCells ts)[i * 2 + 1]? = some (.slice ts[i].ao ts[i].pats.length ts[i].cap) by rw [txn_get ts i 1 hit (by decide)]; rfl)) rfl ?_ | refine VD.end rfl rfl rfl (OpV.pure (PureAt.ldRc tab_ok rfl rfl hT.rds (show (txnCells ts)[i * 2 + 1]? = some (.slice ts[i].ao ts[i].pats.length ts[i].cap) by rw [txn_get ts i 1 hit (by decide)]; rfl)) rfl ?_))
    (refine w ?_; repeat ((first | refine VO.step rfl rfl ?_ | refine VD.end rfl rfl rfl ?_ | refine VD.mid rfl rfl rfl ?_); refine OpV.box rfl rfl rfl ?_; intro _; refine w ?_))
    (first | refine VO.pure rfl rfl (PureAt.ldR tab_ok rfl rfl hA (show (all.map PlsE.hdr)[i]? = some (.slice all[i].ao all[i].pats.length all[i].cap) by rw [List.getElem?_map, List.getElem?_eq_getElem hia]; rfl)) rfl ?_ | refine VD.take rfl rfl rfl (PureAt.ldR tab_ok rfl rfl hA (show (all.map PlsE.hdr)[i]? = some (.slice all[i].ao all[i].pats.length all[i].cap) by rw [List.getElem?_map, List.getElem?_eq_getElem hia]; rfl)) rfl ?_ | refine VQ.pure rfl rfl (PureAt.ldR tab_ok rfl rfl hA (show (all.map PlsE.hdr)[i]? = some (.slice all[i].ao all[i].pats.length all[i].cap) by rw [List.getElem?_map, List.getElem?_eq_getElem hia]; rfl)) rfl ?_ | refine VD.end rfl rfl rfl (OpV.pure (PureAt.ldR tab_ok rfl rfl hA (show (all.map PlsE.hdr)[i]? = some (.slice all[i].ao all[i].pats.length all[i].cap) by rw [List.getElem?_map, List.getElem?_eq_getElem hia]; rfl)) rfl ?_))
    (refine w ?_; repeat ((first | refine VO.step rfl rfl ?_ | refine VD.end rfl rfl rfl ?_ | refine VD.mid rfl rfl rfl ?_); refine OpV.box rfl rfl rfl ?_; intro _; refine w ?_))
    (refine VQ.call rfl rfl rfl rfl (fun _ _ => by simp) (samepats_ok hti hai hl1 hl2) Ent.refl Ent.refl rfl ?_)
    rw [decide_eq_true (hF.pats i hit)]
    (refine w ?_; repeat ((first | refine VO.step rfl rfl ?_ | refine VD.end rfl rfl rfl ?_ | refine VD.mid rfl rfl rfl ?_); refine OpV.box rfl rfl rfl ?_; intro _; refine w ?_))
    (refine VQ.split rfl rfl rfl ?_ ?_ <;> intro hb)
    · have hi0 : 0 < i := by have := of_decide_eq_true hb; omega
      have hs2 := hF.seq (i - 1) (by omega)
      (refine w ?_; repeat ((first | refine VO.step rfl rfl ?_ | refine VD.end rfl rfl rfl ?_ | refine VD.mid rfl rfl rfl ?_); refine OpV.box rfl rfl rfl ?_; intro _; refine w ?_))
      (first | refine VO.pure rfl rfl (PureAt.ldRc tab_ok rfl rfl hT.rds (show (txnCells ts)[i * 2 + 0]? = some (.int .u64 ((base + i : Nat) : Int)) by rw [txn_get ts i 0 hit (by decide), ← hsi]; rfl)) rfl ?_ | refine VD.take rfl rfl rfl (PureAt.ldRc tab_ok rfl rfl hT.rds (show (txnCells ts)[i * 2 + 0]? = some (.int .u64 ((base + i : Nat) : Int)) by rw [txn_get ts i 0 hit (by decide), ← hsi]; rfl)) rfl ?_ | refine VQ.pure rfl rfl (PureAt.ldRc tab_ok rfl rfl hT.rds (show (txnCells ts)[i * 2 + 0]? = some (.int .u64 ((base + i : Nat) : Int)) by rw [txn_get ts i 0 hit (by decide), ← hsi]; rfl)) rfl ?_ | refine VD.end rfl rfl rfl (OpV.pure (PureAt.ldRc tab_ok rfl rfl hT.rds (show (txnCells ts)[i * 2 + 0]? = some (.int .u64 ((base + i : Nat) : Int)) by rw [txn_get ts i 0 hit (by decide), ← hsi]; rfl)) rfl ?_))
      (refine w ?_; repeat ((first | refine VO.step rfl rfl ?_ | refine VD.end rfl rfl rfl ?_ | refine VD.mid rfl rfl rfl ?_); refine OpV.box rfl rfl rfl ?_; intro _; refine w ?_))
      refine VQ.re 47 (.int .i64 ((i - 1 : Nat) : Int)) rfl (by congr 1; omega) ?_
      (refine w ?_; repeat ((first | refine VO.step rfl rfl ?_ | refine VD.end rfl rfl rfl ?_ | refine VD.mid rfl rfl rfl ?_); refine OpV.box rfl rfl rfl ?_; intro _; refine w ?_))
      (first | refine VO.pure rfl rfl (PureAt.ldRc tab_ok rfl rfl hT.rds (show (txnCells ts)[(i - 1) * 2 + 0]? = some (.int .u64 ((base + (i - 1) : Nat) : Int)) by rw [txn_get ts (i - 1) 0 (by omega) (by decide), ← hs2]; rfl)) rfl ?_ | refine VD.take rfl rfl rfl (PureAt.ldRc tab_ok rfl rfl hT.rds (show (txnCells ts)[(i - 1) * 2 + 0]? = some (.int .u64 ((base + (i - 1) : Nat) : Int)) by rw [txn_get ts (i - 1) 0 (by omega) (by decide), ← hs2]; rfl)) rfl ?_ | refine VQ.pure rfl rfl (PureAt.ldRc tab_ok rfl rfl hT.rds (show (txnCells ts)[(i - 1) * 2 + 0]? = some (.int .u64 ((base + (i - 1) : Nat) : Int)) by rw [txn_get ts (i - 1) 0 (by omega) (by decide), ← hs2]; rfl)) rfl ?_ | refine VD.end rfl rfl rfl (OpV.pure (PureAt.ldRc tab_ok rfl rfl hT.rds (show (txnCells ts)[(i - 1) * 2 + 0]? = some (.int .u64 ((base + (i - 1) : Nat) : Int)) by rw [txn_get ts (i - 1) 0 (by omega) (by decide), ← hs2]; rfl)) rfl ?_))
      have hw : IntKind.u64.wrap ((base : Int) + ((i - 1 : Nat) : Int) + 1) = (base : Int) + (i : Int) := by
        have h := wrap64_of (show base + i < 2 ^ 64 by omega)
        rw [show ((base : Int) + ((i - 1 : Nat) : Int) + 1) = ((base + i : Nat) : Int) by omega, h]; omega
      (refine w ?_; repeat ((first | refine VO.step rfl rfl ?_ | refine VD.end rfl rfl rfl ?_ | refine VD.mid rfl rfl rfl ?_); refine OpV.box rfl rfl rfl ?_; intro _; refine w ?_))
      (refine VC.condFe rfl rfl (by simp [hw]) ?_)
      (refine w ?_; repeat ((first | refine VO.step rfl rfl ?_ | refine VD.end rfl rfl rfl ?_ | refine VD.mid rfl rfl rfl ?_); refine OpV.box rfl rfl rfl ?_; intro _; refine w ?_))
      refine VE.round (i + 1) hit (by omega) ⟨rfl, rfl, asV rfl (by congr 1), trivial⟩ Ent.refl
    · (refine w ?_; repeat ((first | refine VO.step rfl rfl ?_ | refine VD.end rfl rfl rfl ?_ | refine VD.mid rfl rfl rfl ?_); refine OpV.box rfl rfl rfl ?_; intro _; refine w ?_))
      refine VE.round (i + 1) hit (by omega) ⟨rfl, rfl, asV rfl (by congr 1), trivial⟩ Ent.refl
  · (refine w ?_; repeat ((first | refine VO.step rfl rfl ?_ | refine VD.end rfl rfl rfl ?_ | refine VD.mid rfl rfl rfl ?_); refine OpV.box rfl rfl rfl ?_; intro _; refine w ?_))
    exact VE.done1 rfl rfl Ent.refl
end Go.Proofs.YtlojjlbngnaphaaGreat

/-! Text Us. -/
/- The journal's laws: may these have been found: walked. -/
set_option maxRecDepth 8000
set_option linter.unusedVariables false
set_option linter.unusedSimpArgs false
set_option linter.unusedSectionVars false
namespace Go.Proofs.YtlojjlbngnaphaaGreat
open Go.RowKit Go.Sl
attribute [local irreducible] Own

end Go.Proofs.YtlojjlbngnaphaaGreat

/-! Text Ut. -/
/- The journal's laws: Sync and Reclaim with the power on; a life in memory and a life; what a cut leaves: plainly. -/
set_option maxRecDepth 8000
set_option linter.unusedVariables false
set_option linter.unusedSimpArgs false
set_option linter.unusedSectionVars false
namespace Go.Proofs.YtlojjlbngnaphaaGreat
open Go.RowKit Go.Sl
attribute [local irreducible] Own

section
variable {v : WalD} {k : DiskD} {base : Nat} {x : LifeD} {D : BayD} {s : Nat}
end
abbrev PlsE.T (q : PlsE) : List PatD := q.pats.map PatE.D
/-- A life in memory is this one. -/
structure Cor (W : World) (L : LifeE) (x : LifeD) : Prop where
  sealed : x.sealed = L.sealed.map PlsE.T
  sure : x.sure = L.sure
  logged : ∀ l, x.logged = some l → L.logged.T = l
  rd : ∀ q ∈ L.sealed, ∀ R, RdPats W R q.ao q.pats
  rdl : ∀ R, RdPats W R L.logged.ao L.logged.pats
theorem rdPats_nil {W : World} {R : List SProp} : RdPats W R none [] := by
  refine ⟨?_, fun p hp => (by cases hp), fun p hp => (by cases hp)⟩
  exact ⟨rfl, fun _ h => (by cases h), fun _ => rfl, fun _ _ _ h => (by cases h)⟩
theorem Cor.start (W : World) : Cor W ⟨[], 0, nilPl⟩ ⟨[], 0, none⟩ := ⟨rfl, rfl, fun l h => (by cases h), fun q h => (by cases h), fun R => rdPats_nil⟩
theorem Cor.does {W : World} {L : LifeE} {x : LifeD} (h : Cor W L x) {o : OpE} (ho : o.wf W) (h2 : o.kind = 2 → ∃ l, x.logged = some l) : Cor W (L.does o) (x.does o.kind.toNat (o.pats.map PatE.D)) := by
  have hlen : x.sealed.length = L.sealed.length := by rw [h.sealed, List.length_map]
  unfold LifeE.does
  by_cases k1 : o.kind = 1
  · rw [if_pos k1, k1]
    exact ⟨h.sealed, hlen, fun l hl => Option.some.inj hl, h.rd, ho.rd⟩
  by_cases k2 : o.kind = 2
  · rw [if_neg k1, if_pos k2]
    obtain ⟨l, hl⟩ := h2 k2
    rw [k2]
    refine ⟨?_, h.sure, fun l hl => (by cases hl), fun q hq => ?_, fun R => rdPats_nil⟩
    · show x.sealed ++ [x.logged.getD []] = (L.sealed ++ [L.logged]).map PlsE.T
      rw [h.sealed, hl, List.map_append, ← h.logged l hl]; rfl
    · rcases List.mem_append.1 hq with q1 | q1
      · exact h.rd q q1
      · rw [List.mem_singleton] at q1; subst q1; exact h.rdl
  by_cases k3 : o.kind = 3
  · rw [if_neg k1, if_neg k2, if_pos k3, k3]
    exact ⟨h.sealed, hlen, h.logged, h.rd, h.rdl⟩
  by_cases k45 : o.kind = 4 ∨ o.kind = 5
  · rw [if_neg k1, if_neg k2, if_neg k3, if_pos k45]
    have e : x.does o.kind.toNat (o.pats.map PatE.D) = ⟨[], 0, none⟩ := by rcases k45 with q | q <;> rw [q] <;> rfl
    rw [e]
    exact Cor.start W
  · rw [if_neg k1, if_neg k2, if_neg k3, if_neg k45]
    have e : x.does o.kind.toNat (o.pats.map PatE.D) = x := by
      unfold LifeD.does; split <;> first | rfl | (exfalso; omega)
    rw [e]; exact h
theorem seal_some {v : WalD} {k : DiskD} {base : Nat} {x : LifeD} {D : BayD} (h : LiveX v k base x) (h0 : (wSeal (v, D)).1 = 0) : ∃ l, x.logged = some l := by
  cases hl : x.logged with
  | some l => exact ⟨l, rfl⟩
  | none => rw [seal_none h.nob (h.nolg hl)] at h0; cases h0
end Go.Proofs.YtlojjlbngnaphaaGreat

/-! Text Uu. -/
/- The law WalForgets. -/
set_option maxRecDepth 8000
set_option linter.unusedVariables false
set_option linter.unusedSimpArgs false
set_option linter.unusedSectionVars false
namespace Go.Proofs.YtlojjlbngnaphaaGreat
open Go.RowKit Go.Sl
attribute [local irreducible] Own

/-- Calls that leave the checkpoint where it is, so many of them. -/
structure FInv (n c N base j : Nat) (v : WalD) (D : BayD) (x : LifeD) : Prop where
  slot : v.slot = 0
  size : v.size = n
  next : v.next ≤ 1 + N + j
  epoch : v.epoch ≤ 10 + N + j
  cap : D.capd (c + 4100 * j)
  calm : D.trip = -1
  pos : 1 ≤ base
  live : ∃ k, Pw D 0 k ∧ LiveX v k base x
  len : x.sealed.length ≤ j
theorem FInv.wok {n c N base j : Nat} {v : WalD} {D : BayD} {x : LifeD} (h : FInv n c N base j v D x) (hN : N ≤ 20000) (hj : j ≤ 20000) : v.ok := by
  obtain ⟨k, h1, h2⟩ := h.live
  have := h.next; have := h.epoch
  exact h2.wok (by omega) (by omega) h.pos
theorem FInv.step {n c N base j : Nat} {v : WalD} {D : BayD} {x : LifeD} (h : FInv n c N base j v D x) (hN : N ≤ 20000) (hj : j ≤ 20000) (kind : Nat) (hk : kind < 4) (ps : List PatD) :
    ((wDo (v, D) kind ps).1 = 0 → FInv n c N base (j + 1) (wDo (v, D) kind ps).2.1 (wDo (v, D) kind ps).2.2 (x.does kind ps)) ∧
    ((wDo (v, D) kind ps).1 ≠ 0 → FInv n c N base (j + 1) (wDo (v, D) kind ps).2.1 (wDo (v, D) kind ps).2.2 x) ∧
    (kind = 2 → (wDo (v, D) kind ps).1 = 0 → ∃ l, x.logged = some l) := by
  obtain ⟨k, h1, h2⟩ := h.live
  have hnx := h2.next
  have hn := h.next; have he := h.epoch; have hb1 := h.pos; have hlx := h.len
  have hcp := wDo_capd (v := v) h.cap kind ps
  have hs := step_ok h1 h.slot h2 kind ps ⟨by omega, by omega, by omega⟩
  have h3 : kind = 2 → (wDo (v, D) kind ps).1 = 0 → ∃ l, x.logged = some l := by
    rintro rfl h0; exact seal_some h2 h0
  generalize wDo (v, D) kind ps = r at hs hcp h3
  cases hs with
  | good k' base' hg hp hl hf hb hb2 =>
    dsimp only at hcp h3 ⊢
    refine ⟨fun _ => ⟨hg.slot.trans h.slot, hg.size.trans h.size, by rw [hg.next]; split <;> omega, by have := hg.epoch; omega, hcp.mono (by omega), hf.calm h.calm, h.pos, ⟨k', hp, by rw [hb hk] at hl; exact hl⟩, ?_⟩, fun q => absurd rfl q, h3⟩
    unfold LifeD.does
    split
    · show x.sealed.length ≤ _; omega
    · show (x.sealed ++ [x.logged.getD []]).length ≤ _; rw [List.length_append, List.length_singleton]; omega
    · show x.sealed.length ≤ _; omega
    · exact Nat.zero_le _
    · exact Nat.zero_le _
    · omega
  | no e h0 h5 =>
    dsimp only at hcp ⊢
    exact ⟨fun q => absurd q h0, fun _ => ⟨h.slot, h.size, by omega, by omega, h.cap.mono (by omega), h.calm, h.pos, ⟨k, h1, h2⟩, by omega⟩, fun _ q => absurd q h0⟩
  | dark k' ht hd hl => exact absurd h.calm ht
end Go.Proofs.YtlojjlbngnaphaaGreat

/-! Text Uw. -/
/- The journal's laws: much, of a script that lies in memory of one's own; WalUnsealed, plainly. -/
set_option maxRecDepth 8000
set_option linter.unusedVariables false
set_option linter.unusedSimpArgs false
set_option linter.unusedSectionVars false
namespace Go.Proofs.YtlojjlbngnaphaaGreat
open Go.RowKit Go.Sl
attribute [local irreducible] Own

/-- A life over all kinds of calls, the power being on. -/
structure UInv (n c j : Nat) (v : WalD) (D : BayD) (x : LifeD) : Prop where
  slot : v.slot = 0
  size : v.size = n
  next : v.next ≤ 1 + j
  epoch : v.epoch ≤ 10 + j
  cap : D.capd (c + 4100 * j)
  calm : D.trip = -1
  live : ∃ k base, 1 ≤ base ∧ Pw D 0 k ∧ LiveX v k base x
  len : x.sealed.length ≤ j
theorem UInv.wok {n c j : Nat} {v : WalD} {D : BayD} {x : LifeD} (h : UInv n c j v D x) (hj : j ≤ 20000) : v.ok := by
  obtain ⟨k, base, h3, h1, h2⟩ := h.live
  have := h.next; have := h.epoch
  exact h2.wok (by omega) (by omega) h3
theorem UInv.step {n c j : Nat} {v : WalD} {D : BayD} {x : LifeD} (h : UInv n c j v D x) (hj : j ≤ 20000) (kind : Nat) (ps : List PatD) :
    ((wDo (v, D) kind ps).1 = 0 → UInv n c (j + 1) (wDo (v, D) kind ps).2.1 (wDo (v, D) kind ps).2.2 (x.does kind ps)) ∧
    ((wDo (v, D) kind ps).1 ≠ 0 → UInv n c (j + 1) (wDo (v, D) kind ps).2.1 (wDo (v, D) kind ps).2.2 x ∧ (wDo (v, D) kind ps).2.1 = v) ∧
    (kind = 2 → (wDo (v, D) kind ps).1 = 0 → ∃ l, x.logged = some l) := by
  obtain ⟨k, base, h3, h1, h2⟩ := h.live
  have hnx := h2.next
  have hn := h.next; have he := h.epoch; have hlx := h.len
  have hcp := wDo_capd (v := v) h.cap kind ps
  have hs := step_ok h1 h.slot h2 kind ps ⟨by omega, by omega, by omega⟩
  have h4 : kind = 2 → (wDo (v, D) kind ps).1 = 0 → ∃ l, x.logged = some l := by
    rintro rfl h0; exact seal_some h2 h0
  generalize wDo (v, D) kind ps = r at hs hcp h4
  cases hs with
  | good k' base' hg hp hl hf hb hb2 =>
    dsimp only at hcp h4 ⊢
    have hb1 : 1 ≤ base' := by
      by_cases q : kind < 4
      · rw [hb q]; exact h3
      · by_cases q2 : kind ≤ 5
        · rw [hb2 (by omega) q2]; omega
        · have hl1 := hl.next
          rw [hg.next, if_neg (by omega)] at hl1
          have : x.does kind ps = x := by
            unfold LifeD.does; split <;> first | rfl | (exfalso; omega)
          rw [this] at hl1
          omega
    refine ⟨fun _ => ⟨hg.slot.trans h.slot, hg.size.trans h.size, by rw [hg.next]; split <;> omega, by have := hg.epoch; omega, hcp.mono (by omega), hf.calm h.calm, ⟨k', base', hb1, hp, hl⟩, ?_⟩, fun q => absurd rfl q, h4⟩
    unfold LifeD.does
    split
    · show x.sealed.length ≤ _; omega
    · show (x.sealed ++ [x.logged.getD []]).length ≤ _; rw [List.length_append, List.length_singleton]; omega
    · show x.sealed.length ≤ _; omega
    · exact Nat.zero_le _
    · exact Nat.zero_le _
    · omega
  | no e h0 h5 =>
    dsimp only at hcp ⊢
    exact ⟨fun q => absurd q h0, fun _ => ⟨⟨h.slot, h.size, by omega, by omega, h.cap.mono (by omega), h.calm, ⟨k, base, h3, h1, h2⟩, by omega⟩, rfl⟩, fun _ q => absurd q h0⟩
  | dark k' ht hd hl => exact absurd h.calm ht
end Go.Proofs.YtlojjlbngnaphaaGreat

/-! Text Uy. -/
/- The law WalKeeps, plainly: a journal that stands, or whose power went in a call. -/
set_option maxRecDepth 8000
set_option linter.unusedVariables false
set_option linter.unusedSimpArgs false
set_option linter.unusedSectionVars false
namespace Go.Proofs.YtlojjlbngnaphaaGreat
open Go.RowKit Go.Sl
attribute [local irreducible] Own

/-- So many steps behind the beginning; 'under': the call in which the power went (0: none). -/
structure KInv (n c j : Nat) (under : Nat) (v : WalD) (D : BayD) (x : LifeD) : Prop where
  cap : D.capd (c + 4100 * j)
  len : x.sealed.length ≤ j + n
  on : under = 0 → v.slot = 0 ∧ v.size = n ∧ v.next ≤ 1 + j ∧ v.epoch ≤ 10 + j ∧ ∃ k base, 1 ≤ base ∧ Pw D 0 k ∧ LiveX v k base x
  off : under ≠ 0 → under ≤ 5 ∧ ∃ k, Dk D 0 k ∧ Lft n (10 + j) (1 + j) x under k
theorem KInv.wok {n c j : Nat} {v : WalD} {D : BayD} {x : LifeD} (h : KInv n c j 0 v D x) (hj : j ≤ 20000) : v.ok := by
  obtain ⟨h1, h2, h3, h4, k, base, h5, h6, h7⟩ := h.on rfl
  exact h7.wok (by omega) (by omega) h5
theorem KInv.mono {n c j j' under : Nat} {v : WalD} {D : BayD} {x : LifeD} (h : KInv n c j under v D x) (hj : j ≤ j') : KInv n c j' under v D x := by
  refine ⟨h.cap.mono (by omega), by have := h.len; omega, fun q => ?_, fun q => ?_⟩
  · obtain ⟨h1, h2, h3, h4, r⟩ := h.on q
    exact ⟨h1, h2, by omega, by omega, r⟩
  · obtain ⟨h1, k, h2, h3⟩ := h.off q
    exact ⟨h1, k, h2, h3.mono (by omega) (by omega) (.inl rfl)⟩
/-- Trip. -/
theorem KInv.trips {n c j under : Nat} {v : WalD} {D : BayD} {x : LifeD} (h : KInv n c j under v D x) (t : Int) (ht : t ≤ 9223372036854775807) : KInv n c j under v (D.trips t).2 x := by
  have hsl : (D.trips t).2.slots = D.slots := by unfold BayD.trips; split; rfl; split <;> rfl
  have hdk : (D.trips t).2.dark = D.dark := by unfold BayD.trips; split; rfl; split <;> rfl
  refine ⟨fun s hs => h.cap s (by rw [hsl] at hs; exact hs), h.len, fun q => ?_, fun q => ?_⟩
  · obtain ⟨h1, h2, h3, h4, k, base, h5, h6, h7⟩ := h.on q
    refine ⟨h1, h2, h3, h4, k, base, h5, ⟨by rw [hsl]; exact h6.slot, by rw [hdk]; exact h6.lit, h6.live, ?_⟩, h7⟩
    have h8 := h6.trip
    unfold BayD.trips
    split
    · exact h8
    · split
      · exact h8
      · show -1 ≤ t ∧ t ≤ _; omega
  · obtain ⟨h1, k, h2, h3⟩ := h.off q
    exact ⟨h1, k, ⟨by rw [hsl]; exact h2.slot, by rw [hdk]; exact h2.dark, h2.live⟩, h3⟩
/-- A call, the power being on. -/
theorem KInv.step {n c j : Nat} {v : WalD} {D : BayD} {x : LifeD} (h : KInv n c j 0 v D x) (hj : j ≤ 20000) (kind : Nat) (hk : 1 ≤ kind ∧ kind ≤ 5) (ps : List PatD) :
    ((wDo (v, D) kind ps).1 = 0 → KInv n c (j + 1) 0 (wDo (v, D) kind ps).2.1 (wDo (v, D) kind ps).2.2 (x.does kind ps)) ∧
    ((wDo (v, D) kind ps).1 = 50 → KInv n c (j + 1) kind (wDo (v, D) kind ps).2.1 (wDo (v, D) kind ps).2.2 x) ∧
    ((wDo (v, D) kind ps).1 ≠ 0 → (wDo (v, D) kind ps).1 ≠ 50 → KInv n c (j + 1) 0 (wDo (v, D) kind ps).2.1 (wDo (v, D) kind ps).2.2 x) ∧
    (kind = 2 → (wDo (v, D) kind ps).1 = 0 → ∃ l, x.logged = some l) := by
  obtain ⟨g1, g2, hn, he, k, base, h3, h1, h2⟩ := h.on rfl
  have hnx := h2.next
  have hlx := h.len
  have hcp := wDo_capd (v := v) h.cap kind ps
  have hs := step_ok h1 g1 h2 kind ps ⟨by omega, by omega, by omega⟩
  have h4 : kind = 2 → (wDo (v, D) kind ps).1 = 0 → ∃ l, x.logged = some l := by
    rintro rfl h0; exact seal_some h2 h0
  generalize wDo (v, D) kind ps = r at hs hcp h4
  cases hs with
  | good k' base' hg hp hl hf hb hb2 =>
    dsimp only at hcp h4 ⊢
    have hb1 : 1 ≤ base' := by
      by_cases q : kind < 4
      · rw [hb q]; exact h3
      · rw [hb2 (by omega) hk.2]; omega
    refine ⟨fun _ => ⟨hcp.mono (by omega), ?_, fun _ => ⟨hg.slot.trans g1, hg.size.trans g2, by rw [hg.next]; split <;> omega, by have := hg.epoch; omega, k', base', hb1, hp, hl⟩, fun q => absurd rfl q⟩, fun q => (by cases q), fun q => absurd rfl q, h4⟩
    unfold LifeD.does
    split
    · show x.sealed.length ≤ _; omega
    · show (x.sealed ++ [x.logged.getD []]).length ≤ _; rw [List.length_append, List.length_singleton]; omega
    · show x.sealed.length ≤ _; omega
    · exact Nat.zero_le _
    · exact Nat.zero_le _
    · omega
  | no e h0 h5 =>
    dsimp only at hcp ⊢
    exact ⟨fun q => absurd q h0, fun q => absurd q h5, fun _ _ => h.mono (by omega), fun _ q => absurd q h0⟩
  | dark k' ht hd hl =>
    dsimp only at hcp ⊢
    refine ⟨fun q => (by cases q), fun _ => ⟨hcp.mono (by omega), by omega, fun q => (by omega), fun _ => ⟨hk.2, k', hd, ?_⟩⟩, fun _ q => absurd rfl q, fun _ q => (by cases q)⟩
    rw [g2] at hl
    exact hl.mono (by omega) (by omega) (.inl rfl)
/-- What a cut leaves, whether the power had gone or not. -/
theorem KInv.left {n c j under : Nat} {v : WalD} {D : BayD} {x : LifeD} (h : KInv n c j under v D x) : ∃ k, D.slots[0]? = some ⟨some ⟨k, false, 0⟩, none, none⟩ ∧ k.failed = false ∧ Lft n (10 + j) (1 + j) x under k := by
  by_cases q : under = 0
  · obtain ⟨g1, g2, hn, he, k, base, h3, h1, h2⟩ := h.on q
    have := h2.left under
    rw [g2] at this
    exact ⟨k, h1.slot, h1.live, this.mono (by omega) (by omega) (.inl rfl)⟩
  · obtain ⟨h1, k, h2, h3⟩ := h.off q
    exact ⟨k, h2.slot, h2.live, h3⟩
/-- Cut off, and opened twice: just what may be is found. -/
theorem KInv.cut {n c j under : Nat} {v : WalD} {D : BayD} {x : LifeD} (h : KInv n c j under v D x) (kl : List (List Bool)) :
    ∃ ls v' D' D2 base k', x.left under ls ∧ wOpen (D.cut kl) 0 (n : Int) = (((some v', numb base ls), 0), D') ∧ wOpen D' 0 (n : Int) = (((some v', numb base ls), 0), D2) ∧ 1 ≤ base ∧ v'.next = base + ls.length ∧ v'.slot = 0 ∧ v'.size = n ∧ v'.epoch ≤ 10 + j ∧ base + ls.length ≤ 1 + j ∧ Pw D2 0 k' ∧ LiveX v' k' base ⟨ls, ls.length, none⟩ ∧ k'.cache = [] ∧ D2.slots.length = D.slots.length ∧ (∀ i, i ≠ 0 → D2.slots[i]? = (D.cut kl).slots[i]?) := by
  obtain ⟨k, hs, hf, hl⟩ := h.left
  obtain ⟨hp, ht⟩ := cut_pw hs hf kl
  obtain ⟨e, base, tl, ls, hr, hx, he, hn⟩ := hl (keepOf (kl.getD 0 []))
  obtain ⟨D', o1, o2, o3⟩ := rep_open (s := 0) hp ht hr rfl
  obtain ⟨D2, u1, u2, u3⟩ := rep_open (s := 0) o2 (o3.calm ht) hr rfl
  have hlv := Live.open (s := 0) hr rfl hp.live
  refine ⟨ls, _, D', D2, base, _, hx, o1, u1, hr.cnt.2.1, rfl, rfl, rfl, he, hn, u2, hlv, rfl, ?_, fun i hi => ?_⟩
  · rw [u3.len, o3.len]; unfold BayD.cut; simp
  · rw [u3.oth i hi, o3.oth i hi]
end Go.Proofs.YtlojjlbngnaphaaGreat

/-! Text Uz. -/
/- The law WalKeeps: may these have been found, the power having gone in a call: walked. -/
set_option maxRecDepth 8000
set_option linter.unusedVariables false
set_option linter.unusedSimpArgs false
set_option linter.unusedSectionVars false
namespace Go.Proofs.YtlojjlbngnaphaaGreat
open Go.RowKit Go.Sl
attribute [local irreducible] Own

theorem Firsts.more {base : Nat} {ts : List TxnE} {all m : List PlsE} (h : Firsts base ts all) : Firsts base ts (all ++ m) := by
  refine ⟨by have := h.len; rw [List.length_append]; omega, fun i hi => ?_, h.seq, h.lim⟩
  have := h.len
  rw [h.pats i hi]
  congr 2
  rw [List.getElem_append_left (by omega)]
set_option maxHeartbeats 2000000 in
theorem mayk_ok {W : World} {R : List SProp} {yo : Option Addr} {yc base : Nat} {ts : List TxnE} (p : Nat) (x : Option Addr × Nat) (L : LifeE) (hT : RdTxns W (lifeRow p x L :: lifeOwn x L.sealed :: R) yo ts) (hx : x.1 = none → L.sealed.length = 0)
    (hP : ∀ q ∈ L.sealed, RdPats W (lifeRow p x L :: lifeOwn x L.sealed :: R) q.ao q.pats) (hPl : RdPats W (lifeRow p x L :: lifeOwn x L.sealed :: R) L.logged.ao L.logged.pats) (hl : ∀ t ∈ ts, t.pats.length ≤ 140737488351232 ∧ ∀ p ∈ t.pats, p.d.data.length ≤ maxLen) (hal : L.sealed.length ≤ 1000000)
    (kind : Int) (hk : (L.sure ≤ ts.length ∧ Firsts base ts L.sealed) ∨ ((kind = 4 ∨ kind = 5) ∧ ts = [])) :
    Does1 W Tryz.prog 24 [.pointer (some ⟨p, 0, none⟩), .slice yo ts.length yc, .int .i64 kind] (lifeRow p x L :: lifeOwn x L.sealed :: R) (.bool true) R := by
  obtain ⟨xo, xc⟩ := x
  have hOne : ∀ u ∈ L.sealed.map PlsE.hdr, u.oneCell' = true := by
    intro u hu; obtain ⟨q, _, rfl⟩ := List.mem_map.1 hu; rfl
  have hRA : Rds W (lifeRow p (xo, xc) L :: lifeOwn (xo, xc) L.sealed :: R) 1 xo L.sealed.length (L.sealed.map PlsE.hdr) := Rds.own hOne (.tail _ (.head _)) (by simp) hx
  (refine Does.enter Tryz.func24 Tryz.ntmps24 rfl rfl ?_)
  (refine w ?_; repeat ((first | refine VO.step rfl rfl ?_ | refine VD.end rfl rfl rfl ?_ | refine VD.mid rfl rfl rfl ?_); refine OpV.box rfl rfl rfl ?_; intro _; refine w ?_))
  by_cases h2 : kind = 2
  · subst h2
    obtain ⟨hs, hF⟩ : L.sure ≤ ts.length ∧ Firsts base ts L.sealed := by
      rcases hk with h | h
      · exact h
      · exact absurd h.1 (by decide)
    (refine w ?_; repeat ((first | refine VO.step rfl rfl ?_ | refine VD.end rfl rfl rfl ?_ | refine VD.mid rfl rfl rfl ?_); refine OpV.box rfl rfl rfl ?_; intro _; refine w ?_))
    cases hla : L.logged.ao with
    | none =>
      (refine VC.condFe rfl rfl (rfl) ?_)
      (refine w ?_; repeat ((first | refine VO.step rfl rfl ?_ | refine VD.end rfl rfl rfl ?_ | refine VD.mid rfl rfl rfl ?_); refine OpV.box rfl rfl rfl ?_; intro _; refine w ?_))
      ((first | refine VO.step rfl rfl ?_ | refine VD.end rfl rfl rfl ?_ | refine VD.mid rfl rfl rfl ?_); refine OpV.call rfl rfl (fun _ _ => by simp) (are_ok hT hRA hP hl (by omega) L.sure (by omega) hF) Ent.refl rfl ?_)
      intro _ _
      (refine w ?_; repeat ((first | refine VO.step rfl rfl ?_ | refine VD.end rfl rfl rfl ?_ | refine VD.mid rfl rfl rfl ?_); refine OpV.box rfl rfl rfl ?_; intro _; refine w ?_))
      exact VE.done1 rfl rfl (Ent.drop (Ent.drop Ent.refl))
    | some la =>
      (refine VC.condTe rfl rfl (rfl) ?_)
      refine VC.ent (fun w hw => hw.ownNil 34 1) ?_
      (refine w ?_; repeat ((first | refine VO.step rfl rfl ?_ | refine VD.end rfl rfl rfl ?_ | refine VD.mid rfl rfl rfl ?_); refine OpV.box rfl rfl rfl ?_; intro _; refine w ?_))
      (first | refine VO.step rfl rfl ?_ | refine VD.end rfl rfl rfl ?_ | refine VD.mid rfl rfl rfl ?_)
      refine OpV.append (k := 0) st_47 rfl rfl (by (repeat first | exact .head | apply Hole.tail)) (fun w hw => (hRA.sees (cap := xc) hw.tail).src st_47.und) (by simp only [maxLen]; omega) (by omega) rfl ?_
      intro so sc
      refine VO.ent (H' := lifeOwn (so, sc) L.sealed :: lifeRow p (xo, xc) L :: lifeOwn (xo, xc) L.sealed :: R) (by rw [List.nil_append, Nat.zero_add]; exact Ent.refl) ?_
      refine VO.re 25 (.slice so L.sealed.length sc) rfl (by rw [Nat.zero_add]) ?_
      (refine w ?_; repeat ((first | refine VO.step rfl rfl ?_ | refine VD.end rfl rfl rfl ?_ | refine VD.mid rfl rfl rfl ?_); refine OpV.box rfl rfl rfl ?_; intro _; refine w ?_))
      ((first | refine VO.step rfl rfl ?_ | refine VD.end rfl rfl rfl ?_ | refine VD.mid rfl rfl rfl ?_); refine OpV.buildSlice1 st_47 rfl rfl (by first | (simp; done) | simp [Value.oneCell']) (by decide) rfl ?_; intro nb)
      (first | refine VO.step rfl rfl ?_ | refine VD.end rfl rfl rfl ?_ | refine VD.mid rfl rfl rfl ?_)
      refine OpV.appendRow st_47 rfl rfl (by (repeat first | exact .head | apply Hole.tail)) (by (focus repeat first | exact .head _ | apply List.Mem.tail)) rfl (by simp [Value.oneCell']) (by simp only [maxLen]; omega) (by omega) rfl ?_
      intro s2 c2
      (refine w ?_; repeat ((first | refine VO.step rfl rfl ?_ | refine VD.end rfl rfl rfl ?_ | refine VD.mid rfl rfl rfl ?_); refine OpV.box rfl rfl rfl ?_; intro _; refine w ?_))
      have hall : (L.sealed ++ [L.logged]).length = L.sealed.length + 1 := by rw [List.length_append]; rfl
      have hown : Sl.Own 34 1 (.slice s2 (L.sealed.length + 1) c2) (L.sealed.length + 1) (L.sealed.map PlsE.hdr ++ [L.logged.hdr]) = lifeOwn (s2, c2) (L.sealed ++ [L.logged]) := by
        show _ = Sl.Own 34 1 (.slice s2 (L.sealed ++ [L.logged]).length c2) (L.sealed ++ [L.logged]).length ((L.sealed ++ [L.logged]).map PlsE.hdr)
        rw [hall, List.map_append]; rfl
      rw [hown]
      refine VO.ent (Ent.re (L := lifeOwn (s2, c2) (L.sealed ++ [L.logged]) :: lifeRow p (xo, xc) L :: lifeOwn (xo, xc) L.sealed :: R)) ?_
      refine VO.re 53 (.slice s2 (L.sealed ++ [L.logged]).length c2) rfl (by rw [hall]) ?_
      refine VO.know (p := s2 = none → (L.sealed ++ [L.logged]).length = 0) (fun w hw => hw.ownNone (.head _)) ?_
      intro hs2
      have hOne2 : ∀ u ∈ (L.sealed ++ [L.logged]).map PlsE.hdr, u.oneCell' = true := by
        intro u hu; obtain ⟨q, _, rfl⟩ := List.mem_map.1 hu; rfl
      have hRA2 : Rds W (lifeOwn (s2, c2) (L.sealed ++ [L.logged]) :: lifeRow p (xo, xc) L :: lifeOwn (xo, xc) L.sealed :: R) 1 s2 (L.sealed ++ [L.logged]).length ((L.sealed ++ [L.logged]).map PlsE.hdr) := Rds.own hOne2 (.head _) (by simp) hs2
      have hP2 : ∀ q ∈ L.sealed ++ [L.logged], RdPats W (lifeOwn (s2, c2) (L.sealed ++ [L.logged]) :: lifeRow p (xo, xc) L :: lifeOwn (xo, xc) L.sealed :: R) q.ao q.pats := by
        intro q hq
        rcases List.mem_append.1 hq with h | h
        · exact (hP q h).ent (Ent.drop Ent.refl)
        · rw [List.mem_singleton] at h; subst h; exact hPl.ent (Ent.drop Ent.refl)
      ((first | refine VO.step rfl rfl ?_ | refine VD.end rfl rfl rfl ?_ | refine VD.mid rfl rfl rfl ?_); refine OpV.call rfl rfl (fun _ _ => by simp) (are_ok (hT.ent (Ent.drop Ent.refl)) hRA2 hP2 hl (by omega) L.sure (by omega) hF.more) Ent.refl rfl ?_)
      intro _ _
      (refine w ?_; repeat ((first | refine VO.step rfl rfl ?_ | refine VD.end rfl rfl rfl ?_ | refine VD.mid rfl rfl rfl ?_); refine OpV.box rfl rfl rfl ?_; intro _; refine w ?_))
      exact VE.done1 rfl rfl (Ent.drop (Ent.drop (Ent.drop Ent.refl)))
  · (first | refine VO.gF rfl rfl rfl (by simpa using h2) ?_ | refine VD.gF rfl rfl rfl (by simpa using h2) ?_)
    (refine w ?_; repeat ((first | refine VO.step rfl rfl ?_ | refine VD.end rfl rfl rfl ?_ | refine VD.mid rfl rfl rfl ?_); refine OpV.box rfl rfl rfl ?_; intro _; refine w ?_))
    by_cases h4 : kind = 4
    · (first | refine VO.gT rfl rfl rfl (by simp [h4]) ?_ | refine VD.gT rfl rfl rfl (by simp [h4]) ?_)
      (refine w ?_; repeat ((first | refine VO.step rfl rfl ?_ | refine VD.end rfl rfl rfl ?_ | refine VD.mid rfl rfl rfl ?_); refine OpV.box rfl rfl rfl ?_; intro _; refine w ?_))
      by_cases hz : ts.length = 0
      · (first | refine VO.gT rfl rfl rfl (by simp [hz]) ?_ | refine VD.gT rfl rfl rfl (by simp [hz]) ?_)
        (refine w ?_; repeat ((first | refine VO.step rfl rfl ?_ | refine VD.end rfl rfl rfl ?_ | refine VD.mid rfl rfl rfl ?_); refine OpV.box rfl rfl rfl ?_; intro _; refine w ?_))
        exact VE.done1 rfl rfl (Ent.drop (Ent.drop Ent.refl))
      · (first | refine VO.gF rfl rfl rfl (by simp [hz]) ?_ | refine VD.gF rfl rfl rfl (by simp [hz]) ?_)
        obtain ⟨hs, hF⟩ : L.sure ≤ ts.length ∧ Firsts base ts L.sealed := by
          rcases hk with h | h
          · exact h
          · exact absurd (by rw [h.2]; rfl) hz
        (refine w ?_; repeat ((first | refine VO.step rfl rfl ?_ | refine VD.end rfl rfl rfl ?_ | refine VD.mid rfl rfl rfl ?_); refine OpV.box rfl rfl rfl ?_; intro _; refine w ?_))
        ((first | refine VO.step rfl rfl ?_ | refine VD.end rfl rfl rfl ?_ | refine VD.mid rfl rfl rfl ?_); refine OpV.call rfl rfl (fun _ _ => by simp) (are_ok hT hRA hP hl (by omega) L.sure (by omega) hF) Ent.refl rfl ?_)
        intro _ _
        (refine w ?_; repeat ((first | refine VO.step rfl rfl ?_ | refine VD.end rfl rfl rfl ?_ | refine VD.mid rfl rfl rfl ?_); refine OpV.box rfl rfl rfl ?_; intro _; refine w ?_))
        exact VE.done1 rfl rfl (Ent.drop (Ent.drop Ent.refl))
    · (first | refine VO.gF rfl rfl rfl (by simpa using h4) ?_ | refine VD.gF rfl rfl rfl (by simpa using h4) ?_)
      (refine w ?_; repeat ((first | refine VO.step rfl rfl ?_ | refine VD.end rfl rfl rfl ?_ | refine VD.mid rfl rfl rfl ?_); refine OpV.box rfl rfl rfl ?_; intro _; refine w ?_))
      (refine VC.cond rfl rfl ?_ ?_ <;> intro hc)
      · (refine w ?_; repeat ((first | refine VO.step rfl rfl ?_ | refine VD.end rfl rfl rfl ?_ | refine VD.mid rfl rfl rfl ?_); refine OpV.box rfl rfl rfl ?_; intro _; refine w ?_))
        by_cases hz : ts.length = 0
        · (first | refine VO.gT rfl rfl rfl (by simp [hz]) ?_ | refine VD.gT rfl rfl rfl (by simp [hz]) ?_)
          (refine w ?_; repeat ((first | refine VO.step rfl rfl ?_ | refine VD.end rfl rfl rfl ?_ | refine VD.mid rfl rfl rfl ?_); refine OpV.box rfl rfl rfl ?_; intro _; refine w ?_))
          exact VE.done1 rfl rfl (Ent.drop (Ent.drop Ent.refl))
        · (first | refine VO.gF rfl rfl rfl (by simp [hz]) ?_ | refine VD.gF rfl rfl rfl (by simp [hz]) ?_)
          obtain ⟨hs, hF⟩ : L.sure ≤ ts.length ∧ Firsts base ts L.sealed := by
            rcases hk with h | h
            · exact h
            · exact absurd (by rw [h.2]; rfl) hz
          (refine w ?_; repeat ((first | refine VO.step rfl rfl ?_ | refine VD.end rfl rfl rfl ?_ | refine VD.mid rfl rfl rfl ?_); refine OpV.box rfl rfl rfl ?_; intro _; refine w ?_))
          ((first | refine VO.step rfl rfl ?_ | refine VD.end rfl rfl rfl ?_ | refine VD.mid rfl rfl rfl ?_); refine OpV.call rfl rfl (fun _ _ => by simp) (are_ok hT hRA hP hl (by omega) L.sure (by omega) hF) Ent.refl rfl ?_)
          intro _ _
          (refine w ?_; repeat ((first | refine VO.step rfl rfl ?_ | refine VD.end rfl rfl rfl ?_ | refine VD.mid rfl rfl rfl ?_); refine OpV.box rfl rfl rfl ?_; intro _; refine w ?_))
          exact VE.done1 rfl rfl (Ent.drop (Ent.drop Ent.refl))
      · have h5 : kind ≠ 5 := by simpa using hc
        obtain ⟨hs, hF⟩ : L.sure ≤ ts.length ∧ Firsts base ts L.sealed := by
          rcases hk with h | h
          · exact h
          · exact absurd h.1 (by omega)
        (refine w ?_; repeat ((first | refine VO.step rfl rfl ?_ | refine VD.end rfl rfl rfl ?_ | refine VD.mid rfl rfl rfl ?_); refine OpV.box rfl rfl rfl ?_; intro _; refine w ?_))
        ((first | refine VO.step rfl rfl ?_ | refine VD.end rfl rfl rfl ?_ | refine VD.mid rfl rfl rfl ?_); refine OpV.call rfl rfl (fun _ _ => by simp) (are_ok hT hRA hP hl (by omega) L.sure (by omega) hF) Ent.refl rfl ?_)
        intro _ _
        (refine w ?_; repeat ((first | refine VO.step rfl rfl ?_ | refine VD.end rfl rfl rfl ?_ | refine VD.mid rfl rfl rfl ?_); refine OpV.box rfl rfl rfl ?_; intro _; refine w ?_))
        exact VE.done1 rfl rfl (Ent.drop (Ent.drop Ent.refl))
end Go.Proofs.YtlojjlbngnaphaaGreat

/-! Text Ta. -/
/- The law WalKeeps, plainly: a life in a call's memory; what a cut leaves of it. -/
set_option maxRecDepth 8000
set_option linter.unusedVariables false
set_option linter.unusedSimpArgs false
set_option linter.unusedSectionVars false
namespace Go.Proofs.YtlojjlbngnaphaaGreat
open Go.RowKit Go.Sl
attribute [local irreducible] Own

abbrev TxnE.pl (t : TxnE) : PlsE := ⟨t.ao, t.cap, t.pats⟩
/-- A life in memory of the call's own is this one. -/
structure CorM (W : World) (H : List SProp) (L : LifeE) (x : LifeD) : Prop where
  sealed : x.sealed = L.sealed.map PlsE.T
  sure : x.sure = L.sure
  logged : ∀ l, x.logged = some l → L.logged.T = l
  rd : ∀ q ∈ L.sealed, RdPats W H q.ao q.pats
  rdl : RdPats W H L.logged.ao L.logged.pats
theorem CorM.start (W : World) (H : List SProp) : CorM W H ⟨[], 0, nilPl⟩ ⟨[], 0, none⟩ := ⟨rfl, rfl, fun l h => (by cases h), fun q h => (by cases h), rdPats_nil⟩
theorem CorM.does {W : World} {H : List SProp} {L : LifeE} {x : LifeD} (h : CorM W H L x) {o : OpE} (ho : o.wf W) (h2 : o.kind = 2 → ∃ l, x.logged = some l) : CorM W H (L.does o) (x.does o.kind.toNat (o.pats.map PatE.D)) := by
  have hlen : x.sealed.length = L.sealed.length := by rw [h.sealed, List.length_map]
  unfold LifeE.does
  by_cases k1 : o.kind = 1
  · rw [if_pos k1, k1]
    exact ⟨h.sealed, hlen, fun l hl => Option.some.inj hl, h.rd, ho.rd H⟩
  by_cases k2 : o.kind = 2
  · rw [if_neg k1, if_pos k2]
    obtain ⟨l, hl⟩ := h2 k2
    rw [k2]
    refine ⟨?_, h.sure, fun l hl => (by cases hl), fun q hq => ?_, rdPats_nil⟩
    · show x.sealed ++ [x.logged.getD []] = (L.sealed ++ [L.logged]).map PlsE.T
      rw [h.sealed, hl, List.map_append, ← h.logged l hl]; rfl
    · rcases List.mem_append.1 hq with q1 | q1
      · exact h.rd q q1
      · rw [List.mem_singleton] at q1; subst q1; exact h.rdl
  by_cases k3 : o.kind = 3
  · rw [if_neg k1, if_neg k2, if_pos k3, k3]
    exact ⟨h.sealed, hlen, h.logged, h.rd, h.rdl⟩
  by_cases k45 : o.kind = 4 ∨ o.kind = 5
  · rw [if_neg k1, if_neg k2, if_neg k3, if_pos k45]
    have e : x.does o.kind.toNat (o.pats.map PatE.D) = ⟨[], 0, none⟩ := by rcases k45 with q | q <;> rw [q] <;> rfl
    rw [e]
    exact CorM.start W H
  · rw [if_neg k1, if_neg k2, if_neg k3, if_neg k45]
    have e : x.does o.kind.toNat (o.pats.map PatE.D) = x := by
      unfold LifeD.does; split <;> first | rfl | (exfalso; omega)
    rw [e]; exact h
/-- What was found is a life. -/
theorem CorM.found {W : World} {H : List SProp} {yo : Option Addr} {ts : List TxnE} {ls : List (List PatD)} {base : Nat} (hT : RdTxns W H yo ts) (h : ts.map TxnE.T = numb base ls) : CorM W H ⟨ts.map TxnE.pl, ts.length, nilPl⟩ ⟨ls, ls.length, none⟩ := by
  have hl : ts.length = ls.length := by have := congrArg List.length h; rwa [List.length_map, numb_length] at this
  refine ⟨?_, hl.symm, fun l q => (by cases q), fun q hq => ?_, rdPats_nil⟩
  · show ls = (ts.map TxnE.pl).map PlsE.T
    refine List.ext_getElem (by rw [List.length_map, List.length_map, hl]) fun i h1 h2 => ?_
    have hg : (ts.map TxnE.T)[i]? = (numb base ls)[i]? := by rw [h]
    rw [List.getElem?_map, List.getElem?_eq_getElem (by omega), numb_get _ base i h1] at hg
    injection hg with hg
    have := congrArg Prod.snd hg
    rw [List.getElem_map, List.getElem_map]
    exact this.symm
  · obtain ⟨t, ht, rfl⟩ := List.mem_map.1 hq
    exact hT.each t ht
def keepBeg (ring : Nat) : BayD := (wFormat (BayD.new [2050]) 0 (ring : Int) 1).2
theorem keep_beg {n : Nat} (hn : 5 ≤ n ∧ n ≤ 2048) : (wFormat (BayD.new [2050]) 0 (n : Int) 1).1 = (some (fresh0 0 1 n), 0) ∧ KInv n (n + 2) 0 0 (fresh0 0 1 n) (keepBeg n) ⟨[], 0, none⟩ := by
  obtain ⟨D', k', e1, e2, e3, e4⟩ := fresh_live (s := 0) (n := n) (epoch := 1) (new_pw (l := [2050]) (s := 0) (m := 2050) rfl (by omega)) hn (by omega) (by decide) rfl
  have e0 : wFormat (BayD.new [2050]) 0 (n : Int) 1 = ((some (fresh0 0 1 n), 0), D') := e1
  have hcp := format_capd (n := n) (new_capd [2050]) 0 1
  rw [e0] at hcp
  unfold keepBeg
  rw [e0]
  exact ⟨rfl, hcp.mono (by omega), Nat.zero_le _, fun _ => ⟨rfl, rfl, by show 1 ≤ 1 + 0; omega, by show 1 ≤ 10 + 0; omega, k', 1, Nat.le_refl _, e2, e3⟩, fun q => absurd rfl q⟩
/-- What stands behind a cut and Open twice. -/
theorem KInv.anew {n c j under : Nat} {v : WalD} {D : BayD} {x : LifeD} (h : KInv n c j under v D x) (kl : List (List Bool)) :
    ∃ ls v' D' D2 base, x.left under ls ∧ wOpen (D.cut kl) 0 (n : Int) = (((some v', numb base ls), 0), D') ∧ wOpen D' 0 (n : Int) = (((some v', numb base ls), 0), D2) ∧ 1 ≤ base ∧ v'.next = base + ls.length ∧ base + ls.length ≤ 1 + j ∧ KInv n c j 0 v' D2 ⟨ls, ls.length, none⟩ ∧ ∀ i, i < ls.length → Fine v'.epoch (base + i) ((ls[i]?).getD []) := by
  obtain ⟨ls, v', D', D2, base, k', h1, h2, h3, h4, h5, h6, h7, h8, h9, h10, h11, h12, h13, h14⟩ := h.cut kl
  have hcp := cut_capd h.cap kl
  refine ⟨ls, v', D', D2, base, h1, h2, h3, h4, h5, h9, ⟨?_, by show ls.length ≤ j + n; omega, fun _ => ⟨h6, h7, by omega, h8, k', base, h4, h10, h11⟩, fun q => absurd rfl q⟩, ?_⟩
  · intro s hs
    obtain ⟨i, hi, rfl⟩ := List.mem_iff_getElem.1 hs
    by_cases q : i = 0
    · subst q
      have := h10.slot
      rw [List.getElem?_eq_getElem hi] at this
      injection this with this
      rw [this]
      rintro w (hw | hw | hw)
      · injection hw with hw; subst hw; rw [h12]; exact Nat.zero_le _
      · cases hw
      · cases hw
    · have := h14 i q
      rw [List.getElem?_eq_getElem hi] at this
      exact hcp _ (List.mem_of_getElem? this.symm)
  · intro i hi
    have := h11.all.lays.fine i hi
    rw [List.getElem?_eq_getElem hi]
    exact this
end Go.Proofs.YtlojjlbngnaphaaGreat

/-! Text Tb. -/
/- The law WalKeeps: walked. -/
set_option maxRecDepth 8000
set_option linter.unusedVariables false
set_option linter.unusedSimpArgs false
set_option linter.unusedSectionVars false
namespace Go.Proofs.YtlojjlbngnaphaaGreat
open Go.RowKit Go.Sl
attribute [local irreducible] Own

structure KeepE where
  j : Nat
  under : Nat
  v : WalD
  D : BayD
  x : Option Addr × Nat
  L : LifeE
  wp : Nat
  pl : Nat
  y : Option Addr × Nat
  ts : List TxnE
abbrev KeepE.mem (b : Nat) (R : List SProp) (s : KeepE) : List SProp := WalR s.wp b s.v :: BayR b s.D :: lifeRow s.pl s.x s.L :: lifeOwn s.x s.L.sealed :: TxnsO s.y s.ts :: PilT s.ts :: R
/-- The end of a round: what was found is the new life. -/
theorem keepfirsts {ts : List TxnE} {base : Nat} {ls : List (List PatD)} {L : LifeE} {x : LifeD} (h : ts.map TxnE.T = numb base ls) (hs : x.sealed = L.sealed.map PlsE.T) (c : Nat) (hc : c ≤ x.sealed.length) (hl : ls = x.sealed.take c) (hb : base + ls.length ≤ 4611686018427387905) : Firsts base ts L.sealed := by
  have hlen : ts.length = ls.length := by have := congrArg List.length h; rwa [List.length_map, numb_length] at this
  have hlc : ls.length = c := by rw [hl, List.length_take]; omega
  have hLl : L.sealed.length = x.sealed.length := by rw [hs, List.length_map]
  have hget : ∀ (i : Nat) (h : i < ts.length), ts[i].seq = base + i ∧ ts[i].pats.map PatE.D = x.sealed[i]'(by omega) := by
    intro i hi
    have h1 : (ts.map TxnE.T)[i]? = (numb base ls)[i]? := by rw [h]
    rw [List.getElem?_map, List.getElem?_eq_getElem hi, numb_get _ base i (by omega)] at h1
    injection h1 with h1
    refine ⟨congrArg Prod.fst h1, (congrArg Prod.snd h1).trans ?_⟩
    simp only [hl, List.getElem_take]
  exact ⟨by omega, fun i hi => by
    rw [(hget i hi).2]
    simp only [hs, List.getElem_map], fun i hi => (hget i hi).1, by omega⟩
set_option maxHeartbeats 8000000 in
theorem wkeeps_law {W : World} {R : List SProp} {ao : Option Addr} {cap : Nat} {l : List OpE} (hbs : RdOps W ao l) (ring : Int) : Does1 W Tryz.prog 7 [.int .i64 ring, .slice ao l.length cap] R (.bool true) R := by
  (refine Does.enter Tryz.func7 Tryz.ntmps7 rfl rfl ?_)
  (refine w ?_; repeat ((first | refine VO.step rfl rfl ?_ | refine VD.end rfl rfl rfl ?_ | refine VD.mid rfl rfl rfl ?_); refine OpV.box rfl rfl rfl ?_; intro _; refine w ?_))
  ((first | refine VO.step rfl rfl ?_ | refine VD.end rfl rfl rfl ?_ | refine VD.mid rfl rfl rfl ?_); refine OpV.call rfl rfl (fun _ _ => by simp) (wmuch_ok hbs) Ent.refl rfl ?_)
  intro mu hmu
  cases mu with
  | true =>
    (refine w ?_; repeat ((first | refine VO.step rfl rfl ?_ | refine VD.end rfl rfl rfl ?_ | refine VD.mid rfl rfl rfl ?_); refine OpV.box rfl rfl rfl ?_; intro _; refine w ?_))
    exact VE.done1 rfl rfl Ent.refl
  | false =>
  have hf := hmu rfl
  (refine w ?_; repeat ((first | refine VO.step rfl rfl ?_ | refine VD.end rfl rfl rfl ?_ | refine VD.mid rfl rfl rfl ?_); refine OpV.box rfl rfl rfl ?_; intro _; refine w ?_))
  (refine VC.cond rfl rfl ?_ ?_ <;> intro hc)
  · (refine w ?_; repeat ((first | refine VO.step rfl rfl ?_ | refine VD.end rfl rfl rfl ?_ | refine VD.mid rfl rfl rfl ?_); refine OpV.box rfl rfl rfl ?_; intro _; refine w ?_))
    exact VE.done1 rfl rfl Ent.refl
  have hring : ring ≤ 2048 := by have := of_decide_eq_false hc; omega
  (refine w ?_; repeat ((first | refine VO.step rfl rfl ?_ | refine VD.end rfl rfl rfl ?_ | refine VD.mid rfl rfl rfl ?_); refine OpV.box rfl rfl rfl ?_; intro _; refine w ?_))
  ((first | refine VO.step rfl rfl ?_ | refine VD.end rfl rfl rfl ?_ | refine VD.mid rfl rfl rfl ?_); refine OpV.buildSlice1 st_74 rfl rfl (by first | (simp; done) | simp [Value.oneCell']) (by decide) rfl ?_; intro nb)
  (refine w ?_; repeat ((first | refine VO.step rfl rfl ?_ | refine VD.end rfl rfl rfl ?_ | refine VD.mid rfl rfl rfl ?_); refine OpV.box rfl rfl rfl ?_; intro _; refine w ?_))
  have hr : Rds W (Row nb 3 [.int .i64 2050] :: R) 1 (some ⟨nb, 0, none⟩) 1 (intsI [2050]) := Rds.row (intsI_one _) (.head _) rfl
  ((first | refine VO.step rfl rfl ?_ | refine VD.end rfl rfl rfl ?_ | refine VD.mid rfl rfl rfl ?_); refine OpV.call rfl rfl (fun _ _ => by simp) (baynew_ok (l := [2050]) hr (by decide)) Ent.refl rfl ?_)
  intro x hx
  rw [show bayE [2050] = 0 from rfl] at hx ⊢
  obtain ⟨b, rfl⟩ : ∃ b, x = some b := by cases x with | none => cases hx | some b => exact ⟨b, rfl⟩
  dsimp only [Option.elim_some]
  (refine w ?_; repeat ((first | refine VO.step rfl rfl ?_ | refine VD.end rfl rfl rfl ?_ | refine VD.mid rfl rfl rfl ?_); refine OpV.box rfl rfl rfl ?_; intro _; refine w ?_))
  ((first | refine VO.step rfl rfl ?_ | refine VD.end rfl rfl rfl ?_ | refine VD.mid rfl rfl rfl ?_); refine OpV.call rfl rfl (fun _ _ => by simp) (wknown_ok) Ent.refl rfl ?_)
  intro _ _
  (refine w ?_; repeat ((first | refine VO.step rfl rfl ?_ | refine VD.end rfl rfl rfl ?_ | refine VD.mid rfl rfl rfl ?_); refine OpV.box rfl rfl rfl ?_; intro _; refine w ?_))
  refine VO.ent (Ent.re (L := BayR b (BayD.new [2050]) :: R)) ?_
  by_cases h5 : ring < 5
  · have hz : wFormat (BayD.new [2050]) 0 ring 1 = ((none, 1), BayD.new [2050]) := if_pos (.inl (decide_eq_false (by omega)))
    have hF := walformat_ok (W := W) (R := R) (D := BayD.new [2050]) (epoch := 1) b 0 ring (by decide) (new_capd _) (by decide)
    rw [hz] at hF
    ((first | refine VO.step rfl rfl ?_ | refine VD.end rfl rfl rfl ?_ | refine VD.mid rfl rfl rfl ?_); refine OpV.call rfl rfl (fun _ _ => by simp) (hF) Ent.refl rfl ?_)
    intro y hy
    obtain rfl : y = none := by cases y with | none => rfl | some w => cases hy
    dsimp only [Option.elim_none]
    (refine w ?_; repeat ((first | refine VO.step rfl rfl ?_ | refine VD.end rfl rfl rfl ?_ | refine VD.mid rfl rfl rfl ?_); refine OpV.box rfl rfl rfl ?_; intro _; refine w ?_))
    exact VE.done1 rfl (by congr 1; simp; omega) Ent.re
  · obtain ⟨n, rfl⟩ : ∃ n : Nat, ring = n := ⟨ring.toNat, by omega⟩
    obtain ⟨hc1, hc2⟩ := keep_beg (n := n) ⟨by omega, by omega⟩
    have hF := walformat_ok (W := W) (R := R) (D := BayD.new [2050]) (epoch := 1) b 0 (n : Int) (by decide) (new_capd _) (by decide)
    rw [hc1] at hF
    ((first | refine VO.step rfl rfl ?_ | refine VD.end rfl rfl rfl ?_ | refine VD.mid rfl rfl rfl ?_); refine OpV.call rfl rfl (fun _ _ => by simp) (hF) Ent.refl rfl ?_)
    intro y hy
    obtain ⟨wp, rfl⟩ : ∃ w, y = some w := by cases y with | none => cases hy | some w => exact ⟨w, rfl⟩
    dsimp only [Option.elim_some, Option.map_some]
    rw [Int.toNat_natCast]
    have hll := hf.len
    (refine w ?_; repeat ((first | refine VO.step rfl rfl ?_ | refine VD.end rfl rfl rfl ?_ | refine VD.mid rfl rfl rfl ?_); refine OpV.box rfl rfl rfl ?_; intro _; refine w ?_))
    ((first | apply VO.pure rfl rfl | apply VD.take rfl rfl rfl | (refine VD.end rfl rfl rfl ?_; apply OpV.pure)); apply PureAt.build sb_49 rfl; (simp [buildX, setL, Value.cells]; rfl); rfl)
    (refine w ?_; repeat ((first | refine VO.step rfl rfl ?_ | refine VD.end rfl rfl rfl ?_ | refine VD.mid rfl rfl rfl ?_); refine OpV.box rfl rfl rfl ?_; intro _; refine w ?_))
    rename_i pl
    refine VC.loop (α := KeepE) (fun s => s.j ≤ l.length ∧ ∃ X, KInv n (n + 2) s.j s.under s.v s.D X ∧ CorM W [TxnsO s.y s.ts, PilT s.ts] s.L X) (KeepE.mem b R)
      (fun s => [(0, .int .i64 n), (1, .slice ao l.length cap), (5, .pointer (some ⟨b, 0, none⟩)), (7, .pointer (some ⟨s.wp, 0, none⟩)), (9, .pointer (some ⟨s.pl, 0, none⟩)), (10, .int .i64 s.under), (11, .int .i64 s.j)]) (fun s => l.length - s.j) rfl
      ⟨0, 0, fresh0 0 1 n, keepBeg n, (none, 0), ⟨[], 0, nilPl⟩, wp, pl, (none, 0), []⟩ ⟨Nat.zero_le _, _, hc2, CorM.start W _⟩ ?_ ⟨rfl, rfl, rfl, rfl, rfl, rfl, rfl, trivial⟩ ?_
    · refine Ent.trans (Ent.re (L := WalR wp b (fresh0 0 1 n) :: BayR b (keepBeg n) :: lifeRow pl (none, 0) ⟨[], 0, nilPl⟩ :: R)) fun w hw => ?_
      have h1 := Holds.ownNil 43 2 (pile_nil (res := TxnE.res) hw)
      have h2 := Holds.ownNil 34 1 h1
      have hE : Ent W (lifeOwn (none, 0) [] :: TxnsO (none, 0) [] :: PilT [] :: WalR wp b (fresh0 0 1 n) :: BayR b (keepBeg n) :: lifeRow pl (none, 0) ⟨[], 0, nilPl⟩ :: R) (WalR wp b (fresh0 0 1 n) :: BayR b (keepBeg n) :: lifeRow pl (none, 0) ⟨[], 0, nilPl⟩ :: lifeOwn (none, 0) [] :: TxnsO (none, 0) [] :: PilT [] :: R) := Ent.re
      exact hE w h2
    rintro ⟨j, under, v, D, ⟨xo, xc⟩, L, wp, pl, ⟨qo, qc⟩, us⟩ ⟨hj, X, hI, hC⟩
    dsimp only [KeepE.mem] at hj hI hC ⊢
    (refine w ?_; repeat ((first | refine VO.step rfl rfl ?_ | refine VD.end rfl rfl rfl ?_ | refine VD.mid rfl rfl rfl ?_); refine OpV.box rfl rfl rfl ?_; intro _; refine w ?_))
    (refine VC.cond rfl rfl ?_ ?_ <;> intro hc)
    · have hlt : j < l.length := by have := of_decide_eq_true hc; omega
      have hr := hbs.rds (WalR wp b v :: BayR b D :: lifeRow pl (xo, xc) L :: lifeOwn (xo, xc) L.sealed :: TxnsO (qo, qc) us :: PilT us :: R)
      obtain ⟨a, rfl⟩ := some_of_pos hr.nil (by omega)
      have ho := hbs.each _ (List.getElem_mem hlt)
      have hkf := ho.kfit
      have hsl : L.sealed.length ≤ 1000000 := by have h1 := hI.len; rw [hC.sealed, List.length_map] at h1; omega
      have hub : under ≤ 5 := by
        by_cases q : under = 0
        · omega
        · exact (hI.off q).1
      (refine w ?_; repeat ((first | refine VO.step rfl rfl ?_ | refine VD.end rfl rfl rfl ?_ | refine VD.mid rfl rfl rfl ?_); refine OpV.box rfl rfl rfl ?_; intro _; refine w ?_))
      (first | refine VO.pure rfl rfl (.ldRA tab_ok rfl rfl hr (opsC_at l j hlt) rfl) rfl ?_ | refine VD.take rfl rfl rfl (.ldRA tab_ok rfl rfl hr (opsC_at l j hlt) rfl) rfl ?_ | refine VQ.pure rfl rfl (.ldRA tab_ok rfl rfl hr (opsC_at l j hlt) rfl) rfl ?_ | refine VD.end rfl rfl rfl (OpV.pure (.ldRA tab_ok rfl rfl hr (opsC_at l j hlt) rfl) rfl ?_))
      (refine w ?_; repeat ((first | refine VO.step rfl rfl ?_ | refine VD.end rfl rfl rfl ?_ | refine VD.mid rfl rfl rfl ?_); refine OpV.box rfl rfl rfl ?_; intro _; refine w ?_))
      ((first | refine VO.step rfl rfl ?_ | refine VD.end rfl rfl rfl ?_ | refine VD.mid rfl rfl rfl ?_); refine OpV.allocS sb_37 rfl ?_; intro no)
      (refine w ?_; repeat ((first | refine VO.step rfl rfl ?_ | refine VD.end rfl rfl rfl ?_ | refine VD.mid rfl rfl rfl ?_); refine OpV.box rfl rfl rfl ?_; intro _; refine w ?_))
      (first | refine VO.step rfl rfl ?_ | refine VD.end rfl rfl rfl ?_ | refine VD.mid rfl rfl rfl ?_)
      refine OpV.stA (vs := l[j].cells) tab_ok rfl rfl rfl rfl (opE_one _) (by (repeat first | exact .head | apply Hole.tail)) (by simp) ?_
      (refine w ?_; repeat ((first | refine VO.step rfl rfl ?_ | refine VD.end rfl rfl rfl ?_ | refine VD.mid rfl rfl rfl ?_); refine OpV.box rfl rfl rfl ?_; intro _; refine w ?_))
      by_cases k7 : l[j].kind = 7
      · (refine VC.condTe rfl rfl (by simp [k7]) ?_)
        (refine w ?_; repeat ((first | refine VO.step rfl rfl ?_ | refine VD.end rfl rfl rfl ?_ | refine VD.mid rfl rfl rfl ?_); refine OpV.box rfl rfl rfl ?_; intro _; refine w ?_))
        have hnf := ho.nfit
        refine VO.ent (Ent.re (L := BayR b D :: WalR wp b v :: lifeRow pl (xo, xc) L :: lifeOwn (xo, xc) L.sealed :: TxnsO (qo, qc) us :: PilT us :: Row no 37 l[j].cells :: R)) ?_
        ((first | refine VO.step rfl rfl ?_ | refine VD.end rfl rfl rfl ?_ | refine VD.mid rfl rfl rfl ?_); refine OpV.call rfl rfl (fun _ _ => by simp) (baytrip_ok b D l[j].n) Ent.refl rfl ?_)
        intro _ _
        (refine w ?_; repeat ((first | refine VO.step rfl rfl ?_ | refine VD.end rfl rfl rfl ?_ | refine VD.mid rfl rfl rfl ?_); refine OpV.box rfl rfl rfl ?_; intro _; refine w ?_))
        (first | refine VO.gT rfl rfl rfl (by simp [k7]) ?_ | refine VD.gT rfl rfl rfl (by simp [k7]) ?_)
        (refine w ?_; repeat ((first | refine VO.step rfl rfl ?_ | refine VD.end rfl rfl rfl ?_ | refine VD.mid rfl rfl rfl ?_); refine OpV.box rfl rfl rfl ?_; intro _; refine w ?_))
        (first | refine VO.gF rfl rfl rfl (by simp [k7]) ?_ | refine VD.gF rfl rfl rfl (by simp [k7]) ?_)
        (refine w ?_; repeat ((first | refine VO.step rfl rfl ?_ | refine VD.end rfl rfl rfl ?_ | refine VD.mid rfl rfl rfl ?_); refine OpV.box rfl rfl rfl ?_; intro _; refine w ?_))
        (refine VC.condTe rfl rfl (by simp [k7]) ?_)
        (refine w ?_; repeat ((first | refine VO.step rfl rfl ?_ | refine VD.end rfl rfl rfl ?_ | refine VD.mid rfl rfl rfl ?_); refine OpV.box rfl rfl rfl ?_; intro _; refine w ?_))
        refine VE.round ⟨j + 1, under, v, (D.trips l[j].n).2, (xo, xc), L, wp, pl, (qo, qc), us⟩ ⟨hlt, X, (hI.trips _ hnf.2).mono (Nat.le_succ j), hC⟩ (by simp only; omega) ⟨rfl, rfl, rfl, rfl, rfl, rfl, asV rfl (by congr 1), trivial⟩ Ent.re
      (refine VC.condFe rfl rfl (by simpa using k7) ?_)
      (refine w ?_; repeat ((first | refine VO.step rfl rfl ?_ | refine VD.end rfl rfl rfl ?_ | refine VD.mid rfl rfl rfl ?_); refine OpV.box rfl rfl rfl ?_; intro _; refine w ?_))
      by_cases k15 : 1 ≤ l[j].kind ∧ l[j].kind ≤ 5
      · obtain ⟨ka, kb⟩ := k15
        (first | refine VO.gT rfl rfl rfl (by simp [ka]) ?_ | refine VD.gT rfl rfl rfl (by simp [ka]) ?_)
        (refine w ?_; repeat ((first | refine VO.step rfl rfl ?_ | refine VD.end rfl rfl rfl ?_ | refine VD.mid rfl rfl rfl ?_); refine OpV.box rfl rfl rfl ?_; intro _; refine w ?_))
        (first | refine VO.gT rfl rfl rfl (by simp [kb]) ?_ | refine VD.gT rfl rfl rfl (by simp [kb]) ?_)
        (refine w ?_; repeat ((first | refine VO.step rfl rfl ?_ | refine VD.end rfl rfl rfl ?_ | refine VD.mid rfl rfl rfl ?_); refine OpV.box rfl rfl rfl ?_; intro _; refine w ?_))
        by_cases hu : under = 0
        · subst hu
          obtain ⟨s1, s2, s3, s4⟩ := hI.step (by omega) l[j].kind.toNat ⟨by omega, by omega⟩ (l[j].pats.map PatE.D)
          (refine w ?_; repeat ((first | refine VO.step rfl rfl ?_ | refine VD.end rfl rfl rfl ?_ | refine VD.mid rfl rfl rfl ?_); refine OpV.box rfl rfl rfl ?_; intro _; refine w ?_))
          refine VO.ent (Ent.re (L := WalR wp b v :: BayR b D :: lifeRow pl (xo, xc) L :: lifeOwn (xo, xc) L.sealed :: TxnsO (qo, qc) us :: PilT us :: Row no 37 l[j].cells :: R)) ?_
          ((first | refine VO.step rfl rfl ?_ | refine VD.end rfl rfl rfl ?_ | refine VD.mid rfl rfl rfl ?_); refine OpV.call rfl rfl (fun _ _ => by simp) (calls_ok wp b v (hI.wok (by omega)) hI.cap (by omega) l[j] ho) Ent.refl rfl ?_)
          intro _ _
          generalize wDo (v, D) l[j].kind.toNat (l[j].pats.map PatE.D) = rr at s1 s2 s3 s4 ⊢
          obtain ⟨e, v2, D2⟩ := rr
          dsimp only at s1 s2 s3 s4 ⊢
          (refine w ?_; repeat ((first | refine VO.step rfl rfl ?_ | refine VD.end rfl rfl rfl ?_ | refine VD.mid rfl rfl rfl ?_); refine OpV.box rfl rfl rfl ?_; intro _; refine w ?_))
          by_cases e50 : e = 50
          · subst e50
            (refine w ?_; repeat ((first | refine VO.step rfl rfl ?_ | refine VD.end rfl rfl rfl ?_ | refine VD.mid rfl rfl rfl ?_); refine OpV.box rfl rfl rfl ?_; intro _; refine w ?_))
            (refine VC.condTe rfl rfl (by simp; omega) ?_)
            (refine w ?_; repeat ((first | refine VO.step rfl rfl ?_ | refine VD.end rfl rfl rfl ?_ | refine VD.mid rfl rfl rfl ?_); refine OpV.box rfl rfl rfl ?_; intro _; refine w ?_))
            refine VE.round ⟨j + 1, l[j].kind.toNat, v2, D2, (xo, xc), L, wp, pl, (qo, qc), us⟩ ⟨hlt, X, s2 rfl, hC⟩ (by simp only; omega) ⟨rfl, rfl, rfl, rfl, rfl, asV rfl (by dsimp only; congr 1; omega), asV rfl (by congr 1), trivial⟩ Ent.re
          · (refine VC.condFe rfl rfl (by simpa using e50) ?_)
            (refine w ?_; repeat ((first | refine VO.step rfl rfl ?_ | refine VD.end rfl rfl rfl ?_ | refine VD.mid rfl rfl rfl ?_); refine OpV.box rfl rfl rfl ?_; intro _; refine w ?_))
            by_cases e0 : e = 0
            · subst e0
              (refine w ?_; repeat ((first | refine VO.step rfl rfl ?_ | refine VD.end rfl rfl rfl ?_ | refine VD.mid rfl rfl rfl ?_); refine OpV.box rfl rfl rfl ?_; intro _; refine w ?_))
              refine VO.ent (Ent.re (L := lifeRow pl (xo, xc) L :: lifeOwn (xo, xc) L.sealed :: WalR wp b v2 :: BayR b D2 :: TxnsO (qo, qc) us :: PilT us :: Row no 37 l[j].cells :: R)) ?_
              ((first | refine VO.step rfl rfl ?_ | refine VD.end rfl rfl rfl ?_ | refine VD.mid rfl rfl rfl ?_); refine OpV.call rfl rfl (fun _ _ => by simp) (lifedoes_ok pl (xo, xc) L hsl l[j]) Ent.refl rfl ?_)
              intro x2 _
              (refine w ?_; repeat ((first | refine VO.step rfl rfl ?_ | refine VD.end rfl rfl rfl ?_ | refine VD.mid rfl rfl rfl ?_); refine OpV.box rfl rfl rfl ?_; intro _; refine w ?_))
              (refine VC.condTe rfl rfl (by simp; omega) ?_)
              (refine w ?_; repeat ((first | refine VO.step rfl rfl ?_ | refine VD.end rfl rfl rfl ?_ | refine VD.mid rfl rfl rfl ?_); refine OpV.box rfl rfl rfl ?_; intro _; refine w ?_))
              refine VE.round ⟨j + 1, 0, v2, D2, x2, L.does l[j], wp, pl, (qo, qc), us⟩ ⟨hlt, _, s1 rfl, hC.does ho (fun q => s4 (by rw [q]; rfl) rfl)⟩ (by simp only; omega) ⟨rfl, rfl, rfl, rfl, rfl, rfl, asV rfl (by congr 1), trivial⟩ Ent.re
            · (refine VC.condFe rfl rfl (by simpa using e0) ?_)
              (refine w ?_; repeat ((first | refine VO.step rfl rfl ?_ | refine VD.end rfl rfl rfl ?_ | refine VD.mid rfl rfl rfl ?_); refine OpV.box rfl rfl rfl ?_; intro _; refine w ?_))
              (refine VC.condTe rfl rfl (by simp; omega) ?_)
              (refine w ?_; repeat ((first | refine VO.step rfl rfl ?_ | refine VD.end rfl rfl rfl ?_ | refine VD.mid rfl rfl rfl ?_); refine OpV.box rfl rfl rfl ?_; intro _; refine w ?_))
              refine VE.round ⟨j + 1, 0, v2, D2, (xo, xc), L, wp, pl, (qo, qc), us⟩ ⟨hlt, X, s3 e0 e50, hC⟩ (by simp only; omega) ⟨rfl, rfl, rfl, rfl, rfl, rfl, asV rfl (by congr 1), trivial⟩ Ent.re
        · (refine VC.condFe rfl rfl (by simp; omega) ?_)
          (refine w ?_; repeat ((first | refine VO.step rfl rfl ?_ | refine VD.end rfl rfl rfl ?_ | refine VD.mid rfl rfl rfl ?_); refine OpV.box rfl rfl rfl ?_; intro _; refine w ?_))
          (refine VC.condTe rfl rfl (by simp; omega) ?_)
          (refine w ?_; repeat ((first | refine VO.step rfl rfl ?_ | refine VD.end rfl rfl rfl ?_ | refine VD.mid rfl rfl rfl ?_); refine OpV.box rfl rfl rfl ?_; intro _; refine w ?_))
          refine VE.round ⟨j + 1, under, v, D, (xo, xc), L, wp, pl, (qo, qc), us⟩ ⟨hlt, X, hI.mono (Nat.le_succ j), hC⟩ (by simp only; omega) ⟨rfl, rfl, rfl, rfl, rfl, rfl, asV rfl (by congr 1), trivial⟩ Ent.re
      have hk15 : ¬ (1 ≤ l[j].kind) ∨ ¬ (l[j].kind ≤ 5) := by omega
      refine VO.joinR (α := Unit) (fun _ => True) (fun _ => WalR wp b v :: BayR b D :: lifeRow pl (xo, xc) L :: lifeOwn (xo, xc) L.sealed :: TxnsO (qo, qc) us :: PilT us :: Row no 37 l[j].cells :: R)
        (fun _ => [(0, .int .i64 n), (1, .slice (some a) l.length cap), (5, .pointer (some ⟨b, 0, none⟩)), (7, .pointer (some ⟨wp, 0, none⟩)), (9, .pointer (some ⟨pl, 0, none⟩)), (10, .int .i64 under), (11, .int .i64 j), (12, .pointer (some ⟨no, 0, none⟩)), (82, .bool false)]) (fun Q2 jn => ?_) ?_
      · by_cases k1 : 1 ≤ l[j].kind
        · (first | refine VO.gT rfl rfl rfl (by simp [k1]) ?_ | refine VD.gT rfl rfl rfl (by simp [k1]) ?_)
          (refine w ?_; repeat ((first | refine VO.step rfl rfl ?_ | refine VD.end rfl rfl rfl ?_ | refine VD.mid rfl rfl rfl ?_); refine OpV.box rfl rfl rfl ?_; intro _; refine w ?_))
          (first | refine VO.gF rfl rfl rfl (by simp; omega) ?_ | refine VD.gF rfl rfl rfl (by simp; omega) ?_)
          (refine w ?_; repeat ((first | refine VO.step rfl rfl ?_ | refine VD.end rfl rfl rfl ?_ | refine VD.mid rfl rfl rfl ?_); refine OpV.box rfl rfl rfl ?_; intro _; refine w ?_))
          refine jn.to () trivial ⟨rfl, rfl, rfl, rfl, rfl, rfl, rfl, rfl, rfl, trivial⟩ Ent.re
        · (first | refine VO.gF rfl rfl rfl (by simp; omega) ?_ | refine VD.gF rfl rfl rfl (by simp; omega) ?_)
          (refine w ?_; repeat ((first | refine VO.step rfl rfl ?_ | refine VD.end rfl rfl rfl ?_ | refine VD.mid rfl rfl rfl ?_); refine OpV.box rfl rfl rfl ?_; intro _; refine w ?_))
          refine jn.to () trivial ⟨rfl, rfl, rfl, rfl, rfl, rfl, rfl, rfl, rfl, trivial⟩ Ent.re
      rintro ⟨⟩ _
      (refine w ?_; repeat ((first | refine VO.step rfl rfl ?_ | refine VD.end rfl rfl rfl ?_ | refine VD.mid rfl rfl rfl ?_); refine OpV.box rfl rfl rfl ?_; intro _; refine w ?_))
      by_cases k8 : l[j].kind = 8
      · (refine VC.condFe rfl rfl (by simp [k8]) ?_)
        (refine w ?_; repeat ((first | refine VO.step rfl rfl ?_ | refine VD.end rfl rfl rfl ?_ | refine VD.mid rfl rfl rfl ?_); refine OpV.box rfl rfl rfl ?_; intro _; refine w ?_))
        obtain ⟨ls, v5, D5, D6, base, a1, a2, a3, a4, a5, a6, a7, a8⟩ := hI.anew [l[j].keep]
        ((first | refine VO.step rfl rfl ?_ | refine VD.end rfl rfl rfl ?_ | refine VD.mid rfl rfl rfl ?_); refine OpV.buildSlice1 st_92 rfl rfl (by first | (simp; done) | simp [Value.oneCell']) (by decide) rfl ?_; intro nb)
        have hk1 : ∀ Y : List SProp, Keeps W (Row nb 35 [(KeepD.mk l[j].y.1 l[j].y.2 l[j].keep).hdr] :: Y) (some ⟨nb, 0, none⟩) [⟨l[j].y.1, l[j].y.2, l[j].keep⟩] := fun Y =>
          ⟨Rds.row (fun u hu => by simp only [List.map_cons, List.map_nil, List.mem_cons, List.not_mem_nil, or_false] at hu; subst hu; rfl) (.head _) rfl, fun x hx => by simp only [List.mem_cons, List.not_mem_nil, or_false] at hx; subst hx; exact ho.keep _⟩
        (refine w ?_; repeat ((first | refine VO.step rfl rfl ?_ | refine VD.end rfl rfl rfl ?_ | refine VD.mid rfl rfl rfl ?_); refine OpV.box rfl rfl rfl ?_; intro _; refine w ?_))
        refine VO.ent (Ent.re (L := BayR b D :: Row nb 35 [(KeepD.mk l[j].y.1 l[j].y.2 l[j].keep).hdr] :: WalR wp b v :: lifeRow pl (xo, xc) L :: lifeOwn (xo, xc) L.sealed :: TxnsO (qo, qc) us :: PilT us :: R)) ?_
        ((first | refine VO.step rfl rfl ?_ | refine VD.end rfl rfl rfl ?_ | refine VD.mid rfl rfl rfl ?_); refine OpV.call rfl rfl (fun _ _ => by simp) (baycut_ok (kl := [⟨l[j].y.1, l[j].y.2, l[j].keep⟩]) b D (hk1 _)) Ent.refl rfl ?_)
        intro _ _
        (refine w ?_; repeat ((first | refine VO.step rfl rfl ?_ | refine VD.end rfl rfl rfl ?_ | refine VD.mid rfl rfl rfl ?_); refine OpV.box rfl rfl rfl ?_; intro _; refine w ?_))
        have hO := walopen_ok (W := W) (R := WalR wp b v :: lifeRow pl (xo, xc) L :: lifeOwn (xo, xc) L.sealed :: TxnsO (qo, qc) us :: PilT us :: R) (D := D.cut [l[j].keep]) b 0 (n : Int)
        rw [a2] at hO
        refine VO.ent (Ent.re (L := BayR b (D.cut [l[j].keep]) :: WalR wp b v :: lifeRow pl (xo, xc) L :: lifeOwn (xo, xc) L.sealed :: TxnsO (qo, qc) us :: PilT us :: R)) ?_
        ((first | refine VO.step rfl rfl ?_ | refine VD.end rfl rfl rfl ?_ | refine VD.mid rfl rfl rfl ?_); refine OpV.call rfl rfl (fun _ _ => by simp) (hO) Ent.refl rfl ?_)
        rintro ⟨yw, ⟨yo, yc⟩, ts⟩ ⟨hy1, hy2⟩
        dsimp only at hy1 hy2
        obtain ⟨w5, rfl⟩ : ∃ w, yw = some w := by cases yw with | none => cases hy1 | some w => exact ⟨w, rfl⟩
        dsimp only [Option.elim_some, Option.getD_some, Option.map_some]
        (refine w ?_; repeat ((first | refine VO.step rfl rfl ?_ | refine VD.end rfl rfl rfl ?_ | refine VD.mid rfl rfl rfl ?_); refine OpV.box rfl rfl rfl ?_; intro _; refine w ?_))
        have hO2 := walopen_ok (W := W) (R := WalR w5 b v5 :: lifeRow pl (xo, xc) L :: lifeOwn (xo, xc) L.sealed :: TxnsO (yo, yc) ts :: PilT ts :: TxnsO (qo, qc) us :: PilT us :: R) (D := D5) b 0 (n : Int)
        rw [a3] at hO2
        refine VO.ent (Ent.re (L := BayR b D5 :: WalR w5 b v5 :: lifeRow pl (xo, xc) L :: lifeOwn (xo, xc) L.sealed :: TxnsO (yo, yc) ts :: PilT ts :: TxnsO (qo, qc) us :: PilT us :: R)) ?_
        ((first | refine VO.step rfl rfl ?_ | refine VD.end rfl rfl rfl ?_ | refine VD.mid rfl rfl rfl ?_); refine OpV.call rfl rfl (fun _ _ => by simp) (hO2) Ent.refl rfl ?_)
        rintro ⟨zw, ⟨zo, zc⟩, ts2⟩ ⟨hz1, hz2⟩
        dsimp only at hz1 hz2
        obtain ⟨w6, rfl⟩ : ∃ w, zw = some w := by cases zw with | none => cases hz1 | some w => exact ⟨w, rfl⟩
        dsimp only [Option.elim_some, Option.getD_some, Option.map_some]
        (refine w ?_; repeat ((first | refine VO.step rfl rfl ?_ | refine VD.end rfl rfl rfl ?_ | refine VD.mid rfl rfl rfl ?_); refine OpV.box rfl rfl rfl ?_; intro _; refine w ?_))
        refine VC.ent (Ent.re (L := TxnsO (yo, yc) ts :: PilT ts :: TxnsO (zo, zc) ts2 :: PilT ts2 :: TxnsO (qo, qc) us :: PilT us :: lifeRow pl (xo, xc) L :: lifeOwn (xo, xc) L.sealed :: WalR w5 b v5 :: BayR b D6 :: R)) ?_
        refine VC.know (p := yo = none → ts.length = 0) (fun w hw => hw.ownNone (.head _)) ?_
        intro hyo
        refine VC.know (p := ∀ t ∈ ts, t.ok) (fun w hw => PilT.know hw.tail) ?_
        intro hok
        refine VC.know (p := zo = none → ts2.length = 0) (fun w hw => hw.tail.tail.ownNone (.head _)) ?_
        intro hzo
        refine VC.know (p := ∀ t ∈ ts2, t.ok) (fun w hw => PilT.know hw.tail.tail.tail) ?_
        intro hok2
        refine VC.know (p := xo = none → L.sealed.length = 0) (fun w hw => hw.tail.tail.tail.tail.tail.tail.tail.ownNone (.head _)) ?_
        intro hxo
        have hTs : RdTxns W [TxnsO (yo, yc) ts, PilT ts] yo ts := RdTxns.own (x := (yo, yc)) hyo hok (.head _) (.tail _ (.head _))
        have hT2 : RdTxns W [TxnsO (zo, zc) ts2, PilT ts2] zo ts2 := RdTxns.own (x := (zo, zc)) hzo hok2 (.head _) (.tail _ (.head _))
        have htl : ts.length = ls.length := by have := congrArg List.length hy2; rwa [List.length_map, numb_length] at this
        have hnew := CorM.found hTs hy2
        have hlens : ∀ t ∈ ts, t.pats.length ≤ 140737488351232 ∧ ∀ p ∈ t.pats, p.d.data.length ≤ maxLen := by
          intro t ht
          obtain ⟨i, hi2, rfl⟩ := List.mem_iff_getElem.1 ht
          have hfi := a8 i (by omega)
          rw [List.getElem?_eq_getElem (by omega)] at hfi
          have h1 : (ts.map TxnE.T)[i]? = (numb base ls)[i]? := by rw [hy2]
          rw [List.getElem?_map, List.getElem?_eq_getElem hi2, numb_get _ base i (by omega)] at h1
          injection h1 with h1
          have hg : ts[i].pats.map PatE.D = ls[i] := congrArg Prod.snd h1
          have hfi2 : Fine v5.epoch (base + i) (ts[i].pats.map PatE.D) := by rw [hg]; exact hfi
          have hn2 := hfi2.n2
          rw [List.length_map] at hn2
          refine ⟨by omega, fun p hp => ?_⟩
          have := (hfi2.pat p.D (List.mem_map_of_mem hp)).2.2
          have h128 : p.d.data.length = 128 := this
          rw [h128]; decide
        have hk : (L.sure ≤ ts.length ∧ Firsts base ts L.sealed) ∨ (((under : Int) = 4 ∨ (under : Int) = 5) ∧ ts = []) := by
          rcases a1 with ⟨c, c1, c2, c3⟩ | ⟨c1, c2⟩
          · refine .inl ⟨?_, keepfirsts hy2 hC.sealed c c2 c3 (by omega)⟩
            rw [htl, c3, List.length_take, ← hC.sure]; omega
          · refine .inr ⟨by omega, ?_⟩
            subst c2
            exact List.eq_nil_of_length_eq_zero htl
        have hsame : ts.map TxnE.T = ts2.map TxnE.T := by rw [hy2, hz2]
        have hseq : ∀ (i : Nat) (h : i < ts.length), ts[i].seq = base + i := by
          intro i hi
          have h1 : (ts.map TxnE.T)[i]? = (numb base ls)[i]? := by rw [hy2]
          rw [List.getElem?_map, List.getElem?_eq_getElem hi, numb_get _ base i (by omega)] at h1
          injection h1 with h1
          exact congrArg Prod.fst h1
        have hRst : RdTxns W (TxnsO (yo, yc) ts :: PilT ts :: TxnsO (zo, zc) ts2 :: PilT ts2 :: R) yo ts := hTs.ent Ent.re
        refine VC.ent (Ent.re (L := lifeRow pl (xo, xc) L :: lifeOwn (xo, xc) L.sealed :: WalR w5 b v5 :: BayR b D6 :: TxnsO (yo, yc) ts :: PilT ts :: TxnsO (zo, zc) ts2 :: PilT ts2 :: TxnsO (qo, qc) us :: PilT us :: R)) ?_
        (refine VC.join (α := Unit) (fun _ => True) (fun _ => WalR w5 b v5 :: BayR b D6 :: TxnsO (yo, yc) ts :: PilT ts :: R) (fun _ => [(0, .int .i64 n), (1, .slice (some a) l.length cap), (5, .pointer (some ⟨b, 0, none⟩)), (14, .pointer (some ⟨w5, 0, none⟩)), (11, .int .i64 j), (15, .slice yo ts.length yc), (158, .bool false)]) ?_ ?_)
        · intro Q2 jn
          refine VC.drawn [10, 16, 21, 30] 39 [0, 1, 2, 3, 4, 5, 6, 7, 8, 9, 10, 11, 12, 13, 14, 15, 16, 17, 18, 19, 20, 21, 22, 23, 24, 25, 26, 27, 28, 29, 31, 32, 33, 34, 35, 36, 37, 38, 30, 39, 40, 41] (TxnsO (yo, yc) ts :: PilT ts :: TxnsO (zo, zc) ts2 :: PilT ts2 :: R) rfl (by kernel_rfl) (by kernel_rfl) Ent.re ?_
          (refine w ?_; repeat ((first | refine VO.step rfl rfl ?_ | refine VD.end rfl rfl rfl ?_ | refine VD.mid rfl rfl rfl ?_); refine OpV.box rfl rfl rfl ?_; intro _; refine w ?_))
          ((first | refine VO.step rfl rfl ?_ | refine VD.end rfl rfl rfl ?_ | refine VD.mid rfl rfl rfl ?_); refine OpV.call rfl rfl (fun _ _ => by simp) (mayk_ok pl (xo, xc) L (hTs.ent Ent.re) hxo (fun q hq => (hC.rd q hq).ent Ent.re) (hC.rdl.ent Ent.re) hlens hsl (under : Int) hk) Ent.refl rfl ?_)
          intro _ _
          try refine ⟨Ent.re, ?_⟩
          (refine w ?_; repeat ((first | refine VO.step rfl rfl ?_ | refine VD.end rfl rfl rfl ?_ | refine VD.mid rfl rfl rfl ?_); refine OpV.box rfl rfl rfl ?_; intro _; refine w ?_))
          ((first | refine VO.step rfl rfl ?_ | refine VD.end rfl rfl rfl ?_ | refine VD.mid rfl rfl rfl ?_); refine OpV.call rfl rfl (fun _ _ => by simp) (sametxns_ok (hTs.ent Ent.re) (hT2.ent Ent.re) (by omega) hlens) Ent.refl rfl ?_)
          intro _ _
          rw [decide_eq_true hsame]
          try refine ⟨Ent.re, ?_⟩
          (refine w ?_; repeat ((first | refine VO.step rfl rfl ?_ | refine VD.end rfl rfl rfl ?_ | refine VD.mid rfl rfl rfl ?_); refine OpV.box rfl rfl rfl ?_; intro _; refine w ?_))
          ((first | refine VO.step rfl rfl ?_ | refine VD.end rfl rfl rfl ?_ | refine VD.mid rfl rfl rfl ?_); refine OpV.call rfl rfl (fun _ _ => by simp) (walnext_ok w5 b v5) Ent.refl rfl ?_)
          intro _ _
          try refine ⟨Ent.re, ?_⟩
          (refine w ?_; repeat ((first | refine VO.step rfl rfl ?_ | refine VD.end rfl rfl rfl ?_ | refine VD.mid rfl rfl rfl ?_); refine OpV.box rfl rfl rfl ?_; intro _; refine w ?_))
          (first | refine VO.gF rfl rfl rfl (by simp; omega) ?_ | refine VD.gF rfl rfl rfl (by simp; omega) ?_)
          (refine w ?_; repeat ((first | refine VO.step rfl rfl ?_ | refine VD.end rfl rfl rfl ?_ | refine VD.mid rfl rfl rfl ?_); refine OpV.box rfl rfl rfl ?_; intro _; refine w ?_))
          by_cases hz : ts.length = 0
          · (first | refine VO.gF rfl rfl rfl (decide_eq_false (by omega)) ?_ | refine VD.gF rfl rfl rfl (decide_eq_false (by omega)) ?_)
            (refine w ?_; repeat ((first | refine VO.step rfl rfl ?_ | refine VD.end rfl rfl rfl ?_ | refine VD.mid rfl rfl rfl ?_); refine OpV.box rfl rfl rfl ?_; intro _; refine w ?_))
            refine VD.skipM rfl rfl Ent.re rfl rfl rfl ?_
            (refine w ?_; repeat ((first | refine VO.step rfl rfl ?_ | refine VD.end rfl rfl rfl ?_ | refine VD.mid rfl rfl rfl ?_); refine OpV.box rfl rfl rfl ?_; intro _; refine w ?_))
            refine VD.skipM rfl rfl Ent.re rfl rfl rfl ?_
            (refine w ?_; repeat ((first | refine VO.step rfl rfl ?_ | refine VD.end rfl rfl rfl ?_ | refine VD.mid rfl rfl rfl ?_); refine OpV.box rfl rfl rfl ?_; intro _; refine w ?_))
            refine jn.to () trivial ⟨rfl, rfl, rfl, rfl, rfl, rfl, rfl, trivial⟩ Ent.re
          · (first | refine VO.gT rfl rfl rfl (decide_eq_true (by omega)) ?_ | refine VD.gT rfl rfl rfl (decide_eq_true (by omega)) ?_)
            (refine w ?_; repeat ((first | refine VO.step rfl rfl ?_ | refine VD.end rfl rfl rfl ?_ | refine VD.mid rfl rfl rfl ?_); refine OpV.box rfl rfl rfl ?_; intro _; refine w ?_))
            obtain ⟨ya, rfl⟩ := some_of_pos hTs.rds.nil (by omega)
            have hs1 := hseq (ts.length - 1) (by omega)
            refine VD.re 151 (.int .i64 ((ts.length - 1 : Nat) : Int)) rfl (by congr 1; omega) ?_
            (refine w ?_; repeat ((first | refine VO.step rfl rfl ?_ | refine VD.end rfl rfl rfl ?_ | refine VD.mid rfl rfl rfl ?_); refine OpV.box rfl rfl rfl ?_; intro _; refine w ?_))
            (first | refine VO.pure rfl rfl (PureAt.ldRc tab_ok rfl rfl hRst.rds (show (txnCells ts)[(ts.length - 1) * 2 + 0]? = some (.int .u64 ((base + (ts.length - 1) : Nat) : Int)) by rw [txn_get ts (ts.length - 1) 0 (by omega) (by decide), ← hs1]; rfl)) rfl ?_ | refine VD.take rfl rfl rfl (PureAt.ldRc tab_ok rfl rfl hRst.rds (show (txnCells ts)[(ts.length - 1) * 2 + 0]? = some (.int .u64 ((base + (ts.length - 1) : Nat) : Int)) by rw [txn_get ts (ts.length - 1) 0 (by omega) (by decide), ← hs1]; rfl)) rfl ?_ | refine VQ.pure rfl rfl (PureAt.ldRc tab_ok rfl rfl hRst.rds (show (txnCells ts)[(ts.length - 1) * 2 + 0]? = some (.int .u64 ((base + (ts.length - 1) : Nat) : Int)) by rw [txn_get ts (ts.length - 1) 0 (by omega) (by decide), ← hs1]; rfl)) rfl ?_ | refine VD.end rfl rfl rfl (OpV.pure (PureAt.ldRc tab_ok rfl rfl hRst.rds (show (txnCells ts)[(ts.length - 1) * 2 + 0]? = some (.int .u64 ((base + (ts.length - 1) : Nat) : Int)) by rw [txn_get ts (ts.length - 1) 0 (by omega) (by decide), ← hs1]; rfl)) rfl ?_))
            have hw : IntKind.u64.wrap ((base : Int) + ((ts.length - 1 : Nat) : Int) + 1) = (v5.next : Int) := by
              have h := wrap64_of (show base + ts.length < 2 ^ 64 by omega)
              rw [show ((base : Int) + ((ts.length - 1 : Nat) : Int) + 1) = ((base + ts.length : Nat) : Int) by omega, h, a5, htl]
            (refine w ?_; repeat ((first | refine VO.step rfl rfl ?_ | refine VD.end rfl rfl rfl ?_ | refine VD.mid rfl rfl rfl ?_); refine OpV.box rfl rfl rfl ?_; intro _; refine w ?_))
            ((first | refine VO.step rfl rfl ?_ | refine VD.end rfl rfl rfl ?_ | refine VD.mid rfl rfl rfl ?_); refine OpV.call rfl rfl (fun _ _ => by simp) (walnext_ok w5 b v5) Ent.refl rfl ?_)
            intro _ _
            try refine ⟨Ent.re, ?_⟩
            (refine w ?_; repeat ((first | refine VO.step rfl rfl ?_ | refine VD.end rfl rfl rfl ?_ | refine VD.mid rfl rfl rfl ?_); refine OpV.box rfl rfl rfl ?_; intro _; refine w ?_))
            refine jn.to () trivial ⟨rfl, rfl, rfl, rfl, rfl, rfl, asV rfl (by simp [hw]), trivial⟩ Ent.re
        intro _ _
        (refine w ?_; repeat ((first | refine VO.step rfl rfl ?_ | refine VD.end rfl rfl rfl ?_ | refine VD.mid rfl rfl rfl ?_); refine OpV.box rfl rfl rfl ?_; intro _; refine w ?_))
        ((first | apply VO.pure rfl rfl | apply VD.take rfl rfl rfl | (refine VD.end rfl rfl rfl ?_; apply OpV.pure)); apply PureAt.build sb_49 rfl; (simp [buildX, setL, Value.cells]; rfl); rfl)
        (refine w ?_; repeat ((first | refine VO.step rfl rfl ?_ | refine VD.end rfl rfl rfl ?_ | refine VD.mid rfl rfl rfl ?_); refine OpV.box rfl rfl rfl ?_; intro _; refine w ?_))
        rename_i p5
        refine VC.loop (α := Nat × (Option Addr × Nat)) (fun s => s.1 ≤ ts.length) (fun s => lifeRow p5 s.2 ⟨(ts.take s.1).map TxnE.pl, ts.length, nilPl⟩ :: lifeOwn s.2 ((ts.take s.1).map TxnE.pl) :: WalR w5 b v5 :: BayR b D6 :: TxnsO (yo, yc) ts :: PilT ts :: R)
          (fun s => [(0, .int .i64 n), (1, .slice (some a) l.length cap), (5, .pointer (some ⟨b, 0, none⟩)), (7, .pointer (some ⟨w5, 0, none⟩)), (9, .pointer (some ⟨p5, 0, none⟩)), (10, .int .i64 0), (11, .int .i64 j), (15, .slice yo ts.length yc), (20, .int .i64 s.1)]) (fun s => ts.length - s.1) rfl
          (0, (none, 0)) (Nat.zero_le _) ?_ ⟨rfl, rfl, rfl, rfl, rfl, rfl, rfl, rfl, rfl, trivial⟩ ?_
        · refine Ent.trans (Ent.re (L := lifeRow p5 (none, 0) ⟨[], ts.length, nilPl⟩ :: WalR w5 b v5 :: BayR b D6 :: TxnsO (yo, yc) ts :: PilT ts :: R)) fun w hw => ?_
          exact (Holds.ownNil 34 1 hw).swap
        rintro ⟨m, ⟨ro, rc⟩⟩ hm
        dsimp only at hm ⊢
        have hln : ((ts.take m).map TxnE.pl).length = m := by rw [List.length_map, List.length_take]; omega
        (refine w ?_; repeat ((first | refine VO.step rfl rfl ?_ | refine VD.end rfl rfl rfl ?_ | refine VD.mid rfl rfl rfl ?_); refine OpV.box rfl rfl rfl ?_; intro _; refine w ?_))
        (refine VC.cond rfl rfl ?_ ?_ <;> intro hc)
        · have hmt : m < ts.length := by have := of_decide_eq_true hc; omega
          obtain ⟨ya, rfl⟩ := some_of_pos hTs.rds.nil (by omega)
          have hRs2 : RdTxns W (lifeRow p5 (ro, rc) ⟨(ts.take m).map TxnE.pl, ts.length, nilPl⟩ :: TxnsO (some ya, yc) ts :: PilT ts :: R) (some ya) ts := hTs.ent Ent.re
          (refine w ?_; repeat ((first | refine VO.step rfl rfl ?_ | refine VD.end rfl rfl rfl ?_ | refine VD.mid rfl rfl rfl ?_); refine OpV.box rfl rfl rfl ?_; intro _; refine w ?_))
          refine VC.drawn [10, 11] 12 [0, 1, 2, 3, 4, 5, 6, 7, 8, 9, 10, 11, 12, 13, 14] (lifeRow p5 (ro, rc) ⟨(ts.take m).map TxnE.pl, ts.length, nilPl⟩ :: TxnsO (some ya, yc) ts :: PilT ts :: R) rfl (by kernel_rfl) (by kernel_rfl) Ent.re ?_
          (refine w ?_; repeat ((first | refine VO.step rfl rfl ?_ | refine VD.end rfl rfl rfl ?_ | refine VD.mid rfl rfl rfl ?_); refine OpV.box rfl rfl rfl ?_; intro _; refine w ?_))
          (first | refine VO.pure rfl rfl (PureAt.ldRc tab_ok rfl rfl hRs2.rds (show (txnCells ts)[m * 2 + 1]? = some (ts[m].pl).hdr by rw [txn_get ts m 1 hmt (by decide)]; rfl)) rfl ?_ | refine VD.take rfl rfl rfl (PureAt.ldRc tab_ok rfl rfl hRs2.rds (show (txnCells ts)[m * 2 + 1]? = some (ts[m].pl).hdr by rw [txn_get ts m 1 hmt (by decide)]; rfl)) rfl ?_ | refine VQ.pure rfl rfl (PureAt.ldRc tab_ok rfl rfl hRs2.rds (show (txnCells ts)[m * 2 + 1]? = some (ts[m].pl).hdr by rw [txn_get ts m 1 hmt (by decide)]; rfl)) rfl ?_ | refine VD.end rfl rfl rfl (OpV.pure (PureAt.ldRc tab_ok rfl rfl hRs2.rds (show (txnCells ts)[m * 2 + 1]? = some (ts[m].pl).hdr by rw [txn_get ts m 1 hmt (by decide)]; rfl)) rfl ?_))
          (refine w ?_; repeat ((first | refine VO.step rfl rfl ?_ | refine VD.end rfl rfl rfl ?_ | refine VD.mid rfl rfl rfl ?_); refine OpV.box rfl rfl rfl ?_; intro _; refine w ?_))
          ((first | refine VO.step rfl rfl ?_ | refine VD.end rfl rfl rfl ?_ | refine VD.mid rfl rfl rfl ?_); refine OpV.buildSlice1 st_47 rfl rfl (by first | (simp; done) | simp [Value.oneCell']) (by decide) rfl ?_; intro nb)
          refine ⟨Ent.re, ?_⟩
          (refine w ?_; repeat ((first | refine VO.step rfl rfl ?_ | refine VD.end rfl rfl rfl ?_ | refine VD.mid rfl rfl rfl ?_); refine OpV.box rfl rfl rfl ?_; intro _; refine w ?_))
          (first | refine VO.step rfl rfl ?_ | refine VD.end rfl rfl rfl ?_ | refine VD.mid rfl rfl rfl ?_)
          refine OpV.appendRow st_47 rfl rfl (by (repeat first | exact .head | apply Hole.tail)) (by (focus repeat first | exact .head _ | apply List.Mem.tail)) rfl (by simp [Value.oneCell']) (by simp only [maxLen]; omega) (by omega) rfl ?_
          intro so sc
          refine ⟨Ent.re, ?_⟩
          (refine w ?_; repeat ((first | refine VO.step rfl rfl ?_ | refine VD.end rfl rfl rfl ?_ | refine VD.mid rfl rfl rfl ?_); refine OpV.box rfl rfl rfl ?_; intro _; refine w ?_))
          have hts : (ts.take (m + 1)).map TxnE.pl = (ts.take m).map TxnE.pl ++ [ts[m].pl] := by rw [List.take_succ_eq_append_getElem hmt, List.map_append]; rfl
          refine VE.round (m + 1, (so, sc)) hmt (by simp only; omega) ⟨rfl, rfl, rfl, rfl, rfl, rfl, rfl, rfl, asV rfl (by congr 1), trivial⟩ ?_
          dsimp only
          rw [hts]
          rw [show lifeOwn (so, sc) ((ts.take m).map TxnE.pl ++ [ts[m].pl]) = Sl.Own 34 1 (.slice so (((ts.take m).map TxnE.pl).length + 1) sc) (((ts.take m).map TxnE.pl).length + 1) (((ts.take m).map TxnE.pl).map PlsE.hdr ++ [ts[m].pl.hdr]) by
            show Sl.Own 34 1 (.slice so ((ts.take m).map TxnE.pl ++ [ts[m].pl]).length sc) ((ts.take m).map TxnE.pl ++ [ts[m].pl]).length (((ts.take m).map TxnE.pl ++ [ts[m].pl]).map PlsE.hdr) = _
            rw [List.length_append, List.map_append]; rfl]
          rw [show lifeRow p5 (so, sc) (LifeE.mk ((ts.take m).map TxnE.pl ++ [ts[m].pl]) ts.length nilPl) = Row p5 49 [.slice so (((ts.take m).map TxnE.pl).length + 1) sc, .int .i64 ts.length, .slice none 0 0] by
            show Row p5 49 [.slice so ((ts.take m).map TxnE.pl ++ [ts[m].pl]).length sc, .int .i64 ts.length, .slice none 0 0] = _
            rw [List.length_append]; rfl]
          exact Ent.re
        · have hmt : m = ts.length := by have := of_decide_eq_false hc; omega
          subst hmt
          rw [List.take_length]
          (refine w ?_; repeat ((first | refine VO.step rfl rfl ?_ | refine VD.end rfl rfl rfl ?_ | refine VD.mid rfl rfl rfl ?_); refine OpV.box rfl rfl rfl ?_; intro _; refine w ?_))
          refine VE.round ⟨j + 1, 0, v5, D6, (ro, rc), ⟨ts.map TxnE.pl, ts.length, nilPl⟩, w5, p5, (yo, yc), ts⟩ ⟨hlt, _, a7.mono (Nat.le_succ j), hnew⟩ (by simp only; omega) ⟨rfl, rfl, rfl, rfl, rfl, rfl, asV rfl (by congr 1), trivial⟩ Ent.re
      · (refine VC.condTe rfl rfl (by simpa using k8) ?_)
        (refine w ?_; repeat ((first | refine VO.step rfl rfl ?_ | refine VD.end rfl rfl rfl ?_ | refine VD.mid rfl rfl rfl ?_); refine OpV.box rfl rfl rfl ?_; intro _; refine w ?_))
        refine VE.round ⟨j + 1, under, v, D, (xo, xc), L, wp, pl, (qo, qc), us⟩ ⟨hlt, X, hI.mono (Nat.le_succ j), hC⟩ (by simp only; omega) ⟨rfl, rfl, rfl, rfl, rfl, rfl, asV rfl (by congr 1), trivial⟩ Ent.re
    · (refine w ?_; repeat ((first | refine VO.step rfl rfl ?_ | refine VD.end rfl rfl rfl ?_ | refine VD.mid rfl rfl rfl ?_); refine OpV.box rfl rfl rfl ?_; intro _; refine w ?_))
      exact VE.done1 rfl rfl Ent.re
end Go.Proofs.YtlojjlbngnaphaaGreat

