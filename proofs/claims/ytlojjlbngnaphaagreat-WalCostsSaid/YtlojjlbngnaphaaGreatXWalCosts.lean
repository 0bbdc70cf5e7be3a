import Derived.Test.YtlojjlbngnaphaaGreatM8
/-! Text Sk, more of it. -/
set_option maxRecDepth 8000
set_option linter.unusedVariables false
set_option linter.unusedSimpArgs false
set_option linter.unusedSectionVars false
namespace Go.Sl
open Go.RowKit

section
variable {P : Program} {ops : Array Oper} {Q : Exit → Act → World → Prop} {md : Region.Mode} {S : World → Prop}

end

section
variable {W : World} {P : Program} {n : Nat} {c : Code} {Q : Exit → Act → World → Prop} {H H' L R : List SProp} {f F : Fr} {mv ord r : List Nat} {tl i : Nat}
variable {dst : Option Tmp} {d : Nat} {ty_ : TypeId} {pos : String} {after : Array Edge} {guard : Option (Nat × Bool)}

end
end Go.Sl

set_option maxRecDepth 8000
set_option linter.unusedVariables false
set_option linter.unusedSimpArgs false
set_option linter.unusedSectionVars false
namespace Go.Sl
open Go
variable {W : World} {P : Program} {n : Nat} {c c1 c2 : Code} {Q : Exit → Act → World → Prop} {H : List SProp} {f : Fr}

end Go.Sl

set_option maxRecDepth 8000
set_option linter.unusedVariables false
set_option linter.unusedSimpArgs false
set_option linter.unusedSectionVars false
namespace Go.Sl
open Go Go.RowKit
section
variable {W : World} {P : Program} {n : Nat} {c : Code} {Q : Exit → Act → World → Prop} {H H' L S : List SProp} {f F : Fr} {C : SProp → List SProp}
variable {N : List SProp → Fr → Prop} {dst : Option Tmp} {d : Nat} {ty_ : TypeId} {pos : String} {after : Array Edge} {guard : Option (Nat × Bool)}

end
end Go.Sl

set_option maxRecDepth 8000
set_option linter.unusedVariables false
set_option linter.unusedSimpArgs false
set_option linter.unusedSectionVars false
namespace Go.Sl
open Go Go.RowKit Go.MapKept
section
variable {W : World} {P : Program} {n : Nat} {c : Code} {Q : Exit → Act → World → Prop} {H H' L S : List SProp} {f F : Fr} {C : SProp → List SProp}
variable {N : List SProp → Fr → Prop} {dst : Option Tmp} {d : Nat} {ty_ : TypeId} {pos : String} {after : Array Edge} {guard : Option (Nat × Bool)}

end

section
variable {α β : Type}
end
end Go.Sl

set_option maxRecDepth 8000
set_option linter.unusedVariables false
set_option linter.unusedSimpArgs false
set_option linter.unusedSectionVars false
namespace Go.Sl
open Go.RowKit

section
variable {H : Type} {enc : TypeId × Value → H} {P : Program} {W : World}

end
end Go.Sl

set_option maxRecDepth 8000
set_option linter.unusedVariables false
set_option linter.unusedSimpArgs false
set_option linter.unusedSectionVars false
namespace Go.Sl
open Go Go.RowKit
section
variable {W : World} {P : Program} {n : Nat} {c : Code} {Q : Exit → Act → World → Prop} {H H' L S R : List SProp} {f F : Fr} {C : SProp → List SProp}
variable {N : List SProp → Fr → Prop} {dst : Option Tmp} {d : Nat} {ty_ : TypeId} {pos : String} {after : Array Edge} {guard : Option (Nat × Bool)}

end
end Go.Sl

set_option maxRecDepth 8000
set_option linter.unusedVariables false
set_option linter.unusedSimpArgs false
set_option linter.unusedSectionVars false
namespace Go.Sl
open Go.RowKit
section
variable {W : World} {P : Program} {H : List SProp} {g : FuncId} {args : List Value}
end

section
variable {W : World} {P : Program} {n : Nat} {c c1 c2 : Code} {Q : Exit → Act → World → Prop} {H : List SProp} {f : Fr}
end
end Go.Sl

set_option maxRecDepth 8000
set_option linter.unusedVariables false
namespace Go.Sl
open Go Go.RowKit
section
variable {W : World} {P : Program} {n : Nat} {H : List SProp} {f : Fr} {dst : Option Tmp} {ty_ : TypeId} {pos : String} {after : Array Edge} {guard : Option (Nat × Bool)}
end
end Go.Sl

set_option linter.unusedVariables false
namespace Go.Sl
end Go.Sl

set_option maxRecDepth 8000
set_option linter.unusedVariables false
set_option linter.unusedSimpArgs false
set_option linter.unusedSectionVars false
namespace Go.Sl
open Go.RowKit

section
variable {W : World} {P : Program} {n : Nat} {H : List SProp} {f : Fr} {dst : Option Tmp} {d : Nat} {ty_ : TypeId} {pos : String} {after : Array Edge} {guard : Option (Nat × Bool)}

end
end Go.Sl

set_option maxRecDepth 8000
set_option linter.unusedVariables false
set_option linter.unusedSimpArgs false
set_option linter.unusedSectionVars false
namespace Go.Sl
open Go.RowKit

end Go.Sl

set_option maxRecDepth 8000
set_option linter.unusedVariables false
set_option linter.unusedSimpArgs false
set_option linter.unusedSectionVars false
namespace Go.Sl
open Go Go.RowKit
section
variable {W : World} {P : Program} {n : Nat} {Q : Exit → Act → World → Prop} {H : List SProp} {f : Fr} {C : SProp → List SProp}
variable {N : List SProp → Fr → Prop} {ty_ : TypeId} {pos : String} {after : Array Edge} {guard : Option (Nat × Bool)}

end
section
variable {W : World} {P : Program} {n : Nat} {c c2 : Code} {Q : Exit → Act → World → Prop} {H : List SProp} {f : Fr}
/-- Branches of a region that meet behind it. -/
theorem VO.joinR {α : Type} {k : Nat} (A : α → Prop) (G : α → List SProp) (F : α → Fr) (h1 : ∀ Q2, Met W n Q Q2 A G F → VO W P n c k Q2 H f) (h2 : ∀ x, A x → VC W P n c2 Q (G x) (F x)) :
    VO W P n c k (thenC P c2 Q) H f := h1 _ (Met.of h2)
end
end Go.Sl

set_option maxRecDepth 8000
set_option linter.unusedVariables false
set_option linter.unusedSimpArgs false
set_option linter.unusedSectionVars false
namespace Go.Sl
open Go Go.RowKit
section
variable {W : World} {P : Program} {n : Nat} {c : Code} {Q : Exit → Act → World → Prop} {H : List SProp} {f : Fr} {C : SProp → List SProp}
variable {N : List SProp → Fr → Prop} {dst : Option Tmp} {d : Nat} {ty_ : TypeId} {pos : String} {after : Array Edge} {guard : Option (Nat × Bool)}

end
end Go.Sl

set_option maxRecDepth 8000
set_option linter.unusedVariables false
set_option linter.unusedSimpArgs false
set_option linter.unusedSectionVars false
namespace Go.Sl
open Go Go.RowKit
section
variable {W : World} {P : Program} {n : Nat} {Q : Exit → Act → World → Prop} {H : List SProp} {f : Fr} {C : SProp → List SProp}
variable {N : List SProp → Fr → Prop} {d : Nat} {ty_ : TypeId} {pos : String} {after : Array Edge} {guard : Option (Nat × Bool)}

end
end Go.Sl

set_option maxRecDepth 8000
set_option linter.unusedVariables false
set_option linter.unusedSimpArgs false
set_option linter.unusedSectionVars false
namespace Go.Sl
open Go Go.RowKit
section
variable {P : Program} {ops : Array Oper} {Q : Exit → Act → World → Prop} {S : World → Prop}

end
section
variable {W : World} {P : Program} {n : Nat} {c : Code} {Q : Exit → Act → World → Prop} {H H' L R : List SProp} {f F : Fr} {mv ord r : List Nat} {tl i x : Nat}
variable {dst : Option Tmp} {d e : Nat} {ty_ : TypeId} {pos : String} {after : Array Edge} {guard : Option (Nat × Bool)} {X : Nat → SProp} {vx : Nat → Value}

end
end Go.Sl

/-! Text Tab, more of it. -/
namespace Go.Proofs.YtlojjlbngnaphaaGreat
open Go.Sl
theorem sb_37 : StructT Tryz.prog 37 [.int .i64 0, .int .i64 0, .slice none 0 0, .slice none 0 0] [(0, 1), (1, 1), (2, 1), (3, 1)] := ⟨fun w => by simp, _, Tryz.underlying37, fun w => by simp⟩
end Go.Proofs.YtlojjlbngnaphaaGreat

/-! Text Ud, more of it. -/
set_option maxRecDepth 8000
set_option linter.unusedVariables false
set_option linter.unusedSimpArgs false
set_option linter.unusedSectionVars false
namespace Go.Proofs.YtlojjlbngnaphaaGreat
open Go.RowKit Go.Sl
attribute [local irreducible] Own

theorem walsize_ok {W : World} {R : List SProp} (wp b : Nat) (v : WalD) : Does1 W Tryz.prog 33 [.pointer (some ⟨wp, 0, none⟩)] (WalR wp b v :: R) (.int .i64 v.size) (WalR wp b v :: R) := by
  refine DoesO (fun w hw => WalR.open hw) fun x => ?_
  (refine Does.enter Tryz.func33 Tryz.ntmps33 rfl rfl ?_)
  (refine w ?_; repeat ((first | refine VO.step rfl rfl ?_ | refine VD.end rfl rfl rfl ?_ | refine VD.mid rfl rfl rfl ?_); refine OpV.box rfl rfl rfl ?_; intro _; refine w ?_))
  refine VO.ent (H' := RingR x.1 v.size v.tail v.used :: walRow wp b x.1 x.2 v :: logRes v.log x.2 :: R) Ent.re ?_
  ((first | refine VO.step rfl rfl ?_ | refine VD.end rfl rfl rfl ?_ | refine VD.mid rfl rfl rfl ?_); refine OpV.call rfl rfl (fun _ _ => by simp) (ringsize_ok x.1 v.size v.tail v.used) Ent.refl rfl ?_)
  intro _ _
  (refine w ?_; repeat ((first | refine VO.step rfl rfl ?_ | refine VD.end rfl rfl rfl ?_ | refine VD.mid rfl rfl rfl ?_); refine OpV.box rfl rfl rfl ?_; intro _; refine w ?_))
  exact VE.done1 rfl rfl (Ent.trans (Ent.re (L := WalO wp b x.1 x.2 v R)) (WalR.shut x.1 x.2))
theorem walsure_ok {W : World} {R : List SProp} (wp b : Nat) (v : WalD) : Does1 W Tryz.prog 31 [.pointer (some ⟨wp, 0, none⟩)] (WalR wp b v :: R) (.bool v.sure) (WalR wp b v :: R) := by
  refine DoesO (fun w hw => WalR.open hw) fun x => ?_
  (refine Does.enter Tryz.func31 Tryz.ntmps31 rfl rfl ?_)
  (refine w ?_; repeat ((first | refine VO.step rfl rfl ?_ | refine VD.end rfl rfl rfl ?_ | refine VD.mid rfl rfl rfl ?_); refine OpV.box rfl rfl rfl ?_; intro _; refine w ?_))
  exact VE.done1 rfl rfl (Ent.trans (Ent.re (L := WalO wp b x.1 x.2 v R)) (WalR.shut x.1 x.2))
end Go.Proofs.YtlojjlbngnaphaaGreat

/-! Text Ue, more of it. -/
set_option maxRecDepth 8000
set_option linter.unusedVariables false
set_option linter.unusedSimpArgs false
set_option linter.unusedSectionVars false
namespace Go.Proofs.YtlojjlbngnaphaaGreat
open Go.RowKit Go.Sl
attribute [local irreducible] Own

theorem walcost_ok {W : World} {R : List SProp} (n : Int) : Does1 W Tryz.prog 27 [.int .i64 n] R (.int .i64 (if n < 1 ∨ 1023 < n then 0 else 2 * n + 1)) R := by
  (refine Does.enter Tryz.func27 Tryz.ntmps27 rfl rfl ?_)
  (refine w ?_; repeat ((first | refine VO.step rfl rfl ?_ | refine VD.end rfl rfl rfl ?_ | refine VD.mid rfl rfl rfl ?_); refine OpV.box rfl rfl rfl ?_; intro _; refine w ?_))
  ((first | refine VO.split rfl rfl rfl ?_ ?_ | refine VD.split rfl rfl rfl ?_ ?_) <;> intro hb)
  · (refine w ?_; repeat ((first | refine VO.step rfl rfl ?_ | refine VD.end rfl rfl rfl ?_ | refine VD.mid rfl rfl rfl ?_); refine OpV.box rfl rfl rfl ?_; intro _; refine w ?_))
    exact VE.done1 rfl (by rw [if_pos]; have := of_decide_eq_true hb; omega) Ent.re
  · have q := of_decide_eq_false hb
    (refine w ?_; repeat ((first | refine VO.step rfl rfl ?_ | refine VD.end rfl rfl rfl ?_ | refine VD.mid rfl rfl rfl ?_); refine OpV.box rfl rfl rfl ?_; intro _; refine w ?_))
    (refine VC.cond rfl rfl ?_ ?_ <;> intro hc)
    · (refine w ?_; repeat ((first | refine VO.step rfl rfl ?_ | refine VD.end rfl rfl rfl ?_ | refine VD.mid rfl rfl rfl ?_); refine OpV.box rfl rfl rfl ?_; intro _; refine w ?_))
      exact VE.done1 rfl (by rw [if_pos]; have := of_decide_eq_true hc; omega) Ent.re
    · have q2 := of_decide_eq_false hc
      (refine w ?_; repeat ((first | refine VO.step rfl rfl ?_ | refine VD.end rfl rfl rfl ?_ | refine VD.mid rfl rfl rfl ?_); refine OpV.box rfl rfl rfl ?_; intro _; refine w ?_))
      exact VE.done1 rfl (by rw [if_neg (by omega)]) Ent.re
end Go.Proofs.YtlojjlbngnaphaaGreat

/-! Text Uo. -/
/- The journal's laws: how many operations a call does: plainly. -/
set_option maxRecDepth 8000
set_option linter.unusedVariables false
set_option linter.unusedSimpArgs false
set_option linter.unusedSectionVars false
namespace Go.Proofs.YtlojjlbngnaphaaGreat
open Go.RowKit Go.Sl
attribute [local irreducible] Own

structure CntD.sm (c : CntD) (m : Nat) : Prop where
  r : 0 ≤ c.r ∧ c.r ≤ m
  w : 0 ≤ c.w ∧ c.w ≤ m
  f : 0 ≤ c.f ∧ c.f ≤ m
theorem CntD.sm.mono {c : CntD} {m m' : Nat} (h : c.sm m) (hm : m ≤ m') : c.sm m' := ⟨by have := h.r; omega, by have := h.w; omega, by have := h.f; omega⟩
theorem incs (c : CntD) (m a b : Nat) (h : c.sm m) (hm : m + a + b ≤ 1000000000) : (List.replicate a 1 ++ List.replicate b 2).foldl CntD.inc c = ⟨c.r, c.w + a, c.f + b⟩ := by
  obtain ⟨h1, h2, h3⟩ := h
  have hw : ∀ (a : Nat) (c : CntD), 0 ≤ c.w → c.w + a ≤ 1000000000 → (List.replicate a 1).foldl CntD.inc c = ⟨c.r, c.w + a, c.f⟩ := by
    intro a
    induction a with
    | zero => intro c _ _; simp
    | succ a ih =>
      intro c q1 q2
      rw [List.replicate_succ, List.foldl_cons]
      have e : c.inc 1 = ⟨c.r, c.w + 1, c.f⟩ := by
        show CntD.mk c.r (IntKind.i64.wrap (c.w + 1)) c.f = _
        rw [IntWalk.i64_in _ ⟨by omega, by omega⟩]
      rw [e, ih _ (by show 0 ≤ c.w + 1; omega) (by show c.w + 1 + a ≤ _; omega)]
      show CntD.mk c.r (c.w + 1 + a) c.f = _
      congr 1; omega
  have hf : ∀ (a : Nat) (c : CntD), 0 ≤ c.f → c.f + a ≤ 1000000000 → (List.replicate a 2).foldl CntD.inc c = ⟨c.r, c.w, c.f + a⟩ := by
    intro a
    induction a with
    | zero => intro c _ _; simp
    | succ a ih =>
      intro c q1 q2
      rw [List.replicate_succ, List.foldl_cons]
      have e : c.inc 2 = ⟨c.r, c.w, c.f + 1⟩ := by
        show CntD.mk c.r c.w (IntKind.i64.wrap (c.f + 1)) = _
        rw [IntWalk.i64_in _ ⟨by omega, by omega⟩]
      rw [e, ih _ (by show 0 ≤ c.f + 1; omega) (by show c.f + 1 + a ≤ _; omega)]
      show CntD.mk c.r c.w (c.f + 1 + a) = _
      congr 1; omega
  rw [List.foldl_append, hw a c h2.1 (by omega)]
  exact hf b ⟨c.r, c.w + a, c.f⟩ h3.1 (by show c.f + b ≤ _; omega)
/-- Writes and flushes of a call that is done. -/
def wOf (kind : Nat) (len : Nat) : Nat := match kind with
  | 1 => 2 * len
  | 2 => 1
  | 4 => 1
  | 5 => 1
  | _ => 0
def fOf (kind : Nat) (sure : Bool) : Nat := match kind with
  | 1 => 1
  | 3 => if sure then 0 else 1
  | 4 => 1
  | 5 => 1
  | _ => 0
theorem ops_are (v : WalD) (kind : Nat) (ps : List PatD) : opsOf v kind ps = List.replicate (wOf kind ps.length) 1 ++ List.replicate (fOf kind v.sure) 2 := by
  unfold opsOf wOf fOf
  split
  · rfl
  · rfl
  · split <;> rfl
  · rfl
  · rfl
  · rename_i h1 h2 h3 h4 h5
    split
    · exact absurd rfl h1
    · exact absurd rfl h2
    · exact absurd rfl h4
    · exact absurd rfl h5
    · split
      · exact absurd rfl h1
      · exact absurd rfl h3
      · exact absurd rfl h4
      · exact absurd rfl h5
      · rfl
/-- So many calls behind the beginning: the counts too. -/
structure CInv (n c i : Nat) (v : WalD) (D : BayD) : Prop where
  inv : LInv n c i v D
  sm : D.n.sm (3000 * (i + 1))
theorem CInv.step {n c i : Nat} {v : WalD} {D : BayD} (h : CInv n c i v D) (hi : i ≤ 20000) (kind : Nat) (ps : List PatD) :
    CInv n c (i + 1) (wDo (v, D) kind ps).2.1 (wDo (v, D) kind ps).2.2 ∧
    (wDo (v, D) kind ps).2.2.n = (if (wDo (v, D) kind ps).1 = 0 then ⟨D.n.r, D.n.w + wOf kind ps.length, D.n.f + fOf kind v.sure⟩ else D.n) ∧
    (kind = 1 → (wDo (v, D) kind ps).1 = 0 → 1 ≤ ps.length ∧ ps.length ≤ 1023) := by
  have hs1 := (h.inv.step hi kind ps).1
  have hlen : kind = 1 → (wDo (v, D) kind ps).1 = 0 → 1 ≤ ps.length ∧ ps.length ≤ 1023 := by
    rintro rfl h0
    obtain ⟨k, base, x, h1, h2, h3⟩ := h.inv.live
    by_cases hn : logNo v ps
    · obtain ⟨e, q0, q5, he⟩ := log_refused (D := D) h2.nob hn
      rw [show wDo (v, D) 1 ps = wLog (v, D) ps from rfl, he] at h0
      exact absurd h0 q0
    · have := (log_fine hn).1; exact ⟨this.n1, this.n2⟩
  have hcnt : (wDo (v, D) kind ps).2.2.n = (if (wDo (v, D) kind ps).1 = 0 then ⟨D.n.r, D.n.w + wOf kind ps.length, D.n.f + fOf kind v.sure⟩ else D.n) := by
    obtain ⟨k, base, x, h1, h2, h3⟩ := h.inv.live
    have hn := h.inv.next; have he := h.inv.epoch
    have hnx := h2.next
    have hs := step_ok h1 h.inv.slot h2 kind ps ⟨by omega, by omega, by omega⟩
    generalize wDo (v, D) kind ps = r at hs hlen ⊢
    cases hs with
    | good k' base' hg hp hl hf hb hb2 =>
      dsimp only at hlen ⊢
      rw [if_pos rfl, hf.cnt, ops_are]
      have hw : wOf kind ps.length ≤ 2046 := by
        unfold wOf; split
        · have := hlen rfl rfl; omega
        · omega
        · omega
        · omega
        · omega
      have hff : fOf kind v.sure ≤ 1 := by
        unfold fOf; split
        · omega
        · split <;> omega
        · omega
        · omega
        · omega
      exact incs _ _ _ _ h.sm (by omega)
    | no e h0 h5 => dsimp only; rw [if_neg h0]
    | dark k' ht hd hl => exact absurd h.inv.calm ht
  refine ⟨⟨hs1, ?_⟩, hcnt, hlen⟩
  rw [hcnt]
  have hq := h.sm
  split
  · rename_i h0
    have hw : wOf kind ps.length ≤ 2046 := by
      unfold wOf; split
      · have := hlen rfl h0; omega
      · omega
      · omega
      · omega
      · omega
    have hff : fOf kind v.sure ≤ 1 := by
      unfold fOf; split
      · omega
      · split <;> omega
      · omega
      · omega
      · omega
    obtain ⟨a, b, c⟩ := hq
    exact ⟨by dsimp only; omega, by dsimp only; omega, by dsimp only; omega⟩
  · exact hq.mono (by omega)
def cosD (n : Nat) : BayD := (wFormat (BayD.new [2050]) 0 (n : Int) 3).2
theorem cos_live {n : Nat} (hn : 5 ≤ n ∧ n ≤ 2048) : (wFormat (BayD.new [2050]) 0 (n : Int) 3).1 = (some (fresh0 0 3 n), 0) ∧ CInv n (n + 2) 0 (fresh0 0 3 n) (cosD n) := by
  obtain ⟨D', k', e1, e2, e3, e4⟩ := fresh_live (s := 0) (n := n) (epoch := 3) (new_pw (l := [2050]) (s := 0) (m := 2050) rfl (by omega)) hn (by omega) (by decide) rfl
  have e0 : wFormat (BayD.new [2050]) 0 (n : Int) 3 = ((some (fresh0 0 3 n), 0), D') := e1
  have hcp := format_capd (n := n) (new_capd [2050]) 0 3
  rw [e0] at hcp
  unfold cosD
  rw [e0]
  refine ⟨rfl, ⟨rfl, rfl, by show 1 ≤ 1; decide, by show 3 ≤ 9; decide, hcp.mono (by omega), e4.calm rfl, k', 1, _, e2, e3, Nat.le_refl _⟩, ?_⟩
  rw [e4.cnt]
  have : (List.replicate n 1 ++ [1, 2]) = List.replicate (n + 1) 1 ++ List.replicate 1 2 := by
    rw [List.replicate_succ', List.append_assoc]; rfl
  rw [this, incs _ 0 _ _ ⟨by decide, by decide, by decide⟩ (by omega)]
  exact ⟨by show (0 : Int) ≤ 0 ∧ (0 : Int) ≤ _; omega, by show (0 : Int) ≤ 0 + ((n + 1 : Nat) : Int) ∧ (0 : Int) + ((n + 1 : Nat) : Int) ≤ _; omega, by show (0 : Int) ≤ 0 + ((1 : Nat) : Int) ∧ (0 : Int) + ((1 : Nat) : Int) ≤ _; omega⟩
end Go.Proofs.YtlojjlbngnaphaaGreat

/-! Text Up. -/
/- The law WalCosts. -/
set_option maxRecDepth 8000
set_option linter.unusedVariables false
set_option linter.unusedSimpArgs false
set_option linter.unusedSectionVars false
namespace Go.Proofs.YtlojjlbngnaphaaGreat
open Go.RowKit Go.Sl
attribute [local irreducible] Own

set_option maxHeartbeats 8000000 in
theorem wcosts_law {W : World} {R : List SProp} {ao : Option Addr} {cap : Nat} {l : List OpE} (hbs : RdOps W ao l) (ring pn : Int) (hpn : -9223372036854775808 ≤ pn ∧ pn ≤ 9223372036854775807) : Does1 W Tryz.prog 6 [.int .i64 ring, .slice ao l.length cap, .int .i64 pn] R (.bool true) R := by
  (refine Does.enter Tryz.func6 Tryz.ntmps6 rfl rfl ?_)
  (refine w ?_; repeat ((first | refine VO.step rfl rfl ?_ | refine VD.end rfl rfl rfl ?_ | refine VD.mid rfl rfl rfl ?_); refine OpV.box rfl rfl rfl ?_; intro _; refine w ?_))
  ((first | refine VO.step rfl rfl ?_ | refine VD.end rfl rfl rfl ?_ | refine VD.mid rfl rfl rfl ?_); refine OpV.call rfl rfl (fun _ _ => by simp) (wmuch_ok hbs) Ent.refl rfl ?_)
  intro mu hmu
  cases mu with
  | true =>
    (refine w ?_; repeat ((first | refine VO.step rfl rfl ?_ | refine VD.end rfl rfl rfl ?_ | refine VD.mid rfl rfl rfl ?_); refine OpV.box rfl rfl rfl ?_; intro _; refine w ?_))
    exact VE.done1 rfl rfl Ent.refl
  | false =>
  have hf := hmu rfl
  (refine w ?_; repeat ((first | refine VO.step rfl rfl ?_ | refine VD.end rfl rfl rfl ?_ | refine VD.mid rfl rfl rfl ?_); refine OpV.box rfl rfl rfl ?_; intro _; refine w ?_))
  (refine VC.cond rfl rfl ?_ ?_ <;> intro hc)
  · (refine w ?_; repeat ((first | refine VO.step rfl rfl ?_ | refine VD.end rfl rfl rfl ?_ | refine VD.mid rfl rfl rfl ?_); refine OpV.box rfl rfl rfl ?_; intro _; refine w ?_))
    exact VE.done1 rfl rfl Ent.refl
  have hring : ring ≤ 2048 := by have := of_decide_eq_false hc; omega
  (refine w ?_; repeat ((first | refine VO.step rfl rfl ?_ | refine VD.end rfl rfl rfl ?_ | refine VD.mid rfl rfl rfl ?_); refine OpV.box rfl rfl rfl ?_; intro _; refine w ?_))
  ((first | refine VO.step rfl rfl ?_ | refine VD.end rfl rfl rfl ?_ | refine VD.mid rfl rfl rfl ?_); refine OpV.call rfl rfl (fun _ _ => by simp) (wknown_ok) Ent.refl rfl ?_)
  intro _ _
  (refine w ?_; repeat ((first | refine VO.step rfl rfl ?_ | refine VD.end rfl rfl rfl ?_ | refine VD.mid rfl rfl rfl ?_); refine OpV.box rfl rfl rfl ?_; intro _; refine w ?_))
  ((first | refine VO.step rfl rfl ?_ | refine VD.end rfl rfl rfl ?_ | refine VD.mid rfl rfl rfl ?_); refine OpV.call rfl rfl (fun _ _ => by simp) (walcost_ok pn) Ent.refl rfl ?_)
  intro _ _
  (refine w ?_; repeat ((first | refine VO.step rfl rfl ?_ | refine VD.end rfl rfl rfl ?_ | refine VD.mid rfl rfl rfl ?_); refine OpV.box rfl rfl rfl ?_; intro _; refine w ?_))
  refine VO.joinR (α := Bool) (fun b => b = decide (pn < 1 ∨ 1023 < pn)) (fun _ => R) (fun b => [(0, .int .i64 ring), (1, .slice ao l.length cap), (2, .int .i64 pn), (7, .int .i64 (if pn < 1 ∨ 1023 < pn then 0 else 2 * pn + 1)), (34, .bool b)]) (fun Q2 jn => ?_) ?_
  · ((first | refine VO.split rfl rfl rfl ?_ ?_ | refine VD.split rfl rfl rfl ?_ ?_) <;> intro hb)
    · have h1 := of_decide_eq_true hb
      (refine w ?_; repeat ((first | refine VO.step rfl rfl ?_ | refine VD.end rfl rfl rfl ?_ | refine VD.mid rfl rfl rfl ?_); refine OpV.box rfl rfl rfl ?_; intro _; refine w ?_))
      refine jn.to true (decide_eq_true (.inl h1)).symm ⟨rfl, rfl, rfl, rfl, rfl, trivial⟩ Ent.refl
    · have h1 := of_decide_eq_false hb
      (refine w ?_; repeat ((first | refine VO.step rfl rfl ?_ | refine VD.end rfl rfl rfl ?_ | refine VD.mid rfl rfl rfl ?_); refine OpV.box rfl rfl rfl ?_; intro _; refine w ?_))
      refine jn.to (decide (1023 < pn)) (by rw [decide_eq_decide]; omega) ⟨rfl, rfl, rfl, rfl, rfl, trivial⟩ Ent.refl
  rintro bp hbp
  (refine VC.join (α := Unit) (fun _ => True) (fun _ => R) (fun _ => [(0, .int .i64 ring), (1, .slice ao l.length cap)]) ?_ ?_)
  · intro Q2 jn
    by_cases hp : pn < 1 ∨ 1023 < pn
    · rw [if_pos hp, hbp, decide_eq_true hp]
      (refine w ?_; repeat ((first | refine VO.step rfl rfl ?_ | refine VD.end rfl rfl rfl ?_ | refine VD.mid rfl rfl rfl ?_); refine OpV.box rfl rfl rfl ?_; intro _; refine w ?_))
      refine jn.to () trivial ⟨rfl, rfl, trivial⟩ Ent.refl
    · rw [if_neg hp, hbp, decide_eq_false hp]
      (refine w ?_; repeat ((first | refine VO.step rfl rfl ?_ | refine VD.end rfl rfl rfl ?_ | refine VD.mid rfl rfl rfl ?_); refine OpV.box rfl rfl rfl ?_; intro _; refine w ?_))
      (refine VC.condFe rfl rfl (by simp) ?_)
      (refine w ?_; repeat ((first | refine VO.step rfl rfl ?_ | refine VD.end rfl rfl rfl ?_ | refine VD.mid rfl rfl rfl ?_); refine OpV.box rfl rfl rfl ?_; intro _; refine w ?_))
      refine jn.to () trivial ⟨rfl, rfl, trivial⟩ Ent.refl
  intro _ _
  (refine w ?_; repeat ((first | refine VO.step rfl rfl ?_ | refine VD.end rfl rfl rfl ?_ | refine VD.mid rfl rfl rfl ?_); refine OpV.box rfl rfl rfl ?_; intro _; refine w ?_))
  ((first | refine VO.step rfl rfl ?_ | refine VD.end rfl rfl rfl ?_ | refine VD.mid rfl rfl rfl ?_); refine OpV.buildSlice1 st_74 rfl rfl (by first | (simp; done) | simp [Value.oneCell']) (by decide) rfl ?_; intro nb)
  (refine w ?_; repeat ((first | refine VO.step rfl rfl ?_ | refine VD.end rfl rfl rfl ?_ | refine VD.mid rfl rfl rfl ?_); refine OpV.box rfl rfl rfl ?_; intro _; refine w ?_))
  have hr : Rds W (Row nb 3 [.int .i64 2050] :: R) 1 (some ⟨nb, 0, none⟩) 1 (intsI [2050]) := Rds.row (intsI_one _) (.head _) rfl
  ((first | refine VO.step rfl rfl ?_ | refine VD.end rfl rfl rfl ?_ | refine VD.mid rfl rfl rfl ?_); refine OpV.call rfl rfl (fun _ _ => by simp) (baynew_ok (l := [2050]) hr (by decide)) Ent.refl rfl ?_)
  intro x hx
  rw [show bayE [2050] = 0 from rfl] at hx ⊢
  obtain ⟨b, rfl⟩ : ∃ b, x = some b := by cases x with | none => cases hx | some b => exact ⟨b, rfl⟩
  dsimp only [Option.elim_some]
  (refine w ?_; repeat ((first | refine VO.step rfl rfl ?_ | refine VD.end rfl rfl rfl ?_ | refine VD.mid rfl rfl rfl ?_); refine OpV.box rfl rfl rfl ?_; intro _; refine w ?_))
  refine VO.ent (Ent.re (L := BayR b (BayD.new [2050]) :: R)) ?_
  by_cases h5 : ring < 5
  · have hz : wFormat (BayD.new [2050]) 0 ring 3 = ((none, 1), BayD.new [2050]) := if_pos (.inl (decide_eq_false (by omega)))
    have hF := walformat_ok (W := W) (R := R) (D := BayD.new [2050]) (epoch := 3) b 0 ring (by decide) (new_capd _) (by decide)
    rw [hz] at hF
    ((first | refine VO.step rfl rfl ?_ | refine VD.end rfl rfl rfl ?_ | refine VD.mid rfl rfl rfl ?_); refine OpV.call rfl rfl (fun _ _ => by simp) (hF) Ent.refl rfl ?_)
    intro y hy
    obtain rfl : y = none := by cases y with | none => rfl | some w => cases hy
    dsimp only [Option.elim_none]
    (refine w ?_; repeat ((first | refine VO.step rfl rfl ?_ | refine VD.end rfl rfl rfl ?_ | refine VD.mid rfl rfl rfl ?_); refine OpV.box rfl rfl rfl ?_; intro _; refine w ?_))
    (first | refine VO.gT rfl rfl rfl (decide_eq_true h5) ?_ | refine VD.gT rfl rfl rfl (decide_eq_true h5) ?_)
    (refine w ?_; repeat ((first | refine VO.step rfl rfl ?_ | refine VD.end rfl rfl rfl ?_ | refine VD.mid rfl rfl rfl ?_); refine OpV.box rfl rfl rfl ?_; intro _; refine w ?_))
    (((first | refine VO.step rfl rfl ?_ | refine VD.end rfl rfl rfl ?_ | refine VD.mid rfl rfl rfl ?_); refine OpV.call rfl rfl (fun _ _ => by simp) (baycounts_ok b (BayD.new [2050])) Ent.re rfl ?_); intro _ _)
    (refine w ?_; repeat ((first | refine VO.step rfl rfl ?_ | refine VD.end rfl rfl rfl ?_ | refine VD.mid rfl rfl rfl ?_); refine OpV.box rfl rfl rfl ?_; intro _; refine w ?_))
    (apply VO.pure rfl rfl; apply PureAt.build sb_63 rfl; (simp [buildX, setL, Value.cells]; rfl); rfl)
    refine VO.pure rfl rfl (cnt_eq (c := ⟨0, 0, 0⟩) (d := ⟨0, 0, 0⟩) rfl rfl (by decide) (by decide) rfl) rfl ?_
    (refine w ?_; repeat ((first | refine VO.step rfl rfl ?_ | refine VD.end rfl rfl rfl ?_ | refine VD.mid rfl rfl rfl ?_); refine OpV.box rfl rfl rfl ?_; intro _; refine w ?_))
    exact VE.done1 rfl rfl Ent.re
  · obtain ⟨n, rfl⟩ : ∃ n : Nat, ring = n := ⟨ring.toNat, by omega⟩
    obtain ⟨hc1, hc2⟩ := cos_live (n := n) ⟨by omega, by omega⟩
    have hF := walformat_ok (W := W) (R := R) (D := BayD.new [2050]) (epoch := 3) b 0 (n : Int) (by decide) (new_capd _) (by decide)
    rw [hc1] at hF
    ((first | refine VO.step rfl rfl ?_ | refine VD.end rfl rfl rfl ?_ | refine VD.mid rfl rfl rfl ?_); refine OpV.call rfl rfl (fun _ _ => by simp) (hF) Ent.refl rfl ?_)
    intro y hy
    obtain ⟨wp, rfl⟩ : ∃ w, y = some w := by cases y with | none => cases hy | some w => exact ⟨w, rfl⟩
    dsimp only [Option.elim_some, Option.map_some]
    rw [Int.toNat_natCast]
    have hll := hf.len
    (refine w ?_; repeat ((first | refine VO.step rfl rfl ?_ | refine VD.end rfl rfl rfl ?_ | refine VD.mid rfl rfl rfl ?_); refine OpV.box rfl rfl rfl ?_; intro _; refine w ?_))
    refine VC.loop (α := Nat × WalD × BayD) (fun y => y.1 ≤ l.length ∧ CInv n (n + 2) y.1 y.2.1 y.2.2) (fun y => WalR wp b y.2.1 :: BayR b y.2.2 :: R)
      (fun y => [(0, .int .i64 n), (1, .slice ao l.length cap), (8, .pointer (some ⟨b, 0, none⟩)), (10, .pointer (some ⟨wp, 0, none⟩)), (12, .int .i64 y.1)]) (fun y => l.length - y.1) rfl (0, fresh0 0 3 n, cosD n) ⟨Nat.zero_le _, hc2⟩ Ent.refl ⟨rfl, rfl, rfl, rfl, rfl, trivial⟩ ?_
    rintro ⟨i, v, D⟩ ⟨hi, hI⟩
    dsimp only at hi hI ⊢
    (refine w ?_; repeat ((first | refine VO.step rfl rfl ?_ | refine VD.end rfl rfl rfl ?_ | refine VD.mid rfl rfl rfl ?_); refine OpV.box rfl rfl rfl ?_; intro _; refine w ?_))
    (refine VC.cond rfl rfl ?_ ?_ <;> intro hc)
    · have hlt : i < l.length := by have := of_decide_eq_true hc; omega
      have hr := hbs.rds (WalR wp b v :: BayR b D :: R)
      obtain ⟨a, rfl⟩ := some_of_pos hr.nil (by omega)
      have ho := hbs.each _ (List.getElem_mem hlt)
      (refine w ?_; repeat ((first | refine VO.step rfl rfl ?_ | refine VD.end rfl rfl rfl ?_ | refine VD.mid rfl rfl rfl ?_); refine OpV.box rfl rfl rfl ?_; intro _; refine w ?_))
      (first | refine VO.pure rfl rfl (.ldRA tab_ok rfl rfl hr (opsC_at l i hlt) rfl) rfl ?_ | refine VD.take rfl rfl rfl (.ldRA tab_ok rfl rfl hr (opsC_at l i hlt) rfl) rfl ?_ | refine VQ.pure rfl rfl (.ldRA tab_ok rfl rfl hr (opsC_at l i hlt) rfl) rfl ?_ | refine VD.end rfl rfl rfl (OpV.pure (.ldRA tab_ok rfl rfl hr (opsC_at l i hlt) rfl) rfl ?_))
      (refine w ?_; repeat ((first | refine VO.step rfl rfl ?_ | refine VD.end rfl rfl rfl ?_ | refine VD.mid rfl rfl rfl ?_); refine OpV.box rfl rfl rfl ?_; intro _; refine w ?_))
      ((first | refine VO.step rfl rfl ?_ | refine VD.end rfl rfl rfl ?_ | refine VD.mid rfl rfl rfl ?_); refine OpV.allocS sb_37 rfl ?_; intro no)
      (refine w ?_; repeat ((first | refine VO.step rfl rfl ?_ | refine VD.end rfl rfl rfl ?_ | refine VD.mid rfl rfl rfl ?_); refine OpV.box rfl rfl rfl ?_; intro _; refine w ?_))
      (first | refine VO.step rfl rfl ?_ | refine VD.end rfl rfl rfl ?_ | refine VD.mid rfl rfl rfl ?_)
      refine OpV.stA (vs := l[i].cells) tab_ok rfl rfl rfl rfl (opE_one _) (by (repeat first | exact .head | apply Hole.tail)) (by simp) ?_
      (refine w ?_; repeat ((first | refine VO.step rfl rfl ?_ | refine VD.end rfl rfl rfl ?_ | refine VD.mid rfl rfl rfl ?_); refine OpV.box rfl rfl rfl ?_; intro _; refine w ?_))
      (((first | refine VO.step rfl rfl ?_ | refine VD.end rfl rfl rfl ?_ | refine VD.mid rfl rfl rfl ?_); refine OpV.call rfl rfl (fun _ _ => by simp) (baycounts_ok b D) Ent.re rfl ?_); intro _ _)
      ((first | refine VO.step rfl rfl ?_ | refine VD.end rfl rfl rfl ?_ | refine VD.mid rfl rfl rfl ?_); refine OpV.allocS sb_63 rfl ?_; intro nw)
      (refine w ?_; repeat ((first | refine VO.step rfl rfl ?_ | refine VD.end rfl rfl rfl ?_ | refine VD.mid rfl rfl rfl ?_); refine OpV.box rfl rfl rfl ?_; intro _; refine w ?_))
      (first | refine VO.step rfl rfl ?_ | refine VD.end rfl rfl rfl ?_ | refine VD.mid rfl rfl rfl ?_)
      refine OpV.stA (vs := [.int .i64 D.n.r, .int .i64 D.n.w, .int .i64 D.n.f]) tab_ok rfl rfl rfl rfl (by simp [Value.oneCell']) (by (repeat first | exact .head | apply Hole.tail)) (by simp) ?_
      (refine w ?_; repeat ((first | refine VO.step rfl rfl ?_ | refine VD.end rfl rfl rfl ?_ | refine VD.mid rfl rfl rfl ?_); refine OpV.box rfl rfl rfl ?_; intro _; refine w ?_))
      (((first | refine VO.step rfl rfl ?_ | refine VD.end rfl rfl rfl ?_ | refine VD.mid rfl rfl rfl ?_); refine OpV.call rfl rfl (fun _ _ => by simp) (walsure_ok wp b v) Ent.re rfl ?_); intro _ _)
      (refine w ?_; repeat ((first | refine VO.step rfl rfl ?_ | refine VD.end rfl rfl rfl ?_ | refine VD.mid rfl rfl rfl ?_); refine OpV.box rfl rfl rfl ?_; intro _; refine w ?_))
      ((first | refine VO.step rfl rfl ?_ | refine VD.end rfl rfl rfl ?_ | refine VD.mid rfl rfl rfl ?_); refine OpV.allocS sb_63 rfl ?_; intro nz)
      (refine w ?_; repeat ((first | refine VO.step rfl rfl ?_ | refine VD.end rfl rfl rfl ?_ | refine VD.mid rfl rfl rfl ?_); refine OpV.box rfl rfl rfl ?_; intro _; refine w ?_))
      have hok := hI.inv.wok (by omega)
      have hcap := hI.inv.cap
      obtain ⟨hr1, hw1, hf1⟩ := hI.sm
      refine VC.ent (Ent.re (L := WalR wp b v :: BayR b D :: Row nz 63 [.int .i64 0, .int .i64 0, .int .i64 0] :: Row nw 63 [.int .i64 D.n.r, .int .i64 D.n.w, .int .i64 D.n.f] :: Row no 37 l[i].cells :: R)) ?_
      refine VC.joinB (α := Int × WalD × BayD × Int × Int) (fun y => CInv n (n + 2) (i + 1) y.2.1 y.2.2.1 ∧ (y.1 = 0 → y.2.2.1.n = ⟨D.n.r, D.n.w + y.2.2.2.1, D.n.f + y.2.2.2.2⟩) ∧ (y.1 ≠ 0 → y.2.2.1.n = D.n) ∧ (-10 ≤ y.2.2.2.1 ∧ y.2.2.2.1 ≤ 3000 ∧ 0 ≤ y.2.2.2.2 ∧ y.2.2.2.2 ≤ 3000))
        (fun y => WalR wp b y.2.1 :: BayR b y.2.2.1 :: Row nz 63 [.int .i64 0, .int .i64 y.2.2.2.1, .int .i64 y.2.2.2.2] :: Row nw 63 [.int .i64 D.n.r, .int .i64 D.n.w, .int .i64 D.n.f] :: Row no 37 l[i].cells :: R)
        (fun y => [(0, .int .i64 n), (1, .slice (some a) l.length cap), (8, .pointer (some ⟨b, 0, none⟩)), (10, .pointer (some ⟨wp, 0, none⟩)), (12, .int .i64 i), (13, .pointer (some ⟨no, 0, none⟩)), (14, .pointer (some ⟨nw, 0, none⟩)), (16, .pointer (some ⟨nz, 0, none⟩)), (17, .int .u16 y.1)]) (fun Q2 jn => ?_) ?_
      · (refine VC.cond rfl rfl ?_ ?_ <;> intro hc)
        · have hk : l[i].kind = 1 := by simpa using hc
          have hg := hI.step (by omega) 1 (l[i].pats.map PatE.D)
          rw [show wDo (v, D) 1 (l[i].pats.map PatE.D) = wLog (v, D) (l[i].pats.map PatE.D) from rfl] at hg
          (refine w ?_; repeat ((first | refine VO.step rfl rfl ?_ | refine VD.end rfl rfl rfl ?_ | refine VD.mid rfl rfl rfl ?_); refine OpV.box rfl rfl rfl ?_; intro _; refine w ?_))
          refine VO.ent (Ent.re (L := WalR wp b v :: BayR b D :: Row nz 63 [.int .i64 0, .int .i64 0, .int .i64 0] :: Row nw 63 [.int .i64 D.n.r, .int .i64 D.n.w, .int .i64 D.n.f] :: Row no 37 l[i].cells :: R)) ?_
          ((first | refine VO.step rfl rfl ?_ | refine VD.end rfl rfl rfl ?_ | refine VD.mid rfl rfl rfl ?_); refine OpV.call rfl rfl (fun _ _ => by simp) (wallog_ok wp b v hok hcap (by omega) (ho.rd _) ho.fit ho.len) Ent.refl rfl ?_)
          intro _ _
          generalize wLog (v, D) (l[i].pats.map PatE.D) = rr at hg ⊢
          obtain ⟨e, v2, D2⟩ := rr
          dsimp only at hg ⊢
          obtain ⟨g1, g2, g3⟩ := hg
          (refine w ?_; repeat ((first | refine VO.step rfl rfl ?_ | refine VD.end rfl rfl rfl ?_ | refine VD.mid rfl rfl rfl ?_); refine OpV.box rfl rfl rfl ?_; intro _; refine w ?_))
          have hpl := ho.len
          (((first | refine VO.step rfl rfl ?_ | refine VD.end rfl rfl rfl ?_ | refine VD.mid rfl rfl rfl ?_); refine OpV.call rfl rfl (fun _ _ => by simp) (walcost_ok (l[i].pats.length : Int)) Ent.re rfl ?_); intro _ _)
          obtain ⟨cw, hcw, hc0, hc1⟩ : ∃ cw : Int, cw = (if (l[i].pats.length : Int) < 1 ∨ 1023 < (l[i].pats.length : Int) then 0 else 2 * (l[i].pats.length : Int) + 1) ∧ 0 ≤ cw ∧ cw ≤ 2047 := ⟨_, rfl, by split <;> omega, by split <;> omega⟩
          rw [← hcw]
          (refine w ?_; repeat ((first | refine VO.step rfl rfl ?_ | refine VD.end rfl rfl rfl ?_ | refine VD.mid rfl rfl rfl ?_); refine OpV.box rfl rfl rfl ?_; intro _; refine w ?_))
          (apply VO.pure rfl rfl; apply PureAt.build sb_63 rfl; (simp [buildX, setL, Value.cells]; rfl); rfl)
          (refine w ?_; repeat ((first | refine VO.step rfl rfl ?_ | refine VD.end rfl rfl rfl ?_ | refine VD.mid rfl rfl rfl ?_); refine OpV.box rfl rfl rfl ?_; intro _; refine w ?_))
          (first | refine VO.step rfl rfl ?_ | refine VD.end rfl rfl rfl ?_ | refine VD.mid rfl rfl rfl ?_)
          refine OpV.stA (vs := [.int .i64 0, .int .i64 (cw - 1), .int .i64 1]) tab_ok rfl rfl rfl rfl (by simp [Value.oneCell']) (by (repeat first | exact .head | apply Hole.tail)) (by simp) ?_
          (refine w ?_; repeat ((first | refine VO.step rfl rfl ?_ | refine VD.end rfl rfl rfl ?_ | refine VD.mid rfl rfl rfl ?_); refine OpV.box rfl rfl rfl ?_; intro _; refine w ?_))
          refine jn.to (e, v2, D2, cw - 1, 1) ⟨g1, fun q => by
            rw [g2, if_pos q]
            have := g3 rfl q
            rw [List.length_map] at this ⊢
            rw [if_neg (by omega)] at hcw
            show CntD.mk D.n.r (D.n.w + ((2 * l[i].pats.length : Nat) : Int)) (D.n.f + ((1 : Nat) : Int)) = CntD.mk D.n.r (D.n.w + (cw - 1)) (D.n.f + 1)
            rw [show D.n.w + ((2 * l[i].pats.length : Nat) : Int) = D.n.w + (cw - 1) by omega]; rfl, fun q => by rw [g2, if_neg q], by simp only; omega⟩ ⟨rfl, rfl, rfl, rfl, rfl, rfl, rfl, rfl, rfl, trivial⟩ Ent.re
        have k1 : l[i].kind ≠ 1 := by simpa using hc
        (refine w ?_; repeat ((first | refine VO.step rfl rfl ?_ | refine VD.end rfl rfl rfl ?_ | refine VD.mid rfl rfl rfl ?_); refine OpV.box rfl rfl rfl ?_; intro _; refine w ?_))
        (refine VC.cond rfl rfl ?_ ?_ <;> intro hc)
        · have hk : l[i].kind = 2 := by simpa using hc
          have hg := hI.step (by omega) 2 (l[i].pats.map PatE.D)
          rw [show wDo (v, D) 2 (l[i].pats.map PatE.D) = wSeal (v, D) from rfl] at hg
          (refine w ?_; repeat ((first | refine VO.step rfl rfl ?_ | refine VD.end rfl rfl rfl ?_ | refine VD.mid rfl rfl rfl ?_); refine OpV.box rfl rfl rfl ?_; intro _; refine w ?_))
          refine VO.ent (Ent.re (L := WalR wp b v :: BayR b D :: Row nz 63 [.int .i64 0, .int .i64 0, .int .i64 0] :: Row nw 63 [.int .i64 D.n.r, .int .i64 D.n.w, .int .i64 D.n.f] :: Row no 37 l[i].cells :: R)) ?_
          ((first | refine VO.step rfl rfl ?_ | refine VD.end rfl rfl rfl ?_ | refine VD.mid rfl rfl rfl ?_); refine OpV.call rfl rfl (fun _ _ => by simp) (walseal_ok wp b v hok hcap (by omega)) Ent.refl rfl ?_)
          intro _ _
          generalize wSeal (v, D) = rr at hg ⊢
          obtain ⟨e, v2, D2⟩ := rr
          dsimp only at hg ⊢
          obtain ⟨g1, g2, g3⟩ := hg
          (refine w ?_; repeat ((first | refine VO.step rfl rfl ?_ | refine VD.end rfl rfl rfl ?_ | refine VD.mid rfl rfl rfl ?_); refine OpV.box rfl rfl rfl ?_; intro _; refine w ?_))
          (apply VO.pure rfl rfl; apply PureAt.build sb_63 rfl; (simp [buildX, setL, Value.cells]; rfl); rfl)
          (refine w ?_; repeat ((first | refine VO.step rfl rfl ?_ | refine VD.end rfl rfl rfl ?_ | refine VD.mid rfl rfl rfl ?_); refine OpV.box rfl rfl rfl ?_; intro _; refine w ?_))
          (first | refine VO.step rfl rfl ?_ | refine VD.end rfl rfl rfl ?_ | refine VD.mid rfl rfl rfl ?_)
          refine OpV.stA (vs := [.int .i64 0, .int .i64 1, .int .i64 0]) tab_ok rfl rfl rfl rfl (by simp [Value.oneCell']) (by (repeat first | exact .head | apply Hole.tail)) (by simp) ?_
          (refine w ?_; repeat ((first | refine VO.step rfl rfl ?_ | refine VD.end rfl rfl rfl ?_ | refine VD.mid rfl rfl rfl ?_); refine OpV.box rfl rfl rfl ?_; intro _; refine w ?_))
          refine jn.to (e, v2, D2, 1, 0) ⟨g1, fun q => by rw [g2, if_pos q]; rfl, fun q => by rw [g2, if_neg q], by simp only; omega⟩ ⟨rfl, rfl, rfl, rfl, rfl, rfl, rfl, rfl, rfl, trivial⟩ Ent.re
        have k2 : l[i].kind ≠ 2 := by simpa using hc
        (refine w ?_; repeat ((first | refine VO.step rfl rfl ?_ | refine VD.end rfl rfl rfl ?_ | refine VD.mid rfl rfl rfl ?_); refine OpV.box rfl rfl rfl ?_; intro _; refine w ?_))
        (refine VC.cond rfl rfl ?_ ?_ <;> intro hc)
        · have hk : l[i].kind = 3 := by simpa using hc
          have hg := hI.step (by omega) 3 (l[i].pats.map PatE.D)
          rw [show wDo (v, D) 3 (l[i].pats.map PatE.D) = wSync (v, D) from rfl] at hg
          (refine w ?_; repeat ((first | refine VO.step rfl rfl ?_ | refine VD.end rfl rfl rfl ?_ | refine VD.mid rfl rfl rfl ?_); refine OpV.box rfl rfl rfl ?_; intro _; refine w ?_))
          refine VO.ent (Ent.re (L := WalR wp b v :: BayR b D :: Row nz 63 [.int .i64 0, .int .i64 0, .int .i64 0] :: Row nw 63 [.int .i64 D.n.r, .int .i64 D.n.w, .int .i64 D.n.f] :: Row no 37 l[i].cells :: R)) ?_
          ((first | refine VO.step rfl rfl ?_ | refine VD.end rfl rfl rfl ?_ | refine VD.mid rfl rfl rfl ?_); refine OpV.call rfl rfl (fun _ _ => by simp) (walsync_ok wp b v) Ent.refl rfl ?_)
          intro _ _
          generalize wSync (v, D) = rr at hg ⊢
          obtain ⟨e, v2, D2⟩ := rr
          dsimp only at hg ⊢
          obtain ⟨g1, g2, g3⟩ := hg
          (refine w ?_; repeat ((first | refine VO.step rfl rfl ?_ | refine VD.end rfl rfl rfl ?_ | refine VD.mid rfl rfl rfl ?_); refine OpV.box rfl rfl rfl ?_; intro _; refine w ?_))
          cases hsu : v.sure with
          | true =>
            rw [hsu] at g2
            (refine w ?_; repeat ((first | refine VO.step rfl rfl ?_ | refine VD.end rfl rfl rfl ?_ | refine VD.mid rfl rfl rfl ?_); refine OpV.box rfl rfl rfl ?_; intro _; refine w ?_))
            refine jn.to (e, v2, D2, 0, 0) ⟨g1, fun q => by rw [g2, if_pos q]; rfl, fun q => by rw [g2, if_neg q], by simp only; omega⟩ ⟨rfl, rfl, rfl, rfl, rfl, rfl, rfl, rfl, rfl, trivial⟩ Ent.re
          | false =>
            rw [hsu] at g2
            (refine w ?_; repeat ((first | refine VO.step rfl rfl ?_ | refine VD.end rfl rfl rfl ?_ | refine VD.mid rfl rfl rfl ?_); refine OpV.box rfl rfl rfl ?_; intro _; refine w ?_))
            (apply VO.pure rfl rfl; apply PureAt.build sb_63 rfl; (simp [buildX, setL, Value.cells]; rfl); rfl)
            (refine w ?_; repeat ((first | refine VO.step rfl rfl ?_ | refine VD.end rfl rfl rfl ?_ | refine VD.mid rfl rfl rfl ?_); refine OpV.box rfl rfl rfl ?_; intro _; refine w ?_))
            (first | refine VO.step rfl rfl ?_ | refine VD.end rfl rfl rfl ?_ | refine VD.mid rfl rfl rfl ?_)
            refine OpV.stA (vs := [.int .i64 0, .int .i64 0, .int .i64 1]) tab_ok rfl rfl rfl rfl (by simp [Value.oneCell']) (by (repeat first | exact .head | apply Hole.tail)) (by simp) ?_
            (refine w ?_; repeat ((first | refine VO.step rfl rfl ?_ | refine VD.end rfl rfl rfl ?_ | refine VD.mid rfl rfl rfl ?_); refine OpV.box rfl rfl rfl ?_; intro _; refine w ?_))
            refine jn.to (e, v2, D2, 0, 1) ⟨g1, fun q => by rw [g2, if_pos q]; rfl, fun q => by rw [g2, if_neg q], by simp only; omega⟩ ⟨rfl, rfl, rfl, rfl, rfl, rfl, rfl, rfl, rfl, trivial⟩ Ent.re
        have k3 : l[i].kind ≠ 3 := by simpa using hc
        (refine w ?_; repeat ((first | refine VO.step rfl rfl ?_ | refine VD.end rfl rfl rfl ?_ | refine VD.mid rfl rfl rfl ?_); refine OpV.box rfl rfl rfl ?_; intro _; refine w ?_))
        (refine VC.cond rfl rfl ?_ ?_ <;> intro hc)
        · have hk : l[i].kind = 4 := by simpa using hc
          have hg := hI.step (by omega) 4 (l[i].pats.map PatE.D)
          rw [show wDo (v, D) 4 (l[i].pats.map PatE.D) = wEmpty (v, D) v.epoch from rfl] at hg
          (refine w ?_; repeat ((first | refine VO.step rfl rfl ?_ | refine VD.end rfl rfl rfl ?_ | refine VD.mid rfl rfl rfl ?_); refine OpV.box rfl rfl rfl ?_; intro _; refine w ?_))
          refine VO.ent (Ent.re (L := WalR wp b v :: BayR b D :: Row nz 63 [.int .i64 0, .int .i64 0, .int .i64 0] :: Row nw 63 [.int .i64 D.n.r, .int .i64 D.n.w, .int .i64 D.n.f] :: Row no 37 l[i].cells :: R)) ?_
          ((first | refine VO.step rfl rfl ?_ | refine VD.end rfl rfl rfl ?_ | refine VD.mid rfl rfl rfl ?_); refine OpV.call rfl rfl (fun _ _ => by simp) (walreclaim_ok wp b v hok hcap (by omega)) Ent.refl rfl ?_)
          intro _ _
          generalize wEmpty (v, D) v.epoch = rr at hg ⊢
          obtain ⟨e, v2, D2⟩ := rr
          dsimp only at hg ⊢
          obtain ⟨g1, g2, g3⟩ := hg
          (refine w ?_; repeat ((first | refine VO.step rfl rfl ?_ | refine VD.end rfl rfl rfl ?_ | refine VD.mid rfl rfl rfl ?_); refine OpV.box rfl rfl rfl ?_; intro _; refine w ?_))
          (apply VO.pure rfl rfl; apply PureAt.build sb_63 rfl; (simp [buildX, setL, Value.cells]; rfl); rfl)
          (refine w ?_; repeat ((first | refine VO.step rfl rfl ?_ | refine VD.end rfl rfl rfl ?_ | refine VD.mid rfl rfl rfl ?_); refine OpV.box rfl rfl rfl ?_; intro _; refine w ?_))
          (first | refine VO.step rfl rfl ?_ | refine VD.end rfl rfl rfl ?_ | refine VD.mid rfl rfl rfl ?_)
          refine OpV.stA (vs := [.int .i64 0, .int .i64 1, .int .i64 1]) tab_ok rfl rfl rfl rfl (by simp [Value.oneCell']) (by (repeat first | exact .head | apply Hole.tail)) (by simp) ?_
          (refine w ?_; repeat ((first | refine VO.step rfl rfl ?_ | refine VD.end rfl rfl rfl ?_ | refine VD.mid rfl rfl rfl ?_); refine OpV.box rfl rfl rfl ?_; intro _; refine w ?_))
          refine jn.to (e, v2, D2, 1, 1) ⟨g1, fun q => by rw [g2, if_pos q]; rfl, fun q => by rw [g2, if_neg q], by simp only; omega⟩ ⟨rfl, rfl, rfl, rfl, rfl, rfl, rfl, rfl, rfl, trivial⟩ Ent.re
        have k4 : l[i].kind ≠ 4 := by simpa using hc
        (refine w ?_; repeat ((first | refine VO.step rfl rfl ?_ | refine VD.end rfl rfl rfl ?_ | refine VD.mid rfl rfl rfl ?_); refine OpV.box rfl rfl rfl ?_; intro _; refine w ?_))
        (refine VC.cond rfl rfl ?_ ?_ <;> intro hc)
        · have hk : l[i].kind = 5 := by simpa using hc
          have hg := hI.step (by omega) 5 (l[i].pats.map PatE.D)
          rw [show wDo (v, D) 5 (l[i].pats.map PatE.D) = wEmpty (v, D) (v.epoch + 1) from rfl] at hg
          (refine w ?_; repeat ((first | refine VO.step rfl rfl ?_ | refine VD.end rfl rfl rfl ?_ | refine VD.mid rfl rfl rfl ?_); refine OpV.box rfl rfl rfl ?_; intro _; refine w ?_))
          refine VO.ent (Ent.re (L := WalR wp b v :: BayR b D :: Row nz 63 [.int .i64 0, .int .i64 0, .int .i64 0] :: Row nw 63 [.int .i64 D.n.r, .int .i64 D.n.w, .int .i64 D.n.f] :: Row no 37 l[i].cells :: R)) ?_
          ((first | refine VO.step rfl rfl ?_ | refine VD.end rfl rfl rfl ?_ | refine VD.mid rfl rfl rfl ?_); refine OpV.call rfl rfl (fun _ _ => by simp) (walrenew_ok wp b v hok hcap (by omega)) Ent.refl rfl ?_)
          intro _ _
          generalize wEmpty (v, D) (v.epoch + 1) = rr at hg ⊢
          obtain ⟨e, v2, D2⟩ := rr
          dsimp only at hg ⊢
          obtain ⟨g1, g2, g3⟩ := hg
          (refine w ?_; repeat ((first | refine VO.step rfl rfl ?_ | refine VD.end rfl rfl rfl ?_ | refine VD.mid rfl rfl rfl ?_); refine OpV.box rfl rfl rfl ?_; intro _; refine w ?_))
          (apply VO.pure rfl rfl; apply PureAt.build sb_63 rfl; (simp [buildX, setL, Value.cells]; rfl); rfl)
          (refine w ?_; repeat ((first | refine VO.step rfl rfl ?_ | refine VD.end rfl rfl rfl ?_ | refine VD.mid rfl rfl rfl ?_); refine OpV.box rfl rfl rfl ?_; intro _; refine w ?_))
          (first | refine VO.step rfl rfl ?_ | refine VD.end rfl rfl rfl ?_ | refine VD.mid rfl rfl rfl ?_)
          refine OpV.stA (vs := [.int .i64 0, .int .i64 1, .int .i64 1]) tab_ok rfl rfl rfl rfl (by simp [Value.oneCell']) (by (repeat first | exact .head | apply Hole.tail)) (by simp) ?_
          (refine w ?_; repeat ((first | refine VO.step rfl rfl ?_ | refine VD.end rfl rfl rfl ?_ | refine VD.mid rfl rfl rfl ?_); refine OpV.box rfl rfl rfl ?_; intro _; refine w ?_))
          refine jn.to (e, v2, D2, 1, 1) ⟨g1, fun q => by rw [g2, if_pos q]; rfl, fun q => by rw [g2, if_neg q], by simp only; omega⟩ ⟨rfl, rfl, rfl, rfl, rfl, rfl, rfl, rfl, rfl, trivial⟩ Ent.re
        have hg := hI.step (by omega) 0 []
        rw [show wDo (v, D) 0 [] = (0, (v, D)) from rfl] at hg
        (refine w ?_; repeat ((first | refine VO.step rfl rfl ?_ | refine VD.end rfl rfl rfl ?_ | refine VD.mid rfl rfl rfl ?_); refine OpV.box rfl rfl rfl ?_; intro _; refine w ?_))
        refine jn.to (1, v, D, 0, 0) ⟨hg.1, fun q => (by cases q), fun _ => rfl, by simp only; omega⟩ ⟨rfl, rfl, rfl, rfl, rfl, rfl, rfl, rfl, rfl, trivial⟩ Ent.re
      rintro ⟨e, v2, D2, w1, f1⟩ ⟨hI2, hn0, hn1, hb1, hb2, hb3, hb4⟩
      dsimp only at hI2 hn0 hn1 hb1 hb2 hb3 hb4 ⊢
      have hus := (hI2.inv.wok (by omega)).ring.us
      (refine w ?_; repeat ((first | refine VO.step rfl rfl ?_ | refine VD.end rfl rfl rfl ?_ | refine VD.mid rfl rfl rfl ?_); refine OpV.box rfl rfl rfl ?_; intro _; refine w ?_))
      (refine VC.cond rfl rfl ?_ ?_ <;> intro hc)
      · have he : e ≠ 0 := by simpa using hc
        have hn : D2.n = ⟨D.n.r, D.n.w + 0, D.n.f + 0⟩ := by rw [hn1 he, Int.add_zero, Int.add_zero]
        (refine w ?_; repeat ((first | refine VO.step rfl rfl ?_ | refine VD.end rfl rfl rfl ?_ | refine VD.mid rfl rfl rfl ?_); refine OpV.box rfl rfl rfl ?_; intro _; refine w ?_))
        (apply VO.pure rfl rfl; apply PureAt.build sb_63 rfl; (simp [buildX, setL, Value.cells]; rfl); rfl)
        (refine w ?_; repeat ((first | refine VO.step rfl rfl ?_ | refine VD.end rfl rfl rfl ?_ | refine VD.mid rfl rfl rfl ?_); refine OpV.box rfl rfl rfl ?_; intro _; refine w ?_))
        (first | refine VO.step rfl rfl ?_ | refine VD.end rfl rfl rfl ?_ | refine VD.mid rfl rfl rfl ?_)
        refine OpV.stA (vs := [.int .i64 0, .int .i64 0, .int .i64 0]) tab_ok rfl rfl rfl rfl (by simp [Value.oneCell']) (by (repeat first | exact .head | apply Hole.tail)) (by simp) ?_
        (refine w ?_; repeat ((first | refine VO.step rfl rfl ?_ | refine VD.end rfl rfl rfl ?_ | refine VD.mid rfl rfl rfl ?_); refine OpV.box rfl rfl rfl ?_; intro _; refine w ?_))
        (((first | refine VO.step rfl rfl ?_ | refine VD.end rfl rfl rfl ?_ | refine VD.mid rfl rfl rfl ?_); refine OpV.call rfl rfl (fun _ _ => by simp) (baycounts_ok b D2) Ent.re rfl ?_); intro _ _)
        (refine w ?_; repeat ((first | refine VO.step rfl rfl ?_ | refine VD.end rfl rfl rfl ?_ | refine VD.mid rfl rfl rfl ?_); refine OpV.box rfl rfl rfl ?_; intro _; refine w ?_))
        rw [hn]
        ((first | refine VO.step rfl rfl ?_ | refine VD.end rfl rfl rfl ?_ | refine VD.mid rfl rfl rfl ?_); refine OpV.allocS sb_63 rfl ?_; intro nn)
        (refine w ?_; repeat ((first | refine VO.step rfl rfl ?_ | refine VD.end rfl rfl rfl ?_ | refine VD.mid rfl rfl rfl ?_); refine OpV.box rfl rfl rfl ?_; intro _; refine w ?_))
        (first | refine VO.step rfl rfl ?_ | refine VD.end rfl rfl rfl ?_ | refine VD.mid rfl rfl rfl ?_)
        refine OpV.stA (vs := [.int .i64 D.n.r, .int .i64 (D.n.w + 0), .int .i64 (D.n.f + 0)]) tab_ok rfl rfl rfl rfl (by simp [Value.oneCell']) (by (repeat first | exact .head | apply Hole.tail)) (by simp) ?_
        (refine w ?_; repeat ((first | refine VO.step rfl rfl ?_ | refine VD.end rfl rfl rfl ?_ | refine VD.mid rfl rfl rfl ?_); refine OpV.box rfl rfl rfl ?_; intro _; refine w ?_))
        (first | refine VO.gF rfl rfl rfl (by simp) ?_ | refine VD.gF rfl rfl rfl (by simp) ?_)
        (refine w ?_; repeat ((first | refine VO.step rfl rfl ?_ | refine VD.end rfl rfl rfl ?_ | refine VD.mid rfl rfl rfl ?_); refine OpV.box rfl rfl rfl ?_; intro _; refine w ?_))
        (first | refine VO.gF rfl rfl rfl (by simp) ?_ | refine VD.gF rfl rfl rfl (by simp) ?_)
        (refine w ?_; repeat ((first | refine VO.step rfl rfl ?_ | refine VD.end rfl rfl rfl ?_ | refine VD.mid rfl rfl rfl ?_); refine OpV.box rfl rfl rfl ?_; intro _; refine w ?_))
        (first | refine VO.gF rfl rfl rfl (by simp) ?_ | refine VD.gF rfl rfl rfl (by simp) ?_)
        (refine w ?_; repeat ((first | refine VO.step rfl rfl ?_ | refine VD.end rfl rfl rfl ?_ | refine VD.mid rfl rfl rfl ?_); refine OpV.box rfl rfl rfl ?_; intro _; refine w ?_))
        (((first | refine VO.step rfl rfl ?_ | refine VD.end rfl rfl rfl ?_ | refine VD.mid rfl rfl rfl ?_); refine OpV.call rfl rfl (fun _ _ => by simp) (walused_ok wp b v2) Ent.re rfl ?_); intro _ _)
        (refine w ?_; repeat ((first | refine VO.step rfl rfl ?_ | refine VD.end rfl rfl rfl ?_ | refine VD.mid rfl rfl rfl ?_); refine OpV.box rfl rfl rfl ?_; intro _; refine w ?_))
        (((first | refine VO.step rfl rfl ?_ | refine VD.end rfl rfl rfl ?_ | refine VD.mid rfl rfl rfl ?_); refine OpV.call rfl rfl (fun _ _ => by simp) (walsize_ok wp b v2) Ent.re rfl ?_); intro _ _)
        (refine w ?_; repeat ((first | refine VO.step rfl rfl ?_ | refine VD.end rfl rfl rfl ?_ | refine VD.mid rfl rfl rfl ?_); refine OpV.box rfl rfl rfl ?_; intro _; refine w ?_))
        (refine VC.condFe rfl rfl (decide_eq_false (by omega)) ?_)
        (refine w ?_; repeat ((first | refine VO.step rfl rfl ?_ | refine VD.end rfl rfl rfl ?_ | refine VD.mid rfl rfl rfl ?_); refine OpV.box rfl rfl rfl ?_; intro _; refine w ?_))
        refine VE.round (i + 1, v2, D2) ⟨hlt, hI2⟩ (by simp only; omega) ⟨rfl, rfl, rfl, rfl, asV rfl (by congr 1), trivial⟩ Ent.re
      · have he : e = 0 := by simpa using hc
        have hn := hn0 he
        (refine w ?_; repeat ((first | refine VO.step rfl rfl ?_ | refine VD.end rfl rfl rfl ?_ | refine VD.mid rfl rfl rfl ?_); refine OpV.box rfl rfl rfl ?_; intro _; refine w ?_))
        (((first | refine VO.step rfl rfl ?_ | refine VD.end rfl rfl rfl ?_ | refine VD.mid rfl rfl rfl ?_); refine OpV.call rfl rfl (fun _ _ => by simp) (baycounts_ok b D2) Ent.re rfl ?_); intro _ _)
        (refine w ?_; repeat ((first | refine VO.step rfl rfl ?_ | refine VD.end rfl rfl rfl ?_ | refine VD.mid rfl rfl rfl ?_); refine OpV.box rfl rfl rfl ?_; intro _; refine w ?_))
        rw [hn]
        ((first | refine VO.step rfl rfl ?_ | refine VD.end rfl rfl rfl ?_ | refine VD.mid rfl rfl rfl ?_); refine OpV.allocS sb_63 rfl ?_; intro nn)
        (refine w ?_; repeat ((first | refine VO.step rfl rfl ?_ | refine VD.end rfl rfl rfl ?_ | refine VD.mid rfl rfl rfl ?_); refine OpV.box rfl rfl rfl ?_; intro _; refine w ?_))
        (first | refine VO.step rfl rfl ?_ | refine VD.end rfl rfl rfl ?_ | refine VD.mid rfl rfl rfl ?_)
        refine OpV.stA (vs := [.int .i64 D.n.r, .int .i64 (D.n.w + w1), .int .i64 (D.n.f + f1)]) tab_ok rfl rfl rfl rfl (by simp [Value.oneCell']) (by (repeat first | exact .head | apply Hole.tail)) (by simp) ?_
        (refine w ?_; repeat ((first | refine VO.step rfl rfl ?_ | refine VD.end rfl rfl rfl ?_ | refine VD.mid rfl rfl rfl ?_); refine OpV.box rfl rfl rfl ?_; intro _; refine w ?_))
        (first | refine VO.gF rfl rfl rfl (by simp) ?_ | refine VD.gF rfl rfl rfl (by simp) ?_)
        (refine w ?_; repeat ((first | refine VO.step rfl rfl ?_ | refine VD.end rfl rfl rfl ?_ | refine VD.mid rfl rfl rfl ?_); refine OpV.box rfl rfl rfl ?_; intro _; refine w ?_))
        (first | refine VO.gF rfl rfl rfl (by simp) ?_ | refine VD.gF rfl rfl rfl (by simp) ?_)
        (refine w ?_; repeat ((first | refine VO.step rfl rfl ?_ | refine VD.end rfl rfl rfl ?_ | refine VD.mid rfl rfl rfl ?_); refine OpV.box rfl rfl rfl ?_; intro _; refine w ?_))
        (first | refine VO.gF rfl rfl rfl (by simp) ?_ | refine VD.gF rfl rfl rfl (by simp) ?_)
        (refine w ?_; repeat ((first | refine VO.step rfl rfl ?_ | refine VD.end rfl rfl rfl ?_ | refine VD.mid rfl rfl rfl ?_); refine OpV.box rfl rfl rfl ?_; intro _; refine w ?_))
        (((first | refine VO.step rfl rfl ?_ | refine VD.end rfl rfl rfl ?_ | refine VD.mid rfl rfl rfl ?_); refine OpV.call rfl rfl (fun _ _ => by simp) (walused_ok wp b v2) Ent.re rfl ?_); intro _ _)
        (refine w ?_; repeat ((first | refine VO.step rfl rfl ?_ | refine VD.end rfl rfl rfl ?_ | refine VD.mid rfl rfl rfl ?_); refine OpV.box rfl rfl rfl ?_; intro _; refine w ?_))
        (((first | refine VO.step rfl rfl ?_ | refine VD.end rfl rfl rfl ?_ | refine VD.mid rfl rfl rfl ?_); refine OpV.call rfl rfl (fun _ _ => by simp) (walsize_ok wp b v2) Ent.re rfl ?_); intro _ _)
        (refine w ?_; repeat ((first | refine VO.step rfl rfl ?_ | refine VD.end rfl rfl rfl ?_ | refine VD.mid rfl rfl rfl ?_); refine OpV.box rfl rfl rfl ?_; intro _; refine w ?_))
        (refine VC.condFe rfl rfl (decide_eq_false (by omega)) ?_)
        (refine w ?_; repeat ((first | refine VO.step rfl rfl ?_ | refine VD.end rfl rfl rfl ?_ | refine VD.mid rfl rfl rfl ?_); refine OpV.box rfl rfl rfl ?_; intro _; refine w ?_))
        refine VE.round (i + 1, v2, D2) ⟨hlt, hI2⟩ (by simp only; omega) ⟨rfl, rfl, rfl, rfl, asV rfl (by congr 1), trivial⟩ Ent.re
    · (refine w ?_; repeat ((first | refine VO.step rfl rfl ?_ | refine VD.end rfl rfl rfl ?_ | refine VD.mid rfl rfl rfl ?_); refine OpV.box rfl rfl rfl ?_; intro _; refine w ?_))
      exact VE.done1 rfl rfl Ent.re
end Go.Proofs.YtlojjlbngnaphaaGreat

