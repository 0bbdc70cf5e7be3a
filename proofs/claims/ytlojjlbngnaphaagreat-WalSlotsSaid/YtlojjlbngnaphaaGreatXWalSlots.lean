import Derived.Test.YtlojjlbngnaphaaGreatM8
/-! Text Sk, more of it. -/
set_option maxRecDepth 8000
set_option linter.unusedVariables false
set_option linter.unusedSimpArgs false
set_option linter.unusedSectionVars false
namespace Go.Sl
open Go.RowKit

section
variable {P : Program} {ops : Array Oper} {Q : Exit → Act → World → Prop} {md : Region.Mode} {S : World → Prop}

end

section
variable {W : World} {P : Program} {n : Nat} {c : Code} {Q : Exit → Act → World → Prop} {H H' L R : List SProp} {f F : Fr} {mv ord r : List Nat} {tl i : Nat}
variable {dst : Option Tmp} {d : Nat} {ty_ : TypeId} {pos : String} {after : Array Edge} {guard : Option (Nat × Bool)}

end
end Go.Sl

set_option maxRecDepth 8000
set_option linter.unusedVariables false
set_option linter.unusedSimpArgs false
set_option linter.unusedSectionVars false
namespace Go.Sl
open Go
variable {W : World} {P : Program} {n : Nat} {c c1 c2 : Code} {Q : Exit → Act → World → Prop} {H : List SProp} {f : Fr}

end Go.Sl

set_option maxRecDepth 8000
set_option linter.unusedVariables false
set_option linter.unusedSimpArgs false
set_option linter.unusedSectionVars false
namespace Go.Sl
open Go Go.RowKit
section
variable {W : World} {P : Program} {n : Nat} {c : Code} {Q : Exit → Act → World → Prop} {H H' L S : List SProp} {f F : Fr} {C : SProp → List SProp}
variable {N : List SProp → Fr → Prop} {dst : Option Tmp} {d : Nat} {ty_ : TypeId} {pos : String} {after : Array Edge} {guard : Option (Nat × Bool)}

end
end Go.Sl

set_option maxRecDepth 8000
set_option linter.unusedVariables false
set_option linter.unusedSimpArgs false
set_option linter.unusedSectionVars false
namespace Go.Sl
open Go Go.RowKit Go.MapKept
section
variable {W : World} {P : Program} {n : Nat} {c : Code} {Q : Exit → Act → World → Prop} {H H' L S : List SProp} {f F : Fr} {C : SProp → List SProp}
variable {N : List SProp → Fr → Prop} {dst : Option Tmp} {d : Nat} {ty_ : TypeId} {pos : String} {after : Array Edge} {guard : Option (Nat × Bool)}

end

section
variable {α β : Type}
end
end Go.Sl

set_option maxRecDepth 8000
set_option linter.unusedVariables false
set_option linter.unusedSimpArgs false
set_option linter.unusedSectionVars false
namespace Go.Sl
open Go.RowKit

section
variable {H : Type} {enc : TypeId × Value → H} {P : Program} {W : World}

end
end Go.Sl

set_option maxRecDepth 8000
set_option linter.unusedVariables false
set_option linter.unusedSimpArgs false
set_option linter.unusedSectionVars false
namespace Go.Sl
open Go Go.RowKit
section
variable {W : World} {P : Program} {n : Nat} {c : Code} {Q : Exit → Act → World → Prop} {H H' L S R : List SProp} {f F : Fr} {C : SProp → List SProp}
variable {N : List SProp → Fr → Prop} {dst : Option Tmp} {d : Nat} {ty_ : TypeId} {pos : String} {after : Array Edge} {guard : Option (Nat × Bool)}

end
end Go.Sl

set_option maxRecDepth 8000
set_option linter.unusedVariables false
set_option linter.unusedSimpArgs false
set_option linter.unusedSectionVars false
namespace Go.Sl
open Go.RowKit
section
variable {W : World} {P : Program} {H : List SProp} {g : FuncId} {args : List Value}
/-- What memory says behind a call is said by the contract. -/
theorem DoesA {β : Type} {A B : β → Prop} {r : β → Value} {G : β → List SProp} (h : Does W P g args H A r G) (hp : ∀ x, A x → ∀ w, Holds W (G x) w → B x) : Does W P g args H B r G := by
  unfold Does at h ⊢
  exact fun w hw => (h w hw).mono fun _ w' ⟨x, hx, he, hh⟩ => ⟨x, hp x hx w' hh, he, hh⟩
end

section
variable {W : World} {P : Program} {n : Nat} {c c1 c2 : Code} {Q : Exit → Act → World → Prop} {H : List SProp} {f : Fr}
end
end Go.Sl

set_option maxRecDepth 8000
set_option linter.unusedVariables false
namespace Go.Sl
open Go Go.RowKit
section
variable {W : World} {P : Program} {n : Nat} {H : List SProp} {f : Fr} {dst : Option Tmp} {ty_ : TypeId} {pos : String} {after : Array Edge} {guard : Option (Nat × Bool)}
end
end Go.Sl

set_option linter.unusedVariables false
namespace Go.Sl
end Go.Sl

set_option maxRecDepth 8000
set_option linter.unusedVariables false
set_option linter.unusedSimpArgs false
set_option linter.unusedSectionVars false
namespace Go.Sl
open Go.RowKit

section
variable {W : World} {P : Program} {n : Nat} {H : List SProp} {f : Fr} {dst : Option Tmp} {d : Nat} {ty_ : TypeId} {pos : String} {after : Array Edge} {guard : Option (Nat × Bool)}

end
end Go.Sl

set_option maxRecDepth 8000
set_option linter.unusedVariables false
set_option linter.unusedSimpArgs false
set_option linter.unusedSectionVars false
namespace Go.Sl
open Go.RowKit

end Go.Sl

set_option maxRecDepth 8000
set_option linter.unusedVariables false
set_option linter.unusedSimpArgs false
set_option linter.unusedSectionVars false
namespace Go.Sl
open Go Go.RowKit
section
variable {W : World} {P : Program} {n : Nat} {Q : Exit → Act → World → Prop} {H : List SProp} {f : Fr} {C : SProp → List SProp}
variable {N : List SProp → Fr → Prop} {ty_ : TypeId} {pos : String} {after : Array Edge} {guard : Option (Nat × Bool)}

end
section
variable {W : World} {P : Program} {n : Nat} {c c2 : Code} {Q : Exit → Act → World → Prop} {H : List SProp} {f : Fr}
end
end Go.Sl

set_option maxRecDepth 8000
set_option linter.unusedVariables false
set_option linter.unusedSimpArgs false
set_option linter.unusedSectionVars false
namespace Go.Sl
open Go Go.RowKit
section
variable {W : World} {P : Program} {n : Nat} {c : Code} {Q : Exit → Act → World → Prop} {H : List SProp} {f : Fr} {C : SProp → List SProp}
variable {N : List SProp → Fr → Prop} {dst : Option Tmp} {d : Nat} {ty_ : TypeId} {pos : String} {after : Array Edge} {guard : Option (Nat × Bool)}

end
end Go.Sl

set_option maxRecDepth 8000
set_option linter.unusedVariables false
set_option linter.unusedSimpArgs false
set_option linter.unusedSectionVars false
namespace Go.Sl
open Go Go.RowKit
section
variable {W : World} {P : Program} {n : Nat} {Q : Exit → Act → World → Prop} {H : List SProp} {f : Fr} {C : SProp → List SProp}
variable {N : List SProp → Fr → Prop} {d : Nat} {ty_ : TypeId} {pos : String} {after : Array Edge} {guard : Option (Nat × Bool)}

end
end Go.Sl

set_option maxRecDepth 8000
set_option linter.unusedVariables false
set_option linter.unusedSimpArgs false
set_option linter.unusedSectionVars false
namespace Go.Sl
open Go Go.RowKit
section
variable {P : Program} {ops : Array Oper} {Q : Exit → Act → World → Prop} {S : World → Prop}

end
section
variable {W : World} {P : Program} {n : Nat} {c : Code} {Q : Exit → Act → World → Prop} {H H' L R : List SProp} {f F : Fr} {mv ord r : List Nat} {tl i x : Nat}
variable {dst : Option Tmp} {d e : Nat} {ty_ : TypeId} {pos : String} {after : Array Edge} {guard : Option (Nat × Bool)} {X : Nat → SProp} {vx : Nat → Value}

end
end Go.Sl

/-! Text Dm, more of it. -/
set_option maxRecDepth 8000
set_option linter.unusedVariables false
set_option linter.unusedSimpArgs false
set_option linter.unusedSectionVars false
namespace Go.Proofs.YtlojjlbngnaphaaGreat
open Go.RowKit Go.Sl
attribute [local irreducible] Sl.Own

theorem image_bad {W : World} {R : List SProp} (d : Nat) (k : DiskD) (hf : k.failed = true) :
    Does1 W Tryz.prog 68 [.pointer (some ⟨d, 0, none⟩)] (DiskR d k :: R) (.slice none 0 0) (DiskR d k :: R) := by
  (refine Does.enter Tryz.func68 Tryz.ntmps68 rfl rfl ?_)
  refine VC.obtain (fun w => DiskR.open) ?_
  rintro ⟨⟨⟨lo, lc⟩, ⟨co, cc⟩, m⟩, hk⟩
  (refine w ?_; repeat ((first | refine VO.step rfl rfl ?_ | refine VD.end rfl rfl rfl ?_ | refine VD.mid rfl rfl rfl ?_); refine OpV.box rfl rfl rfl ?_; intro _; refine w ?_))
  (refine VC.condTe rfl rfl (hf) ?_)
  (refine w ?_; repeat ((first | refine VO.step rfl rfl ?_ | refine VD.end rfl rfl rfl ?_ | refine VD.mid rfl rfl rfl ?_); refine OpV.box rfl rfl rfl ?_; intro _; refine w ?_))
  (refine VE.done1 rfl ?_ ?_)
  · rfl
  · exact DiskR.shut hk

set_option maxHeartbeats 2000000 in
theorem image_ok {W : World} {R : List SProp} (d : Nat) (k : DiskD) (hf : k.failed = false) :
    Does W Tryz.prog 68 [.pointer (some ⟨d, 0, none⟩)] (DiskR d k :: R) (β := Option Addr × Nat) (fun _ => True) (fun x => .slice x.1 (k.last.length * 128) x.2)
      (fun x => Sl.Own 5 1 (.slice x.1 (k.last.length * 128) x.2) (k.last.length * 128) (bytes k.last.flatten) :: DiskR d k :: R) := by
  (refine Does.enter Tryz.func68 Tryz.ntmps68 rfl rfl ?_)
  refine VC.obtain (fun w => DiskR.open) ?_
  rintro ⟨⟨⟨lo, lc⟩, ⟨co, cc⟩, m⟩, hk⟩
  dsimp only [DiskO]
  refine VC.know (fun w hw => hw.ownNone (show Sl.Own 237 128 (.slice lo k.last.length lc) k.last.length _ ∈ _ by (focus repeat first | exact .head _ | apply List.Mem.tail)) : ∀ w, _ → (lo = none → k.last.length = 0)) ?_
  intro hln
  have h8 : ∀ x ∈ k.last, (bytes x).length = 128 := fun x h => by simp [hk.last x h]
  have hsz := hk.size
  (refine w ?_; repeat ((first | refine VO.step rfl rfl ?_ | refine VD.end rfl rfl rfl ?_ | refine VD.mid rfl rfl rfl ?_); refine OpV.box rfl rfl rfl ?_; intro _; refine w ?_))
  (refine VC.condFe rfl rfl (hf) ?_)
  (refine w ?_; repeat ((first | refine VO.step rfl rfl ?_ | refine VD.end rfl rfl rfl ?_ | refine VD.mid rfl rfl rfl ?_); refine OpV.box rfl rfl rfl ?_; intro _; refine w ?_))
  refine VO.re 14 (.int .i64 ((k.last.length * 128 : Nat) : Int)) rfl (by congr 1) ?_
  (first | refine VO.step rfl rfl ?_ | refine VD.end rfl rfl rfl ?_ | refine VD.mid rfl rfl rfl ?_)
  refine OpV.makeCap (m := k.last.length * 128) st_68 rfl rfl ?_ ?_ rfl ?_
  · omega
  · simp only [maxLen]; omega
  intro nb
  (refine w ?_; repeat ((first | refine VO.step rfl rfl ?_ | refine VD.end rfl rfl rfl ?_ | refine VD.mid rfl rfl rfl ?_); refine OpV.box rfl rfl rfl ?_; intro _; refine w ?_))
  refine VC.loop (α := Nat × Option Addr × Nat) (fun g => g.1 ≤ k.last.length)
    (fun g => Sl.Own 5 1 (.slice g.2.1 (g.1 * 128) g.2.2) (g.1 * 128) (bytes (k.last.take g.1).flatten) :: DiskO d k ((lo, lc), (co, cc), m) R)
    (fun g => [(0, .pointer (some ⟨d, 0, none⟩)), (3, .slice g.2.1 (g.1 * 128) g.2.2), (20, .int .i64 k.last.length), (21, .int .i64 g.1)]) (fun g => k.last.length - g.1) rfl (0, some ⟨nb, 0, none⟩, k.last.length * 128) (Nat.zero_le _) Ent.re ⟨rfl, rfl, rfl, rfl, trivial⟩ ?_
  rintro ⟨i, ao, cap⟩ hi
  have hi : i ≤ k.last.length := hi
  dsimp only [DiskO]
  (refine w ?_; repeat ((first | refine VO.step rfl rfl ?_ | refine VD.end rfl rfl rfl ?_ | refine VD.mid rfl rfl rfl ?_); refine OpV.box rfl rfl rfl ?_; intro _; refine w ?_))
  (refine VC.cond rfl rfl ?_ ?_ <;> intro hc)
  · have hlt : i < k.last.length := by have := of_decide_eq_true hc; omega
    obtain ⟨b, rfl⟩ : ∃ b, lo = some b := by cases lo with | none => have := hln rfl; omega | some b => exact ⟨b, rfl⟩
    have hla : k.last[i].length = 128 := hk.last _ (List.getElem_mem hlt)
    have hp := flat_part (g := bytes) k.last i hlt h8
    (refine w ?_; repeat ((first | refine VO.step rfl rfl ?_ | refine VD.end rfl rfl rfl ?_ | refine VD.mid rfl rfl rfl ?_); refine OpV.box rfl rfl rfl ?_; intro _; refine w ?_))
    (first | refine VO.pure rfl rfl (PureAt.sliceArr (sz := 1) Tryz.underlying237 (by decide) (fun w => by simp) rfl) rfl ?_ | refine VD.take rfl rfl rfl (PureAt.sliceArr (sz := 1) Tryz.underlying237 (by decide) (fun w => by simp) rfl) rfl ?_ | refine VQ.pure rfl rfl (PureAt.sliceArr (sz := 1) Tryz.underlying237 (by decide) (fun w => by simp) rfl) rfl ?_ | refine VD.end rfl rfl rfl (OpV.pure (PureAt.sliceArr (sz := 1) Tryz.underlying237 (by decide) (fun w => by simp) rfl) rfl ?_))
    refine VO.re 31 (.slice (some (b.add (i * 128))) 128 128) rfl (by rw [Addr_add_zero]) ?_
    (first | refine VO.step rfl rfl ?_ | refine VD.end rfl rfl rfl ?_ | refine VD.mid rfl rfl rfl ?_)
    refine OpV.append st_68 rfl rfl .head (fun w hw => ((Rds.part (Rds.own (W := W) (H := DiskO d k ((some b, lc), (co, cc), m) R) (lasts_one _) (.tail _ (.head _)) (flat_length _ h8) hln) hlt).sees (cap := 128) hw.tail).src st_68.und) (by simp only [maxLen]; omega) (by omega) rfl ?_
    intro ao' cap'
    rw [hp, show i * 128 + 128 = (i + 1) * 128 by omega]
    have e : bytes (k.last.take i).flatten ++ bytes k.last[i] = bytes (k.last.take (i + 1)).flatten := by
      rw [← bytes_append, List.take_succ_eq_append_getElem hlt, List.flatten_append]; simp
    rw [e]
    (refine w ?_; repeat ((first | refine VO.step rfl rfl ?_ | refine VD.end rfl rfl rfl ?_ | refine VD.mid rfl rfl rfl ?_); refine OpV.box rfl rfl rfl ?_; intro _; refine w ?_))
    exact VE.round (i + 1, ao', cap') hlt (by simp only; omega) ⟨rfl, rfl, rfl, rfl, trivial⟩ Ent.refl
  · have hge : i = k.last.length := by have := of_decide_eq_false hc; omega
    subst hge
    rw [List.take_of_length_le (Nat.le_refl k.last.length)]
    (refine w ?_; repeat ((first | refine VO.step rfl rfl ?_ | refine VD.end rfl rfl rfl ?_ | refine VD.mid rfl rfl rfl ?_); refine OpV.box rfl rfl rfl ?_; intro _; refine w ?_))
    refine VE.done (ao, cap) rfl trivial rfl ?_
    exact fun w hw => (DiskR.shut hk w (hw.reord (L := DiskO d k ((lo, lc), (co, cc), m) (Sl.Own 5 1 (.slice ao (k.last.length * 128) cap) (k.last.length * 128) (bytes k.last.flatten) :: R)) (by (repeat first | exact .refl | (apply Reord.cons; focus repeat first | exact .head | apply Del.tail) | exact .nil | apply Reord.drop)))).swap

end Go.Proofs.YtlojjlbngnaphaaGreat

/-! Text Ba, more of it. -/
set_option maxRecDepth 8000
set_option linter.unusedVariables false
set_option linter.unusedSimpArgs false
set_option linter.unusedSectionVars false
namespace Go.Proofs.YtlojjlbngnaphaaGreat
open Go.RowKit Go.Sl
attribute [local irreducible] Sl.Own

theorem img_len {k : DiskD} (hk : k.ok) : k.last.flatten.length = k.last.length * 128 := by
  have : ∀ l : List (List UInt8), (∀ b ∈ l, b.length = 128) → l.flatten.length = l.length * 128 := fun l => by
    induction l with
    | nil => intro _; rfl
    | cons a r ih => intro h; rw [List.flatten_cons, List.length_append, ih fun b hb => h b (.tail _ hb), h a (.head _), List.length_cons, Nat.add_mul]; omega
  exact this k.last hk.last

theorem dimg_ok {W : World} {R : List SProp} (d : Nat) (k : DiskD) :
    Does W Tryz.prog 68 [.pointer (some ⟨d, 0, none⟩)] (DiskR d k :: R) (β := Option Addr × Nat) (fun x => x.1 = none → k.img.length = 0) (fun x => sliceB x k.img) (fun x => OwnB x k.img :: DiskR d k :: R) := by
  refine DoesA (A := fun _ => True) ?_ (fun x _ w hw => hw.ownNone (.head _))
  unfold DiskD.img
  cases h : k.failed
  · refine DoesK (fun w => DiskR.know) fun hk => ?_
    have hl := img_len hk
    refine Does.mono (image_ok d k h) id (fun _ _ => trivial) (fun x _ => by simp [sliceB, hl]) fun x _ => ?_
    simp only [OwnB, hl, Bool.false_eq_true, if_false, id]; exact Ent.refl
  · exact Does1M (image_bad d k h) (none, 0) trivial rfl fun w hw => hw.ownNil 5 1
end Go.Proofs.YtlojjlbngnaphaaGreat

/-! Text Bb, more of it. -/
set_option maxRecDepth 8000
set_option linter.unusedVariables false
set_option linter.unusedSimpArgs false
set_option linter.unusedSectionVars false
namespace Go.Proofs.YtlojjlbngnaphaaGreat
open Go.RowKit Go.Sl
attribute [local irreducible] Sl.Own

theorem bayInC {W : World} {b : Nat} {D D' : BayD} {a : Addr} {l1 l2 : List SlotP} {s : SlotP} {R : List SProp} {p : DevP} (P : SProp) (hs : s.in_ = some p) (v : DevD) (h1 : D'.slots = (l1 ++ { s with in_ := some ⟨p.r, p.d, v⟩ } :: l2).map SlotP.D) (h2 : (l1 ++ s :: l2).length ≤ 17) :
    Ent W (P :: devRow ⟨p.r, p.d, v⟩ :: DiskR p.d v.k :: BayX b D' a l1 s l2 R) (P :: BayR b D' :: R) :=
  Ent.ctx (X := [P]) (L := devRow ⟨p.r, p.d, v⟩ :: DiskR p.d v.k :: devRes s.aside :: devRes s.coming :: bayRow b D' a (l1 ++ s :: l2).length :: slotsOwn a (l1 ++ s :: l2) :: (l1 ++ l2).map slotRes) (L' := [BayR b D']) (bayInP (D := D) hs v h1 h2)
theorem bayimage_ok {W : World} {R : List SProp} (b : Nat) (D : BayD) (k : Int) :
    Does W Tryz.prog 36 [.pointer (some ⟨b, 0, none⟩), .int .i64 k] (BayR b D :: R) (β := Option Addr × Nat) (fun x => x.1 = none → (D.image k).1.length = 0) (fun x => .tuple #[sliceB x (D.image k).1, .int .u16 (D.image k).2]) (fun x => OwnB x (D.image k).1 :: BayR b D :: R) := by
  refine DoesA (A := fun _ => True) ?_ (fun x _ w hw => hw.ownNone (.head _))
  (refine Does.enter Tryz.func36 Tryz.ntmps36 rfl rfl ?_)
  refine VC.obtain (fun w => BayR.open) ?_
  rintro ⟨⟨a, sp⟩, h1, h2⟩
  dsimp only at h1 h2 ⊢
  (refine w ?_; repeat ((first | refine VO.step rfl rfl ?_ | refine VD.end rfl rfl rfl ?_ | refine VD.mid rfl rfl rfl ?_); refine OpV.box rfl rfl rfl ?_; intro _; refine w ?_))
  (((first | refine VO.step rfl rfl ?_ | refine VD.end rfl rfl rfl ?_ | refine VD.mid rfl rfl rfl ?_); refine OpV.call rfl rfl (fun _ _ => by simp) (baythere_ok (D := D) (a := a) (sp := sp) b k h2) Ent.re rfl ?_); intro _ _)
  unfold BayD.image
  rw [inP_D h1, show D.slots.length = sp.length by rw [h1, List.length_map]]
  cases hp : inP sp k with
  | none =>
    dsimp only [devPtr, Option.map_none, Option.isSome_none]
    (refine w ?_; repeat ((first | refine VO.step rfl rfl ?_ | refine VD.end rfl rfl rfl ?_ | refine VD.mid rfl rfl rfl ?_); refine OpV.box rfl rfl rfl ?_; intro _; refine w ?_))
    have he : thereE sp.length false k ≠ 0 := by unfold thereE; split <;> simp
    (refine VC.condTe rfl rfl (by simpa using he) ?_)
    (refine w ?_; repeat ((first | refine VO.step rfl rfl ?_ | refine VD.end rfl rfl rfl ?_ | refine VD.mid rfl rfl rfl ?_); refine OpV.box rfl rfl rfl ?_; intro _; refine w ?_))
    refine VE.done (none, 0) rfl trivial rfl fun w hw => (BayR.shut h1 h2 w hw).ownNil 5 1
  | some p =>
    obtain ⟨l1, s, l2, rfl, rfl, hs⟩ := inP_split hp
    dsimp only [devPtr, Option.map_some, Option.isSome_some]
    have he : thereE (l1 ++ s :: l2).length true (l1.length : Int) = 0 := by unfold thereE inRange; rw [if_pos (by simp; omega)]; rfl
    rw [he]
    (refine w ?_; repeat ((first | refine VO.step rfl rfl ?_ | refine VD.end rfl rfl rfl ?_ | refine VD.mid rfl rfl rfl ?_); refine OpV.box rfl rfl rfl ?_; intro _; refine w ?_))
    refine VO.ent (bayOutP hs) ?_
    (refine w ?_; repeat ((first | refine VO.step rfl rfl ?_ | refine VD.end rfl rfl rfl ?_ | refine VD.mid rfl rfl rfl ?_); refine OpV.box rfl rfl rfl ?_; intro _; refine w ?_))
    ((first | refine VO.step rfl rfl ?_ | refine VD.end rfl rfl rfl ?_ | refine VD.mid rfl rfl rfl ?_); refine OpV.call rfl rfl (fun _ _ => by simp) (dimg_ok p.d p.v.k) Ent.re rfl ?_)
    intro x _
    (refine w ?_; repeat ((first | refine VO.step rfl rfl ?_ | refine VD.end rfl rfl rfl ?_ | refine VD.mid rfl rfl rfl ?_); refine OpV.box rfl rfl rfl ?_; intro _; refine w ?_))
    refine VE.done x rfl trivial rfl ?_
    refine Ent.trans Ent.re (bayInC (D := D) (p := p) _ hs p.v ?_ h2)
    rw [h1]; simp [SlotP.D, hs]
end Go.Proofs.YtlojjlbngnaphaaGreat

/-! Text Bk, more of it. -/
set_option maxRecDepth 8000
set_option linter.unusedVariables false
set_option linter.unusedSimpArgs false
set_option linter.unusedSectionVars false
namespace Go.Proofs.YtlojjlbngnaphaaGreat
open Go.RowKit Go.Sl
attribute [local irreducible] Sl.Own

/-- The lists, the first of them with what has grown out of them. -/
def twin (j : Nat) (e : ListE) (g : Option Addr × Nat) (m : Nat) : SProp := TwinR 5 1 e.ao e.cap e.xs.length e.xs g.1 g.2 (e.xs.length + m) (e.xs ++ marks2 j m)
end Go.Proofs.YtlojjlbngnaphaaGreat

/-! Text Ud, more of it. -/
set_option maxRecDepth 8000
set_option linter.unusedVariables false
set_option linter.unusedSimpArgs false
set_option linter.unusedSectionVars false
namespace Go.Proofs.YtlojjlbngnaphaaGreat
open Go.RowKit Go.Sl
attribute [local irreducible] Own

theorem walsure_ok {W : World} {R : List SProp} (wp b : Nat) (v : WalD) : Does1 W Tryz.prog 31 [.pointer (some ⟨wp, 0, none⟩)] (WalR wp b v :: R) (.bool v.sure) (WalR wp b v :: R) := by
  refine DoesO (fun w hw => WalR.open hw) fun x => ?_
  (refine Does.enter Tryz.func31 Tryz.ntmps31 rfl rfl ?_)
  (refine w ?_; repeat ((first | refine VO.step rfl rfl ?_ | refine VD.end rfl rfl rfl ?_ | refine VD.mid rfl rfl rfl ?_); refine OpV.box rfl rfl rfl ?_; intro _; refine w ?_))
  exact VE.done1 rfl rfl (Ent.trans (Ent.re (L := WalO wp b x.1 x.2 v R)) (WalR.shut x.1 x.2))
end Go.Proofs.YtlojjlbngnaphaaGreat

/-! Text Uq. -/
/- The journal's laws: a life: what was done: walked. -/
set_option maxRecDepth 8000
set_option linter.unusedVariables false
set_option linter.unusedSimpArgs false
set_option linter.unusedSectionVars false
namespace Go.Proofs.YtlojjlbngnaphaaGreat
open Go.RowKit Go.Sl
attribute [local irreducible] Own

structure LifeE where
  sealed : List PlsE
  sure : Nat
  logged : PlsE
abbrev nilPl : PlsE := ⟨none, 0, []⟩
abbrev OpE.pl (o : OpE) : PlsE := ⟨o.x.1, o.x.2, o.pats⟩
def LifeE.does (L : LifeE) (o : OpE) : LifeE :=
  if o.kind = 1 then ⟨L.sealed, L.sealed.length, o.pl⟩ else if o.kind = 2 then ⟨L.sealed ++ [L.logged], L.sure, nilPl⟩ else
  if o.kind = 3 then ⟨L.sealed, L.sealed.length, L.logged⟩ else if o.kind = 4 ∨ o.kind = 5 then ⟨[], 0, nilPl⟩ else L
end Go.Proofs.YtlojjlbngnaphaaGreat

/-! Text Ur. -/
/- The journal's laws: are these the first of those: walked. -/
set_option maxRecDepth 8000
set_option linter.unusedVariables false
set_option linter.unusedSimpArgs false
set_option linter.unusedSectionVars false
namespace Go.Proofs.YtlojjlbngnaphaaGreat
open Go.RowKit Go.Sl
attribute [local irreducible] Own

end Go.Proofs.YtlojjlbngnaphaaGreat

/-! Text Us. -/
/- The journal's laws: may these have been found: walked. -/
set_option maxRecDepth 8000
set_option linter.unusedVariables false
set_option linter.unusedSimpArgs false
set_option linter.unusedSectionVars false
namespace Go.Proofs.YtlojjlbngnaphaaGreat
open Go.RowKit Go.Sl
attribute [local irreducible] Own

end Go.Proofs.YtlojjlbngnaphaaGreat

/-! Text Ut. -/
/- The journal's laws: Sync and Reclaim with the power on; a life in memory and a life; what a cut leaves: plainly. -/
set_option maxRecDepth 8000
set_option linter.unusedVariables false
set_option linter.unusedSimpArgs false
set_option linter.unusedSectionVars false
namespace Go.Proofs.YtlojjlbngnaphaaGreat
open Go.RowKit Go.Sl
attribute [local irreducible] Own

section
variable {v : WalD} {k : DiskD} {base : Nat} {x : LifeD} {D : BayD} {s : Nat}
end
abbrev PlsE.T (q : PlsE) : List PatD := q.pats.map PatE.D
/-- A life in memory is this one. -/
structure Cor (W : World) (L : LifeE) (x : LifeD) : Prop where
  sealed : x.sealed = L.sealed.map PlsE.T
  sure : x.sure = L.sure
  logged : ∀ l, x.logged = some l → L.logged.T = l
  rd : ∀ q ∈ L.sealed, ∀ R, RdPats W R q.ao q.pats
  rdl : ∀ R, RdPats W R L.logged.ao L.logged.pats
theorem rdPats_nil {W : World} {R : List SProp} : RdPats W R none [] := by
  refine ⟨?_, fun p hp => (by cases hp), fun p hp => (by cases hp)⟩
  exact ⟨rfl, fun _ h => (by cases h), fun _ => rfl, fun _ _ _ h => (by cases h)⟩
theorem Cor.start (W : World) : Cor W ⟨[], 0, nilPl⟩ ⟨[], 0, none⟩ := ⟨rfl, rfl, fun l h => (by cases h), fun q h => (by cases h), fun R => rdPats_nil⟩
theorem Cor.does {W : World} {L : LifeE} {x : LifeD} (h : Cor W L x) {o : OpE} (ho : o.wf W) (h2 : o.kind = 2 → ∃ l, x.logged = some l) : Cor W (L.does o) (x.does o.kind.toNat (o.pats.map PatE.D)) := by
  have hlen : x.sealed.length = L.sealed.length := by rw [h.sealed, List.length_map]
  unfold LifeE.does
  by_cases k1 : o.kind = 1
  · rw [if_pos k1, k1]
    exact ⟨h.sealed, hlen, fun l hl => Option.some.inj hl, h.rd, ho.rd⟩
  by_cases k2 : o.kind = 2
  · rw [if_neg k1, if_pos k2]
    obtain ⟨l, hl⟩ := h2 k2
    rw [k2]
    refine ⟨?_, h.sure, fun l hl => (by cases hl), fun q hq => ?_, fun R => rdPats_nil⟩
    · show x.sealed ++ [x.logged.getD []] = (L.sealed ++ [L.logged]).map PlsE.T
      rw [h.sealed, hl, List.map_append, ← h.logged l hl]; rfl
    · rcases List.mem_append.1 hq with q1 | q1
      · exact h.rd q q1
      · rw [List.mem_singleton] at q1; subst q1; exact h.rdl
  by_cases k3 : o.kind = 3
  · rw [if_neg k1, if_neg k2, if_pos k3, k3]
    exact ⟨h.sealed, hlen, h.logged, h.rd, h.rdl⟩
  by_cases k45 : o.kind = 4 ∨ o.kind = 5
  · rw [if_neg k1, if_neg k2, if_neg k3, if_pos k45]
    have e : x.does o.kind.toNat (o.pats.map PatE.D) = ⟨[], 0, none⟩ := by rcases k45 with q | q <;> rw [q] <;> rfl
    rw [e]
    exact Cor.start W
  · rw [if_neg k1, if_neg k2, if_neg k3, if_neg k45]
    have e : x.does o.kind.toNat (o.pats.map PatE.D) = x := by
      unfold LifeD.does; split <;> first | rfl | (exfalso; omega)
    rw [e]; exact h
theorem seal_some {v : WalD} {k : DiskD} {base : Nat} {x : LifeD} {D : BayD} (h : LiveX v k base x) (h0 : (wSeal (v, D)).1 = 0) : ∃ l, x.logged = some l := by
  cases hl : x.logged with
  | some l => exact ⟨l, rfl⟩
  | none => rw [seal_none h.nob (h.nolg hl)] at h0; cases h0
end Go.Proofs.YtlojjlbngnaphaaGreat

/-! Text Uu. -/
/- The law WalForgets. -/
set_option maxRecDepth 8000
set_option linter.unusedVariables false
set_option linter.unusedSimpArgs false
set_option linter.unusedSectionVars false
namespace Go.Proofs.YtlojjlbngnaphaaGreat
open Go.RowKit Go.Sl
attribute [local irreducible] Own

/-- Calls that leave the checkpoint where it is, so many of them. -/
structure FInv (n c N base j : Nat) (v : WalD) (D : BayD) (x : LifeD) : Prop where
  slot : v.slot = 0
  size : v.size = n
  next : v.next ≤ 1 + N + j
  epoch : v.epoch ≤ 10 + N + j
  cap : D.capd (c + 4100 * j)
  calm : D.trip = -1
  pos : 1 ≤ base
  live : ∃ k, Pw D 0 k ∧ LiveX v k base x
  len : x.sealed.length ≤ j
theorem FInv.wok {n c N base j : Nat} {v : WalD} {D : BayD} {x : LifeD} (h : FInv n c N base j v D x) (hN : N ≤ 20000) (hj : j ≤ 20000) : v.ok := by
  obtain ⟨k, h1, h2⟩ := h.live
  have := h.next; have := h.epoch
  exact h2.wok (by omega) (by omega) h.pos
theorem FInv.step {n c N base j : Nat} {v : WalD} {D : BayD} {x : LifeD} (h : FInv n c N base j v D x) (hN : N ≤ 20000) (hj : j ≤ 20000) (kind : Nat) (hk : kind < 4) (ps : List PatD) :
    ((wDo (v, D) kind ps).1 = 0 → FInv n c N base (j + 1) (wDo (v, D) kind ps).2.1 (wDo (v, D) kind ps).2.2 (x.does kind ps)) ∧
    ((wDo (v, D) kind ps).1 ≠ 0 → FInv n c N base (j + 1) (wDo (v, D) kind ps).2.1 (wDo (v, D) kind ps).2.2 x) ∧
    (kind = 2 → (wDo (v, D) kind ps).1 = 0 → ∃ l, x.logged = some l) := by
  obtain ⟨k, h1, h2⟩ := h.live
  have hnx := h2.next
  have hn := h.next; have he := h.epoch; have hb1 := h.pos; have hlx := h.len
  have hcp := wDo_capd (v := v) h.cap kind ps
  have hs := step_ok h1 h.slot h2 kind ps ⟨by omega, by omega, by omega⟩
  have h3 : kind = 2 → (wDo (v, D) kind ps).1 = 0 → ∃ l, x.logged = some l := by
    rintro rfl h0; exact seal_some h2 h0
  generalize wDo (v, D) kind ps = r at hs hcp h3
  cases hs with
  | good k' base' hg hp hl hf hb hb2 =>
    dsimp only at hcp h3 ⊢
    refine ⟨fun _ => ⟨hg.slot.trans h.slot, hg.size.trans h.size, by rw [hg.next]; split <;> omega, by have := hg.epoch; omega, hcp.mono (by omega), hf.calm h.calm, h.pos, ⟨k', hp, by rw [hb hk] at hl; exact hl⟩, ?_⟩, fun q => absurd rfl q, h3⟩
    unfold LifeD.does
    split
    · show x.sealed.length ≤ _; omega
    · show (x.sealed ++ [x.logged.getD []]).length ≤ _; rw [List.length_append, List.length_singleton]; omega
    · show x.sealed.length ≤ _; omega
    · exact Nat.zero_le _
    · exact Nat.zero_le _
    · omega
  | no e h0 h5 =>
    dsimp only at hcp ⊢
    exact ⟨fun q => absurd q h0, fun _ => ⟨h.slot, h.size, by omega, by omega, h.cap.mono (by omega), h.calm, h.pos, ⟨k, h1, h2⟩, by omega⟩, fun _ q => absurd q h0⟩
  | dark k' ht hd hl => exact absurd h.calm ht
end Go.Proofs.YtlojjlbngnaphaaGreat

/-! Text Uw. -/
/- The journal's laws: much, of a script that lies in memory of one's own; WalUnsealed, plainly. -/
set_option maxRecDepth 8000
set_option linter.unusedVariables false
set_option linter.unusedSimpArgs false
set_option linter.unusedSectionVars false
namespace Go.Proofs.YtlojjlbngnaphaaGreat
open Go.RowKit Go.Sl
attribute [local irreducible] Own

/-- A life over all kinds of calls, the power being on. -/
structure UInv (n c j : Nat) (v : WalD) (D : BayD) (x : LifeD) : Prop where
  slot : v.slot = 0
  size : v.size = n
  next : v.next ≤ 1 + j
  epoch : v.epoch ≤ 10 + j
  cap : D.capd (c + 4100 * j)
  calm : D.trip = -1
  live : ∃ k base, 1 ≤ base ∧ Pw D 0 k ∧ LiveX v k base x
  len : x.sealed.length ≤ j
theorem UInv.wok {n c j : Nat} {v : WalD} {D : BayD} {x : LifeD} (h : UInv n c j v D x) (hj : j ≤ 20000) : v.ok := by
  obtain ⟨k, base, h3, h1, h2⟩ := h.live
  have := h.next; have := h.epoch
  exact h2.wok (by omega) (by omega) h3
theorem UInv.step {n c j : Nat} {v : WalD} {D : BayD} {x : LifeD} (h : UInv n c j v D x) (hj : j ≤ 20000) (kind : Nat) (ps : List PatD) :
    ((wDo (v, D) kind ps).1 = 0 → UInv n c (j + 1) (wDo (v, D) kind ps).2.1 (wDo (v, D) kind ps).2.2 (x.does kind ps)) ∧
    ((wDo (v, D) kind ps).1 ≠ 0 → UInv n c (j + 1) (wDo (v, D) kind ps).2.1 (wDo (v, D) kind ps).2.2 x ∧ (wDo (v, D) kind ps).2.1 = v) ∧
    (kind = 2 → (wDo (v, D) kind ps).1 = 0 → ∃ l, x.logged = some l) := by
  obtain ⟨k, base, h3, h1, h2⟩ := h.live
  have hnx := h2.next
  have hn := h.next; have he := h.epoch; have hlx := h.len
  have hcp := wDo_capd (v := v) h.cap kind ps
  have hs := step_ok h1 h.slot h2 kind ps ⟨by omega, by omega, by omega⟩
  have h4 : kind = 2 → (wDo (v, D) kind ps).1 = 0 → ∃ l, x.logged = some l := by
    rintro rfl h0; exact seal_some h2 h0
  generalize wDo (v, D) kind ps = r at hs hcp h4
  cases hs with
  | good k' base' hg hp hl hf hb hb2 =>
    dsimp only at hcp h4 ⊢
    have hb1 : 1 ≤ base' := by
      by_cases q : kind < 4
      · rw [hb q]; exact h3
      · by_cases q2 : kind ≤ 5
        · rw [hb2 (by omega) q2]; omega
        · have hl1 := hl.next
          rw [hg.next, if_neg (by omega)] at hl1
          have : x.does kind ps = x := by
            unfold LifeD.does; split <;> first | rfl | (exfalso; omega)
          rw [this] at hl1
          omega
    refine ⟨fun _ => ⟨hg.slot.trans h.slot, hg.size.trans h.size, by rw [hg.next]; split <;> omega, by have := hg.epoch; omega, hcp.mono (by omega), hf.calm h.calm, ⟨k', base', hb1, hp, hl⟩, ?_⟩, fun q => absurd rfl q, h4⟩
    unfold LifeD.does
    split
    · show x.sealed.length ≤ _; omega
    · show (x.sealed ++ [x.logged.getD []]).length ≤ _; rw [List.length_append, List.length_singleton]; omega
    · show x.sealed.length ≤ _; omega
    · exact Nat.zero_le _
    · exact Nat.zero_le _
    · omega
  | no e h0 h5 =>
    dsimp only at hcp ⊢
    exact ⟨fun q => absurd q h0, fun _ => ⟨⟨h.slot, h.size, by omega, by omega, h.cap.mono (by omega), h.calm, ⟨k, base, h3, h1, h2⟩, by omega⟩, rfl⟩, fun _ q => absurd q h0⟩
  | dark k' ht hd hl => exact absurd h.calm ht
end Go.Proofs.YtlojjlbngnaphaaGreat

/-! Text Ux. -/
/- The law WalUnsealed: walked. -/
set_option maxRecDepth 8000
set_option linter.unusedVariables false
set_option linter.unusedSimpArgs false
set_option linter.unusedSectionVars false
namespace Go.Proofs.YtlojjlbngnaphaaGreat
open Go.RowKit Go.Sl
attribute [local irreducible] Own

end Go.Proofs.YtlojjlbngnaphaaGreat

/-! Text Uo. -/
/- The journal's laws: how many operations a call does: plainly. -/
set_option maxRecDepth 8000
set_option linter.unusedVariables false
set_option linter.unusedSimpArgs false
set_option linter.unusedSectionVars false
namespace Go.Proofs.YtlojjlbngnaphaaGreat
open Go.RowKit Go.Sl
attribute [local irreducible] Own

structure CntD.sm (c : CntD) (m : Nat) : Prop where
  r : 0 ≤ c.r ∧ c.r ≤ m
  w : 0 ≤ c.w ∧ c.w ≤ m
  f : 0 ≤ c.f ∧ c.f ≤ m
theorem CntD.sm.mono {c : CntD} {m m' : Nat} (h : c.sm m) (hm : m ≤ m') : c.sm m' := ⟨by have := h.r; omega, by have := h.w; omega, by have := h.f; omega⟩
theorem incs (c : CntD) (m a b : Nat) (h : c.sm m) (hm : m + a + b ≤ 1000000000) : (List.replicate a 1 ++ List.replicate b 2).foldl CntD.inc c = ⟨c.r, c.w + a, c.f + b⟩ := by
  obtain ⟨h1, h2, h3⟩ := h
  have hw : ∀ (a : Nat) (c : CntD), 0 ≤ c.w → c.w + a ≤ 1000000000 → (List.replicate a 1).foldl CntD.inc c = ⟨c.r, c.w + a, c.f⟩ := by
    intro a
    induction a with
    | zero => intro c _ _; simp
    | succ a ih =>
      intro c q1 q2
      rw [List.replicate_succ, List.foldl_cons]
      have e : c.inc 1 = ⟨c.r, c.w + 1, c.f⟩ := by
        show CntD.mk c.r (IntKind.i64.wrap (c.w + 1)) c.f = _
        rw [IntWalk.i64_in _ ⟨by omega, by omega⟩]
      rw [e, ih _ (by show 0 ≤ c.w + 1; omega) (by show c.w + 1 + a ≤ _; omega)]
      show CntD.mk c.r (c.w + 1 + a) c.f = _
      congr 1; omega
  have hf : ∀ (a : Nat) (c : CntD), 0 ≤ c.f → c.f + a ≤ 1000000000 → (List.replicate a 2).foldl CntD.inc c = ⟨c.r, c.w, c.f + a⟩ := by
    intro a
    induction a with
    | zero => intro c _ _; simp
    | succ a ih =>
      intro c q1 q2
      rw [List.replicate_succ, List.foldl_cons]
      have e : c.inc 2 = ⟨c.r, c.w, c.f + 1⟩ := by
        show CntD.mk c.r c.w (IntKind.i64.wrap (c.f + 1)) = _
        rw [IntWalk.i64_in _ ⟨by omega, by omega⟩]
      rw [e, ih _ (by show 0 ≤ c.f + 1; omega) (by show c.f + 1 + a ≤ _; omega)]
      show CntD.mk c.r c.w (c.f + 1 + a) = _
      congr 1; omega
  rw [List.foldl_append, hw a c h2.1 (by omega)]
  exact hf b ⟨c.r, c.w + a, c.f⟩ h3.1 (by show c.f + b ≤ _; omega)
/-- Writes and flushes of a call that is done. -/
def wOf (kind : Nat) (len : Nat) : Nat := match kind with
  | 1 => 2 * len
  | 2 => 1
  | 4 => 1
  | 5 => 1
  | _ => 0
def fOf (kind : Nat) (sure : Bool) : Nat := match kind with
  | 1 => 1
  | 3 => if sure then 0 else 1
  | 4 => 1
  | 5 => 1
  | _ => 0
theorem ops_are (v : WalD) (kind : Nat) (ps : List PatD) : opsOf v kind ps = List.replicate (wOf kind ps.length) 1 ++ List.replicate (fOf kind v.sure) 2 := by
  unfold opsOf wOf fOf
  split
  · rfl
  · rfl
  · split <;> rfl
  · rfl
  · rfl
  · rename_i h1 h2 h3 h4 h5
    split
    · exact absurd rfl h1
    · exact absurd rfl h2
    · exact absurd rfl h4
    · exact absurd rfl h5
    · split
      · exact absurd rfl h1
      · exact absurd rfl h3
      · exact absurd rfl h4
      · exact absurd rfl h5
      · rfl
/-- So many calls behind the beginning: the counts too. -/
structure CInv (n c i : Nat) (v : WalD) (D : BayD) : Prop where
  inv : LInv n c i v D
  sm : D.n.sm (3000 * (i + 1))
theorem CInv.step {n c i : Nat} {v : WalD} {D : BayD} (h : CInv n c i v D) (hi : i ≤ 20000) (kind : Nat) (ps : List PatD) :
    CInv n c (i + 1) (wDo (v, D) kind ps).2.1 (wDo (v, D) kind ps).2.2 ∧
    (wDo (v, D) kind ps).2.2.n = (if (wDo (v, D) kind ps).1 = 0 then ⟨D.n.r, D.n.w + wOf kind ps.length, D.n.f + fOf kind v.sure⟩ else D.n) ∧
    (kind = 1 → (wDo (v, D) kind ps).1 = 0 → 1 ≤ ps.length ∧ ps.length ≤ 1023) := by
  have hs1 := (h.inv.step hi kind ps).1
  have hlen : kind = 1 → (wDo (v, D) kind ps).1 = 0 → 1 ≤ ps.length ∧ ps.length ≤ 1023 := by
    rintro rfl h0
    obtain ⟨k, base, x, h1, h2, h3⟩ := h.inv.live
    by_cases hn : logNo v ps
    · obtain ⟨e, q0, q5, he⟩ := log_refused (D := D) h2.nob hn
      rw [show wDo (v, D) 1 ps = wLog (v, D) ps from rfl, he] at h0
      exact absurd h0 q0
    · have := (log_fine hn).1; exact ⟨this.n1, this.n2⟩
  have hcnt : (wDo (v, D) kind ps).2.2.n = (if (wDo (v, D) kind ps).1 = 0 then ⟨D.n.r, D.n.w + wOf kind ps.length, D.n.f + fOf kind v.sure⟩ else D.n) := by
    obtain ⟨k, base, x, h1, h2, h3⟩ := h.inv.live
    have hn := h.inv.next; have he := h.inv.epoch
    have hnx := h2.next
    have hs := step_ok h1 h.inv.slot h2 kind ps ⟨by omega, by omega, by omega⟩
    generalize wDo (v, D) kind ps = r at hs hlen ⊢
    cases hs with
    | good k' base' hg hp hl hf hb hb2 =>
      dsimp only at hlen ⊢
      rw [if_pos rfl, hf.cnt, ops_are]
      have hw : wOf kind ps.length ≤ 2046 := by
        unfold wOf; split
        · have := hlen rfl rfl; omega
        · omega
        · omega
        · omega
        · omega
      have hff : fOf kind v.sure ≤ 1 := by
        unfold fOf; split
        · omega
        · split <;> omega
        · omega
        · omega
        · omega
      exact incs _ _ _ _ h.sm (by omega)
    | no e h0 h5 => dsimp only; rw [if_neg h0]
    | dark k' ht hd hl => exact absurd h.inv.calm ht
  refine ⟨⟨hs1, ?_⟩, hcnt, hlen⟩
  rw [hcnt]
  have hq := h.sm
  split
  · rename_i h0
    have hw : wOf kind ps.length ≤ 2046 := by
      unfold wOf; split
      · have := hlen rfl h0; omega
      · omega
      · omega
      · omega
      · omega
    have hff : fOf kind v.sure ≤ 1 := by
      unfold fOf; split
      · omega
      · split <;> omega
      · omega
      · omega
      · omega
    obtain ⟨a, b, c⟩ := hq
    exact ⟨by dsimp only; omega, by dsimp only; omega, by dsimp only; omega⟩
  · exact hq.mono (by omega)
end Go.Proofs.YtlojjlbngnaphaaGreat

/-! Text Tc. -/
/- The law WalRefuses, plainly: what a Log is refused for; noughts as patches; two disks alike. -/
set_option maxRecDepth 8000
set_option linter.unusedVariables false
set_option linter.unusedSimpArgs false
set_option linter.unusedSectionVars false
namespace Go.Proofs.YtlojjlbngnaphaaGreat
open Go.RowKit Go.Sl
attribute [local irreducible] Own

theorem CInv.nob {n c i : Nat} {v : WalD} {D : BayD} (h : CInv n c i v D) : v.broken = 0 := by
  obtain ⟨k, base, x, h1, h2, h3⟩ := h.inv.live
  exact h2.nob
/-- An image of a disk that is there, behind a cut. -/
theorem img_cut {D : BayD} {k : DiskD} (h : D.slots[0]? = some ⟨some ⟨k, false, 0⟩, none, none⟩) (hf : k.failed = false) : ((D.cut []).image 0).2 = 0 ∧ ((D.cut []).image 0).1 = ((k.settle (keepOf [])).last).flatten := by
  obtain ⟨hp, ht⟩ := cut_pw h hf []
  have hd := slot_dev hp.slot
  unfold BayD.image
  rw [show (0 : Int) = ((0 : Nat) : Int) from rfl, hd]
  refine ⟨rfl, ?_⟩
  show DiskD.img (k.settle (keepOf [])) = _
  unfold DiskD.img
  have hl : (k.settle (keepOf [])).failed = false := hp.live
  rw [if_neg (by rw [hl]; simp)]
theorem nilKeeps {W : World} {R : List SProp} : Keeps W R none [] := ⟨⟨rfl, fun u hu => (by cases hu), fun _ => rfl, fun w hw a ha => (by cases ha)⟩, fun x hx => (by cases hx)⟩
end Go.Proofs.YtlojjlbngnaphaaGreat

/-! Text Te. -/
/- The law WalSlots, plainly: two journals of one bay, and one of another bay. -/
set_option maxRecDepth 8000
set_option linter.unusedVariables false
set_option linter.unusedSimpArgs false
set_option linter.unusedSectionVars false
namespace Go.Proofs.YtlojjlbngnaphaaGreat
open Go.RowKit Go.Sl
attribute [local irreducible] Own

/-- The power stays on: what a call makes of journal and disk hangs on these two alone. -/
structure Alike (v : WalD) (s : Nat) (k : DiskD) (base : Nat) (x : LifeD) (kind : Nat) (ps : List PatD) (D D' : BayD) (r r' : Int × WS) : Prop where
  code : r.1 = r'.1
  wal : r.2.1 = r'.2.1
  good : ∃ k' base' x', Pw r.2.2 s k' ∧ Pw r'.2.2 s k' ∧ LiveX r.2.1 k' base' x' ∧ 1 ≤ base'
  calm : r.2.2.trip = -1
  calm' : r'.2.2.trip = -1
  oth : ∀ j, j ≠ s → r.2.2.slots[j]? = D.slots[j]?
  slot : r.2.1.slot = v.slot
  size : r.2.1.size = v.size
  next : r.2.1.next ≤ v.next + 1
  epoch : r.2.1.epoch ≤ v.epoch + 1
section
variable {v : WalD} {s : Nat} {k : DiskD} {base : Nat} {x : LifeD} {D D' : BayD}
theorem Alike.same (hp : Pw D s k) (hp' : Pw D' s k) (h : LiveX v k base x) (h1 : 1 ≤ base) (ht : D.trip = -1) (ht' : D'.trip = -1) (kind : Nat) (ps : List PatD) (e : Int) : Alike v s k base x kind ps D D' (e, (v, D)) (e, (v, D')) :=
  ⟨rfl, rfl, ⟨k, base, x, hp, hp', h, h1⟩, ht, ht', fun _ _ => rfl, rfl, rfl, Nat.le_succ _, Nat.le_succ _⟩
theorem wDo_alike (hp : Pw D s k) (hp' : Pw D' s k) (hv : v.slot = (s : Int)) (h : LiveX v k base x) (h1 : 1 ≤ base) (ht : D.trip = -1) (ht' : D'.trip = -1) (kind : Nat) (ps : List PatD) (hc : cntOk (v.epoch + 1) v.next) :
    Alike v s k base x kind ps D D' (wDo (v, D) kind ps) (wDo (v, D') kind ps) := by
  have hb := h.nob
  have hsz := h.size
  have hkl := h.len
  have hcst := h.all.lays.cost
  have hu := h.used
  have hnx := h.next
  have hhd : v.head ≤ 2047 := by have := Nat.mod_lt (v.tail + v.used) (show 0 < v.size by omega); unfold WalD.head; omega
  have hct : ∀ e, e ≤ v.epoch + 1 → cntOk e v.next := fun e he => ⟨Nat.le_trans he hc.1, hc.2⟩
  have hE : ∀ e, e ≤ v.epoch + 1 → Alike v s k base x kind ps D D' (wEmpty (v, D) e) (wEmpty (v, D') e) := by
    intro e he
    cases hs : v.sure with
    | false => rw [empty_unsure hb hs, empty_unsure hb hs]; exact .same hp hp' h h1 ht ht' kind ps 1
    | true =>
      rcases p_empty (e := e) hp hv hb hs ⟨hct e he, by simp only; omega, by simp only; omega⟩ (by omega) with ⟨E, e1, e2, e3⟩ | ⟨h0, _⟩
      · rcases p_empty (e := e) hp' hv hb hs ⟨hct e he, by simp only; omega, by simp only; omega⟩ (by omega) with ⟨E', f1, f2, f3⟩ | ⟨h0, _⟩
        · rw [e1, f1]
          exact ⟨rfl, rfl, ⟨_, v.next, _, e2, f2, live_empty h hs (hct e he), by omega⟩, e3.calm ht, f3.calm ht', e3.oth, rfl, rfl, Nat.le_succ _, he⟩
        · exact absurd ht' h0
      · exact absurd ht h0
  unfold wDo
  split
  · by_cases hn : logNo v ps
    · have key : ∃ e, wLog (v, D) ps = (e, (v, D)) ∧ wLog (v, D') ps = (e, (v, D')) := by
        unfold logNo at hn
        unfold wLog
        dsimp only
        have hbb : ¬ (v.broken ≠ 0) := by rw [hb]; simp
        simp only [if_neg hbb]
        by_cases c1 : (secsM v.epoch v.next ps).1 ≠ 0
        · simp only [if_pos c1]; exact ⟨_, rfl, rfl⟩
        · simp only [if_neg c1]
          by_cases c2 : v.size < (secsM v.epoch v.next ps).2.length
          · simp only [if_pos c2]; exact ⟨_, rfl, rfl⟩
          · simp only [if_neg c2]
            by_cases c3 : v.size - v.used < (secsM v.epoch v.next ps).2.length
            · simp only [if_pos c3]; exact ⟨_, rfl, rfl⟩
            · exfalso
              have hl : (secsM v.epoch v.next ps).2.length = 2 * ps.length + 1 := by
                have c1 : (secsM v.epoch v.next ps).1 = 0 := by simpa using c1
                unfold secsM at c1 ⊢
                split at c1
                · cases c1
                · rename_i g1
                  rw [if_neg g1]
                  split at c1
                  · cases c1
                  · rename_i g2
                    rw [if_neg g2]
                    split at c1
                    · cases c1
                    · rename_i g3
                      rw [if_neg g3, List.length_append, pairsP_length]; rfl
              rcases hn with q | q | q
              · exact c1 q
              · omega
              · omega
      obtain ⟨e, q1, q2⟩ := key
      rw [q1, q2]
      exact .same hp hp' h h1 ht ht' 1 ps e
    · obtain ⟨hf, hr⟩ := log_fine hn
      rcases p_log hp hv hb hf hr hkl with ⟨E, e1, e2, e3⟩ | ⟨h0, _⟩
      · rcases p_log hp' hv hb hf hr hkl with ⟨E', f1, f2, f3⟩ | ⟨h0, _⟩
        · rw [e1, f1]
          exact ⟨rfl, rfl, ⟨_, base, _, e2, f2, live_log h hf hr, h1⟩, e3.calm ht, f3.calm ht', e3.oth, rfl, rfl, Nat.le_succ _, Nat.le_succ _⟩
        · exact absurd ht' h0
      · exact absurd ht h0
  · cases hl : x.logged with
    | none => rw [seal_none hb (h.nolg hl), seal_none hb (h.nolg hl)]; exact .same hp hp' h h1 ht ht' 2 ps 1
    | some l =>
      obtain ⟨g1, g2, g3, g4, g5⟩ := h.lgs l hl
      rcases p_seal hp hv hb g2 (by omega) (by show v.used + (2 * l.length + 1) ≤ _; omega) (cmtP_length g3) hkl with ⟨E, e1, e2, e3⟩ | ⟨h0, _⟩
      · rcases p_seal hp' hv hb g2 (by omega) (by show v.used + (2 * l.length + 1) ≤ _; omega) (cmtP_length g3) hkl with ⟨E', f1, f2, f3⟩ | ⟨h0, _⟩
        · rw [e1, f1]
          exact ⟨rfl, rfl, ⟨_, base, _, e2, f2, live_seal h hl, h1⟩, e3.calm ht, f3.calm ht', e3.oth, rfl, rfl, Nat.le_refl _, Nat.le_succ _⟩
        · exact absurd ht' h0
      · exact absurd ht h0
  · cases hs : v.sure with
    | true => rw [sync_sure hs, sync_sure hs]; exact .same hp hp' h h1 ht ht' 3 ps 0
    | false =>
      rcases p_sync hp hv hb hs with ⟨E, e1, e2, e3⟩ | ⟨h0, _⟩
      · rcases p_sync hp' hv hb hs with ⟨E', f1, f2, f3⟩ | ⟨h0, _⟩
        · rw [e1, f1]
          exact ⟨rfl, rfl, ⟨_, base, _, e2, f2, live_sync h hs, h1⟩, e3.calm ht, f3.calm ht', e3.oth, rfl, rfl, Nat.le_succ _, Nat.le_succ _⟩
        · exact absurd ht' h0
      · exact absurd ht h0
  · exact hE _ (Nat.le_succ _)
  · exact hE _ (Nat.le_refl _)
  · exact .same hp hp' h h1 ht ht' kind ps 0
end
/-- Two journals (v, u) in one bay, and v's twin in another. -/
structure SlotInv (n c j : Nat) (v u : WalD) (D E : BayD) : Prop where
  slot : v.slot = 0
  slotu : u.slot = 1
  size : v.size = n
  next : v.next ≤ 1 + j
  epoch : v.epoch ≤ 10 + j
  nextu : u.next ≤ 1 + j
  epochu : u.epoch ≤ 10 + j
  cap : D.capd (c + 8200 * j)
  cape : E.capd (c + 8200 * j)
  calm : D.trip = -1
  calme : E.trip = -1
  live : ∃ k base x, Pw D 0 k ∧ Pw E 0 k ∧ LiveX v k base x ∧ 1 ≤ base
  liveu : ∃ k base x, Pw D 1 k ∧ LiveX u k base x ∧ 1 ≤ base
theorem SlotInv.wok {n c j : Nat} {v u : WalD} {D E : BayD} (h : SlotInv n c j v u D E) (hj : j ≤ 20000) : v.ok ∧ u.ok := by
  obtain ⟨k, base, x, h1, h2, h3, h4⟩ := h.live
  obtain ⟨k', base', x', g1, g2, g3⟩ := h.liveu
  have := h.next; have := h.epoch; have := h.nextu; have := h.epochu
  exact ⟨h3.wok (by omega) (by omega) h4, g2.wok (by omega) (by omega) g3⟩
/-- A slot's disk, where another one's journal has done something. -/
theorem Pw.besides {D D' : BayD} {s s' : Nat} {k k' : DiskD} (h : Pw D s k) (hs : s ≠ s') (ho : ∀ j, j ≠ s' → D'.slots[j]? = D.slots[j]?) (h' : Pw D' s' k') : Pw D' s k := ⟨by rw [ho s hs]; exact h.slot, h'.lit, h.live, h'.trip⟩
/-- A call of the other one. -/
theorem SlotInv.other {n c j : Nat} {v u : WalD} {D E : BayD} (h : SlotInv n c j v u D E) (hj : j ≤ 20000) (kind : Nat) (ps : List PatD) :
    ((wDo (u, D) kind ps).2.2.capd (c + 8200 * j + 4100)) ∧ (wDo (u, D) kind ps).2.2.trip = -1 ∧ (∃ k base x, Pw (wDo (u, D) kind ps).2.2 0 k ∧ Pw E 0 k ∧ LiveX v k base x ∧ 1 ≤ base) ∧ (∃ k base x, Pw (wDo (u, D) kind ps).2.2 1 k ∧ LiveX (wDo (u, D) kind ps).2.1 k base x ∧ 1 ≤ base) ∧
    (wDo (u, D) kind ps).2.1.slot = 1 ∧ (wDo (u, D) kind ps).2.1.next ≤ 2 + j ∧ (wDo (u, D) kind ps).2.1.epoch ≤ 11 + j := by
  obtain ⟨k, base, x, h1, h2, h3, h4⟩ := h.live
  obtain ⟨k', base', x', g1, g2, g3⟩ := h.liveu
  have := h.nextu; have := h.epochu
  have hnx := g2.next
  have hA := wDo_alike (s := 1) g1 g1 h.slotu g2 g3 h.calm h.calm kind ps ⟨by omega, by omega, by omega⟩
  obtain ⟨k2, b2, x2, q1, q2, q3, q4⟩ := hA.good
  have := hA.next; have := hA.epoch
  exact ⟨wDo_capd h.cap kind ps, hA.calm, ⟨k, base, x, h1.besides (by decide) hA.oth q1, h2, h3, h4⟩, ⟨k2, b2, x2, q1, q3, q4⟩, hA.slot.trans h.slotu, by omega, by omega⟩
/-- A round: a call of the other one (or none), then the same call of both twins. -/
theorem SlotInv.round {n c j : Nat} {v u u2 : WalD} {D E D2 : BayD} (h : SlotInv n c j v u D E) (hj : j ≤ 20000)
    (hcap : D2.capd (c + 8200 * j + 4100)) (ht : D2.trip = -1) (hl : ∃ k base x, Pw D2 0 k ∧ Pw E 0 k ∧ LiveX v k base x ∧ 1 ≤ base) (hlu : ∃ k base x, Pw D2 1 k ∧ LiveX u2 k base x ∧ 1 ≤ base) (hsu : u2.slot = 1) (hnu : u2.next ≤ 2 + j) (heu : u2.epoch ≤ 11 + j) (kind : Nat) (ps : List PatD) :
    (wDo (v, D2) kind ps).1 = (wDo (v, E) kind ps).1 ∧ (wDo (v, D2) kind ps).2.1 = (wDo (v, E) kind ps).2.1 ∧ SlotInv n c (j + 1) (wDo (v, D2) kind ps).2.1 u2 (wDo (v, D2) kind ps).2.2 (wDo (v, E) kind ps).2.2 := by
  obtain ⟨k, base, x, h1, h2, h3, h4⟩ := hl
  obtain ⟨k', base', x', g1, g2, g3⟩ := hlu
  have := h.next; have := h.epoch
  have hnx := h3.next
  have hA := wDo_alike (s := 0) h1 h2 h.slot h3 h4 ht h.calme kind ps ⟨by omega, by omega, by omega⟩
  obtain ⟨k2, b2, x2, q1, q2, q3, q4⟩ := hA.good
  have := hA.next; have := hA.epoch
  exact ⟨hA.code, hA.wal, hA.slot.trans h.slot, hsu, hA.size.trans h.size, by omega, by omega, by omega, by omega, (wDo_capd hcap kind ps).mono (by omega), (wDo_capd h.cape kind ps).mono (by omega), hA.calm, hA.calm',
    ⟨k2, b2, x2, q1, q2, q3, q4⟩, ⟨k', base', x', g1.besides (by decide) hA.oth q1, g2, g3⟩⟩
/-- The beginning. -/
def slotBeg (n : Nat) : BayD := (wFormat (begD n) 1 (n : Int) 9).2
theorem slot_beg {n : Nat} (hn : 5 ≤ n ∧ n ≤ 2048) : (wFormat (begD n) 1 (n : Int) 9).1 = (some (fresh0 1 9 n), 0) ∧ SlotInv n (2 * (n + 2)) 0 (fresh0 0 1 n) (fresh0 1 9 n) (slotBeg n) (begD n) := by
  obtain ⟨e1, k', e2, e3, e4⟩ := beg_live hn
  have hnew : Pw (BayD.new [((2 + n : Nat) : Int), ((2 + n : Nat) : Int)]) 1 (DiskD.blank (2 + n)) := new_pw (l := [((2 + n : Nat) : Int), ((2 + n : Nat) : Int)]) (s := 1) (m := 2 + n) rfl (by omega)
  have hp1 : Pw (begD n) 1 (DiskD.blank (2 + n)) := hnew.besides (by decide) e4.oth e2
  obtain ⟨D', k2, f1, f2, f3, f4⟩ := fresh_live (s := 1) (n := n) (epoch := 9) hp1 hn (by omega) (by decide) (e4.calm rfl)
  have f0 : wFormat (begD n) 1 (n : Int) 9 = ((some (fresh0 1 9 n), 0), D') := f1
  have hcp := format_capd (n := n) (beg_capd n) 1 9
  rw [f0] at hcp
  unfold slotBeg
  rw [f0]
  exact ⟨rfl, rfl, rfl, rfl, by show 1 ≤ 1 + 0; omega, by show 1 ≤ 10 + 0; omega, by show 1 ≤ 1 + 0; omega, by show 9 ≤ 10 + 0; omega, hcp.mono (by omega), (beg_capd n).mono (by omega), f4.calm (e4.calm rfl), e4.calm rfl,
    ⟨k', 1, _, e2.besides (by decide) f4.oth f2, e2, e3, Nat.le_refl _⟩, ⟨k2, 1, _, f2, f3, Nat.le_refl _⟩⟩
theorem SlotInv.imgs {n c j : Nat} {v u : WalD} {D E : BayD} (h : SlotInv n c j v u D E) : (D.cut []).image 0 = (E.cut []).image 0 ∧ ((E.cut []).image 0).2 = 0 := by
  obtain ⟨k, base, x, h1, h2, h3, h4⟩ := h.live
  obtain ⟨a, b⟩ := img_cut h1.slot h1.live
  obtain ⟨a', b'⟩ := img_cut h2.slot h2.live
  exact ⟨Prod.ext (b.trans b'.symm) (a.trans a'.symm), a'⟩
end Go.Proofs.YtlojjlbngnaphaaGreat

/-! Text Tf. -/
/- The law WalSlots: walked. -/
set_option maxRecDepth 8000
set_option linter.unusedVariables false
set_option linter.unusedSimpArgs false
set_option linter.unusedSectionVars false
namespace Go.Proofs.YtlojjlbngnaphaaGreat
open Go.RowKit Go.Sl
attribute [local irreducible] Own

set_option maxHeartbeats 8000000 in
theorem wslots_law {W : World} {R : List SProp} {ao bo : Option Addr} {cap bcap : Nat} {l m : List OpE} (hbs : RdOps W ao l) (hbm : RdOps W bo m) (ring : Int) :
    Does1 W Tryz.prog 8 [.int .i64 ring, .slice ao l.length cap, .slice bo m.length bcap] R (.bool true) R := by
  (refine Does.enter Tryz.func8 Tryz.ntmps8 rfl rfl ?_)
  (refine w ?_; repeat ((first | refine VO.step rfl rfl ?_ | refine VD.end rfl rfl rfl ?_ | refine VD.mid rfl rfl rfl ?_); refine OpV.box rfl rfl rfl ?_; intro _; refine w ?_))
  ((first | refine VO.step rfl rfl ?_ | refine VD.end rfl rfl rfl ?_ | refine VD.mid rfl rfl rfl ?_); refine OpV.call rfl rfl (fun _ _ => by simp) (wmuch_ok hbs) Ent.refl rfl ?_)
  intro mu hmu
  cases mu with
  | true =>
    (refine w ?_; repeat ((first | refine VO.step rfl rfl ?_ | refine VD.end rfl rfl rfl ?_ | refine VD.mid rfl rfl rfl ?_); refine OpV.box rfl rfl rfl ?_; intro _; refine w ?_))
    exact VE.done1 rfl rfl Ent.refl
  | false =>
  have hf := hmu rfl
  (refine w ?_; repeat ((first | refine VO.step rfl rfl ?_ | refine VD.end rfl rfl rfl ?_ | refine VD.mid rfl rfl rfl ?_); refine OpV.box rfl rfl rfl ?_; intro _; refine w ?_))
  ((first | refine VO.step rfl rfl ?_ | refine VD.end rfl rfl rfl ?_ | refine VD.mid rfl rfl rfl ?_); refine OpV.call rfl rfl (fun _ _ => by simp) (wmuch_ok hbm) Ent.refl rfl ?_)
  intro mm hmm
  cases mm with
  | true =>
    (refine w ?_; repeat ((first | refine VO.step rfl rfl ?_ | refine VD.end rfl rfl rfl ?_ | refine VD.mid rfl rfl rfl ?_); refine OpV.box rfl rfl rfl ?_; intro _; refine w ?_))
    exact VE.done1 rfl rfl Ent.re
  | false =>
  have hfm := hmm rfl
  (refine w ?_; repeat ((first | refine VO.step rfl rfl ?_ | refine VD.end rfl rfl rfl ?_ | refine VD.mid rfl rfl rfl ?_); refine OpV.box rfl rfl rfl ?_; intro _; refine w ?_))
  refine VO.ent (Ent.re (L := R)) ?_
  ((first | refine VO.step rfl rfl ?_ | refine VD.end rfl rfl rfl ?_ | refine VD.mid rfl rfl rfl ?_); refine OpV.call rfl rfl (fun _ _ => by simp) (wbegun_ok ring) Ent.refl rfl ?_)
  intro x hx
  cases x with
  | none =>
    have hn : ¬ (5 ≤ ring ∧ ring ≤ 2048) := fun q => by have := hx.2 q; cases this
    dsimp only [Option.elim_none, Option.map_none]
    (refine w ?_; repeat ((first | refine VO.step rfl rfl ?_ | refine VD.end rfl rfl rfl ?_ | refine VD.mid rfl rfl rfl ?_); refine OpV.box rfl rfl rfl ?_; intro _; refine w ?_))
    ((first | refine VO.step rfl rfl ?_ | refine VD.end rfl rfl rfl ?_ | refine VD.mid rfl rfl rfl ?_); refine OpV.call rfl rfl (fun _ _ => by simp) (wbegun_ok ring) Ent.refl rfl ?_)
    intro x2 hx2
    cases x2 with
    | some y => exact absurd (hx2.1 rfl) hn
    | none =>
    dsimp only [Option.elim_none, Option.map_none]
    (refine w ?_; repeat ((first | refine VO.step rfl rfl ?_ | refine VD.end rfl rfl rfl ?_ | refine VD.mid rfl rfl rfl ?_); refine OpV.box rfl rfl rfl ?_; intro _; refine w ?_))
    ((first | refine VO.step rfl rfl ?_ | refine VD.end rfl rfl rfl ?_ | refine VD.mid rfl rfl rfl ?_); refine OpV.call rfl rfl (fun _ _ => by simp) (wknown_ok) Ent.refl rfl ?_)
    intro _ _
    (refine w ?_; repeat ((first | refine VO.step rfl rfl ?_ | refine VD.end rfl rfl rfl ?_ | refine VD.mid rfl rfl rfl ?_); refine OpV.box rfl rfl rfl ?_; intro _; refine w ?_))
    ((first | refine VO.split rfl rfl rfl ?_ ?_ | refine VD.split rfl rfl rfl ?_ ?_) <;> intro hb)
    · (refine w ?_; repeat ((first | refine VO.step rfl rfl ?_ | refine VD.end rfl rfl rfl ?_ | refine VD.mid rfl rfl rfl ?_); refine OpV.box rfl rfl rfl ?_; intro _; refine w ?_))
      exact VE.done1 rfl rfl Ent.refl
    · have h5 := of_decide_eq_false hb
      (refine w ?_; repeat ((first | refine VO.step rfl rfl ?_ | refine VD.end rfl rfl rfl ?_ | refine VD.mid rfl rfl rfl ?_); refine OpV.box rfl rfl rfl ?_; intro _; refine w ?_))
      exact VE.done1 rfl (by congr 1; simp; omega) Ent.refl
  | some y =>
    obtain ⟨b, wp⟩ := y
    have hn : 5 ≤ ring ∧ ring ≤ 2048 := hx.1 rfl
    obtain ⟨n, rfl⟩ : ∃ n : Nat, ring = n := ⟨ring.toNat, by omega⟩
    dsimp only [Option.elim_some, Option.map_some]
    rw [Int.toNat_natCast]
    (refine w ?_; repeat ((first | refine VO.step rfl rfl ?_ | refine VD.end rfl rfl rfl ?_ | refine VD.mid rfl rfl rfl ?_); refine OpV.box rfl rfl rfl ?_; intro _; refine w ?_))
    ((first | refine VO.step rfl rfl ?_ | refine VD.end rfl rfl rfl ?_ | refine VD.mid rfl rfl rfl ?_); refine OpV.call rfl rfl (fun _ _ => by simp) (wbegun_ok (n : Int)) Ent.refl rfl ?_)
    intro x2 hx2
    cases x2 with
    | none => exact absurd (hx2.2 hn) (by simp)
    | some y =>
    obtain ⟨c, vp⟩ := y
    dsimp only [Option.elim_some, Option.map_some]
    rw [Int.toNat_natCast]
    (refine w ?_; repeat ((first | refine VO.step rfl rfl ?_ | refine VD.end rfl rfl rfl ?_ | refine VD.mid rfl rfl rfl ?_); refine OpV.box rfl rfl rfl ?_; intro _; refine w ?_))
    ((first | refine VO.step rfl rfl ?_ | refine VD.end rfl rfl rfl ?_ | refine VD.mid rfl rfl rfl ?_); refine OpV.call rfl rfl (fun _ _ => by simp) (wknown_ok) Ent.refl rfl ?_)
    intro _ _
    have hll := hf.len
    have hnn : 5 ≤ n ∧ n ≤ 2048 := ⟨by omega, by omega⟩
    (refine w ?_; repeat ((first | refine VO.step rfl rfl ?_ | refine VD.end rfl rfl rfl ?_ | refine VD.mid rfl rfl rfl ?_); refine OpV.box rfl rfl rfl ?_; intro _; refine w ?_))
    obtain ⟨hb1, hb2⟩ := slot_beg hnn
    have hF := walformat_ok (W := W) (R := WalR wp b (fresh0 0 1 n) :: WalR vp c (fresh0 0 1 n) :: BayR c (begD n) :: R) (D := begD n) (epoch := 9) b 1 (n : Int) (by decide) (beg_capd n) (by omega)
    rw [hb1] at hF
    refine VO.ent (Ent.re (L := BayR b (begD n) :: WalR wp b (fresh0 0 1 n) :: WalR vp c (fresh0 0 1 n) :: BayR c (begD n) :: R)) ?_
    ((first | refine VO.step rfl rfl ?_ | refine VD.end rfl rfl rfl ?_ | refine VD.mid rfl rfl rfl ?_); refine OpV.call rfl rfl (fun _ _ => by simp) (hF) Ent.refl rfl ?_)
    intro y hy
    obtain ⟨up, rfl⟩ : ∃ w, y = some w := by cases y with | none => cases hy | some w => exact ⟨w, rfl⟩
    dsimp only [Option.elim_some, Option.map_some]
    rw [Int.toNat_natCast]
    (refine w ?_; repeat ((first | refine VO.step rfl rfl ?_ | refine VD.end rfl rfl rfl ?_ | refine VD.mid rfl rfl rfl ?_); refine OpV.box rfl rfl rfl ?_; intro _; refine w ?_))
    refine VC.loop (α := Nat × WalD × WalD × BayD × BayD) (fun y => y.1 ≤ l.length ∧ SlotInv n (2 * (n + 2)) y.1 y.2.1 y.2.2.1 y.2.2.2.1 y.2.2.2.2) (fun y => WalR wp b y.2.1 :: WalR up b y.2.2.1 :: BayR b y.2.2.2.1 :: WalR vp c y.2.1 :: BayR c y.2.2.2.2 :: R)
      (fun y => [(0, .int .i64 n), (1, .slice ao l.length cap), (2, .slice bo m.length bcap), (7, .pointer (some ⟨b, 0, none⟩)), (8, .pointer (some ⟨wp, 0, none⟩)), (9, .pointer (some ⟨c, 0, none⟩)), (10, .pointer (some ⟨vp, 0, none⟩)), (11, .pointer (some ⟨up, 0, none⟩)), (13, .int .i64 y.1)]) (fun y => l.length - y.1) rfl (0, fresh0 0 1 n, fresh0 1 9 n, slotBeg n, begD n) ⟨Nat.zero_le _, hb2⟩ Ent.re ⟨rfl, rfl, rfl, rfl, rfl, rfl, rfl, rfl, rfl, trivial⟩ ?_
    rintro ⟨j, v, u, D, E⟩ ⟨hj, hI⟩
    dsimp only at hj hI ⊢
    (refine w ?_; repeat ((first | refine VO.step rfl rfl ?_ | refine VD.end rfl rfl rfl ?_ | refine VD.mid rfl rfl rfl ?_); refine OpV.box rfl rfl rfl ?_; intro _; refine w ?_))
    (refine VC.cond rfl rfl ?_ ?_ <;> intro hc)
    · have hlt : j < l.length := by have := of_decide_eq_true hc; omega
      have hr := hbs.rds R
      obtain ⟨a, rfl⟩ := some_of_pos hr.nil (by omega)
      have ho := hbs.each _ (List.getElem_mem hlt)
      obtain ⟨hok, hoku⟩ := hI.wok (by omega)
      have hcap := hI.cap
      (refine w ?_; repeat ((first | refine VO.step rfl rfl ?_ | refine VD.end rfl rfl rfl ?_ | refine VD.mid rfl rfl rfl ?_); refine OpV.box rfl rfl rfl ?_; intro _; refine w ?_))
      (refine VC.join (α := WalD × BayD) (fun y => (y.2.capd (2 * (n + 2) + 8200 * j + 4100)) ∧ y.2.trip = -1 ∧ (∃ k base x, Pw y.2 0 k ∧ Pw E 0 k ∧ LiveX v k base x ∧ 1 ≤ base) ∧ (∃ k base x, Pw y.2 1 k ∧ LiveX y.1 k base x ∧ 1 ≤ base) ∧ y.1.slot = 1 ∧ y.1.next ≤ 2 + j ∧ y.1.epoch ≤ 11 + j) (fun y => WalR wp b v :: BayR b y.2 :: WalR up b y.1 :: WalR vp c v :: BayR c E :: R) (fun y => [(0, .int .i64 n), (1, .slice (some a) l.length cap), (2, .slice bo m.length bcap), (7, .pointer (some ⟨b, 0, none⟩)), (8, .pointer (some ⟨wp, 0, none⟩)), (9, .pointer (some ⟨c, 0, none⟩)), (10, .pointer (some ⟨vp, 0, none⟩)), (11, .pointer (some ⟨up, 0, none⟩)), (13, .int .i64 j)]) ?_ ?_)
      · intro Q2 jn
        (refine VC.cond rfl rfl ?_ ?_ <;> intro hc)
        · have hltm : j < m.length := by have := of_decide_eq_true hc; omega
          have hrm := hbm.rds (WalR wp b v :: WalR up b u :: BayR b D :: WalR vp c v :: BayR c E :: R)
          obtain ⟨a2, rfl⟩ := some_of_pos hrm.nil (by omega)
          have hom := hbm.each _ (List.getElem_mem hltm)
          have hO := hI.other (by omega) m[j].kind.toNat (m[j].pats.map PatE.D)
          (refine w ?_; repeat ((first | refine VO.step rfl rfl ?_ | refine VD.end rfl rfl rfl ?_ | refine VD.mid rfl rfl rfl ?_); refine OpV.box rfl rfl rfl ?_; intro _; refine w ?_))
          (first | refine VO.pure rfl rfl (.ldRA tab_ok rfl rfl hrm (opsC_at m j hltm) rfl) rfl ?_ | refine VD.take rfl rfl rfl (.ldRA tab_ok rfl rfl hrm (opsC_at m j hltm) rfl) rfl ?_ | refine VQ.pure rfl rfl (.ldRA tab_ok rfl rfl hrm (opsC_at m j hltm) rfl) rfl ?_ | refine VD.end rfl rfl rfl (OpV.pure (.ldRA tab_ok rfl rfl hrm (opsC_at m j hltm) rfl) rfl ?_))
          (refine w ?_; repeat ((first | refine VO.step rfl rfl ?_ | refine VD.end rfl rfl rfl ?_ | refine VD.mid rfl rfl rfl ?_); refine OpV.box rfl rfl rfl ?_; intro _; refine w ?_))
          refine VO.ent (Ent.re (L := WalR up b u :: BayR b D :: WalR wp b v :: WalR vp c v :: BayR c E :: R)) ?_
          ((first | refine VO.step rfl rfl ?_ | refine VD.end rfl rfl rfl ?_ | refine VD.mid rfl rfl rfl ?_); refine OpV.call rfl rfl (fun _ _ => by simp) (calls_ok up b u hoku hcap (by omega) m[j] hom) Ent.refl rfl ?_)
          intro _ _
          (refine w ?_; repeat ((first | refine VO.step rfl rfl ?_ | refine VD.end rfl rfl rfl ?_ | refine VD.mid rfl rfl rfl ?_); refine OpV.box rfl rfl rfl ?_; intro _; refine w ?_))
          refine jn.to ((wDo (u, D) m[j].kind.toNat (m[j].pats.map PatE.D)).2.1, (wDo (u, D) m[j].kind.toNat (m[j].pats.map PatE.D)).2.2) hO ⟨rfl, rfl, rfl, rfl, rfl, rfl, rfl, rfl, rfl, trivial⟩ Ent.re
        · (refine w ?_; repeat ((first | refine VO.step rfl rfl ?_ | refine VD.end rfl rfl rfl ?_ | refine VD.mid rfl rfl rfl ?_); refine OpV.box rfl rfl rfl ?_; intro _; refine w ?_))
          have hnu := hI.nextu
          have heu := hI.epochu
          refine jn.to (u, D) ⟨hcap.mono (by omega), hI.calm, hI.live, hI.liveu, hI.slotu, by dsimp only; omega, by dsimp only; omega⟩ ⟨rfl, rfl, rfl, rfl, rfl, rfl, rfl, rfl, rfl, trivial⟩ Ent.re
      rintro ⟨u2, D1⟩ ⟨y1, y2, y3, y4, y5, y6, y7⟩
      dsimp only at y1 y2 y3 y4 y5 y6 y7 ⊢
      obtain ⟨r1, r2, r3⟩ := hI.round (by omega) y1 y2 y3 y4 y5 y6 y7 l[j].kind.toNat (l[j].pats.map PatE.D)
      have hcape := hI.cape
      (refine w ?_; repeat ((first | refine VO.step rfl rfl ?_ | refine VD.end rfl rfl rfl ?_ | refine VD.mid rfl rfl rfl ?_); refine OpV.box rfl rfl rfl ?_; intro _; refine w ?_))
      refine VC.drawn [5, 11, 15, 17, 22, 24, 29] 31 [0, 1, 2, 3, 4, 6, 7, 8, 9, 10, 5, 11, 12, 13, 14, 16, 15, 17, 18, 19, 20, 21, 23, 22, 24, 25, 26, 27, 28, 30, 29, 31, 32, 33] R rfl (by kernel_rfl) (by kernel_rfl) Ent.re ?_
      (refine w ?_; repeat ((first | refine VO.step rfl rfl ?_ | refine VD.end rfl rfl rfl ?_ | refine VD.mid rfl rfl rfl ?_); refine OpV.box rfl rfl rfl ?_; intro _; refine w ?_))
      (first | refine VO.pure rfl rfl (.ldRA tab_ok rfl rfl hr (opsC_at l j hlt) rfl) rfl ?_ | refine VD.take rfl rfl rfl (.ldRA tab_ok rfl rfl hr (opsC_at l j hlt) rfl) rfl ?_ | refine VQ.pure rfl rfl (.ldRA tab_ok rfl rfl hr (opsC_at l j hlt) rfl) rfl ?_ | refine VD.end rfl rfl rfl (OpV.pure (.ldRA tab_ok rfl rfl hr (opsC_at l j hlt) rfl) rfl ?_))
      (refine w ?_; repeat ((first | refine VO.step rfl rfl ?_ | refine VD.end rfl rfl rfl ?_ | refine VD.mid rfl rfl rfl ?_); refine OpV.box rfl rfl rfl ?_; intro _; refine w ?_))
      (first | refine VO.pure rfl rfl (.ldRA tab_ok rfl rfl hr (opsC_at l j hlt) rfl) rfl ?_ | refine VD.take rfl rfl rfl (.ldRA tab_ok rfl rfl hr (opsC_at l j hlt) rfl) rfl ?_ | refine VQ.pure rfl rfl (.ldRA tab_ok rfl rfl hr (opsC_at l j hlt) rfl) rfl ?_ | refine VD.end rfl rfl rfl (OpV.pure (.ldRA tab_ok rfl rfl hr (opsC_at l j hlt) rfl) rfl ?_))
      (refine w ?_; repeat ((first | refine VO.step rfl rfl ?_ | refine VD.end rfl rfl rfl ?_ | refine VD.mid rfl rfl rfl ?_); refine OpV.box rfl rfl rfl ?_; intro _; refine w ?_))
      ((first | refine VO.step rfl rfl ?_ | refine VD.end rfl rfl rfl ?_ | refine VD.mid rfl rfl rfl ?_); refine OpV.call rfl rfl (fun _ _ => by simp) (calls_ok wp b v hok y1 (by omega) l[j] ho) Ent.refl rfl ?_)
      intro _ _
      try refine ⟨Ent.re, ?_⟩
      (refine w ?_; repeat ((first | refine VO.step rfl rfl ?_ | refine VD.end rfl rfl rfl ?_ | refine VD.mid rfl rfl rfl ?_); refine OpV.box rfl rfl rfl ?_; intro _; refine w ?_))
      refine VD.ent (Ent.re (L := WalR vp c v :: BayR c E :: WalR wp b (wDo (v, D1) l[j].kind.toNat (l[j].pats.map PatE.D)).2.1 :: BayR b (wDo (v, D1) l[j].kind.toNat (l[j].pats.map PatE.D)).2.2 :: WalR up b u2 :: R)) ?_
      ((first | refine VO.step rfl rfl ?_ | refine VD.end rfl rfl rfl ?_ | refine VD.mid rfl rfl rfl ?_); refine OpV.call rfl rfl (fun _ _ => by simp) (calls_ok vp c v hok hcape (by omega) l[j] ho) Ent.refl rfl ?_)
      intro _ _
      try refine ⟨Ent.re, ?_⟩
      generalize wDo (v, D1) l[j].kind.toNat (l[j].pats.map PatE.D) = rr at r1 r2 r3 ⊢
      generalize wDo (v, E) l[j].kind.toNat (l[j].pats.map PatE.D) = qq at r1 r2 r3 ⊢
      obtain ⟨e, v2, D2⟩ := rr
      obtain ⟨e', v2', E2⟩ := qq
      dsimp only at r1 r2 r3 ⊢
      subst r1
      subst r2
      (refine w ?_; repeat ((first | refine VO.step rfl rfl ?_ | refine VD.end rfl rfl rfl ?_ | refine VD.mid rfl rfl rfl ?_); refine OpV.box rfl rfl rfl ?_; intro _; refine w ?_))
      (first | refine VO.gF rfl rfl rfl (by simp) ?_ | refine VD.gF rfl rfl rfl (by simp) ?_)
      (refine w ?_; repeat ((first | refine VO.step rfl rfl ?_ | refine VD.end rfl rfl rfl ?_ | refine VD.mid rfl rfl rfl ?_); refine OpV.box rfl rfl rfl ?_; intro _; refine w ?_))
      (((first | refine VO.step rfl rfl ?_ | refine VD.end rfl rfl rfl ?_ | refine VD.mid rfl rfl rfl ?_); refine OpV.call rfl rfl (fun _ _ => by simp) (walused_ok wp b v2) Ent.re rfl ?_); intro _ _)
      try refine ⟨Ent.re, ?_⟩
      (refine w ?_; repeat ((first | refine VO.step rfl rfl ?_ | refine VD.end rfl rfl rfl ?_ | refine VD.mid rfl rfl rfl ?_); refine OpV.box rfl rfl rfl ?_; intro _; refine w ?_))
      (((first | refine VO.step rfl rfl ?_ | refine VD.end rfl rfl rfl ?_ | refine VD.mid rfl rfl rfl ?_); refine OpV.call rfl rfl (fun _ _ => by simp) (walused_ok vp c v2) Ent.re rfl ?_); intro _ _)
      try refine ⟨Ent.re, ?_⟩
      (refine w ?_; repeat ((first | refine VO.step rfl rfl ?_ | refine VD.end rfl rfl rfl ?_ | refine VD.mid rfl rfl rfl ?_); refine OpV.box rfl rfl rfl ?_; intro _; refine w ?_))
      (first | refine VO.gF rfl rfl rfl (by simp) ?_ | refine VD.gF rfl rfl rfl (by simp) ?_)
      (refine w ?_; repeat ((first | refine VO.step rfl rfl ?_ | refine VD.end rfl rfl rfl ?_ | refine VD.mid rfl rfl rfl ?_); refine OpV.box rfl rfl rfl ?_; intro _; refine w ?_))
      (((first | refine VO.step rfl rfl ?_ | refine VD.end rfl rfl rfl ?_ | refine VD.mid rfl rfl rfl ?_); refine OpV.call rfl rfl (fun _ _ => by simp) (walnext_ok wp b v2) Ent.re rfl ?_); intro _ _)
      try refine ⟨Ent.re, ?_⟩
      (refine w ?_; repeat ((first | refine VO.step rfl rfl ?_ | refine VD.end rfl rfl rfl ?_ | refine VD.mid rfl rfl rfl ?_); refine OpV.box rfl rfl rfl ?_; intro _; refine w ?_))
      (((first | refine VO.step rfl rfl ?_ | refine VD.end rfl rfl rfl ?_ | refine VD.mid rfl rfl rfl ?_); refine OpV.call rfl rfl (fun _ _ => by simp) (walnext_ok vp c v2) Ent.re rfl ?_); intro _ _)
      try refine ⟨Ent.re, ?_⟩
      (refine w ?_; repeat ((first | refine VO.step rfl rfl ?_ | refine VD.end rfl rfl rfl ?_ | refine VD.mid rfl rfl rfl ?_); refine OpV.box rfl rfl rfl ?_; intro _; refine w ?_))
      (first | refine VO.gF rfl rfl rfl (by simp) ?_ | refine VD.gF rfl rfl rfl (by simp) ?_)
      (refine w ?_; repeat ((first | refine VO.step rfl rfl ?_ | refine VD.end rfl rfl rfl ?_ | refine VD.mid rfl rfl rfl ?_); refine OpV.box rfl rfl rfl ?_; intro _; refine w ?_))
      (((first | refine VO.step rfl rfl ?_ | refine VD.end rfl rfl rfl ?_ | refine VD.mid rfl rfl rfl ?_); refine OpV.call rfl rfl (fun _ _ => by simp) (walsure_ok wp b v2) Ent.re rfl ?_); intro _ _)
      try refine ⟨Ent.re, ?_⟩
      (refine w ?_; repeat ((first | refine VO.step rfl rfl ?_ | refine VD.end rfl rfl rfl ?_ | refine VD.mid rfl rfl rfl ?_); refine OpV.box rfl rfl rfl ?_; intro _; refine w ?_))
      (((first | refine VO.step rfl rfl ?_ | refine VD.end rfl rfl rfl ?_ | refine VD.mid rfl rfl rfl ?_); refine OpV.call rfl rfl (fun _ _ => by simp) (walsure_ok vp c v2) Ent.re rfl ?_); intro _ _)
      try refine ⟨Ent.re, ?_⟩
      (refine w ?_; repeat ((first | refine VO.step rfl rfl ?_ | refine VD.end rfl rfl rfl ?_ | refine VD.mid rfl rfl rfl ?_); refine OpV.box rfl rfl rfl ?_; intro _; refine w ?_))
      (refine VC.condFe rfl rfl (by simp) ?_)
      (refine w ?_; repeat ((first | refine VO.step rfl rfl ?_ | refine VD.end rfl rfl rfl ?_ | refine VD.mid rfl rfl rfl ?_); refine OpV.box rfl rfl rfl ?_; intro _; refine w ?_))
      refine VE.round (j + 1, v2, u2, D2, E2) ⟨hlt, r3⟩ (by simp only; omega) ⟨rfl, rfl, rfl, rfl, rfl, rfl, rfl, rfl, asV rfl (by congr 1), trivial⟩ Ent.re
    · obtain ⟨hi1, hi2⟩ := hI.imgs
      (refine w ?_; repeat ((first | refine VO.step rfl rfl ?_ | refine VD.end rfl rfl rfl ?_ | refine VD.mid rfl rfl rfl ?_); refine OpV.box rfl rfl rfl ?_; intro _; refine w ?_))
      (((first | refine VO.step rfl rfl ?_ | refine VD.end rfl rfl rfl ?_ | refine VD.mid rfl rfl rfl ?_); refine OpV.call rfl rfl (fun _ _ => by simp) (baycut_ok (kl := []) b D nilKeeps) Ent.re rfl ?_); intro _ _)
      (refine w ?_; repeat ((first | refine VO.step rfl rfl ?_ | refine VD.end rfl rfl rfl ?_ | refine VD.mid rfl rfl rfl ?_); refine OpV.box rfl rfl rfl ?_; intro _; refine w ?_))
      (((first | refine VO.step rfl rfl ?_ | refine VD.end rfl rfl rfl ?_ | refine VD.mid rfl rfl rfl ?_); refine OpV.call rfl rfl (fun _ _ => by simp) (baycut_ok (kl := []) c E nilKeeps) Ent.re rfl ?_); intro _ _)
      (refine w ?_; repeat ((first | refine VO.step rfl rfl ?_ | refine VD.end rfl rfl rfl ?_ | refine VD.mid rfl rfl rfl ?_); refine OpV.box rfl rfl rfl ?_; intro _; refine w ?_))
      have cI := fun X => bayimage_ok (W := W) (R := X) b (D.cut []) 0
      rw [hi1] at cI
      ((first | refine VO.step rfl rfl ?_ | refine VD.end rfl rfl rfl ?_ | refine VD.mid rfl rfl rfl ?_); refine OpV.call rfl rfl (fun _ _ => by simp) (cI _) Ent.re rfl ?_)
      intro x hx
      (refine w ?_; repeat ((first | refine VO.step rfl rfl ?_ | refine VD.end rfl rfl rfl ?_ | refine VD.mid rfl rfl rfl ?_); refine OpV.box rfl rfl rfl ?_; intro _; refine w ?_))
      ((first | refine VO.step rfl rfl ?_ | refine VD.end rfl rfl rfl ?_ | refine VD.mid rfl rfl rfl ?_); refine OpV.call rfl rfl (fun _ _ => by simp) (bayimage_ok c (E.cut []) 0) Ent.re rfl ?_)
      intro y hy
      generalize hz : (E.cut []).image 0 = z at *
      obtain ⟨z1, z2⟩ := z
      dsimp only at hi2 hx hy ⊢
      subst hi2
      (refine w ?_; repeat ((first | refine VO.step rfl rfl ?_ | refine VD.end rfl rfl rfl ?_ | refine VD.mid rfl rfl rfl ?_); refine OpV.box rfl rfl rfl ?_; intro _; refine w ?_))
      refine VO.know (fun w hw => hw.ownMax (show OwnB x z1 ∈ _ by (focus repeat first | exact .head _ | apply List.Mem.tail)) : ∀ w, _ → z1.length ≤ maxLen) ?_
      intro hml
      refine VO.ent (Ent.re (L := OwnB x z1 :: OwnB y z1 :: R)) ?_
      ((first | refine VO.step rfl rfl ?_ | refine VD.end rfl rfl rfl ?_ | refine VD.mid rfl rfl rfl ?_); refine OpV.call rfl rfl (fun _ _ => by simp) (same_any (a := z1) (b := z1) (Rds.own (bytes_one _) (.head _) (by simp) hx) (Rds.own (bytes_one _) (.tail _ (.head _)) (by simp) hy) hml) Ent.refl rfl ?_)
      intro _ _
      (refine w ?_; repeat ((first | refine VO.step rfl rfl ?_ | refine VD.end rfl rfl rfl ?_ | refine VD.mid rfl rfl rfl ?_); refine OpV.box rfl rfl rfl ?_; intro _; refine w ?_))
      exact VE.done1 rfl (by congr 1; simp) Ent.re
end Go.Proofs.YtlojjlbngnaphaaGreat

