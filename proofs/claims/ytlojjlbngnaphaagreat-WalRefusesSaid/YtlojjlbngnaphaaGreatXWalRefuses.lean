import Derived.Test.YtlojjlbngnaphaaGreatM8
/-! Text Sk, more of it. -/
set_option maxRecDepth 8000
set_option linter.unusedVariables false
set_option linter.unusedSimpArgs false
set_option linter.unusedSectionVars false
namespace Go.Sl
open Go.RowKit

section
variable {P : Program} {ops : Array Oper} {Q : Exit → Act → World → Prop} {md : Region.Mode} {S : World → Prop}

end

section
variable {W : World} {P : Program} {n : Nat} {c : Code} {Q : Exit → Act → World → Prop} {H H' L R : List SProp} {f F : Fr} {mv ord r : List Nat} {tl i : Nat}
variable {dst : Option Tmp} {d : Nat} {ty_ : TypeId} {pos : String} {after : Array Edge} {guard : Option (Nat × Bool)}

end
end Go.Sl

set_option maxRecDepth 8000
set_option linter.unusedVariables false
set_option linter.unusedSimpArgs false
set_option linter.unusedSectionVars false
namespace Go.Sl
open Go
variable {W : World} {P : Program} {n : Nat} {c c1 c2 : Code} {Q : Exit → Act → World → Prop} {H : List SProp} {f : Fr}

end Go.Sl

set_option maxRecDepth 8000
set_option linter.unusedVariables false
set_option linter.unusedSimpArgs false
set_option linter.unusedSectionVars false
namespace Go.Sl
open Go Go.RowKit
section
variable {W : World} {P : Program} {n : Nat} {c : Code} {Q : Exit → Act → World → Prop} {H H' L S : List SProp} {f F : Fr} {C : SProp → List SProp}
variable {N : List SProp → Fr → Prop} {dst : Option Tmp} {d : Nat} {ty_ : TypeId} {pos : String} {after : Array Edge} {guard : Option (Nat × Bool)}

end
end Go.Sl

set_option maxRecDepth 8000
set_option linter.unusedVariables false
set_option linter.unusedSimpArgs false
set_option linter.unusedSectionVars false
namespace Go.Sl
open Go Go.RowKit Go.MapKept
section
variable {W : World} {P : Program} {n : Nat} {c : Code} {Q : Exit → Act → World → Prop} {H H' L S : List SProp} {f F : Fr} {C : SProp → List SProp}
variable {N : List SProp → Fr → Prop} {dst : Option Tmp} {d : Nat} {ty_ : TypeId} {pos : String} {after : Array Edge} {guard : Option (Nat × Bool)}

end

section
variable {α β : Type}
end
end Go.Sl

set_option maxRecDepth 8000
set_option linter.unusedVariables false
set_option linter.unusedSimpArgs false
set_option linter.unusedSectionVars false
namespace Go.Sl
open Go.RowKit

section
variable {H : Type} {enc : TypeId × Value → H} {P : Program} {W : World}

end
end Go.Sl

set_option maxRecDepth 8000
set_option linter.unusedVariables false
set_option linter.unusedSimpArgs false
set_option linter.unusedSectionVars false
namespace Go.Sl
open Go Go.RowKit
section
variable {W : World} {P : Program} {n : Nat} {c : Code} {Q : Exit → Act → World → Prop} {H H' L S R : List SProp} {f F : Fr} {C : SProp → List SProp}
variable {N : List SProp → Fr → Prop} {dst : Option Tmp} {d : Nat} {ty_ : TypeId} {pos : String} {after : Array Edge} {guard : Option (Nat × Bool)}

end
end Go.Sl

set_option maxRecDepth 8000
set_option linter.unusedVariables false
set_option linter.unusedSimpArgs false
set_option linter.unusedSectionVars false
namespace Go.Sl
open Go.RowKit
section
variable {W : World} {P : Program} {H : List SProp} {g : FuncId} {args : List Value}
/-- What memory says behind a call is said by the contract. -/
theorem DoesA {β : Type} {A B : β → Prop} {r : β → Value} {G : β → List SProp} (h : Does W P g args H A r G) (hp : ∀ x, A x → ∀ w, Holds W (G x) w → B x) : Does W P g args H B r G := by
  unfold Does at h ⊢
  exact fun w hw => (h w hw).mono fun _ w' ⟨x, hx, he, hh⟩ => ⟨x, hp x hx w' hh, he, hh⟩
end

section
variable {W : World} {P : Program} {n : Nat} {c c1 c2 : Code} {Q : Exit → Act → World → Prop} {H : List SProp} {f : Fr}
end
end Go.Sl

set_option maxRecDepth 8000
set_option linter.unusedVariables false
namespace Go.Sl
open Go Go.RowKit
section
variable {W : World} {P : Program} {n : Nat} {H : List SProp} {f : Fr} {dst : Option Tmp} {ty_ : TypeId} {pos : String} {after : Array Edge} {guard : Option (Nat × Bool)}
end
end Go.Sl

set_option linter.unusedVariables false
namespace Go.Sl
end Go.Sl

set_option maxRecDepth 8000
set_option linter.unusedVariables false
set_option linter.unusedSimpArgs false
set_option linter.unusedSectionVars false
namespace Go.Sl
open Go.RowKit

section
variable {W : World} {P : Program} {n : Nat} {H : List SProp} {f : Fr} {dst : Option Tmp} {d : Nat} {ty_ : TypeId} {pos : String} {after : Array Edge} {guard : Option (Nat × Bool)}

end
end Go.Sl

set_option maxRecDepth 8000
set_option linter.unusedVariables false
set_option linter.unusedSimpArgs false
set_option linter.unusedSectionVars false
namespace Go.Sl
open Go.RowKit

end Go.Sl

set_option maxRecDepth 8000
set_option linter.unusedVariables false
set_option linter.unusedSimpArgs false
set_option linter.unusedSectionVars false
namespace Go.Sl
open Go Go.RowKit
section
variable {W : World} {P : Program} {n : Nat} {Q : Exit → Act → World → Prop} {H : List SProp} {f : Fr} {C : SProp → List SProp}
variable {N : List SProp → Fr → Prop} {ty_ : TypeId} {pos : String} {after : Array Edge} {guard : Option (Nat × Bool)}

end
section
variable {W : World} {P : Program} {n : Nat} {c c2 : Code} {Q : Exit → Act → World → Prop} {H : List SProp} {f : Fr}
end
end Go.Sl

set_option maxRecDepth 8000
set_option linter.unusedVariables false
set_option linter.unusedSimpArgs false
set_option linter.unusedSectionVars false
namespace Go.Sl
open Go Go.RowKit
section
variable {W : World} {P : Program} {n : Nat} {c : Code} {Q : Exit → Act → World → Prop} {H : List SProp} {f : Fr} {C : SProp → List SProp}
variable {N : List SProp → Fr → Prop} {dst : Option Tmp} {d : Nat} {ty_ : TypeId} {pos : String} {after : Array Edge} {guard : Option (Nat × Bool)}

end
end Go.Sl

set_option maxRecDepth 8000
set_option linter.unusedVariables false
set_option linter.unusedSimpArgs false
set_option linter.unusedSectionVars false
namespace Go.Sl
open Go Go.RowKit
section
variable {W : World} {P : Program} {n : Nat} {Q : Exit → Act → World → Prop} {H : List SProp} {f : Fr} {C : SProp → List SProp}
variable {N : List SProp → Fr → Prop} {d : Nat} {ty_ : TypeId} {pos : String} {after : Array Edge} {guard : Option (Nat × Bool)}

end
end Go.Sl

set_option maxRecDepth 8000
set_option linter.unusedVariables false
set_option linter.unusedSimpArgs false
set_option linter.unusedSectionVars false
namespace Go.Sl
open Go Go.RowKit
section
variable {P : Program} {ops : Array Oper} {Q : Exit → Act → World → Prop} {S : World → Prop}

end
section
variable {W : World} {P : Program} {n : Nat} {c : Code} {Q : Exit → Act → World → Prop} {H H' L R : List SProp} {f F : Fr} {mv ord r : List Nat} {tl i x : Nat}
variable {dst : Option Tmp} {d e : Nat} {ty_ : TypeId} {pos : String} {after : Array Edge} {guard : Option (Nat × Bool)} {X : Nat → SProp} {vx : Nat → Value}

end
end Go.Sl

/-! Text Tab, more of it. -/
namespace Go.Proofs.YtlojjlbngnaphaaGreat
open Go.Sl
theorem st_22 : SliceT Tryz.prog 22 37 (.agg #[.int .i64 0, .int .i64 0, .slice none 0 0, .slice none 0 0]) 4 64 := ⟨by kernel_rfl, by kernel_rfl, rfl, by simp [Value.cells, Value.oneCell']⟩
theorem sb_37 : StructT Tryz.prog 37 [.int .i64 0, .int .i64 0, .slice none 0 0, .slice none 0 0] [(0, 1), (1, 1), (2, 1), (3, 1)] := ⟨fun w => by simp, _, Tryz.underlying37, fun w => by simp⟩
end Go.Proofs.YtlojjlbngnaphaaGreat

/-! Text Dm, more of it. -/
set_option maxRecDepth 8000
set_option linter.unusedVariables false
set_option linter.unusedSimpArgs false
set_option linter.unusedSectionVars false
namespace Go.Proofs.YtlojjlbngnaphaaGreat
open Go.RowKit Go.Sl
attribute [local irreducible] Sl.Own

theorem image_bad {W : World} {R : List SProp} (d : Nat) (k : DiskD) (hf : k.failed = true) :
    Does1 W Tryz.prog 68 [.pointer (some ⟨d, 0, none⟩)] (DiskR d k :: R) (.slice none 0 0) (DiskR d k :: R) := by
  (refine Does.enter Tryz.func68 Tryz.ntmps68 rfl rfl ?_)
  refine VC.obtain (fun w => DiskR.open) ?_
  rintro ⟨⟨⟨lo, lc⟩, ⟨co, cc⟩, m⟩, hk⟩
  (refine w ?_; repeat ((first | refine VO.step rfl rfl ?_ | refine VD.end rfl rfl rfl ?_ | refine VD.mid rfl rfl rfl ?_); refine OpV.box rfl rfl rfl ?_; intro _; refine w ?_))
  (refine VC.condTe rfl rfl (hf) ?_)
  (refine w ?_; repeat ((first | refine VO.step rfl rfl ?_ | refine VD.end rfl rfl rfl ?_ | refine VD.mid rfl rfl rfl ?_); refine OpV.box rfl rfl rfl ?_; intro _; refine w ?_))
  (refine VE.done1 rfl ?_ ?_)
  · rfl
  · exact DiskR.shut hk

set_option maxHeartbeats 2000000 in
theorem image_ok {W : World} {R : List SProp} (d : Nat) (k : DiskD) (hf : k.failed = false) :
    Does W Tryz.prog 68 [.pointer (some ⟨d, 0, none⟩)] (DiskR d k :: R) (β := Option Addr × Nat) (fun _ => True) (fun x => .slice x.1 (k.last.length * 128) x.2)
      (fun x => Sl.Own 5 1 (.slice x.1 (k.last.length * 128) x.2) (k.last.length * 128) (bytes k.last.flatten) :: DiskR d k :: R) := by
  (refine Does.enter Tryz.func68 Tryz.ntmps68 rfl rfl ?_)
  refine VC.obtain (fun w => DiskR.open) ?_
  rintro ⟨⟨⟨lo, lc⟩, ⟨co, cc⟩, m⟩, hk⟩
  dsimp only [DiskO]
  refine VC.know (fun w hw => hw.ownNone (show Sl.Own 237 128 (.slice lo k.last.length lc) k.last.length _ ∈ _ by (focus repeat first | exact .head _ | apply List.Mem.tail)) : ∀ w, _ → (lo = none → k.last.length = 0)) ?_
  intro hln
  have h8 : ∀ x ∈ k.last, (bytes x).length = 128 := fun x h => by simp [hk.last x h]
  have hsz := hk.size
  (refine w ?_; repeat ((first | refine VO.step rfl rfl ?_ | refine VD.end rfl rfl rfl ?_ | refine VD.mid rfl rfl rfl ?_); refine OpV.box rfl rfl rfl ?_; intro _; refine w ?_))
  (refine VC.condFe rfl rfl (hf) ?_)
  (refine w ?_; repeat ((first | refine VO.step rfl rfl ?_ | refine VD.end rfl rfl rfl ?_ | refine VD.mid rfl rfl rfl ?_); refine OpV.box rfl rfl rfl ?_; intro _; refine w ?_))
  refine VO.re 14 (.int .i64 ((k.last.length * 128 : Nat) : Int)) rfl (by congr 1) ?_
  (first | refine VO.step rfl rfl ?_ | refine VD.end rfl rfl rfl ?_ | refine VD.mid rfl rfl rfl ?_)
  refine OpV.makeCap (m := k.last.length * 128) st_68 rfl rfl ?_ ?_ rfl ?_
  · omega
  · simp only [maxLen]; omega
  intro nb
  (refine w ?_; repeat ((first | refine VO.step rfl rfl ?_ | refine VD.end rfl rfl rfl ?_ | refine VD.mid rfl rfl rfl ?_); refine OpV.box rfl rfl rfl ?_; intro _; refine w ?_))
  refine VC.loop (α := Nat × Option Addr × Nat) (fun g => g.1 ≤ k.last.length)
    (fun g => Sl.Own 5 1 (.slice g.2.1 (g.1 * 128) g.2.2) (g.1 * 128) (bytes (k.last.take g.1).flatten) :: DiskO d k ((lo, lc), (co, cc), m) R)
    (fun g => [(0, .pointer (some ⟨d, 0, none⟩)), (3, .slice g.2.1 (g.1 * 128) g.2.2), (20, .int .i64 k.last.length), (21, .int .i64 g.1)]) (fun g => k.last.length - g.1) rfl (0, some ⟨nb, 0, none⟩, k.last.length * 128) (Nat.zero_le _) Ent.re ⟨rfl, rfl, rfl, rfl, trivial⟩ ?_
  rintro ⟨i, ao, cap⟩ hi
  have hi : i ≤ k.last.length := hi
  dsimp only [DiskO]
  (refine w ?_; repeat ((first | refine VO.step rfl rfl ?_ | refine VD.end rfl rfl rfl ?_ | refine VD.mid rfl rfl rfl ?_); refine OpV.box rfl rfl rfl ?_; intro _; refine w ?_))
  (refine VC.cond rfl rfl ?_ ?_ <;> intro hc)
  · have hlt : i < k.last.length := by have := of_decide_eq_true hc; omega
    obtain ⟨b, rfl⟩ : ∃ b, lo = some b := by cases lo with | none => have := hln rfl; omega | some b => exact ⟨b, rfl⟩
    have hla : k.last[i].length = 128 := hk.last _ (List.getElem_mem hlt)
    have hp := flat_part (g := bytes) k.last i hlt h8
    (refine w ?_; repeat ((first | refine VO.step rfl rfl ?_ | refine VD.end rfl rfl rfl ?_ | refine VD.mid rfl rfl rfl ?_); refine OpV.box rfl rfl rfl ?_; intro _; refine w ?_))
    (first | refine VO.pure rfl rfl (PureAt.sliceArr (sz := 1) Tryz.underlying237 (by decide) (fun w => by simp) rfl) rfl ?_ | refine VD.take rfl rfl rfl (PureAt.sliceArr (sz := 1) Tryz.underlying237 (by decide) (fun w => by simp) rfl) rfl ?_ | refine VQ.pure rfl rfl (PureAt.sliceArr (sz := 1) Tryz.underlying237 (by decide) (fun w => by simp) rfl) rfl ?_ | refine VD.end rfl rfl rfl (OpV.pure (PureAt.sliceArr (sz := 1) Tryz.underlying237 (by decide) (fun w => by simp) rfl) rfl ?_))
    refine VO.re 31 (.slice (some (b.add (i * 128))) 128 128) rfl (by rw [Addr_add_zero]) ?_
    (first | refine VO.step rfl rfl ?_ | refine VD.end rfl rfl rfl ?_ | refine VD.mid rfl rfl rfl ?_)
    refine OpV.append st_68 rfl rfl .head (fun w hw => ((Rds.part (Rds.own (W := W) (H := DiskO d k ((some b, lc), (co, cc), m) R) (lasts_one _) (.tail _ (.head _)) (flat_length _ h8) hln) hlt).sees (cap := 128) hw.tail).src st_68.und) (by simp only [maxLen]; omega) (by omega) rfl ?_
    intro ao' cap'
    rw [hp, show i * 128 + 128 = (i + 1) * 128 by omega]
    have e : bytes (k.last.take i).flatten ++ bytes k.last[i] = bytes (k.last.take (i + 1)).flatten := by
      rw [← bytes_append, List.take_succ_eq_append_getElem hlt, List.flatten_append]; simp
    rw [e]
    (refine w ?_; repeat ((first | refine VO.step rfl rfl ?_ | refine VD.end rfl rfl rfl ?_ | refine VD.mid rfl rfl rfl ?_); refine OpV.box rfl rfl rfl ?_; intro _; refine w ?_))
    exact VE.round (i + 1, ao', cap') hlt (by simp only; omega) ⟨rfl, rfl, rfl, rfl, trivial⟩ Ent.refl
  · have hge : i = k.last.length := by have := of_decide_eq_false hc; omega
    subst hge
    rw [List.take_of_length_le (Nat.le_refl k.last.length)]
    (refine w ?_; repeat ((first | refine VO.step rfl rfl ?_ | refine VD.end rfl rfl rfl ?_ | refine VD.mid rfl rfl rfl ?_); refine OpV.box rfl rfl rfl ?_; intro _; refine w ?_))
    refine VE.done (ao, cap) rfl trivial rfl ?_
    exact fun w hw => (DiskR.shut hk w (hw.reord (L := DiskO d k ((lo, lc), (co, cc), m) (Sl.Own 5 1 (.slice ao (k.last.length * 128) cap) (k.last.length * 128) (bytes k.last.flatten) :: R)) (by (repeat first | exact .refl | (apply Reord.cons; focus repeat first | exact .head | apply Del.tail) | exact .nil | apply Reord.drop)))).swap

end Go.Proofs.YtlojjlbngnaphaaGreat

/-! Text Ba, more of it. -/
set_option maxRecDepth 8000
set_option linter.unusedVariables false
set_option linter.unusedSimpArgs false
set_option linter.unusedSectionVars false
namespace Go.Proofs.YtlojjlbngnaphaaGreat
open Go.RowKit Go.Sl
attribute [local irreducible] Sl.Own

theorem img_len {k : DiskD} (hk : k.ok) : k.last.flatten.length = k.last.length * 128 := by
  have : ∀ l : List (List UInt8), (∀ b ∈ l, b.length = 128) → l.flatten.length = l.length * 128 := fun l => by
    induction l with
    | nil => intro _; rfl
    | cons a r ih => intro h; rw [List.flatten_cons, List.length_append, ih fun b hb => h b (.tail _ hb), h a (.head _), List.length_cons, Nat.add_mul]; omega
  exact this k.last hk.last

theorem dimg_ok {W : World} {R : List SProp} (d : Nat) (k : DiskD) :
    Does W Tryz.prog 68 [.pointer (some ⟨d, 0, none⟩)] (DiskR d k :: R) (β := Option Addr × Nat) (fun x => x.1 = none → k.img.length = 0) (fun x => sliceB x k.img) (fun x => OwnB x k.img :: DiskR d k :: R) := by
  refine DoesA (A := fun _ => True) ?_ (fun x _ w hw => hw.ownNone (.head _))
  unfold DiskD.img
  cases h : k.failed
  · refine DoesK (fun w => DiskR.know) fun hk => ?_
    have hl := img_len hk
    refine Does.mono (image_ok d k h) id (fun _ _ => trivial) (fun x _ => by simp [sliceB, hl]) fun x _ => ?_
    simp only [OwnB, hl, Bool.false_eq_true, if_false, id]; exact Ent.refl
  · exact Does1M (image_bad d k h) (none, 0) trivial rfl fun w hw => hw.ownNil 5 1
end Go.Proofs.YtlojjlbngnaphaaGreat

/-! Text Bb, more of it. -/
set_option maxRecDepth 8000
set_option linter.unusedVariables false
set_option linter.unusedSimpArgs false
set_option linter.unusedSectionVars false
namespace Go.Proofs.YtlojjlbngnaphaaGreat
open Go.RowKit Go.Sl
attribute [local irreducible] Sl.Own

theorem bayInC {W : World} {b : Nat} {D D' : BayD} {a : Addr} {l1 l2 : List SlotP} {s : SlotP} {R : List SProp} {p : DevP} (P : SProp) (hs : s.in_ = some p) (v : DevD) (h1 : D'.slots = (l1 ++ { s with in_ := some ⟨p.r, p.d, v⟩ } :: l2).map SlotP.D) (h2 : (l1 ++ s :: l2).length ≤ 17) :
    Ent W (P :: devRow ⟨p.r, p.d, v⟩ :: DiskR p.d v.k :: BayX b D' a l1 s l2 R) (P :: BayR b D' :: R) :=
  Ent.ctx (X := [P]) (L := devRow ⟨p.r, p.d, v⟩ :: DiskR p.d v.k :: devRes s.aside :: devRes s.coming :: bayRow b D' a (l1 ++ s :: l2).length :: slotsOwn a (l1 ++ s :: l2) :: (l1 ++ l2).map slotRes) (L' := [BayR b D']) (bayInP (D := D) hs v h1 h2)
theorem bayimage_ok {W : World} {R : List SProp} (b : Nat) (D : BayD) (k : Int) :
    Does W Tryz.prog 36 [.pointer (some ⟨b, 0, none⟩), .int .i64 k] (BayR b D :: R) (β := Option Addr × Nat) (fun x => x.1 = none → (D.image k).1.length = 0) (fun x => .tuple #[sliceB x (D.image k).1, .int .u16 (D.image k).2]) (fun x => OwnB x (D.image k).1 :: BayR b D :: R) := by
  refine DoesA (A := fun _ => True) ?_ (fun x _ w hw => hw.ownNone (.head _))
  (refine Does.enter Tryz.func36 Tryz.ntmps36 rfl rfl ?_)
  refine VC.obtain (fun w => BayR.open) ?_
  rintro ⟨⟨a, sp⟩, h1, h2⟩
  dsimp only at h1 h2 ⊢
  (refine w ?_; repeat ((first | refine VO.step rfl rfl ?_ | refine VD.end rfl rfl rfl ?_ | refine VD.mid rfl rfl rfl ?_); refine OpV.box rfl rfl rfl ?_; intro _; refine w ?_))
  (((first | refine VO.step rfl rfl ?_ | refine VD.end rfl rfl rfl ?_ | refine VD.mid rfl rfl rfl ?_); refine OpV.call rfl rfl (fun _ _ => by simp) (baythere_ok (D := D) (a := a) (sp := sp) b k h2) Ent.re rfl ?_); intro _ _)
  unfold BayD.image
  rw [inP_D h1, show D.slots.length = sp.length by rw [h1, List.length_map]]
  cases hp : inP sp k with
  | none =>
    dsimp only [devPtr, Option.map_none, Option.isSome_none]
    (refine w ?_; repeat ((first | refine VO.step rfl rfl ?_ | refine VD.end rfl rfl rfl ?_ | refine VD.mid rfl rfl rfl ?_); refine OpV.box rfl rfl rfl ?_; intro _; refine w ?_))
    have he : thereE sp.length false k ≠ 0 := by unfold thereE; split <;> simp
    (refine VC.condTe rfl rfl (by simpa using he) ?_)
    (refine w ?_; repeat ((first | refine VO.step rfl rfl ?_ | refine VD.end rfl rfl rfl ?_ | refine VD.mid rfl rfl rfl ?_); refine OpV.box rfl rfl rfl ?_; intro _; refine w ?_))
    refine VE.done (none, 0) rfl trivial rfl fun w hw => (BayR.shut h1 h2 w hw).ownNil 5 1
  | some p =>
    obtain ⟨l1, s, l2, rfl, rfl, hs⟩ := inP_split hp
    dsimp only [devPtr, Option.map_some, Option.isSome_some]
    have he : thereE (l1 ++ s :: l2).length true (l1.length : Int) = 0 := by unfold thereE inRange; rw [if_pos (by simp; omega)]; rfl
    rw [he]
    (refine w ?_; repeat ((first | refine VO.step rfl rfl ?_ | refine VD.end rfl rfl rfl ?_ | refine VD.mid rfl rfl rfl ?_); refine OpV.box rfl rfl rfl ?_; intro _; refine w ?_))
    refine VO.ent (bayOutP hs) ?_
    (refine w ?_; repeat ((first | refine VO.step rfl rfl ?_ | refine VD.end rfl rfl rfl ?_ | refine VD.mid rfl rfl rfl ?_); refine OpV.box rfl rfl rfl ?_; intro _; refine w ?_))
    ((first | refine VO.step rfl rfl ?_ | refine VD.end rfl rfl rfl ?_ | refine VD.mid rfl rfl rfl ?_); refine OpV.call rfl rfl (fun _ _ => by simp) (dimg_ok p.d p.v.k) Ent.re rfl ?_)
    intro x _
    (refine w ?_; repeat ((first | refine VO.step rfl rfl ?_ | refine VD.end rfl rfl rfl ?_ | refine VD.mid rfl rfl rfl ?_); refine OpV.box rfl rfl rfl ?_; intro _; refine w ?_))
    refine VE.done x rfl trivial rfl ?_
    refine Ent.trans Ent.re (bayInC (D := D) (p := p) _ hs p.v ?_ h2)
    rw [h1]; simp [SlotP.D, hs]
end Go.Proofs.YtlojjlbngnaphaaGreat

/-! Text Ud, more of it. -/
set_option maxRecDepth 8000
set_option linter.unusedVariables false
set_option linter.unusedSimpArgs false
set_option linter.unusedSectionVars false
namespace Go.Proofs.YtlojjlbngnaphaaGreat
open Go.RowKit Go.Sl
attribute [local irreducible] Own

theorem walsize_ok {W : World} {R : List SProp} (wp b : Nat) (v : WalD) : Does1 W Tryz.prog 33 [.pointer (some ⟨wp, 0, none⟩)] (WalR wp b v :: R) (.int .i64 v.size) (WalR wp b v :: R) := by
  refine DoesO (fun w hw => WalR.open hw) fun x => ?_
  (refine Does.enter Tryz.func33 Tryz.ntmps33 rfl rfl ?_)
  (refine w ?_; repeat ((first | refine VO.step rfl rfl ?_ | refine VD.end rfl rfl rfl ?_ | refine VD.mid rfl rfl rfl ?_); refine OpV.box rfl rfl rfl ?_; intro _; refine w ?_))
  refine VO.ent (H' := RingR x.1 v.size v.tail v.used :: walRow wp b x.1 x.2 v :: logRes v.log x.2 :: R) Ent.re ?_
  ((first | refine VO.step rfl rfl ?_ | refine VD.end rfl rfl rfl ?_ | refine VD.mid rfl rfl rfl ?_); refine OpV.call rfl rfl (fun _ _ => by simp) (ringsize_ok x.1 v.size v.tail v.used) Ent.refl rfl ?_)
  intro _ _
  (refine w ?_; repeat ((first | refine VO.step rfl rfl ?_ | refine VD.end rfl rfl rfl ?_ | refine VD.mid rfl rfl rfl ?_); refine OpV.box rfl rfl rfl ?_; intro _; refine w ?_))
  exact VE.done1 rfl rfl (Ent.trans (Ent.re (L := WalO wp b x.1 x.2 v R)) (WalR.shut x.1 x.2))
theorem walsure_ok {W : World} {R : List SProp} (wp b : Nat) (v : WalD) : Does1 W Tryz.prog 31 [.pointer (some ⟨wp, 0, none⟩)] (WalR wp b v :: R) (.bool v.sure) (WalR wp b v :: R) := by
  refine DoesO (fun w hw => WalR.open hw) fun x => ?_
  (refine Does.enter Tryz.func31 Tryz.ntmps31 rfl rfl ?_)
  (refine w ?_; repeat ((first | refine VO.step rfl rfl ?_ | refine VD.end rfl rfl rfl ?_ | refine VD.mid rfl rfl rfl ?_); refine OpV.box rfl rfl rfl ?_; intro _; refine w ?_))
  exact VE.done1 rfl rfl (Ent.trans (Ent.re (L := WalO wp b x.1 x.2 v R)) (WalR.shut x.1 x.2))
end Go.Proofs.YtlojjlbngnaphaaGreat

/-! Text Uj, more of it. -/
set_option maxRecDepth 8000
set_option linter.unusedVariables false
set_option linter.unusedSimpArgs false
set_option linter.unusedSectionVars false
namespace Go.Proofs.YtlojjlbngnaphaaGreat
open Go.RowKit Go.Sl
attribute [local irreducible] Own

theorem opsC_one (l : List OpE) : ∀ u ∈ opsC l, u.oneCell' = true := by
  intro u hu; obtain ⟨p, _, h⟩ := List.mem_flatMap.1 hu; exact opE_one p u h
end Go.Proofs.YtlojjlbngnaphaaGreat

/-! Text Uq. -/
/- The journal's laws: a life: what was done: walked. -/
set_option maxRecDepth 8000
set_option linter.unusedVariables false
set_option linter.unusedSimpArgs false
set_option linter.unusedSectionVars false
namespace Go.Proofs.YtlojjlbngnaphaaGreat
open Go.RowKit Go.Sl
attribute [local irreducible] Own

structure LifeE where
  sealed : List PlsE
  sure : Nat
  logged : PlsE
abbrev nilPl : PlsE := ⟨none, 0, []⟩
abbrev OpE.pl (o : OpE) : PlsE := ⟨o.x.1, o.x.2, o.pats⟩
def LifeE.does (L : LifeE) (o : OpE) : LifeE :=
  if o.kind = 1 then ⟨L.sealed, L.sealed.length, o.pl⟩ else if o.kind = 2 then ⟨L.sealed ++ [L.logged], L.sure, nilPl⟩ else
  if o.kind = 3 then ⟨L.sealed, L.sealed.length, L.logged⟩ else if o.kind = 4 ∨ o.kind = 5 then ⟨[], 0, nilPl⟩ else L
end Go.Proofs.YtlojjlbngnaphaaGreat

/-! Text Ur. -/
/- The journal's laws: are these the first of those: walked. -/
set_option maxRecDepth 8000
set_option linter.unusedVariables false
set_option linter.unusedSimpArgs false
set_option linter.unusedSectionVars false
namespace Go.Proofs.YtlojjlbngnaphaaGreat
open Go.RowKit Go.Sl
attribute [local irreducible] Own

end Go.Proofs.YtlojjlbngnaphaaGreat

/-! Text Us. -/
/- The journal's laws: may these have been found: walked. -/
set_option maxRecDepth 8000
set_option linter.unusedVariables false
set_option linter.unusedSimpArgs false
set_option linter.unusedSectionVars false
namespace Go.Proofs.YtlojjlbngnaphaaGreat
open Go.RowKit Go.Sl
attribute [local irreducible] Own

end Go.Proofs.YtlojjlbngnaphaaGreat

/-! Text Ut. -/
/- The journal's laws: Sync and Reclaim with the power on; a life in memory and a life; what a cut leaves: plainly. -/
set_option maxRecDepth 8000
set_option linter.unusedVariables false
set_option linter.unusedSimpArgs false
set_option linter.unusedSectionVars false
namespace Go.Proofs.YtlojjlbngnaphaaGreat
open Go.RowKit Go.Sl
attribute [local irreducible] Own

section
variable {v : WalD} {k : DiskD} {base : Nat} {x : LifeD} {D : BayD} {s : Nat}
end
abbrev PlsE.T (q : PlsE) : List PatD := q.pats.map PatE.D
/-- A life in memory is this one. -/
structure Cor (W : World) (L : LifeE) (x : LifeD) : Prop where
  sealed : x.sealed = L.sealed.map PlsE.T
  sure : x.sure = L.sure
  logged : ∀ l, x.logged = some l → L.logged.T = l
  rd : ∀ q ∈ L.sealed, ∀ R, RdPats W R q.ao q.pats
  rdl : ∀ R, RdPats W R L.logged.ao L.logged.pats
theorem rdPats_nil {W : World} {R : List SProp} : RdPats W R none [] := by
  refine ⟨?_, fun p hp => (by cases hp), fun p hp => (by cases hp)⟩
  exact ⟨rfl, fun _ h => (by cases h), fun _ => rfl, fun _ _ _ h => (by cases h)⟩
theorem Cor.start (W : World) : Cor W ⟨[], 0, nilPl⟩ ⟨[], 0, none⟩ := ⟨rfl, rfl, fun l h => (by cases h), fun q h => (by cases h), fun R => rdPats_nil⟩
theorem Cor.does {W : World} {L : LifeE} {x : LifeD} (h : Cor W L x) {o : OpE} (ho : o.wf W) (h2 : o.kind = 2 → ∃ l, x.logged = some l) : Cor W (L.does o) (x.does o.kind.toNat (o.pats.map PatE.D)) := by
  have hlen : x.sealed.length = L.sealed.length := by rw [h.sealed, List.length_map]
  unfold LifeE.does
  by_cases k1 : o.kind = 1
  · rw [if_pos k1, k1]
    exact ⟨h.sealed, hlen, fun l hl => Option.some.inj hl, h.rd, ho.rd⟩
  by_cases k2 : o.kind = 2
  · rw [if_neg k1, if_pos k2]
    obtain ⟨l, hl⟩ := h2 k2
    rw [k2]
    refine ⟨?_, h.sure, fun l hl => (by cases hl), fun q hq => ?_, fun R => rdPats_nil⟩
    · show x.sealed ++ [x.logged.getD []] = (L.sealed ++ [L.logged]).map PlsE.T
      rw [h.sealed, hl, List.map_append, ← h.logged l hl]; rfl
    · rcases List.mem_append.1 hq with q1 | q1
      · exact h.rd q q1
      · rw [List.mem_singleton] at q1; subst q1; exact h.rdl
  by_cases k3 : o.kind = 3
  · rw [if_neg k1, if_neg k2, if_pos k3, k3]
    exact ⟨h.sealed, hlen, h.logged, h.rd, h.rdl⟩
  by_cases k45 : o.kind = 4 ∨ o.kind = 5
  · rw [if_neg k1, if_neg k2, if_neg k3, if_pos k45]
    have e : x.does o.kind.toNat (o.pats.map PatE.D) = ⟨[], 0, none⟩ := by rcases k45 with q | q <;> rw [q] <;> rfl
    rw [e]
    exact Cor.start W
  · rw [if_neg k1, if_neg k2, if_neg k3, if_neg k45]
    have e : x.does o.kind.toNat (o.pats.map PatE.D) = x := by
      unfold LifeD.does; split <;> first | rfl | (exfalso; omega)
    rw [e]; exact h
theorem seal_some {v : WalD} {k : DiskD} {base : Nat} {x : LifeD} {D : BayD} (h : LiveX v k base x) (h0 : (wSeal (v, D)).1 = 0) : ∃ l, x.logged = some l := by
  cases hl : x.logged with
  | some l => exact ⟨l, rfl⟩
  | none => rw [seal_none h.nob (h.nolg hl)] at h0; cases h0
end Go.Proofs.YtlojjlbngnaphaaGreat

/-! Text Uu. -/
/- The law WalForgets. -/
set_option maxRecDepth 8000
set_option linter.unusedVariables false
set_option linter.unusedSimpArgs false
set_option linter.unusedSectionVars false
namespace Go.Proofs.YtlojjlbngnaphaaGreat
open Go.RowKit Go.Sl
attribute [local irreducible] Own

/-- Calls that leave the checkpoint where it is, so many of them. -/
structure FInv (n c N base j : Nat) (v : WalD) (D : BayD) (x : LifeD) : Prop where
  slot : v.slot = 0
  size : v.size = n
  next : v.next ≤ 1 + N + j
  epoch : v.epoch ≤ 10 + N + j
  cap : D.capd (c + 4100 * j)
  calm : D.trip = -1
  pos : 1 ≤ base
  live : ∃ k, Pw D 0 k ∧ LiveX v k base x
  len : x.sealed.length ≤ j
theorem FInv.wok {n c N base j : Nat} {v : WalD} {D : BayD} {x : LifeD} (h : FInv n c N base j v D x) (hN : N ≤ 20000) (hj : j ≤ 20000) : v.ok := by
  obtain ⟨k, h1, h2⟩ := h.live
  have := h.next; have := h.epoch
  exact h2.wok (by omega) (by omega) h.pos
theorem FInv.step {n c N base j : Nat} {v : WalD} {D : BayD} {x : LifeD} (h : FInv n c N base j v D x) (hN : N ≤ 20000) (hj : j ≤ 20000) (kind : Nat) (hk : kind < 4) (ps : List PatD) :
    ((wDo (v, D) kind ps).1 = 0 → FInv n c N base (j + 1) (wDo (v, D) kind ps).2.1 (wDo (v, D) kind ps).2.2 (x.does kind ps)) ∧
    ((wDo (v, D) kind ps).1 ≠ 0 → FInv n c N base (j + 1) (wDo (v, D) kind ps).2.1 (wDo (v, D) kind ps).2.2 x) ∧
    (kind = 2 → (wDo (v, D) kind ps).1 = 0 → ∃ l, x.logged = some l) := by
  obtain ⟨k, h1, h2⟩ := h.live
  have hnx := h2.next
  have hn := h.next; have he := h.epoch; have hb1 := h.pos; have hlx := h.len
  have hcp := wDo_capd (v := v) h.cap kind ps
  have hs := step_ok h1 h.slot h2 kind ps ⟨by omega, by omega, by omega⟩
  have h3 : kind = 2 → (wDo (v, D) kind ps).1 = 0 → ∃ l, x.logged = some l := by
    rintro rfl h0; exact seal_some h2 h0
  generalize wDo (v, D) kind ps = r at hs hcp h3
  cases hs with
  | good k' base' hg hp hl hf hb hb2 =>
    dsimp only at hcp h3 ⊢
    refine ⟨fun _ => ⟨hg.slot.trans h.slot, hg.size.trans h.size, by rw [hg.next]; split <;> omega, by have := hg.epoch; omega, hcp.mono (by omega), hf.calm h.calm, h.pos, ⟨k', hp, by rw [hb hk] at hl; exact hl⟩, ?_⟩, fun q => absurd rfl q, h3⟩
    unfold LifeD.does
    split
    · show x.sealed.length ≤ _; omega
    · show (x.sealed ++ [x.logged.getD []]).length ≤ _; rw [List.length_append, List.length_singleton]; omega
    · show x.sealed.length ≤ _; omega
    · exact Nat.zero_le _
    · exact Nat.zero_le _
    · omega
  | no e h0 h5 =>
    dsimp only at hcp ⊢
    exact ⟨fun q => absurd q h0, fun _ => ⟨h.slot, h.size, by omega, by omega, h.cap.mono (by omega), h.calm, h.pos, ⟨k, h1, h2⟩, by omega⟩, fun _ q => absurd q h0⟩
  | dark k' ht hd hl => exact absurd h.calm ht
end Go.Proofs.YtlojjlbngnaphaaGreat

/-! Text Uw. -/
/- The journal's laws: much, of a script that lies in memory of one's own; WalUnsealed, plainly. -/
set_option maxRecDepth 8000
set_option linter.unusedVariables false
set_option linter.unusedSimpArgs false
set_option linter.unusedSectionVars false
namespace Go.Proofs.YtlojjlbngnaphaaGreat
open Go.RowKit Go.Sl
attribute [local irreducible] Own

theorem wmuchR_ok {W : World} {R : List SProp} {ao : Option Addr} {cap : Nat} {l : List OpE} (hr : Rds W R 4 ao l.length (opsC l)) (hwf : ∀ o ∈ l, o.wf W) (hll : l.length ≤ 140737488351232) :
    Does W Tryz.prog 12 [.slice ao l.length cap] R (β := Bool) (fun b => b = false → FewO l) (fun b => .bool b) (fun _ => R) := by
  (refine Does.enter Tryz.func12 Tryz.ntmps12 rfl rfl ?_)
  (refine w ?_; repeat ((first | refine VO.step rfl rfl ?_ | refine VD.end rfl rfl rfl ?_ | refine VD.mid rfl rfl rfl ?_); refine OpV.box rfl rfl rfl ?_; intro _; refine w ?_))
  refine VC.loop (α := Nat × Nat) (fun y => y.1 ≤ l.length ∧ y.1 ≤ y.2 ∧ y.2 ≤ 1407374883512320 ∧ ∀ x ∈ l.take y.1, x.pats.length ≤ y.2 ∧ x.keep.length ≤ y.2) (fun _ => R) (fun y => [(0, .slice ao l.length cap), (3, .int .i64 y.2), (4, .int .i64 y.1)]) (fun y => l.length - y.1) rfl (0, 0) ⟨Nat.zero_le _, Nat.le_refl _, by simp only; omega, by simp⟩ Ent.refl ⟨rfl, rfl, rfl, trivial⟩ ?_
  rintro ⟨i, n⟩ ⟨hi, h1, h2, h3⟩
  dsimp only at hi h1 h2 h3 ⊢
  (refine w ?_; repeat ((first | refine VO.step rfl rfl ?_ | refine VD.end rfl rfl rfl ?_ | refine VD.mid rfl rfl rfl ?_); refine OpV.box rfl rfl rfl ?_; intro _; refine w ?_))
  ((first | refine VO.split rfl rfl rfl ?_ ?_ | refine VD.split rfl rfl rfl ?_ ?_) <;> intro hb)
  · have hlt : i < l.length := by have := of_decide_eq_true hb; omega
    obtain ⟨a, rfl⟩ := some_of_pos hr.nil (by omega)
    have hw := hwf _ (List.getElem_mem hlt)
    have hpl := hw.len
    have hkl := hw.klen
    (refine w ?_; repeat ((first | refine VO.step rfl rfl ?_ | refine VD.end rfl rfl rfl ?_ | refine VD.mid rfl rfl rfl ?_); refine OpV.box rfl rfl rfl ?_; intro _; refine w ?_))
    (refine VC.cond rfl rfl ?_ ?_ <;> intro hc)
    · have hle : n ≤ 5000 := by have := of_decide_eq_true hc; omega
      (refine w ?_; repeat ((first | refine VO.step rfl rfl ?_ | refine VD.end rfl rfl rfl ?_ | refine VD.mid rfl rfl rfl ?_); refine OpV.box rfl rfl rfl ?_; intro _; refine w ?_))
      ((refine VC.quiet rfl (by kernel_rfl) (by kernel_rfl) ?_); (refine w ?_; repeat ((first | refine VO.step rfl rfl ?_ | refine VD.end rfl rfl rfl ?_ | refine VD.mid rfl rfl rfl ?_); refine OpV.box rfl rfl rfl ?_; intro _; refine w ?_)))
      (first | refine VO.pure rfl rfl (PureAt.ldRc tab_ok rfl rfl hr (opsC_get l i 2 hlt (by decide))) rfl ?_ | refine VD.take rfl rfl rfl (PureAt.ldRc tab_ok rfl rfl hr (opsC_get l i 2 hlt (by decide))) rfl ?_ | refine VQ.pure rfl rfl (PureAt.ldRc tab_ok rfl rfl hr (opsC_get l i 2 hlt (by decide))) rfl ?_ | refine VD.end rfl rfl rfl (OpV.pure (PureAt.ldRc tab_ok rfl rfl hr (opsC_get l i 2 hlt (by decide))) rfl ?_))
      (refine w ?_; repeat ((first | refine VO.step rfl rfl ?_ | refine VD.end rfl rfl rfl ?_ | refine VD.mid rfl rfl rfl ?_); refine OpV.box rfl rfl rfl ?_; intro _; refine w ?_))
      (first | refine VO.pure rfl rfl (PureAt.ldRc tab_ok rfl rfl hr (opsC_get l i 3 hlt (by decide))) rfl ?_ | refine VD.take rfl rfl rfl (PureAt.ldRc tab_ok rfl rfl hr (opsC_get l i 3 hlt (by decide))) rfl ?_ | refine VQ.pure rfl rfl (PureAt.ldRc tab_ok rfl rfl hr (opsC_get l i 3 hlt (by decide))) rfl ?_ | refine VD.end rfl rfl rfl (OpV.pure (PureAt.ldRc tab_ok rfl rfl hr (opsC_get l i 3 hlt (by decide))) rfl ?_))
      (refine w ?_; repeat ((first | refine VO.step rfl rfl ?_ | refine VD.end rfl rfl rfl ?_ | refine VD.mid rfl rfl rfl ?_); refine OpV.box rfl rfl rfl ?_; intro _; refine w ?_))
      refine VC.re 3 (.int .i64 ((n + (1 + l[i].pats.length + l[i].keep.length) : Nat) : Int)) rfl (by congr 1) ?_
      (refine w ?_; repeat ((first | refine VO.step rfl rfl ?_ | refine VD.end rfl rfl rfl ?_ | refine VD.mid rfl rfl rfl ?_); refine OpV.box rfl rfl rfl ?_; intro _; refine w ?_))
      refine VC.loop (α := Nat × Nat) (fun y => y.1 ≤ l[i].pats.length ∧ n + (1 + l[i].pats.length + l[i].keep.length) ≤ y.2 ∧ y.2 ≤ 1407374883512320) (fun _ => R) (fun y => [(0, .slice (some a) l.length cap), (3, .int .i64 y.2), (4, .int .i64 i), (5, .int .i64 y.1)]) (fun y => l[i].pats.length - y.1) rfl (0, n + (1 + l[i].pats.length + l[i].keep.length)) ⟨Nat.zero_le _, Nat.le_refl _, by simp only; omega⟩ Ent.refl ⟨rfl, rfl, rfl, rfl, trivial⟩ ?_
      rintro ⟨k, m⟩ ⟨hk, g1, g2⟩
      dsimp only at hk g1 g2 ⊢
      (refine w ?_; repeat ((first | refine VO.step rfl rfl ?_ | refine VD.end rfl rfl rfl ?_ | refine VD.mid rfl rfl rfl ?_); refine OpV.box rfl rfl rfl ?_; intro _; refine w ?_))
      (first | refine VO.pure rfl rfl (PureAt.ldRc tab_ok rfl rfl hr (opsC_get l i 2 hlt (by decide))) rfl ?_ | refine VD.take rfl rfl rfl (PureAt.ldRc tab_ok rfl rfl hr (opsC_get l i 2 hlt (by decide))) rfl ?_ | refine VQ.pure rfl rfl (PureAt.ldRc tab_ok rfl rfl hr (opsC_get l i 2 hlt (by decide))) rfl ?_ | refine VD.end rfl rfl rfl (OpV.pure (PureAt.ldRc tab_ok rfl rfl hr (opsC_get l i 2 hlt (by decide))) rfl ?_))
      (refine w ?_; repeat ((first | refine VO.step rfl rfl ?_ | refine VD.end rfl rfl rfl ?_ | refine VD.mid rfl rfl rfl ?_); refine OpV.box rfl rfl rfl ?_; intro _; refine w ?_))
      have hend : ∀ x ∈ l.take (i + 1), x.pats.length ≤ m ∧ x.keep.length ≤ m := by
        intro x hx
        rw [List.take_succ_eq_append_getElem hlt, List.mem_append, List.mem_singleton] at hx
        rcases hx with h | h
        · have := h3 x h; omega
        · subst h; omega
      ((first | refine VO.split rfl rfl rfl ?_ ?_ | refine VD.split rfl rfl rfl ?_ ?_) <;> intro hb)
      · have hkt : k < l[i].pats.length := by have := of_decide_eq_true hb; omega
        have hrp := hw.rd R
        obtain ⟨pa, hpa⟩ := some_of_pos hrp.rds.nil (by omega)
        rw [hpa] at hrp
        have hfl := (hw.fit _ (List.getElem_mem hkt)).len
        (refine w ?_; repeat ((first | refine VO.step rfl rfl ?_ | refine VD.end rfl rfl rfl ?_ | refine VD.mid rfl rfl rfl ?_); refine OpV.box rfl rfl rfl ?_; intro _; refine w ?_))
        (refine VC.cond rfl rfl ?_ ?_ <;> intro hc)
        · have hle2 : m ≤ 5000 := by have := of_decide_eq_true hc; omega
          (refine w ?_; repeat ((first | refine VO.step rfl rfl ?_ | refine VD.end rfl rfl rfl ?_ | refine VD.mid rfl rfl rfl ?_); refine OpV.box rfl rfl rfl ?_; intro _; refine w ?_))
          (first | refine VO.pure rfl rfl (PureAt.ldRc tab_ok rfl rfl hr (show (opsC l)[i * 4 + 2]? = some (.slice (some pa) l[i].pats.length l[i].x.2) by rw [opsC_get l i 2 hlt (by decide), ← hpa]; rfl)) rfl ?_ | refine VD.take rfl rfl rfl (PureAt.ldRc tab_ok rfl rfl hr (show (opsC l)[i * 4 + 2]? = some (.slice (some pa) l[i].pats.length l[i].x.2) by rw [opsC_get l i 2 hlt (by decide), ← hpa]; rfl)) rfl ?_ | refine VQ.pure rfl rfl (PureAt.ldRc tab_ok rfl rfl hr (show (opsC l)[i * 4 + 2]? = some (.slice (some pa) l[i].pats.length l[i].x.2) by rw [opsC_get l i 2 hlt (by decide), ← hpa]; rfl)) rfl ?_ | refine VD.end rfl rfl rfl (OpV.pure (PureAt.ldRc tab_ok rfl rfl hr (show (opsC l)[i * 4 + 2]? = some (.slice (some pa) l[i].pats.length l[i].x.2) by rw [opsC_get l i 2 hlt (by decide), ← hpa]; rfl)) rfl ?_))
          (refine w ?_; repeat ((first | refine VO.step rfl rfl ?_ | refine VD.end rfl rfl rfl ?_ | refine VD.mid rfl rfl rfl ?_); refine OpV.box rfl rfl rfl ?_; intro _; refine w ?_))
          (first | refine VO.pure rfl rfl (PureAt.ldRc tab_ok rfl rfl hrp.rds (pat_get l[i].pats k 2 hkt (by decide))) rfl ?_ | refine VD.take rfl rfl rfl (PureAt.ldRc tab_ok rfl rfl hrp.rds (pat_get l[i].pats k 2 hkt (by decide))) rfl ?_ | refine VQ.pure rfl rfl (PureAt.ldRc tab_ok rfl rfl hrp.rds (pat_get l[i].pats k 2 hkt (by decide))) rfl ?_ | refine VD.end rfl rfl rfl (OpV.pure (PureAt.ldRc tab_ok rfl rfl hrp.rds (pat_get l[i].pats k 2 hkt (by decide))) rfl ?_))
          (refine w ?_; repeat ((first | refine VO.step rfl rfl ?_ | refine VD.end rfl rfl rfl ?_ | refine VD.mid rfl rfl rfl ?_); refine OpV.box rfl rfl rfl ?_; intro _; refine w ?_))
          (first | refine VO.pure rfl rfl (PureAt.quo (a := l[i].pats[k].d.data.length) (b := 64) rfl rfl (by decide) (IntWalk.i64_in _ ⟨by omega, by omega⟩)) rfl ?_ | refine VD.take rfl rfl rfl (PureAt.quo (a := l[i].pats[k].d.data.length) (b := 64) rfl rfl (by decide) (IntWalk.i64_in _ ⟨by omega, by omega⟩)) rfl ?_ | refine VQ.pure rfl rfl (PureAt.quo (a := l[i].pats[k].d.data.length) (b := 64) rfl rfl (by decide) (IntWalk.i64_in _ ⟨by omega, by omega⟩)) rfl ?_ | refine VD.end rfl rfl rfl (OpV.pure (PureAt.quo (a := l[i].pats[k].d.data.length) (b := 64) rfl rfl (by decide) (IntWalk.i64_in _ ⟨by omega, by omega⟩)) rfl ?_))
          (refine w ?_; repeat ((first | refine VO.step rfl rfl ?_ | refine VD.end rfl rfl rfl ?_ | refine VD.mid rfl rfl rfl ?_); refine OpV.box rfl rfl rfl ?_; intro _; refine w ?_))
          refine VE.round (k + 1, m + l[i].pats[k].d.data.length / 64) ⟨hkt, by simp only; omega, by simp only; omega⟩ (by simp only; omega) ⟨rfl, asV rfl (by congr 1), rfl, asV rfl (by congr 1), trivial⟩ Ent.refl
        · (refine w ?_; repeat ((first | refine VO.step rfl rfl ?_ | refine VD.end rfl rfl rfl ?_ | refine VD.mid rfl rfl rfl ?_); refine OpV.box rfl rfl rfl ?_; intro _; refine w ?_))
          refine VE.round (i + 1, m) ⟨hlt, by simp only; omega, by simp only; omega, hend⟩ (by simp only; omega) ⟨rfl, rfl, asV rfl (by congr 1), trivial⟩ Ent.refl
      · (refine w ?_; repeat ((first | refine VO.step rfl rfl ?_ | refine VD.end rfl rfl rfl ?_ | refine VD.mid rfl rfl rfl ?_); refine OpV.box rfl rfl rfl ?_; intro _; refine w ?_))
        (refine w ?_; repeat ((first | refine VO.step rfl rfl ?_ | refine VD.end rfl rfl rfl ?_ | refine VD.mid rfl rfl rfl ?_); refine OpV.box rfl rfl rfl ?_; intro _; refine w ?_))
        refine VE.round (i + 1, m) ⟨hlt, by simp only; omega, by simp only; omega, hend⟩ (by simp only; omega) ⟨rfl, rfl, asV rfl (by congr 1), trivial⟩ Ent.refl
    · have hgt : 5000 < n := by have := of_decide_eq_false hc; omega
      (refine w ?_; repeat ((first | refine VO.step rfl rfl ?_ | refine VD.end rfl rfl rfl ?_ | refine VD.mid rfl rfl rfl ?_); refine OpV.box rfl rfl rfl ?_; intro _; refine w ?_))
      refine VE.done true rfl (by simp) (by congr 1; simp; omega) Ent.refl
  · have hge : i = l.length := by have := of_decide_eq_false hb; omega
    subst hge
    rw [List.take_length] at h3
    (refine w ?_; repeat ((first | refine VO.step rfl rfl ?_ | refine VD.end rfl rfl rfl ?_ | refine VD.mid rfl rfl rfl ?_); refine OpV.box rfl rfl rfl ?_; intro _; refine w ?_))
    (refine w ?_; repeat ((first | refine VO.step rfl rfl ?_ | refine VD.end rfl rfl rfl ?_ | refine VD.mid rfl rfl rfl ?_); refine OpV.box rfl rfl rfl ?_; intro _; refine w ?_))
    refine VE.done (decide (5000 < n)) rfl (fun q => ?_) (by congr 1; rw [decide_eq_decide]; omega) Ent.refl
    have hq : ¬ 5000 < n := of_decide_eq_false q
    exact ⟨by omega, fun p hp => by have := h3 p hp; omega⟩
/-- A life over all kinds of calls, the power being on. -/
structure UInv (n c j : Nat) (v : WalD) (D : BayD) (x : LifeD) : Prop where
  slot : v.slot = 0
  size : v.size = n
  next : v.next ≤ 1 + j
  epoch : v.epoch ≤ 10 + j
  cap : D.capd (c + 4100 * j)
  calm : D.trip = -1
  live : ∃ k base, 1 ≤ base ∧ Pw D 0 k ∧ LiveX v k base x
  len : x.sealed.length ≤ j
theorem UInv.wok {n c j : Nat} {v : WalD} {D : BayD} {x : LifeD} (h : UInv n c j v D x) (hj : j ≤ 20000) : v.ok := by
  obtain ⟨k, base, h3, h1, h2⟩ := h.live
  have := h.next; have := h.epoch
  exact h2.wok (by omega) (by omega) h3
theorem UInv.step {n c j : Nat} {v : WalD} {D : BayD} {x : LifeD} (h : UInv n c j v D x) (hj : j ≤ 20000) (kind : Nat) (ps : List PatD) :
    ((wDo (v, D) kind ps).1 = 0 → UInv n c (j + 1) (wDo (v, D) kind ps).2.1 (wDo (v, D) kind ps).2.2 (x.does kind ps)) ∧
    ((wDo (v, D) kind ps).1 ≠ 0 → UInv n c (j + 1) (wDo (v, D) kind ps).2.1 (wDo (v, D) kind ps).2.2 x ∧ (wDo (v, D) kind ps).2.1 = v) ∧
    (kind = 2 → (wDo (v, D) kind ps).1 = 0 → ∃ l, x.logged = some l) := by
  obtain ⟨k, base, h3, h1, h2⟩ := h.live
  have hnx := h2.next
  have hn := h.next; have he := h.epoch; have hlx := h.len
  have hcp := wDo_capd (v := v) h.cap kind ps
  have hs := step_ok h1 h.slot h2 kind ps ⟨by omega, by omega, by omega⟩
  have h4 : kind = 2 → (wDo (v, D) kind ps).1 = 0 → ∃ l, x.logged = some l := by
    rintro rfl h0; exact seal_some h2 h0
  generalize wDo (v, D) kind ps = r at hs hcp h4
  cases hs with
  | good k' base' hg hp hl hf hb hb2 =>
    dsimp only at hcp h4 ⊢
    have hb1 : 1 ≤ base' := by
      by_cases q : kind < 4
      · rw [hb q]; exact h3
      · by_cases q2 : kind ≤ 5
        · rw [hb2 (by omega) q2]; omega
        · have hl1 := hl.next
          rw [hg.next, if_neg (by omega)] at hl1
          have : x.does kind ps = x := by
            unfold LifeD.does; split <;> first | rfl | (exfalso; omega)
          rw [this] at hl1
          omega
    refine ⟨fun _ => ⟨hg.slot.trans h.slot, hg.size.trans h.size, by rw [hg.next]; split <;> omega, by have := hg.epoch; omega, hcp.mono (by omega), hf.calm h.calm, ⟨k', base', hb1, hp, hl⟩, ?_⟩, fun q => absurd rfl q, h4⟩
    unfold LifeD.does
    split
    · show x.sealed.length ≤ _; omega
    · show (x.sealed ++ [x.logged.getD []]).length ≤ _; rw [List.length_append, List.length_singleton]; omega
    · show x.sealed.length ≤ _; omega
    · exact Nat.zero_le _
    · exact Nat.zero_le _
    · omega
  | no e h0 h5 =>
    dsimp only at hcp ⊢
    exact ⟨fun q => absurd q h0, fun _ => ⟨⟨h.slot, h.size, by omega, by omega, h.cap.mono (by omega), h.calm, ⟨k, base, h3, h1, h2⟩, by omega⟩, rfl⟩, fun _ q => absurd q h0⟩
  | dark k' ht hd hl => exact absurd h.calm ht
end Go.Proofs.YtlojjlbngnaphaaGreat

/-! Text Ux. -/
/- The law WalUnsealed: walked. -/
set_option maxRecDepth 8000
set_option linter.unusedVariables false
set_option linter.unusedSimpArgs false
set_option linter.unusedSectionVars false
namespace Go.Proofs.YtlojjlbngnaphaaGreat
open Go.RowKit Go.Sl
attribute [local irreducible] Own

theorem nilBoolsA {W : World} : RdsA W 1 none 0 (bools []) := fun H => by
  refine ⟨rfl, fun _ h => (by cases h), fun _ => rfl, fun _ _ _ h => (by cases h)⟩
end Go.Proofs.YtlojjlbngnaphaaGreat

/-! Text Uo. -/
/- The journal's laws: how many operations a call does: plainly. -/
set_option maxRecDepth 8000
set_option linter.unusedVariables false
set_option linter.unusedSimpArgs false
set_option linter.unusedSectionVars false
namespace Go.Proofs.YtlojjlbngnaphaaGreat
open Go.RowKit Go.Sl
attribute [local irreducible] Own

structure CntD.sm (c : CntD) (m : Nat) : Prop where
  r : 0 ≤ c.r ∧ c.r ≤ m
  w : 0 ≤ c.w ∧ c.w ≤ m
  f : 0 ≤ c.f ∧ c.f ≤ m
theorem CntD.sm.mono {c : CntD} {m m' : Nat} (h : c.sm m) (hm : m ≤ m') : c.sm m' := ⟨by have := h.r; omega, by have := h.w; omega, by have := h.f; omega⟩
theorem incs (c : CntD) (m a b : Nat) (h : c.sm m) (hm : m + a + b ≤ 1000000000) : (List.replicate a 1 ++ List.replicate b 2).foldl CntD.inc c = ⟨c.r, c.w + a, c.f + b⟩ := by
  obtain ⟨h1, h2, h3⟩ := h
  have hw : ∀ (a : Nat) (c : CntD), 0 ≤ c.w → c.w + a ≤ 1000000000 → (List.replicate a 1).foldl CntD.inc c = ⟨c.r, c.w + a, c.f⟩ := by
    intro a
    induction a with
    | zero => intro c _ _; simp
    | succ a ih =>
      intro c q1 q2
      rw [List.replicate_succ, List.foldl_cons]
      have e : c.inc 1 = ⟨c.r, c.w + 1, c.f⟩ := by
        show CntD.mk c.r (IntKind.i64.wrap (c.w + 1)) c.f = _
        rw [IntWalk.i64_in _ ⟨by omega, by omega⟩]
      rw [e, ih _ (by show 0 ≤ c.w + 1; omega) (by show c.w + 1 + a ≤ _; omega)]
      show CntD.mk c.r (c.w + 1 + a) c.f = _
      congr 1; omega
  have hf : ∀ (a : Nat) (c : CntD), 0 ≤ c.f → c.f + a ≤ 1000000000 → (List.replicate a 2).foldl CntD.inc c = ⟨c.r, c.w, c.f + a⟩ := by
    intro a
    induction a with
    | zero => intro c _ _; simp
    | succ a ih =>
      intro c q1 q2
      rw [List.replicate_succ, List.foldl_cons]
      have e : c.inc 2 = ⟨c.r, c.w, c.f + 1⟩ := by
        show CntD.mk c.r c.w (IntKind.i64.wrap (c.f + 1)) = _
        rw [IntWalk.i64_in _ ⟨by omega, by omega⟩]
      rw [e, ih _ (by show 0 ≤ c.f + 1; omega) (by show c.f + 1 + a ≤ _; omega)]
      show CntD.mk c.r c.w (c.f + 1 + a) = _
      congr 1; omega
  rw [List.foldl_append, hw a c h2.1 (by omega)]
  exact hf b ⟨c.r, c.w + a, c.f⟩ h3.1 (by show c.f + b ≤ _; omega)
/-- Writes and flushes of a call that is done. -/
def wOf (kind : Nat) (len : Nat) : Nat := match kind with
  | 1 => 2 * len
  | 2 => 1
  | 4 => 1
  | 5 => 1
  | _ => 0
def fOf (kind : Nat) (sure : Bool) : Nat := match kind with
  | 1 => 1
  | 3 => if sure then 0 else 1
  | 4 => 1
  | 5 => 1
  | _ => 0
theorem ops_are (v : WalD) (kind : Nat) (ps : List PatD) : opsOf v kind ps = List.replicate (wOf kind ps.length) 1 ++ List.replicate (fOf kind v.sure) 2 := by
  unfold opsOf wOf fOf
  split
  · rfl
  · rfl
  · split <;> rfl
  · rfl
  · rfl
  · rename_i h1 h2 h3 h4 h5
    split
    · exact absurd rfl h1
    · exact absurd rfl h2
    · exact absurd rfl h4
    · exact absurd rfl h5
    · split
      · exact absurd rfl h1
      · exact absurd rfl h3
      · exact absurd rfl h4
      · exact absurd rfl h5
      · rfl
/-- So many calls behind the beginning: the counts too. -/
structure CInv (n c i : Nat) (v : WalD) (D : BayD) : Prop where
  inv : LInv n c i v D
  sm : D.n.sm (3000 * (i + 1))
theorem CInv.step {n c i : Nat} {v : WalD} {D : BayD} (h : CInv n c i v D) (hi : i ≤ 20000) (kind : Nat) (ps : List PatD) :
    CInv n c (i + 1) (wDo (v, D) kind ps).2.1 (wDo (v, D) kind ps).2.2 ∧
    (wDo (v, D) kind ps).2.2.n = (if (wDo (v, D) kind ps).1 = 0 then ⟨D.n.r, D.n.w + wOf kind ps.length, D.n.f + fOf kind v.sure⟩ else D.n) ∧
    (kind = 1 → (wDo (v, D) kind ps).1 = 0 → 1 ≤ ps.length ∧ ps.length ≤ 1023) := by
  have hs1 := (h.inv.step hi kind ps).1
  have hlen : kind = 1 → (wDo (v, D) kind ps).1 = 0 → 1 ≤ ps.length ∧ ps.length ≤ 1023 := by
    rintro rfl h0
    obtain ⟨k, base, x, h1, h2, h3⟩ := h.inv.live
    by_cases hn : logNo v ps
    · obtain ⟨e, q0, q5, he⟩ := log_refused (D := D) h2.nob hn
      rw [show wDo (v, D) 1 ps = wLog (v, D) ps from rfl, he] at h0
      exact absurd h0 q0
    · have := (log_fine hn).1; exact ⟨this.n1, this.n2⟩
  have hcnt : (wDo (v, D) kind ps).2.2.n = (if (wDo (v, D) kind ps).1 = 0 then ⟨D.n.r, D.n.w + wOf kind ps.length, D.n.f + fOf kind v.sure⟩ else D.n) := by
    obtain ⟨k, base, x, h1, h2, h3⟩ := h.inv.live
    have hn := h.inv.next; have he := h.inv.epoch
    have hnx := h2.next
    have hs := step_ok h1 h.inv.slot h2 kind ps ⟨by omega, by omega, by omega⟩
    generalize wDo (v, D) kind ps = r at hs hlen ⊢
    cases hs with
    | good k' base' hg hp hl hf hb hb2 =>
      dsimp only at hlen ⊢
      rw [if_pos rfl, hf.cnt, ops_are]
      have hw : wOf kind ps.length ≤ 2046 := by
        unfold wOf; split
        · have := hlen rfl rfl; omega
        · omega
        · omega
        · omega
        · omega
      have hff : fOf kind v.sure ≤ 1 := by
        unfold fOf; split
        · omega
        · split <;> omega
        · omega
        · omega
        · omega
      exact incs _ _ _ _ h.sm (by omega)
    | no e h0 h5 => dsimp only; rw [if_neg h0]
    | dark k' ht hd hl => exact absurd h.inv.calm ht
  refine ⟨⟨hs1, ?_⟩, hcnt, hlen⟩
  rw [hcnt]
  have hq := h.sm
  split
  · rename_i h0
    have hw : wOf kind ps.length ≤ 2046 := by
      unfold wOf; split
      · have := hlen rfl h0; omega
      · omega
      · omega
      · omega
      · omega
    have hff : fOf kind v.sure ≤ 1 := by
      unfold fOf; split
      · omega
      · split <;> omega
      · omega
      · omega
      · omega
    obtain ⟨a, b, c⟩ := hq
    exact ⟨by dsimp only; omega, by dsimp only; omega, by dsimp only; omega⟩
  · exact hq.mono (by omega)
end Go.Proofs.YtlojjlbngnaphaaGreat

/-! Text Tc. -/
/- The law WalRefuses, plainly: what a Log is refused for; noughts as patches; two disks alike. -/
set_option maxRecDepth 8000
set_option linter.unusedVariables false
set_option linter.unusedSimpArgs false
set_option linter.unusedSectionVars false
namespace Go.Proofs.YtlojjlbngnaphaaGreat
open Go.RowKit Go.Sl
attribute [local irreducible] Own

theorem madeCells_rep (zs : List Value) (h0 : 0 < zs.length) (n : Nat) : (madeCells zs.toArray (n * zs.length)).toList = (List.replicate n zs).flatten := by
  refine List.ext_getElem ?_ fun i h1 h2 => ?_
  · have : ∀ n : Nat, (List.replicate n zs).flatten.length = n * zs.length := by
      intro n
      induction n with
      | zero => simp
      | succ n ih => rw [List.replicate_succ, List.flatten_cons, List.length_append, ih, Nat.add_mul]; omega
    rw [this]; simp [madeCells]
  · have hi : i < n * zs.length := by simpa [madeCells] using h1
    have hq : (List.replicate n zs).flatten[i]? = zs[i % zs.length]? := by
      clear h1 h2
      induction n generalizing i with
      | zero => omega
      | succ n ih =>
        rw [List.replicate_succ, List.flatten_cons]
        rcases Nat.lt_or_ge i zs.length with h | h
        · rw [List.getElem?_append_left h, Nat.mod_eq_of_lt h]
        · rw [List.getElem?_append_right h, ih (i - zs.length) (by rw [Nat.add_mul] at hi; omega), ← Nat.mod_eq_sub_mod h]
    have hm : i % zs.length < zs.length := Nat.mod_lt _ h0
    rw [List.getElem?_eq_getElem h2, List.getElem?_eq_getElem hm] at hq
    injection hq with hq
    rw [hq]
    simp [madeCells, hm]
abbrev patZ : PatE := ⟨0, 0, ⟨none, 0, []⟩⟩
theorem patZ_cells (n : Nat) : patCells (List.replicate n patZ) = (madeCells (Value.agg #[.int .i64 0, .int .i64 0, .slice none 0 0]).cells (n * 3)).toList := by
  have h := madeCells_rep [.int .i64 0, .int .i64 0, .slice none 0 0] (by decide) n
  show (List.replicate n patZ).flatMap PatE.cells = _
  rw [List.flatMap_def, List.map_replicate]
  exact h.symm
theorem patZ_rds {W : World} {H : List SProp} {ao : Option Addr} {n : Nat} (hn : ao = none → n = 0) (m : Sl.Own 105 3 (.slice ao n n) n (patCells (List.replicate n patZ)) ∈ H) : RdPats W H ao (List.replicate n patZ) := by
  have hl : (List.replicate n patZ).length = n := List.length_replicate
  refine ⟨?_, fun p hp => ?_, fun p hp => ?_⟩
  · rw [hl]
    exact Rds.own (pats_one _) m (by rw [pats_len, hl]) hn
  · rw [List.eq_of_mem_replicate hp]
    exact ⟨rfl, fun _ h => (by cases h), fun _ => rfl, fun _ _ _ h => (by cases h)⟩
  · rw [List.eq_of_mem_replicate hp]
    exact ⟨fun _ => rfl, Nat.le_refl _⟩
theorem log_nil {v : WalD} {D : BayD} (hb : v.broken = 0) : wLog (v, D) [] = (1, (v, D)) := by
  unfold wLog
  rw [if_neg (by dsimp only; rw [hb]; simp)]
  have : secsM v.epoch v.next [] = (1, []) := if_pos (.inl (by decide))
  dsimp only
  rw [this]
  rfl
theorem log_zeros {v : WalD} {D : BayD} {n : Nat} (hb : v.broken = 0) (hn : 0 < n) : ∃ e, e ≠ 0 ∧ wLog (v, D) ((List.replicate n patZ).map PatE.D) = (e, (v, D)) := by
  obtain ⟨e, h0, -, he⟩ := log_refused (v := v) (D := D) (ps := (List.replicate n patZ).map PatE.D) hb (by
    left
    unfold secsM
    split
    · decide
    · split
      · decide
      · split
        · decide
        · rename_i h
          exact absurd ⟨patZ.D, List.mem_map_of_mem (List.mem_replicate.2 ⟨by omega, rfl⟩), by decide⟩ h)
  exact ⟨e, h0, he⟩
theorem log_full {v : WalD} {D : BayD} {ps : List PatD} (hb : v.broken = 0) (h : (v.size : Int) - v.used < 2 * ps.length + 1) : ∃ e, e ≠ 0 ∧ wLog (v, D) ps = (e, (v, D)) := by
  obtain ⟨e, h0, -, he⟩ := log_refused (D := D) hb (show logNo v ps from .inr (.inr (by omega)))
  exact ⟨e, h0, he⟩
theorem beg_cinv {n : Nat} (hn : 5 ≤ n ∧ n ≤ 2048) : CInv n (n + 2) 0 (fresh0 0 1 n) (begD n) := by
  obtain ⟨e1, k', e2, e3, e4⟩ := beg_live hn
  refine ⟨⟨rfl, rfl, by show 1 ≤ 1; decide, by show 1 ≤ 9; decide, (beg_capd n).mono (by omega), e4.calm rfl, k', 1, _, e2, e3, Nat.le_refl _⟩, ?_⟩
  rw [e4.cnt]
  have : (List.replicate n 1 ++ [1, 2]) = List.replicate (n + 1) 1 ++ List.replicate 1 2 := by
    rw [List.replicate_succ', List.append_assoc]; rfl
  rw [this, incs _ 0 _ _ ⟨by show (0 : Int) ≤ 0 ∧ (0 : Int) ≤ ((0 : Nat) : Int); decide, by show (0 : Int) ≤ 0 ∧ (0 : Int) ≤ ((0 : Nat) : Int); decide, by show (0 : Int) ≤ 0 ∧ (0 : Int) ≤ ((0 : Nat) : Int); decide⟩ (by omega)]
  exact ⟨by show (0 : Int) ≤ 0 ∧ (0 : Int) ≤ _; omega, by show (0 : Int) ≤ 0 + ((n + 1 : Nat) : Int) ∧ (0 : Int) + ((n + 1 : Nat) : Int) ≤ _; omega, by show (0 : Int) ≤ 0 + ((1 : Nat) : Int) ∧ (0 : Int) + ((1 : Nat) : Int) ≤ _; omega⟩
theorem CInv.nob {n c i : Nat} {v : WalD} {D : BayD} (h : CInv n c i v D) : v.broken = 0 := by
  obtain ⟨k, base, x, h1, h2, h3⟩ := h.inv.live
  exact h2.nob
theorem CInv.wfn {n c i : Nat} {v : WalD} {D : BayD} (h : CInv n c i v D) (hi : i ≤ 20000) : (Lit.int .i64 D.n.r).wf = true ∧ (Lit.int .i64 D.n.w).wf = true ∧ (Lit.int .i64 D.n.f).wf = true := by
  obtain ⟨a, b, c⟩ := h.sm
  have key : ∀ x : Int, 0 ≤ x ∧ x ≤ ((3000 * (i + 1) : Nat) : Int) → (Lit.int .i64 x).wf = true := by
    intro x hx
    show (decide ((-9223372036854775808 : Int) ≤ x) && decide (x ≤ 9223372036854775807)) = true
    rw [decide_eq_true (show (-9223372036854775808 : Int) ≤ x by omega), decide_eq_true (show x ≤ 9223372036854775807 by omega)]; rfl
  exact ⟨key _ a, key _ b, key _ c⟩
/-- An image of a disk that is there, behind a cut. -/
theorem img_cut {D : BayD} {k : DiskD} (h : D.slots[0]? = some ⟨some ⟨k, false, 0⟩, none, none⟩) (hf : k.failed = false) : ((D.cut []).image 0).2 = 0 ∧ ((D.cut []).image 0).1 = ((k.settle (keepOf [])).last).flatten := by
  obtain ⟨hp, ht⟩ := cut_pw h hf []
  have hd := slot_dev hp.slot
  unfold BayD.image
  rw [show (0 : Int) = ((0 : Nat) : Int) from rfl, hd]
  refine ⟨rfl, ?_⟩
  show DiskD.img (k.settle (keepOf [])) = _
  unfold DiskD.img
  have hl : (k.settle (keepOf [])).failed = false := hp.live
  rw [if_neg (by rw [hl]; simp)]
theorem nilKeeps {W : World} {R : List SProp} : Keeps W R none [] := ⟨⟨rfl, fun u hu => (by cases hu), fun _ => rfl, fun w hw a ha => (by cases ha)⟩, fun x hx => (by cases hx)⟩
end Go.Proofs.YtlojjlbngnaphaaGreat

/-! Text Td. -/
/- The law WalRefuses: walked. -/
set_option maxRecDepth 8000
set_option linter.unusedVariables false
set_option linter.unusedSimpArgs false
set_option linter.unusedSectionVars false
namespace Go.Proofs.YtlojjlbngnaphaaGreat
open Go.RowKit Go.Sl
attribute [local irreducible] Own

abbrev refMem (wp b vp c : Nat) (v : WalD) (D : BayD) (lo : Option Addr) (n : Nat) (R : List SProp) : List SProp := WalR wp b v :: BayR b D :: WalR vp c v :: BayR c D :: Sl.Own 105 3 (.slice lo n n) n (patCells (List.replicate n patZ)) :: R
set_option maxHeartbeats 8000000 in
theorem wrefuses_law {W : World} {R : List SProp} {ao po : Option Addr} {cap pcap : Nat} {l : List OpE} {ps : List PatE} (hbs : RdOps W ao l) (hpr : ∀ R, RdPats W R po ps) (hpf : ∀ p ∈ ps, p.fit) (hpl : ps.length ≤ 140737488351232) (ring : Int) :
    Does1 W Tryz.prog 9 [.int .i64 ring, .slice ao l.length cap, .slice po ps.length pcap] R (.bool true) R := by
  have how : (OpE.mk 0 0 (po, pcap) ps (none, 0) []).wf W := ⟨hpr, hpf, hpl, nilBoolsA, Nat.zero_le _, by show (-9223372036854775808 : Int) ≤ 0 ∧ (0 : Int) ≤ 9223372036854775807; decide, by show (-9223372036854775808 : Int) ≤ 0 ∧ (0 : Int) ≤ 9223372036854775807; decide⟩
  (refine Does.enter Tryz.func9 Tryz.ntmps9 rfl rfl ?_)
  (refine w ?_; repeat ((first | refine VO.step rfl rfl ?_ | refine VD.end rfl rfl rfl ?_ | refine VD.mid rfl rfl rfl ?_); refine OpV.box rfl rfl rfl ?_; intro _; refine w ?_))
  ((first | refine VO.step rfl rfl ?_ | refine VD.end rfl rfl rfl ?_ | refine VD.mid rfl rfl rfl ?_); refine OpV.call rfl rfl (fun _ _ => by simp) (wmuch_ok hbs) Ent.refl rfl ?_)
  intro mu hmu
  cases mu with
  | true =>
    (refine w ?_; repeat ((first | refine VO.step rfl rfl ?_ | refine VD.end rfl rfl rfl ?_ | refine VD.mid rfl rfl rfl ?_); refine OpV.box rfl rfl rfl ?_; intro _; refine w ?_))
    exact VE.done1 rfl rfl Ent.refl
  | false =>
  have hf := hmu rfl
  (refine w ?_; repeat ((first | refine VO.step rfl rfl ?_ | refine VD.end rfl rfl rfl ?_ | refine VD.mid rfl rfl rfl ?_); refine OpV.box rfl rfl rfl ?_; intro _; refine w ?_))
  ((first | apply VO.pure rfl rfl | apply VD.take rfl rfl rfl | (refine VD.end rfl rfl rfl ?_; apply OpV.pure)); apply PureAt.build sb_37 rfl; (simp [buildX, setL, Value.cells]; rfl); rfl)
  (first | refine VO.step rfl rfl ?_ | refine VD.end rfl rfl rfl ?_ | refine VD.mid rfl rfl rfl ?_)
  refine OpV.buildSlice (cs := OpE.cells ⟨0, 0, (po, pcap), ps, (none, 0), []⟩) st_22 rfl rfl (by simp [Value.cells]) (by simp [Value.cells]) (by decide) rfl ?_
  intro nb
  (refine w ?_; repeat ((first | refine VO.step rfl rfl ?_ | refine VD.end rfl rfl rfl ?_ | refine VD.mid rfl rfl rfl ?_); refine OpV.box rfl rfl rfl ?_; intro _; refine w ?_))
  have hro : Rds W (Row nb 37 (OpE.cells ⟨0, 0, (po, pcap), ps, (none, 0), []⟩) :: R) 4 (some ⟨nb, 0, none⟩) 1 (opsC [⟨0, 0, (po, pcap), ps, (none, 0), []⟩]) := Rds.row (opsC_one _) (.head _) rfl
  ((first | refine VO.step rfl rfl ?_ | refine VD.end rfl rfl rfl ?_ | refine VD.mid rfl rfl rfl ?_); refine OpV.call rfl rfl (fun _ _ => by simp) (wmuchR_ok (l := [⟨0, 0, (po, pcap), ps, (none, 0), []⟩]) hro (fun o ho => by rw [List.mem_singleton] at ho; subst ho; exact how) (by simp)) Ent.refl rfl ?_)
  intro mm hmm
  cases mm with
  | true =>
    (refine w ?_; repeat ((first | refine VO.step rfl rfl ?_ | refine VD.end rfl rfl rfl ?_ | refine VD.mid rfl rfl rfl ?_); refine OpV.box rfl rfl rfl ?_; intro _; refine w ?_))
    exact VE.done1 rfl rfl Ent.re
  | false =>
  have hfm := hmm rfl
  (refine w ?_; repeat ((first | refine VO.step rfl rfl ?_ | refine VD.end rfl rfl rfl ?_ | refine VD.mid rfl rfl rfl ?_); refine OpV.box rfl rfl rfl ?_; intro _; refine w ?_))
  refine VO.ent (Ent.re (L := R)) ?_
  ((first | refine VO.step rfl rfl ?_ | refine VD.end rfl rfl rfl ?_ | refine VD.mid rfl rfl rfl ?_); refine OpV.call rfl rfl (fun _ _ => by simp) (wbegun_ok ring) Ent.refl rfl ?_)
  intro x hx
  cases x with
  | none =>
    have hn : ¬ (5 ≤ ring ∧ ring ≤ 2048) := fun q => by have := hx.2 q; cases this
    dsimp only [Option.elim_none, Option.map_none]
    (refine w ?_; repeat ((first | refine VO.step rfl rfl ?_ | refine VD.end rfl rfl rfl ?_ | refine VD.mid rfl rfl rfl ?_); refine OpV.box rfl rfl rfl ?_; intro _; refine w ?_))
    ((first | refine VO.step rfl rfl ?_ | refine VD.end rfl rfl rfl ?_ | refine VD.mid rfl rfl rfl ?_); refine OpV.call rfl rfl (fun _ _ => by simp) (wbegun_ok ring) Ent.refl rfl ?_)
    intro x2 hx2
    cases x2 with
    | some y => exact absurd (hx2.1 rfl) hn
    | none =>
    dsimp only [Option.elim_none, Option.map_none]
    (refine w ?_; repeat ((first | refine VO.step rfl rfl ?_ | refine VD.end rfl rfl rfl ?_ | refine VD.mid rfl rfl rfl ?_); refine OpV.box rfl rfl rfl ?_; intro _; refine w ?_))
    ((first | refine VO.step rfl rfl ?_ | refine VD.end rfl rfl rfl ?_ | refine VD.mid rfl rfl rfl ?_); refine OpV.call rfl rfl (fun _ _ => by simp) (wknown_ok) Ent.refl rfl ?_)
    intro _ _
    (refine w ?_; repeat ((first | refine VO.step rfl rfl ?_ | refine VD.end rfl rfl rfl ?_ | refine VD.mid rfl rfl rfl ?_); refine OpV.box rfl rfl rfl ?_; intro _; refine w ?_))
    ((first | refine VO.split rfl rfl rfl ?_ ?_ | refine VD.split rfl rfl rfl ?_ ?_) <;> intro hb)
    · (refine w ?_; repeat ((first | refine VO.step rfl rfl ?_ | refine VD.end rfl rfl rfl ?_ | refine VD.mid rfl rfl rfl ?_); refine OpV.box rfl rfl rfl ?_; intro _; refine w ?_))
      exact VE.done1 rfl rfl Ent.refl
    · have h5 := of_decide_eq_false hb
      (refine w ?_; repeat ((first | refine VO.step rfl rfl ?_ | refine VD.end rfl rfl rfl ?_ | refine VD.mid rfl rfl rfl ?_); refine OpV.box rfl rfl rfl ?_; intro _; refine w ?_))
      exact VE.done1 rfl (by congr 1; simp; omega) Ent.refl
  | some y =>
    obtain ⟨b, wp⟩ := y
    have hn : 5 ≤ ring ∧ ring ≤ 2048 := hx.1 rfl
    obtain ⟨n, rfl⟩ : ∃ n : Nat, ring = n := ⟨ring.toNat, by omega⟩
    dsimp only [Option.elim_some, Option.map_some]
    rw [Int.toNat_natCast]
    (refine w ?_; repeat ((first | refine VO.step rfl rfl ?_ | refine VD.end rfl rfl rfl ?_ | refine VD.mid rfl rfl rfl ?_); refine OpV.box rfl rfl rfl ?_; intro _; refine w ?_))
    ((first | refine VO.step rfl rfl ?_ | refine VD.end rfl rfl rfl ?_ | refine VD.mid rfl rfl rfl ?_); refine OpV.call rfl rfl (fun _ _ => by simp) (wbegun_ok (n : Int)) Ent.refl rfl ?_)
    intro x2 hx2
    cases x2 with
    | none => exact absurd (hx2.2 hn) (by simp)
    | some y =>
    obtain ⟨c, vp⟩ := y
    dsimp only [Option.elim_some, Option.map_some]
    rw [Int.toNat_natCast]
    (refine w ?_; repeat ((first | refine VO.step rfl rfl ?_ | refine VD.end rfl rfl rfl ?_ | refine VD.mid rfl rfl rfl ?_); refine OpV.box rfl rfl rfl ?_; intro _; refine w ?_))
    ((first | refine VO.step rfl rfl ?_ | refine VD.end rfl rfl rfl ?_ | refine VD.mid rfl rfl rfl ?_); refine OpV.call rfl rfl (fun _ _ => by simp) (wknown_ok) Ent.refl rfl ?_)
    intro _ _
    have hll := hf.len
    have hnn : 5 ≤ n ∧ n ≤ 2048 := ⟨by omega, by omega⟩
    (refine w ?_; repeat ((first | refine VO.step rfl rfl ?_ | refine VD.end rfl rfl rfl ?_ | refine VD.mid rfl rfl rfl ?_); refine OpV.box rfl rfl rfl ?_; intro _; refine w ?_))
    (first | refine VO.step rfl rfl ?_ | refine VD.end rfl rfl rfl ?_ | refine VD.mid rfl rfl rfl ?_)
    refine OpV.makeSlice (m := n) st_34 rfl rfl (by omega) (by simp only [maxLen]; omega) rfl ?_
    intro nl
    rw [← patZ_cells n]
    (refine w ?_; repeat ((first | refine VO.step rfl rfl ?_ | refine VD.end rfl rfl rfl ?_ | refine VD.mid rfl rfl rfl ?_); refine OpV.box rfl rfl rfl ?_; intro _; refine w ?_))
    refine VC.loop (α := Nat × WalD × BayD) (fun y => y.1 ≤ l.length ∧ CInv n (n + 2) y.1 y.2.1 y.2.2) (fun y => refMem wp b vp c y.2.1 y.2.2 (some ⟨nl, 0, none⟩) n R)
      (fun y => [(0, .int .i64 n), (1, .slice ao l.length cap), (2, .slice po ps.length pcap), (7, .pointer (some ⟨b, 0, none⟩)), (8, .pointer (some ⟨wp, 0, none⟩)), (9, .pointer (some ⟨c, 0, none⟩)), (10, .pointer (some ⟨vp, 0, none⟩)), (11, .slice (some ⟨nl, 0, none⟩) n n), (12, .int .i64 y.1)]) (fun y => l.length - y.1) rfl (0, fresh0 0 1 n, begD n) ⟨Nat.zero_le _, beg_cinv hnn⟩ Ent.re ⟨rfl, rfl, rfl, rfl, rfl, rfl, rfl, rfl, rfl, trivial⟩ ?_
    rintro ⟨j, v, D⟩ ⟨hj, hI⟩
    dsimp only at hj hI ⊢
    (refine w ?_; repeat ((first | refine VO.step rfl rfl ?_ | refine VD.end rfl rfl rfl ?_ | refine VD.mid rfl rfl rfl ?_); refine OpV.box rfl rfl rfl ?_; intro _; refine w ?_))
    (refine VC.cond rfl rfl ?_ ?_ <;> intro hc)
    · have hlt : j < l.length := by have := of_decide_eq_true hc; omega
      have hr := hbs.rds R
      obtain ⟨a, rfl⟩ := some_of_pos hr.nil (by omega)
      have ho := hbs.each _ (List.getElem_mem hlt)
      have hok := hI.inv.wok (by omega)
      have hcap := hI.inv.cap
      have hnob := hI.nob
      have hwfn := hI.wfn (by omega)
      have hus := hok.ring.us
      have hszh := hok.ring.hi
      obtain ⟨s1, s2, -⟩ := hI.step (by omega) l[j].kind.toNat (l[j].pats.map PatE.D)
      have hpE := hfm.each _ (.head _)
      (refine w ?_; repeat ((first | refine VO.step rfl rfl ?_ | refine VD.end rfl rfl rfl ?_ | refine VD.mid rfl rfl rfl ?_); refine OpV.box rfl rfl rfl ?_; intro _; refine w ?_))
      dsimp only [refMem]
      (((first | refine VO.step rfl rfl ?_ | refine VD.end rfl rfl rfl ?_ | refine VD.mid rfl rfl rfl ?_); refine OpV.call rfl rfl (fun _ _ => by simp) (baycounts_ok b D) Ent.re rfl ?_); intro _ _)
      ((first | refine VO.step rfl rfl ?_ | refine VD.end rfl rfl rfl ?_ | refine VD.mid rfl rfl rfl ?_); refine OpV.allocS sb_63 rfl ?_; intro nw)
      (refine w ?_; repeat ((first | refine VO.step rfl rfl ?_ | refine VD.end rfl rfl rfl ?_ | refine VD.mid rfl rfl rfl ?_); refine OpV.box rfl rfl rfl ?_; intro _; refine w ?_))
      (first | refine VO.step rfl rfl ?_ | refine VD.end rfl rfl rfl ?_ | refine VD.mid rfl rfl rfl ?_)
      refine OpV.stA (vs := [.int .i64 D.n.r, .int .i64 D.n.w, .int .i64 D.n.f]) tab_ok rfl rfl rfl rfl (by simp [Value.oneCell']) (by (repeat first | exact .head | apply Hole.tail)) (by simp) ?_
      (refine w ?_; repeat ((first | refine VO.step rfl rfl ?_ | refine VD.end rfl rfl rfl ?_ | refine VD.mid rfl rfl rfl ?_); refine OpV.box rfl rfl rfl ?_; intro _; refine w ?_))
      (((first | refine VO.step rfl rfl ?_ | refine VD.end rfl rfl rfl ?_ | refine VD.mid rfl rfl rfl ?_); refine OpV.call rfl rfl (fun _ _ => by simp) (walsize_ok wp b v) Ent.re rfl ?_); intro _ _)
      (refine w ?_; repeat ((first | refine VO.step rfl rfl ?_ | refine VD.end rfl rfl rfl ?_ | refine VD.mid rfl rfl rfl ?_); refine OpV.box rfl rfl rfl ?_; intro _; refine w ?_))
      (((first | refine VO.step rfl rfl ?_ | refine VD.end rfl rfl rfl ?_ | refine VD.mid rfl rfl rfl ?_); refine OpV.call rfl rfl (fun _ _ => by simp) (walused_ok wp b v) Ent.re rfl ?_); intro _ _)
      (refine w ?_; repeat ((first | refine VO.step rfl rfl ?_ | refine VD.end rfl rfl rfl ?_ | refine VD.mid rfl rfl rfl ?_); refine OpV.box rfl rfl rfl ?_; intro _; refine w ?_))
      refine VC.ent (Ent.re (L := WalR wp b v :: BayR b D :: WalR vp c v :: BayR c D :: Sl.Own 105 3 (.slice (some ⟨nl, 0, none⟩) n n) n (patCells (List.replicate n patZ)) :: Row nw 63 [.int .i64 D.n.r, .int .i64 D.n.w, .int .i64 D.n.f] :: R)) ?_
      have hzf : ∀ p ∈ List.replicate n patZ, p.fit := fun p hp => by
        rw [List.eq_of_mem_replicate hp]
        exact ⟨by decide, by decide, by decide⟩
      (refine VC.join (α := Unit) (fun _ => True) (fun _ => WalR wp b v :: BayR b D :: WalR vp c v :: BayR c D :: Sl.Own 105 3 (.slice (some ⟨nl, 0, none⟩) n n) n (patCells (List.replicate n patZ)) :: R) (fun _ => [(0, .int .i64 n), (1, .slice (some a) l.length cap), (2, .slice po ps.length pcap), (7, .pointer (some ⟨b, 0, none⟩)), (8, .pointer (some ⟨wp, 0, none⟩)), (9, .pointer (some ⟨c, 0, none⟩)), (10, .pointer (some ⟨vp, 0, none⟩)), (11, .slice (some ⟨nl, 0, none⟩) n n), (12, .int .i64 j), (94, .bool false)]) ?_ ?_)
      · intro Q2 jn
        by_cases hfree : (v.size : Int) - v.used < 2 * ps.length + 1
        · refine VC.drawn [9, 15, 20, 25] 27 [0, 1, 2, 3, 4, 5, 6, 7, 8, 9, 10, 11, 12, 13, 14, 15, 16, 17, 18, 19, 20, 21, 22, 23, 24, 26, 25, 27, 28] (Row nw 63 [.int .i64 D.n.r, .int .i64 D.n.w, .int .i64 D.n.f] :: R) rfl (by kernel_rfl) (by kernel_rfl) Ent.re ?_
          (refine w ?_; repeat ((first | refine VO.step rfl rfl ?_ | refine VD.end rfl rfl rfl ?_ | refine VD.mid rfl rfl rfl ?_); refine OpV.box rfl rfl rfl ?_; intro _; refine w ?_))
          (first | refine VO.gT rfl rfl rfl (decide_eq_true (by omega)) ?_ | refine VD.gT rfl rfl rfl (decide_eq_true (by omega)) ?_)
          (refine w ?_; repeat ((first | refine VO.step rfl rfl ?_ | refine VD.end rfl rfl rfl ?_ | refine VD.mid rfl rfl rfl ?_); refine OpV.box rfl rfl rfl ?_; intro _; refine w ?_))
          obtain ⟨e1, h1, q1⟩ := log_full (D := D) (ps := ps.map PatE.D) hnob (by rw [List.length_map]; omega)
          have c1 := wallog_ok (W := W) (R := WalR vp c v :: BayR c D :: Sl.Own 105 3 (.slice (some ⟨nl, 0, none⟩) n n) n (patCells (List.replicate n patZ)) :: Row nw 63 [.int .i64 D.n.r, .int .i64 D.n.w, .int .i64 D.n.f] :: R) (cap := pcap) wp b v hok hcap (by omega) (hpr _) hpf hpl
          rw [q1] at c1
          ((first | refine VO.step rfl rfl ?_ | refine VD.end rfl rfl rfl ?_ | refine VD.mid rfl rfl rfl ?_); refine OpV.call rfl rfl (fun _ _ => by simp) (c1) Ent.refl rfl ?_)
          intro _ _
          try refine ⟨Ent.re, ?_⟩
          (refine w ?_; repeat ((first | refine VO.step rfl rfl ?_ | refine VD.end rfl rfl rfl ?_ | refine VD.mid rfl rfl rfl ?_); refine OpV.box rfl rfl rfl ?_; intro _; refine w ?_))
          (first | refine VO.gF rfl rfl rfl (by simpa using h1) ?_ | refine VD.gF rfl rfl rfl (by simpa using h1) ?_)
          (refine w ?_; repeat ((first | refine VO.step rfl rfl ?_ | refine VD.end rfl rfl rfl ?_ | refine VD.mid rfl rfl rfl ?_); refine OpV.box rfl rfl rfl ?_; intro _; refine w ?_))
          obtain ⟨e2, h2, q2⟩ := log_zeros (v := v) (D := D) (n := n) hnob (by omega)
          have c2 := wallog_ok (W := W) (R := WalR vp c v :: BayR c D :: Sl.Own 105 3 (.slice (some ⟨nl, 0, none⟩) n n) n (patCells (List.replicate n patZ)) :: Row nw 63 [.int .i64 D.n.r, .int .i64 D.n.w, .int .i64 D.n.f] :: R) (cap := n) wp b v hok hcap (by omega) (patZ_rds (n := n) (by simp) (.tail _ (.tail _ (.head _)))) hzf (by rw [List.length_replicate]; omega)
          rw [q2, List.length_replicate] at c2
          ((first | refine VO.step rfl rfl ?_ | refine VD.end rfl rfl rfl ?_ | refine VD.mid rfl rfl rfl ?_); refine OpV.call rfl rfl (fun _ _ => by simp) (c2) Ent.refl rfl ?_)
          intro _ _
          try refine ⟨Ent.re, ?_⟩
          (refine w ?_; repeat ((first | refine VO.step rfl rfl ?_ | refine VD.end rfl rfl rfl ?_ | refine VD.mid rfl rfl rfl ?_); refine OpV.box rfl rfl rfl ?_; intro _; refine w ?_))
          (first | refine VO.gF rfl rfl rfl (by simpa using h2) ?_ | refine VD.gF rfl rfl rfl (by simpa using h2) ?_)
          (refine w ?_; repeat ((first | refine VO.step rfl rfl ?_ | refine VD.end rfl rfl rfl ?_ | refine VD.mid rfl rfl rfl ?_); refine OpV.box rfl rfl rfl ?_; intro _; refine w ?_))
          have c3 := wallog_ok (W := W) (R := WalR vp c v :: BayR c D :: Sl.Own 105 3 (.slice (some ⟨nl, 0, none⟩) n n) n (patCells (List.replicate n patZ)) :: Row nw 63 [.int .i64 D.n.r, .int .i64 D.n.w, .int .i64 D.n.f] :: R) (ao := none) (cap := 0) (l := []) wp b v hok hcap (by omega) rdPats_nil (fun p hp => by cases hp) (by decide)
          rw [List.map_nil, log_nil hnob] at c3
          ((first | refine VO.step rfl rfl ?_ | refine VD.end rfl rfl rfl ?_ | refine VD.mid rfl rfl rfl ?_); refine OpV.call rfl rfl (fun _ _ => by simp) (c3) Ent.refl rfl ?_)
          intro _ _
          try refine ⟨Ent.re, ?_⟩
          (refine w ?_; repeat ((first | refine VO.step rfl rfl ?_ | refine VD.end rfl rfl rfl ?_ | refine VD.mid rfl rfl rfl ?_); refine OpV.box rfl rfl rfl ?_; intro _; refine w ?_))
          (((first | refine VO.step rfl rfl ?_ | refine VD.end rfl rfl rfl ?_ | refine VD.mid rfl rfl rfl ?_); refine OpV.call rfl rfl (fun _ _ => by simp) (baycounts_ok b D) Ent.re rfl ?_); intro _ _)
          (refine w ?_; repeat ((first | refine VO.step rfl rfl ?_ | refine VD.end rfl rfl rfl ?_ | refine VD.mid rfl rfl rfl ?_); refine OpV.box rfl rfl rfl ?_; intro _; refine w ?_))
          (first | refine VO.pure rfl rfl (cnt_eq (c := D.n) (d := D.n) (v := .bool false) rfl rfl hwfn hwfn (by simp [eqB])) rfl ?_ | refine VD.take rfl rfl rfl (cnt_eq (c := D.n) (d := D.n) (v := .bool false) rfl rfl hwfn hwfn (by simp [eqB])) rfl ?_ | refine VQ.pure rfl rfl (cnt_eq (c := D.n) (d := D.n) (v := .bool false) rfl rfl hwfn hwfn (by simp [eqB])) rfl ?_ | refine VD.end rfl rfl rfl (OpV.pure (cnt_eq (c := D.n) (d := D.n) (v := .bool false) rfl rfl hwfn hwfn (by simp [eqB])) rfl ?_))
          (refine w ?_; repeat ((first | refine VO.step rfl rfl ?_ | refine VD.end rfl rfl rfl ?_ | refine VD.mid rfl rfl rfl ?_); refine OpV.box rfl rfl rfl ?_; intro _; refine w ?_))
          refine jn.to () trivial ⟨rfl, rfl, rfl, rfl, rfl, rfl, rfl, rfl, rfl, rfl, trivial⟩ Ent.re
        · refine VC.drawn [9, 15, 20, 25] 27 [0, 1, 2, 3, 4, 5, 6, 7, 8, 9, 10, 11, 12, 13, 14, 15, 16, 17, 18, 19, 20, 21, 22, 23, 24, 26, 25, 27, 28] (Row nw 63 [.int .i64 D.n.r, .int .i64 D.n.w, .int .i64 D.n.f] :: R) rfl (by kernel_rfl) (by kernel_rfl) Ent.re ?_
          (refine w ?_; repeat ((first | refine VO.step rfl rfl ?_ | refine VD.end rfl rfl rfl ?_ | refine VD.mid rfl rfl rfl ?_); refine OpV.box rfl rfl rfl ?_; intro _; refine w ?_))
          (first | refine VO.gF rfl rfl rfl (decide_eq_false (by omega)) ?_ | refine VD.gF rfl rfl rfl (decide_eq_false (by omega)) ?_)
          (refine w ?_; repeat ((first | refine VO.step rfl rfl ?_ | refine VD.end rfl rfl rfl ?_ | refine VD.mid rfl rfl rfl ?_); refine OpV.box rfl rfl rfl ?_; intro _; refine w ?_))
          refine VD.skipM rfl rfl Ent.re rfl rfl rfl ?_
          (refine w ?_; repeat ((first | refine VO.step rfl rfl ?_ | refine VD.end rfl rfl rfl ?_ | refine VD.mid rfl rfl rfl ?_); refine OpV.box rfl rfl rfl ?_; intro _; refine w ?_))
          obtain ⟨e2, h2, q2⟩ := log_zeros (v := v) (D := D) (n := n) hnob (by omega)
          have c2 := wallog_ok (W := W) (R := WalR vp c v :: BayR c D :: Sl.Own 105 3 (.slice (some ⟨nl, 0, none⟩) n n) n (patCells (List.replicate n patZ)) :: Row nw 63 [.int .i64 D.n.r, .int .i64 D.n.w, .int .i64 D.n.f] :: R) (cap := n) wp b v hok hcap (by omega) (patZ_rds (n := n) (by simp) (.tail _ (.tail _ (.head _)))) hzf (by rw [List.length_replicate]; omega)
          rw [q2, List.length_replicate] at c2
          ((first | refine VO.step rfl rfl ?_ | refine VD.end rfl rfl rfl ?_ | refine VD.mid rfl rfl rfl ?_); refine OpV.call rfl rfl (fun _ _ => by simp) (c2) Ent.refl rfl ?_)
          intro _ _
          try refine ⟨Ent.re, ?_⟩
          (refine w ?_; repeat ((first | refine VO.step rfl rfl ?_ | refine VD.end rfl rfl rfl ?_ | refine VD.mid rfl rfl rfl ?_); refine OpV.box rfl rfl rfl ?_; intro _; refine w ?_))
          (first | refine VO.gF rfl rfl rfl (by simpa using h2) ?_ | refine VD.gF rfl rfl rfl (by simpa using h2) ?_)
          (refine w ?_; repeat ((first | refine VO.step rfl rfl ?_ | refine VD.end rfl rfl rfl ?_ | refine VD.mid rfl rfl rfl ?_); refine OpV.box rfl rfl rfl ?_; intro _; refine w ?_))
          have c3 := wallog_ok (W := W) (R := WalR vp c v :: BayR c D :: Sl.Own 105 3 (.slice (some ⟨nl, 0, none⟩) n n) n (patCells (List.replicate n patZ)) :: Row nw 63 [.int .i64 D.n.r, .int .i64 D.n.w, .int .i64 D.n.f] :: R) (ao := none) (cap := 0) (l := []) wp b v hok hcap (by omega) rdPats_nil (fun p hp => by cases hp) (by decide)
          rw [List.map_nil, log_nil hnob] at c3
          ((first | refine VO.step rfl rfl ?_ | refine VD.end rfl rfl rfl ?_ | refine VD.mid rfl rfl rfl ?_); refine OpV.call rfl rfl (fun _ _ => by simp) (c3) Ent.refl rfl ?_)
          intro _ _
          try refine ⟨Ent.re, ?_⟩
          (refine w ?_; repeat ((first | refine VO.step rfl rfl ?_ | refine VD.end rfl rfl rfl ?_ | refine VD.mid rfl rfl rfl ?_); refine OpV.box rfl rfl rfl ?_; intro _; refine w ?_))
          (((first | refine VO.step rfl rfl ?_ | refine VD.end rfl rfl rfl ?_ | refine VD.mid rfl rfl rfl ?_); refine OpV.call rfl rfl (fun _ _ => by simp) (baycounts_ok b D) Ent.re rfl ?_); intro _ _)
          (refine w ?_; repeat ((first | refine VO.step rfl rfl ?_ | refine VD.end rfl rfl rfl ?_ | refine VD.mid rfl rfl rfl ?_); refine OpV.box rfl rfl rfl ?_; intro _; refine w ?_))
          (first | refine VO.pure rfl rfl (cnt_eq (c := D.n) (d := D.n) (v := .bool false) rfl rfl hwfn hwfn (by simp [eqB])) rfl ?_ | refine VD.take rfl rfl rfl (cnt_eq (c := D.n) (d := D.n) (v := .bool false) rfl rfl hwfn hwfn (by simp [eqB])) rfl ?_ | refine VQ.pure rfl rfl (cnt_eq (c := D.n) (d := D.n) (v := .bool false) rfl rfl hwfn hwfn (by simp [eqB])) rfl ?_ | refine VD.end rfl rfl rfl (OpV.pure (cnt_eq (c := D.n) (d := D.n) (v := .bool false) rfl rfl hwfn hwfn (by simp [eqB])) rfl ?_))
          (refine w ?_; repeat ((first | refine VO.step rfl rfl ?_ | refine VD.end rfl rfl rfl ?_ | refine VD.mid rfl rfl rfl ?_); refine OpV.box rfl rfl rfl ?_; intro _; refine w ?_))
          refine jn.to () trivial ⟨rfl, rfl, rfl, rfl, rfl, rfl, rfl, rfl, rfl, rfl, trivial⟩ Ent.re
      intro _ _
      (refine w ?_; repeat ((first | refine VO.step rfl rfl ?_ | refine VD.end rfl rfl rfl ?_ | refine VD.mid rfl rfl rfl ?_); refine OpV.box rfl rfl rfl ?_; intro _; refine w ?_))
      refine VC.drawn [5, 11, 15, 17, 22, 24, 29, 31, 36] 38 [0, 1, 2, 3, 4, 6, 7, 8, 9, 10, 5, 11, 12, 13, 14, 16, 15, 17, 18, 19, 20, 21, 23, 22, 24, 25, 26, 27, 28, 30, 29, 31, 32, 33, 34, 35, 37, 36, 38, 39, 40] R rfl (by kernel_rfl) (by kernel_rfl) Ent.re ?_
      (refine w ?_; repeat ((first | refine VO.step rfl rfl ?_ | refine VD.end rfl rfl rfl ?_ | refine VD.mid rfl rfl rfl ?_); refine OpV.box rfl rfl rfl ?_; intro _; refine w ?_))
      (first | refine VO.pure rfl rfl (.ldRA tab_ok rfl rfl hr (opsC_at l j hlt) rfl) rfl ?_ | refine VD.take rfl rfl rfl (.ldRA tab_ok rfl rfl hr (opsC_at l j hlt) rfl) rfl ?_ | refine VQ.pure rfl rfl (.ldRA tab_ok rfl rfl hr (opsC_at l j hlt) rfl) rfl ?_ | refine VD.end rfl rfl rfl (OpV.pure (.ldRA tab_ok rfl rfl hr (opsC_at l j hlt) rfl) rfl ?_))
      (refine w ?_; repeat ((first | refine VO.step rfl rfl ?_ | refine VD.end rfl rfl rfl ?_ | refine VD.mid rfl rfl rfl ?_); refine OpV.box rfl rfl rfl ?_; intro _; refine w ?_))
      (first | refine VO.pure rfl rfl (.ldRA tab_ok rfl rfl hr (opsC_at l j hlt) rfl) rfl ?_ | refine VD.take rfl rfl rfl (.ldRA tab_ok rfl rfl hr (opsC_at l j hlt) rfl) rfl ?_ | refine VQ.pure rfl rfl (.ldRA tab_ok rfl rfl hr (opsC_at l j hlt) rfl) rfl ?_ | refine VD.end rfl rfl rfl (OpV.pure (.ldRA tab_ok rfl rfl hr (opsC_at l j hlt) rfl) rfl ?_))
      (refine w ?_; repeat ((first | refine VO.step rfl rfl ?_ | refine VD.end rfl rfl rfl ?_ | refine VD.mid rfl rfl rfl ?_); refine OpV.box rfl rfl rfl ?_; intro _; refine w ?_))
      ((first | refine VO.step rfl rfl ?_ | refine VD.end rfl rfl rfl ?_ | refine VD.mid rfl rfl rfl ?_); refine OpV.call rfl rfl (fun _ _ => by simp) (calls_ok wp b v hok hcap (by omega) l[j] ho) Ent.refl rfl ?_)
      intro _ _
      try refine ⟨Ent.re, ?_⟩
      (refine w ?_; repeat ((first | refine VO.step rfl rfl ?_ | refine VD.end rfl rfl rfl ?_ | refine VD.mid rfl rfl rfl ?_); refine OpV.box rfl rfl rfl ?_; intro _; refine w ?_))
      refine VD.ent (Ent.re (L := WalR vp c v :: BayR c D :: WalR wp b (wDo (v, D) l[j].kind.toNat (l[j].pats.map PatE.D)).2.1 :: BayR b (wDo (v, D) l[j].kind.toNat (l[j].pats.map PatE.D)).2.2 :: Sl.Own 105 3 (.slice (some ⟨nl, 0, none⟩) n n) n (patCells (List.replicate n patZ)) :: R)) ?_
      ((first | refine VO.step rfl rfl ?_ | refine VD.end rfl rfl rfl ?_ | refine VD.mid rfl rfl rfl ?_); refine OpV.call rfl rfl (fun _ _ => by simp) (calls_ok vp c v hok hcap (by omega) l[j] ho) Ent.refl rfl ?_)
      intro _ _
      try refine ⟨Ent.re, ?_⟩
      generalize wDo (v, D) l[j].kind.toNat (l[j].pats.map PatE.D) = rr at s1 s2 ⊢
      obtain ⟨e, v2, D2⟩ := rr
      dsimp only at s1 s2 ⊢
      have hwfn2 := s1.wfn (by omega)
      (refine w ?_; repeat ((first | refine VO.step rfl rfl ?_ | refine VD.end rfl rfl rfl ?_ | refine VD.mid rfl rfl rfl ?_); refine OpV.box rfl rfl rfl ?_; intro _; refine w ?_))
      (first | refine VO.gF rfl rfl rfl (by simp) ?_ | refine VD.gF rfl rfl rfl (by simp) ?_)
      (refine w ?_; repeat ((first | refine VO.step rfl rfl ?_ | refine VD.end rfl rfl rfl ?_ | refine VD.mid rfl rfl rfl ?_); refine OpV.box rfl rfl rfl ?_; intro _; refine w ?_))
      (((first | refine VO.step rfl rfl ?_ | refine VD.end rfl rfl rfl ?_ | refine VD.mid rfl rfl rfl ?_); refine OpV.call rfl rfl (fun _ _ => by simp) (walused_ok wp b v2) Ent.re rfl ?_); intro _ _)
      try refine ⟨Ent.re, ?_⟩
      (refine w ?_; repeat ((first | refine VO.step rfl rfl ?_ | refine VD.end rfl rfl rfl ?_ | refine VD.mid rfl rfl rfl ?_); refine OpV.box rfl rfl rfl ?_; intro _; refine w ?_))
      (((first | refine VO.step rfl rfl ?_ | refine VD.end rfl rfl rfl ?_ | refine VD.mid rfl rfl rfl ?_); refine OpV.call rfl rfl (fun _ _ => by simp) (walused_ok vp c v2) Ent.re rfl ?_); intro _ _)
      try refine ⟨Ent.re, ?_⟩
      (refine w ?_; repeat ((first | refine VO.step rfl rfl ?_ | refine VD.end rfl rfl rfl ?_ | refine VD.mid rfl rfl rfl ?_); refine OpV.box rfl rfl rfl ?_; intro _; refine w ?_))
      (first | refine VO.gF rfl rfl rfl (by simp) ?_ | refine VD.gF rfl rfl rfl (by simp) ?_)
      (refine w ?_; repeat ((first | refine VO.step rfl rfl ?_ | refine VD.end rfl rfl rfl ?_ | refine VD.mid rfl rfl rfl ?_); refine OpV.box rfl rfl rfl ?_; intro _; refine w ?_))
      (((first | refine VO.step rfl rfl ?_ | refine VD.end rfl rfl rfl ?_ | refine VD.mid rfl rfl rfl ?_); refine OpV.call rfl rfl (fun _ _ => by simp) (walnext_ok wp b v2) Ent.re rfl ?_); intro _ _)
      try refine ⟨Ent.re, ?_⟩
      (refine w ?_; repeat ((first | refine VO.step rfl rfl ?_ | refine VD.end rfl rfl rfl ?_ | refine VD.mid rfl rfl rfl ?_); refine OpV.box rfl rfl rfl ?_; intro _; refine w ?_))
      (((first | refine VO.step rfl rfl ?_ | refine VD.end rfl rfl rfl ?_ | refine VD.mid rfl rfl rfl ?_); refine OpV.call rfl rfl (fun _ _ => by simp) (walnext_ok vp c v2) Ent.re rfl ?_); intro _ _)
      try refine ⟨Ent.re, ?_⟩
      (refine w ?_; repeat ((first | refine VO.step rfl rfl ?_ | refine VD.end rfl rfl rfl ?_ | refine VD.mid rfl rfl rfl ?_); refine OpV.box rfl rfl rfl ?_; intro _; refine w ?_))
      (first | refine VO.gF rfl rfl rfl (by simp) ?_ | refine VD.gF rfl rfl rfl (by simp) ?_)
      (refine w ?_; repeat ((first | refine VO.step rfl rfl ?_ | refine VD.end rfl rfl rfl ?_ | refine VD.mid rfl rfl rfl ?_); refine OpV.box rfl rfl rfl ?_; intro _; refine w ?_))
      (((first | refine VO.step rfl rfl ?_ | refine VD.end rfl rfl rfl ?_ | refine VD.mid rfl rfl rfl ?_); refine OpV.call rfl rfl (fun _ _ => by simp) (walsure_ok wp b v2) Ent.re rfl ?_); intro _ _)
      try refine ⟨Ent.re, ?_⟩
      (refine w ?_; repeat ((first | refine VO.step rfl rfl ?_ | refine VD.end rfl rfl rfl ?_ | refine VD.mid rfl rfl rfl ?_); refine OpV.box rfl rfl rfl ?_; intro _; refine w ?_))
      (((first | refine VO.step rfl rfl ?_ | refine VD.end rfl rfl rfl ?_ | refine VD.mid rfl rfl rfl ?_); refine OpV.call rfl rfl (fun _ _ => by simp) (walsure_ok vp c v2) Ent.re rfl ?_); intro _ _)
      try refine ⟨Ent.re, ?_⟩
      (refine w ?_; repeat ((first | refine VO.step rfl rfl ?_ | refine VD.end rfl rfl rfl ?_ | refine VD.mid rfl rfl rfl ?_); refine OpV.box rfl rfl rfl ?_; intro _; refine w ?_))
      (first | refine VO.gF rfl rfl rfl (by simp) ?_ | refine VD.gF rfl rfl rfl (by simp) ?_)
      (refine w ?_; repeat ((first | refine VO.step rfl rfl ?_ | refine VD.end rfl rfl rfl ?_ | refine VD.mid rfl rfl rfl ?_); refine OpV.box rfl rfl rfl ?_; intro _; refine w ?_))
      (((first | refine VO.step rfl rfl ?_ | refine VD.end rfl rfl rfl ?_ | refine VD.mid rfl rfl rfl ?_); refine OpV.call rfl rfl (fun _ _ => by simp) (baycounts_ok b D2) Ent.re rfl ?_); intro _ _)
      try refine ⟨Ent.re, ?_⟩
      (refine w ?_; repeat ((first | refine VO.step rfl rfl ?_ | refine VD.end rfl rfl rfl ?_ | refine VD.mid rfl rfl rfl ?_); refine OpV.box rfl rfl rfl ?_; intro _; refine w ?_))
      (((first | refine VO.step rfl rfl ?_ | refine VD.end rfl rfl rfl ?_ | refine VD.mid rfl rfl rfl ?_); refine OpV.call rfl rfl (fun _ _ => by simp) (baycounts_ok c D2) Ent.re rfl ?_); intro _ _)
      try refine ⟨Ent.re, ?_⟩
      (refine w ?_; repeat ((first | refine VO.step rfl rfl ?_ | refine VD.end rfl rfl rfl ?_ | refine VD.mid rfl rfl rfl ?_); refine OpV.box rfl rfl rfl ?_; intro _; refine w ?_))
      (first | refine VO.pure rfl rfl (cnt_eq (c := D2.n) (d := D2.n) (v := .bool false) rfl rfl hwfn2 hwfn2 (by simp [eqB])) rfl ?_ | refine VD.take rfl rfl rfl (cnt_eq (c := D2.n) (d := D2.n) (v := .bool false) rfl rfl hwfn2 hwfn2 (by simp [eqB])) rfl ?_ | refine VQ.pure rfl rfl (cnt_eq (c := D2.n) (d := D2.n) (v := .bool false) rfl rfl hwfn2 hwfn2 (by simp [eqB])) rfl ?_ | refine VD.end rfl rfl rfl (OpV.pure (cnt_eq (c := D2.n) (d := D2.n) (v := .bool false) rfl rfl hwfn2 hwfn2 (by simp [eqB])) rfl ?_))
      (refine w ?_; repeat ((first | refine VO.step rfl rfl ?_ | refine VD.end rfl rfl rfl ?_ | refine VD.mid rfl rfl rfl ?_); refine OpV.box rfl rfl rfl ?_; intro _; refine w ?_))
      refine VE.round (j + 1, v2, D2) ⟨hlt, s1⟩ (by simp only; omega) ⟨rfl, rfl, rfl, rfl, rfl, rfl, rfl, rfl, asV rfl (by congr 1), trivial⟩ Ent.re
    · obtain ⟨k, base, X, hp, hlv, -⟩ := hI.inv.live
      obtain ⟨hi1, hi2⟩ := img_cut hp.slot hp.live
      (refine w ?_; repeat ((first | refine VO.step rfl rfl ?_ | refine VD.end rfl rfl rfl ?_ | refine VD.mid rfl rfl rfl ?_); refine OpV.box rfl rfl rfl ?_; intro _; refine w ?_))
      (((first | refine VO.step rfl rfl ?_ | refine VD.end rfl rfl rfl ?_ | refine VD.mid rfl rfl rfl ?_); refine OpV.call rfl rfl (fun _ _ => by simp) (baycut_ok (kl := []) b D nilKeeps) Ent.re rfl ?_); intro _ _)
      (refine w ?_; repeat ((first | refine VO.step rfl rfl ?_ | refine VD.end rfl rfl rfl ?_ | refine VD.mid rfl rfl rfl ?_); refine OpV.box rfl rfl rfl ?_; intro _; refine w ?_))
      (((first | refine VO.step rfl rfl ?_ | refine VD.end rfl rfl rfl ?_ | refine VD.mid rfl rfl rfl ?_); refine OpV.call rfl rfl (fun _ _ => by simp) (baycut_ok (kl := []) c D nilKeeps) Ent.re rfl ?_); intro _ _)
      (refine w ?_; repeat ((first | refine VO.step rfl rfl ?_ | refine VD.end rfl rfl rfl ?_ | refine VD.mid rfl rfl rfl ?_); refine OpV.box rfl rfl rfl ?_; intro _; refine w ?_))
      ((first | refine VO.step rfl rfl ?_ | refine VD.end rfl rfl rfl ?_ | refine VD.mid rfl rfl rfl ?_); refine OpV.call rfl rfl (fun _ _ => by simp) (bayimage_ok b (D.cut []) 0) Ent.re rfl ?_)
      intro x hx
      (refine w ?_; repeat ((first | refine VO.step rfl rfl ?_ | refine VD.end rfl rfl rfl ?_ | refine VD.mid rfl rfl rfl ?_); refine OpV.box rfl rfl rfl ?_; intro _; refine w ?_))
      ((first | refine VO.step rfl rfl ?_ | refine VD.end rfl rfl rfl ?_ | refine VD.mid rfl rfl rfl ?_); refine OpV.call rfl rfl (fun _ _ => by simp) (bayimage_ok c (D.cut []) 0) Ent.re rfl ?_)
      intro y hy
      generalize hz : (D.cut []).image 0 = z at *
      obtain ⟨z1, z2⟩ := z
      dsimp only at hi1 hi2 hx hy ⊢
      subst hi1
      (refine w ?_; repeat ((first | refine VO.step rfl rfl ?_ | refine VD.end rfl rfl rfl ?_ | refine VD.mid rfl rfl rfl ?_); refine OpV.box rfl rfl rfl ?_; intro _; refine w ?_))
      refine VO.know (fun w hw => hw.ownMax (show OwnB x z1 ∈ _ by (focus repeat first | exact .head _ | apply List.Mem.tail)) : ∀ w, _ → z1.length ≤ maxLen) ?_
      intro hml
      refine VO.ent (Ent.re (L := OwnB x z1 :: OwnB y z1 :: R)) ?_
      ((first | refine VO.step rfl rfl ?_ | refine VD.end rfl rfl rfl ?_ | refine VD.mid rfl rfl rfl ?_); refine OpV.call rfl rfl (fun _ _ => by simp) (same_any (a := z1) (b := z1) (Rds.own (bytes_one _) (.head _) (by simp) hx) (Rds.own (bytes_one _) (.tail _ (.head _)) (by simp) hy) hml) Ent.refl rfl ?_)
      intro _ _
      (refine w ?_; repeat ((first | refine VO.step rfl rfl ?_ | refine VD.end rfl rfl rfl ?_ | refine VD.mid rfl rfl rfl ?_); refine OpV.box rfl rfl rfl ?_; intro _; refine w ?_))
      exact VE.done1 rfl (by congr 1; simp) Ent.re
end Go.Proofs.YtlojjlbngnaphaaGreat

