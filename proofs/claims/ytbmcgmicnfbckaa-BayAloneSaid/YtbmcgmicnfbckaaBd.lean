/- Package bay: Fail, Wear, Trip, Pull, Push, Swap, Load. -/
import Derived.Test.YtbmcgmicnfbckaaBc
set_option maxRecDepth 8000
set_option linter.unusedVariables false
set_option linter.unusedSimpArgs false
set_option linter.unusedSectionVars false
namespace Go.Proofs.Ytbmcgmicnfbckaa
open Go.RowKit Go.Sl
attribute [local irreducible] Own

/-- Of a call that asks for a slot's disk: the error, if there is none. -/
def BayD.tE (D : BayD) (k : Int) : Int := thereE D.slots.length (D.dev k).isSome k
def BayD.fail (D : BayD) (k : Int) : Int × BayD := match D.dev k with
  | some v => (0, D.setIn k.toNat ⟨v.k.fail, v.worn, v.left⟩)
  | none => (D.tE k, D)
def BayD.wear (D : BayD) (k n : Int) : Int × BayD := if n < 0 then (1, D) else match D.dev k with
  | some v => (0, D.setIn k.toNat ⟨v.k, true, n⟩)
  | none => (D.tE k, D)
def BayD.trips (D : BayD) (n : Int) : Int × BayD := if n < 0 then (1, D) else if D.dark then (50, D) else (0, { D with trip := n })

theorem bayfail_ok {W : World} {R : List SProp} (b : Nat) (D : BayD) (k : Int) :
    Does1 W Try.prog 32 [.pointer (some ⟨b, 0, none⟩), .int .i64 k] (BayR b D :: R) (.int .u16 (D.fail k).1) (BayR b (D.fail k).2 :: R) := by
  (refine Does.enter Try.func32 Try.ntmps32 rfl rfl ?_)
  refine VC.obtain (fun w => BayR.open) ?_
  rintro ⟨⟨a, sp⟩, h1, h2⟩
  dsimp only at h1 h2 ⊢
  (refine w ?_; repeat ((first | refine VO.step rfl rfl ?_ | refine VD.end rfl rfl rfl ?_ | refine VD.mid rfl rfl rfl ?_); refine OpV.box rfl rfl rfl ?_; intro _; refine w ?_))
  (((first | refine VO.step rfl rfl ?_ | refine VD.end rfl rfl rfl ?_ | refine VD.mid rfl rfl rfl ?_); refine OpV.call rfl rfl (fun _ _ => by simp) (baythere_ok (D := D) (a := a) (sp := sp) b k h2) Ent.re rfl ?_); intro _ _)
  unfold BayD.fail BayD.tE
  rw [inP_D h1, show D.slots.length = sp.length by rw [h1, List.length_map]]
  cases hp : inP sp k with
  | none =>
    dsimp only [devPtr, Option.map_none, Option.isSome_none]
    (refine w ?_; repeat ((first | refine VO.step rfl rfl ?_ | refine VD.end rfl rfl rfl ?_ | refine VD.mid rfl rfl rfl ?_); refine OpV.box rfl rfl rfl ?_; intro _; refine w ?_))
    have he : thereE sp.length false k ≠ 0 := by unfold thereE; split <;> simp
    (refine VC.condFe rfl rfl (by simpa using he) ?_)
    (refine w ?_; repeat ((first | refine VO.step rfl rfl ?_ | refine VD.end rfl rfl rfl ?_ | refine VD.mid rfl rfl rfl ?_); refine OpV.box rfl rfl rfl ?_; intro _; refine w ?_))
    (refine VE.done1 rfl ?_ ?_)
    · rfl
    · exact BayR.shut h1 h2
  | some p =>
    obtain ⟨l1, s, l2, rfl, rfl, hs⟩ := inP_split hp
    dsimp only [devPtr, Option.map_some, Option.isSome_some]
    have he : thereE (l1 ++ s :: l2).length true (l1.length : Int) = 0 := by unfold thereE; rw [inRange_at]; rfl
    rw [he]
    (refine w ?_; repeat ((first | refine VO.step rfl rfl ?_ | refine VD.end rfl rfl rfl ?_ | refine VD.mid rfl rfl rfl ?_); refine OpV.box rfl rfl rfl ?_; intro _; refine w ?_))
    refine VO.ent (bayOutP hs) ?_
    (refine w ?_; repeat ((first | refine VO.step rfl rfl ?_ | refine VD.end rfl rfl rfl ?_ | refine VD.mid rfl rfl rfl ?_); refine OpV.box rfl rfl rfl ?_; intro _; refine w ?_))
    (((first | refine VO.step rfl rfl ?_ | refine VD.end rfl rfl rfl ?_ | refine VD.mid rfl rfl rfl ?_); refine OpV.call rfl rfl (fun _ _ => by simp) (fail_ok p.d p.v.k) Ent.re rfl ?_); intro _ _)
    (refine w ?_; repeat ((first | refine VO.step rfl rfl ?_ | refine VD.end rfl rfl rfl ?_ | refine VD.mid rfl rfl rfl ?_); refine OpV.box rfl rfl rfl ?_; intro _; refine w ?_))
    (refine VE.done1 rfl ?_ ?_)
    · rfl
    · refine Ent.trans Ent.re (bayInP (D := D) (D' := D.setIn l1.length ⟨p.v.k.fail, p.v.worn, p.v.left⟩) (p := p) hs ⟨p.v.k.fail, p.v.worn, p.v.left⟩ (setIn_slots (p := p) h1 _) h2)

theorem baywear_ok {W : World} {R : List SProp} (b : Nat) (D : BayD) (k n : Int) :
    Does1 W Try.prog 13 [.pointer (some ⟨b, 0, none⟩), .int .i64 k, .int .i64 n] (BayR b D :: R) (.int .u16 (D.wear k n).1) (BayR b (D.wear k n).2 :: R) := by
  (refine Does.enter Try.func13 Try.ntmps13 rfl rfl ?_)
  refine VC.obtain (fun w => BayR.open) ?_
  rintro ⟨⟨a, sp⟩, h1, h2⟩
  dsimp only at h1 h2 ⊢
  (refine w ?_; repeat ((first | refine VO.step rfl rfl ?_ | refine VD.end rfl rfl rfl ?_ | refine VD.mid rfl rfl rfl ?_); refine OpV.box rfl rfl rfl ?_; intro _; refine w ?_))
  unfold BayD.wear BayD.tE
  (refine VC.cond rfl rfl ?_ ?_ <;> intro hc)
  · have h : n < 0 := of_decide_eq_true hc
    rw [if_pos h]
    (refine w ?_; repeat ((first | refine VO.step rfl rfl ?_ | refine VD.end rfl rfl rfl ?_ | refine VD.mid rfl rfl rfl ?_); refine OpV.box rfl rfl rfl ?_; intro _; refine w ?_))
    (refine VE.done1 rfl ?_ ?_)
    · rfl
    · exact BayR.shut h1 h2
  have h : ¬ n < 0 := of_decide_eq_false hc
  rw [if_neg h]
  (refine w ?_; repeat ((first | refine VO.step rfl rfl ?_ | refine VD.end rfl rfl rfl ?_ | refine VD.mid rfl rfl rfl ?_); refine OpV.box rfl rfl rfl ?_; intro _; refine w ?_))
  (((first | refine VO.step rfl rfl ?_ | refine VD.end rfl rfl rfl ?_ | refine VD.mid rfl rfl rfl ?_); refine OpV.call rfl rfl (fun _ _ => by simp) (baythere_ok (D := D) (a := a) (sp := sp) b k h2) Ent.re rfl ?_); intro _ _)
  rw [inP_D h1, show D.slots.length = sp.length by rw [h1, List.length_map]]
  cases hp : inP sp k with
  | none =>
    dsimp only [devPtr, Option.map_none, Option.isSome_none]
    (refine w ?_; repeat ((first | refine VO.step rfl rfl ?_ | refine VD.end rfl rfl rfl ?_ | refine VD.mid rfl rfl rfl ?_); refine OpV.box rfl rfl rfl ?_; intro _; refine w ?_))
    have he : thereE sp.length false k ≠ 0 := by unfold thereE; split <;> simp
    (refine VC.condFe rfl rfl (by simpa using he) ?_)
    (refine w ?_; repeat ((first | refine VO.step rfl rfl ?_ | refine VD.end rfl rfl rfl ?_ | refine VD.mid rfl rfl rfl ?_); refine OpV.box rfl rfl rfl ?_; intro _; refine w ?_))
    (refine VE.done1 rfl ?_ ?_)
    · rfl
    · exact BayR.shut h1 h2
  | some p =>
    obtain ⟨l1, s, l2, rfl, rfl, hs⟩ := inP_split hp
    dsimp only [devPtr, Option.map_some, Option.isSome_some]
    have he : thereE (l1 ++ s :: l2).length true (l1.length : Int) = 0 := by unfold thereE; rw [inRange_at]; rfl
    rw [he]
    refine VO.ent (bayOutP hs) ?_
    (refine w ?_; repeat ((first | refine VO.step rfl rfl ?_ | refine VD.end rfl rfl rfl ?_ | refine VD.mid rfl rfl rfl ?_); refine OpV.box rfl rfl rfl ?_; intro _; refine w ?_))
    (refine VE.done1 rfl ?_ ?_)
    · rfl
    · exact Ent.trans Ent.re (bayInP (D := D) (D' := D.setIn l1.length ⟨p.v.k, true, n⟩) (p := p) hs ⟨p.v.k, true, n⟩ (setIn_slots (p := p) h1 _) h2)

theorem baytrip_ok {W : World} {R : List SProp} (b : Nat) (D : BayD) (n : Int) :
    Does1 W Try.prog 18 [.pointer (some ⟨b, 0, none⟩), .int .i64 n] (BayR b D :: R) (.int .u16 (D.trips n).1) (BayR b (D.trips n).2 :: R) := by
  (refine Does.enter Try.func18 Try.ntmps18 rfl rfl ?_)
  refine VC.obtain (fun w => BayR.open) ?_
  rintro ⟨⟨a, sp⟩, h1, h2⟩
  dsimp only at h1 h2 ⊢
  (refine w ?_; repeat ((first | refine VO.step rfl rfl ?_ | refine VD.end rfl rfl rfl ?_ | refine VD.mid rfl rfl rfl ?_); refine OpV.box rfl rfl rfl ?_; intro _; refine w ?_))
  unfold BayD.trips
  (refine VC.cond rfl rfl ?_ ?_ <;> intro hc)
  · have h : n < 0 := of_decide_eq_true hc
    rw [if_pos h]
    (refine w ?_; repeat ((first | refine VO.step rfl rfl ?_ | refine VD.end rfl rfl rfl ?_ | refine VD.mid rfl rfl rfl ?_); refine OpV.box rfl rfl rfl ?_; intro _; refine w ?_))
    (refine VE.done1 rfl ?_ ?_)
    · rfl
    · exact BayR.shut h1 h2
  have h : ¬ n < 0 := of_decide_eq_false hc
  rw [if_neg h]
  (refine w ?_; repeat ((first | refine VO.step rfl rfl ?_ | refine VD.end rfl rfl rfl ?_ | refine VD.mid rfl rfl rfl ?_); refine OpV.box rfl rfl rfl ?_; intro _; refine w ?_))
  (refine VC.cond rfl rfl ?_ ?_ <;> intro hc)
  · rw [if_pos hc]
    (refine w ?_; repeat ((first | refine VO.step rfl rfl ?_ | refine VD.end rfl rfl rfl ?_ | refine VD.mid rfl rfl rfl ?_); refine OpV.box rfl rfl rfl ?_; intro _; refine w ?_))
    (refine VE.done1 rfl ?_ ?_)
    · rfl
    · exact BayR.shut h1 h2
  · rw [if_neg (by rw [show D.dark = false from hc]; simp)]
    (refine w ?_; repeat ((first | refine VO.step rfl rfl ?_ | refine VD.end rfl rfl rfl ?_ | refine VD.mid rfl rfl rfl ?_); refine OpV.box rfl rfl rfl ?_; intro _; refine w ?_))
    (refine VE.done1 rfl ?_ ?_)
    · rfl
    · exact BayR.shut (D := { D with trip := n }) h1 h2

/-! ### A slot as it lies in its array -/
theorem slots_set1 {l1 l2 : List SlotP} {s : SlotP} (j : Nat) (hj : j < 3) (v : Value) : ((l1 ++ s :: l2).flatMap slotCells).set (l1.length * 3 + j) v = l1.flatMap slotCells ++ ((slotCells s).set j v ++ l2.flatMap slotCells) := by
  have e : (l1.flatMap slotCells).length = l1.length * 3 := flat_length l1 fun _ _ => rfl
  rw [List.flatMap_append, List.flatMap_cons, List.set_append_right _ _ (by rw [e]; omega), e, show l1.length * 3 + j - l1.length * 3 = j by omega, List.set_append_left _ _ (by rw [slotCells_length]; exact hj)]
theorem slots_in {l1 l2 : List SlotP} {s : SlotP} (x : Option DevP) : ((l1 ++ s :: l2).flatMap slotCells).set (l1.length * 3 + 0) (devPtr x) = (l1 ++ { s with in_ := x } :: l2).flatMap slotCells := by
  rw [slots_set1 0 (by decide), List.flatMap_append, List.flatMap_cons]; rfl
theorem slots_aside {l1 l2 : List SlotP} {s : SlotP} (x : Option DevP) : ((l1 ++ s :: l2).flatMap slotCells).set (l1.length * 3 + 1) (devPtr x) = (l1 ++ { s with aside := x } :: l2).flatMap slotCells := by
  rw [slots_set1 1 (by decide), List.flatMap_append, List.flatMap_cons]; rfl
theorem slots_coming {l1 l2 : List SlotP} {s : SlotP} (x : Option DevP) : ((l1 ++ s :: l2).flatMap slotCells).set (l1.length * 3 + 2) (devPtr x) = (l1 ++ { s with coming := x } :: l2).flatMap slotCells := by
  rw [slots_set1 2 (by decide), List.flatMap_append, List.flatMap_cons]; rfl
theorem slots_len {l1 l2 : List SlotP} {s : SlotP} (j : Nat) (hj : j < 3) : l1.length * 3 + j < ((l1 ++ s :: l2).flatMap slotCells).length := by
  rw [flat_length (g := slotCells) (w := 3) _ fun _ _ => rfl]; simp; omega
def BayD.setSlot (D : BayD) (i : Nat) (s : SlotD) : BayD := { D with slots := D.slots.set i s }
theorem setSlot_slots {D : BayD} {l1 l2 : List SlotP} {s : SlotP} (h : D.slots = (l1 ++ s :: l2).map SlotP.D) (s' : SlotP) : (D.setSlot l1.length s'.D).slots = (l1 ++ s' :: l2).map SlotP.D := by
  unfold BayD.setSlot
  simp only [h, List.map_append, List.map_cons]
  rw [List.set_append_right _ _ (by simp)]
  simp
/-- A slot, put back: whatever stands in it now. -/
theorem bayInS {W : World} {b n : Nat} {D' : BayD} {a : Addr} {l1 l2 : List SlotP} {R : List SProp} (s' : SlotP) (hn : (l1 ++ s' :: l2).length = n) (h1 : D'.slots = (l1 ++ s' :: l2).map SlotP.D) (h2 : n ≤ 17) :
    Ent W (devRes s'.in_ :: devRes s'.aside :: devRes s'.coming :: bayRow b D' a n :: Own 74 3 (.slice (some a) n n) n ((l1 ++ s' :: l2).flatMap slotCells) :: ((l1 ++ l2).map slotRes ++ R)) (BayR b D' :: R) := fun w hw => by
  subst hn
  exact BayR.shut h1 h2 w (bayIn w hw)

def BayD.slot (D : BayD) (k : Int) : SlotD := (D.slots[k.toNat]?).getD ⟨none, none, none⟩
def BayD.pull (D : BayD) (k : Int) : Int × BayD := match D.dev k with
  | some v => (0, D.setSlot k.toNat ⟨none, some ⟨v.k.settle (keepOf []), v.worn, v.left⟩, (D.slot k).coming⟩)
  | none => (D.tE k, D)
theorem slot_at {D : BayD} {l1 l2 : List SlotP} {s : SlotP} (h : D.slots = (l1 ++ s :: l2).map SlotP.D) : D.slot (l1.length : Int) = s.D := by
  unfold BayD.slot
  rw [h, Int.toNat_natCast]; simp
theorem nilBools {W : World} {R : List SProp} : Rds W R 1 none 0 (bools []) := by
  refine ⟨rfl, fun _ h => ?_, fun _ => rfl, fun _ _ _ h => ?_⟩
  · cases h
  · cases h

theorem baypull_ok {W : World} {R : List SProp} (b : Nat) (D : BayD) (k : Int) :
    Does1 W Try.prog 33 [.pointer (some ⟨b, 0, none⟩), .int .i64 k] (BayR b D :: R) (.int .u16 (D.pull k).1) (BayR b (D.pull k).2 :: R) := by
  (refine Does.enter Try.func33 Try.ntmps33 rfl rfl ?_)
  refine VC.obtain (fun w => BayR.open) ?_
  rintro ⟨⟨a, sp⟩, h1, h2⟩
  dsimp only at h1 h2 ⊢
  (refine w ?_; repeat ((first | refine VO.step rfl rfl ?_ | refine VD.end rfl rfl rfl ?_ | refine VD.mid rfl rfl rfl ?_); refine OpV.box rfl rfl rfl ?_; intro _; refine w ?_))
  (((first | refine VO.step rfl rfl ?_ | refine VD.end rfl rfl rfl ?_ | refine VD.mid rfl rfl rfl ?_); refine OpV.call rfl rfl (fun _ _ => by simp) (baythere_ok (D := D) (a := a) (sp := sp) b k h2) Ent.re rfl ?_); intro _ _)
  unfold BayD.pull BayD.tE
  rw [inP_D h1, show D.slots.length = sp.length by rw [h1, List.length_map]]
  cases hp : inP sp k with
  | none =>
    dsimp only [devPtr, Option.map_none, Option.isSome_none]
    (refine w ?_; repeat ((first | refine VO.step rfl rfl ?_ | refine VD.end rfl rfl rfl ?_ | refine VD.mid rfl rfl rfl ?_); refine OpV.box rfl rfl rfl ?_; intro _; refine w ?_))
    have he : thereE sp.length false k ≠ 0 := by unfold thereE; split <;> simp
    (refine VC.condFe rfl rfl (by simpa using he) ?_)
    (refine w ?_; repeat ((first | refine VO.step rfl rfl ?_ | refine VD.end rfl rfl rfl ?_ | refine VD.mid rfl rfl rfl ?_); refine OpV.box rfl rfl rfl ?_; intro _; refine w ?_))
    (refine VE.done1 rfl ?_ ?_)
    · rfl
    · exact BayR.shut h1 h2
  | some p =>
    obtain ⟨l1, s, l2, rfl, rfl, hs⟩ := inP_split hp
    dsimp only [devPtr, Option.map_some, Option.isSome_some]
    have he : thereE (l1 ++ s :: l2).length true (l1.length : Int) = 0 := by unfold thereE; rw [inRange_at]; rfl
    rw [he, slot_at h1]
    (refine w ?_; repeat ((first | refine VO.step rfl rfl ?_ | refine VD.end rfl rfl rfl ?_ | refine VD.mid rfl rfl rfl ?_); refine OpV.box rfl rfl rfl ?_; intro _; refine w ?_))
    refine VO.ent (bayOutP hs) ?_
    (refine w ?_; repeat ((first | refine VO.step rfl rfl ?_ | refine VD.end rfl rfl rfl ?_ | refine VD.mid rfl rfl rfl ?_); refine OpV.box rfl rfl rfl ?_; intro _; refine w ?_))
    (((first | refine VO.step rfl rfl ?_ | refine VD.end rfl rfl rfl ?_ | refine VD.mid rfl rfl rfl ?_); refine OpV.call rfl rfl (fun _ _ => by simp) (crash_ok (l := []) p.d p.v.k nilBools) Ent.re rfl ?_); intro _ _)
    (refine w ?_; repeat ((first | refine VO.step rfl rfl ?_ | refine VD.end rfl rfl rfl ?_ | refine VD.mid rfl rfl rfl ?_); refine OpV.box rfl rfl rfl ?_; intro _; refine w ?_))
    (((first | refine VO.step rfl rfl ?_ | refine VD.end rfl rfl rfl ?_ | refine VD.mid rfl rfl rfl ?_); refine OpV.call rfl rfl (fun _ _ => by simp) (bayat_ok (D := D) (a := a) (n := (l1 ++ s :: l2).length) b (l1.length : Int) h2) Ent.re rfl ?_); intro _ _)
    unfold slotAt
    rw [inRange_at]
    (refine w ?_; repeat ((first | refine VO.step rfl rfl ?_ | refine VD.end rfl rfl rfl ?_ | refine VD.mid rfl rfl rfl ?_); refine OpV.box rfl rfl rfl ?_; intro _; refine w ?_))
    (first | refine VO.step rfl rfl ?_ | refine VD.end rfl rfl rfl ?_ | refine VD.mid rfl rfl rfl ?_)
    refine OpV.stO2 tab_ok rfl rfl rfl rfl (by (repeat first | exact .head | apply Hole.tail)) (slots_len 0 (by decide)) (slots_in none) ?_
    (refine w ?_; repeat ((first | refine VO.step rfl rfl ?_ | refine VD.end rfl rfl rfl ?_ | refine VD.mid rfl rfl rfl ?_); refine OpV.box rfl rfl rfl ?_; intro _; refine w ?_))
    (first | refine VO.step rfl rfl ?_ | refine VD.end rfl rfl rfl ?_ | refine VD.mid rfl rfl rfl ?_)
    refine OpV.stO2 tab_ok rfl rfl rfl rfl (by (repeat first | exact .head | apply Hole.tail)) (slots_len 1 (by decide)) (slots_aside (some ⟨p.r, p.d, ⟨p.v.k.settle (keepOf []), p.v.worn, p.v.left⟩⟩)) ?_
    (refine w ?_; repeat ((first | refine VO.step rfl rfl ?_ | refine VD.end rfl rfl rfl ?_ | refine VD.mid rfl rfl rfl ?_); refine OpV.box rfl rfl rfl ?_; intro _; refine w ?_))
    (refine VE.done1 rfl ?_ ?_)
    · rfl
    · refine Ent.trans (Ent.re (L := devRow ⟨p.r, p.d, ⟨p.v.k.settle (keepOf []), p.v.worn, p.v.left⟩⟩ :: DiskR p.d (p.v.k.settle (keepOf [])) :: devRes s.coming :: bayRow b D a (l1 ++ s :: l2).length :: Own 74 3 (.slice (some a) (l1 ++ s :: l2).length (l1 ++ s :: l2).length) (l1 ++ s :: l2).length ((l1 ++ ⟨none, some ⟨p.r, p.d, ⟨p.v.k.settle (keepOf []), p.v.worn, p.v.left⟩⟩, s.coming⟩ :: l2).flatMap slotCells) :: ((l1 ++ l2).map slotRes ++ R))) ?_
      refine Ent.trans (devIn ⟨p.r, p.d, ⟨p.v.k.settle (keepOf []), p.v.worn, p.v.left⟩⟩ _) ?_
      refine Ent.trans (devNone _) ?_
      exact bayInS (D' := D.setSlot l1.length (SlotP.D ⟨none, some ⟨p.r, p.d, ⟨p.v.k.settle (keepOf []), p.v.worn, p.v.left⟩⟩, s.coming⟩)) ⟨none, some ⟨p.r, p.d, ⟨p.v.k.settle (keepOf []), p.v.worn, p.v.left⟩⟩, s.coming⟩ (by simp) (setSlot_slots h1 _) h2

/-! ### Swap, Load, Push -/
def SlotD.taken (s : SlotD) : Bool := (s.in_.any fun v => !v.k.failed) || s.coming.isSome
theorem taken_ok {W : World} {R : List SProp} {a : Addr} {l1 l2 : List SlotP} {s : SlotP} :
    Does1 W Try.prog 57 [.pointer (some (a.add (l1.length * 3)))] (devRes s.in_ :: slotsOwn a (l1 ++ s :: l2) :: R) (.bool s.D.taken) (devRes s.in_ :: slotsOwn a (l1 ++ s :: l2) :: R) := by
  have c0 := slots_get (l1 ++ s :: l2) l1.length 0 (by simp) (by decide)
  have c2 := slots_get (l1 ++ s :: l2) l1.length 2 (by simp) (by decide)
  simp only [List.getElem_append_right (Nat.le_refl _), Nat.sub_self, List.getElem_cons_zero] at c0 c2
  (refine Does.enter Try.func57 Try.ntmps57 rfl rfl ?_)
  (refine w ?_; repeat ((first | refine VO.step rfl rfl ?_ | refine VD.end rfl rfl rfl ?_ | refine VD.mid rfl rfl rfl ?_); refine OpV.box rfl rfl rfl ?_; intro _; refine w ?_))
  (first | refine VO.pure rfl rfl (.ldRc tab_ok rfl rfl (slots_rds (by (focus repeat first | exact .head _ | apply List.Mem.tail))) (c0.trans rfl)) rfl ?_ | refine VD.take rfl rfl rfl (.ldRc tab_ok rfl rfl (slots_rds (by (focus repeat first | exact .head _ | apply List.Mem.tail))) (c0.trans rfl)) rfl ?_ | refine VQ.pure rfl rfl (.ldRc tab_ok rfl rfl (slots_rds (by (focus repeat first | exact .head _ | apply List.Mem.tail))) (c0.trans rfl)) rfl ?_ | refine VD.end rfl rfl rfl (OpV.pure (.ldRc tab_ok rfl rfl (slots_rds (by (focus repeat first | exact .head _ | apply List.Mem.tail))) (c0.trans rfl)) rfl ?_))
  unfold SlotD.taken
  rw [show s.D.in_ = s.in_.map DevP.v from rfl, show s.D.coming = s.coming.map DevP.v from rfl]
  cases hs : s.in_ with
  | none =>
    dsimp only [devPtr, Option.map_none]
    (refine w ?_; repeat ((first | refine VO.step rfl rfl ?_ | refine VD.end rfl rfl rfl ?_ | refine VD.mid rfl rfl rfl ?_); refine OpV.box rfl rfl rfl ?_; intro _; refine w ?_))
    (first | refine VO.pure rfl rfl (.ldRc tab_ok rfl rfl (slots_rds (by (focus repeat first | exact .head _ | apply List.Mem.tail))) (c2.trans rfl)) rfl ?_ | refine VD.take rfl rfl rfl (.ldRc tab_ok rfl rfl (slots_rds (by (focus repeat first | exact .head _ | apply List.Mem.tail))) (c2.trans rfl)) rfl ?_ | refine VQ.pure rfl rfl (.ldRc tab_ok rfl rfl (slots_rds (by (focus repeat first | exact .head _ | apply List.Mem.tail))) (c2.trans rfl)) rfl ?_ | refine VD.end rfl rfl rfl (OpV.pure (.ldRc tab_ok rfl rfl (slots_rds (by (focus repeat first | exact .head _ | apply List.Mem.tail))) (c2.trans rfl)) rfl ?_))
    cases hs2 : s.coming with
    | none =>
      dsimp only [devPtr, Option.map_none]
      (refine w ?_; repeat ((first | refine VO.step rfl rfl ?_ | refine VD.end rfl rfl rfl ?_ | refine VD.mid rfl rfl rfl ?_); refine OpV.box rfl rfl rfl ?_; intro _; refine w ?_))
      (first | exact VE.done1 rfl rfl Ent.refl | exact VE.done1N rfl rfl Ent.refl)
    | some q =>
      dsimp only [devPtr, Option.map_some]
      (refine w ?_; repeat ((first | refine VO.step rfl rfl ?_ | refine VD.end rfl rfl rfl ?_ | refine VD.mid rfl rfl rfl ?_); refine OpV.box rfl rfl rfl ?_; intro _; refine w ?_))
      (first | exact VE.done1 rfl rfl Ent.refl | exact VE.done1N rfl rfl Ent.refl)
  | some p =>
    dsimp only [devPtr, Option.map_some]
    refine VO.ent (devOut p _) ?_
    (refine w ?_; repeat ((first | refine VO.step rfl rfl ?_ | refine VD.end rfl rfl rfl ?_ | refine VD.mid rfl rfl rfl ?_); refine OpV.box rfl rfl rfl ?_; intro _; refine w ?_))
    (first | refine VO.pure rfl rfl (.ldRc tab_ok rfl rfl (slots_rds (by (focus repeat first | exact .head _ | apply List.Mem.tail))) (c0.trans (by simp [slotCells, devPtr, hs]; rfl))) rfl ?_ | refine VD.take rfl rfl rfl (.ldRc tab_ok rfl rfl (slots_rds (by (focus repeat first | exact .head _ | apply List.Mem.tail))) (c0.trans (by simp [slotCells, devPtr, hs]; rfl))) rfl ?_ | refine VQ.pure rfl rfl (.ldRc tab_ok rfl rfl (slots_rds (by (focus repeat first | exact .head _ | apply List.Mem.tail))) (c0.trans (by simp [slotCells, devPtr, hs]; rfl))) rfl ?_ | refine VD.end rfl rfl rfl (OpV.pure (.ldRc tab_ok rfl rfl (slots_rds (by (focus repeat first | exact .head _ | apply List.Mem.tail))) (c0.trans (by simp [slotCells, devPtr, hs]; rfl))) rfl ?_))
    (refine w ?_; repeat ((first | refine VO.step rfl rfl ?_ | refine VD.end rfl rfl rfl ?_ | refine VD.mid rfl rfl rfl ?_); refine OpV.box rfl rfl rfl ?_; intro _; refine w ?_))
    (((first | refine VO.step rfl rfl ?_ | refine VD.end rfl rfl rfl ?_ | refine VD.mid rfl rfl rfl ?_); refine OpV.call rfl rfl (fun _ _ => by simp) (failed_ok p.d p.v.k) Ent.re rfl ?_); intro _ _)
    (refine w ?_; repeat ((first | refine VO.step rfl rfl ?_ | refine VD.end rfl rfl rfl ?_ | refine VD.mid rfl rfl rfl ?_); refine OpV.box rfl rfl rfl ?_; intro _; refine w ?_))
    cases hf : p.v.k.failed
    · (refine w ?_; repeat ((first | refine VO.step rfl rfl ?_ | refine VD.end rfl rfl rfl ?_ | refine VD.mid rfl rfl rfl ?_); refine OpV.box rfl rfl rfl ?_; intro _; refine w ?_))
      (refine VE.done1 rfl ?_ ?_)
      · simp [hf]
      · exact Ent.trans Ent.re (devIn p _)
    · (refine w ?_; repeat ((first | refine VO.step rfl rfl ?_ | refine VD.end rfl rfl rfl ?_ | refine VD.mid rfl rfl rfl ?_); refine OpV.box rfl rfl rfl ?_; intro _; refine w ?_))
      (first | refine VO.pure rfl rfl (.ldRc tab_ok rfl rfl (slots_rds (by (focus repeat first | exact .head _ | apply List.Mem.tail))) (c2.trans rfl)) rfl ?_ | refine VD.take rfl rfl rfl (.ldRc tab_ok rfl rfl (slots_rds (by (focus repeat first | exact .head _ | apply List.Mem.tail))) (c2.trans rfl)) rfl ?_ | refine VQ.pure rfl rfl (.ldRc tab_ok rfl rfl (slots_rds (by (focus repeat first | exact .head _ | apply List.Mem.tail))) (c2.trans rfl)) rfl ?_ | refine VD.end rfl rfl rfl (OpV.pure (.ldRc tab_ok rfl rfl (slots_rds (by (focus repeat first | exact .head _ | apply List.Mem.tail))) (c2.trans rfl)) rfl ?_))
      refine VO.ent (Ent.trans Ent.re (devIn p _)) ?_
      cases hs2 : s.coming with
      | none =>
        dsimp only [devPtr, Option.map_none]
        (refine w ?_; repeat ((first | refine VO.step rfl rfl ?_ | refine VD.end rfl rfl rfl ?_ | refine VD.mid rfl rfl rfl ?_); refine OpV.box rfl rfl rfl ?_; intro _; refine w ?_))
        (refine VE.done1 rfl ?_ ?_)
        · simp [hf]
        · exact Ent.re
      | some q =>
        dsimp only [devPtr, Option.map_some]
        (refine w ?_; repeat ((first | refine VO.step rfl rfl ?_ | refine VD.end rfl rfl rfl ?_ | refine VD.mid rfl rfl rfl ?_); refine OpV.box rfl rfl rfl ?_; intro _; refine w ?_))
        (refine VE.done1 rfl ?_ ?_)
        · simp [hf]
        · exact Ent.re

/-- Why nothing is laid into a slot; 0: it is. -/
def BayD.layE (D : BayD) (k : Int) : Int := if inRange D.slots.length k = false then 1 else if (D.slot k).taken then 52 else 0
def BayD.lay (D : BayD) (k : Int) (e : Int) (kd : DiskD) : Int × BayD :=
  if D.layE k ≠ 0 then (D.layE k, D) else if e ≠ 0 then (e, D) else (0, D.setSlot k.toNat ⟨some ⟨kd, false, 0⟩, (D.slot k).aside, (D.slot k).coming⟩)
theorem range_split {sp : List SlotP} {k : Int} (h : inRange sp.length k = true) : ∃ (l1 : List SlotP) (s : SlotP) (l2 : List SlotP), sp = l1 ++ s :: l2 ∧ k = (l1.length : Int) := by
  obtain ⟨h0, h1⟩ : 0 ≤ k ∧ k < (sp.length : Int) := of_decide_eq_true h
  obtain ⟨i, rfl⟩ := Int.eq_ofNat_of_zero_le h0
  have hi : i < sp.length := by omega
  refine ⟨sp.take i, sp[i], sp.drop (i + 1), ?_, by rw [List.length_take, Nat.min_eq_left (by omega)]⟩
  rw [← List.drop_eq_getElem_cons hi, List.take_append_drop]

theorem lay_ok {W : World} {R : List SProp} {gm : FuncId} {cp : Array Value} (b : Nat) (D : BayD) (k e : Int) (kd : DiskD) (hcf : ∀ a w, (callFunc gm a).run Try.prog w = .ok (.enter gm a) w) (he : e = 0 ∨ e = 40)
    (hm : ∀ X : List SProp, Does W Try.prog gm cp.toList (X ++ R) (β := Nat) (fun _ => True) (fun d => if e = 0 then .tuple #[.pointer (some ⟨d, 0, none⟩), .int .u16 0] else .tuple #[.pointer none, .int .u16 e]) (fun d => if e = 0 then DiskR d kd :: (X ++ R) else X ++ R)) :
    Does1 W Try.prog 60 [.pointer (some ⟨b, 0, none⟩), .int .i64 k, .func (.func gm) #[] cp] (BayR b D :: R) (.int .u16 (D.lay k e kd).1) (BayR b (D.lay k e kd).2 :: R) := by
  (refine Does.enter Try.func60 Try.ntmps60 rfl rfl ?_)
  refine VC.obtain (fun w => BayR.open) ?_
  rintro ⟨⟨a, sp⟩, h1, h2⟩
  dsimp only at h1 h2 ⊢
  have hl : D.slots.length = sp.length := by rw [h1, List.length_map]
  (refine w ?_; repeat ((first | refine VO.step rfl rfl ?_ | refine VD.end rfl rfl rfl ?_ | refine VD.mid rfl rfl rfl ?_); refine OpV.box rfl rfl rfl ?_; intro _; refine w ?_))
  (((first | refine VO.step rfl rfl ?_ | refine VD.end rfl rfl rfl ?_ | refine VD.mid rfl rfl rfl ?_); refine OpV.call rfl rfl (fun _ _ => by simp) (bayat_ok (D := D) (a := a) (n := sp.length) b k h2) Ent.re rfl ?_); intro _ _)
  unfold slotAt BayD.lay BayD.layE
  cases hin : inRange sp.length k
  · (refine w ?_; repeat ((first | refine VO.step rfl rfl ?_ | refine VD.end rfl rfl rfl ?_ | refine VD.mid rfl rfl rfl ?_); refine OpV.box rfl rfl rfl ?_; intro _; refine w ?_))
    (refine VE.done1 rfl ?_ ?_)
    · rw [hl, hin]; rfl
    · rw [hl, hin]; exact BayR.shut h1 h2
  obtain ⟨l1, s, l2, rfl, rfl⟩ := range_split hin
  rw [hl, hin, slot_at h1]
  simp only [Bool.true_eq_false, if_false]
  (refine w ?_; repeat ((first | refine VO.step rfl rfl ?_ | refine VD.end rfl rfl rfl ?_ | refine VD.mid rfl rfl rfl ?_); refine OpV.box rfl rfl rfl ?_; intro _; refine w ?_))
  refine VO.ent bayOut ?_
  (((first | refine VO.step rfl rfl ?_ | refine VD.end rfl rfl rfl ?_ | refine VD.mid rfl rfl rfl ?_); refine OpV.call rfl rfl (fun _ _ => by simp) (taken_ok (a := a) (l1 := l1) (l2 := l2) (s := s)) Ent.re rfl ?_); intro _ _)
  (refine w ?_; repeat ((first | refine VO.step rfl rfl ?_ | refine VD.end rfl rfl rfl ?_ | refine VD.mid rfl rfl rfl ?_); refine OpV.box rfl rfl rfl ?_; intro _; refine w ?_))
  cases ht : s.D.taken
  · (refine w ?_; repeat ((first | refine VO.step rfl rfl ?_ | refine VD.end rfl rfl rfl ?_ | refine VD.mid rfl rfl rfl ?_); refine OpV.box rfl rfl rfl ?_; intro _; refine w ?_))
    refine VO.ent (Ent.re (L := devRes s.in_ :: slotsOwn a (l1 ++ s :: l2) :: devRes s.aside :: devRes s.coming :: bayRow b D a (l1 ++ s :: l2).length :: ((l1 ++ l2).map slotRes ++ R))) ?_
    have hm := hm (devRes s.in_ :: slotsOwn a (l1 ++ s :: l2) :: devRes s.aside :: devRes s.coming :: bayRow b D a (l1 ++ s :: l2).length :: (l1 ++ l2).map slotRes)
    rcases he with rfl | rfl
    · simp only [if_true] at hm
      (first | refine VO.step rfl rfl ?_ | refine VD.end rfl rfl rfl ?_ | refine VD.mid rfl rfl rfl ?_)
      refine OpV.call rfl rfl hcf hm Ent.refl rfl ?_
      intro d _
      dsimp only [List.cons_append]
      (refine w ?_; repeat ((first | refine VO.step rfl rfl ?_ | refine VD.end rfl rfl rfl ?_ | refine VD.mid rfl rfl rfl ?_); refine OpV.box rfl rfl rfl ?_; intro _; refine w ?_))
      (apply VO.pure rfl rfl; apply PureAt.build sb_72 rfl; (simp [buildX, setL, Value.cells]; rfl); rfl)
      (refine w ?_; repeat ((first | refine VO.step rfl rfl ?_ | refine VD.end rfl rfl rfl ?_ | refine VD.mid rfl rfl rfl ?_); refine OpV.box rfl rfl rfl ?_; intro _; refine w ?_))
      rename_i nr
      (first | refine VO.step rfl rfl ?_ | refine VD.end rfl rfl rfl ?_ | refine VD.mid rfl rfl rfl ?_)
      refine OpV.stO2 tab_ok rfl rfl rfl rfl (by (repeat first | exact .head | apply Hole.tail)) (slots_len 0 (by decide)) (slots_in (some ⟨nr, d, ⟨kd, false, 0⟩⟩)) ?_
      (refine w ?_; repeat ((first | refine VO.step rfl rfl ?_ | refine VD.end rfl rfl rfl ?_ | refine VD.mid rfl rfl rfl ?_); refine OpV.box rfl rfl rfl ?_; intro _; refine w ?_))
      (refine VE.done1 rfl ?_ ?_)
      · rfl
      · refine Ent.trans (Ent.re (L := devRow ⟨nr, d, ⟨kd, false, 0⟩⟩ :: DiskR d kd :: devRes s.aside :: devRes s.coming :: bayRow b D a (l1 ++ s :: l2).length :: Own 74 3 (.slice (some a) (l1 ++ s :: l2).length (l1 ++ s :: l2).length) (l1 ++ s :: l2).length ((l1 ++ { s with in_ := some ⟨nr, d, ⟨kd, false, 0⟩⟩ } :: l2).flatMap slotCells) :: ((l1 ++ l2).map slotRes ++ R))) ?_
        refine Ent.trans (devIn ⟨nr, d, ⟨kd, false, 0⟩⟩ _) ?_
        exact bayInS (D' := D.setSlot l1.length (SlotP.D { s with in_ := some ⟨nr, d, ⟨kd, false, 0⟩⟩ })) { s with in_ := some ⟨nr, d, ⟨kd, false, 0⟩⟩ } (by simp) (setSlot_slots h1 _) h2
    · simp only [show ¬ ((40 : Int) = 0) by decide, if_false] at hm
      (first | refine VO.step rfl rfl ?_ | refine VD.end rfl rfl rfl ?_ | refine VD.mid rfl rfl rfl ?_)
      refine OpV.call rfl rfl hcf hm Ent.refl rfl ?_
      intro d _
      dsimp only [List.cons_append]
      (refine w ?_; repeat ((first | refine VO.step rfl rfl ?_ | refine VD.end rfl rfl rfl ?_ | refine VD.mid rfl rfl rfl ?_); refine OpV.box rfl rfl rfl ?_; intro _; refine w ?_))
      (refine VE.done1 rfl ?_ ?_)
      · rfl
      · exact Ent.trans (Ent.trans Ent.re bayIn) (BayR.shut h1 h2)
  · (refine w ?_; repeat ((first | refine VO.step rfl rfl ?_ | refine VD.end rfl rfl rfl ?_ | refine VD.mid rfl rfl rfl ?_); refine OpV.box rfl rfl rfl ?_; intro _; refine w ?_))
    (refine VE.done1 rfl ?_ ?_)
    · rfl
    · exact Ent.trans (Ent.trans Ent.re bayIn) (BayR.shut h1 h2)

def newE (n : Int) : Int := if 1 ≤ n ∧ n ≤ 8192 then 0 else 40
def BayD.swap (D : BayD) (k n : Int) : Int × BayD := if n < 0 then (1, D) else D.lay k (newE n) (.blank n.toNat)
def loadE (n : Nat) : Int := if n % 128 = 0 ∧ 1 ≤ n / 128 ∧ n / 128 ≤ 8192 then 0 else 40
def BayD.load (D : BayD) (k : Int) (l : List UInt8) : Int × BayD := D.lay k (loadE l.length) ⟨chunks l (l.length / 128), [], false⟩

theorem swapf_ok {W : World} {R : List SProp} (bx : Nat) (n : Int) (X : List SProp) :
    Does W Try.prog 61 [.pointer (some ⟨bx, 0, none⟩)] (X ++ (Row bx 3 [.int .i64 n] :: R)) (β := Nat) (fun _ => True) (fun d => if newE n = 0 then .tuple #[.pointer (some ⟨d, 0, none⟩), .int .u16 0] else .tuple #[.pointer none, .int .u16 (newE n)]) (fun d => if newE n = 0 then DiskR d (.blank n.toNat) :: (X ++ (Row bx 3 [.int .i64 n] :: R)) else X ++ (Row bx 3 [.int .i64 n] :: R)) := by
  have pm : Ent W (X ++ (Row bx 3 [.int .i64 n] :: R)) (Row bx 3 [.int .i64 n] :: (X ++ R)) := fun w hw => hw.perm List.perm_middle
  have mp : Ent W (Row bx 3 [.int .i64 n] :: (X ++ R)) (X ++ (Row bx 3 [.int .i64 n] :: R)) := fun w hw => hw.perm List.perm_middle.symm
  (refine Does.enter Try.func61 Try.ntmps61 rfl rfl ?_)
  refine VC.ent pm ?_
  (refine w ?_; repeat ((first | refine VO.step rfl rfl ?_ | refine VD.end rfl rfl rfl ?_ | refine VD.mid rfl rfl rfl ?_); refine OpV.box rfl rfl rfl ?_; intro _; refine w ?_))
  unfold newE
  by_cases h : 1 ≤ n ∧ n ≤ 8192
  · obtain ⟨m, rfl⟩ := Int.eq_ofNat_of_zero_le (show 0 ≤ n by omega)
    simp only [if_pos h, if_true]
    ((first | refine VO.step rfl rfl ?_ | refine VD.end rfl rfl rfl ?_ | refine VD.mid rfl rfl rfl ?_); refine OpV.call rfl rfl (fun _ _ => by simp) (disknew_ok m (by omega) (by omega)) Ent.re rfl ?_)
    intro d _
    (refine w ?_; repeat ((first | refine VO.step rfl rfl ?_ | refine VD.end rfl rfl rfl ?_ | refine VD.mid rfl rfl rfl ?_); refine OpV.box rfl rfl rfl ?_; intro _; refine w ?_))
    refine VE.done d rfl trivial rfl ?_
    exact fun w hw => hw.perm (List.Perm.cons _ List.perm_middle.symm)
  · simp only [if_neg h, show ¬ ((40 : Int) = 0) by decide, if_false]
    (((first | refine VO.step rfl rfl ?_ | refine VD.end rfl rfl rfl ?_ | refine VD.mid rfl rfl rfl ?_); refine OpV.call rfl rfl (fun _ _ => by simp) (disknew_bad n (by omega)) Ent.re rfl ?_); intro _ _)
    (refine w ?_; repeat ((first | refine VO.step rfl rfl ?_ | refine VD.end rfl rfl rfl ?_ | refine VD.mid rfl rfl rfl ?_); refine OpV.box rfl rfl rfl ?_; intro _; refine w ?_))
    exact VE.done 0 rfl trivial rfl mp

theorem loadf_ok {W : World} {R : List SProp} {ao : Option Addr} {cap : Nat} {l : List UInt8} (bx : Nat) (hl : RdsA W 1 ao l.length (bytes l)) (hlen : l.length ≤ 1000000000) (hcap : l.length ≤ cap) (X : List SProp) :
    Does W Try.prog 62 [.pointer (some ⟨bx, 0, none⟩)] (X ++ (Row bx 32 [.slice ao l.length cap] :: R)) (β := Nat) (fun _ => True) (fun d => if loadE l.length = 0 then .tuple #[.pointer (some ⟨d, 0, none⟩), .int .u16 0] else .tuple #[.pointer none, .int .u16 (loadE l.length)])
      (fun d => if loadE l.length = 0 then DiskR d ⟨chunks l (l.length / 128), [], false⟩ :: (X ++ (Row bx 32 [.slice ao l.length cap] :: R)) else X ++ (Row bx 32 [.slice ao l.length cap] :: R)) := by
  have pm : Ent W (X ++ (Row bx 32 [.slice ao l.length cap] :: R)) (Row bx 32 [.slice ao l.length cap] :: (X ++ R)) := fun w hw => hw.perm List.perm_middle
  have mp : Ent W (Row bx 32 [.slice ao l.length cap] :: (X ++ R)) (X ++ (Row bx 32 [.slice ao l.length cap] :: R)) := fun w hw => hw.perm List.perm_middle.symm
  (refine Does.enter Try.func62 Try.ntmps62 rfl rfl ?_)
  refine VC.ent pm ?_
  (refine w ?_; repeat ((first | refine VO.step rfl rfl ?_ | refine VD.end rfl rfl rfl ?_ | refine VD.mid rfl rfl rfl ?_); refine OpV.box rfl rfl rfl ?_; intro _; refine w ?_))
  unfold loadE
  by_cases h : l.length % 128 = 0 ∧ 1 ≤ l.length / 128 ∧ l.length / 128 ≤ 8192
  · obtain ⟨g1, g2, g3⟩ := h
    have hm : l.length / 128 * 128 = l.length := by omega
    simp only [if_pos (show l.length % 128 = 0 ∧ 1 ≤ l.length / 128 ∧ l.length / 128 ≤ 8192 from ⟨g1, g2, g3⟩), if_true]
    have hr : Rds W (Row bx 32 [.slice ao l.length cap] :: (X ++ R)) 1 ao (l.length / 128 * 128) (bytes l) := by rw [hm]; exact hl _
    have key := load_ok (cap := cap) hr g2 g3 (by omega)
    rw [hm] at key
    ((first | refine VO.step rfl rfl ?_ | refine VD.end rfl rfl rfl ?_ | refine VD.mid rfl rfl rfl ?_); refine OpV.call rfl rfl (fun _ _ => by simp) (key) Ent.refl rfl ?_)
    intro d _
    (refine w ?_; repeat ((first | refine VO.step rfl rfl ?_ | refine VD.end rfl rfl rfl ?_ | refine VD.mid rfl rfl rfl ?_); refine OpV.box rfl rfl rfl ?_; intro _; refine w ?_))
    exact VE.done d rfl trivial rfl (fun w hw => hw.perm (List.Perm.cons _ List.perm_middle.symm))
  · simp only [if_neg h, show ¬ ((40 : Int) = 0) by decide, if_false]
    have lb : ∀ {X : List SProp}, Does1 W Try.prog 63 [.slice ao l.length cap] X (.tuple #[.pointer none, .int .u16 40]) X := by
      intro X
      by_cases h : l.length % 128 = 0
      · exact load_big h (by omega) (by omega)
      · exact load_odd h
    ((first | refine VO.step rfl rfl ?_ | refine VD.end rfl rfl rfl ?_ | refine VD.mid rfl rfl rfl ?_); refine OpV.call rfl rfl (fun _ _ => by simp) (lb) Ent.refl rfl ?_; intro _ _)
    (refine w ?_; repeat ((first | refine VO.step rfl rfl ?_ | refine VD.end rfl rfl rfl ?_ | refine VD.mid rfl rfl rfl ?_); refine OpV.box rfl rfl rfl ?_; intro _; refine w ?_))
    exact VE.done 0 rfl trivial rfl mp
theorem newE_cases (n : Int) : newE n = 0 ∨ newE n = 40 := by unfold newE; split <;> simp
theorem loadE_cases (n : Nat) : loadE n = 0 ∨ loadE n = 40 := by unfold loadE; split <;> simp

theorem bayswap_ok {W : World} {R : List SProp} (b : Nat) (D : BayD) (k n : Int) :
    Does1 W Try.prog 37 [.pointer (some ⟨b, 0, none⟩), .int .i64 k, .int .i64 n] (BayR b D :: R) (.int .u16 (D.swap k n).1) (BayR b (D.swap k n).2 :: R) := by
  (refine Does.enter Try.func37 Try.ntmps37 rfl rfl ?_)
  (refine w ?_; repeat ((first | refine VO.step rfl rfl ?_ | refine VD.end rfl rfl rfl ?_ | refine VD.mid rfl rfl rfl ?_); refine OpV.box rfl rfl rfl ?_; intro _; refine w ?_))
  rename_i bx
  unfold BayD.swap
  (refine VC.cond rfl rfl ?_ ?_ <;> intro hc)
  · have h : n < 0 := of_decide_eq_true hc
    rw [if_pos h]
    (refine w ?_; repeat ((first | refine VO.step rfl rfl ?_ | refine VD.end rfl rfl rfl ?_ | refine VD.mid rfl rfl rfl ?_); refine OpV.box rfl rfl rfl ?_; intro _; refine w ?_))
    (refine VE.done1 rfl ?_ ?_)
    · rfl
    · exact Ent.re
  have h : ¬ n < 0 := of_decide_eq_false hc
  rw [if_neg h]
  (refine w ?_; repeat ((first | refine VO.step rfl rfl ?_ | refine VD.end rfl rfl rfl ?_ | refine VD.mid rfl rfl rfl ?_); refine OpV.box rfl rfl rfl ?_; intro _; refine w ?_))
  (first | refine VO.pure rfl rfl (PureAt.makeFuncN rfl) rfl ?_ | refine VD.take rfl rfl rfl (PureAt.makeFuncN rfl) rfl ?_ | refine VQ.pure rfl rfl (PureAt.makeFuncN rfl) rfl ?_ | refine VD.end rfl rfl rfl (OpV.pure (PureAt.makeFuncN rfl) rfl ?_))
  (refine w ?_; repeat ((first | refine VO.step rfl rfl ?_ | refine VD.end rfl rfl rfl ?_ | refine VD.mid rfl rfl rfl ?_); refine OpV.box rfl rfl rfl ?_; intro _; refine w ?_))
  refine VO.ent (Ent.re (L := BayR b D :: Row bx 3 [.int .i64 n] :: R)) ?_
  ((first | refine VO.step rfl rfl ?_ | refine VD.end rfl rfl rfl ?_ | refine VD.mid rfl rfl rfl ?_); refine OpV.call rfl rfl (fun _ _ => by simp) (lay_ok (R := Row bx 3 [.int .i64 n] :: R) (gm := 61) (cp := #[.pointer (some ⟨bx, 0, none⟩)]) b D k (newE n) (.blank n.toNat) (fun _ _ => by simp) (newE_cases n) (fun X => swapf_ok bx n X)) Ent.refl rfl ?_)
  intro _ _
  (refine w ?_; repeat ((first | refine VO.step rfl rfl ?_ | refine VD.end rfl rfl rfl ?_ | refine VD.mid rfl rfl rfl ?_); refine OpV.box rfl rfl rfl ?_; intro _; refine w ?_))
  (refine VE.done1 rfl ?_ ?_)
  · rfl
  · exact Ent.re
theorem bayload_ok {W : World} {R : List SProp} {ao : Option Addr} {cap : Nat} {l : List UInt8} (b : Nat) (D : BayD) (k : Int) (hl : RdsA W 1 ao l.length (bytes l)) (hlen : l.length ≤ 1000000000) (hcap : l.length ≤ cap) :
    Does1 W Try.prog 38 [.pointer (some ⟨b, 0, none⟩), .int .i64 k, .slice ao l.length cap] (BayR b D :: R) (.int .u16 (D.load k l).1) (BayR b (D.load k l).2 :: R) := by
  (refine Does.enter Try.func38 Try.ntmps38 rfl rfl ?_)
  (refine w ?_; repeat ((first | refine VO.step rfl rfl ?_ | refine VD.end rfl rfl rfl ?_ | refine VD.mid rfl rfl rfl ?_); refine OpV.box rfl rfl rfl ?_; intro _; refine w ?_))
  rename_i bx
  unfold BayD.load
  (first | refine VO.pure rfl rfl (PureAt.makeFuncN rfl) rfl ?_ | refine VD.take rfl rfl rfl (PureAt.makeFuncN rfl) rfl ?_ | refine VQ.pure rfl rfl (PureAt.makeFuncN rfl) rfl ?_ | refine VD.end rfl rfl rfl (OpV.pure (PureAt.makeFuncN rfl) rfl ?_))
  (refine w ?_; repeat ((first | refine VO.step rfl rfl ?_ | refine VD.end rfl rfl rfl ?_ | refine VD.mid rfl rfl rfl ?_); refine OpV.box rfl rfl rfl ?_; intro _; refine w ?_))
  refine VO.ent (Ent.re (L := BayR b D :: Row bx 32 [.slice ao l.length cap] :: R)) ?_
  ((first | refine VO.step rfl rfl ?_ | refine VD.end rfl rfl rfl ?_ | refine VD.mid rfl rfl rfl ?_); refine OpV.call rfl rfl (fun _ _ => by simp) (lay_ok (R := Row bx 32 [.slice ao l.length cap] :: R) (gm := 62) (cp := #[.pointer (some ⟨bx, 0, none⟩)]) b D k (loadE l.length) ⟨chunks l (l.length / 128), [], false⟩ (fun _ _ => by simp) (loadE_cases _) (fun X => loadf_ok bx hl hlen hcap X)) Ent.refl rfl ?_)
  intro _ _
  (refine w ?_; repeat ((first | refine VO.step rfl rfl ?_ | refine VD.end rfl rfl rfl ?_ | refine VD.mid rfl rfl rfl ?_); refine OpV.box rfl rfl rfl ?_; intro _; refine w ?_))
  (refine VE.done1 rfl ?_ ?_)
  · rfl
  · exact Ent.re

def BayD.push (D : BayD) (k : Int) : Int × BayD :=
  if inRange D.slots.length k = false then (1, D) else if (D.slot k).aside.isNone then (51, D) else if (D.slot k).taken then (52, D) else (0, D.setSlot k.toNat ⟨(D.slot k).in_, none, (D.slot k).aside⟩)
theorem baypush_ok {W : World} {R : List SProp} (b : Nat) (D : BayD) (k : Int) :
    Does1 W Try.prog 35 [.pointer (some ⟨b, 0, none⟩), .int .i64 k] (BayR b D :: R) (.int .u16 (D.push k).1) (BayR b (D.push k).2 :: R) := by
  (refine Does.enter Try.func35 Try.ntmps35 rfl rfl ?_)
  refine VC.obtain (fun w => BayR.open) ?_
  rintro ⟨⟨a, sp⟩, h1, h2⟩
  dsimp only at h1 h2 ⊢
  have hl : D.slots.length = sp.length := by rw [h1, List.length_map]
  (refine w ?_; repeat ((first | refine VO.step rfl rfl ?_ | refine VD.end rfl rfl rfl ?_ | refine VD.mid rfl rfl rfl ?_); refine OpV.box rfl rfl rfl ?_; intro _; refine w ?_))
  (((first | refine VO.step rfl rfl ?_ | refine VD.end rfl rfl rfl ?_ | refine VD.mid rfl rfl rfl ?_); refine OpV.call rfl rfl (fun _ _ => by simp) (bayat_ok (D := D) (a := a) (n := sp.length) b k h2) Ent.re rfl ?_); intro _ _)
  unfold slotAt BayD.push
  cases hin : inRange sp.length k
  · (refine w ?_; repeat ((first | refine VO.step rfl rfl ?_ | refine VD.end rfl rfl rfl ?_ | refine VD.mid rfl rfl rfl ?_); refine OpV.box rfl rfl rfl ?_; intro _; refine w ?_))
    (refine VE.done1 rfl ?_ ?_)
    · rw [hl, hin]; rfl
    · rw [hl, hin]; exact BayR.shut h1 h2
  obtain ⟨l1, s, l2, rfl, rfl⟩ := range_split hin
  rw [hl, hin, slot_at h1]
  simp only [Bool.true_eq_false, if_false]
  have c1 := slots_get (l1 ++ s :: l2) l1.length 1 (by simp) (by decide)
  simp only [List.getElem_append_right (Nat.le_refl _), Nat.sub_self, List.getElem_cons_zero] at c1
  (refine w ?_; repeat ((first | refine VO.step rfl rfl ?_ | refine VD.end rfl rfl rfl ?_ | refine VD.mid rfl rfl rfl ?_); refine OpV.box rfl rfl rfl ?_; intro _; refine w ?_))
  (first | refine VO.pure rfl rfl (.ldRc tab_ok rfl rfl (slots_rds (by (focus repeat first | exact .head _ | apply List.Mem.tail))) (c1.trans rfl)) rfl ?_ | refine VD.take rfl rfl rfl (.ldRc tab_ok rfl rfl (slots_rds (by (focus repeat first | exact .head _ | apply List.Mem.tail))) (c1.trans rfl)) rfl ?_ | refine VQ.pure rfl rfl (.ldRc tab_ok rfl rfl (slots_rds (by (focus repeat first | exact .head _ | apply List.Mem.tail))) (c1.trans rfl)) rfl ?_ | refine VD.end rfl rfl rfl (OpV.pure (.ldRc tab_ok rfl rfl (slots_rds (by (focus repeat first | exact .head _ | apply List.Mem.tail))) (c1.trans rfl)) rfl ?_))
  rw [show s.D.aside = s.aside.map DevP.v from rfl]
  cases hs : s.aside with
  | none =>
    dsimp only [devPtr, Option.map_none]
    (refine w ?_; repeat ((first | refine VO.step rfl rfl ?_ | refine VD.end rfl rfl rfl ?_ | refine VD.mid rfl rfl rfl ?_); refine OpV.box rfl rfl rfl ?_; intro _; refine w ?_))
    (refine VE.done1 rfl ?_ ?_)
    · rfl
    · exact BayR.shut h1 h2
  | some q =>
    dsimp only [devPtr, Option.map_some]
    simp only [Option.isNone_some, Bool.false_eq_true, if_false]
    (refine w ?_; repeat ((first | refine VO.step rfl rfl ?_ | refine VD.end rfl rfl rfl ?_ | refine VD.mid rfl rfl rfl ?_); refine OpV.box rfl rfl rfl ?_; intro _; refine w ?_))
    refine VO.ent bayOut ?_
    (((first | refine VO.step rfl rfl ?_ | refine VD.end rfl rfl rfl ?_ | refine VD.mid rfl rfl rfl ?_); refine OpV.call rfl rfl (fun _ _ => by simp) (taken_ok (a := a) (l1 := l1) (l2 := l2) (s := s)) Ent.re rfl ?_); intro _ _)
    (refine w ?_; repeat ((first | refine VO.step rfl rfl ?_ | refine VD.end rfl rfl rfl ?_ | refine VD.mid rfl rfl rfl ?_); refine OpV.box rfl rfl rfl ?_; intro _; refine w ?_))
    cases ht : s.D.taken
    · (refine w ?_; repeat ((first | refine VO.step rfl rfl ?_ | refine VD.end rfl rfl rfl ?_ | refine VD.mid rfl rfl rfl ?_); refine OpV.box rfl rfl rfl ?_; intro _; refine w ?_))
      (first | refine VO.pure rfl rfl (.ldRc tab_ok rfl rfl (slots_rds (by (focus repeat first | exact .head _ | apply List.Mem.tail))) (c1.trans rfl)) rfl ?_ | refine VD.take rfl rfl rfl (.ldRc tab_ok rfl rfl (slots_rds (by (focus repeat first | exact .head _ | apply List.Mem.tail))) (c1.trans rfl)) rfl ?_ | refine VQ.pure rfl rfl (.ldRc tab_ok rfl rfl (slots_rds (by (focus repeat first | exact .head _ | apply List.Mem.tail))) (c1.trans rfl)) rfl ?_ | refine VD.end rfl rfl rfl (OpV.pure (.ldRc tab_ok rfl rfl (slots_rds (by (focus repeat first | exact .head _ | apply List.Mem.tail))) (c1.trans rfl)) rfl ?_))
      (refine w ?_; repeat ((first | refine VO.step rfl rfl ?_ | refine VD.end rfl rfl rfl ?_ | refine VD.mid rfl rfl rfl ?_); refine OpV.box rfl rfl rfl ?_; intro _; refine w ?_))
      (first | refine VO.step rfl rfl ?_ | refine VD.end rfl rfl rfl ?_ | refine VD.mid rfl rfl rfl ?_)
      refine OpV.stO2 tab_ok rfl rfl rfl rfl (by (repeat first | exact .head | apply Hole.tail)) (slots_len 1 (by decide)) (slots_aside none) ?_
      (refine w ?_; repeat ((first | refine VO.step rfl rfl ?_ | refine VD.end rfl rfl rfl ?_ | refine VD.mid rfl rfl rfl ?_); refine OpV.box rfl rfl rfl ?_; intro _; refine w ?_))
      (first | refine VO.step rfl rfl ?_ | refine VD.end rfl rfl rfl ?_ | refine VD.mid rfl rfl rfl ?_)
      refine OpV.stO2 tab_ok rfl rfl rfl rfl (by (repeat first | exact .head | apply Hole.tail)) (by rw [← slots_aside (s := s) none, List.length_set]; exact slots_len 2 (by decide)) (slots_coming s.aside) ?_
      (refine w ?_; repeat ((first | refine VO.step rfl rfl ?_ | refine VD.end rfl rfl rfl ?_ | refine VD.mid rfl rfl rfl ?_); refine OpV.box rfl rfl rfl ?_; intro _; refine w ?_))
      (refine VE.done1 rfl ?_ ?_)
      · rfl
      · refine Ent.trans (Ent.re (L := devRes s.in_ :: devRes s.aside :: bayRow b D a (l1 ++ s :: l2).length :: Own 74 3 (.slice (some a) (l1 ++ s :: l2).length (l1 ++ s :: l2).length) (l1 ++ s :: l2).length ((l1 ++ ⟨s.in_, none, s.aside⟩ :: l2).flatMap slotCells) :: ((l1 ++ l2).map slotRes ++ R))) ?_
        refine Ent.trans (devNone _) ?_
        refine Ent.trans (Ent.re (L := devRes s.in_ :: devRes none :: devRes s.aside :: bayRow b D a (l1 ++ s :: l2).length :: Own 74 3 (.slice (some a) (l1 ++ s :: l2).length (l1 ++ s :: l2).length) (l1 ++ s :: l2).length ((l1 ++ ⟨s.in_, none, s.aside⟩ :: l2).flatMap slotCells) :: ((l1 ++ l2).map slotRes ++ R))) ?_
        have e : (some q.v) = s.D.aside := by rw [show s.D.aside = s.aside.map DevP.v from rfl, hs]; rfl
        rw [e]
        exact bayInS (D' := D.setSlot l1.length (SlotP.D ⟨s.in_, none, s.aside⟩)) ⟨s.in_, none, s.aside⟩ (by simp) (setSlot_slots h1 _) h2
    · (refine w ?_; repeat ((first | refine VO.step rfl rfl ?_ | refine VD.end rfl rfl rfl ?_ | refine VD.mid rfl rfl rfl ?_); refine OpV.box rfl rfl rfl ?_; intro _; refine w ?_))
      (refine VE.done1 rfl ?_ ?_)
      · rfl
      · exact Ent.trans (Ent.trans Ent.re bayIn) (BayR.shut h1 h2)
end Go.Proofs.Ytbmcgmicnfbckaa
