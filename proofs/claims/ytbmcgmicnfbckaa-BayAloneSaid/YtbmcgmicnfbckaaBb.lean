/- Package bay: a bay's memory; slots, what stands in them. -/
import Derived.Test.YtbmcgmicnfbckaaBa
import Derived.Test.YtbmcgmicnfbckaaSlm
set_option maxRecDepth 8000
set_option linter.unusedVariables false
set_option linter.unusedSimpArgs false
set_option linter.unusedSectionVars false
namespace Go.Proofs.Ytbmcgmicnfbckaa
open Go.RowKit Go.Sl
attribute [local irreducible] Own

/-! ### What a bay is -/

structure DevD where
  k : DiskD
  worn : Bool
  left : Int
structure SlotD where
  in_ : Option DevD
  aside : Option DevD
  coming : Option DevD
structure CntD where
  r : Int
  w : Int
  f : Int
structure BayD where
  slots : List SlotD
  dark : Bool
  trip : Int
  n : CntD

/-! ### A bay's memory -/

structure DevP where
  r : Nat
  d : Nat
  v : DevD
structure SlotP where
  in_ : Option DevP
  aside : Option DevP
  coming : Option DevP
def SlotP.D (s : SlotP) : SlotD := ⟨s.in_.map DevP.v, s.aside.map DevP.v, s.coming.map DevP.v⟩
abbrev devPtr (p : Option DevP) : Value := .pointer (p.map fun x => ⟨x.r, 0, none⟩)
def slotCells (s : SlotP) : List Value := [devPtr s.in_, devPtr s.aside, devPtr s.coming]
theorem slotCells_length (s : SlotP) : (slotCells s).length = 3 := rfl
theorem slotCells_one (l : List SlotP) : ∀ u ∈ l.flatMap slotCells, u.oneCell' = true := by
  intro u hu
  obtain ⟨s, _, h⟩ := List.mem_flatMap.1 hu
  simp only [slotCells, List.mem_cons, List.not_mem_nil, or_false] at h
  rcases h with h | h | h <;> subst h <;> rfl
abbrev devRow (p : DevP) : SProp := Row p.r 72 [.pointer (some ⟨p.d, 0, none⟩), .bool p.v.worn, .int .i64 p.v.left]
def devRes : Option DevP → SProp
  | none => fact True
  | some p => Sl.star [devRow p, DiskR p.d p.v.k]
def slotRes (s : SlotP) : SProp := Sl.star [devRes s.in_, devRes s.aside, devRes s.coming]
abbrev bayRow (b : Nat) (D : BayD) (a : Addr) (n : Nat) : SProp := Row b 69 [.slice (some a) n n, .bool D.dark, .int .i64 D.trip, .int .i64 D.n.r, .int .i64 D.n.w, .int .i64 D.n.f]
abbrev slotsOwn (a : Addr) (sp : List SlotP) : SProp := Own 74 3 (.slice (some a) sp.length sp.length) sp.length (sp.flatMap slotCells)
abbrev BayO (b : Nat) (D : BayD) (a : Addr) (sp : List SlotP) (R : List SProp) : List SProp := bayRow b D a sp.length :: slotsOwn a sp :: (sp.map slotRes ++ R)
def BayR (b : Nat) (D : BayD) : SProp := ex fun x : Addr × List SlotP => Sl.star (fact (D.slots = x.2.map SlotP.D ∧ x.2.length ≤ 17) :: BayO b D x.1 x.2 [])
theorem BayR.open {W w : World} {b : Nat} {D : BayD} {R : List SProp} (hw : Holds W (BayR b D :: R) w) : ∃ x : { x : Addr × List SlotP // D.slots = x.2.map SlotP.D ∧ x.2.length ≤ 17 }, Holds W (BayO b D x.1.1 x.1.2 R) w := by
  obtain ⟨x, h⟩ := hw.exOpen
  have h := h.join
  refine ⟨⟨x, h.factOpen⟩, ?_⟩
  have h := h.tail
  have e : BayO b D x.1 x.2 [] ++ R = BayO b D x.1 x.2 R := by simp only [BayO, List.cons_append, List.append_assoc, List.nil_append]
  rw [← e]; exact h
theorem BayR.shut {W : World} {b : Nat} {D : BayD} {R : List SProp} {a : Addr} {sp : List SlotP} (h1 : D.slots = sp.map SlotP.D) (h2 : sp.length ≤ 17) : Ent W (BayO b D a sp R) (BayR b D :: R) := fun w hw =>
  Holds.exShut (a, sp) (Holds.nest (L := fact _ :: BayO b D a sp []) (by
    have h : Holds W (fact (D.slots = sp.map SlotP.D ∧ sp.length ≤ 17) :: BayO b D a sp R) w := hw.factShut ⟨h1, h2⟩
    simpa only [BayO, List.cons_append, List.append_assoc, List.nil_append] using h))
theorem BayR.know {W w : World} {b : Nat} {D : BayD} {R : List SProp} (hw : Holds W (BayR b D :: R) w) : D.slots.length ≤ 17 := by
  obtain ⟨⟨x, h1, h2⟩, _⟩ := BayR.open hw
  rw [h1, List.length_map]; exact h2

/-- One slot's resources to the front, and back. -/
theorem slotOut {W : World} (l1 l2 : List SlotP) (s : SlotP) (R : List SProp) : Ent W ((l1 ++ s :: l2).map slotRes ++ R) (devRes s.in_ :: devRes s.aside :: devRes s.coming :: ((l1 ++ l2).map slotRes ++ R)) := fun w hw => by
  have p : ((l1 ++ s :: l2).map slotRes ++ R).Perm (slotRes s :: ((l1 ++ l2).map slotRes ++ R)) := by
    simp only [List.map_append, List.map_cons, List.append_assoc, List.cons_append]
    exact List.perm_middle
  exact (hw.perm p).join
theorem slotIn {W : World} (l1 l2 : List SlotP) (s : SlotP) (R : List SProp) : Ent W (devRes s.in_ :: devRes s.aside :: devRes s.coming :: ((l1 ++ l2).map slotRes ++ R)) ((l1 ++ s :: l2).map slotRes ++ R) := fun w hw => by
  have p : (slotRes s :: ((l1 ++ l2).map slotRes ++ R)).Perm ((l1 ++ s :: l2).map slotRes ++ R) := by
    simp only [List.map_append, List.map_cons, List.append_assoc, List.cons_append]
    exact List.perm_middle.symm
  exact (Holds.nest (L := [_, _, _]) hw).perm p
theorem devOut {W : World} (p : DevP) (R : List SProp) : Ent W (devRes (some p) :: R) (devRow p :: DiskR p.d p.v.k :: R) := fun w hw => Holds.join (L := [_, _]) hw
theorem devIn {W : World} (p : DevP) (R : List SProp) : Ent W (devRow p :: DiskR p.d p.v.k :: R) (devRes (some p) :: R) := fun w hw => Holds.nest (L := [_, _]) hw
theorem devNone {W : World} (R : List SProp) : Ent W R (devRes none :: R) := fun w hw => hw.factShut trivial
theorem devDrop {W : World} (p : Option DevP) (R : List SProp) : Ent W (devRes p :: R) R := fun w hw => hw.tail

/-! ### Where a slot lies, what is in it -/

def inRange (n : Nat) (k : Int) : Bool := decide (0 ≤ k ∧ k < (n : Int))
def slotAt (a : Addr) (n : Nat) (k : Int) : Option Addr := if inRange n k then some (a.add (k.toNat * 3)) else none
def inP (sp : List SlotP) (k : Int) : Option DevP := if 0 ≤ k then (sp[k.toNat]?).bind SlotP.in_ else none
def BayD.dev (D : BayD) (k : Int) : Option DevD := if 0 ≤ k then (D.slots[k.toNat]?).bind SlotD.in_ else none
theorem inP_D {D : BayD} {sp : List SlotP} (h : D.slots = sp.map SlotP.D) (k : Int) : D.dev k = (inP sp k).map DevP.v := by
  unfold BayD.dev inP
  split
  · rw [h, List.getElem?_map]
    cases sp[k.toNat]? with
    | none => rfl
    | some s => rfl
  · rfl
theorem inP_range {sp : List SlotP} {k : Int} (h : inRange sp.length k = false) : inP sp k = none := by
  unfold inRange at h
  have h := of_decide_eq_false h
  unfold inP
  split
  · rw [List.getElem?_eq_none (by omega)]; rfl
  · rfl

theorem bayat_ok {W : World} {R : List SProp} {D : BayD} {a : Addr} {n : Nat} (b : Nat) (k : Int) (hn : n ≤ 17) :
    Does1 W Try.prog 55 [.pointer (some ⟨b, 0, none⟩), .int .i64 k] (bayRow b D a n :: R) (.pointer (slotAt a n k)) (bayRow b D a n :: R) := by
  (refine Does.enter Try.func55 Try.ntmps55 rfl rfl ?_)
  (refine w ?_; repeat ((first | refine VO.step rfl rfl ?_ | refine VD.end rfl rfl rfl ?_ | refine VD.mid rfl rfl rfl ?_); refine OpV.box rfl rfl rfl ?_; intro _; refine w ?_))
  ((first | refine VO.split rfl rfl rfl ?_ ?_ | refine VD.split rfl rfl rfl ?_ ?_) <;> intro hb)
  · have h : k < 0 := of_decide_eq_true hb
    (refine w ?_; repeat ((first | refine VO.step rfl rfl ?_ | refine VD.end rfl rfl rfl ?_ | refine VD.mid rfl rfl rfl ?_); refine OpV.box rfl rfl rfl ?_; intro _; refine w ?_))
    (refine VE.done1 rfl ?_ ?_)
    · unfold slotAt inRange; rw [if_neg (by simp; omega)]
    · exact Ent.refl
  have h0 : ¬ k < 0 := of_decide_eq_false hb
  (refine w ?_; repeat ((first | refine VO.step rfl rfl ?_ | refine VD.end rfl rfl rfl ?_ | refine VD.mid rfl rfl rfl ?_); refine OpV.box rfl rfl rfl ?_; intro _; refine w ?_))
  (refine VC.cond rfl rfl ?_ ?_ <;> intro hc)
  · have h : (n : Int) ≤ k := by simpa using hc
    (refine w ?_; repeat ((first | refine VO.step rfl rfl ?_ | refine VD.end rfl rfl rfl ?_ | refine VD.mid rfl rfl rfl ?_); refine OpV.box rfl rfl rfl ?_; intro _; refine w ?_))
    (refine VE.done1 rfl ?_ ?_)
    · unfold slotAt inRange; rw [if_neg (by simp; omega)]
    · exact Ent.refl
  have h1 : ¬ (n : Int) ≤ k := by simpa using hc
  obtain ⟨i, rfl⟩ := Int.eq_ofNat_of_zero_le (show 0 ≤ k by omega)
  (refine w ?_; repeat ((first | refine VO.step rfl rfl ?_ | refine VD.end rfl rfl rfl ?_ | refine VD.mid rfl rfl rfl ?_); refine OpV.box rfl rfl rfl ?_; intro _; refine w ?_))
  (refine VE.done1 rfl ?_ ?_)
  · unfold slotAt inRange; rw [if_pos (by simp; omega)]; rfl
  · exact Ent.refl

theorem slots_rds {W : World} {H : List SProp} {a : Addr} {sp : List SlotP} (m : slotsOwn a sp ∈ H) : Rds W H 3 (some a) sp.length (sp.flatMap slotCells) :=
  Rds.own (slotCells_one _) m (flat_length _ fun _ _ => rfl) (fun h => by cases h)
theorem slots_get (sp : List SlotP) (i j : Nat) (h : i < sp.length) (hj : j < 3) : (sp.flatMap slotCells)[i * 3 + j]? = (slotCells sp[i])[j]? := by
  rw [← flat_part (g := slotCells) (w := 3) sp i h (fun _ _ => rfl), List.getElem?_take, if_pos hj, List.getElem?_drop]

theorem inP_at {sp : List SlotP} {i : Nat} (h : i < sp.length) : inP sp (i : Int) = sp[i].in_ := by
  unfold inP
  rw [if_pos (by omega), Int.toNat_natCast, List.getElem?_eq_getElem h]; rfl
theorem bayin_ok {W : World} {R : List SProp} {D : BayD} {a : Addr} {sp : List SlotP} (b : Nat) (k : Int) (hn : sp.length ≤ 17) :
    Does1 W Try.prog 41 [.pointer (some ⟨b, 0, none⟩), .int .i64 k] (bayRow b D a sp.length :: slotsOwn a sp :: R) (devPtr (inP sp k)) (bayRow b D a sp.length :: slotsOwn a sp :: R) := by
  (refine Does.enter Try.func41 Try.ntmps41 rfl rfl ?_)
  (refine w ?_; repeat ((first | refine VO.step rfl rfl ?_ | refine VD.end rfl rfl rfl ?_ | refine VD.mid rfl rfl rfl ?_); refine OpV.box rfl rfl rfl ?_; intro _; refine w ?_))
  (((first | refine VO.step rfl rfl ?_ | refine VD.end rfl rfl rfl ?_ | refine VD.mid rfl rfl rfl ?_); refine OpV.call rfl rfl (fun _ _ => by simp) (bayat_ok (D := D) (a := a) (n := sp.length) b k hn) Ent.re rfl ?_); intro _ _)
  (refine w ?_; repeat ((first | refine VO.step rfl rfl ?_ | refine VD.end rfl rfl rfl ?_ | refine VD.mid rfl rfl rfl ?_); refine OpV.box rfl rfl rfl ?_; intro _; refine w ?_))
  unfold slotAt
  cases hr : inRange sp.length k
  · (refine w ?_; repeat ((first | refine VO.step rfl rfl ?_ | refine VD.end rfl rfl rfl ?_ | refine VD.mid rfl rfl rfl ?_); refine OpV.box rfl rfl rfl ?_; intro _; refine w ?_))
    (refine VE.done1 rfl ?_ ?_)
    · rw [inP_range hr]; rfl
    · exact Ent.refl
  · obtain ⟨h0, h1⟩ : 0 ≤ k ∧ k < (sp.length : Int) := of_decide_eq_true hr
    obtain ⟨i, rfl⟩ := Int.eq_ofNat_of_zero_le h0
    have hi : i < sp.length := by omega
    (refine w ?_; repeat ((first | refine VO.step rfl rfl ?_ | refine VD.end rfl rfl rfl ?_ | refine VD.mid rfl rfl rfl ?_); refine OpV.box rfl rfl rfl ?_; intro _; refine w ?_))
    (first | refine VO.pure rfl rfl (.ldRc tab_ok rfl rfl (slots_rds (by (focus repeat first | exact .head _ | apply List.Mem.tail))) ((slots_get sp i 0 hi (by decide)).trans rfl)) rfl ?_ | refine VD.take rfl rfl rfl (.ldRc tab_ok rfl rfl (slots_rds (by (focus repeat first | exact .head _ | apply List.Mem.tail))) ((slots_get sp i 0 hi (by decide)).trans rfl)) rfl ?_ | refine VQ.pure rfl rfl (.ldRc tab_ok rfl rfl (slots_rds (by (focus repeat first | exact .head _ | apply List.Mem.tail))) ((slots_get sp i 0 hi (by decide)).trans rfl)) rfl ?_ | refine VD.end rfl rfl rfl (OpV.pure (.ldRc tab_ok rfl rfl (slots_rds (by (focus repeat first | exact .head _ | apply List.Mem.tail))) ((slots_get sp i 0 hi (by decide)).trans rfl)) rfl ?_))
    (refine w ?_; repeat ((first | refine VO.step rfl rfl ?_ | refine VD.end rfl rfl rfl ?_ | refine VD.mid rfl rfl rfl ?_); refine OpV.box rfl rfl rfl ?_; intro _; refine w ?_))
    (refine VE.done1 rfl ?_ ?_)
    · rw [inP_at hi]
    · exact Ent.refl

def thereE (n : Nat) (p : Bool) (k : Int) : Int := if inRange n k then (if p then 0 else 51) else 1
theorem baythere_ok {W : World} {R : List SProp} {D : BayD} {a : Addr} {sp : List SlotP} (b : Nat) (k : Int) (hn : sp.length ≤ 17) :
    Does1 W Try.prog 40 [.pointer (some ⟨b, 0, none⟩), .int .i64 k] (bayRow b D a sp.length :: slotsOwn a sp :: R) (.tuple #[devPtr (inP sp k), .int .u16 (thereE sp.length (inP sp k).isSome k)]) (bayRow b D a sp.length :: slotsOwn a sp :: R) := by
  (refine Does.enter Try.func40 Try.ntmps40 rfl rfl ?_)
  (refine w ?_; repeat ((first | refine VO.step rfl rfl ?_ | refine VD.end rfl rfl rfl ?_ | refine VD.mid rfl rfl rfl ?_); refine OpV.box rfl rfl rfl ?_; intro _; refine w ?_))
  (((first | refine VO.step rfl rfl ?_ | refine VD.end rfl rfl rfl ?_ | refine VD.mid rfl rfl rfl ?_); refine OpV.call rfl rfl (fun _ _ => by simp) (bayin_ok (D := D) (a := a) (sp := sp) b k hn) Ent.re rfl ?_); intro _ _)
  (refine w ?_; repeat ((first | refine VO.step rfl rfl ?_ | refine VD.end rfl rfl rfl ?_ | refine VD.mid rfl rfl rfl ?_); refine OpV.box rfl rfl rfl ?_; intro _; refine w ?_))
  (((first | refine VO.step rfl rfl ?_ | refine VD.end rfl rfl rfl ?_ | refine VD.mid rfl rfl rfl ?_); refine OpV.call rfl rfl (fun _ _ => by simp) (bayat_ok (D := D) (a := a) (n := sp.length) b k hn) Ent.re rfl ?_); intro _ _)
  (refine w ?_; repeat ((first | refine VO.step rfl rfl ?_ | refine VD.end rfl rfl rfl ?_ | refine VD.mid rfl rfl rfl ?_); refine OpV.box rfl rfl rfl ?_; intro _; refine w ?_))
  unfold slotAt thereE
  cases hr : inRange sp.length k
  · (refine w ?_; repeat ((first | refine VO.step rfl rfl ?_ | refine VD.end rfl rfl rfl ?_ | refine VD.mid rfl rfl rfl ?_); refine OpV.box rfl rfl rfl ?_; intro _; refine w ?_))
    (refine VE.done1 rfl ?_ ?_)
    · rw [inP_range hr]; rfl
    · exact Ent.refl
  · (refine w ?_; repeat ((first | refine VO.step rfl rfl ?_ | refine VD.end rfl rfl rfl ?_ | refine VD.mid rfl rfl rfl ?_); refine OpV.box rfl rfl rfl ?_; intro _; refine w ?_))
    cases hp : inP sp k
    · (refine w ?_; repeat ((first | refine VO.step rfl rfl ?_ | refine VD.end rfl rfl rfl ?_ | refine VD.mid rfl rfl rfl ?_); refine OpV.box rfl rfl rfl ?_; intro _; refine w ?_))
      (refine VE.done1 rfl ?_ ?_)
      · rfl
      · exact Ent.refl
    · (refine w ?_; repeat ((first | refine VO.step rfl rfl ?_ | refine VD.end rfl rfl rfl ?_ | refine VD.mid rfl rfl rfl ?_); refine OpV.box rfl rfl rfl ?_; intro _; refine w ?_))
      (refine VE.done1 rfl ?_ ?_)
      · rfl
      · exact Ent.refl

/-! ### The disk in a slot, taken out and put back -/

theorem inP_split {sp : List SlotP} {k : Int} {p : DevP} (h : inP sp k = some p) : ∃ (l1 : List SlotP) (s : SlotP) (l2 : List SlotP), sp = l1 ++ s :: l2 ∧ k = (l1.length : Int) ∧ s.in_ = some p := by
  unfold inP at h
  split at h
  · rename_i h0
    obtain ⟨i, rfl⟩ := Int.eq_ofNat_of_zero_le h0
    rw [Int.toNat_natCast] at h
    cases hg : sp[i]? with
    | none => rw [hg] at h; cases h
    | some s =>
      rw [hg] at h
      obtain ⟨hi, e⟩ := List.getElem?_eq_some_iff.1 hg
      refine ⟨sp.take i, s, sp.drop (i + 1), ?_, by rw [List.length_take, Nat.min_eq_left (by omega)], h⟩
      rw [← e, ← List.drop_eq_getElem_cons hi, List.take_append_drop]
  · cases h
/-- What stands behind one slot's disk. -/
abbrev BayX (b : Nat) (D : BayD) (a : Addr) (l1 : List SlotP) (s : SlotP) (l2 : List SlotP) (R : List SProp) : List SProp :=
  devRes s.aside :: devRes s.coming :: bayRow b D a (l1 ++ s :: l2).length :: slotsOwn a (l1 ++ s :: l2) :: ((l1 ++ l2).map slotRes ++ R)
theorem bayOut {W : World} {b : Nat} {D : BayD} {a : Addr} {l1 l2 : List SlotP} {s : SlotP} {R : List SProp} : Ent W (BayO b D a (l1 ++ s :: l2) R) (devRes s.in_ :: BayX b D a l1 s l2 R) := fun w hw => by
  have p1 : (BayO b D a (l1 ++ s :: l2) R).Perm ((l1 ++ s :: l2).map slotRes ++ (bayRow b D a (l1 ++ s :: l2).length :: slotsOwn a (l1 ++ s :: l2) :: R)) := by
    refine List.Perm.trans ?_ List.perm_middle.symm
    exact List.Perm.cons _ List.perm_middle.symm
  have h := slotOut l1 l2 s _ w (hw.perm p1)
  refine h.perm (List.Perm.cons _ (List.Perm.cons _ (List.Perm.cons _ ?_)))
  refine List.Perm.trans List.perm_middle ?_
  exact List.Perm.cons _ List.perm_middle
theorem bayIn {W : World} {b : Nat} {D : BayD} {a : Addr} {l1 l2 : List SlotP} {s : SlotP} {R : List SProp} : Ent W (devRes s.in_ :: BayX b D a l1 s l2 R) (BayO b D a (l1 ++ s :: l2) R) := fun w hw => by
  have p1 : (BayO b D a (l1 ++ s :: l2) R).Perm ((l1 ++ s :: l2).map slotRes ++ (bayRow b D a (l1 ++ s :: l2).length :: slotsOwn a (l1 ++ s :: l2) :: R)) := by
    refine List.Perm.trans ?_ List.perm_middle.symm
    exact List.Perm.cons _ List.perm_middle.symm
  have p2 : (devRes s.in_ :: devRes s.aside :: devRes s.coming :: ((l1 ++ l2).map slotRes ++ (bayRow b D a (l1 ++ s :: l2).length :: slotsOwn a (l1 ++ s :: l2) :: R))).Perm (devRes s.in_ :: BayX b D a l1 s l2 R) := by
    refine List.Perm.cons _ (List.Perm.cons _ (List.Perm.cons _ ?_))
    refine List.Perm.trans List.perm_middle ?_
    exact List.Perm.cons _ List.perm_middle
  exact (slotIn l1 l2 s _ w (hw.perm p2.symm)).perm p1.symm
theorem bayOutP {W : World} {b : Nat} {D : BayD} {a : Addr} {l1 l2 : List SlotP} {s : SlotP} {R : List SProp} {p : DevP} (hs : s.in_ = some p) : Ent W (BayO b D a (l1 ++ s :: l2) R) (devRow p :: DiskR p.d p.v.k :: BayX b D a l1 s l2 R) := fun w hw => by
  have h := bayOut w hw
  rw [hs] at h
  exact devOut p _ w h
/-- The disk has turned, in its place. -/
theorem bayInP {W : World} {b : Nat} {D D' : BayD} {a : Addr} {l1 l2 : List SlotP} {s : SlotP} {R : List SProp} {p : DevP} (hs : s.in_ = some p) (v : DevD) (h1 : D'.slots = (l1 ++ { s with in_ := some ⟨p.r, p.d, v⟩ } :: l2).map SlotP.D) (h2 : (l1 ++ s :: l2).length ≤ 17) :
    Ent W (devRow ⟨p.r, p.d, v⟩ :: DiskR p.d v.k :: BayX b D' a l1 s l2 R) (BayR b D' :: R) := fun w hw => by
  have e1 : (l1 ++ { s with in_ := some ⟨p.r, p.d, v⟩ } :: l2).length = (l1 ++ s :: l2).length := by simp
  have e2 : slotsOwn a (l1 ++ { s with in_ := some ⟨p.r, p.d, v⟩ } :: l2) = slotsOwn a (l1 ++ s :: l2) := by
    unfold slotsOwn
    rw [e1]
    congr 1
    simp only [List.flatMap_append, List.flatMap_cons]
    congr 2
    simp [slotCells, devPtr, hs]
  refine BayR.shut (a := a) h1 (by rw [e1]; exact h2) w ?_
  refine bayIn w ?_
  refine devIn ⟨p.r, p.d, v⟩ _ w ?_
  simp only [BayX, e1, e2]
  exact hw
theorem bayInC {W : World} {b : Nat} {D D' : BayD} {a : Addr} {l1 l2 : List SlotP} {s : SlotP} {R : List SProp} {p : DevP} (P : SProp) (hs : s.in_ = some p) (v : DevD) (h1 : D'.slots = (l1 ++ { s with in_ := some ⟨p.r, p.d, v⟩ } :: l2).map SlotP.D) (h2 : (l1 ++ s :: l2).length ≤ 17) :
    Ent W (P :: devRow ⟨p.r, p.d, v⟩ :: DiskR p.d v.k :: BayX b D' a l1 s l2 R) (P :: BayR b D' :: R) :=
  Ent.ctx (X := [P]) (L := devRow ⟨p.r, p.d, v⟩ :: DiskR p.d v.k :: devRes s.aside :: devRes s.coming :: bayRow b D' a (l1 ++ s :: l2).length :: slotsOwn a (l1 ++ s :: l2) :: (l1 ++ l2).map slotRes) (L' := [BayR b D']) (bayInP (D := D) hs v h1 h2)
def BayD.setIn (D : BayD) (i : Nat) (v : DevD) : BayD := { D with slots := D.slots.set i { (D.slots[i]?.getD ⟨none, none, none⟩) with in_ := some v } }
theorem setIn_slots {D : BayD} {l1 l2 : List SlotP} {s : SlotP} {p : DevP} (h : D.slots = (l1 ++ s :: l2).map SlotP.D) (v : DevD) : (D.setIn l1.length v).slots = (l1 ++ { s with in_ := some ⟨p.r, p.d, v⟩ } :: l2).map SlotP.D := by
  unfold BayD.setIn
  simp only [h, List.map_append, List.map_cons]
  rw [List.set_append_right _ _ (by simp), List.getElem?_append_right (by simp)]
  simp [SlotP.D]

/-! ### Calls that only look -/
theorem bayhas_ok {W : World} {R : List SProp} (b : Nat) (D : BayD) (k : Int) :
    Does1 W Try.prog 14 [.pointer (some ⟨b, 0, none⟩), .int .i64 k] (BayR b D :: R) (.bool ((D.dev k).any fun v => !v.k.failed)) (BayR b D :: R) := by
  (refine Does.enter Try.func14 Try.ntmps14 rfl rfl ?_)
  refine VC.obtain (fun w => BayR.open) ?_
  rintro ⟨⟨a, sp⟩, h1, h2⟩
  dsimp only at h1 h2 ⊢
  (refine w ?_; repeat ((first | refine VO.step rfl rfl ?_ | refine VD.end rfl rfl rfl ?_ | refine VD.mid rfl rfl rfl ?_); refine OpV.box rfl rfl rfl ?_; intro _; refine w ?_))
  (((first | refine VO.step rfl rfl ?_ | refine VD.end rfl rfl rfl ?_ | refine VD.mid rfl rfl rfl ?_); refine OpV.call rfl rfl (fun _ _ => by simp) (bayin_ok (D := D) (a := a) (sp := sp) b k h2) Ent.re rfl ?_); intro _ _)
  (refine w ?_; repeat ((first | refine VO.step rfl rfl ?_ | refine VD.end rfl rfl rfl ?_ | refine VD.mid rfl rfl rfl ?_); refine OpV.box rfl rfl rfl ?_; intro _; refine w ?_))
  rw [inP_D h1]
  cases hp : inP sp k with
  | none =>
    (refine w ?_; repeat ((first | refine VO.step rfl rfl ?_ | refine VD.end rfl rfl rfl ?_ | refine VD.mid rfl rfl rfl ?_); refine OpV.box rfl rfl rfl ?_; intro _; refine w ?_))
    (refine VE.done1 rfl ?_ ?_)
    · rfl
    · exact BayR.shut h1 h2
  | some p =>
    obtain ⟨l1, s, l2, rfl, rfl, hs⟩ := inP_split hp
    dsimp only [devPtr, Option.map_some, Option.isNone_some, Bool.not_false]
    refine VO.ent (bayOutP hs) ?_
    (refine w ?_; repeat ((first | refine VO.step rfl rfl ?_ | refine VD.end rfl rfl rfl ?_ | refine VD.mid rfl rfl rfl ?_); refine OpV.box rfl rfl rfl ?_; intro _; refine w ?_))
    (((first | refine VO.step rfl rfl ?_ | refine VD.end rfl rfl rfl ?_ | refine VD.mid rfl rfl rfl ?_); refine OpV.call rfl rfl (fun _ _ => by simp) (failed_ok p.d p.v.k) Ent.re rfl ?_); intro _ _)
    (refine w ?_; repeat ((first | refine VO.step rfl rfl ?_ | refine VD.end rfl rfl rfl ?_ | refine VD.mid rfl rfl rfl ?_); refine OpV.box rfl rfl rfl ?_; intro _; refine w ?_))
    (refine VE.done1 rfl ?_ ?_)
    · rfl
    · refine Ent.trans Ent.re (bayInP (D := D) (p := p) hs p.v ?_ h2)
      rw [h1]; simp [SlotP.D, hs]
theorem baysectors_ok {W : World} {R : List SProp} (b : Nat) (D : BayD) (k : Int) :
    Does1 W Try.prog 34 [.pointer (some ⟨b, 0, none⟩), .int .i64 k] (BayR b D :: R) (.int .i64 ((D.dev k).elim 0 fun v => v.k.last.length)) (BayR b D :: R) := by
  (refine Does.enter Try.func34 Try.ntmps34 rfl rfl ?_)
  refine VC.obtain (fun w => BayR.open) ?_
  rintro ⟨⟨a, sp⟩, h1, h2⟩
  dsimp only at h1 h2 ⊢
  (refine w ?_; repeat ((first | refine VO.step rfl rfl ?_ | refine VD.end rfl rfl rfl ?_ | refine VD.mid rfl rfl rfl ?_); refine OpV.box rfl rfl rfl ?_; intro _; refine w ?_))
  (((first | refine VO.step rfl rfl ?_ | refine VD.end rfl rfl rfl ?_ | refine VD.mid rfl rfl rfl ?_); refine OpV.call rfl rfl (fun _ _ => by simp) (bayin_ok (D := D) (a := a) (sp := sp) b k h2) Ent.re rfl ?_); intro _ _)
  rw [inP_D h1]
  cases hp : inP sp k with
  | none =>
    dsimp only [devPtr, Option.map_none]
    (refine w ?_; repeat ((first | refine VO.step rfl rfl ?_ | refine VD.end rfl rfl rfl ?_ | refine VD.mid rfl rfl rfl ?_); refine OpV.box rfl rfl rfl ?_; intro _; refine w ?_))
    (refine VE.done1 rfl ?_ ?_)
    · rfl
    · exact BayR.shut h1 h2
  | some p =>
    obtain ⟨l1, s, l2, rfl, rfl, hs⟩ := inP_split hp
    dsimp only [devPtr, Option.map_some, Option.isNone_some, Bool.not_false]
    (refine w ?_; repeat ((first | refine VO.step rfl rfl ?_ | refine VD.end rfl rfl rfl ?_ | refine VD.mid rfl rfl rfl ?_); refine OpV.box rfl rfl rfl ?_; intro _; refine w ?_))
    refine VO.ent (bayOutP hs) ?_
    (refine w ?_; repeat ((first | refine VO.step rfl rfl ?_ | refine VD.end rfl rfl rfl ?_ | refine VD.mid rfl rfl rfl ?_); refine OpV.box rfl rfl rfl ?_; intro _; refine w ?_))
    (((first | refine VO.step rfl rfl ?_ | refine VD.end rfl rfl rfl ?_ | refine VD.mid rfl rfl rfl ?_); refine OpV.call rfl rfl (fun _ _ => by simp) (sectors_ok p.d p.v.k) Ent.re rfl ?_); intro _ _)
    (refine w ?_; repeat ((first | refine VO.step rfl rfl ?_ | refine VD.end rfl rfl rfl ?_ | refine VD.mid rfl rfl rfl ?_); refine OpV.box rfl rfl rfl ?_; intro _; refine w ?_))
    (refine VE.done1 rfl ?_ ?_)
    · rfl
    · refine Ent.trans Ent.re (bayInP (D := D) (p := p) hs p.v ?_ h2)
      rw [h1]; simp [SlotP.D, hs]
def BayD.image (D : BayD) (k : Int) : List UInt8 × Int := match D.dev k with
  | some v => (v.k.img, 0)
  | none => ([], thereE D.slots.length false k)
theorem baypending_ok {W : World} {R : List SProp} (b : Nat) (D : BayD) (k : Int) (hc : ∀ v, D.dev k = some v → v.k.cache.length ≤ 1000000) :
    Does W Try.prog 29 [.pointer (some ⟨b, 0, none⟩), .int .i64 k] (BayR b D :: R) (β := Option Addr × Nat) (fun x => x.1 = none → ((D.dev k).elim [] fun v => v.k.cache.map (·.1)).length = 0) (fun x => .slice x.1 ((D.dev k).elim [] fun v => v.k.cache.map (·.1)).length x.2)
      (fun x => Own 3 1 (.slice x.1 ((D.dev k).elim [] fun v => v.k.cache.map (·.1)).length x.2) ((D.dev k).elim [] fun v => v.k.cache.map (·.1)).length (ints ((D.dev k).elim [] fun v => v.k.cache.map (·.1))) :: BayR b D :: R) := by
  refine DoesA (A := fun _ => True) ?_ (fun x _ w hw => hw.ownNone (.head _))
  (refine Does.enter Try.func29 Try.ntmps29 rfl rfl ?_)
  refine VC.obtain (fun w => BayR.open) ?_
  rintro ⟨⟨a, sp⟩, h1, h2⟩
  dsimp only at h1 h2 ⊢
  (refine w ?_; repeat ((first | refine VO.step rfl rfl ?_ | refine VD.end rfl rfl rfl ?_ | refine VD.mid rfl rfl rfl ?_); refine OpV.box rfl rfl rfl ?_; intro _; refine w ?_))
  (((first | refine VO.step rfl rfl ?_ | refine VD.end rfl rfl rfl ?_ | refine VD.mid rfl rfl rfl ?_); refine OpV.call rfl rfl (fun _ _ => by simp) (bayin_ok (D := D) (a := a) (sp := sp) b k h2) Ent.re rfl ?_); intro _ _)
  rw [inP_D h1] at hc ⊢
  cases hp : inP sp k with
  | none =>
    dsimp only [devPtr, Option.map_none]
    (refine w ?_; repeat ((first | refine VO.step rfl rfl ?_ | refine VD.end rfl rfl rfl ?_ | refine VD.mid rfl rfl rfl ?_); refine OpV.box rfl rfl rfl ?_; intro _; refine w ?_))
    refine VE.done (none, 0) rfl trivial rfl fun w hw => (BayR.shut h1 h2 w hw).ownNil 3 1
  | some p =>
    obtain ⟨l1, s, l2, rfl, rfl, hs⟩ := inP_split hp
    dsimp only [devPtr, Option.map_some, Option.isNone_some, Bool.not_false]
    (refine w ?_; repeat ((first | refine VO.step rfl rfl ?_ | refine VD.end rfl rfl rfl ?_ | refine VD.mid rfl rfl rfl ?_); refine OpV.box rfl rfl rfl ?_; intro _; refine w ?_))
    refine VO.ent (bayOutP hs) ?_
    (refine w ?_; repeat ((first | refine VO.step rfl rfl ?_ | refine VD.end rfl rfl rfl ?_ | refine VD.mid rfl rfl rfl ?_); refine OpV.box rfl rfl rfl ?_; intro _; refine w ?_))
    ((first | refine VO.step rfl rfl ?_ | refine VD.end rfl rfl rfl ?_ | refine VD.mid rfl rfl rfl ?_); refine OpV.call rfl rfl (fun _ _ => by simp) (pending_ok p.d p.v.k (hc p.v (by rw [hp]; rfl))) Ent.re rfl ?_)
    intro x _
    (refine w ?_; repeat ((first | refine VO.step rfl rfl ?_ | refine VD.end rfl rfl rfl ?_ | refine VD.mid rfl rfl rfl ?_); refine OpV.box rfl rfl rfl ?_; intro _; refine w ?_))
    refine VE.done x rfl trivial (by simp) ?_
    have e : (Option.elim (some p.v) ([] : List Nat) fun v => v.k.cache.map (·.1)).length = p.v.k.cache.length := by simp
    rw [e]
    refine Ent.trans Ent.re (bayInC (D := D) (p := p) _ hs p.v ?_ h2)
    rw [h1]; simp [SlotP.D, hs]
theorem baydark_ok {W : World} {R : List SProp} (b : Nat) (D : BayD) :
    Does1 W Try.prog 19 [.pointer (some ⟨b, 0, none⟩)] (BayR b D :: R) (.bool D.dark) (BayR b D :: R) := by
  (refine Does.enter Try.func19 Try.ntmps19 rfl rfl ?_)
  refine VC.obtain (fun w => BayR.open) ?_
  rintro ⟨⟨a, sp⟩, h1, h2⟩
  dsimp only at h1 h2 ⊢
  (refine w ?_; repeat ((first | refine VO.step rfl rfl ?_ | refine VD.end rfl rfl rfl ?_ | refine VD.mid rfl rfl rfl ?_); refine OpV.box rfl rfl rfl ?_; intro _; refine w ?_))
  (refine VE.done1 rfl ?_ ?_)
  · rfl
  · exact BayR.shut h1 h2
abbrev cntV (c : CntD) : Value := .agg #[.int .i64 c.r, .int .i64 c.w, .int .i64 c.f]
theorem baycounts_ok {W : World} {R : List SProp} (b : Nat) (D : BayD) :
    Does1 W Try.prog 17 [.pointer (some ⟨b, 0, none⟩)] (BayR b D :: R) (cntV D.n) (BayR b D :: R) := by
  (refine Does.enter Try.func17 Try.ntmps17 rfl rfl ?_)
  refine VC.obtain (fun w => BayR.open) ?_
  rintro ⟨⟨a, sp⟩, h1, h2⟩
  dsimp only at h1 h2 ⊢
  (refine w ?_; repeat ((first | refine VO.step rfl rfl ?_ | refine VD.end rfl rfl rfl ?_ | refine VD.mid rfl rfl rfl ?_); refine OpV.box rfl rfl rfl ?_; intro _; refine w ?_))
  ((first | refine VO.step rfl rfl ?_ | refine VD.end rfl rfl rfl ?_ | refine VD.mid rfl rfl rfl ?_); refine OpV.allocS sb_40 rfl ?_; intro na)
  (refine w ?_; repeat ((first | refine VO.step rfl rfl ?_ | refine VD.end rfl rfl rfl ?_ | refine VD.mid rfl rfl rfl ?_); refine OpV.box rfl rfl rfl ?_; intro _; refine w ?_))
  (first | refine VO.step rfl rfl ?_ | refine VD.end rfl rfl rfl ?_ | refine VD.mid rfl rfl rfl ?_)
  refine OpV.stA (vs := [.int .i64 D.n.r, .int .i64 D.n.w, .int .i64 D.n.f]) tab_ok rfl rfl rfl rfl (by simp [Value.oneCell']) (by (repeat first | exact .head | apply Hole.tail)) (by simp) ?_
  (refine w ?_; repeat ((first | refine VO.step rfl rfl ?_ | refine VD.end rfl rfl rfl ?_ | refine VD.mid rfl rfl rfl ?_); refine OpV.box rfl rfl rfl ?_; intro _; refine w ?_))
  refine VE.results1 (.inl rfl) () rfl (ResIs.agg (vs := [.int .i64 D.n.r, .int .i64 D.n.w, .int .i64 D.n.f]) tab_ok rfl rfl (.head _) rfl rfl) trivial rfl ?_
  exact Ent.drop (BayR.shut h1 h2)
theorem bayimage_ok {W : World} {R : List SProp} (b : Nat) (D : BayD) (k : Int) :
    Does W Try.prog 22 [.pointer (some ⟨b, 0, none⟩), .int .i64 k] (BayR b D :: R) (β := Option Addr × Nat) (fun x => x.1 = none → (D.image k).1.length = 0) (fun x => .tuple #[sliceB x (D.image k).1, .int .u16 (D.image k).2]) (fun x => OwnB x (D.image k).1 :: BayR b D :: R) := by
  refine DoesA (A := fun _ => True) ?_ (fun x _ w hw => hw.ownNone (.head _))
  (refine Does.enter Try.func22 Try.ntmps22 rfl rfl ?_)
  refine VC.obtain (fun w => BayR.open) ?_
  rintro ⟨⟨a, sp⟩, h1, h2⟩
  dsimp only at h1 h2 ⊢
  (refine w ?_; repeat ((first | refine VO.step rfl rfl ?_ | refine VD.end rfl rfl rfl ?_ | refine VD.mid rfl rfl rfl ?_); refine OpV.box rfl rfl rfl ?_; intro _; refine w ?_))
  (((first | refine VO.step rfl rfl ?_ | refine VD.end rfl rfl rfl ?_ | refine VD.mid rfl rfl rfl ?_); refine OpV.call rfl rfl (fun _ _ => by simp) (baythere_ok (D := D) (a := a) (sp := sp) b k h2) Ent.re rfl ?_); intro _ _)
  unfold BayD.image
  rw [inP_D h1, show D.slots.length = sp.length by rw [h1, List.length_map]]
  cases hp : inP sp k with
  | none =>
    dsimp only [devPtr, Option.map_none, Option.isSome_none]
    (refine w ?_; repeat ((first | refine VO.step rfl rfl ?_ | refine VD.end rfl rfl rfl ?_ | refine VD.mid rfl rfl rfl ?_); refine OpV.box rfl rfl rfl ?_; intro _; refine w ?_))
    have he : thereE sp.length false k ≠ 0 := by unfold thereE; split <;> simp
    (refine VC.condTe rfl rfl (by simpa using he) ?_)
    (refine w ?_; repeat ((first | refine VO.step rfl rfl ?_ | refine VD.end rfl rfl rfl ?_ | refine VD.mid rfl rfl rfl ?_); refine OpV.box rfl rfl rfl ?_; intro _; refine w ?_))
    refine VE.done (none, 0) rfl trivial rfl fun w hw => (BayR.shut h1 h2 w hw).ownNil 5 1
  | some p =>
    obtain ⟨l1, s, l2, rfl, rfl, hs⟩ := inP_split hp
    dsimp only [devPtr, Option.map_some, Option.isSome_some]
    have he : thereE (l1 ++ s :: l2).length true (l1.length : Int) = 0 := by unfold thereE inRange; rw [if_pos (by simp; omega)]; rfl
    rw [he]
    (refine w ?_; repeat ((first | refine VO.step rfl rfl ?_ | refine VD.end rfl rfl rfl ?_ | refine VD.mid rfl rfl rfl ?_); refine OpV.box rfl rfl rfl ?_; intro _; refine w ?_))
    refine VO.ent (bayOutP hs) ?_
    (refine w ?_; repeat ((first | refine VO.step rfl rfl ?_ | refine VD.end rfl rfl rfl ?_ | refine VD.mid rfl rfl rfl ?_); refine OpV.box rfl rfl rfl ?_; intro _; refine w ?_))
    ((first | refine VO.step rfl rfl ?_ | refine VD.end rfl rfl rfl ?_ | refine VD.mid rfl rfl rfl ?_); refine OpV.call rfl rfl (fun _ _ => by simp) (dimg_ok p.d p.v.k) Ent.re rfl ?_)
    intro x _
    (refine w ?_; repeat ((first | refine VO.step rfl rfl ?_ | refine VD.end rfl rfl rfl ?_ | refine VD.mid rfl rfl rfl ?_); refine OpV.box rfl rfl rfl ?_; intro _; refine w ?_))
    refine VE.done x rfl trivial rfl ?_
    refine Ent.trans Ent.re (bayInC (D := D) (p := p) _ hs p.v ?_ h2)
    rw [h1]; simp [SlotP.D, hs]
end Go.Proofs.Ytbmcgmicnfbckaa
