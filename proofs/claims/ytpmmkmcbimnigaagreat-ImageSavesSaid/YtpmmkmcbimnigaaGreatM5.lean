import Derived.Test.YtpmmkmcbimnigaaGreatM4
import Derived.WalkKit
import Derived.ProofKit
import Derived.OpenShut
/-! Text Ld. -/
/- What the law's arguments are: bytes, scripts of calls. -/
set_option maxRecDepth 8000
set_option linter.unusedVariables false
set_option linter.unusedSimpArgs false
set_option linter.unusedSectionVars false
namespace Go.Proofs.YtpmmkmcbimnigaaGreat
open Go.RowKit Go.Sl

theorem byte_of {n : Int} (h : (Lit.int .u8 n).wf = true) : ∃ c : UInt8, n = (c.toNat : Int) := by
  have hb : 0 ≤ n ∧ n ≤ 255 := by simpa [Lit.wf, IntKind.min, IntKind.max, IntKind.signed, IntKind.bits] using h
  refine ⟨UInt8.ofNat n.toNat, ?_⟩
  simp; omega

end Go.Proofs.YtpmmkmcbimnigaaGreat

/-! Text Do. -/
/- DiskFailed: the walk. -/
set_option maxRecDepth 8000
set_option linter.unusedVariables false
set_option linter.unusedSimpArgs false
set_option linter.unusedSectionVars false
namespace Go.Proofs.YtpmmkmcbimnigaaGreat
open Go.RowKit Go.Sl
attribute [local irreducible] Own

end Go.Proofs.YtpmmkmcbimnigaaGreat

/-! Text Dp. -/
/- The statements of the disk: acts, DiskApart, DiskAll. -/
set_option maxRecDepth 8000
set_option linter.unusedVariables false
set_option linter.unusedSimpArgs false
set_option linter.unusedSectionVars false
namespace Go.Proofs.YtpmmkmcbimnigaaGreat
open Go.RowKit Go.Sl
attribute [local irreducible] Own

structure ActD where
  kind : UInt8
  at_ : Int
  dao : Option Addr
  dcap : Nat
  data : List UInt8
  kao : Option Addr
  kcap : Nat
  keep : List Bool
abbrev ActD.cells (o : ActD) : List Value := [.int .u8 (o.kind.toNat : Int), .int .i64 o.at_, .slice o.dao o.data.length o.dcap, .slice o.kao o.keep.length o.kcap]
structure ActD.wf (W : World) (o : ActD) : Prop where
  data : RdsA W 1 o.dao o.data.length (bytes o.data)
  keep : RdsA W 1 o.kao o.keep.length (bools o.keep)
  dl : o.data.length ≤ 140737488355328
  kl : o.keep.length ≤ 140737488355328
theorem flat_get {α β : Type} {g : α → List β} {w : Nat} (l : List α) (j i : Nat) (h : j < l.length) (hw : ∀ a ∈ l, (g a).length = w) (hi : i < w) : (l.flatMap g)[j * w + i]? = (g l[j])[i]? := by
  rw [← flat_part l j h hw, List.getElem?_take, if_pos hi, List.getElem?_drop]
/-! ### What lasts -/

end Go.Proofs.YtpmmkmcbimnigaaGreat

/-! Text Ri. -/
/- DiskLoads: much, pair.does. -/
set_option maxRecDepth 8000
set_option linter.unusedVariables false
set_option linter.unusedSimpArgs false
set_option linter.unusedSectionVars false
namespace Go.Proofs.YtpmmkmcbimnigaaGreat
open Go.RowKit Go.Sl
attribute [local irreducible] Own

def Inv (c : Nat) (k : DiskD) (E : List ListE) (F : List ListI) : Prop := k.cache.length ≤ c ∧ E.length ≤ c ∧ F.length ≤ c ∧ (∀ e ∈ E, e.xs.length ≤ 1000000000) ∧ ∀ e ∈ F, e.xs.length ≤ 1000000000
theorem Inv.up {c : Nat} {k : DiskD} {E : List ListE} {F : List ListI} (h : Inv c k E F) : Inv (c + 1) k E F := by
  obtain ⟨h1, h2, h3, h4, h5⟩ := h; exact ⟨by omega, by omega, by omega, h4, h5⟩
theorem Inv.disk {c : Nat} {k k' : DiskD} {E : List ListE} {F : List ListI} (h : Inv c k E F) (hk : k'.cache.length ≤ c + 1) : Inv (c + 1) k' E F := by
  obtain ⟨h1, h2, h3, h4, h5⟩ := h; exact ⟨hk, by omega, by omega, h4, h5⟩
theorem Inv.bytes {c : Nat} {k : DiskD} {E : List ListE} {F : List ListI} {e : ListE} (h : Inv c k E F) (he : e.xs.length ≤ 1000000000) : Inv (c + 1) k (E ++ [e]) F := by
  obtain ⟨h1, h2, h3, h4, h5⟩ := h
  refine ⟨by omega, by rw [List.length_append, List.length_singleton]; omega, by omega, fun x hx => ?_, h5⟩
  rcases List.mem_append.1 hx with q | q
  · exact h4 x q
  · rw [List.mem_singleton] at q; subst q; exact he
theorem Inv.ints {c : Nat} {k : DiskD} {E : List ListE} {F : List ListI} {e : ListI} (h : Inv c k E F) (he : e.xs.length ≤ 1000000000) : Inv (c + 1) k E (F ++ [e]) := by
  obtain ⟨h1, h2, h3, h4, h5⟩ := h
  refine ⟨by omega, by omega, by rw [List.length_append, List.length_singleton]; omega, h4, fun x hx => ?_⟩
  rcases List.mem_append.1 hx with q | q
  · exact h5 x q
  · rw [List.mem_singleton] at q; subst q; exact he
/-! The document's calls, each in one form -/
theorem docfl_ok {W : World} {R : List SProp} (d : Nat) (k : DiskD) (hc : k.cache.length ≤ 1000000000) :
    Does1 W Tryz.prog 37 [.pointer (some ⟨d, 0, none⟩)] (DocR d k :: R) (.int .i64 k.fl.1) (DocR d k.fl.2 :: R) := by
  unfold DiskD.fl
  cases h : k.failed
  · exact docflush_ok d k h hc
  · exact docflush_bad d k h
theorem docimg_ok {W : World} {R : List SProp} (d : Nat) (k : DiskD) :
    Does W Tryz.prog 96 [.pointer (some ⟨d, 0, none⟩)] (DocR d k :: R) (β := Option Addr × Nat) (fun x => x.1 = none → k.img.length = 0) (fun x => sliceB x k.img) (fun x => OwnB x k.img :: DocR d k :: R) := by
  refine DoesA (A := fun _ => True) ?_ (fun x _ w hw => hw.ownNone (.head _))
  unfold DiskD.img
  cases h : k.failed
  · exact docimage_ok d k h
  · exact Does1M (docimage_bad d k h) (none, 0) trivial rfl fun w hw => hw.ownNil 5 1
theorem DiskD.img_len {k : DiskD} (hk : k.ok) : k.img.length ≤ 1048576 := by
  unfold DiskD.img; split
  · simp
  · have := Go.Proofs.YtpmmkmcbimnigaaGreat.img_len hk; have := hk.size; omega
theorem may_small (k : DiskD) (a : Int) : 0 ≤ k.may a ∧ k.may a ≤ 3 := by rcases k.may_cases a with h | h | h <;> rw [h] <;> decide
theorem wr_small (k : DiskD) (a : Int) (b : List UInt8) : 0 ≤ (k.wr a b).1 ∧ (k.wr a b).1 ≤ 100 := by
  have := may_small k a
  unfold DiskD.wr; split
  · dsimp only; omega
  · split <;> simp
theorem fl_small (k : DiskD) : 0 ≤ k.fl.1 ∧ k.fl.1 ≤ 100 := by unfold DiskD.fl; split <;> simp
theorem DocR.failedCell {W : World} {H : List SProp} {d : Nat} {k : DiskD} (m : DocR d k ∈ H) : ∀ w, Holds W H w → w.cell? ⟨d, 2, none⟩ = some (.bool k.failed) := by
  intro w hw
  obtain ⟨R, p⟩ := mem_perm m
  obtain ⟨x, h⟩ := DocR.open (hw.perm p)
  exact h.cell (.head _) rfl
theorem sets_never : ∀ (l : List (Nat × List UInt8)) (last : List (List UInt8)) (i : Nat), sets (fun _ => false) last i l = last
  | [], _, _ => rfl
  | x :: r, last, i => by rw [sets, if_neg (by simp), sets_never r]
end Go.Proofs.YtpmmkmcbimnigaaGreat

/-! Text Oa. -/
/- The document's bay: its memory; New. -/
set_option maxRecDepth 8000
set_option linter.unusedVariables false
set_option linter.unusedSimpArgs false
set_option linter.unusedSectionVars false
namespace Go.Proofs.YtpmmkmcbimnigaaGreat
open Go.RowKit Go.Sl
attribute [local irreducible] Sl.Own

/-- Where a disk of the document's bay lies. -/
structure RDevP where
  d : Nat
  v : DevD
structure RSlotP where
  in_ : Option RDevP
  aside : Option RDevP
  coming : Option RDevP
def RSlotP.D (s : RSlotP) : SlotD := ⟨s.in_.map RDevP.v, s.aside.map RDevP.v, s.coming.map RDevP.v⟩
abbrev rPtr (p : Option RDevP) : Value := .pointer (p.map fun x => ⟨x.d, 0, none⟩)
def wearV : Option RDevP → Int
  | none => -1
  | some p => if p.v.worn then p.v.left else -1
def rslotCells (s : RSlotP) : List Value := [rPtr s.in_, rPtr s.aside, rPtr s.coming, .int .i64 (wearV s.in_), .int .i64 (wearV s.aside), .int .i64 (wearV s.coming)]
theorem rslotCells_length (s : RSlotP) : (rslotCells s).length = 6 := rfl
theorem rslot_one (s : RSlotP) : ∀ u ∈ rslotCells s, u.oneCell' = true := by
  intro u hu
  simp only [rslotCells, List.mem_cons, List.not_mem_nil, or_false] at hu
  rcases hu with rfl | rfl | rfl | rfl | rfl | rfl <;> rfl
theorem rslots_one (l : List RSlotP) : ∀ u ∈ l.flatMap rslotCells, u.oneCell' = true := by
  intro u hu
  obtain ⟨s, _, h⟩ := List.mem_flatMap.1 hu
  exact rslot_one s u h
theorem rslots_len (l : List RSlotP) : (l.flatMap rslotCells).length = l.length * 6 := flat_length l (fun _ _ => rfl)
theorem rslots_get (l : List RSlotP) (j i : Nat) (h : j < l.length) (hi : i < 6) : (l.flatMap rslotCells)[j * 6 + i]? = (rslotCells l[j])[i]? := flat_at l j i h (fun _ _ => rfl) hi
def rdevRes : Option RDevP → SProp
  | none => fact True
  | some p => DocR p.d p.v.k
def rslotRes (s : RSlotP) : SProp := Sl.star [rdevRes s.in_, rdevRes s.aside, rdevRes s.coming]
abbrev rbayRow (b : Nat) (D : BayD) (x : Option Addr × Nat) (n : Nat) : SProp := Row b 81 [.slice x.1 n x.2, .bool D.dark, .int .i64 D.trip, .int .i64 D.n.r, .int .i64 D.n.w, .int .i64 D.n.f]
abbrev rslotsOwn (x : Option Addr × Nat) (sp : List RSlotP) : SProp := Sl.Own 84 6 (.slice x.1 sp.length x.2) sp.length (sp.flatMap rslotCells)
abbrev RBayO (b : Nat) (D : BayD) (x : Option Addr × Nat) (sp : List RSlotP) (R : List SProp) : List SProp := rbayRow b D x sp.length :: rslotsOwn x sp :: (sp.map rslotRes ++ R)
def RBayR (b : Nat) (D : BayD) : SProp := ex fun x : (Option Addr × Nat) × List RSlotP => Sl.star (fact (D.slots = x.2.map RSlotP.D ∧ x.2.length ≤ 17) :: RBayO b D x.1 x.2 [])
theorem RBayR.open {W w : World} {b : Nat} {D : BayD} {R : List SProp} (hw : Holds W (RBayR b D :: R) w) : ∃ x : { x : (Option Addr × Nat) × List RSlotP // D.slots = x.2.map RSlotP.D ∧ x.2.length ≤ 17 }, Holds W (RBayO b D x.1.1 x.1.2 R) w := by
  obtain ⟨x, h⟩ := hw.exOpen
  have h := h.join
  refine ⟨⟨x, h.factOpen⟩, ?_⟩
  have h := h.tail
  have e : RBayO b D x.1 x.2 [] ++ R = RBayO b D x.1 x.2 R := by simp only [RBayO, List.cons_append, List.append_assoc, List.nil_append]
  rw [← e]; exact h
theorem RBayR.shut {W : World} {b : Nat} {D : BayD} {R : List SProp} {x : Option Addr × Nat} {sp : List RSlotP} (h1 : D.slots = sp.map RSlotP.D) (h2 : sp.length ≤ 17) : Ent W (RBayO b D x sp R) (RBayR b D :: R) := fun w hw =>
  Holds.exShut (x, sp) (Holds.nest (L := fact _ :: RBayO b D x sp []) (by
    have h : Holds W (fact (D.slots = sp.map RSlotP.D ∧ sp.length ≤ 17) :: RBayO b D x sp R) w := hw.factShut ⟨h1, h2⟩
    simpa only [RBayO, List.cons_append, List.append_assoc, List.nil_append] using h))
theorem st_rslots : SliceT Tryz.prog 79 84 (.agg #[.pointer none, .pointer none, .pointer none, .int .i64 0, .int .i64 0, .int .i64 0]) 6 48 := ⟨by kernel_rfl, by kernel_rfl, rfl, by simp [Value.cells, Value.oneCell']⟩
theorem agg_cells (cs : List Value) : [Value.agg cs.toArray].flatMap (·.cells.toList) = cs := by simp [Value.cells]
theorem zeros_bytes (n : Nat) : bytes (List.replicate n zeroSec).flatten = List.replicate (n * 128) (.int .u8 0) := by
  rw [bytes_flatten]; exact zeros_flat n
theorem docnew_ok {W : World} {R : List SProp} {n : Nat} (h1 : 1 ≤ n) (h2 : n ≤ 8192) : Does W Tryz.prog 28 [.int .i64 n] R (β := Nat) (fun _ => True) (fun d => .tuple #[.pointer (some ⟨d, 0, none⟩), .int .i64 0]) (fun d => DocR d (.blank n) :: R) := by
  (refine Does.enter Tryz.func28 Tryz.ntmps28 rfl rfl ?_)
  (refine w ?_; repeat ((first | refine VO.step rfl rfl ?_ | refine VD.end rfl rfl rfl ?_ | refine VD.mid rfl rfl rfl ?_); refine OpV.box rfl rfl rfl ?_; intro _; refine w ?_))
  (first | refine VO.gF rfl rfl rfl (decide_eq_false (by omega)) ?_ | refine VD.gF rfl rfl rfl (decide_eq_false (by omega)) ?_)
  (refine w ?_; repeat ((first | refine VO.step rfl rfl ?_ | refine VD.end rfl rfl rfl ?_ | refine VD.mid rfl rfl rfl ?_); refine OpV.box rfl rfl rfl ?_; intro _; refine w ?_))
  (refine VC.condFe rfl rfl (decide_eq_false (by omega)) ?_)
  (refine w ?_; repeat ((first | refine VO.step rfl rfl ?_ | refine VD.end rfl rfl rfl ?_ | refine VD.mid rfl rfl rfl ?_); refine OpV.box rfl rfl rfl ?_; intro _; refine w ?_))
  refine VO.re 11 (.int .i64 ((n * 128 : Nat) : Int)) rfl (by rw [Nat.mul_comm]; congr 1) ?_
  (first | refine VO.step rfl rfl ?_ | refine VD.end rfl rfl rfl ?_ | refine VD.mid rfl rfl rfl ?_)
  refine OpV.makeSlice1 (m := n * 128) st_22 rfl rfl rfl (by omega) (by simp only [maxLen]; omega) rfl ?_
  intro nb
  (refine w ?_; repeat ((first | refine VO.step rfl rfl ?_ | refine VD.end rfl rfl rfl ?_ | refine VD.mid rfl rfl rfl ?_); refine OpV.box rfl rfl rfl ?_; intro _; refine w ?_))
  (apply VO.pure rfl rfl; apply PureAt.build sb_140 rfl; (simp [buildX, setL, Value.cells]; rfl); rfl)
  (first | refine VO.step rfl rfl ?_ | refine VD.end rfl rfl rfl ?_ | refine VD.mid rfl rfl rfl ?_)
  refine OpV.box rfl rfl rfl ?_
  intro d
  (refine w ?_; repeat ((first | refine VO.step rfl rfl ?_ | refine VD.end rfl rfl rfl ?_ | refine VD.mid rfl rfl rfl ?_); refine OpV.box rfl rfl rfl ?_; intro _; refine w ?_))
  refine VE.done d rfl trivial rfl ?_
  have hk : (DiskD.blank n).ok := ⟨fun b hb => by
    have := (List.mem_replicate.1 hb).2
    rw [this]; exact zeroSec_length, (fun c hc => nomatch hc), by show (List.replicate n zeroSec).length ≤ 8192; rw [List.length_replicate]; exact h2⟩
  have hfl : (DiskD.blank n).last.flatten.length = n * 128 := by
    have := img_len hk
    rw [this]; show (List.replicate n zeroSec).length * 128 = _
    rw [List.length_replicate]
  intro w hw
  have h3 := Holds.ownNil 146 2 hw
  refine DocR.shut (lo := some ⟨nb, 0, none⟩) (lc := n * 128) (co := none) (cc := 0) (C := []) hk rfl w ?_
  have hE : Ent W (Sl.Own 146 2 (.slice none 0 0) 0 [] :: Row d 140 [.slice (some ⟨nb, 0, none⟩) (n * 128) (n * 128), .slice none 0 0, .bool false] :: Sl.Own 5 1 (.slice (some ⟨nb, 0, none⟩) (n * 128) (n * 128)) (n * 128) (List.replicate (n * 128) (.int .u8 0)) :: R) (DocO d (.blank n) (some ⟨nb, 0, none⟩) (n * 128) none 0 [] R) := by
    unfold DocO
    rw [hfl, show bytes (DiskD.blank n).last.flatten = List.replicate (n * 128) (.int .u8 0) from zeros_bytes n]
    exact Ent.re
  exact hE w h3
theorem rslot_push (l : List RSlotP) (s : RSlotP) : (l ++ [s]).flatMap rslotCells = l.flatMap rslotCells ++ rslotCells s := by rw [List.flatMap_append]; simp
theorem rslotNew {W : World} {A B : SProp} {l : List RSlotP} {s : RSlotP} {R : List SProp} : Ent W (rdevRes s.in_ :: rdevRes s.aside :: rdevRes s.coming :: A :: B :: (l.map rslotRes ++ R)) (A :: B :: ((l ++ [s]).map rslotRes ++ R)) := fun w hw => by
  have h1 : Holds W (rslotRes s :: A :: B :: (l.map rslotRes ++ R)) w := Holds.nest (L := [_, _, _]) hw
  refine h1.perm ?_
  rw [List.map_append, List.map_singleton, List.append_assoc]
  have p : (rslotRes s :: A :: B :: (l.map rslotRes ++ R)).Perm (A :: B :: rslotRes s :: (l.map rslotRes ++ R)) := (List.Perm.swap _ _ _).trans ((List.Perm.swap _ _ _).cons _)
  exact p.trans ((List.perm_middle.symm.cons _).cons _)
theorem rslotGrow {W : World} {b : Nat} {so : Option Addr} {sc : Nat} {p : Option RDevP} {sp : List RSlotP} {vs : List Value} {R : List SProp} :
    Ent W (rdevRes p :: Row b 81 (.slice so (sp.length + 1) sc :: vs) :: Sl.Own 84 6 (.slice so (sp.length + 1) sc) (sp.length + 1) (sp.flatMap rslotCells ++ rslotCells ⟨p, none, none⟩) :: (sp.map rslotRes ++ R))
      (Row b 81 (.slice so (sp ++ [(⟨p, none, none⟩ : RSlotP)]).length sc :: vs) :: rslotsOwn (so, sc) (sp ++ [(⟨p, none, none⟩ : RSlotP)]) :: ((sp ++ [(⟨p, none, none⟩ : RSlotP)]).map rslotRes ++ R)) := fun w hw => by
  unfold rslotsOwn
  rw [rslot_push, List.length_append, List.length_singleton]
  have h0 : ∀ {L : List SProp}, Holds W L w → Holds W (rdevRes none :: L) w := fun h => h.factShut trivial
  refine rslotNew (s := ⟨p, none, none⟩) w ?_
  have h1 := h0 (h0 hw)
  refine Holds.perm ?_ h1
  exact List.perm_middle (l₁ := [rdevRes none, rdevRes none])
set_option maxHeartbeats 4000000 in
theorem rbaynew_ok {W : World} {R : List SProp} {ao : Option Addr} {cap : Nat} {l : List Int} (hr : Rds W R 1 ao l.length (intsI l)) (hlen : l.length ≤ 1000000000) :
    Does W Tryz.prog 5 [.slice ao l.length cap] R (β := Option Nat) (fun x => x.isSome = decide (bayE l = 0)) (fun x => .tuple #[.pointer (x.map fun b => ⟨b, 0, none⟩), .int .u16 (bayE l)]) (fun x => x.elim R fun b => RBayR b (BayD.new l) :: R) := by
  (refine Does.enter Tryz.func5 Tryz.ntmps5 rfl rfl ?_)
  (refine w ?_; repeat ((first | refine VO.step rfl rfl ?_ | refine VD.end rfl rfl rfl ?_ | refine VD.mid rfl rfl rfl ?_); refine OpV.box rfl rfl rfl ?_; intro _; refine w ?_))
  unfold bayE
  ((first | refine VO.split rfl rfl rfl ?_ ?_ | refine VD.split rfl rfl rfl ?_ ?_) <;> intro hb)
  · have h : l.length < 1 := by have := of_decide_eq_true hb; omega
    (refine w ?_; repeat ((first | refine VO.step rfl rfl ?_ | refine VD.end rfl rfl rfl ?_ | refine VD.mid rfl rfl rfl ?_); refine OpV.box rfl rfl rfl ?_; intro _; refine w ?_))
    refine VE.done none rfl (by rw [if_pos (Or.inl h)]; rfl) (by rw [if_pos (Or.inl h)]; rfl) Ent.refl
  have h1 : ¬ l.length < 1 := by have := of_decide_eq_false hb; omega
  clear hb
  (refine w ?_; repeat ((first | refine VO.step rfl rfl ?_ | refine VD.end rfl rfl rfl ?_ | refine VD.mid rfl rfl rfl ?_); refine OpV.box rfl rfl rfl ?_; intro _; refine w ?_))
  (refine VC.cond rfl rfl ?_ ?_ <;> intro hc)
  · have h : 17 < l.length := by have := of_decide_eq_true hc; omega
    (refine w ?_; repeat ((first | refine VO.step rfl rfl ?_ | refine VD.end rfl rfl rfl ?_ | refine VD.mid rfl rfl rfl ?_); refine OpV.box rfl rfl rfl ?_; intro _; refine w ?_))
    refine VE.done none rfl (by rw [if_pos (Or.inr h)]; rfl) (by rw [if_pos (Or.inr h)]; rfl) Ent.refl
  have h2 : ¬ 17 < l.length := by have := of_decide_eq_false hc; omega
  clear hc
  rw [if_neg (by omega)]
  obtain ⟨la, rfl⟩ : ∃ x, ao = some x := by cases ao with | none => have := hr.nil rfl; omega | some x => exact ⟨x, rfl⟩
  (refine w ?_; repeat ((first | refine VO.step rfl rfl ?_ | refine VD.end rfl rfl rfl ?_ | refine VD.mid rfl rfl rfl ?_); refine OpV.box rfl rfl rfl ?_; intro _; refine w ?_))
  (apply VO.pure rfl rfl; apply PureAt.build sb_81 rfl; (simp [buildX, setL, Value.cells]; rfl); rfl)
  (first | refine VO.step rfl rfl ?_ | refine VD.end rfl rfl rfl ?_ | refine VD.mid rfl rfl rfl ?_)
  refine OpV.box rfl rfl rfl ?_
  intro b
  (refine w ?_; repeat ((first | refine VO.step rfl rfl ?_ | refine VD.end rfl rfl rfl ?_ | refine VD.mid rfl rfl rfl ?_); refine OpV.box rfl rfl rfl ?_; intro _; refine w ?_))
  have hb0 : ∀ i, i < l.length → ∀ H : List SProp, Ent W H R → Rds W H 1 (some la) l.length (intsI l) := fun i _ H e => hr.ent e
  refine VC.loop (α := Nat) (fun i => i ≤ l.length ∧ ∀ (j : Nat) (h : j < l.length), j < i → sizeOk l[j] = true) (fun _ => Row b 81 [.slice none 0 0, .bool false, .int .i64 (-1), .int .i64 0, .int .i64 0, .int .i64 0] :: R)
    (fun i => [(0, .slice (some la) l.length cap), (4, .pointer (some ⟨b, 0, none⟩)), (5, .int .i64 i)]) (fun i => l.length - i) rfl 0 ⟨Nat.zero_le _, fun j h h' => absurd h' (by omega)⟩ Ent.refl ⟨rfl, rfl, rfl, trivial⟩ ?_
  rintro i ⟨hi, hall⟩
  (refine w ?_; repeat ((first | refine VO.step rfl rfl ?_ | refine VD.end rfl rfl rfl ?_ | refine VD.mid rfl rfl rfl ?_); refine OpV.box rfl rfl rfl ?_; intro _; refine w ?_))
  (refine VC.cond rfl rfl ?_ ?_ <;> intro hc)
  · have hlt : i < l.length := by have := of_decide_eq_true hc; omega
    clear hc
    have hbad : sizeOk l[i] = false → l.all sizeOk = false := fun h => by
      rw [← Bool.not_eq_true]
      intro h'
      have := List.all_eq_true.1 h' _ (List.getElem_mem hlt)
      rw [h] at this; cases this
    (refine w ?_; repeat ((first | refine VO.step rfl rfl ?_ | refine VD.end rfl rfl rfl ?_ | refine VD.mid rfl rfl rfl ?_); refine OpV.box rfl rfl rfl ?_; intro _; refine w ?_))
    (first | refine VO.pure rfl rfl (PureAt.ldR tab_ok rfl rfl (hr.ent (Ent.drop Ent.refl)) (intsI_get l i hlt)) rfl ?_ | refine VD.take rfl rfl rfl (PureAt.ldR tab_ok rfl rfl (hr.ent (Ent.drop Ent.refl)) (intsI_get l i hlt)) rfl ?_ | refine VQ.pure rfl rfl (PureAt.ldR tab_ok rfl rfl (hr.ent (Ent.drop Ent.refl)) (intsI_get l i hlt)) rfl ?_ | refine VD.end rfl rfl rfl (OpV.pure (PureAt.ldR tab_ok rfl rfl (hr.ent (Ent.drop Ent.refl)) (intsI_get l i hlt)) rfl ?_))
    (refine w ?_; repeat ((first | refine VO.step rfl rfl ?_ | refine VD.end rfl rfl rfl ?_ | refine VD.mid rfl rfl rfl ?_); refine OpV.box rfl rfl rfl ?_; intro _; refine w ?_))
    ((first | refine VO.split rfl rfl rfl ?_ ?_ | refine VD.split rfl rfl rfl ?_ ?_) <;> intro hb)
    · have h : l[i] < 0 := of_decide_eq_true hb
      have h3 := hbad (by unfold sizeOk; exact decide_eq_false (by omega))
      (refine w ?_; repeat ((first | refine VO.step rfl rfl ?_ | refine VD.end rfl rfl rfl ?_ | refine VD.mid rfl rfl rfl ?_); refine OpV.box rfl rfl rfl ?_; intro _; refine w ?_))
      refine VE.done none rfl (by rw [h3]; rfl) (by rw [h3]; rfl) (Ent.drop Ent.refl)
    have h3 : ¬ l[i] < 0 := of_decide_eq_false hb
    clear hb
    (refine w ?_; repeat ((first | refine VO.step rfl rfl ?_ | refine VD.end rfl rfl rfl ?_ | refine VD.mid rfl rfl rfl ?_); refine OpV.box rfl rfl rfl ?_; intro _; refine w ?_))
    (first | refine VO.pure rfl rfl (PureAt.ldR tab_ok rfl rfl (hr.ent (Ent.drop Ent.refl)) (intsI_get l i hlt)) rfl ?_ | refine VD.take rfl rfl rfl (PureAt.ldR tab_ok rfl rfl (hr.ent (Ent.drop Ent.refl)) (intsI_get l i hlt)) rfl ?_ | refine VQ.pure rfl rfl (PureAt.ldR tab_ok rfl rfl (hr.ent (Ent.drop Ent.refl)) (intsI_get l i hlt)) rfl ?_ | refine VD.end rfl rfl rfl (OpV.pure (PureAt.ldR tab_ok rfl rfl (hr.ent (Ent.drop Ent.refl)) (intsI_get l i hlt)) rfl ?_))
    (refine w ?_; repeat ((first | refine VO.step rfl rfl ?_ | refine VD.end rfl rfl rfl ?_ | refine VD.mid rfl rfl rfl ?_); refine OpV.box rfl rfl rfl ?_; intro _; refine w ?_))
    (refine VC.cond rfl rfl ?_ ?_ <;> intro hc)
    · have h : 8192 < l[i] := of_decide_eq_true hc
      have h4 := hbad (by unfold sizeOk; exact decide_eq_false (by omega))
      (refine w ?_; repeat ((first | refine VO.step rfl rfl ?_ | refine VD.end rfl rfl rfl ?_ | refine VD.mid rfl rfl rfl ?_); refine OpV.box rfl rfl rfl ?_; intro _; refine w ?_))
      refine VE.done none rfl (by rw [h4]; rfl) (by rw [h4]; rfl) (Ent.drop Ent.refl)
    have h4 : ¬ 8192 < l[i] := of_decide_eq_false hc
    clear hc
    (refine w ?_; repeat ((first | refine VO.step rfl rfl ?_ | refine VD.end rfl rfl rfl ?_ | refine VD.mid rfl rfl rfl ?_); refine OpV.box rfl rfl rfl ?_; intro _; refine w ?_))
    refine VE.round (i + 1) ⟨hlt, fun j h h' => ?_⟩ (by omega) ⟨rfl, rfl, asV rfl (by congr 1), trivial⟩ Ent.refl
    by_cases hji : j < i
    · exact hall j h hji
    · have : j = i := by omega
      subst this
      unfold sizeOk
      exact decide_eq_true (by omega)
  have hge : i = l.length := by have := of_decide_eq_false hc; omega
  clear hc
  subst hge
  have hok : l.all sizeOk = true := List.all_eq_true.2 fun u hu => by
    obtain ⟨j, hj, rfl⟩ := List.mem_iff_getElem.1 hu
    exact hall j hj hj
  rw [hok]
  simp only [if_true]
  (refine w ?_; repeat ((first | refine VO.step rfl rfl ?_ | refine VD.end rfl rfl rfl ?_ | refine VD.mid rfl rfl rfl ?_); refine OpV.box rfl rfl rfl ?_; intro _; refine w ?_))
  refine VC.ent (fun w hw => Holds.ownNil 84 6 hw) ?_
  refine VC.loop (α := Nat × List RSlotP × Option Addr × Nat) (fun y => y.1 ≤ l.length ∧ y.2.1.length = y.1 ∧ y.2.1.map RSlotP.D = (l.take y.1).map slotOf) (fun y => Row b 81 [.slice y.2.2.1 y.2.1.length y.2.2.2, .bool false, .int .i64 (-1), .int .i64 0, .int .i64 0, .int .i64 0] :: rslotsOwn y.2.2 y.2.1 :: (y.2.1.map rslotRes ++ R))
    (fun y => [(0, .slice (some la) l.length cap), (4, .pointer (some ⟨b, 0, none⟩)), (6, .int .i64 y.1)]) (fun y => l.length - y.1) rfl (0, [], none, 0) ⟨Nat.zero_le _, rfl, rfl⟩ Ent.re ⟨rfl, rfl, rfl, trivial⟩ ?_
  rintro ⟨i, sp, so, sc⟩ ⟨hi, hsl, hsd⟩
  dsimp only at hi hsl hsd ⊢
  (refine w ?_; repeat ((first | refine VO.step rfl rfl ?_ | refine VD.end rfl rfl rfl ?_ | refine VD.mid rfl rfl rfl ?_); refine OpV.box rfl rfl rfl ?_; intro _; refine w ?_))
  (refine VC.cond rfl rfl ?_ ?_ <;> intro hc)
  · have hlt : i < l.length := by have := of_decide_eq_true hc; omega
    clear hc
    have hRm : ∀ A : List SProp, Rds W (A ++ (sp.map rslotRes ++ R)) 1 (some la) l.length (intsI l) := fun A => by rw [← List.append_assoc]; exact hr.ent (Ent.dropAll _)
    have hsz := List.all_eq_true.1 hok _ (List.getElem_mem hlt)
    have hsz2 : 0 ≤ l[i] ∧ l[i] ≤ 8192 := of_decide_eq_true hsz
    (refine w ?_; repeat ((first | refine VO.step rfl rfl ?_ | refine VD.end rfl rfl rfl ?_ | refine VD.mid rfl rfl rfl ?_); refine OpV.box rfl rfl rfl ?_; intro _; refine w ?_))
    (apply VO.pure rfl rfl; apply PureAt.build sb_84 rfl; (simp [buildX, setL, Value.cells]; rfl); rfl)
    (first | refine VO.step rfl rfl ?_ | refine VD.end rfl rfl rfl ?_ | refine VD.mid rfl rfl rfl ?_)
    refine OpV.allocS sb_84 rfl ?_
    intro n7
    (first | refine VO.step rfl rfl ?_ | refine VD.end rfl rfl rfl ?_ | refine VD.mid rfl rfl rfl ?_)
    refine OpV.stA (vs := rslotCells ⟨none, none, none⟩) tab_ok rfl rfl rfl rfl (rslot_one _) (by (repeat first | exact .head | apply Hole.tail)) (by simp) ?_
    change VO _ _ _ _ _ _ (Row n7 _ (rslotCells ⟨none, none, none⟩) :: _) _
    (refine w ?_; repeat ((first | refine VO.step rfl rfl ?_ | refine VD.end rfl rfl rfl ?_ | refine VD.mid rfl rfl rfl ?_); refine OpV.box rfl rfl rfl ?_; intro _; refine w ?_))
    (first | refine VO.join (α := Option RDevP) (fun p => RSlotP.D ⟨p, none, none⟩ = slotOf l[i]) (fun p => rdevRes p :: Row n7 84 (rslotCells ⟨p, none, none⟩) :: Row b 81 [.slice so sp.length sc, .bool false, .int .i64 (-1), .int .i64 0, .int .i64 0, .int .i64 0] :: rslotsOwn (so, sc) sp :: (sp.map rslotRes ++ R)) (fun _ => [(0, .slice (some la) l.length cap), (4, .pointer (some ⟨b, 0, none⟩)), (6, .int .i64 i), (7, .pointer (some ⟨n7, 0, none⟩))]) ?_ ?_ | refine VC.joinTB (α := Option RDevP) (fun p => RSlotP.D ⟨p, none, none⟩ = slotOf l[i]) (fun p => rdevRes p :: Row n7 84 (rslotCells ⟨p, none, none⟩) :: Row b 81 [.slice so sp.length sc, .bool false, .int .i64 (-1), .int .i64 0, .int .i64 0, .int .i64 0] :: rslotsOwn (so, sc) sp :: (sp.map rslotRes ++ R)) (fun _ => [(0, .slice (some la) l.length cap), (4, .pointer (some ⟨b, 0, none⟩)), (6, .int .i64 i), (7, .pointer (some ⟨n7, 0, none⟩))]) ?_ ?_ | refine VC.joinB (α := Option RDevP) (fun p => RSlotP.D ⟨p, none, none⟩ = slotOf l[i]) (fun p => rdevRes p :: Row n7 84 (rslotCells ⟨p, none, none⟩) :: Row b 81 [.slice so sp.length sc, .bool false, .int .i64 (-1), .int .i64 0, .int .i64 0, .int .i64 0] :: rslotsOwn (so, sc) sp :: (sp.map rslotRes ++ R)) (fun _ => [(0, .slice (some la) l.length cap), (4, .pointer (some ⟨b, 0, none⟩)), (6, .int .i64 i), (7, .pointer (some ⟨n7, 0, none⟩))]) ?_ ?_ | refine VC.join (α := Option RDevP) (fun p => RSlotP.D ⟨p, none, none⟩ = slotOf l[i]) (fun p => rdevRes p :: Row n7 84 (rslotCells ⟨p, none, none⟩) :: Row b 81 [.slice so sp.length sc, .bool false, .int .i64 (-1), .int .i64 0, .int .i64 0, .int .i64 0] :: rslotsOwn (so, sc) sp :: (sp.map rslotRes ++ R)) (fun _ => [(0, .slice (some la) l.length cap), (4, .pointer (some ⟨b, 0, none⟩)), (6, .int .i64 i), (7, .pointer (some ⟨n7, 0, none⟩))]) ?_ ?_)
    · intro Q2 jn
      (first | refine VO.pure rfl rfl (PureAt.ldR tab_ok rfl rfl (hRm [_, _, _]) (intsI_get l i hlt)) rfl ?_ | refine VD.take rfl rfl rfl (PureAt.ldR tab_ok rfl rfl (hRm [_, _, _]) (intsI_get l i hlt)) rfl ?_ | refine VQ.pure rfl rfl (PureAt.ldR tab_ok rfl rfl (hRm [_, _, _]) (intsI_get l i hlt)) rfl ?_ | refine VD.end rfl rfl rfl (OpV.pure (PureAt.ldR tab_ok rfl rfl (hRm [_, _, _]) (intsI_get l i hlt)) rfl ?_))
      (refine w ?_; repeat ((first | refine VO.step rfl rfl ?_ | refine VD.end rfl rfl rfl ?_ | refine VD.mid rfl rfl rfl ?_); refine OpV.box rfl rfl rfl ?_; intro _; refine w ?_))
      (refine VC.cond rfl rfl ?_ ?_ <;> intro hc)
      · have hpos : 0 < l[i] := of_decide_eq_true hc
        obtain ⟨m, hm⟩ := Int.eq_ofNat_of_zero_le hsz2.1
        rw [hm] at hpos hsz2
        have hs : slotOf l[i] = ⟨some ⟨.blank m, false, 0⟩, none, none⟩ := by unfold slotOf; rw [hm, if_neg (by omega)]; rfl
        (refine w ?_; repeat ((first | refine VO.step rfl rfl ?_ | refine VD.end rfl rfl rfl ?_ | refine VD.mid rfl rfl rfl ?_); refine OpV.box rfl rfl rfl ?_; intro _; refine w ?_))
        (first | refine VO.pure rfl rfl (PureAt.ldR tab_ok rfl rfl (hRm [_, _, _]) (intsI_get l i hlt)) rfl ?_ | refine VD.take rfl rfl rfl (PureAt.ldR tab_ok rfl rfl (hRm [_, _, _]) (intsI_get l i hlt)) rfl ?_ | refine VQ.pure rfl rfl (PureAt.ldR tab_ok rfl rfl (hRm [_, _, _]) (intsI_get l i hlt)) rfl ?_ | refine VD.end rfl rfl rfl (OpV.pure (PureAt.ldR tab_ok rfl rfl (hRm [_, _, _]) (intsI_get l i hlt)) rfl ?_))
        rw [hm]
        ((first | refine VO.step rfl rfl ?_ | refine VD.end rfl rfl rfl ?_ | refine VD.mid rfl rfl rfl ?_); refine OpV.call rfl rfl (fun _ _ => by simp) (docnew_ok (n := m) (by omega) (by omega)) Ent.re rfl ?_)
        intro d _
        (refine w ?_; repeat ((first | refine VO.step rfl rfl ?_ | refine VD.end rfl rfl rfl ?_ | refine VD.mid rfl rfl rfl ?_); refine OpV.box rfl rfl rfl ?_; intro _; refine w ?_))
        (first | refine VO.step rfl rfl ?_ | refine VD.end rfl rfl rfl ?_ | refine VD.mid rfl rfl rfl ?_)
        refine OpV.st (cs := rslotCells ⟨none, none, none⟩) tab_ok rfl rfl rfl rfl (by (repeat first | exact .head | apply Hole.tail)) (by decide) ?_
        (refine w ?_; repeat ((first | refine VO.step rfl rfl ?_ | refine VD.end rfl rfl rfl ?_ | refine VD.mid rfl rfl rfl ?_); refine OpV.box rfl rfl rfl ?_; intro _; refine w ?_))
        refine jn.to (some ⟨d, ⟨.blank m, false, 0⟩⟩) hs.symm ⟨rfl, rfl, rfl, rfl, trivial⟩ ?_
        exact Ent.refl
      · have hneg : l[i] = 0 := by have := of_decide_eq_false hc; omega
        (refine w ?_; repeat ((first | refine VO.step rfl rfl ?_ | refine VD.end rfl rfl rfl ?_ | refine VD.mid rfl rfl rfl ?_); refine OpV.box rfl rfl rfl ?_; intro _; refine w ?_))
        refine jn.to none (by rw [hneg]; rfl) ⟨rfl, rfl, rfl, rfl, trivial⟩ ?_
        exact fun w hw => hw.factShut trivial
    intro p hp
    (refine VC.drawn [6, 7] 8 [0, 1, 2, 3, 4, 5, 6, 7, 8, 9, 10] (rdevRes p :: Row n7 84 (rslotCells ⟨p, none, none⟩) :: Row b 81 [.slice so sp.length sc, .bool false, .int .i64 (-1), .int .i64 0, .int .i64 0, .int .i64 0] :: (sp.map rslotRes ++ R)) rfl (by kernel_rfl) (by kernel_rfl) Ent.re ?_)
    (refine w ?_; repeat ((first | refine VO.step rfl rfl ?_ | refine VD.end rfl rfl rfl ?_ | refine VD.mid rfl rfl rfl ?_); refine OpV.box rfl rfl rfl ?_; intro _; refine w ?_))
    (first | refine VO.step rfl rfl ?_ | refine VD.end rfl rfl rfl ?_ | refine VD.mid rfl rfl rfl ?_)
    refine OpV.buildSlice (cs := rslotCells ⟨p, none, none⟩) st_rslots rfl rfl (by intro v hv; rw [List.mem_singleton.1 hv]; rfl) (agg_cells _) (by decide) rfl ?_
    intro nc
    (refine w ?_; repeat ((first | refine VO.step rfl rfl ?_ | refine VD.end rfl rfl rfl ?_ | refine VD.mid rfl rfl rfl ?_); refine OpV.box rfl rfl rfl ?_; intro _; refine w ?_))
    (first | refine VO.step rfl rfl ?_ | refine VD.end rfl rfl rfl ?_ | refine VD.mid rfl rfl rfl ?_)
    refine OpV.appendRow st_rslots rfl rfl (by (repeat first | exact .head | apply Hole.tail)) (by (focus repeat first | exact .head _ | apply List.Mem.tail)) rfl (rslot_one _) (by simp only [maxLen]; omega) (by omega) rfl ?_
    intro so' sc'
    (refine w ?_; repeat ((first | refine VO.step rfl rfl ?_ | refine VD.end rfl rfl rfl ?_ | refine VD.mid rfl rfl rfl ?_); refine OpV.box rfl rfl rfl ?_; intro _; refine w ?_))
    refine VE.round (i + 1, sp ++ [⟨p, none, none⟩], so', sc') ⟨hlt, by dsimp only; rw [List.length_append, hsl]; rfl, by dsimp only; rw [List.map_append, hsd, List.take_succ_eq_append_getElem hlt, List.map_append, List.map_singleton, List.map_singleton, hp]⟩ (by dsimp only; omega) ⟨rfl, rfl, rfl, trivial⟩ ?_
    refine Ent.trans ?_ rslotGrow
    exact Ent.re
  have hge : i = l.length := by have := of_decide_eq_false hc; omega
  clear hc
  subst hge
  (refine w ?_; repeat ((first | refine VO.step rfl rfl ?_ | refine VD.end rfl rfl rfl ?_ | refine VD.mid rfl rfl rfl ?_); refine OpV.box rfl rfl rfl ?_; intro _; refine w ?_))
  refine VE.done (some b) rfl (by rfl) rfl ?_
  rw [List.take_length] at hsd
  exact RBayR.shut (D := BayD.new l) (x := (so, sc)) hsd.symm (by omega)
end Go.Proofs.YtpmmkmcbimnigaaGreat

/-! Text Ob. -/
/- The document's bay: calls that only look. -/
set_option maxRecDepth 8000
set_option linter.unusedVariables false
set_option linter.unusedSimpArgs false
set_option linter.unusedSectionVars false
namespace Go.Proofs.YtpmmkmcbimnigaaGreat
open Go.RowKit Go.Sl
attribute [local irreducible] Sl.Own

def rinP (sp : List RSlotP) (k : Int) : Option RDevP := if 0 ≤ k then (sp[k.toNat]?).bind RSlotP.in_ else none
theorem rinP_D {D : BayD} {sp : List RSlotP} (h : D.slots = sp.map RSlotP.D) (k : Int) : D.dev k = (rinP sp k).map RDevP.v := by
  unfold BayD.dev rinP
  split
  · rw [h, List.getElem?_map]
    cases sp[k.toNat]? with
    | none => rfl
    | some s => rfl
  · rfl
theorem rinP_range {sp : List RSlotP} {k : Int} (h : inRange sp.length k = false) : rinP sp k = none := by
  unfold inRange at h
  have h := of_decide_eq_false h
  unfold rinP
  split
  · rw [List.getElem?_eq_none (by omega)]; rfl
  · rfl
theorem rrange_split {sp : List RSlotP} {k : Int} (h : inRange sp.length k = true) : ∃ (l1 : List RSlotP) (s : RSlotP) (l2 : List RSlotP), sp = l1 ++ s :: l2 ∧ k = (l1.length : Int) := by
  obtain ⟨h0, h1⟩ : 0 ≤ k ∧ k < (sp.length : Int) := of_decide_eq_true h
  obtain ⟨i, rfl⟩ := Int.eq_ofNat_of_zero_le h0
  have hi : i < sp.length := by omega
  refine ⟨sp.take i, sp[i], sp.drop (i + 1), ?_, by rw [List.length_take, Nat.min_eq_left (by omega)]⟩
  rw [← List.drop_eq_getElem_cons hi, List.take_append_drop]
theorem rinP_mid (l1 : List RSlotP) (s : RSlotP) (l2 : List RSlotP) : rinP (l1 ++ s :: l2) (l1.length : Int) = s.in_ := by
  unfold rinP
  rw [if_pos (by omega), Int.toNat_natCast]; simp
theorem rin_mid (l1 : List RSlotP) (s : RSlotP) (l2 : List RSlotP) : inRange (l1 ++ s :: l2).length (l1.length : Int) = true := decide_eq_true (by simp; omega)
theorem rslot_at {D : BayD} {l1 l2 : List RSlotP} {s : RSlotP} (h : D.slots = (l1 ++ s :: l2).map RSlotP.D) : D.slot (l1.length : Int) = s.D := by
  unfold BayD.slot
  rw [h, Int.toNat_natCast]; simp

/-! ### One slot's resources to the front, and back -/
/-- What stands behind one slot's disks. -/
abbrev RBayX (b : Nat) (D : BayD) (x : Option Addr × Nat) (l1 : List RSlotP) (s : RSlotP) (l2 : List RSlotP) (R : List SProp) : List SProp :=
  rbayRow b D x (l1 ++ s :: l2).length :: rslotsOwn x (l1 ++ s :: l2) :: ((l1 ++ l2).map rslotRes ++ R)
theorem rslotOut {W : World} {A B : SProp} (l1 l2 : List RSlotP) (s : RSlotP) (R : List SProp) : Ent W (A :: B :: ((l1 ++ s :: l2).map rslotRes ++ R)) (rdevRes s.in_ :: rdevRes s.aside :: rdevRes s.coming :: A :: B :: ((l1 ++ l2).map rslotRes ++ R)) := fun w hw => by
  have p : (A :: B :: ((l1 ++ s :: l2).map rslotRes ++ R)).Perm (rslotRes s :: A :: B :: ((l1 ++ l2).map rslotRes ++ R)) := by
    simp only [List.map_append, List.map_cons, List.append_assoc, List.cons_append]
    exact ((List.perm_middle.cons _).cons _).trans (List.perm_middle (l₁ := [A, B]))
  exact (hw.perm p).join
theorem rslotIn {W : World} {A B : SProp} (l1 l2 : List RSlotP) (s : RSlotP) (R : List SProp) : Ent W (rdevRes s.in_ :: rdevRes s.aside :: rdevRes s.coming :: A :: B :: ((l1 ++ l2).map rslotRes ++ R)) (A :: B :: ((l1 ++ s :: l2).map rslotRes ++ R)) := fun w hw => by
  have p : (rslotRes s :: A :: B :: ((l1 ++ l2).map rslotRes ++ R)).Perm (A :: B :: ((l1 ++ s :: l2).map rslotRes ++ R)) := by
    simp only [List.map_append, List.map_cons, List.append_assoc, List.cons_append]
    exact (((List.perm_middle.cons _).cons _).trans (List.perm_middle (l₁ := [A, B]))).symm
  exact (Holds.nest (L := [_, _, _]) hw).perm p
theorem rbayOut {W : World} {b : Nat} {D : BayD} {x : Option Addr × Nat} {l1 l2 : List RSlotP} {s : RSlotP} {R : List SProp} : Ent W (RBayO b D x (l1 ++ s :: l2) R) (rdevRes s.in_ :: rdevRes s.aside :: rdevRes s.coming :: RBayX b D x l1 s l2 R) := rslotOut l1 l2 s R
theorem rbayIn {W : World} {b : Nat} {D : BayD} {x : Option Addr × Nat} {l1 l2 : List RSlotP} {s : RSlotP} {R : List SProp} : Ent W (rdevRes s.in_ :: rdevRes s.aside :: rdevRes s.coming :: RBayX b D x l1 s l2 R) (RBayO b D x (l1 ++ s :: l2) R) := rslotIn l1 l2 s R
theorem rbayOutP {W : World} {b : Nat} {D : BayD} {x : Option Addr × Nat} {l1 l2 : List RSlotP} {s : RSlotP} {R : List SProp} {p : RDevP} (hs : s.in_ = some p) : Ent W (RBayO b D x (l1 ++ s :: l2) R) (DocR p.d p.v.k :: rdevRes s.aside :: rdevRes s.coming :: RBayX b D x l1 s l2 R) := fun w hw => by
  have h := rbayOut w hw
  rw [hs] at h
  exact h
theorem rbayInP {W : World} {b : Nat} {D : BayD} {x : Option Addr × Nat} {l1 l2 : List RSlotP} {s : RSlotP} {R : List SProp} {p : RDevP} (hs : s.in_ = some p) : Ent W (DocR p.d p.v.k :: rdevRes s.aside :: rdevRes s.coming :: RBayX b D x l1 s l2 R) (RBayO b D x (l1 ++ s :: l2) R) := fun w hw => by
  refine rbayIn w ?_
  rw [hs]
  exact hw
theorem rbayShutC {W : World} {P : SProp} {b : Nat} {D : BayD} {x : Option Addr × Nat} {l1 l2 : List RSlotP} {s : RSlotP} {R : List SProp} {p : RDevP} (h1 : D.slots = (l1 ++ s :: l2).map RSlotP.D) (h2 : (l1 ++ s :: l2).length ≤ 17) (hs : s.in_ = some p) :
    Ent W (P :: DocR p.d p.v.k :: rdevRes s.aside :: rdevRes s.coming :: RBayX b D x l1 s l2 R) (P :: RBayR b D :: R) :=
  Ent.ctx (X := [P]) (L := DocR p.d p.v.k :: rdevRes s.aside :: rdevRes s.coming :: rbayRow b D x (l1 ++ s :: l2).length :: rslotsOwn x (l1 ++ s :: l2) :: (l1 ++ l2).map rslotRes) (L' := [RBayR b D]) ((rbayInP hs).trans (RBayR.shut h1 h2))
theorem rslots_rds {W : World} {H : List SProp} {a : Addr} {c : Nat} {sp : List RSlotP} (m : rslotsOwn (some a, c) sp ∈ H) : Rds W H 6 (some a) sp.length (sp.flatMap rslotCells) :=
  Rds.own (rslots_one _) m (flat_length _ fun _ _ => rfl) (fun h => by cases h)

/-! ### is, Has, there, taken -/
theorem ris_ok {W : World} {R : List SProp} {D : BayD} {x : Option Addr × Nat} {n : Nat} (b : Nat) (k : Int) :
    Does1 W Tryz.prog 57 [.pointer (some ⟨b, 0, none⟩), .int .i64 k] (rbayRow b D x n :: R) (.bool (inRange n k)) (rbayRow b D x n :: R) := by
  (refine Does.enter Tryz.func57 Tryz.ntmps57 rfl rfl ?_)
  (refine w ?_; repeat ((first | refine VO.step rfl rfl ?_ | refine VD.end rfl rfl rfl ?_ | refine VD.mid rfl rfl rfl ?_); refine OpV.box rfl rfl rfl ?_; intro _; refine w ?_))
  ((first | refine VO.split rfl rfl rfl ?_ ?_ | refine VD.split rfl rfl rfl ?_ ?_) <;> intro hb)
  · have h : 0 ≤ k := of_decide_eq_true hb
    (refine w ?_; repeat ((first | refine VO.step rfl rfl ?_ | refine VD.end rfl rfl rfl ?_ | refine VD.mid rfl rfl rfl ?_); refine OpV.box rfl rfl rfl ?_; intro _; refine w ?_))
    (refine VE.done1 rfl ?_ ?_)
    · unfold inRange; simp [h]
    · exact Ent.refl
  · have h : ¬ 0 ≤ k := of_decide_eq_false hb
    (refine w ?_; repeat ((first | refine VO.step rfl rfl ?_ | refine VD.end rfl rfl rfl ?_ | refine VD.mid rfl rfl rfl ?_); refine OpV.box rfl rfl rfl ?_; intro _; refine w ?_))
    (refine VE.done1 rfl ?_ ?_)
    · unfold inRange; rw [decide_eq_false (fun h2 => h h2.1)]
    · exact Ent.refl
theorem rhas_ok {W : World} {R : List SProp} {D : BayD} {x : Option Addr × Nat} {sp : List RSlotP} (b : Nat) (k : Int) (hn : sp.length ≤ 17) :
    Does1 W Tryz.prog 52 [.pointer (some ⟨b, 0, none⟩), .int .i64 k] (RBayO b D x sp R) (.bool ((rinP sp k).any fun p => !p.v.k.failed)) (RBayO b D x sp R) := by
  (refine Does.enter Tryz.func52 Tryz.ntmps52 rfl rfl ?_)
  refine VC.know (p := x.1 = none → sp.length = 0) (fun w hw => Holds.ownNone hw (.tail _ (.head _))) ?_
  intro hx
  obtain ⟨xa, xc⟩ := x
  dsimp only at hx
  (refine w ?_; repeat ((first | refine VO.step rfl rfl ?_ | refine VD.end rfl rfl rfl ?_ | refine VD.mid rfl rfl rfl ?_); refine OpV.box rfl rfl rfl ?_; intro _; refine w ?_))
  (((first | refine VO.step rfl rfl ?_ | refine VD.end rfl rfl rfl ?_ | refine VD.mid rfl rfl rfl ?_); refine OpV.call rfl rfl (fun _ _ => by simp) (ris_ok (D := D) (x := (xa, xc)) (n := sp.length) b k) Ent.re rfl ?_); intro _ _)
  cases hr : inRange sp.length k
  · (refine w ?_; repeat ((first | refine VO.step rfl rfl ?_ | refine VD.end rfl rfl rfl ?_ | refine VD.mid rfl rfl rfl ?_); refine OpV.box rfl rfl rfl ?_; intro _; refine w ?_))
    (refine VE.done1 rfl ?_ ?_)
    · rw [rinP_range hr]; rfl
    · exact Ent.refl
  obtain ⟨l1, s, l2, rfl, rfl⟩ := rrange_split hr
  have hlt : l1.length < (l1 ++ s :: l2).length := by simp
  obtain ⟨a, rfl⟩ : ∃ a, xa = some a := by cases xa with | none => have := hx rfl; omega | some a => exact ⟨a, rfl⟩
  rw [rinP_mid]
  have c0 : ((l1 ++ s :: l2).flatMap rslotCells)[l1.length * 6 + 0]? = some (rPtr s.in_) := (rslots_get _ _ 0 hlt (by decide)).trans (by simp [rslotCells])
  (refine w ?_; repeat ((first | refine VO.step rfl rfl ?_ | refine VD.end rfl rfl rfl ?_ | refine VD.mid rfl rfl rfl ?_); refine OpV.box rfl rfl rfl ?_; intro _; refine w ?_))
  (first | refine VO.pure rfl rfl (.ldRc tab_ok rfl rfl (rslots_rds (by (focus repeat first | exact .head _ | apply List.Mem.tail))) c0) rfl ?_ | refine VD.take rfl rfl rfl (.ldRc tab_ok rfl rfl (rslots_rds (by (focus repeat first | exact .head _ | apply List.Mem.tail))) c0) rfl ?_ | refine VQ.pure rfl rfl (.ldRc tab_ok rfl rfl (rslots_rds (by (focus repeat first | exact .head _ | apply List.Mem.tail))) c0) rfl ?_ | refine VD.end rfl rfl rfl (OpV.pure (.ldRc tab_ok rfl rfl (rslots_rds (by (focus repeat first | exact .head _ | apply List.Mem.tail))) c0) rfl ?_))
  cases hs : s.in_ with
  | none =>
    (refine w ?_; repeat ((first | refine VO.step rfl rfl ?_ | refine VD.end rfl rfl rfl ?_ | refine VD.mid rfl rfl rfl ?_); refine OpV.box rfl rfl rfl ?_; intro _; refine w ?_))
    (refine VE.done1 rfl ?_ ?_)
    · rfl
    · exact Ent.refl
  | some p =>
    dsimp only [rPtr, Option.map_some]
    have c1 : ((l1 ++ s :: l2).flatMap rslotCells)[l1.length * 6 + 0]? = some (.pointer (some ⟨p.d, 0, none⟩)) := by rw [c0, hs]; rfl
    (refine w ?_; repeat ((first | refine VO.step rfl rfl ?_ | refine VD.end rfl rfl rfl ?_ | refine VD.mid rfl rfl rfl ?_); refine OpV.box rfl rfl rfl ?_; intro _; refine w ?_))
    (first | refine VO.pure rfl rfl (.ldRc tab_ok rfl rfl (rslots_rds (by (focus repeat first | exact .head _ | apply List.Mem.tail))) c1) rfl ?_ | refine VD.take rfl rfl rfl (.ldRc tab_ok rfl rfl (rslots_rds (by (focus repeat first | exact .head _ | apply List.Mem.tail))) c1) rfl ?_ | refine VQ.pure rfl rfl (.ldRc tab_ok rfl rfl (rslots_rds (by (focus repeat first | exact .head _ | apply List.Mem.tail))) c1) rfl ?_ | refine VD.end rfl rfl rfl (OpV.pure (.ldRc tab_ok rfl rfl (rslots_rds (by (focus repeat first | exact .head _ | apply List.Mem.tail))) c1) rfl ?_))
    (refine w ?_; repeat ((first | refine VO.step rfl rfl ?_ | refine VD.end rfl rfl rfl ?_ | refine VD.mid rfl rfl rfl ?_); refine OpV.box rfl rfl rfl ?_; intro _; refine w ?_))
    refine VO.ent (rbayOutP hs) ?_
    (first | refine VO.pure rfl rfl (PureAt.ldc tab_ok rfl rfl (DocR.failedCell (by (focus repeat first | exact .head _ | apply List.Mem.tail)))) rfl ?_ | refine VD.take rfl rfl rfl (PureAt.ldc tab_ok rfl rfl (DocR.failedCell (by (focus repeat first | exact .head _ | apply List.Mem.tail)))) rfl ?_ | refine VQ.pure rfl rfl (PureAt.ldc tab_ok rfl rfl (DocR.failedCell (by (focus repeat first | exact .head _ | apply List.Mem.tail)))) rfl ?_ | refine VD.end rfl rfl rfl (OpV.pure (PureAt.ldc tab_ok rfl rfl (DocR.failedCell (by (focus repeat first | exact .head _ | apply List.Mem.tail)))) rfl ?_))
    refine VO.ent (rbayInP hs) ?_
    (refine w ?_; repeat ((first | refine VO.step rfl rfl ?_ | refine VD.end rfl rfl rfl ?_ | refine VD.mid rfl rfl rfl ?_); refine OpV.box rfl rfl rfl ?_; intro _; refine w ?_))
    (refine VE.done1 rfl ?_ ?_)
    · rfl
    · exact Ent.refl
theorem rthere_ok {W : World} {R : List SProp} {D : BayD} {x : Option Addr × Nat} {sp : List RSlotP} (b : Nat) (k : Int) (hn : sp.length ≤ 17) :
    Does1 W Tryz.prog 40 [.pointer (some ⟨b, 0, none⟩), .int .i64 k] (RBayO b D x sp R) (.int .u16 (thereE sp.length (rinP sp k).isSome k)) (RBayO b D x sp R) := by
  (refine Does.enter Tryz.func40 Tryz.ntmps40 rfl rfl ?_)
  refine VC.know (p := x.1 = none → sp.length = 0) (fun w hw => Holds.ownNone hw (.tail _ (.head _))) ?_
  intro hx
  obtain ⟨xa, xc⟩ := x
  dsimp only at hx
  (refine w ?_; repeat ((first | refine VO.step rfl rfl ?_ | refine VD.end rfl rfl rfl ?_ | refine VD.mid rfl rfl rfl ?_); refine OpV.box rfl rfl rfl ?_; intro _; refine w ?_))
  (((first | refine VO.step rfl rfl ?_ | refine VD.end rfl rfl rfl ?_ | refine VD.mid rfl rfl rfl ?_); refine OpV.call rfl rfl (fun _ _ => by simp) (ris_ok (D := D) (x := (xa, xc)) (n := sp.length) b k) Ent.re rfl ?_); intro _ _)
  unfold thereE
  cases hr : inRange sp.length k
  · (refine w ?_; repeat ((first | refine VO.step rfl rfl ?_ | refine VD.end rfl rfl rfl ?_ | refine VD.mid rfl rfl rfl ?_); refine OpV.box rfl rfl rfl ?_; intro _; refine w ?_))
    (refine VE.done1 rfl ?_ ?_)
    · rfl
    · exact Ent.refl
  obtain ⟨l1, s, l2, rfl, rfl⟩ := rrange_split hr
  have hlt : l1.length < (l1 ++ s :: l2).length := by simp
  obtain ⟨a, rfl⟩ : ∃ a, xa = some a := by cases xa with | none => have := hx rfl; omega | some a => exact ⟨a, rfl⟩
  rw [rinP_mid]
  have c0 : ((l1 ++ s :: l2).flatMap rslotCells)[l1.length * 6 + 0]? = some (rPtr s.in_) := (rslots_get _ _ 0 hlt (by decide)).trans (by simp [rslotCells])
  (refine w ?_; repeat ((first | refine VO.step rfl rfl ?_ | refine VD.end rfl rfl rfl ?_ | refine VD.mid rfl rfl rfl ?_); refine OpV.box rfl rfl rfl ?_; intro _; refine w ?_))
  (first | refine VO.pure rfl rfl (.ldRc tab_ok rfl rfl (rslots_rds (by (focus repeat first | exact .head _ | apply List.Mem.tail))) c0) rfl ?_ | refine VD.take rfl rfl rfl (.ldRc tab_ok rfl rfl (rslots_rds (by (focus repeat first | exact .head _ | apply List.Mem.tail))) c0) rfl ?_ | refine VQ.pure rfl rfl (.ldRc tab_ok rfl rfl (rslots_rds (by (focus repeat first | exact .head _ | apply List.Mem.tail))) c0) rfl ?_ | refine VD.end rfl rfl rfl (OpV.pure (.ldRc tab_ok rfl rfl (rslots_rds (by (focus repeat first | exact .head _ | apply List.Mem.tail))) c0) rfl ?_))
  cases hs : s.in_ with
  | none =>
    (refine w ?_; repeat ((first | refine VO.step rfl rfl ?_ | refine VD.end rfl rfl rfl ?_ | refine VD.mid rfl rfl rfl ?_); refine OpV.box rfl rfl rfl ?_; intro _; refine w ?_))
    (refine VE.done1 rfl ?_ ?_)
    · rfl
    · exact Ent.refl
  | some p =>
    dsimp only [rPtr, Option.map_some]
    (refine w ?_; repeat ((first | refine VO.step rfl rfl ?_ | refine VD.end rfl rfl rfl ?_ | refine VD.mid rfl rfl rfl ?_); refine OpV.box rfl rfl rfl ?_; intro _; refine w ?_))
    (refine VE.done1 rfl ?_ ?_)
    · rfl
    · exact Ent.refl
theorem rtaken_ok {W : World} {R : List SProp} {D : BayD} {a : Addr} {xc : Nat} {l1 l2 : List RSlotP} {s : RSlotP} (b : Nat) (hn : (l1 ++ s :: l2).length ≤ 17) :
    Does1 W Tryz.prog 113 [.pointer (some ⟨b, 0, none⟩), .int .i64 (l1.length : Int)] (RBayO b D (some a, xc) (l1 ++ s :: l2) R) (.bool s.D.taken) (RBayO b D (some a, xc) (l1 ++ s :: l2) R) := by
  (refine Does.enter Tryz.func113 Tryz.ntmps113 rfl rfl ?_)
  have hlt : l1.length < (l1 ++ s :: l2).length := by simp
  have c2 : ((l1 ++ s :: l2).flatMap rslotCells)[l1.length * 6 + 2]? = some (rPtr s.coming) := (rslots_get _ _ 2 hlt (by decide)).trans (by simp [rslotCells])
  (refine w ?_; repeat ((first | refine VO.step rfl rfl ?_ | refine VD.end rfl rfl rfl ?_ | refine VD.mid rfl rfl rfl ?_); refine OpV.box rfl rfl rfl ?_; intro _; refine w ?_))
  (((first | refine VO.step rfl rfl ?_ | refine VD.end rfl rfl rfl ?_ | refine VD.mid rfl rfl rfl ?_); refine OpV.call rfl rfl (fun _ _ => by simp) (rhas_ok (D := D) (x := (some a, xc)) (sp := l1 ++ s :: l2) b (l1.length : Int) hn) Ent.re rfl ?_); intro _ _)
  rw [rinP_mid]
  have e : (s.in_.any fun p => !p.v.k.failed) = (s.D.in_.any fun v => !v.k.failed) := by unfold RSlotP.D; cases s.in_ <;> rfl
  unfold SlotD.taken
  rw [e]
  cases ht : (s.D.in_.any fun v => !v.k.failed)
  · (refine w ?_; repeat ((first | refine VO.step rfl rfl ?_ | refine VD.end rfl rfl rfl ?_ | refine VD.mid rfl rfl rfl ?_); refine OpV.box rfl rfl rfl ?_; intro _; refine w ?_))
    (first | refine VO.pure rfl rfl (.ldRc tab_ok rfl rfl (rslots_rds (by (focus repeat first | exact .head _ | apply List.Mem.tail))) c2) rfl ?_ | refine VD.take rfl rfl rfl (.ldRc tab_ok rfl rfl (rslots_rds (by (focus repeat first | exact .head _ | apply List.Mem.tail))) c2) rfl ?_ | refine VQ.pure rfl rfl (.ldRc tab_ok rfl rfl (rslots_rds (by (focus repeat first | exact .head _ | apply List.Mem.tail))) c2) rfl ?_ | refine VD.end rfl rfl rfl (OpV.pure (.ldRc tab_ok rfl rfl (rslots_rds (by (focus repeat first | exact .head _ | apply List.Mem.tail))) c2) rfl ?_))
    have e2 : s.D.coming.isSome = s.coming.isSome := by unfold RSlotP.D; cases s.coming <;> rfl
    rw [e2]
    cases hs : s.coming with
    | none =>
      (refine w ?_; repeat ((first | refine VO.step rfl rfl ?_ | refine VD.end rfl rfl rfl ?_ | refine VD.mid rfl rfl rfl ?_); refine OpV.box rfl rfl rfl ?_; intro _; refine w ?_))
      (refine VE.done1 rfl ?_ ?_)
      · rfl
      · exact Ent.refl
    | some p =>
      dsimp only [rPtr, Option.map_some]
      (refine w ?_; repeat ((first | refine VO.step rfl rfl ?_ | refine VD.end rfl rfl rfl ?_ | refine VD.mid rfl rfl rfl ?_); refine OpV.box rfl rfl rfl ?_; intro _; refine w ?_))
      (refine VE.done1 rfl ?_ ?_)
      · rfl
      · exact Ent.refl
  · (refine w ?_; repeat ((first | refine VO.step rfl rfl ?_ | refine VD.end rfl rfl rfl ?_ | refine VD.mid rfl rfl rfl ?_); refine OpV.box rfl rfl rfl ?_; intro _; refine w ?_))
    (refine VE.done1 rfl ?_ ?_)
    · rfl
    · exact Ent.refl

/-! ### Has, Sectors, Image of a whole bay -/
theorem rbayhas_ok {W : World} {R : List SProp} (b : Nat) (D : BayD) (k : Int) :
    Does1 W Tryz.prog 52 [.pointer (some ⟨b, 0, none⟩), .int .i64 k] (RBayR b D :: R) (.bool ((D.dev k).any fun v => !v.k.failed)) (RBayR b D :: R) := by
  refine DoesO (fun w => RBayR.open) ?_
  rintro ⟨⟨x, sp⟩, h1, h2⟩
  dsimp only at h1 h2 ⊢
  have e : ((D.dev k).any fun v => !v.k.failed) = ((rinP sp k).any fun p => !p.v.k.failed) := by rw [rinP_D h1]; cases rinP sp k <;> rfl
  rw [e]
  exact Does1P (rhas_ok b k h2) (RBayR.shut h1 h2)
theorem rbaysectors_ok {W : World} {R : List SProp} (b : Nat) (D : BayD) (k : Int) :
    Does1 W Tryz.prog 71 [.pointer (some ⟨b, 0, none⟩), .int .i64 k] (RBayR b D :: R) (.int .i64 ((D.dev k).elim 0 fun v => v.k.last.length)) (RBayR b D :: R) := by
  refine DoesO (fun w => RBayR.open) ?_
  rintro ⟨⟨x, sp⟩, h1, h2⟩
  dsimp only at h1 h2 ⊢
  refine Does1P (L := RBayO b D x sp R) ?_ (RBayR.shut h1 h2)
  (refine Does.enter Tryz.func71 Tryz.ntmps71 rfl rfl ?_)
  refine VC.know (p := x.1 = none → sp.length = 0) (fun w hw => Holds.ownNone hw (.tail _ (.head _))) ?_
  intro hx
  obtain ⟨xa, xc⟩ := x
  dsimp only at hx
  (refine w ?_; repeat ((first | refine VO.step rfl rfl ?_ | refine VD.end rfl rfl rfl ?_ | refine VD.mid rfl rfl rfl ?_); refine OpV.box rfl rfl rfl ?_; intro _; refine w ?_))
  (((first | refine VO.step rfl rfl ?_ | refine VD.end rfl rfl rfl ?_ | refine VD.mid rfl rfl rfl ?_); refine OpV.call rfl rfl (fun _ _ => by simp) (ris_ok (D := D) (x := (xa, xc)) (n := sp.length) b k) Ent.re rfl ?_); intro _ _)
  rw [rinP_D h1]
  cases hr : inRange sp.length k
  · (refine w ?_; repeat ((first | refine VO.step rfl rfl ?_ | refine VD.end rfl rfl rfl ?_ | refine VD.mid rfl rfl rfl ?_); refine OpV.box rfl rfl rfl ?_; intro _; refine w ?_))
    (refine VE.done1 rfl ?_ ?_)
    · rw [rinP_range hr]; rfl
    · exact Ent.refl
  obtain ⟨l1, s, l2, rfl, rfl⟩ := rrange_split hr
  have hlt : l1.length < (l1 ++ s :: l2).length := by simp
  obtain ⟨a, rfl⟩ : ∃ a, xa = some a := by cases xa with | none => have := hx rfl; omega | some a => exact ⟨a, rfl⟩
  rw [rinP_mid]
  have c0 : ((l1 ++ s :: l2).flatMap rslotCells)[l1.length * 6 + 0]? = some (rPtr s.in_) := (rslots_get _ _ 0 hlt (by decide)).trans (by simp [rslotCells])
  (refine w ?_; repeat ((first | refine VO.step rfl rfl ?_ | refine VD.end rfl rfl rfl ?_ | refine VD.mid rfl rfl rfl ?_); refine OpV.box rfl rfl rfl ?_; intro _; refine w ?_))
  (first | refine VO.pure rfl rfl (.ldRc tab_ok rfl rfl (rslots_rds (by (focus repeat first | exact .head _ | apply List.Mem.tail))) c0) rfl ?_ | refine VD.take rfl rfl rfl (.ldRc tab_ok rfl rfl (rslots_rds (by (focus repeat first | exact .head _ | apply List.Mem.tail))) c0) rfl ?_ | refine VQ.pure rfl rfl (.ldRc tab_ok rfl rfl (rslots_rds (by (focus repeat first | exact .head _ | apply List.Mem.tail))) c0) rfl ?_ | refine VD.end rfl rfl rfl (OpV.pure (.ldRc tab_ok rfl rfl (rslots_rds (by (focus repeat first | exact .head _ | apply List.Mem.tail))) c0) rfl ?_))
  cases hs : s.in_ with
  | none =>
    (refine w ?_; repeat ((first | refine VO.step rfl rfl ?_ | refine VD.end rfl rfl rfl ?_ | refine VD.mid rfl rfl rfl ?_); refine OpV.box rfl rfl rfl ?_; intro _; refine w ?_))
    (refine VE.done1 rfl ?_ ?_)
    · rfl
    · exact Ent.refl
  | some p =>
    dsimp only [rPtr, Option.map_some]
    have c1 : ((l1 ++ s :: l2).flatMap rslotCells)[l1.length * 6 + 0]? = some (.pointer (some ⟨p.d, 0, none⟩)) := by rw [c0, hs]; rfl
    (refine w ?_; repeat ((first | refine VO.step rfl rfl ?_ | refine VD.end rfl rfl rfl ?_ | refine VD.mid rfl rfl rfl ?_); refine OpV.box rfl rfl rfl ?_; intro _; refine w ?_))
    (first | refine VO.pure rfl rfl (.ldRc tab_ok rfl rfl (rslots_rds (by (focus repeat first | exact .head _ | apply List.Mem.tail))) c1) rfl ?_ | refine VD.take rfl rfl rfl (.ldRc tab_ok rfl rfl (rslots_rds (by (focus repeat first | exact .head _ | apply List.Mem.tail))) c1) rfl ?_ | refine VQ.pure rfl rfl (.ldRc tab_ok rfl rfl (rslots_rds (by (focus repeat first | exact .head _ | apply List.Mem.tail))) c1) rfl ?_ | refine VD.end rfl rfl rfl (OpV.pure (.ldRc tab_ok rfl rfl (rslots_rds (by (focus repeat first | exact .head _ | apply List.Mem.tail))) c1) rfl ?_))
    (refine w ?_; repeat ((first | refine VO.step rfl rfl ?_ | refine VD.end rfl rfl rfl ?_ | refine VD.mid rfl rfl rfl ?_); refine OpV.box rfl rfl rfl ?_; intro _; refine w ?_))
    refine VO.ent (rbayOutP hs) ?_
    (((first | refine VO.step rfl rfl ?_ | refine VD.end rfl rfl rfl ?_ | refine VD.mid rfl rfl rfl ?_); refine OpV.call rfl rfl (fun _ _ => by simp) (docsectors_ok p.d p.v.k) Ent.re rfl ?_); intro _ _)
    (refine w ?_; repeat ((first | refine VO.step rfl rfl ?_ | refine VD.end rfl rfl rfl ?_ | refine VD.mid rfl rfl rfl ?_); refine OpV.box rfl rfl rfl ?_; intro _; refine w ?_))
    (refine VE.done1 rfl ?_ ?_)
    · rfl
    · exact rbayInP hs
theorem rbayimage_ok {W : World} {R : List SProp} (b : Nat) (D : BayD) (k : Int) :
    Does W Tryz.prog 53 [.pointer (some ⟨b, 0, none⟩), .int .i64 k] (RBayR b D :: R) (β := Option Addr × Nat) (fun x => x.1 = none → (D.image k).1.length = 0) (fun x => .tuple #[sliceB x (D.image k).1, .int .u16 (D.image k).2]) (fun x => OwnB x (D.image k).1 :: RBayR b D :: R) := by
  refine DoesA (A := fun _ => True) ?_ (fun x _ w hw => hw.ownNone (.head _))
  refine DoesO (fun w => RBayR.open) ?_
  rintro ⟨⟨x, sp⟩, h1, h2⟩
  dsimp only at h1 h2 ⊢
  (refine Does.enter Tryz.func53 Tryz.ntmps53 rfl rfl ?_)
  refine VC.know (p := x.1 = none → sp.length = 0) (fun w hw => Holds.ownNone hw (.tail _ (.head _))) ?_
  intro hx
  obtain ⟨xa, xc⟩ := x
  dsimp only at hx
  (refine w ?_; repeat ((first | refine VO.step rfl rfl ?_ | refine VD.end rfl rfl rfl ?_ | refine VD.mid rfl rfl rfl ?_); refine OpV.box rfl rfl rfl ?_; intro _; refine w ?_))
  (((first | refine VO.step rfl rfl ?_ | refine VD.end rfl rfl rfl ?_ | refine VD.mid rfl rfl rfl ?_); refine OpV.call rfl rfl (fun _ _ => by simp) (rthere_ok (D := D) (x := (xa, xc)) (sp := sp) b k h2) Ent.re rfl ?_); intro _ _)
  unfold BayD.image
  rw [rinP_D h1, show D.slots.length = sp.length by rw [h1, List.length_map]]
  have nope : thereE sp.length false k ≠ 0 := by unfold thereE; split <;> simp
  cases hp : rinP sp k with
  | none =>
    dsimp only [Option.map_none, Option.isSome_none]
    (refine w ?_; repeat ((first | refine VO.step rfl rfl ?_ | refine VD.end rfl rfl rfl ?_ | refine VD.mid rfl rfl rfl ?_); refine OpV.box rfl rfl rfl ?_; intro _; refine w ?_))
    (refine VC.condTe rfl rfl (by simpa using nope) ?_)
    (refine w ?_; repeat ((first | refine VO.step rfl rfl ?_ | refine VD.end rfl rfl rfl ?_ | refine VD.mid rfl rfl rfl ?_); refine OpV.box rfl rfl rfl ?_; intro _; refine w ?_))
    refine VE.done (none, 0) rfl trivial rfl fun w hw => (RBayR.shut (x := (xa, xc)) h1 h2 w hw).ownNil 5 1
  | some p =>
    have hr : inRange sp.length k = true := by rw [← Bool.not_eq_false]; intro h; rw [rinP_range h] at hp; cases hp
    obtain ⟨l1, s, l2, rfl, rfl⟩ := rrange_split hr
    have hlt : l1.length < (l1 ++ s :: l2).length := by simp
    obtain ⟨a, rfl⟩ : ∃ a, xa = some a := by cases xa with | none => have := hx rfl; omega | some a => exact ⟨a, rfl⟩
    rw [rinP_mid] at hp
    have c0 : ((l1 ++ s :: l2).flatMap rslotCells)[l1.length * 6 + 0]? = some (rPtr (some p)) := (rslots_get _ _ 0 hlt (by decide)).trans (by simp [rslotCells, hp])
    have he : thereE (l1 ++ s :: l2).length true (l1.length : Int) = 0 := by unfold thereE; rw [rin_mid]; rfl
    dsimp only [Option.map_some, Option.isSome_some]
    rw [he]
    (refine w ?_; repeat ((first | refine VO.step rfl rfl ?_ | refine VD.end rfl rfl rfl ?_ | refine VD.mid rfl rfl rfl ?_); refine OpV.box rfl rfl rfl ?_; intro _; refine w ?_))
    (first | refine VO.pure rfl rfl (.ldRc tab_ok rfl rfl (rslots_rds (by (focus repeat first | exact .head _ | apply List.Mem.tail))) c0) rfl ?_ | refine VD.take rfl rfl rfl (.ldRc tab_ok rfl rfl (rslots_rds (by (focus repeat first | exact .head _ | apply List.Mem.tail))) c0) rfl ?_ | refine VQ.pure rfl rfl (.ldRc tab_ok rfl rfl (rslots_rds (by (focus repeat first | exact .head _ | apply List.Mem.tail))) c0) rfl ?_ | refine VD.end rfl rfl rfl (OpV.pure (.ldRc tab_ok rfl rfl (rslots_rds (by (focus repeat first | exact .head _ | apply List.Mem.tail))) c0) rfl ?_))
    (refine w ?_; repeat ((first | refine VO.step rfl rfl ?_ | refine VD.end rfl rfl rfl ?_ | refine VD.mid rfl rfl rfl ?_); refine OpV.box rfl rfl rfl ?_; intro _; refine w ?_))
    refine VO.ent (rbayOutP hp) ?_
    ((first | refine VO.step rfl rfl ?_ | refine VD.end rfl rfl rfl ?_ | refine VD.mid rfl rfl rfl ?_); refine OpV.call rfl rfl (fun _ _ => by simp) (docimg_ok p.d p.v.k) Ent.re rfl ?_)
    intro y _
    (refine w ?_; repeat ((first | refine VO.step rfl rfl ?_ | refine VD.end rfl rfl rfl ?_ | refine VD.mid rfl rfl rfl ?_); refine OpV.box rfl rfl rfl ?_; intro _; refine w ?_))
    refine VE.done y rfl trivial rfl ?_
    exact rbayShutC h1 h2 hp
end Go.Proofs.YtpmmkmcbimnigaaGreat

/-! Text Oc. -/
/- The document's bay: lays, Load. -/
set_option maxRecDepth 8000
set_option linter.unusedVariables false
set_option linter.unusedSimpArgs false
set_option linter.unusedSectionVars false
namespace Go.Proofs.YtpmmkmcbimnigaaGreat
open Go.RowKit Go.Sl
attribute [local irreducible] Sl.Own

theorem rslots_mid (l1 l2 : List RSlotP) (cs : List Value) (hc : cs.length = 6) (i : Nat) (hi : i < 6) (v : Value) :
    (l1.flatMap rslotCells ++ (cs ++ l2.flatMap rslotCells)).set (l1.length * 6 + i) v = l1.flatMap rslotCells ++ (cs.set i v ++ l2.flatMap rslotCells) := by
  rw [List.set_append_right _ _ (by rw [rslots_len]; omega), rslots_len, Nat.add_sub_cancel_left, List.set_append_left _ _ (by omega)]
theorem rslots_split (l1 l2 : List RSlotP) (s : RSlotP) : (l1 ++ s :: l2).flatMap rslotCells = l1.flatMap rslotCells ++ (rslotCells s ++ l2.flatMap rslotCells) := by
  rw [List.flatMap_append, List.flatMap_cons]
theorem rlays_no {W : World} {R : List SProp} {D : BayD} {a : Addr} {xc : Nat} {l1 l2 : List RSlotP} {s : RSlotP} {p : Option Addr} (b : Nat) (hn : (l1 ++ s :: l2).length ≤ 17) (e : Int) (he : e = 0 ∨ e = 40) (h : s.D.taken = true ∨ e = 40) :
    Does1 W Tryz.prog 106 [.pointer (some ⟨b, 0, none⟩), .int .i64 (l1.length : Int), .pointer p, .int .i64 e] (RBayO b D (some a, xc) (l1 ++ s :: l2) R) (.int .u16 (if s.D.taken then 52 else e)) (RBayO b D (some a, xc) (l1 ++ s :: l2) R) := by
  (refine Does.enter Tryz.func106 Tryz.ntmps106 rfl rfl ?_)
  (refine w ?_; repeat ((first | refine VO.step rfl rfl ?_ | refine VD.end rfl rfl rfl ?_ | refine VD.mid rfl rfl rfl ?_); refine OpV.box rfl rfl rfl ?_; intro _; refine w ?_))
  (((first | refine VO.step rfl rfl ?_ | refine VD.end rfl rfl rfl ?_ | refine VD.mid rfl rfl rfl ?_); refine OpV.call rfl rfl (fun _ _ => by simp) (rtaken_ok (D := D) (a := a) (xc := xc) (l1 := l1) (l2 := l2) (s := s) b hn) Ent.re rfl ?_); intro _ _)
  cases ht : s.D.taken
  · have he : e = 40 := by rcases h with h | h; rw [ht] at h; cases h; exact h
    subst he
    (refine w ?_; repeat ((first | refine VO.step rfl rfl ?_ | refine VD.end rfl rfl rfl ?_ | refine VD.mid rfl rfl rfl ?_); refine OpV.box rfl rfl rfl ?_; intro _; refine w ?_))
    (refine VE.done1 rfl ?_ ?_)
    · rfl
    · exact Ent.refl
  · (refine w ?_; repeat ((first | refine VO.step rfl rfl ?_ | refine VD.end rfl rfl rfl ?_ | refine VD.mid rfl rfl rfl ?_); refine OpV.box rfl rfl rfl ?_; intro _; refine w ?_))
    (refine VE.done1 rfl ?_ ?_)
    · rfl
    · exact Ent.refl
set_option maxHeartbeats 1000000 in
theorem rlays_ok {W : World} {R : List SProp} {D : BayD} {a : Addr} {xc d : Nat} {kd : DiskD} {l1 l2 : List RSlotP} {s : RSlotP} (b : Nat) (h1 : D.slots = (l1 ++ s :: l2).map RSlotP.D) (hn : (l1 ++ s :: l2).length ≤ 17) (ht : s.D.taken = false) :
    Does1 W Tryz.prog 106 [.pointer (some ⟨b, 0, none⟩), .int .i64 (l1.length : Int), .pointer (some ⟨d, 0, none⟩), .int .i64 0] (RBayO b D (some a, xc) (l1 ++ s :: l2) (DocR d kd :: R)) (.int .u16 0) (RBayR b (D.setSlot l1.length ⟨some ⟨kd, false, 0⟩, s.D.aside, s.D.coming⟩) :: R) := by
  (refine Does.enter Tryz.func106 Tryz.ntmps106 rfl rfl ?_)
  have hlt : l1.length < (l1 ++ s :: l2).length := by simp
  (refine w ?_; repeat ((first | refine VO.step rfl rfl ?_ | refine VD.end rfl rfl rfl ?_ | refine VD.mid rfl rfl rfl ?_); refine OpV.box rfl rfl rfl ?_; intro _; refine w ?_))
  (((first | refine VO.step rfl rfl ?_ | refine VD.end rfl rfl rfl ?_ | refine VD.mid rfl rfl rfl ?_); refine OpV.call rfl rfl (fun _ _ => by simp) (rtaken_ok (D := D) (a := a) (xc := xc) (l1 := l1) (l2 := l2) (s := s) b hn) Ent.re rfl ?_); intro _ _)
  rw [ht]
  (refine w ?_; repeat ((first | refine VO.step rfl rfl ?_ | refine VD.end rfl rfl rfl ?_ | refine VD.mid rfl rfl rfl ?_); refine OpV.box rfl rfl rfl ?_; intro _; refine w ?_))
  (first | refine VO.step rfl rfl ?_ | refine VD.end rfl rfl rfl ?_ | refine VD.mid rfl rfl rfl ?_)
  refine OpV.stO2 tab_ok rfl rfl rfl rfl (by (repeat first | exact .head | apply Hole.tail)) (by rw [rslots_len]; omega) (by rw [rslots_split, rslots_mid l1 l2 _ rfl 0 (by decide)]) ?_
  (refine w ?_; repeat ((first | refine VO.step rfl rfl ?_ | refine VD.end rfl rfl rfl ?_ | refine VD.mid rfl rfl rfl ?_); refine OpV.box rfl rfl rfl ?_; intro _; refine w ?_))
  (first | refine VO.step rfl rfl ?_ | refine VD.end rfl rfl rfl ?_ | refine VD.mid rfl rfl rfl ?_)
  refine OpV.stO2 tab_ok rfl rfl rfl rfl (by (repeat first | exact .head | apply Hole.tail)) (by simp only [List.length_append, List.length_set, rslots_len, rslotCells_length, List.length_cons]; omega) (by rw [rslots_mid l1 l2 _ (by rw [List.length_set]; rfl) 3 (by decide)]) ?_
  (refine w ?_; repeat ((first | refine VO.step rfl rfl ?_ | refine VD.end rfl rfl rfl ?_ | refine VD.mid rfl rfl rfl ?_); refine OpV.box rfl rfl rfl ?_; intro _; refine w ?_))
  (refine VE.done1 rfl ?_ ?_)
  · rfl
  have e1 : (((rslotCells s).set 0 (.pointer (some ⟨d, 0, none⟩))).set 3 (.int .i64 (-1))) = rslotCells ⟨some ⟨d, ⟨kd, false, 0⟩⟩, s.aside, s.coming⟩ := rfl
  rw [e1, ← rslots_split]
  have e2 : (l1 ++ s :: l2).length = (l1 ++ (⟨some ⟨d, ⟨kd, false, 0⟩⟩, s.aside, s.coming⟩ : RSlotP) :: l2).length := by simp
  refine Ent.trans (fun w hw => rslotOut l1 l2 s _ w hw) ?_
  rw [e2]
  refine Ent.trans ?_ (RBayR.shut (x := (some a, xc)) (sp := l1 ++ (⟨some ⟨d, ⟨kd, false, 0⟩⟩, s.aside, s.coming⟩ : RSlotP) :: l2) ?_ (by rw [← e2]; exact hn))
  · refine Ent.trans (fun w hw => ?_) rbayIn
    have p := List.perm_middle (l₁ := rdevRes s.in_ :: rdevRes s.aside :: rdevRes s.coming :: rbayRow b D (some a, xc) (l1 ++ (⟨some ⟨d, ⟨kd, false, 0⟩⟩, s.aside, s.coming⟩ : RSlotP) :: l2).length :: rslotsOwn (some a, xc) (l1 ++ (⟨some ⟨d, ⟨kd, false, 0⟩⟩, s.aside, s.coming⟩ : RSlotP) :: l2) :: (l1 ++ l2).map rslotRes) (a := DocR d kd) (l₂ := R)
    exact ((hw.perm p).perm (List.Perm.swap _ _ _)).tail
  · unfold BayD.setSlot
    simp only [h1, List.map_append, List.map_cons]
    rw [List.set_append_right _ _ (by simp)]
    simp [RSlotP.D]
theorem docload_bad1 {n : Nat} (h : ¬ (n % 128 = 0 ∧ 1 ≤ n / 128 ∧ n / 128 ≤ 8192)) : n = 0 ∨ n % 128 ≠ 0 ∨ 1048576 < n := by omega
theorem rbayload_ok {W : World} {R : List SProp} {ao : Option Addr} {cap : Nat} {l : List UInt8} (b : Nat) (D : BayD) (k : Int) (hl : RdsA W 1 ao l.length (bytes l)) (hlen : l.length ≤ 1000000000) :
    Does1 W Tryz.prog 69 [.pointer (some ⟨b, 0, none⟩), .int .i64 k, .slice ao l.length cap] (RBayR b D :: R) (.int .u16 (D.load k l).1) (RBayR b (D.load k l).2 :: R) := by
  refine DoesO (fun w => RBayR.open) ?_
  rintro ⟨⟨x, sp⟩, h1, h2⟩
  dsimp only at h1 h2 ⊢
  (refine Does.enter Tryz.func69 Tryz.ntmps69 rfl rfl ?_)
  refine VC.know (p := x.1 = none → sp.length = 0) (fun w hw => Holds.ownNone hw (.tail _ (.head _))) ?_
  intro hx
  obtain ⟨xa, xc⟩ := x
  dsimp only at hx
  (refine w ?_; repeat ((first | refine VO.step rfl rfl ?_ | refine VD.end rfl rfl rfl ?_ | refine VD.mid rfl rfl rfl ?_); refine OpV.box rfl rfl rfl ?_; intro _; refine w ?_))
  (((first | refine VO.step rfl rfl ?_ | refine VD.end rfl rfl rfl ?_ | refine VD.mid rfl rfl rfl ?_); refine OpV.call rfl rfl (fun _ _ => by simp) (ris_ok (D := D) (x := (xa, xc)) (n := sp.length) b k) Ent.re rfl ?_); intro _ _)
  unfold BayD.load BayD.lay BayD.layE
  rw [show D.slots.length = sp.length by rw [h1, List.length_map]]
  cases hr : inRange sp.length k
  · (refine w ?_; repeat ((first | refine VO.step rfl rfl ?_ | refine VD.end rfl rfl rfl ?_ | refine VD.mid rfl rfl rfl ?_); refine OpV.box rfl rfl rfl ?_; intro _; refine w ?_))
    (refine VE.done1 rfl ?_ ?_)
    · rfl
    · exact RBayR.shut (x := (xa, xc)) h1 h2
  obtain ⟨l1, s, l2, rfl, rfl⟩ := rrange_split hr
  have hlt : l1.length < (l1 ++ s :: l2).length := by simp
  obtain ⟨a, rfl⟩ : ∃ a, xa = some a := by cases xa with | none => have := hx rfl; omega | some a => exact ⟨a, rfl⟩
  rw [rslot_at h1]
  (refine w ?_; repeat ((first | refine VO.step rfl rfl ?_ | refine VD.end rfl rfl rfl ?_ | refine VD.mid rfl rfl rfl ?_); refine OpV.box rfl rfl rfl ?_; intro _; refine w ?_))
  by_cases hL : l.length % 128 = 0 ∧ 1 ≤ l.length / 128 ∧ l.length / 128 ≤ 8192
  · have hm : l.length = l.length / 128 * 128 := by omega
    have hE : loadE l.length = 0 := by unfold loadE; rw [if_pos hL]
    rw [hE]
    obtain ⟨m, hm2⟩ : ∃ m, l.length / 128 = m := ⟨_, rfl⟩
    rw [hm2] at hm hL ⊢
    rw [hm] at hl ⊢
    ((first | refine VO.step rfl rfl ?_ | refine VD.end rfl rfl rfl ?_ | refine VD.mid rfl rfl rfl ?_); refine OpV.call rfl rfl (fun _ _ => by simp) (docload_ok hl hL.2.1 hL.2.2) Ent.re rfl ?_)
    intro d _
    (refine w ?_; repeat ((first | refine VO.step rfl rfl ?_ | refine VD.end rfl rfl rfl ?_ | refine VD.mid rfl rfl rfl ?_); refine OpV.box rfl rfl rfl ?_; intro _; refine w ?_))
    cases ht : s.D.taken
    · refine VO.ent (H' := RBayO b D (some a, xc) (l1 ++ s :: l2) (DocR d ⟨chunks l m, [], false⟩ :: R)) (fun w hw => ?_) ?_
      · exact hw.perm (List.perm_middle (l₁ := rbayRow b D (some a, xc) (l1 ++ s :: l2).length :: rslotsOwn (some a, xc) (l1 ++ s :: l2) :: (l1 ++ s :: l2).map rslotRes)).symm
      (((first | refine VO.step rfl rfl ?_ | refine VD.end rfl rfl rfl ?_ | refine VD.mid rfl rfl rfl ?_); refine OpV.call rfl rfl (fun _ _ => by simp) (rlays_ok (D := D) (a := a) (xc := xc) (l1 := l1) (l2 := l2) (s := s) (d := d) (kd := ⟨chunks l m, [], false⟩) (R := R) b h1 h2 ht) Ent.re rfl ?_); intro _ _)
      (refine w ?_; repeat ((first | refine VO.step rfl rfl ?_ | refine VD.end rfl rfl rfl ?_ | refine VD.mid rfl rfl rfl ?_); refine OpV.box rfl rfl rfl ?_; intro _; refine w ?_))
      (refine VE.done1 rfl ?_ ?_)
      · rfl
      · exact Ent.refl
    · refine VO.ent (fun w hw => hw.tail) ?_
      (((first | refine VO.step rfl rfl ?_ | refine VD.end rfl rfl rfl ?_ | refine VD.mid rfl rfl rfl ?_); refine OpV.call rfl rfl (fun _ _ => by simp) (rlays_no (D := D) (a := a) (xc := xc) (l1 := l1) (l2 := l2) (s := s) (p := some ⟨d, 0, none⟩) b h2 0 (.inl rfl) (.inl ht)) Ent.re rfl ?_); intro _ _)
      rw [ht]
      (refine w ?_; repeat ((first | refine VO.step rfl rfl ?_ | refine VD.end rfl rfl rfl ?_ | refine VD.mid rfl rfl rfl ?_); refine OpV.box rfl rfl rfl ?_; intro _; refine w ?_))
      (refine VE.done1 rfl ?_ ?_)
      · rfl
      · exact RBayR.shut h1 h2
  · have hE : loadE l.length = 40 := by unfold loadE; rw [if_neg hL]
    rw [hE]
    (((first | refine VO.step rfl rfl ?_ | refine VD.end rfl rfl rfl ?_ | refine VD.mid rfl rfl rfl ?_); refine OpV.call rfl rfl (fun _ _ => by simp) (docload_bad (docload_bad1 hL)) Ent.re rfl ?_); intro _ _)
    (refine w ?_; repeat ((first | refine VO.step rfl rfl ?_ | refine VD.end rfl rfl rfl ?_ | refine VD.mid rfl rfl rfl ?_); refine OpV.box rfl rfl rfl ?_; intro _; refine w ?_))
    (((first | refine VO.step rfl rfl ?_ | refine VD.end rfl rfl rfl ?_ | refine VD.mid rfl rfl rfl ?_); refine OpV.call rfl rfl (fun _ _ => by simp) (rlays_no (D := D) (a := a) (xc := xc) (l1 := l1) (l2 := l2) (s := s) b h2 40 (.inr rfl) (.inr rfl)) Ent.re rfl ?_); intro _ _)
    (refine w ?_; repeat ((first | refine VO.step rfl rfl ?_ | refine VD.end rfl rfl rfl ?_ | refine VD.mid rfl rfl rfl ?_); refine OpV.box rfl rfl rfl ?_; intro _; refine w ?_))
    cases ht : s.D.taken
    · (refine VE.done1 rfl ?_ ?_)
      · rfl
      · exact RBayR.shut h1 h2
    · (refine VE.done1 rfl ?_ ?_)
      · rfl
      · exact RBayR.shut h1 h2
end Go.Proofs.YtpmmkmcbimnigaaGreat

/-! Text Bg. -/
/- The statements of the bay: what their arguments are; much, plain, total. -/
set_option maxRecDepth 8000
set_option linter.unusedVariables false
set_option linter.unusedSimpArgs false
set_option linter.unusedSectionVars false
namespace Go.Proofs.YtpmmkmcbimnigaaGreat
open Go.RowKit Go.Sl
attribute [local irreducible] Own

/-! ### A list of lists of bools -/
/-! ### A script's calls -/
structure BopD where
  kind : Int
  slot : Int
  n : Int
  ao : Option Addr
  cap : Nat
  b : List UInt8
  ko : Option Addr
  kcap : Nat
  keeps : List KeepD
abbrev BopD.cells (o : BopD) : List Value := [.int .i64 o.kind, .int .i64 o.slot, .int .i64 o.n, .slice o.ao o.b.length o.cap, .slice o.ko o.keeps.length o.kcap]
structure BopD.wf (W : World) (o : BopD) : Prop where
  b : RdsA W 1 o.ao o.b.length (bytes o.b)
  bl : o.b.length ≤ 140737488351232
  bc : o.b.length ≤ o.cap
  ks : ∀ R, Keeps W R o.ko o.keeps
  kl : ∀ x ∈ o.keeps, x.l.length ≤ 140737488351232
  kn : o.keeps.length ≤ 140737488351232
  n1 : -9223372036854775808 ≤ o.n
  n2 : o.n ≤ 9223372036854775807
  s1 : -9223372036854775808 ≤ o.slot
  s2 : o.slot ≤ 9223372036854775807
def bopCells (l : List BopD) : List Value := l.flatMap BopD.cells
structure BScr (W : World) (R : List SProp) (ao : Option Addr) (l : List BopD) : Prop where
  rds : Rds W R 5 ao l.length (bopCells l)
  wf : ∀ o ∈ l, o.wf W
theorem BScr.ent {W : World} {H R : List SProp} {ao : Option Addr} {l : List BopD} (h : BScr W R ao l) (e : Ent W H R) : BScr W H ao l := ⟨h.rds.ent e, h.wf⟩
/-! ### much -/
end Go.Proofs.YtpmmkmcbimnigaaGreat

/-! Text Bh. -/
/- The statements of the bay: plain, total, known. -/
set_option maxRecDepth 8000
set_option linter.unusedVariables false
set_option linter.unusedSimpArgs false
set_option linter.unusedSectionVars false
namespace Go.Proofs.YtpmmkmcbimnigaaGreat
open Go.RowKit Go.Sl
attribute [local irreducible] Own

def BayD.plain (D : BayD) (kind slot n : Int) (b : List UInt8) : (List UInt8 × Int) × BayD :=
  if kind = 1 then D.read slot n else if kind = 2 then (([], (D.write slot n b).1), (D.write slot n b).2) else (([], (D.flush slot).1), (D.flush slot).2)
def CntD.total (c : CntD) : Int := IntKind.i64.wrap (IntKind.i64.wrap (c.r + c.w) + c.f)
/-- Counts, compared. -/
theorem cnt_eq {W : World} {n : Nat} {H : List SProp} {f : Fr} {dst : Option Tmp} {ty_ : TypeId} {pos : String} {after : Array Edge} {guard : Option (Nat × Bool)} {op : BinOp} {x y : Operand} {u : TypeId} {c d : CntD} {v : Value} (hx : evalX f x = some (cntV c)) (hy : evalX f y = some (cntV d))
    (hwc : (Lit.int .i64 c.r).wf = true ∧ (Lit.int .i64 c.w).wf = true ∧ (Lit.int .i64 c.f).wf = true) (hwd : (Lit.int .i64 d.r).wf = true ∧ (Lit.int .i64 d.w).wf = true ∧ (Lit.int .i64 d.f).wf = true)
    (hv : eqB op (decide (c.r = d.r ∧ c.w = d.w ∧ c.f = d.f)) = some v) : PureAt W Tryz.prog n H f { dst, op := .binOp op 39 x y u, type := ty_, pos, after, guard } v := by
  refine PureAt.eqFlat (ks := [some .i64, some .i64, some .i64]) (cs := [.int .i64 c.r, .int .i64 c.w, .int .i64 c.f]) (ds := [.int .i64 d.r, .int .i64 d.w, .int .i64 d.f]) (by kernel_rfl) hx hy rfl rfl rfl rfl ?_ ?_ ?_ hv
  · intro l hl; simp only [List.mem_cons, List.not_mem_nil, or_false] at hl; rcases hl with h | h | h
    · subst h; exact hwc.1
    · subst h; exact hwc.2.1
    · subst h; exact hwc.2.2
  · intro l hl; simp only [List.mem_cons, List.not_mem_nil, or_false] at hl; rcases hl with h | h | h
    · subst h; exact hwd.1
    · subst h; exact hwd.2.1
    · subst h; exact hwd.2.2
  · simp

def kx : List UInt8 := (List.replicate 128 0).set 5 9
def kD0 : BayD := BayD.new [2, 0]
def kD1 : BayD := (kD0.write 0 1 kx).2
def kD2 : BayD := (kD1.flush 0).2
def kD3 : BayD := (kD2.read 1 0).2
def kD4 : BayD := (kD3.trips 1).2
theorem k1 : (kD0.write 0 1 kx).1 = 0 := by kernel_rfl
theorem k2 : (kD1.flush 0).1 = 0 := by kernel_rfl
theorem k3 : (kD2.read 1 0).1 = ([], 51) := by kernel_rfl
theorem k5 : (kD4.read 0 1).1 = (kx, 0) := by kernel_rfl
end Go.Proofs.YtpmmkmcbimnigaaGreat

/-! Text Bm. -/
/- The bay's model: caches stay small, counts stay in range, what a new bay has. -/
set_option maxRecDepth 8000
set_option linter.unusedVariables false
set_option linter.unusedSimpArgs false
set_option linter.unusedSectionVars false
namespace Go.Proofs.YtpmmkmcbimnigaaGreat
open Go.RowKit Go.Sl

def SlotD.capd (s : SlotD) (c : Nat) : Prop := ∀ v, (s.in_ = some v ∨ s.aside = some v ∨ s.coming = some v) → v.k.cache.length ≤ c
def BayD.capd (D : BayD) (c : Nat) : Prop := ∀ s ∈ D.slots, s.capd c
theorem BayD.capd.mono {D : BayD} {c c' : Nat} (h : D.capd c) (hc : c ≤ c') : D.capd c' := fun s hs v hv => Nat.le_trans (h s hs v hv) hc
theorem noneS_capd (c : Nat) : SlotD.capd ⟨none, none, none⟩ c := fun v hv => by rcases hv with h | h | h <;> cases h
theorem dev_mem {D : BayD} {k : Int} {v : DevD} (h : D.dev k = some v) : ∃ s ∈ D.slots, s.in_ = some v := by
  unfold BayD.dev at h
  split at h
  · obtain ⟨s, h1, h2⟩ := Option.bind_eq_some_iff.1 h
    exact ⟨s, List.mem_of_getElem? h1, h2⟩
  · cases h
theorem use_cap {v : DevD} {c : Nat} (h : v.k.cache.length ≤ c) : v.use.k.cache.length ≤ c := by
  unfold DevD.use; split
  · exact h
  · split
    · exact Nat.zero_le _
    · exact h
theorem dv_cap {D : BayD} {c : Nat} (h : D.capd c) (k : Int) : (D.dv k).k.cache.length ≤ c := by
  unfold BayD.dv
  refine use_cap ?_
  cases hd : D.dev k with
  | none => exact Nat.zero_le _
  | some v =>
    obtain ⟨s, hs, hi⟩ := dev_mem hd
    exact h s hs v (.inl hi)
theorem slot_capd {D : BayD} {c : Nat} (h : D.capd c) (i : Nat) : SlotD.capd ((D.slots[i]?).getD ⟨none, none, none⟩) c := by
  cases hg : D.slots[i]? with
  | none => exact noneS_capd c
  | some s => exact h s (List.mem_of_getElem? hg)
theorem set_capd {D : BayD} {c i : Nat} {s : SlotD} (h : D.capd c) (hs : s.capd c) : (D.setSlot i s).capd c := by
  intro x hx
  rcases List.mem_or_eq_of_mem_set hx with q | q
  · exact h x q
  · subst q; exact hs
theorem setIn_capd {D : BayD} {c i : Nat} {v : DevD} (h : D.capd c) (hv : v.k.cache.length ≤ c) : (D.setIn i v).capd c := by
  have hg := slot_capd h i
  refine set_capd (s := { (D.slots[i]?.getD ⟨none, none, none⟩) with in_ := some v }) h ?_
  intro x hx
  rcases hx with q | q | q
  · cases q; exact hv
  · exact hg x (.inr (.inl q))
  · exact hg x (.inr (.inr q))
theorem wr_cap {k : DiskD} {a : Int} {b : List UInt8} {c : Nat} (h : k.cache.length ≤ c) : (k.wr a b).2.cache.length ≤ c + 1 := by
  unfold DiskD.wr; split
  · exact Nat.le_succ_of_le h
  · split
    · exact Nat.le_succ_of_le h
    · show (k.cache ++ [_]).length ≤ _
      rw [List.length_append, List.length_singleton]; omega
theorem fl_cap {k : DiskD} {c : Nat} (h : k.cache.length ≤ c) : k.fl.2.cache.length ≤ c := by
  unfold DiskD.fl; split
  · exact h
  · exact Nat.zero_le _
theorem pull_capd {D : BayD} {c : Nat} (h : D.capd c) (k : Int) : (D.pull k).2.capd c := by
  unfold BayD.pull; split
  · refine set_capd h ?_
    intro x hx
    rcases hx with q | q | q
    · cases q
    · cases q; exact Nat.zero_le _
    · exact slot_capd h k.toNat x (.inr (.inr q))
  · exact h
/-! ### Counts in range -/
def CntD.ok (c : CntD) : Prop := (Lit.int .i64 c.r).wf = true ∧ (Lit.int .i64 c.w).wf = true ∧ (Lit.int .i64 c.f).wf = true
/-! ### A new bay -/
end Go.Proofs.YtpmmkmcbimnigaaGreat

/-! Text Oh. -/
/- The document's bay: what changes its disks. -/
set_option maxRecDepth 8000
set_option linter.unusedVariables false
set_option linter.unusedSimpArgs false
set_option linter.unusedSectionVars false
namespace Go.Proofs.YtpmmkmcbimnigaaGreat
open Go.RowKit Go.Sl
attribute [local irreducible] Sl.Own

set_option maxHeartbeats 1000000 in
theorem docwriteR_ok {W : World} {R : List SProp} {ao : Option Addr} {cap : Nat} {b : List UInt8} (d : Nat) (k : DiskD) (a : Nat) (ha : a < k.last.length) (hfa : k.failed = false) (hb8 : b.length = 128) (hcl : k.cache.length ≤ 1000000000) (hr : Rds W R 1 ao 128 (bytes b)) :
    Does1 W Tryz.prog 48 [.pointer (some ⟨d, 0, none⟩), .int .i64 a, .slice ao 128 cap] (DocR d k :: R) (.int .i64 0) (DocR d (k.write a b) :: R) := by
  (refine Does.enter Tryz.func48 Tryz.ntmps48 rfl rfl ?_)
  refine VC.obtain (fun w => DocR.open) ?_
  rintro ⟨⟨⟨lo, lc⟩, ⟨co, cc⟩, C⟩, hk, hf⟩
  have hfl := flat_len hk
  have hs := hk.size
  have hCl : C.length = k.cache.length := by have := congrArg List.length hf; simpa using this
  dsimp only [DocO]
  (refine w ?_; repeat ((first | refine VO.step rfl rfl ?_ | refine VD.end rfl rfl rfl ?_ | refine VD.mid rfl rfl rfl ?_); refine OpV.box rfl rfl rfl ?_; intro _; refine w ?_))
  (refine VC.condFe rfl rfl (hfa) ?_)
  (refine w ?_; repeat ((first | refine VO.step rfl rfl ?_ | refine VD.end rfl rfl rfl ?_ | refine VD.mid rfl rfl rfl ?_); refine OpV.box rfl rfl rfl ?_; intro _; refine w ?_))
  (first | refine VO.pure rfl rfl (PureAt.quo (b := 128) rfl rfl (by decide) (IntWalk.i64_in _ ⟨by omega, by omega⟩)) rfl ?_ | refine VD.take rfl rfl rfl (PureAt.quo (b := 128) rfl rfl (by decide) (IntWalk.i64_in _ ⟨by omega, by omega⟩)) rfl ?_ | refine VQ.pure rfl rfl (PureAt.quo (b := 128) rfl rfl (by decide) (IntWalk.i64_in _ ⟨by omega, by omega⟩)) rfl ?_ | refine VD.end rfl rfl rfl (OpV.pure (PureAt.quo (b := 128) rfl rfl (by decide) (IntWalk.i64_in _ ⟨by omega, by omega⟩)) rfl ?_))
  (refine w ?_; repeat ((first | refine VO.step rfl rfl ?_ | refine VD.end rfl rfl rfl ?_ | refine VD.mid rfl rfl rfl ?_); refine OpV.box rfl rfl rfl ?_; intro _; refine w ?_))
  (refine VC.condFe rfl rfl (by rw [hfl, Nat.mul_div_cancel _ (by decide)]; simp; omega) ?_)
  (refine w ?_; repeat ((first | refine VO.step rfl rfl ?_ | refine VD.end rfl rfl rfl ?_ | refine VD.mid rfl rfl rfl ?_); refine OpV.box rfl rfl rfl ?_; intro _; refine w ?_))
  refine VO.ent (H' := Own 5 1 (.slice none 0 0) 0 [] :: DocO d k lo lc co cc C R) (fun w hw => hw.ownNil _ _) ?_
  dsimp only [DocO]
  (first | refine VO.step rfl rfl ?_ | refine VD.end rfl rfl rfl ?_ | refine VD.mid rfl rfl rfl ?_)
  refine OpV.append st_22 rfl rfl .head (fun w hw => ((hr.ent (Ent.drop (Ent.drop (Ent.drop (Ent.drop (Ent.dropAll (C.map fun c => c.2.res))))))).sees hw).src st_22.und) (by decide) (by decide) rfl ?_
  intro ao' cap'
  simp only [Nat.zero_add, List.nil_append]
  (refine w ?_; repeat ((first | refine VO.step rfl rfl ?_ | refine VD.end rfl rfl rfl ?_ | refine VD.mid rfl rfl rfl ?_); refine OpV.box rfl rfl rfl ?_; intro _; refine w ?_))
  (apply VO.pure rfl rfl; apply PureAt.build sb_146 rfl; (simp [buildX, setL, Value.cells]; rfl); rfl)
  (first | refine VO.step rfl rfl ?_ | refine VD.end rfl rfl rfl ?_ | refine VD.mid rfl rfl rfl ?_)
  refine OpV.buildSlice (vs := [.agg #[.int .i64 (a : Int), .slice ao' 128 cap']]) (cs := [.int .i64 (a : Int), .slice ao' 128 cap']) st_138 rfl rfl (by simp [Value.cells]) (by simp [Value.cells]) (by decide) rfl ?_
  intro nb
  (first | refine VO.step rfl rfl ?_ | refine VD.end rfl rfl rfl ?_ | refine VD.mid rfl rfl rfl ?_)
  refine OpV.appendRow st_138 rfl rfl (by (repeat first | exact .head | apply Hole.tail)) (by (focus repeat first | exact .head _ | apply List.Mem.tail)) rfl (by simp [Value.oneCell']) ?_ ?_ rfl ?_
  · simp only [maxLen]; omega
  · omega
  intro co' cc'
  (refine w ?_; repeat ((first | refine VO.step rfl rfl ?_ | refine VD.end rfl rfl rfl ?_ | refine VD.mid rfl rfl rfl ?_); refine OpV.box rfl rfl rfl ?_; intro _; refine w ?_))
  (refine VE.done1 rfl ?_ ?_)
  · rfl
  · have er : Own 5 1 (.slice ao' 128 cap') 128 (bytes b) = ListE.res ⟨ao', cap', bytes b⟩ := by unfold ListE.res; simp only [bytes_length, hb8]
    have hb9 : (bytes b).length = 128 := by rw [bytes_length, hb8]
    have := DocR.shut (W := W) (R := R) (d := d) (k := k.write a b) (lo := lo) (lc := lc) (co := co') (cc := cc') (C := C ++ [(a, ⟨ao', cap', bytes b⟩)]) (DiskD.write_okk hk ha hb8) (by
      unfold Fits at hf ⊢
      rw [List.map_append, hf]
      show _ = (k.cache ++ [(a, b)]).map _
      rw [List.map_append]; rfl)
    refine Ent.trans ?_ this
    have e2 : (k.write a b).last = k.last := rfl
    have e3 : (k.write a b).failed = k.failed := rfl
    have e4 : wcs (C ++ [(a, (⟨ao', cap', bytes b⟩ : ListE))]) = wcs C ++ [.int .i64 (a : Int), .slice ao' 128 cap'] := by
      unfold wcs; rw [List.flatMap_append]; simp [ListE.hdr, hb8]
    simp only [DocO, e2, e3, e4, List.length_append, List.length_singleton, List.map_append, List.map_cons, List.map_nil, List.append_assoc, List.cons_append, List.nil_append]
    rw [er]
    intro w hw
    refine Holds.perm ?_ (hw.tail)
    exact (List.perm_middle (l₁ := _ :: _ :: _ :: C.map (fun c => c.2.res))).symm
theorem docwrR_ok {W : World} {R : List SProp} {ao : Option Addr} {cap : Nat} {b : List UInt8} (d : Nat) (k : DiskD) (a : Int) (hc : k.cache.length ≤ 1000000000) (hr : Rds W R 1 ao b.length (bytes b)) :
    Does1 W Tryz.prog 48 [.pointer (some ⟨d, 0, none⟩), .int .i64 a, .slice ao b.length cap] (DocR d k :: R) (.int .i64 (k.wr a b).1) (DocR d (k.wr a b).2 :: R) := by
  unfold DiskD.wr
  by_cases h : k.may a = 0
  · rw [if_neg (by simpa using h)]
    by_cases hb : b.length = 128
    · rw [if_neg (by simpa using hb)]
      obtain ⟨hf, h0, h1⟩ := may_zero h
      obtain ⟨n, rfl⟩ := Int.eq_ofNat_of_zero_le h0
      rw [hb] at hr ⊢
      exact docwriteR_ok d k n (by omega) hf hb hc hr
    · rw [if_pos hb]; exact docwrite_len d k a h hb
  · rw [if_pos h]; exact docwrite_bad d k a h

/-! ### A disk has turned, in its place -/
theorem rbayInK {W : World} {b : Nat} {D : BayD} {x : Option Addr × Nat} {l1 l2 : List RSlotP} {s : RSlotP} {R : List SProp} {p : RDevP} (k' : DiskD) (hs : s.in_ = some p) (h1 : D.slots = (l1 ++ s :: l2).map RSlotP.D) (h2 : (l1 ++ s :: l2).length ≤ 17) :
    Ent W (DocR p.d k' :: rdevRes s.aside :: rdevRes s.coming :: RBayX b D x l1 s l2 R) (RBayR b (D.setIn l1.length ⟨k', p.v.worn, p.v.left⟩) :: R) := fun w hw => by
  obtain ⟨s', hs'⟩ : ∃ s' : RSlotP, s' = ⟨some ⟨p.d, ⟨k', p.v.worn, p.v.left⟩⟩, s.aside, s.coming⟩ := ⟨_, rfl⟩
  have e1 : (l1 ++ s' :: l2).length = (l1 ++ s :: l2).length := by simp
  have ec : rslotCells s' = rslotCells s := by subst hs'; unfold rslotCells; rw [hs]; rfl
  have e2 : rslotsOwn x (l1 ++ s' :: l2) = rslotsOwn x (l1 ++ s :: l2) := by
    unfold rslotsOwn
    rw [e1, List.flatMap_append, List.flatMap_cons, List.flatMap_append, List.flatMap_cons, ec]
  have hD : (D.setIn l1.length ⟨k', p.v.worn, p.v.left⟩).slots = (l1 ++ s' :: l2).map RSlotP.D := by
    unfold BayD.setIn
    simp only [h1, List.map_append, List.map_cons]
    rw [List.set_append_right _ _ (by simp), List.getElem?_append_right (by simp)]
    subst hs'
    simp [RSlotP.D]
  refine RBayR.shut (x := x) hD (by rw [e1]; exact h2) w ?_
  refine rbayIn w ?_
  have h3 : Holds W (rdevRes s'.in_ :: rdevRes s'.aside :: rdevRes s'.coming :: RBayX b D x l1 s l2 R) w := by subst hs'; exact hw
  simp only [RBayX, e1, e2] at h3 ⊢
  exact h3

/-! ### What an operation does ahead of the disk's own (plain) -/
def BayD.beg (D : BayD) (k : Int) (j : Nat) : BayD := if D.refuse k = 0 then (D.ahead k j).setIn k.toNat (D.dv k) else D.ahead k j
theorem dev_slots {D E : BayD} (h : E.slots = D.slots) (k : Int) : E.dev k = D.dev k := by unfold BayD.dev; rw [h]
theorem setIn_dev {D : BayD} {k : Int} {u v : DevD} (h : D.dev k = some u) : (D.setIn k.toNat v).dev k = some v := by
  unfold BayD.dev at h ⊢
  split at h
  · rename_i h0
    rw [if_pos h0]
    obtain ⟨s, h1, h2⟩ := Option.bind_eq_some_iff.1 h
    obtain ⟨hi, e⟩ := List.getElem?_eq_some_iff.1 h1
    unfold BayD.setIn
    dsimp only
    rw [List.getElem?_set_self hi]; rfl
  · cases h
theorem setIn_setIn (D : BayD) (i : Nat) (u v : DevD) : (D.setIn i u).setIn i v = D.setIn i v := by
  unfold BayD.setIn
  dsimp only
  congr 1
  by_cases h : i < D.slots.length
  · rw [List.getElem?_set_self h, List.set_set]; rfl
  · simp only [List.set_eq_of_length_le (show D.slots.length ≤ i by omega)]
theorem refuse_dev {D : BayD} {k : Int} (h : D.refuse k = 0) : inRange D.slots.length k = true ∧ D.pow.dark = false ∧ ∃ v, D.dev k = some v := by
  unfold BayD.refuse at h
  split at h
  · cases h
  · rename_i h1
    split at h
    · cases h
    · rename_i h2
      have h1 : inRange D.slots.length k = true := by simpa using h1
      refine ⟨h1, by simpa using h2, ?_⟩
      unfold thereE at h
      rw [if_pos h1] at h
      cases hd : D.dev k with
      | none => rw [hd] at h; cases h
      | some v => exact ⟨v, rfl⟩
theorem beg_dev {D : BayD} {k : Int} {j : Nat} (h : D.refuse k = 0) : (D.beg k j).dev k = some (D.dv k) := by
  obtain ⟨_, _, v, hv⟩ := refuse_dev h
  unfold BayD.beg
  rw [if_pos h]
  exact setIn_dev (u := v) (by rw [dev_slots (D.ahead_slots k j)]; exact hv)
theorem beg_setIn {D : BayD} {k : Int} {j : Nat} (h : D.refuse k = 0) (v : DevD) : (D.beg k j).setIn k.toNat v = (D.ahead k j).setIn k.toNat v := by
  unfold BayD.beg
  rw [if_pos h, setIn_setIn]
end Go.Proofs.YtpmmkmcbimnigaaGreat

/-! Text Oi. -/
/- A bay to which nothing but writes, flushes, failing and pulling happens (plain). -/
set_option maxRecDepth 8000
set_option linter.unusedVariables false
set_option linter.unusedSimpArgs false
set_option linter.unusedSectionVars false
namespace Go.Proofs.YtpmmkmcbimnigaaGreat
open Go.RowKit Go.Sl

structure CntIn (n : CntD) (c : Nat) : Prop where
  r : 0 ≤ n.r ∧ n.r ≤ c
  w : 0 ≤ n.w ∧ n.w ≤ c
  f : 0 ≤ n.f ∧ n.f ≤ c
structure Calm (D : BayD) (m c : Nat) : Prop where
  len : D.slots.length = m
  dark : D.dark = false
  trip : D.trip = -1
  worn : ∀ s ∈ D.slots, ∀ v, s.in_ = some v → v.worn = false
  cap : D.capd c
  n : CntIn D.n c
theorem CntIn.mono {n : CntD} {c c' : Nat} (h : CntIn n c) (hc : c ≤ c') : CntIn n c' := ⟨⟨h.r.1, by have := h.r.2; omega⟩, ⟨h.w.1, by have := h.w.2; omega⟩, ⟨h.f.1, by have := h.f.2; omega⟩⟩
theorem CntIn.inc {n : CntD} {c : Nat} (h : CntIn n c) (hc : c < 1000000000) (j : Nat) : CntIn (n.inc j) (c + 1) := by
  have h1 := h.r; have h2 := h.w; have h3 := h.f
  have e : ∀ x : Int, 0 ≤ x ∧ x ≤ c → IntKind.i64.wrap (x + 1) = x + 1 := fun x hx => IntWalk.i64_in _ ⟨by omega, by omega⟩
  unfold CntD.inc
  split
  · exact ⟨by dsimp only; rw [e _ h1]; omega, by dsimp only; omega, by dsimp only; omega⟩
  · exact ⟨by dsimp only; omega, by dsimp only; rw [e _ h2]; omega, by dsimp only; omega⟩
  · exact ⟨by dsimp only; omega, by dsimp only; omega, by dsimp only; rw [e _ h3]; omega⟩
theorem Calm.pow {D : BayD} {m c : Nat} (h : Calm D m c) : D.pow = D := by unfold BayD.pow; rw [if_neg (by rw [h.trip]; decide)]
theorem Calm.ahead {D : BayD} {m c : Nat} (h : Calm D m c) (hc : c < 1000000000) (k : Int) (j : Nat) : Calm (D.ahead k j) m (c + 1) := by
  unfold BayD.ahead
  split
  · exact ⟨h.len, h.dark, h.trip, h.worn, h.cap.mono (Nat.le_succ _), h.n.mono (Nat.le_succ _)⟩
  · rw [h.pow, if_neg (by rw [h.dark]; decide)]
    refine ⟨h.len, h.dark, ?_, h.worn, h.cap.mono (Nat.le_succ _), h.n.inc hc j⟩
    show (if 0 < D.trip then _ else D.trip) = -1
    rw [h.trip]; rfl
theorem Calm.dev {D : BayD} {m c : Nat} (h : Calm D m c) {k : Int} {v : DevD} (hv : D.dev k = some v) : v.worn = false ∧ v.k.cache.length ≤ c ∧ D.dv k = v := by
  obtain ⟨s, hs, hi⟩ := dev_mem hv
  have hw := h.worn s hs v hi
  refine ⟨hw, h.cap s hs v (.inl hi), ?_⟩
  unfold BayD.dv
  rw [hv]
  show v.use = v
  unfold DevD.use; rw [if_pos hw]
theorem Calm.setIn {D : BayD} {m c : Nat} (h : Calm D m c) (i : Nat) {v : DevD} (hw : v.worn = false) (hc : v.k.cache.length ≤ c) : Calm (D.setIn i v) m c := by
  refine ⟨by unfold BayD.setIn; rw [List.length_set]; exact h.len, h.dark, h.trip, fun s hs u hu => ?_, setIn_capd h.cap hc, h.n⟩
  rcases List.mem_or_eq_of_mem_set hs with q | q
  · exact h.worn s q u hu
  · subst q
    have hu : some v = some u := hu
    cases hu; exact hw
theorem Calm.mono {D : BayD} {m c c' : Nat} (h : Calm D m c) (hc : c ≤ c') : Calm D m c' := ⟨h.len, h.dark, h.trip, h.worn, h.cap.mono hc, h.n.mono hc⟩
theorem Calm.write {D : BayD} {m c : Nat} (h : Calm D m c) (hc : c < 1000000000) (k a : Int) (b : List UInt8) : Calm (D.write k a b).2 m (c + 1) := by
  unfold BayD.write
  split
  · rename_i hr
    obtain ⟨_, _, v, hv⟩ := refuse_dev hr
    obtain ⟨h1, h2, h3⟩ := h.dev hv
    rw [h3]
    exact (h.ahead hc k 1).setIn _ h1 (wr_cap h2)
  · exact h.ahead hc k 1
theorem Calm.flush {D : BayD} {m c : Nat} (h : Calm D m c) (hc : c < 1000000000) (k : Int) : Calm (D.flush k).2 m (c + 1) := by
  unfold BayD.flush
  split
  · rename_i hr
    obtain ⟨_, _, v, hv⟩ := refuse_dev hr
    obtain ⟨h1, h2, h3⟩ := h.dev hv
    rw [h3]
    exact (h.ahead hc k 2).setIn _ h1 (Nat.le_succ_of_le (fl_cap h2))
  · exact h.ahead hc k 2
theorem Calm.fail {D : BayD} {m c : Nat} (h : Calm D m c) (k : Int) : Calm (D.fail k).2 m c := by
  unfold BayD.fail
  split
  · rename_i v hv
    exact h.setIn _ (h.dev hv).1 (Nat.zero_le _)
  · exact h
theorem Calm.pull {D : BayD} {m c : Nat} (h : Calm D m c) (k : Int) : Calm (D.pull k).2 m c := by
  have hp := pull_capd h.cap k
  unfold BayD.pull at hp ⊢
  split
  · rename_i v hv
    rw [hv] at hp
    refine ⟨by unfold BayD.setSlot; rw [List.length_set]; exact h.len, h.dark, h.trip, fun s hs u hu => ?_, hp, h.n⟩
    rcases List.mem_or_eq_of_mem_set hs with q | q
    · exact h.worn s q u hu
    · subst q; cases hu
  · exact h
theorem Calm.new {l : List Int} : Calm (BayD.new l) l.length 0 := by
  refine ⟨by unfold BayD.new; simp, rfl, rfl, fun s hs v hv => ?_, fun s hs v hv => ?_, (show CntIn ⟨0, 0, 0⟩ 0 from ⟨⟨by decide, by decide⟩, ⟨by decide, by decide⟩, ⟨by decide, by decide⟩⟩)⟩
  · obtain ⟨n, _, rfl⟩ := List.mem_map.1 hs
    unfold slotOf at hv
    split at hv
    · cases hv
    · cases hv; rfl
  · obtain ⟨n, _, rfl⟩ := List.mem_map.1 hs
    unfold slotOf at hv
    split at hv
    · rcases hv with h | h | h <;> cases h
    · rcases hv with h | h | h
      · cases h; exact Nat.zero_le _
      · cases h
      · cases h
end Go.Proofs.YtpmmkmcbimnigaaGreat

/-! Text Oj. -/
/- The document's bay: begins, Write, Flush, Fail, Pull, Pending (disks that do not wear). -/
set_option maxRecDepth 8000
set_option linter.unusedVariables false
set_option linter.unusedSimpArgs false
set_option linter.unusedSectionVars false
namespace Go.Proofs.YtpmmkmcbimnigaaGreat
open Go.RowKit Go.Sl
attribute [local irreducible] Sl.Own

theorem setIn_same {D : BayD} {l1 l2 : List RSlotP} {s : RSlotP} {p : RDevP} (h : D.slots = (l1 ++ s :: l2).map RSlotP.D) (hs : s.in_ = some p) : D.setIn l1.length p.v = D := by
  unfold BayD.setIn
  have e : D.slots.set l1.length { (D.slots[l1.length]?.getD ⟨none, none, none⟩) with in_ := some p.v } = D.slots := by
    simp only [h, List.map_append, List.map_cons]
    rw [List.set_append_right _ _ (by simp), List.getElem?_append_right (by simp)]
    simp [RSlotP.D, hs]
  rw [e]
theorem rmid_rds {W : World} {H : List SProp} {a : Addr} {c n : Nat} {l1 l2 : List RSlotP} {cs : List Value} (m : Sl.Own 84 6 (.slice (some a) n c) n (l1.flatMap rslotCells ++ (cs ++ l2.flatMap rslotCells)) ∈ H) (hn : n = l1.length + 1 + l2.length) (hc : cs.length = 6) (h1 : ∀ u ∈ cs, u.oneCell' = true) :
    Rds W H 6 (some a) n (l1.flatMap rslotCells ++ (cs ++ l2.flatMap rslotCells)) := by
  refine Rds.own (fun u hu => ?_) m ?_ (fun h => by cases h)
  · rcases List.mem_append.1 hu with q | q
    · exact rslots_one _ u q
    · rcases List.mem_append.1 q with q | q
      · exact h1 u q
      · exact rslots_one _ u q
  · rw [List.length_append, List.length_append, rslots_len, rslots_len, hc, hn]; omega
theorem rmid_get (l1 l2 : List RSlotP) (cs : List Value) (hc : cs.length = 6) (i : Nat) (hi : i < 6) : (l1.flatMap rslotCells ++ (cs ++ l2.flatMap rslotCells))[l1.length * 6 + i]? = cs[i]? := by
  rw [List.getElem?_append_right (by rw [rslots_len]; omega), rslots_len, Nat.add_sub_cancel_left, List.getElem?_append_left (by omega)]
set_option maxHeartbeats 8000000 in
theorem rbegins_ok {W : World} {R : List SProp} (b : Nat) (D : BayD) (k : Int) (j : Nat) (hj : j < 3) (hdk : D.dark = true → D.trip ≠ 0) (hw : ∀ v, D.dev k = some v → v.worn = true → 0 ≤ v.left) :
    Does1 W Tryz.prog 36 [.pointer (some ⟨b, 0, none⟩), .int .i64 k, .int .i64 ((j + 1 : Nat) : Int)] (RBayR b D :: R) (.int .u16 (D.refuse k)) (RBayR b (D.beg k j) :: R) := by
  refine DoesO (fun w => RBayR.open) ?_
  rintro ⟨⟨x, sp⟩, h1, h2⟩
  dsimp only at h1 h2 ⊢
  have hl : D.slots.length = sp.length := by rw [h1, List.length_map]
  (refine Does.enter Tryz.func36 Tryz.ntmps36 rfl rfl ?_)
  refine VC.know (p := x.1 = none → sp.length = 0) (fun w hw => Holds.ownNone hw (.tail _ (.head _))) ?_
  intro hx
  obtain ⟨xa, xc⟩ := x
  dsimp only at hx
  (refine w ?_; repeat ((first | refine VO.step rfl rfl ?_ | refine VD.end rfl rfl rfl ?_ | refine VD.mid rfl rfl rfl ?_); refine OpV.box rfl rfl rfl ?_; intro _; refine w ?_))
  (((first | refine VO.step rfl rfl ?_ | refine VD.end rfl rfl rfl ?_ | refine VD.mid rfl rfl rfl ?_); refine OpV.call rfl rfl (fun _ _ => by simp) (ris_ok (D := D) (x := (xa, xc)) (n := sp.length) b k) Ent.re rfl ?_); intro _ _)
  unfold BayD.beg BayD.refuse BayD.ahead
  rw [hl]
  cases hr : inRange sp.length k
  · (refine w ?_; repeat ((first | refine VO.step rfl rfl ?_ | refine VD.end rfl rfl rfl ?_ | refine VD.mid rfl rfl rfl ?_); refine OpV.box rfl rfl rfl ?_; intro _; refine w ?_))
    (refine VE.done1 rfl ?_ ?_)
    · rfl
    · exact RBayR.shut (x := (xa, xc)) h1 h2
  obtain ⟨l1, s, l2, rfl, rfl⟩ := rrange_split hr
  have hlt : l1.length < (l1 ++ s :: l2).length := by simp
  obtain ⟨a, rfl⟩ : ∃ a, xa = some a := by cases xa with | none => have := hx rfl; omega | some a => exact ⟨a, rfl⟩
  have c0 : ((l1 ++ s :: l2).flatMap rslotCells)[l1.length * 6 + 0]? = some (rPtr s.in_) := (rslots_get _ _ 0 hlt (by decide)).trans (by simp [rslotCells])
  have c3 : ((l1 ++ s :: l2).flatMap rslotCells)[l1.length * 6 + 3]? = some (.int .i64 (wearV s.in_)) := (rslots_get _ _ 3 hlt (by decide)).trans (by simp [rslotCells])
  have hdev : D.dev (l1.length : Int) = s.in_.map RDevP.v := by rw [rinP_D h1, rinP_mid]
  (refine w ?_; repeat ((first | refine VO.step rfl rfl ?_ | refine VD.end rfl rfl rfl ?_ | refine VD.mid rfl rfl rfl ?_); refine OpV.box rfl rfl rfl ?_; intro _; refine w ?_))
  cases hd : D.dark
  rotate_left
  · have hp : D.pow = D := by unfold BayD.pow; rw [if_neg (hdk hd)]
    (refine w ?_; repeat ((first | refine VO.step rfl rfl ?_ | refine VD.end rfl rfl rfl ?_ | refine VD.mid rfl rfl rfl ?_); refine OpV.box rfl rfl rfl ?_; intro _; refine w ?_))
    (refine VE.done1 rfl ?_ ?_)
    · rw [hp, hd]; rfl
    · rw [hp, hd]; exact RBayR.shut (x := (some a, xc)) h1 h2
  (refine w ?_; repeat ((first | refine VO.step rfl rfl ?_ | refine VD.end rfl rfl rfl ?_ | refine VD.mid rfl rfl rfl ?_); refine OpV.box rfl rfl rfl ?_; intro _; refine w ?_))
  (refine VC.cond rfl rfl ?_ ?_ <;> intro hc)
  · have ht : D.trip = 0 := by simpa using hc
    have hp : D.pow = { D with dark := true, trip := -1 } := by unfold BayD.pow; rw [if_pos ht]
    (refine w ?_; repeat ((first | refine VO.step rfl rfl ?_ | refine VD.end rfl rfl rfl ?_ | refine VD.mid rfl rfl rfl ?_); refine OpV.box rfl rfl rfl ?_; intro _; refine w ?_))
    (refine VE.done1 rfl ?_ ?_)
    · rw [hp]; rfl
    · rw [hp]; exact RBayR.shut (D := { D with dark := true, trip := -1 }) (x := (some a, xc)) h1 h2
  have ht : ¬ D.trip = 0 := by simpa using hc
  clear hc
  have hp : D.pow = D := by unfold BayD.pow; rw [if_neg ht]
  rw [hp, hd]
  (refine w ?_; repeat ((first | refine VO.step rfl rfl ?_ | refine VD.end rfl rfl rfl ?_ | refine VD.mid rfl rfl rfl ?_); refine OpV.box rfl rfl rfl ?_; intro _; refine w ?_))
  (refine VC.join (α := Unit) (fun _ => True) (fun _ => rbayRow b D.less (some a, xc) (l1 ++ s :: l2).length :: rslotsOwn (some a, xc) (l1 ++ s :: l2) :: ((l1 ++ s :: l2).map rslotRes ++ R)) (fun _ => [(0, .pointer (some ⟨b, 0, none⟩)), (1, .int .i64 (l1.length : Int)), (2, .int .i64 ((j + 1 : Nat) : Int))]) ?_ ?_)
  · intro Q2 jn
    (refine VC.cond rfl rfl ?_ ?_ <;> intro hc)
    · have h0 : 0 < D.trip := of_decide_eq_true hc
      (refine w ?_; repeat ((first | refine VO.step rfl rfl ?_ | refine VD.end rfl rfl rfl ?_ | refine VD.mid rfl rfl rfl ?_); refine OpV.box rfl rfl rfl ?_; intro _; refine w ?_))
      refine jn.to () trivial ⟨rfl, rfl, rfl, trivial⟩ ?_
      unfold BayD.less
      rw [if_pos h0]
      exact Ent.re
    · have h0 : ¬ 0 < D.trip := of_decide_eq_false hc
      (refine w ?_; repeat ((first | refine VO.step rfl rfl ?_ | refine VD.end rfl rfl rfl ?_ | refine VD.mid rfl rfl rfl ?_); refine OpV.box rfl rfl rfl ?_; intro _; refine w ?_))
      refine jn.to () trivial ⟨rfl, rfl, rfl, trivial⟩ ?_
      unfold BayD.less
      rw [if_neg h0]
      exact Ent.re
  intro _ _
  (refine w ?_; repeat ((first | refine VO.step rfl rfl ?_ | refine VD.end rfl rfl rfl ?_ | refine VD.mid rfl rfl rfl ?_); refine OpV.box rfl rfl rfl ?_; intro _; refine w ?_))
  (first | refine VO.join (α := Unit) (fun _ => True) (fun _ => rbayRow b (D.step j) (some a, xc) (l1 ++ s :: l2).length :: rslotsOwn (some a, xc) (l1 ++ s :: l2) :: ((l1 ++ s :: l2).map rslotRes ++ R)) (fun _ => [(0, .pointer (some ⟨b, 0, none⟩)), (1, .int .i64 (l1.length : Int))]) ?_ ?_ | refine VC.joinTB (α := Unit) (fun _ => True) (fun _ => rbayRow b (D.step j) (some a, xc) (l1 ++ s :: l2).length :: rslotsOwn (some a, xc) (l1 ++ s :: l2) :: ((l1 ++ s :: l2).map rslotRes ++ R)) (fun _ => [(0, .pointer (some ⟨b, 0, none⟩)), (1, .int .i64 (l1.length : Int))]) ?_ ?_ | refine VC.joinB (α := Unit) (fun _ => True) (fun _ => rbayRow b (D.step j) (some a, xc) (l1 ++ s :: l2).length :: rslotsOwn (some a, xc) (l1 ++ s :: l2) :: ((l1 ++ s :: l2).map rslotRes ++ R)) (fun _ => [(0, .pointer (some ⟨b, 0, none⟩)), (1, .int .i64 (l1.length : Int))]) ?_ ?_ | refine VC.join (α := Unit) (fun _ => True) (fun _ => rbayRow b (D.step j) (some a, xc) (l1 ++ s :: l2).length :: rslotsOwn (some a, xc) (l1 ++ s :: l2) :: ((l1 ++ s :: l2).map rslotRes ++ R)) (fun _ => [(0, .pointer (some ⟨b, 0, none⟩)), (1, .int .i64 (l1.length : Int))]) ?_ ?_)
  · intro Q2 jn
    rcases (show j = 0 ∨ j = 1 ∨ j = 2 by omega) with rfl | rfl | rfl
    · (refine VC.condTe rfl rfl (rfl) ?_)
      (refine w ?_; repeat ((first | refine VO.step rfl rfl ?_ | refine VD.end rfl rfl rfl ?_ | refine VD.mid rfl rfl rfl ?_); refine OpV.box rfl rfl rfl ?_; intro _; refine w ?_))
      refine jn.to () trivial ⟨rfl, rfl, trivial⟩ ?_
      exact Ent.refl
    · (refine VC.condFe rfl rfl (rfl) ?_)
      (refine w ?_; repeat ((first | refine VO.step rfl rfl ?_ | refine VD.end rfl rfl rfl ?_ | refine VD.mid rfl rfl rfl ?_); refine OpV.box rfl rfl rfl ?_; intro _; refine w ?_))
      refine jn.to () trivial ⟨rfl, rfl, trivial⟩ ?_
      exact Ent.refl
    · (refine VC.condFe rfl rfl (rfl) ?_)
      (refine w ?_; repeat ((first | refine VO.step rfl rfl ?_ | refine VD.end rfl rfl rfl ?_ | refine VD.mid rfl rfl rfl ?_); refine OpV.box rfl rfl rfl ?_; intro _; refine w ?_))
      refine jn.to () trivial ⟨rfl, rfl, trivial⟩ ?_
      exact Ent.refl
  intro _ _
  (refine w ?_; repeat ((first | refine VO.step rfl rfl ?_ | refine VD.end rfl rfl rfl ?_ | refine VD.mid rfl rfl rfl ?_); refine OpV.box rfl rfl rfl ?_; intro _; refine w ?_))
  (first | refine VO.pure rfl rfl (.ldRc tab_ok rfl rfl (rslots_rds (by (focus repeat first | exact .head _ | apply List.Mem.tail))) c0) rfl ?_ | refine VD.take rfl rfl rfl (.ldRc tab_ok rfl rfl (rslots_rds (by (focus repeat first | exact .head _ | apply List.Mem.tail))) c0) rfl ?_ | refine VQ.pure rfl rfl (.ldRc tab_ok rfl rfl (rslots_rds (by (focus repeat first | exact .head _ | apply List.Mem.tail))) c0) rfl ?_ | refine VD.end rfl rfl rfl (OpV.pure (.ldRc tab_ok rfl rfl (rslots_rds (by (focus repeat first | exact .head _ | apply List.Mem.tail))) c0) rfl ?_))
  have hth : thereE (l1 ++ s :: l2).length (D.dev (l1.length : Int)).isSome (l1.length : Int) = if s.in_.isSome then 0 else 51 := by
    unfold thereE
    rw [rin_mid, hdev]
    cases s.in_ <;> rfl
  rw [hth]
  cases hs : s.in_ with
  | none =>
    (refine w ?_; repeat ((first | refine VO.step rfl rfl ?_ | refine VD.end rfl rfl rfl ?_ | refine VD.mid rfl rfl rfl ?_); refine OpV.box rfl rfl rfl ?_; intro _; refine w ?_))
    (refine VE.done1 rfl ?_ ?_)
    · rfl
    · exact RBayR.shut (D := D.step j) (x := (some a, xc)) h1 h2
  | some p =>
    dsimp only [rPtr, Option.map_some]
    have hpv : D.dev (l1.length : Int) = some p.v := by rw [hdev, hs]; rfl
    have hdv0 : D.dv (l1.length : Int) = p.v.use := by unfold BayD.dv; rw [hpv]; rfl
    have hlen : (l1 ++ s :: l2).length = l1.length + 1 + l2.length := by simp; omega
    have ecs : rslotCells s = [.pointer (some ⟨p.d, 0, none⟩), rPtr s.aside, rPtr s.coming, .int .i64 (wearV (some p)), .int .i64 (wearV s.aside), .int .i64 (wearV s.coming)] := by unfold rslotCells; rw [hs]; rfl
    cases hwn : p.v.worn
    · have hdv : D.dv (l1.length : Int) = p.v := by
        rw [hdv0]; unfold DevD.use; rw [if_pos hwn]
      have c3' : ((l1 ++ s :: l2).flatMap rslotCells)[l1.length * 6 + 3]? = some (.int .i64 (-1)) := by rw [c3, hs, show wearV (some p) = -1 by show (if p.v.worn = true then p.v.left else -1) = -1; rw [hwn]; rfl]
      (refine w ?_; repeat ((first | refine VO.step rfl rfl ?_ | refine VD.end rfl rfl rfl ?_ | refine VD.mid rfl rfl rfl ?_); refine OpV.box rfl rfl rfl ?_; intro _; refine w ?_))
      (first | refine VO.pure rfl rfl (.ldRc tab_ok rfl rfl (rslots_rds (by (focus repeat first | exact .head _ | apply List.Mem.tail))) c3') rfl ?_ | refine VD.take rfl rfl rfl (.ldRc tab_ok rfl rfl (rslots_rds (by (focus repeat first | exact .head _ | apply List.Mem.tail))) c3') rfl ?_ | refine VQ.pure rfl rfl (.ldRc tab_ok rfl rfl (rslots_rds (by (focus repeat first | exact .head _ | apply List.Mem.tail))) c3') rfl ?_ | refine VD.end rfl rfl rfl (OpV.pure (.ldRc tab_ok rfl rfl (rslots_rds (by (focus repeat first | exact .head _ | apply List.Mem.tail))) c3') rfl ?_))
      (refine w ?_; repeat ((first | refine VO.step rfl rfl ?_ | refine VD.end rfl rfl rfl ?_ | refine VD.mid rfl rfl rfl ?_); refine OpV.box rfl rfl rfl ?_; intro _; refine w ?_))
      (first | refine VO.pure rfl rfl (.ldRc tab_ok rfl rfl (rslots_rds (by (focus repeat first | exact .head _ | apply List.Mem.tail))) c3') rfl ?_ | refine VD.take rfl rfl rfl (.ldRc tab_ok rfl rfl (rslots_rds (by (focus repeat first | exact .head _ | apply List.Mem.tail))) c3') rfl ?_ | refine VQ.pure rfl rfl (.ldRc tab_ok rfl rfl (rslots_rds (by (focus repeat first | exact .head _ | apply List.Mem.tail))) c3') rfl ?_ | refine VD.end rfl rfl rfl (OpV.pure (.ldRc tab_ok rfl rfl (rslots_rds (by (focus repeat first | exact .head _ | apply List.Mem.tail))) c3') rfl ?_))
      (refine w ?_; repeat ((first | refine VO.step rfl rfl ?_ | refine VD.end rfl rfl rfl ?_ | refine VD.mid rfl rfl rfl ?_); refine OpV.box rfl rfl rfl ?_; intro _; refine w ?_))
      (refine VE.done1 rfl ?_ ?_)
      · rfl
      · rw [hdv]
        have e : (D.step j).setIn l1.length p.v = D.step j := setIn_same (D := D.step j) h1 hs
        show Ent W _ (RBayR b ((D.step j).setIn (l1.length : Int).toNat p.v) :: R)
        rw [Int.toNat_natCast, e]
        exact RBayR.shut (D := D.step j) (x := (some a, xc)) h1 h2
    have hl0 : 0 ≤ p.v.left := hw p.v hpv hwn
    have hwv : wearV (some p) = p.v.left := by show (if p.v.worn = true then p.v.left else -1) = p.v.left; rw [hwn]; rfl
    have c3' : ((l1 ++ s :: l2).flatMap rslotCells)[l1.length * 6 + 3]? = some (.int .i64 p.v.left) := by rw [c3, hs, hwv]
    have fin : ∀ v' : DevD, wearV (some ⟨p.d, v'⟩) = wearV (some ⟨p.d, v'⟩) → Ent W (DocR p.d v'.k :: rdevRes s.aside :: rdevRes s.coming :: rbayRow b (D.step j) (some a, xc) (l1 ++ s :: l2).length :: Sl.Own 84 6 (.slice (some a) (l1 ++ s :: l2).length xc) (l1 ++ s :: l2).length (l1.flatMap rslotCells ++ ((rslotCells s).set 3 (.int .i64 (wearV (some ⟨p.d, v'⟩))) ++ l2.flatMap rslotCells)) :: ((l1 ++ l2).map rslotRes ++ R)) (RBayR b ((D.step j).setIn l1.length v') :: R) := fun v' _ => by
      obtain ⟨s', hs'⟩ : ∃ s' : RSlotP, s' = ⟨some ⟨p.d, v'⟩, s.aside, s.coming⟩ := ⟨_, rfl⟩
      have e1 : (l1 ++ s' :: l2).length = (l1 ++ s :: l2).length := by simp
      have ec : rslotCells s' = (rslotCells s).set 3 (.int .i64 (wearV (some ⟨p.d, v'⟩))) := by subst hs'; rw [ecs]; rfl
      have hD : ((D.step j).setIn l1.length v').slots = (l1 ++ s' :: l2).map RSlotP.D := by
        unfold BayD.setIn
        have h1' : (D.step j).slots = (l1 ++ s :: l2).map RSlotP.D := h1
        simp only [h1', List.map_append, List.map_cons]
        rw [List.set_append_right _ _ (by simp), List.getElem?_append_right (by simp)]
        subst hs'
        simp [RSlotP.D]
      rw [← ec, ← rslots_split, ← e1]
      refine Ent.trans (fun w hw => ?_) (RBayR.shut (D := (D.step j).setIn l1.length v') (x := (some a, xc)) hD (by rw [e1]; exact h2))
      refine rbayIn w ?_
      subst hs'
      exact hw
    have one3 : ∀ v : Value, v.oneCell' = true → ∀ u ∈ (rslotCells s).set 3 v, u.oneCell' = true := fun v hv u hu => by
      rcases List.mem_or_eq_of_mem_set hu with q | q
      · exact rslot_one s u q
      · subst q; exact hv
    (refine w ?_; repeat ((first | refine VO.step rfl rfl ?_ | refine VD.end rfl rfl rfl ?_ | refine VD.mid rfl rfl rfl ?_); refine OpV.box rfl rfl rfl ?_; intro _; refine w ?_))
    (first | refine VO.pure rfl rfl (.ldRc tab_ok rfl rfl (rslots_rds (by (focus repeat first | exact .head _ | apply List.Mem.tail))) c3') rfl ?_ | refine VD.take rfl rfl rfl (.ldRc tab_ok rfl rfl (rslots_rds (by (focus repeat first | exact .head _ | apply List.Mem.tail))) c3') rfl ?_ | refine VQ.pure rfl rfl (.ldRc tab_ok rfl rfl (rslots_rds (by (focus repeat first | exact .head _ | apply List.Mem.tail))) c3') rfl ?_ | refine VD.end rfl rfl rfl (OpV.pure (.ldRc tab_ok rfl rfl (rslots_rds (by (focus repeat first | exact .head _ | apply List.Mem.tail))) c3') rfl ?_))
    (refine w ?_; repeat ((first | refine VO.step rfl rfl ?_ | refine VD.end rfl rfl rfl ?_ | refine VD.mid rfl rfl rfl ?_); refine OpV.box rfl rfl rfl ?_; intro _; refine w ?_))
    by_cases hz : p.v.left = 0
    · have c0' : ((l1 ++ s :: l2).flatMap rslotCells)[l1.length * 6 + 0]? = some (.pointer (some ⟨p.d, 0, none⟩)) := by rw [c0, hs]; rfl
      have hu : p.v.use = ⟨⟨p.v.k.last, [], true⟩, false, p.v.left⟩ := by
        unfold DevD.use
        rw [if_neg (by rw [hwn]; simp), if_pos hz, show p.v.k.fail = ⟨p.v.k.last, [], true⟩ by unfold DiskD.fail DiskD.settle; rw [sets_never]]
      (refine VC.condTe rfl rfl (by simpa using hz) ?_)
      (refine w ?_; repeat ((first | refine VO.step rfl rfl ?_ | refine VD.end rfl rfl rfl ?_ | refine VD.mid rfl rfl rfl ?_); refine OpV.box rfl rfl rfl ?_; intro _; refine w ?_))
      (first | refine VO.pure rfl rfl (.ldRc tab_ok rfl rfl (rslots_rds (by (focus repeat first | exact .head _ | apply List.Mem.tail))) c0') rfl ?_ | refine VD.take rfl rfl rfl (.ldRc tab_ok rfl rfl (rslots_rds (by (focus repeat first | exact .head _ | apply List.Mem.tail))) c0') rfl ?_ | refine VQ.pure rfl rfl (.ldRc tab_ok rfl rfl (rslots_rds (by (focus repeat first | exact .head _ | apply List.Mem.tail))) c0') rfl ?_ | refine VD.end rfl rfl rfl (OpV.pure (.ldRc tab_ok rfl rfl (rslots_rds (by (focus repeat first | exact .head _ | apply List.Mem.tail))) c0') rfl ?_))
      (refine w ?_; repeat ((first | refine VO.step rfl rfl ?_ | refine VD.end rfl rfl rfl ?_ | refine VD.mid rfl rfl rfl ?_); refine OpV.box rfl rfl rfl ?_; intro _; refine w ?_))
      refine VO.ent (rbayOutP (D := D.step j) hs) ?_
      ((first | refine VO.step rfl rfl ?_ | refine VD.end rfl rfl rfl ?_ | refine VD.mid rfl rfl rfl ?_); refine OpV.call rfl rfl (fun _ _ => by simp) (docfail_ok p.d p.v.k) Ent.refl rfl ?_)
      intro _ _
      (refine w ?_; repeat ((first | refine VO.step rfl rfl ?_ | refine VD.end rfl rfl rfl ?_ | refine VD.mid rfl rfl rfl ?_); refine OpV.box rfl rfl rfl ?_; intro _; refine w ?_))
      (first | refine VO.step rfl rfl ?_ | refine VD.end rfl rfl rfl ?_ | refine VD.mid rfl rfl rfl ?_)
      refine OpV.stO2 tab_ok rfl rfl rfl rfl (by (repeat first | exact .head | apply Hole.tail)) (by rw [rslots_len]; omega) (by rw [rslots_split, rslots_mid l1 l2 _ rfl 3 (by decide)]) ?_
      (refine w ?_; repeat ((first | refine VO.step rfl rfl ?_ | refine VD.end rfl rfl rfl ?_ | refine VD.mid rfl rfl rfl ?_); refine OpV.box rfl rfl rfl ?_; intro _; refine w ?_))
      have hl6 : ((rslotCells s).set 3 (.int .i64 (-1))).length = 6 := by rw [List.length_set]; rfl
      have c3n : (l1.flatMap rslotCells ++ ((rslotCells s).set 3 (.int .i64 (-1)) ++ l2.flatMap rslotCells))[l1.length * 6 + 3]? = some (.int .i64 (-1)) := (rmid_get l1 l2 _ hl6 3 (by decide)).trans (by rw [ecs]; rfl)
      (first | refine VO.pure rfl rfl (.ldRc tab_ok rfl rfl (rmid_rds (c := xc) (by (focus repeat first | exact .head _ | apply List.Mem.tail)) hlen hl6 (one3 _ rfl)) c3n) rfl ?_ | refine VD.take rfl rfl rfl (.ldRc tab_ok rfl rfl (rmid_rds (c := xc) (by (focus repeat first | exact .head _ | apply List.Mem.tail)) hlen hl6 (one3 _ rfl)) c3n) rfl ?_ | refine VQ.pure rfl rfl (.ldRc tab_ok rfl rfl (rmid_rds (c := xc) (by (focus repeat first | exact .head _ | apply List.Mem.tail)) hlen hl6 (one3 _ rfl)) c3n) rfl ?_ | refine VD.end rfl rfl rfl (OpV.pure (.ldRc tab_ok rfl rfl (rmid_rds (c := xc) (by (focus repeat first | exact .head _ | apply List.Mem.tail)) hlen hl6 (one3 _ rfl)) c3n) rfl ?_))
      (refine w ?_; repeat ((first | refine VO.step rfl rfl ?_ | refine VD.end rfl rfl rfl ?_ | refine VD.mid rfl rfl rfl ?_); refine OpV.box rfl rfl rfl ?_; intro _; refine w ?_))
      (refine VE.done1 rfl ?_ ?_)
      · rfl
      · rw [hdv0, hu]
        show Ent W _ (RBayR b ((D.step j).setIn (l1.length : Int).toNat _) :: R)
        rw [Int.toNat_natCast]
        exact fin ⟨⟨p.v.k.last, [], true⟩, false, p.v.left⟩ rfl
    · have hu : p.v.use = ⟨p.v.k, true, IntKind.i64.wrap (p.v.left - 1)⟩ := by
        unfold DevD.use
        rw [if_neg (by rw [hwn]; simp), if_neg hz, hwn]
      (refine VC.condFe rfl rfl (by simpa using hz) ?_)
      (refine w ?_; repeat ((first | refine VO.step rfl rfl ?_ | refine VD.end rfl rfl rfl ?_ | refine VD.mid rfl rfl rfl ?_); refine OpV.box rfl rfl rfl ?_; intro _; refine w ?_))
      (first | refine VO.pure rfl rfl (.ldRc tab_ok rfl rfl (rslots_rds (by (focus repeat first | exact .head _ | apply List.Mem.tail))) c3') rfl ?_ | refine VD.take rfl rfl rfl (.ldRc tab_ok rfl rfl (rslots_rds (by (focus repeat first | exact .head _ | apply List.Mem.tail))) c3') rfl ?_ | refine VQ.pure rfl rfl (.ldRc tab_ok rfl rfl (rslots_rds (by (focus repeat first | exact .head _ | apply List.Mem.tail))) c3') rfl ?_ | refine VD.end rfl rfl rfl (OpV.pure (.ldRc tab_ok rfl rfl (rslots_rds (by (focus repeat first | exact .head _ | apply List.Mem.tail))) c3') rfl ?_))
      (refine w ?_; repeat ((first | refine VO.step rfl rfl ?_ | refine VD.end rfl rfl rfl ?_ | refine VD.mid rfl rfl rfl ?_); refine OpV.box rfl rfl rfl ?_; intro _; refine w ?_))
      (refine VC.condTe rfl rfl (by simp; omega) ?_)
      (refine w ?_; repeat ((first | refine VO.step rfl rfl ?_ | refine VD.end rfl rfl rfl ?_ | refine VD.mid rfl rfl rfl ?_); refine OpV.box rfl rfl rfl ?_; intro _; refine w ?_))
      (first | refine VO.pure rfl rfl (.ldRc tab_ok rfl rfl (rslots_rds (by (focus repeat first | exact .head _ | apply List.Mem.tail))) c3') rfl ?_ | refine VD.take rfl rfl rfl (.ldRc tab_ok rfl rfl (rslots_rds (by (focus repeat first | exact .head _ | apply List.Mem.tail))) c3') rfl ?_ | refine VQ.pure rfl rfl (.ldRc tab_ok rfl rfl (rslots_rds (by (focus repeat first | exact .head _ | apply List.Mem.tail))) c3') rfl ?_ | refine VD.end rfl rfl rfl (OpV.pure (.ldRc tab_ok rfl rfl (rslots_rds (by (focus repeat first | exact .head _ | apply List.Mem.tail))) c3') rfl ?_))
      (refine w ?_; repeat ((first | refine VO.step rfl rfl ?_ | refine VD.end rfl rfl rfl ?_ | refine VD.mid rfl rfl rfl ?_); refine OpV.box rfl rfl rfl ?_; intro _; refine w ?_))
      refine VO.ent (rbayOutP (D := D.step j) hs) ?_
      (first | refine VO.step rfl rfl ?_ | refine VD.end rfl rfl rfl ?_ | refine VD.mid rfl rfl rfl ?_)
      refine OpV.stO2 tab_ok rfl rfl rfl rfl (by (repeat first | exact .head | apply Hole.tail)) (by rw [rslots_len]; omega) (by rw [rslots_split, rslots_mid l1 l2 _ rfl 3 (by decide)]) ?_
      (refine w ?_; repeat ((first | refine VO.step rfl rfl ?_ | refine VD.end rfl rfl rfl ?_ | refine VD.mid rfl rfl rfl ?_); refine OpV.box rfl rfl rfl ?_; intro _; refine w ?_))
      (refine VE.done1 rfl ?_ ?_)
      · rfl
      · rw [hdv0, hu]
        show Ent W _ (RBayR b ((D.step j).setIn (l1.length : Int).toNat _) :: R)
        rw [Int.toNat_natCast]
        exact fin ⟨p.v.k, true, IntKind.i64.wrap (p.v.left - 1)⟩ rfl

/-! ### What stands in a slot: called, and put back -/
theorem rbaywrite_ok {W : World} {R : List SProp} {ao : Option Addr} {cap : Nat} {l : List UInt8} (b : Nat) (D : BayD) (k a : Int) (hdk : D.dark = true → D.trip ≠ 0) (hw : ∀ v, D.dev k = some v → v.worn = true → 0 ≤ v.left) (hc : (D.dv k).k.cache.length ≤ 1000000000) (hr : Rds W R 1 ao l.length (bytes l)) :
    Does1 W Tryz.prog 14 [.pointer (some ⟨b, 0, none⟩), .int .i64 k, .int .i64 a, .slice ao l.length cap] (RBayR b D :: R) (.int .u16 (D.write k a l).1) (RBayR b (D.write k a l).2 :: R) := by
  (refine Does.enter Tryz.func14 Tryz.ntmps14 rfl rfl ?_)
  (refine w ?_; repeat ((first | refine VO.step rfl rfl ?_ | refine VD.end rfl rfl rfl ?_ | refine VD.mid rfl rfl rfl ?_); refine OpV.box rfl rfl rfl ?_; intro _; refine w ?_))
  (((first | refine VO.step rfl rfl ?_ | refine VD.end rfl rfl rfl ?_ | refine VD.mid rfl rfl rfl ?_); refine OpV.call rfl rfl (fun _ _ => by simp) (rbegins_ok b D k 1 (by decide) hdk hw) Ent.re rfl ?_); intro _ _)
  unfold BayD.write
  by_cases hr0 : D.refuse k = 0
  rotate_left
  · rw [if_neg hr0]
    (refine w ?_; repeat ((first | refine VO.step rfl rfl ?_ | refine VD.end rfl rfl rfl ?_ | refine VD.mid rfl rfl rfl ?_); refine OpV.box rfl rfl rfl ?_; intro _; refine w ?_))
    (refine VC.condTe rfl rfl (by simpa using hr0) ?_)
    (refine w ?_; repeat ((first | refine VO.step rfl rfl ?_ | refine VD.end rfl rfl rfl ?_ | refine VD.mid rfl rfl rfl ?_); refine OpV.box rfl rfl rfl ?_; intro _; refine w ?_))
    (refine VE.done1 rfl ?_ ?_)
    · rfl
    · unfold BayD.beg; rw [if_neg hr0]; exact Ent.refl
  rw [if_pos hr0]
  have hbd := beg_dev (j := 1) hr0
  have hbs := beg_setIn (j := 1) hr0
  rw [hr0, ← hbs]
  generalize D.beg k 1 = E at hbd ⊢
  refine VO.obtain (fun w => RBayR.open) ?_
  rintro ⟨⟨x, sp⟩, h1, h2⟩
  dsimp only at h1 h2 ⊢
  refine VO.know (p := x.1 = none → sp.length = 0) (fun w hw => Holds.ownNone hw (.tail _ (.head _))) ?_
  intro hx
  obtain ⟨xa, xc⟩ := x
  dsimp only at hx
  rw [rinP_D h1] at hbd
  cases hp : rinP sp k with
  | none => rw [hp] at hbd; cases hbd
  | some p =>
    have hin : inRange sp.length k = true := by rw [← Bool.not_eq_false]; intro h; rw [rinP_range h] at hp; cases hp
    obtain ⟨l1, s, l2, rfl, rfl⟩ := rrange_split hin
    have hlt : l1.length < (l1 ++ s :: l2).length := by simp
    obtain ⟨aa, rfl⟩ : ∃ a, xa = some a := by cases xa with | none => have := hx rfl; omega | some a => exact ⟨a, rfl⟩
    rw [hp] at hbd
    rw [rinP_mid] at hp
    have hv : p.v = D.dv (l1.length : Int) := Option.some.inj hbd
    have c0 : ((l1 ++ s :: l2).flatMap rslotCells)[l1.length * 6 + 0]? = some (rPtr (some p)) := (rslots_get _ _ 0 hlt (by decide)).trans (by simp [rslotCells, hp])
    (refine w ?_; repeat ((first | refine VO.step rfl rfl ?_ | refine VD.end rfl rfl rfl ?_ | refine VD.mid rfl rfl rfl ?_); refine OpV.box rfl rfl rfl ?_; intro _; refine w ?_))
    (first | refine VO.pure rfl rfl (.ldRc tab_ok rfl rfl (rslots_rds (by (focus repeat first | exact .head _ | apply List.Mem.tail))) c0) rfl ?_ | refine VD.take rfl rfl rfl (.ldRc tab_ok rfl rfl (rslots_rds (by (focus repeat first | exact .head _ | apply List.Mem.tail))) c0) rfl ?_ | refine VQ.pure rfl rfl (.ldRc tab_ok rfl rfl (rslots_rds (by (focus repeat first | exact .head _ | apply List.Mem.tail))) c0) rfl ?_ | refine VD.end rfl rfl rfl (OpV.pure (.ldRc tab_ok rfl rfl (rslots_rds (by (focus repeat first | exact .head _ | apply List.Mem.tail))) c0) rfl ?_))
    (refine w ?_; repeat ((first | refine VO.step rfl rfl ?_ | refine VD.end rfl rfl rfl ?_ | refine VD.mid rfl rfl rfl ?_); refine OpV.box rfl rfl rfl ?_; intro _; refine w ?_))
    refine VO.ent (rbayOutP hp) ?_
    rw [← hv] at hc ⊢
    ((first | refine VO.step rfl rfl ?_ | refine VD.end rfl rfl rfl ?_ | refine VD.mid rfl rfl rfl ?_); refine OpV.call rfl rfl (fun _ _ => by simp) (docwrR_ok p.d p.v.k a hc (hr.ent (Ent.drop (Ent.drop (Ent.drop (Ent.drop (Ent.dropAll ((l1 ++ l2).map rslotRes)))))))) Ent.refl rfl ?_)
    intro _ _
    have hsm := wr_small p.v.k a l
    (first | refine VO.pure rfl rfl (PureAt.conv0 tab_ok rfl rfl rfl (by rw [IntKind.wrap_u16]; omega)) rfl ?_ | refine VD.take rfl rfl rfl (PureAt.conv0 tab_ok rfl rfl rfl (by rw [IntKind.wrap_u16]; omega)) rfl ?_ | refine VQ.pure rfl rfl (PureAt.conv0 tab_ok rfl rfl rfl (by rw [IntKind.wrap_u16]; omega)) rfl ?_ | refine VD.end rfl rfl rfl (OpV.pure (PureAt.conv0 tab_ok rfl rfl rfl (by rw [IntKind.wrap_u16]; omega)) rfl ?_))
    (refine w ?_; repeat ((first | refine VO.step rfl rfl ?_ | refine VD.end rfl rfl rfl ?_ | refine VD.mid rfl rfl rfl ?_); refine OpV.box rfl rfl rfl ?_; intro _; refine w ?_))
    (refine VE.done1 rfl ?_ ?_)
    · rfl
    · rw [Int.toNat_natCast]
      exact rbayInK _ hp h1 h2
theorem rbayflush_ok {W : World} {R : List SProp} (b : Nat) (D : BayD) (k : Int) (hdk : D.dark = true → D.trip ≠ 0) (hw : ∀ v, D.dev k = some v → v.worn = true → 0 ≤ v.left) (hc : (D.dv k).k.cache.length ≤ 1000000000) :
    Does1 W Tryz.prog 8 [.pointer (some ⟨b, 0, none⟩), .int .i64 k] (RBayR b D :: R) (.int .u16 (D.flush k).1) (RBayR b (D.flush k).2 :: R) := by
  (refine Does.enter Tryz.func8 Tryz.ntmps8 rfl rfl ?_)
  (refine w ?_; repeat ((first | refine VO.step rfl rfl ?_ | refine VD.end rfl rfl rfl ?_ | refine VD.mid rfl rfl rfl ?_); refine OpV.box rfl rfl rfl ?_; intro _; refine w ?_))
  (((first | refine VO.step rfl rfl ?_ | refine VD.end rfl rfl rfl ?_ | refine VD.mid rfl rfl rfl ?_); refine OpV.call rfl rfl (fun _ _ => by simp) (rbegins_ok b D k 2 (by decide) hdk hw) Ent.re rfl ?_); intro _ _)
  unfold BayD.flush
  by_cases hr0 : D.refuse k = 0
  rotate_left
  · rw [if_neg hr0]
    (refine w ?_; repeat ((first | refine VO.step rfl rfl ?_ | refine VD.end rfl rfl rfl ?_ | refine VD.mid rfl rfl rfl ?_); refine OpV.box rfl rfl rfl ?_; intro _; refine w ?_))
    (refine VC.condTe rfl rfl (by simpa using hr0) ?_)
    (refine w ?_; repeat ((first | refine VO.step rfl rfl ?_ | refine VD.end rfl rfl rfl ?_ | refine VD.mid rfl rfl rfl ?_); refine OpV.box rfl rfl rfl ?_; intro _; refine w ?_))
    (refine VE.done1 rfl ?_ ?_)
    · rfl
    · unfold BayD.beg; rw [if_neg hr0]; exact Ent.refl
  rw [if_pos hr0]
  have hbd := beg_dev (j := 2) hr0
  have hbs := beg_setIn (j := 2) hr0
  rw [hr0, ← hbs]
  generalize D.beg k 2 = E at hbd ⊢
  refine VO.obtain (fun w => RBayR.open) ?_
  rintro ⟨⟨x, sp⟩, h1, h2⟩
  dsimp only at h1 h2 ⊢
  refine VO.know (p := x.1 = none → sp.length = 0) (fun w hw => Holds.ownNone hw (.tail _ (.head _))) ?_
  intro hx
  obtain ⟨xa, xc⟩ := x
  dsimp only at hx
  rw [rinP_D h1] at hbd
  cases hp : rinP sp k with
  | none => rw [hp] at hbd; cases hbd
  | some p =>
    have hin : inRange sp.length k = true := by rw [← Bool.not_eq_false]; intro h; rw [rinP_range h] at hp; cases hp
    obtain ⟨l1, s, l2, rfl, rfl⟩ := rrange_split hin
    have hlt : l1.length < (l1 ++ s :: l2).length := by simp
    obtain ⟨aa, rfl⟩ : ∃ a, xa = some a := by cases xa with | none => have := hx rfl; omega | some a => exact ⟨a, rfl⟩
    rw [hp] at hbd
    rw [rinP_mid] at hp
    have hv : p.v = D.dv (l1.length : Int) := Option.some.inj hbd
    have c0 : ((l1 ++ s :: l2).flatMap rslotCells)[l1.length * 6 + 0]? = some (rPtr (some p)) := (rslots_get _ _ 0 hlt (by decide)).trans (by simp [rslotCells, hp])
    (refine w ?_; repeat ((first | refine VO.step rfl rfl ?_ | refine VD.end rfl rfl rfl ?_ | refine VD.mid rfl rfl rfl ?_); refine OpV.box rfl rfl rfl ?_; intro _; refine w ?_))
    (first | refine VO.pure rfl rfl (.ldRc tab_ok rfl rfl (rslots_rds (by (focus repeat first | exact .head _ | apply List.Mem.tail))) c0) rfl ?_ | refine VD.take rfl rfl rfl (.ldRc tab_ok rfl rfl (rslots_rds (by (focus repeat first | exact .head _ | apply List.Mem.tail))) c0) rfl ?_ | refine VQ.pure rfl rfl (.ldRc tab_ok rfl rfl (rslots_rds (by (focus repeat first | exact .head _ | apply List.Mem.tail))) c0) rfl ?_ | refine VD.end rfl rfl rfl (OpV.pure (.ldRc tab_ok rfl rfl (rslots_rds (by (focus repeat first | exact .head _ | apply List.Mem.tail))) c0) rfl ?_))
    (refine w ?_; repeat ((first | refine VO.step rfl rfl ?_ | refine VD.end rfl rfl rfl ?_ | refine VD.mid rfl rfl rfl ?_); refine OpV.box rfl rfl rfl ?_; intro _; refine w ?_))
    refine VO.ent (rbayOutP hp) ?_
    rw [← hv] at hc ⊢
    ((first | refine VO.step rfl rfl ?_ | refine VD.end rfl rfl rfl ?_ | refine VD.mid rfl rfl rfl ?_); refine OpV.call rfl rfl (fun _ _ => by simp) (docfl_ok p.d p.v.k hc) Ent.refl rfl ?_)
    intro _ _
    have hsm := fl_small p.v.k
    (first | refine VO.pure rfl rfl (PureAt.conv0 tab_ok rfl rfl rfl (by rw [IntKind.wrap_u16]; omega)) rfl ?_ | refine VD.take rfl rfl rfl (PureAt.conv0 tab_ok rfl rfl rfl (by rw [IntKind.wrap_u16]; omega)) rfl ?_ | refine VQ.pure rfl rfl (PureAt.conv0 tab_ok rfl rfl rfl (by rw [IntKind.wrap_u16]; omega)) rfl ?_ | refine VD.end rfl rfl rfl (OpV.pure (PureAt.conv0 tab_ok rfl rfl rfl (by rw [IntKind.wrap_u16]; omega)) rfl ?_))
    (refine w ?_; repeat ((first | refine VO.step rfl rfl ?_ | refine VD.end rfl rfl rfl ?_ | refine VD.mid rfl rfl rfl ?_); refine OpV.box rfl rfl rfl ?_; intro _; refine w ?_))
    (refine VE.done1 rfl ?_ ?_)
    · rfl
    · rw [Int.toNat_natCast]
      exact rbayInK _ hp h1 h2
theorem rbayfail_ok {W : World} {R : List SProp} (b : Nat) (D : BayD) (k : Int) :
    Does1 W Tryz.prog 10 [.pointer (some ⟨b, 0, none⟩), .int .i64 k] (RBayR b D :: R) (.int .u16 (D.fail k).1) (RBayR b (D.fail k).2 :: R) := by
  refine DoesO (fun w => RBayR.open) ?_
  rintro ⟨⟨x, sp⟩, h1, h2⟩
  dsimp only at h1 h2 ⊢
  (refine Does.enter Tryz.func10 Tryz.ntmps10 rfl rfl ?_)
  refine VC.know (p := x.1 = none → sp.length = 0) (fun w hw => Holds.ownNone hw (.tail _ (.head _))) ?_
  intro hx
  obtain ⟨xa, xc⟩ := x
  dsimp only at hx
  (refine w ?_; repeat ((first | refine VO.step rfl rfl ?_ | refine VD.end rfl rfl rfl ?_ | refine VD.mid rfl rfl rfl ?_); refine OpV.box rfl rfl rfl ?_; intro _; refine w ?_))
  (((first | refine VO.step rfl rfl ?_ | refine VD.end rfl rfl rfl ?_ | refine VD.mid rfl rfl rfl ?_); refine OpV.call rfl rfl (fun _ _ => by simp) (rthere_ok (D := D) (x := (xa, xc)) (sp := sp) b k h2) Ent.re rfl ?_); intro _ _)
  unfold BayD.fail BayD.tE
  rw [rinP_D h1, show D.slots.length = sp.length by rw [h1, List.length_map]]
  have nope : thereE sp.length false k ≠ 0 := by unfold thereE; split <;> simp
  cases hp : rinP sp k with
  | none =>
    dsimp only [Option.map_none, Option.isSome_none]
    (refine w ?_; repeat ((first | refine VO.step rfl rfl ?_ | refine VD.end rfl rfl rfl ?_ | refine VD.mid rfl rfl rfl ?_); refine OpV.box rfl rfl rfl ?_; intro _; refine w ?_))
    (refine VC.condFe rfl rfl (by simpa using nope) ?_)
    (refine w ?_; repeat ((first | refine VO.step rfl rfl ?_ | refine VD.end rfl rfl rfl ?_ | refine VD.mid rfl rfl rfl ?_); refine OpV.box rfl rfl rfl ?_; intro _; refine w ?_))
    (refine VE.done1 rfl ?_ ?_)
    · rfl
    · exact RBayR.shut (x := (xa, xc)) h1 h2
  | some p =>
    have hin : inRange sp.length k = true := by rw [← Bool.not_eq_false]; intro h; rw [rinP_range h] at hp; cases hp
    obtain ⟨l1, s, l2, rfl, rfl⟩ := rrange_split hin
    have hlt : l1.length < (l1 ++ s :: l2).length := by simp
    obtain ⟨aa, rfl⟩ : ∃ a, xa = some a := by cases xa with | none => have := hx rfl; omega | some a => exact ⟨a, rfl⟩
    rw [rinP_mid] at hp
    have c0 : ((l1 ++ s :: l2).flatMap rslotCells)[l1.length * 6 + 0]? = some (rPtr (some p)) := (rslots_get _ _ 0 hlt (by decide)).trans (by simp [rslotCells, hp])
    have he : thereE (l1 ++ s :: l2).length true (l1.length : Int) = 0 := by unfold thereE; rw [rin_mid]; rfl
    dsimp only [Option.map_some, Option.isSome_some]
    rw [he]
    (refine w ?_; repeat ((first | refine VO.step rfl rfl ?_ | refine VD.end rfl rfl rfl ?_ | refine VD.mid rfl rfl rfl ?_); refine OpV.box rfl rfl rfl ?_; intro _; refine w ?_))
    (first | refine VO.pure rfl rfl (.ldRc tab_ok rfl rfl (rslots_rds (by (focus repeat first | exact .head _ | apply List.Mem.tail))) c0) rfl ?_ | refine VD.take rfl rfl rfl (.ldRc tab_ok rfl rfl (rslots_rds (by (focus repeat first | exact .head _ | apply List.Mem.tail))) c0) rfl ?_ | refine VQ.pure rfl rfl (.ldRc tab_ok rfl rfl (rslots_rds (by (focus repeat first | exact .head _ | apply List.Mem.tail))) c0) rfl ?_ | refine VD.end rfl rfl rfl (OpV.pure (.ldRc tab_ok rfl rfl (rslots_rds (by (focus repeat first | exact .head _ | apply List.Mem.tail))) c0) rfl ?_))
    (refine w ?_; repeat ((first | refine VO.step rfl rfl ?_ | refine VD.end rfl rfl rfl ?_ | refine VD.mid rfl rfl rfl ?_); refine OpV.box rfl rfl rfl ?_; intro _; refine w ?_))
    refine VO.ent (rbayOutP hp) ?_
    ((first | refine VO.step rfl rfl ?_ | refine VD.end rfl rfl rfl ?_ | refine VD.mid rfl rfl rfl ?_); refine OpV.call rfl rfl (fun _ _ => by simp) (docfail_ok p.d p.v.k) Ent.refl rfl ?_)
    intro _ _
    (refine w ?_; repeat ((first | refine VO.step rfl rfl ?_ | refine VD.end rfl rfl rfl ?_ | refine VD.mid rfl rfl rfl ?_); refine OpV.box rfl rfl rfl ?_; intro _; refine w ?_))
    (refine VE.done1 rfl ?_ ?_)
    · rfl
    · rw [Int.toNat_natCast, show p.v.k.fail = ⟨p.v.k.last, [], true⟩ by unfold DiskD.fail DiskD.settle; rw [sets_never]]
      exact rbayInK _ hp h1 h2
end Go.Proofs.YtpmmkmcbimnigaaGreat

/-! Text Ok. -/
/- The document's bay: Pull, Pending. -/
set_option maxRecDepth 8000
set_option linter.unusedVariables false
set_option linter.unusedSimpArgs false
set_option linter.unusedSectionVars false
namespace Go.Proofs.YtpmmkmcbimnigaaGreat
open Go.RowKit Go.Sl
attribute [local irreducible] Sl.Own

theorem keepsNil {W : World} : RdsA W 1 none 0 (bools []) := fun R => nilBools
set_option maxHeartbeats 4000000 in
theorem rbaypull_ok {W : World} {R : List SProp} (b : Nat) (D : BayD) (k : Int) (hcap : ∀ v, D.dev k = some v → v.k.cache.length ≤ 1000000000) :
    Does1 W Tryz.prog 12 [.pointer (some ⟨b, 0, none⟩), .int .i64 k] (RBayR b D :: R) (.int .u16 (D.pull k).1) (RBayR b (D.pull k).2 :: R) := by
  refine DoesO (fun w => RBayR.open) ?_
  rintro ⟨⟨x, sp⟩, h1, h2⟩
  dsimp only at h1 h2 ⊢
  (refine Does.enter Tryz.func12 Tryz.ntmps12 rfl rfl ?_)
  refine VC.know (p := x.1 = none → sp.length = 0) (fun w hw => Holds.ownNone hw (.tail _ (.head _))) ?_
  intro hx
  obtain ⟨xa, xc⟩ := x
  dsimp only at hx
  (refine w ?_; repeat ((first | refine VO.step rfl rfl ?_ | refine VD.end rfl rfl rfl ?_ | refine VD.mid rfl rfl rfl ?_); refine OpV.box rfl rfl rfl ?_; intro _; refine w ?_))
  (((first | refine VO.step rfl rfl ?_ | refine VD.end rfl rfl rfl ?_ | refine VD.mid rfl rfl rfl ?_); refine OpV.call rfl rfl (fun _ _ => by simp) (rthere_ok (D := D) (x := (xa, xc)) (sp := sp) b k h2) Ent.re rfl ?_); intro _ _)
  unfold BayD.pull BayD.tE
  rw [rinP_D h1] at hcap ⊢
  rw [show D.slots.length = sp.length by rw [h1, List.length_map]]
  have nope : thereE sp.length false k ≠ 0 := by unfold thereE; split <;> simp
  cases hp : rinP sp k with
  | none =>
    dsimp only [Option.map_none, Option.isSome_none]
    (refine w ?_; repeat ((first | refine VO.step rfl rfl ?_ | refine VD.end rfl rfl rfl ?_ | refine VD.mid rfl rfl rfl ?_); refine OpV.box rfl rfl rfl ?_; intro _; refine w ?_))
    (refine VC.condFe rfl rfl (by simpa using nope) ?_)
    (refine w ?_; repeat ((first | refine VO.step rfl rfl ?_ | refine VD.end rfl rfl rfl ?_ | refine VD.mid rfl rfl rfl ?_); refine OpV.box rfl rfl rfl ?_; intro _; refine w ?_))
    (refine VE.done1 rfl ?_ ?_)
    · rfl
    · exact RBayR.shut (x := (xa, xc)) h1 h2
  | some p =>
    have hin : inRange sp.length k = true := by rw [← Bool.not_eq_false]; intro h; rw [rinP_range h] at hp; cases hp
    obtain ⟨l1, s, l2, rfl, rfl⟩ := rrange_split hin
    have hlt : l1.length < (l1 ++ s :: l2).length := by simp
    have hlen : (l1 ++ s :: l2).length = l1.length + 1 + l2.length := by simp; omega
    obtain ⟨aa, rfl⟩ : ∃ a, xa = some a := by cases xa with | none => have := hx rfl; omega | some a => exact ⟨a, rfl⟩
    have hcp : p.v.k.cache.length ≤ 1000000000 := hcap p.v (by rw [hp]; rfl)
    rw [rinP_mid] at hp
    have he : thereE (l1 ++ s :: l2).length true (l1.length : Int) = 0 := by unfold thereE; rw [rin_mid]; rfl
    dsimp only [Option.map_some, Option.isSome_some]
    rw [he, rslot_at h1]
    have ecs : rslotCells s = [.pointer (some ⟨p.d, 0, none⟩), rPtr s.aside, rPtr s.coming, .int .i64 (wearV (some p)), .int .i64 (wearV s.aside), .int .i64 (wearV s.coming)] := by unfold rslotCells; rw [hp]; rfl
    have c0 : ((l1 ++ s :: l2).flatMap rslotCells)[l1.length * 6 + 0]? = some (.pointer (some ⟨p.d, 0, none⟩)) := (rslots_get _ _ 0 hlt (by decide)).trans (by simp [ecs])
    (refine w ?_; repeat ((first | refine VO.step rfl rfl ?_ | refine VD.end rfl rfl rfl ?_ | refine VD.mid rfl rfl rfl ?_); refine OpV.box rfl rfl rfl ?_; intro _; refine w ?_))
    (first | refine VO.pure rfl rfl (.ldRc tab_ok rfl rfl (rslots_rds (by (focus repeat first | exact .head _ | apply List.Mem.tail))) c0) rfl ?_ | refine VD.take rfl rfl rfl (.ldRc tab_ok rfl rfl (rslots_rds (by (focus repeat first | exact .head _ | apply List.Mem.tail))) c0) rfl ?_ | refine VQ.pure rfl rfl (.ldRc tab_ok rfl rfl (rslots_rds (by (focus repeat first | exact .head _ | apply List.Mem.tail))) c0) rfl ?_ | refine VD.end rfl rfl rfl (OpV.pure (.ldRc tab_ok rfl rfl (rslots_rds (by (focus repeat first | exact .head _ | apply List.Mem.tail))) c0) rfl ?_))
    (refine w ?_; repeat ((first | refine VO.step rfl rfl ?_ | refine VD.end rfl rfl rfl ?_ | refine VD.mid rfl rfl rfl ?_); refine OpV.box rfl rfl rfl ?_; intro _; refine w ?_))
    refine VO.ent (rbayOutP hp) ?_
    ((first | refine VO.step rfl rfl ?_ | refine VD.end rfl rfl rfl ?_ | refine VD.mid rfl rfl rfl ?_); refine OpV.call rfl rfl (fun _ _ => by simp) (doccrash_ok p.d p.v.k hcp keepsNil) Ent.refl rfl ?_)
    intro _ _
    (refine w ?_; repeat ((first | refine VO.step rfl rfl ?_ | refine VD.end rfl rfl rfl ?_ | refine VD.mid rfl rfl rfl ?_); refine OpV.box rfl rfl rfl ?_; intro _; refine w ?_))
    (first | refine VO.pure rfl rfl (.ldRc tab_ok rfl rfl (rslots_rds (by (focus repeat first | exact .head _ | apply List.Mem.tail))) c0) rfl ?_ | refine VD.take rfl rfl rfl (.ldRc tab_ok rfl rfl (rslots_rds (by (focus repeat first | exact .head _ | apply List.Mem.tail))) c0) rfl ?_ | refine VQ.pure rfl rfl (.ldRc tab_ok rfl rfl (rslots_rds (by (focus repeat first | exact .head _ | apply List.Mem.tail))) c0) rfl ?_ | refine VD.end rfl rfl rfl (OpV.pure (.ldRc tab_ok rfl rfl (rslots_rds (by (focus repeat first | exact .head _ | apply List.Mem.tail))) c0) rfl ?_))
    (refine w ?_; repeat ((first | refine VO.step rfl rfl ?_ | refine VD.end rfl rfl rfl ?_ | refine VD.mid rfl rfl rfl ?_); refine OpV.box rfl rfl rfl ?_; intro _; refine w ?_))
    (first | refine VO.step rfl rfl ?_ | refine VD.end rfl rfl rfl ?_ | refine VD.mid rfl rfl rfl ?_)
    refine OpV.stO2 tab_ok rfl rfl rfl rfl (by (repeat first | exact .head | apply Hole.tail)) (by rw [rslots_len]; omega) (by rw [rslots_split, ecs, rslots_mid l1 l2 _ rfl 1 (by decide)]) ?_
    (refine w ?_; repeat ((first | refine VO.step rfl rfl ?_ | refine VD.end rfl rfl rfl ?_ | refine VD.mid rfl rfl rfl ?_); refine OpV.box rfl rfl rfl ?_; intro _; refine w ?_))
    have one1 : ∀ v : Value, v.oneCell' = true → ∀ u ∈ ([.pointer (some ⟨p.d, 0, none⟩), rPtr s.aside, rPtr s.coming, .int .i64 (wearV (some p)), .int .i64 (wearV s.aside), .int .i64 (wearV s.coming)] : List Value).set 1 v, u.oneCell' = true := fun v hv u hu => by
      rcases List.mem_or_eq_of_mem_set hu with q | q
      · exact rslot_one s u (by rw [ecs]; exact q)
      · subst q; exact hv
    (first | refine VO.pure rfl rfl (.ldRc tab_ok rfl rfl (rmid_rds (by (focus repeat first | exact .head _ | apply List.Mem.tail)) hlen rfl (one1 _ rfl)) ((rmid_get l1 l2 _ rfl 3 (by decide)).trans rfl)) rfl ?_ | refine VD.take rfl rfl rfl (.ldRc tab_ok rfl rfl (rmid_rds (by (focus repeat first | exact .head _ | apply List.Mem.tail)) hlen rfl (one1 _ rfl)) ((rmid_get l1 l2 _ rfl 3 (by decide)).trans rfl)) rfl ?_ | refine VQ.pure rfl rfl (.ldRc tab_ok rfl rfl (rmid_rds (by (focus repeat first | exact .head _ | apply List.Mem.tail)) hlen rfl (one1 _ rfl)) ((rmid_get l1 l2 _ rfl 3 (by decide)).trans rfl)) rfl ?_ | refine VD.end rfl rfl rfl (OpV.pure (.ldRc tab_ok rfl rfl (rmid_rds (by (focus repeat first | exact .head _ | apply List.Mem.tail)) hlen rfl (one1 _ rfl)) ((rmid_get l1 l2 _ rfl 3 (by decide)).trans rfl)) rfl ?_))
    (refine w ?_; repeat ((first | refine VO.step rfl rfl ?_ | refine VD.end rfl rfl rfl ?_ | refine VD.mid rfl rfl rfl ?_); refine OpV.box rfl rfl rfl ?_; intro _; refine w ?_))
    (first | refine VO.step rfl rfl ?_ | refine VD.end rfl rfl rfl ?_ | refine VD.mid rfl rfl rfl ?_)
    refine OpV.stO2 tab_ok rfl rfl rfl rfl (by (repeat first | exact .head | apply Hole.tail)) (by simp only [List.length_append, List.length_set, rslots_len, List.length_cons, List.length_nil]; omega) (by rw [rslots_mid l1 l2 _ rfl 4 (by decide)]) ?_
    (refine w ?_; repeat ((first | refine VO.step rfl rfl ?_ | refine VD.end rfl rfl rfl ?_ | refine VD.mid rfl rfl rfl ?_); refine OpV.box rfl rfl rfl ?_; intro _; refine w ?_))
    (first | refine VO.step rfl rfl ?_ | refine VD.end rfl rfl rfl ?_ | refine VD.mid rfl rfl rfl ?_)
    refine OpV.stO2 tab_ok rfl rfl rfl rfl (by (repeat first | exact .head | apply Hole.tail)) (by simp only [List.length_append, List.length_set, rslots_len, List.length_cons, List.length_nil]; omega) (by rw [rslots_mid l1 l2 _ rfl 0 (by decide)]) ?_
    (refine w ?_; repeat ((first | refine VO.step rfl rfl ?_ | refine VD.end rfl rfl rfl ?_ | refine VD.mid rfl rfl rfl ?_); refine OpV.box rfl rfl rfl ?_; intro _; refine w ?_))
    (first | refine VO.step rfl rfl ?_ | refine VD.end rfl rfl rfl ?_ | refine VD.mid rfl rfl rfl ?_)
    refine OpV.stO2 tab_ok rfl rfl rfl rfl (by (repeat first | exact .head | apply Hole.tail)) (by simp only [List.length_append, List.length_set, rslots_len, List.length_cons, List.length_nil]; omega) (by rw [rslots_mid l1 l2 _ rfl 3 (by decide)]) ?_
    (refine w ?_; repeat ((first | refine VO.step rfl rfl ?_ | refine VD.end rfl rfl rfl ?_ | refine VD.mid rfl rfl rfl ?_); refine OpV.box rfl rfl rfl ?_; intro _; refine w ?_))
    (refine VE.done1 rfl ?_ ?_)
    · rfl
    obtain ⟨s', hs'⟩ : ∃ s' : RSlotP, s' = ⟨none, some ⟨p.d, ⟨p.v.k.settle (keepOf []), p.v.worn, p.v.left⟩⟩, s.coming⟩ := ⟨_, rfl⟩
    have e1 : (l1 ++ s' :: l2).length = (l1 ++ s :: l2).length := by simp
    have ec : rslotCells s' = ((((([.pointer (some ⟨p.d, 0, none⟩), rPtr s.aside, rPtr s.coming, .int .i64 (wearV (some p)), .int .i64 (wearV s.aside), .int .i64 (wearV s.coming)] : List Value).set 1 (.pointer (some ⟨p.d, 0, none⟩))).set 4 (.int .i64 (wearV (some p)))).set 0 (.pointer none)).set 3 (.int .i64 (-1))) := by subst hs'; rfl
    have hD : (D.setSlot l1.length s'.D).slots = (l1 ++ s' :: l2).map RSlotP.D := by
      unfold BayD.setSlot
      simp only [h1, List.map_append, List.map_cons]
      rw [List.set_append_right _ _ (by simp)]
      simp
    have hsD : s'.D = ⟨none, some ⟨p.v.k.settle (keepOf []), p.v.worn, p.v.left⟩, s.D.coming⟩ := by subst hs'; rfl
    rw [← ec, ← rslots_split, ← e1]
    show Ent W _ (RBayR b (D.setSlot l1.length ⟨none, some ⟨p.v.k.settle (keepOf []), p.v.worn, p.v.left⟩, s.D.coming⟩) :: R)
    rw [← hsD]
    refine Ent.trans (fun w hw => ?_) (RBayR.shut (x := (some aa, xc)) hD (by rw [e1]; exact h2))
    refine rbayIn w ?_
    have h3 : Holds W (rdevRes none :: DocR p.d (p.v.k.settle (keepOf [])) :: rdevRes s.coming :: RBayX b D (some aa, xc) l1 s' l2 R) w := by
      have h4 := (hw.perm (List.Perm.swap _ _ _)).tail
      exact h4.factShut trivial
    subst hs'
    exact h3
theorem rbaypending_ok {W : World} {R : List SProp} (b : Nat) (D : BayD) (k : Int) (hc : ∀ v, D.dev k = some v → v.k.cache.length ≤ 1000000000) :
    Does W Tryz.prog 22 [.pointer (some ⟨b, 0, none⟩), .int .i64 k] (RBayR b D :: R) (β := Option Addr × Nat) (fun x => x.1 = none → ((D.dev k).elim [] fun v => v.k.cache.map (·.1)).length = 0) (fun x => .slice x.1 ((D.dev k).elim [] fun v => v.k.cache.map (·.1)).length x.2)
      (fun x => Sl.Own 3 1 (.slice x.1 ((D.dev k).elim [] fun v => v.k.cache.map (·.1)).length x.2) ((D.dev k).elim [] fun v => v.k.cache.map (·.1)).length (ints ((D.dev k).elim [] fun v => v.k.cache.map (·.1))) :: RBayR b D :: R) := by
  refine DoesA (A := fun _ => True) ?_ (fun x _ w hw => hw.ownNone (.head _))
  refine DoesO (fun w => RBayR.open) ?_
  rintro ⟨⟨x, sp⟩, h1, h2⟩
  dsimp only at h1 h2 ⊢
  (refine Does.enter Tryz.func22 Tryz.ntmps22 rfl rfl ?_)
  refine VC.know (p := x.1 = none → sp.length = 0) (fun w hw => Holds.ownNone hw (.tail _ (.head _))) ?_
  intro hx
  obtain ⟨xa, xc⟩ := x
  dsimp only at hx
  (refine w ?_; repeat ((first | refine VO.step rfl rfl ?_ | refine VD.end rfl rfl rfl ?_ | refine VD.mid rfl rfl rfl ?_); refine OpV.box rfl rfl rfl ?_; intro _; refine w ?_))
  (((first | refine VO.step rfl rfl ?_ | refine VD.end rfl rfl rfl ?_ | refine VD.mid rfl rfl rfl ?_); refine OpV.call rfl rfl (fun _ _ => by simp) (ris_ok (D := D) (x := (xa, xc)) (n := sp.length) b k) Ent.re rfl ?_); intro _ _)
  rw [rinP_D h1] at hc ⊢
  cases hr : inRange sp.length k
  · rw [rinP_range hr]
    (refine w ?_; repeat ((first | refine VO.step rfl rfl ?_ | refine VD.end rfl rfl rfl ?_ | refine VD.mid rfl rfl rfl ?_); refine OpV.box rfl rfl rfl ?_; intro _; refine w ?_))
    refine VE.done (none, 0) rfl trivial rfl fun w hw => (RBayR.shut (x := (xa, xc)) h1 h2 w hw).ownNil 3 1
  obtain ⟨l1, s, l2, rfl, rfl⟩ := rrange_split hr
  have hlt : l1.length < (l1 ++ s :: l2).length := by simp
  obtain ⟨a, rfl⟩ : ∃ a, xa = some a := by cases xa with | none => have := hx rfl; omega | some a => exact ⟨a, rfl⟩
  rw [rinP_mid] at hc ⊢
  have c0 : ((l1 ++ s :: l2).flatMap rslotCells)[l1.length * 6 + 0]? = some (rPtr s.in_) := (rslots_get _ _ 0 hlt (by decide)).trans (by simp [rslotCells])
  (refine w ?_; repeat ((first | refine VO.step rfl rfl ?_ | refine VD.end rfl rfl rfl ?_ | refine VD.mid rfl rfl rfl ?_); refine OpV.box rfl rfl rfl ?_; intro _; refine w ?_))
  (first | refine VO.pure rfl rfl (.ldRc tab_ok rfl rfl (rslots_rds (by (focus repeat first | exact .head _ | apply List.Mem.tail))) c0) rfl ?_ | refine VD.take rfl rfl rfl (.ldRc tab_ok rfl rfl (rslots_rds (by (focus repeat first | exact .head _ | apply List.Mem.tail))) c0) rfl ?_ | refine VQ.pure rfl rfl (.ldRc tab_ok rfl rfl (rslots_rds (by (focus repeat first | exact .head _ | apply List.Mem.tail))) c0) rfl ?_ | refine VD.end rfl rfl rfl (OpV.pure (.ldRc tab_ok rfl rfl (rslots_rds (by (focus repeat first | exact .head _ | apply List.Mem.tail))) c0) rfl ?_))
  cases hs : s.in_ with
  | none =>
    (refine w ?_; repeat ((first | refine VO.step rfl rfl ?_ | refine VD.end rfl rfl rfl ?_ | refine VD.mid rfl rfl rfl ?_); refine OpV.box rfl rfl rfl ?_; intro _; refine w ?_))
    refine VE.done (none, 0) rfl trivial rfl fun w hw => (RBayR.shut (x := (some a, xc)) h1 h2 w hw).ownNil 3 1
  | some p =>
    have hcp : p.v.k.cache.length ≤ 1000000000 := hc p.v (by rw [hs]; rfl)
    dsimp only [rPtr, Option.map_some]
    have c1 : ((l1 ++ s :: l2).flatMap rslotCells)[l1.length * 6 + 0]? = some (.pointer (some ⟨p.d, 0, none⟩)) := by rw [c0, hs]; rfl
    (refine w ?_; repeat ((first | refine VO.step rfl rfl ?_ | refine VD.end rfl rfl rfl ?_ | refine VD.mid rfl rfl rfl ?_); refine OpV.box rfl rfl rfl ?_; intro _; refine w ?_))
    (first | refine VO.pure rfl rfl (.ldRc tab_ok rfl rfl (rslots_rds (by (focus repeat first | exact .head _ | apply List.Mem.tail))) c1) rfl ?_ | refine VD.take rfl rfl rfl (.ldRc tab_ok rfl rfl (rslots_rds (by (focus repeat first | exact .head _ | apply List.Mem.tail))) c1) rfl ?_ | refine VQ.pure rfl rfl (.ldRc tab_ok rfl rfl (rslots_rds (by (focus repeat first | exact .head _ | apply List.Mem.tail))) c1) rfl ?_ | refine VD.end rfl rfl rfl (OpV.pure (.ldRc tab_ok rfl rfl (rslots_rds (by (focus repeat first | exact .head _ | apply List.Mem.tail))) c1) rfl ?_))
    (refine w ?_; repeat ((first | refine VO.step rfl rfl ?_ | refine VD.end rfl rfl rfl ?_ | refine VD.mid rfl rfl rfl ?_); refine OpV.box rfl rfl rfl ?_; intro _; refine w ?_))
    refine VO.ent (rbayOutP hs) ?_
    ((first | refine VO.step rfl rfl ?_ | refine VD.end rfl rfl rfl ?_ | refine VD.mid rfl rfl rfl ?_); refine OpV.call rfl rfl (fun _ _ => by simp) (docpending_ok p.d p.v.k hcp) Ent.re rfl ?_)
    intro y _
    (refine w ?_; repeat ((first | refine VO.step rfl rfl ?_ | refine VD.end rfl rfl rfl ?_ | refine VD.mid rfl rfl rfl ?_); refine OpV.box rfl rfl rfl ?_; intro _; refine w ?_))
    have e : ((some p.v : Option DevD).elim [] fun v => v.k.cache.map (·.1)).length = p.v.k.cache.length := by show (p.v.k.cache.map (·.1)).length = _; rw [List.length_map]
    refine VE.done y rfl trivial (by rw [e]) ?_
    rw [e]
    exact rbayShutC h1 h2 hs
end Go.Proofs.YtpmmkmcbimnigaaGreat

/-! Text Ls. -/
/- The reader's Raw, Noughts, End. -/
set_option maxRecDepth 8000
set_option linter.unusedVariables false
set_option linter.unusedSimpArgs false
set_option linter.unusedSectionVars false
namespace Go.Proofs.YtpmmkmcbimnigaaGreat
open Go.RowKit Go.Sl

/-- The first byte that is no nought. -/
def firstOdd (l : List UInt8) : Int := match l.findIdx? (· != 0) with
  | some j => j
  | none => -1

theorem Rk.number_bad {k : Rk} {n : Nat} (h : (k.short n).err ≠ 0) : k.number n = k.short n := by unfold Rk.number; rw [if_neg h]
theorem Rk.number_good {k : Rk} {n : Nat} (h : (k.short n).err = 0) : k.number n = { k with at_ := k.at_ + n } := by unfold Rk.number; rw [if_pos h]
def Rk.raw (k : Rk) (n : Int) : Rk := if n ≤ 0 then k else k.number n.toNat
def Rk.rawGot (k : Rk) (n : Int) : List UInt8 := if n ≤ 0 then [] else k.got n.toNat

theorem rraw_ok {W : World} {R : List SProp} (p : Nat) (k : Rk) (n : Int) :
    Does W Tryz.prog 63 [.pointer (some ⟨p, 0, none⟩), .int .i64 n] (ReaderR p k :: R) (β := Option Addr × Nat) (fun _ => True) (fun x => .slice x.1 (k.rawGot n).length x.2)
      (fun x => Own 5 1 (.slice x.1 (k.rawGot n).length x.2) (k.rawGot n).length (bytes (k.rawGot n)) :: ReaderR p (k.raw n) :: R) := by
  (refine Does.enter Tryz.func63 Tryz.ntmps63 rfl rfl ?_)
  refine VC.know (fun w => ReaderR.know) ?_
  intro hk
  have ⟨h1, h2⟩ := hk
  (refine w ?_; repeat ((first | refine VO.step rfl rfl ?_ | refine VD.end rfl rfl rfl ?_ | refine VD.mid rfl rfl rfl ?_); refine OpV.box rfl rfl rfl ?_; intro _; refine w ?_))
  (refine VC.cond rfl rfl ?_ ?_ <;> intro hc)
  · have hn : n ≤ 0 := by simpa using hc
    (refine w ?_; repeat ((first | refine VO.step rfl rfl ?_ | refine VD.end rfl rfl rfl ?_ | refine VD.mid rfl rfl rfl ?_); refine OpV.box rfl rfl rfl ?_; intro _; refine w ?_))
    refine VE.done (none, 0) rfl trivial (by simp [Rk.rawGot, hn]) ?_
    simp only [Rk.rawGot, Rk.raw, hn, if_true]
    exact fun w hw => hw.ownNil _ _
  · have hn : ¬ n ≤ 0 := by simpa using hc
    obtain ⟨m, rfl⟩ : ∃ m : Nat, n = m := ⟨n.toNat, by omega⟩
    have e1 : k.rawGot m = k.got m := by unfold Rk.rawGot; rw [if_neg hn]; rfl
    have e2 : k.raw m = k.number m := by unfold Rk.raw; rw [if_neg hn]; rfl
    rw [e1, e2]
    (refine w ?_; repeat ((first | refine VO.step rfl rfl ?_ | refine VD.end rfl rfl rfl ?_ | refine VD.mid rfl rfl rfl ?_); refine OpV.box rfl rfl rfl ?_; intro _; refine w ?_))
    by_cases hg : (k.short m).err = 0
    · obtain ⟨hs, hb, hle⟩ := Rk.short_zero hg
      have hlen := Rk.got_length hg
      ((first | refine VO.step rfl rfl ?_ | refine VD.end rfl rfl rfl ?_ | refine VD.mid rfl rfl rfl ?_); refine OpV.call rfl rfl (fun _ _ => by simp) (next_good p k m hg) Ent.re rfl ?_)
      rintro ⟨ao, cap⟩ hcap
      refine VO.know (fun w hw => hw.ownNone (by (focus repeat first | exact .head _ | apply List.Mem.tail))) ?_
      intro hnone
      have hr := got_rds (W := W) (H := ReaderO p k ao cap R) hk hg hcap hnone (by (focus repeat first | exact .head _ | apply List.Mem.tail))
      ((first | refine VO.step rfl rfl ?_ | refine VD.end rfl rfl rfl ?_ | refine VD.mid rfl rfl rfl ?_); refine OpV.call rfl rfl (fun _ _ => by simp) (clone_ok hr (by omega)) Ent.re rfl ?_)
      rintro ⟨ao', cap'⟩ -
      (refine w ?_; repeat ((first | refine VO.step rfl rfl ?_ | refine VD.end rfl rfl rfl ?_ | refine VD.mid rfl rfl rfl ?_); refine OpV.box rfl rfl rfl ?_; intro _; refine w ?_))
      refine VE.done (ao', cap') rfl trivial (by rw [hlen]) ?_
      rw [hlen, Rk.number_good hg]
      exact fun w hw => (ReaderR.shut (k := { k with at_ := k.at_ + m }) ⟨by simp only; omega, h2⟩ w (hw.reord (L := Row p 156 [.slice ao k.b.length cap, .int .i64 ((k.at_ + m : Nat) : Int), .int .u16 k.err, .int .i64 k.wh] :: Own 5 1 (.slice ao k.b.length cap) k.b.length (bytes k.b) :: Own 5 1 (.slice ao' m cap') m (bytes (k.got m)) :: R) (by (repeat first | exact .refl | (apply Reord.cons; focus repeat first | exact .head | apply Del.tail) | exact .nil | apply Reord.drop)))).swap
    · have hgot : k.got m = [] := by unfold Rk.got; rw [if_neg hg]
      (((first | refine VO.step rfl rfl ?_ | refine VD.end rfl rfl rfl ?_ | refine VD.mid rfl rfl rfl ?_); refine OpV.call rfl rfl (fun _ _ => by simp) (next_bad p k m hg) Ent.re rfl ?_); intro _ _)
      (first | refine VO.step rfl rfl ?_ | refine VD.end rfl rfl rfl ?_ | refine VD.mid rfl rfl rfl ?_)
      have hr : Rds W (ReaderR p (k.short m) :: R) 1 none 0 (bytes []) := ⟨rfl, by simp [bytes], fun _ => rfl, fun _ _ _ h => by cases h⟩
      refine OpV.call rfl rfl (fun _ _ => by simp) (clone_ok hr (by decide)) Ent.refl rfl ?_
      rintro ⟨ao', cap'⟩ -
      refine VO.obtain (fun w hw => by
        obtain ⟨x, h⟩ := ReaderR.open hw.swap
        exact ⟨x, h⟩) ?_
      rintro ⟨⟨ao, cap⟩, hk'⟩
      have ⟨h1', h2'⟩ := hk'
      (refine w ?_; repeat ((first | refine VO.step rfl rfl ?_ | refine VD.end rfl rfl rfl ?_ | refine VD.mid rfl rfl rfl ?_); refine OpV.box rfl rfl rfl ?_; intro _; refine w ?_))
      refine VE.done (ao', cap') rfl trivial (by rw [hgot]; rfl) ?_
      rw [hgot, Rk.number_bad hg]
      exact fun w hw => (ReaderR.shut hk' w (hw.reord (by (repeat first | exact .refl | (apply Reord.cons; focus repeat first | exact .head | apply Del.tail) | exact .nil | apply Reord.drop)))).swap

theorem rend_ok {W : World} {R : List SProp} (p : Nat) (k : Rk) :
    Does1 W Tryz.prog 67 [.pointer (some ⟨p, 0, none⟩)] (ReaderR p k :: R) (if k.err = 0 ∧ k.at_ < k.b.length then .tuple #[.int .u16 13, .int .i64 k.at_] else .tuple #[.int .u16 k.err, .int .i64 k.wh]) (ReaderR p k :: R) := by
  (refine Does.enter Tryz.func67 Tryz.ntmps67 rfl rfl ?_)
  refine VC.obtain (fun w => ReaderR.open) ?_
  rintro ⟨⟨ao, cap⟩, hk⟩
  have ⟨h1, h2⟩ := hk
  (refine w ?_; repeat ((first | refine VO.step rfl rfl ?_ | refine VD.end rfl rfl rfl ?_ | refine VD.mid rfl rfl rfl ?_); refine OpV.box rfl rfl rfl ?_; intro _; refine w ?_))
  ((first | refine VO.split rfl rfl rfl ?_ ?_ | refine VD.split rfl rfl rfl ?_ ?_) <;> intro hb)
  · have he : k.err = 0 := by simpa using hb
    (refine w ?_; repeat ((first | refine VO.step rfl rfl ?_ | refine VD.end rfl rfl rfl ?_ | refine VD.mid rfl rfl rfl ?_); refine OpV.box rfl rfl rfl ?_; intro _; refine w ?_))
    (((first | refine VO.step rfl rfl ?_ | refine VD.end rfl rfl rfl ?_ | refine VD.mid rfl rfl rfl ?_); refine OpV.call rfl rfl (fun _ _ => by simp) (rleft_ok p k) (ReaderR.shut hk) rfl ?_); intro _ _)
    refine VO.obtain (fun w => ReaderR.open) ?_
    rintro ⟨⟨ao, cap⟩, -⟩
    (refine w ?_; repeat ((first | refine VO.step rfl rfl ?_ | refine VD.end rfl rfl rfl ?_ | refine VD.mid rfl rfl rfl ?_); refine OpV.box rfl rfl rfl ?_; intro _; refine w ?_))
    (refine VC.cond rfl rfl ?_ ?_ <;> intro hc)
    · have hlt : k.at_ < k.b.length := by simp at hc; omega
      (refine w ?_; repeat ((first | refine VO.step rfl rfl ?_ | refine VD.end rfl rfl rfl ?_ | refine VD.mid rfl rfl rfl ?_); refine OpV.box rfl rfl rfl ?_; intro _; refine w ?_))
      ((refine VC.quiet rfl (by kernel_rfl) (by kernel_rfl) ?_); (refine w ?_; repeat ((first | refine VO.step rfl rfl ?_ | refine VD.end rfl rfl rfl ?_ | refine VD.mid rfl rfl rfl ?_); refine OpV.box rfl rfl rfl ?_; intro _; refine w ?_)))
      rw [if_pos ⟨he, hlt⟩]
      (refine VE.done1 rfl rfl ?_)
      exact ReaderR.shut hk
    · have hlt : ¬ k.at_ < k.b.length := by simp at hc; omega
      (refine w ?_; repeat ((first | refine VO.step rfl rfl ?_ | refine VD.end rfl rfl rfl ?_ | refine VD.mid rfl rfl rfl ?_); refine OpV.box rfl rfl rfl ?_; intro _; refine w ?_))
      ((refine VC.quiet rfl (by kernel_rfl) (by kernel_rfl) ?_); (refine w ?_; repeat ((first | refine VO.step rfl rfl ?_ | refine VD.end rfl rfl rfl ?_ | refine VD.mid rfl rfl rfl ?_); refine OpV.box rfl rfl rfl ?_; intro _; refine w ?_)))
      rw [if_neg (fun h => hlt h.2)]
      (refine VE.done1 rfl rfl ?_)
      exact ReaderR.shut hk
  · have he : ¬ k.err = 0 := by simpa using hb
    (refine w ?_; repeat ((first | refine VO.step rfl rfl ?_ | refine VD.end rfl rfl rfl ?_ | refine VD.mid rfl rfl rfl ?_); refine OpV.box rfl rfl rfl ?_; intro _; refine w ?_))
    ((refine VC.quiet rfl (by kernel_rfl) (by kernel_rfl) ?_); (refine w ?_; repeat ((first | refine VO.step rfl rfl ?_ | refine VD.end rfl rfl rfl ?_ | refine VD.mid rfl rfl rfl ?_); refine OpV.box rfl rfl rfl ?_; intro _; refine w ?_)))
    rw [if_neg (fun h => he h.1)]
    (refine VE.done1 rfl rfl ?_)
    exact ReaderR.shut hk

def Rk.noughts (k : Rk) (n : Int) : Rk :=
  if n ≤ 0 then k else if (k.short n.toNat).err ≠ 0 then k.short n.toNat else
  if 0 ≤ firstOdd (k.got n.toNat) then { k with err := 12, wh := k.at_ + firstOdd (k.got n.toNat) } else { k with at_ := k.at_ + n.toNat }

/-- The law's call of a reader. -/
def Rk.reads (k : Rk) (o : OpD) : Rk :=
  if o.kind = 1 then k.number 1 else if o.kind = 2 then k.number 2 else if o.kind = 3 then k.number 4 else if o.kind = 4 then k.number 8 else
  if o.kind = 5 then k.raw o.n else if o.kind = 6 then k.noughts o.n else k
end Go.Proofs.YtpmmkmcbimnigaaGreat

