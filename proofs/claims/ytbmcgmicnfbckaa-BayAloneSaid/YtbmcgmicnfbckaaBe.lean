/- Package bay: Cut, New. -/
import Derived.Test.YtbmcgmicnfbckaaBd
set_option maxRecDepth 8000
set_option linter.unusedVariables false
set_option linter.unusedSimpArgs false
set_option linter.unusedSectionVars false
namespace Go.Proofs.Ytbmcgmicnfbckaa
open Go.RowKit Go.Sl
attribute [local irreducible] Own

/-! ### What is kept of each slot's disk -/
structure KeepD where
  ao : Option Addr
  cap : Nat
  l : List Bool
abbrev KeepD.hdr (x : KeepD) : Value := .slice x.ao x.l.length x.cap
/-- The slice of what is kept: its headers can be read, and what they lead to lay there before. -/
structure Keeps (W : World) (R : List SProp) (ao : Option Addr) (kl : List KeepD) : Prop where
  rds : Rds W R 1 ao kl.length (kl.map KeepD.hdr)
  wf : ∀ x ∈ kl, RdsA W 1 x.ao x.l.length (bools x.l)
theorem Keeps.ent {W : World} {H R : List SProp} {ao : Option Addr} {kl : List KeepD} (h : Keeps W R ao kl) (e : Ent W H R) : Keeps W H ao kl := ⟨h.rds.ent e, h.wf⟩

def SlotD.cut (s : SlotD) (l : List Bool) : SlotD :=
  if s.coming.isSome then ⟨s.coming, s.aside, none⟩ else ⟨s.in_.map fun v => ⟨v.k.settle (keepOf l), v.worn, v.left⟩, s.aside, none⟩
def BayD.cut (D : BayD) (kl : List (List Bool)) : BayD := { D with slots := D.slots.mapIdx fun i s => s.cut (kl.getD i []), dark := false, trip := -1 }

theorem cut_step (sl : List SlotD) (kl : List (List Bool)) (i : Nat) (h : i < sl.length) : (sl.mapIdx fun j s => s.cut (kl.getD j [])).take (i + 1) = (sl.mapIdx fun j s => s.cut (kl.getD j [])).take i ++ [sl[i].cut (kl.getD i [])] := by
  rw [List.take_succ_eq_append_getElem (by simpa using h)]
  simp

theorem bayInR {W : World} {b n : Nat} {D : BayD} {a : Addr} {l1 l2 : List SlotP} {R : List SProp} (s' : SlotP) (hn : (l1 ++ s' :: l2).length = n) :
    Ent W (devRes s'.in_ :: devRes s'.aside :: devRes s'.coming :: bayRow b D a n :: Own 74 3 (.slice (some a) n n) n ((l1 ++ s' :: l2).flatMap slotCells) :: ((l1 ++ l2).map slotRes ++ R))
      (bayRow b D a n :: Own 74 3 (.slice (some a) n n) n ((l1 ++ s' :: l2).flatMap slotCells) :: ((l1 ++ s' :: l2).map slotRes ++ R)) := by
  subst hn
  exact bayIn
set_option maxHeartbeats 1000000 in
theorem baycut_ok {W : World} {R : List SProp} {ao : Option Addr} {cap : Nat} {kl : List KeepD} (b : Nat) (D : BayD) (hk : Keeps W R ao kl) :
    Does1 W Try.prog 21 [.pointer (some ⟨b, 0, none⟩), .slice ao kl.length cap] (BayR b D :: R) (.tuple #[]) (BayR b (D.cut (kl.map KeepD.l)) :: R) := by
  (refine Does.enter Try.func21 Try.ntmps21 rfl rfl ?_)
  refine VC.obtain (fun w => BayR.open) ?_
  rintro ⟨⟨a, sp⟩, h1, h2⟩
  dsimp only at h1 h2 ⊢
  have hl : D.slots.length = sp.length := by rw [h1, List.length_map]
  (refine w ?_; repeat ((first | refine VO.step rfl rfl ?_ | refine VD.end rfl rfl rfl ?_ | refine VD.mid rfl rfl rfl ?_); refine OpV.box rfl rfl rfl ?_; intro _; refine w ?_))
  refine VC.loop (α := List SlotP) (fun dn => dn.length ≤ sp.length ∧ dn.map SlotP.D = (D.cut (kl.map KeepD.l)).slots.take dn.length)
    (fun dn => bayRow b D a sp.length :: Own 74 3 (.slice (some a) sp.length sp.length) sp.length ((dn ++ sp.drop dn.length).flatMap slotCells) :: ((dn ++ sp.drop dn.length).map slotRes ++ R))
    (fun dn => [(0, .pointer (some ⟨b, 0, none⟩)), (1, .slice ao kl.length cap), (11, .int .i64 sp.length), (12, .int .i64 dn.length)]) (fun dn => sp.length - dn.length) rfl [] ⟨Nat.zero_le _, rfl⟩ (by simp only [List.length_nil, List.drop_zero, List.nil_append]; exact Ent.re) ⟨rfl, rfl, rfl, rfl, trivial⟩ ?_
  rintro dn ⟨hdn, hdD⟩
  (refine w ?_; repeat ((first | refine VO.step rfl rfl ?_ | refine VD.end rfl rfl rfl ?_ | refine VD.mid rfl rfl rfl ?_); refine OpV.box rfl rfl rfl ?_; intro _; refine w ?_))
  (refine VC.cond rfl rfl ?_ ?_ <;> intro hc)
  · have hlt : dn.length < sp.length := by have := of_decide_eq_true hc; omega
    have hsp := List.drop_eq_getElem_cons hlt
    rw [hsp]
    generalize hs : sp[dn.length] = s at *
    generalize hl2 : sp.drop (dn.length + 1) = l2 at *
    have hn : (dn ++ s :: l2).length = sp.length := by rw [← hl2]; simp; omega
    have hsD : D.slots[dn.length]'(by omega) = s.D := by simp only [h1, List.getElem_map, hs]
    rw [← hn]
    have c0 := slots_get (dn ++ s :: l2) dn.length 0 (by simp) (by decide)
    have c2 := slots_get (dn ++ s :: l2) dn.length 2 (by simp) (by decide)
    simp only [List.getElem_append_right (Nat.le_refl _), Nat.sub_self, List.getElem_cons_zero] at c0 c2
    (refine w ?_; repeat ((first | refine VO.step rfl rfl ?_ | refine VD.end rfl rfl rfl ?_ | refine VD.mid rfl rfl rfl ?_); refine OpV.box rfl rfl rfl ?_; intro _; refine w ?_))
    refine VO.ent (bayOut (D := D)) ?_
    (refine w ?_; repeat ((first | refine VO.step rfl rfl ?_ | refine VD.end rfl rfl rfl ?_ | refine VD.mid rfl rfl rfl ?_); refine OpV.box rfl rfl rfl ?_; intro _; refine w ?_))
    (first | refine VO.pure rfl rfl (.ldRc tab_ok rfl rfl (slots_rds (by (focus repeat first | exact .head _ | apply List.Mem.tail))) (c0.trans rfl)) rfl ?_ | refine VD.take rfl rfl rfl (.ldRc tab_ok rfl rfl (slots_rds (by (focus repeat first | exact .head _ | apply List.Mem.tail))) (c0.trans rfl)) rfl ?_ | refine VQ.pure rfl rfl (.ldRc tab_ok rfl rfl (slots_rds (by (focus repeat first | exact .head _ | apply List.Mem.tail))) (c0.trans rfl)) rfl ?_ | refine VD.end rfl rfl rfl (OpV.pure (.ldRc tab_ok rfl rfl (slots_rds (by (focus repeat first | exact .head _ | apply List.Mem.tail))) (c0.trans rfl)) rfl ?_))
    (refine w ?_; repeat ((first | refine VO.step rfl rfl ?_ | refine VD.end rfl rfl rfl ?_ | refine VD.mid rfl rfl rfl ?_); refine OpV.box rfl rfl rfl ?_; intro _; refine w ?_))
    (refine VC.join (α := Option DevP) (fun x => devPtr x = devPtr s.in_ ∧ x.map DevP.v = s.D.in_.map fun v => ⟨v.k.settle (keepOf ((kl.map KeepD.l).getD dn.length [])), v.worn, v.left⟩) (fun x => devRes x :: BayX b D a dn s l2 R) (fun _ => [(0, .pointer (some ⟨b, 0, none⟩)), (1, .slice ao kl.length cap), (5, .pointer (some (a.add (dn.length * 3)))), (11, .int .i64 (dn ++ s :: l2).length), (12, .int .i64 dn.length)]) ?_ ?_)
    · intro Q2 jn
      cases hi : s.in_ with
      | none =>
        dsimp only [devPtr, Option.map_none, Option.isNone_none, Bool.not_true]
        (refine w ?_; repeat ((first | refine VO.step rfl rfl ?_ | refine VD.end rfl rfl rfl ?_ | refine VD.mid rfl rfl rfl ?_); refine OpV.box rfl rfl rfl ?_; intro _; refine w ?_))
        refine jn.to none ⟨by rw [hi], by rw [show s.D.in_ = s.in_.map DevP.v from rfl, hi]; rfl⟩ ⟨rfl, rfl, rfl, rfl, rfl, trivial⟩ Ent.refl
      | some p =>
        dsimp only [devPtr, Option.map_some, Option.isNone_some, Bool.not_false]
        (refine w ?_; repeat ((first | refine VO.step rfl rfl ?_ | refine VD.end rfl rfl rfl ?_ | refine VD.mid rfl rfl rfl ?_); refine OpV.box rfl rfl rfl ?_; intro _; refine w ?_))
        (refine VC.join (α := KeepD) (fun x => x.l = (kl.map KeepD.l).getD dn.length [] ∧ RdsA W 1 x.ao x.l.length (bools x.l)) (fun _ => devRes (some p) :: BayX b D a dn s l2 R) (fun x => [(0, .pointer (some ⟨b, 0, none⟩)), (1, .slice ao kl.length cap), (5, .pointer (some (a.add (dn.length * 3)))), (6, x.hdr), (11, .int .i64 (dn ++ s :: l2).length), (12, .int .i64 dn.length)]) ?_ ?_)
        · intro Q3 jn3
          (refine VC.cond rfl rfl ?_ ?_ <;> intro hc)
          · have hlk : dn.length < kl.length := by have := of_decide_eq_true hc; omega
            have hk2 := hk.ent (Ent.dropAll (W := W) (R := R) (devRes (some p) :: devRes s.aside :: devRes s.coming :: bayRow b D a (dn ++ s :: l2).length :: slotsOwn a (dn ++ s :: l2) :: (dn ++ l2).map slotRes))
            obtain ⟨ka, rfl⟩ : ∃ ka, ao = some ka := by cases ao with | none => have := hk.rds.nil rfl; omega | some ka => exact ⟨ka, rfl⟩
            (refine w ?_; repeat ((first | refine VO.step rfl rfl ?_ | refine VD.end rfl rfl rfl ?_ | refine VD.mid rfl rfl rfl ?_); refine OpV.box rfl rfl rfl ?_; intro _; refine w ?_))
            (first | refine VO.pure rfl rfl (.ldRc tab_ok rfl rfl hk2.rds (show (kl.map KeepD.hdr)[dn.length]? = some (kl[dn.length].hdr) by rw [List.getElem?_map, List.getElem?_eq_getElem hlk]; rfl)) rfl ?_ | refine VD.take rfl rfl rfl (.ldRc tab_ok rfl rfl hk2.rds (show (kl.map KeepD.hdr)[dn.length]? = some (kl[dn.length].hdr) by rw [List.getElem?_map, List.getElem?_eq_getElem hlk]; rfl)) rfl ?_ | refine VQ.pure rfl rfl (.ldRc tab_ok rfl rfl hk2.rds (show (kl.map KeepD.hdr)[dn.length]? = some (kl[dn.length].hdr) by rw [List.getElem?_map, List.getElem?_eq_getElem hlk]; rfl)) rfl ?_ | refine VD.end rfl rfl rfl (OpV.pure (.ldRc tab_ok rfl rfl hk2.rds (show (kl.map KeepD.hdr)[dn.length]? = some (kl[dn.length].hdr) by rw [List.getElem?_map, List.getElem?_eq_getElem hlk]; rfl)) rfl ?_))
            (refine w ?_; repeat ((first | refine VO.step rfl rfl ?_ | refine VD.end rfl rfl rfl ?_ | refine VD.mid rfl rfl rfl ?_); refine OpV.box rfl rfl rfl ?_; intro _; refine w ?_))
            refine jn3.to kl[dn.length] ⟨by simp [List.getD, hlk], hk.wf _ (List.getElem_mem hlk)⟩ ⟨rfl, rfl, rfl, rfl, rfl, rfl, trivial⟩ Ent.refl
          · have hlk : ¬ dn.length < kl.length := by have := of_decide_eq_false hc; omega
            (refine w ?_; repeat ((first | refine VO.step rfl rfl ?_ | refine VD.end rfl rfl rfl ?_ | refine VD.mid rfl rfl rfl ?_); refine OpV.box rfl rfl rfl ?_; intro _; refine w ?_))
            refine jn3.to ⟨none, 0, []⟩ ⟨by simp [List.getD, hlk], fun H => nilBools⟩ ⟨rfl, rfl, rfl, rfl, rfl, rfl, trivial⟩ Ent.refl
        · rintro x ⟨hx, hxr⟩
          (refine w ?_; repeat ((first | refine VO.step rfl rfl ?_ | refine VD.end rfl rfl rfl ?_ | refine VD.mid rfl rfl rfl ?_); refine OpV.box rfl rfl rfl ?_; intro _; refine w ?_))
          (first | refine VO.pure rfl rfl (.ldRc tab_ok rfl rfl (slots_rds (by (focus repeat first | exact .head _ | apply List.Mem.tail))) (c0.trans (by simp [slotCells, devPtr, hi]; rfl))) rfl ?_ | refine VD.take rfl rfl rfl (.ldRc tab_ok rfl rfl (slots_rds (by (focus repeat first | exact .head _ | apply List.Mem.tail))) (c0.trans (by simp [slotCells, devPtr, hi]; rfl))) rfl ?_ | refine VQ.pure rfl rfl (.ldRc tab_ok rfl rfl (slots_rds (by (focus repeat first | exact .head _ | apply List.Mem.tail))) (c0.trans (by simp [slotCells, devPtr, hi]; rfl))) rfl ?_ | refine VD.end rfl rfl rfl (OpV.pure (.ldRc tab_ok rfl rfl (slots_rds (by (focus repeat first | exact .head _ | apply List.Mem.tail))) (c0.trans (by simp [slotCells, devPtr, hi]; rfl))) rfl ?_))
          refine VO.ent (devOut p _) ?_
          (refine w ?_; repeat ((first | refine VO.step rfl rfl ?_ | refine VD.end rfl rfl rfl ?_ | refine VD.mid rfl rfl rfl ?_); refine OpV.box rfl rfl rfl ?_; intro _; refine w ?_))
          (((first | refine VO.step rfl rfl ?_ | refine VD.end rfl rfl rfl ?_ | refine VD.mid rfl rfl rfl ?_); refine OpV.call rfl rfl (fun _ _ => by simp) (crash_ok (l := x.l) p.d p.v.k (hxr _)) Ent.re rfl ?_); intro _ _)
          (refine w ?_; repeat ((first | refine VO.step rfl rfl ?_ | refine VD.end rfl rfl rfl ?_ | refine VD.mid rfl rfl rfl ?_); refine OpV.box rfl rfl rfl ?_; intro _; refine w ?_))
          refine jn.to (some ⟨p.r, p.d, ⟨p.v.k.settle (keepOf x.l), p.v.worn, p.v.left⟩⟩) ⟨by rw [hi]; rfl, ?_⟩ ⟨rfl, rfl, rfl, rfl, rfl, trivial⟩ ?_
          · rw [show s.D.in_ = s.in_.map DevP.v from rfl, hi, ← hx]; rfl
          · exact Ent.trans Ent.re (devIn ⟨p.r, p.d, ⟨p.v.k.settle (keepOf x.l), p.v.worn, p.v.left⟩⟩ _)
    · rintro x ⟨hx1, hx2⟩
      (refine w ?_; repeat ((first | refine VO.step rfl rfl ?_ | refine VD.end rfl rfl rfl ?_ | refine VD.mid rfl rfl rfl ?_); refine OpV.box rfl rfl rfl ?_; intro _; refine w ?_))
      (first | refine VO.pure rfl rfl (.ldRc tab_ok rfl rfl (slots_rds (by (focus repeat first | exact .head _ | apply List.Mem.tail))) (c2.trans rfl)) rfl ?_ | refine VD.take rfl rfl rfl (.ldRc tab_ok rfl rfl (slots_rds (by (focus repeat first | exact .head _ | apply List.Mem.tail))) (c2.trans rfl)) rfl ?_ | refine VQ.pure rfl rfl (.ldRc tab_ok rfl rfl (slots_rds (by (focus repeat first | exact .head _ | apply List.Mem.tail))) (c2.trans rfl)) rfl ?_ | refine VD.end rfl rfl rfl (OpV.pure (.ldRc tab_ok rfl rfl (slots_rds (by (focus repeat first | exact .head _ | apply List.Mem.tail))) (c2.trans rfl)) rfl ?_))
      (refine w ?_; repeat ((first | refine VO.step rfl rfl ?_ | refine VD.end rfl rfl rfl ?_ | refine VD.mid rfl rfl rfl ?_); refine OpV.box rfl rfl rfl ?_; intro _; refine w ?_))
      have hcut : ∀ s' : SlotP, s'.D = s.D.cut ((kl.map KeepD.l).getD dn.length []) → (dn ++ [s']).map SlotP.D = (D.cut (kl.map KeepD.l)).slots.take (dn ++ [s']).length := by
        intro s' hs'
        rw [List.length_append, List.length_singleton, List.map_append, hdD]
        unfold BayD.cut
        rw [cut_step _ _ _ (by omega), hsD, ← hs']; rfl
      have hdr : ∀ s' : SlotP, dn ++ [s'] ++ sp.drop (dn ++ [s']).length = dn ++ s' :: l2 := by intro s'; rw [List.length_append, List.length_singleton, hl2]; simp
      cases hco : s.coming with
      | none =>
        dsimp only [devPtr, Option.map_none, Option.isNone_none, Bool.not_true]
        (refine w ?_; repeat ((first | refine VO.step rfl rfl ?_ | refine VD.end rfl rfl rfl ?_ | refine VD.mid rfl rfl rfl ?_); refine OpV.box rfl rfl rfl ?_; intro _; refine w ?_))
        have e1 : slotCells s = slotCells ⟨x, s.aside, none⟩ := by unfold slotCells; rw [hx1, hco]
        refine VE.round (dn ++ [⟨x, s.aside, none⟩]) ⟨by rw [List.length_append, List.length_singleton]; omega, hcut _ ?_⟩ (by rw [hn, List.length_append, List.length_singleton]; omega) ⟨rfl, rfl, rfl, asV rfl (by simp), trivial⟩ ?_
        · unfold SlotD.cut
          rw [show s.D.coming = s.coming.map DevP.v from rfl, hco, if_neg (by simp), ← hx2]; rfl
        · rw [hdr]
          have e2 : (dn ++ s :: l2).flatMap slotCells = (dn ++ ⟨x, s.aside, none⟩ :: l2).flatMap slotCells := by simp only [List.flatMap_append, List.flatMap_cons, e1]
          simp only [BayX, slotsOwn]
          rw [e2, hco]
          exact bayInR ⟨x, s.aside, none⟩ (by simp)
      | some q =>
        dsimp only [devPtr, Option.map_some, Option.isNone_some, Bool.not_false]
        (refine w ?_; repeat ((first | refine VO.step rfl rfl ?_ | refine VD.end rfl rfl rfl ?_ | refine VD.mid rfl rfl rfl ?_); refine OpV.box rfl rfl rfl ?_; intro _; refine w ?_))
        (first | refine VO.pure rfl rfl (.ldRc tab_ok rfl rfl (slots_rds (by (focus repeat first | exact .head _ | apply List.Mem.tail))) (c2.trans (by simp [slotCells, devPtr, hco]; rfl))) rfl ?_ | refine VD.take rfl rfl rfl (.ldRc tab_ok rfl rfl (slots_rds (by (focus repeat first | exact .head _ | apply List.Mem.tail))) (c2.trans (by simp [slotCells, devPtr, hco]; rfl))) rfl ?_ | refine VQ.pure rfl rfl (.ldRc tab_ok rfl rfl (slots_rds (by (focus repeat first | exact .head _ | apply List.Mem.tail))) (c2.trans (by simp [slotCells, devPtr, hco]; rfl))) rfl ?_ | refine VD.end rfl rfl rfl (OpV.pure (.ldRc tab_ok rfl rfl (slots_rds (by (focus repeat first | exact .head _ | apply List.Mem.tail))) (c2.trans (by simp [slotCells, devPtr, hco]; rfl))) rfl ?_))
        (refine w ?_; repeat ((first | refine VO.step rfl rfl ?_ | refine VD.end rfl rfl rfl ?_ | refine VD.mid rfl rfl rfl ?_); refine OpV.box rfl rfl rfl ?_; intro _; refine w ?_))
        (first | refine VO.step rfl rfl ?_ | refine VD.end rfl rfl rfl ?_ | refine VD.mid rfl rfl rfl ?_)
        refine OpV.stO2 tab_ok rfl rfl rfl rfl (by (repeat first | exact .head | apply Hole.tail)) (slots_len 0 (by decide)) (slots_in (some q)) ?_
        (refine w ?_; repeat ((first | refine VO.step rfl rfl ?_ | refine VD.end rfl rfl rfl ?_ | refine VD.mid rfl rfl rfl ?_); refine OpV.box rfl rfl rfl ?_; intro _; refine w ?_))
        (first | refine VO.step rfl rfl ?_ | refine VD.end rfl rfl rfl ?_ | refine VD.mid rfl rfl rfl ?_)
        refine OpV.stO2 tab_ok rfl rfl rfl rfl (by (repeat first | exact .head | apply Hole.tail)) (by rw [← slots_in (s := s) (some q), List.length_set]; exact slots_len 2 (by decide)) (slots_coming none) ?_
        (refine w ?_; repeat ((first | refine VO.step rfl rfl ?_ | refine VD.end rfl rfl rfl ?_ | refine VD.mid rfl rfl rfl ?_); refine OpV.box rfl rfl rfl ?_; intro _; refine w ?_))
        refine VE.round (dn ++ [⟨some q, s.aside, none⟩]) ⟨by rw [List.length_append, List.length_singleton]; omega, hcut _ ?_⟩ (by rw [hn, List.length_append, List.length_singleton]; omega) ⟨rfl, rfl, rfl, asV rfl (by simp), trivial⟩ ?_
        · unfold SlotD.cut
          rw [show s.D.coming = s.coming.map DevP.v from rfl, hco, if_pos (by simp)]; rfl
        · rw [hdr]
          refine Ent.trans (devDrop x _) ?_
          rw [hco]
          refine Ent.trans (Ent.re (L := devRes (some q) :: devRes s.aside :: bayRow b D a (dn ++ s :: l2).length :: Own 74 3 (.slice (some a) (dn ++ s :: l2).length (dn ++ s :: l2).length) (dn ++ s :: l2).length ((dn ++ ⟨some q, s.aside, none⟩ :: l2).flatMap slotCells) :: ((dn ++ l2).map slotRes ++ R))) ?_
          refine Ent.trans (devNone _) ?_
          refine Ent.trans (Ent.re (L := devRes (some q) :: devRes s.aside :: devRes none :: bayRow b D a (dn ++ s :: l2).length :: Own 74 3 (.slice (some a) (dn ++ s :: l2).length (dn ++ s :: l2).length) (dn ++ s :: l2).length ((dn ++ ⟨some q, s.aside, none⟩ :: l2).flatMap slotCells) :: ((dn ++ l2).map slotRes ++ R))) ?_
          exact bayInR ⟨some q, s.aside, none⟩ (by simp)
  · (refine w ?_; repeat ((first | refine VO.step rfl rfl ?_ | refine VD.end rfl rfl rfl ?_ | refine VD.mid rfl rfl rfl ?_); refine OpV.box rfl rfl rfl ?_; intro _; refine w ?_))
    have hge : dn.length = sp.length := by have := of_decide_eq_false hc; omega
    (refine VE.done1N rfl ?_ ?_)
    · rfl
    · rw [List.drop_eq_nil_of_le (by omega), List.append_nil, ← hge]
      rw [hge, List.take_of_length_le (by unfold BayD.cut; simp [hl])] at hdD
      exact BayR.shut (D := D.cut (kl.map KeepD.l)) hdD.symm (by omega)
end Go.Proofs.Ytbmcgmicnfbckaa
