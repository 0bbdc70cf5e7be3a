/- The statements of the bay: BayAlone. -/
import Derived.Test.YtbmcgmicnfbckaaBu
set_option maxRecDepth 8000
set_option linter.unusedVariables false
set_option linter.unusedSimpArgs false
set_option linter.unusedSectionVars false
namespace Go.Proofs.Ytbmcgmicnfbckaa
open Go.RowKit Go.Sl
attribute [local irreducible] Own

/-! ### Disks by themselves -/
structure LoneP where
  d : Nat
  k : DiskD
abbrev lonePtr (x : Option LoneP) : Value := .pointer (x.map fun p => ⟨p.d, 0, none⟩)
def loneRes : Option LoneP → SProp
  | none => fact True
  | some p => DiskR p.d p.k
def loneSlot (x : Option LoneP) : SlotD := ⟨x.map fun p => ⟨p.k, false, 0⟩, none, none⟩
theorem lonePtr_one (l : List (Option LoneP)) : ∀ u ∈ l.map lonePtr, u.oneCell' = true := by
  intro u hu; obtain ⟨c, _, rfl⟩ := List.mem_map.1 hu; rfl
theorem loneOut {W : World} (l1 l2 : List (Option LoneP)) (p : LoneP) (R : List SProp) : Ent W ((l1 ++ some p :: l2).map loneRes ++ R) (DiskR p.d p.k :: ((l1 ++ l2).map loneRes ++ R)) := fun w hw => hw.perm (by
  simp only [List.map_append, List.map_cons, List.append_assoc, List.cons_append]
  exact List.perm_middle)
theorem loneIn {W : World} (l1 l2 : List (Option LoneP)) (p : LoneP) (R : List SProp) : Ent W (DiskR p.d p.k :: ((l1 ++ l2).map loneRes ++ R)) ((l1 ++ some p :: l2).map loneRes ++ R) := fun w hw => hw.perm (by
  simp only [List.map_append, List.map_cons, List.append_assoc, List.cons_append]
  exact List.perm_middle.symm)
theorem loneOut4 {W w : World} {A B C D : SProp} {R : List SProp} (l1 l2 : List (Option LoneP)) (p : LoneP) (hw : Holds W ([A, B, C, D] ++ ((l1 ++ some p :: l2).map loneRes ++ R)) w) : Holds W (DiskR p.d p.k :: A :: B :: C :: D :: ((l1 ++ l2).map loneRes ++ R)) w := by
  refine hw.perm ?_
  simp only [List.map_append, List.map_cons, List.append_assoc, List.cons_append, List.nil_append]
  have := List.perm_middle (a := loneRes (some p)) (l₁ := A :: B :: C :: D :: l1.map loneRes) (l₂ := l2.map loneRes ++ R)
  simp only [List.cons_append] at this
  exact this
theorem loneIn4 {W w : World} {A B C D : SProp} {R : List SProp} (l1 l2 : List (Option LoneP)) (p : LoneP) (hw : Holds W (DiskR p.d p.k :: A :: B :: C :: D :: ((l1 ++ l2).map loneRes ++ R)) w) : Holds W (A :: B :: C :: D :: ((l1 ++ some p :: l2).map loneRes ++ R)) w := by
  refine hw.perm ?_
  simp only [List.map_append, List.map_cons, List.append_assoc, List.cons_append, List.nil_append]
  have := (List.perm_middle (a := loneRes (some p)) (l₁ := A :: B :: C :: D :: l1.map loneRes) (l₂ := l2.map loneRes ++ R)).symm
  simp only [List.cons_append] at this
  exact this
theorem loneIn2 {W : World} {A B : SProp} {R : List SProp} (l1 l2 : List (Option LoneP)) (p : LoneP) : Ent W (DiskR p.d p.k :: A :: B :: ((l1 ++ l2).map loneRes ++ R)) (A :: B :: ((l1 ++ some p :: l2).map loneRes ++ R)) := fun w hw => by
  refine hw.perm ?_
  simp only [List.map_append, List.map_cons, List.append_assoc, List.cons_append, List.nil_append]
  have := (List.perm_middle (a := loneRes (some p)) (l₁ := A :: B :: l1.map loneRes) (l₂ := l2.map loneRes ++ R)).symm
  simp only [List.cons_append] at this
  exact this
theorem devOp_1 (k : DiskD) (n : Int) (b : List UInt8) : devOp k 1 n b = (k.rd n, k) := rfl
theorem devOp_2 (k : DiskD) (n : Int) (b : List UInt8) : devOp k 2 n b = (([], (k.wr n b).1), (k.wr n b).2) := rfl
theorem devOp_3 (k : DiskD) (n : Int) (b : List UInt8) : devOp k 3 n b = (([], k.fl.1), k.fl.2) := rfl
theorem loneAdd {W : World} {A B : SProp} (ds : List (Option LoneP)) (x : Option LoneP) (R : List SProp) : Ent W (loneRes x :: A :: B :: (ds.map loneRes ++ R)) (A :: B :: ((ds ++ [x]).map loneRes ++ R)) := fun w hw => by
  refine hw.perm ?_
  have p1 : (A :: B :: ((ds ++ [x]).map loneRes ++ R)).Perm (A :: B :: loneRes x :: (ds.map loneRes ++ R)) := by
    refine List.Perm.cons _ (List.Perm.cons _ ?_)
    rw [List.map_append, List.append_assoc]
    exact List.perm_middle
  refine List.Perm.trans ?_ p1.symm
  exact List.Perm.append_right (ds.map loneRes ++ R) (show [loneRes x, A, B].Perm [A, B, loneRes x] from List.perm_append_comm (l₁ := [loneRes x]) (l₂ := [A, B]))
theorem lone_split {ds : List (Option LoneP)} {i : Nat} {p : LoneP} (h : i < ds.length) (hp : ds[i] = some p) : ∃ l1 l2, ds = l1 ++ some p :: l2 ∧ i = l1.length := by
  refine ⟨ds.take i, ds.drop (i + 1), ?_, by rw [List.length_take, Nat.min_eq_left (by omega)]⟩
  rw [← hp, ← List.drop_eq_getElem_cons h, List.take_append_drop]

/-- An operation with a disk that is not worn. -/
theorem plain_dev {D : BayD} {k : Nat} {v : DevD} (hk : k < D.slots.length) (hd : D.dark = false) (hm : D.trip = -1) (hv : D.dev (k : Int) = some v) (hw : v.worn = false) (kind n : Int) (b : List UInt8) :
    D.plain kind k n b = ((devOp v.k kind n b).1, (BayD.setIn { D with n := D.n.inc (opJ kind) } k ⟨(devOp v.k kind n b).2, false, v.left⟩)) := by
  have hr : inRange D.slots.length (k : Int) = true := by unfold inRange; simp; omega
  have hm0 : D.trip ≠ 0 := by omega
  have h1 : D.refuse k = 0 := by rw [refuse_quiet hr hd hm0, hv]; unfold thereE; rw [hr]; rfl
  have h2 : ∀ j, D.ahead k j = { D with n := D.n.inc j } := fun j => by rw [ahead_quiet hr hd hm0, step_still hm]
  have h3 : D.dv k = v := by unfold BayD.dv; rw [hv]; exact use_calm hw
  unfold BayD.plain BayD.read BayD.write BayD.flush devOp opJ
  simp only [h1, h2, h3, hw, if_true, Int.toNat_natCast]
  split
  · rw [show v = ⟨v.k, false, v.left⟩ by rw [← hw]]
  · split <;> rfl
theorem lone_dev {D : BayD} {ds : List (Option LoneP)} (h : D.slots = ds.map loneSlot) {i : Nat} (hi : i < ds.length) : D.dev (i : Int) = (ds[i]).map fun p => ⟨p.k, false, 0⟩ := by
  unfold BayD.dev
  rw [if_pos (by omega), Int.toNat_natCast, h, List.getElem?_map, List.getElem?_eq_getElem hi]
  rfl
theorem lone_setIn {D : BayD} {l1 l2 : List (Option LoneP)} {p : LoneP} (h : D.slots = (l1 ++ some p :: l2).map loneSlot) (k' : DiskD) : (D.setIn l1.length ⟨k', false, 0⟩).slots = (l1 ++ some ⟨p.d, k'⟩ :: l2).map loneSlot := by
  unfold BayD.setIn
  simp only [h, List.map_append, List.map_cons]
  rw [List.set_append_right _ _ (by simp), List.getElem?_append_right (by simp)]
  simp [loneSlot]
theorem lone_cut {D : BayD} {ds : List (Option LoneP)} (h : D.slots = ds.map loneSlot) (kl : List (List Bool)) {i : Nat} (hi : i < ds.length) : (D.cut kl).dev (i : Int) = (ds[i]).map fun p => ⟨p.k.settle (keepOf (kl.getD i [])), false, 0⟩ := by
  unfold BayD.dev BayD.cut
  rw [if_pos (by omega), Int.toNat_natCast]
  dsimp only
  rw [h, List.getElem?_mapIdx, List.getElem?_map, List.getElem?_eq_getElem hi]
  simp only [Option.map_some, Option.bind_some]
  unfold SlotD.cut loneSlot
  rw [if_neg (by simp)]
  cases ds[i] <;> rfl

set_option maxHeartbeats 16000000 in
theorem balone_ok {W : World} {so ao ko : Option Addr} {scap cap kcap : Nat} {l : List Int} {lb : List BopD} {kl : List KeepD} (hs : RdsA W 1 so l.length (intsI l)) (hsl : l.length ≤ 140737488351232) (hb0 : ∀ R, BScr W R ao lb) (hlb : lb.length ≤ 140737488351232)
    (hk : ∀ R, Keeps W R ko kl) (hkl : ∀ x ∈ kl, x.l.length ≤ 140737488351232) (hkn : kl.length ≤ 140737488351232) :
    Does1 W Try.prog 5 [.slice so l.length scap, .slice ao lb.length cap, .slice ko kl.length kcap] [] (.bool true) [] := by
  (refine Does.enter Try.func5 Try.ntmps5 rfl rfl ?_)
  (refine w ?_; repeat ((first | refine VO.step rfl rfl ?_ | refine VD.end rfl rfl rfl ?_ | refine VD.mid rfl rfl rfl ?_); refine OpV.box rfl rfl rfl ?_; intro _; refine w ?_))
  ((first | refine VO.step rfl rfl ?_ | refine VD.end rfl rfl rfl ?_ | refine VD.mid rfl rfl rfl ?_); refine OpV.call rfl rfl (fun _ _ => by simp) (bmuch_ok (hb0 _) hsl hlb) Ent.re rfl ?_)
  intro mb hmb
  (refine w ?_; repeat ((first | refine VO.step rfl rfl ?_ | refine VD.end rfl rfl rfl ?_ | refine VD.mid rfl rfl rfl ?_); refine OpV.box rfl rfl rfl ?_; intro _; refine w ?_))
  ((first | refine VO.split rfl rfl rfl ?_ ?_ | refine VD.split rfl rfl rfl ?_ ?_) <;> intro hb)
  · (refine w ?_; repeat ((first | refine VO.step rfl rfl ?_ | refine VD.end rfl rfl rfl ?_ | refine VD.mid rfl rfl rfl ?_); refine OpV.box rfl rfl rfl ?_; intro _; refine w ?_))
    (refine VE.done1 rfl ?_ ?_)
    · rfl
    · exact Ent.refl
  obtain ⟨hm1, hm2⟩ := hmb hb
  (refine w ?_; repeat ((first | refine VO.step rfl rfl ?_ | refine VD.end rfl rfl rfl ?_ | refine VD.mid rfl rfl rfl ?_); refine OpV.box rfl rfl rfl ?_; intro _; refine w ?_))
  (apply VO.pure rfl rfl; apply PureAt.build sb_35 rfl; (simp [buildX, setL, Value.cells]; rfl); rfl)
  (first | refine VO.step rfl rfl ?_ | refine VD.end rfl rfl rfl ?_ | refine VD.mid rfl rfl rfl ?_)
  refine OpV.buildSlice (vs := [.agg (kop ko kcap kl).cells.toArray]) (cs := (kop ko kcap kl).cells) st_22 rfl rfl (by simp [Value.cells]) (by simp [Value.cells]) (by decide) rfl ?_
  intro nb
  ((first | refine VO.step rfl rfl ?_ | refine VD.end rfl rfl rfl ?_ | refine VD.mid rfl rfl rfl ?_); refine OpV.call rfl rfl (fun _ _ => by simp) (bmuch_ok (l := [kop ko kcap kl]) (n := l.length) (kop_scr (kop_wf hk hkl hkn)) hsl (by simp)) Ent.refl rfl ?_)
  intro mb2 _
  (refine w ?_; repeat ((first | refine VO.step rfl rfl ?_ | refine VD.end rfl rfl rfl ?_ | refine VD.mid rfl rfl rfl ?_); refine OpV.box rfl rfl rfl ?_; intro _; refine w ?_))
  (refine VC.cond rfl rfl ?_ ?_ <;> intro hc)
  · (refine w ?_; repeat ((first | refine VO.step rfl rfl ?_ | refine VD.end rfl rfl rfl ?_ | refine VD.mid rfl rfl rfl ?_); refine OpV.box rfl rfl rfl ?_; intro _; refine w ?_))
    (refine VE.done1 rfl ?_ ?_)
    · rfl
    · exact Reord.ent .nil
  (refine w ?_; repeat ((first | refine VO.step rfl rfl ?_ | refine VD.end rfl rfl rfl ?_ | refine VD.mid rfl rfl rfl ?_); refine OpV.box rfl rfl rfl ?_; intro _; refine w ?_))
  refine VO.ent (Reord.ent (L := []) .nil) ?_
  ((first | refine VO.step rfl rfl ?_ | refine VD.end rfl rfl rfl ?_ | refine VD.mid rfl rfl rfl ?_); refine OpV.call rfl rfl (fun _ _ => by simp) (baynew_ok (hs _) (by omega)) Ent.refl rfl ?_)
  intro x hx
  by_cases hE : bayE l = 0
  · rw [hE] at hx ⊢
    obtain ⟨h1, h17, hsz⟩ := all_sizes hE
    obtain ⟨sa, rfl⟩ : ∃ sa, so = some sa := by cases so with | none => have := (hs []).nil rfl; omega | some sa => exact ⟨sa, rfl⟩
    obtain ⟨a, rfl⟩ : ∃ a, x = some a := by cases x with | none => cases hx | some a => exact ⟨a, rfl⟩
    dsimp only [Option.elim_some]
    (refine w ?_; repeat ((first | refine VO.step rfl rfl ?_ | refine VD.end rfl rfl rfl ?_ | refine VD.mid rfl rfl rfl ?_); refine OpV.box rfl rfl rfl ?_; intro _; refine w ?_))
    ((first | refine VO.step rfl rfl ?_ | refine VD.end rfl rfl rfl ?_ | refine VD.mid rfl rfl rfl ?_); refine OpV.call rfl rfl (fun _ _ => by simp) (bknown_ok) Ent.refl rfl ?_; intro _ _)
    (refine w ?_; repeat ((first | refine VO.step rfl rfl ?_ | refine VD.end rfl rfl rfl ?_ | refine VD.mid rfl rfl rfl ?_); refine OpV.box rfl rfl rfl ?_; intro _; refine w ?_))
    refine VC.loop (α := List (Option LoneP) × Option Addr × Nat) (fun g => g.1.length ≤ l.length ∧ g.1.map loneSlot = (l.take g.1.length).map slotOf)
      (fun g => Own 50 1 (.slice g.2.1 g.1.length g.2.2) g.1.length (g.1.map lonePtr) :: BayR a (BayD.new l) :: (g.1.map loneRes ++ []))
      (fun g => [(0, .slice (some sa) l.length scap), (1, .slice ao lb.length cap), (2, .slice ko kl.length kcap), (7, .pointer (some ⟨a, 0, none⟩)), (9, .slice g.2.1 g.1.length g.2.2), (10, .int .i64 g.1.length)]) (fun g => l.length - g.1.length) rfl
      ([], none, 0) ⟨Nat.zero_le _, rfl⟩ (by simp only [List.length_nil, List.map_nil, List.nil_append]; exact fun w hw => hw.ownNil 50 1) ⟨rfl, rfl, rfl, rfl, rfl, rfl, trivial⟩ ?_
    rintro ⟨ds, po, pc⟩ ⟨hdl, hdm⟩
    dsimp only at hdl hdm ⊢
    (refine w ?_; repeat ((first | refine VO.step rfl rfl ?_ | refine VD.end rfl rfl rfl ?_ | refine VD.mid rfl rfl rfl ?_); refine OpV.box rfl rfl rfl ?_; intro _; refine w ?_))
    (refine VC.cond rfl rfl ?_ ?_ <;> intro hc)
    · have hlt : ds.length < l.length := by have := of_decide_eq_true hc; omega
      have hni := hsz l[ds.length] (List.getElem_mem hlt)
      (refine w ?_; repeat ((first | refine VO.step rfl rfl ?_ | refine VD.end rfl rfl rfl ?_ | refine VD.mid rfl rfl rfl ?_); refine OpV.box rfl rfl rfl ?_; intro _; refine w ?_))
      (first | refine VO.pure rfl rfl (.ldRc tab_ok rfl rfl (hs _) (intsI_get l ds.length hlt)) rfl ?_ | refine VD.take rfl rfl rfl (.ldRc tab_ok rfl rfl (hs _) (intsI_get l ds.length hlt)) rfl ?_ | refine VQ.pure rfl rfl (.ldRc tab_ok rfl rfl (hs _) (intsI_get l ds.length hlt)) rfl ?_ | refine VD.end rfl rfl rfl (OpV.pure (.ldRc tab_ok rfl rfl (hs _) (intsI_get l ds.length hlt)) rfl ?_))
      (refine w ?_; repeat ((first | refine VO.step rfl rfl ?_ | refine VD.end rfl rfl rfl ?_ | refine VD.mid rfl rfl rfl ?_); refine OpV.box rfl rfl rfl ?_; intro _; refine w ?_))
      have hstep : ∀ x : Option LoneP, loneSlot x = slotOf l[ds.length] → (ds ++ [x]).map loneSlot = (l.take (ds ++ [x]).length).map slotOf := fun x hx => by
        rw [List.length_append, List.length_singleton, List.take_succ_eq_append_getElem hlt, List.map_append, List.map_append, hdm]; simp [hx]
      by_cases h0 : l[ds.length] = 0
      · (((first | refine VO.step rfl rfl ?_ | refine VD.end rfl rfl rfl ?_ | refine VD.mid rfl rfl rfl ?_); refine OpV.call rfl rfl (fun _ _ => by simp) (disknew_bad l[ds.length] (by omega)) Ent.re rfl ?_); intro _ _)
        (refine w ?_; repeat ((first | refine VO.step rfl rfl ?_ | refine VD.end rfl rfl rfl ?_ | refine VD.mid rfl rfl rfl ?_); refine OpV.box rfl rfl rfl ?_; intro _; refine w ?_))
        ((first | refine VO.step rfl rfl ?_ | refine VD.end rfl rfl rfl ?_ | refine VD.mid rfl rfl rfl ?_); refine OpV.buildSlice1 st_49 rfl rfl (by first | (simp; done) | simp [Value.oneCell']) (by decide) rfl ?_; intro nb)
        (refine w ?_; repeat ((first | refine VO.step rfl rfl ?_ | refine VD.end rfl rfl rfl ?_ | refine VD.mid rfl rfl rfl ?_); refine OpV.box rfl rfl rfl ?_; intro _; refine w ?_))
        ((first | refine VO.step rfl rfl ?_ | refine VD.end rfl rfl rfl ?_ | refine VD.mid rfl rfl rfl ?_); refine OpV.appendRow st_49 rfl rfl (by (repeat first | exact .head | apply Hole.tail)) (by (focus repeat first | exact .head _ | apply List.Mem.tail)) rfl (by first | (simp; done) | simp [Value.oneCell']) ?_ ?_ rfl ?_)
        · simp only [maxLen]; omega
        · omega
        intro po' pc'
        (refine w ?_; repeat ((first | refine VO.step rfl rfl ?_ | refine VD.end rfl rfl rfl ?_ | refine VD.mid rfl rfl rfl ?_); refine OpV.box rfl rfl rfl ?_; intro _; refine w ?_))
        refine VE.round (ds ++ [none], po', pc') ⟨by dsimp only; rw [List.length_append, List.length_singleton]; omega, hstep none (by rw [h0]; rfl)⟩ (by dsimp only; rw [List.length_append, List.length_singleton]; omega) ⟨rfl, rfl, rfl, rfl, asV rfl (by simp), asV rfl (by simp), trivial⟩ ?_
        refine Ent.trans (Ent.re (L := Own 50 1 (.slice po' (ds.length + 1) pc') (ds.length + 1) (ds.map lonePtr ++ [lonePtr none]) :: BayR a (BayD.new l) :: (ds.map loneRes ++ []))) ?_
        rw [show ((ds ++ [none], po', pc') : List (Option LoneP) × Option Addr × Nat).1 = ds ++ [none] from rfl, List.length_append, List.length_singleton, List.map_append, List.map_singleton]
        refine Ent.trans (fun w hw => hw.factShut trivial) (loneAdd ds none [])
      · obtain ⟨m, hm⟩ := Int.eq_ofNat_of_zero_le hni.1
        rw [hm]
        ((first | refine VO.step rfl rfl ?_ | refine VD.end rfl rfl rfl ?_ | refine VD.mid rfl rfl rfl ?_); refine OpV.call rfl rfl (fun _ _ => by simp) (disknew_ok m (by omega) (by omega)) Ent.re rfl ?_)
        intro d _
        (refine w ?_; repeat ((first | refine VO.step rfl rfl ?_ | refine VD.end rfl rfl rfl ?_ | refine VD.mid rfl rfl rfl ?_); refine OpV.box rfl rfl rfl ?_; intro _; refine w ?_))
        ((first | refine VO.step rfl rfl ?_ | refine VD.end rfl rfl rfl ?_ | refine VD.mid rfl rfl rfl ?_); refine OpV.buildSlice1 st_49 rfl rfl (by first | (simp; done) | simp [Value.oneCell']) (by decide) rfl ?_; intro nb)
        (refine w ?_; repeat ((first | refine VO.step rfl rfl ?_ | refine VD.end rfl rfl rfl ?_ | refine VD.mid rfl rfl rfl ?_); refine OpV.box rfl rfl rfl ?_; intro _; refine w ?_))
        ((first | refine VO.step rfl rfl ?_ | refine VD.end rfl rfl rfl ?_ | refine VD.mid rfl rfl rfl ?_); refine OpV.appendRow st_49 rfl rfl (by (repeat first | exact .head | apply Hole.tail)) (by (focus repeat first | exact .head _ | apply List.Mem.tail)) rfl (by first | (simp; done) | simp [Value.oneCell']) ?_ ?_ rfl ?_)
        · simp only [maxLen]; omega
        · omega
        intro po' pc'
        (refine w ?_; repeat ((first | refine VO.step rfl rfl ?_ | refine VD.end rfl rfl rfl ?_ | refine VD.mid rfl rfl rfl ?_); refine OpV.box rfl rfl rfl ?_; intro _; refine w ?_))
        refine VE.round (ds ++ [some ⟨d, .blank m⟩], po', pc') ⟨by dsimp only; rw [List.length_append, List.length_singleton]; omega, hstep _ (by rw [hm]; unfold slotOf; rw [if_neg (by omega)]; rfl)⟩ (by dsimp only; rw [List.length_append, List.length_singleton]; omega) ⟨rfl, rfl, rfl, rfl, asV rfl (by simp), asV rfl (by simp), trivial⟩ ?_
        refine Ent.trans (Ent.re (L := loneRes (some ⟨d, .blank m⟩) :: Own 50 1 (.slice po' (ds.length + 1) pc') (ds.length + 1) (ds.map lonePtr ++ [lonePtr (some ⟨d, .blank m⟩)]) :: BayR a (BayD.new l) :: (ds.map loneRes ++ []))) ?_
        rw [show ((ds ++ [some ⟨d, .blank m⟩], po', pc') : List (Option LoneP) × Option Addr × Nat).1 = ds ++ [some ⟨d, .blank m⟩] from rfl, List.length_append, List.length_singleton, List.map_append, List.map_singleton]
        exact loneAdd ds (some ⟨d, .blank m⟩) []
    · have hge : ds.length = l.length := by have := of_decide_eq_false hc; omega
      rw [hge, List.take_of_length_le (Nat.le_refl _)] at hdm
      (refine w ?_; repeat ((first | refine VO.step rfl rfl ?_ | refine VD.end rfl rfl rfl ?_ | refine VD.mid rfl rfl rfl ?_); refine OpV.box rfl rfl rfl ?_; intro _; refine w ?_))
      refine VC.know (fun w hw => hw.ownNone (show Own 50 1 (.slice po ds.length pc) ds.length (ds.map lonePtr) ∈ _ by (focus repeat first | exact .head _ | apply List.Mem.tail)) : ∀ w, _ → (po = none → ds.length = 0)) ?_
      intro hpn
      obtain ⟨pa, rfl⟩ : ∃ pa, po = some pa := by cases po with | none => have := hpn rfl; omega | some pa => exact ⟨pa, rfl⟩
      have hcap0 : ∀ p ∈ ds, ∀ q, p = some q → q.k.cache.length ≤ 0 := by
        intro p hp q hq
        have hmem : loneSlot p ∈ (BayD.new l).slots := by show _ ∈ l.map slotOf; rw [← hdm]; exact List.mem_map_of_mem hp
        exact new_capd l _ hmem ⟨q.k, false, 0⟩ (.inl (by rw [hq]; rfl))
      refine VC.loop (α := Nat × BayD × List (Option LoneP)) (fun g => g.1 ≤ lb.length ∧ g.2.1.dark = false ∧ g.2.1.trip = -1 ∧ g.2.1.slots = g.2.2.map loneSlot ∧ g.2.2.map lonePtr = ds.map lonePtr ∧ ∀ p ∈ g.2.2, ∀ q, p = some q → q.k.cache.length ≤ g.1)
        (fun g => Own 50 1 (.slice (some pa) ds.length pc) ds.length (ds.map lonePtr) :: BayR a g.2.1 :: (g.2.2.map loneRes ++ []))
        (fun g => [(1, .slice ao lb.length cap), (2, .slice ko kl.length kcap), (7, .pointer (some ⟨a, 0, none⟩)), (9, .slice (some pa) ds.length pc), (13, .int .i64 g.1)]) (fun g => lb.length - g.1) rfl
        (0, BayD.new l, ds) ⟨Nat.zero_le _, rfl, rfl, hdm.symm, rfl, hcap0⟩ Ent.refl ⟨rfl, rfl, rfl, rfl, rfl, trivial⟩ ?_
      rintro ⟨i, A, es⟩ ⟨hi, hd, ht, hA, hptr, hcp⟩
      dsimp only at hi hd ht hA hptr hcp ⊢
      have hel : es.length = ds.length := by have := congrArg List.length hptr; simpa using this
      (refine w ?_; repeat ((first | refine VO.step rfl rfl ?_ | refine VD.end rfl rfl rfl ?_ | refine VD.mid rfl rfl rfl ?_); refine OpV.box rfl rfl rfl ?_; intro _; refine w ?_))
      (refine VC.cond rfl rfl ?_ ?_ <;> intro hc)
      · have hlt : i < lb.length := by have := of_decide_eq_true hc; omega
        obtain ⟨oa, rfl⟩ : ∃ oa, ao = some oa := by cases ao with | none => have := (hb0 []).rds.nil rfl; omega | some oa => exact ⟨oa, rfl⟩
        have hw := (hb0 []).wf lb[i] (List.getElem_mem hlt)
        (refine w ?_; repeat ((first | refine VO.step rfl rfl ?_ | refine VD.end rfl rfl rfl ?_ | refine VD.mid rfl rfl rfl ?_); refine OpV.box rfl rfl rfl ?_; intro _; refine w ?_))
        (first | refine VO.pure rfl rfl (.ldRA tab_ok rfl rfl (hb0 _).rds (flat_part lb i hlt (fun _ _ => rfl)) rfl) rfl ?_ | refine VD.take rfl rfl rfl (.ldRA tab_ok rfl rfl (hb0 _).rds (flat_part lb i hlt (fun _ _ => rfl)) rfl) rfl ?_ | refine VQ.pure rfl rfl (.ldRA tab_ok rfl rfl (hb0 _).rds (flat_part lb i hlt (fun _ _ => rfl)) rfl) rfl ?_ | refine VD.end rfl rfl rfl (OpV.pure (.ldRA tab_ok rfl rfl (hb0 _).rds (flat_part lb i hlt (fun _ _ => rfl)) rfl) rfl ?_))
        (refine w ?_; repeat ((first | refine VO.step rfl rfl ?_ | refine VD.end rfl rfl rfl ?_ | refine VD.mid rfl rfl rfl ?_); refine OpV.box rfl rfl rfl ?_; intro _; refine w ?_))
        ((first | refine VO.step rfl rfl ?_ | refine VD.end rfl rfl rfl ?_ | refine VD.mid rfl rfl rfl ?_); refine OpV.allocS sb_35 rfl ?_; intro na)
        (refine w ?_; repeat ((first | refine VO.step rfl rfl ?_ | refine VD.end rfl rfl rfl ?_ | refine VD.mid rfl rfl rfl ?_); refine OpV.box rfl rfl rfl ?_; intro _; refine w ?_))
        (first | refine VO.step rfl rfl ?_ | refine VD.end rfl rfl rfl ?_ | refine VD.mid rfl rfl rfl ?_)
        refine OpV.stA (vs := lb[i].cells) tab_ok rfl rfl rfl rfl (bop_one _) (by (repeat first | exact .head | apply Hole.tail)) (by simp) ?_
        generalize ho : lb[i] = o at *
        clear ho
        obtain ⟨kind, slot, nn, bao, bcap, bb, bko, bkcap, bks⟩ := o
        refine VO.ent (Reord.ent (L := Row na 35 (BopD.cells ⟨kind, slot, nn, bao, bcap, bb, bko, bkcap, bks⟩) :: Own 50 1 (.slice (some pa) ds.length pc) ds.length (ds.map lonePtr) :: BayR a A :: (es.map loneRes ++ [])) (by (repeat first | exact .refl | (apply Reord.cons; focus repeat first | exact .head | apply Del.tail) | exact .nil | apply Reord.drop))) ?_
        have hcp2 : ∀ p ∈ es, ∀ q, p = some q → q.k.cache.length ≤ i + 1 := fun p hp q hq => Nat.le_succ_of_le (hcp p hp q hq)
        (refine w ?_; repeat ((first | refine VO.step rfl rfl ?_ | refine VD.end rfl rfl rfl ?_ | refine VD.mid rfl rfl rfl ?_); refine OpV.box rfl rfl rfl ?_; intro _; refine w ?_))
        ((first | refine VO.split rfl rfl rfl ?_ ?_ | refine VD.split rfl rfl rfl ?_ ?_) <;> intro hb)
        · (refine w ?_; repeat ((first | refine VO.step rfl rfl ?_ | refine VD.end rfl rfl rfl ?_ | refine VD.mid rfl rfl rfl ?_); refine OpV.box rfl rfl rfl ?_; intro _; refine w ?_))
          refine VE.round (i + 1, A, es) ⟨hlt, hd, ht, hA, hptr, hcp2⟩ (by dsimp only; omega) ⟨rfl, rfl, rfl, rfl, asV rfl (by congr 1), trivial⟩ Ent.re
        have hk1 : ¬ kind < 1 := of_decide_eq_false hb
        (refine w ?_; repeat ((first | refine VO.step rfl rfl ?_ | refine VD.end rfl rfl rfl ?_ | refine VD.mid rfl rfl rfl ?_); refine OpV.box rfl rfl rfl ?_; intro _; refine w ?_))
        ((first | refine VO.split rfl rfl rfl ?_ ?_ | refine VD.split rfl rfl rfl ?_ ?_) <;> intro hb)
        · (refine w ?_; repeat ((first | refine VO.step rfl rfl ?_ | refine VD.end rfl rfl rfl ?_ | refine VD.mid rfl rfl rfl ?_); refine OpV.box rfl rfl rfl ?_; intro _; refine w ?_))
          refine VE.round (i + 1, A, es) ⟨hlt, hd, ht, hA, hptr, hcp2⟩ (by dsimp only; omega) ⟨rfl, rfl, rfl, rfl, asV rfl (by congr 1), trivial⟩ Ent.re
        have hk3 : ¬ 3 < kind := of_decide_eq_false hb
        (refine w ?_; repeat ((first | refine VO.step rfl rfl ?_ | refine VD.end rfl rfl rfl ?_ | refine VD.mid rfl rfl rfl ?_); refine OpV.box rfl rfl rfl ?_; intro _; refine w ?_))
        ((first | refine VO.split rfl rfl rfl ?_ ?_ | refine VD.split rfl rfl rfl ?_ ?_) <;> intro hb)
        · (refine w ?_; repeat ((first | refine VO.step rfl rfl ?_ | refine VD.end rfl rfl rfl ?_ | refine VD.mid rfl rfl rfl ?_); refine OpV.box rfl rfl rfl ?_; intro _; refine w ?_))
          refine VE.round (i + 1, A, es) ⟨hlt, hd, ht, hA, hptr, hcp2⟩ (by dsimp only; omega) ⟨rfl, rfl, rfl, rfl, asV rfl (by congr 1), trivial⟩ Ent.re
        have hs0 : ¬ slot < 0 := of_decide_eq_false hb
        (refine w ?_; repeat ((first | refine VO.step rfl rfl ?_ | refine VD.end rfl rfl rfl ?_ | refine VD.mid rfl rfl rfl ?_); refine OpV.box rfl rfl rfl ?_; intro _; refine w ?_))
        ((first | refine VO.split rfl rfl rfl ?_ ?_ | refine VD.split rfl rfl rfl ?_ ?_) <;> intro hb)
        · (refine w ?_; repeat ((first | refine VO.step rfl rfl ?_ | refine VD.end rfl rfl rfl ?_ | refine VD.mid rfl rfl rfl ?_); refine OpV.box rfl rfl rfl ?_; intro _; refine w ?_))
          refine VE.round (i + 1, A, es) ⟨hlt, hd, ht, hA, hptr, hcp2⟩ (by dsimp only; omega) ⟨rfl, rfl, rfl, rfl, asV rfl (by congr 1), trivial⟩ Ent.re
        have hs1 : slot < (ds.length : Int) := by have : ¬ (ds.length : Int) ≤ slot := (by simpa using hb); omega
        obtain ⟨s, rfl⟩ := Int.eq_ofNat_of_zero_le (show 0 ≤ slot by omega)
        have hsl : s < ds.length := by omega
        have hse : s < es.length := by omega
        have hpg : (ds.map lonePtr)[s]? = some (lonePtr es[s]) := by rw [← hptr, List.getElem?_map, List.getElem?_eq_getElem hse]; rfl
        have hpr : ∀ {H : List SProp}, Own 50 1 (.slice (some pa) ds.length pc) ds.length (ds.map lonePtr) ∈ H → Rds W H 1 (some pa) ds.length (ds.map lonePtr) := fun hm => Rds.own (lonePtr_one ds) hm (by simp) (fun h => by cases h)
        have hdev := lone_dev hA hse
        (refine w ?_; repeat ((first | refine VO.step rfl rfl ?_ | refine VD.end rfl rfl rfl ?_ | refine VD.mid rfl rfl rfl ?_); refine OpV.box rfl rfl rfl ?_; intro _; refine w ?_))
        (first | refine VO.pure rfl rfl (.ldRc tab_ok rfl rfl (hpr (by (focus repeat first | exact .head _ | apply List.Mem.tail))) hpg) rfl ?_ | refine VD.take rfl rfl rfl (.ldRc tab_ok rfl rfl (hpr (by (focus repeat first | exact .head _ | apply List.Mem.tail))) hpg) rfl ?_ | refine VQ.pure rfl rfl (.ldRc tab_ok rfl rfl (hpr (by (focus repeat first | exact .head _ | apply List.Mem.tail))) hpg) rfl ?_ | refine VD.end rfl rfl rfl (OpV.pure (.ldRc tab_ok rfl rfl (hpr (by (focus repeat first | exact .head _ | apply List.Mem.tail))) hpg) rfl ?_))
        cases hes : es[s] with
        | none =>
          dsimp only [lonePtr, Option.map_none]
          (refine w ?_; repeat ((first | refine VO.step rfl rfl ?_ | refine VD.end rfl rfl rfl ?_ | refine VD.mid rfl rfl rfl ?_); refine OpV.box rfl rfl rfl ?_; intro _; refine w ?_))
          refine VE.round (i + 1, A, es) ⟨hlt, hd, ht, hA, hptr, hcp2⟩ (by dsimp only; omega) ⟨rfl, rfl, rfl, rfl, asV rfl (by congr 1), trivial⟩ Ent.re
        | some p =>
          dsimp only [lonePtr, Option.map_some]
          rw [hes] at hpg hdev
          have hpc : p.k.cache.length ≤ i := hcp _ (List.getElem_mem hse) p hes
          obtain ⟨l1, l2, rfl, rfl⟩ := lone_split hse hes
          have hAl : l1.length < A.slots.length := by rw [hA, List.length_map]; exact hse
          have epl := plain_dev hAl hd ht hdev rfl kind nn bb
          dsimp only at epl
          obtain ⟨s1, s2, -, -⟩ := plain_still (D := A) (k := (l1.length : Int)) (by unfold inRange; simp; omega) hd ht kind nn bb
          rw [epl] at s1 s2
          have hA2 := lone_setIn (D := { A with n := A.n.inc (opJ kind) }) (p := p) hA (devOp p.k kind nn bb).2
          have hptr2 : (l1 ++ some ⟨p.d, (devOp p.k kind nn bb).2⟩ :: l2).map lonePtr = ds.map lonePtr := by rw [← hptr]; simp
          have hcp3 : ∀ q ∈ l1 ++ some ⟨p.d, (devOp p.k kind nn bb).2⟩ :: l2, ∀ r, q = some r → r.k.cache.length ≤ i + 1 := by
            intro q hq r hr
            rcases List.mem_append.1 hq with h | h
            · exact hcp2 q (List.mem_append_left _ h) r hr
            · rcases List.mem_cons.1 h with h | h
              · subst h; cases hr; exact devOp_cap hpc _ _ _
              · exact hcp2 q (List.mem_append_right _ (.tail _ h)) r hr
          (refine w ?_; repeat ((first | refine VO.step rfl rfl ?_ | refine VD.end rfl rfl rfl ?_ | refine VD.mid rfl rfl rfl ?_); refine OpV.box rfl rfl rfl ?_; intro _; refine w ?_))
          ((first | refine VO.step rfl rfl ?_ | refine VD.end rfl rfl rfl ?_ | refine VD.mid rfl rfl rfl ?_); refine OpV.call rfl rfl (fun _ _ => by simp) (plain_ok a A ⟨kind, l1.length, nn, bao, bcap, bb, bko, bkcap, bks⟩ hw (by show (A.dv (l1.length : Int)).k.cache.length ≤ _; unfold BayD.dv; rw [hdev]; show (DevD.use ⟨p.k, false, 0⟩).k.cache.length ≤ _; rw [use_calm rfl]; dsimp only; omega)) Ent.re rfl ?_)
          intro x hx
          dsimp only at hx ⊢
          rw [epl] at hx ⊢
          dsimp only at hx ⊢
          generalize hA' : BayD.setIn { A with n := A.n.inc (opJ kind) } l1.length ⟨(devOp p.k kind nn bb).2, false, 0⟩ = A' at *
          refine VO.ent (Reord.ent (L := [OwnB x (devOp p.k kind nn bb).1.1, BayR a A', Row na 35 (BopD.cells ⟨kind, l1.length, nn, bao, bcap, bb, bko, bkcap, bks⟩), Own 50 1 (.slice (some pa) ds.length pc) ds.length (ds.map lonePtr)] ++ ((l1 ++ some p :: l2).map loneRes ++ [])) (by dsimp only [List.cons_append, List.nil_append]; (repeat first | exact .refl | (apply Reord.cons; focus repeat first | exact .head | apply Del.tail) | exact .nil | apply Reord.drop))) ?_
          have hctx : Ent W ([OwnB x (devOp p.k kind nn bb).1.1, BayR a A', Row na 35 (BopD.cells ⟨kind, l1.length, nn, bao, bcap, bb, bko, bkcap, bks⟩), Own 50 1 (.slice (some pa) ds.length pc) ds.length (ds.map lonePtr)] ++ ((l1 ++ some p :: l2).map loneRes ++ [])) (DiskR p.d p.k :: OwnB x (devOp p.k kind nn bb).1.1 :: BayR a A' :: Row na 35 (BopD.cells ⟨kind, l1.length, nn, bao, bcap, bb, bko, bkcap, bks⟩) :: Own 50 1 (.slice (some pa) ds.length pc) ds.length (ds.map lonePtr) :: ((l1 ++ l2).map loneRes ++ [])) := fun w hw => (loneOut4 l1 l2 p hw)
          refine VO.ent hctx ?_
          clear hctx
          (refine w ?_; repeat ((first | refine VO.step rfl rfl ?_ | refine VD.end rfl rfl rfl ?_ | refine VD.mid rfl rfl rfl ?_); refine OpV.box rfl rfl rfl ?_; intro _; refine w ?_))
          refine VC.know (fun w hw => hw.ownMax (show OwnB x (devOp p.k kind nn bb).1.1 ∈ _ by (focus repeat first | exact .head _ | apply List.Mem.tail)) : ∀ w, _ → (devOp p.k kind nn bb).1.1.length ≤ maxLen) ?_
          intro hml
          (refine VC.cond rfl rfl ?_ ?_ <;> intro hc)
          · obtain rfl : kind = 1 := by simpa using hc
            rw [devOp_1] at hx hcp3 hptr2 hml hA2 ⊢
            dsimp only at hx hcp3 hptr2 hml hA2 ⊢
            (refine w ?_; repeat ((first | refine VO.step rfl rfl ?_ | refine VD.end rfl rfl rfl ?_ | refine VD.mid rfl rfl rfl ?_); refine OpV.box rfl rfl rfl ?_; intro _; refine w ?_))
            (refine VC.drawn [7] 12 [0, 1, 2, 3, 4, 5, 6, 7, 8, 9, 10, 11, 12] _ rfl (by kernel_rfl) (by kernel_rfl) Ent.re ?_)
            (refine w ?_; repeat ((first | refine VO.step rfl rfl ?_ | refine VD.end rfl rfl rfl ?_ | refine VD.mid rfl rfl rfl ?_); refine OpV.box rfl rfl rfl ?_; intro _; refine w ?_))
            (first | refine VO.pure rfl rfl (.ldRc tab_ok rfl rfl (hpr (by (focus repeat first | exact .head _ | apply List.Mem.tail))) hpg) rfl ?_ | refine VD.take rfl rfl rfl (.ldRc tab_ok rfl rfl (hpr (by (focus repeat first | exact .head _ | apply List.Mem.tail))) hpg) rfl ?_ | refine VQ.pure rfl rfl (.ldRc tab_ok rfl rfl (hpr (by (focus repeat first | exact .head _ | apply List.Mem.tail))) hpg) rfl ?_ | refine VD.end rfl rfl rfl (OpV.pure (.ldRc tab_ok rfl rfl (hpr (by (focus repeat first | exact .head _ | apply List.Mem.tail))) hpg) rfl ?_))
            (refine w ?_; repeat ((first | refine VO.step rfl rfl ?_ | refine VD.end rfl rfl rfl ?_ | refine VD.mid rfl rfl rfl ?_); refine OpV.box rfl rfl rfl ?_; intro _; refine w ?_))
            ((first | refine VO.step rfl rfl ?_ | refine VD.end rfl rfl rfl ?_ | refine VD.mid rfl rfl rfl ?_); refine OpV.call rfl rfl (fun _ _ => by simp) (drd_ok p.d p.k nn) Ent.re rfl ?_)
            intro y hy
            (refine w ?_; repeat ((first | refine VO.step rfl rfl ?_ | refine VD.end rfl rfl rfl ?_ | refine VD.mid rfl rfl rfl ?_); refine OpV.box rfl rfl rfl ?_; intro _; refine w ?_))
            (first | refine VO.gF rfl rfl rfl (by simp) ?_ | refine VD.gF rfl rfl rfl (by simp) ?_)
            (refine w ?_; repeat ((first | refine VO.step rfl rfl ?_ | refine VD.end rfl rfl rfl ?_ | refine VD.mid rfl rfl rfl ?_); refine OpV.box rfl rfl rfl ?_; intro _; refine w ?_))
            refine VO.ent (Reord.ent (L := OwnB x (p.k.rd nn).1 :: OwnB y (p.k.rd nn).1 :: DiskR p.d p.k :: BayR a A' :: Row na 35 (BopD.cells ⟨1, l1.length, nn, bao, bcap, bb, bko, bkcap, bks⟩) :: Own 50 1 (.slice (some pa) ds.length pc) ds.length (ds.map lonePtr) :: ((l1 ++ l2).map loneRes ++ [])) (by (repeat first | exact .refl | (apply Reord.cons; focus repeat first | exact .head | apply Del.tail) | exact .nil | apply Reord.drop))) ?_
            ((first | refine VO.step rfl rfl ?_ | refine VD.end rfl rfl rfl ?_ | refine VD.mid rfl rfl rfl ?_); refine OpV.call rfl rfl (fun _ _ => by simp) (same_any (a := (p.k.rd nn).1) (b := (p.k.rd nn).1) (Rds.own (bytes_one _) (.head _) (by simp) hx) (Rds.own (bytes_one _) (.tail _ (.head _)) (by simp) hy) hml) Ent.refl rfl ?_; intro _ _)
            (refine w ?_; repeat ((first | refine VO.step rfl rfl ?_ | refine VD.end rfl rfl rfl ?_ | refine VD.mid rfl rfl rfl ?_); refine OpV.box rfl rfl rfl ?_; intro _; refine w ?_))
            (refine VC.condFe rfl rfl (by simp) ?_)
            (refine w ?_; repeat ((first | refine VO.step rfl rfl ?_ | refine VD.end rfl rfl rfl ?_ | refine VD.mid rfl rfl rfl ?_); refine OpV.box rfl rfl rfl ?_; intro _; refine w ?_))
            refine VE.round (i + 1, A', l1 ++ some ⟨p.d, p.k⟩ :: l2) ⟨hlt, s1, s2, hA2, hptr2, hcp3⟩ (by dsimp only; omega) ⟨rfl, rfl, rfl, rfl, asV rfl (by congr 1), trivial⟩ ?_
            exact Ent.trans (Ent.re (L := DiskR p.d p.k :: Own 50 1 (.slice (some pa) ds.length pc) ds.length (ds.map lonePtr) :: BayR a A' :: ((l1 ++ l2).map loneRes ++ []))) (loneIn2 l1 l2 ⟨p.d, p.k⟩)
          have h1 : ¬ kind = 1 := by simpa using hc
          (refine w ?_; repeat ((first | refine VO.step rfl rfl ?_ | refine VD.end rfl rfl rfl ?_ | refine VD.mid rfl rfl rfl ?_); refine OpV.box rfl rfl rfl ?_; intro _; refine w ?_))
          (refine VC.cond rfl rfl ?_ ?_ <;> intro hc)
          · obtain rfl : kind = 2 := by simpa using hc
            rw [devOp_2] at hx hcp3 hptr2 hml hA2 ⊢
            dsimp only at hx hcp3 hptr2 hml hA2 ⊢
            (refine w ?_; repeat ((first | refine VO.step rfl rfl ?_ | refine VD.end rfl rfl rfl ?_ | refine VD.mid rfl rfl rfl ?_); refine OpV.box rfl rfl rfl ?_; intro _; refine w ?_))
            (refine VC.drawn [] 9 [0, 1, 2, 3, 4, 5, 6, 7, 8, 9, 10] _ rfl (by kernel_rfl) (by kernel_rfl) Ent.re ?_)
            (refine w ?_; repeat ((first | refine VO.step rfl rfl ?_ | refine VD.end rfl rfl rfl ?_ | refine VD.mid rfl rfl rfl ?_); refine OpV.box rfl rfl rfl ?_; intro _; refine w ?_))
            (first | refine VO.pure rfl rfl (.ldRc tab_ok rfl rfl (hpr (by (focus repeat first | exact .head _ | apply List.Mem.tail))) hpg) rfl ?_ | refine VD.take rfl rfl rfl (.ldRc tab_ok rfl rfl (hpr (by (focus repeat first | exact .head _ | apply List.Mem.tail))) hpg) rfl ?_ | refine VQ.pure rfl rfl (.ldRc tab_ok rfl rfl (hpr (by (focus repeat first | exact .head _ | apply List.Mem.tail))) hpg) rfl ?_ | refine VD.end rfl rfl rfl (OpV.pure (.ldRc tab_ok rfl rfl (hpr (by (focus repeat first | exact .head _ | apply List.Mem.tail))) hpg) rfl ?_))
            (refine w ?_; repeat ((first | refine VO.step rfl rfl ?_ | refine VD.end rfl rfl rfl ?_ | refine VD.mid rfl rfl rfl ?_); refine OpV.box rfl rfl rfl ?_; intro _; refine w ?_))
            (((first | refine VO.step rfl rfl ?_ | refine VD.end rfl rfl rfl ?_ | refine VD.mid rfl rfl rfl ?_); refine OpV.call rfl rfl (fun _ _ => by simp) (dwr_ok (b := bb) p.d p.k nn (by omega) (hw.b _)) Ent.re rfl ?_); intro _ _)
            (refine w ?_; repeat ((first | refine VO.step rfl rfl ?_ | refine VD.end rfl rfl rfl ?_ | refine VD.mid rfl rfl rfl ?_); refine OpV.box rfl rfl rfl ?_; intro _; refine w ?_))
            (first | refine VO.gF rfl rfl rfl (by simp) ?_ | refine VD.gF rfl rfl rfl (by simp) ?_)
            (refine w ?_; repeat ((first | refine VO.step rfl rfl ?_ | refine VD.end rfl rfl rfl ?_ | refine VD.mid rfl rfl rfl ?_); refine OpV.box rfl rfl rfl ?_; intro _; refine w ?_))
            refine VO.ent (Reord.ent (L := OwnB x [] :: DiskR p.d (p.k.wr nn bb).2 :: BayR a A' :: Row na 35 (BopD.cells ⟨2, l1.length, nn, bao, bcap, bb, bko, bkcap, bks⟩) :: Own 50 1 (.slice (some pa) ds.length pc) ds.length (ds.map lonePtr) :: ((l1 ++ l2).map loneRes ++ [])) (by (repeat first | exact .refl | (apply Reord.cons; focus repeat first | exact .head | apply Del.tail) | exact .nil | apply Reord.drop))) ?_
            ((first | refine VO.step rfl rfl ?_ | refine VD.end rfl rfl rfl ?_ | refine VD.mid rfl rfl rfl ?_); refine OpV.call rfl rfl (fun _ _ => by simp) (same_any (a := []) (b := []) (Rds.own (bytes_one _) (.head _) (by simp) hx) rdsNil2 (by decide)) Ent.refl rfl ?_; intro _ _)
            (refine w ?_; repeat ((first | refine VO.step rfl rfl ?_ | refine VD.end rfl rfl rfl ?_ | refine VD.mid rfl rfl rfl ?_); refine OpV.box rfl rfl rfl ?_; intro _; refine w ?_))
            refine VE.round (i + 1, A', l1 ++ some ⟨p.d, (p.k.wr nn bb).2⟩ :: l2) ⟨hlt, s1, s2, hA2, hptr2, hcp3⟩ (by dsimp only; omega) ⟨rfl, rfl, rfl, rfl, asV rfl (by congr 1), trivial⟩ ?_
            exact Ent.trans (Ent.re (L := DiskR p.d (p.k.wr nn bb).2 :: Own 50 1 (.slice (some pa) ds.length pc) ds.length (ds.map lonePtr) :: BayR a A' :: ((l1 ++ l2).map loneRes ++ []))) (loneIn2 l1 l2 ⟨p.d, (p.k.wr nn bb).2⟩)
          have h2 : ¬ kind = 2 := by simpa using hc
          (refine w ?_; repeat ((first | refine VO.step rfl rfl ?_ | refine VD.end rfl rfl rfl ?_ | refine VD.mid rfl rfl rfl ?_); refine OpV.box rfl rfl rfl ?_; intro _; refine w ?_))
          (refine VC.cond rfl rfl ?_ ?_ <;> intro hc)
          · obtain rfl : kind = 3 := by simpa using hc
            rw [devOp_3] at hx hcp3 hptr2 hml hA2 ⊢
            dsimp only at hx hcp3 hptr2 hml hA2 ⊢
            (refine w ?_; repeat ((first | refine VO.step rfl rfl ?_ | refine VD.end rfl rfl rfl ?_ | refine VD.mid rfl rfl rfl ?_); refine OpV.box rfl rfl rfl ?_; intro _; refine w ?_))
            (first | refine VO.pure rfl rfl (.ldRc tab_ok rfl rfl (hpr (by (focus repeat first | exact .head _ | apply List.Mem.tail))) hpg) rfl ?_ | refine VD.take rfl rfl rfl (.ldRc tab_ok rfl rfl (hpr (by (focus repeat first | exact .head _ | apply List.Mem.tail))) hpg) rfl ?_ | refine VQ.pure rfl rfl (.ldRc tab_ok rfl rfl (hpr (by (focus repeat first | exact .head _ | apply List.Mem.tail))) hpg) rfl ?_ | refine VD.end rfl rfl rfl (OpV.pure (.ldRc tab_ok rfl rfl (hpr (by (focus repeat first | exact .head _ | apply List.Mem.tail))) hpg) rfl ?_))
            (refine w ?_; repeat ((first | refine VO.step rfl rfl ?_ | refine VD.end rfl rfl rfl ?_ | refine VD.mid rfl rfl rfl ?_); refine OpV.box rfl rfl rfl ?_; intro _; refine w ?_))
            (((first | refine VO.step rfl rfl ?_ | refine VD.end rfl rfl rfl ?_ | refine VD.mid rfl rfl rfl ?_); refine OpV.call rfl rfl (fun _ _ => by simp) (dfl_ok p.d p.k) Ent.re rfl ?_); intro _ _)
            (refine w ?_; repeat ((first | refine VO.step rfl rfl ?_ | refine VD.end rfl rfl rfl ?_ | refine VD.mid rfl rfl rfl ?_); refine OpV.box rfl rfl rfl ?_; intro _; refine w ?_))
            (first | refine VO.gF rfl rfl rfl (by simp) ?_ | refine VD.gF rfl rfl rfl (by simp) ?_)
            (refine w ?_; repeat ((first | refine VO.step rfl rfl ?_ | refine VD.end rfl rfl rfl ?_ | refine VD.mid rfl rfl rfl ?_); refine OpV.box rfl rfl rfl ?_; intro _; refine w ?_))
            refine VO.ent (Reord.ent (L := OwnB x [] :: DiskR p.d p.k.fl.2 :: BayR a A' :: Row na 35 (BopD.cells ⟨3, l1.length, nn, bao, bcap, bb, bko, bkcap, bks⟩) :: Own 50 1 (.slice (some pa) ds.length pc) ds.length (ds.map lonePtr) :: ((l1 ++ l2).map loneRes ++ [])) (by (repeat first | exact .refl | (apply Reord.cons; focus repeat first | exact .head | apply Del.tail) | exact .nil | apply Reord.drop))) ?_
            ((first | refine VO.step rfl rfl ?_ | refine VD.end rfl rfl rfl ?_ | refine VD.mid rfl rfl rfl ?_); refine OpV.call rfl rfl (fun _ _ => by simp) (same_any (a := []) (b := []) (Rds.own (bytes_one _) (.head _) (by simp) hx) rdsNil2 (by decide)) Ent.refl rfl ?_; intro _ _)
            (refine w ?_; repeat ((first | refine VO.step rfl rfl ?_ | refine VD.end rfl rfl rfl ?_ | refine VD.mid rfl rfl rfl ?_); refine OpV.box rfl rfl rfl ?_; intro _; refine w ?_))
            refine VE.round (i + 1, A', l1 ++ some ⟨p.d, p.k.fl.2⟩ :: l2) ⟨hlt, s1, s2, hA2, hptr2, hcp3⟩ (by dsimp only; omega) ⟨rfl, rfl, rfl, rfl, asV rfl (by congr 1), trivial⟩ ?_
            exact Ent.trans (Ent.re (L := DiskR p.d p.k.fl.2 :: Own 50 1 (.slice (some pa) ds.length pc) ds.length (ds.map lonePtr) :: BayR a A' :: ((l1 ++ l2).map loneRes ++ []))) (loneIn2 l1 l2 ⟨p.d, p.k.fl.2⟩)
          · have h3 : ¬ kind = 3 := by simpa using hc
            omega
      · (refine w ?_; repeat ((first | refine VO.step rfl rfl ?_ | refine VD.end rfl rfl rfl ?_ | refine VD.mid rfl rfl rfl ?_); refine OpV.box rfl rfl rfl ?_; intro _; refine w ?_))
        (((first | refine VO.step rfl rfl ?_ | refine VD.end rfl rfl rfl ?_ | refine VD.mid rfl rfl rfl ?_); refine OpV.call rfl rfl (fun _ _ => by simp) (baycut_ok a A (hk _)) Ent.re rfl ?_); intro _ _)
        have hcut : ∀ j (hj : j < es.length), (A.cut (kl.map KeepD.l)).dev (j : Int) = (es[j]).map fun p => ⟨p.k.settle (keepOf ((kl.map KeepD.l).getD j [])), false, 0⟩ := fun j hj => lone_cut hA _ hj
        generalize A.cut (kl.map KeepD.l) = C at *
        (refine w ?_; repeat ((first | refine VO.step rfl rfl ?_ | refine VD.end rfl rfl rfl ?_ | refine VD.mid rfl rfl rfl ?_); refine OpV.box rfl rfl rfl ?_; intro _; refine w ?_))
        have hpr : ∀ {H : List SProp}, Own 50 1 (.slice (some pa) ds.length pc) ds.length (ds.map lonePtr) ∈ H → Rds W H 1 (some pa) ds.length (ds.map lonePtr) := fun hm => Rds.own (lonePtr_one ds) hm (by simp) (fun h => by cases h)
        refine VC.loop (α := Nat × List (Option LoneP)) (fun g => g.1 ≤ ds.length ∧ g.2.map lonePtr = ds.map lonePtr ∧ ∀ j, g.1 ≤ j → g.2[j]? = es[j]?)
          (fun g => Own 50 1 (.slice (some pa) ds.length pc) ds.length (ds.map lonePtr) :: BayR a C :: (g.2.map loneRes ++ []))
          (fun g => [(2, .slice ko kl.length kcap), (7, .pointer (some ⟨a, 0, none⟩)), (9, .slice (some pa) ds.length pc), (19, .int .i64 g.1)]) (fun g => ds.length - g.1) rfl
          (0, es) ⟨Nat.zero_le _, hptr, fun _ _ => rfl⟩ (Ent.re) ⟨rfl, rfl, rfl, rfl, trivial⟩ ?_
        rintro ⟨m, fs⟩ ⟨hm, hptr, hsame⟩
        dsimp only at hm hptr hsame ⊢
        have hfl : fs.length = ds.length := by have := congrArg List.length hptr; simpa using this
        (refine w ?_; repeat ((first | refine VO.step rfl rfl ?_ | refine VD.end rfl rfl rfl ?_ | refine VD.mid rfl rfl rfl ?_); refine OpV.box rfl rfl rfl ?_; intro _; refine w ?_))
        (refine VC.cond rfl rfl ?_ ?_ <;> intro hc)
        · have hlt : m < ds.length := by have := of_decide_eq_true hc; omega
          have hmf : m < fs.length := by omega
          have hfe : es[m]'(by omega) = fs[m] := by
            have := hsame m (Nat.le_refl _)
            rw [List.getElem?_eq_getElem hmf, List.getElem?_eq_getElem (by omega)] at this
            exact (Option.some.inj this).symm
          have hpg : (ds.map lonePtr)[m]? = some (lonePtr fs[m]) := by rw [← hptr, List.getElem?_map, List.getElem?_eq_getElem hmf]; rfl
          have hcd := hcut m (by omega)
          rw [hfe] at hcd
          (refine w ?_; repeat ((first | refine VO.step rfl rfl ?_ | refine VD.end rfl rfl rfl ?_ | refine VD.mid rfl rfl rfl ?_); refine OpV.box rfl rfl rfl ?_; intro _; refine w ?_))
          (first | refine VO.pure rfl rfl (.ldRc tab_ok rfl rfl (hpr (by (focus repeat first | exact .head _ | apply List.Mem.tail))) hpg) rfl ?_ | refine VD.take rfl rfl rfl (.ldRc tab_ok rfl rfl (hpr (by (focus repeat first | exact .head _ | apply List.Mem.tail))) hpg) rfl ?_ | refine VQ.pure rfl rfl (.ldRc tab_ok rfl rfl (hpr (by (focus repeat first | exact .head _ | apply List.Mem.tail))) hpg) rfl ?_ | refine VD.end rfl rfl rfl (OpV.pure (.ldRc tab_ok rfl rfl (hpr (by (focus repeat first | exact .head _ | apply List.Mem.tail))) hpg) rfl ?_))
          cases hes : fs[m] with
          | none =>
            dsimp only [lonePtr, Option.map_none]
            (refine w ?_; repeat ((first | refine VO.step rfl rfl ?_ | refine VD.end rfl rfl rfl ?_ | refine VD.mid rfl rfl rfl ?_); refine OpV.box rfl rfl rfl ?_; intro _; refine w ?_))
            refine VE.round (m + 1, fs) ⟨hlt, hptr, fun j hj => hsame j (by dsimp only at hj; omega)⟩ (by dsimp only; omega) ⟨rfl, rfl, rfl, asV rfl (by congr 1), trivial⟩ Ent.re
          | some p =>
            dsimp only [lonePtr, Option.map_some]
            rw [hes] at hpg hcd
            obtain ⟨l1, l2, rfl, hml1⟩ := lone_split hmf hes
            dsimp only [Option.map_some] at hcd
            have hke : (p.k.settle (keepOf ((kl.map KeepD.l).getD m []))).cache = [] := rfl
            generalize hk' : p.k.settle (keepOf ((kl.map KeepD.l).getD m [])) = k' at *
            have himg : C.image (m : Int) = (k'.img, 0) := by unfold BayD.image; rw [hcd]
            have hpe : (C.dev (m : Int)).elim ([] : List Nat) (fun v => v.k.cache.map (·.1)) = [] := by rw [hcd]; show k'.cache.map (·.1) = []; rw [hke]; rfl
            have hptr2 : (l1 ++ some ⟨p.d, k'⟩ :: l2).map lonePtr = ds.map lonePtr := by rw [← hptr]; simp
            have hlater : ∀ j, m + 1 ≤ j → (l1 ++ some ⟨p.d, k'⟩ :: l2)[j]? = es[j]? := fun j hj => by
              rw [← hsame j (by omega), List.getElem?_append_right (by omega), List.getElem?_append_right (by omega), show j - l1.length = (j - l1.length - 1) + 1 by omega, List.getElem?_cons_succ, List.getElem?_cons_succ]
            have hout : Ent W (Own 50 1 (.slice (some pa) ds.length pc) ds.length (ds.map lonePtr) :: BayR a C :: ((l1 ++ some p :: l2).map loneRes ++ [])) (DiskR p.d p.k :: Own 50 1 (.slice (some pa) ds.length pc) ds.length (ds.map lonePtr) :: BayR a C :: ((l1 ++ l2).map loneRes ++ [])) := fun w hw => hw.perm (by
              simp only [List.map_append, List.map_cons, List.append_assoc, List.cons_append, List.nil_append]
              have := List.perm_middle (a := loneRes (some p)) (l₁ := Own 50 1 (.slice (some pa) ds.length pc) ds.length (ds.map lonePtr) :: BayR a C :: l1.map loneRes) (l₂ := l2.map loneRes ++ [])
              simp only [List.cons_append] at this
              exact this)
            refine VO.ent hout ?_
            clear hout
            (refine w ?_; repeat ((first | refine VO.step rfl rfl ?_ | refine VD.end rfl rfl rfl ?_ | refine VD.mid rfl rfl rfl ?_); refine OpV.box rfl rfl rfl ?_; intro _; refine w ?_))
            (refine VC.cond rfl rfl ?_ ?_ <;> intro hc)
            · have hlk : m < kl.length := by have := of_decide_eq_true hc; omega
              obtain ⟨ka, rfl⟩ : ∃ ka, ko = some ka := by cases ko with | none => have := (hk []).rds.nil rfl; omega | some ka => exact ⟨ka, rfl⟩
              have ek : kl[m].l = (kl.map KeepD.l).getD m [] := by simp [List.getD, hlk]
              (refine w ?_; repeat ((first | refine VO.step rfl rfl ?_ | refine VD.end rfl rfl rfl ?_ | refine VD.mid rfl rfl rfl ?_); refine OpV.box rfl rfl rfl ?_; intro _; refine w ?_))
              (refine VC.drawn [] 8 [0, 1, 2, 3, 4, 5, 6, 7, 8] _ rfl (by kernel_rfl) (by kernel_rfl) Ent.re ?_)
              (refine w ?_; repeat ((first | refine VO.step rfl rfl ?_ | refine VD.end rfl rfl rfl ?_ | refine VD.mid rfl rfl rfl ?_); refine OpV.box rfl rfl rfl ?_; intro _; refine w ?_))
              (first | refine VO.pure rfl rfl (.ldRc tab_ok rfl rfl (hpr (by (focus repeat first | exact .head _ | apply List.Mem.tail))) hpg) rfl ?_ | refine VD.take rfl rfl rfl (.ldRc tab_ok rfl rfl (hpr (by (focus repeat first | exact .head _ | apply List.Mem.tail))) hpg) rfl ?_ | refine VQ.pure rfl rfl (.ldRc tab_ok rfl rfl (hpr (by (focus repeat first | exact .head _ | apply List.Mem.tail))) hpg) rfl ?_ | refine VD.end rfl rfl rfl (OpV.pure (.ldRc tab_ok rfl rfl (hpr (by (focus repeat first | exact .head _ | apply List.Mem.tail))) hpg) rfl ?_))
              (refine w ?_; repeat ((first | refine VO.step rfl rfl ?_ | refine VD.end rfl rfl rfl ?_ | refine VD.mid rfl rfl rfl ?_); refine OpV.box rfl rfl rfl ?_; intro _; refine w ?_))
              (first | refine VO.pure rfl rfl (.ldRc tab_ok rfl rfl (hk _).rds (show (kl.map KeepD.hdr)[m]? = some (kl[m].hdr) by rw [List.getElem?_map, List.getElem?_eq_getElem hlk]; rfl)) rfl ?_ | refine VD.take rfl rfl rfl (.ldRc tab_ok rfl rfl (hk _).rds (show (kl.map KeepD.hdr)[m]? = some (kl[m].hdr) by rw [List.getElem?_map, List.getElem?_eq_getElem hlk]; rfl)) rfl ?_ | refine VQ.pure rfl rfl (.ldRc tab_ok rfl rfl (hk _).rds (show (kl.map KeepD.hdr)[m]? = some (kl[m].hdr) by rw [List.getElem?_map, List.getElem?_eq_getElem hlk]; rfl)) rfl ?_ | refine VD.end rfl rfl rfl (OpV.pure (.ldRc tab_ok rfl rfl (hk _).rds (show (kl.map KeepD.hdr)[m]? = some (kl[m].hdr) by rw [List.getElem?_map, List.getElem?_eq_getElem hlk]; rfl)) rfl ?_))
              (refine w ?_; repeat ((first | refine VO.step rfl rfl ?_ | refine VD.end rfl rfl rfl ?_ | refine VD.mid rfl rfl rfl ?_); refine OpV.box rfl rfl rfl ?_; intro _; refine w ?_))
              (((first | refine VO.step rfl rfl ?_ | refine VD.end rfl rfl rfl ?_ | refine VD.mid rfl rfl rfl ?_); refine OpV.call rfl rfl (fun _ _ => by simp) (crash_ok (l := kl[m].l) p.d p.k ((hk []).wf _ (List.getElem_mem hlk) _)) Ent.re rfl ?_); intro _ _)
              rw [ek, hk']
              (refine w ?_; repeat ((first | refine VO.step rfl rfl ?_ | refine VD.end rfl rfl rfl ?_ | refine VD.mid rfl rfl rfl ?_); refine OpV.box rfl rfl rfl ?_; intro _; refine w ?_))
              ((first | refine VO.step rfl rfl ?_ | refine VD.end rfl rfl rfl ?_ | refine VD.mid rfl rfl rfl ?_); refine OpV.call rfl rfl (fun _ _ => by simp) (bayimage_ok a C m) Ent.re rfl ?_)
              intro x hx
              rw [himg] at hx ⊢
              dsimp only at hx ⊢
              (refine w ?_; repeat ((first | refine VO.step rfl rfl ?_ | refine VD.end rfl rfl rfl ?_ | refine VD.mid rfl rfl rfl ?_); refine OpV.box rfl rfl rfl ?_; intro _; refine w ?_))
              (first | refine VO.pure rfl rfl (.ldRc tab_ok rfl rfl (hpr (by (focus repeat first | exact .head _ | apply List.Mem.tail))) hpg) rfl ?_ | refine VD.take rfl rfl rfl (.ldRc tab_ok rfl rfl (hpr (by (focus repeat first | exact .head _ | apply List.Mem.tail))) hpg) rfl ?_ | refine VQ.pure rfl rfl (.ldRc tab_ok rfl rfl (hpr (by (focus repeat first | exact .head _ | apply List.Mem.tail))) hpg) rfl ?_ | refine VD.end rfl rfl rfl (OpV.pure (.ldRc tab_ok rfl rfl (hpr (by (focus repeat first | exact .head _ | apply List.Mem.tail))) hpg) rfl ?_))
              (refine w ?_; repeat ((first | refine VO.step rfl rfl ?_ | refine VD.end rfl rfl rfl ?_ | refine VD.mid rfl rfl rfl ?_); refine OpV.box rfl rfl rfl ?_; intro _; refine w ?_))
              ((first | refine VO.step rfl rfl ?_ | refine VD.end rfl rfl rfl ?_ | refine VD.mid rfl rfl rfl ?_); refine OpV.call rfl rfl (fun _ _ => by simp) (dimg_ok p.d k') Ent.re rfl ?_)
              intro y hy
              (refine w ?_; repeat ((first | refine VO.step rfl rfl ?_ | refine VD.end rfl rfl rfl ?_ | refine VD.mid rfl rfl rfl ?_); refine OpV.box rfl rfl rfl ?_; intro _; refine w ?_))
              refine VO.know (fun w hw => hw.ownMax (show OwnB x k'.img ∈ _ by (focus repeat first | exact .head _ | apply List.Mem.tail)) : ∀ w, _ → k'.img.length ≤ maxLen) ?_
              intro hml
              refine VO.ent (Reord.ent (L := OwnB x k'.img :: OwnB y k'.img :: DiskR p.d k' :: BayR a C :: Own 50 1 (.slice (some pa) ds.length pc) ds.length (ds.map lonePtr) :: ((l1 ++ l2).map loneRes ++ [])) (by (repeat first | exact .refl | (apply Reord.cons; focus repeat first | exact .head | apply Del.tail) | exact .nil | apply Reord.drop))) ?_
              ((first | refine VO.step rfl rfl ?_ | refine VD.end rfl rfl rfl ?_ | refine VD.mid rfl rfl rfl ?_); refine OpV.call rfl rfl (fun _ _ => by simp) (same_any (a := k'.img) (b := k'.img) (Rds.own (bytes_one _) (.head _) (by simp) hx) (Rds.own (bytes_one _) (.tail _ (.head _)) (by simp) hy) hml) Ent.refl rfl ?_; intro _ _)
              (refine w ?_; repeat ((first | refine VO.step rfl rfl ?_ | refine VD.end rfl rfl rfl ?_ | refine VD.mid rfl rfl rfl ?_); refine OpV.box rfl rfl rfl ?_; intro _; refine w ?_))
              (first | refine VO.gF rfl rfl rfl (by simp) ?_ | refine VD.gF rfl rfl rfl (by simp) ?_)
              (refine w ?_; repeat ((first | refine VO.step rfl rfl ?_ | refine VD.end rfl rfl rfl ?_ | refine VD.mid rfl rfl rfl ?_); refine OpV.box rfl rfl rfl ?_; intro _; refine w ?_))
              ((first | refine VO.step rfl rfl ?_ | refine VD.end rfl rfl rfl ?_ | refine VD.mid rfl rfl rfl ?_); refine OpV.call rfl rfl (fun _ _ => by simp) (baypending_ok a C m (fun v hv => by rw [hcd] at hv; cases hv; show k'.cache.length ≤ _; rw [hke]; simp)) Ent.re rfl ?_)
              intro u _
              rw [hpe]
              (refine w ?_; repeat ((first | refine VO.step rfl rfl ?_ | refine VD.end rfl rfl rfl ?_ | refine VD.mid rfl rfl rfl ?_); refine OpV.box rfl rfl rfl ?_; intro _; refine w ?_))
              refine VE.round (m + 1, l1 ++ some ⟨p.d, k'⟩ :: l2) ⟨by dsimp only; omega, hptr2, hlater⟩ (by dsimp only; omega) ⟨rfl, rfl, rfl, asV rfl (by congr 1), trivial⟩ ?_
              exact Ent.trans (Ent.re (L := DiskR p.d k' :: Own 50 1 (.slice (some pa) ds.length pc) ds.length (ds.map lonePtr) :: BayR a C :: ((l1 ++ l2).map loneRes ++ []))) (loneIn2 l1 l2 ⟨p.d, k'⟩)
            · have hlk : ¬ m < kl.length := by have := of_decide_eq_false hc; omega
              have ek : ([] : List Bool) = (kl.map KeepD.l).getD m [] := by simp [List.getD, hlk]
              (refine w ?_; repeat ((first | refine VO.step rfl rfl ?_ | refine VD.end rfl rfl rfl ?_ | refine VD.mid rfl rfl rfl ?_); refine OpV.box rfl rfl rfl ?_; intro _; refine w ?_))
              (first | refine VO.pure rfl rfl (.ldRc tab_ok rfl rfl (hpr (by (focus repeat first | exact .head _ | apply List.Mem.tail))) hpg) rfl ?_ | refine VD.take rfl rfl rfl (.ldRc tab_ok rfl rfl (hpr (by (focus repeat first | exact .head _ | apply List.Mem.tail))) hpg) rfl ?_ | refine VQ.pure rfl rfl (.ldRc tab_ok rfl rfl (hpr (by (focus repeat first | exact .head _ | apply List.Mem.tail))) hpg) rfl ?_ | refine VD.end rfl rfl rfl (OpV.pure (.ldRc tab_ok rfl rfl (hpr (by (focus repeat first | exact .head _ | apply List.Mem.tail))) hpg) rfl ?_))
              (refine w ?_; repeat ((first | refine VO.step rfl rfl ?_ | refine VD.end rfl rfl rfl ?_ | refine VD.mid rfl rfl rfl ?_); refine OpV.box rfl rfl rfl ?_; intro _; refine w ?_))
              (((first | refine VO.step rfl rfl ?_ | refine VD.end rfl rfl rfl ?_ | refine VD.mid rfl rfl rfl ?_); refine OpV.call rfl rfl (fun _ _ => by simp) (crash_ok (l := []) p.d p.k nilBools) Ent.re rfl ?_); intro _ _)
              rw [ek, hk']
              (refine w ?_; repeat ((first | refine VO.step rfl rfl ?_ | refine VD.end rfl rfl rfl ?_ | refine VD.mid rfl rfl rfl ?_); refine OpV.box rfl rfl rfl ?_; intro _; refine w ?_))
              ((first | refine VO.step rfl rfl ?_ | refine VD.end rfl rfl rfl ?_ | refine VD.mid rfl rfl rfl ?_); refine OpV.call rfl rfl (fun _ _ => by simp) (bayimage_ok a C m) Ent.re rfl ?_)
              intro x hx
              rw [himg] at hx ⊢
              dsimp only at hx ⊢
              (refine w ?_; repeat ((first | refine VO.step rfl rfl ?_ | refine VD.end rfl rfl rfl ?_ | refine VD.mid rfl rfl rfl ?_); refine OpV.box rfl rfl rfl ?_; intro _; refine w ?_))
              (first | refine VO.pure rfl rfl (.ldRc tab_ok rfl rfl (hpr (by (focus repeat first | exact .head _ | apply List.Mem.tail))) hpg) rfl ?_ | refine VD.take rfl rfl rfl (.ldRc tab_ok rfl rfl (hpr (by (focus repeat first | exact .head _ | apply List.Mem.tail))) hpg) rfl ?_ | refine VQ.pure rfl rfl (.ldRc tab_ok rfl rfl (hpr (by (focus repeat first | exact .head _ | apply List.Mem.tail))) hpg) rfl ?_ | refine VD.end rfl rfl rfl (OpV.pure (.ldRc tab_ok rfl rfl (hpr (by (focus repeat first | exact .head _ | apply List.Mem.tail))) hpg) rfl ?_))
              (refine w ?_; repeat ((first | refine VO.step rfl rfl ?_ | refine VD.end rfl rfl rfl ?_ | refine VD.mid rfl rfl rfl ?_); refine OpV.box rfl rfl rfl ?_; intro _; refine w ?_))
              ((first | refine VO.step rfl rfl ?_ | refine VD.end rfl rfl rfl ?_ | refine VD.mid rfl rfl rfl ?_); refine OpV.call rfl rfl (fun _ _ => by simp) (dimg_ok p.d k') Ent.re rfl ?_)
              intro y hy
              (refine w ?_; repeat ((first | refine VO.step rfl rfl ?_ | refine VD.end rfl rfl rfl ?_ | refine VD.mid rfl rfl rfl ?_); refine OpV.box rfl rfl rfl ?_; intro _; refine w ?_))
              refine VO.know (fun w hw => hw.ownMax (show OwnB x k'.img ∈ _ by (focus repeat first | exact .head _ | apply List.Mem.tail)) : ∀ w, _ → k'.img.length ≤ maxLen) ?_
              intro hml
              refine VO.ent (Reord.ent (L := OwnB x k'.img :: OwnB y k'.img :: DiskR p.d k' :: BayR a C :: Own 50 1 (.slice (some pa) ds.length pc) ds.length (ds.map lonePtr) :: ((l1 ++ l2).map loneRes ++ [])) (by (repeat first | exact .refl | (apply Reord.cons; focus repeat first | exact .head | apply Del.tail) | exact .nil | apply Reord.drop))) ?_
              ((first | refine VO.step rfl rfl ?_ | refine VD.end rfl rfl rfl ?_ | refine VD.mid rfl rfl rfl ?_); refine OpV.call rfl rfl (fun _ _ => by simp) (same_any (a := k'.img) (b := k'.img) (Rds.own (bytes_one _) (.head _) (by simp) hx) (Rds.own (bytes_one _) (.tail _ (.head _)) (by simp) hy) hml) Ent.refl rfl ?_; intro _ _)
              (refine w ?_; repeat ((first | refine VO.step rfl rfl ?_ | refine VD.end rfl rfl rfl ?_ | refine VD.mid rfl rfl rfl ?_); refine OpV.box rfl rfl rfl ?_; intro _; refine w ?_))
              (first | refine VO.gF rfl rfl rfl (by simp) ?_ | refine VD.gF rfl rfl rfl (by simp) ?_)
              (refine w ?_; repeat ((first | refine VO.step rfl rfl ?_ | refine VD.end rfl rfl rfl ?_ | refine VD.mid rfl rfl rfl ?_); refine OpV.box rfl rfl rfl ?_; intro _; refine w ?_))
              ((first | refine VO.step rfl rfl ?_ | refine VD.end rfl rfl rfl ?_ | refine VD.mid rfl rfl rfl ?_); refine OpV.call rfl rfl (fun _ _ => by simp) (baypending_ok a C m (fun v hv => by rw [hcd] at hv; cases hv; show k'.cache.length ≤ _; rw [hke]; simp)) Ent.re rfl ?_)
              intro u _
              rw [hpe]
              (refine w ?_; repeat ((first | refine VO.step rfl rfl ?_ | refine VD.end rfl rfl rfl ?_ | refine VD.mid rfl rfl rfl ?_); refine OpV.box rfl rfl rfl ?_; intro _; refine w ?_))
              refine VE.round (m + 1, l1 ++ some ⟨p.d, k'⟩ :: l2) ⟨by dsimp only; omega, hptr2, hlater⟩ (by dsimp only; omega) ⟨rfl, rfl, rfl, asV rfl (by congr 1), trivial⟩ ?_
              exact Ent.trans (Ent.re (L := DiskR p.d k' :: Own 50 1 (.slice (some pa) ds.length pc) ds.length (ds.map lonePtr) :: BayR a C :: ((l1 ++ l2).map loneRes ++ []))) (loneIn2 l1 l2 ⟨p.d, k'⟩)
        · (refine w ?_; repeat ((first | refine VO.step rfl rfl ?_ | refine VD.end rfl rfl rfl ?_ | refine VD.mid rfl rfl rfl ?_); refine OpV.box rfl rfl rfl ?_; intro _; refine w ?_))
          (refine VE.done1 rfl ?_ ?_)
          · rfl
          · exact Reord.ent .nil
  · obtain rfl : x = none := by cases x with | none => rfl | some b => simp [hE] at hx
    dsimp only [Option.elim_none]
    (refine w ?_; repeat ((first | refine VO.step rfl rfl ?_ | refine VD.end rfl rfl rfl ?_ | refine VD.mid rfl rfl rfl ?_); refine OpV.box rfl rfl rfl ?_; intro _; refine w ?_))
    ((first | refine VO.step rfl rfl ?_ | refine VD.end rfl rfl rfl ?_ | refine VD.mid rfl rfl rfl ?_); refine OpV.call rfl rfl (fun _ _ => by simp) (bknown_ok) Ent.refl rfl ?_; intro _ _)
    (refine w ?_; repeat ((first | refine VO.step rfl rfl ?_ | refine VD.end rfl rfl rfl ?_ | refine VD.mid rfl rfl rfl ?_); refine OpV.box rfl rfl rfl ?_; intro _; refine w ?_))
    (refine VC.condTe rfl rfl (by simpa using hE) ?_)
    (refine w ?_; repeat ((first | refine VO.step rfl rfl ?_ | refine VD.end rfl rfl rfl ?_ | refine VD.mid rfl rfl rfl ?_); refine OpV.box rfl rfl rfl ?_; intro _; refine w ?_))
    (refine VE.done1 rfl ?_ ?_)
    · rfl
    · exact Ent.refl
end Go.Proofs.Ytbmcgmicnfbckaa
