/- Package bay: operations. -/
import Derived.Test.YtbmcgmicnfbckaaBb
set_option maxRecDepth 8000
set_option linter.unusedVariables false
set_option linter.unusedSimpArgs false
set_option linter.unusedSectionVars false
namespace Go.Proofs.Ytbmcgmicnfbckaa
open Go.RowKit Go.Sl
attribute [local irreducible] Own

def DevD.use (v : DevD) : DevD := if v.worn = false then v else if v.left = 0 then ⟨v.k.fail, false, v.left⟩ else ⟨v.k, v.worn, IntKind.i64.wrap (v.left - 1)⟩
abbrev devCells (d : Nat) (v : DevD) : List Value := [.pointer (some ⟨d, 0, none⟩), .bool v.worn, .int .i64 v.left]
theorem use_ok {W : World} {R : List SProp} (r d : Nat) (v : DevD) :
    Does1 W Try.prog 64 [.pointer (some ⟨r, 0, none⟩)] (Row r 72 (devCells d v) :: DiskR d v.k :: R) (.tuple #[]) (Row r 72 (devCells d v.use) :: DiskR d v.use.k :: R) := by
  (refine Does.enter Try.func64 Try.ntmps64 rfl rfl ?_)
  unfold DevD.use
  (refine w ?_; repeat ((first | refine VO.step rfl rfl ?_ | refine VD.end rfl rfl rfl ?_ | refine VD.mid rfl rfl rfl ?_); refine OpV.box rfl rfl rfl ?_; intro _; refine w ?_))
  (refine VC.cond rfl rfl ?_ ?_ <;> intro hc)
  · have hw : v.worn = false := by simpa using hc
    (refine w ?_; repeat ((first | refine VO.step rfl rfl ?_ | refine VD.end rfl rfl rfl ?_ | refine VD.mid rfl rfl rfl ?_); refine OpV.box rfl rfl rfl ?_; intro _; refine w ?_))
    (refine VE.done1N rfl ?_ ?_)
    · rfl
    · rw [if_pos hw]; exact Ent.refl
  · have hw : v.worn ≠ false := by simpa using hc
    rw [if_neg hw]
    (refine w ?_; repeat ((first | refine VO.step rfl rfl ?_ | refine VD.end rfl rfl rfl ?_ | refine VD.mid rfl rfl rfl ?_); refine OpV.box rfl rfl rfl ?_; intro _; refine w ?_))
    (refine VC.cond rfl rfl ?_ ?_ <;> intro hc)
    · have h0 : v.left = 0 := by simpa using hc
      (refine w ?_; repeat ((first | refine VO.step rfl rfl ?_ | refine VD.end rfl rfl rfl ?_ | refine VD.mid rfl rfl rfl ?_); refine OpV.box rfl rfl rfl ?_; intro _; refine w ?_))
      (((first | refine VO.step rfl rfl ?_ | refine VD.end rfl rfl rfl ?_ | refine VD.mid rfl rfl rfl ?_); refine OpV.call rfl rfl (fun _ _ => by simp) (fail_ok d v.k) Ent.re rfl ?_); intro _ _)
      (refine w ?_; repeat ((first | refine VO.step rfl rfl ?_ | refine VD.end rfl rfl rfl ?_ | refine VD.mid rfl rfl rfl ?_); refine OpV.box rfl rfl rfl ?_; intro _; refine w ?_))
      (refine VE.done1N rfl ?_ ?_)
      · rfl
      · rw [if_pos h0]; exact Ent.re
    · have h0 : ¬ v.left = 0 := by simpa using hc
      (refine w ?_; repeat ((first | refine VO.step rfl rfl ?_ | refine VD.end rfl rfl rfl ?_ | refine VD.mid rfl rfl rfl ?_); refine OpV.box rfl rfl rfl ?_; intro _; refine w ?_))
      (refine VE.done1N rfl ?_ ?_)
      · rfl
      · rw [if_neg h0]; exact Ent.re

def BayD.pow (D : BayD) : BayD := if D.trip = 0 then { D with dark := true, trip := -1 } else D
def CntD.inc (c : CntD) : Nat → CntD
  | 0 => { c with r := IntKind.i64.wrap (c.r + 1) }
  | 1 => { c with w := IntKind.i64.wrap (c.w + 1) }
  | _ => { c with f := IntKind.i64.wrap (c.f + 1) }
def BayD.less (D : BayD) : BayD := { D with trip := if 0 < D.trip then IntKind.i64.wrap (D.trip - 1) else D.trip }
def BayD.step (D : BayD) (j : Nat) : BayD := { D with trip := if 0 < D.trip then IntKind.i64.wrap (D.trip - 1) else D.trip, n := D.n.inc j }
/-- Why an operation is not done; 0: it is. -/
def BayD.refuse (D : BayD) (k : Int) : Int := if inRange D.slots.length k = false then 1 else if D.pow.dark then 50 else thereE D.slots.length (D.dev k).isSome k
def BayD.ahead (D : BayD) (k : Int) (j : Nat) : BayD := if inRange D.slots.length k = false then D else if D.pow.dark then D.pow else D.pow.step j
theorem BayD.pow_slots (D : BayD) : D.pow.slots = D.slots := by unfold BayD.pow; split <;> rfl
theorem BayD.ahead_slots (D : BayD) (k : Int) (j : Nat) : (D.ahead k j).slots = D.slots := by
  unfold BayD.ahead; split
  · rfl
  · split
    · exact D.pow_slots
    · exact D.pow_slots

theorem reads_ok {W : World} {R : List SProp} (b : Nat) : Does1 W Try.prog 58 [.pointer (some ⟨b, 3, none⟩)] R (.pointer (some ⟨b, 3 + 0, none⟩)) R := by
  (refine Does.enter Try.func58 Try.ntmps58 rfl rfl ?_)
  (refine w ?_; repeat ((first | refine VO.step rfl rfl ?_ | refine VD.end rfl rfl rfl ?_ | refine VD.mid rfl rfl rfl ?_); refine OpV.box rfl rfl rfl ?_; intro _; refine w ?_))
  (first | exact VE.done1 rfl rfl Ent.refl | exact VE.done1N rfl rfl Ent.refl)
theorem writes_ok {W : World} {R : List SProp} (b : Nat) : Does1 W Try.prog 50 [.pointer (some ⟨b, 3, none⟩)] R (.pointer (some ⟨b, 3 + 1, none⟩)) R := by
  (refine Does.enter Try.func50 Try.ntmps50 rfl rfl ?_)
  (refine w ?_; repeat ((first | refine VO.step rfl rfl ?_ | refine VD.end rfl rfl rfl ?_ | refine VD.mid rfl rfl rfl ?_); refine OpV.box rfl rfl rfl ?_; intro _; refine w ?_))
  (first | exact VE.done1 rfl rfl Ent.refl | exact VE.done1N rfl rfl Ent.refl)
theorem flushes_ok {W : World} {R : List SProp} (b : Nat) : Does1 W Try.prog 52 [.pointer (some ⟨b, 3, none⟩)] R (.pointer (some ⟨b, 3 + 2, none⟩)) R := by
  (refine Does.enter Try.func52 Try.ntmps52 rfl rfl ?_)
  (refine w ?_; repeat ((first | refine VO.step rfl rfl ?_ | refine VD.end rfl rfl rfl ?_ | refine VD.mid rfl rfl rfl ?_); refine OpV.box rfl rfl rfl ?_; intro _; refine w ?_))
  (first | exact VE.done1 rfl rfl Ent.refl | exact VE.done1N rfl rfl Ent.refl)
def cntL (c : CntD) : List Value := [.int .i64 c.r, .int .i64 c.w, .int .i64 c.f]
def cntAt (c : CntD) : Nat → Int
  | 0 => c.r
  | 1 => c.w
  | _ => c.f

def BayD.dv (D : BayD) (k : Int) : DevD := ((D.dev k).getD ⟨⟨[], [], false⟩, false, 0⟩).use
theorem inRange_at {l1 l2 : List SlotP} {s : SlotP} : inRange (l1 ++ s :: l2).length (l1.length : Int) = true := by unfold inRange; simp; omega
set_option maxHeartbeats 1000000 in
/-- An operation with the disk in a slot; none: it is refused. -/
theorem operate_ok {W : World} {R : List SProp} {gd gc : FuncId} {cp : Array Value} {γ : Type} {A : γ → Prop} {res : γ → Value} {G : γ → List SProp} {kf : DiskD → DiskD} (b : Nat) (D : BayD) (k : Int) (j : Nat) (hj : j < 3)
    (hcf : ∀ a w, (callFunc gc a).run Try.prog w = .ok (.enter gc a) w) (hdf : ∀ a w, (callFunc gd a).run Try.prog w = .ok (.enter gd a) w)
    (hcount : ∀ X : List SProp, Does1 W Try.prog gc [.pointer (some ⟨b, 3, none⟩)] X (.pointer (some ⟨b, 3 + j, none⟩)) X)
    (hdo : ∀ (r d : Nat), (D.dev k).isSome = true → D.refuse k = 0 → ∀ X : List SProp, Does W Try.prog gd (.pointer (some ⟨r, 0, none⟩) :: cp.toList) (Row r 72 (devCells d (D.dv k)) :: DiskR d (D.dv k).k :: (X ++ R)) A res (fun x => Row r 72 (devCells d (D.dv k)) :: DiskR d (kf (D.dv k).k) :: (X ++ G x))) :
    Does W Try.prog 49 [.pointer (some ⟨b, 0, none⟩), .int .i64 k, .func (.func gc) #[] #[], .func (.func gd) #[] cp] (BayR b D :: R) (β := Option γ)
      (fun x => x.elim (D.refuse k ≠ 0) fun y => D.refuse k = 0 ∧ A y) (fun x => x.elim (.int .u16 (D.refuse k)) res)
      (fun x => x.elim (BayR b (D.ahead k j) :: R) fun y => BayR b ((D.ahead k j).setIn k.toNat ⟨kf (D.dv k).k, (D.dv k).worn, (D.dv k).left⟩) :: G y) := by
  (refine Does.enter Try.func49 Try.ntmps49 rfl rfl ?_)
  refine VC.obtain (fun w => BayR.open) ?_
  rintro ⟨⟨a, sp⟩, h1, h2⟩
  dsimp only at h1 h2 ⊢
  have hl : D.slots.length = sp.length := by rw [h1, List.length_map]
  (refine w ?_; repeat ((first | refine VO.step rfl rfl ?_ | refine VD.end rfl rfl rfl ?_ | refine VD.mid rfl rfl rfl ?_); refine OpV.box rfl rfl rfl ?_; intro _; refine w ?_))
  (((first | refine VO.step rfl rfl ?_ | refine VD.end rfl rfl rfl ?_ | refine VD.mid rfl rfl rfl ?_); refine OpV.call rfl rfl (fun _ _ => by simp) (bayat_ok (D := D) (a := a) (n := sp.length) b k h2) Ent.re rfl ?_); intro _ _)
  unfold slotAt
  cases hin : inRange sp.length k
  · (refine w ?_; repeat ((first | refine VO.step rfl rfl ?_ | refine VD.end rfl rfl rfl ?_ | refine VD.mid rfl rfl rfl ?_); refine OpV.box rfl rfl rfl ?_; intro _; refine w ?_))
    have hr : D.refuse k = 1 := by unfold BayD.refuse; rw [hl, if_pos hin]
    refine VE.done none rfl (by rw [Option.elim_none, hr]; decide) (by rw [Option.elim_none, hr]) ?_
    unfold BayD.ahead; rw [Option.elim_none, hl, if_pos hin]; exact BayR.shut h1 h2
  (refine w ?_; repeat ((first | refine VO.step rfl rfl ?_ | refine VD.end rfl rfl rfl ?_ | refine VD.mid rfl rfl rfl ?_); refine OpV.box rfl rfl rfl ?_; intro _; refine w ?_))
  (first | refine VO.join (α := Unit) (fun _ => True) (fun _ => bayRow b D.pow a sp.length :: slotsOwn a sp :: (sp.map slotRes ++ R)) (fun _ => [(0, .pointer (some ⟨b, 0, none⟩)), (1, .int .i64 k), (2, .func (.func gc) #[] #[]), (3, .func (.func gd) #[] cp)]) ?_ ?_ | refine VC.joinTB (α := Unit) (fun _ => True) (fun _ => bayRow b D.pow a sp.length :: slotsOwn a sp :: (sp.map slotRes ++ R)) (fun _ => [(0, .pointer (some ⟨b, 0, none⟩)), (1, .int .i64 k), (2, .func (.func gc) #[] #[]), (3, .func (.func gd) #[] cp)]) ?_ ?_ | refine VC.joinB (α := Unit) (fun _ => True) (fun _ => bayRow b D.pow a sp.length :: slotsOwn a sp :: (sp.map slotRes ++ R)) (fun _ => [(0, .pointer (some ⟨b, 0, none⟩)), (1, .int .i64 k), (2, .func (.func gc) #[] #[]), (3, .func (.func gd) #[] cp)]) ?_ ?_ | refine VC.join (α := Unit) (fun _ => True) (fun _ => bayRow b D.pow a sp.length :: slotsOwn a sp :: (sp.map slotRes ++ R)) (fun _ => [(0, .pointer (some ⟨b, 0, none⟩)), (1, .int .i64 k), (2, .func (.func gc) #[] #[]), (3, .func (.func gd) #[] cp)]) ?_ ?_)
  · intro Q2 jn
    (refine VC.cond rfl rfl ?_ ?_ <;> intro hc)
    · have h0 : D.trip = 0 := by simpa using hc
      (refine w ?_; repeat ((first | refine VO.step rfl rfl ?_ | refine VD.end rfl rfl rfl ?_ | refine VD.mid rfl rfl rfl ?_); refine OpV.box rfl rfl rfl ?_; intro _; refine w ?_))
      refine jn.to () trivial ⟨rfl, rfl, rfl, rfl, trivial⟩ ?_
      unfold BayD.pow; rw [if_pos h0]; exact Ent.re
    · have h0 : ¬ D.trip = 0 := by simpa using hc
      (refine w ?_; repeat ((first | refine VO.step rfl rfl ?_ | refine VD.end rfl rfl rfl ?_ | refine VD.mid rfl rfl rfl ?_); refine OpV.box rfl rfl rfl ?_; intro _; refine w ?_))
      refine jn.to () trivial ⟨rfl, rfl, rfl, rfl, trivial⟩ ?_
      unfold BayD.pow; rw [if_neg h0]; exact Ent.re
  intro _ _
  (refine w ?_; repeat ((first | refine VO.step rfl rfl ?_ | refine VD.end rfl rfl rfl ?_ | refine VD.mid rfl rfl rfl ?_); refine OpV.box rfl rfl rfl ?_; intro _; refine w ?_))
  have h1p : D.pow.slots = sp.map SlotP.D := by rw [D.pow_slots, h1]
  (refine VC.cond rfl rfl ?_ ?_ <;> intro hc)
  · have hdk : D.pow.dark = true := hc
    (refine w ?_; repeat ((first | refine VO.step rfl rfl ?_ | refine VD.end rfl rfl rfl ?_ | refine VD.mid rfl rfl rfl ?_); refine OpV.box rfl rfl rfl ?_; intro _; refine w ?_))
    have hr : D.refuse k = 50 := by unfold BayD.refuse; rw [hl, if_neg (by simp [hin]), if_pos hdk]
    refine VE.done none rfl (by rw [Option.elim_none, hr]; decide) (by rw [Option.elim_none, hr]) ?_
    unfold BayD.ahead; rw [Option.elim_none, hl, if_neg (by simp [hin]), if_pos hdk]; exact BayR.shut h1p h2
  have hdk : ¬ D.pow.dark = true := by simpa using hc
  have hah : D.ahead k j = D.pow.step j := by unfold BayD.ahead; rw [hl, if_neg (by simp [hin]), if_neg hdk]
  rw [hah]
  generalize hP : D.pow = Pw at *
  (refine w ?_; repeat ((first | refine VO.step rfl rfl ?_ | refine VD.end rfl rfl rfl ?_ | refine VD.mid rfl rfl rfl ?_); refine OpV.box rfl rfl rfl ?_; intro _; refine w ?_))
  (refine VC.join (α := Unit) (fun _ => True) (fun _ => bayRow b Pw.less a sp.length :: slotsOwn a sp :: (sp.map slotRes ++ R)) (fun _ => [(0, .pointer (some ⟨b, 0, none⟩)), (1, .int .i64 k), (2, .func (.func gc) #[] #[]), (3, .func (.func gd) #[] cp)]) ?_ ?_)
  · intro Q2 jn
    (refine VC.cond rfl rfl ?_ ?_ <;> intro hc)
    · have h0 : 0 < Pw.trip := of_decide_eq_true hc
      (refine w ?_; repeat ((first | refine VO.step rfl rfl ?_ | refine VD.end rfl rfl rfl ?_ | refine VD.mid rfl rfl rfl ?_); refine OpV.box rfl rfl rfl ?_; intro _; refine w ?_))
      refine jn.to () trivial ⟨rfl, rfl, rfl, rfl, trivial⟩ ?_
      unfold BayD.less; rw [if_pos h0]; exact Ent.re
    · have h0 : ¬ 0 < Pw.trip := of_decide_eq_false hc
      (refine w ?_; repeat ((first | refine VO.step rfl rfl ?_ | refine VD.end rfl rfl rfl ?_ | refine VD.mid rfl rfl rfl ?_); refine OpV.box rfl rfl rfl ?_; intro _; refine w ?_))
      refine jn.to () trivial ⟨rfl, rfl, rfl, rfl, trivial⟩ ?_
      unfold BayD.less; rw [if_neg h0]; exact Ent.re
  intro _ _
  refine VC.seq rfl ?_
  refine VC.join (α := Unit) (fun _ => True) (fun _ => bayRow b (Pw.step j) a sp.length :: slotsOwn a sp :: (sp.map slotRes ++ R)) (fun _ => [(0, .pointer (some ⟨b, 0, none⟩)), (1, .int .i64 k), (3, .func (.func gd) #[] cp)]) ?_ ?_
  · intro Q2 jn
    rcases (show j = 0 ∨ j = 1 ∨ j = 2 by omega) with rfl | rfl | rfl
    · (refine w ?_; repeat ((first | refine VO.step rfl rfl ?_ | refine VD.end rfl rfl rfl ?_ | refine VD.mid rfl rfl rfl ?_); refine OpV.box rfl rfl rfl ?_; intro _; refine w ?_))
      (first | refine VO.step rfl rfl ?_ | refine VD.end rfl rfl rfl ?_ | refine VD.mid rfl rfl rfl ?_)
      refine OpV.call rfl rfl hcf (hcount _) Ent.refl rfl ?_
      intro _ _
      (refine w ?_; repeat ((first | refine VO.step rfl rfl ?_ | refine VD.end rfl rfl rfl ?_ | refine VD.mid rfl rfl rfl ?_); refine OpV.box rfl rfl rfl ?_; intro _; refine w ?_))
      exact jn.to () trivial ⟨rfl, rfl, rfl, trivial⟩ Ent.re
    · (refine w ?_; repeat ((first | refine VO.step rfl rfl ?_ | refine VD.end rfl rfl rfl ?_ | refine VD.mid rfl rfl rfl ?_); refine OpV.box rfl rfl rfl ?_; intro _; refine w ?_))
      (first | refine VO.step rfl rfl ?_ | refine VD.end rfl rfl rfl ?_ | refine VD.mid rfl rfl rfl ?_)
      refine OpV.call rfl rfl hcf (hcount _) Ent.refl rfl ?_
      intro _ _
      (refine w ?_; repeat ((first | refine VO.step rfl rfl ?_ | refine VD.end rfl rfl rfl ?_ | refine VD.mid rfl rfl rfl ?_); refine OpV.box rfl rfl rfl ?_; intro _; refine w ?_))
      exact jn.to () trivial ⟨rfl, rfl, rfl, trivial⟩ Ent.re
    · (refine w ?_; repeat ((first | refine VO.step rfl rfl ?_ | refine VD.end rfl rfl rfl ?_ | refine VD.mid rfl rfl rfl ?_); refine OpV.box rfl rfl rfl ?_; intro _; refine w ?_))
      (first | refine VO.step rfl rfl ?_ | refine VD.end rfl rfl rfl ?_ | refine VD.mid rfl rfl rfl ?_)
      refine OpV.call rfl rfl hcf (hcount _) Ent.refl rfl ?_
      intro _ _
      (refine w ?_; repeat ((first | refine VO.step rfl rfl ?_ | refine VD.end rfl rfl rfl ?_ | refine VD.mid rfl rfl rfl ?_); refine OpV.box rfl rfl rfl ?_; intro _; refine w ?_))
      exact jn.to () trivial ⟨rfl, rfl, rfl, trivial⟩ Ent.re
  intro _ _
  (refine w ?_; repeat ((first | refine VO.step rfl rfl ?_ | refine VD.end rfl rfl rfl ?_ | refine VD.mid rfl rfl rfl ?_); refine OpV.box rfl rfl rfl ?_; intro _; refine w ?_))
  have h1s : (Pw.step j).slots = sp.map SlotP.D := h1p
  (((first | refine VO.step rfl rfl ?_ | refine VD.end rfl rfl rfl ?_ | refine VD.mid rfl rfl rfl ?_); refine OpV.call rfl rfl (fun _ _ => by simp) (baythere_ok (D := Pw.step j) (a := a) (sp := sp) b k h2) Ent.re rfl ?_); intro _ _)
  have hrf : D.refuse k = thereE sp.length (inP sp k).isSome k := by unfold BayD.refuse; rw [hl, if_neg (by simp [hin]), hP, if_neg hdk, inP_D h1, Option.isSome_map]
  have hdv : D.dv k = (((inP sp k).map DevP.v).getD ⟨⟨[], [], false⟩, false, 0⟩).use := by unfold BayD.dv; rw [inP_D h1]
  rw [inP_D h1, hdv] at hdo
  rw [hdv]
  rw [hrf] at hdo ⊢
  cases hp : inP sp k with
  | none =>
    dsimp only [devPtr, Option.map_none, Option.isSome_none]
    have he : thereE sp.length false k ≠ 0 := by unfold thereE; split <;> simp
    (refine w ?_; repeat ((first | refine VO.step rfl rfl ?_ | refine VD.end rfl rfl rfl ?_ | refine VD.mid rfl rfl rfl ?_); refine OpV.box rfl rfl rfl ?_; intro _; refine w ?_))
    (refine VC.condTe rfl rfl (by simpa using he) ?_)
    (refine w ?_; repeat ((first | refine VO.step rfl rfl ?_ | refine VD.end rfl rfl rfl ?_ | refine VD.mid rfl rfl rfl ?_); refine OpV.box rfl rfl rfl ?_; intro _; refine w ?_))
    refine VE.done none rfl (by simpa using he) rfl ?_
    exact BayR.shut h1s h2
  | some p =>
    obtain ⟨l1, s, l2, rfl, rfl, hs⟩ := inP_split hp
    dsimp only [devPtr, Option.map_some, Option.isSome_some, Option.getD_some]
    have he : thereE (l1 ++ s :: l2).length true (l1.length : Int) = 0 := by unfold thereE; rw [inRange_at]; rfl
    rw [hp] at hdo
    dsimp only [Option.map_some, Option.isSome_some, Option.getD_some] at hdo
    rw [he] at hdo ⊢
    (refine w ?_; repeat ((first | refine VO.step rfl rfl ?_ | refine VD.end rfl rfl rfl ?_ | refine VD.mid rfl rfl rfl ?_); refine OpV.box rfl rfl rfl ?_; intro _; refine w ?_))
    refine VO.ent (bayOutP hs) ?_
    (refine w ?_; repeat ((first | refine VO.step rfl rfl ?_ | refine VD.end rfl rfl rfl ?_ | refine VD.mid rfl rfl rfl ?_); refine OpV.box rfl rfl rfl ?_; intro _; refine w ?_))
    (((first | refine VO.step rfl rfl ?_ | refine VD.end rfl rfl rfl ?_ | refine VD.mid rfl rfl rfl ?_); refine OpV.call rfl rfl (fun _ _ => by simp) (use_ok p.r p.d p.v) Ent.re rfl ?_); intro _ _)
    (refine w ?_; repeat ((first | refine VO.step rfl rfl ?_ | refine VD.end rfl rfl rfl ?_ | refine VD.mid rfl rfl rfl ?_); refine OpV.box rfl rfl rfl ?_; intro _; refine w ?_))
    (first | refine VO.step rfl rfl ?_ | refine VD.end rfl rfl rfl ?_ | refine VD.mid rfl rfl rfl ?_)
    refine OpV.call rfl rfl hdf (hdo p.r p.d rfl rfl (devRes s.aside :: devRes s.coming :: bayRow b (Pw.step j) a (l1 ++ s :: l2).length :: slotsOwn a (l1 ++ s :: l2) :: (l1 ++ l2).map slotRes)) ?_ rfl ?_
    · exact Ent.refl
    intro y hy
    (refine w ?_; repeat ((first | refine VO.step rfl rfl ?_ | refine VD.end rfl rfl rfl ?_ | refine VD.mid rfl rfl rfl ?_); refine OpV.box rfl rfl rfl ?_; intro _; refine w ?_))
    refine VE.done (some y) rfl ⟨rfl, hy⟩ rfl ?_
    exact bayInP (b := b) (a := a) (R := G y) (D := Pw.step j) (D' := (Pw.step j).setIn l1.length ⟨kf p.v.use.k, p.v.use.worn, p.v.use.left⟩) (p := p) hs ⟨kf p.v.use.k, p.v.use.worn, p.v.use.left⟩ (setIn_slots (p := p) (D := Pw.step j) h1s _) h2

/-! ### Read, Write, Flush -/
theorem pull1 {W : World} {A B C : SProp} (X R : List SProp) : Ent W (A :: B :: (X ++ (C :: R))) (C :: A :: B :: (X ++ R)) := fun w hw => hw.perm (by
  refine List.Perm.trans (List.Perm.cons _ (List.Perm.cons _ List.perm_middle)) ?_
  exact List.Perm.trans (List.Perm.cons _ (List.Perm.swap _ _ _)) (List.Perm.swap _ _ _))
theorem push1 {W : World} {A B C : SProp} (X R : List SProp) : Ent W (C :: A :: B :: (X ++ R)) (A :: B :: (X ++ (C :: R))) := fun w hw => hw.perm (by
  refine List.Perm.symm (List.Perm.trans (List.Perm.cons _ (List.Perm.cons _ List.perm_middle)) ?_)
  exact List.Perm.trans (List.Perm.cons _ (List.Perm.swap _ _ _)) (List.Perm.swap _ _ _))
theorem push3 {W : World} {A B C D E : SProp} (X R : List SProp) : Ent W (C :: D :: E :: A :: B :: (X ++ R)) (A :: B :: (X ++ (C :: D :: E :: R))) := fun w hw => by
  have h1 := push1 (W := W) (A := A) (B := B) (C := E) X R
  have h2 := push1 (W := W) (A := A) (B := B) (C := D) X (E :: R)
  have h3 := push1 (W := W) (A := A) (B := B) (C := C) X (D :: E :: R)
  have k1 := Ent.ctx (X := [C, D]) (L := E :: A :: B :: X) (L' := A :: B :: (X ++ [E])) (R := R) (by
    have := push1 (W := W) (A := A) (B := B) (C := E) X ([C, D] ++ R)
    simpa using this)
  have k2 := Ent.ctx (X := [C]) (L := D :: A :: B :: X) (L' := A :: B :: (X ++ [D])) (R := E :: R) (by
    have := push1 (W := W) (A := A) (B := B) (C := D) X ([C] ++ (E :: R))
    simpa using this)
  exact h3 w (by simpa using k2 w (by simpa using k1 w hw))
theorem pull2 {W : World} {A B C D : SProp} (X R : List SProp) : Ent W (A :: B :: (X ++ (C :: D :: R))) (C :: D :: A :: B :: (X ++ R)) := fun w hw => hw.perm (by
  have p1 : (X ++ (C :: D :: R)).Perm (C :: D :: (X ++ R)) := List.Perm.trans List.perm_middle (List.Perm.cons _ List.perm_middle)
  refine List.Perm.trans (List.Perm.cons _ (List.Perm.cons _ p1)) ?_
  exact List.Perm.append_right (X ++ R) (show [A, B, C, D].Perm [C, D, A, B] from List.perm_append_comm (l₁ := [A, B]) (l₂ := [C, D])))
theorem push2 {W : World} {A B C D : SProp} (X R : List SProp) : Ent W (C :: D :: A :: B :: (X ++ R)) (A :: B :: (X ++ (C :: D :: R))) := fun w hw => hw.perm (by
  have p1 : (X ++ (C :: D :: R)).Perm (C :: D :: (X ++ R)) := List.Perm.trans List.perm_middle (List.Perm.cons _ List.perm_middle)
  refine List.Perm.symm (List.Perm.trans (List.Perm.cons _ (List.Perm.cons _ p1)) ?_)
  exact List.Perm.append_right (X ++ R) (show [A, B, C, D].Perm [C, D, A, B] from List.perm_append_comm (l₁ := [A, B]) (l₂ := [C, D])))

theorem readf_ok {W : World} {R : List SProp} (r d ba bd : Nat) (v : DevD) (k : DiskD) (a : Int) (X : List SProp) :
    Does W Try.prog 59 [.pointer (some ⟨r, 0, none⟩), .pointer (some ⟨ba, 0, none⟩), .pointer (some ⟨bd, 0, none⟩)] (Row r 72 (devCells d v) :: DiskR d k :: (X ++ (Row ba 3 [.int .i64 a] :: Row bd 32 [.slice none 0 0] :: R)))
      (β := Option Addr × Nat) (fun x => x.1 = none → (k.rd a).1.length = 0) (fun _ => .int .u16 (k.rd a).2)
      (fun x => Row r 72 (devCells d v) :: DiskR d k :: (X ++ (Row ba 3 [.int .i64 a] :: Row bd 32 [sliceB x (k.rd a).1] :: OwnB x (k.rd a).1 :: R))) := by
  (refine Does.enter Try.func59 Try.ntmps59 rfl rfl ?_)
  refine VC.ent (pull2 X R) ?_
  (refine w ?_; repeat ((first | refine VO.step rfl rfl ?_ | refine VD.end rfl rfl rfl ?_ | refine VD.mid rfl rfl rfl ?_); refine OpV.box rfl rfl rfl ?_; intro _; refine w ?_))
  (refine VC.drawn [5, 9] 10 [0, 1, 2, 3, 4, 5, 6, 7, 8, 9, 10] (DiskR d k :: Row ba 3 [.int .i64 a] :: Row r 72 (devCells d v) :: (X ++ R)) rfl (by kernel_rfl) (by kernel_rfl) Ent.re ?_)
  (refine w ?_; repeat ((first | refine VO.step rfl rfl ?_ | refine VD.end rfl rfl rfl ?_ | refine VD.mid rfl rfl rfl ?_); refine OpV.box rfl rfl rfl ?_; intro _; refine w ?_))
  ((first | refine VO.step rfl rfl ?_ | refine VD.end rfl rfl rfl ?_ | refine VD.mid rfl rfl rfl ?_); refine OpV.call rfl rfl (fun _ _ => by simp) (drd_ok d k a) Ent.re rfl ?_)
  intro x hx
  (refine w ?_; repeat ((first | refine VO.step rfl rfl ?_ | refine VD.end rfl rfl rfl ?_ | refine VD.mid rfl rfl rfl ?_); refine OpV.box rfl rfl rfl ?_; intro _; refine w ?_))
  exact VE.done x rfl hx rfl (Ent.trans Ent.re (push3 X R))

/-- What a read answers. -/
def BayD.read (D : BayD) (k a : Int) : (List UInt8 × Int) × BayD :=
  if D.refuse k = 0 then ((D.dv k).k.rd a, (D.ahead k 0).setIn k.toNat (D.dv k)) else (([], D.refuse k), D.ahead k 0)
def BayD.write (D : BayD) (k a : Int) (b : List UInt8) : Int × BayD :=
  if D.refuse k = 0 then (((D.dv k).k.wr a b).1, (D.ahead k 1).setIn k.toNat ⟨((D.dv k).k.wr a b).2, (D.dv k).worn, (D.dv k).left⟩) else (D.refuse k, D.ahead k 1)
def BayD.flush (D : BayD) (k : Int) : Int × BayD :=
  if D.refuse k = 0 then ((D.dv k).k.fl.1, (D.ahead k 2).setIn k.toNat ⟨(D.dv k).k.fl.2, (D.dv k).worn, (D.dv k).left⟩) else (D.refuse k, D.ahead k 2)

theorem bayread_ok {W : World} {R : List SProp} (b : Nat) (D : BayD) (k a : Int) :
    Does W Try.prog 36 [.pointer (some ⟨b, 0, none⟩), .int .i64 k, .int .i64 a] (BayR b D :: R) (β := Option Addr × Nat) (fun x => x.1 = none → (D.read k a).1.1.length = 0) (fun x => .tuple #[sliceB x (D.read k a).1.1, .int .u16 (D.read k a).1.2]) (fun x => OwnB x (D.read k a).1.1 :: BayR b (D.read k a).2 :: R) := by
  (refine Does.enter Try.func36 Try.ntmps36 rfl rfl ?_)
  (refine w ?_; repeat ((first | refine VO.step rfl rfl ?_ | refine VD.end rfl rfl rfl ?_ | refine VD.mid rfl rfl rfl ?_); refine OpV.box rfl rfl rfl ?_; intro _; refine w ?_))
  rename_i ba
  (first | refine VO.step rfl rfl ?_ | refine VD.end rfl rfl rfl ?_ | refine VD.mid rfl rfl rfl ?_)
  refine OpV.alloc ze_32 rfl rfl ?_
  intro bd
  (refine w ?_; repeat ((first | refine VO.step rfl rfl ?_ | refine VD.end rfl rfl rfl ?_ | refine VD.mid rfl rfl rfl ?_); refine OpV.box rfl rfl rfl ?_; intro _; refine w ?_))
  (first | refine VO.pure rfl rfl (PureAt.makeFuncN rfl) rfl ?_ | refine VD.take rfl rfl rfl (PureAt.makeFuncN rfl) rfl ?_ | refine VQ.pure rfl rfl (PureAt.makeFuncN rfl) rfl ?_ | refine VD.end rfl rfl rfl (OpV.pure (PureAt.makeFuncN rfl) rfl ?_))
  (refine w ?_; repeat ((first | refine VO.step rfl rfl ?_ | refine VD.end rfl rfl rfl ?_ | refine VD.mid rfl rfl rfl ?_); refine OpV.box rfl rfl rfl ?_; intro _; refine w ?_))
  refine VO.ent (Reord.ent (L := BayR b D :: Row ba 3 [.int .i64 a] :: Row bd 32 [.slice none 0 0] :: R) (by (repeat first | exact .refl | (apply Reord.cons; focus repeat first | exact .head | apply Del.tail) | exact .nil | apply Reord.drop))) ?_
  (first | refine VO.step rfl rfl ?_ | refine VD.end rfl rfl rfl ?_ | refine VD.mid rfl rfl rfl ?_)
  refine OpV.call rfl rfl (fun _ _ => by simp) (operate_ok (gd := 59) (gc := 58) (cp := #[.pointer (some ⟨ba, 0, none⟩), .pointer (some ⟨bd, 0, none⟩)]) (kf := id) (R := Row ba 3 [.int .i64 a] :: Row bd 32 [.slice none 0 0] :: R) b D k 0 (by decide) (fun _ _ => by simp) (fun _ _ => by simp) (fun X => reads_ok b) (fun r d hv hr X => readf_ok r d ba bd (D.dv k) (D.dv k).k a X)) Ent.refl rfl ?_
  intro y hy
  unfold BayD.read
  cases y with
  | none =>
    have hr : D.refuse k ≠ 0 := hy
    dsimp only [Option.elim_none]
    rw [if_neg hr]
    (refine w ?_; repeat ((first | refine VO.step rfl rfl ?_ | refine VD.end rfl rfl rfl ?_ | refine VD.mid rfl rfl rfl ?_); refine OpV.box rfl rfl rfl ?_; intro _; refine w ?_))
    refine VE.results2 (.inl rfl) (none, 0) rfl (ResIs.leaf tab_ok rfl rfl (by (focus repeat first | exact .head _ | apply List.Mem.tail)) rfl) (.tmp rfl) (fun _ => rfl) rfl ?_
    exact Ent.trans (Ent.re (L := BayR b (D.ahead k 0) :: R)) fun w hw => hw.ownNil 5 1
  | some x =>
    obtain ⟨hr, hx⟩ : D.refuse k = 0 ∧ (x.1 = none → ((D.dv k).k.rd a).1.length = 0) := hy
    dsimp only [Option.elim_some]
    rw [if_pos hr]
    (refine w ?_; repeat ((first | refine VO.step rfl rfl ?_ | refine VD.end rfl rfl rfl ?_ | refine VD.mid rfl rfl rfl ?_); refine OpV.box rfl rfl rfl ?_; intro _; refine w ?_))
    exact VE.results2 (.inl rfl) x rfl (ResIs.leaf tab_ok rfl rfl (by (focus repeat first | exact .head _ | apply List.Mem.tail)) rfl) (.tmp rfl) hx rfl Ent.re

theorem writef_ok {W : World} {R : List SProp} {ao : Option Addr} {cap : Nat} {l : List UInt8} (r d ba bd : Nat) (v : DevD) (k : DiskD) (a : Int) (hc : k.cache.length ≤ 1000000) (hl : RdsA W 1 ao l.length (bytes l) ∨ Rds W R 1 ao l.length (bytes l)) (X : List SProp) :
    Does W Try.prog 51 [.pointer (some ⟨r, 0, none⟩), .pointer (some ⟨ba, 0, none⟩), .pointer (some ⟨bd, 0, none⟩)] (Row r 72 (devCells d v) :: DiskR d k :: (X ++ (Row ba 3 [.int .i64 a] :: Row bd 32 [.slice ao l.length cap] :: R)))
      (β := Unit) (fun _ => True) (fun _ => .int .u16 (k.wr a l).1)
      (fun _ => Row r 72 (devCells d v) :: DiskR d (k.wr a l).2 :: (X ++ (Row ba 3 [.int .i64 a] :: Row bd 32 [.slice ao l.length cap] :: R))) := by
  (refine Does.enter Try.func51 Try.ntmps51 rfl rfl ?_)
  refine VC.ent (pull2 X R) ?_
  (refine w ?_; repeat ((first | refine VO.step rfl rfl ?_ | refine VD.end rfl rfl rfl ?_ | refine VD.mid rfl rfl rfl ?_); refine OpV.box rfl rfl rfl ?_; intro _; refine w ?_))
  (refine VC.drawn [] 6 [0, 1, 2, 3, 4, 5, 6, 7] _ rfl (by kernel_rfl) (by kernel_rfl) Ent.re ?_)
  (refine w ?_; repeat ((first | refine VO.step rfl rfl ?_ | refine VD.end rfl rfl rfl ?_ | refine VD.mid rfl rfl rfl ?_); refine OpV.box rfl rfl rfl ?_; intro _; refine w ?_))
  have hr : Rds W (Row ba 3 [.int .i64 a] :: Row bd 32 [.slice ao l.length cap] :: Row r 72 (devCells d v) :: (X ++ R)) 1 ao l.length (bytes l) := by
    rcases hl with h | h
    · exact h _
    · exact h.ent (fun w hw => Ent.dropAll (_ :: _ :: _ :: X) w hw)
  refine VD.ent (Reord.ent (L := DiskR d k :: Row ba 3 [.int .i64 a] :: Row bd 32 [.slice ao l.length cap] :: Row r 72 (devCells d v) :: (X ++ R)) (by (repeat first | exact .refl | (apply Reord.cons; focus repeat first | exact .head | apply Del.tail) | exact .nil | apply Reord.drop))) ?_
  ((first | refine VO.step rfl rfl ?_ | refine VD.end rfl rfl rfl ?_ | refine VD.mid rfl rfl rfl ?_); refine OpV.call rfl rfl (fun _ _ => by simp) (dwr_ok (b := l) d k a hc hr) Ent.refl rfl ?_)
  intro _ _
  (refine w ?_; repeat ((first | refine VO.step rfl rfl ?_ | refine VD.end rfl rfl rfl ?_ | refine VD.mid rfl rfl rfl ?_); refine OpV.box rfl rfl rfl ?_; intro _; refine w ?_))
  exact VE.done () rfl trivial rfl (Ent.trans Ent.re (push2 X R))

theorem baywrite_ok {W : World} {R : List SProp} {ao : Option Addr} {cap : Nat} {l : List UInt8} (b : Nat) (D : BayD) (k a : Int) (hc : (D.dv k).k.cache.length ≤ 1000000) (hl : RdsA W 1 ao l.length (bytes l) ∨ Rds W R 1 ao l.length (bytes l)) :
    Does1 W Try.prog 30 [.pointer (some ⟨b, 0, none⟩), .int .i64 k, .int .i64 a, .slice ao l.length cap] (BayR b D :: R) (.int .u16 (D.write k a l).1) (BayR b (D.write k a l).2 :: R) := by
  (refine Does.enter Try.func30 Try.ntmps30 rfl rfl ?_)
  (refine w ?_; repeat ((first | refine VO.step rfl rfl ?_ | refine VD.end rfl rfl rfl ?_ | refine VD.mid rfl rfl rfl ?_); refine OpV.box rfl rfl rfl ?_; intro _; refine w ?_))
  rename_i ba bd
  (first | refine VO.pure rfl rfl (PureAt.makeFuncN rfl) rfl ?_ | refine VD.take rfl rfl rfl (PureAt.makeFuncN rfl) rfl ?_ | refine VQ.pure rfl rfl (PureAt.makeFuncN rfl) rfl ?_ | refine VD.end rfl rfl rfl (OpV.pure (PureAt.makeFuncN rfl) rfl ?_))
  (refine w ?_; repeat ((first | refine VO.step rfl rfl ?_ | refine VD.end rfl rfl rfl ?_ | refine VD.mid rfl rfl rfl ?_); refine OpV.box rfl rfl rfl ?_; intro _; refine w ?_))
  refine VO.ent (Reord.ent (L := BayR b D :: Row ba 3 [.int .i64 a] :: Row bd 32 [.slice ao l.length cap] :: R) (by (repeat first | exact .refl | (apply Reord.cons; focus repeat first | exact .head | apply Del.tail) | exact .nil | apply Reord.drop))) ?_
  (first | refine VO.step rfl rfl ?_ | refine VD.end rfl rfl rfl ?_ | refine VD.mid rfl rfl rfl ?_)
  refine OpV.call rfl rfl (fun _ _ => by simp) (operate_ok (gd := 51) (gc := 50) (cp := #[.pointer (some ⟨ba, 0, none⟩), .pointer (some ⟨bd, 0, none⟩)]) (kf := fun k => (k.wr a l).2) (R := Row ba 3 [.int .i64 a] :: Row bd 32 [.slice ao l.length cap] :: R) b D k 1 (by decide) (fun _ _ => by simp) (fun _ _ => by simp) (fun X => writes_ok b) (fun r d hv hr X => writef_ok r d ba bd (D.dv k) (D.dv k).k a hc hl X)) Ent.refl rfl ?_
  intro y hy
  unfold BayD.write
  cases y with
  | none =>
    have hr : D.refuse k ≠ 0 := hy
    dsimp only [Option.elim_none]
    rw [if_neg hr]
    (refine w ?_; repeat ((first | refine VO.step rfl rfl ?_ | refine VD.end rfl rfl rfl ?_ | refine VD.mid rfl rfl rfl ?_); refine OpV.box rfl rfl rfl ?_; intro _; refine w ?_))
    (refine VE.done1 rfl ?_ ?_)
    · rfl
    · exact Ent.re
  | some x =>
    obtain ⟨hr, hx⟩ : D.refuse k = 0 ∧ True := hy
    dsimp only [Option.elim_some]
    rw [if_pos hr]
    (refine w ?_; repeat ((first | refine VO.step rfl rfl ?_ | refine VD.end rfl rfl rfl ?_ | refine VD.mid rfl rfl rfl ?_); refine OpV.box rfl rfl rfl ?_; intro _; refine w ?_))
    (refine VE.done1 rfl ?_ ?_)
    · rfl
    · exact Ent.re

theorem flushf2_ok {W : World} {R : List SProp} (r d : Nat) (v : DevD) (k : DiskD) (X : List SProp) :
    Does W Try.prog 53 [.pointer (some ⟨r, 0, none⟩)] (Row r 72 (devCells d v) :: DiskR d k :: (X ++ R))
      (β := Unit) (fun _ => True) (fun _ => .int .u16 k.fl.1) (fun _ => Row r 72 (devCells d v) :: DiskR d k.fl.2 :: (X ++ R)) := by
  (refine Does.enter Try.func53 Try.ntmps53 rfl rfl ?_)
  (refine w ?_; repeat ((first | refine VO.step rfl rfl ?_ | refine VD.end rfl rfl rfl ?_ | refine VD.mid rfl rfl rfl ?_); refine OpV.box rfl rfl rfl ?_; intro _; refine w ?_))
  (((first | refine VO.step rfl rfl ?_ | refine VD.end rfl rfl rfl ?_ | refine VD.mid rfl rfl rfl ?_); refine OpV.call rfl rfl (fun _ _ => by simp) (dfl_ok d k) Ent.re rfl ?_); intro _ _)
  (refine w ?_; repeat ((first | refine VO.step rfl rfl ?_ | refine VD.end rfl rfl rfl ?_ | refine VD.mid rfl rfl rfl ?_); refine OpV.box rfl rfl rfl ?_; intro _; refine w ?_))
  exact VE.done () rfl trivial rfl Ent.re
theorem bayflush_ok {W : World} {R : List SProp} (b : Nat) (D : BayD) (k : Int) :
    Does1 W Try.prog 31 [.pointer (some ⟨b, 0, none⟩), .int .i64 k] (BayR b D :: R) (.int .u16 (D.flush k).1) (BayR b (D.flush k).2 :: R) := by
  (refine Does.enter Try.func31 Try.ntmps31 rfl rfl ?_)
  (refine w ?_; repeat ((first | refine VO.step rfl rfl ?_ | refine VD.end rfl rfl rfl ?_ | refine VD.mid rfl rfl rfl ?_); refine OpV.box rfl rfl rfl ?_; intro _; refine w ?_))
  (first | refine VO.step rfl rfl ?_ | refine VD.end rfl rfl rfl ?_ | refine VD.mid rfl rfl rfl ?_)
  refine OpV.call rfl rfl (fun _ _ => by simp) (operate_ok (gd := 53) (gc := 52) (cp := #[]) (kf := fun k => k.fl.2) (R := R) b D k 2 (by decide) (fun _ _ => by simp) (fun _ _ => by simp) (fun X => flushes_ok b) (fun r d hv hr X => flushf2_ok r d (D.dv k) (D.dv k).k X)) Ent.refl rfl ?_
  intro y hy
  unfold BayD.flush
  cases y with
  | none =>
    have hr : D.refuse k ≠ 0 := hy
    dsimp only [Option.elim_none]
    rw [if_neg hr]
    (refine w ?_; repeat ((first | refine VO.step rfl rfl ?_ | refine VD.end rfl rfl rfl ?_ | refine VD.mid rfl rfl rfl ?_); refine OpV.box rfl rfl rfl ?_; intro _; refine w ?_))
    (refine VE.done1 rfl ?_ ?_)
    · rfl
    · exact Ent.re
  | some x =>
    obtain ⟨hr, hx⟩ : D.refuse k = 0 ∧ True := hy
    dsimp only [Option.elim_some]
    rw [if_pos hr]
    (refine w ?_; repeat ((first | refine VO.step rfl rfl ?_ | refine VD.end rfl rfl rfl ?_ | refine VD.mid rfl rfl rfl ?_); refine OpV.box rfl rfl rfl ?_; intro _; refine w ?_))
    (refine VE.done1 rfl ?_ ?_)
    · rfl
    · exact Ent.re
end Go.Proofs.Ytbmcgmicnfbckaa
