/- Package bay: New. -/
import Derived.Test.YtbmcgmicnfbckaaBe
set_option maxRecDepth 8000
set_option linter.unusedVariables false
set_option linter.unusedSimpArgs false
set_option linter.unusedSectionVars false
namespace Go.Proofs.Ytbmcgmicnfbckaa
open Go.RowKit Go.Sl
attribute [local irreducible] Own

def intsI (l : List Int) : List Value := l.map fun n => .int .i64 n
@[simp] theorem intsI_length (l : List Int) : (intsI l).length = l.length := by simp [intsI]
theorem intsI_one (l : List Int) : ∀ u ∈ intsI l, u.oneCell' = true := by
  intro u hu; obtain ⟨c, _, rfl⟩ := List.mem_map.1 hu; rfl
theorem intsI_get (l : List Int) (i : Nat) (h : i < l.length) : (intsI l)[i]? = some (.int .i64 l[i]) := by simp [intsI, h]

def sizeOk (n : Int) : Bool := decide (0 ≤ n ∧ n ≤ 8192)
def bayE (l : List Int) : Int := if l.length < 1 ∨ 17 < l.length then 1 else if l.all sizeOk then 0 else 40
def slotOf (n : Int) : SlotD := if n = 0 then ⟨none, none, none⟩ else ⟨some ⟨.blank n.toNat, false, 0⟩, none, none⟩
def BayD.new (l : List Int) : BayD := ⟨l.map slotOf, false, -1, ⟨0, 0, 0⟩⟩
def noneP : SlotP := ⟨none, none, none⟩

theorem st_slots : SliceT Try.prog 67 74 (.agg #[.pointer none, .pointer none, .pointer none]) 3 24 := ⟨by kernel_rfl, by kernel_rfl, rfl, by simp [Value.cells, Value.oneCell']⟩

theorem addSlot {W : World} {A B : SProp} (dn : List SlotP) (s : SlotP) (R : List SProp) : Ent W (devRes s.in_ :: devRes s.aside :: devRes s.coming :: A :: B :: (dn.map slotRes ++ R)) (A :: B :: ((dn ++ [s]).map slotRes ++ R)) := fun w hw => by
  have h := Holds.nest (L := [devRes s.in_, devRes s.aside, devRes s.coming]) hw
  refine Holds.perm ?_ h
  have p1 : (A :: B :: ((dn ++ [s]).map slotRes ++ R)).Perm (A :: B :: slotRes s :: (dn.map slotRes ++ R)) := by
    refine List.Perm.cons _ (List.Perm.cons _ ?_)
    rw [List.map_append, List.append_assoc]
    exact List.perm_middle
  refine List.Perm.trans ?_ p1.symm
  exact List.Perm.append_right (dn.map slotRes ++ R) (show [slotRes s, A, B].Perm [A, B, slotRes s] from List.perm_append_comm (l₁ := [slotRes s]) (l₂ := [A, B]))
theorem addNone {W : World} {A B : SProp} (dn : List SlotP) (R : List SProp) : Ent W (A :: B :: (dn.map slotRes ++ R)) (A :: B :: ((dn ++ [noneP]).map slotRes ++ R)) :=
  (((devNone _).trans (devNone _)).trans (devNone _)).trans (addSlot dn noneP R)

set_option maxHeartbeats 1000000 in
theorem baynew_ok {W : World} {R : List SProp} {ao : Option Addr} {cap : Nat} {l : List Int} (hr : Rds W R 1 ao l.length (intsI l)) (hlen : l.length ≤ 1000000000) :
    Does W Try.prog 11 [.slice ao l.length cap] R (β := Option Nat) (fun x => x.isSome = decide (bayE l = 0)) (fun x => .tuple #[.pointer (x.map fun b => ⟨b, 0, none⟩), .int .u16 (bayE l)]) (fun x => x.elim R fun b => BayR b (BayD.new l) :: R) := by
  (refine Does.enter Try.func11 Try.ntmps11 rfl rfl ?_)
  (refine w ?_; repeat ((first | refine VO.step rfl rfl ?_ | refine VD.end rfl rfl rfl ?_ | refine VD.mid rfl rfl rfl ?_); refine OpV.box rfl rfl rfl ?_; intro _; refine w ?_))
  unfold bayE
  ((first | refine VO.split rfl rfl rfl ?_ ?_ | refine VD.split rfl rfl rfl ?_ ?_) <;> intro hb)
  · have h : l.length < 1 := by have := of_decide_eq_true hb; omega
    (refine w ?_; repeat ((first | refine VO.step rfl rfl ?_ | refine VD.end rfl rfl rfl ?_ | refine VD.mid rfl rfl rfl ?_); refine OpV.box rfl rfl rfl ?_; intro _; refine w ?_))
    refine VE.done none rfl (by rw [if_pos (Or.inl h)]; rfl) (by rw [if_pos (Or.inl h)]; rfl) Ent.refl
  have h1 : ¬ l.length < 1 := by have := of_decide_eq_false hb; omega
  (refine w ?_; repeat ((first | refine VO.step rfl rfl ?_ | refine VD.end rfl rfl rfl ?_ | refine VD.mid rfl rfl rfl ?_); refine OpV.box rfl rfl rfl ?_; intro _; refine w ?_))
  (refine VC.cond rfl rfl ?_ ?_ <;> intro hc)
  · have h : 17 < l.length := by have : (17 : Int) < l.length := (by simpa using hc); omega
    (refine w ?_; repeat ((first | refine VO.step rfl rfl ?_ | refine VD.end rfl rfl rfl ?_ | refine VD.mid rfl rfl rfl ?_); refine OpV.box rfl rfl rfl ?_; intro _; refine w ?_))
    refine VE.done none rfl (by rw [if_pos (Or.inr h)]; rfl) (by rw [if_pos (Or.inr h)]; rfl) Ent.refl
  have h2 : ¬ 17 < l.length := by have : (l.length : Int) ≤ 17 := (by simpa using hc); omega
  rw [if_neg (by omega)]
  (refine w ?_; repeat ((first | refine VO.step rfl rfl ?_ | refine VD.end rfl rfl rfl ?_ | refine VD.mid rfl rfl rfl ?_); refine OpV.box rfl rfl rfl ?_; intro _; refine w ?_))
  (first | refine VO.step rfl rfl ?_ | refine VD.end rfl rfl rfl ?_ | refine VD.mid rfl rfl rfl ?_)
  refine OpV.makeSlice st_slots rfl rfl (by omega) (by simp only [maxLen]; omega) rfl ?_
  intro nb
  have e0 : (madeCells (Value.agg #[.pointer none, .pointer none, .pointer none]).cells (l.length * 3)).toList = (List.replicate l.length noneP).flatMap slotCells := by
    have := madeCells_same (.pointer none) 3 (l.length * 3) (by decide)
    have e : ∀ n : Nat, (List.replicate n noneP).flatMap slotCells = List.replicate (n * 3) (.pointer none) := by
      intro n
      induction n with
      | zero => rfl
      | succ n ih => rw [List.replicate_succ, List.flatMap_cons, ih, Nat.add_mul, Nat.one_mul, Nat.add_comm, ← List.replicate_append_replicate]; rfl
    rw [e]; exact this
  rw [e0]
  (apply VO.pure rfl rfl; apply PureAt.build sb_69 rfl; (simp [buildX, setL, Value.cells]; rfl); rfl)
  (refine w ?_; repeat ((first | refine VO.step rfl rfl ?_ | refine VD.end rfl rfl rfl ?_ | refine VD.mid rfl rfl rfl ?_); refine OpV.box rfl rfl rfl ?_; intro _; refine w ?_))
  rename_i b
  refine VC.loop (α := List SlotP) (fun dn => dn.length ≤ l.length ∧ dn.map SlotP.D = (l.map slotOf).take dn.length ∧ (l.take dn.length).all sizeOk = true)
    (fun dn => bayRow b (BayD.new l) ⟨nb, 0, none⟩ l.length :: Own 74 3 (.slice (some ⟨nb, 0, none⟩) l.length l.length) l.length ((dn ++ List.replicate (l.length - dn.length) noneP).flatMap slotCells) :: (dn.map slotRes ++ R))
    (fun dn => [(4, .pointer (some ⟨b, 0, none⟩)), (22, .slice ao l.length cap), (23, .int .i64 l.length), (24, .int .i64 dn.length)]) (fun dn => l.length - dn.length) rfl [] ⟨Nat.zero_le _, rfl, rfl⟩ (by simp only [List.length_nil, Nat.sub_zero, List.nil_append]; exact Ent.re) ⟨rfl, rfl, rfl, rfl, trivial⟩ ?_
  rintro dn ⟨hdn, hdD, hall⟩
  (refine w ?_; repeat ((first | refine VO.step rfl rfl ?_ | refine VD.end rfl rfl rfl ?_ | refine VD.mid rfl rfl rfl ?_); refine OpV.box rfl rfl rfl ?_; intro _; refine w ?_))
  (refine VC.cond rfl rfl ?_ ?_ <;> intro hc)
  · have hlt : dn.length < l.length := by have := of_decide_eq_true hc; omega
    obtain ⟨ka, rfl⟩ : ∃ ka, ao = some ka := by cases ao with | none => have := hr.nil rfl; omega | some ka => exact ⟨ka, rfl⟩
    have hr2 := fun A B => hr.ent (Ent.dropAll (W := W) (R := R) (A :: B :: dn.map slotRes))
    (refine w ?_; repeat ((first | refine VO.step rfl rfl ?_ | refine VD.end rfl rfl rfl ?_ | refine VD.mid rfl rfl rfl ?_); refine OpV.box rfl rfl rfl ?_; intro _; refine w ?_))
    (first | refine VO.pure rfl rfl (.ldRc tab_ok rfl rfl (hr2 _ _) (intsI_get l dn.length hlt)) rfl ?_ | refine VD.take rfl rfl rfl (.ldRc tab_ok rfl rfl (hr2 _ _) (intsI_get l dn.length hlt)) rfl ?_ | refine VQ.pure rfl rfl (.ldRc tab_ok rfl rfl (hr2 _ _) (intsI_get l dn.length hlt)) rfl ?_ | refine VD.end rfl rfl rfl (OpV.pure (.ldRc tab_ok rfl rfl (hr2 _ _) (intsI_get l dn.length hlt)) rfl ?_))
    (refine w ?_; repeat ((first | refine VO.step rfl rfl ?_ | refine VD.end rfl rfl rfl ?_ | refine VD.mid rfl rfl rfl ?_); refine OpV.box rfl rfl rfl ?_; intro _; refine w ?_))
    generalize hn : l[dn.length] = n at *
    have hrep : List.replicate (l.length - dn.length) noneP = noneP :: List.replicate (l.length - (dn.length + 1)) noneP := by rw [show l.length - dn.length = (l.length - (dn.length + 1)) + 1 by omega, List.replicate_succ]
    have hstep : ∀ s : SlotP, s.D = slotOf n → (dn ++ [s]).map SlotP.D = (l.map slotOf).take (dn ++ [s]).length := by
      intro s hs
      rw [List.length_append, List.length_singleton, List.map_append, hdD, List.take_succ_eq_append_getElem (by simpa using hlt)]
      simp [hs, hn]
    have hall2 : ∀ s : SlotP, sizeOk n = true → (l.take (dn ++ [s]).length).all sizeOk = true := by
      intro s hs
      rw [List.length_append, List.length_singleton, List.take_succ_eq_append_getElem hlt, List.all_append, hall, hn]; simp [hs]
    (refine VC.cond rfl rfl ?_ ?_ <;> intro hc)
    · have h0 : n = 0 := by simpa using hc
      (refine w ?_; repeat ((first | refine VO.step rfl rfl ?_ | refine VD.end rfl rfl rfl ?_ | refine VD.mid rfl rfl rfl ?_); refine OpV.box rfl rfl rfl ?_; intro _; refine w ?_))
      refine VE.round (dn ++ [noneP]) ⟨by rw [List.length_append, List.length_singleton]; omega, hstep _ (by rw [h0]; rfl), hall2 _ (by rw [h0]; rfl)⟩ (by rw [List.length_append, List.length_singleton]; omega) ⟨rfl, rfl, rfl, asV rfl (by simp), trivial⟩ ?_
      rw [hrep, List.length_append, List.length_singleton, List.append_assoc]
      exact addNone dn R
    · have h0 : ¬ n = 0 := by simpa using hc
      (refine w ?_; repeat ((first | refine VO.step rfl rfl ?_ | refine VD.end rfl rfl rfl ?_ | refine VD.mid rfl rfl rfl ?_); refine OpV.box rfl rfl rfl ?_; intro _; refine w ?_))
      by_cases hs : sizeOk n = true
      · obtain ⟨g1, g2⟩ : 0 ≤ n ∧ n ≤ 8192 := of_decide_eq_true hs
        obtain ⟨m, rfl⟩ := Int.eq_ofNat_of_zero_le g1
        ((first | refine VO.step rfl rfl ?_ | refine VD.end rfl rfl rfl ?_ | refine VD.mid rfl rfl rfl ?_); refine OpV.call rfl rfl (fun _ _ => by simp) (disknew_ok m (by omega) (by omega)) Ent.re rfl ?_)
        intro d _
        (refine w ?_; repeat ((first | refine VO.step rfl rfl ?_ | refine VD.end rfl rfl rfl ?_ | refine VD.mid rfl rfl rfl ?_); refine OpV.box rfl rfl rfl ?_; intro _; refine w ?_))
        (apply VO.pure rfl rfl; apply PureAt.build sb_72 rfl; (simp [buildX, setL, Value.cells]; rfl); rfl)
        (refine w ?_; repeat ((first | refine VO.step rfl rfl ?_ | refine VD.end rfl rfl rfl ?_ | refine VD.mid rfl rfl rfl ?_); refine OpV.box rfl rfl rfl ?_; intro _; refine w ?_))
        rename_i nr
        rw [hrep]
        (first | refine VO.step rfl rfl ?_ | refine VD.end rfl rfl rfl ?_ | refine VD.mid rfl rfl rfl ?_)
        refine OpV.stO2 tab_ok rfl rfl rfl rfl (by (repeat first | exact .head | apply Hole.tail)) (slots_len 0 (by decide)) (slots_in (some ⟨nr, d, ⟨⟨List.replicate m zeroSec, [], false⟩, false, 0⟩⟩)) ?_
        (refine w ?_; repeat ((first | refine VO.step rfl rfl ?_ | refine VD.end rfl rfl rfl ?_ | refine VD.mid rfl rfl rfl ?_); refine OpV.box rfl rfl rfl ?_; intro _; refine w ?_))
        refine VE.round (dn ++ [⟨some ⟨nr, d, ⟨⟨List.replicate m zeroSec, [], false⟩, false, 0⟩⟩, none, none⟩]) ⟨by rw [List.length_append, List.length_singleton]; omega, hstep _ ?_, hall2 _ hs⟩ (by rw [List.length_append, List.length_singleton]; omega) ⟨rfl, rfl, rfl, asV rfl (by simp), trivial⟩ ?_
        · unfold slotOf; rw [if_neg h0]; rfl
        · rw [List.length_append, List.length_singleton, List.append_assoc]
          refine Ent.trans (Ent.re (L := devRow ⟨nr, d, ⟨⟨List.replicate m zeroSec, [], false⟩, false, 0⟩⟩ :: DiskR d ⟨List.replicate m zeroSec, [], false⟩ :: bayRow b (BayD.new l) ⟨nb, 0, none⟩ l.length :: Own 74 3 (.slice (some ⟨nb, 0, none⟩) l.length l.length) l.length ((dn ++ ⟨some ⟨nr, d, ⟨⟨List.replicate m zeroSec, [], false⟩, false, 0⟩⟩, none, none⟩ :: List.replicate (l.length - (dn.length + 1)) noneP).flatMap slotCells) :: (dn.map slotRes ++ R))) ?_
          refine Ent.trans (devIn ⟨nr, d, ⟨⟨List.replicate m zeroSec, [], false⟩, false, 0⟩⟩ _) ?_
          refine Ent.trans (devNone _) ?_
          refine Ent.trans (devNone _) ?_
          refine Ent.trans (Ent.re (L := devRes (some ⟨nr, d, ⟨⟨List.replicate m zeroSec, [], false⟩, false, 0⟩⟩) :: devRes none :: devRes none :: bayRow b (BayD.new l) ⟨nb, 0, none⟩ l.length :: Own 74 3 (.slice (some ⟨nb, 0, none⟩) l.length l.length) l.length ((dn ++ ⟨some ⟨nr, d, ⟨⟨List.replicate m zeroSec, [], false⟩, false, 0⟩⟩, none, none⟩ :: List.replicate (l.length - (dn.length + 1)) noneP).flatMap slotCells) :: (dn.map slotRes ++ R))) ?_
          exact addSlot dn ⟨some ⟨nr, d, ⟨⟨List.replicate m zeroSec, [], false⟩, false, 0⟩⟩, none, none⟩ R
      · have hs2 : n < 1 ∨ 8192 < n := by
          have : ¬ (0 ≤ n ∧ n ≤ 8192) := fun h => hs (decide_eq_true h)
          omega
        (((first | refine VO.step rfl rfl ?_ | refine VD.end rfl rfl rfl ?_ | refine VD.mid rfl rfl rfl ?_); refine OpV.call rfl rfl (fun _ _ => by simp) (disknew_bad n hs2) Ent.re rfl ?_); intro _ _)
        (refine w ?_; repeat ((first | refine VO.step rfl rfl ?_ | refine VD.end rfl rfl rfl ?_ | refine VD.mid rfl rfl rfl ?_); refine OpV.box rfl rfl rfl ?_; intro _; refine w ?_))
        have hno : l.all sizeOk = false := by
          rw [Bool.eq_false_iff]
          intro h
          rw [List.all_eq_true] at h
          exact hs (h n (by rw [← hn]; exact List.getElem_mem hlt))
        refine VE.done none rfl (by simp [hno]) (by simp [hno]) ?_
        exact Ent.dropAll (_ :: _ :: dn.map slotRes)
  · have hge : dn.length = l.length := by have := of_decide_eq_false hc; omega
    (refine w ?_; repeat ((first | refine VO.step rfl rfl ?_ | refine VD.end rfl rfl rfl ?_ | refine VD.mid rfl rfl rfl ?_); refine OpV.box rfl rfl rfl ?_; intro _; refine w ?_))
    rw [hge, List.take_of_length_le (Nat.le_refl _)] at hall
    refine VE.done (some b) rfl (by simp [hall]) (by simp [hall]) ?_
    rw [hge, List.take_of_length_le (by simp)] at hdD
    rw [hge, Nat.sub_self, List.replicate_zero, List.append_nil, ← hge]
    exact BayR.shut (D := BayD.new l) hdD.symm (by omega)
end Go.Proofs.Ytbmcgmicnfbckaa
