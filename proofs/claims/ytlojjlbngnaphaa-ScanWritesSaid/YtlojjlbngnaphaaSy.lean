/- The engine: regions that draw their order, where what holds of memory hangs on which writes have come. Generic: no program is named. -/
import Derived.Test.YtlojjlbngnaphaaSi
set_option maxRecDepth 8000
set_option linter.unusedVariables false
set_option linter.unusedSimpArgs false
set_option linter.unusedSectionVars false
namespace Go.Sl
open Go Go.RowKit
section
variable {P : Program} {ops : Array Oper} {Q : Exit → Act → World → Prop} {md : Region.Mode} {I : Array Bool → World → Prop}
def wpAnyI (P : Program) (md : Region.Mode) (ops : Array Oper) (Q : Exit → Act → World → Prop) (I : Array Bool → World → Prop) : Nat → Array Bool → Act → World → Prop
  | 0, listed, a, w => Region.ready md ops listed = [] ∧ Q .normal a w
  | fuel + 1, listed, a, w =>
    (Region.ready md ops listed = [] → Q .normal a w) ∧
    ∀ i ∈ Region.ready md ops listed, wpOp P ops Q i (fun a' w' => I (listed.setIfInBounds i true) w' ∧ wpAnyI P md ops Q I fuel (listed.setIfInBounds i true) a' w') a w
theorem wpAny_of_I : ∀ (fuel : Nat) (listed : Array Bool) (a : Act) (w : World), wpAnyI P md ops Q I fuel listed a w → wpAny P md ops Q fuel listed a w
  | 0, _, _, _, h => h
  | fuel + 1, _, _, _, h => ⟨h.1, fun i hi => wpOp_mono (fun a' w' h' => wpAny_of_I fuel _ a' w' h'.2) (h.2 i hi)⟩
theorem wpAnyI_first {i : Nat} {oi : Oper} {v : Value} {Si : World → Prop} (hi : ops[i]? = some oi) (hsel : ∀ (j : Nat) (o : Oper) cs b, ops[j]? = some o → o.op ≠ .select cs b)
    (hQ : ∀ c a w, ¬ Q (.panic c) a w)
    (hIi : ∀ listed w, HeadInv md ops ops.size listed → listed.getD i true = false → I listed w → Si w)
    (hI1 : ∀ listed w, I listed w → I (listed.setIfInBounds i true) w) (hI2 : ∀ listed w, I (listed.setIfInBounds i true) w → I listed w) :
    ∀ (fuel : Nat) (listed : Array Bool) (a : Act) (w : World), HeadInv md ops ops.size listed →
      (∀ j oj, ops[j]? = some oj → j ≠ i → listed.getD j true = false → (∀ e ∈ oj.after, Region.binds md e = true → e.on ≠ i) → oi.apart ops oj = true) →
      i ∈ Region.ready md ops listed → YieldsIf P ops Si oi v a → I listed w →
      wpAnyI P md ops Q I fuel (listed.setIfInBounds i true) (a.put oi.dst v) w → wpAnyI P md ops Q I (fuel + 1) listed a w := by
  intro fuel
  induction fuel with
  | zero =>
    intro listed a w inv _ hr hy hS H
    refine ⟨fun h => (by rw [h] at hr; cases hr), fun j hj => ?_⟩
    by_cases hji : j = i
    · subst hji; exact hy.wpOp hi (hIi _ _ inv (mem_ready.1 hr).1 hS) ⟨hI1 _ _ hS, H⟩
    · have := ready_mono hj hji
      rw [H.1] at this
      cases this
  | succ fuel ih =>
    intro listed a w inv hfree hr hy hS H
    refine ⟨fun h => (by rw [h] at hr; cases hr), fun j hj => ?_⟩
    by_cases hji : j = i
    · subst hji; exact hy.wpOp hi (hIi _ _ inv (mem_ready.1 hr).1 hS) ⟨hI1 _ _ hS, H⟩
    · have h1 := H.2 j (ready_mono hj hji)
      obtain ⟨hjun, oj, hoj, hall⟩ := mem_ready.1 hj
      have hjlt : j < ops.size := (Array.getElem?_eq_some_iff.1 hoj).1
      have hnot : ∀ e ∈ oj.after, Region.binds md e = true → e.on ≠ i := fun e he hb heq => by
        have h1 := hall e he hb
        have h0 := (mem_ready.1 hr).1
        rw [heq] at h1
        rw [getD_both h0] at h1
        cases h1
      have h2 := wpOp_putIf hoj (hfree j oj hoj hji hjun hnot) (fun cs b => hsel i oi cs b hi) (fun cs b => hsel j oj cs b hoj) (fun c a w h => absurd h (hQ c _ w)) hy h1
      have hfree' : ∀ k ok, ops[k]? = some ok → k ≠ i → (listed.setIfInBounds j true).getD k true = false →
          (∀ e ∈ ok.after, Region.binds md e = true → e.on ≠ i) → oi.apart ops ok = true := fun k ok hk hki hun hno => by
        refine hfree k ok hk hki ?_ hno
        by_cases hjk : j = k
        · subst hjk; exact hjun
        · rw [getD_set_ne true hjk] at hun; exact hun
      refine wpOp_mono (fun a' w' h3 => ?_) h2
      have hc : (listed.setIfInBounds i true).setIfInBounds j true = (listed.setIfInBounds j true).setIfInBounds i true := Array.setIfInBounds_comm _ _ (Ne.symm hji)
      have h4 := h3.2.1
      have h5 := h3.2.2
      rw [hc] at h4 h5
      exact ⟨hI2 _ _ h4, ih (listed.setIfInBounds j true) a' w' (inv.set hj hjlt) hfree' (ready_mono hr (Ne.symm hji)) h3.1 (hI2 _ _ h4) h5⟩
/-! ### A schedule, by levels -/
/-- How far the writes have come: the levels of those listed. -/
def levN (tv : List (Nat × Nat)) (listed : Array Bool) : Nat := tv.foldl (fun k p => bif listed.getD p.1 false then max k p.2 else k) 0
def wpSchedI (P : Program) (ops : Array Oper) (Q : Exit → Act → World → Prop) (I : Array Bool → World → Prop) (Sy : Nat → World → Prop) (mv : List Nat) : List Nat → Array Bool → Act → World → Prop
  | [], _, a, w => Q .normal a w
  | i :: r, listed, a, w =>
    (mv.contains i = true ∧ wpOp P ops (calmQ Q) i (fun a' w' => I (listed.setIfInBounds i true) w' ∧ wpSchedI P ops Q I Sy mv r (listed.setIfInBounds i true) a' w') a w) ∨
    (mv.contains i = false ∧ ∃ o v, ops[i]? = some o ∧ YieldsIf P ops (Sy i) o v a ∧ wpSchedI P ops Q I Sy mv r (listed.setIfInBounds i true) (a.put o.dst v) w)
def headI (ops : Array Oper) (mv : List Nat) : List Nat → Array Bool → Bool
  | [], listed => (Region.ready .any ops listed).isEmpty
  | i :: r, listed =>
    bif mv.contains i then oneB ops listed i && headI ops mv r (listed.setIfInBounds i true) else
    Region.free .any ops listed i && (Region.ready .any ops listed).contains i && headI ops mv r (listed.setIfInBounds i true)
theorem sched_I {mv : List Nat} {Sy : Nat → World → Prop} (hs : Region.noSelect ops = true)
    (hIi : ∀ i listed w, mv.contains i = false → i < ops.size → HeadInv .any ops ops.size listed → listed.getD i true = false → I listed w → Sy i w)
    (hI1 : ∀ i listed w, mv.contains i = false → I listed w → I (listed.setIfInBounds i true) w) (hI2 : ∀ i listed w, mv.contains i = false → I (listed.setIfInBounds i true) w → I listed w) :
    ∀ (r : List Nat) (listed : Array Bool) (a : Act) (w : World), HeadInv .any ops ops.size listed → headI ops mv r listed = true → I listed w → wpSchedI P ops Q I Sy mv r listed a w → wpAnyI P .any ops (calmQ Q) I r.length listed a w
  | [], listed, a, w, _, h, _, hw => by
    simp only [headI, List.isEmpty_iff] at h
    exact ⟨h, rfl, hw⟩
  | i :: r, listed, a, w, inv, h, hS, hw => by
    unfold headI at h
    cases h2 : mv.contains i with
    | true =>
      rw [h2] at h
      simp only [cond_true, Bool.and_eq_true] at h
      have hr := oneB_spec h.1
      rcases hw with ⟨_, hw⟩ | ⟨hm, _⟩
      · refine ⟨fun h0 => (by rw [hr] at h0; cases h0), fun j hj => ?_⟩
        have hj' := hj
        rw [hr, List.mem_singleton] at hj'
        subst hj'
        obtain ⟨_, oj, hoj, _⟩ := mem_ready.1 hj
        exact wpOp_mono (fun a' w' h' => ⟨h'.1, sched_I hs hIi hI1 hI2 r _ a' w' (inv.set hj (Array.getElem?_eq_some_iff.1 hoj).1) h.2 h'.1 h'.2⟩) hw
      · rw [h2] at hm; cases hm
    | false =>
      rw [h2] at h
      simp only [cond_false, Bool.and_eq_true] at h
      have hr : i ∈ Region.ready .any ops listed := by simpa using h.1.2
      rcases hw with ⟨hm, _⟩ | ⟨_, o, v, ho, hy, hw⟩
      · rw [h2] at hm; cases hm
      · have hlt : i < ops.size := (Array.getElem?_eq_some_iff.1 ho).1
        exact wpAnyI_first ho (Region.noSelect_spec hs) (fun c a w hc => by cases hc.1) (fun l w a b c => hIi i l w h2 hlt a b c) (fun l w => hI1 i l w h2) (fun l w => hI2 i l w h2) r.length listed a w inv (Region.free_spec ho h.1.1) hr hy hS (sched_I hs hIi hI1 hI2 r _ _ w (inv.set hr hlt) h.2 (hI1 i _ _ h2 hS) hw)
theorem lev_le {tv : List (Nat × Nat)} {listed : Array Bool} {k : Nat} (h : ∀ p ∈ tv, listed.getD p.1 false = true → p.2 ≤ k) : levN tv listed ≤ k := by
  have key : ∀ (l : List (Nat × Nat)) (m : Nat), m ≤ k → (∀ p ∈ l, listed.getD p.1 false = true → p.2 ≤ k) → l.foldl (fun k p => bif listed.getD p.1 false then max k p.2 else k) m ≤ k := by
    intro l
    induction l with
    | nil => exact fun m hm _ => hm
    | cons p l ih =>
      intro m hm hl
      rw [List.foldl_cons]
      refine ih _ ?_ (fun q hq => hl q (.tail _ hq))
      cases hp : listed.getD p.1 false with
      | true => have := hl p (.head _) hp; simp only [cond_true]; omega
      | false => exact hm
  exact key tv 0 (Nat.zero_le _) h
theorem lev_set {tv : List (Nat × Nat)} {listed : Array Bool} {i : Nat} (h : ∀ p ∈ tv, p.1 ≠ i) : levN tv (listed.setIfInBounds i true) = levN tv listed := by
  have key : ∀ (l : List (Nat × Nat)) (m : Nat), (∀ p ∈ l, p.1 ≠ i) → l.foldl (fun k p => bif (listed.setIfInBounds i true).getD p.1 false then max k p.2 else k) m = l.foldl (fun k p => bif listed.getD p.1 false then max k p.2 else k) m := by
    intro l
    induction l with
    | nil => exact fun m _ => rfl
    | cons p l ih =>
      intro m hl
      rw [List.foldl_cons, List.foldl_cons, getD_set_ne false (Ne.symm (hl p (.head _)))]
      exact ih _ (fun q hq => hl q (.tail _ hq))
  exact key tv 0 h
theorem getD_replicate_false2 {n k : Nat} : (Array.replicate n false).getD k false = false := by
  simp only [Array.getD, Array.size_replicate]
  split
  · simp
  · rfl
def waitsT (ops : Array Oper) : Nat → Nat → Nat → Bool
  | 0, _, _ => false
  | k + 1, m, i => match ops[m]? with
    | some o => o.after.any fun e => Region.binds .any e && (e.on == i || waitsT ops k e.on i)
    | none => false
theorem waits_listed {listed : Array Bool} (inv : HeadInv .any ops ops.size listed) : ∀ (k m i : Nat), waitsT ops k m i = true → listed.getD m false = true → listed.getD i false = true
  | 0, _, _, h, _ => by cases h
  | k + 1, m, i, h, hm => by
    unfold waitsT at h
    cases ho : ops[m]? with
    | none => rw [ho] at h; cases h
    | some o =>
      rw [ho] at h
      simp only [Array.any_eq_true', Bool.and_eq_true, Bool.or_eq_true, beq_iff_eq] at h
      obtain ⟨e, he, hb, h1⟩ := h
      have h2 := inv.closed m o ho hm e he hb
      rcases h1 with h1 | h1
      · rw [← h1]; exact h2
      · exact waits_listed inv k _ i h1 h2
def lvOf (lv : List (Nat × Nat)) (top i : Nat) : Nat := match lv.find? (fun p => Nat.beq p.1 i) with
  | some p => p.2
  | none => top
def drawL (ops : Array Oper) (mv : List Nat) (tv lv : List (Nat × Nat)) (top : Nat) (ord : List Nat) : Bool :=
  Nat.beq ord.length ops.size && Region.noSelect ops && headI ops mv ord (Array.replicate ops.size false) && (tv.all fun p => mv.contains p.1) &&
  ((List.range ops.size).all fun i => mv.contains i || tv.all fun p => Nat.ble p.2 (lvOf lv top i) || waitsT ops ops.size p.1 i)
variable {W : World} {n : Nat} {c : Code} {H H' : List SProp} {RL : Nat → List SProp} {mv r : List Nat} {tv lv : List (Nat × Nat)} {top i d : Nat} {listed : Array Bool} {f : Fr}
variable {dst : Option Tmp} {ty_ : TypeId} {pos : String} {after : Array Edge} {guard : Option (Nat × Bool)}
def VL (W : World) (P : Program) (n : Nat) (c : Code) (RL : Nat → List SProp) (mv : List Nat) (tv lv : List (Nat × Nat)) (top : Nat) (r : List Nat) (listed : Array Bool) (Q : Exit → Act → World → Prop) (H : List SProp) (f : Fr) : Prop :=
  ∀ t w, Knows n f t → Holds W H w → wpSchedI P (regOps c).toArray Q (fun listed w => Holds W (RL (levN tv listed)) w) (fun i => Holds W (RL (lvOf lv top i))) mv r listed ⟨t, []⟩ w
theorem VC.drawnL (RL : Nat → List SProp) (mv : List Nat) (tv lv : List (Nat × Nat)) (top : Nat) (ord : List Nat) (hc : regDraw c = some true) (hm : P.follows .mixedOrders = true) (hB : drawL (regOps c).toArray mv tv lv top ord = true)
    (hR : Ent W H (RL 0)) (hE : ∀ k, Ent W (RL k) (RL (k + 1))) (h : VL W P n c RL mv tv lv top ord (Array.replicate (regOps c).length false) Q H f) : VC W P n c Q H f := by
  have hmono : ∀ a b, Ent W (RL a) (RL (a + b)) := by
    intro a b
    induction b with
    | zero => exact Ent.refl
    | succ b ih => exact Ent.trans ih (hE _)
  unfold VC
  cases c <;> simp [regDraw] at hc
  subst hc
  intro t w hk hw
  have h' := h t w.drew hk hw.drew
  simp only [regOps, Array.toArray_toList, Array.length_toList] at h' hB
  simp only [drawL, Bool.and_eq_true] at hB
  obtain ⟨⟨⟨⟨hl, hs⟩, hh⟩, ht⟩, hi⟩ := hB
  have hl' := Nat.eq_of_beq_eq_true hl
  have htv : ∀ i, mv.contains i = false → ∀ p ∈ tv, p.1 ≠ i := by
    intro i hi p hp e
    have := List.all_eq_true.1 ht p hp
    rw [e, hi] at this; cases this
  have h1 := sched_I (P := P) (Q := Q) (I := fun listed w => Holds W (RL (levN tv listed)) w) (Sy := fun i => Holds W (RL (lvOf lv top i))) (mv := mv) hs
    (fun i listed w hm hlt inv hun hI => by
      have h2 := List.all_eq_true.1 hi i (List.mem_range.2 hlt)
      rw [hm, Bool.false_or] at h2
      have h3 : levN tv listed ≤ lvOf lv top i := lev_le fun p hp hpl => by
        have h4 := List.all_eq_true.1 h2 p hp
        rw [Bool.or_eq_true] at h4
        rcases h4 with h4 | h4
        · exact Nat.le_of_ble_eq_true h4
        · have := waits_listed inv _ _ _ h4 hpl
          rw [getD_both hun] at this; cases this
      have h5 := hmono (levN tv listed) (lvOf lv top i - levN tv listed) w hI
      rwa [Nat.add_sub_cancel' h3] at h5)
    (fun i listed w hm hI => by show Holds W (RL (levN tv _)) w; rw [lev_set (htv i hm)]; exact hI)
    (fun i listed w hm hI => by have : Holds W (RL (levN tv (listed.setIfInBounds i true))) w := hI; rw [lev_set (htv i hm)] at this; exact this)
    ord _ _ w.drew (HeadInv.start _) hh (by
      show Holds W (RL (levN tv _)) w.drew
      have h0 : ∀ m, levN tv (Array.replicate m false) = 0 := fun m => Nat.le_zero.1 (lev_le fun p hp hpl => by rw [getD_replicate_false2] at hpl; cases hpl)
      rw [h0]; exact hR _ hw.drew) h'
  rw [hl'] at h1
  refine Code.wp_mono ?_ (wp_region_any (Q := calmQ Q) hm (wpAny_of_I _ _ _ _ h1))
  rintro e a w ⟨rfl, hq⟩
  exact hq
theorem VL.nil (h : VE W n Q .normal H f) : VL W P n c RL mv tv lv top [] listed Q H f := by
  unfold VE at h
  exact fun t w hk hw => h t w hk hw
theorem VL.take {op : Op} {v : Value} (ho : (regOps c)[i]? = some { dst := some d, op, type := ty_, pos, after, guard }) (hm : mv.contains i = false) (hg : wantX (regOps c) guard f = some true) (k : Nat) (hl : lvOf lv top i = k)
    (hp : PureAt W P n (RL k) f { dst := some d, op, type := ty_, pos, after, guard } v) (hd : Nat.blt d n = true) (h : VL W P n c RL mv tv lv top r (listed.setIfInBounds i true) Q H ((d, v) :: f)) : VL W P n c RL mv tv lv top (i :: r) listed Q H f := by
  subst hl
  unfold PureAt at hp
  intro t w hk hw
  exact .inr ⟨hm, _, v, by simpa using ho, .inl ⟨hk.wanted (o := { dst := some d, op, type := ty_, pos, after, guard }) hg, fun w hS => hp t w hk hS⟩, h _ w (hk.put hd) hw⟩
theorem VL.mid {o : Oper} (ho : (regOps c)[i]? = some o) (hm : mv.contains i = true) (hg : wantX (regOps c) o.guard f = some true) (k : Nat) (hl : levN tv (listed.setIfInBounds i true) = k)
    (h : OpV W P n o (calmQ Q) H f (fun H' f' => Ent W H' (RL k) ∧ VL W P n c RL mv tv lv top r (listed.setIfInBounds i true) Q H' f')) : VL W P n c RL mv tv lv top (i :: r) listed Q H f := by
  subst hl
  unfold OpV at h
  intro t w hk hw
  refine .inl ⟨hm, ?_⟩
  unfold wpOp
  simp only [List.getElem?_toArray, ho]
  rw [if_pos (hk.wanted hg)]
  exact .inl (h t w hk hw _ (fun H' f' hN t' w' hk' hw' => ⟨hN.1 w' hw', hN.2 t' w' hk' hw'⟩))
theorem VL.re {v : Value} (k : Nat) (v' : Value) (hl : look f k = some v) (e : v = v') (h : VL W P n c RL mv tv lv top r listed Q H ((k, v') :: f)) : VL W P n c RL mv tv lv top r listed Q H f := fun t w hk hw => h t w (hk.again (e ▸ hl)) hw
end
attribute [irreducible] VL
end Go.Sl
