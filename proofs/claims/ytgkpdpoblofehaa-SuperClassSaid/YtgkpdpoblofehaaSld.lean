/- Regions that draw their order and write: by a schedule that the kernel checks. Loads of whole structs. Generic: no program is named. -/
import Derived.Test.YtgkpdpoblofehaaSlv
import Derived.StillTail
set_option maxRecDepth 8000
set_option linter.unusedVariables false
set_option linter.unusedSimpArgs false
set_option linter.unusedSectionVars false
namespace Go.Sl
open Go.RowKit

section
variable {P : Program} {ops : Array Oper} {Q : Exit → Act → World → Prop} {md : Region.Mode} {S : World → Prop}

/-- Whatever order is picked, and S holds behind each operation before n. -/
def wpAnyT (P : Program) (md : Region.Mode) (ops : Array Oper) (Q : Exit → Act → World → Prop) (S : World → Prop) (n : Nat) : Nat → Array Bool → Act → World → Prop
  | 0, listed, a, w => Region.ready md ops listed = [] ∧ Q .normal a w
  | fuel + 1, listed, a, w =>
    (Region.ready md ops listed = [] → Q .normal a w) ∧
    ∀ i ∈ Region.ready md ops listed, wpOp P ops Q i (fun a' w' => (i < n → S w') ∧ wpAnyT P md ops Q S n fuel (listed.setIfInBounds i true) a' w') a w

theorem wpAny_of_T {n : Nat} : ∀ (fuel : Nat) (listed : Array Bool) (a : Act) (w : World), wpAnyT P md ops Q S n fuel listed a w → wpAny P md ops Q fuel listed a w
  | 0, _, _, _, h => h
  | fuel + 1, _, _, _, h => ⟨h.1, fun i hi => wpOp_mono (fun a' w' h' => wpAny_of_T fuel _ a' w' h'.2) (h.2 i hi)⟩

/-- The tail: either there is none, or it waits for all. -/
def TailOk (md : Region.Mode) (ops : Array Oper) (n : Nat) : Prop := ops.size ≤ n ∨ (Region.sinkB md ops n = true ∧ Region.chainB md ops n = true ∧ n < ops.size)

theorem ready_head {n i j : Nat} {listed : Array Bool} (ht : TailOk md ops n) (inv : HeadInv md ops n listed) (hi : i < n) (hun : listed.getD i true = false) (hj : j ∈ Region.ready md ops listed) : j < n := by
  rcases ht with h | ⟨hs, hc, hn⟩
  · obtain ⟨_, o, ho, _⟩ := mem_ready.1 hj
    have := (Array.getElem?_eq_some_iff.1 ho).1
    omega
  · rcases Nat.lt_or_ge j n with h | h
    · exact h
    · exact absurd hj (tail_waits hs hc hn inv _ i rfl hi hun j h)

theorem wpAnyT_first {n i : Nat} {oi : Oper} {v : Value} (ht : TailOk md ops n) (hi : ops[i]? = some oi) (hsel : ∀ (j : Nat) (o : Oper) cs b, ops[j]? = some o → o.op ≠ .select cs b)
    (hQ : ∀ c a w, ¬ Q (.panic c) a w) (hin : i < n) :
    ∀ (fuel : Nat) (listed : Array Bool) (a : Act) (w : World), HeadInv md ops n listed →
      (∀ j oj, ops[j]? = some oj → j ≠ i → listed.getD j true = false → (∀ e ∈ oj.after, Region.binds md e = true → e.on ≠ i) → oi.apart ops oj = true) →
      i ∈ Region.ready md ops listed → YieldsIf P ops S oi v a → S w →
      wpAnyT P md ops Q S n fuel (listed.setIfInBounds i true) (a.put oi.dst v) w → wpAnyT P md ops Q S n (fuel + 1) listed a w := by
  intro fuel
  induction fuel with
  | zero =>
    intro listed a w inv _ hr hy hS H
    refine ⟨fun h => (by rw [h] at hr; cases hr), fun j hj => ?_⟩
    by_cases hji : j = i
    · subst hji; exact hy.wpOp hi hS ⟨fun _ => hS, H⟩
    · have := ready_mono hj hji
      rw [H.1] at this
      cases this
  | succ fuel ih =>
    intro listed a w inv hfree hr hy hS H
    refine ⟨fun h => (by rw [h] at hr; cases hr), fun j hj => ?_⟩
    by_cases hji : j = i
    · subst hji; exact hy.wpOp hi hS ⟨fun _ => hS, H⟩
    · have hjn := ready_head ht inv hin (mem_ready.1 hr).1 hj
      have h1 := H.2 j (ready_mono hj hji)
      obtain ⟨hjun, oj, hoj, hall⟩ := mem_ready.1 hj
      have hnot : ∀ e ∈ oj.after, Region.binds md e = true → e.on ≠ i := fun e he hb heq => by
        have h1 := hall e he hb
        have h0 := (mem_ready.1 hr).1
        rw [heq] at h1
        rw [getD_both h0] at h1
        cases h1
      have h2 := wpOp_putIf hoj (hfree j oj hoj hji hjun hnot) (fun cs b => hsel i oi cs b hi) (fun cs b => hsel j oj cs b hoj) (fun c a w h => absurd h (hQ c _ w)) hy h1
      have hfree' : ∀ k ok, ops[k]? = some ok → k ≠ i → (listed.setIfInBounds j true).getD k true = false →
          (∀ e ∈ ok.after, Region.binds md e = true → e.on ≠ i) → oi.apart ops ok = true := fun k ok hk hki hun hno => by
        refine hfree k ok hk hki ?_ hno
        by_cases hjk : j = k
        · subst hjk; exact hjun
        · rw [getD_set_ne true hjk] at hun; exact hun
      refine wpOp_mono (fun a' w' h3 => ⟨h3.2.1, ih (listed.setIfInBounds j true) a' w' (inv.set hj hjn) hfree' (ready_mono hr (Ne.symm hji)) h3.1 (h3.2.1 hjn) ?_⟩) h2
      rw [Array.setIfInBounds_comm _ _ hji]
      exact h3.2.2

/-! ### A schedule -/

def mvB (mv : List Nat) (tl i : Nat) : Bool := mv.contains i || Nat.ble tl i

def oneB (ops : Array Oper) (listed : Array Bool) (i : Nat) : Bool :=
  match Region.ready .any ops listed with
  | [j] => Nat.beq i j
  | _ => false
theorem oneB_spec {listed : Array Bool} {i : Nat} (h : oneB ops listed i = true) : Region.ready .any ops listed = [i] := by
  unfold oneB at h
  split at h
  · rename_i j hj
    have : i = j := by simpa using h
    rw [hj, this]
  · cases h
def tailB (ops : Array Oper) : List Nat → Array Bool → Bool
  | [], listed => (Region.ready .any ops listed).isEmpty
  | i :: r, listed => oneB ops listed i && tailB ops r (listed.setIfInBounds i true)
def headB (ops : Array Oper) (mv : List Nat) (tl : Nat) : List Nat → Array Bool → Bool
  | [], listed => (Region.ready .any ops listed).isEmpty
  | i :: r, listed =>
    bif Nat.ble tl i then tailB ops (i :: r) listed && r.all (Nat.ble tl ·) else
    bif mv.contains i then oneB ops listed i && headB ops mv tl r (listed.setIfInBounds i true) else
    Region.free .any ops listed i && (Region.ready .any ops listed).contains i && headB ops mv tl r (listed.setIfInBounds i true)
def drawB (ops : Array Oper) (mv : List Nat) (tl : Nat) (ord : List Nat) : Bool :=
  Nat.beq ord.length ops.size && Region.noSelect ops && (Nat.ble ops.size tl || (Region.sinkB .any ops tl && Region.chainB .any ops tl && Nat.blt tl ops.size)) && headB ops mv tl ord (Array.replicate ops.size false)

/-- No panic, and what is asked at the end. -/
def calmQ (Q : Exit → Act → World → Prop) : Exit → Act → World → Prop := fun e a w => e = .normal ∧ Q .normal a w

def wpSched (P : Program) (ops : Array Oper) (Q : Exit → Act → World → Prop) (S : World → Prop) (mv : List Nat) (tl : Nat) : List Nat → Act → World → Prop
  | [], a, w => Q .normal a w
  | i :: r, a, w =>
    (mvB mv tl i = true ∧ wpOp P ops (calmQ Q) i (fun a' w' => (i < tl → S w') ∧ wpSched P ops Q S mv tl r a' w') a w) ∨
    (mvB mv tl i = false ∧ ∃ o v, ops[i]? = some o ∧ YieldsIf P ops S o v a ∧ wpSched P ops Q S mv tl r (a.put o.dst v) w)

theorem mvB_of_tail {mv : List Nat} {tl i : Nat} (h : Nat.ble tl i = true) : mvB mv tl i = true := by simp [mvB, h]

theorem sched_tail {mv : List Nat} {tl : Nat} : ∀ (r : List Nat) (listed : Array Bool) (a : Act) (w : World), tailB ops r listed = true → r.all (Nat.ble tl ·) = true → wpSched P ops Q S mv tl r a w → wpAnyT P .any ops (calmQ Q) S tl r.length listed a w
  | [], listed, a, w, h, _, hw => by
    simp only [tailB, List.isEmpty_iff] at h
    exact ⟨h, rfl, hw⟩
  | i :: r, listed, a, w, h, ha, hw => by
    simp only [tailB, Bool.and_eq_true] at h
    simp only [List.all_cons, Bool.and_eq_true] at ha
    have hr := oneB_spec h.1
    rcases hw with ⟨_, hw⟩ | ⟨hm, _⟩
    · refine ⟨fun h0 => (by rw [hr] at h0; cases h0), fun j hj => ?_⟩
      rw [hr, List.mem_singleton] at hj
      subst hj
      exact wpOp_mono (fun a' w' h' => ⟨h'.1, sched_tail r _ a' w' h.2 ha.2 h'.2⟩) hw
    · rw [mvB_of_tail ha.1] at hm; cases hm

theorem sched_head {mv : List Nat} {tl : Nat} (ht : TailOk .any ops tl) (hs : Region.noSelect ops = true) : ∀ (r : List Nat) (listed : Array Bool) (a : Act) (w : World), HeadInv .any ops tl listed → headB ops mv tl r listed = true → S w → wpSched P ops Q S mv tl r a w → wpAnyT P .any ops (calmQ Q) S tl r.length listed a w
  | [], listed, a, w, _, h, _, hw => by
    simp only [headB, List.isEmpty_iff] at h
    exact ⟨h, rfl, hw⟩
  | i :: r, listed, a, w, inv, h, hS, hw => by
    unfold headB at h
    cases h1 : Nat.ble tl i with
    | true =>
      rw [h1] at h
      simp only [cond_true, Bool.and_eq_true] at h
      exact sched_tail (i :: r) listed a w h.1 (by simp only [List.all_cons, h1, h.2, Bool.and_self]) hw
    | false =>
      have hin : i < tl := by
        rcases Nat.lt_or_ge i tl with h' | h'
        · exact h'
        · rw [Nat.ble_eq_true_of_le h'] at h1; cases h1
      rw [h1] at h
      cases h2 : mv.contains i with
      | true =>
        rw [h2] at h
        simp only [cond_true, cond_false, Bool.and_eq_true] at h
        have hr := oneB_spec h.1
        rcases hw with ⟨_, hw⟩ | ⟨hm, _⟩
        · refine ⟨fun h0 => (by rw [hr] at h0; cases h0), fun j hj => ?_⟩
          have hj' := hj
          rw [hr, List.mem_singleton] at hj'
          subst hj'
          exact wpOp_mono (fun a' w' h' => ⟨h'.1, sched_head ht hs r _ a' w' (inv.set hj hin) h.2 (h'.1 hin) h'.2⟩) hw
        · simp only [mvB, h2, Bool.true_or] at hm; cases hm
      | false =>
        rw [h2] at h
        simp only [cond_false, Bool.and_eq_true] at h
        have hr : i ∈ Region.ready .any ops listed := by simpa using h.1.2
        rcases hw with ⟨hm, _⟩ | ⟨_, o, v, ho, hy, hw⟩
        · simp only [mvB, h1, h2, Bool.or_self] at hm; cases hm
        · exact wpAnyT_first ht ho (Region.noSelect_spec hs) (fun c a w hc => by cases hc.1) hin r.length listed a w inv (Region.free_spec ho h.1.1) hr hy hS (sched_head ht hs r _ _ w (inv.set hr hin) h.2 hS hw)

theorem HeadInv.start (n : Nat) : HeadInv md ops n (Array.replicate ops.size false) := by
  refine ⟨by simp, fun j oj _ h => ?_, fun t _ ht => by simp [ht]⟩
  rw [getD_replicate_false] at h
  cases h

theorem wp_region_sched {id : Nat} {mv : List Nat} {tl : Nat} {ord : List Nat} {a : Act} {w : World} (hm : P.follows .mixedOrders = true) (hB : drawB ops mv tl ord = true) (hS : S w.drew)
    (h : wpSched P ops Q S mv tl ord a w.drew) : (Code.region id ops true).wp P Q a w := by
  simp only [drawB, Bool.and_eq_true, Bool.or_eq_true] at hB
  obtain ⟨⟨⟨hl, hs⟩, ht⟩, hh⟩ := hB
  have hl' : ord.length = ops.size := by simpa using hl
  have ht' : TailOk .any ops tl := by
    rcases ht with h | ⟨⟨h1, h2⟩, h3⟩
    · exact .inl (Nat.le_of_ble_eq_true h)
    · exact .inr ⟨h1, h2, by simpa [Nat.blt_eq] using h3⟩
  have h1 := sched_head (P := P) (Q := Q) (S := S) ht' hs ord _ a w.drew (HeadInv.start tl) hh hS h
  rw [hl'] at h1
  refine Code.wp_mono ?_ (wp_region_any (Q := calmQ Q) hm (wpAny_of_T _ _ _ _ h1))
  rintro e a w ⟨rfl, hq⟩
  exact hq

/-- A schedule: what can be taken first, else the one that comes up. -/
def autoSched (ops : Array Oper) (mv : List Nat) (tl : Nat) : Nat → Array Bool → List Nat
  | 0, _ => []
  | k + 1, listed =>
    let r := Region.ready .any ops listed
    match r.find? fun i => !mvB mv tl i with
    | some i => i :: autoSched ops mv tl k (listed.setIfInBounds i true)
    | none => match r with
      | i :: _ => i :: autoSched ops mv tl k (listed.setIfInBounds i true)
      | [] => []
end

section
variable {W : World} {P : Program} {n : Nat} {c : Code} {Q : Exit → Act → World → Prop} {H H' L R : List SProp} {f F : Fr} {mv ord r : List Nat} {tl i : Nat}
variable {dst : Option Tmp} {d : Nat} {ty_ : TypeId} {pos : String} {after : Array Edge} {guard : Option (Nat × Bool)}

def VD (W : World) (P : Program) (n : Nat) (c : Code) (R : List SProp) (mv : List Nat) (tl : Nat) (r : List Nat) (Q : Exit → Act → World → Prop) (H : List SProp) (f : Fr) : Prop :=
  ∀ t w, Knows n f t → Holds W H w → wpSched P (regOps c).toArray Q (Holds W R) mv tl r ⟨t, []⟩ w

theorem VC.drawn (mv : List Nat) (tl : Nat) (ord : List Nat) (R : List SProp) (hc : regDraw c = some true) (hm : P.follows .mixedOrders = true) (hB : drawB (regOps c).toArray mv tl ord = true) (hR : Ent W H R)
    (h : VD W P n c R mv tl ord Q H f) : VC W P n c Q H f := by
  unfold VC
  cases c <;> simp [regDraw] at hc
  subst hc
  intro t w hk hw
  have h' := h t w.drew hk hw.drew
  simp only [regOps, Array.toArray_toList] at h' hB
  exact wp_region_sched hm hB (hR _ hw.drew) h'

theorem VD.nil (h : VE W n Q .normal H f) : VD W P n c R mv tl [] Q H f := by
  unfold VE at h
  exact fun t w hk hw => h t w hk hw

theorem VD.take {op : Op} {v : Value} (ho : (regOps c)[i]? = some { dst := some d, op, type := ty_, pos, after, guard }) (hm : mvB mv tl i = false) (hg : wantX (regOps c) guard f = some true)
    (hp : PureAt W P n R f { dst := some d, op, type := ty_, pos, after, guard } v) (hd : Nat.blt d n = true) (h : VD W P n c R mv tl r Q H ((d, v) :: f)) : VD W P n c R mv tl (i :: r) Q H f := by
  unfold PureAt at hp
  intro t w hk hw
  refine .inr ⟨hm, _, v, by simpa using ho, .inl ⟨hk.wanted (o := { dst := some d, op, type := ty_, pos, after, guard }) hg, fun w hS => hp t w hk hS⟩, h _ w (hk.put hd) hw⟩
theorem VD.skip {o : Oper} (ho : (regOps c)[i]? = some o) (hm : mvB mv tl i = false) (hg : wantX (regOps c) o.guard f = some false) (hd : o.dst = some d) (hn : Nat.blt d n = true) (h : VD W P n c R mv tl r Q H ((d, undef) :: f)) : VD W P n c R mv tl (i :: r) Q H f := by
  intro t w hk hw
  refine .inr ⟨hm, _, undef, by simpa using ho, .inr ⟨hk.wanted hg, rfl⟩, ?_⟩
  rw [hd]
  exact h _ w (hk.put hn) hw
theorem VD.skipM {o : Oper} (ho : (regOps c)[i]? = some o) (hm : mvB mv tl i = true) (hR : Ent W H R) (hg : wantX (regOps c) o.guard f = some false) (hd : o.dst = some d) (hn : Nat.blt d n = true) (h : VD W P n c R mv tl r Q H ((d, undef) :: f)) : VD W P n c R mv tl (i :: r) Q H f := by
  intro t w hk hw
  refine .inl ⟨hm, ?_⟩
  unfold wpOp
  simp only [List.getElem?_toArray, ho]
  rw [if_neg (by rw [show Region.wanted o (yielded (regOps c).toArray (Act.mk t []).tmps) = false from hk.wanted hg]; simp), hd]
  exact ⟨fun _ => hR _ hw, h _ _ (hk.put hn) hw⟩
theorem VD.mid {o : Oper} (ho : (regOps c)[i]? = some o) (hm : mvB mv tl i = true) (hg : wantX (regOps c) o.guard f = some true) (h : OpV W P n o (calmQ Q) H f (fun H' f' => Ent W H' R ∧ VD W P n c R mv tl r Q H' f')) :
    VD W P n c R mv tl (i :: r) Q H f := by
  unfold OpV at h
  intro t w hk hw
  refine .inl ⟨hm, ?_⟩
  unfold wpOp
  simp only [List.getElem?_toArray, ho]
  rw [if_pos (hk.wanted hg)]
  exact .inl (h t w hk hw _ fun H' f' hN t' w' hk' hw' => ⟨fun _ => hN.1 _ hw', hN.2 t' w' hk' hw'⟩)
theorem VD.end {o : Oper} (ho : (regOps c)[i]? = some o) (hm : Nat.ble tl i = true) (hg : wantX (regOps c) o.guard f = some true) (h : OpV W P n o (calmQ Q) H f (fun H' f' => VD W P n c R mv tl r Q H' f')) :
    VD W P n c R mv tl (i :: r) Q H f := by
  unfold OpV at h
  intro t w hk hw
  refine .inl ⟨mvB_of_tail hm, ?_⟩
  unfold wpOp
  simp only [List.getElem?_toArray, ho]
  rw [if_pos (hk.wanted hg)]
  exact .inl (h t w hk hw _ fun H' f' hN t' w' hk' hw' => ⟨fun hlt => absurd hlt (Nat.not_lt.2 (Nat.le_of_ble_eq_true hm)), hN t' w' hk' hw'⟩)
theorem VD.split {s : Nat} {o : Oper} {b : Bool} (ho : (regOps c)[i]? = some o) (hs : guardSlot (regOps c) o.guard = some s) (hl : look f s = some (.bool b))
    (ht : b = true → VD W P n c R mv tl (i :: r) Q H ((s, .bool true) :: f)) (hf : b = false → VD W P n c R mv tl (i :: r) Q H ((s, .bool false) :: f)) : VD W P n c R mv tl (i :: r) Q H f := by
  intro t w hk hw
  cases b with
  | true => exact ht rfl t w (hk.again hl) hw
  | false => exact hf rfl t w (hk.again hl) hw
theorem VD.gT {s : Nat} {o : Oper} {b : Bool} (ho : (regOps c)[i]? = some o) (hs : guardSlot (regOps c) o.guard = some s) (hl : look f s = some (.bool b)) (hb : b = true) (h : VD W P n c R mv tl (i :: r) Q H ((s, .bool true) :: f)) : VD W P n c R mv tl (i :: r) Q H f :=
  fun t w hk hw => h t w (hk.again (hb ▸ hl)) hw
theorem VD.gF {s : Nat} {o : Oper} {b : Bool} (ho : (regOps c)[i]? = some o) (hs : guardSlot (regOps c) o.guard = some s) (hl : look f s = some (.bool b)) (hb : b = false) (h : VD W P n c R mv tl (i :: r) Q H ((s, .bool false) :: f)) : VD W P n c R mv tl (i :: r) Q H f :=
  fun t w hk hw => h t w (hk.again (hb ▸ hl)) hw
theorem VD.re {v : Value} (d : Nat) (v' : Value) (hl : look f d = some v) (e : v = v') (h : VD W P n c R mv tl r Q H ((d, v') :: f)) : VD W P n c R mv tl r Q H f := fun t w hk hw => h t w (hk.again (e ▸ hl)) hw
theorem VD.know {p : Prop} (hh : ∀ w, Holds W H w → p) (h : p → VD W P n c R mv tl r Q H f) : VD W P n c R mv tl r Q H f := fun t w hk hw => h (hh w hw) t w hk hw
theorem VD.obtain {α : Sort _} {G : α → List SProp} (hh : ∀ w, Holds W H w → ∃ x, Holds W (G x) w) (h : ∀ x, VD W P n c R mv tl r Q (G x) f) : VD W P n c R mv tl r Q H f :=
  fun t w hk hw => let ⟨x, hx⟩ := hh w hw; h x t w hk hx
theorem VD.ent (hh : Ent W H H') (h : VD W P n c R mv tl r Q H' f) : VD W P n c R mv tl r Q H f := fun t w hk hw => h t w hk (hh w hw)

/-! ### Loads of whole structs, addresses in what is read -/

theorem PureAt.loadA {T : TabData} {x : Operand} {s sz : TypeId} {a : Addr} {cs : List Value} (hT : T.ok P = true) (hx : evalX f x = some (.pointer (some a))) (hs : assoc T.aggs s = some sz) (hl : cs.length = sz)
    (hc : ∀ w, Holds W H w → ∀ j v, cs[j]? = some v → w.cell? (a.add j) = some v) : PureAt W P n H f { dst, op := .load s x, type := ty_, pos, after, guard } (.agg cs.toArray) := by
    unfold PureAt
    intro t w hk hw
    obtain ⟨h1, h2⟩ := T.agg_ok hT hs
    subst hl
    simp [execOp, hk.eval hx, Instr.loadAt, Instr.sureAddr, loadVar, Sem.run_bind, h1, h2, run_loadCells_list w a cs (hc w hw)]
/-- A struct that lies in a row of ours. -/
theorem PureAt.ldA {T : TabData} {x : Operand} {s U sz : TypeId} {b off : Nat} {cs vs : List Value} (hT : T.ok P = true) (hx : evalX f x = some (.pointer (some ⟨b, off, none⟩))) (hs : assoc T.aggs s = some sz) (m : Row b U cs ∈ H) (hv : (cs.drop off).take sz = vs) (hl : vs.length = sz) :
    PureAt W P n H f { dst, op := .load s x, type := ty_, pos, after, guard } (.agg vs.toArray) :=
  PureAt.loadA hT hx hs hl fun w hw j v hj => by
    rw [Addr.add_lit]
    refine hw.cell m ?_
    rw [← hv, List.getElem?_take] at hj
    split at hj
    · rw [List.getElem?_drop] at hj; exact hj
    · cases hj
/-- A struct that lies in a slice that is read. -/
theorem PureAt.ldRA {T : TabData} {x : Operand} {s sz : TypeId} {a : Addr} {z k j : Nat} {xs vs : List Value} (hT : T.ok P = true) (hx : evalX f x = some (.pointer (some (a.add j)))) (hs : assoc T.aggs s = some sz) (hr : Rds W H z (some a) k xs) (hv : (xs.drop j).take sz = vs) (hl : vs.length = sz) :
    PureAt W P n H f { dst, op := .load s x, type := ty_, pos, after, guard } (.agg vs.toArray) :=
  PureAt.loadA hT hx hs hl fun w hw i v hi => by
    rw [Addr_add_add]
    refine hr.cell w hw a rfl _ _ ?_
    rw [← hv, List.getElem?_take] at hi
    split at hi
    · rw [List.getElem?_drop] at hi; exact hi
    · cases hi
/-- A cell that lies in a slice of whatever is read. -/
theorem PureAt.ldRc {T : TabData} {x : Operand} {s : TypeId} {a : Addr} {z k j : Nat} {xs : List Value} {v : Value} (hT : T.ok P = true) (hx : evalX f x = some (.pointer (some (a.add j)))) (hl : assoc T.leaf s = some ()) (hr : Rds W H z (some a) k xs) (hj : xs[j]? = some v) :
    PureAt W P n H f { dst, op := .load s x, type := ty_, pos, after, guard } v := PureAt.ldc hT hx hl fun w hw => hr.cell w hw a rfl j v hj
theorem PureAt.fieldAddrA {T : TabData} {x : Operand} {a : Addr} {j off : Nat} {s : TypeId} {i : Nat} (hT : T.ok P = true) (hx : evalX f x = some (.pointer (some (a.add j)))) (hF : T.fld s i = some off) :
    PureAt W P n H f { dst, op := .fieldAddr s x i, type := ty_, pos, after, guard } (.pointer (some (a.add (j + off)))) := by
  unfold PureAt
  intro t w hk _
  have hF := T.fld_ok hT hF
  unfold fldOff at hF
  split at hF
  · rename_i fs hu
    split at hF
    · rename_i fd hfd
      split at hF
      · cases hF
      · rename_i hz
        cases hF
        have hs : (sizeOf fd.type).run P w = .ok (P.cellsOf fd.type) w := by
          unfold Program.cellsOf at hz ⊢
          cases hi : P.info? fd.type with
          | none => simp [hi] at hz
          | some ti => simp [sizeOf, typeInfo, hi]
        simp [execOp, hk.eval hx, Instr.fieldAt, run_underlying hu, hfd, Instr.sureAddr, fieldPlace, hs, hz, Addr_add_add]
    · cases hF
  · cases hF

theorem PureAt.min2 {x y : Operand} {t : Array TypeId} {k k' : IntKind} {a b : Int} (hx : evalX f x = some (.int k a)) (hy : evalX f y = some (.int k' b)) :
    PureAt W P n H f { dst, op := .call { callee := .builtin .min, args := #[x, y], argTypes := t }, type := ty_, pos, after, guard } (.int k (min a b)) := by
    unfold PureAt
    intro tm w hk _
    unfold execOp
    simp [resolve, invoke, builtin, hk.eval hx, hk.eval hy, Builtin.min_, Builtin.min2]
    split <;> omega
theorem PureAt.max2 {x y : Operand} {t : Array TypeId} {k k' : IntKind} {a b : Int} (hx : evalX f x = some (.int k a)) (hy : evalX f y = some (.int k' b)) :
    PureAt W P n H f { dst, op := .call { callee := .builtin .max, args := #[x, y], argTypes := t }, type := ty_, pos, after, guard } (.int k (max a b)) := by
    unfold PureAt
    intro tm w hk _
    unfold execOp
    simp [resolve, invoke, builtin, hk.eval hx, hk.eval hy, Builtin.max_, Builtin.max2]
    split <;> omega

/-! ### Operations that look at the frame alone, by one evaluator -/

def cmpX (T : TabData) (op : BinOp) (s : TypeId) (u v : Value) : Option Value :=
  match u, v with
  | .int k a, .int k' b => if k = k' then binI op k a b else none
  | .pointer a, .pointer none => match assoc T.descs s with
    | some (0, _) => eqB op a.isNone
    | _ => none
  | .slice a _ _, .slice none _ _ => match assoc T.sls s with
    | some _ => eqB op a.isNone
    | none => none
  | .bool a, .bool b => match assoc T.descs s with
    | some (1, _) => eqB op (a == b)
    | _ => none
  | _, _ => none
def builtX (T : TabData) (b : Builtin) (f : Fr) : List Operand → List TypeId → Option Value
  | [x], [t] => match b, evalX f x, assoc T.sls t with
    | .len, some (.slice _ k _), some _ => some (.int .i64 (k : Int))
    | .cap, some (.slice _ _ k), some _ => some (.int .i64 (k : Int))
    | _, _, _ => none
  | [x, y], _ => match b, evalX f x, evalX f y with
    | .min, some (.int k a), some (.int _ b) => some (.int k (min a b))
    | .max, some (.int k a), some (.int _ b) => some (.int k (max a b))
    | _, _, _ => none
  | _, _ => none
def pureX (T : TabData) (f : Fr) : Op → Option Value
  | .move x => evalX f x
  | .assign x => evalX f x
  | .nilCheck x => match evalX f x with
    | some (.pointer (some a)) => some (.pointer (some a))
    | some (.func (.func g) p q) => some (.func (.func g) p q)
    | _ => none
  | .pick x y z => match evalX f x with
    | some (.bool true) => evalX f y
    | some (.bool false) => evalX f z
    | _ => none
  | .extract x i => match evalX f x with
    | some (.tuple vs) => vs[i]?
    | _ => none
  | .fieldAddr s x i => match evalX f x, T.fld s i with
    | some (.pointer (some ⟨b, o, none⟩)), some off => some (.pointer (some ⟨b, o + off, none⟩))
    | _, _ => none
  | .convert s t x => match evalX f x, assoc T.ints s, assoc T.ints t with
    | some (.int _ a), some _, some k' => some (.int k' (k'.wrap a))
    | _, _, _ => none
  | .unOp .not _ x => match evalX f x with
    | some (.bool b) => some (.bool (!b))
    | _ => none
  | .binOp op s x y _ => match evalX f x, evalX f y with
    | some u, some v => cmpX T op s u v
    | _, _ => none
  | .call { callee := .builtin b, args := xs, argTypes := ts } => builtX T b f xs.toList ts.toList
  | _ => none

theorem cmpX_ok {T : TabData} (hT : T.ok P = true) {op : BinOp} {s u : TypeId} {x y : Operand} {a b v : Value} (hx : evalX f x = some a) (hy : evalX f y = some b) (h : cmpX T op s a b = some v) :
    PureAt W P n H f { dst, op := .binOp op s x y u, type := ty_, pos, after, guard } v := by
  unfold cmpX at h
  split at h
  · split at h
    · rename_i e; subst e; exact .bin hx hy h
    · cases h
  · split at h
    · rename_i e; exact .ptrNil hT hx hy e h
    · cases h
  · split at h
    · rename_i e; exact .sliceNil hT hx hy e h
    · cases h
  · split at h
    · rename_i e; exact .boolEq hT hx hy e h
    · cases h
  · cases h
theorem builtX_ok {T : TabData} (hT : T.ok P = true) {b : Builtin} {xs : List Operand} {ts : List TypeId} {v : Value} (h : builtX T b f xs ts = some v) :
    PureAt W P n H f { dst, op := .call { callee := .builtin b, args := xs.toArray, argTypes := ts.toArray }, type := ty_, pos, after, guard } v := by
  unfold builtX at h
  split at h
  · split at h
    · rename_i e1 e2; cases h; exact .len hT e1 e2
    · rename_i e1 e2; cases h; exact .cap hT e1 e2
    · cases h
  · split at h
    · rename_i e1 e2; cases h; exact .min2 e1 e2
    · rename_i e1 e2; cases h; exact .max2 e1 e2
    · cases h
  · cases h
theorem PureAt.eval {T : TabData} (hT : T.ok P = true) {op : Op} {v : Value} (h : pureX T f op = some v) : PureAt W P n H f { dst, op, type := ty_, pos, after, guard } v := by
  unfold pureX at h
  split at h
  · exact .move h
  · exact .assign h
  · split at h
    · rename_i e; cases h; exact .nilPtr e
    · rename_i e; cases h; exact .nilFunc e
    · cases h
  · split at h
    · rename_i e; exact .pickT e h
    · rename_i e; exact .pickF e h
    · cases h
  · split at h
    · rename_i e; exact .extract e h
    · cases h
  · split at h
    · rename_i e1 e2; cases h; exact .fieldAddr hT e1 e2
    · cases h
  · split at h
    · rename_i e1 e2 e3; cases h; exact .convert hT e1 e2 e3
    · cases h
  · split at h
    · rename_i e; cases h; exact .not e
    · cases h
  · split at h
    · rename_i e1 e2; exact cmpX_ok hT e1 e2 h
    · cases h
  · have := builtX_ok (W := W) (n := n) (H := H) (dst := dst) (ty_ := ty_) (pos := pos) (after := after) (guard := guard) hT h
    simpa using this
  · cases h

/-- Read whatever memory is asked: what the caller laid there. -/
abbrev RdsA (W : World) (sz : Nat) (ao : Option Addr) (k : Nat) (xs : List Value) : Prop := ∀ H : List SProp, Rds W H sz ao k xs
theorem RdsA.sub {sz m cap l h : Nat} {ao : Option Addr} {xs : List Value} (r : RdsA W sz ao m xs) (h1 : l ≤ h) (h2 : h ≤ m) (h3 : m ≤ cap) : RdsA W sz (subA ao cap l sz) (h - l) ((xs.drop (l * sz)).take ((h - l) * sz)) := fun H => (r H).sub h1 h2 h3

/-! ### copy into the middle of a row -/

theorem subA_zero {ao : Option Addr} {cap sz : Nat} : subA ao cap 0 sz = ao := by
  unfold subA
  split
  · rfl
  · cases ao with
    | none => rfl
    | some a => simp [Addr.add]
theorem Rds.take {sz m l : Nat} {ao : Option Addr} {xs : List Value} (r : Rds W H sz ao m xs) (h2 : l ≤ m) : Rds W H sz ao l (xs.take (l * sz)) := by
  have := r.sub (cap := m) (Nat.zero_le l) h2 (Nat.le_refl m)
  rw [subA_zero] at this
  simpa using this

theorem Holds.copyRow {t tx e U ty : TypeId} {z : Value} {sz by_ m k cap b o : Nat} {vx : Value} {cs news : List Value} {w : World} {C : SProp → List SProp} (st : SliceT P t e z sz by_) (hw : Holds W H w) (u : Hole H (Row b U cs) C) (ho : o + min k m * sz ≤ cs.length) (hs : Sees w sz vx k news) :
    ∃ w', (Builtin.copy_ #[t, tx] ty #[.slice (some ⟨b, o, none⟩) m cap, vx]).run P w = .ok (.int .i64 ((min k m : Nat) : Int)) w' ∧ Holds W (C (Row b U (cs.take o ++ news.take (min k m * sz) ++ cs.drop (o + min k m * sz)))) w' := by
  obtain ⟨i, hi, hz, hsz, hby⟩ := info_parts st.info
  subst hsz
  have hlen : (Builtin.lenOf vx).run P w = .ok k w := by
    rcases hs.at_ with ⟨c, rfl, rfl⟩ | ⟨a, c, rfl, _⟩ <;> rfl
  have hfc : (Builtin.firstCells i.size (min k m) vx).run P w = .ok (news.take (min k m * i.size)).toArray w := by
    rcases hs.at_ with ⟨c, rfl, rfl⟩ | ⟨a, c, rfl, h⟩
    · have := hs.len
      simp at this
      subst this
      rw [run_firstCells_none]; simp
    · refine run_firstCells_some w i.size (min k m) a k c _ ?_ fun j v hj => ?_
      · rw [List.length_take, hs.len]; exact Nat.min_eq_left (Nat.mul_le_mul_right _ (Nat.min_le_left _ _))
      · rw [List.getElem?_take] at hj
        split at hj
        · exact h j v hj
        · cases hj
  have hmin : Nat.min k m = min k m := rfl
  have hnl : (news.take (min k m * i.size)).length = min k m * i.size := by
    rw [List.length_take, hs.len]; exact Nat.min_eq_left (Nat.mul_le_mul_right _ (Nat.min_le_left _ _))
  obtain ⟨R, p, q⟩ := u.perm
  have hw1 := hw.perm p
  have hst := run_storeCells_cells (P := P) b o (news.take (min k m * i.size)) 0 w (fun j hj => by
      have hj' : o + 0 + j < cs.length := by omega
      rw [hw1.cell (.head _) (List.getElem?_eq_getElem hj')]; rfl) (fun j hj => hw1.free (.head _)) (fun v hv => hs.one v (List.mem_of_mem_take hv))
  refine ⟨w.setCells b o (news.take (min k m * i.size)), ?_, ?_⟩
  · simp [Builtin.copy_, run_underlying st.und, hlen, sizeOf, typeInfo, hi, hmin, hfc, hst, goInt]
  · have h2 := hw.setCells u (o := o) (vs := news.take (min k m * i.size)) (by omega)
    rw [hnl] at h2
    exact h2

theorem OpV.copyRow {s x : Operand} {t tx e U : TypeId} {z : Value} {sz by_ m k cap b o : Nat} {vx : Value} {cs news : List Value} {C : SProp → List SProp} {N : List SProp → Fr → Prop} (st : SliceT P t e z sz by_) (hs : evalX f s = some (.slice (some ⟨b, o, none⟩) m cap)) (hx : evalX f x = some vx)
    (u : Hole H (Row b U cs) C) (ho : o + min k m * sz ≤ cs.length) (hsrc : ∀ w, Holds W H w → Sees w sz vx k news) (hd : Nat.blt d n = true)
    (h : N (C (Row b U (cs.take o ++ news.take (min k m * sz) ++ cs.drop (o + min k m * sz)))) ((d, .int .i64 ((min k m : Nat) : Int)) :: f)) :
    OpV W P n { dst := some d, op := .call { callee := .builtin .copy, args := #[s, x], argTypes := #[t, tx] }, type := ty_, pos, after, guard } Q H f N := by
  refine OpV.run (α := Unit) (v := fun _ => .int .i64 ((min k m : Nat) : Int)) (G := fun _ => C (Row b U (cs.take o ++ news.take (min k m * sz) ++ cs.drop (o + min k m * sz)))) hd (fun tm w hk hw => ?_) (fun _ => h)
  obtain ⟨w', hr, h2⟩ := Holds.copyRow (ty := ty_) (tx := tx) (cap := cap) st hw u ho (hsrc w hw)
  refine ⟨(), w', ?_, h2⟩
  unfold execOp
  simp only [resolve, invoke, builtin, Sem.run_bind, Sem.run_pure, Result.andThen_ok, List.map_toArray, List.map_cons, List.map_nil, hk.eval hs, hk.eval hx, hr]

/-- copy into a part of a slice of ours. -/
theorem OpV.copyOwn {s x : Operand} {t tx e : TypeId} {z : Value} {sz by_ m k cap lo : Nat} {ao : Option Addr} {vx : Value} {xs news : List Value} {C : SProp → List SProp} {N : List SProp → Fr → Prop} (st : SliceT P t e z sz by_) (hs : evalX f s = some (.slice (subA ao cap lo sz) (m - lo) (cap - lo))) (hx : evalX f x = some vx)
    (u : Hole H (Own e sz (.slice ao m cap) m xs) C) (hlo : lo < m) (hsrc : ∀ w, Holds W H w → Sees w sz vx k news) (hd : Nat.blt d n = true)
    (h : N (C (Own e sz (.slice ao m cap) m (xs.take (lo * sz) ++ news.take (min k (m - lo) * sz) ++ xs.drop (lo * sz + min k (m - lo) * sz)))) ((d, .int .i64 ((min k (m - lo) : Nat) : Int)) :: f)) :
    OpV W P n { dst := some d, op := .call { callee := .builtin .copy, args := #[s, x], argTypes := #[t, tx] }, type := ty_, pos, after, guard } Q H f N := by
  refine OpV.run (α := Unit) (v := fun _ => .int .i64 ((min k (m - lo) : Nat) : Int)) (G := fun _ => C (Own e sz (.slice ao m cap) m (xs.take (lo * sz) ++ news.take (min k (m - lo) * sz) ++ xs.drop (lo * sz + min k (m - lo) * sz)))) hd (fun tm w hk hw => ?_) (fun _ => h)
  obtain ⟨R, p, q⟩ := u.perm
  have hsee := hsrc w hw
  obtain ⟨hl, hv⟩ := (hw.perm p).ownOpen
  rcases hv with ⟨he, rfl, hR⟩ | ⟨b, cap', spare, he, hn, hm, hc, hR⟩
  · omega
  · cases he
    have e0 : subA (some (⟨b, 0, none⟩ : Addr)) cap lo sz = some ⟨b, lo * sz, none⟩ := by
      rw [subA_some (by omega), Addr.add_lit, Nat.zero_add]
    rw [e0] at hs
    have hk2 : lo * sz + min k (m - lo) * sz ≤ m * sz := by
      rw [← Nat.add_mul]; exact Nat.mul_le_mul_right _ (by omega)
    have hfit : lo * sz + min k (m - lo) * sz ≤ (xs ++ spare).length := by rw [List.length_append, hl]; omega
    obtain ⟨w', hr, h2⟩ := Holds.copyRow (ty := ty_) (tx := tx) (cap := cap - lo) (m := m - lo) st hR .head hfit hsee
    refine ⟨(), w', ?_, ?_⟩
    · unfold execOp
      simp only [resolve, invoke, builtin, Sem.run_bind, Sem.run_pure, Result.andThen_ok, List.map_toArray, List.map_cons, List.map_nil, hk.eval hs, hk.eval hx, hr]
    · refine Holds.perm (q _) ?_
      have hnl : (news.take (min k (m - lo) * sz)).length = min k (m - lo) * sz := by
        rw [List.length_take, hsee.len]; exact Nat.min_eq_left (Nat.mul_le_mul_right _ (Nat.min_le_left _ _))
      have e : (xs ++ spare).take (lo * sz) ++ news.take (min k (m - lo) * sz) ++ (xs ++ spare).drop (lo * sz + min k (m - lo) * sz) = (xs.take (lo * sz) ++ news.take (min k (m - lo) * sz) ++ xs.drop (lo * sz + min k (m - lo) * sz)) ++ spare := by
        rw [List.take_append_of_le_length (by omega), List.drop_append_of_le_length (by omega)]; simp
      rw [e] at h2
      refine Holds.ownShut ?_ hn hm ?_ h2
      · simp only [List.length_append, List.length_take, List.length_drop, hl, hnl] at *; omega
      · rw [← hc]; simp only [List.length_append, List.length_take, List.length_drop, hl] at *; omega
end
attribute [irreducible] VD
end Go.Sl
