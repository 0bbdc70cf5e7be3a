import Derived.Test.YtjebagmjcdaegaaGreatM1
import Derived.StillTail
import Derived.Scope
import Derived.MapKept
import Derived.Carry
import Derived.SizedLaws
import Derived.Deep.Slices
import Derived.DeepKeys
import Derived.Lib.ConvBytes
import Derived.Laws.IdiomStrings
/-! Text Sk. -/
/- The engine: regions that draw, structs, maps, strings, arguments. Generic: no program is named. -/
/- Regions that draw their order and write: by a schedule that the kernel checks. Loads of whole structs. Generic: no program is named. -/
set_option maxRecDepth 8000
set_option maxHeartbeats 16000000
set_option linter.unusedVariables false
set_option linter.unusedSimpArgs false
set_option linter.unusedSectionVars false
namespace Go.Sl
open Go.RowKit
section
variable {P : Program} {ops : Array Oper} {Q : Exit -> Act -> World -> Prop} {md : Region.Mode} {S : World -> Prop}
def wpAnyT (P : Program) (md : Region.Mode) (ops : Array Oper) (Q : Exit -> Act -> World -> Prop) (S : World -> Prop) (n : Nat) : Nat -> Array Bool -> Act -> World -> Prop
  | 0, listed, a, w => Region.ready md ops listed = [] /\ Q .normal a w
  | fuel + 1, listed, a, w =>
    (Region.ready md ops listed = [] -> Q .normal a w) /\
    ∀ i ∈ Region.ready md ops listed, wpOp P ops Q i (fun a' w' => (i < n -> S w') /\ wpAnyT P md ops Q S n fuel (listed.setIfInBounds i true) a' w') a w
theorem wpAny_of_T {n : Nat} : ∀ (fuel : Nat) (listed : Array Bool) (a : Act) (w : World), wpAnyT P md ops Q S n fuel listed a w -> wpAny P md ops Q fuel listed a w
 | 0, _, _, _, h => h
 | fuel + 1, _, _, _, h => ⟨h.1, fun i hi => wpOp_mono (fun a' w' h' => wpAny_of_T fuel _ a' w' h'.2) (h.2 i hi)⟩
def TailOk (md : Region.Mode) (ops : Array Oper) (n : Nat) : Prop := ops.size <= n \/ (Region.sinkB md ops n = true /\ Region.chainB md ops n = true /\ n < ops.size)
theorem ready_head {n i j : Nat} {listed : Array Bool} (ht : TailOk md ops n) (inv : HeadInv md ops n listed) (hi : i < n) (hun : listed.getD i true = false) (hj : j ∈ Region.ready md ops listed) : j < n := by
 rcases ht with h | ⟨hs, hc, hn⟩
 ·
  obtain ⟨_, o, ho, _⟩ := mem_ready.1 hj
  have := (Array.getElem?_eq_some_iff.1 ho).1
  omega
 ·
  rcases Nat.lt_or_ge j n with h | h
  · exact h
  · exact absurd hj (tail_waits hs hc hn inv _ i rfl hi hun j h)
theorem wpAnyT_first {n i : Nat} {oi : Oper} {v : Value} (ht : TailOk md ops n) (hi : ops[i]? = some oi) (hsel : ∀ (j : Nat) (o : Oper) cs b, ops[j]? = some o -> o.op ≠ .select cs b)
    (hQ : ∀ c a w, ¬ Q (.panic c) a w) (hin : i < n) :
    ∀ (fuel : Nat) (listed : Array Bool) (a : Act) (w : World), HeadInv md ops n listed ->
      (∀ j oj, ops[j]? = some oj -> j ≠ i -> listed.getD j true = false -> (∀ e ∈ oj.after, Region.binds md e = true -> e.on ≠ i) -> oi.apart ops oj = true) ->
      i ∈ Region.ready md ops listed -> YieldsIf P ops S oi v a -> S w ->
      wpAnyT P md ops Q S n fuel (listed.setIfInBounds i true) (a.put oi.dst v) w -> wpAnyT P md ops Q S n (fuel + 1) listed a w := by
  intro fuel
  induction fuel with
  | zero =>
    intro listed a w inv _ hr hy hS H
    refine ⟨fun h => (by rw [h] at hr; cases hr), fun j hj => ?_⟩
    by_cases hji : j = i
    · subst hji; exact hy.wpOp hi hS ⟨fun _ => hS, H⟩
    · have := ready_mono hj hji
      rw [H.1] at this
      cases this
  | succ fuel ih =>
    intro listed a w inv hfree hr hy hS H
    refine ⟨fun h => (by rw [h] at hr; cases hr), fun j hj => ?_⟩
    by_cases hji : j = i
    · subst hji; exact hy.wpOp hi hS ⟨fun _ => hS, H⟩
    · have hjn := ready_head ht inv hin (mem_ready.1 hr).1 hj
      have h1 := H.2 j (ready_mono hj hji)
      obtain ⟨hjun, oj, hoj, hall⟩ := mem_ready.1 hj
      have hnot : ∀ e ∈ oj.after, Region.binds md e = true -> e.on ≠ i := fun e he hb heq => by
        have h1 := hall e he hb
        have h0 := (mem_ready.1 hr).1
        rw [heq] at h1
        rw [getD_both h0] at h1
        cases h1
      have h2 := wpOp_putIf hoj (hfree j oj hoj hji hjun hnot) (fun cs b => hsel i oi cs b hi) (fun cs b => hsel j oj cs b hoj) (fun c a w h => absurd h (hQ c _ w)) hy h1
      have hfree' : ∀ k ok, ops[k]? = some ok -> k ≠ i -> (listed.setIfInBounds j true).getD k true = false ->
          (∀ e ∈ ok.after, Region.binds md e = true -> e.on ≠ i) -> oi.apart ops ok = true := fun k ok hk hki hun hno => by
        refine hfree k ok hk hki ?_ hno
        by_cases hjk : j = k
        · subst hjk; exact hjun
        · rw [getD_set_ne true hjk] at hun; exact hun
      refine wpOp_mono (fun a' w' h3 => ⟨h3.2.1, ih (listed.setIfInBounds j true) a' w' (inv.set hj hjn) hfree' (ready_mono hr (Ne.symm hji)) h3.1 (h3.2.1 hjn) ?_⟩) h2
      rw [Array.setIfInBounds_comm _ _ hji]
      exact h3.2.2
def mvB (mv : List Nat) (tl i : Nat) : Bool := mv.contains i || Nat.ble tl i
def oneB (ops : Array Oper) (listed : Array Bool) (i : Nat) : Bool :=
  match Region.ready .any ops listed with
  | [j] => Nat.beq i j
  | _ => false
theorem oneB_spec {listed : Array Bool} {i : Nat} (h : oneB ops listed i = true) : Region.ready .any ops listed = [i] := by
 unfold oneB at h
 split at h
 ·
  rename_i j hj
  have : i = j := by simpa using h
  rw [hj, this]
 · cases h
def tailB (ops : Array Oper) : List Nat -> Array Bool -> Bool
  | [], listed => (Region.ready .any ops listed).isEmpty
  | i :: r, listed => oneB ops listed i && tailB ops r (listed.setIfInBounds i true)
def headB (ops : Array Oper) (mv : List Nat) (tl : Nat) : List Nat -> Array Bool -> Bool
  | [], listed => (Region.ready .any ops listed).isEmpty
  | i :: r, listed =>
    bif Nat.ble tl i then tailB ops (i :: r) listed && r.all (Nat.ble tl ·) else
    bif mv.contains i then oneB ops listed i && headB ops mv tl r (listed.setIfInBounds i true) else
    Region.free .any ops listed i && (Region.ready .any ops listed).contains i && headB ops mv tl r (listed.setIfInBounds i true)
def drawB (ops : Array Oper) (mv : List Nat) (tl : Nat) (ord : List Nat) : Bool :=
  Nat.beq ord.length ops.size && Region.noSelect ops && (Nat.ble ops.size tl || (Region.sinkB .any ops tl && Region.chainB .any ops tl && Nat.blt tl ops.size)) && headB ops mv tl ord (Array.replicate ops.size false)
def calmQ (Q : Exit -> Act -> World -> Prop) : Exit -> Act -> World -> Prop := fun e a w => e = .normal /\ Q .normal a w
def wpSched (P : Program) (ops : Array Oper) (Q : Exit -> Act -> World -> Prop) (S : World -> Prop) (mv : List Nat) (tl : Nat) : List Nat -> Act -> World -> Prop
  | [], a, w => Q .normal a w
  | i :: r, a, w =>
    (mvB mv tl i = true /\ wpOp P ops (calmQ Q) i (fun a' w' => (i < tl -> S w') /\ wpSched P ops Q S mv tl r a' w') a w) \/
    (mvB mv tl i = false /\ ∃ o v, ops[i]? = some o /\ YieldsIf P ops S o v a /\ wpSched P ops Q S mv tl r (a.put o.dst v) w)
theorem mvB_of_tail {mv : List Nat} {tl i : Nat} (h : Nat.ble tl i = true) : mvB mv tl i = true := by simp [mvB, h]
theorem sched_tail {mv : List Nat} {tl : Nat} : ∀ (r : List Nat) (listed : Array Bool) (a : Act) (w : World), tailB ops r listed = true -> r.all (Nat.ble tl ·) = true -> wpSched P ops Q S mv tl r a w -> wpAnyT P .any ops (calmQ Q) S tl r.length listed a w
  | [], listed, a, w, h, _, hw => by
    simp only [tailB, List.isEmpty_iff] at h
    exact ⟨h, rfl, hw⟩
  | i :: r, listed, a, w, h, ha, hw => by
    simp only [tailB, Bool.and_eq_true] at h
    simp only [List.all_cons, Bool.and_eq_true] at ha
    have hr := oneB_spec h.1
    rcases hw with ⟨_, hw⟩ | ⟨hm, _⟩
    · refine ⟨fun h0 => (by rw [hr] at h0; cases h0), fun j hj => ?_⟩
      rw [hr, List.mem_singleton] at hj
      subst hj
      exact wpOp_mono (fun a' w' h' => ⟨h'.1, sched_tail r _ a' w' h.2 ha.2 h'.2⟩) hw
    · rw [mvB_of_tail ha.1] at hm; cases hm
theorem sched_head {mv : List Nat} {tl : Nat} (ht : TailOk .any ops tl) (hs : Region.noSelect ops = true) : ∀ (r : List Nat) (listed : Array Bool) (a : Act) (w : World), HeadInv .any ops tl listed -> headB ops mv tl r listed = true -> S w -> wpSched P ops Q S mv tl r a w -> wpAnyT P .any ops (calmQ Q) S tl r.length listed a w
  | [], listed, a, w, _, h, _, hw => by
    simp only [headB, List.isEmpty_iff] at h
    exact ⟨h, rfl, hw⟩
  | i :: r, listed, a, w, inv, h, hS, hw => by
    unfold headB at h
    cases h1 : Nat.ble tl i with
    | true =>
      rw [h1] at h
      simp only [cond_true, Bool.and_eq_true] at h
      exact sched_tail (i :: r) listed a w h.1 (by simp only [List.all_cons, h1, h.2, Bool.and_self]) hw
    | false =>
      have hin : i < tl := by
        rcases Nat.lt_or_ge i tl with h' | h'
        · exact h'
        · rw [Nat.ble_eq_true_of_le h'] at h1; cases h1
      rw [h1] at h
      cases h2 : mv.contains i with
      | true =>
        rw [h2] at h
        simp only [cond_true, cond_false, Bool.and_eq_true] at h
        have hr := oneB_spec h.1
        rcases hw with ⟨_, hw⟩ | ⟨hm, _⟩
        · refine ⟨fun h0 => (by rw [hr] at h0; cases h0), fun j hj => ?_⟩
          have hj' := hj
          rw [hr, List.mem_singleton] at hj'
          subst hj'
          exact wpOp_mono (fun a' w' h' => ⟨h'.1, sched_head ht hs r _ a' w' (inv.set hj hin) h.2 (h'.1 hin) h'.2⟩) hw
        · simp only [mvB, h2, Bool.true_or] at hm; cases hm
      | false =>
        rw [h2] at h
        simp only [cond_false, Bool.and_eq_true] at h
        have hr : i ∈ Region.ready .any ops listed := by simpa using h.1.2
        rcases hw with ⟨hm, _⟩ | ⟨_, o, v, ho, hy, hw⟩
        · simp only [mvB, h1, h2, Bool.or_self] at hm; cases hm
        · exact wpAnyT_first ht ho (Region.noSelect_spec hs) (fun c a w hc => by cases hc.1) hin r.length listed a w inv (Region.free_spec ho h.1.1) hr hy hS (sched_head ht hs r _ _ w (inv.set hr hin) h.2 hS hw)
theorem HeadInv.start (n : Nat) : HeadInv md ops n (Array.replicate ops.size false) := by
 refine ⟨by simp, fun j oj _ h => ?_, fun t _ ht => by simp [ht]⟩
 rw [getD_replicate_false] at h
 cases h
theorem wp_region_sched {id : Nat} {mv : List Nat} {tl : Nat} {ord : List Nat} {a : Act} {w : World} (hm : P.follows .mixedOrders = true) (hB : drawB ops mv tl ord = true) (hS : S w.drew)
  (h : wpSched P ops Q S mv tl ord a w.drew) : (Code.region id ops true).wp P Q a w := by
 simp only [drawB, Bool.and_eq_true, Bool.or_eq_true] at hB
 obtain ⟨⟨⟨hl, hs⟩, ht⟩, hh⟩ := hB
 have hl' : ord.length = ops.size := by simpa using hl
 have ht' : TailOk .any ops tl := by
  rcases ht with h | ⟨⟨h1, h2⟩, h3⟩
  · exact .inl (Nat.le_of_ble_eq_true h)
  · exact .inr ⟨h1, h2, by simpa [Nat.blt_eq] using h3⟩
 have h1 := sched_head (P := P) (Q := Q) (S := S) ht' hs ord _ a w.drew (HeadInv.start tl) hh hS h
 rw [hl'] at h1
 refine Code.wp_mono ?_ (wp_region_any (Q := calmQ Q) hm (wpAny_of_T _ _ _ _ h1))
 rintro e a w ⟨rfl, hq⟩
 exact hq
end
section
variable {W : World} {P : Program} {n : Nat} {c : Code} {Q : Exit -> Act -> World -> Prop} {H H' L R : List SProp} {f F : Fr} {mv ord r : List Nat} {tl i : Nat}
variable {dst : Option Tmp} {d : Nat} {ty_ : TypeId} {pos : String} {after : Array Edge} {guard : Option (Nat × Bool)}
def VD (W : World) (P : Program) (n : Nat) (c : Code) (R : List SProp) (mv : List Nat) (tl : Nat) (r : List Nat) (Q : Exit -> Act -> World -> Prop) (H : List SProp) (f : Fr) : Prop :=
  ∀ t w, Knows n f t -> Holds W H w -> wpSched P (regOps c).toArray Q (Holds W R) mv tl r ⟨t, []⟩ w
theorem VC.drawn (mv : List Nat) (tl : Nat) (ord : List Nat) (R : List SProp) (hc : regDraw c = some true) (hm : P.follows .mixedOrders = true) (hB : drawB (regOps c).toArray mv tl ord = true) (hR : Ent W H R)
  (h : VD W P n c R mv tl ord Q H f) : VC W P n c Q H f := by
 unfold VC
 cases c <;> simp [regDraw] at hc
 subst hc
 intro t w hk hw
 have h' := h t w.drew hk hw.drew
 simp only [regOps, Array.toArray_toList] at h' hB
 exact wp_region_sched hm hB (hR _ hw.drew) h'
theorem VD.nil (h : VE W n Q .normal H f) : VD W P n c R mv tl [] Q H f := by
 unfold VE at h
 exact fun t w hk hw => h t w hk hw
theorem VD.take {op : Op} {v : Value} (ho : (regOps c)[i]? = some { dst := some d, op, type := ty_, pos, after, guard }) (hm : mvB mv tl i = false) (hg : wantX (regOps c) guard f = some true)
  (hp : PureAt W P n R f { dst := some d, op, type := ty_, pos, after, guard } v) (hd : Nat.blt d n = true) (h : VD W P n c R mv tl r Q H ((d, v) :: f)) : VD W P n c R mv tl (i :: r) Q H f := by
 unfold PureAt at hp
 intro t w hk hw
 refine .inr ⟨hm, _, v, by simpa using ho, .inl ⟨hk.wanted (o := { dst := some d, op, type := ty_, pos, after, guard }) hg, fun w hS => hp t w hk hS⟩, h _ w (hk.put hd) hw⟩
theorem VD.skip {o : Oper} (ho : (regOps c)[i]? = some o) (hm : mvB mv tl i = false) (hg : wantX (regOps c) o.guard f = some false) (hd : o.dst = some d) (hn : Nat.blt d n = true) (h : VD W P n c R mv tl r Q H ((d, undef) :: f)) : VD W P n c R mv tl (i :: r) Q H f := by
 intro t w hk hw
 refine .inr ⟨hm, _, undef, by simpa using ho, .inr ⟨hk.wanted hg, rfl⟩, ?_⟩
 rw [hd]
 exact h _ w (hk.put hn) hw
theorem VD.skipM {o : Oper} (ho : (regOps c)[i]? = some o) (hm : mvB mv tl i = true) (hR : Ent W H R) (hg : wantX (regOps c) o.guard f = some false) (hd : o.dst = some d) (hn : Nat.blt d n = true) (h : VD W P n c R mv tl r Q H ((d, undef) :: f)) : VD W P n c R mv tl (i :: r) Q H f := by
 intro t w hk hw
 refine .inl ⟨hm, ?_⟩
 unfold wpOp
 simp only [List.getElem?_toArray, ho]
 rw [if_neg (by rw [show Region.wanted o (yielded (regOps c).toArray (Act.mk t []).tmps) = false from hk.wanted hg]; simp), hd]
 exact ⟨fun _ => hR _ hw, h _ _ (hk.put hn) hw⟩
theorem VD.mid {o : Oper} (ho : (regOps c)[i]? = some o) (hm : mvB mv tl i = true) (hg : wantX (regOps c) o.guard f = some true) (h : OpV W P n o (calmQ Q) H f (fun H' f' => Ent W H' R /\ VD W P n c R mv tl r Q H' f')) :
  VD W P n c R mv tl (i :: r) Q H f := by
 unfold OpV at h
 intro t w hk hw
 refine .inl ⟨hm, ?_⟩
 unfold wpOp
 simp only [List.getElem?_toArray, ho]
 rw [if_pos (hk.wanted hg)]
 exact .inl (h t w hk hw _ fun H' f' hN t' w' hk' hw' => ⟨fun _ => hN.1 _ hw', hN.2 t' w' hk' hw'⟩)
theorem VD.end {o : Oper} (ho : (regOps c)[i]? = some o) (hm : Nat.ble tl i = true) (hg : wantX (regOps c) o.guard f = some true) (h : OpV W P n o (calmQ Q) H f (fun H' f' => VD W P n c R mv tl r Q H' f')) :
  VD W P n c R mv tl (i :: r) Q H f := by
 unfold OpV at h
 intro t w hk hw
 refine .inl ⟨mvB_of_tail hm, ?_⟩
 unfold wpOp
 simp only [List.getElem?_toArray, ho]
 rw [if_pos (hk.wanted hg)]
 exact .inl (h t w hk hw _ fun H' f' hN t' w' hk' hw' => ⟨fun hlt => absurd hlt (Nat.not_lt.2 (Nat.le_of_ble_eq_true hm)), hN t' w' hk' hw'⟩)
theorem VD.split {s : Nat} {o : Oper} {b : Bool} (ho : (regOps c)[i]? = some o) (hs : guardSlot (regOps c) o.guard = some s) (hl : look f s = some (.bool b))
  (ht : b = true -> VD W P n c R mv tl (i :: r) Q H ((s, .bool true) :: f)) (hf : b = false -> VD W P n c R mv tl (i :: r) Q H ((s, .bool false) :: f)) : VD W P n c R mv tl (i :: r) Q H f := by
 intro t w hk hw
 cases b with
 | true => exact ht rfl t w (hk.again hl) hw
 | false => exact hf rfl t w (hk.again hl) hw
theorem VD.gT {s : Nat} {o : Oper} {b : Bool} (ho : (regOps c)[i]? = some o) (hs : guardSlot (regOps c) o.guard = some s) (hl : look f s = some (.bool b)) (hb : b = true) (h : VD W P n c R mv tl (i :: r) Q H ((s, .bool true) :: f)) : VD W P n c R mv tl (i :: r) Q H f :=
 fun t w hk hw => h t w (hk.again (hb ▸ hl)) hw
theorem VD.gF {s : Nat} {o : Oper} {b : Bool} (ho : (regOps c)[i]? = some o) (hs : guardSlot (regOps c) o.guard = some s) (hl : look f s = some (.bool b)) (hb : b = false) (h : VD W P n c R mv tl (i :: r) Q H ((s, .bool false) :: f)) : VD W P n c R mv tl (i :: r) Q H f :=
 fun t w hk hw => h t w (hk.again (hb ▸ hl)) hw
theorem VD.re {v : Value} (d : Nat) (v' : Value) (hl : look f d = some v) (e : v = v') (h : VD W P n c R mv tl r Q H ((d, v') :: f)) : VD W P n c R mv tl r Q H f := fun t w hk hw => h t w (hk.again (e ▸ hl)) hw
theorem VD.know {p : Prop} (hh : ∀ w, Holds W H w -> p) (h : p -> VD W P n c R mv tl r Q H f) : VD W P n c R mv tl r Q H f := fun t w hk hw => h (hh w hw) t w hk hw
theorem VD.obtain {α : Sort _} {G : α -> List SProp} (hh : ∀ w, Holds W H w -> ∃ x, Holds W (G x) w) (h : ∀ x, VD W P n c R mv tl r Q (G x) f) : VD W P n c R mv tl r Q H f :=
 fun t w hk hw => let ⟨x, hx⟩ := hh w hw; h x t w hk hx
theorem VD.ent (hh : Ent W H H') (h : VD W P n c R mv tl r Q H' f) : VD W P n c R mv tl r Q H f := fun t w hk hw => h t w hk (hh w hw)
theorem PureAt.loadA {T : TabData} {x : Operand} {s sz : TypeId} {a : Addr} {cs : List Value} (hT : T.ok P = true) (hx : evalX f x = some (.pointer (some a))) (hs : assoc T.aggs s = some sz) (hl : cs.length = sz)
  (hc : ∀ w, Holds W H w -> ∀ j v, cs[j]? = some v -> w.cell? (a.add j) = some v) : PureAt W P n H f { dst, op := .load s x, type := ty_, pos, after, guard } (.agg cs.toArray) := by
  unfold PureAt
  intro t w hk hw
  obtain ⟨h1, h2⟩ := T.agg_ok hT hs
  subst hl
  simp [execOp, hk.eval hx, Instr.loadAt, Instr.sureAddr, loadVar, Sem.run_bind, h1, h2, run_loadCells_list w a cs (hc w hw)]
theorem PureAt.ldA {T : TabData} {x : Operand} {s U sz : TypeId} {b off : Nat} {cs vs : List Value} (hT : T.ok P = true) (hx : evalX f x = some (.pointer (some ⟨b, off, none⟩))) (hs : assoc T.aggs s = some sz) (m : Row b U cs ∈ H) (hv : (cs.drop off).take sz = vs) (hl : vs.length = sz) :
  PureAt W P n H f { dst, op := .load s x, type := ty_, pos, after, guard } (.agg vs.toArray) :=
 PureAt.loadA hT hx hs hl fun w hw j v hj => by
  rw [Addr.add_lit]
  refine hw.cell m ?_
  rw [<- hv, List.getElem?_take] at hj
  split at hj
  · rw [List.getElem?_drop] at hj; exact hj
  · cases hj
theorem PureAt.ldRA {T : TabData} {x : Operand} {s sz : TypeId} {a : Addr} {z k j : Nat} {xs vs : List Value} (hT : T.ok P = true) (hx : evalX f x = some (.pointer (some (a.add j)))) (hs : assoc T.aggs s = some sz) (hr : Rds W H z (some a) k xs) (hv : (xs.drop j).take sz = vs) (hl : vs.length = sz) :
  PureAt W P n H f { dst, op := .load s x, type := ty_, pos, after, guard } (.agg vs.toArray) :=
 PureAt.loadA hT hx hs hl fun w hw i v hi => by
  rw [Addr_add_add]
  refine hr.cell w hw a rfl _ _ ?_
  rw [<- hv, List.getElem?_take] at hi
  split at hi
  · rw [List.getElem?_drop] at hi; exact hi
  · cases hi
theorem PureAt.ldRc {T : TabData} {x : Operand} {s : TypeId} {a : Addr} {z k j : Nat} {xs : List Value} {v : Value} (hT : T.ok P = true) (hx : evalX f x = some (.pointer (some (a.add j)))) (hl : assoc T.leaf s = some ()) (hr : Rds W H z (some a) k xs) (hj : xs[j]? = some v) :
  PureAt W P n H f { dst, op := .load s x, type := ty_, pos, after, guard } v := PureAt.ldc hT hx hl fun w hw => hr.cell w hw a rfl j v hj
theorem PureAt.fieldAddrA {T : TabData} {x : Operand} {a : Addr} {j off : Nat} {s : TypeId} {i : Nat} (hT : T.ok P = true) (hx : evalX f x = some (.pointer (some (a.add j)))) (hF : T.fld s i = some off) :
  PureAt W P n H f { dst, op := .fieldAddr s x i, type := ty_, pos, after, guard } (.pointer (some (a.add (j + off)))) := by
 unfold PureAt
 intro t w hk _
 have hF := T.fld_ok hT hF
 unfold fldOff at hF
 split at hF
 ·
  rename_i fs hu
  split at hF
  ·
   rename_i fd hfd
   split at hF
   · cases hF
   ·
    rename_i hz
    cases hF
    have hs : (sizeOf fd.type).run P w = .ok (P.cellsOf fd.type) w := by
     unfold Program.cellsOf at hz ⊢
     cases hi : P.info? fd.type with
     | none => simp [hi] at hz
     | some ti => simp [sizeOf, typeInfo, hi]
    simp [execOp, hk.eval hx, Instr.fieldAt, run_underlying hu, hfd, Instr.sureAddr, fieldPlace, hs, hz, Addr_add_add]
  · cases hF
 · cases hF
theorem PureAt.min2 {x y : Operand} {t : Array TypeId} {k k' : IntKind} {a b : Int} (hx : evalX f x = some (.int k a)) (hy : evalX f y = some (.int k' b)) :
  PureAt W P n H f { dst, op := .call { callee := .builtin .min, args := #[x, y], argTypes := t }, type := ty_, pos, after, guard } (.int k (min a b)) := by
  unfold PureAt
  intro tm w hk _
  unfold execOp
  simp [resolve, invoke, builtin, hk.eval hx, hk.eval hy, Builtin.min_, Builtin.min2]
  split <;> omega
theorem PureAt.max2 {x y : Operand} {t : Array TypeId} {k k' : IntKind} {a b : Int} (hx : evalX f x = some (.int k a)) (hy : evalX f y = some (.int k' b)) :
  PureAt W P n H f { dst, op := .call { callee := .builtin .max, args := #[x, y], argTypes := t }, type := ty_, pos, after, guard } (.int k (max a b)) := by
  unfold PureAt
  intro tm w hk _
  unfold execOp
  simp [resolve, invoke, builtin, hk.eval hx, hk.eval hy, Builtin.max_, Builtin.max2]
  split <;> omega
def cmpX (T : TabData) (op : BinOp) (s : TypeId) (u v : Value) : Option Value :=
  match u, v with
  | .int k a, .int k' b => if k = k' then binI op k a b else none
  | .pointer a, .pointer none => match assoc T.descs s with
    | some (0, _) => eqB op a.isNone
    | _ => none
  | .slice a _ _, .slice none _ _ => match assoc T.sls s with
    | some _ => eqB op a.isNone
    | none => none
  | .bool a, .bool b => match assoc T.descs s with
    | some (1, _) => eqB op (a == b)
    | _ => none
  | _, _ => none
def builtX (T : TabData) (b : Builtin) (f : Fr) : List Operand -> List TypeId -> Option Value
  | [x], [t] => match b, evalX f x, assoc T.sls t with
    | .len, some (.slice _ k _), some _ => some (.int .i64 (k : Int))
    | .cap, some (.slice _ _ k), some _ => some (.int .i64 (k : Int))
    | _, _, _ => none
  | [x, y], _ => match b, evalX f x, evalX f y with
    | .min, some (.int k a), some (.int _ b) => some (.int k (min a b))
    | .max, some (.int k a), some (.int _ b) => some (.int k (max a b))
    | _, _, _ => none
  | _, _ => none
def pureX (T : TabData) (f : Fr) : Op -> Option Value
  | .move x => evalX f x
  | .assign x => evalX f x
  | .nilCheck x => match evalX f x with
    | some (.pointer (some a)) => some (.pointer (some a))
    | some (.func (.func g) p q) => some (.func (.func g) p q)
    | _ => none
  | .pick x y z => match evalX f x with
    | some (.bool true) => evalX f y
    | some (.bool false) => evalX f z
    | _ => none
  | .extract x i => match evalX f x with
    | some (.tuple vs) => vs[i]?
    | _ => none
  | .fieldAddr s x i => match evalX f x, T.fld s i with
    | some (.pointer (some ⟨b, o, none⟩)), some off => some (.pointer (some ⟨b, o + off, none⟩))
    | _, _ => none
  | .convert s t x => match evalX f x, assoc T.ints s, assoc T.ints t with
    | some (.int _ a), some _, some k' => some (.int k' (k'.wrap a))
    | _, _, _ => none
  | .unOp .not _ x => match evalX f x with
    | some (.bool b) => some (.bool (!b))
    | _ => none
  | .binOp op s x y _ => match evalX f x, evalX f y with
    | some u, some v => cmpX T op s u v
    | _, _ => none
  | .call { callee := .builtin b, args := xs, argTypes := ts } => builtX T b f xs.toList ts.toList
  | _ => none
theorem cmpX_ok {T : TabData} (hT : T.ok P = true) {op : BinOp} {s u : TypeId} {x y : Operand} {a b v : Value} (hx : evalX f x = some a) (hy : evalX f y = some b) (h : cmpX T op s a b = some v) :
  PureAt W P n H f { dst, op := .binOp op s x y u, type := ty_, pos, after, guard } v := by
 unfold cmpX at h
 split at h
 ·
  split at h
  · rename_i e; subst e; exact .bin hx hy h
  · cases h
 ·
  split at h
  · rename_i e; exact .ptrNil hT hx hy e h
  · cases h
 ·
  split at h
  · rename_i e; exact .sliceNil hT hx hy e h
  · cases h
 ·
  split at h
  · rename_i e; exact .boolEq hT hx hy e h
  · cases h
 · cases h
theorem builtX_ok {T : TabData} (hT : T.ok P = true) {b : Builtin} {xs : List Operand} {ts : List TypeId} {v : Value} (h : builtX T b f xs ts = some v) :
  PureAt W P n H f { dst, op := .call { callee := .builtin b, args := xs.toArray, argTypes := ts.toArray }, type := ty_, pos, after, guard } v := by
 unfold builtX at h
 split at h
 ·
  split at h
  · rename_i e1 e2; cases h; exact .len hT e1 e2
  · rename_i e1 e2; cases h; exact .cap hT e1 e2
  · cases h
 ·
  split at h
  · rename_i e1 e2; cases h; exact .min2 e1 e2
  · rename_i e1 e2; cases h; exact .max2 e1 e2
  · cases h
 · cases h
theorem PureAt.eval {T : TabData} (hT : T.ok P = true) {op : Op} {v : Value} (h : pureX T f op = some v) : PureAt W P n H f { dst, op, type := ty_, pos, after, guard } v := by
 unfold pureX at h
 split at h
 · exact .move h
 · exact .assign h
 ·
  split at h
  · rename_i e; cases h; exact .nilPtr e
  · rename_i e; cases h; exact .nilFunc e
  · cases h
 ·
  split at h
  · rename_i e; exact .pickT e h
  · rename_i e; exact .pickF e h
  · cases h
 ·
  split at h
  · rename_i e; exact .extract e h
  · cases h
 ·
  split at h
  · rename_i e1 e2; cases h; exact .fieldAddr hT e1 e2
  · cases h
 ·
  split at h
  · rename_i e1 e2 e3; cases h; exact .convert hT e1 e2 e3
  · cases h
 ·
  split at h
  · rename_i e; cases h; exact .not e
  · cases h
 ·
  split at h
  · rename_i e1 e2; exact cmpX_ok hT e1 e2 h
  · cases h
 ·
  have := builtX_ok (W := W) (n := n) (H := H) (dst := dst) (ty_ := ty_) (pos := pos) (after := after) (guard := guard) hT h
  simpa using this
 · cases h
abbrev RdsA (W : World) (sz : Nat) (ao : Option Addr) (k : Nat) (xs : List Value) : Prop := ∀ H : List SProp, Rds W H sz ao k xs
theorem RdsA.sub {sz m cap l h : Nat} {ao : Option Addr} {xs : List Value} (r : RdsA W sz ao m xs) (h1 : l <= h) (h2 : h <= m) (h3 : m <= cap) : RdsA W sz (subA ao cap l sz) (h - l) ((xs.drop (l * sz)).take ((h - l) * sz)) := fun H => (r H).sub h1 h2 h3
theorem subA_zero {ao : Option Addr} {cap sz : Nat} : subA ao cap 0 sz = ao := by
 unfold subA
 split
 · rfl
 ·
  cases ao with
  | none => rfl
  | some a => simp [Addr.add]
theorem Rds.take {sz m l : Nat} {ao : Option Addr} {xs : List Value} (r : Rds W H sz ao m xs) (h2 : l <= m) : Rds W H sz ao l (xs.take (l * sz)) := by
 have := r.sub (cap := m) (Nat.zero_le l) h2 (Nat.le_refl m)
 rw [subA_zero] at this
 simpa using this
theorem Holds.copyRow {t tx e U ty : TypeId} {z : Value} {sz by_ m k cap b o : Nat} {vx : Value} {cs news : List Value} {w : World} {C : SProp -> List SProp} (st : SliceT P t e z sz by_) (hw : Holds W H w) (u : Hole H (Row b U cs) C) (ho : o + min k m * sz <= cs.length) (hs : Sees w sz vx k news) :
  ∃ w', (Builtin.copy_ #[t, tx] ty #[.slice (some ⟨b, o, none⟩) m cap, vx]).run P w = .ok (.int .i64 ((min k m : Nat) : Int)) w' /\ Holds W (C (Row b U (cs.take o ++ news.take (min k m * sz) ++ cs.drop (o + min k m * sz)))) w' := by
 obtain ⟨i, hi, hz, hsz, hby⟩ := info_parts st.info
 subst hsz
 have hlen : (Builtin.lenOf vx).run P w = .ok k w := by
  rcases hs.at_ with ⟨c, rfl, rfl⟩ | ⟨a, c, rfl, _⟩ <;> rfl
 have hfc : (Builtin.firstCells i.size (min k m) vx).run P w = .ok (news.take (min k m * i.size)).toArray w := by
  rcases hs.at_ with ⟨c, rfl, rfl⟩ | ⟨a, c, rfl, h⟩
  ·
   have := hs.len
   simp at this
   subst this
   rw [run_firstCells_none]; simp
  ·
   refine run_firstCells_some w i.size (min k m) a k c _ ?_ fun j v hj => ?_
   · rw [List.length_take, hs.len]; exact Nat.min_eq_left (Nat.mul_le_mul_right _ (Nat.min_le_left _ _))
   ·
    rw [List.getElem?_take] at hj
    split at hj
    · exact h j v hj
    · cases hj
 have hmin : Nat.min k m = min k m := rfl
 have hnl : (news.take (min k m * i.size)).length = min k m * i.size := by
  rw [List.length_take, hs.len]; exact Nat.min_eq_left (Nat.mul_le_mul_right _ (Nat.min_le_left _ _))
 obtain ⟨R, p, q⟩ := u.perm
 have hw1 := hw.perm p
 have hst := run_storeCells_cells (P := P) b o (news.take (min k m * i.size)) 0 w (fun j hj => by
   have hj' : o + 0 + j < cs.length := by omega
   rw [hw1.cell (.head _) (List.getElem?_eq_getElem hj')]; rfl) (fun j hj => hw1.free (.head _)) (fun v hv => hs.one v (List.mem_of_mem_take hv))
 refine ⟨w.setCells b o (news.take (min k m * i.size)), ?_, ?_⟩
 · simp [Builtin.copy_, run_underlying st.und, hlen, sizeOf, typeInfo, hi, hmin, hfc, hst, goInt]
 ·
  have h2 := hw.setCells u (o := o) (vs := news.take (min k m * i.size)) (by omega)
  rw [hnl] at h2
  exact h2
theorem OpV.copyRow {s x : Operand} {t tx e U : TypeId} {z : Value} {sz by_ m k cap b o : Nat} {vx : Value} {cs news : List Value} {C : SProp -> List SProp} {N : List SProp -> Fr -> Prop} (st : SliceT P t e z sz by_) (hs : evalX f s = some (.slice (some ⟨b, o, none⟩) m cap)) (hx : evalX f x = some vx)
  (u : Hole H (Row b U cs) C) (ho : o + min k m * sz <= cs.length) (hsrc : ∀ w, Holds W H w -> Sees w sz vx k news) (hd : Nat.blt d n = true)
  (h : N (C (Row b U (cs.take o ++ news.take (min k m * sz) ++ cs.drop (o + min k m * sz)))) ((d, .int .i64 ((min k m : Nat) : Int)) :: f)) :
  OpV W P n { dst := some d, op := .call { callee := .builtin .copy, args := #[s, x], argTypes := #[t, tx] }, type := ty_, pos, after, guard } Q H f N := by
 refine OpV.run (α := Unit) (v := fun _ => .int .i64 ((min k m : Nat) : Int)) (G := fun _ => C (Row b U (cs.take o ++ news.take (min k m * sz) ++ cs.drop (o + min k m * sz)))) hd (fun tm w hk hw => ?_) (fun _ => h)
 obtain ⟨w', hr, h2⟩ := Holds.copyRow (ty := ty_) (tx := tx) (cap := cap) st hw u ho (hsrc w hw)
 refine ⟨(), w', ?_, h2⟩
 unfold execOp
 simp only [resolve, invoke, builtin, Sem.run_bind, Sem.run_pure, Result.andThen_ok, List.map_toArray, List.map_cons, List.map_nil, hk.eval hs, hk.eval hx, hr]
theorem OpV.copyOwn {s x : Operand} {t tx e : TypeId} {z : Value} {sz by_ m k cap lo : Nat} {ao : Option Addr} {vx : Value} {xs news : List Value} {C : SProp -> List SProp} {N : List SProp -> Fr -> Prop} (st : SliceT P t e z sz by_) (hs : evalX f s = some (.slice (subA ao cap lo sz) (m - lo) (cap - lo))) (hx : evalX f x = some vx)
  (u : Hole H (Own e sz (.slice ao m cap) m xs) C) (hlo : lo < m) (hsrc : ∀ w, Holds W H w -> Sees w sz vx k news) (hd : Nat.blt d n = true)
  (h : N (C (Own e sz (.slice ao m cap) m (xs.take (lo * sz) ++ news.take (min k (m - lo) * sz) ++ xs.drop (lo * sz + min k (m - lo) * sz)))) ((d, .int .i64 ((min k (m - lo) : Nat) : Int)) :: f)) :
  OpV W P n { dst := some d, op := .call { callee := .builtin .copy, args := #[s, x], argTypes := #[t, tx] }, type := ty_, pos, after, guard } Q H f N := by
 refine OpV.run (α := Unit) (v := fun _ => .int .i64 ((min k (m - lo) : Nat) : Int)) (G := fun _ => C (Own e sz (.slice ao m cap) m (xs.take (lo * sz) ++ news.take (min k (m - lo) * sz) ++ xs.drop (lo * sz + min k (m - lo) * sz)))) hd (fun tm w hk hw => ?_) (fun _ => h)
 obtain ⟨R, p, q⟩ := u.perm
 have hsee := hsrc w hw
 obtain ⟨hl, hv⟩ := (hw.perm p).ownOpen
 rcases hv with ⟨he, rfl, hR⟩ | ⟨b, cap', spare, he, hn, hm, hc, hR⟩
 · omega
 ·
  cases he
  have e0 : subA (some (⟨b, 0, none⟩ : Addr)) cap lo sz = some ⟨b, lo * sz, none⟩ := by
   rw [subA_some (by omega), Addr.add_lit, Nat.zero_add]
  rw [e0] at hs
  have hk2 : lo * sz + min k (m - lo) * sz <= m * sz := by
   rw [<- Nat.add_mul]; exact Nat.mul_le_mul_right _ (by omega)
  have hfit : lo * sz + min k (m - lo) * sz <= (xs ++ spare).length := by rw [List.length_append, hl]; omega
  obtain ⟨w', hr, h2⟩ := Holds.copyRow (ty := ty_) (tx := tx) (cap := cap - lo) (m := m - lo) st hR .head hfit hsee
  refine ⟨(), w', ?_, ?_⟩
  ·
   unfold execOp
   simp only [resolve, invoke, builtin, Sem.run_bind, Sem.run_pure, Result.andThen_ok, List.map_toArray, List.map_cons, List.map_nil, hk.eval hs, hk.eval hx, hr]
  ·
   refine Holds.perm (q _) ?_
   have hnl : (news.take (min k (m - lo) * sz)).length = min k (m - lo) * sz := by
    rw [List.length_take, hsee.len]; exact Nat.min_eq_left (Nat.mul_le_mul_right _ (Nat.min_le_left _ _))
   have e : (xs ++ spare).take (lo * sz) ++ news.take (min k (m - lo) * sz) ++ (xs ++ spare).drop (lo * sz + min k (m - lo) * sz) = (xs.take (lo * sz) ++ news.take (min k (m - lo) * sz) ++ xs.drop (lo * sz + min k (m - lo) * sz)) ++ spare := by
    rw [List.take_append_of_le_length (by omega), List.drop_append_of_le_length (by omega)]; simp
   rw [e] at h2
   refine Holds.ownShut ?_ hn hm ?_ h2
   · simp only [List.length_append, List.length_take, List.length_drop, hl, hnl] at *; omega
   · rw [<- hc]; simp only [List.length_append, List.length_take, List.length_drop, hl] at *; omega
end
attribute [irreducible] VD
end Go.Sl
/- The engine: branches that meet again, weakened contracts. -/
namespace Go.Sl
open Go
variable {W : World} {P : Program} {n : Nat} {c c1 c2 : Code} {Q : Exit -> Act -> World -> Prop} {H : List SProp} {f : Fr}
structure Met (W : World) (n : Nat) (Q Q2 : Exit -> Act -> World -> Prop) {α : Type} (A : α -> Prop) (G : α -> List SProp) (F : α -> Fr) : Prop where
  to : ∀ (x : α) {f : Fr} {H : List SProp}, A x -> SubF (F x) f -> Ent W H (G x) -> VE W n Q2 .normal H f
  ret : ∀ {f : Fr} {H : List SProp}, VE W n Q .ret H f -> VE W n Q2 .ret H f
  exit : ∀ {f : Fr} {H : List SProp} {i : Nat}, VE W n Q (.exit i) H f -> VE W n Q2 (.exit i) H f
theorem Met.of {α : Type} {A : α -> Prop} {G : α -> List SProp} {F : α -> Fr} (h2 : ∀ x, A x -> VC W P n c2 Q (G x) (F x)) : Met W n Q (thenC P c2 Q) A G F :=
 ⟨fun x _ _ hA hF hH => VE.next ((h2 x hA).weak hF hH), fun h => VE.passRet h, fun h => VE.passExit h⟩
theorem VO.join {α : Type} {k : Nat} (A : α -> Prop) (G : α -> List SProp) (F : α -> Fr) (h1 : ∀ Q2, Met W n Q Q2 A G F -> VO W P n c k (thenC P c1 Q2) H f) (h2 : ∀ x, A x -> VC W P n c2 Q (G x) (F x)) :
  VO W P n c k (thenC P c1 (thenC P c2 Q)) H f := h1 _ (Met.of h2)
theorem VC.join {α : Type} (A : α -> Prop) (G : α -> List SProp) (F : α -> Fr) (h1 : ∀ Q2, Met W n Q Q2 A G F -> VC W P n c Q2 H f) (h2 : ∀ x, A x -> VC W P n c2 Q (G x) (F x)) :
  VC W P n c (thenC P c2 Q) H f := h1 _ (Met.of h2)
theorem VC.joinB {α : Type} {i : Nat} (A : α -> Prop) (G : α -> List SProp) (F : α -> Fr) (h1 : ∀ Q2, Met W n Q Q2 A G F -> VC W P n c (blockC i Q2) H f) (h2 : ∀ x, A x -> VC W P n c2 Q (G x) (F x)) :
  VC W P n c (blockC i (thenC P c2 Q)) H f := h1 _ (Met.of h2)
theorem VC.joinTB {α : Type} {i : Nat} (A : α -> Prop) (G : α -> List SProp) (F : α -> Fr) (h1 : ∀ Q2, Met W n Q Q2 A G F -> VC W P n c (thenC P c1 (blockC i Q2)) H f) (h2 : ∀ x, A x -> VC W P n c2 Q (G x) (F x)) :
  VC W P n c (thenC P c1 (blockC i (thenC P c2 Q))) H f := h1 _ (Met.of h2)
def scopeC (Q : Exit -> Act -> World -> Prop) : Exit -> Act -> World -> Prop := Exit.noGoto Q
def isScope : Code -> Bool | .scope _ => true | _ => false
def isLabel : Code -> Bool | .label _ => true | _ => false
theorem VC.scope (hc : isScope c = true) (h : VC W P n (Cd.l c) (scopeC Q) H f) : VC W P n c Q H f := by
 unfold VC at *
 intro t w hk hw
 cases c <;> simp [isScope] at hc
 exact wp_scope_straight (h t w hk hw)
theorem VC.label (hc : isLabel c = true) (h : VE W n Q .normal H f) : VC W P n c Q H f := by
 unfold VC VE at *
 intro t w hk hw
 cases c <;> simp [isLabel] at hc
 exact wp_label (h t w hk hw)
theorem VE.scopeNormal (h : VE W n Q .normal H f) : VE W n (scopeC Q) .normal H f := by unfold VE at *; exact h
theorem VE.scopeRet (h : VE W n Q .ret H f) : VE W n (scopeC Q) .ret H f := by unfold VE at *; exact h
theorem VE.scopeExit {i : Nat} (h : VE W n Q (.exit i) H f) : VE W n (scopeC Q) (.exit i) H f := by unfold VE at *; exact h
attribute [irreducible] scopeC
theorem Does.mono {g : FuncId} {args : List Value} {β γ : Type} {A : β -> Prop} {r : β -> Value} {G : β -> List SProp} {A' : γ -> Prop} {r' : γ -> Value} {G' : γ -> List SProp}
  (h : Does W P g args H A r G) (φ : β -> γ) (hA : ∀ x, A x -> A' (φ x)) (hr : ∀ x, A x -> r x = r' (φ x)) (hG : ∀ x, A x -> Ent W (G x) (G' (φ x))) : Does W P g args H A' r' G' := by
 unfold Does at h ⊢
 exact fun w hw => (h w hw).mono fun _ _ ⟨x, hx, he, hh⟩ => ⟨φ x, hA x hx, by rw [he, hr x hx], hG x hx _ hh⟩
end Go.Sl
/- The engine: stores of whole structs and arrays, stores into slices of ours. Generic: no program is named. -/
namespace Go.Sl
open Go Go.RowKit
section
variable {W : World} {P : Program} {n : Nat} {c : Code} {Q : Exit -> Act -> World -> Prop} {H H' L S : List SProp} {f F : Fr} {C : SProp -> List SProp}
variable {N : List SProp -> Fr -> Prop} {dst : Option Tmp} {d : Nat} {ty_ : TypeId} {pos : String} {after : Array Edge} {guard : Option (Nat × Bool)}
theorem Holds.storeAny {t U : TypeId} {b off : Nat} {v : Value} {vs cs : List Value} {w : World} (hv : v.cells = vs.toArray) (h1 : ∀ u ∈ vs, u.oneCell' = true) (hS : ∀ w, (sizeOf t).run P w = .ok vs.length w)
  (hw : Holds W H w) (u : Hole H (Row b U cs) C) (ho : off + vs.length <= cs.length) :
  ∃ w', (storeVar t ⟨b, off, none⟩ v).run P w = .ok () w' /\ Holds W (C (Row b U (cs.take off ++ vs ++ cs.drop (off + vs.length)))) w' := by
 obtain ⟨R, p, q⟩ := u.perm
 have hw1 := hw.perm p
 have hst := run_storeCells_cells (P := P) b off vs 0 w (fun j hj => by
   have hj' : off + 0 + j < cs.length := by omega
   rw [hw1.cell (.head _) (List.getElem?_eq_getElem hj')]; rfl) (fun j hj => hw1.free (.head _)) h1
 refine ⟨w.setCells b off vs, ?_, hw.setCells u ho⟩
 simp only [storeVar, Sem.run_bind, hS, Result.andThen_ok, hv, List.size_toArray, ne_eq, not_true_eq_false, if_false, List.toList_toArray]
 simpa [Sem.run, pure, Result.andThen] using hst
theorem OpV.storeV {t U : TypeId} {x y : Operand} {b off : Nat} {v : Value} {vs cs : List Value} (hx : evalX f x = some (.pointer (some ⟨b, off, none⟩))) (hy : evalX f y = some v) (hv : v.cells = vs.toArray) (h1 : ∀ u ∈ vs, u.oneCell' = true)
  (hS : ∀ w, (sizeOf t).run P w = .ok vs.length w) (u : Hole H (Row b U cs) C) (ho : off + vs.length <= cs.length) (h : N (C (Row b U (cs.take off ++ vs ++ cs.drop (off + vs.length)))) f) :
  OpV W P n { dst := none, op := .store t x y, type := ty_, pos, after, guard } Q H f N := by
 unfold OpV
 intro tm w hk hw K hK
 obtain ⟨w', hr, h2⟩ := Holds.storeAny hv h1 hS hw u ho
 unfold Oper.wp execOp
 simp only [hk.eval hx, hk.eval hy, Instr.storeAt, Instr.sureAddr, Sem.run_bind, Sem.run_pure, Result.andThen_ok, hr]
 exact hK _ _ h _ _ hk h2
theorem OpV.stA {T : TabData} {t U sz : TypeId} {x y : Operand} {b off : Nat} {vs cs : List Value} (hT : T.ok P = true) (hx : evalX f x = some (.pointer (some ⟨b, off, none⟩))) (hy : evalX f y = some (.agg vs.toArray)) (hs : assoc T.aggs t = some sz) (hl : vs.length = sz) (h1 : ∀ u ∈ vs, u.oneCell' = true)
  (u : Hole H (Row b U cs) C) (ho : off + sz <= cs.length) (h : N (C (Row b U (cs.take off ++ vs ++ cs.drop (off + sz)))) f) :
  OpV W P n { dst := none, op := .store t x y, type := ty_, pos, after, guard } Q H f N := by
 subst hl
 exact OpV.storeV hx hy rfl h1 (T.agg_ok hT hs).2 u ho h
theorem OpV.storeO {t e : TypeId} {x y : Operand} {a : Addr} {sz m cap j : Nat} {v : Value} {vs xs : List Value} (hx : evalX f x = some (.pointer (some (a.add j)))) (hy : evalX f y = some v) (hv : v.cells = vs.toArray) (h1 : ∀ u ∈ vs, u.oneCell' = true)
  (hS : ∀ w, (sizeOf t).run P w = .ok vs.length w) (u : Hole H (Own e sz (.slice (some a) m cap) m xs) C) (ho : j + vs.length <= xs.length) (h : N (C (Own e sz (.slice (some a) m cap) m (xs.take j ++ vs ++ xs.drop (j + vs.length)))) f) :
  OpV W P n { dst := none, op := .store t x y, type := ty_, pos, after, guard } Q H f N := by
 unfold OpV
 intro tm w hk hw K hK
 obtain ⟨R, p, q⟩ := u.perm
 obtain ⟨hl, hv'⟩ := (hw.perm p).ownOpen
 rcases hv' with ⟨he, rfl, hR⟩ | ⟨b, cap', spare, he, hn, hm, hc, hR⟩
 · cases he
 ·
  cases he
  rw [Addr.add_lit, Nat.zero_add] at hx
  have hfit : j + vs.length <= (xs ++ spare).length := by rw [List.length_append]; omega
  obtain ⟨w', hr, h2⟩ := Holds.storeAny hv h1 hS hR .head hfit
  unfold Oper.wp execOp
  simp only [hk.eval hx, hk.eval hy, Instr.storeAt, Instr.sureAddr, Sem.run_bind, Sem.run_pure, Result.andThen_ok, hr]
  refine hK _ _ h _ _ hk (Holds.perm (q _) ?_)
  have e : (xs ++ spare).take j ++ vs ++ (xs ++ spare).drop (j + vs.length) = (xs.take j ++ vs ++ xs.drop (j + vs.length)) ++ spare := by
   rw [List.take_append_of_le_length (by omega), List.drop_append_of_le_length (by omega)]; simp
  rw [e] at h2
  refine Holds.ownShut ?_ hn hm ?_ h2
  · simp only [List.length_append, List.length_take, List.length_drop]; omega
  · rw [<- hc]; simp only [List.length_append, List.length_take, List.length_drop]; omega
theorem set_take_drop {α : Type} (xs : List α) (j : Nat) (v : α) (h : j < xs.length) : xs.take j ++ [v] ++ xs.drop (j + 1) = xs.set j v := by
 rw [List.set_eq_take_append_cons_drop, if_pos h]; simp
theorem OpV.stO {T : TabData} {t e : TypeId} {x y : Operand} {a : Addr} {sz m cap j : Nat} {v : Value} {xs : List Value} (hT : T.ok P = true) (hx : evalX f x = some (.pointer (some (a.add j)))) (hy : evalX f y = some v) (hv : v.oneCell' = true) (hl : assoc T.leaf t = some ())
  (u : Hole H (Own e sz (.slice (some a) m cap) m xs) C) (ho : j < xs.length) (h : N (C (Own e sz (.slice (some a) m cap) m (xs.set j v))) f) :
  OpV W P n { dst := none, op := .store t x y, type := ty_, pos, after, guard } Q H f N :=
 OpV.storeO (vs := [v]) hx hy (cells_one hv) (by simpa using hv) (T.leaf_ok hT hl).2 u ho (by rw [List.length_singleton, set_take_drop _ _ _ ho]; exact h)
theorem OpV.stOA {T : TabData} {t e s : TypeId} {x y : Operand} {a : Addr} {sz m cap j : Nat} {vs xs : List Value} (hT : T.ok P = true) (hx : evalX f x = some (.pointer (some (a.add j)))) (hy : evalX f y = some (.agg vs.toArray)) (hs : assoc T.aggs t = some s) (hl : vs.length = s) (h1 : ∀ u ∈ vs, u.oneCell' = true)
  (u : Hole H (Own e sz (.slice (some a) m cap) m xs) C) (ho : j + s <= xs.length) (h : N (C (Own e sz (.slice (some a) m cap) m (xs.take j ++ vs ++ xs.drop (j + s)))) f) :
  OpV W P n { dst := none, op := .store t x y, type := ty_, pos, after, guard } Q H f N := by
 subst hl
 exact OpV.storeO hx hy rfl h1 (T.agg_ok hT hs).2 u ho h
theorem OpV.allocS {t : TypeId} {zs : List Value} {pls : List (Nat × Nat)} (sb : StructT P t zs pls) (hd : Nat.blt d n = true)
  (h : ∀ b, N (Row b t zs :: H) ((d, .pointer (some ⟨b, 0, none⟩)) :: f)) : OpV W P n { dst := some d, op := .alloc t, type := ty_, pos, after, guard } Q H f N :=
 OpV.alloc (z := .agg zs.toArray) sb.zero rfl hd h
end
end Go.Sl
/- The engine: maps from int to int, arrays, function values. Generic: no program is named. -/
namespace Go.Sl
open Go Go.RowKit Go.MapKept
section
variable {W : World} {P : Program} {n : Nat} {c : Code} {Q : Exit -> Act -> World -> Prop} {H H' L S : List SProp} {f F : Fr} {C : SProp -> List SProp}
variable {N : List SProp -> Fr -> Prop} {dst : Option Tmp} {d : Nat} {ty_ : TypeId} {pos : String} {after : Array Edge} {guard : Option (Nat × Bool)}
structure ReadsAs (l : List MapEntry) (m : Int -> Option Int) : Prop where
  each : ∀ e ∈ l, ∃ a v, e.key = .int .i64 a /\ e.val = .int .i64 v /\ m a = some v
  all : ∀ a v, m a = some v -> ∃ e ∈ l, e.key = .int .i64 a
  one : ∀ (i j : Nat) (e e' : MapEntry), l[i]? = some e -> l[j]? = some e' -> e.key = e'.key -> i = j
def MapR (b : Nat) (m : Int -> Option Int) : SProp := ex fun x : Array MapEntry × Nat => Sl.star [fact (ReadsAs x.1.toList m), At b (.map x.1 x.2)]
theorem MapR.open {w : World} {b : Nat} {m : Int -> Option Int} {R : List SProp} (hw : Holds W (MapR b m :: R) w) : ∃ es cl, ReadsAs es.toList m /\ Holds W (At b (.map es cl) :: R) w := by
 obtain ⟨⟨es, cl⟩, h⟩ := hw.exOpen
 have h := h.join
 exact ⟨es, cl, h.factOpen, h.tail⟩
theorem MapR.shut {b : Nat} {m : Int -> Option Int} {R : List SProp} {w : World} {es : Array MapEntry} {cl : Nat} (hr : ReadsAs es.toList m) (hw : Holds W (At b (.map es cl) :: R) w) : Holds W (MapR b m :: R) w :=
 Holds.exShut (es, cl) (Holds.nest (L := [_, _]) (hw.factShut hr))
theorem ReadsAs.nil : ReadsAs [] (fun _ => none) := by
 constructor
 · intro e h; cases h
 · intro a v h; cases h
 · intro i j e e' h; simp at h
theorem ReadsAs.find {l : List MapEntry} {m : Int -> Option Int} (h : ReadsAs l m) (k : Int) :
  (Instr.findNow (.int .i64) (.int .i64 k) l 0 = some none /\ m k = none /\ ∀ e ∈ l, e.key ≠ .int .i64 k) \/
  ∃ j e v, Instr.findNow (.int .i64) (.int .i64 k) l 0 = some (some (j, .int .i64 v)) /\ m k = some v /\ l[j]? = some e /\ e.key = .int .i64 k := by
 rcases findNow_spec (d := .int .i64) (k := .int .i64 k) rfl l 0 (fun e he => by obtain ⟨a, v, h1, _, _⟩ := h.each e he; rw [h1]; rfl) with ⟨h1, h2⟩ | ⟨j, e, h1, h2, h3⟩
 ·
  refine .inl ⟨h1, ?_, h2⟩
  cases hm : m k with
  | none => rfl
  | some v => obtain ⟨e, he, hk⟩ := h.all k v hm; exact absurd hk (h2 e he)
 ·
  obtain ⟨a, v, k1, k2, k3⟩ := h.each e (List.mem_of_getElem? h2)
  rw [h3] at k1; cases k1
  exact .inr ⟨j, e, v, by rw [h1, Nat.zero_add, k2], k3, h2, h3⟩
theorem OpV.makeMap {t : TypeId} (hd : Nat.blt d n = true) (h : ∀ b, N (MapR b (fun _ => none) :: H) ((d, .map (some b)) :: f)) :
  OpV W P n { dst := some d, op := .makeMap t none, type := ty_, pos, after, guard } Q H f N := by
 refine OpV.run hd (fun tm w hk hw => ⟨w.heap.size, _, ?_, MapR.shut (es := #[]) (cl := 0) ReadsAs.nil hw.allocObj⟩) h
 unfold execOp
 simp only [Option.map_none, Sem.run_bind, run_makeMap, Result.andThen_ok, Sem.run_pure]
theorem Holds.mapAt {b : Nat} {m : Int -> Option Int} {w : World} (hw : Holds W H w) (hm : MapR b m ∈ H) : ∃ es cl, ReadsAs es.toList m /\ w.heap[b]? = some (.map es cl) := by
 obtain ⟨R, p⟩ := mem_perm hm
 obtain ⟨es, cl, h1, h2⟩ := MapR.open (hw.perm p)
 exact ⟨es, cl, h1, (h2.at (.head _)).2⟩
theorem PureAt.lookup {t kt et : TypeId} {x y : Operand} {b : Nat} {k : Int} {m : Int -> Option Int} (ht : P.underlying t = some (.map kt et)) (hkt : P.underlying kt = some (.int .i64)) (hz : ∀ w, (zeroValue et).run P w = .ok (.int .i64 0) w)
  (hx : evalX f x = some (.map (some b))) (hy : evalX f y = some (.int .i64 k)) (hm : MapR b m ∈ H) :
  PureAt W P n H f { dst, op := .lookup t x y true, type := ty_, pos, after, guard } (.tuple #[.int .i64 ((m k).getD 0), .bool (m k).isSome]) := by
 unfold PureAt
 intro tm w hk hw
 obtain ⟨es, cl, hr, hb⟩ := hw.mapAt hm
 have hck := Go.MapKept.run_checkKey (P := P) (w := w) (kt := kt) (k := .int .i64 k) hkt rfl es.isEmpty 9999
 rcases hr.find k with ⟨h1, h2, _⟩ | ⟨j, e, v, h1, h2, _, _⟩
 ·
  have hf := Go.MapKept.run_findKey (P := P) (w := w) (kt := kt) hkt h1
  simp [execOp, Instr.lookup, hk.eval hx, hk.eval hy, Sem.run_bind, run_underlying ht, Go.MapKept.run_getObj_map hb, hck, hf, hz, h2]
 ·
  have hf := Go.MapKept.run_findKey (P := P) (w := w) (kt := kt) hkt h1
  simp [execOp, Instr.lookup, hk.eval hx, hk.eval hy, Sem.run_bind, run_underlying ht, Go.MapKept.run_getObj_map hb, hck, hf, h2]
def updM (m : Int -> Option Int) (k v : Int) : Int -> Option Int := fun a => if a = k then some v else m a
theorem ReadsAs.push {l : List MapEntry} {m : Int -> Option Int} (h : ReadsAs l m) (k v : Int) (cl : Nat) (hn : ∀ e ∈ l, e.key ≠ .int .i64 k) : ReadsAs (l ++ [⟨.int .i64 k, .int .i64 v, cl⟩]) (updM m k v) := by
 refine ⟨fun e he => ?_, fun a u hu => ?_, fun i j e e' hi hj hk => ?_⟩
 ·
  rcases List.mem_append.1 he with he | he
  ·
   obtain ⟨a, u, h1, h2, h3⟩ := h.each e he
   refine ⟨a, u, h1, h2, ?_⟩
   unfold updM; rw [if_neg (fun q => hn e he (by rw [h1, q]))]; exact h3
  ·
   rw [List.mem_singleton] at he; subst he
   exact ⟨k, v, rfl, rfl, by simp [updM]⟩
 ·
  by_cases q : a = k
  · subst q; exact ⟨_, List.mem_append_right _ (List.mem_singleton.2 rfl), rfl⟩
  ·
   unfold updM at hu; rw [if_neg q] at hu
   obtain ⟨e, he, hk⟩ := h.all a u hu
   exact ⟨e, List.mem_append_left _ he, hk⟩
 ·
  by_cases hi' : i < l.length
  ·
   by_cases hj' : j < l.length
   ·
    rw [List.getElem?_append_left hi'] at hi; rw [List.getElem?_append_left hj'] at hj
    exact h.one i j e e' hi hj hk
   ·
    rw [List.getElem?_append_left hi'] at hi; rw [List.getElem?_append_right (by omega)] at hj
    have : e' = ⟨.int .i64 k, .int .i64 v, cl⟩ := by
     have := List.mem_of_getElem? hj; simpa using this
    subst this
    exact absurd hk (hn e (List.mem_of_getElem? hi))
  ·
   by_cases hj' : j < l.length
   ·
    rw [List.getElem?_append_left hj'] at hj; rw [List.getElem?_append_right (by omega)] at hi
    have : e = ⟨.int .i64 k, .int .i64 v, cl⟩ := by
     have := List.mem_of_getElem? hi; simpa using this
    subst this
    exact absurd hk.symm (hn e' (List.mem_of_getElem? hj))
   ·
    rw [List.getElem?_append_right (by omega)] at hi hj
    have := (List.getElem?_eq_some_iff.1 hi).1
    have := (List.getElem?_eq_some_iff.1 hj).1
    simp at *; omega
theorem ReadsAs.set {l : List MapEntry} {m : Int -> Option Int} (h : ReadsAs l m) (k v : Int) {j : Nat} {e0 : MapEntry} (hj : l[j]? = some e0) (hk0 : e0.key = .int .i64 k) :
  ReadsAs (l.modify j fun e => { e with key := .int .i64 k, val := .int .i64 v }) (updM m k v) := by
 have hg (i : Nat) (e : MapEntry) (hi : (l.modify j fun e => { e with key := .int .i64 k, val := .int .i64 v })[i]? = some e) :
   (i = j /\ e.key = .int .i64 k /\ e.val = .int .i64 v) \/ (i ≠ j /\ l[i]? = some e) := by
  rw [List.getElem?_modify] at hi
  by_cases q : j = i
  ·
   subst q
   rw [hj] at hi
   simp at hi
   subst hi
   exact .inl ⟨rfl, rfl, rfl⟩
  ·
   simp [q] at hi
   exact .inr ⟨fun r => q r.symm, hi⟩
 refine ⟨fun e he => ?_, fun a u hu => ?_, fun i i' e e' hi hi' hk => ?_⟩
 ·
  obtain ⟨i, hi⟩ := List.getElem?_of_mem he
  rcases hg i e hi with ⟨_, h1, h2⟩ | ⟨hne, h1⟩
  · exact ⟨k, v, h1, h2, by simp [updM]⟩
  ·
   obtain ⟨a, u, k1, k2, k3⟩ := h.each e (List.mem_of_getElem? h1)
   refine ⟨a, u, k1, k2, ?_⟩
   unfold updM; rw [if_neg]; exact k3
   intro q; subst q
   exact hne (h.one i j e e0 h1 hj (by rw [k1, hk0]))
 ·
  have hjl := (List.getElem?_eq_some_iff.1 hj).1
  by_cases q : a = k
  ·
   subst q
   refine ⟨{ e0 with key := .int .i64 a, val := .int .i64 v }, List.mem_of_getElem? (i := j) ?_, rfl⟩
   rw [List.getElem?_modify, hj]; simp
  ·
   unfold updM at hu; rw [if_neg q] at hu
   obtain ⟨e, he, hk⟩ := h.all a u hu
   obtain ⟨i, hi⟩ := List.getElem?_of_mem he
   refine ⟨e, List.mem_of_getElem? (i := i) ?_, hk⟩
   rw [List.getElem?_modify, hi]
   have : j ≠ i := by
    intro r; subst r; rw [hj] at hi; cases hi; rw [hk0] at hk; cases hk; exact q rfl
   simp [this]
 ·
  rcases hg i e hi with ⟨h1, h2, _⟩ | ⟨h1, h2⟩ <;> rcases hg i' e' hi' with ⟨g1, g2, _⟩ | ⟨g1, g2⟩
  · omega
  · exact absurd (h.one i' j e' e0 g2 hj (by rw [<- hk, h2, hk0])) g1
  · exact absurd (h.one i j e e0 h2 hj (by rw [hk, g2, hk0])) h1
  · exact h.one i i' e e' h2 g2 hk
theorem Holds.setMap {w : World} {b : Nat} {m m' : Int -> Option Int} {es : Array MapEntry} {cl cl' : Nat} {es' : Array MapEntry} (hw : Holds W H w) (u : Hole H (MapR b m) C) (hb : w.heap[b]? = some (.map es cl)) (hr : ReadsAs es'.toList m') :
  Holds W (C (MapR b m')) { w with heap := w.heap.setIfInBounds b (.map es' cl') } := by
 obtain ⟨R, p, q⟩ := u.perm
 obtain ⟨es0, cl0, _, h2⟩ := MapR.open (hw.perm p)
 have hb2 := (h2.at (.head _)).2
 obtain ⟨s1, s2⟩ := Go.MapKept.heap_set (o' := .map es' cl') hb
 refine Holds.perm (q _) (MapR.shut hr (h2.put .head rfl rfl rfl (by simp) (fun k hk => s2 k hk) s1))
theorem OpV.mapUpdate {t kt et : TypeId} {x y z : Operand} {b : Nat} {k v : Int} {m : Int -> Option Int} (ht : P.underlying t = some (.map kt et)) (hkt : P.underlying kt = some (.int .i64))
  (hx : evalX f x = some (.map (some b))) (hy : evalX f y = some (.int .i64 k)) (hz : evalX f z = some (.int .i64 v)) (u : Hole H (MapR b m) C) (h : N (C (MapR b (updM m k v))) f) :
  OpV W P n { dst := none, op := .mapUpdate t x y z, type := ty_, pos, after, guard } Q H f N := by
 unfold OpV
 intro tm w hk hw K hK
 obtain ⟨R, p, q⟩ := u.perm
 obtain ⟨es, cl, hr, hb⟩ := (hw.perm p).mapAt (.head _)
 have hck := Go.MapKept.run_checkKey (P := P) (w := w) (kt := kt) (k := .int .i64 k) hkt rfl false 9999
 unfold Oper.wp execOp
 rcases hr.find k with ⟨h1, h2, h3⟩ | ⟨j, e, v0, h1, h2, h3, h4⟩
 ·
  have hf := Go.MapKept.run_findKey (P := P) (w := w) (kt := kt) hkt h1
  simp only [Instr.mapUpdate, hk.eval hx, hk.eval hy, hk.eval hz, Sem.run_bind, run_underlying ht, Go.MapKept.run_getObj_map hb, hck, hf, Result.andThen_ok, Go.MapKept.run_setObj_map _ hb, Sem.run_pure]
  refine hK _ _ h _ _ hk (hw.setMap u hb ?_)
  have := hr.push k v cl h3
  simpa using this
 ·
  have hf := Go.MapKept.run_findKey (P := P) (w := w) (kt := kt) hkt h1
  have hks : (Instr.keyThatStays (((es[j]?).map (·.key)).getD (.int .i64 k)) (.int .i64 k)).run P w = .ok (.int .i64 k) w := by
   rw [Array.getElem?_toList] at h3
   simp [h3, h4, Instr.keyThatStays, Instr.sameBits]
  simp only [Instr.mapUpdate, hk.eval hx, hk.eval hy, hk.eval hz, Sem.run_bind, run_underlying ht, Go.MapKept.run_getObj_map hb, hck, hf, hks, Result.andThen_ok, Go.MapKept.run_setObj_map _ hb, Sem.run_pure]
  refine hK _ _ h _ _ hk (hw.setMap u hb ?_)
  have := hr.set k v h3 h4
  simpa using this
theorem OpV.clearMap {t kt et : TypeId} {x : Operand} {b : Nat} {m : Int -> Option Int} (ht : P.underlying t = some (.map kt et))
  (hx : evalX f x = some (.map (some b))) (u : Hole H (MapR b m) C) (h : N (C (MapR b (fun _ => none))) f) :
  OpV W P n { dst := none, op := .call { callee := .builtin .clear, args := #[x], argTypes := #[t] }, type := ty_, pos, after, guard } Q H f N := by
 unfold OpV
 intro tm w hk hw K hK
 obtain ⟨R, p, q⟩ := u.perm
 obtain ⟨es, cl, hr, hb⟩ := (hw.perm p).mapAt (.head _)
 have hc : (Builtin.clear_ #[t] ty_ #[.map (some b)]).run P w = .ok (.tuple #[]) { w with heap := w.heap.setIfInBounds b (.map #[] cl) } := by
  simp [Builtin.clear_, Sem.run_bind, run_underlying ht, Go.MapKept.run_getObj_map hb, Go.MapKept.run_setObj_map _ hb]
 unfold Oper.wp execOp
 simp only [resolve, invoke, builtin, Sem.run_bind, Sem.run_pure, Result.andThen_ok, List.map_toArray, List.map_cons, List.map_nil, hk.eval hx, hc]
 exact hK _ _ h _ _ hk (hw.setMap u hb ReadsAs.nil)
theorem PureAt.makeFunc1 {g : FuncId} {x : Operand} {v : Value} (hx : evalX f x = some v) : PureAt W P n H f { dst, op := .makeFunc (.func g) #[] #[x], type := ty_, pos, after, guard } (.func (.func g) #[] #[v]) := by
 unfold PureAt
 intro tm w hk hw
 simp [execOp, Instr.makeFunc, hk.eval hx]
theorem PureAt.toArray {t e : TypeId} {x : Operand} {a : Option Addr} {m len cap : Nat} (ht : P.underlying t = some (.array m e)) (hx : evalX f x = some (.slice a len cap)) (hl : m <= len) :
  PureAt W P n H f { dst, op := .sliceToArrayPointer t x, type := ty_, pos, after, guard } (.pointer a) := by
 unfold PureAt
 intro tm w hk hw
 simp [execOp, Instr.arrayAt, hk.eval hx, Sem.run_bind, run_underlying ht, Nat.not_lt.2 hl]
theorem PureAt.sliceArr {t e sz : TypeId} {x : Operand} {a : Addr} {m : Nat} (ht : P.underlying t = some (.array m e)) (hm : m ≠ 0) (hs : ∀ w, (sizeOf e).run P w = .ok sz w) (hx : evalX f x = some (.pointer (some a))) :
  PureAt W P n H f { dst, op := .slice t x none none none, type := ty_, pos, after, guard } (.slice (some (a.add 0)) m m) := by
 unfold PureAt
 intro tm w hk hw
 simp [execOp, Instr.sliceAt, Instr.sureAddr, Instr.sliceBounds, hk.eval hx, Sem.run_bind, run_underlying ht, hs, hm]
theorem OpV.allocE {t e : TypeId} {z : Value} {sz by_ : Nat} {cs : List Value} (st : SliceT P t e z sz by_) (hcs : z.cells = cs.toArray) (hd : Nat.blt d n = true)
  (h : ∀ b, N (Row b e cs :: H) ((d, .pointer (some ⟨b, 0, none⟩)) :: f)) : OpV W P n { dst := some d, op := .alloc e, type := ty_, pos, after, guard } Q H f N := by
 refine OpV.alloc (z := z) (fun w => ?_) hcs hd h
 obtain ⟨i, hi, hz, hsz, hby⟩ := info_parts st.info
 simp [zeroValue, typeInfo, hi, hz]
end
theorem Holds.ownMax {W w : World} {H : List SProp} {e sz k : Nat} {v : Value} {xs : List Value} (hw : Holds W H w) (m : Own e sz v k xs ∈ H) : k <= maxLen := by
 obtain ⟨R, p⟩ := mem_perm m
 obtain ⟨hl, hv⟩ := (hw.perm p).ownOpen
 rcases hv with ⟨_, rfl, _⟩ | ⟨b, cap', spare, he, hn, hm, hc, hR⟩
 · exact Nat.zero_le _
 · omega
section
variable {α β : Type}
theorem flat_length {g : α -> List β} {w : Nat} : ∀ (l : List α), (∀ a ∈ l, (g a).length = w) -> (l.flatMap g).length = l.length * w
  | [], _ => by simp
  | a :: r, h => by
    rw [List.flatMap_cons, List.length_append, h a (.head _), flat_length r (fun x hx => h x (.tail _ hx)), List.length_cons, Nat.add_mul]; omega
theorem flat_part {g : α -> List β} {w : Nat} : ∀ (l : List α) (j : Nat) (h : j < l.length), (∀ a ∈ l, (g a).length = w) -> ((l.flatMap g).drop (j * w)).take w = g l[j]
  | a :: r, 0, _, h => by
    rw [List.flatMap_cons, Nat.zero_mul, List.drop_zero, List.take_append_of_le_length (by rw [h a (.head _)]; exact Nat.le_refl _), List.take_of_length_le (by rw [h a (.head _)]; exact Nat.le_refl _)]; rfl
  | a :: r, j + 1, hj, h => by
    have := flat_part r j (by simpa using hj) (fun x hx => h x (.tail _ hx))
    rw [List.flatMap_cons, Nat.add_mul, Nat.one_mul, Nat.add_comm (j * w) w, <- h a (.head _), List.drop_append, h a (.head _)]
    rw [show (g a).drop (w + j * w) = [] from List.drop_of_length_le (by rw [h a (.head _)]; omega), List.nil_append, Nat.add_sub_cancel_left]
    simpa using this
theorem flat_set {g : α -> List β} {w : Nat} (b : α) : ∀ (l : List α) (j : Nat), j < l.length -> (∀ a ∈ l, (g a).length = w) -> (l.flatMap g).take (j * w) ++ g b ++ (l.flatMap g).drop (j * w + w) = (l.set j b).flatMap g
  | a :: r, 0, _, h => by
    rw [List.flatMap_cons, Nat.zero_mul, List.take_zero, List.nil_append, Nat.zero_add, List.drop_append, h a (.head _), List.drop_of_length_le (by rw [h a (.head _)]; exact Nat.le_refl _)]
    simp
  | a :: r, j + 1, hj, h => by
    have := flat_set b r j (by simpa using hj) (fun x hx => h x (.tail _ hx))
    have e1 : (g a ++ r.flatMap g).take ((j + 1) * w) = g a ++ (r.flatMap g).take (j * w) := by
      rw [List.take_append, List.take_of_length_le (by rw [h a (.head _), Nat.add_mul]; omega), h a (.head _), Nat.add_mul, Nat.one_mul, Nat.add_sub_cancel]
    have e2 : (g a ++ r.flatMap g).drop ((j + 1) * w + w) = (r.flatMap g).drop (j * w + w) := by
      rw [List.drop_append, List.drop_of_length_le (by rw [h a (.head _), Nat.add_mul]; omega), h a (.head _), List.nil_append]; congr 1; rw [Nat.add_mul]; omega
    rw [List.flatMap_cons, e1, e2, List.set_cons_succ, List.flatMap_cons, <- this]; simp
end
attribute [irreducible] MapR
end Go.Sl
/- What an argument that can be read gives a walk: its shape, its cells, its bounds. Generic: no program is named. -/
namespace Go.Sl
open Go.RowKit
inductive InT (P : Program) (W : World) : TypeId -> List Value -> Prop
  | int {t : TypeId} {k : IntKind} {n : Int} (hu : P.underlying t = some (.int k)) (hw : (Lit.int k n).wf = true) : InT P W t [.int k n]
  | bool {t : TypeId} {b : Bool} (hu : P.underlying t = some .bool) : InT P W t [.bool b]
  | nil {t e : TypeId} (hu : P.underlying t = some (.slice e)) : InT P W t [.slice none 0 0]
  | slice {t e : TypeId} {a : Addr} {n cap : Nat} (hu : P.underlying t = some (.slice e)) (h1 : n <= cap) (h2 : cap <= maxLen) (h3 : cap * P.bytesOf e <= reachBytes) (row : Nat -> List Value)
      (hl : ∀ i, i < cap -> (row i).length = P.cellsOf e) (hc : ∀ i, i < cap -> ∀ j, j < P.cellsOf e -> W.cell? (a.add (i * P.cellsOf e + j)) = (row i)[j]?) (hi : ∀ i, i < cap -> InT P W e (row i)) : InT P W t [.slice (some a) n cap]
  | struct {t : TypeId} {fs : Array Field} {cs : List Value} (hu : P.underlying t = some (.struct fs)) (hl : cs.length = P.cellsOf t)
      (hf : ∀ (i : Nat) (f : Field), fs[i]? = some f -> InT P W f.type ((cs.drop f.offset).take (P.cellsOf f.type))) : InT P W t cs
  | other {t : TypeId} {d : TypeDesc} {cs : List Value} (hu : P.underlying t = some d) (hd : (match d with | .int _ | .bool | .slice _ | .struct _ => false | _ => true) = true) : InT P W t cs
section
variable {H : Type} {enc : TypeId × Value -> H} {P : Program} {W : World}
theorem weightsAll_mem {e : TypeId} : ∀ {l : List (DataW H)} {d : DataW H} {n : Nat}, d ∈ l -> n ∈ d.weights P e -> n ∈ DataW.weightsAll P e l
  | d0 :: r, d, n, hd, hn => by
    simp only [DataW.weightsAll, List.mem_append]
    cases hd with
    | head => exact .inl hn
    | tail _ h => exact .inr (weightsAll_mem h hn)
theorem weightsEach_mem {ts : List TypeId} {ds : List (DataW H)} {j : Nat} {t : TypeId} {d : DataW H} (ht : ts[j]? = some t) (hd : ds[j]? = some d) {n : Nat} (hn : n ∈ d.weights P t) : n ∈ DataW.weightsEach P ts ds := DataW.weights_mem_each ht hd n hn
theorem InT.of_trod : ∀ (fuel : Nat) (t : TypeId) (cs : List Value) (x : DataW H × List MemPlace), DataW.trod enc P W 0 (fun _ => true) true fuel t cs = some x -> (∀ n ∈ x.1.weights P t, n <= reachBytes) -> InT P W t cs := by
  intro fuel
  induction fuel with
  | zero => intro t cs x h; simp [DataW.trod] at h
  | succ fuel ih =>
    intro t cs x h hw
    cases hu : P.underlying t with
    | none => unfold DataW.trod at h; rw [hu] at h; simp at h
    | some d =>
      cases d with
      | int k =>
        unfold DataW.trod at h
        rw [hu] at h
        split at h <;> simp_all
        obtain ⟨⟨rfl, hwf⟩, _⟩ := h
        exact .int hu hwf
      | bool =>
        unfold DataW.trod at h
        rw [hu] at h
        split at h <;> simp_all
        exact .bool hu
      | slice e =>
        rcases DataW.trod_slice hu h with ⟨rfl, _⟩ | ⟨a, len, cap, elems, rest, n, hn, rfl, rfl, hb, hl, hm, hlen, hel, hsp, _⟩
        · exact .nil hu
        · cases hn
          obtain ⟨hr, hre⟩ := hsp rfl
          have hwt : ∀ d ∈ elems.map (·.1) ++ rest.map (·.1), ∀ n ∈ d.weights P e, n <= reachBytes := by
            intro d hd n hn
            refine hw n ?_
            simp only [DataW.weights, hu, List.mem_cons, List.mem_append]
            rcases List.mem_append.1 hd with h | h
            · exact .inr (.inl (weightsAll_mem h hn))
            · exact .inr (.inr (weightsAll_mem h hn))
          have hbig : cap * P.bytesOf e <= reachBytes := by
            have := hw ((elems.length + rest.length) * P.bytesOf e) (by simp [DataW.weights, hu])
            rwa [hlen, hr, Nat.add_sub_cancel' hl] at this
          have each : ∀ i, i < cap -> ∃ row : List Value, row.length = P.cellsOf e /\ (∀ j, j < P.cellsOf e -> W.cell? (a.add (i * P.cellsOf e + j)) = row[j]?) /\ InT P W e row := by
            intro i hi
            have key : ∃ y, (W.cells? 0 (a.add (i * P.cellsOf e)) (P.cellsOf e)).bind (DataW.trod enc P W 0 (fun _ => true) true fuel e) = some y /\ y.1 ∈ elems.map (·.1) ++ rest.map (·.1) := by
              by_cases hil : i < len
              · refine ⟨elems[i]'(by omega), by rw [hel i hil, List.getElem?_eq_getElem], ?_⟩
                exact List.mem_append_left _ (List.mem_map.2 ⟨_, List.getElem_mem _, rfl⟩)
              · have h2 := hre (i - len) (by omega)
                rw [show len + (i - len) = i by omega] at h2
                refine ⟨rest[i - len]'(by omega), by rw [h2, List.getElem?_eq_getElem], ?_⟩
                exact List.mem_append_right _ (List.mem_map.2 ⟨_, List.getElem_mem _, rfl⟩)
            obtain ⟨y, hy, hmem⟩ := key
            obtain ⟨row, h1, h2⟩ := Option.bind_eq_some_iff.1 hy
            obtain ⟨_, hcl, hat⟩ := World.cells?_some h1
            refine ⟨row, hcl, fun j hj => ?_, ih e row y h2 (hwt _ hmem)⟩
            rw [<- hat j hj, Go.Deep.add_add]
          obtain ⟨row, hrow⟩ := Go.Deep.choose_lt each
          exact .slice hu hl hm hbig row (fun i hi => (hrow i hi).1) (fun i hi => (hrow i hi).2.1) (fun i hi => (hrow i hi).2.2)
      | struct fs =>
        obtain ⟨xs, n, hn, rfl, hcl, hxl, hf⟩ := DataW.trod_struct hu h
        cases hn
        refine .struct hu hcl fun i f hi => ?_
        have h1 := hf i f hi
        have hix : i < xs.length := by rw [hxl]; exact (Array.getElem?_eq_some_iff.1 hi).1
        rw [List.getElem?_eq_getElem hix] at h1
        refine ih f.type _ _ h1 fun n hn => hw n ?_
        simp only [DataW.weights, hu]
        exact weightsEach_mem (j := i) (t := f.type) (by simp [hi]) (by simp [hix]) hn
      | _ => exact .other hu rfl
theorem InT.int_inv {t : TypeId} {k : IntKind} {cs : List Value} (h : InT P W t cs) (hu : P.underlying t = some (.int k)) : ∃ n, cs = [.int k n] /\ (Lit.int k n).wf = true := by
 cases h with
 | int hu' hw => rw [hu] at hu'; cases hu'; exact ⟨_, rfl, hw⟩
 | bool hu' => rw [hu] at hu'; cases hu'
 | nil hu' => rw [hu] at hu'; cases hu'
 | slice hu' => rw [hu] at hu'; cases hu'
 | struct hu' => rw [hu] at hu'; cases hu'
 | other hu' hd => rw [hu] at hu'; cases hu'; cases hd
theorem InT.struct_inv {t : TypeId} {fs : Array Field} {cs : List Value} (h : InT P W t cs) (hu : P.underlying t = some (.struct fs)) :
  cs.length = P.cellsOf t /\ ∀ (i : Nat) (f : Field), fs[i]? = some f -> InT P W f.type ((cs.drop f.offset).take (P.cellsOf f.type)) := by
 cases h with
 | int hu' hw => rw [hu] at hu'; cases hu'
 | bool hu' => rw [hu] at hu'; cases hu'
 | nil hu' => rw [hu] at hu'; cases hu'
 | slice hu' => rw [hu] at hu'; cases hu'
 | struct hu' hl hf => rw [hu] at hu'; cases hu'; exact ⟨hl, hf⟩
 | other hu' hd => rw [hu] at hu'; cases hu'; cases hd
theorem InT.field {t t' : TypeId} {fs : Array Field} {cs : List Value} {i off sz : Nat} {f : Field} (h : InT P W t cs) (hu : P.underlying t = some (.struct fs)) (hi : fs[i]? = some f) (ht : f.type = t') (ho : f.offset = off) (hc : P.cellsOf t' = sz) :
  InT P W t' ((cs.drop off).take sz) := by
 subst ht ho hc
 exact (h.struct_inv hu).2 i f hi
theorem InT.slice_inv {t e : TypeId} {cs : List Value} (h : InT P W t cs) (hu : P.underlying t = some (.slice e)) :
    ∃ (ao : Option Addr) (n cap : Nat) (row : Nat -> List Value), cs = [.slice ao n cap] /\ (ao = none -> cap = 0) /\ n <= cap /\ cap <= maxLen /\ cap * P.bytesOf e <= reachBytes /\ (∀ i, i < cap -> (row i).length = P.cellsOf e) /\
      (∀ a, ao = some a -> ∀ i, i < cap -> ∀ j, j < P.cellsOf e -> W.cell? (a.add (i * P.cellsOf e + j)) = (row i)[j]?) /\ ∀ i, i < cap -> InT P W e (row i) := by
  cases h with
  | int hu' hw => rw [hu] at hu'; cases hu'
  | bool hu' => rw [hu] at hu'; cases hu'
  | nil hu' => exact ⟨none, 0, 0, fun _ => [], rfl, fun _ => rfl, Nat.le_refl _, Nat.zero_le _, by simp, fun _ h => absurd h (by omega), (fun _ h => by cases h), fun _ h => absurd h (by omega)⟩
  | slice hu' h1 h2 h3 row hl hc hi =>
    rw [hu] at hu'; cases hu'
    exact ⟨some _, _, _, row, rfl, (fun h => by cases h), h1, h2, h3, hl, (fun a ha => by cases ha; exact hc), hi⟩
  | struct hu' => rw [hu] at hu'; cases hu'
  | other hu' hd => rw [hu] at hu'; cases hu'; cases hd
theorem flat_get {sz : Nat} {row : Nat -> List Value} : ∀ {m : Nat}, (∀ i, i < m -> (row i).length = sz) -> ((List.range m).flatMap row).length = m * sz /\ ∀ i, i < m -> ∀ j, j < sz -> ((List.range m).flatMap row)[i * sz + j]? = (row i)[j]?
  | 0, _ => ⟨by simp, fun i h => absurd h (by omega)⟩
  | m + 1, h => by
    obtain ⟨h1, h2⟩ := flat_get (m := m) fun i hi => h i (by omega)
    rw [List.range_succ, List.flatMap_append]
    simp only [List.flatMap_cons, List.flatMap_nil, List.append_nil]
    refine ⟨by rw [List.length_append, h1, h m (by omega), Nat.add_mul]; omega, fun i hi j hj => ?_⟩
    by_cases him : i < m
    · have : i * sz + j < m * sz := by
        have : (i + 1) * sz <= m * sz := Nat.mul_le_mul_right _ (by omega)
        rw [Nat.add_mul] at this; omega
      rw [List.getElem?_append_left (by omega)]
      exact h2 i him j hj
    · have : i = m := by omega
      subst this
      rw [List.getElem?_append_right (by omega), h1]
      congr 1; omega
theorem sees_rows {sz cap m : Nat} {ao : Option Addr} {row : Nat -> List Value} (h0 : ao = none -> cap = 0) (hm : m <= cap) (hl : ∀ i, i < cap -> (row i).length = sz) (h1 : ∀ i, i < cap -> ∀ u ∈ row i, u.oneCell' = true)
    (hc : ∀ a, ao = some a -> ∀ i, i < cap -> ∀ j, j < sz -> W.cell? (a.add (i * sz + j)) = (row i)[j]?) {R : List SProp} : Rds W R sz ao m ((List.range m).flatMap row) := by
  obtain ⟨hlen, hget⟩ := flat_get (m := m) (row := row) (sz := sz) fun i hi => hl i (by omega)
  refine ⟨hlen, fun u hu => ?_, fun h => by have := h0 h; omega, ?_⟩
  · obtain ⟨i, hi, hui⟩ := List.mem_flatMap.1 hu
    exact h1 i (by have := List.mem_range.1 hi; omega) u hui
  · intro w hw a ha j u hj
    have hjl := (List.getElem?_eq_some_iff.1 hj).1
    rw [hlen] at hjl
    have hsz : 0 < sz := by rcases Nat.eq_zero_or_pos sz with h | h; · subst h; simp at hjl
                            · exact h
    have hi : j / sz < m := by rw [Nat.div_lt_iff_lt_mul hsz]; exact hjl
    have hj' := hget (j / sz) hi (j % sz) (Nat.mod_lt _ hsz)
    have hcc := hc a ha (j / sz) (by omega) (j % sz) (Nat.mod_lt _ hsz)
    have e : j / sz * sz + j % sz = j := by rw [Nat.mul_comm]; exact Nat.div_add_mod j sz
    rw [e] at hj' hcc
    refine hw.ro ?_
    rw [hcc, <- hj', hj]
end
end Go.Sl
/- The engine: a loop that goes no round, a slice and what has grown out of it, resources by a list. Generic: no program is named. -/
namespace Go.Sl
open Go Go.RowKit
section
variable {W : World} {P : Program} {n : Nat} {c : Code} {Q : Exit -> Act -> World -> Prop} {H H' L S R : List SProp} {f F : Fr} {C : SProp -> List SProp}
variable {N : List SProp -> Fr -> Prop} {dst : Option Tmp} {d : Nat} {ty_ : TypeId} {pos : String} {after : Array Edge} {guard : Option (Nat × Bool)}
theorem VC.once (hc : isLoop c = true) (h : VC W P n (Cd.l c) (loopC W n (fun _ : Unit => False) (fun _ => []) (fun _ => []) (fun _ => 0) 0 Q) H f) : VC W P n c Q H f := by
  cases c <;> simp [isLoop] at hc
  unfold VC at h ⊢
  intro t w hk hw
  refine wp_loop_ghost (fun _ a w => ∃ t', a = ⟨t', []⟩ /\ Knows n f t' /\ Holds W H w) 0 ⟨t, rfl, hk, hw⟩ ?_
  rintro k a w ⟨t', rfl, hk', hw'⟩
  refine Code.wp_mono ?_ (h t' w hk' hw')
  unfold loopC
  intro e a w q
  cases e with
  | normal =>
    obtain ⟨y, t'', rfl, h1, h2, h3, h4⟩ := q
    exact h1.elim
  | _ => exact q
def orS (p q : SProp) : SProp := fun h => p h \/ q h
theorem Holds.orOpen {p q : SProp} {w : World} (h : Holds W (orS p q :: R) w) : Holds W (p :: R) w \/ Holds W (q :: R) w := by
 obtain ⟨hb, h1, h2, a, b, c, hp | hp, hr⟩ := h
 · exact .inl ⟨hb, h1, h2, a, b, c, hp, hr⟩
 · exact .inr ⟨hb, h1, h2, a, b, c, hp, hr⟩
theorem Holds.orL {p q : SProp} {w : World} (h : Holds W (p :: R) w) : Holds W (orS p q :: R) w := h.cons fun _ k => .inl k
def TwinR (e sz : Nat) (ao : Option Addr) (cap k : Nat) (xs : List Value) (ao' : Option Addr) (cap' k' : Nat) (ys : List Value) : SProp :=
  orS (Sl.star [fact (ao' = ao /\ cap' = cap /\ k <= k' /\ xs = ys.take (k * sz)), Own e sz (.slice ao' k' cap') k' ys])
    (Sl.star [Own e sz (.slice ao k cap) k xs, Own e sz (.slice ao' k' cap') k' ys])
theorem TwinR.start {e sz k cap : Nat} {ao : Option Addr} {xs : List Value} {w : World} (hw : Holds W (Own e sz (.slice ao k cap) k xs :: R) w) : Holds W (TwinR e sz ao cap k xs ao cap k xs :: R) w := by
 have hl := hw.ownLen (.head _)
 exact Holds.orL (Holds.nest (L := [_, _]) (hw.factShut ⟨rfl, rfl, Nat.le_refl _, (List.take_of_length_le (by omega)).symm⟩))
theorem TwinR.open {e sz k cap k' cap' : Nat} {ao ao' : Option Addr} {xs ys : List Value} {w : World} (hw : Holds W (TwinR e sz ao cap k xs ao' cap' k' ys :: R) w) :
  ((ao' = ao /\ cap' = cap /\ k <= k' /\ xs = ys.take (k * sz)) /\ Holds W (Own e sz (.slice ao' k' cap') k' ys :: R) w) \/ Holds W (Own e sz (.slice ao k cap) k xs :: Own e sz (.slice ao' k' cap') k' ys :: R) w := by
 rcases hw.orOpen with h | h
 ·
  have h := h.join
  exact .inl ⟨h.factOpen, h.tail⟩
 · exact .inr h.join
theorem Holds.ownShort {e sz k k' cap : Nat} {ao : Option Addr} {ys : List Value} {w : World} (hw : Holds W (Own e sz (.slice ao k' cap) k' ys :: R) w) (hk : k <= k') : Holds W (Own e sz (.slice ao k cap) k (ys.take (k * sz)) :: R) w := by
 obtain ⟨hl, hv⟩ := hw.ownOpen
 have hle : k * sz <= k' * sz := Nat.mul_le_mul_right _ hk
 rcases hv with ⟨he, rfl, hR⟩ | ⟨b, cap0, spare, he, hn, hm, hc, hR⟩
 ·
  cases he
  obtain rfl : k = 0 := by omega
  rw [Nat.zero_mul, List.take_zero]
  exact hR.ownNil _ _
 ·
  cases he
  refine Holds.ownShut (spare := ys.drop (k * sz) ++ spare) (by rw [List.length_take]; omega) (by omega) hm ?_ ?_
  · rw [<- List.append_assoc, List.take_append_drop]; exact hc
  · rw [<- List.append_assoc, List.take_append_drop]; exact hR
end
attribute [irreducible] TwinR
end Go.Sl
/- The engine: contracts that are weakened, branches that meet with memory as it was. Generic: no program is named. -/
namespace Go.Sl
open Go.RowKit
section
variable {W : World} {P : Program} {H : List SProp} {g : FuncId} {args : List Value}
theorem DoesK {β : Type} {A : β -> Prop} {r : β -> Value} {G : β -> List SProp} {p : Prop} (hp : ∀ w, Holds W H w -> p) (h : p -> Does W P g args H A r G) : Does W P g args H A r G := by unfold Does at h ⊢; exact fun w hw => h (hp w hw) w hw
theorem DoesE {β : Type} {A : β -> Prop} {r : β -> Value} {G : β -> List SProp} {H' : List SProp} (hp : Ent W H H') (h : Does W P g args H' A r G) : Does W P g args H A r G := by unfold Does at h ⊢; exact fun w hw => h w (hp w hw)
theorem DoesO {α : Sort _} {β : Type} {A : β -> Prop} {r : β -> Value} {G : β -> List SProp} {H' : α -> List SProp} (hp : ∀ w, Holds W H w -> ∃ x, Holds W (H' x) w) (h : ∀ x, Does W P g args (H' x) A r G) : Does W P g args H A r G := by
 unfold Does at h ⊢; exact fun w hw => let ⟨x, hx⟩ := hp w hw; h x w hx
theorem Does1M {γ : Type} {v : Value} {L : List SProp} {A' : γ -> Prop} {r' : γ -> Value} {G' : γ -> List SProp} (h : Does1 W P g args H v L) (x : γ) (hA : A' x) (hr : v = r' x) (hG : Ent W L (G' x)) : Does W P g args H A' r' G' :=
 Does.mono h (fun _ => x) (fun _ _ => hA) (fun _ _ => hr) fun _ _ => hG
theorem DoesA {β : Type} {A B : β -> Prop} {r : β -> Value} {G : β -> List SProp} (h : Does W P g args H A r G) (hp : ∀ x, A x -> ∀ w, Holds W (G x) w -> B x) : Does W P g args H B r G := by
 unfold Does at h ⊢
 exact fun w hw => (h w hw).mono fun _ w' ⟨x, hx, he, hh⟩ => ⟨x, hp x hx w' hh, he, hh⟩
end
theorem Ent.ctx {W : World} {X L L' R : List SProp} (h : Ent W (L ++ (X ++ R)) (L' ++ (X ++ R))) : Ent W (X ++ (L ++ R)) (X ++ (L' ++ R)) := fun w hw => by
 have p : ∀ M : List SProp, (X ++ (M ++ R)).Perm (M ++ (X ++ R)) := fun M => by
  rw [<- List.append_assoc, <- List.append_assoc]
  exact List.perm_append_comm.append_right R
 exact (h w (hw.perm (p L))).perm (p L').symm
section
variable {W : World} {P : Program} {n : Nat} {c c1 c2 : Code} {Q : Exit -> Act -> World -> Prop} {H : List SProp} {f : Fr}
theorem VC.joinH (F : Fr) (h1 : ∀ Q2, Met W n Q Q2 (fun _ : Unit => True) (fun _ => H) (fun _ => F) -> VC W P n c Q2 H f) (h2 : VC W P n c2 Q H F) : VC W P n c (thenC P c2 Q) H f :=
 VC.join (fun _ => True) (fun _ => H) (fun _ => F) h1 fun _ _ => h2
end
end Go.Sl
/- The engine: places that are told by a number that stands in the program's text. Generic: no program is named. -/
namespace Go.Sl
open Go Go.RowKit
section
variable {W : World} {P : Program} {n : Nat} {H : List SProp} {f : Fr} {dst : Option Tmp} {ty_ : TypeId} {pos : String} {after : Array Edge} {guard : Option (Nat × Bool)}
theorem toNatLit (n : Nat) : (@OfNat.ofNat Int n instOfNat).toNat = @OfNat.ofNat Nat n (instOfNatNat n) := rfl
theorem toNat_cast {j : Int} {jn : Nat} (hn : j.toNat = jn) (h0 : 0 <= j) : j = (jn : Int) := by omega
theorem PureAt.indexAddrI {T : TabData} {x y : Operand} {t e : TypeId} {k : IntKind} {a : Addr} {m cap jn : Nat} {j : Int} (hT : T.ok P = true) (hx : evalX f x = some (.slice (some a) m cap)) (hy : evalX f y = some (.int k j)) (ht : assoc T.sls t = some e)
  (hl : assoc T.leaf e = some ()) (hn : j.toNat = jn) (h0 : 0 <= j) (hj : jn < m) : PureAt W P n H f { dst, op := .indexAddr t x y, type := ty_, pos, after, guard } (.pointer (some (a.add jn))) := by
 rw [toNat_cast hn h0] at hy
 exact .indexAddr hT hx hy ht hl hj
theorem PureAt.indexAddrNI {T : TabData} {x y : Operand} {t e sz : TypeId} {k : IntKind} {a : Addr} {m cap jn : Nat} {j : Int} (hT : T.ok P = true) (hx : evalX f x = some (.slice (some a) m cap)) (hy : evalX f y = some (.int k j)) (ht : assoc T.sls t = some e)
  (hl : assoc T.aggs e = some sz) (hn : j.toNat = jn) (h0 : 0 <= j) (hj : jn < m) : PureAt W P n H f { dst, op := .indexAddr t x y, type := ty_, pos, after, guard } (.pointer (some (a.add (jn * sz)))) := by
 rw [toNat_cast hn h0] at hy
 exact .indexAddrN hT hx hy ht hl hj
theorem PureAt.sliceHI {T : TabData} {x z : Operand} {t sz : TypeId} {ao : Option Addr} {m cap hn : Nat} {h : Int} {k' : IntKind} (hT : T.ok P = true) (hx : evalX f x = some (.slice ao m cap)) (hz : evalX f z = some (.int k' h))
  (ht : T.esz t = some sz) (hh : h.toNat = hn) (h0 : 0 <= h) (h2 : hn <= cap) : PureAt W P n H f { dst, op := .slice t x none (some z) none, type := ty_, pos, after, guard } (.slice ao hn cap) := by
 rw [toNat_cast hh h0] at hz
 exact .sliceH hT hx hz ht h2
theorem PureAt.sliceLI {T : TabData} {x y : Operand} {t sz : TypeId} {ao : Option Addr} {m cap ln : Nat} {l : Int} {k : IntKind} (hT : T.ok P = true) (hx : evalX f x = some (.slice ao m cap)) (hy : evalX f y = some (.int k l))
  (ht : T.esz t = some sz) (hh : l.toNat = ln) (h0 : 0 <= l) (h1 : ln <= m) : PureAt W P n H f { dst, op := .slice t x (some y) none none, type := ty_, pos, after, guard } (.slice (subA ao cap ln sz) (m - ln) (cap - ln)) := by
 rw [toNat_cast hh h0] at hy
 exact .sliceL hT hx hy ht h1
end
end Go.Sl
/- One name for the steps of a walk: they stand here once, as the way in which a premise is shown where it is not given. Generic: no program is named. -/
namespace Go.Sl
theorem Ent.re {W : World} {H L : List SProp} (h : Reord H L := by (repeat first | exact .refl | (apply Reord.cons; focus repeat first | exact .head | apply Del.tail) | exact .nil | apply Reord.drop)) : Ent W H L := Reord.ent h
structure Hid (B : Prop) : Prop where
  out : B
theorem w {A B : Prop} (hb : B) (hab : Hid B → A := by intro zz; (repeat (first | (first | refine VO.nil rfl ?_ | refine VQ.nil rfl ?_ | refine VD.nil ?_ | ((first | apply VO.pure rfl rfl | apply VQ.pure rfl rfl | apply VD.take rfl rfl rfl | (refine VD.end rfl rfl rfl ?_; apply OpV.pure)); (first | (apply PureAt.ar64 rfl rfl rfl; omega) | exact .eval tab_ok rfl | (apply PureAt.ld tab_ok rfl rfl; (focus repeat first | exact .head _ | apply List.Mem.tail); rfl) | (apply PureAt.shr rfl rfl (by decide) (by decide)) | (apply PureAt.shr rfl rfl (by omega) (by simp only [IntKind.bits]; omega)) | exact .fieldAddrA tab_ok rfl rfl | exact .sliceLH tab_ok rfl rfl rfl rfl (by omega) (by omega) | exact .sliceH tab_ok rfl rfl rfl (by omega) | exact .sliceL tab_ok rfl rfl rfl (by omega) | (first | exact .indexAddr tab_ok rfl rfl rfl rfl (by omega) | exact .indexAddrN tab_ok rfl rfl rfl rfl (by omega) | exact .indexAddrI tab_ok rfl rfl rfl rfl (toNatLit _) (by decide) (by omega) | exact .indexAddrNI tab_ok rfl rfl rfl rfl (toNatLit _) (by decide) (by omega) | exact .ldR tab_ok rfl rfl hr1 (List.getElem?_eq_getElem (by omega)) | exact .ldR tab_ok rfl rfl hr2 (List.getElem?_eq_getElem (by omega)) | exact ldB tab_ok rfl rfl hb1 (by omega) | exact ldB tab_ok rfl rfl hb2 (by omega)) | exact .sliceHI tab_ok rfl rfl rfl (toNatLit _) (by decide) (by omega) | exact .sliceLI tab_ok rfl rfl rfl (toNatLit _) (by decide) (by omega) | (apply PureAt.ldA tab_ok rfl rfl; (focus repeat first | exact .head _ | apply List.Mem.tail); rfl; rfl) | exact .ldro tab_ok rfl rfl (by assumption)); rfl) | refine VO.skip rfl rfl rfl rfl ?_ | refine VQ.skip rfl rfl rfl rfl ?_ | refine VD.skip rfl rfl rfl rfl rfl ?_ | refine VD.skipM rfl rfl Ent.refl rfl rfl rfl ?_ | ((first | refine VO.step rfl rfl ?_ | refine VD.end rfl rfl rfl ?_ | refine VD.mid rfl rfl rfl ?_); (apply OpV.st tab_ok rfl rfl rfl rfl (by (repeat first | exact .head | apply Hole.tail); first | done | fail) (by first | (simp; done) | fail))) | refine ⟨Ent.re, ?_⟩) | (first | refine VC.seq rfl ?_ | refine VC.region rfl ?_ | refine VC.condT rfl rfl ?_ | refine VC.condF rfl rfl ?_ | refine VC.block rfl ?_ | refine VC.skip rfl ?_ | refine VC.ret rfl ?_ | refine VC.exit rfl ?_ | refine VC.scope rfl ?_ | refine VC.label rfl ?_) | (first | refine VE.next ?_ | refine VE.passRet ?_ | refine VE.passExit ?_ | refine VE.blockNormal ?_ | refine VE.blockHit ?_ | refine VE.blockMiss rfl ?_ | refine VE.blockRet ?_ | refine VE.loopRet ?_ | refine VE.loopExit ?_ | refine VE.scopeNormal ?_ | refine VE.scopeRet ?_ | refine VE.scopeExit ?_))); exact zz.out) : A := hab ⟨hb⟩
theorem zq {A B : Prop} (hb : B) (hab : Hid B → A := by intro zz; first | exact VO.step rfl rfl zz.out | exact VD.end rfl rfl rfl zz.out | exact VD.mid rfl rfl rfl zz.out) : A := hab ⟨hb⟩
theorem zj {A : Prop} {C : Nat → Prop} (hb : ∀ x, C x) (hab : Hid (∀ x, C x) → A := by intro zz; first | exact VO.step rfl rfl (OpV.box rfl rfl rfl zz.out) | exact VD.end rfl rfl rfl (OpV.box rfl rfl rfl zz.out) | exact VD.mid rfl rfl rfl (OpV.box rfl rfl rfl zz.out)) : A := hab ⟨hb⟩
theorem zv {A B : Prop} (hb : B) (hab : Hid B → A := by intro zz; (first | (first | refine VO.nil rfl ?_ | refine VQ.nil rfl ?_ | refine VD.nil ?_ | ((first | apply VO.pure rfl rfl | apply VQ.pure rfl rfl | apply VD.take rfl rfl rfl | (refine VD.end rfl rfl rfl ?_; apply OpV.pure)); (first | (apply PureAt.ar64 rfl rfl rfl; omega) | exact .eval tab_ok rfl | (apply PureAt.ld tab_ok rfl rfl; (focus repeat first | exact .head _ | apply List.Mem.tail); rfl) | (apply PureAt.shr rfl rfl (by decide) (by decide)) | (apply PureAt.shr rfl rfl (by omega) (by simp only [IntKind.bits]; omega)) | exact .fieldAddrA tab_ok rfl rfl | exact .sliceLH tab_ok rfl rfl rfl rfl (by omega) (by omega) | exact .sliceH tab_ok rfl rfl rfl (by omega) | exact .sliceL tab_ok rfl rfl rfl (by omega) | (first | exact .indexAddr tab_ok rfl rfl rfl rfl (by omega) | exact .indexAddrN tab_ok rfl rfl rfl rfl (by omega) | exact .indexAddrI tab_ok rfl rfl rfl rfl (toNatLit _) (by decide) (by omega) | exact .indexAddrNI tab_ok rfl rfl rfl rfl (toNatLit _) (by decide) (by omega) | exact .ldR tab_ok rfl rfl hr1 (List.getElem?_eq_getElem (by omega)) | exact .ldR tab_ok rfl rfl hr2 (List.getElem?_eq_getElem (by omega)) | exact ldB tab_ok rfl rfl hb1 (by omega) | exact ldB tab_ok rfl rfl hb2 (by omega)) | exact .sliceHI tab_ok rfl rfl rfl (toNatLit _) (by decide) (by omega) | exact .sliceLI tab_ok rfl rfl rfl (toNatLit _) (by decide) (by omega) | (apply PureAt.ldA tab_ok rfl rfl; (focus repeat first | exact .head _ | apply List.Mem.tail); rfl; rfl) | exact .ldro tab_ok rfl rfl (by assumption)); rfl) | refine VO.skip rfl rfl rfl rfl ?_ | refine VQ.skip rfl rfl rfl rfl ?_ | refine VD.skip rfl rfl rfl rfl rfl ?_ | refine VD.skipM rfl rfl Ent.refl rfl rfl rfl ?_ | ((first | refine VO.step rfl rfl ?_ | refine VD.end rfl rfl rfl ?_ | refine VD.mid rfl rfl rfl ?_); (first | (apply OpV.st tab_ok rfl rfl rfl rfl (by (repeat first | exact .head | apply Hole.tail); first | done | fail) (by first | (simp; done) | fail)) | (refine OpV.box rfl rfl rfl ?_; intro _))) | refine ⟨Ent.re, ?_⟩) | (first | refine VC.seq rfl ?_ | refine VC.region rfl ?_ | refine VC.condT rfl rfl ?_ | refine VC.condF rfl rfl ?_ | refine VC.block rfl ?_ | refine VC.skip rfl ?_ | refine VC.ret rfl ?_ | refine VC.exit rfl ?_ | refine VC.scope rfl ?_ | refine VC.label rfl ?_) | (first | refine VE.next ?_ | refine VE.passRet ?_ | refine VE.passExit ?_ | refine VE.blockNormal ?_ | refine VE.blockHit ?_ | refine VE.blockMiss rfl ?_ | refine VE.blockRet ?_ | refine VE.loopRet ?_ | refine VE.loopExit ?_ | refine VE.scopeNormal ?_ | refine VE.scopeRet ?_ | refine VE.scopeExit ?_)); exact zz.out) : A := hab ⟨hb⟩
theorem zp {A : Prop} (h : A := by (first | (apply PureAt.ar64 rfl rfl rfl; omega) | exact .eval tab_ok rfl | (apply PureAt.ld tab_ok rfl rfl; (focus repeat first | exact .head _ | apply List.Mem.tail); rfl) | (apply PureAt.shr rfl rfl (by decide) (by decide)) | (apply PureAt.shr rfl rfl (by omega) (by simp only [IntKind.bits]; omega)) | exact .fieldAddrA tab_ok rfl rfl | exact .sliceLH tab_ok rfl rfl rfl rfl (by omega) (by omega) | exact .sliceH tab_ok rfl rfl rfl (by omega) | exact .sliceL tab_ok rfl rfl rfl (by omega) | (first | exact .indexAddr tab_ok rfl rfl rfl rfl (by omega) | exact .indexAddrN tab_ok rfl rfl rfl rfl (by omega) | exact .indexAddrI tab_ok rfl rfl rfl rfl (toNatLit _) (by decide) (by omega) | exact .indexAddrNI tab_ok rfl rfl rfl rfl (toNatLit _) (by decide) (by omega) | exact .ldR tab_ok rfl rfl hr1 (List.getElem?_eq_getElem (by omega)) | exact .ldR tab_ok rfl rfl hr2 (List.getElem?_eq_getElem (by omega)) | exact ldB tab_ok rfl rfl hb1 (by omega) | exact ldB tab_ok rfl rfl hb2 (by omega)) | exact .sliceHI tab_ok rfl rfl rfl (toNatLit _) (by decide) (by omega) | exact .sliceLI tab_ok rfl rfl rfl (toNatLit _) (by decide) (by omega) | (apply PureAt.ldA tab_ok rfl rfl; (focus repeat first | exact .head _ | apply List.Mem.tail); rfl; rfl) | exact .ldro tab_ok rfl rfl (by assumption))) : A := h
theorem zm {α : Type} {a : α} {L : List α} (h : List.Mem a L := by (focus repeat first | exact .head _ | apply List.Mem.tail)) : List.Mem a L := h
theorem zg {A B C : Prop} (h1 : B) (h2 : C) (hab : Hid B → Hid C → A := by intro z1 z2; first | exact VO.split rfl rfl rfl z1.out z2.out | exact VD.split rfl rfl rfl z1.out z2.out) : A := hab ⟨h1⟩ ⟨h2⟩
theorem zk {A B C : Prop} (h1 : B) (h2 : C) (hab : Hid B → Hid C → A := by intro z1 z2; exact VC.cond rfl rfl z1.out z2.out) : A := hab ⟨h1⟩ ⟨h2⟩
theorem zh {H : List SProp} {X : SProp} {C : SProp → List SProp} (h : Hole H X C := by (repeat first | exact .head | apply Hole.tail)) : Hole H X C := h
theorem zy {W : World} {P : Program} {n d : Nat} {Q : Exit → Act → World → Prop} {L : List SProp} {f : Fr} {N : List SProp → Fr → Prop} {ty_ : TypeId} {pos : String} {after : Array Edge} {guard : Option (Nat × Bool)} {x : Operand} {xs : Array Operand} {ats : Array TypeId} {g : FuncId} {cap : Array Value} {vs : List Value} {β : Type} {A : β → Prop} {r : β → Value} {G : β → List SProp}
    (hx : evalX f x = some (.func (.func g) #[] cap)) (ha : argsX f xs.toList = some vs) (spec : Does W P g (vs ++ cap.toList) L A r G) (h : ∀ y, A y → N (G y) ((d, r y) :: f)) (hc : ∀ a w, (callFunc g a).run P w = .ok (.enter g a) w := by intro _ _; simp) (hd : Nat.blt d n = true := by rfl) :
    OpV W P n { dst := some d, op := .call { callee := .value x, args := xs, argTypes := ats }, type := ty_, pos, after, guard } Q L f N := OpV.call hx ha hc spec Ent.refl hd h
theorem zd {W : World} {P : Program} {n d : Nat} {Q : Exit → Act → World → Prop} {H L : List SProp} {f : Fr} {N : List SProp → Fr → Prop} {ty_ : TypeId} {pos : String} {after : Array Edge} {guard : Option (Nat × Bool)} {x : Operand} {xs : Array Operand} {ats : Array TypeId} {g : FuncId} {cap : Array Value} {vs : List Value} {β : Type} {A : β → Prop} {r : β → Value} {G : β → List SProp}
    (hx : evalX f x = some (.func (.func g) #[] cap)) (ha : argsX f xs.toList = some vs) (spec : Does W P g (vs ++ cap.toList) L A r G) (h : ∀ y, A y → N (G y) ((d, r y) :: f)) (hr : Reord H L := by (repeat first | exact .refl | (apply Reord.cons; focus repeat first | exact .head | apply Del.tail) | exact .nil | apply Reord.drop)) (hc : ∀ a w, (callFunc g a).run P w = .ok (.enter g a) w := by intro _ _; simp) (hd : Nat.blt d n = true := by rfl) :
    OpV W P n { dst := some d, op := .call { callee := .value x, args := xs, argTypes := ats }, type := ty_, pos, after, guard } Q H f N := OpV.call hx ha hc spec (Reord.ent hr) hd h
end Go.Sl
namespace Go.Sl
open Go.RowKit
def flatCell (k : Option IntKind) (v : Value) : Option Lit :=
  match k, v with
  | some q, .int q' n => if q' = q then some (.int q n) else none
  | none, .bool b => some (.bool b)
  | _, _ => none
def litOk : Lit -> Bool
  | .int q n => (Lit.int q n).wf
  | _ => true
def flatCells : List (Option IntKind) -> List Value -> Option (List Lit)
  | [], [] => some []
  | k :: ks, v :: vs => match flatCell k v, flatCells ks vs with
    | some l, some ls => some (l :: ls)
    | _, _ => none
  | _, _ => none
def flatField (P : Program) (k : Option IntKind) (i : Nat) (f : Field) : Bool :=
  f.name != "_" && Nat.beq f.offset i && Nat.beq (P.cellsOf f.type) 1 && (match P.underlying f.type, k with
    | some (.int q), some q' => decide (q = q')
    | some .bool, none => true
    | _, _ => false)
def flatFields (P : Program) : List (Option IntKind) -> Nat -> List Field -> Bool
  | [], _, [] => true
  | k :: ks, i, f :: fs => flatField P k i f && flatFields P ks (i + 1) fs
  | _, _, _ => false
def flatB (P : Program) (t : TypeId) (ks : List (Option IntKind)) : Bool :=
  (match P.underlying t with
  | some (.struct fs) => Nat.beq (P.cellsOf t) ks.length && flatFields P ks 0 fs.toList
  | _ => false) && P.keyTypeAt 2 t && !(P.eqGuardType P.depth t)
theorem flat_mapM {P : Program} {cs : List Value} : ∀ {ks : List (Option IntKind)} {vs : List Value} {i : Nat} {fs : List Field} {ls : List Lit}, flatFields P ks i fs = true -> cs.drop i = vs -> flatCells ks vs = some ls -> (∀ l ∈ ls, litOk l = true) ->
    ∃ as : List (List Lit), fs.mapM (fun f => P.keyLits 1 f.type ((cs.drop f.offset).take (P.cellsOf f.type))) = some as /\ as.flatten = ls
  | [], [], _, [], ls, _, _, h, _ => by simp [flatCells] at h; subst h; exact ⟨[], by simp, rfl⟩
  | [], _ :: _, _, _, _, _, _, h, _ => by simp [flatCells] at h
  | [], [], _, _ :: _, _, h, _, _, _ => by simp [flatFields] at h
  | _ :: _, [], _, _, _, _, _, h, _ => by simp [flatCells] at h
  | _ :: _, _ :: _, _, [], _, h, _, _, _ => by simp [flatFields] at h
  | k :: ks, v :: vs, i, f :: fs, ls, hf, hd, hc, hw => by
    simp only [flatFields, flatField, Bool.and_eq_true, bne_iff_ne, ne_eq] at hf
    obtain ⟨⟨⟨⟨h1, h2⟩, h3⟩, h4⟩, hr⟩ := hf
    have h2 := Nat.eq_of_beq_eq_true h2
    have h3 := Nat.eq_of_beq_eq_true h3
    unfold flatCells at hc
    split at hc
    · rename_i l ls' e1 e2
      cases hc
      have hd' : cs.drop (i + 1) = vs := by rw [<- List.drop_drop, hd]; rfl
      obtain ⟨as, ha, hfl⟩ := flat_mapM hr hd' e2 fun x hx => hw x (.tail _ hx)
      have e : P.keyLits 1 f.type ((cs.drop f.offset).take (P.cellsOf f.type)) = some [l] := by
        rw [h2, h3, hd]
        have hl := hw l (.head _)
        unfold flatCell at e1
        split at e1
        · split at e1
          · rename_i q q' n hq; cases e1; subst hq
            split at h4
            · rename_i q2 q3 hu hk; cases hk
              have : q2 = q' := of_decide_eq_true h4
              subst this
              unfold Program.keyLits
              rw [hu]
              simp only [List.take_succ_cons, List.take_zero, true_and]
              rw [if_pos (show (Lit.int q2 n).wf = true from hl)]
            · rename_i hk; cases hk
            · cases h4
          · cases e1
        · cases e1
          split at h4
          · rename_i hk; cases hk
          · rename_i hu _
            unfold Program.keyLits
            rw [hu]
            rfl
          · cases h4
        · cases e1
      refine ⟨[l] :: as, ?_, by simp [hfl]⟩
      rw [List.mapM_cons, e, ha]
      rfl
    · cases hc
theorem flat_lits {P : Program} {t : TypeId} {ks : List (Option IntKind)} {cs : List Value} {ls : List Lit} (h : flatB P t ks = true) (hc : flatCells ks cs = some ls) (hl : cs.length = ks.length) (hw : ∀ l ∈ ls, litOk l = true) : P.keyLits 2 t cs = some ls /\ (Value.agg cs.toArray).formed P t = true := by
  simp only [flatB, Bool.and_eq_true] at h
  obtain ⟨⟨h, _⟩, _⟩ := h
  split at h
  · rename_i fs hu
    simp only [Bool.and_eq_true] at h
    obtain ⟨h1, h2⟩ := h
    have h1 := Nat.eq_of_beq_eq_true h1
    have hn : fs.all (·.name != "_") = true := by
      rw [Array.all_eq_true_iff_forall_mem]
      intro f hf
      have : ∀ (ks : List (Option IntKind)) (i : Nat) (l : List Field), flatFields P ks i l = true -> ∀ f ∈ l, (f.name != "_") = true := by
        intro ks i l
        induction l generalizing ks i with
        | nil => intro _ f hf; cases hf
        | cons g r ih =>
          intro hh f hf
          cases ks with
          | nil => simp [flatFields] at hh
          | cons k ks =>
            simp only [flatFields, flatField, Bool.and_eq_true] at hh
            cases hf with
            | head => exact hh.1.1.1.1
            | tail _ hf => exact ih _ _ hh.2 f hf
      exact this _ _ _ h2 f (Array.mem_toList_iff.2 hf)
    obtain ⟨as, ha, hfl⟩ := flat_mapM (cs := cs) h2 rfl hc hw
    refine ⟨?_, ?_⟩
    · unfold Program.keyLits
      rw [hu]
      show (if cs.length = P.cellsOf t /\ _ then _ else _) = _
      rw [if_pos ⟨by rw [hl, h1], hn⟩, ha]
      simp [hfl]
    · simp [Value.formed, hu, hl, h1]
  · cases h
section
variable {W : World} {P : Program} {n : Nat} {H : List SProp} {f : Fr} {dst : Option Tmp} {d : Nat} {ty_ : TypeId} {pos : String} {after : Array Edge} {guard : Option (Nat × Bool)}
theorem PureAt.eqFlat {op : BinOp} {x y : Operand} {t u : TypeId} {ks : List (Option IntKind)} {cs ds : List Value} {la lb : List Lit} {v : Value} {b : Bool} (hB : flatB P t ks = true) (hx : evalX f x = some (.agg cs.toArray)) (hy : evalX f y = some (.agg ds.toArray))
  (hc : flatCells ks cs = some la) (hd : flatCells ks ds = some lb) (hl : cs.length = ks.length) (hl2 : ds.length = ks.length) (hwa : ∀ l ∈ la, litOk l = true) (hwb : ∀ l ∈ lb, litOk l = true) (hb : b = true ↔ la = lb) (hv : eqB op b = some v) :
  PureAt W P n H f { dst, op := .binOp op t x y u, type := ty_, pos, after, guard } v := by
 unfold PureAt
 intro tm w hk _
 obtain ⟨a1, a2⟩ := flat_lits hB hc hl hwa
 obtain ⟨b1, b2⟩ := flat_lits hB hd hl2 hwb
 have hkt : P.keyTypeAt 2 t = true := by simp only [flatB, Bool.and_eq_true] at hB; exact hB.1.2
 have hg : P.eqGuardType P.depth t = false := by simp only [flatB, Bool.and_eq_true, Bool.not_eq_true'] at hB; exact hB.2
 obtain ⟨r, hr, hiff⟩ := Go.run_equalIn_deep 9998 2 t hkt w 2 2 (.agg cs.toArray) (.agg ds.toArray) la lb a2 b2 a1 b1
 have hrb : r = b := by rw [Bool.eq_iff_iff, hiff, hb]
 have he : (Op.equal t (.agg cs.toArray) (.agg ds.toArray)).run P w = .ok b w := by rw [<- hrb]; exact hr
 cases op <;> simp only [eqB, Option.some.injEq, reduceCtorEq] at hv <;> subst hv <;> unfold execOp
 ·
  simp only [hk.eval hx, hk.eval hy, eqGuard, binOp, Sem.run_bind, Sem.run, Result.andThen_ok, hg]
  simp [he, hg, Sem.run_bind, Sem.run]
  done
 ·
  simp only [hk.eval hx, hk.eval hy, eqGuard, binOp, Sem.run_bind, Sem.run, Result.andThen_ok, hg]
  simp [he, hg, Sem.run_bind, Sem.run]
  done
theorem OpV.stO2 {Q : Exit -> Act -> World -> Prop} {C : SProp -> List SProp} {N : List SProp -> Fr -> Prop} {T : TabData} {t e : TypeId} {x y : Operand} {a : Addr} {sz m cap j : Nat} {v : Value} {xs xs' : List Value} (hT : T.ok P = true) (hx : evalX f x = some (.pointer (some (a.add j)))) (hy : evalX f y = some v) (hv : v.oneCell' = true) (hl : assoc T.leaf t = some ())
  (u : Hole H (Own e sz (.slice (some a) m cap) m xs) C) (ho : j < xs.length) (hs : xs.set j v = xs') (h : N (C (Own e sz (.slice (some a) m cap) m xs')) f) :
  OpV W P n { dst := none, op := .store t x y, type := ty_, pos, after, guard } Q H f N :=
 OpV.stO hT hx hy hv hl u ho (by rw [hs]; exact h)
theorem PureAt.makeFuncN {g : FuncId} {xs : Array Operand} {vs : List Value} (hx : argsX f xs.toList = some vs) : PureAt W P n H f { dst, op := .makeFunc (.func g) #[] xs, type := ty_, pos, after, guard } (.func (.func g) #[] vs.toArray) := by
 unfold PureAt
 intro tm w hk hw
 have hargs : xs.map (Act.eval ⟨tm, []⟩) = vs.toArray := by
  have := hk.args hx
  apply Array.ext'
  simpa using this
 simp [execOp, Instr.makeFunc, hargs]
inductive ResIs (W : World) (P : Program) (H : List SProp) (f : Fr) : ResultVar -> Value -> Prop
  | tmp {a : Nat} {v : Value} (h : look f a = some v) : ResIs W P H f (.tmp a) v
  | cell {a : Nat} {t : TypeId} {ad : Addr} {v : Value} (h : look f a = some (.pointer (some ad))) (hv : ∀ w, Holds W H w -> (loadVar t ad).run P w = .ok v w) : ResIs W P H f (.cell a t) v
theorem ResIs.leaf {T : TabData} {a : Nat} {t U : TypeId} {b off : Nat} {cs : List Value} {v : Value} (hT : T.ok P = true) (h : look f a = some (.pointer (some ⟨b, off, none⟩))) (hl : assoc T.leaf t = some ()) (m : Row b U cs ∈ H) (hv : cs[off]? = some v) : ResIs W P H f (.cell a t) v :=
 .cell h fun w hw => run_load1 (T.leaf_ok hT hl).1 (hw.cell m hv)
theorem ResIs.agg {T : TabData} {a : Nat} {t U sz : TypeId} {b off : Nat} {cs vs : List Value} (hT : T.ok P = true) (h : look f a = some (.pointer (some ⟨b, off, none⟩))) (hs : assoc T.aggs t = some sz) (m : Row b U cs ∈ H) (hv : (cs.drop off).take sz = vs) (hl : vs.length = sz) : ResIs W P H f (.cell a t) (.agg vs.toArray) :=
 .cell h fun w hw => by
  obtain ⟨h1, h2⟩ := T.agg_ok hT hs
  subst hl
  have hc : ∀ j v, vs[j]? = some v -> w.cell? ((⟨b, off, none⟩ : Addr).add j) = some v := by
   intro j v hj
   rw [Addr.add_lit]
   refine hw.cell m ?_
   rw [<- hv, List.getElem?_take] at hj
   split at hj
   · rw [List.getElem?_drop] at hj; exact hj
   · cases hj
  simp [loadVar, Sem.run_bind, h1, h2, run_loadCells_list w _ vs hc]
theorem ResIs.run {rv : ResultVar} {v : Value} (h : ResIs W P H f rv v) {t : Array Value} (hk : Knows n f t) {w : World} (hw : Holds W H w) :
  ((match rv with | .tmp a => Pure.pure (t.getD a undef) | .cell a ty => do loadVar ty (<- asAddr (t.getD a undef))) : Sem Value).run P w = .ok v w := by
 cases h with
 | tmp h => have := hk.get _ _ h; simp [this]
 | cell h hv => have := hk.get _ _ h; simp [this, asAddr, hv w hw]
theorem VE.results1 {fn : Func} {β : Type} {A : β -> Prop} {r : β -> Value} {G : β -> List SProp} {rv : ResultVar} {v : Value} {e : Exit} (he : e = .ret \/ e = .normal) (x : β) (hn : fn.results = #[rv]) (h1 : ResIs W P H f rv v) (hA : A x) (hv : v = r x) (hH : Ent W H (G x)) : VE W n (bodyPost P fn (Post W A r G)) e H f := by
 unfold VE
 intro t w hk hw
 have hr : (results fn t).run P w = .ok v w := by
  have := h1.run hk hw
  cases rv <;> simp_all [results]
 rcases he with rfl | rfl <;> exact ⟨rfl, _, hr, x, hA, by rw [hv], hH w hw⟩
theorem VE.results2 {fn : Func} {β : Type} {A : β -> Prop} {r : β -> Value} {G : β -> List SProp} {rv rv2 : ResultVar} {v v2 : Value} {e : Exit} (he : e = .ret \/ e = .normal) (x : β) (hn : fn.results = #[rv, rv2]) (h1 : ResIs W P H f rv v) (h2 : ResIs W P H f rv2 v2) (hA : A x) (hv : .tuple #[v, v2] = r x) (hH : Ent W H (G x)) : VE W n (bodyPost P fn (Post W A r G)) e H f := by
  unfold VE
  intro t w hk hw
  have hr : (results fn t).run P w = .ok (.tuple #[v, v2]) w := by
    cases h1 with
    | tmp k1 =>
      have g1 := hk.get _ _ k1
      cases h2 with
      | tmp k2 => have g2 := hk.get _ _ k2; simp [results, hn, g1, g2]
      | cell k2 l2 => have g2 := hk.get _ _ k2; simp [results, hn, g1, g2, asAddr, l2 w hw]
    | cell k1 l1 =>
      have g1 := hk.get _ _ k1
      cases h2 with
      | tmp k2 => have g2 := hk.get _ _ k2; simp [results, hn, g1, g2, asAddr, l1 w hw]
      | cell k2 l2 => have g2 := hk.get _ _ k2; simp [results, hn, g1, g2, asAddr, l1 w hw, l2 w hw]
  rcases he with rfl | rfl <;> exact ⟨rfl, _, hr, x, hA, by rw [hv], hH w hw⟩
end
end Go.Sl
namespace Go.Sl
open Go.RowKit
theorem InT.list {α : Type} {P : Program} {W : World} {t e : TypeId} {ao : Option Addr} {n cap sz : Nat} (cells : α -> List Value) (wf : α -> Prop) (d : α) (hu : P.underlying t = some (.slice e)) (hsz : P.cellsOf e = sz) (hone : ∀ o : α, wf o -> ∀ u ∈ cells o, u.oneCell' = true)
    (dec : ∀ cs, InT P W e cs -> ∃ o, cs = cells o /\ wf o) (h : InT P W t [.slice ao n cap]) :
    ∃ l : List α, l.length = n /\ RdsA W sz ao n (l.flatMap cells) /\ (∀ o ∈ l, wf o) /\ n <= cap /\ cap * P.bytesOf e <= reachBytes := by
  obtain ⟨ao', n', cap', row, he, h0, hn, hm, hr, hl, hc, hi⟩ := h.slice_inv hu
  cases he
  rw [hsz] at hl hc
  have hb : ∀ i, ∃ o : α, i < cap -> row i = cells o /\ wf o := fun i => by
    by_cases h : i < cap
    · obtain ⟨o, h1, h2⟩ := dec _ (hi i h)
      exact ⟨o, fun _ => ⟨h1, h2⟩⟩
    · exact ⟨d, fun h' => absurd h' h⟩
  obtain ⟨c, hcc⟩ := Classical.axiomOfChoice hb
  have e : (List.range n).flatMap row = ((List.range n).map c).flatMap cells := by
    have : ∀ k, k <= n -> (List.range k).flatMap row = ((List.range k).map c).flatMap cells := by
      intro k
      induction k with
      | zero => intro _; rfl
      | succ k ih =>
        intro hk
        rw [List.range_succ, List.flatMap_append, List.map_append, ih (by omega)]
        simp [(hcc k (by omega)).1]
    exact this n (Nat.le_refl _)
  refine ⟨(List.range n).map c, by simp, fun R => ?_, fun o ho => ?_, hn, hr⟩
  · have hs := sees_rows (R := R) h0 hn hl (fun i h u hu => by rw [(hcc i h).1] at hu; exact hone _ (hcc i h).2 u hu) hc
    rw [e] at hs
    exact hs
  · obtain ⟨i, hi', rfl⟩ := List.mem_map.1 ho
    exact (hcc i (by have := List.mem_range.1 hi'; omega)).2
theorem flat_at {α β : Type} {g : α -> List β} {w : Nat} (l : List α) (j i : Nat) (h : j < l.length) (hw : ∀ a ∈ l, (g a).length = w) (hi : i < w) : (l.flatMap g)[j * w + i]? = (g l[j])[i]? := by
 rw [<- flat_part l j h hw, List.getElem?_take, if_pos hi, List.getElem?_drop]
end Go.Sl
namespace Go.Sl
open Go Go.RowKit
section
variable {W : World} {P : Program} {n : Nat} {Q : Exit -> Act -> World -> Prop} {H : List SProp} {f : Fr} {C : SProp -> List SProp}
variable {N : List SProp -> Fr -> Prop} {ty_ : TypeId} {pos : String} {after : Array Edge} {guard : Option (Nat × Bool)}
theorem zeroCells_one {z : Value} {k : Nat} (h1 : ∀ u ∈ z.cells.toList, u.oneCell' = true) : ∀ u ∈ (Builtin.zeroCells z.cells k).toList, u.oneCell' = true := by
 intro u hu
 simp only [Builtin.zeroCells, Array.toList_map, List.mem_map, Array.mem_toList_iff, Array.mem_range] at hu
 obtain ⟨i, hi, rfl⟩ := hu
 have hp : 0 < z.cells.size := by
  rcases Nat.eq_zero_or_pos z.cells.size with h | h
  · rw [h, Nat.mul_zero] at hi; omega
  · exact h
 have hlt : i % z.cells.size < z.cells.size := Nat.mod_lt _ hp
 rw [getElem!_pos z.cells _ hlt]
 exact h1 _ (by simp)
theorem OpV.clearOwn {s : Operand} {t e : TypeId} {z : Value} {sz by_ m cap lo : Nat} {ao : Option Addr} {xs : List Value} (st : SliceT P t e z sz by_) (hs : evalX f s = some (.slice (subA ao cap lo sz) (m - lo) (cap - lo)))
  (u : Hole H (Own e sz (.slice ao m cap) m xs) C) (hlo : lo <= m)
  (h : ∀ ys : List Value, ys.length = (m - lo) * sz -> N (C (Own e sz (.slice ao m cap) m (xs.take (lo * sz) ++ ys))) f) :
  OpV W P n { dst := none, op := .call { callee := .builtin .clear, args := #[s], argTypes := #[t] }, type := ty_, pos, after, guard } Q H f N := by
 unfold OpV
 intro tm w hk hw K hK
 obtain ⟨R, p, q⟩ := u.perm
 obtain ⟨hl, hv⟩ := (hw.perm p).ownOpen
 by_cases hz : lo = m
 ·
  subst hz
  have hc : ∀ a, (Builtin.clear_ #[t] ty_ #[.slice a (lo - lo) (cap - lo)]).run P w = .ok (.tuple #[]) w := by
   intro a
   rw [Nat.sub_self]
   cases a <;> simp [Builtin.clear_, Sem.run_bind, run_underlying st.und]
  have hN := h [] (by simp)
  rw [List.append_nil, List.take_of_length_le (by omega)] at hN
  unfold Oper.wp execOp
  simp only [resolve, invoke, builtin, Sem.run_bind, Sem.run_pure, Result.andThen_ok, List.map_toArray, List.map_cons, List.map_nil, hk.eval hs, hc]
  exact hK _ _ hN _ _ hk (Holds.perm (q _) (hw.perm p))
 ·
  rcases hv with ⟨he, rfl, hR⟩ | ⟨b, cap', spare, he, hn, hm, hc, hR⟩
  · omega
  ·
   cases he
   have e0 : subA (some (⟨b, 0, none⟩ : Addr)) cap lo sz = some ⟨b, lo * sz, none⟩ := by
    rw [subA_some (by omega), Addr.add_lit, Nat.zero_add]
   rw [e0] at hs
   obtain ⟨d, rfl⟩ : ∃ d, m = lo + (d + 1) := ⟨m - lo - 1, by omega⟩
   have e1 : lo + (d + 1) - lo = d + 1 := by omega
   rw [e1] at hs h
   have hzl : (Builtin.zeroCells z.cells (d + 1)).toList.length = (d + 1) * sz := by simp [Builtin.zeroCells, st.zs]
   have hadd : (lo + (d + 1)) * sz = lo * sz + (d + 1) * sz := Nat.add_mul _ _ _
   have hfit : lo * sz + (Builtin.zeroCells z.cells (d + 1)).toList.length <= (xs ++ spare).length := by rw [List.length_append, hl, hzl, hadd]; omega
   have hst := run_storeCells_cells (P := P) b (lo * sz) (Builtin.zeroCells z.cells (d + 1)).toList 0 w (fun j hj => by
     have hj' : lo * sz + 0 + j < (xs ++ spare).length := by omega
     rw [hR.cell (.head _) (List.getElem?_eq_getElem hj')]; rfl) (fun j hj => hR.free (.head _)) (zeroCells_one st.z1)
   simp only [Nat.add_zero] at hst
   obtain ⟨i, hi, hzz, hsz, hby⟩ := info_parts st.info
   have hzv : (zeroValue e).run P w = .ok z w := by simp [zeroValue, typeInfo, hi, hzz]
   have hc' : (Builtin.clear_ #[t] ty_ #[.slice (some ⟨b, lo * sz, none⟩) (d + 1) (cap - lo)]).run P w = .ok (.tuple #[]) (w.setCells b (lo * sz) (Builtin.zeroCells z.cells (d + 1)).toList) := by
    simp [Builtin.clear_, Sem.run_bind, run_underlying st.und, hzv, hst]
   have h2 := hR.setCells .head hfit
   unfold Oper.wp execOp
   simp only [resolve, invoke, builtin, Sem.run_bind, Sem.run_pure, Result.andThen_ok, List.map_toArray, List.map_cons, List.map_nil, hk.eval hs, hc']
   refine hK _ _ (h _ hzl) _ _ hk (Holds.perm (q _) ?_)
   have e : (xs ++ spare).take (lo * sz) ++ (Builtin.zeroCells z.cells (d + 1)).toList ++ (xs ++ spare).drop (lo * sz + (Builtin.zeroCells z.cells (d + 1)).toList.length) = (xs.take (lo * sz) ++ (Builtin.zeroCells z.cells (d + 1)).toList) ++ spare := by
    rw [List.take_append_of_le_length (by rw [hl, hadd]; omega), hzl, <- hadd, <- hl, List.drop_left]
   rw [e] at h2
   refine Holds.ownShut ?_ hn hm ?_ h2
   · rw [List.length_append, List.length_take, hl, hzl, hadd]; omega
   · rw [<- hc]; simp only [List.length_append, List.length_take, hl, hzl, hadd]; omega
end
section
variable {W : World} {P : Program} {n : Nat} {c c2 : Code} {Q : Exit -> Act -> World -> Prop} {H : List SProp} {f : Fr}
theorem VO.joinR {α : Type} {k : Nat} (A : α -> Prop) (G : α -> List SProp) (F : α -> Fr) (h1 : ∀ Q2, Met W n Q Q2 A G F -> VO W P n c k Q2 H f) (h2 : ∀ x, A x -> VC W P n c2 Q (G x) (F x)) :
  VO W P n c k (thenC P c2 Q) H f := h1 _ (Met.of h2)
theorem VQ.re {k : Nat} {v : Value} (d : Nat) (v' : Value) (hl : look f d = some v) (e : v = v') (h : VQ W P n c k Q H ((d, v') :: f)) : VQ W P n c k Q H f := by
 unfold VQ at *
 intro t hk
 subst e
 exact h t (hk.again hl)
end
end Go.Sl
namespace Go.Sl
open Go Go.RowKit
section
variable {W : World} {P : Program} {n : Nat} {c : Code} {Q : Exit -> Act -> World -> Prop} {H : List SProp} {f : Fr} {C : SProp -> List SProp}
variable {N : List SProp -> Fr -> Prop} {dst : Option Tmp} {d : Nat} {ty_ : TypeId} {pos : String} {after : Array Edge} {guard : Option (Nat × Bool)}
def strV (l : List UInt8) : Value := .string ⟨l.toArray⟩
theorem PureAt.toStr {T : TabData} {x : Operand} {s t e k : TypeId} {ao : Option Addr} {cap m : Nat} {l : List UInt8} {xs : List Value} (hT : T.ok P = true) (hx : evalX f x = some (.slice ao m cap)) (hs : assoc T.sls s = some e) (he : assoc T.ints e = some .u8) (ht : assoc T.descs t = some (2, k))
    (hr : Rds W H 1 ao m xs) (hxs : xs = l.map fun (c : UInt8) => Value.int .u8 (c.toNat : Int)) : PureAt W P n H f { dst, op := .convert s t x, type := ty_, pos, after, guard } (strV l) := by
  unfold PureAt
  intro tm w hk hw
  subst hxs
  have hm : l.length = m := by have := hr.len; simpa using this
  subst hm
  unfold execOp
  cases ao with
  | none =>
    have h0 := hr.nil rfl
    obtain rfl : l = [] := List.eq_nil_of_length_eq_zero h0
    simp [hk.eval hx, Go.convert, run_underlying (T.slice_ok hT hs), run_underlying (T.int_ok hT he), run_underlying (T.string_ok hT ht), Conv.bytesToString, strV]
    rfl
  | some a =>
    have := run_convert_bytes_back (P := P) w s t e a cap l (T.slice_ok hT hs) (T.int_ok hT he) (T.string_ok hT ht) (fun j hj => hr.cell w hw a rfl j _ (by simp [hj]))
    simp only [hk.eval hx, Sem.run_bind, this, Result.andThen_ok, Sem.run_pure]
    rfl
theorem PureAt.strEq {T : TabData} {op : BinOp} {x y : Operand} {s u e : TypeId} {a b : List UInt8} {v : Value} (hT : T.ok P = true) (hx : evalX f x = some (strV a)) (hy : evalX f y = some (strV b)) (hs : assoc T.descs s = some (2, e)) (hv : eqB op (decide (a = b)) = some v) :
  PureAt W P n H f { dst, op := .binOp op s x y u, type := ty_, pos, after, guard } v := by
 unfold PureAt
 intro tm w hk _
 have key : ∀ o, (o = .eql \/ o = .neq) -> eqB o (decide (a = b)) = some v -> (Op.stringOp o ⟨a.toArray⟩ ⟨b.toArray⟩).run P w = .ok v w := by
  have hd : (a == b) = decide (a = b) := by rw [Bool.eq_iff_iff]; simp
  have hl : ∀ c : List UInt8, (⟨c.toArray⟩ : ByteArray).toList = c := fun c => by simp [ByteArray.toList_eq]
  rintro o (rfl | rfl) h
  ·
   simp only [eqB, Option.some.injEq] at h; subst h
   simp [Op.stringOp, hl, hd]
  ·
   simp only [eqB, Option.some.injEq] at h; subst h
   simp [Op.stringOp, hl, hd]
 have ho : op = .eql \/ op = .neq := by cases op <;> simp [eqB] at hv <;> simp
 have := key op ho hv
 unfold execOp
 rcases ho with rfl | rfl
 ·
  simp only [hk.eval hx, hk.eval hy, strV] at this ⊢
  simp [eqGuard, binOp, this]
 ·
  simp only [hk.eval hx, hk.eval hy, strV] at this ⊢
  simp [eqGuard, binOp, this]
def MRow (b : Nat) (e : TypeId) (xs : List Value) : SProp := fun h => ∃ spare, At b (.cells (xs ++ spare).toArray e ((xs ++ spare).length, (xs ++ spare).length + 1)) h
theorem Rds.mrow {b : Nat} {e : TypeId} {xs : List Value} {m : Nat} (h1 : ∀ u ∈ xs, u.oneCell' = true) (hm : MRow b e xs ∈ H) (hl : xs.length = m) : Rds W H 1 (some ⟨b, 0, none⟩) m xs := by
 refine ⟨by omega, h1, fun h => (by cases h), fun w hw a ha j u hj => ?_⟩
 cases ha
 obtain ⟨R, p⟩ := mem_perm hm
 obtain ⟨h, ⟨spare, d⟩, own, -⟩ := (hw.perm p).open
 have := (own b _ d).2
 have e2 : (⟨b, 0, none⟩ : Addr).add j = ⟨b, j, none⟩ := by unfold Addr.add; split <;> simp_all
 rw [e2]
 simp only [World.cell?, this]
 simp [List.getElem?_append_left (List.getElem?_eq_some_iff.1 hj).1, hj]
end
end Go.Sl
namespace Go.Sl
open Go Go.RowKit
section
variable {W : World} {P : Program} {n : Nat} {Q : Exit -> Act -> World -> Prop} {H : List SProp} {f : Fr} {C : SProp -> List SProp}
variable {N : List SProp -> Fr -> Prop} {d : Nat} {ty_ : TypeId} {pos : String} {after : Array Edge} {guard : Option (Nat × Bool)}
theorem OpV.copyStr {s x : Operand} {t tx e : TypeId} {z : Value} {by_ m cap : Nat} {ao : Option Addr} {xs : List Value} {l : List UInt8} (st : SliceT P t e z 1 by_) (hs : evalX f s = some (.slice ao m cap)) (hx : evalX f x = some (strV l))
  (u : Hole H (Own e 1 (.slice ao m cap) m xs) C) (hm : l.length <= m) (hd : Nat.blt d n = true)
  (h : N (C (Own e 1 (.slice ao m cap) m ((l.map fun (c : UInt8) => Value.int .u8 (c.toNat : Int)) ++ xs.drop l.length))) ((d, .int .i64 (l.length : Int)) :: f)) :
  OpV W P n { dst := some d, op := .call { callee := .builtin .copy, args := #[s, x], argTypes := #[t, tx] }, type := ty_, pos, after, guard } Q H f N := by
 refine OpV.run (α := Unit) (v := fun _ => .int .i64 (l.length : Int)) (G := fun _ => C (Own e 1 (.slice ao m cap) m ((l.map fun (c : UInt8) => Value.int .u8 (c.toNat : Int)) ++ xs.drop l.length))) hd (fun tm w hk hw => ?_) (fun _ => h)
 obtain ⟨R, p, q⟩ := u.perm
 obtain ⟨i, hi, hz, hsz, hby⟩ := info_parts st.info
 obtain ⟨hl, hv⟩ := (hw.perm p).ownOpen
 rw [Nat.mul_one] at hl
 have hsl : (⟨l.toArray⟩ : ByteArray).size = l.length := by simp [ByteArray.size]
 have hmin : Nat.min (⟨l.toArray⟩ : ByteArray).size m = (⟨l.toArray⟩ : ByteArray).size := Nat.min_eq_left (by rw [hsl]; exact hm)
 have hfc := Lib.run_firstCells_string (P := P) w i.size ⟨l.toArray⟩
 have hcs : Lib.strCells ⟨l.toArray⟩ = l.map fun (c : UInt8) => Value.int .u8 (c.toNat : Int) := by simp [Lib.strCells]
 rw [hcs] at hfc
 have hone : ∀ u ∈ (l.map fun (c : UInt8) => Value.int .u8 (c.toNat : Int)), u.oneCell' = true := by
  intro u hu; obtain ⟨_, _, rfl⟩ := List.mem_map.1 hu; rfl
 rcases hv with ⟨he, h0, hR⟩ | ⟨b, cap', spare, he, hn, hmx, hc, hR⟩
 ·
  cases he
  have hl0 : l = [] := List.eq_nil_of_length_eq_zero (by omega)
  subst hl0
  refine ⟨(), w, ?_, Holds.perm (q _) (by simpa using hw.perm p)⟩
  unfold execOp
  simp only [resolve, invoke, builtin, Sem.run_bind, Sem.run_pure, Result.andThen_ok, List.map_toArray, List.map_cons, List.map_nil, hk.eval hs, hk.eval hx, strV]
  have hr : (Builtin.copy_ #[t, tx] ty_ #[.slice none 0 0, .string ⟨#[]⟩]).run P w = .ok (.int .i64 0) w := by
   simp [Builtin.copy_, run_underlying st.und, Builtin.lenOf, sizeOf, typeInfo, hi, Builtin.firstCells, goInt, ByteArray.size]
  have hr' : (Builtin.copy_ #[t, tx] ty_ #[.slice none 0 0, .string ⟨([] : List UInt8).toArray⟩]).run P w = .ok (.int .i64 0) w := hr
  rw [hr']; rfl
 ·
  cases he
  rw [Nat.mul_one] at hc
  have hnl : (l.map fun (c : UInt8) => Value.int .u8 (c.toNat : Int)).length = l.length := by simp
  have hfit : 0 + (l.map fun (c : UInt8) => Value.int .u8 (c.toNat : Int)).length <= (xs ++ spare).length := by rw [hnl, List.length_append, hl]; omega
  have hst := run_storeCells_cells (P := P) b 0 (l.map fun (c : UInt8) => Value.int .u8 (c.toNat : Int)) 0 w (fun j hj => by
    have hj' : 0 + 0 + j < (xs ++ spare).length := by omega
    rw [hR.cell (.head _) (List.getElem?_eq_getElem hj')]; rfl) (fun j hj => hR.free (.head _)) hone
  simp only [Nat.add_zero] at hst
  refine ⟨(), w.setCells b 0 (l.map fun (c : UInt8) => Value.int .u8 (c.toNat : Int)), ?_, Holds.perm (q _) ?_⟩
  ·
   unfold execOp
   simp only [resolve, invoke, builtin, Sem.run_bind, Sem.run_pure, Result.andThen_ok, List.map_toArray, List.map_cons, List.map_nil, hk.eval hs, hk.eval hx, strV]
   have hr : (Builtin.copy_ #[t, tx] ty_ #[.slice (some ⟨b, 0, none⟩) m cap, .string ⟨l.toArray⟩]).run P w = .ok (.int .i64 (l.length : Int)) (w.setCells b 0 (l.map fun (c : UInt8) => Value.int .u8 (c.toNat : Int))) := by
    rw [hsl] at hmin hfc
    have hsl2 : (⟨l.toArray⟩ : ByteArray).size = l.length := hsl
    simp only [Builtin.copy_, List.getElem?_toArray, List.getElem?_cons_zero, List.getElem?_cons_succ, Sem.run_bind, run_underlying st.und, Result.andThen_ok, Builtin.lenOf, Sem.run_pure]
    simp [sizeOf, typeInfo, hi, hmin, hfc, hst, goInt, hsl2]
   rw [hr]; rfl
  ·
   have h2 := hR.setCells .head hfit
   have e : (xs ++ spare).take 0 ++ (l.map fun (c : UInt8) => Value.int .u8 (c.toNat : Int)) ++ (xs ++ spare).drop (0 + (l.map fun (c : UInt8) => Value.int .u8 (c.toNat : Int)).length) = ((l.map fun (c : UInt8) => Value.int .u8 (c.toNat : Int)) ++ xs.drop l.length) ++ spare := by
    rw [Nat.zero_add, hnl, List.drop_append_of_le_length (by omega)]; simp
   rw [e] at h2
   refine Holds.ownShut ?_ hn hmx ?_ h2
   · rw [List.length_append, hnl, List.length_drop, hl]; omega
   · rw [<- hc]; simp only [List.length_append, List.length_map, List.length_drop, hl]; omega
theorem OpV.markConst {T : TabData} {x : Operand} {t e : TypeId} {b m c' : Nat} {xs : List Value} (hT : T.ok P = true) (hx : evalX f x = some (.slice (some ⟨b, 0, none⟩) m c')) (ht : assoc T.sls t = some e) (he : assoc T.ints e = some .u8)
  (u : Hole H (Row b e xs) C) (hd : Nat.blt d n = true) (h : N (C (MRow b e xs)) ((d, .slice (some ⟨b, 0, none⟩) m c') :: f)) :
  OpV W P n { dst := some d, op := .convert t t x, type := ty_, pos, after, guard } Q H f N := by
 refine OpV.run (α := Unit) (v := fun _ => .slice (some ⟨b, 0, none⟩) m c') (G := fun _ => C (MRow b e xs)) hd (fun tm w hk hw => ⟨(), w.freeze ⟨b, xs.length, none⟩ 1, ?_, ?_⟩) (fun _ => h)
 all_goals
  obtain ⟨R, p, q⟩ := u.perm
  have hat := ((hw.perm p).at (.head _)).2
  have hlt := (hw.perm p).lt (.head _)
 ·
  have hsh : w.shape? b = some (e, xs.length) := by unfold World.shape?; rw [hat]; simp
  have hr : (convert t t (.slice (some ⟨b, 0, none⟩) m c')).run P w = .ok (.slice (some ⟨b, 0, none⟩) m c') (w.freeze ⟨b, xs.length, none⟩ 1) := by
   simp [convert, run_underlying (T.slice_ok hT ht), run_underlying (T.int_ok hT he), markStringish, hsh]
  unfold execOp
  simp only [hk.eval hx, Sem.run_bind, hr, Result.andThen_ok, Sem.run_pure]
 ·
  have hfr : w.freeze ⟨b, xs.length, none⟩ 1 = { w with heap := w.heap.modify b fun | .cells c elem (lo, hi) => .cells c elem (if lo == hi then (xs.length, xs.length + 1) else (min lo xs.length, max hi (xs.length + 1))) | o => o } := by
   unfold World.freeze; rw [if_neg (by decide)]; rfl
  rw [hfr]
  refine Holds.perm (q _) (Holds.cons (P := At b (.cells xs.toArray e (xs.length, xs.length + 1))) (fun k hk => ⟨[], by simpa using hk⟩) ?_)
  refine Holds.put (C := fun X => X :: R) (hw.perm p) .head rfl rfl rfl (by simp) (fun k hk => ?_) ?_
  ·
   show (w.heap.modify b _)[k]? = _
   rw [Array.getElem?_modify]; rw [if_neg (Ne.symm hk)]
  ·
   show (w.heap.modify b _)[b]? = _
   rw [Array.getElem?_modify, if_pos rfl, hat]; rfl
end
end Go.Sl
namespace Go.Sl
open Go Go.RowKit
section
variable {P : Program} {ops : Array Oper} {Q : Exit -> Act -> World -> Prop} {S : World -> Prop}
def wpSchedX (P : Program) (ops : Array Oper) (Q : Exit -> Act -> World -> Prop) (S : World -> Prop) (mv : List Nat) (tl x : Nat) : List Nat -> Act -> World -> Prop
  | [], _, _ => False
  | i :: r, a, w =>
    (i = x /\ wpOp P ops (calmQ Q) x (fun a' w' => S w' /\ wpSched P ops Q S mv tl r a' w') a w) \/
    (i ≠ x /\ mv.contains i = true /\ wpOp P ops (calmQ Q) i (fun a' w' => S w' /\ wpSchedX P ops Q S mv tl x r a' w') a w /\ wpOp P ops (calmQ Q) x (fun a' w' => S w' /\ wpSched P ops Q S mv tl (i :: r.erase x) a' w') a w) \/
    (mv.contains i = false /\ ∃ o v, ops[i]? = some o /\ YieldsIf P ops S o v a /\ wpSchedX P ops Q S mv tl x r (a.put o.dst v) w)
def twoB (ops : Array Oper) (listed : Array Bool) (i x : Nat) : Bool :=
  match Region.ready .any ops listed with
  | [a, b] => (Nat.beq a i && Nat.beq b x) || (Nat.beq a x && Nat.beq b i)
  | _ => false
theorem twoB_spec {listed : Array Bool} {i x : Nat} (h : twoB ops listed i x = true) : Region.ready .any ops listed ≠ [] /\ ∀ j ∈ Region.ready .any ops listed, j = i \/ j = x := by
 unfold twoB at h
 split at h
 ·
  rename_i a b e
  rw [e]
  simp only [Bool.or_eq_true, Bool.and_eq_true] at h
  refine ⟨by simp, fun j hj => ?_⟩
  simp only [List.mem_cons, List.not_mem_nil, or_false] at hj
  rcases h with ⟨h1, h2⟩ | ⟨h1, h2⟩
  · rw [Nat.eq_of_beq_eq_true h1, Nat.eq_of_beq_eq_true h2] at hj; exact hj
  · rw [Nat.eq_of_beq_eq_true h1, Nat.eq_of_beq_eq_true h2] at hj; exact hj.symm
 · cases h
def headX (ops : Array Oper) (mv : List Nat) (tl x : Nat) : List Nat -> Array Bool -> Bool
  | [], _ => false
  | i :: r, listed =>
    bif Nat.beq i x then oneB ops listed x && headB ops mv tl r (listed.setIfInBounds x true)
    else bif mv.contains i then Nat.blt i tl && twoB ops listed i x && headX ops mv tl x r (listed.setIfInBounds i true) && headB ops mv tl (i :: r.erase x) (listed.setIfInBounds x true)
    else Nat.blt i tl && Region.free .any ops listed i && (Region.ready .any ops listed).contains i && headX ops mv tl x r (listed.setIfInBounds i true)
theorem headX_mem {mv : List Nat} {tl x : Nat} : ∀ (r : List Nat) (listed : Array Bool), headX ops mv tl x r listed = true -> x ∈ r
  | [], _, h => by cases h
  | i :: r, listed, h => by
    unfold headX at h
    cases h1 : Nat.beq i x with
    | true => have : i = x := by simpa using h1
              subst this; exact .head _
    | false =>
      rw [h1] at h
      cases h2 : mv.contains i with
      | true =>
        rw [h2] at h
        simp only [cond_true, cond_false, Bool.and_eq_true] at h
        exact .tail _ (headX_mem r _ h.1.2)
      | false =>
        rw [h2] at h
        simp only [cond_false, Bool.and_eq_true] at h
        exact .tail _ (headX_mem r _ h.2)
theorem sched_X {mv : List Nat} {tl x : Nat} (ht : TailOk .any ops tl) (hs : Region.noSelect ops = true) (hxt : x < tl) (hxm : mv.contains x = true) : ∀ (r : List Nat) (listed : Array Bool) (a : Act) (w : World), HeadInv .any ops tl listed -> headX ops mv tl x r listed = true -> S w ->
    wpSchedX P ops Q S mv tl x r a w -> wpAnyT P .any ops (calmQ Q) S tl r.length listed a w
  | [], _, _, _, _, h, _, _ => by cases h
  | i :: r, listed, a, w, inv, h, hS, hw => by
    have hmem := headX_mem (i :: r) listed h
    unfold headX at h
    cases h1 : Nat.beq i x with
    | true =>
      have e : i = x := by simpa using h1
      subst e
      rw [h1] at h
      simp only [cond_true, Bool.and_eq_true] at h
      have hr := oneB_spec h.1
      have hw' : wpOp P ops (calmQ Q) i (fun a' w' => S w' /\ wpSched P ops Q S mv tl r a' w') a w := by
        rcases hw with ⟨_, hw⟩ | ⟨hne, _⟩ | ⟨hm, _⟩
        · exact hw
        · exact absurd rfl hne
        · rw [hxm] at hm; cases hm
      refine ⟨fun h0 => (by rw [hr] at h0; cases h0), fun j hj => ?_⟩
      have hj' := hj
      rw [hr, List.mem_singleton] at hj'
      subst hj'
      exact wpOp_mono (fun a' w' h' => ⟨fun _ => h'.1, sched_head ht hs r _ a' w' (inv.set hj hxt) h.2 h'.1 h'.2⟩) hw'
    | false =>
      have hne : i ≠ x := by intro e; subst e; simp at h1
      have hxr : x ∈ r := by rcases List.mem_cons.1 hmem with e | e; exact absurd e.symm hne; exact e
      rw [h1] at h
      cases h2 : mv.contains i with
      | true =>
        rw [h2] at h
        simp only [cond_true, cond_false, Bool.and_eq_true] at h
        have hin : i < tl := by have := h.1.1.1; simpa [Nat.blt_eq] using this
        obtain ⟨hn, hr⟩ := twoB_spec h.1.1.2
        rcases hw with ⟨e, _⟩ | ⟨_, _, hw1, hw2⟩ | ⟨hm, _⟩
        · exact absurd e hne
        · refine ⟨fun h0 => absurd h0 hn, fun j hj => ?_⟩
          rcases hr j hj with e | e
          · subst e
            exact wpOp_mono (fun a' w' h' => ⟨fun _ => h'.1, sched_X ht hs hxt hxm r _ a' w' (inv.set hj hin) h.1.2 h'.1 h'.2⟩) hw1
          · subst e
            have hl : r.length = (i :: r.erase j).length := by
              rw [List.length_cons, List.length_erase_of_mem hxr]
              have := List.length_pos_of_mem hxr
              omega
            refine wpOp_mono (fun a' w' h' => ⟨fun _ => h'.1, ?_⟩) hw2
            rw [hl]
            exact sched_head ht hs (i :: r.erase j) _ a' w' (inv.set hj hxt) h.2 h'.1 h'.2
        · rw [h2] at hm; cases hm
      | false =>
        rw [h2] at h
        simp only [cond_false, Bool.and_eq_true] at h
        have hin : i < tl := by have := h.1.1.1; simpa [Nat.blt_eq] using this
        have hr : i ∈ Region.ready .any ops listed := by simpa using h.1.2
        rcases hw with ⟨e, _⟩ | ⟨_, hm, _⟩ | ⟨_, o, v, ho, hy, hw⟩
        · exact absurd e hne
        · rw [h2] at hm; cases hm
        · exact wpAnyT_first ht ho (Region.noSelect_spec hs) (fun c a w hc => by cases hc.1) hin r.length listed a w inv (Region.free_spec ho h.1.1.2) hr hy hS (sched_X ht hs hxt hxm r _ _ w (inv.set hr hin) h.2 hS hw)
def drawXB (ops : Array Oper) (mv : List Nat) (tl x : Nat) (ord : List Nat) : Bool :=
  Nat.beq ord.length ops.size && Region.noSelect ops && (Nat.ble ops.size tl || (Region.sinkB .any ops tl && Region.chainB .any ops tl && Nat.blt tl ops.size)) && Nat.blt x tl && mv.contains x && headX ops mv tl x ord (Array.replicate ops.size false)
theorem wp_region_schedX {id : Nat} {mv : List Nat} {tl x : Nat} {ord : List Nat} {a : Act} {w : World} (hm : P.follows .mixedOrders = true) (hB : drawXB ops mv tl x ord = true) (hS : S w.drew)
  (h : wpSchedX P ops Q S mv tl x ord a w.drew) : (Code.region id ops true).wp P Q a w := by
 simp only [drawXB, Bool.and_eq_true, Bool.or_eq_true] at hB
 obtain ⟨⟨⟨⟨⟨hl, hs⟩, ht⟩, hx⟩, hxm⟩, hh⟩ := hB
 have hl' : ord.length = ops.size := by simpa using hl
 have ht' : TailOk .any ops tl := by
  rcases ht with h | ⟨⟨h1, h2⟩, h3⟩
  · exact .inl (Nat.le_of_ble_eq_true h)
  · exact .inr ⟨h1, h2, by simpa [Nat.blt_eq] using h3⟩
 have h1 := sched_X (P := P) (Q := Q) (S := S) ht' hs (by simpa [Nat.blt_eq] using hx) hxm ord _ a w.drew (HeadInv.start tl) hh hS h
 rw [hl'] at h1
 refine Code.wp_mono ?_ (wp_region_any (Q := calmQ Q) hm (wpAny_of_T _ _ _ _ h1))
 rintro e a w ⟨rfl, hq⟩
 exact hq
end
section
variable {W : World} {P : Program} {n : Nat} {c : Code} {Q : Exit -> Act -> World -> Prop} {H H' L R : List SProp} {f F : Fr} {mv ord r : List Nat} {tl i x : Nat}
variable {dst : Option Tmp} {d e : Nat} {ty_ : TypeId} {pos : String} {after : Array Edge} {guard : Option (Nat × Bool)} {X : Nat -> SProp} {vx : Nat -> Value}
theorem Knows.swap {a b n : Nat} {u v : Value} {f : Fr} {t : Array Value} (h : Knows n ((a, u) :: (b, v) :: f) t) (hab : Nat.beq a b = false) : Knows n ((b, v) :: (a, u) :: f) t := by
  refine ⟨h.size, fun k z hk => h.get k z ?_⟩
  unfold look at hk ⊢
  cases hb : Nat.beq b k with
  | true =>
    have : b = k := by simpa using hb
    subst this
    rw [hb] at hk
    rw [hab]
    simp only [cond_false, cond_true] at hk ⊢
    unfold look; rw [hb]; exact hk
  | false =>
    rw [hb] at hk
    simp only [cond_false] at hk
    unfold look at hk
    cases ha : Nat.beq a k with
    | true => rw [ha] at hk; exact hk
    | false =>
      rw [ha] at hk
      simp only [cond_false] at hk ⊢
      unfold look; rw [hb]; exact hk
theorem Knows.under {d n : Nat} {u : Value} {f : Fr} {t : Array Value} (h : Knows n ((d, u) :: f) t) (hd : look f d = none) : Knows n f t := by
  refine ⟨h.size, fun k z hk => h.get k z ?_⟩
  unfold look
  cases hb : Nat.beq d k with
  | true => have : d = k := by simpa using hb
            subst this; rw [hd] at hk; cases hk
  | false => exact hk
structure FloatX (W : World) (P : Program) (n : Nat) (o : Oper) (d : Nat) (X : Nat -> SProp) (vx : Nat -> Value) : Prop where
  run : ∀ (Q : Exit -> Act -> World -> Prop) (H : List SProp) (f : Fr) (N : List SProp -> Fr -> Prop), (∀ b, N (X b :: H) ((d, vx b) :: f)) -> OpV W P n o Q H f N
  guard : o.guard = none
def VX (W : World) (P : Program) (n : Nat) (c : Code) (R : List SProp) (mv : List Nat) (tl x d : Nat) (X : Nat -> SProp) (vx : Nat -> Value) (r : List Nat) (Q : Exit -> Act -> World -> Prop) (H : List SProp) (f : Fr) : Prop :=
  (∀ t w, Knows n f t -> Holds W H w -> wpSchedX P (regOps c).toArray Q (Holds W R) mv tl x r ⟨t, []⟩ w) /\
  (∀ b t w, Knows n ((d, vx b) :: f) t -> Holds W (X b :: H) w -> wpSched P (regOps c).toArray Q (Holds W R) mv tl (r.erase x) ⟨t, []⟩ w)
theorem VC.drawnX (mv : List Nat) (tl x : Nat) (ord : List Nat) (R : List SProp) (d : Nat) (X : Nat -> SProp) (vx : Nat -> Value) (hc : regDraw c = some true) (hm : P.follows .mixedOrders = true) (hB : drawXB (regOps c).toArray mv tl x ord = true) (hR : Ent W H R)
  (h : VX W P n c R mv tl x d X vx ord Q H f) : VC W P n c Q H f := by
 unfold VC
 cases c <;> simp [regDraw] at hc
 subst hc
 intro t w hk hw
 have h' := h.1 t w.drew hk hw.drew
 simp only [regOps, Array.toArray_toList] at h' hB
 exact wp_region_schedX hm hB (hR _ hw.drew) h'
theorem VX.take {op : Op} {v : Value} (ho : (regOps c)[i]? = some { dst := some e, op, type := ty_, pos, after, guard }) (hix : Nat.beq i x = false) (hm : mvB mv tl i = false) (hg : wantX (regOps c) guard f = some true)
  (hp : PureAt W P n R f { dst := some e, op, type := ty_, pos, after, guard } v) (hd : Nat.blt e n = true) (hfd : look f d = none) (hed : Nat.beq e d = false) (h : VX W P n c R mv tl x d X vx r Q H ((e, v) :: f)) : VX W P n c R mv tl x d X vx (i :: r) Q H f := by
 unfold PureAt at hp
 have hne : i ≠ x := by intro q; subst q; simp at hix
 have hm' : mv.contains i = false := by unfold mvB at hm; cases h9 : mv.contains i with | true => rw [h9] at hm; cases hm | false => rfl
 refine ⟨fun t w hk hw => .inr (.inr ⟨hm', _, v, by simpa using ho, .inl ⟨hk.wanted (o := { dst := some e, op, type := ty_, pos, after, guard }) hg, fun w hS => hp t w hk hS⟩, h.1 _ w (hk.put hd) hw⟩), fun b t w hk hw => ?_⟩
 have hk' := hk.under hfd
 rw [List.erase_cons_tail (by simpa using hne)]
 exact .inr ⟨hm, _, v, by simpa using ho, .inl ⟨hk'.wanted (o := { dst := some e, op, type := ty_, pos, after, guard }) hg, fun w hS => hp t w hk' hS⟩, h.2 b _ w ((hk.put hd).swap hed) hw⟩
theorem VX.call {ox : Oper} {y : Operand} {xs : Array Operand} {ats : Array TypeId} {g : FuncId} {cap : Array Value} {vs : List Value} {rv : Value}
  (ho : (regOps c)[i]? = some { dst := some e, op := .call { callee := .value y, args := xs, argTypes := ats }, type := ty_, pos, after, guard }) (hix : Nat.beq i x = false) (hm : mv.contains i = true) (hg : wantX (regOps c) guard f = some true)
  (hx : evalX f y = some (.func (.func g) #[] cap)) (ha : argsX f xs.toList = some vs) (hc : ∀ a w, (callFunc g a).run P w = .ok (.enter g a) w) (spec : ∀ L, Ent W L H -> Does1 W P g (vs ++ cap.toList) L rv L)
  (hox : (regOps c)[x]? = some ox) (fx : FloatX W P n ox d X vx) (hR : Ent W H R) (hd : Nat.blt e n = true) (hfd : look f d = none) (hed : Nat.beq e d = false) (h : VX W P n c R mv tl x d X vx r Q H ((e, rv) :: f)) : VX W P n c R mv tl x d X vx (i :: r) Q H f := by
 have hne : i ≠ x := by intro q; subst q; simp at hix
 have second : ∀ b t w, Knows n ((d, vx b) :: f) t -> Holds W (X b :: H) w -> wpSched P (regOps c).toArray Q (Holds W R) mv tl (i :: r.erase x) ⟨t, []⟩ w := by
  intro b t w hk hw
  have hk' := hk.under hfd
  refine .inl ⟨by unfold mvB; rw [hm]; rfl, ?_⟩
  unfold wpOp
  simp only [List.getElem?_toArray, ho]
  rw [if_pos (hk'.wanted (o := { dst := some e, op := .call { callee := .value y, args := xs, argTypes := ats }, type := ty_, pos, after, guard }) hg)]
  have hE : Ent W (X b :: H) H := Ent.drop Ent.refl
  have := OpV.call (W := W) (n := n) (d := e) (ty_ := ty_) (pos := pos) (after := after) (guard := guard) (ats := ats) (Q := calmQ Q) (f := f) (H := X b :: H) (N := fun H' f' => H' = X b :: H /\ f' = (e, rv) :: f) hx ha hc (spec _ hE) Ent.refl hd (fun _ _ => ⟨rfl, rfl⟩)
  have hs := spec _ hE
  refine .inl ?_
  have hargs : xs.map (Act.eval ⟨t, []⟩) = vs.toArray := by
   have := hk'.args ha
   apply Array.ext'
   simpa using this
  unfold Does1 Does at hs
  have hs := hs w hw
  unfold Oper.wp execOp
  simp only [resolve, hk'.eval hx, hargs, Deferred.ofValue, invoke, Sem.run_bind, Sem.run_pure, Result.andThen_ok, hc, Oper.upon]
  have e9 : #[] ++ vs.toArray ++ cap = (vs ++ cap.toList).toArray := by simp
  rw [e9]
  refine Calls.mono hs ?_
  rintro e8 w' ⟨_, _, rfl, hG⟩
  exact ⟨fun _ => hR _ hG.tail, h.2 b _ w' ((hk.put hd).swap hed) hG⟩
 refine ⟨fun t w hk hw => .inr (.inl ⟨hne, hm, ?_, ?_⟩), fun b t w hk hw => by rw [List.erase_cons_tail (by simpa using hne)]; exact second b t w hk hw⟩
 ·
  unfold wpOp
  simp only [List.getElem?_toArray, ho]
  rw [if_pos (hk.wanted (o := { dst := some e, op := .call { callee := .value y, args := xs, argTypes := ats }, type := ty_, pos, after, guard }) hg)]
  have := OpV.call (W := W) (n := n) (d := e) (ty_ := ty_) (pos := pos) (after := after) (guard := guard) (ats := ats) (Q := calmQ Q) (f := f) (H := H) (N := fun H' f' => H' = H /\ f' = (e, rv) :: f) hx ha hc (spec _ Ent.refl) Ent.refl hd (fun _ _ => ⟨rfl, rfl⟩)
  unfold OpV at this
  refine .inl (this t w hk hw _ ?_)
  rintro H' f' ⟨rfl, rfl⟩ t' w' hk' hw'
  exact ⟨hR _ hw', h.1 t' w' hk' hw'⟩
 ·
  unfold wpOp
  simp only [List.getElem?_toArray, hox]
  rw [if_pos (by unfold Region.wanted; rw [fx.guard])]
  have := fx.run (calmQ Q) H f (fun H' f' => ∃ b, H' = X b :: H /\ f' = (d, vx b) :: f) (fun b => ⟨b, rfl, rfl⟩)
  unfold OpV at this
  refine .inl (this t w hk hw _ ?_)
  rintro H' f' ⟨b, rfl, rfl⟩ t' w' hk' hw'
  exact ⟨hR _ hw'.tail, second b t' w' hk' hw'⟩
theorem VX.float {ox : Oper} (hix : Nat.beq i x = true) (hox : (regOps c)[x]? = some ox) (fx : FloatX W P n ox d X vx) (hR : Ent W H R) (h : ∀ b, VD W P n c R mv tl r Q (X b :: H) ((d, vx b) :: f)) : VX W P n c R mv tl x d X vx (i :: r) Q H f := by
 have e : i = x := by simpa using hix
 subst e
 unfold VD at h
 refine ⟨fun t w hk hw => .inl ⟨rfl, ?_⟩, fun b t w hk hw => by rw [List.erase_cons_head]; exact h b t w hk hw⟩
 unfold wpOp
 simp only [List.getElem?_toArray, hox]
 rw [if_pos (by unfold Region.wanted; rw [fx.guard])]
 have := fx.run (calmQ Q) H f (fun H' f' => ∃ b, H' = X b :: H /\ f' = (d, vx b) :: f) (fun b => ⟨b, rfl, rfl⟩)
 unfold OpV at this
 refine .inl (this t w hk hw _ ?_)
 rintro H' f' ⟨b, rfl, rfl⟩ t' w' hk' hw'
 exact ⟨hR _ hw'.tail, h b t' w' hk' hw'⟩
theorem VX.re {v : Value} (k : Nat) (v' : Value) (hl : look f k = some v) (q : v = v') (hkd : Nat.beq k d = false) (hfd : look f d = none) (h : VX W P n c R mv tl x d X vx r Q H ((k, v') :: f)) : VX W P n c R mv tl x d X vx r Q H f :=
 ⟨fun t w hk hw => h.1 t w (hk.again (q ▸ hl)) hw, fun b t w hk hw => h.2 b t w ((hk.again (d := k) (v := v') (by unfold look; cases hb : Nat.beq d k with | true => (have : d = k := by simpa using hb); subst this; simp at hkd | false => exact q ▸ hl)).swap hkd) hw⟩
theorem FloatX.alloc {t : TypeId} {zs : List Value} {pls : List (Nat × Nat)} (sb : StructT P t zs pls) (hd : Nat.blt d n = true) : FloatX W P n { dst := some d, op := .alloc t, type := ty_, pos, after, guard := none } d (fun b => Row b t zs) (fun b => .pointer (some ⟨b, 0, none⟩)) :=
 ⟨fun Q H f N h => OpV.allocS sb hd h, rfl⟩
end
attribute [irreducible] VX
end Go.Sl
