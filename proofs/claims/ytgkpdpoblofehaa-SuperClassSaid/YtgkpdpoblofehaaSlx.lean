/- The engine: a region that draws its order, in which one operation that makes memory may come up anywhere among calls that only read. Generic: no program is named. -/
import Derived.Test.YtgkpdpoblofehaaSlt
import Derived.Test.YtgkpdpoblofehaaSld
set_option maxRecDepth 8000
set_option linter.unusedVariables false
set_option linter.unusedSimpArgs false
set_option linter.unusedSectionVars false
namespace Go.Sl
open Go Go.RowKit
section
variable {P : Program} {ops : Array Oper} {Q : Exit → Act → World → Prop} {S : World → Prop}

def wpSchedX (P : Program) (ops : Array Oper) (Q : Exit → Act → World → Prop) (S : World → Prop) (mv : List Nat) (tl x : Nat) : List Nat → Act → World → Prop
  | [], _, _ => False
  | i :: r, a, w =>
    (i = x ∧ wpOp P ops (calmQ Q) x (fun a' w' => S w' ∧ wpSched P ops Q S mv tl r a' w') a w) ∨
    (i ≠ x ∧ mv.contains i = true ∧ wpOp P ops (calmQ Q) i (fun a' w' => S w' ∧ wpSchedX P ops Q S mv tl x r a' w') a w ∧ wpOp P ops (calmQ Q) x (fun a' w' => S w' ∧ wpSched P ops Q S mv tl (i :: r.erase x) a' w') a w) ∨
    (mv.contains i = false ∧ ∃ o v, ops[i]? = some o ∧ YieldsIf P ops S o v a ∧ wpSchedX P ops Q S mv tl x r (a.put o.dst v) w)

def twoB (ops : Array Oper) (listed : Array Bool) (i x : Nat) : Bool :=
  match Region.ready .any ops listed with
  | [a, b] => (Nat.beq a i && Nat.beq b x) || (Nat.beq a x && Nat.beq b i)
  | _ => false
theorem twoB_spec {listed : Array Bool} {i x : Nat} (h : twoB ops listed i x = true) : Region.ready .any ops listed ≠ [] ∧ ∀ j ∈ Region.ready .any ops listed, j = i ∨ j = x := by
  unfold twoB at h
  split at h
  · rename_i a b e
    rw [e]
    simp only [Bool.or_eq_true, Bool.and_eq_true] at h
    refine ⟨by simp, fun j hj => ?_⟩
    simp only [List.mem_cons, List.not_mem_nil, or_false] at hj
    rcases h with ⟨h1, h2⟩ | ⟨h1, h2⟩
    · rw [Nat.eq_of_beq_eq_true h1, Nat.eq_of_beq_eq_true h2] at hj; exact hj
    · rw [Nat.eq_of_beq_eq_true h1, Nat.eq_of_beq_eq_true h2] at hj; exact hj.symm
  · cases h
def headX (ops : Array Oper) (mv : List Nat) (tl x : Nat) : List Nat → Array Bool → Bool
  | [], _ => false
  | i :: r, listed =>
    bif Nat.beq i x then oneB ops listed x && headB ops mv tl r (listed.setIfInBounds x true)
    else bif mv.contains i then Nat.blt i tl && twoB ops listed i x && headX ops mv tl x r (listed.setIfInBounds i true) && headB ops mv tl (i :: r.erase x) (listed.setIfInBounds x true)
    else Nat.blt i tl && Region.free .any ops listed i && (Region.ready .any ops listed).contains i && headX ops mv tl x r (listed.setIfInBounds i true)
theorem headX_mem {mv : List Nat} {tl x : Nat} : ∀ (r : List Nat) (listed : Array Bool), headX ops mv tl x r listed = true → x ∈ r
  | [], _, h => by cases h
  | i :: r, listed, h => by
    unfold headX at h
    cases h1 : Nat.beq i x with
    | true => have : i = x := by simpa using h1
              subst this; exact .head _
    | false =>
      rw [h1] at h
      cases h2 : mv.contains i with
      | true =>
        rw [h2] at h
        simp only [cond_true, cond_false, Bool.and_eq_true] at h
        exact .tail _ (headX_mem r _ h.1.2)
      | false =>
        rw [h2] at h
        simp only [cond_false, Bool.and_eq_true] at h
        exact .tail _ (headX_mem r _ h.2)

theorem sched_X {mv : List Nat} {tl x : Nat} (ht : TailOk .any ops tl) (hs : Region.noSelect ops = true) (hxt : x < tl) (hxm : mv.contains x = true) : ∀ (r : List Nat) (listed : Array Bool) (a : Act) (w : World), HeadInv .any ops tl listed → headX ops mv tl x r listed = true → S w →
    wpSchedX P ops Q S mv tl x r a w → wpAnyT P .any ops (calmQ Q) S tl r.length listed a w
  | [], _, _, _, _, h, _, _ => by cases h
  | i :: r, listed, a, w, inv, h, hS, hw => by
    have hmem := headX_mem (i :: r) listed h
    unfold headX at h
    cases h1 : Nat.beq i x with
    | true =>
      have e : i = x := by simpa using h1
      subst e
      rw [h1] at h
      simp only [cond_true, Bool.and_eq_true] at h
      have hr := oneB_spec h.1
      have hw' : wpOp P ops (calmQ Q) i (fun a' w' => S w' ∧ wpSched P ops Q S mv tl r a' w') a w := by
        rcases hw with ⟨_, hw⟩ | ⟨hne, _⟩ | ⟨hm, _⟩
        · exact hw
        · exact absurd rfl hne
        · rw [hxm] at hm; cases hm
      refine ⟨fun h0 => (by rw [hr] at h0; cases h0), fun j hj => ?_⟩
      have hj' := hj
      rw [hr, List.mem_singleton] at hj'
      subst hj'
      exact wpOp_mono (fun a' w' h' => ⟨fun _ => h'.1, sched_head ht hs r _ a' w' (inv.set hj hxt) h.2 h'.1 h'.2⟩) hw'
    | false =>
      have hne : i ≠ x := by intro e; subst e; simp at h1
      have hxr : x ∈ r := by rcases List.mem_cons.1 hmem with e | e; exact absurd e.symm hne; exact e
      rw [h1] at h
      cases h2 : mv.contains i with
      | true =>
        rw [h2] at h
        simp only [cond_true, cond_false, Bool.and_eq_true] at h
        have hin : i < tl := by have := h.1.1.1; simpa [Nat.blt_eq] using this
        obtain ⟨hn, hr⟩ := twoB_spec h.1.1.2
        rcases hw with ⟨e, _⟩ | ⟨_, _, hw1, hw2⟩ | ⟨hm, _⟩
        · exact absurd e hne
        · refine ⟨fun h0 => absurd h0 hn, fun j hj => ?_⟩
          rcases hr j hj with e | e
          · subst e
            exact wpOp_mono (fun a' w' h' => ⟨fun _ => h'.1, sched_X ht hs hxt hxm r _ a' w' (inv.set hj hin) h.1.2 h'.1 h'.2⟩) hw1
          · subst e
            have hl : r.length = (i :: r.erase j).length := by
              rw [List.length_cons, List.length_erase_of_mem hxr]
              have := List.length_pos_of_mem hxr
              omega
            refine wpOp_mono (fun a' w' h' => ⟨fun _ => h'.1, ?_⟩) hw2
            rw [hl]
            exact sched_head ht hs (i :: r.erase j) _ a' w' (inv.set hj hxt) h.2 h'.1 h'.2
        · rw [h2] at hm; cases hm
      | false =>
        rw [h2] at h
        simp only [cond_false, Bool.and_eq_true] at h
        have hin : i < tl := by have := h.1.1.1; simpa [Nat.blt_eq] using this
        have hr : i ∈ Region.ready .any ops listed := by simpa using h.1.2
        rcases hw with ⟨e, _⟩ | ⟨_, hm, _⟩ | ⟨_, o, v, ho, hy, hw⟩
        · exact absurd e hne
        · rw [h2] at hm; cases hm
        · exact wpAnyT_first ht ho (Region.noSelect_spec hs) (fun c a w hc => by cases hc.1) hin r.length listed a w inv (Region.free_spec ho h.1.1.2) hr hy hS (sched_X ht hs hxt hxm r _ _ w (inv.set hr hin) h.2 hS hw)

def drawXB (ops : Array Oper) (mv : List Nat) (tl x : Nat) (ord : List Nat) : Bool :=
  Nat.beq ord.length ops.size && Region.noSelect ops && (Nat.ble ops.size tl || (Region.sinkB .any ops tl && Region.chainB .any ops tl && Nat.blt tl ops.size)) && Nat.blt x tl && mv.contains x && headX ops mv tl x ord (Array.replicate ops.size false)
theorem wp_region_schedX {id : Nat} {mv : List Nat} {tl x : Nat} {ord : List Nat} {a : Act} {w : World} (hm : P.follows .mixedOrders = true) (hB : drawXB ops mv tl x ord = true) (hS : S w.drew)
    (h : wpSchedX P ops Q S mv tl x ord a w.drew) : (Code.region id ops true).wp P Q a w := by
  simp only [drawXB, Bool.and_eq_true, Bool.or_eq_true] at hB
  obtain ⟨⟨⟨⟨⟨hl, hs⟩, ht⟩, hx⟩, hxm⟩, hh⟩ := hB
  have hl' : ord.length = ops.size := by simpa using hl
  have ht' : TailOk .any ops tl := by
    rcases ht with h | ⟨⟨h1, h2⟩, h3⟩
    · exact .inl (Nat.le_of_ble_eq_true h)
    · exact .inr ⟨h1, h2, by simpa [Nat.blt_eq] using h3⟩
  have h1 := sched_X (P := P) (Q := Q) (S := S) ht' hs (by simpa [Nat.blt_eq] using hx) hxm ord _ a w.drew (HeadInv.start tl) hh hS h
  rw [hl'] at h1
  refine Code.wp_mono ?_ (wp_region_any (Q := calmQ Q) hm (wpAny_of_T _ _ _ _ h1))
  rintro e a w ⟨rfl, hq⟩
  exact hq
end
section
variable {W : World} {P : Program} {n : Nat} {c : Code} {Q : Exit → Act → World → Prop} {H H' L R : List SProp} {f F : Fr} {mv ord r : List Nat} {tl i x : Nat}
variable {dst : Option Tmp} {d e : Nat} {ty_ : TypeId} {pos : String} {after : Array Edge} {guard : Option (Nat × Bool)} {X : Nat → SProp} {vx : Nat → Value}

theorem Knows.swap {a b n : Nat} {u v : Value} {f : Fr} {t : Array Value} (h : Knows n ((a, u) :: (b, v) :: f) t) (hab : Nat.beq a b = false) : Knows n ((b, v) :: (a, u) :: f) t := by
  refine ⟨h.size, fun k z hk => h.get k z ?_⟩
  unfold look at hk ⊢
  cases hb : Nat.beq b k with
  | true =>
    have : b = k := by simpa using hb
    subst this
    rw [hb] at hk
    rw [hab]
    simp only [cond_false, cond_true] at hk ⊢
    unfold look; rw [hb]; exact hk
  | false =>
    rw [hb] at hk
    simp only [cond_false] at hk
    unfold look at hk
    cases ha : Nat.beq a k with
    | true => rw [ha] at hk; exact hk
    | false =>
      rw [ha] at hk
      simp only [cond_false] at hk ⊢
      unfold look; rw [hb]; exact hk
theorem Knows.under {d n : Nat} {u : Value} {f : Fr} {t : Array Value} (h : Knows n ((d, u) :: f) t) (hd : look f d = none) : Knows n f t := by
  refine ⟨h.size, fun k z hk => h.get k z ?_⟩
  unfold look
  cases hb : Nat.beq d k with
  | true => have : d = k := by simpa using hb
            subst this; rw [hd] at hk; cases hk
  | false => exact hk

/-- An operation that makes memory. -/
structure FloatX (W : World) (P : Program) (n : Nat) (o : Oper) (d : Nat) (X : Nat → SProp) (vx : Nat → Value) : Prop where
  run : ∀ (Q : Exit → Act → World → Prop) (H : List SProp) (f : Fr) (N : List SProp → Fr → Prop), (∀ b, N (X b :: H) ((d, vx b) :: f)) → OpV W P n o Q H f N
  guard : o.guard = none

def VX (W : World) (P : Program) (n : Nat) (c : Code) (R : List SProp) (mv : List Nat) (tl x d : Nat) (X : Nat → SProp) (vx : Nat → Value) (r : List Nat) (Q : Exit → Act → World → Prop) (H : List SProp) (f : Fr) : Prop :=
  (∀ t w, Knows n f t → Holds W H w → wpSchedX P (regOps c).toArray Q (Holds W R) mv tl x r ⟨t, []⟩ w) ∧
  (∀ b t w, Knows n ((d, vx b) :: f) t → Holds W (X b :: H) w → wpSched P (regOps c).toArray Q (Holds W R) mv tl (r.erase x) ⟨t, []⟩ w)

theorem VC.drawnX (mv : List Nat) (tl x : Nat) (ord : List Nat) (R : List SProp) (d : Nat) (X : Nat → SProp) (vx : Nat → Value) (hc : regDraw c = some true) (hm : P.follows .mixedOrders = true) (hB : drawXB (regOps c).toArray mv tl x ord = true) (hR : Ent W H R)
    (h : VX W P n c R mv tl x d X vx ord Q H f) : VC W P n c Q H f := by
  unfold VC
  cases c <;> simp [regDraw] at hc
  subst hc
  intro t w hk hw
  have h' := h.1 t w.drew hk hw.drew
  simp only [regOps, Array.toArray_toList] at h' hB
  exact wp_region_schedX hm hB (hR _ hw.drew) h'
theorem VX.take {op : Op} {v : Value} (ho : (regOps c)[i]? = some { dst := some e, op, type := ty_, pos, after, guard }) (hix : Nat.beq i x = false) (hm : mvB mv tl i = false) (hg : wantX (regOps c) guard f = some true)
    (hp : PureAt W P n R f { dst := some e, op, type := ty_, pos, after, guard } v) (hd : Nat.blt e n = true) (hfd : look f d = none) (hed : Nat.beq e d = false) (h : VX W P n c R mv tl x d X vx r Q H ((e, v) :: f)) : VX W P n c R mv tl x d X vx (i :: r) Q H f := by
  unfold PureAt at hp
  have hne : i ≠ x := by intro q; subst q; simp at hix
  have hm' : mv.contains i = false := by unfold mvB at hm; cases h9 : mv.contains i with | true => rw [h9] at hm; cases hm | false => rfl
  refine ⟨fun t w hk hw => .inr (.inr ⟨hm', _, v, by simpa using ho, .inl ⟨hk.wanted (o := { dst := some e, op, type := ty_, pos, after, guard }) hg, fun w hS => hp t w hk hS⟩, h.1 _ w (hk.put hd) hw⟩), fun b t w hk hw => ?_⟩
  have hk' := hk.under hfd
  rw [List.erase_cons_tail (by simpa using hne)]
  exact .inr ⟨hm, _, v, by simpa using ho, .inl ⟨hk'.wanted (o := { dst := some e, op, type := ty_, pos, after, guard }) hg, fun w hS => hp t w hk' hS⟩, h.2 b _ w ((hk.put hd).swap hed) hw⟩
theorem VX.call {ox : Oper} {y : Operand} {xs : Array Operand} {ats : Array TypeId} {g : FuncId} {cap : Array Value} {vs : List Value} {rv : Value}
    (ho : (regOps c)[i]? = some { dst := some e, op := .call { callee := .value y, args := xs, argTypes := ats }, type := ty_, pos, after, guard }) (hix : Nat.beq i x = false) (hm : mv.contains i = true) (hg : wantX (regOps c) guard f = some true)
    (hx : evalX f y = some (.func (.func g) #[] cap)) (ha : argsX f xs.toList = some vs) (hc : ∀ a w, (callFunc g a).run P w = .ok (.enter g a) w) (spec : ∀ L, Ent W L H → Does1 W P g (vs ++ cap.toList) L rv L)
    (hox : (regOps c)[x]? = some ox) (fx : FloatX W P n ox d X vx) (hR : Ent W H R) (hd : Nat.blt e n = true) (hfd : look f d = none) (hed : Nat.beq e d = false) (h : VX W P n c R mv tl x d X vx r Q H ((e, rv) :: f)) : VX W P n c R mv tl x d X vx (i :: r) Q H f := by
  have hne : i ≠ x := by intro q; subst q; simp at hix
  have second : ∀ b t w, Knows n ((d, vx b) :: f) t → Holds W (X b :: H) w → wpSched P (regOps c).toArray Q (Holds W R) mv tl (i :: r.erase x) ⟨t, []⟩ w := by
    intro b t w hk hw
    have hk' := hk.under hfd
    refine .inl ⟨by unfold mvB; rw [hm]; rfl, ?_⟩
    unfold wpOp
    simp only [List.getElem?_toArray, ho]
    rw [if_pos (hk'.wanted (o := { dst := some e, op := .call { callee := .value y, args := xs, argTypes := ats }, type := ty_, pos, after, guard }) hg)]
    have hE : Ent W (X b :: H) H := Ent.drop Ent.refl
    have := OpV.call (W := W) (n := n) (d := e) (ty_ := ty_) (pos := pos) (after := after) (guard := guard) (ats := ats) (Q := calmQ Q) (f := f) (H := X b :: H) (N := fun H' f' => H' = X b :: H ∧ f' = (e, rv) :: f) hx ha hc (spec _ hE) Ent.refl hd (fun _ _ => ⟨rfl, rfl⟩)
    have hs := spec _ hE
    refine .inl ?_
    have hargs : xs.map (Act.eval ⟨t, []⟩) = vs.toArray := by
      have := hk'.args ha
      apply Array.ext'
      simpa using this
    unfold Does1 Does at hs
    have hs := hs w hw
    unfold Oper.wp execOp
    simp only [resolve, hk'.eval hx, hargs, Deferred.ofValue, invoke, Sem.run_bind, Sem.run_pure, Result.andThen_ok, hc, Oper.upon]
    have e9 : #[] ++ vs.toArray ++ cap = (vs ++ cap.toList).toArray := by simp
    rw [e9]
    refine Calls.mono hs ?_
    rintro e8 w' ⟨_, _, rfl, hG⟩
    exact ⟨fun _ => hR _ hG.tail, h.2 b _ w' ((hk.put hd).swap hed) hG⟩
  refine ⟨fun t w hk hw => .inr (.inl ⟨hne, hm, ?_, ?_⟩), fun b t w hk hw => by rw [List.erase_cons_tail (by simpa using hne)]; exact second b t w hk hw⟩
  · unfold wpOp
    simp only [List.getElem?_toArray, ho]
    rw [if_pos (hk.wanted (o := { dst := some e, op := .call { callee := .value y, args := xs, argTypes := ats }, type := ty_, pos, after, guard }) hg)]
    have := OpV.call (W := W) (n := n) (d := e) (ty_ := ty_) (pos := pos) (after := after) (guard := guard) (ats := ats) (Q := calmQ Q) (f := f) (H := H) (N := fun H' f' => H' = H ∧ f' = (e, rv) :: f) hx ha hc (spec _ Ent.refl) Ent.refl hd (fun _ _ => ⟨rfl, rfl⟩)
    unfold OpV at this
    refine .inl (this t w hk hw _ ?_)
    rintro H' f' ⟨rfl, rfl⟩ t' w' hk' hw'
    exact ⟨hR _ hw', h.1 t' w' hk' hw'⟩
  · unfold wpOp
    simp only [List.getElem?_toArray, hox]
    rw [if_pos (by unfold Region.wanted; rw [fx.guard])]
    have := fx.run (calmQ Q) H f (fun H' f' => ∃ b, H' = X b :: H ∧ f' = (d, vx b) :: f) (fun b => ⟨b, rfl, rfl⟩)
    unfold OpV at this
    refine .inl (this t w hk hw _ ?_)
    rintro H' f' ⟨b, rfl, rfl⟩ t' w' hk' hw'
    exact ⟨hR _ hw'.tail, second b t' w' hk' hw'⟩
theorem VX.float {ox : Oper} (hix : Nat.beq i x = true) (hox : (regOps c)[x]? = some ox) (fx : FloatX W P n ox d X vx) (hR : Ent W H R) (h : ∀ b, VD W P n c R mv tl r Q (X b :: H) ((d, vx b) :: f)) : VX W P n c R mv tl x d X vx (i :: r) Q H f := by
  have e : i = x := by simpa using hix
  subst e
  unfold VD at h
  refine ⟨fun t w hk hw => .inl ⟨rfl, ?_⟩, fun b t w hk hw => by rw [List.erase_cons_head]; exact h b t w hk hw⟩
  unfold wpOp
  simp only [List.getElem?_toArray, hox]
  rw [if_pos (by unfold Region.wanted; rw [fx.guard])]
  have := fx.run (calmQ Q) H f (fun H' f' => ∃ b, H' = X b :: H ∧ f' = (d, vx b) :: f) (fun b => ⟨b, rfl, rfl⟩)
  unfold OpV at this
  refine .inl (this t w hk hw _ ?_)
  rintro H' f' ⟨b, rfl, rfl⟩ t' w' hk' hw'
  exact ⟨hR _ hw'.tail, h b t' w' hk' hw'⟩
theorem VX.re {v : Value} (k : Nat) (v' : Value) (hl : look f k = some v) (q : v = v') (hkd : Nat.beq k d = false) (hfd : look f d = none) (h : VX W P n c R mv tl x d X vx r Q H ((k, v') :: f)) : VX W P n c R mv tl x d X vx r Q H f :=
  ⟨fun t w hk hw => h.1 t w (hk.again (q ▸ hl)) hw, fun b t w hk hw => h.2 b t w ((hk.again (d := k) (v := v') (by unfold look; cases hb : Nat.beq d k with | true => (have : d = k := by simpa using hb); subst this; simp at hkd | false => exact q ▸ hl)).swap hkd) hw⟩
theorem FloatX.alloc {t : TypeId} {zs : List Value} {pls : List (Nat × Nat)} (sb : StructT P t zs pls) (hd : Nat.blt d n = true) : FloatX W P n { dst := some d, op := .alloc t, type := ty_, pos, after, guard := none } d (fun b => Row b t zs) (fun b => .pointer (some ⟨b, 0, none⟩)) :=
  ⟨fun Q H f N h => OpV.allocS sb hd h, rfl⟩
end
attribute [irreducible] VX
end Go.Sl
