import Derived.Test.YtjebagmjcdaegaaGreatM5
import Derived.RangeFuncNested
import Derived.RangeFuncCalls
import Derived.OrdersIn
/-! Text Sj. -/
set_option maxRecDepth 8000
set_option maxHeartbeats 16000000
set_option linter.unusedVariables false
set_option linter.unusedSimpArgs false
set_option linter.unusedSectionVars false
namespace Go.Sl
open Go Go.RowKit
structure Md where
  r : Option Nat
  df : List Deferred
def fen : Option Nat -> Fence
  | none => Fence.wide
  | some l => Fence.wide.inRound l
theorem fen_fn (r : Option Nat) (f : FuncId) : (fen r).fn f := by cases r <;> trivial
theorem fen_round (r : Option Nat) : (fen r).round = r := by cases r <;> rfl
theorem fen_depth (r : Option Nat) : (fen r).depth = none := by cases r <;> rfl
theorem fen_calls {r : Option Nat} {n : Nat} {P : Program} {f : FuncId} {args : Array Value} {w : World} {R : Ending -> World -> Prop} (h : Calls P f args w R) : CallsIn (fen r) n P f args w R := by
 cases r with
 | none => exact callsIn_wide.2 h
 | some l => exact CallsIn.inRound l (callsIn_wide.2 h)
theorem fen_fenced (r : Option Nat) (P : Program) : Machine.fenced P (fen r) = Machine.fenced P Fence.wide := by cases r <;> rfl
theorem fen_rows {r : Option Nat} {n : Nat} {P : Program} {row : String} {args : Array Value} {w : World} {R : Value -> World -> Prop} (h : Rows P row args w R) : RowsIn (fen r) n P row args w R := by
 intro c cs _
 obtain ⟨v, w', hR, hs⟩ := h c cs
 exact ⟨v, w', hR, by rw [fen_fenced]; exact stepsIn_wide.2 hs⟩
def plusA (a : Act) (df : List Deferred) : Act := { a with defers := a.defers ++ df }
theorem plusA_eval (a : Act) (df : List Deferred) : (plusA a df).eval = a.eval := by
 funext x; cases x <;> rfl
theorem plusA_put (a : Act) (df : List Deferred) (d : Option Tmp) (v : Value) : (plusA a df).put d v = plusA (a.put d v) df := by
 cases d <;> rfl
def noDefer (ops : List Oper) : Bool := ops.all fun o => match o.op with
  | .defer _ => false
  | _ => true
theorem noDefer_spec {o : Oper} {l : List Oper} (h : noDefer (o :: l) = true) : (∀ c, o.op ≠ .defer c) /\ noDefer l = true := by
 unfold noDefer at h
 simp only [List.all_cons, Bool.and_eq_true] at h
 exact ⟨fun c e => by rw [e] at h; exact absurd h.1 (by simp), h.2⟩
section
variable {P : Program} {ops : Array Oper} {Q Q' : Exit -> Act -> World -> Prop} {r : Option Nat} {df : List Deferred}
theorem opIn {o : Oper} {a : Act} {w : World} {K K' : Act -> World -> Prop} (hnd : ∀ c, o.op ≠ .defer c) (hK : ∀ a w, K a w -> K' (plusA a df) w) (hQ : ∀ e a w, Q e a w -> Q' e (plusA a df) w) (h : o.wp P a w K Q) :
    o.wpIn (fen r) 0 P (plusA a df) w K' Q' := by
  unfold Oper.wpIn
  refine ⟨fun _ _ => fen_fn r _, ?_⟩
  rw [Oper.semAt_eq _ _ _ hnd, plusA_eval]
  unfold Oper.wp at h
  generalize (execOp a.eval o).run P w = res at *
  have hL : LetsOut Q -> LetsOut Q' := fun ⟨a, w, q⟩ => ⟨_, w, hQ _ _ _ q⟩
  cases res with
  | ok x w' =>
    cases x with
    | value v => simp only [Oper.upon, Oper.uponIn] at h ⊢; rw [plusA_put]; exact hK _ _ h
    | skip => simp only [Oper.upon, Oper.uponIn] at h ⊢; rw [plusA_put]; exact hK _ _ h
    | defer d =>
      simp only [Oper.upon, Oper.uponIn] at h ⊢
      have e : ({ (plusA a df) with defers := d :: (plusA a df).defers } : Act) = plusA { a with defers := d :: a.defers } df := rfl
      rw [e, plusA_put]; exact hK _ _ h
    | enter f args =>
      simp only [Oper.upon, Oper.uponIn] at h ⊢
      refine ⟨(fun hd => by rw [fen_depth] at hd; cases hd), fen_calls (Calls.mono h fun e w'' he => ?_)⟩
      cases e with
      | returned v => simp only at he ⊢; rw [plusA_put]; exact hK _ _ he
      | panicked chain => exact hQ _ _ _ he
      | outgrown => exact hL he
    | row row args =>
      simp only [Oper.upon, Oper.uponIn] at h ⊢
      refine ⟨(fun hd => by rw [fen_depth] at hd; cases hd), fen_rows (Rows.mono h fun v w'' he => ?_)⟩
      rw [plusA_put]; exact hK _ _ he
    | _ => simp only [Oper.upon] at h
  | halt x w' =>
    cases x with
    | panic v => simp only [Oper.upon, Oper.uponIn] at h ⊢; exact hQ _ _ _ h
    | _ => simp only [Oper.upon] at h
theorem listIn (hno : ¬ LetsOut Q) (hQ : ∀ e a w, Q e a w -> Q' e (plusA a df) w) : ∀ (l : List Oper), noDefer l = true -> ∀ (a : Act) (w : World), wpList P ops Q l a w -> wpListIn (fen r) 0 P ops Q' l (plusA a df) w
  | [], _, a, w, h => hQ _ _ _ h
  | o :: rest, hn, a, w, h => by
    obtain ⟨h1, h2⟩ := noDefer_spec hn
    have ht : (plusA a df).tmps = a.tmps := rfl
    unfold wpList at h
    unfold wpListIn
    rw [ht]
    split
    · rename_i hw
      rw [if_pos hw] at h
      rcases h with h | h
      · exact opIn h1 (listIn hno hQ rest h2) hQ h
      · exact absurd h.2 hno
    · rename_i hw
      rw [if_neg hw] at h
      rw [plusA_put]
      exact ⟨fun _ _ => fen_fn r _, listIn hno hQ rest h2 _ _ h⟩
theorem oprIn {i : Nat} {a : Act} {w : World} {K K' : Act -> World -> Prop} (hno : ¬ LetsOut Q) (hnd : noDefer ops.toList = true) (hQ : ∀ e a w, Q e a w -> Q' e (plusA a df) w) (hK : ∀ a w, K a w -> K' (plusA a df) w) (h : wpOp P ops Q i K a w) :
    wpOpIn (fen r) 0 P ops Q' i K' (plusA a df) w := by
  have ht : (plusA a df).tmps = a.tmps := rfl
  unfold wpOp at h
  unfold wpOpIn
  rw [ht]
  cases ho : ops[i]? with
  | none => simp only [ho] at h; exact hK _ _ h
  | some o =>
    simp only [ho] at h
    simp only
    split
    · rename_i hw
      rw [if_pos hw] at h
      rcases h with h | h
      · refine opIn (fun c e => ?_) hK hQ h
        have hm : o ∈ ops.toList := by obtain ⟨h1, h2⟩ := Array.getElem?_eq_some_iff.1 ho; rw [<- h2]; simp
        have := List.all_eq_true.1 hnd o hm
        rw [e] at this; exact absurd this (by simp)
      · exact absurd h.2 hno
    · rename_i hw
      rw [if_neg hw] at h
      rw [plusA_put]
      exact ⟨fun _ _ => fen_fn r _, hK _ _ h⟩
theorem anyIn {md : Region.Mode} (hno : ¬ LetsOut Q) (hnd : noDefer ops.toList = true) (hQ : ∀ e a w, Q e a w -> Q' e (plusA a df) w) : ∀ (fuel : Nat) (listed : Array Bool) (a : Act) (w : World), wpAny P md ops Q fuel listed a w ->
  wpAnyIn (fen r) 0 P md ops Q' fuel listed (plusA a df) w
 | 0, _, _, _, h => ⟨h.1, hQ _ _ _ h.2⟩
 | fuel + 1, listed, a, w, h => ⟨fun h0 => hQ _ _ _ (h.1 h0), fun i hi => oprIn hno hnd hQ (fun a w q => anyIn hno hnd hQ fuel _ a w q) (h.2 i hi)⟩
end
section
variable {W : World} {P : Program} {n : Nat} {m : Md} {c : Code} {Q : Exit -> Act -> World -> Prop} {H H' L R : List SProp} {f F : Fr}
def VR (W : World) (P : Program) (n : Nat) (m : Md) (c : Code) (Q : Exit -> Act -> World -> Prop) (H : List SProp) (f : Fr) : Prop :=
  (∀ a w, ¬ Q .outgrown a w) -> ∀ t w, Knows n f t -> Holds W H w -> c.wpIn (fen m.r) 0 P Q ⟨t, m.df⟩ w
def VF (W : World) (n : Nat) (m : Md) (Q : Exit -> Act -> World -> Prop) (e : Exit) (H : List SProp) (f : Fr) : Prop :=
  (∀ a w, ¬ Q .outgrown a w) -> ∀ t w, Knows n f t -> Holds W H w -> Q e ⟨t, m.df⟩ w
def thenR (r : Option Nat) (P : Program) (c : Code) (Q : Exit -> Act -> World -> Prop) : Exit -> Act -> World -> Prop := Exit.then (c.wpIn (fen r) 0 P Q) Q
def blockR (i : Nat) (Q : Exit -> Act -> World -> Prop) : Exit -> Act -> World -> Prop := Exit.inBlock i Q
def shR (df : List Deferred) (Q : Exit -> Act -> World -> Prop) : Exit -> Act -> World -> Prop := fun e a w => (∀ a w, ¬ Q .outgrown a w) -> Q e (plusA a df) w
theorem VR.seq (hc : isSeq c = true) (h : VR W P n m (Cd.l c) (thenR m.r P (Cd.r c) Q) H f) : VR W P n m c Q H f := by
 cases c <;> simp [isSeq] at hc
 exact fun hno t w hk hw => wpIn_seq (h hno t w hk hw)
theorem VR.skip (hc : isSkip c = true) (h : VF W n m Q .normal H f) : VR W P n m c Q H f := by
 cases c <;> simp [isSkip] at hc
 exact fun hno t w hk hw => wpIn_skip (h hno t w hk hw)
theorem VR.ret (hc : isRet c = true) (h : VF W n m Q .ret H f) : VR W P n m c Q H f := by
 cases c <;> simp [isRet] at hc
 exact fun hno t w hk hw => wpIn_ret (h hno t w hk hw)
theorem VR.exit {i : Nat} (hc : exitId c = some i) (h : VF W n m Q (.exit i) H f) : VR W P n m c Q H f := by
 cases c <;> simp [exitId] at hc
 subst hc
 exact fun hno t w hk hw => wpIn_exit (h hno t w hk hw)
theorem VR.block {i : Nat} (hc : blockId c = some i) (h : VR W P n m (Cd.l c) (blockR i Q) H f) : VR W P n m c Q H f := by
 cases c <;> simp [blockId] at hc
 subst hc
 exact fun hno t w hk hw => wpIn_block (h hno t w hk hw)
theorem evalR {df : List Deferred} {t : Array Value} (h : Knows n f t) {x : Operand} {v : Value} (hx : evalX f x = some v) : Act.eval ⟨t, df⟩ x = v := by
 have := h.eval hx
 rw [<- this]
 cases x <;> rfl
theorem VR.condT (hc : isCond c = true) (hv : evalX f (condOp c) = some (.bool true)) (h : VR W P n m (Cd.l c) Q H f) : VR W P n m c Q H f := by
 cases c <;> simp [isCond] at hc
 exact fun hno t w hk hw => wpIn_cond_true (evalR hk hv) (h hno t w hk hw)
theorem VR.condF (hc : isCond c = true) (hv : evalX f (condOp c) = some (.bool false)) (h : VR W P n m (Cd.r c) Q H f) : VR W P n m c Q H f := by
 cases c <;> simp [isCond] at hc
 exact fun hno t w hk hw => wpIn_cond_false (evalR hk hv) (h hno t w hk hw)
theorem VR.cond {b : Bool} (hc : isCond c = true) (hv : evalX f (condOp c) = some (.bool b)) (ht : b = true -> VR W P n m (Cd.l c) Q H f) (hf : b = false -> VR W P n m (Cd.r c) Q H f) : VR W P n m c Q H f := by
 cases c <;> simp [isCond] at hc
 exact fun hno t w hk hw => wpIn_cond_split (evalR hk hv) (fun e => ht e hno t w hk hw) (fun e => hf e hno t w hk hw)
theorem VR.condTe {b : Bool} (hc : isCond c = true) (hv : evalX f (condOp c) = some (.bool b)) (hb : b = true) (h : VR W P n m (Cd.l c) Q H f) : VR W P n m c Q H f := VR.condT hc (hb ▸ hv) h
theorem VR.condFe {b : Bool} (hc : isCond c = true) (hv : evalX f (condOp c) = some (.bool b)) (hb : b = false) (h : VR W P n m (Cd.r c) Q H f) : VR W P n m c Q H f := VR.condF hc (hb ▸ hv) h
theorem VR.weak (hf : SubF F f) (hh : Ent W H H') (h : VR W P n m c Q H' F) : VR W P n m c Q H f := fun hno t w hk hw => h hno t w (hk.sub hf) (hh w hw)
theorem VR.ent (hh : Ent W H H') (h : VR W P n m c Q H' f) : VR W P n m c Q H f := fun hno t w hk hw => h hno t w hk (hh w hw)
theorem VF.ent {e : Exit} (hh : Ent W H H') (h : VF W n m Q e H' f) : VF W n m Q e H f := fun hno t w hk hw => h hno t w hk (hh w hw)
theorem VR.know {p : Prop} (hh : ∀ w, Holds W H w -> p) (h : p -> VR W P n m c Q H f) : VR W P n m c Q H f := fun hno t w hk hw => h (hh w hw) hno t w hk hw
theorem VR.obtain {α : Sort _} {G : α -> List SProp} (hh : ∀ w, Holds W H w -> ∃ x, Holds W (G x) w) (h : ∀ x, VR W P n m c Q (G x) f) : VR W P n m c Q H f :=
 fun hno t w hk hw => let ⟨x, hx⟩ := hh w hw; h x hno t w hk hx
theorem VR.re {v : Value} (d : Nat) (v' : Value) (hl : look f d = some v) (e : v = v') (h : VR W P n m c Q H ((d, v') :: f)) : VR W P n m c Q H f := fun hno t w hk hw => h hno t w (hk.again (e ▸ hl)) hw
theorem shR_no {df : List Deferred} (hno : ∀ a w, ¬ Q .outgrown a w) : ¬ LetsOut (shR df Q) := fun ⟨_, _, h⟩ => hno _ _ (h hno)
theorem VR.region (hc : regDraw c = some false) (h : VO W P n c 0 (shR m.df Q) H f) (hnd : noDefer (regOps c) = true := by rfl) : VR W P n m c Q H f := by
 unfold VO at h
 cases c <;> simp [regDraw] at hc
 subst hc
 intro hno t w hk hw
 have := h t w hk hw
 simp only [regOps, List.drop_zero, Array.toArray_toList] at this
 exact wpIn_region_list (listIn (shR_no hno) (fun e a w q => q hno) _ hnd ⟨t, []⟩ w this)
theorem VR.drawn (mv : List Nat) (tl : Nat) (ord : List Nat) (R : List SProp) (hc : regDraw c = some true) (hm : P.follows .mixedOrders = true) (hB : drawB (regOps c).toArray mv tl ord = true) (hR : Ent W H R)
  (h : VD W P n c R mv tl ord (shR m.df Q) H f) (hnd : noDefer (regOps c) = true := by rfl) : VR W P n m c Q H f := by
 unfold VD at h
 cases c <;> simp [regDraw] at hc
 rename_i id ops dr
 subst hc
 intro hno t w hk hw
 have h' := h t w.drew hk hw.drew
 simp only [regOps, Array.toArray_toList] at h' hB hnd
 simp only [drawB, Bool.and_eq_true, Bool.or_eq_true] at hB
 obtain ⟨⟨⟨hl, hs⟩, ht⟩, hh⟩ := hB
 have hl' : ord.length = ops.size := by simpa using hl
 have ht' : TailOk .any ops tl := by
  rcases ht with h | ⟨⟨h1, h2⟩, h3⟩
  · exact .inl (Nat.le_of_ble_eq_true h)
  · exact .inr ⟨h1, h2, by simpa [Nat.blt_eq] using h3⟩
 have h1 := sched_head (P := P) (Q := shR m.df Q) (S := Holds W R) ht' hs ord _ _ w.drew (HeadInv.start tl) hh (hR _ hw.drew) h'
 rw [hl'] at h1
 refine wpIn_region_any hm ?_
 exact anyIn (Q := calmQ (shR m.df Q)) (Q' := Q) (fun ⟨_, _, q⟩ => by cases q.1) hnd (fun e a w q => by obtain ⟨rfl, q⟩ := q; exact q hno) _ _ ⟨t, []⟩ _ (wpAny_of_T _ _ _ _ h1)
theorem VR.quiet (hc : regDraw c = some true) (hm : P.follows .mixedOrders = true) (hB : Region.lexB .any (regOps c).toArray = true) (h : VQ W P n c 0 (shR m.df Q) H f) (hnd : noDefer (regOps c) = true := by rfl) : VR W P n m c Q H f := by
 unfold VQ at h
 cases c <;> simp [regDraw] at hc
 rename_i id ops dr
 subst hc
 intro hno t w hk hw
 have h' := h t hk
 simp only [regOps, List.drop_zero, Array.toArray_toList] at h' hB hnd
 simp only [Region.lexB, Bool.and_eq_true] at hB
 have h1 := wpAnyQ_lex (C := Holds W H) (md := .any) hB.1 ops.toList 0 (Array.replicate ops.size false) ⟨t, []⟩ (by simp) (by simpa using hB.2) h'
 have h2 := wpAny_of_quiet (C := Holds W H) (Q := fun a' => ∀ w', Holds W H w' -> shR m.df Q .normal a' w') (Q' := calmQ (shR m.df Q)) (fun _ w' hw' h => ⟨rfl, h w' hw'⟩) _ _ _ w.drew hw.drew h1
 refine wpIn_region_any hm ?_
 have h3 := anyIn (r := m.r) (df := m.df) (Q := calmQ (shR m.df Q)) (Q' := Q) (fun ⟨_, _, q⟩ => by cases q.1) hnd (fun e a w q => by obtain ⟨rfl, q⟩ := q; exact q hno) _ _ _ _ h2
 have e : plusA ⟨t, []⟩ m.df = ⟨t, m.df⟩ := rfl
 rw [e] at h3
 simpa using h3
theorem VE.sh {e : Exit} (h : VF W n m Q e H f) : VE W n (shR m.df Q) e H f := by
 unfold VE
 exact fun t w hk hw hno => h hno t w hk hw
theorem VF.next (h : VR W P n m c Q H f) : VF W n m (thenR m.r P c Q) .normal H f := fun hno t w hk hw => h hno t w hk hw
theorem VF.passRet {r : Option Nat} (h : VF W n m Q .ret H f) : VF W n m (thenR r P c Q) .ret H f := fun hno t w hk hw => h hno t w hk hw
theorem VF.passExit {r : Option Nat} {i : Nat} (h : VF W n m Q (.exit i) H f) : VF W n m (thenR r P c Q) (.exit i) H f := fun hno t w hk hw => h hno t w hk hw
theorem VF.blockNormal {i : Nat} (h : VF W n m Q .normal H f) : VF W n m (blockR i Q) .normal H f := fun hno t w hk hw => h hno t w hk hw
theorem VF.blockRet {i : Nat} (h : VF W n m Q .ret H f) : VF W n m (blockR i Q) .ret H f := fun hno t w hk hw => h hno t w hk hw
theorem VF.blockHit {i : Nat} (h : VF W n m Q .normal H f) : VF W n m (blockR i Q) (.exit i) H f := fun hno t w hk hw => by
 have := h hno t w hk hw
 simpa [blockR, Exit.inBlock] using this
theorem VF.blockMiss {i j : Nat} (hne : Nat.beq j i = false) (h : VF W n m Q (.exit j) H f) : VF W n m (blockR i Q) (.exit j) H f := fun hno t w hk hw => by
 have := h hno t w hk hw
 have hne' : j ≠ i := by intro e; subst e; simp at hne
 simpa [blockR, Exit.inBlock, hne'] using this
def markD (D : Nat) : Deferred := { target := .collected D, args := #[] }
theorem Does.enterM {g : FuncId} {fn : Func} {args : List Value} {β : Type} {A : β -> Prop} {r : β -> Value} {G : β -> List SProp} (hf : P.funcs[g]? = some fn) (hn : fn.ntmps = n) (hb : fn.body.isSome = true) (hl : Nat.ble args.length n = true)
  (h : VR W P n ⟨none, []⟩ (bodyOf fn) (bodyPostM Fence.wide 0 P fn (Post W A r G)) H (argF 0 args)) : Does W P g args H A r G := by
 unfold Does
 intro w hw
 obtain ⟨c, hc⟩ := Option.isSome_iff_exists.1 hb
 refine callsIn_wide.1 (callsIn_of_wp_marks (F := Fence.wide) (n := 0) hf hc trivial ?_)
 have h2 := h (fun a w q => by obtain ⟨_, _, e, _⟩ := q; cases e) _ w (Knows.start args n (Nat.le_of_ble_eq_true hl)) hw
 rw [<- hn] at h2
 simpa [bodyOf, hc, fen] using h2
theorem run_take {D : Nat} {w : World} (h : w.heap[D]? = some (.deferred (some []))) : (Instr.takeDeferred D).run P w = .ok [] (w.putObj D (.deferred none)) := run_takeDeferred h
theorem Holds.putO {b : Nat} {o o' : Obj} {w : World} {C : SProp -> List SProp} (h : Holds W H w) (u : Hole H (At b o) C) : Holds W (C (At b o')) (w.putObj b o') := by
 obtain ⟨R, p, q⟩ := u.perm
 have hb := ((h.perm p).at (.head _)).2
 have hlt : b < w.heap.size := (Array.getElem?_eq_some_iff.1 hb).1
 exact h.put u rfl rfl rfl (by simp) (fun k hk => World.putObj_heap_other hk) (World.putObj_heap_same hlt)
theorem VF.results2 {fn : Func} {β : Type} {A : β -> Prop} {r : β -> Value} {G : β -> List SProp} {rv rv2 : ResultVar} {v v2 : Value} {e : Exit} {D : Nat} {C : SProp -> List SProp} (he : e = .ret \/ e = .normal) (x : β) (hn : fn.results = #[rv, rv2]) (u : Hole H (At D (.deferred (some []))) C)
    (h1 : ResIs W P (C (At D (.deferred none))) f rv v) (h2 : ResIs W P (C (At D (.deferred none))) f rv2 v2) (hA : A x) (hv : .tuple #[v, v2] = r x) (hH : Ent W (C (At D (.deferred none))) (G x)) :
    VF W n ⟨none, [markD D]⟩ (bodyPostM Fence.wide 0 P fn (Post W A r G)) e H f := by
  intro _ t w hk hw
  obtain ⟨R, p, q⟩ := u.perm
  have hb := ((hw.perm p).at (.head _)).2
  have hw2 := hw.putO (o' := .deferred none) u
  have hr : (results fn t).run P (w.putObj D (.deferred none)) = .ok (.tuple #[v, v2]) (w.putObj D (.deferred none)) := by
    cases h1 with
    | tmp k1 =>
      have g1 := hk.get _ _ k1
      cases h2 with
      | tmp k2 => have g2 := hk.get _ _ k2; simp [results, hn, g1, g2]
      | cell k2 l2 => have g2 := hk.get _ _ k2; simp [results, hn, g1, g2, asAddr, l2 _ hw2]
    | cell k1 l1 =>
      have g1 := hk.get _ _ k1
      cases h2 with
      | tmp k2 => have g2 := hk.get _ _ k2; simp [results, hn, g1, g2, asAddr, l1 _ hw2]
      | cell k2 l2 => have g2 := hk.get _ _ k2; simp [results, hn, g1, g2, asAddr, l1 _ hw2, l2 _ hw2]
  have hfin : LeavesInM Fence.wide 0 P fn t (Post W A r G) [markD D] .returning w := by
    refine ⟨by simp, .inl ⟨D, _, rfl, run_take hb, ?_⟩⟩
    exact ⟨_, hr, x, hA, by rw [hv], hH _ hw2⟩
  rcases he with rfl | rfl
  · exact hfin
  · exact hfin
theorem VF.result {fn : Func} {β : Type} {A : β -> Prop} {r : β -> Value} {G : β -> List SProp} {v : Value} {e : Exit} {D : Nat} {C : SProp -> List SProp} (he : e = .ret \/ e = .normal) (x : β) (hr : resOf f fn.results.toList = some v) (u : Hole H (At D (.deferred (some []))) C)
  (hA : A x) (hv : v = r x) (hH : Ent W (C (At D (.deferred none))) (G x)) :
  VF W n ⟨none, [markD D]⟩ (bodyPostM Fence.wide 0 P fn (Post W A r G)) e H f := by
 intro _ t w hk hw
 obtain ⟨R, p, q⟩ := u.perm
 have hb := ((hw.perm p).at (.head _)).2
 have hw2 := hw.putO (o' := .deferred none) u
 have hfin : LeavesInM Fence.wide 0 P fn t (Post W A r G) [markD D] .returning w := by
  refine ⟨by simp, .inl ⟨D, _, rfl, run_take hb, ?_⟩⟩
  exact ⟨_, resOf_run hk hr _, x, hA, by rw [hv], hH _ hw2⟩
 rcases he with rfl | rfl
 · exact hfin
 · exact hfin
abbrev LoopR (l : Nat) (b : Loop) : SProp := At l (.loop b)
def Loop.done (b : Loop) : Loop := { b with state := .done, pending := some .ret }
def Loop.busy (b : Loop) : Loop := { b with state := .busy }
def DoesR (W : World) (P : Program) (l : Nat) (vs : List Value) (H : List SProp) {τ : Type} (G1 : List SProp) (A2 : τ -> Prop) (G2 : τ -> List SProp) : Prop :=
  ∀ w, Holds W H w -> ∃ fn tmps assign body, (Instr.yield l vs.toArray).run P w = .ok (.round l fn tmps assign body) w /\
    RoundIn Fence.wide 0 P l fn tmps assign body w fun e w' => (e = .returned (.bool true) /\ Holds W G1 w') \/ (∃ x, A2 x /\ e = .returned (.bool false) /\ Holds W (G2 x) w')
def rPost (W : World) (G1 : List SProp) {τ : Type} (A2 : τ -> Prop) (G2 : τ -> List SProp) : Ending -> World -> Prop := fun e w' => (e = .returned (.bool true) /\ Holds W G1 w') \/ (∃ x, A2 x /\ e = .returned (.bool false) /\ Holds W (G2 x) w')
def roundQ (P : Program) (l : Nat) (R : Ending -> World -> Prop) : Exit -> Act -> World -> Prop := roundPost P l R
def asgQ (P : Program) (l : Nat) (body : Code) (R : Ending -> World -> Prop) : Exit -> Act -> World -> Prop :=
  Exit.then (fun a₁ w₁ => ∃ w₂, (Instr.beginRound l).run P w₁ = .ok () w₂ /\ body.wpIn (Fence.wide.inRound l) 0 P (roundPost P l R) a₁ w₂) (fun _ _ _ => False)
def bindF : List Tmp -> List Value -> Fr -> Fr
  | d :: ds, v :: vs, f => bindF ds vs ((d, v) :: f)
  | _, _, f => f
theorem knows_bind : ∀ (ds : List Tmp) (vs : List Value) (f : Fr) (t : Array Value), (ds.all fun d => Nat.blt d n) = true -> Knows n f t -> Knows n (bindF ds vs f) ((ds.zip vs).foldl (fun t x => t.setIfInBounds x.1 x.2) t)
  | [], _, _, _, _, h => h
  | _ :: _, [], _, _, _, h => h
  | d :: ds, v :: vs, f, t, hd, h => by
    simp only [List.all_cons, Bool.and_eq_true] at hd
    exact knows_bind ds vs _ _ hd.2 (h.put hd.1)
theorem DoesR.body {τ : Type} {A2 : τ -> Prop} {G2 : τ -> List SProp} {G1 : List SProp} {l : Nat} {b : Loop} {vs : List Value} (hk : Knows n f b.tmps) (hs : b.state = .ready) (hp : b.pending = none) (hsz : vs.length = b.params.size) (hbd : (b.params.toList.all fun d => Nat.blt d n) = true)
  (h : VR W P n ⟨some l, []⟩ b.assign (asgQ P l b.body (rPost W (LoopR l b :: G1) A2 (fun x => LoopR l (Loop.done b) :: G2 x))) (LoopR l b :: H) (bindF b.params.toList vs f)) :
  DoesR W P l vs (LoopR l b :: H) (LoopR l b :: G1) A2 (fun x => LoopR l (Loop.done b) :: G2 x) := by
 intro w hw
 have hl := (hw.at (.head _)).2
 have hy := run_yield (P := P) (args := vs.toArray) hl (by simpa using hsz)
 refine ⟨_, _, _, _, hy, ?_⟩
 refine roundIn_of_wpIn (F := Fence.wide) (n := 0) trivial ?_
 have hkb := knows_bind b.params.toList vs f b.tmps hbd hk
 have e : ((b.params.zip vs.toArray).foldl (fun tmps (x : Nat × Value) => tmps.setIfInBounds x.1 x.2) b.tmps) = (b.params.toList.zip vs).foldl (fun t x => t.setIfInBounds x.1 x.2) b.tmps := by
  rw [<- Array.foldl_toList]; simp
 have h2 := h (fun _ _ q => q) _ w hkb hw
 have e2 : ((b.params.zip vs.toArray).foldl (fun tmps (t, a) => tmps.setIfInBounds t a) b.tmps) = (b.params.toList.zip vs).foldl (fun t x => t.setIfInBounds x.1 x.2) b.tmps := e
 rw [e2]
 exact h2
theorem VF.begin {τ : Type} {A2 : τ -> Prop} {G2 : τ -> List SProp} {G1 : List SProp} {l : Nat} {b : Loop} {body : Code} {R : Ending -> World -> Prop} (hs : b.state = .ready) (h : VR W P n ⟨some l, []⟩ body (roundQ P l R) (LoopR l (Loop.busy b) :: H) f) :
  VF W n ⟨some l, []⟩ (asgQ P l body R) .normal (LoopR l b :: H) f := by
 intro _ t w hk hw
 have hl := (hw.at (.head _)).2
 exact ⟨_, run_beginRound hl hs, h (fun _ _ q => q) t _ hk (hw.putO .head)⟩
theorem VF.on {τ : Type} {A2 : τ -> Prop} {G2 : τ -> List SProp} {G1 : List SProp} {l : Nat} {b : Loop} (hs : b.state = .ready) (hp : b.pending = none) (hH : Ent W H (LoopR l (Loop.busy b) :: G1)) :
  VF W n ⟨some l, []⟩ (roundQ P l (rPost W (LoopR l b :: G1) A2 G2)) .normal H f := by
 intro _ t w hk hw
 have hw := hH w hw
 have hl := (hw.at (.head _)).2
 have e : ({ Loop.busy b with state := .ready, pending := none } : Loop) = b := by cases b; simp_all [Loop.busy]
 refine ⟨_, _, run_endRound (P := P) none hl, .inl ⟨rfl, ?_⟩⟩
 simp only [Option.isNone_none, if_true]
 rw [e]
 exact hw.putO .head
theorem VF.stop {τ : Type} {A2 : τ -> Prop} {G2 : τ -> List SProp} {G1 : List SProp} {l : Nat} {b : Loop} (x : τ) (hA : A2 x) (hH : Ent W H (LoopR l (Loop.busy b) :: G2 x)) :
  VF W n ⟨some l, []⟩ (roundQ P l (rPost W G1 A2 (fun x => LoopR l (Loop.done b) :: G2 x))) .ret H f := by
 intro _ t w hk hw
 have hw := hH w hw
 have hl := (hw.at (.head _)).2
 refine ⟨_, _, run_endRound (P := P) (some .ret) hl, .inr ⟨x, hA, rfl, ?_⟩⟩
 simp only [Option.isNone_some, Bool.false_eq_true, if_false]
 exact hw.putO .head
def rangeG : Code -> Option Operand | .rangeFunc g _ _ _ => some g | _ => none
def rangeP : Code -> Array Tmp | .rangeFunc _ ps _ _ => ps | _ => #[]
def rangeA : Code -> Code | .rangeFunc _ _ a _ => a | c => c
def rangeB : Code -> Code | .rangeFunc _ _ _ b => b | c => c
theorem VR.range {τ : Type} {g : Operand} {gf : FuncId} {cap : Array Value} (A2 : τ -> Prop) (G1 : List SProp) (G2 : τ -> List SProp) (hc : rangeG c = some g) (hg : evalX f g = some (.func (.func gf) #[] cap)) (hcf : ∀ a w, (callFunc gf a).run P w = .ok (.enter gf a) w)
    (iter : ∀ (l D : Nat) (b : Loop), b.state = .ready -> b.pending = none -> b.params = rangeP c -> b.assign = rangeA c -> b.body = rangeB c -> Knows n f b.tmps ->
      Does W P gf (.func (.yield l) #[] #[] :: cap.toList) (LoopR l b :: At D (.deferred (some [])) :: H) (β := Option τ) (fun o => o.elim True A2) (fun _ => .tuple #[]) (fun o => o.elim (LoopR l b :: At D (.deferred (some [])) :: G1) fun x => LoopR l (Loop.done b) :: At D (.deferred (some [])) :: G2 x))
    (hdone : ∀ D, VF W n ⟨none, [markD D]⟩ Q .normal (At D (.deferred (some [])) :: G1) f) (hstop : ∀ D x, A2 x -> VF W n ⟨none, [markD D]⟩ Q .ret (At D (.deferred (some [])) :: G2 x) f) :
    VR W P n ⟨none, []⟩ c Q H f := by
  cases c <;> simp [rangeG] at hc
  rename_i g' ps assign body
  subst hc
  intro hno t w hk hw
  refine wpIn_rangeFunc ?_
  intro fn hfn
  have hev : Act.eval ⟨t, []⟩ g' = .func (.func gf) #[] cap := evalR hk hg
  obtain ⟨b, hb⟩ : ∃ b : Loop, b = { state := .ready, pending := none, fn, tmps := t, params := ps, assign, body, defers := w.heap.size } := ⟨_, rfl⟩
  have hb1 : b.state = .ready := by rw [hb]
  have hb2 : b.pending = none := by rw [hb]
  have hw1 : Holds W (LoopR (w.alloc (.deferred (some []))).heap.size b :: At w.heap.size (.deferred (some [])) :: H) ((w.alloc (.deferred (some []))).alloc (.loop b)) := (hw.allocObj).allocObj
  obtain ⟨w1, hW1⟩ : ∃ w1, w1 = (w.alloc (.deferred (some []))).alloc (.loop b) := ⟨_, rfl⟩
  obtain ⟨l, hl⟩ : ∃ l, l = (w.alloc (.deferred (some []))).heap.size := ⟨_, rfl⟩
  have hl' : l = w.heap.size + 1 := by rw [hl]; exact World.size_alloc ..
  rw [<- hW1, <- hl] at hw1
  refine ⟨l, [markD w.heap.size], w1, { target := .fn (.func gf) cap, args := #[.func (.yield l) #[] #[]] }, w1, gf, #[.func (.yield l) #[] #[]] ++ cap, w1, ?_, ?_, ?_, ?_, fun hd => by simp [fen, Fence.wide] at hd, ?_⟩
  · rw [hW1, hb, hl']; exact run_enterLoop_outer _ _ _ _ _
  · simp only [resolve, hev]
    simp [go_sem]
  · intro f' _; trivial
  · simp [invoke, go_sem, hcf]
  · refine callsIn_wide.2 ?_
    have hit := iter l w.heap.size b hb1 hb2 (by rw [hb]; rfl) (by rw [hb]; rfl) (by rw [hb]; rfl) (by rw [hb]; exact hk)
    unfold Does at hit
    have hit := hit w1 hw1
    have ea : (Value.func (.yield l) #[] #[] :: cap.toList).toArray = #[.func (.yield l) #[] #[]] ++ cap := by
      apply Array.ext'; simp
    rw [ea] at hit
    refine Calls.mono hit ?_
    rintro e w2 ⟨o, hA, rfl, hG⟩
    cases o with
    | none =>
      have hG : Holds W (LoopR l b :: At w.heap.size (.deferred (some [])) :: G1) w2 := hG
      have hl2 := (hG.at (.head _)).2
      refine ⟨none, _, by have := run_endLoop (P := P) hl2 (by rw [hb1]; simp); rw [hb2] at this; exact this, ?_⟩
      exact hdone w.heap.size hno t _ hk (hG.putO .head).tail
    | some x =>
      have hG : Holds W (LoopR l (Loop.done b) :: At w.heap.size (.deferred (some [])) :: G2 x) w2 := hG
      have hl2 := (hG.at (.head _)).2
      refine ⟨some .ret, _, by have := run_endLoop (P := P) hl2 (by simp [Loop.done]); exact this, ?_⟩
      exact wpIn_ret (hstop w.heap.size x hA hno t _ hk (hG.putO .head).tail)
end
attribute [irreducible] VR VF thenR blockR shR DoesR roundQ asgQ rPost
end Go.Sl
