/- Scan: what counts in a ring: the walk. -/
import Derived.Test.YtlojjlbngnaphaaNf
import Derived.Test.YtlojjlbngnaphaaSy
set_option maxRecDepth 8000
set_option linter.unusedVariables false
set_option linter.unusedSimpArgs false
set_option linter.unusedSectionVars false
namespace Go.Sl
open Go Go.RowKit
section
variable {W : World} {P : Program} {n : Nat} {c : Code} {Q : Exit → Act → World → Prop} {H H' L R : List SProp} {f F : Fr} {mv ord r : List Nat} {tl i x d e : Nat} {X : Nat → SProp} {vx : Nat → Value}
variable {dst : Option Tmp} {ty_ : TypeId} {pos : String} {after : Array Edge} {guard : Option (Nat × Bool)}
/-- A call that makes memory, beside an operation that may come at any time. -/
theorem VX.callD {ox : Oper} {y : Operand} {xs : Array Operand} {ats : Array TypeId} {g : FuncId} {cap : Array Value} {vs : List Value} {β : Type} {A : β → Prop} {rv : β → Value} {S : β → List SProp}
    (ho : (regOps c)[i]? = some { dst := some e, op := .call { callee := .value y, args := xs, argTypes := ats }, type := ty_, pos, after, guard }) (hix : Nat.beq i x = false) (hm : mv.contains i = true) (hg : wantX (regOps c) guard f = some true)
    (hx : evalX f y = some (.func (.func g) #[] cap)) (ha : argsX f xs.toList = some vs) (hc : ∀ a w, (callFunc g a).run P w = .ok (.enter g a) w) (spec : ∀ L, Ent W L H → Does W P g (vs ++ cap.toList) L A rv (fun x => S x ++ L))
    (hox : (regOps c)[x]? = some ox) (fx : FloatX W P n ox d X vx) (hR : Ent W H R) (hd : Nat.blt e n = true) (hfd : look f d = none) (hed : Nat.beq e d = false) (h : ∀ z, A z → VX W P n c R mv tl x d X vx r Q (S z ++ H) ((e, rv z) :: f)) : VX W P n c R mv tl x d X vx (i :: r) Q H f := by
  have hne : i ≠ x := by intro q; subst q; simp at hix
  have hdrop : ∀ (A B : List SProp), Ent W (A ++ B) B := by
    intro A
    induction A with
    | nil => exact fun _ => Ent.refl
    | cons a A ih => exact fun B => Ent.trans (Ent.drop Ent.refl) (ih B)
  have second : ∀ b t w, Knows n ((d, vx b) :: f) t → Holds W (X b :: H) w → wpSched P (regOps c).toArray Q (Holds W R) mv tl (i :: r.erase x) ⟨t, []⟩ w := by
    intro b t w hk hw
    have hk' := hk.under hfd
    refine .inl ⟨by unfold mvB; rw [hm]; rfl, ?_⟩
    unfold wpOp
    simp only [List.getElem?_toArray, ho]
    rw [if_pos (hk'.wanted (o := { dst := some e, op := .call { callee := .value y, args := xs, argTypes := ats }, type := ty_, pos, after, guard }) hg)]
    have hE : Ent W (X b :: H) H := Ent.drop Ent.refl
    have hs := spec _ hE
    refine .inl ?_
    have hargs : xs.map (Act.eval ⟨t, []⟩) = vs.toArray := by
      have := hk'.args ha
      apply Array.ext'
      simpa using this
    unfold Does at hs
    have hs := hs w hw
    unfold Oper.wp execOp
    simp only [resolve, hk'.eval hx, hargs, Deferred.ofValue, invoke, Sem.run_bind, Sem.run_pure, Result.andThen_ok, hc, Oper.upon]
    have e9 : #[] ++ vs.toArray ++ cap = (vs ++ cap.toList).toArray := by simp
    rw [e9]
    refine Calls.mono hs ?_
    rintro e8 w' ⟨z, hA, rfl, hG⟩
    have h2 := h z hA
    unfold VX at h2
    exact ⟨fun _ => hR _ (hdrop _ _ _ hG).tail, h2.2 b _ w' ((hk.put hd).swap hed) (hG.perm List.perm_middle)⟩
  unfold VX
  refine ⟨fun t w hk hw => .inr (.inl ⟨hne, hm, ?_, ?_⟩), fun b t w hk hw => by rw [List.erase_cons_tail (by simpa using hne)]; exact second b t w hk hw⟩
  · unfold wpOp
    simp only [List.getElem?_toArray, ho]
    rw [if_pos (hk.wanted (o := { dst := some e, op := .call { callee := .value y, args := xs, argTypes := ats }, type := ty_, pos, after, guard }) hg)]
    have := OpV.call (W := W) (n := n) (d := e) (ty_ := ty_) (pos := pos) (after := after) (guard := guard) (ats := ats) (Q := calmQ Q) (f := f) (H := H) (N := fun H' f' => ∃ z, A z ∧ H' = S z ++ H ∧ f' = (e, rv z) :: f) hx ha hc (spec _ Ent.refl) Ent.refl hd (fun z hz => ⟨z, hz, rfl, rfl⟩)
    unfold OpV at this
    refine .inl (this t w hk hw _ ?_)
    rintro H' f' ⟨z, hz, rfl, rfl⟩ t' w' hk' hw'
    have h2 := h z hz
    unfold VX at h2
    exact ⟨hR _ (hdrop _ _ _ hw'), h2.1 t' w' hk' hw'⟩
  · unfold wpOp
    simp only [List.getElem?_toArray, hox]
    rw [if_pos (by unfold Region.wanted; rw [fx.guard])]
    have := fx.run (calmQ Q) H f (fun H' f' => ∃ b, H' = X b :: H ∧ f' = (d, vx b) :: f) (fun b => ⟨b, rfl, rfl⟩)
    unfold OpV at this
    refine .inl (this t w hk hw _ ?_)
    rintro H' f' ⟨b, rfl, rfl⟩ t' w' hk' hw'
    exact ⟨hR _ hw'.tail, second b t' w' hk' hw'⟩
end
end Go.Sl
namespace Go.Proofs.Ytlojjlbngnaphaa
open Go.RowKit Go.Sl
attribute [local irreducible] Own

theorem txnsO_one {l : List TxnE} (t : TxnE) (so : Option Addr) (sc : Nat) : TxnsO (so, sc) (l ++ [t]) = Sl.Own 25 2 (.slice so (l.length + 1) sc) (l.length + 1) (txnCells l ++ t.cells) := by
  show Sl.Own 25 2 (.slice so (l ++ [t]).length sc) (l ++ [t]).length (txnCells (l ++ [t])) = _
  rw [List.length_append, show txnCells (l ++ [t]) = txnCells l ++ t.cells by simp [txnCells]]; rfl
def levF (b : Nat) (A B C D : Value) : Nat → List SProp
  | 0 => [Row b 61 [A, B, C, D]]
  | 1 => [ex fun v : Value => Row b 61 [A, v, C, D]]
  | 2 => [ex fun v : Value × Value => Row b 61 [A, v.1, C, v.2]]
  | _ => []
theorem levF_step {W : World} (b : Nat) (A B C D : Value) : ∀ k, Ent W (levF b A B C D k) (levF b A B C D (k + 1))
  | 0 => fun w hw => Holds.exShut (P := fun v : Value => Row b 61 [A, v, C, D]) B hw
  | 1 => fun w hw => by
    obtain ⟨v, h⟩ := hw.exOpen
    exact Holds.exShut (P := fun v : Value × Value => Row b 61 [A, v.1, C, v.2]) (v, D) h
  | 2 => fun w hw => hw.tail
  | _ + 3 => fun w hw => hw
abbrev TxnE.T (t : TxnE) : Nat × List PatD := (t.seq, t.pats.map PatE.D)
def badM (data : List UInt8) (c : ChkD) : Prop := c.enc.1 ≠ 0 ∨ data.length % 128 ≠ 0 ∨ data.length / 128 < 5 ∨ 2048 < data.length / 128 ∨ ((data.length / 128 : Nat) : Int) ≤ c.tail
instance (data : List UInt8) (c : ChkD) : Decidable (badM data c) := by unfold badM; exact inferInstance
set_option maxHeartbeats 2000000 in
theorem of_ok {W : World} {R : List SProp} {ao : Option Addr} {cap : Nat} {data : List UInt8} (hr : Rds W R 1 ao data.length (bytes data)) (hcap : data.length ≤ cap) (hlen : data.length ≤ 140737488351232) (c : ChkD) (hf : c.fit) :
    Does W Try.prog 21 [.slice ao data.length cap, .agg c.cells.toArray] R (β := (Option Addr × Nat) × List TxnE) (fun y => y.2.map TxnE.T = (foundM data c).2.txns)
      (fun y => .tuple #[.agg [.slice y.1.1 y.2.length y.1.2, .int .u64 ((foundM data c).2.next : Int), .int .i64 ((foundM data c).2.head : Int), .int .i64 ((foundM data c).2.used : Int)].toArray, .int .u16 (foundM data c).1]) (fun y => TxnsO y.1 y.2 :: PilT y.2 :: R) := by
  (refine Does.enter Try.func21 Try.ntmps21 rfl rfl ?_)
  (refine w ?_; repeat ((first | refine VO.step rfl rfl ?_ | refine VD.end rfl rfl rfl ?_ | refine VD.mid rfl rfl rfl ?_); refine OpV.box rfl rfl rfl ?_; intro _; refine w ?_))
  rename_i n3
  ((first | refine VO.step rfl rfl ?_ | refine VD.end rfl rfl rfl ?_ | refine VD.mid rfl rfl rfl ?_); refine OpV.allocS sb_61 rfl ?_; intro n4)
  (refine w ?_; repeat ((first | refine VO.step rfl rfl ?_ | refine VD.end rfl rfl rfl ?_ | refine VD.mid rfl rfl rfl ?_); refine OpV.box rfl rfl rfl ?_; intro _; refine w ?_))
  ((first | refine VO.step rfl rfl ?_ | refine VD.end rfl rfl rfl ?_ | refine VD.mid rfl rfl rfl ?_); refine OpV.call rfl rfl (fun _ _ => by simp) (encs_ok c hf) Ent.refl rfl ?_)
  rintro ⟨ea, ec⟩ -
  (refine w ?_; repeat ((first | refine VO.step rfl rfl ?_ | refine VD.end rfl rfl rfl ?_ | refine VD.mid rfl rfl rfl ?_); refine OpV.box rfl rfl rfl ?_; intro _; refine w ?_))
  refine VC.ent (H' := Row n4 61 [.slice none 0 0, .int .u64 0, .int .i64 0, .int .i64 0] :: Row n3 57 c.cells :: R) Ent.re ?_
  refine VC.joinH [(43, .bool (decide (badM data c))), (3, .pointer (some ⟨n3, 0, none⟩)), (4, .pointer (some ⟨n4, 0, none⟩)), (6, .slice ao data.length cap)] ?_ ?_
  · intro Q2 jn
    (refine VC.drawn [10, 15, 22] 23 [0, 1, 2, 3, 4, 5, 6, 7, 8, 9, 10, 11, 12, 13, 14, 15, 16, 17, 18, 19, 20, 21, 22, 23, 24] _ rfl (by kernel_rfl) (by kernel_rfl) Ent.re ?_)
    (refine w ?_; repeat ((first | refine VO.step rfl rfl ?_ | refine VD.end rfl rfl rfl ?_ | refine VD.mid rfl rfl rfl ?_); refine OpV.box rfl rfl rfl ?_; intro _; refine w ?_))
    ((first | refine VO.split rfl rfl rfl ?_ ?_ | refine VD.split rfl rfl rfl ?_ ?_) <;> intro hb)
    · have hz : badM data c := .inl (by simpa using hb)
      (refine w ?_; repeat ((first | refine VO.step rfl rfl ?_ | refine VD.end rfl rfl rfl ?_ | refine VD.mid rfl rfl rfl ?_); refine OpV.box rfl rfl rfl ?_; intro _; refine w ?_))
      exact jn.to () trivial ⟨asV rfl (by simp [hz]), rfl, rfl, rfl, trivial⟩ Ent.re
    have b1 : c.enc.1 = 0 := by simpa using hb
    clear hb
    (refine w ?_; repeat ((first | refine VO.step rfl rfl ?_ | refine VD.end rfl rfl rfl ?_ | refine VD.mid rfl rfl rfl ?_); refine OpV.box rfl rfl rfl ?_; intro _; refine w ?_))
    (first | refine VO.pure rfl rfl (PureAt.rem (a := data.length) (b := 128) rfl rfl (by decide)) rfl ?_ | refine VD.take rfl rfl rfl (PureAt.rem (a := data.length) (b := 128) rfl rfl (by decide)) rfl ?_ | refine VQ.pure rfl rfl (PureAt.rem (a := data.length) (b := 128) rfl rfl (by decide)) rfl ?_ | refine VD.end rfl rfl rfl (OpV.pure (PureAt.rem (a := data.length) (b := 128) rfl rfl (by decide)) rfl ?_))
    (refine w ?_; repeat ((first | refine VO.step rfl rfl ?_ | refine VD.end rfl rfl rfl ?_ | refine VD.mid rfl rfl rfl ?_); refine OpV.box rfl rfl rfl ?_; intro _; refine w ?_))
    ((first | refine VO.split rfl rfl rfl ?_ ?_ | refine VD.split rfl rfl rfl ?_ ?_) <;> intro hb)
    · have hz : badM data c := .inr (.inl (by have := hb; simp at this; omega))
      (refine w ?_; repeat ((first | refine VO.step rfl rfl ?_ | refine VD.end rfl rfl rfl ?_ | refine VD.mid rfl rfl rfl ?_); refine OpV.box rfl rfl rfl ?_; intro _; refine w ?_))
      exact jn.to () trivial ⟨asV rfl (by simp [hz]), rfl, rfl, rfl, trivial⟩ Ent.re
    have b2 : data.length % 128 = 0 := by have := hb; simp at this; omega
    have hnn : data.length = data.length / 128 * 128 := by omega
    clear hb
    (refine w ?_; repeat ((first | refine VO.step rfl rfl ?_ | refine VD.end rfl rfl rfl ?_ | refine VD.mid rfl rfl rfl ?_); refine OpV.box rfl rfl rfl ?_; intro _; refine w ?_))
    ((first | refine VO.step rfl rfl ?_ | refine VD.end rfl rfl rfl ?_ | refine VD.mid rfl rfl rfl ?_); refine OpV.call rfl rfl (fun _ _ => by simp) (size_ok hnn (by omega)) Ent.refl rfl ?_)
    intro _ _
    refine ⟨Ent.re, ?_⟩
    (refine w ?_; repeat ((first | refine VO.step rfl rfl ?_ | refine VD.end rfl rfl rfl ?_ | refine VD.mid rfl rfl rfl ?_); refine OpV.box rfl rfl rfl ?_; intro _; refine w ?_))
    ((first | refine VO.split rfl rfl rfl ?_ ?_ | refine VD.split rfl rfl rfl ?_ ?_) <;> intro hb)
    · have hz : badM data c := .inr (.inr (.inl (by have := hb; simp at this; omega)))
      (refine w ?_; repeat ((first | refine VO.step rfl rfl ?_ | refine VD.end rfl rfl rfl ?_ | refine VD.mid rfl rfl rfl ?_); refine OpV.box rfl rfl rfl ?_; intro _; refine w ?_))
      exact jn.to () trivial ⟨asV rfl (by simp [hz]), rfl, rfl, rfl, trivial⟩ Ent.re
    have b3 : ¬ data.length / 128 < 5 := by have := hb; simp at this; omega
    clear hb
    (refine w ?_; repeat ((first | refine VO.step rfl rfl ?_ | refine VD.end rfl rfl rfl ?_ | refine VD.mid rfl rfl rfl ?_); refine OpV.box rfl rfl rfl ?_; intro _; refine w ?_))
    ((first | refine VO.step rfl rfl ?_ | refine VD.end rfl rfl rfl ?_ | refine VD.mid rfl rfl rfl ?_); refine OpV.call rfl rfl (fun _ _ => by simp) (size_ok hnn (by omega)) Ent.refl rfl ?_)
    intro _ _
    refine ⟨Ent.re, ?_⟩
    (refine w ?_; repeat ((first | refine VO.step rfl rfl ?_ | refine VD.end rfl rfl rfl ?_ | refine VD.mid rfl rfl rfl ?_); refine OpV.box rfl rfl rfl ?_; intro _; refine w ?_))
    ((first | refine VO.split rfl rfl rfl ?_ ?_ | refine VD.split rfl rfl rfl ?_ ?_) <;> intro hb)
    · have hz : badM data c := .inr (.inr (.inr (.inl (by have := hb; simp at this; omega))))
      (refine w ?_; repeat ((first | refine VO.step rfl rfl ?_ | refine VD.end rfl rfl rfl ?_ | refine VD.mid rfl rfl rfl ?_); refine OpV.box rfl rfl rfl ?_; intro _; refine w ?_))
      exact jn.to () trivial ⟨asV rfl (by simp [hz]), rfl, rfl, rfl, trivial⟩ Ent.re
    have b4 : ¬ 2048 < data.length / 128 := by have := hb; simp at this; omega
    clear hb
    (refine w ?_; repeat ((first | refine VO.step rfl rfl ?_ | refine VD.end rfl rfl rfl ?_ | refine VD.mid rfl rfl rfl ?_); refine OpV.box rfl rfl rfl ?_; intro _; refine w ?_))
    ((first | refine VO.step rfl rfl ?_ | refine VD.end rfl rfl rfl ?_ | refine VD.mid rfl rfl rfl ?_); refine OpV.call rfl rfl (fun _ _ => by simp) (size_ok hnn (by omega)) Ent.refl rfl ?_)
    intro _ _
    refine ⟨Ent.re, ?_⟩
    (refine w ?_; repeat ((first | refine VO.step rfl rfl ?_ | refine VD.end rfl rfl rfl ?_ | refine VD.mid rfl rfl rfl ?_); refine OpV.box rfl rfl rfl ?_; intro _; refine w ?_))
    refine jn.to () trivial ⟨asV rfl (by
      congr 1; rw [Bool.eq_iff_iff]; unfold badM; simp only [b1, b2, b3, b4, decide_eq_true_iff, ne_eq, not_true_eq_false, false_or]), rfl, rfl, rfl, trivial⟩ Ent.re
  (refine w ?_; repeat ((first | refine VO.step rfl rfl ?_ | refine VD.end rfl rfl rfl ?_ | refine VD.mid rfl rfl rfl ?_); refine OpV.box rfl rfl rfl ?_; intro _; refine w ?_))
  (refine VC.cond rfl rfl ?_ ?_ <;> intro hc)
  · have hz : foundM data c = (1, ⟨[], 0, 0, 0⟩) := if_pos (of_decide_eq_true hc)
    (refine w ?_; repeat ((first | refine VO.step rfl rfl ?_ | refine VD.end rfl rfl rfl ?_ | refine VD.mid rfl rfl rfl ?_); refine OpV.box rfl rfl rfl ?_; intro _; refine w ?_))
    (apply VO.pure rfl rfl; apply PureAt.build sb_61 (pv := []) rfl; rfl; rfl)
    (refine w ?_; repeat ((first | refine VO.step rfl rfl ?_ | refine VD.end rfl rfl rfl ?_ | refine VD.mid rfl rfl rfl ?_); refine OpV.box rfl rfl rfl ?_; intro _; refine w ?_))
    (first | refine VO.step rfl rfl ?_ | refine VD.end rfl rfl rfl ?_ | refine VD.mid rfl rfl rfl ?_)
    refine OpV.stA (vs := [.slice none 0 0, .int .u64 0, .int .i64 0, .int .i64 0]) tab_ok rfl rfl rfl rfl (by simp [Value.oneCell']) (by (repeat first | exact .head | apply Hole.tail)) (by simp) ?_
    (refine w ?_; repeat ((first | refine VO.step rfl rfl ?_ | refine VD.end rfl rfl rfl ?_ | refine VD.mid rfl rfl rfl ?_); refine OpV.box rfl rfl rfl ?_; intro _; refine w ?_))
    refine VE.results2 (.inl rfl) ((none, 0), []) rfl (ResIs.agg (vs := [.slice none 0 0, .int .u64 0, .int .i64 0, .int .i64 0]) tab_ok rfl rfl (.head _) rfl rfl) (.tmp rfl) (by rw [hz]; rfl) (by rw [hz]; rfl) ?_
    exact Ent.trans (Ent.re (L := R)) (fun w hw => (pile_nil (res := TxnE.res) hw).ownNil _ _)
  have hnb : ¬ badM data c := of_decide_eq_false hc
  clear hc
  obtain ⟨n, hn⟩ : ∃ n, n = data.length / 128 := ⟨_, rfl⟩
  have hfnd : foundM data c = (0, ⟨ofM (secB data) n c.epoch (n + 1) c.seq 0 c.tail.toNat, c.seq + (ofM (secB data) n c.epoch (n + 1) c.seq 0 c.tail.toNat).length, (c.tail.toNat + costT (ofM (secB data) n c.epoch (n + 1) c.seq 0 c.tail.toNat)) % n, costT (ofM (secB data) n c.epoch (n + 1) c.seq 0 c.tail.toNat)⟩) := by
    rw [hn]; exact if_neg hnb
  have hen : c.enc.1 = 0 := Decidable.byContradiction fun q => hnb (.inl q)
  have hgood : c.good := by
    by_cases g : c.good
    · exact g
    · rw [chk_bad g] at hen; cases hen
  have hct := (chk_iff c).1 hgood
  have b2 : data.length % 128 = 0 := Decidable.byContradiction fun q => hnb (.inr (.inl q))
  have b3 : ¬ n < 5 := fun q => hnb (.inr (.inr (.inl (hn ▸ q))))
  have b4 : ¬ 2048 < n := fun q => hnb (.inr (.inr (.inr (.inl (hn ▸ q)))))
  have b5 : ¬ (n : Int) ≤ c.tail := fun q => hnb (.inr (.inr (.inr (.inr (hn ▸ q)))))
  have hdn : data.length = n * 128 := by omega
  obtain ⟨tl, htl⟩ : ∃ tl : Nat, c.tail = tl := ⟨c.tail.toNat, by omega⟩
  rw [htl, Int.toNat_natCast] at hfnd
  obtain ⟨la, rfl⟩ : ∃ a, ao = some a := by cases ao with | none => have := hr.nil rfl; omega | some a => exact ⟨a, rfl⟩
  (refine w ?_; repeat ((first | refine VO.step rfl rfl ?_ | refine VD.end rfl rfl rfl ?_ | refine VD.mid rfl rfl rfl ?_); refine OpV.box rfl rfl rfl ?_; intro _; refine w ?_))
  ((first | apply VO.pure rfl rfl | apply VD.take rfl rfl rfl | (refine VD.end rfl rfl rfl ?_; apply OpV.pure)); apply PureAt.build sb_61 rfl; (simp [buildX, setL, Value.cells]; rfl); rfl)
  ((first | refine VO.step rfl rfl ?_ | refine VD.end rfl rfl rfl ?_ | refine VD.mid rfl rfl rfl ?_); refine OpV.allocS sb_61 rfl ?_; intro n9)
  (refine w ?_; repeat ((first | refine VO.step rfl rfl ?_ | refine VD.end rfl rfl rfl ?_ | refine VD.mid rfl rfl rfl ?_); refine OpV.box rfl rfl rfl ?_; intro _; refine w ?_))
  (first | refine VO.step rfl rfl ?_ | refine VD.end rfl rfl rfl ?_ | refine VD.mid rfl rfl rfl ?_)
  refine OpV.stA (vs := [.slice none 0 0, .int .u64 c.seq, .int .i64 c.tail, .int .i64 0]) tab_ok rfl rfl rfl rfl (by simp [Value.oneCell']) (by (repeat first | exact .head | apply Hole.tail)) (by simp) ?_
  (refine w ?_; repeat ((first | refine VO.step rfl rfl ?_ | refine VD.end rfl rfl rfl ?_ | refine VD.mid rfl rfl rfl ?_); refine OpV.box rfl rfl rfl ?_; intro _; refine w ?_))
  refine VC.loop (α := List TxnE × (Option Addr × Nat) × Nat) (fun y => ofM (secB data) n c.epoch (n + 1) c.seq 0 tl = y.1.map TxnE.T ++ ofM (secB data) n c.epoch y.2.2 (c.seq + y.1.length) (costT (y.1.map TxnE.T)) ((tl + costT (y.1.map TxnE.T)) % n) ∧ costT (y.1.map TxnE.T) ≤ n ∧ n < costT (y.1.map TxnE.T) + y.2.2 ∧ y.1.length ≤ costT (y.1.map TxnE.T))
    (fun y => Row n9 61 [.slice y.2.1.1 y.1.length y.2.1.2, .int .u64 ((c.seq + y.1.length : Nat) : Int), .int .i64 (((tl + costT (y.1.map TxnE.T)) % n : Nat) : Int), .int .i64 ((costT (y.1.map TxnE.T) : Nat) : Int)] :: TxnsO y.2.1 y.1 :: PilT y.1 :: Row n4 61 [.slice none 0 0, .int .u64 0, .int .i64 0, .int .i64 0] :: Row n3 57 c.cells :: R)
    (fun y => [(3, .pointer (some ⟨n3, 0, none⟩)), (4, .pointer (some ⟨n4, 0, none⟩)), (6, .slice (some la) (n * 128) cap), (9, .pointer (some ⟨n9, 0, none⟩))]) (fun y => y.2.2) rfl ([], (none, 0), n + 1) ?_ ?_ ⟨rfl, rfl, asV rfl (by rw [hdn]), rfl, trivial⟩ ?_
  · have h1 : tl % n = tl := Nat.mod_eq_of_lt (by omega)
    refine ⟨?_, Nat.zero_le _, by show n < 0 + (n + 1); omega, Nat.zero_le _⟩
    show _ = [] ++ ofM (secB data) n c.epoch (n + 1) (c.seq + 0) 0 ((tl + 0) % n)
    rw [List.nil_append]; simp only [Nat.add_zero]; rw [h1]
  · have h1 : tl % n = tl := Nat.mod_eq_of_lt (by omega)
    dsimp only
    rw [show (tl + costT (([] : List TxnE).map TxnE.T)) % n = tl from h1, ← htl]
    exact Ent.trans (fun w hw => (pile_nil (res := TxnE.res) hw).ownNil 25 2) Ent.re
  rintro ⟨l, x, f⟩ ⟨hof, hus, hfu, hll⟩
  dsimp only at hof hus hfu hll ⊢
  have hr' : Rds W R 1 (some la) (n * 128) (bytes data) := hdn ▸ hr
  (refine w ?_; repeat ((first | refine VO.step rfl rfl ?_ | refine VD.end rfl rfl rfl ?_ | refine VD.mid rfl rfl rfl ?_); refine OpV.box rfl rfl rfl ?_; intro _; refine w ?_))
  (refine VC.cond rfl rfl ?_ ?_ <;> intro hc)
  · have hmx : c.seq + l.length ≤ 4611686018427387904 := by have := of_decide_eq_true hc; omega
    clear hc
    have hhd : (tl + costT (l.map TxnE.T)) % n < n := Nat.mod_lt _ (by omega)
    (refine w ?_; repeat ((first | refine VO.step rfl rfl ?_ | refine VD.end rfl rfl rfl ?_ | refine VD.mid rfl rfl rfl ?_); refine OpV.box rfl rfl rfl ?_; intro _; refine w ?_))
    refine VC.drawnX [4, 12, 16, 17] 18 16 [0, 1, 2, 3, 5, 6, 8, 9, 10, 11, 4, 7, 12, 13, 14, 15, 16, 17, 18] _ 10 (fun b => Row b 25 [.int .u64 0, .slice none 0 0]) (fun b => .pointer (some ⟨b, 0, none⟩)) rfl (by kernel_rfl) (by kernel_rfl) Ent.refl ?_
    (repeat (apply VX.take rfl rfl rfl rfl; (first | (apply PureAt.ar64 rfl rfl rfl; omega) | exact .eval tab_ok rfl | (apply PureAt.ld tab_ok rfl rfl; (focus repeat first | exact .head _ | apply List.Mem.tail); rfl) | (apply PureAt.shr rfl rfl (by decide) (by decide)) | (apply PureAt.shr rfl rfl (by omega) (by simp only [IntKind.bits]; omega)) | exact .fieldAddrA tab_ok rfl rfl | exact .sliceLH tab_ok rfl rfl rfl rfl (by omega) (by omega) | exact .sliceH tab_ok rfl rfl rfl (by omega) | exact .sliceL tab_ok rfl rfl rfl (by omega) | (first | exact .indexAddr tab_ok rfl rfl rfl rfl (by omega) | exact .indexAddrN tab_ok rfl rfl rfl rfl (by omega) | exact .indexAddrI tab_ok rfl rfl rfl rfl (toNatLit _) (by decide) (by omega) | exact .indexAddrNI tab_ok rfl rfl rfl rfl (toNatLit _) (by decide) (by omega) | exact .ldR tab_ok rfl rfl hr1 (List.getElem?_eq_getElem (by omega)) | exact .ldR tab_ok rfl rfl hr2 (List.getElem?_eq_getElem (by omega)) | exact ldB tab_ok rfl rfl hb1 (by omega) | exact ldB tab_ok rfl rfl hb2 (by omega)) | exact .sliceHI tab_ok rfl rfl rfl (toNatLit _) (by decide) (by omega) | exact .sliceLI tab_ok rfl rfl rfl (toNatLit _) (by decide) (by omega) | (apply PureAt.ldA tab_ok rfl rfl; (focus repeat first | exact .head _ | apply List.Mem.tail); rfl; rfl) | exact .ldro tab_ok rfl rfl (by assumption)); rfl; rfl; rfl))
    (refine VX.call rfl rfl rfl rfl rfl rfl (fun _ _ => by simp) (fun L hL => size_ok rfl (by omega)) rfl (FloatX.alloc sb_25 rfl) Ent.refl rfl rfl rfl ?_)
    (repeat (apply VX.take rfl rfl rfl rfl; (first | (apply PureAt.ar64 rfl rfl rfl; omega) | exact .eval tab_ok rfl | (apply PureAt.ld tab_ok rfl rfl; (focus repeat first | exact .head _ | apply List.Mem.tail); rfl) | (apply PureAt.shr rfl rfl (by decide) (by decide)) | (apply PureAt.shr rfl rfl (by omega) (by simp only [IntKind.bits]; omega)) | exact .fieldAddrA tab_ok rfl rfl | exact .sliceLH tab_ok rfl rfl rfl rfl (by omega) (by omega) | exact .sliceH tab_ok rfl rfl rfl (by omega) | exact .sliceL tab_ok rfl rfl rfl (by omega) | (first | exact .indexAddr tab_ok rfl rfl rfl rfl (by omega) | exact .indexAddrN tab_ok rfl rfl rfl rfl (by omega) | exact .indexAddrI tab_ok rfl rfl rfl rfl (toNatLit _) (by decide) (by omega) | exact .indexAddrNI tab_ok rfl rfl rfl rfl (toNatLit _) (by decide) (by omega) | exact .ldR tab_ok rfl rfl hr1 (List.getElem?_eq_getElem (by omega)) | exact .ldR tab_ok rfl rfl hr2 (List.getElem?_eq_getElem (by omega)) | exact ldB tab_ok rfl rfl hb1 (by omega) | exact ldB tab_ok rfl rfl hb2 (by omega)) | exact .sliceHI tab_ok rfl rfl rfl (toNatLit _) (by decide) (by omega) | exact .sliceLI tab_ok rfl rfl rfl (toNatLit _) (by decide) (by omega) | (apply PureAt.ldA tab_ok rfl rfl; (focus repeat first | exact .head _ | apply List.Mem.tail); rfl; rfl) | exact .ldro tab_ok rfl rfl (by assumption)); rfl; rfl; rfl))
    refine VX.re 61 (.int .i64 ((n - costT (l.map TxnE.T) : Nat) : Int)) rfl (by congr 1; omega) rfl rfl ?_
    have hE : Ent W (Row n9 61 [.slice x.1 l.length x.2, .int .u64 ((c.seq + l.length : Nat) : Int), .int .i64 (((tl + costT (l.map TxnE.T)) % n : Nat) : Int), .int .i64 ((costT (l.map TxnE.T) : Nat) : Int)] :: TxnsO x l :: PilT l :: Row n4 61 [.slice none 0 0, .int .u64 0, .int .i64 0, .int .i64 0] :: Row n3 57 c.cells :: R) R := Ent.re
    refine VX.callD (S := fun t : TxnE => [PatsO (t.ao, t.cap) t.pats, PilP t.pats]) rfl rfl rfl rfl rfl rfl (fun _ _ => by simp)
      (fun L hL => batch_ok (R := L) (by omega) (by omega) ((tl + costT (l.map TxnE.T)) % n) (n - costT (l.map TxnE.T)) c.epoch (c.seq + l.length) hhd (by omega) hf.epoch (by omega) hdn (hr'.ent (Ent.trans hL hE)) (rotF (secB data) n ((tl + costT (l.map TxnE.T)) % n)) (fun i => by unfold rotF secB; rw [Nat.mul_comm])) rfl (FloatX.alloc sb_25 rfl) Ent.refl rfl rfl rfl ?_
    rintro t ⟨hts, htp⟩
    (repeat (apply VX.take rfl rfl rfl rfl; (first | (apply PureAt.ar64 rfl rfl rfl; omega) | exact .eval tab_ok rfl | (apply PureAt.ld tab_ok rfl rfl; (focus repeat first | exact .head _ | apply List.Mem.tail); rfl) | (apply PureAt.shr rfl rfl (by decide) (by decide)) | (apply PureAt.shr rfl rfl (by omega) (by simp only [IntKind.bits]; omega)) | exact .fieldAddrA tab_ok rfl rfl | exact .sliceLH tab_ok rfl rfl rfl rfl (by omega) (by omega) | exact .sliceH tab_ok rfl rfl rfl (by omega) | exact .sliceL tab_ok rfl rfl rfl (by omega) | (first | exact .indexAddr tab_ok rfl rfl rfl rfl (by omega) | exact .indexAddrN tab_ok rfl rfl rfl rfl (by omega) | exact .indexAddrI tab_ok rfl rfl rfl rfl (toNatLit _) (by decide) (by omega) | exact .indexAddrNI tab_ok rfl rfl rfl rfl (toNatLit _) (by decide) (by omega) | exact .ldR tab_ok rfl rfl hr1 (List.getElem?_eq_getElem (by omega)) | exact .ldR tab_ok rfl rfl hr2 (List.getElem?_eq_getElem (by omega)) | exact ldB tab_ok rfl rfl hb1 (by omega) | exact ldB tab_ok rfl rfl hb2 (by omega)) | exact .sliceHI tab_ok rfl rfl rfl (toNatLit _) (by decide) (by omega) | exact .sliceLI tab_ok rfl rfl rfl (toNatLit _) (by decide) (by omega) | (apply PureAt.ldA tab_ok rfl rfl; (focus repeat first | exact .head _ | apply List.Mem.tail); rfl; rfl) | exact .ldro tab_ok rfl rfl (by assumption)); rfl; rfl; rfl))
    refine VX.float rfl rfl (FloatX.alloc sb_25 rfl) Ent.re ?_
    intro n10
    refine VD.mid rfl rfl rfl ?_
    refine OpV.stA (vs := t.cells) tab_ok rfl rfl rfl rfl (txn_one _) (by (repeat first | exact .head | apply Hole.tail)) (by simp) ?_
    refine ⟨Ent.re, ?_⟩
    (refine w ?_; repeat ((first | refine VO.step rfl rfl ?_ | refine VD.end rfl rfl rfl ?_ | refine VD.mid rfl rfl rfl ?_); refine OpV.box rfl rfl rfl ?_; intro _; refine w ?_))
    cases hbm : batM (rotF (secB data) n ((tl + costT (l.map TxnE.T)) % n)) (n - costT (l.map TxnE.T)) c.epoch (c.seq + l.length) with
    | none =>
      have hfull : ofM (secB data) n c.epoch (n + 1) c.seq 0 tl = l.map TxnE.T := by rw [hof, of_none hbm]; exact List.append_nil _
      (refine w ?_; repeat ((first | refine VO.step rfl rfl ?_ | refine VD.end rfl rfl rfl ?_ | refine VD.mid rfl rfl rfl ?_); refine OpV.box rfl rfl rfl ?_; intro _; refine w ?_))
      (first | refine VO.step rfl rfl ?_ | refine VD.end rfl rfl rfl ?_ | refine VD.mid rfl rfl rfl ?_)
      refine OpV.stA (vs := [.slice x.1 l.length x.2, .int .u64 ((c.seq + l.length : Nat) : Int), .int .i64 (((tl + costT (l.map TxnE.T)) % n : Nat) : Int), .int .i64 ((costT (l.map TxnE.T) : Nat) : Int)]) tab_ok rfl rfl rfl rfl (by simp [Value.oneCell']) (by (repeat first | exact .head | apply Hole.tail)) (by simp) ?_
      (refine w ?_; repeat ((first | refine VO.step rfl rfl ?_ | refine VD.end rfl rfl rfl ?_ | refine VD.mid rfl rfl rfl ?_); refine OpV.box rfl rfl rfl ?_; intro _; refine w ?_))
      refine VE.results2 (.inl rfl) (x, l) rfl (ResIs.agg (vs := [.slice x.1 l.length x.2, .int .u64 ((c.seq + l.length : Nat) : Int), .int .i64 (((tl + costT (l.map TxnE.T)) % n : Nat) : Int), .int .i64 ((costT (l.map TxnE.T) : Nat) : Int)]) tab_ok rfl rfl (by (focus repeat first | exact .head _ | apply List.Mem.tail)) rfl rfl) (.tmp rfl) (by rw [hfnd]; exact hfull.symm) (by rw [hfnd]; simp only [hfull, List.length_map]) ?_
      exact Ent.re

    | some lp =>
      have htd := htp lp hbm
      have hbr := bat_room hbm
      have hpl : t.pats.length = lp.length := by rw [← htd, List.length_map]
      (refine w ?_; repeat ((first | refine VO.step rfl rfl ?_ | refine VD.end rfl rfl rfl ?_ | refine VD.mid rfl rfl rfl ?_); refine OpV.box rfl rfl rfl ?_; intro _; refine w ?_))
      refine VO.re 78 (.agg t.cells.toArray) rfl (by simp) ?_
      (first | refine VO.step rfl rfl ?_ | refine VD.end rfl rfl rfl ?_ | refine VD.mid rfl rfl rfl ?_)
      refine OpV.buildSlice (cs := t.cells) st_59 rfl rfl (by simp [Value.cells]) (by simp [Value.cells]) (by decide) rfl ?_
      intro nc
      (first | refine VO.step rfl rfl ?_ | refine VD.end rfl rfl rfl ?_ | refine VD.mid rfl rfl rfl ?_)
      refine OpV.appendRow st_59 rfl rfl (by (repeat first | exact .head | apply Hole.tail)) (by (focus repeat first | exact .head _ | apply List.Mem.tail)) rfl (txn_one _) (by simp only [maxLen]; omega) (by omega) rfl ?_
      intro so sc
      (refine w ?_; repeat ((first | refine VO.step rfl rfl ?_ | refine VD.end rfl rfl rfl ?_ | refine VD.mid rfl rfl rfl ?_); refine OpV.box rfl rfl rfl ?_; intro _; refine w ?_))
      refine VC.ent (H' := Row n9 61 [.slice so (l.length + 1) sc, .int .u64 ((c.seq + l.length : Nat) : Int), .int .i64 (((tl + costT (l.map TxnE.T)) % n : Nat) : Int), .int .i64 ((costT (l.map TxnE.T) : Nat) : Int)] :: Sl.Own 25 2 (.slice so (l.length + 1) sc) (l.length + 1) (txnCells l ++ t.cells) :: PilT l :: PatsO (t.ao, t.cap) t.pats :: PilP t.pats :: Row n4 61 [.slice none 0 0, .int .u64 0, .int .i64 0, .int .i64 0] :: Row n3 57 c.cells :: R) Ent.re ?_
      have hlen2 : t.pats.length ≤ 1023 := by omega
      refine VC.drawnL (levF n9 (.slice so (l.length + 1) sc) (.int .u64 ((c.seq + l.length : Nat) : Int)) (.int .i64 (((tl + costT (l.map TxnE.T)) % n : Nat) : Int)) (.int .i64 ((costT (l.map TxnE.T) : Nat) : Int))) [12, 15, 17, 19] [(15, 1), (17, 2), (19, 3)] [(1, 0), (4, 1), (8, 2)] 3 [0, 1, 2, 3, 4, 5, 6, 7, 8, 9, 10, 11, 14, 12, 13, 15, 16, 17, 18, 19] rfl (by kernel_rfl) (by kernel_rfl) Ent.re (levF_step _ _ _ _ _) ?_
      (apply VL.take rfl rfl rfl 3 rfl; (first | (apply PureAt.ar64 rfl rfl rfl; omega) | exact .eval tab_ok rfl | (apply PureAt.ld tab_ok rfl rfl; (focus repeat first | exact .head _ | apply List.Mem.tail); rfl) | (apply PureAt.shr rfl rfl (by decide) (by decide)) | (apply PureAt.shr rfl rfl (by omega) (by simp only [IntKind.bits]; omega)) | exact .fieldAddrA tab_ok rfl rfl | exact .sliceLH tab_ok rfl rfl rfl rfl (by omega) (by omega) | exact .sliceH tab_ok rfl rfl rfl (by omega) | exact .sliceL tab_ok rfl rfl rfl (by omega) | (first | exact .indexAddr tab_ok rfl rfl rfl rfl (by omega) | exact .indexAddrN tab_ok rfl rfl rfl rfl (by omega) | exact .indexAddrI tab_ok rfl rfl rfl rfl (toNatLit _) (by decide) (by omega) | exact .indexAddrNI tab_ok rfl rfl rfl rfl (toNatLit _) (by decide) (by omega) | exact .ldR tab_ok rfl rfl hr1 (List.getElem?_eq_getElem (by omega)) | exact .ldR tab_ok rfl rfl hr2 (List.getElem?_eq_getElem (by omega)) | exact ldB tab_ok rfl rfl hb1 (by omega) | exact ldB tab_ok rfl rfl hb2 (by omega)) | exact .sliceHI tab_ok rfl rfl rfl (toNatLit _) (by decide) (by omega) | exact .sliceLI tab_ok rfl rfl rfl (toNatLit _) (by decide) (by omega) | (apply PureAt.ldA tab_ok rfl rfl; (focus repeat first | exact .head _ | apply List.Mem.tail); rfl; rfl) | exact .ldro tab_ok rfl rfl (by assumption)); rfl)
      apply VL.take rfl rfl rfl 0 rfl
      · exact PureAt.ld tab_ok rfl rfl (.head _) rfl
      · rfl
      (apply VL.take rfl rfl rfl 3 rfl; (first | (apply PureAt.ar64 rfl rfl rfl; omega) | exact .eval tab_ok rfl | (apply PureAt.ld tab_ok rfl rfl; (focus repeat first | exact .head _ | apply List.Mem.tail); rfl) | (apply PureAt.shr rfl rfl (by decide) (by decide)) | (apply PureAt.shr rfl rfl (by omega) (by simp only [IntKind.bits]; omega)) | exact .fieldAddrA tab_ok rfl rfl | exact .sliceLH tab_ok rfl rfl rfl rfl (by omega) (by omega) | exact .sliceH tab_ok rfl rfl rfl (by omega) | exact .sliceL tab_ok rfl rfl rfl (by omega) | (first | exact .indexAddr tab_ok rfl rfl rfl rfl (by omega) | exact .indexAddrN tab_ok rfl rfl rfl rfl (by omega) | exact .indexAddrI tab_ok rfl rfl rfl rfl (toNatLit _) (by decide) (by omega) | exact .indexAddrNI tab_ok rfl rfl rfl rfl (toNatLit _) (by decide) (by omega) | exact .ldR tab_ok rfl rfl hr1 (List.getElem?_eq_getElem (by omega)) | exact .ldR tab_ok rfl rfl hr2 (List.getElem?_eq_getElem (by omega)) | exact ldB tab_ok rfl rfl hb1 (by omega) | exact ldB tab_ok rfl rfl hb2 (by omega)) | exact .sliceHI tab_ok rfl rfl rfl (toNatLit _) (by decide) (by omega) | exact .sliceLI tab_ok rfl rfl rfl (toNatLit _) (by decide) (by omega) | (apply PureAt.ldA tab_ok rfl rfl; (focus repeat first | exact .head _ | apply List.Mem.tail); rfl; rfl) | exact .ldro tab_ok rfl rfl (by assumption)); rfl)
      refine VL.re 84 (.int .u64 (((c.seq + l.length : Nat) : Int) + 1)) rfl (by rw [IntWalk.u64_in _ ⟨by omega, by omega⟩]) ?_
      (apply VL.take rfl rfl rfl 3 rfl; (first | (apply PureAt.ar64 rfl rfl rfl; omega) | exact .eval tab_ok rfl | (apply PureAt.ld tab_ok rfl rfl; (focus repeat first | exact .head _ | apply List.Mem.tail); rfl) | (apply PureAt.shr rfl rfl (by decide) (by decide)) | (apply PureAt.shr rfl rfl (by omega) (by simp only [IntKind.bits]; omega)) | exact .fieldAddrA tab_ok rfl rfl | exact .sliceLH tab_ok rfl rfl rfl rfl (by omega) (by omega) | exact .sliceH tab_ok rfl rfl rfl (by omega) | exact .sliceL tab_ok rfl rfl rfl (by omega) | (first | exact .indexAddr tab_ok rfl rfl rfl rfl (by omega) | exact .indexAddrN tab_ok rfl rfl rfl rfl (by omega) | exact .indexAddrI tab_ok rfl rfl rfl rfl (toNatLit _) (by decide) (by omega) | exact .indexAddrNI tab_ok rfl rfl rfl rfl (toNatLit _) (by decide) (by omega) | exact .ldR tab_ok rfl rfl hr1 (List.getElem?_eq_getElem (by omega)) | exact .ldR tab_ok rfl rfl hr2 (List.getElem?_eq_getElem (by omega)) | exact ldB tab_ok rfl rfl hb1 (by omega) | exact ldB tab_ok rfl rfl hb2 (by omega)) | exact .sliceHI tab_ok rfl rfl rfl (toNatLit _) (by decide) (by omega) | exact .sliceLI tab_ok rfl rfl rfl (toNatLit _) (by decide) (by omega) | (apply PureAt.ldA tab_ok rfl rfl; (focus repeat first | exact .head _ | apply List.Mem.tail); rfl; rfl) | exact .ldro tab_ok rfl rfl (by assumption)); rfl)
      apply VL.take rfl rfl rfl 1 rfl
      · exact pureEx fun v => PureAt.ld tab_ok rfl rfl (.head _) rfl
      · rfl
      (apply VL.take rfl rfl rfl 3 rfl; (first | (apply PureAt.ar64 rfl rfl rfl; omega) | exact .eval tab_ok rfl | (apply PureAt.ld tab_ok rfl rfl; (focus repeat first | exact .head _ | apply List.Mem.tail); rfl) | (apply PureAt.shr rfl rfl (by decide) (by decide)) | (apply PureAt.shr rfl rfl (by omega) (by simp only [IntKind.bits]; omega)) | exact .fieldAddrA tab_ok rfl rfl | exact .sliceLH tab_ok rfl rfl rfl rfl (by omega) (by omega) | exact .sliceH tab_ok rfl rfl rfl (by omega) | exact .sliceL tab_ok rfl rfl rfl (by omega) | (first | exact .indexAddr tab_ok rfl rfl rfl rfl (by omega) | exact .indexAddrN tab_ok rfl rfl rfl rfl (by omega) | exact .indexAddrI tab_ok rfl rfl rfl rfl (toNatLit _) (by decide) (by omega) | exact .indexAddrNI tab_ok rfl rfl rfl rfl (toNatLit _) (by decide) (by omega) | exact .ldR tab_ok rfl rfl hr1 (List.getElem?_eq_getElem (by omega)) | exact .ldR tab_ok rfl rfl hr2 (List.getElem?_eq_getElem (by omega)) | exact ldB tab_ok rfl rfl hb1 (by omega) | exact ldB tab_ok rfl rfl hb2 (by omega)) | exact .sliceHI tab_ok rfl rfl rfl (toNatLit _) (by decide) (by omega) | exact .sliceLI tab_ok rfl rfl rfl (toNatLit _) (by decide) (by omega) | (apply PureAt.ldA tab_ok rfl rfl; (focus repeat first | exact .head _ | apply List.Mem.tail); rfl; rfl) | exact .ldro tab_ok rfl rfl (by assumption)); rfl)
      (apply VL.take rfl rfl rfl 3 rfl; (first | (apply PureAt.ar64 rfl rfl rfl; omega) | exact .eval tab_ok rfl | (apply PureAt.ld tab_ok rfl rfl; (focus repeat first | exact .head _ | apply List.Mem.tail); rfl) | (apply PureAt.shr rfl rfl (by decide) (by decide)) | (apply PureAt.shr rfl rfl (by omega) (by simp only [IntKind.bits]; omega)) | exact .fieldAddrA tab_ok rfl rfl | exact .sliceLH tab_ok rfl rfl rfl rfl (by omega) (by omega) | exact .sliceH tab_ok rfl rfl rfl (by omega) | exact .sliceL tab_ok rfl rfl rfl (by omega) | (first | exact .indexAddr tab_ok rfl rfl rfl rfl (by omega) | exact .indexAddrN tab_ok rfl rfl rfl rfl (by omega) | exact .indexAddrI tab_ok rfl rfl rfl rfl (toNatLit _) (by decide) (by omega) | exact .indexAddrNI tab_ok rfl rfl rfl rfl (toNatLit _) (by decide) (by omega) | exact .ldR tab_ok rfl rfl hr1 (List.getElem?_eq_getElem (by omega)) | exact .ldR tab_ok rfl rfl hr2 (List.getElem?_eq_getElem (by omega)) | exact ldB tab_ok rfl rfl hb1 (by omega) | exact ldB tab_ok rfl rfl hb2 (by omega)) | exact .sliceHI tab_ok rfl rfl rfl (toNatLit _) (by decide) (by omega) | exact .sliceLI tab_ok rfl rfl rfl (toNatLit _) (by decide) (by omega) | (apply PureAt.ldA tab_ok rfl rfl; (focus repeat first | exact .head _ | apply List.Mem.tail); rfl; rfl) | exact .ldro tab_ok rfl rfl (by assumption)); rfl)
      (apply VL.take rfl rfl rfl 3 rfl; (first | (apply PureAt.ar64 rfl rfl rfl; omega) | exact .eval tab_ok rfl | (apply PureAt.ld tab_ok rfl rfl; (focus repeat first | exact .head _ | apply List.Mem.tail); rfl) | (apply PureAt.shr rfl rfl (by decide) (by decide)) | (apply PureAt.shr rfl rfl (by omega) (by simp only [IntKind.bits]; omega)) | exact .fieldAddrA tab_ok rfl rfl | exact .sliceLH tab_ok rfl rfl rfl rfl (by omega) (by omega) | exact .sliceH tab_ok rfl rfl rfl (by omega) | exact .sliceL tab_ok rfl rfl rfl (by omega) | (first | exact .indexAddr tab_ok rfl rfl rfl rfl (by omega) | exact .indexAddrN tab_ok rfl rfl rfl rfl (by omega) | exact .indexAddrI tab_ok rfl rfl rfl rfl (toNatLit _) (by decide) (by omega) | exact .indexAddrNI tab_ok rfl rfl rfl rfl (toNatLit _) (by decide) (by omega) | exact .ldR tab_ok rfl rfl hr1 (List.getElem?_eq_getElem (by omega)) | exact .ldR tab_ok rfl rfl hr2 (List.getElem?_eq_getElem (by omega)) | exact ldB tab_ok rfl rfl hb1 (by omega) | exact ldB tab_ok rfl rfl hb2 (by omega)) | exact .sliceHI tab_ok rfl rfl rfl (toNatLit _) (by decide) (by omega) | exact .sliceLI tab_ok rfl rfl rfl (toNatLit _) (by decide) (by omega) | (apply PureAt.ldA tab_ok rfl rfl; (focus repeat first | exact .head _ | apply List.Mem.tail); rfl; rfl) | exact .ldro tab_ok rfl rfl (by assumption)); rfl)
      apply VL.take rfl rfl rfl 2 rfl
      · exact pureEx fun v => PureAt.ld tab_ok rfl rfl (.head _) rfl
      · rfl
      (apply VL.take rfl rfl rfl 3 rfl; (first | (apply PureAt.ar64 rfl rfl rfl; omega) | exact .eval tab_ok rfl | (apply PureAt.ld tab_ok rfl rfl; (focus repeat first | exact .head _ | apply List.Mem.tail); rfl) | (apply PureAt.shr rfl rfl (by decide) (by decide)) | (apply PureAt.shr rfl rfl (by omega) (by simp only [IntKind.bits]; omega)) | exact .fieldAddrA tab_ok rfl rfl | exact .sliceLH tab_ok rfl rfl rfl rfl (by omega) (by omega) | exact .sliceH tab_ok rfl rfl rfl (by omega) | exact .sliceL tab_ok rfl rfl rfl (by omega) | (first | exact .indexAddr tab_ok rfl rfl rfl rfl (by omega) | exact .indexAddrN tab_ok rfl rfl rfl rfl (by omega) | exact .indexAddrI tab_ok rfl rfl rfl rfl (toNatLit _) (by decide) (by omega) | exact .indexAddrNI tab_ok rfl rfl rfl rfl (toNatLit _) (by decide) (by omega) | exact .ldR tab_ok rfl rfl hr1 (List.getElem?_eq_getElem (by omega)) | exact .ldR tab_ok rfl rfl hr2 (List.getElem?_eq_getElem (by omega)) | exact ldB tab_ok rfl rfl hb1 (by omega) | exact ldB tab_ok rfl rfl hb2 (by omega)) | exact .sliceHI tab_ok rfl rfl rfl (toNatLit _) (by decide) (by omega) | exact .sliceLI tab_ok rfl rfl rfl (toNatLit _) (by decide) (by omega) | (apply PureAt.ldA tab_ok rfl rfl; (focus repeat first | exact .head _ | apply List.Mem.tail); rfl; rfl) | exact .ldro tab_ok rfl rfl (by assumption)); rfl)
      (apply VL.take rfl rfl rfl 3 rfl; (first | (apply PureAt.ar64 rfl rfl rfl; omega) | exact .eval tab_ok rfl | (apply PureAt.ld tab_ok rfl rfl; (focus repeat first | exact .head _ | apply List.Mem.tail); rfl) | (apply PureAt.shr rfl rfl (by decide) (by decide)) | (apply PureAt.shr rfl rfl (by omega) (by simp only [IntKind.bits]; omega)) | exact .fieldAddrA tab_ok rfl rfl | exact .sliceLH tab_ok rfl rfl rfl rfl (by omega) (by omega) | exact .sliceH tab_ok rfl rfl rfl (by omega) | exact .sliceL tab_ok rfl rfl rfl (by omega) | (first | exact .indexAddr tab_ok rfl rfl rfl rfl (by omega) | exact .indexAddrN tab_ok rfl rfl rfl rfl (by omega) | exact .indexAddrI tab_ok rfl rfl rfl rfl (toNatLit _) (by decide) (by omega) | exact .indexAddrNI tab_ok rfl rfl rfl rfl (toNatLit _) (by decide) (by omega) | exact .ldR tab_ok rfl rfl hr1 (List.getElem?_eq_getElem (by omega)) | exact .ldR tab_ok rfl rfl hr2 (List.getElem?_eq_getElem (by omega)) | exact ldB tab_ok rfl rfl hb1 (by omega) | exact ldB tab_ok rfl rfl hb2 (by omega)) | exact .sliceHI tab_ok rfl rfl rfl (toNatLit _) (by decide) (by omega) | exact .sliceLI tab_ok rfl rfl rfl (toNatLit _) (by decide) (by omega) | (apply PureAt.ldA tab_ok rfl rfl; (focus repeat first | exact .head _ | apply List.Mem.tail); rfl; rfl) | exact .ldro tab_ok rfl rfl (by assumption)); rfl)
      (apply VL.take rfl rfl rfl 3 rfl; (first | (apply PureAt.ar64 rfl rfl rfl; omega) | exact .eval tab_ok rfl | (apply PureAt.ld tab_ok rfl rfl; (focus repeat first | exact .head _ | apply List.Mem.tail); rfl) | (apply PureAt.shr rfl rfl (by decide) (by decide)) | (apply PureAt.shr rfl rfl (by omega) (by simp only [IntKind.bits]; omega)) | exact .fieldAddrA tab_ok rfl rfl | exact .sliceLH tab_ok rfl rfl rfl rfl (by omega) (by omega) | exact .sliceH tab_ok rfl rfl rfl (by omega) | exact .sliceL tab_ok rfl rfl rfl (by omega) | (first | exact .indexAddr tab_ok rfl rfl rfl rfl (by omega) | exact .indexAddrN tab_ok rfl rfl rfl rfl (by omega) | exact .indexAddrI tab_ok rfl rfl rfl rfl (toNatLit _) (by decide) (by omega) | exact .indexAddrNI tab_ok rfl rfl rfl rfl (toNatLit _) (by decide) (by omega) | exact .ldR tab_ok rfl rfl hr1 (List.getElem?_eq_getElem (by omega)) | exact .ldR tab_ok rfl rfl hr2 (List.getElem?_eq_getElem (by omega)) | exact ldB tab_ok rfl rfl hb1 (by omega) | exact ldB tab_ok rfl rfl hb2 (by omega)) | exact .sliceHI tab_ok rfl rfl rfl (toNatLit _) (by decide) (by omega) | exact .sliceLI tab_ok rfl rfl rfl (toNatLit _) (by decide) (by omega) | (apply PureAt.ldA tab_ok rfl rfl; (focus repeat first | exact .head _ | apply List.Mem.tail); rfl; rfl) | exact .ldro tab_ok rfl rfl (by assumption)); rfl)
      (apply VL.take rfl rfl rfl 3 rfl; (first | (apply PureAt.ar64 rfl rfl rfl; omega) | exact .eval tab_ok rfl | (apply PureAt.ld tab_ok rfl rfl; (focus repeat first | exact .head _ | apply List.Mem.tail); rfl) | (apply PureAt.shr rfl rfl (by decide) (by decide)) | (apply PureAt.shr rfl rfl (by omega) (by simp only [IntKind.bits]; omega)) | exact .fieldAddrA tab_ok rfl rfl | exact .sliceLH tab_ok rfl rfl rfl rfl (by omega) (by omega) | exact .sliceH tab_ok rfl rfl rfl (by omega) | exact .sliceL tab_ok rfl rfl rfl (by omega) | (first | exact .indexAddr tab_ok rfl rfl rfl rfl (by omega) | exact .indexAddrN tab_ok rfl rfl rfl rfl (by omega) | exact .indexAddrI tab_ok rfl rfl rfl rfl (toNatLit _) (by decide) (by omega) | exact .indexAddrNI tab_ok rfl rfl rfl rfl (toNatLit _) (by decide) (by omega) | exact .ldR tab_ok rfl rfl hr1 (List.getElem?_eq_getElem (by omega)) | exact .ldR tab_ok rfl rfl hr2 (List.getElem?_eq_getElem (by omega)) | exact ldB tab_ok rfl rfl hb1 (by omega) | exact ldB tab_ok rfl rfl hb2 (by omega)) | exact .sliceHI tab_ok rfl rfl rfl (toNatLit _) (by decide) (by omega) | exact .sliceLI tab_ok rfl rfl rfl (toNatLit _) (by decide) (by omega) | (apply PureAt.ldA tab_ok rfl rfl; (focus repeat first | exact .head _ | apply List.Mem.tail); rfl; rfl) | exact .ldro tab_ok rfl rfl (by assumption)); rfl)
      refine VL.mid rfl rfl rfl 0 rfl ?_
      refine OpV.call rfl rfl (fun _ _ => by simp) (size_ok rfl (by omega)) Ent.refl rfl ?_
      intro _ _
      refine ⟨(show Ent W _ [Row n9 61 [.slice so (l.length + 1) sc, .int .u64 ((c.seq + l.length : Nat) : Int), .int .i64 (((tl + costT (l.map TxnE.T)) % n : Nat) : Int), .int .i64 ((costT (l.map TxnE.T) : Nat) : Int)]] from Ent.re), ?_⟩
      apply VL.take rfl rfl rfl 3 rfl
      · exact PureAt.rem (a := (tl + costT (l.map TxnE.T)) % n + (2 * t.pats.length + 1)) (b := n) rfl rfl (by omega)
      · rfl
      refine VL.mid rfl rfl rfl 1 rfl ?_
      apply OpV.st tab_ok rfl rfl rfl rfl (by (repeat first | exact .head | apply Hole.tail)) (by simp)
      refine ⟨Ent.trans (Ent.re (L := [Row n9 61 [.slice so (l.length + 1) sc, .int .u64 (((c.seq + l.length : Nat) : Int) + 1), .int .i64 (((tl + costT (l.map TxnE.T)) % n : Nat) : Int), .int .i64 ((costT (l.map TxnE.T) : Nat) : Int)]])) (fun w hw => Holds.exShut (P := fun v : Value => Row n9 61 [.slice so (l.length + 1) sc, v, .int .i64 (((tl + costT (l.map TxnE.T)) % n : Nat) : Int), .int .i64 ((costT (l.map TxnE.T) : Nat) : Int)]) _ hw), ?_⟩
      (apply VL.take rfl rfl rfl 3 rfl; (first | (apply PureAt.ar64 rfl rfl rfl; omega) | exact .eval tab_ok rfl | (apply PureAt.ld tab_ok rfl rfl; (focus repeat first | exact .head _ | apply List.Mem.tail); rfl) | (apply PureAt.shr rfl rfl (by decide) (by decide)) | (apply PureAt.shr rfl rfl (by omega) (by simp only [IntKind.bits]; omega)) | exact .fieldAddrA tab_ok rfl rfl | exact .sliceLH tab_ok rfl rfl rfl rfl (by omega) (by omega) | exact .sliceH tab_ok rfl rfl rfl (by omega) | exact .sliceL tab_ok rfl rfl rfl (by omega) | (first | exact .indexAddr tab_ok rfl rfl rfl rfl (by omega) | exact .indexAddrN tab_ok rfl rfl rfl rfl (by omega) | exact .indexAddrI tab_ok rfl rfl rfl rfl (toNatLit _) (by decide) (by omega) | exact .indexAddrNI tab_ok rfl rfl rfl rfl (toNatLit _) (by decide) (by omega) | exact .ldR tab_ok rfl rfl hr1 (List.getElem?_eq_getElem (by omega)) | exact .ldR tab_ok rfl rfl hr2 (List.getElem?_eq_getElem (by omega)) | exact ldB tab_ok rfl rfl hb1 (by omega) | exact ldB tab_ok rfl rfl hb2 (by omega)) | exact .sliceHI tab_ok rfl rfl rfl (toNatLit _) (by decide) (by omega) | exact .sliceLI tab_ok rfl rfl rfl (toNatLit _) (by decide) (by omega) | (apply PureAt.ldA tab_ok rfl rfl; (focus repeat first | exact .head _ | apply List.Mem.tail); rfl; rfl) | exact .ldro tab_ok rfl rfl (by assumption)); rfl)
      refine VL.mid rfl rfl rfl 2 rfl ?_
      apply OpV.st tab_ok rfl rfl rfl rfl (by (repeat first | exact .head | apply Hole.tail)) (by simp)
      refine ⟨Ent.trans (Ent.re (L := [Row n9 61 [.slice so (l.length + 1) sc, .int .u64 (((c.seq + l.length : Nat) : Int) + 1), .int .i64 (((tl + costT (l.map TxnE.T)) % n : Nat) : Int), .int .i64 (((costT (l.map TxnE.T) : Nat) : Int) + (2 * (t.pats.length : Int) + 1))]])) (fun w hw => Holds.exShut (P := fun v : Value × Value => Row n9 61 [.slice so (l.length + 1) sc, v.1, .int .i64 (((tl + costT (l.map TxnE.T)) % n : Nat) : Int), v.2]) (.int .u64 (((c.seq + l.length : Nat) : Int) + 1), .int .i64 (((costT (l.map TxnE.T) : Nat) : Int) + (2 * (t.pats.length : Int) + 1))) hw), ?_⟩
      (apply VL.take rfl rfl rfl 3 rfl; (first | (apply PureAt.ar64 rfl rfl rfl; omega) | exact .eval tab_ok rfl | (apply PureAt.ld tab_ok rfl rfl; (focus repeat first | exact .head _ | apply List.Mem.tail); rfl) | (apply PureAt.shr rfl rfl (by decide) (by decide)) | (apply PureAt.shr rfl rfl (by omega) (by simp only [IntKind.bits]; omega)) | exact .fieldAddrA tab_ok rfl rfl | exact .sliceLH tab_ok rfl rfl rfl rfl (by omega) (by omega) | exact .sliceH tab_ok rfl rfl rfl (by omega) | exact .sliceL tab_ok rfl rfl rfl (by omega) | (first | exact .indexAddr tab_ok rfl rfl rfl rfl (by omega) | exact .indexAddrN tab_ok rfl rfl rfl rfl (by omega) | exact .indexAddrI tab_ok rfl rfl rfl rfl (toNatLit _) (by decide) (by omega) | exact .indexAddrNI tab_ok rfl rfl rfl rfl (toNatLit _) (by decide) (by omega) | exact .ldR tab_ok rfl rfl hr1 (List.getElem?_eq_getElem (by omega)) | exact .ldR tab_ok rfl rfl hr2 (List.getElem?_eq_getElem (by omega)) | exact ldB tab_ok rfl rfl hb1 (by omega) | exact ldB tab_ok rfl rfl hb2 (by omega)) | exact .sliceHI tab_ok rfl rfl rfl (toNatLit _) (by decide) (by omega) | exact .sliceLI tab_ok rfl rfl rfl (toNatLit _) (by decide) (by omega) | (apply PureAt.ldA tab_ok rfl rfl; (focus repeat first | exact .head _ | apply List.Mem.tail); rfl; rfl) | exact .ldro tab_ok rfl rfl (by assumption)); rfl)
      refine VL.mid rfl rfl rfl 3 rfl ?_
      apply OpV.st tab_ok rfl rfl rfl rfl (by (repeat first | exact .head | apply Hole.tail)) (by simp)
      refine ⟨(show Ent W _ [] from Ent.re), ?_⟩
      refine VL.nil ?_
      (refine w ?_; repeat ((first | refine VO.step rfl rfl ?_ | refine VD.end rfl rfl rfl ?_ | refine VD.mid rfl rfl rfl ?_); refine OpV.box rfl rfl rfl ?_; intro _; refine w ?_))
      have hT : (l ++ [t]).map TxnE.T = l.map TxnE.T ++ [(c.seq + l.length, lp)] := by rw [List.map_append, List.map_cons, List.map_nil]; unfold TxnE.T; rw [hts, htd]
      have hcost : costT ((l ++ [t]).map TxnE.T) = costT (l.map TxnE.T) + (2 * lp.length + 1) := by rw [hT, costT_append, costT_cons]; simp [costT]
      obtain ⟨g, rfl⟩ : ∃ g, f = g + 1 := ⟨f - 1, by omega⟩
      have hmod : ((tl + costT (l.map TxnE.T)) % n + (2 * lp.length + 1)) % n = (tl + (costT (l.map TxnE.T) + (2 * lp.length + 1))) % n := by rw [Nat.mod_add_mod, Nat.add_assoc]
      refine VE.round (l ++ [t], (so, sc), g) ⟨?_, ?_, ?_, ?_⟩ (by simp only; omega) ⟨rfl, rfl, rfl, rfl, trivial⟩ ?_
      · simp only
        rw [hcost, hT, hof, List.length_append, List.length_singleton, ofM, if_pos hmx, hbm]
        dsimp only
        rw [List.append_assoc, List.singleton_append, hmod, Nat.add_assoc c.seq]
      · simp only; rw [hcost]; omega
      · simp only; rw [hcost]; omega
      · simp only; rw [hcost, List.length_append, List.length_singleton]; omega
      dsimp only
      have e1 : (((c.seq + l.length : Nat) : Int) + 1) = ((c.seq + (l.length + 1) : Nat) : Int) := by omega
      have e2 : ((((tl + costT (l.map TxnE.T)) % n + (2 * t.pats.length + 1)) % n : Nat) : Int) = (((tl + (costT (l.map TxnE.T) + (2 * lp.length + 1))) % n : Nat) : Int) := by rw [hpl, hmod]
      have e3 : (((costT (l.map TxnE.T) : Nat) : Int) + (2 * (t.pats.length : Int) + 1)) = ((costT (l.map TxnE.T) + (2 * lp.length + 1) : Nat) : Int) := by rw [hpl]; omega
      refine Ent.trans (Ent.re (L := PatsO (t.ao, t.cap) t.pats :: PilP t.pats :: PilT l :: Row n9 61 [.slice so (l.length + 1) sc, .int .u64 (((c.seq + l.length : Nat) : Int) + 1), .int .i64 ((((tl + costT (l.map TxnE.T)) % n + (2 * t.pats.length + 1)) % n : Nat) : Int), .int .i64 (((costT (l.map TxnE.T) : Nat) : Int) + (2 * (t.pats.length : Int) + 1))] :: Sl.Own 25 2 (.slice so (l.length + 1) sc) (l.length + 1) (txnCells l ++ t.cells) :: Row n4 61 [.slice none 0 0, .int .u64 0, .int .i64 0, .int .i64 0] :: Row n3 57 c.cells :: R)) ?_
      refine Ent.trans (fun w hw => pile_push (res := TxnE.res) (TxnE.shut t hw)) ?_
      rw [txnsO_one, hcost, List.length_append, List.length_singleton, ← e1, ← e2, ← e3]
      exact Ent.re
  · have hmx : ¬ c.seq + l.length ≤ 4611686018427387904 := by have := of_decide_eq_false hc; omega
    have hfull : ofM (secB data) n c.epoch (n + 1) c.seq 0 tl = l.map TxnE.T := by
      rw [hof]
      cases f with
      | zero => exact List.append_nil _
      | succ f => unfold ofM; rw [if_neg hmx]; exact List.append_nil _
    (refine w ?_; repeat ((first | refine VO.step rfl rfl ?_ | refine VD.end rfl rfl rfl ?_ | refine VD.mid rfl rfl rfl ?_); refine OpV.box rfl rfl rfl ?_; intro _; refine w ?_))
    (first | refine VO.step rfl rfl ?_ | refine VD.end rfl rfl rfl ?_ | refine VD.mid rfl rfl rfl ?_)
    refine OpV.stA (vs := [.slice x.1 l.length x.2, .int .u64 ((c.seq + l.length : Nat) : Int), .int .i64 (((tl + costT (l.map TxnE.T)) % n : Nat) : Int), .int .i64 ((costT (l.map TxnE.T) : Nat) : Int)]) tab_ok rfl rfl rfl rfl (by simp [Value.oneCell']) (by (repeat first | exact .head | apply Hole.tail)) (by simp) ?_
    (refine w ?_; repeat ((first | refine VO.step rfl rfl ?_ | refine VD.end rfl rfl rfl ?_ | refine VD.mid rfl rfl rfl ?_); refine OpV.box rfl rfl rfl ?_; intro _; refine w ?_))
    refine VE.results2 (.inl rfl) (x, l) rfl (ResIs.agg (vs := [.slice x.1 l.length x.2, .int .u64 ((c.seq + l.length : Nat) : Int), .int .i64 (((tl + costT (l.map TxnE.T)) % n : Nat) : Int), .int .i64 ((costT (l.map TxnE.T) : Nat) : Int)]) tab_ok rfl rfl (by (focus repeat first | exact .head _ | apply List.Mem.tail)) rfl rfl) (.tmp rfl) (by rw [hfnd]; exact hfull.symm) (by rw [hfnd]; simp only [hfull, List.length_map]) ?_
    exact Ent.re

end Go.Proofs.Ytlojjlbngnaphaa
