import Derived.Test.YtdbhpikmagkopaaGreatM9
/-! Text Jm. -/
set_option maxRecDepth 8000
set_option maxHeartbeats 16000000
set_option linter.unusedVariables false
set_option linter.unusedSimpArgs false
set_option linter.unusedSectionVars false
namespace Go.Proofs.YtdbhpikmagkopaaGreat
open Go.RowKit Go.Sl
attribute [local irreducible] Sl.Own
variable {W : World} {R : List SProp}
theorem jnilK : Keeps W R none [] := ⟨⟨rfl, fun u hu => (by cases hu), fun _ => rfl, fun w hw a ha => (by cases ha)⟩, fun x hx => (by cases hx)⟩
theorem jfmt_capd {D : BayD} {c : Nat} (h : D.capd c) (slot places : Int) (e : Nat) : (wFormat D slot places e).2.capd (c + 2050) := by
 unfold wFormat
 split
 · exact h.mono (by omega)
 ·
  rename_i hb
  have hs : sizedB places = true := by simpa using fun q => hb (.inl q)
  have hs2 := of_decide_eq_true (show decide (5 <= places /\ places <= 2048) = true from hs)
  have h1 := wMany_capd (zeroL places.toNat) (s := (fresh0 slot e places.toNat, D)) h
  have hl : (zeroL places.toNat).length = places.toNat := by simp [zeroL]
  rw [hl] at h1
  split
  · exact h1.mono (by omega)
  ·
   have h2 := wCheck_capd h1 ⟨e, 1, 0⟩
   split
   · exact h2.mono (by omega)
   · exact h2.mono (by omega)
theorem jfmt_sane {D : BayD} (h : D.sane) (slot places : Int) (e : Nat) : (wFormat D slot places e).2.sane := by
 unfold wFormat
 split
 · exact h
 ·
  have h1 := wMany_sane (zeroL places.toNat) (s := (fresh0 slot e places.toNat, D)) h
  split
  · exact h1
  ·
   have h2 := wCheck_sane h1 ⟨e, 1, 0⟩
   split
   · exact h2
   · exact h2
theorem jfmt_some {D : BayD} {slot places : Int} {e : Nat} {v : WalD} (h : (wFormat D slot places e).1.1 = some v) : v = fresh0 slot e places.toNat /\ v.okk /\ v.slot = slot := by
 unfold wFormat at h
 split at h
 · cases h
 ·
  rename_i hb
  have hs : sizedB places = true := by simpa using fun q => hb (.inl q)
  have hs2 := of_decide_eq_true (show decide (5 <= places /\ places <= 2048) = true from hs)
  have he : e <= 4611686018427387904 := Nat.le_of_not_lt fun q => hb (.inr q)
  split at h
  · cases h
  ·
   split at h
   · cases h
   ·
    cases h
    exact ⟨rfl, ⟨fresh_ok ⟨by omega, by omega⟩ he, fun g hg => (by cases hg)⟩, rfl⟩
theorem jfmtW {w : Option Nat} {b : Nat} {o : Option WalD} {f : WalD} {Y : SProp} {X : List SProp} (h : w.isSome = o.isSome) (hv : ∀ v, o = some v -> v = f) : Ent W (w.elim (Y :: X) fun w => WalR w b f :: Y :: X) (walO1 w b o :: Y :: X) := by
  cases w with
  | none => exact fun w' hw => hw.factShut trivial
  | some w => cases o with
    | none => cases h
    | some d => rw [hv d rfl]; exact Ent.refl
theorem jfmtR {w : Option Nat} {b : Nat} {o : Option WalD} {f : WalD} {Y : SProp} {X : List SProp} (h : w.isSome = o.isSome) (hv : ∀ v, o = some v -> v = f) : Ent W (w.elim (Y :: X) fun w => RWalR w b f :: Y :: X) (rwalO1 w b o :: Y :: X) := by
  cases w with
  | none => exact fun w' hw => hw.factShut trivial
  | some w => cases o with
    | none => cases h
    | some d => rw [hv d rfl]; exact Ent.refl
theorem wdoes_law {so ao : Option Addr} {scap cap : Nat} {sz : List Int} {l : List OpE} (hsz : RdsA W 1 so sz.length (intsI sz)) (hszl : sz.length <= 140737488351232) (hbs : RdOps W ao l) (slot ring : Int) (epoch : Nat) (he : epoch < 2 ^ 64) :
    Does1 W Tryz.prog 3 [.slice so sz.length scap, .int .i64 slot, .int .i64 ring, .int .u64 epoch, .slice ao l.length cap] R (.bool true) R := by
  (refine Does.enter Tryz.func3 Tryz.ntmps3 rfl rfl ?_)
  refine w ?_; repeat (refine zj fun _ => ?_; refine w ?_)
  (refine zq ?_; refine zy rfl rfl (wmuchD_ok hbs) ?_)
  intro mu hmu
  cases mu with
  | true =>
    refine w ?_; repeat (refine zj fun _ => ?_; refine w ?_)
    exact VE.done1 rfl rfl Ent.refl
  | false =>
  obtain ⟨hf, hfd⟩ := hmu rfl
  refine w ?_; repeat (refine zj fun _ => ?_; refine w ?_)
  refine zk ?_ ?_ <;> intro hc
  · refine w ?_; repeat (refine zj fun _ => ?_; refine w ?_)
    exact VE.done1 rfl rfl Ent.refl
  have h17 : sz.length <= 17 := by have := of_decide_eq_false hc; omega
  clear hc
  refine w ?_; repeat (refine zj fun _ => ?_; refine w ?_)
  (refine zq ?_; refine zy rfl rfl (lbays_ok (hsz R) (by omega)) ?_)
  intro x hx
  refine w ?_; repeat (refine zj fun _ => ?_; refine w ?_)
  (refine zq ?_; refine zy rfl rfl (jknown_ok) ?_)
  intro _ _
  refine w ?_; repeat (refine zj fun _ => ?_; refine w ?_)
  cases x with
  | none =>
    (refine VC.condTe rfl rfl (rfl) ?_)
    refine w ?_; repeat (refine zj fun _ => ?_; refine w ?_)
    exact VE.done1 rfl rfl Ent.refl
  | some y =>
  obtain ⟨b, c⟩ := y
  (refine VC.condFe rfl rfl (rfl) ?_)
  refine VC.ent (H' := BayR b (BayD.new sz) :: RBayR c (BayD.new sz) :: R) Ent.refl ?_
  refine w ?_; repeat (refine zj fun _ => ?_; refine w ?_)
  (apply VO.pure rfl rfl; apply PureAt.build sb_35 rfl; (simp [buildX, setL, Value.cells]; rfl); rfl)
  refine w ?_; repeat (refine zj fun _ => ?_; refine w ?_)
  rename_i p
  obtain ⟨F, hF⟩ : ∃ F, F = wFormat (BayD.new sz) slot ring epoch := ⟨_, rfl⟩
  have hFc := jfmt_capd (new_capd sz) slot ring epoch
  have hFs := jfmt_sane (BayD.sane.new sz) slot ring epoch
  have hFv : ∀ v, F.1.1 = some v -> v = fresh0 slot epoch ring.toNat /\ v.okk /\ v.slot = slot := fun v hv => jfmt_some (by rw [<- hF]; exact hv)
  rw [<- hF] at hFc hFs
  refine VO.ent (H' := BayR b (BayD.new sz) :: Row p 35 [.pointer (some ⟨b, 0, none⟩), .pointer (some ⟨c, 0, none⟩), .pointer none, .pointer none, .int .i64 slot, .int .i64 ring] :: RBayR c (BayD.new sz) :: R) Ent.re ?_
  (refine zq ?_; refine zy rfl rfl (walformat_ok b slot ring he (new_capd sz) (by omega)) ?_)
  rw [<- hF]
  intro xw hw
  refine VO.ent (jfmtW (o := F.1.1) hw (fun v hv => (hFv v hv).1)) ?_
  refine VO.ent (H' := RBayR c (BayD.new sz) :: walO1 xw b F.1.1 :: BayR b F.2 :: Row p 35 [.pointer (some ⟨b, 0, none⟩), .pointer (some ⟨c, 0, none⟩), .pointer none, .pointer none, .int .i64 slot, .int .i64 ring] :: R) Ent.re ?_
  refine w ?_; repeat (refine zj fun _ => ?_; refine w ?_)
  (refine zq ?_; refine zy rfl rfl (rwformat_ok c slot ring he (BayD.sane.new sz) (new_capd sz) (by omega)) ?_)
  rw [<- hF]
  intro xv hv
  refine VO.ent (jfmtR (o := F.1.1) hv (fun v hv => (hFv v hv).1)) ?_
  refine w ?_; repeat (refine zj fun _ => ?_; refine w ?_)
  (first | refine VO.gF rfl rfl rfl (by simp) ?_ | refine VD.gF rfl rfl rfl (by simp) ?_)
  refine w ?_; repeat (refine zj fun _ => ?_; refine w ?_)
  (refine VC.condFe rfl rfl (by cases xw <;> cases xv <;> first | rfl | (rw [<- hv] at hw; cases hw)) ?_)
  refine w ?_; repeat (refine zj fun _ => ?_; refine w ?_)
  ((first | apply VO.pure rfl rfl | apply VD.take rfl rfl rfl | (refine VD.end rfl rfl rfl ?_; apply OpV.pure)); apply PureAt.build sb_56 rfl; (simp [buildX, setL, Value.cells]; rfl); rfl)
  refine w ?_; repeat (refine zj fun _ => ?_; refine w ?_)
  rename_i bk
  obtain ⟨j1, j2, j3⟩ := joinJ_d hw hv
  refine VC.ent (H' := stMem p b c bk slot ring ⟨joinJ xw xv F.1.1, F.2, ⟨[], [], [], []⟩⟩ R) ?_ ?_
  · unfold stMem pairRow
    dsimp only
    rw [j2, j3]
    refine Ent.trans (Ent.re (L := Row bk 56 (bkCells nilS nilS nilS nilS) :: walO1 xw b F.1.1 :: rwalO1 xv c F.1.1 :: Row p 35 [.pointer (some ⟨b, 0, none⟩), .pointer (some ⟨c, 0, none⟩), ptrO xw, ptrO xv, .int .i64 slot, .int .i64 ring] :: BayR b F.2 :: RBayR c F.2 :: R)) ?_
    refine Ent.trans BookQ.start ?_
    refine Ent.trans (Ent.re (L := walO1 xw b F.1.1 :: rwalO1 xv c F.1.1 :: Row p 35 [.pointer (some ⟨b, 0, none⟩), .pointer (some ⟨c, 0, none⟩), ptrO xw, ptrO xv, .int .i64 slot, .int .i64 ring] :: BayR b F.2 :: RBayR c F.2 :: BookQ bk ⟨[], [], [], []⟩ :: R)) ?_
    exact Ent.trans (joinJ_in hw hv) Ent.re
  have hs0 : StJ.ok ⟨joinJ xw xv F.1.1, F.2, ⟨[], [], [], []⟩⟩ slot 2050 0 := ⟨hFs, by simpa using hFc, fun j hj => by
    rw [show joinJ xw xv F.1.1 = some j from hj] at j1
    exact (hFv j.d j1.symm).2, BkT.start⟩
  generalize (⟨joinJ xw xv F.1.1, F.2, ⟨[], [], [], []⟩⟩ : StJ) = s0 at hs0 ⊢
  refine VC.loop (α := Nat × StJ) (fun y => y.1 <= l.length /\ y.2.ok slot (2050 + 4100 * y.1) y.1) (fun y => stMem p b c bk slot ring y.2 R)
    (fun y => [(4, .slice ao l.length cap), (14, .pointer (some ⟨p, 0, none⟩)), (19, .pointer (some ⟨bk, 0, none⟩)), (20, .int .i64 y.1)]) (fun y => l.length - y.1) rfl (0, s0) ⟨Nat.zero_le _, hs0⟩ Ent.refl ⟨rfl, rfl, rfl, rfl, trivial⟩ ?_
  rintro ⟨i, s⟩ ⟨hi, hs⟩
  dsimp only at hi hs ⊢
  have hl5 := hf.len
  refine w ?_; repeat (refine zj fun _ => ?_; refine w ?_)
  refine zk ?_ ?_ <;> intro hc
  · have hlt : i < l.length := by have := of_decide_eq_true hc; omega
    clear hc
    have hr := hbs.rds (stMem p b c bk slot ring s R)
    obtain ⟨a, rfl⟩ := some_of_pos hr.nil (by omega)
    refine w ?_; repeat (refine zj fun _ => ?_; refine w ?_)
    (refine zq ?_; refine zy rfl rfl (lstands_ok (R := BookQ bk s.B :: R) p b c s.o slot ring hs.sane hs.capd (by omega)) ?_)
    intro _ _
    refine w ?_; repeat (refine zj fun _ => ?_; refine w ?_)
    (first | refine VO.gF rfl rfl rfl (rfl) ?_ | refine VD.gF rfl rfl rfl (rfl) ?_)
    refine w ?_; repeat (refine zj fun _ => ?_; refine w ?_)
    refine VO.pure rfl rfl (.ldRA tab_ok rfl rfl hr (opsC_at l i hlt) rfl) rfl ?_
    refine w ?_; repeat (refine zj fun _ => ?_; refine w ?_)
    (refine zq ?_; refine zy rfl rfl (ldoes_ok p b c bk slot ring s l[i] (hbs.each _ (List.getElem_mem hlt)) (hf.each _ (List.getElem_mem hlt)).1 (hfd _ (List.getElem_mem hlt)) hs (by omega) (by omega)) ?_)
    intro y hy
    refine w ?_; repeat (refine zj fun _ => ?_; refine w ?_)
    exact VE.round (i + 1, y) ⟨hlt, ⟨hy.sane, hy.capd.mono (by dsimp only; omega), hy.wal, hy.book⟩⟩ (by simp only; omega) ⟨rfl, rfl, rfl, asV rfl (by congr 1), trivial⟩ Ent.refl
  have hge : i = l.length := by have := of_decide_eq_false hc; omega
  clear hc
  refine w ?_; repeat (refine zj fun _ => ?_; refine w ?_)
  (refine zq ?_; refine zy rfl rfl (lstands_ok (R := BookQ bk s.B :: R) p b c s.o slot ring hs.sane hs.capd (by omega)) ?_)
  intro _ _
  refine w ?_; repeat (refine zj fun _ => ?_; refine w ?_)
  refine VO.ent (H' := BayR b s.D :: pairRow p b c s.o slot ring :: RBayR c s.D :: walsJ b c s.o :: BookQ bk s.B :: R) Ent.re ?_
  (refine zq ?_; refine zy rfl rfl (baycut_ok (kl := []) b s.D jnilK) ?_)
  intro _ _
  refine w ?_; repeat (refine zj fun _ => ?_; refine w ?_)
  refine VO.ent (H' := RBayR c s.D :: BayR b (s.D.cut []) :: pairRow p b c s.o slot ring :: walsJ b c s.o :: BookQ bk s.B :: R) Ent.re ?_
  (refine zq ?_; refine zy rfl rfl (rbaycut_ok (kl := []) c s.D jnilK.rds (fun y hy => by cases hy) (fun t ht v hv => Nat.le_trans (hs.capd t ht v (.inl hv)) (by omega)) (fun t ht => (hs.sane.slot t ht).1)) ?_)
  intro _ _
  refine w ?_; repeat (refine zj fun _ => ?_; refine w ?_)
  refine VO.ent (H' := pairRow p b c s.o slot ring :: BayR b (s.D.cut []) :: RBayR c (s.D.cut []) :: walsJ b c s.o :: BookQ bk s.B :: R) Ent.re ?_
  (refine zq ?_; refine zy rfl rfl (limages_ok p b c s.o slot ring) ?_)
  intro _ _
  refine w ?_; repeat (refine zj fun _ => ?_; refine w ?_)
  refine VO.ent (H' := BookQ bk s.B :: R) Ent.re ?_
  (refine zq ?_; refine zy rfl rfl (bkownT_ok bk s.B (hs.book.ok (by omega)) hs.book.F) ?_)
  intro _ _
  refine w ?_; repeat (refine zj fun _ => ?_; refine w ?_)
  exact VE.done1 rfl rfl Ent.re
end Go.Proofs.YtdbhpikmagkopaaGreat
