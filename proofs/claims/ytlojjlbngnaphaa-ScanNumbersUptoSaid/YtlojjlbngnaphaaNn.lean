/- ScanNumbers: the numbers of what is found rise by one: the walk. -/
import Derived.Test.YtlojjlbngnaphaaNl
import Derived.Test.YtlojjlbngnaphaaNm
set_option maxRecDepth 8000
set_option linter.unusedVariables false
set_option linter.unusedSimpArgs false
set_option linter.unusedSectionVars false
namespace Go.Proofs.Ytlojjlbngnaphaa
open Go.RowKit Go.Sl
attribute [local irreducible] Own

theorem costT_le {sec : SecF} {n e s tl : Nat} : costT (ofM sec n e (n + 1) s 0 tl) ≤ n := by
  have := of_cost (sec := sec) (size := n) (e := e) (n + 1) s 0 tl (Nat.zero_le _); omega
/-- A later number at the same place: nothing. -/
theorem later_none {sec : SecF} {n e s tl : Nat} (htl : tl < n) (h : ofM sec n e (n + 1) s 0 tl ≠ []) : ofM sec n e (n + 1) (s + 1) 0 tl = [] := by
  have h0 : 0 < (ofM sec n e (n + 1) s 0 tl).length := List.length_pos_iff.2 h
  have h1 := of_each (n + 1) s 0 tl 0 _ (List.getElem?_eq_getElem h0)
  have h2 := h1.2.2
  rw [List.take_zero, show costT [] = 0 from rfl, Nat.add_zero, Nat.add_zero] at h2
  exact of_none (bat_other h2 (.inr (by omega)))
set_option maxHeartbeats 1000000 in
theorem numbers_law {W : World} {R : List SProp} {ao : Option Addr} {cap : Nat} {data : List UInt8} (hr : Rds W R 1 ao data.length (bytes data)) (hcap : data.length ≤ cap) (hlen : data.length ≤ 140737488351232) (c : ChkD) (hf : c.fit) :
    Does1 W Try.prog 8 [.slice ao data.length cap, .agg c.cells.toArray] R (.bool true) R := by
  obtain ⟨ep, sq, tz⟩ := c
  (refine Does.enter Try.func8 Try.ntmps8 rfl rfl ?_)
  (refine w ?_; repeat ((first | refine VO.step rfl rfl ?_ | refine VD.end rfl rfl rfl ?_ | refine VD.mid rfl rfl rfl ?_); refine OpV.box rfl rfl rfl ?_; intro _; refine w ?_))
  rename_i n3
  (refine VC.cond rfl rfl ?_ ?_ <;> intro hc)
  · (refine w ?_; repeat ((first | refine VO.step rfl rfl ?_ | refine VD.end rfl rfl rfl ?_ | refine VD.mid rfl rfl rfl ?_); refine OpV.box rfl rfl rfl ?_; intro _; refine w ?_))
    exact VE.done1 rfl rfl Ent.re
  have hle : data.length ≤ 300000 := by have := hc; simp at this; omega
  clear hc
  (refine w ?_; repeat ((first | refine VO.step rfl rfl ?_ | refine VD.end rfl rfl rfl ?_ | refine VD.mid rfl rfl rfl ?_); refine OpV.box rfl rfl rfl ?_; intro _; refine w ?_))
  have hO := of_ok (W := W) (R := Row n3 57 (ChkD.cells ⟨ep, sq, tz⟩) :: R) (cap := cap) (hr.ent (Ent.drop Ent.refl)) hcap hlen ⟨ep, sq, tz⟩ hf
  ((first | refine VO.step rfl rfl ?_ | refine VD.end rfl rfl rfl ?_ | refine VD.mid rfl rfl rfl ?_); refine OpV.call rfl rfl (fun _ _ => by simp) (hO) Ent.refl rfl ?_)
  rintro ⟨⟨o1, c1⟩, ts⟩ hts
  dsimp only at hts ⊢
  (refine w ?_; repeat ((first | refine VO.step rfl rfl ?_ | refine VD.end rfl rfl rfl ?_ | refine VD.mid rfl rfl rfl ?_); refine OpV.box rfl rfl rfl ?_; intro _; refine w ?_))
  ((first | refine VO.step rfl rfl ?_ | refine VD.end rfl rfl rfl ?_ | refine VD.mid rfl rfl rfl ?_); refine OpV.allocS sb_61 rfl ?_; intro n5)
  (refine w ?_; repeat ((first | refine VO.step rfl rfl ?_ | refine VD.end rfl rfl rfl ?_ | refine VD.mid rfl rfl rfl ?_); refine OpV.box rfl rfl rfl ?_; intro _; refine w ?_))
  (first | refine VO.step rfl rfl ?_ | refine VD.end rfl rfl rfl ?_ | refine VD.mid rfl rfl rfl ?_)
  refine OpV.stA (vs := [.slice o1 ts.length c1, .int .u64 ((foundM data ⟨ep, sq, tz⟩).2.next : Int), .int .i64 ((foundM data ⟨ep, sq, tz⟩).2.head : Int), .int .i64 ((foundM data ⟨ep, sq, tz⟩).2.used : Int)]) tab_ok rfl rfl rfl rfl (by simp [Value.oneCell']) (by (repeat first | exact .head | apply Hole.tail)) (by simp) ?_
  refine VO.ent (H' := Row n5 61 [.slice o1 ts.length c1, .int .u64 ((foundM data ⟨ep, sq, tz⟩).2.next : Int), .int .i64 ((foundM data ⟨ep, sq, tz⟩).2.head : Int), .int .i64 ((foundM data ⟨ep, sq, tz⟩).2.used : Int)] :: TxnsO (o1, c1) ts :: PilT ts :: Row n3 57 (ChkD.cells ⟨ep, sq, tz⟩) :: R) Ent.re ?_
  (refine w ?_; repeat ((first | refine VO.step rfl rfl ?_ | refine VD.end rfl rfl rfl ?_ | refine VD.mid rfl rfl rfl ?_); refine OpV.box rfl rfl rfl ?_; intro _; refine w ?_))
  (refine VC.cond rfl rfl ?_ ?_ <;> intro hc)
  · (refine w ?_; repeat ((first | refine VO.step rfl rfl ?_ | refine VD.end rfl rfl rfl ?_ | refine VD.mid rfl rfl rfl ?_); refine OpV.box rfl rfl rfl ?_; intro _; refine w ?_))
    ((first | refine VO.step rfl rfl ?_ | refine VD.end rfl rfl rfl ?_ | refine VD.mid rfl rfl rfl ?_); refine OpV.call rfl rfl (fun _ _ => by simp) (nknown_ok) Ent.refl rfl ?_)
    intro _ _
    (refine w ?_; repeat ((first | refine VO.step rfl rfl ?_ | refine VD.end rfl rfl rfl ?_ | refine VD.mid rfl rfl rfl ?_); refine OpV.box rfl rfl rfl ?_; intro _; refine w ?_))
    exact VE.done1 rfl rfl Ent.re
  have h0 : (foundM data ⟨ep, sq, tz⟩).1 = 0 := by simpa using hc
  clear hc
  obtain ⟨n, tl, hdn, hn5, htl, htn, hgood, hfd⟩ := found_facts h0
  dsimp only at htl
  subst htl
  have hct := (chk_iff _).1 hgood
  obtain ⟨F, hF⟩ : ∃ F, F = ofM (secB data) n ep (n + 1) sq 0 tl := ⟨_, rfl⟩
  dsimp only at hfd
  rw [← hF] at hfd
  rw [hfd] at hts ⊢
  dsimp only at hts hct ⊢
  have hcostF : costT F ≤ n := by rw [hF]; exact costT_le
  refine VC.ent (H' := Row n5 61 [.slice o1 ts.length c1, .int .u64 ((sq + F.length : Nat) : Int), .int .i64 (((tl + costT F) % n : Nat) : Int), .int .i64 ((costT F : Nat) : Int)] :: TxnsO (o1, c1) ts :: PilT ts :: Row n3 57 [.int .u64 ep, .int .u64 sq, .int .i64 (tl : Int)] :: R) Ent.refl ?_
  (refine w ?_; repeat ((first | refine VO.step rfl rfl ?_ | refine VD.end rfl rfl rfl ?_ | refine VD.mid rfl rfl rfl ?_); refine OpV.box rfl rfl rfl ?_; intro _; refine w ?_))
  (first | refine VO.pure rfl rfl (PureAt.quo (a := data.length) (b := 128) rfl rfl (by decide) (IntWalk.i64_in _ ⟨by omega, by omega⟩)) rfl ?_ | refine VD.take rfl rfl rfl (PureAt.quo (a := data.length) (b := 128) rfl rfl (by decide) (IntWalk.i64_in _ ⟨by omega, by omega⟩)) rfl ?_ | refine VQ.pure rfl rfl (PureAt.quo (a := data.length) (b := 128) rfl rfl (by decide) (IntWalk.i64_in _ ⟨by omega, by omega⟩)) rfl ?_ | refine VD.end rfl rfl rfl (OpV.pure (PureAt.quo (a := data.length) (b := 128) rfl rfl (by decide) (IntWalk.i64_in _ ⟨by omega, by omega⟩)) rfl ?_))
  refine VO.re 26 (.int .i64 n) rfl (by rw [show data.length / 128 = n by omega]) ?_
  (refine w ?_; repeat ((first | refine VO.step rfl rfl ?_ | refine VD.end rfl rfl rfl ?_ | refine VD.mid rfl rfl rfl ?_); refine OpV.box rfl rfl rfl ?_; intro _; refine w ?_))
  have hlenT : ts.length = F.length := by rw [← hts, List.length_map]
  (refine w ?_; repeat ((first | refine VO.step rfl rfl ?_ | refine VD.end rfl rfl rfl ?_ | refine VD.mid rfl rfl rfl ?_); refine OpV.box rfl rfl rfl ?_; intro _; refine w ?_))
  refine VC.know (p := ∀ t ∈ ts, t.ok) (fun w hw => PilT.know hw.tail.tail) ?_
  intro hok
  refine VC.know (p := o1 = none → ts.length = 0) (fun w hw => hw.tail.ownNone (.head _)) ?_
  intro hon
  have hRT : RdTxns W (Row n5 61 [.slice o1 ts.length c1, .int .u64 ((sq + F.length : Nat) : Int), .int .i64 (((tl + costT F) % n : Nat) : Int), .int .i64 ((costT F : Nat) : Int)] :: TxnsO (o1, c1) ts :: PilT ts :: Row n3 57 [.int .u64 ep, .int .u64 sq, .int .i64 (tl : Int)] :: R) o1 ts := RdTxns.own (x := (o1, c1)) hon hok (.tail _ (.head _)) (.tail _ (.tail _ (.head _)))
  refine VC.loop (α := Nat) (fun i => i ≤ ts.length) (fun _ => Row n5 61 [.slice o1 ts.length c1, .int .u64 ((sq + F.length : Nat) : Int), .int .i64 (((tl + costT F) % n : Nat) : Int), .int .i64 ((costT F : Nat) : Int)] :: TxnsO (o1, c1) ts :: PilT ts :: Row n3 57 [.int .u64 ep, .int .u64 sq, .int .i64 (tl : Int)] :: R)
    (fun i => [(0, .slice ao data.length cap), (3, .pointer (some ⟨n3, 0, none⟩)), (5, .pointer (some ⟨n5, 0, none⟩)), (7, .int .i64 n), (8, .int .i64 (costT (F.take i) : Nat)), (9, .int .i64 i)]) (fun i => ts.length - i) rfl 0 (Nat.zero_le _) Ent.re ⟨rfl, rfl, rfl, rfl, rfl, rfl, trivial⟩ ?_
  intro i hi
  have hci : costT (F.take i) ≤ costT F := by
    have h1 := costT_append (F.take i) (F.drop i)
    rw [List.take_append_drop] at h1; omega
  (refine w ?_; repeat ((first | refine VO.step rfl rfl ?_ | refine VD.end rfl rfl rfl ?_ | refine VD.mid rfl rfl rfl ?_); refine OpV.box rfl rfl rfl ?_; intro _; refine w ?_))
  (refine VC.cond rfl rfl ?_ ?_ <;> intro hc)
  · have hlt : i < ts.length := by have := of_decide_eq_true hc; omega
    have hlF : i < F.length := by omega
    have hTi : ts[i].T = F[i] := by
      have h1 : (ts.map TxnE.T)[i]? = F[i]? := by rw [hts]
      rw [List.getElem?_map, List.getElem?_eq_getElem hlt, List.getElem?_eq_getElem hlF] at h1
      injection h1
    have hro := of_rows (sec := secB data) (n := n) (e := ep) (s := sq) (tl := tl) (i := i) (t := F[i]) (by rw [← hF]; exact List.getElem?_eq_getElem hlF)
    rw [← hF, ← hTi] at hro
    obtain ⟨hseq, hfine, hrw⟩ := hro
    dsimp only [TxnE.T] at hseq hfine hrw
    have hpl : (ts[i].pats.map PatE.D).length = ts[i].pats.length := List.length_map ..
    have hib : sq + i ≤ 4611686018427387904 := by have := hfine.cnt.2.2; omega
    have hn1 : 1 ≤ ts[i].pats.length := by have := hfine.n1; omega
    have hn2 : ts[i].pats.length ≤ 1023 := by have := hfine.n2; omega
    have hv : ((ts[i].seq : Int) != IntKind.u64.wrap ((sq : Int) + IntKind.u64.wrap (i : Int))) = false := by
      rw [wrap64_of (by omega), ← Int.natCast_add, wrap64_of (by omega), hseq]; simp
    have hnz : (((ts[i].pats.length : Nat) : Int) == 0) = false := by
      have : ((ts[i].pats.length : Nat) : Int) ≠ 0 := by omega
      simpa using this
    obtain ⟨oa, rfl⟩ := some_of_pos hon (by omega)
    (refine w ?_; repeat ((first | refine VO.step rfl rfl ?_ | refine VD.end rfl rfl rfl ?_ | refine VD.mid rfl rfl rfl ?_); refine OpV.box rfl rfl rfl ?_; intro _; refine w ?_))
    ((refine VC.quiet rfl (by kernel_rfl) (by kernel_rfl) ?_); (refine w ?_; repeat ((first | refine VO.step rfl rfl ?_ | refine VD.end rfl rfl rfl ?_ | refine VD.mid rfl rfl rfl ?_); refine OpV.box rfl rfl rfl ?_; intro _; refine w ?_)))
    (first | refine VO.pure rfl rfl (PureAt.ldRc tab_ok rfl rfl hRT.rds (txn_get ts i 0 hlt (by decide))) rfl ?_ | refine VD.take rfl rfl rfl (PureAt.ldRc tab_ok rfl rfl hRT.rds (txn_get ts i 0 hlt (by decide))) rfl ?_ | refine VQ.pure rfl rfl (PureAt.ldRc tab_ok rfl rfl hRT.rds (txn_get ts i 0 hlt (by decide))) rfl ?_ | refine VD.end rfl rfl rfl (OpV.pure (PureAt.ldRc tab_ok rfl rfl hRT.rds (txn_get ts i 0 hlt (by decide))) rfl ?_))
    (refine w ?_; repeat ((first | refine VO.step rfl rfl ?_ | refine VD.end rfl rfl rfl ?_ | refine VD.mid rfl rfl rfl ?_); refine OpV.box rfl rfl rfl ?_; intro _; refine w ?_))
    (refine VQ.gF rfl rfl rfl (hv) ?_)
    (refine w ?_; repeat ((first | refine VO.step rfl rfl ?_ | refine VD.end rfl rfl rfl ?_ | refine VD.mid rfl rfl rfl ?_); refine OpV.box rfl rfl rfl ?_; intro _; refine w ?_))
    (first | refine VO.pure rfl rfl (PureAt.ldRc tab_ok rfl rfl hRT.rds (txn_get ts i 1 hlt (by decide))) rfl ?_ | refine VD.take rfl rfl rfl (PureAt.ldRc tab_ok rfl rfl hRT.rds (txn_get ts i 1 hlt (by decide))) rfl ?_ | refine VQ.pure rfl rfl (PureAt.ldRc tab_ok rfl rfl hRT.rds (txn_get ts i 1 hlt (by decide))) rfl ?_ | refine VD.end rfl rfl rfl (OpV.pure (PureAt.ldRc tab_ok rfl rfl hRT.rds (txn_get ts i 1 hlt (by decide))) rfl ?_))
    (refine w ?_; repeat ((first | refine VO.step rfl rfl ?_ | refine VD.end rfl rfl rfl ?_ | refine VD.mid rfl rfl rfl ?_); refine OpV.box rfl rfl rfl ?_; intro _; refine w ?_))
    (refine VC.condFe rfl rfl (hnz) ?_)
    (refine w ?_; repeat ((first | refine VO.step rfl rfl ?_ | refine VD.end rfl rfl rfl ?_ | refine VD.mid rfl rfl rfl ?_); refine OpV.box rfl rfl rfl ?_; intro _; refine w ?_))
    (first | refine VO.pure rfl rfl (PureAt.ldRc tab_ok rfl rfl hRT.rds (txn_get ts i 1 hlt (by decide))) rfl ?_ | refine VD.take rfl rfl rfl (PureAt.ldRc tab_ok rfl rfl hRT.rds (txn_get ts i 1 hlt (by decide))) rfl ?_ | refine VQ.pure rfl rfl (PureAt.ldRc tab_ok rfl rfl hRT.rds (txn_get ts i 1 hlt (by decide))) rfl ?_ | refine VD.end rfl rfl rfl (OpV.pure (PureAt.ldRc tab_ok rfl rfl hRT.rds (txn_get ts i 1 hlt (by decide))) rfl ?_))
    have hstep : costT (F.take (i + 1)) = costT (F.take i) + (2 * ts[i].pats.length + 1) := by
      rw [List.take_succ_eq_append_getElem hlF, costT_append, show costT [F[i]] = 2 * ts[i].pats.length + 1 by rw [← hTi, costT_cons]; simp [costT, TxnE.T]]
    have hnb := hn5.2
    (refine w ?_; repeat ((first | refine VO.step rfl rfl ?_ | refine VD.end rfl rfl rfl ?_ | refine VD.mid rfl rfl rfl ?_); refine OpV.box rfl rfl rfl ?_; intro _; refine w ?_))
    exact VE.round (i + 1) (by omega) (by omega) ⟨rfl, rfl, rfl, rfl, asV rfl (by rw [hstep]; congr 1), asV rfl (by congr 1), trivial⟩ Ent.re
  have hie : i = ts.length := by have := of_decide_eq_false hc; omega
  subst hie
  have hlb : F.length ≤ n := by
    have : F.length ≤ costT F := by
      rw [hF, of_numb, costT_numb, numb_length]; exact costL_len _
    omega
  clear hc
  refine VC.re 8 (.int .i64 (costT F : Nat)) rfl (by rw [hlenT, List.take_length]) ?_
  (refine w ?_; repeat ((first | refine VO.step rfl rfl ?_ | refine VD.end rfl rfl rfl ?_ | refine VD.mid rfl rfl rfl ?_); refine OpV.box rfl rfl rfl ?_; intro _; refine w ?_))
  ((refine VC.quiet rfl (by kernel_rfl) (by kernel_rfl) ?_); (refine w ?_; repeat ((first | refine VO.step rfl rfl ?_ | refine VD.end rfl rfl rfl ?_ | refine VD.mid rfl rfl rfl ?_); refine OpV.box rfl rfl rfl ?_; intro _; refine w ?_)))
  (refine VQ.gF rfl rfl rfl (by simp) ?_)
  (refine w ?_; repeat ((first | refine VO.step rfl rfl ?_ | refine VD.end rfl rfl rfl ?_ | refine VD.mid rfl rfl rfl ?_); refine OpV.box rfl rfl rfl ?_; intro _; refine w ?_))
  (refine VQ.gF rfl rfl rfl (by simp; omega) ?_)
  (refine w ?_; repeat ((first | refine VO.step rfl rfl ?_ | refine VD.end rfl rfl rfl ?_ | refine VD.mid rfl rfl rfl ?_); refine OpV.box rfl rfl rfl ?_; intro _; refine w ?_))
  (first | refine VO.pure rfl rfl (PureAt.rem (a := tl + costT F) (b := n) rfl rfl (by omega)) rfl ?_ | refine VD.take rfl rfl rfl (PureAt.rem (a := tl + costT F) (b := n) rfl rfl (by omega)) rfl ?_ | refine VQ.pure rfl rfl (PureAt.rem (a := tl + costT F) (b := n) rfl rfl (by omega)) rfl ?_ | refine VD.end rfl rfl rfl (OpV.pure (PureAt.rem (a := tl + costT F) (b := n) rfl rfl (by omega)) rfl ?_))
  (refine w ?_; repeat ((first | refine VO.step rfl rfl ?_ | refine VD.end rfl rfl rfl ?_ | refine VD.mid rfl rfl rfl ?_); refine OpV.box rfl rfl rfl ?_; intro _; refine w ?_))
  (refine VQ.gF rfl rfl rfl (by simp) ?_)
  (refine w ?_; repeat ((first | refine VO.step rfl rfl ?_ | refine VD.end rfl rfl rfl ?_ | refine VD.mid rfl rfl rfl ?_); refine OpV.box rfl rfl rfl ?_; intro _; refine w ?_))
  (refine VQ.gF rfl rfl rfl (by rw [hlenT, wrap64_of (by omega), ← Int.natCast_add, wrap64_of (by omega)]; simp) ?_)
  (refine VQ.call rfl rfl rfl rfl (fun _ _ => by simp) (nknown_ok) Ent.refl Ent.refl rfl ?_)
  (refine w ?_; repeat ((first | refine VO.step rfl rfl ?_ | refine VD.end rfl rfl rfl ?_ | refine VD.mid rfl rfl rfl ?_); refine OpV.box rfl rfl rfl ?_; intro _; refine w ?_))
  ((first | refine VO.split rfl rfl rfl ?_ ?_ | refine VD.split rfl rfl rfl ?_ ?_) <;> intro hb)
  · (refine w ?_; repeat ((first | refine VO.step rfl rfl ?_ | refine VD.end rfl rfl rfl ?_ | refine VD.mid rfl rfl rfl ?_); refine OpV.box rfl rfl rfl ?_; intro _; refine w ?_))
    exact VE.done1 rfl rfl Ent.re
  have hne : F ≠ [] := by
    have h1 : ¬ (ts.length : Int) = 0 := by simpa using hb
    intro q; rw [q, List.length_nil] at hlenT; omega
  have hpos : 0 < F.length := List.length_pos_iff.2 hne
  clear hb
  (refine w ?_; repeat ((first | refine VO.step rfl rfl ?_ | refine VD.end rfl rfl rfl ?_ | refine VD.mid rfl rfl rfl ?_); refine OpV.box rfl rfl rfl ?_; intro _; refine w ?_))
  (refine VC.cond rfl rfl ?_ ?_ <;> intro hc)
  · (refine w ?_; repeat ((first | refine VO.step rfl rfl ?_ | refine VD.end rfl rfl rfl ?_ | refine VD.mid rfl rfl rfl ?_); refine OpV.box rfl rfl rfl ?_; intro _; refine w ?_))
    exact VE.done1 rfl rfl Ent.re
  have hmx : sq + F.length ≤ 4611686018427387904 := by have := of_decide_eq_false hc; omega
  have hfit2 : (ChkD.mk ep (sq + 1) tl).fit := ⟨hf.epoch, by show sq + 1 < 2 ^ 64; omega, hf.tail⟩
  have hfd2 : foundM data ⟨ep, sq + 1, tl⟩ = (0, ⟨[], sq + 1, tl, 0⟩) := by
    rw [found_good (ring := data) (n := n) (e := ep) (s := sq + 1) (t := tl) (by omega) hn5 (by omega) (by omega) htn, later_none htn (by rw [← hF]; exact hne)]
    simp [costT, Nat.mod_eq_of_lt htn]
  (refine w ?_; repeat ((first | refine VO.step rfl rfl ?_ | refine VD.end rfl rfl rfl ?_ | refine VD.mid rfl rfl rfl ?_); refine OpV.box rfl rfl rfl ?_; intro _; refine w ?_))
  refine VO.re 118 (.int .u64 ((sq + 1 : Nat) : Int)) rfl (by congr 1; exact wrap64_of (v := sq + 1) (by omega)) ?_
  (refine w ?_; repeat ((first | refine VO.step rfl rfl ?_ | refine VD.end rfl rfl rfl ?_ | refine VD.mid rfl rfl rfl ?_); refine OpV.box rfl rfl rfl ?_; intro _; refine w ?_))
  (apply VO.pure rfl rfl; apply PureAt.build sb_57 rfl; (simp [buildX, setL, Value.cells]; rfl); rfl)
  have hO2 := of_ok (W := W) (R := Row n5 61 [.slice o1 ts.length c1, .int .u64 ((sq + F.length : Nat) : Int), .int .i64 (((tl + costT F) % n : Nat) : Int), .int .i64 ((costT F : Nat) : Int)] :: TxnsO (o1, c1) ts :: PilT ts :: Row n3 57 [.int .u64 ep, .int .u64 sq, .int .i64 (tl : Int)] :: R) (cap := cap) (hr.ent (Ent.drop (Ent.drop (Ent.drop (Ent.drop Ent.refl))))) hcap hlen ⟨ep, sq + 1, tl⟩ hfit2
  rw [hfd2] at hO2
  ((first | refine VO.step rfl rfl ?_ | refine VD.end rfl rfl rfl ?_ | refine VD.mid rfl rfl rfl ?_); refine OpV.call rfl rfl (fun _ _ => by simp) (hO2) Ent.refl rfl ?_)
  rintro ⟨⟨o2, c2⟩, ts2⟩ hts2
  dsimp only at hts2 ⊢
  have hnil : ts2 = [] := List.map_eq_nil_iff.1 hts2
  subst hnil
  (refine w ?_; repeat ((first | refine VO.step rfl rfl ?_ | refine VD.end rfl rfl rfl ?_ | refine VD.mid rfl rfl rfl ?_); refine OpV.box rfl rfl rfl ?_; intro _; refine w ?_))
  ((first | refine VO.step rfl rfl ?_ | refine VD.end rfl rfl rfl ?_ | refine VD.mid rfl rfl rfl ?_); refine OpV.allocS sb_61 rfl ?_; intro n6)
  (refine w ?_; repeat ((first | refine VO.step rfl rfl ?_ | refine VD.end rfl rfl rfl ?_ | refine VD.mid rfl rfl rfl ?_); refine OpV.box rfl rfl rfl ?_; intro _; refine w ?_))
  (first | refine VO.step rfl rfl ?_ | refine VD.end rfl rfl rfl ?_ | refine VD.mid rfl rfl rfl ?_)
  refine OpV.stA (vs := [.slice o2 0 c2, .int .u64 ((sq + 1 : Nat) : Int), .int .i64 (tl : Int), .int .i64 0]) tab_ok rfl rfl rfl rfl (by simp [Value.oneCell']) (by (repeat first | exact .head | apply Hole.tail)) (by simp) ?_
  (refine w ?_; repeat ((first | refine VO.step rfl rfl ?_ | refine VD.end rfl rfl rfl ?_ | refine VD.mid rfl rfl rfl ?_); refine OpV.box rfl rfl rfl ?_; intro _; refine w ?_))
  exact VE.done1 rfl rfl Ent.re
end Go.Proofs.Ytlojjlbngnaphaa
