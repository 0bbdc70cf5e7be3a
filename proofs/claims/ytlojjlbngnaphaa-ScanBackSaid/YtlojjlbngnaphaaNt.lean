/- ScanFrom: a later checkpoint finds that batch and those behind: the walk. -/
import Derived.Test.YtlojjlbngnaphaaNs
set_option maxRecDepth 8000
set_option linter.unusedVariables false
set_option linter.unusedSimpArgs false
set_option linter.unusedSectionVars false
namespace Go.Proofs.Ytlojjlbngnaphaa
open Go.RowKit Go.Sl
attribute [local irreducible] Own

theorem Took.seq {W : World} {e s n : Nat} {ts : List TxnE} {rows : List RowE} (h : Took W e s n ts rows) {j : Nat} (hj : j < ts.length) : ts[j].seq = s + j := by
  have h1 : (ts.map TxnE.T)[j]? = (numb s (lsOf ts))[j]? := by rw [h.num]
  rw [numb_get _ _ _ (by rw [lsOf_length]; exact hj), List.getElem?_map, List.getElem?_eq_getElem hj] at h1
  injection h1 with h1
  exact congrArg Prod.fst h1
theorem Took.dropT {W : World} {e s n : Nat} {ts : List TxnE} {rows : List RowE} (h : Took W e s n ts rows) (j : Nat) : (ts.drop j).map TxnE.T = numb (s + j) ((lsOf ts).drop j) := by
  rw [← numb_drop, List.map_drop, h.num]
theorem Took.takeT {W : World} {e s n : Nat} {ts : List TxnE} {rows : List RowE} (h : Took W e s n ts rows) (j : Nat) : (ts.take j).map TxnE.T = numb s ((lsOf ts).take j) := by
  rw [List.map_take, h.num]
  have h1 := numb_append ((lsOf ts).take j) ((lsOf ts).drop j) s
  rw [List.take_append_drop] at h1
  by_cases hj : j ≤ (lsOf ts).length
  · rw [h1, List.take_left' (by rw [numb_length, List.length_take]; omega)]
  · rw [List.take_of_length_le (by rw [numb_length]; omega), List.take_of_length_le (by omega)]
def TFew (ts : List TxnE) : Prop := ∀ t ∈ ts, t.pats.length ≤ 140737488351232 ∧ ∀ p ∈ t.pats, p.d.data.length ≤ maxLen
theorem TFew.of {us vs : List TxnE} (h : us.map TxnE.T = vs.map TxnE.T) (hv : TFew vs) : TFew us := by
  intro t ht
  have h1 : t.T ∈ vs.map TxnE.T := by rw [← h]; exact List.mem_map_of_mem ht
  obtain ⟨v, hv1, hv2⟩ := List.mem_map.1 h1
  have e : v.pats.map PatE.D = t.pats.map PatE.D := congrArg Prod.snd hv2
  obtain ⟨q1, q2⟩ := hv v hv1
  have e2 := congrArg List.length e
  rw [List.length_map, List.length_map] at e2
  refine ⟨by omega, fun p hp => ?_⟩
  have h2 : p.D ∈ v.pats.map PatE.D := by rw [e]; exact List.mem_map_of_mem hp
  obtain ⟨p', hp', e3⟩ := List.mem_map.1 h2
  have e4 : p'.d.data = p.d.data := congrArg PatD.data e3
  rw [← e4]; exact q2 p' hp'
theorem txnCells_drop (ts : List TxnE) (j : Nat) : txnCells (ts.drop j) = (txnCells ts).drop (j * 2) := by
  induction ts generalizing j with
  | nil => simp [txnCells]
  | cons t r ih =>
    cases j with
    | zero => simp
    | succ j =>
      rw [List.drop_succ_cons, ih]
      show _ = (t.cells ++ txnCells r).drop ((j + 1) * 2)
      rw [show (j + 1) * 2 = t.cells.length + j * 2 by simp [TxnE.cells]; omega, List.drop_append]; simp
theorem txnCells_take (ts : List TxnE) (j : Nat) : txnCells (ts.take j) = (txnCells ts).take (j * 2) := by
  induction ts generalizing j with
  | nil => simp [txnCells]
  | cons t r ih =>
    cases j with
    | zero => simp [txnCells]
    | succ j =>
      rw [List.take_succ_cons]
      show t.cells ++ txnCells (r.take j) = (t.cells ++ txnCells r).take ((j + 1) * 2)
      have hc : t.cells.length = 2 := rfl
      rw [ih, List.take_append, List.take_of_length_le (l := t.cells) (by omega), hc, show (j + 1) * 2 - 2 = j * 2 by omega]
theorem RdTxns.drop {W : World} {H : List SProp} {ao : Option Addr} {cap j : Nat} {ts : List TxnE} (h : RdTxns W H ao ts) (hj : j ≤ ts.length) (hc : ts.length ≤ cap) : RdTxns W H (subA ao cap j 2) (ts.drop j) := by
  have h1 := h.rds.sub (cap := cap) (l := j) (h := ts.length) hj (Nat.le_refl _) hc
  rw [show ((txnCells ts).drop (j * 2)).take ((ts.length - j) * 2) = txnCells (ts.drop j) by
    rw [txnCells_drop, List.take_of_length_le (by rw [List.length_drop, txns_len]; omega)], ← List.length_drop] at h1
  exact ⟨h1, fun t ht => h.each t (List.mem_of_mem_drop ht), fun t ht => h.ok t (List.mem_of_mem_drop ht)⟩
theorem RdTxns.take {W : World} {H : List SProp} {ao : Option Addr} {j : Nat} {ts : List TxnE} (h : RdTxns W H ao ts) (hj : j ≤ ts.length) : RdTxns W H ao (ts.take j) := by
  have h1 := h.rds.take hj
  have hl : (ts.take j).length = j := by rw [List.length_take]; omega
  rw [← txnCells_take] at h1
  refine ⟨?_, fun t ht => h.each t (List.mem_of_mem_take ht), fun t ht => h.ok t (List.mem_of_mem_take ht)⟩
  rw [hl]; exact h1
theorem sec_zero {n k : Nat} (h : k < n) : secB (List.replicate (n * 128) 0) k = List.replicate 128 0 := by
  unfold secB
  rw [List.drop_replicate, List.take_replicate]
  congr 1; omega
theorem nought_head : (List.replicate 128 (0 : UInt8)).take 4 ≠ magicL := by decide
/-- The ring of noughts with what was taken laid in. -/
theorem Took.lays {W : World} {e s n : Nat} {ts : List TxnE} {rows : List RowE} (h : Took W e s n ts rows) {ring : List UInt8} {at_ : Nat} (hl : ring.length = 128 * n) (hn : 0 < n) :
    Lays (secB (laidN ring at_ (rows.map RowE.data) rows.length)) n e s at_ (lsOf ts) := by
  have := lays_of (at_ := at_) hl hn h.fine h.cost
  rwa [← h.rows, ← h.rlen] at this
theorem Took.zeros {W : World} {e s n : Nat} {ts : List TxnE} {rows : List RowE} (h : Took W e s n ts rows) {at_ : Nat} (hn : 0 < n) :
    ∀ j, costL (lsOf ts) ≤ j → j < n → (secB (laidN (List.replicate (n * 128) 0) at_ (rows.map RowE.data) rows.length) ((at_ + j) % n)).take 4 ≠ magicL := by
  intro j h1 h2
  have hm128 : ∀ r ∈ rows.map RowE.data, r.length = 128 := fun r hr => by obtain ⟨e, he, rfl⟩ := List.mem_map.1 hr; exact h.r128 e he
  have hc := h.cost
  have hrl := h.rlen
  have := (sec_laid (ring := List.replicate (n * 128) 0) (at_ := at_) (n := n) (rows := rows.map RowE.data) (by rw [List.length_replicate]; omega) hn hm128 (by rw [List.length_map]; omega) rows.length (by rw [List.length_map]; exact Nat.le_refl _)).2 j (by omega) h2
  rw [this, sec_zero (Nat.mod_lt _ hn)]
  exact nought_head

set_option maxHeartbeats 2000000 in
theorem from_law {W : World} {R : List SProp} {lo : Option Addr} {lc sz tl sq k : Nat} {l : List PlsE} (h1 : sz < 256) (h2 : tl < 256) (h3 : sq < 65536) (h4 : k < 256) (hl : RdsA W 1 lo l.length (l.map PlsE.hdr)) (hwf : ∀ p ∈ l, p.wf W) (hlen : l.length ≤ 140737488351232) :
    Does1 W Try.prog 7 [.int .u8 sz, .int .u8 tl, .int .u16 sq, .slice lo l.length lc, .int .u8 k] R (.bool true) R := by
  (refine Does.enter Try.func7 Try.ntmps7 rfl rfl ?_)
  (refine w ?_; repeat ((first | refine VO.step rfl rfl ?_ | refine VD.end rfl rfl rfl ?_ | refine VD.mid rfl rfl rfl ?_); refine OpV.box rfl rfl rfl ?_; intro _; refine w ?_))
  ((first | refine VO.step rfl rfl ?_ | refine VD.end rfl rfl rfl ?_ | refine VD.mid rfl rfl rfl ?_); refine OpV.call rfl rfl (fun _ _ => by simp) (ringof_ok (lc := lc) h1 h2 h3 hl hwf hlen) Ent.refl rfl ?_)
  obtain ⟨n, hn⟩ : ∃ n, n = sz % 60 + 5 := ⟨_, rfl⟩
  rw [← hn]
  obtain ⟨at_, hat⟩ : ∃ a, a = tl % n := ⟨_, rfl⟩
  rw [← hat]
  have hn5 : 5 ≤ n ∧ n ≤ 64 := by omega
  have hatn : at_ < n := by rw [hat]; exact Nat.mod_lt _ (by omega)
  rintro ⟨⟨i0, ts, rows, ⟨t1, t2⟩, rx, ⟨b1, b2⟩⟩, ro, rc⟩ ⟨hT, h40⟩
  dsimp only at hT h40 ⊢
  have hlays := hT.lays (ring := List.replicate (n * 128) 0) (at_ := at_) (by rw [List.length_replicate]; omega) (by omega)
  have hzer := hT.zeros (at_ := at_) (by omega)
  have hringl : (laidN (List.replicate (n * 128) 0) at_ (rows.map RowE.data) rows.length).length = 128 * n :=
    laidN_length (by rw [List.length_replicate]; omega) (by omega) (fun r hr => by obtain ⟨e, he, rfl⟩ := List.mem_map.1 hr; exact hT.r128 e he) _
  generalize laidN (List.replicate (n * 128) 0) at_ (rows.map RowE.data) rows.length = ring at *
  refine VO.know (p := t1 = none → ts.length = 0) (fun w hw => hw.tail.ownNone (.head _)) ?_
  intro htn
  refine VO.know (p := ts.length ≤ t2) (fun w hw => hw.tail.ownCap (.head _)) ?_
  intro htc
  refine VO.know (p := b1 = none → ts.length = 0) (fun w hw => hw.tail.tail.ownNone (.head _)) ?_
  intro hbn
  refine VO.know (p := ro = none → ring.length = 0) (fun w hw => hw.ownNone (.head _)) ?_
  intro hron
  refine VO.know (p := ring.length ≤ rc) (fun w hw => hw.ownCap (.head _)) ?_
  intro hrc
  (refine w ?_; repeat ((first | refine VO.step rfl rfl ?_ | refine VD.end rfl rfl rfl ?_ | refine VD.mid rfl rfl rfl ?_); refine OpV.box rfl rfl rfl ?_; intro _; refine w ?_))
  ((first | refine VO.step rfl rfl ?_ | refine VD.end rfl rfl rfl ?_ | refine VD.mid rfl rfl rfl ?_); refine OpV.call rfl rfl (fun _ _ => by simp) (nknown_ok) Ent.refl rfl ?_)
  intro _ _
  (refine w ?_; repeat ((first | refine VO.step rfl rfl ?_ | refine VD.end rfl rfl rfl ?_ | refine VD.mid rfl rfl rfl ?_); refine OpV.box rfl rfl rfl ?_; intro _; refine w ?_))
  (refine VC.cond rfl rfl ?_ ?_ <;> intro hc)
  · (refine w ?_; repeat ((first | refine VO.step rfl rfl ?_ | refine VD.end rfl rfl rfl ?_ | refine VD.mid rfl rfl rfl ?_); refine OpV.box rfl rfl rfl ?_; intro _; refine w ?_))
    exact VE.done1 rfl rfl Ent.re
  have hpos : 0 < ts.length := by
    have h1 : ¬ (ts.length : Int) = 0 := by simpa using hc
    omega
  clear hc
  obtain ⟨ta, rfl⟩ := some_of_pos htn hpos
  obtain ⟨ba, rfl⟩ := some_of_pos hbn hpos
  (refine w ?_; repeat ((first | refine VO.step rfl rfl ?_ | refine VD.end rfl rfl rfl ?_ | refine VD.mid rfl rfl rfl ?_); refine OpV.box rfl rfl rfl ?_; intro _; refine w ?_))
  refine VO.re 32 (.int .i64 (k : Int)) rfl (by rw [IntWalk.i64_in _ ⟨by omega, by omega⟩]) ?_
  (first | refine VO.pure rfl rfl (PureAt.rem (a := k) (b := ts.length) rfl rfl hpos) rfl ?_ | refine VD.take rfl rfl rfl (PureAt.rem (a := k) (b := ts.length) rfl rfl hpos) rfl ?_ | refine VQ.pure rfl rfl (PureAt.rem (a := k) (b := ts.length) rfl rfl hpos) rfl ?_ | refine VD.end rfl rfl rfl (OpV.pure (PureAt.rem (a := k) (b := ts.length) rfl rfl hpos) rfl ?_))
  obtain ⟨j, hj⟩ : ∃ j, j = k % ts.length := ⟨_, rfl⟩
  have hjl : j < ts.length := by rw [hj]; exact Nat.mod_lt _ hpos
  have hjls : j < (lsOf ts).length := by rw [lsOf_length]; exact hjl
  rw [← hj]
  (refine w ?_; repeat ((first | refine VO.step rfl rfl ?_ | refine VD.end rfl rfl rfl ?_ | refine VD.mid rfl rfl rfl ?_); refine OpV.box rfl rfl rfl ?_; intro _; refine w ?_))
  have hRT : RdTxns W (OwnB (ro, rc) ring :: TxnsO (some ta, t2) ts :: BegO (fun c => (at_ + c) % n) (some ba, b2) (lsOf ts) ts.length :: R) (some ta) ts := hT.rds (x := (some ta, t2)) (by simp) (.tail _ (.head _))
  have hRB : Rds W (OwnB (ro, rc) ring :: TxnsO (some ta, t2) ts :: BegO (fun c => (at_ + c) % n) (some ba, b2) (lsOf ts) ts.length :: R) 1 (some ba) ts.length (begV (fun c => (at_ + c) % n) (lsOf ts)) := Rds.own (begV_one _ _) (.tail _ (.tail _ (.head _))) (by rw [begV_length, lsOf_length]; omega) (by simp)
  have hsj : ts[j].seq = sq + 1 + j := hT.seq hjl
  have hbound : (at_ + costL ((lsOf ts).take j)) % n < n := Nat.mod_lt _ (by omega)
  have hfd : foundM ring ⟨9, sq + 1 + j, ((at_ + costL ((lsOf ts).take j)) % n : Nat)⟩ = (0, ⟨(ts.drop j).map TxnE.T, sq + 1 + ts.length, ((at_ + costL ((lsOf ts).take j)) % n + costT (numb (sq + 1 + j) ((lsOf ts).drop j))) % n, costT (numb (sq + 1 + j) ((lsOf ts).drop j))⟩) := by
    rw [found_good hringl ⟨by omega, by omega⟩ (by decide) ⟨by omega, by omega⟩ hbound, hlays.just hzer hatn hjls, hT.dropT, numb_length, List.length_drop, lsOf_length, show sq + 1 + j + (ts.length - j) = sq + 1 + ts.length by omega]
  refine VC.drawnX [11, 15, 16] 17 15 [0, 1, 2, 3, 4, 5, 6, 7, 8, 9, 10, 11, 12, 13, 14, 15, 16, 17] _ 15 (fun b => Row b 61 [.slice none 0 0, .int .u64 0, .int .i64 0, .int .i64 0]) (fun b => .pointer (some ⟨b, 0, none⟩)) rfl (by kernel_rfl) (by kernel_rfl) Ent.refl ?_
  (repeat (apply VX.take rfl rfl rfl rfl; (first | (apply PureAt.ar64 rfl rfl rfl; omega) | exact .eval tab_ok rfl | (apply PureAt.ld tab_ok rfl rfl; (focus repeat first | exact .head _ | apply List.Mem.tail); rfl) | (apply PureAt.shr rfl rfl (by decide) (by decide)) | (apply PureAt.shr rfl rfl (by omega) (by simp only [IntKind.bits]; omega)) | exact .fieldAddrA tab_ok rfl rfl | exact .sliceLH tab_ok rfl rfl rfl rfl (by omega) (by omega) | exact .sliceH tab_ok rfl rfl rfl (by omega) | exact .sliceL tab_ok rfl rfl rfl (by omega) | (first | exact .indexAddr tab_ok rfl rfl rfl rfl (by omega) | exact .indexAddrN tab_ok rfl rfl rfl rfl (by omega) | exact .indexAddrI tab_ok rfl rfl rfl rfl (toNatLit _) (by decide) (by omega) | exact .indexAddrNI tab_ok rfl rfl rfl rfl (toNatLit _) (by decide) (by omega) | exact .ldR tab_ok rfl rfl hr1 (List.getElem?_eq_getElem (by omega)) | exact .ldR tab_ok rfl rfl hr2 (List.getElem?_eq_getElem (by omega)) | exact ldB tab_ok rfl rfl hb1 (by omega) | exact ldB tab_ok rfl rfl hb2 (by omega)) | exact .sliceHI tab_ok rfl rfl rfl (toNatLit _) (by decide) (by omega) | exact .sliceLI tab_ok rfl rfl rfl (toNatLit _) (by decide) (by omega) | (apply PureAt.ldA tab_ok rfl rfl; (focus repeat first | exact .head _ | apply List.Mem.tail); rfl; rfl) | exact .ldro tab_ok rfl rfl (by assumption)); rfl; rfl; rfl))
  refine VX.take rfl rfl rfl rfl (PureAt.ldRc tab_ok rfl rfl hRT.rds (txn_get ts j 0 hjl (by decide))) rfl rfl rfl ?_
  refine VX.re 42 (.int .u64 ((sq + 1 + j : Nat) : Int)) rfl (by rw [hsj]) rfl rfl ?_
  (repeat (apply VX.take rfl rfl rfl rfl; (first | (apply PureAt.ar64 rfl rfl rfl; omega) | exact .eval tab_ok rfl | (apply PureAt.ld tab_ok rfl rfl; (focus repeat first | exact .head _ | apply List.Mem.tail); rfl) | (apply PureAt.shr rfl rfl (by decide) (by decide)) | (apply PureAt.shr rfl rfl (by omega) (by simp only [IntKind.bits]; omega)) | exact .fieldAddrA tab_ok rfl rfl | exact .sliceLH tab_ok rfl rfl rfl rfl (by omega) (by omega) | exact .sliceH tab_ok rfl rfl rfl (by omega) | exact .sliceL tab_ok rfl rfl rfl (by omega) | (first | exact .indexAddr tab_ok rfl rfl rfl rfl (by omega) | exact .indexAddrN tab_ok rfl rfl rfl rfl (by omega) | exact .indexAddrI tab_ok rfl rfl rfl rfl (toNatLit _) (by decide) (by omega) | exact .indexAddrNI tab_ok rfl rfl rfl rfl (toNatLit _) (by decide) (by omega) | exact .ldR tab_ok rfl rfl hr1 (List.getElem?_eq_getElem (by omega)) | exact .ldR tab_ok rfl rfl hr2 (List.getElem?_eq_getElem (by omega)) | exact ldB tab_ok rfl rfl hb1 (by omega) | exact ldB tab_ok rfl rfl hb2 (by omega)) | exact .sliceHI tab_ok rfl rfl rfl (toNatLit _) (by decide) (by omega) | exact .sliceLI tab_ok rfl rfl rfl (toNatLit _) (by decide) (by omega) | (apply PureAt.ldA tab_ok rfl rfl; (focus repeat first | exact .head _ | apply List.Mem.tail); rfl; rfl) | exact .ldro tab_ok rfl rfl (by assumption)); rfl; rfl; rfl))
  refine VX.take rfl rfl rfl rfl (PureAt.ldR tab_ok rfl rfl hRB (begV_get _ _ hjls)) rfl rfl rfl ?_
  (apply VX.take rfl rfl rfl rfl; apply PureAt.build sb_57 rfl; (simp [buildX, setL, Value.cells]; rfl); rfl; rfl; rfl)
  refine VX.callD (S := fun y : (Option Addr × Nat) × List TxnE => [TxnsO y.1 y.2, PilT y.2]) rfl rfl rfl rfl rfl rfl (fun _ _ => by simp)
      (fun L hL => of_ok (R := L) (ao := ro) (cap := rc) (data := ring) (Rds.ent (Rds.own (bytes_one _) (.head _) (by simp) hron) hL) hrc (by omega) ⟨9, sq + 1 + j, ((at_ + costL ((lsOf ts).take j)) % n : Nat)⟩ ⟨by show 9 < 2 ^ 64; omega, by show sq + 1 + j < 2 ^ 64; omega, by dsimp only; omega⟩) rfl (FloatX.alloc sb_61 rfl) Ent.refl rfl rfl rfl ?_
  rw [hfd]
  rintro ⟨⟨o1, c1⟩, us⟩ hus
  dsimp only at hus ⊢
  (repeat (apply VX.take rfl rfl rfl rfl; (first | (apply PureAt.ar64 rfl rfl rfl; omega) | exact .eval tab_ok rfl | (apply PureAt.ld tab_ok rfl rfl; (focus repeat first | exact .head _ | apply List.Mem.tail); rfl) | (apply PureAt.shr rfl rfl (by decide) (by decide)) | (apply PureAt.shr rfl rfl (by omega) (by simp only [IntKind.bits]; omega)) | exact .fieldAddrA tab_ok rfl rfl | exact .sliceLH tab_ok rfl rfl rfl rfl (by omega) (by omega) | exact .sliceH tab_ok rfl rfl rfl (by omega) | exact .sliceL tab_ok rfl rfl rfl (by omega) | (first | exact .indexAddr tab_ok rfl rfl rfl rfl (by omega) | exact .indexAddrN tab_ok rfl rfl rfl rfl (by omega) | exact .indexAddrI tab_ok rfl rfl rfl rfl (toNatLit _) (by decide) (by omega) | exact .indexAddrNI tab_ok rfl rfl rfl rfl (toNatLit _) (by decide) (by omega) | exact .ldR tab_ok rfl rfl hr1 (List.getElem?_eq_getElem (by omega)) | exact .ldR tab_ok rfl rfl hr2 (List.getElem?_eq_getElem (by omega)) | exact ldB tab_ok rfl rfl hb1 (by omega) | exact ldB tab_ok rfl rfl hb2 (by omega)) | exact .sliceHI tab_ok rfl rfl rfl (toNatLit _) (by decide) (by omega) | exact .sliceLI tab_ok rfl rfl rfl (toNatLit _) (by decide) (by omega) | (apply PureAt.ldA tab_ok rfl rfl; (focus repeat first | exact .head _ | apply List.Mem.tail); rfl; rfl) | exact .ldro tab_ok rfl rfl (by assumption)); rfl; rfl; rfl))
  refine VX.float rfl rfl (FloatX.alloc sb_61 rfl) Ent.re ?_
  intro n15
  refine VD.mid rfl rfl rfl ?_
  refine OpV.stA (vs := [.slice o1 us.length c1, .int .u64 ((sq + 1 + ts.length : Nat) : Int), .int .i64 ((((at_ + costL ((lsOf ts).take j)) % n + costT (numb (sq + 1 + j) ((lsOf ts).drop j))) % n : Nat) : Int), .int .i64 ((costT (numb (sq + 1 + j) ((lsOf ts).drop j)) : Nat) : Int)]) tab_ok rfl rfl rfl rfl (by simp [Value.oneCell']) (by (repeat first | exact .head | apply Hole.tail)) (by simp) ?_
  refine ⟨Ent.re, ?_⟩
  (refine w ?_; repeat ((first | refine VO.step rfl rfl ?_ | refine VD.end rfl rfl rfl ?_ | refine VD.mid rfl rfl rfl ?_); refine OpV.box rfl rfl rfl ?_; intro _; refine w ?_))
  refine VC.ent (H' := Row n15 61 [.slice o1 us.length c1, .int .u64 ((sq + 1 + ts.length : Nat) : Int), .int .i64 ((((at_ + costL ((lsOf ts).take j)) % n + costT (numb (sq + 1 + j) ((lsOf ts).drop j))) % n : Nat) : Int), .int .i64 ((costT (numb (sq + 1 + j) ((lsOf ts).drop j)) : Nat) : Int)] :: TxnsO (o1, c1) us :: PilT us :: OwnB (ro, rc) ring :: TxnsO (some ta, t2) ts :: BegO (fun c => (at_ + c) % n) (some ba, b2) (lsOf ts) ts.length :: R) Ent.re ?_
  refine VC.know (p := ∀ t ∈ us, t.ok) (fun w hw => PilT.know hw.tail.tail) ?_
  intro hok
  refine VC.know (p := o1 = none → us.length = 0) (fun w hw => hw.tail.ownNone (.head _)) ?_
  intro hon
  have hful : us.length = ts.length - j := by have := congrArg List.length hus; rwa [List.length_map, List.length_map, List.length_drop] at this
  have hfewD : TFew (ts.drop j) := fun t ht => hT.few t (List.mem_of_mem_drop ht)
  have hsame := fun (L : List SProp) (m1 : TxnsO (o1, c1) us ∈ L) (m2 : PilT us ∈ L) (m3 : TxnsO (some ta, t2) ts ∈ L) => sametxns_ok (W := W) (R := L) (l := us) (m := ts.drop j) (ac := c1) (bc := t2 - j) (RdTxns.own (x := (o1, c1)) hon hok m1 m2) (RdTxns.drop (cap := t2) (hT.rds (x := (some ta, t2)) (by simp) m3) (by omega) htc) (by omega) (TFew.of hus hfewD)
  ((refine VC.quiet rfl (by kernel_rfl) (by kernel_rfl) ?_); (refine w ?_; repeat ((first | refine VO.step rfl rfl ?_ | refine VD.end rfl rfl rfl ?_ | refine VD.mid rfl rfl rfl ?_); refine OpV.box rfl rfl rfl ?_; intro _; refine w ?_)))
  refine VQ.re 58 (.slice (subA (some ta) t2 j 2) (ts.drop j).length (t2 - j)) rfl (by rw [List.length_drop]) ?_
  (refine VQ.call rfl rfl rfl rfl (fun _ _ => by simp) (hsame _ (.tail _ (.head _)) (.tail _ (.tail _ (.head _))) (.tail _ (.tail _ (.tail _ (.tail _ (.head _)))))) Ent.refl Ent.refl rfl ?_)
  rw [decide_eq_true hus]
  have hRT2 : RdTxns W (Row n15 61 [.slice o1 us.length c1, .int .u64 ((sq + 1 + ts.length : Nat) : Int), .int .i64 ((((at_ + costL ((lsOf ts).take j)) % n + costT (numb (sq + 1 + j) ((lsOf ts).drop j))) % n : Nat) : Int), .int .i64 ((costT (numb (sq + 1 + j) ((lsOf ts).drop j)) : Nat) : Int)] :: TxnsO (o1, c1) us :: PilT us :: OwnB (ro, rc) ring :: TxnsO (some ta, t2) ts :: BegO (fun c => (at_ + c) % n) (some ba, b2) (lsOf ts) ts.length :: R) (some ta) ts := hT.rds (x := (some ta, t2)) (by simp) (.tail _ (.tail _ (.tail _ (.tail _ (.head _)))))
  (refine w ?_; repeat ((first | refine VO.step rfl rfl ?_ | refine VD.end rfl rfl rfl ?_ | refine VD.mid rfl rfl rfl ?_); refine OpV.box rfl rfl rfl ?_; intro _; refine w ?_))
  refine VQ.re 67 (.int .i64 ((ts.length - 1 : Nat) : Int)) rfl (by congr 1; omega) ?_
  (refine w ?_; repeat ((first | refine VO.step rfl rfl ?_ | refine VD.end rfl rfl rfl ?_ | refine VD.mid rfl rfl rfl ?_); refine OpV.box rfl rfl rfl ?_; intro _; refine w ?_))
  (first | refine VO.pure rfl rfl (PureAt.ldRc tab_ok rfl rfl hRT2.rds (txn_get ts (ts.length - 1) 0 (by omega) (by decide))) rfl ?_ | refine VD.take rfl rfl rfl (PureAt.ldRc tab_ok rfl rfl hRT2.rds (txn_get ts (ts.length - 1) 0 (by omega) (by decide))) rfl ?_ | refine VQ.pure rfl rfl (PureAt.ldRc tab_ok rfl rfl hRT2.rds (txn_get ts (ts.length - 1) 0 (by omega) (by decide))) rfl ?_ | refine VD.end rfl rfl rfl (OpV.pure (PureAt.ldRc tab_ok rfl rfl hRT2.rds (txn_get ts (ts.length - 1) 0 (by omega) (by decide))) rfl ?_))
  refine VQ.re 70 (.int .u64 ((sq + 1 + (ts.length - 1) : Nat) : Int)) rfl (by rw [hT.seq (j := ts.length - 1) (by omega)]) ?_
  (refine w ?_; repeat ((first | refine VO.step rfl rfl ?_ | refine VD.end rfl rfl rfl ?_ | refine VD.mid rfl rfl rfl ?_); refine OpV.box rfl rfl rfl ?_; intro _; refine w ?_))
  exact VE.done1 rfl (by
    congr 1
    rw [show (((sq + 1 + (ts.length - 1) : Nat) : Int) + 1) = ((sq + 1 + ts.length : Nat) : Int) by omega, wrap64_of (by omega)]
    simp) Ent.re
end Go.Proofs.Ytlojjlbngnaphaa
