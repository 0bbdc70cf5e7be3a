/- ScanBack: what is laid in is found; another epoch's is not; one sector hurt ends it there: the walk. -/
import Derived.Test.YtlojjlbngnaphaaNt
set_option maxRecDepth 8000
set_option linter.unusedVariables false
set_option linter.unusedSimpArgs false
set_option linter.unusedSectionVars false
namespace Go.Proofs.Ytlojjlbngnaphaa
open Go.RowKit Go.Sl
attribute [local irreducible] Own

/-- A ring's old bytes: the first so many of them laid in, noughts behind. -/
def oldR (m : Nat) (old : List UInt8) (i : Nat) : List UInt8 := old.take i ++ List.replicate (m - i) 0
theorem oldR_zero (m : Nat) (old : List UInt8) : oldR m old 0 = List.replicate m 0 := by simp [oldR]
theorem oldR_length {m i : Nat} {old : List UInt8} (h : i ≤ old.length) (hm : i ≤ m) : (oldR m old i).length = m := by
  simp only [oldR, List.length_append, List.length_take, List.length_replicate]; omega
theorem oldR_set {m i : Nat} {old : List UInt8} (h : i < old.length) (hm : i < m) : (oldR m old i).set i old[i] = oldR m old (i + 1) := by
  unfold oldR
  have h1 : (old.take i).length = i := by rw [List.length_take]; omega
  rw [List.set_append_right _ _ (by omega), h1, Nat.sub_self, show m - i = (m - (i + 1)) + 1 by omega, List.replicate_succ, List.set_cons_zero, List.take_succ_eq_append_getElem h, List.append_assoc]
  rfl
/-- A sector, the first so many bytes noughts. -/
theorem putP_nought {b : List UInt8} {k n : Nat} (h : b.length = 128 * n) (hk : k < n) {j : Nat} (hj : j < 128) : (putP b k (List.replicate 128 0) j).set (128 * k + j) 0 = putP b k (List.replicate 128 0) (j + 1) := by
  have := putP_set (b := b) (r := List.replicate 128 0) (k := k) (n := n) (j := j) h hk (by simp) hj
  rwa [List.getElem_replicate] at this
/-- In which batch a sector stands. -/
theorem which_whole {ls : List (List PatD)} {bad m : Nat} (hm : m < ls.length) (h1 : costL (ls.take m) ≤ bad) (h2 : m + 1 = ls.length ∨ bad < costL (ls.take (m + 1))) (hb : bad < costL ls) : bad < costL (ls.take m) + (2 * (ls[m]'hm).length + 1) := by
  have h3 : costL (ls.take (m + 1)) = costL (ls.take m) + (2 * (ls[m]'hm).length + 1) := by rw [List.take_succ_eq_append_getElem hm, costL_append, costL_one]
  rcases h2 with h | h
  · rw [h, List.take_length] at h3; omega
  · omega
theorem Took.pos {W : World} {e s n : Nat} {ts : List TxnE} {rows : List RowE} (h : Took W e s n ts rows) (hp : 0 < ts.length) : 0 < rows.length := by
  rw [h.rlen]
  have := costL_len (lsOf ts)
  rw [lsOf_length] at this; omega
theorem rowsNil {W : World} {e s n : Nat} {rows : List RowE} (h : Took W e s n [] rows) : rows = [] := by
  have := h.rlen
  exact List.length_eq_zero_iff.1 this
/-- A sector of bytes of one's own. -/
theorem sec_rds {W : World} {H : List SProp} {a : Addr} {c n k : Nat} {data : List UInt8} (m : OwnB (some a, c) data ∈ H) (hd : data.length = 128 * n) (hk : k < n) (hc : data.length ≤ c) : Rds W H 1 (subA (some a) c (k * 128) 1) (k * 128 + 128 - k * 128) (bytes (secB data k)) := by
  have h1 := Rds.sub (cap := c) (l := k * 128) (h := k * 128 + 128) (Rds.own (W := W) (H := H) (bytes_one data) m (by simp) (by simp)) (by omega) (by omega) hc
  have h2 : bytes (secB data k) = ((bytes data).drop (k * 128 * 1)).take ((k * 128 + 128 - k * 128) * 1) := by
    unfold secB bytes
    rw [List.map_take, List.map_drop, Nat.mul_one, Nat.mul_one, Nat.mul_comm 128, show k * 128 + 128 - k * 128 = 128 by omega]
  rw [h2]; exact h1

set_option maxHeartbeats 4000000 in
theorem back_law {W : World} {R : List SProp} {lo oo : Option Addr} {lc oc sz tl sq hu : Nat} {l : List PlsE} {old : List UInt8} (h1 : sz < 256) (h2 : tl < 256) (h3 : sq < 65536) (h4 : hu < 65536) (hold : RdsA W 1 oo old.length (bytes old)) (hol : old.length ≤ 140737488351232)
    (hl : RdsA W 1 lo l.length (l.map PlsE.hdr)) (hwf : ∀ p ∈ l, p.wf W) (hlen : l.length ≤ 140737488351232) :
    Does1 W Try.prog 5 [.int .u8 sz, .int .u8 tl, .int .u16 sq, .slice oo old.length oc, .slice lo l.length lc, .int .u16 hu] R (.bool true) R := by
  obtain ⟨n, hn⟩ : ∃ n, n = sz % 60 + 5 := ⟨_, rfl⟩
  obtain ⟨at_, hat⟩ : ∃ a, a = tl % n := ⟨_, rfl⟩
  have hn5 : 5 ≤ n ∧ n ≤ 64 := by omega
  have hatn : at_ < n := by rw [hat]; exact Nat.mod_lt _ (by omega)
  (refine Does.enter Try.func5 Try.ntmps5 rfl rfl ?_)
  (refine w ?_; repeat ((first | refine VO.step rfl rfl ?_ | refine VD.end rfl rfl rfl ?_ | refine VD.mid rfl rfl rfl ?_); refine OpV.box rfl rfl rfl ?_; intro _; refine w ?_))
  refine VO.re 40 (.int .i64 (sz : Int)) rfl (by rw [IntWalk.i64_in _ ⟨by omega, by omega⟩]) ?_
  (first | refine VO.pure rfl rfl (PureAt.rem (a := sz) (b := 60) rfl rfl (by decide)) rfl ?_ | refine VD.take rfl rfl rfl (PureAt.rem (a := sz) (b := 60) rfl rfl (by decide)) rfl ?_ | refine VQ.pure rfl rfl (PureAt.rem (a := sz) (b := 60) rfl rfl (by decide)) rfl ?_ | refine VD.end rfl rfl rfl (OpV.pure (PureAt.rem (a := sz) (b := 60) rfl rfl (by decide)) rfl ?_))
  (refine w ?_; repeat ((first | refine VO.step rfl rfl ?_ | refine VD.end rfl rfl rfl ?_ | refine VD.mid rfl rfl rfl ?_); refine OpV.box rfl rfl rfl ?_; intro _; refine w ?_))
  refine VO.re 13 (.int .i64 n) rfl (by rw [hn]; congr 1) ?_
  refine VO.re 45 (.int .i64 n) rfl (by rw [hn]; congr 1) ?_
  refine VO.re 44 (.int .i64 (tl : Int)) rfl (by rw [IntWalk.i64_in _ ⟨by omega, by omega⟩]) ?_
  (first | refine VO.pure rfl rfl (PureAt.rem (a := tl) (b := n) rfl rfl (by omega)) rfl ?_ | refine VD.take rfl rfl rfl (PureAt.rem (a := tl) (b := n) rfl rfl (by omega)) rfl ?_ | refine VQ.pure rfl rfl (PureAt.rem (a := tl) (b := n) rfl rfl (by omega)) rfl ?_ | refine VD.end rfl rfl rfl (OpV.pure (PureAt.rem (a := tl) (b := n) rfl rfl (by omega)) rfl ?_))
  rw [← hat]
  (refine w ?_; repeat ((first | refine VO.step rfl rfl ?_ | refine VD.end rfl rfl rfl ?_ | refine VD.mid rfl rfl rfl ?_); refine OpV.box rfl rfl rfl ?_; intro _; refine w ?_))
  ((first | refine VO.step rfl rfl ?_ | refine VD.end rfl rfl rfl ?_ | refine VD.mid rfl rfl rfl ?_); refine OpV.call rfl rfl (fun _ _ => by simp) (nknown_ok) Ent.refl rfl ?_)
  intro _ _
  (refine w ?_; repeat ((first | refine VO.step rfl rfl ?_ | refine VD.end rfl rfl rfl ?_ | refine VD.mid rfl rfl rfl ?_); refine OpV.box rfl rfl rfl ?_; intro _; refine w ?_))
  ((first | refine VO.split rfl rfl rfl ?_ ?_ | refine VD.split rfl rfl rfl ?_ ?_) <;> intro hb)
  · (refine w ?_; repeat ((first | refine VO.step rfl rfl ?_ | refine VD.end rfl rfl rfl ?_ | refine VD.mid rfl rfl rfl ?_); refine OpV.box rfl rfl rfl ?_; intro _; refine w ?_))
    ((first | refine VO.step rfl rfl ?_ | refine VD.end rfl rfl rfl ?_ | refine VD.mid rfl rfl rfl ?_); refine OpV.call rfl rfl (fun _ _ => by simp) (nknown_ok) Ent.refl rfl ?_)
    intro _ _
    (refine w ?_; repeat ((first | refine VO.step rfl rfl ?_ | refine VD.end rfl rfl rfl ?_ | refine VD.mid rfl rfl rfl ?_); refine OpV.box rfl rfl rfl ?_; intro _; refine w ?_))
    exact VE.done1 rfl rfl Ent.re
  have hold3 : old.length ≤ 300000 := by have := of_decide_eq_false hb; omega
  clear hb
  (refine w ?_; repeat ((first | refine VO.step rfl rfl ?_ | refine VD.end rfl rfl rfl ?_ | refine VD.mid rfl rfl rfl ?_); refine OpV.box rfl rfl rfl ?_; intro _; refine w ?_))
  (refine VC.cond rfl rfl ?_ ?_ <;> intro hc)
  · (refine w ?_; repeat ((first | refine VO.step rfl rfl ?_ | refine VD.end rfl rfl rfl ?_ | refine VD.mid rfl rfl rfl ?_); refine OpV.box rfl rfl rfl ?_; intro _; refine w ?_))
    ((first | refine VO.step rfl rfl ?_ | refine VD.end rfl rfl rfl ?_ | refine VD.mid rfl rfl rfl ?_); refine OpV.call rfl rfl (fun _ _ => by simp) (nknown_ok) Ent.refl rfl ?_)
    intro _ _
    (refine w ?_; repeat ((first | refine VO.step rfl rfl ?_ | refine VD.end rfl rfl rfl ?_ | refine VD.mid rfl rfl rfl ?_); refine OpV.box rfl rfl rfl ?_; intro _; refine w ?_))
    exact VE.done1 rfl rfl Ent.re
  have hl60 : l.length ≤ 60 := by have := of_decide_eq_false hc; omega
  clear hc
  (refine w ?_; repeat ((first | refine VO.step rfl rfl ?_ | refine VD.end rfl rfl rfl ?_ | refine VD.mid rfl rfl rfl ?_); refine OpV.box rfl rfl rfl ?_; intro _; refine w ?_))
  refine VO.re 61 (.int .i64 ((n * 128 : Nat) : Int)) rfl (by congr 1) ?_
  (first | refine VO.step rfl rfl ?_ | refine VD.end rfl rfl rfl ?_ | refine VD.mid rfl rfl rfl ?_)
  refine OpV.makeSlice1 (m := n * 128) st_55 rfl rfl rfl (by omega) (by simp only [maxLen]; omega) rfl ?_
  intro nz
  rw [← bytes_zero, ← oldR_zero (n * 128) old]
  (refine w ?_; repeat ((first | refine VO.step rfl rfl ?_ | refine VD.end rfl rfl rfl ?_ | refine VD.mid rfl rfl rfl ?_); refine OpV.box rfl rfl rfl ?_; intro _; refine w ?_))
  refine VC.loop (α := Nat) (fun i => i ≤ n * 128 ∧ i ≤ old.length) (fun i => Sl.Own 5 1 (.slice (some ⟨nz, 0, none⟩) (n * 128) (n * 128)) (n * 128) (bytes (oldR (n * 128) old i)) :: R)
    (fun i => [(2, .int .u16 sq), (3, .slice oo old.length oc), (4, .slice lo l.length lc), (5, .int .u16 hu), (13, .int .i64 n), (14, .int .i64 at_), (15, .slice (some ⟨nz, 0, none⟩) (n * 128) (n * 128)), (16, .int .i64 i)]) (fun i => n * 128 - i) rfl 0 ⟨Nat.zero_le _, Nat.zero_le _⟩ Ent.refl ⟨rfl, rfl, rfl, rfl, rfl, rfl, rfl, rfl, trivial⟩ ?_
  rintro i ⟨hi, hio⟩
  (refine w ?_; repeat ((first | refine VO.step rfl rfl ?_ | refine VD.end rfl rfl rfl ?_ | refine VD.mid rfl rfl rfl ?_); refine OpV.box rfl rfl rfl ?_; intro _; refine w ?_))
  refine VO.joinR (α := Bool) (fun b => b = decide (i < n * 128 ∧ i < old.length)) (fun _ => Sl.Own 5 1 (.slice (some ⟨nz, 0, none⟩) (n * 128) (n * 128)) (n * 128) (bytes (oldR (n * 128) old i)) :: R)
    (fun b => [(72, .bool b), (2, .int .u16 sq), (3, .slice oo old.length oc), (4, .slice lo l.length lc), (5, .int .u16 hu), (13, .int .i64 n), (14, .int .i64 at_), (15, .slice (some ⟨nz, 0, none⟩) (n * 128) (n * 128)), (16, .int .i64 i)]) (fun Q2 jn => ?_) ?_
  · ((first | refine VO.split rfl rfl rfl ?_ ?_ | refine VD.split rfl rfl rfl ?_ ?_) <;> intro hb)
    · (refine w ?_; repeat ((first | refine VO.step rfl rfl ?_ | refine VD.end rfl rfl rfl ?_ | refine VD.mid rfl rfl rfl ?_); refine OpV.box rfl rfl rfl ?_; intro _; refine w ?_))
      (refine jn.to (decide ((i : Int) < old.length)) (by have := of_decide_eq_true hb; rw [decide_eq_decide]; omega) ⟨rfl, rfl, rfl, rfl, rfl, rfl, rfl, rfl, rfl, trivial⟩ ?_; (try dsimp only); exact Ent.re)
    · (refine w ?_; repeat ((first | refine VO.step rfl rfl ?_ | refine VD.end rfl rfl rfl ?_ | refine VD.mid rfl rfl rfl ?_); refine OpV.box rfl rfl rfl ?_; intro _; refine w ?_))
      (refine jn.to false (by have := of_decide_eq_false hb; symm; apply decide_eq_false; omega) ⟨rfl, rfl, rfl, rfl, rfl, rfl, rfl, rfl, rfl, trivial⟩ ?_; (try dsimp only); exact Ent.re)
  intro bb hbb
  (refine VC.cond rfl rfl ?_ ?_ <;> intro hc)
  · obtain ⟨hin, hlo⟩ : i < n * 128 ∧ i < old.length := of_decide_eq_true (hbb ▸ hc)
    clear hc
    obtain ⟨oa, rfl⟩ := some_of_pos (hold []).nil (by omega)
    (refine w ?_; repeat ((first | refine VO.step rfl rfl ?_ | refine VD.end rfl rfl rfl ?_ | refine VD.mid rfl rfl rfl ?_); refine OpV.box rfl rfl rfl ?_; intro _; refine w ?_))
    (first | refine VO.pure rfl rfl (PureAt.ldR tab_ok rfl rfl (hold _) (show (bytes old)[i]? = some (byteV old[i]) by unfold bytes; rw [List.getElem?_map, List.getElem?_eq_getElem hlo]; rfl)) rfl ?_ | refine VD.take rfl rfl rfl (PureAt.ldR tab_ok rfl rfl (hold _) (show (bytes old)[i]? = some (byteV old[i]) by unfold bytes; rw [List.getElem?_map, List.getElem?_eq_getElem hlo]; rfl)) rfl ?_ | refine VQ.pure rfl rfl (PureAt.ldR tab_ok rfl rfl (hold _) (show (bytes old)[i]? = some (byteV old[i]) by unfold bytes; rw [List.getElem?_map, List.getElem?_eq_getElem hlo]; rfl)) rfl ?_ | refine VD.end rfl rfl rfl (OpV.pure (PureAt.ldR tab_ok rfl rfl (hold _) (show (bytes old)[i]? = some (byteV old[i]) by unfold bytes; rw [List.getElem?_map, List.getElem?_eq_getElem hlo]; rfl)) rfl ?_))
    (refine w ?_; repeat ((first | refine VO.step rfl rfl ?_ | refine VD.end rfl rfl rfl ?_ | refine VD.mid rfl rfl rfl ?_); refine OpV.box rfl rfl rfl ?_; intro _; refine w ?_))
    (first | refine VO.step rfl rfl ?_ | refine VD.end rfl rfl rfl ?_ | refine VD.mid rfl rfl rfl ?_)
    refine OpV.stO2 (j := i) (xs' := bytes (oldR (n * 128) old (i + 1))) tab_ok rfl rfl rfl rfl (by (repeat first | exact .head | apply Hole.tail)) (by rw [bytes_length, oldR_length hio hi]; omega) ?_ ?_
    · rw [← oldR_set hlo hin]; unfold bytes; rw [List.map_set]
    (refine w ?_; repeat ((first | refine VO.step rfl rfl ?_ | refine VD.end rfl rfl rfl ?_ | refine VD.mid rfl rfl rfl ?_); refine OpV.box rfl rfl rfl ?_; intro _; refine w ?_))
    exact VE.round (i + 1) ⟨hin, hlo⟩ (by omega) ⟨rfl, rfl, rfl, rfl, rfl, rfl, rfl, asV rfl (by congr 1), trivial⟩ Ent.re
  clear hc hbb
  have hr0l : (oldR (n * 128) old i).length = 128 * n := by rw [oldR_length hio hi]; omega
  generalize oldR (n * 128) old i = ring0 at hr0l ⊢
  clear hi hio
  (refine w ?_; repeat ((first | refine VO.step rfl rfl ?_ | refine VD.end rfl rfl rfl ?_ | refine VD.mid rfl rfl rfl ?_); refine OpV.box rfl rfl rfl ?_; intro _; refine w ?_))
  have hw1 : Value.int .u64 (IntKind.u64.wrap (IntKind.u64.wrap (sq : Int) + 1)) = .int .u64 ((sq + 1 : Nat) : Int) := by
    rw [wrap64_of (by omega), show ((sq : Int) + 1) = ((sq + 1 : Nat) : Int) by omega, wrap64_of (by omega)]
  refine VC.re 17 (.int .u64 ((sq + 1 : Nat) : Int)) rfl hw1 ?_
  refine VC.loop (α := RofE) (fun y => y.i ≤ l.length ∧ y.ts.length ≤ y.i ∧ Took W 9 (sq + 1) n y.ts y.rows)
    (fun y => TxnsO y.t y.ts :: RowsO y.r y.rows :: PilR y.rows :: BegO (fun c => c) y.b (lsOf y.ts) y.ts.length :: Sl.Own 5 1 (.slice (some ⟨nz, 0, none⟩) (n * 128) (n * 128)) (n * 128) (bytes ring0) :: R)
    (fun y => [(4, .slice lo l.length lc), (5, .int .u16 hu), (13, .int .i64 n), (14, .int .i64 at_), (15, .slice (some ⟨nz, 0, none⟩) (n * 128) (n * 128)), (17, .int .u64 ((sq + 1 : Nat) : Int)), (18, .slice y.r.1 y.rows.length y.r.2), (19, .slice y.b.1 y.ts.length y.b.2), (20, .slice y.t.1 y.ts.length y.t.2), (21, .int .i64 y.i)]) (fun y => l.length - y.i) rfl
    ⟨0, [], [], (none, 0), (none, 0), (none, 0)⟩ ⟨Nat.zero_le _, Nat.le_refl _, Took.start W 9 (sq + 1) n⟩
    (fun w hw => by
      have a1 := hw.ownNil 3 1
      have a2 := pile_nil (res := RowE.res) a1
      have a3 := a2.ownNil 55 1
      exact a3.ownNil 25 2) ⟨rfl, rfl, rfl, rfl, rfl, rfl, rfl, rfl, rfl, rfl, trivial⟩ ?_
  rintro ⟨i, ts, rows, ⟨t1, t2⟩, ⟨r1, r2⟩, ⟨b1, b2⟩⟩ ⟨hi, hti, hT⟩
  dsimp only at hi hti hT ⊢
  have hrl := hT.rlen
  have hcn := hT.cost
  (refine w ?_; repeat ((first | refine VO.step rfl rfl ?_ | refine VD.end rfl rfl rfl ?_ | refine VD.mid rfl rfl rfl ?_); refine OpV.box rfl rfl rfl ?_; intro _; refine w ?_))
  (refine VC.cond rfl rfl ?_ ?_ <;> intro hc)
  · have hlt : i < l.length := by have := of_decide_eq_true hc; omega
    clear hc
    obtain ⟨la, rfl⟩ := some_of_pos (hl []).nil (by omega)
    have hget : (l.map PlsE.hdr)[i]? = some (.slice l[i].ao l[i].pats.length l[i].cap) := by rw [List.getElem?_map, List.getElem?_eq_getElem hlt]; rfl
    have hw := hwf _ (List.getElem_mem hlt)
    (refine w ?_; repeat ((first | refine VO.step rfl rfl ?_ | refine VD.end rfl rfl rfl ?_ | refine VD.mid rfl rfl rfl ?_); refine OpV.box rfl rfl rfl ?_; intro _; refine w ?_))
    (first | refine VO.pure rfl rfl (PureAt.ldR tab_ok rfl rfl (hl _) hget) rfl ?_ | refine VD.take rfl rfl rfl (PureAt.ldR tab_ok rfl rfl (hl _) hget) rfl ?_ | refine VQ.pure rfl rfl (PureAt.ldR tab_ok rfl rfl (hl _) hget) rfl ?_ | refine VD.end rfl rfl rfl (OpV.pure (PureAt.ldR tab_ok rfl rfl (hl _) hget) rfl ?_))
    ((first | refine VO.step rfl rfl ?_ | refine VD.end rfl rfl rfl ?_ | refine VD.mid rfl rfl rfl ?_); refine OpV.call rfl rfl (fun _ _ => by simp) (nmuch_ok hw.len hw.fit (hw.rd _)) Ent.refl rfl ?_)
    intro b hfew
    (refine w ?_; repeat ((first | refine VO.step rfl rfl ?_ | refine VD.end rfl rfl rfl ?_ | refine VD.mid rfl rfl rfl ?_); refine OpV.box rfl rfl rfl ?_; intro _; refine w ?_))
    (refine VC.cond rfl rfl ?_ ?_ <;> intro hc)
    · (refine w ?_; repeat ((first | refine VO.step rfl rfl ?_ | refine VD.end rfl rfl rfl ?_ | refine VD.mid rfl rfl rfl ?_); refine OpV.box rfl rfl rfl ?_; intro _; refine w ?_))
      exact VE.done1 rfl rfl Ent.re
    clear hc hfew
    (refine w ?_; repeat ((first | refine VO.step rfl rfl ?_ | refine VD.end rfl rfl rfl ?_ | refine VD.mid rfl rfl rfl ?_); refine OpV.box rfl rfl rfl ?_; intro _; refine w ?_))
    refine VO.re 100 (.int .u64 ((sq + 1 + ts.length : Nat) : Int)) rfl (by
      congr 1
      rw [wrap64_of (v := ts.length) (by omega), ← Int.natCast_add, wrap64_of (by omega)]) ?_
    (refine w ?_; repeat ((first | refine VO.step rfl rfl ?_ | refine VD.end rfl rfl rfl ?_ | refine VD.mid rfl rfl rfl ?_); refine OpV.box rfl rfl rfl ?_; intro _; refine w ?_))
    (first | refine VO.pure rfl rfl (PureAt.ldR tab_ok rfl rfl (hl _) hget) rfl ?_ | refine VD.take rfl rfl rfl (PureAt.ldR tab_ok rfl rfl (hl _) hget) rfl ?_ | refine VQ.pure rfl rfl (PureAt.ldR tab_ok rfl rfl (hl _) hget) rfl ?_ | refine VD.end rfl rfl rfl (OpV.pure (PureAt.ldR tab_ok rfl rfl (hl _) hget) rfl ?_))
    (apply VO.pure rfl rfl; apply PureAt.build sb_25 rfl; (simp [buildX, setL, Value.cells]; rfl); rfl)
    ((first | refine VO.step rfl rfl ?_ | refine VD.end rfl rfl rfl ?_ | refine VD.mid rfl rfl rfl ?_); refine OpV.allocS sb_25 rfl ?_; intro nt)
    (first | refine VO.step rfl rfl ?_ | refine VD.end rfl rfl rfl ?_ | refine VD.mid rfl rfl rfl ?_)
    refine OpV.stA (vs := [.int .u64 ((sq + 1 + ts.length : Nat) : Int), .slice l[i].ao l[i].pats.length l[i].cap]) tab_ok rfl rfl rfl rfl (by simp [Value.oneCell']) (by (repeat first | exact .head | apply Hole.tail)) (by simp) ?_
    refine VO.ent (H' := Row nt 25 [.int .u64 ((sq + 1 + ts.length : Nat) : Int), .slice l[i].ao l[i].pats.length l[i].cap] :: TxnsO (t1, t2) ts :: RowsO (r1, r2) rows :: PilR rows :: BegO (fun c => c) (b1, b2) (lsOf ts) ts.length :: Sl.Own 5 1 (.slice (some ⟨nz, 0, none⟩) (n * 128) (n * 128)) (n * 128) (bytes ring0) :: R) Ent.re ?_
    have hS := sectors_ok (W := W) (R := Row nt 25 [.int .u64 ((sq + 1 + ts.length : Nat) : Int), .slice l[i].ao l[i].pats.length l[i].cap] :: TxnsO (t1, t2) ts :: RowsO (r1, r2) rows :: PilR rows :: BegO (fun c => c) (b1, b2) (lsOf ts) ts.length :: Sl.Own 5 1 (.slice (some ⟨nz, 0, none⟩) (n * 128) (n * 128)) (n * 128) (bytes ring0) :: R) (cap := l[i].cap) 9 (sq + 1 + ts.length) (by omega) (by omega) (hw.rd _) hw.fit hw.len
    (refine w ?_; repeat ((first | refine VO.step rfl rfl ?_ | refine VD.end rfl rfl rfl ?_ | refine VD.mid rfl rfl rfl ?_); refine OpV.box rfl rfl rfl ?_; intro _; refine w ?_))
    ((first | refine VO.step rfl rfl ?_ | refine VD.end rfl rfl rfl ?_ | refine VD.mid rfl rfl rfl ?_); refine OpV.call rfl rfl (fun _ _ => by simp) (hS) Ent.refl rfl ?_)
    rintro ⟨⟨xo, xc⟩, rws⟩ hrws
    dsimp only at hrws ⊢
    rcases secs_cases 9 (sq + 1 + ts.length) (l[i].pats.map PatE.D) with ⟨hfine, hse⟩ | ⟨hnf, hse, -⟩
    · rw [hse] at hrws ⊢
      dsimp only at hrws ⊢
      have hn2 := hfine.n2
      rw [List.length_map] at hn2
      have hwl : rws.length = 2 * l[i].pats.length + 1 := by have := congrArg List.length hrws; rwa [List.length_map, rowsP_length, List.length_map] at this
      (refine w ?_; repeat ((first | refine VO.step rfl rfl ?_ | refine VD.end rfl rfl rfl ?_ | refine VD.mid rfl rfl rfl ?_); refine OpV.box rfl rfl rfl ?_; intro _; refine w ?_))
      (refine VC.cond rfl rfl ?_ ?_ <;> intro hc)
      · have hfit : rows.length + rws.length ≤ n := by have := of_decide_eq_true hc; omega
        clear hc
        have hT2 := hT.snoc hw hfine hrws hfit
        (refine w ?_; repeat ((first | refine VO.step rfl rfl ?_ | refine VD.end rfl rfl rfl ?_ | refine VD.mid rfl rfl rfl ?_); refine OpV.box rfl rfl rfl ?_; intro _; refine w ?_))
        ((first | refine VO.step rfl rfl ?_ | refine VD.end rfl rfl rfl ?_ | refine VD.mid rfl rfl rfl ?_); refine OpV.buildSlice1 st_71 rfl rfl (by first | (simp; done) | simp [Value.oneCell']) (by decide) rfl ?_; intro nb)
        ((first | refine VO.step rfl rfl ?_ | refine VD.end rfl rfl rfl ?_ | refine VD.mid rfl rfl rfl ?_); refine OpV.appendRow st_71 rfl rfl (by (repeat first | exact .head | apply Hole.tail)) (by (focus repeat first | exact .head _ | apply List.Mem.tail)) rfl (by first | (simp; done) | simp [Value.oneCell']) ?_ ?_ rfl ?_)
        · simp only [maxLen]; omega
        · omega
        intro bo bc
        (refine w ?_; repeat ((first | refine VO.step rfl rfl ?_ | refine VD.end rfl rfl rfl ?_ | refine VD.mid rfl rfl rfl ?_); refine OpV.box rfl rfl rfl ?_; intro _; refine w ?_))
        (first | refine VO.step rfl rfl ?_ | refine VD.end rfl rfl rfl ?_ | refine VD.mid rfl rfl rfl ?_)
        refine OpV.append (m := rws.length) (news := rws.map RowE.hdr) st_28 rfl rfl (by (repeat first | exact .head | apply Hole.tail)) (fun w hw => (show Sees w 1 (.slice xo rws.length xc) rws.length (rws.map RowE.hdr) from Sees.own (e := 55) (rowhdr_one rws) hw (by (focus repeat first | exact .head _ | apply List.Mem.tail))).src st_28.und) (by simp only [maxLen]; omega) (by omega) rfl ?_
        intro so sc
        (refine w ?_; repeat ((first | refine VO.step rfl rfl ?_ | refine VD.end rfl rfl rfl ?_ | refine VD.mid rfl rfl rfl ?_); refine OpV.box rfl rfl rfl ?_; intro _; refine w ?_))
        (first | refine VO.step rfl rfl ?_ | refine VD.end rfl rfl rfl ?_ | refine VD.mid rfl rfl rfl ?_)
        refine OpV.buildSlice (cs := TxnE.cells ⟨sq + 1 + ts.length, l[i].ao, l[i].cap, l[i].pats⟩) st_59 rfl rfl (by simp [Value.cells]) (by simp [Value.cells]) (by decide) rfl ?_
        intro nb
        (first | refine VO.step rfl rfl ?_ | refine VD.end rfl rfl rfl ?_ | refine VD.mid rfl rfl rfl ?_)
        refine OpV.appendRow st_59 rfl rfl (by (repeat first | exact .head | apply Hole.tail)) (by (focus repeat first | exact .head _ | apply List.Mem.tail)) rfl (txn_one _) (by simp only [maxLen]; omega) (by omega) rfl ?_
        intro to tc
        (refine w ?_; repeat ((first | refine VO.step rfl rfl ?_ | refine VD.end rfl rfl rfl ?_ | refine VD.mid rfl rfl rfl ?_); refine OpV.box rfl rfl rfl ?_; intro _; refine w ?_))
        refine VE.round ⟨i + 1, ts ++ [⟨sq + 1 + ts.length, l[i].ao, l[i].cap, l[i].pats⟩], rows ++ rws, (to, tc), (so, sc), (bo, bc)⟩ ⟨hlt, by simp only [List.length_append, List.length_singleton]; omega, hT2⟩ (by simp only; omega) ⟨rfl, rfl, rfl, rfl, rfl, rfl, asV rfl (by rw [List.length_append]), asV rfl (by rw [List.length_append]; rfl), asV rfl (by rw [List.length_append]; rfl), asV rfl (by congr 1), trivial⟩ ?_
        dsimp only
        rw [txnsO_one, rowsO_app, lsOf_snoc, show BegO (fun c => c) (bo, bc) (lsOf ts ++ [l[i].pats.map PatE.D]) (ts ++ [(⟨sq + 1 + ts.length, l[i].ao, l[i].cap, l[i].pats⟩ : TxnE)]).length = Sl.Own 3 1 (.slice bo (ts.length + 1) bc) (ts.length + 1) (begV (fun c => c) (lsOf ts) ++ [.int .i64 ((rows.length : Nat) : Int)]) by
          show Sl.Own _ _ (.slice bo (ts ++ [_]).length bc) (ts ++ [_]).length (begV _ (lsOf ts ++ [_])) = _
          rw [begV_snoc, List.length_append, List.length_singleton, hrl]]
        exact Ent.trans (Ent.re (L := PilR rows :: PilR rws :: Sl.Own 25 2 (.slice to (ts.length + 1) tc) (ts.length + 1) (txnCells ts ++ TxnE.cells ⟨sq + 1 + ts.length, l[i].ao, l[i].cap, l[i].pats⟩) :: Sl.Own 55 1 (.slice so (rows.length + rws.length) sc) (rows.length + rws.length) (rows.map RowE.hdr ++ rws.map RowE.hdr) :: Sl.Own 3 1 (.slice bo (ts.length + 1) bc) (ts.length + 1) (begV (fun c => c) (lsOf ts) ++ [.int .i64 ((rows.length : Nat) : Int)]) :: Sl.Own 5 1 (.slice (some ⟨nz, 0, none⟩) (n * 128) (n * 128)) (n * 128) (bytes ring0) :: R))
          (Ent.trans (fun w hw => pile_join hw) Ent.re)
      · (refine w ?_; repeat ((first | refine VO.step rfl rfl ?_ | refine VD.end rfl rfl rfl ?_ | refine VD.mid rfl rfl rfl ?_); refine OpV.box rfl rfl rfl ?_; intro _; refine w ?_))
        exact VE.round ⟨i + 1, ts, rows, (t1, t2), (r1, r2), (b1, b2)⟩ ⟨hlt, Nat.le_succ_of_le hti, hT⟩ (by simp only; omega) ⟨rfl, rfl, rfl, rfl, rfl, rfl, rfl, rfl, rfl, asV rfl (by congr 1), trivial⟩ Ent.re
    · (refine w ?_; repeat ((first | refine VO.step rfl rfl ?_ | refine VD.end rfl rfl rfl ?_ | refine VD.mid rfl rfl rfl ?_); refine OpV.box rfl rfl rfl ?_; intro _; refine w ?_))
      (first | refine VO.gF rfl rfl rfl (by simpa using hse) ?_ | refine VD.gF rfl rfl rfl (by simpa using hse) ?_)
      (refine w ?_; repeat ((first | refine VO.step rfl rfl ?_ | refine VD.end rfl rfl rfl ?_ | refine VD.mid rfl rfl rfl ?_); refine OpV.box rfl rfl rfl ?_; intro _; refine w ?_))
      exact VE.round ⟨i + 1, ts, rows, (t1, t2), (r1, r2), (b1, b2)⟩ ⟨hlt, Nat.le_succ_of_le hti, hT⟩ (by simp only; omega) ⟨rfl, rfl, rfl, rfl, rfl, rfl, rfl, rfl, rfl, asV rfl (by congr 1), trivial⟩ Ent.re
  clear hc
  have hts60 : ts.length ≤ 60 := by omega
  clear hi hti
  refine VC.know (p := ∀ e ∈ rows, e.ok) (fun w hw => PilR.know hw.tail.tail) ?_
  intro hok
  refine VC.know (p := r1 = none → rows.length = 0) (fun w hw => hw.tail.ownNone (.head _)) ?_
  intro hrn
  refine VC.know (p := t1 = none → ts.length = 0) (fun w hw => hw.ownNone (.head _)) ?_
  intro htn
  refine VC.know (p := ts.length ≤ t2) (fun w hw => hw.ownCap (.head _)) ?_
  intro htc
  refine VC.know (p := b1 = none → ts.length = 0) (fun w hw => hw.tail.tail.tail.ownNone (.head _)) ?_
  intro hbn
  (refine w ?_; repeat ((first | refine VO.step rfl rfl ?_ | refine VD.end rfl rfl rfl ?_ | refine VD.mid rfl rfl rfl ?_); refine OpV.box rfl rfl rfl ?_; intro _; refine w ?_))
  refine VO.re 134 (.slice (some ⟨nz, 0, none⟩) ring0.length (n * 128)) rfl (by rw [hr0l, Nat.mul_comm]) ?_
  have hL := nlaid_ok (W := W) (R := TxnsO (t1, t2) ts :: RowsO (r1, r2) rows :: PilR rows :: BegO (fun c => c) (b1, b2) (lsOf ts) ts.length :: Sl.Own 5 1 (.slice (some ⟨nz, 0, none⟩) (n * 128) (n * 128)) (n * 128) (bytes ring0) :: R)
    (rc := n * 128) (lc := r2) (n := n) (at_ := at_) (ring := ring0) (ro := some ⟨nz, 0, none⟩) (lo := r1) (l := rows) (by rw [hr0l, Nat.mul_comm]; exact Rds.own (bytes_one _) (.tail _ (.tail _ (.tail _ (.tail _ (.head _))))) (by simp; omega) (by simp)) hr0l ⟨by omega, by omega⟩ (by omega)
    (RdRows.sub (x := (r1, r2)) hrn hok (fun _ h => h) (.tail _ (.head _)) (.tail _ (.tail _ (.head _)))) hT.r128 (by omega)
  ((first | refine VO.step rfl rfl ?_ | refine VD.end rfl rfl rfl ?_ | refine VD.mid rfl rfl rfl ?_); refine OpV.call rfl rfl (fun _ _ => by simp) (hL) Ent.refl rfl ?_)
  rintro ⟨ro, rc⟩ -
  have hlays := hT.lays (ring := ring0) (at_ := at_) hr0l (by omega)
  have hringl : (laidN ring0 at_ (rows.map RowE.data) rows.length).length = 128 * n :=
    laidN_length hr0l (by omega) (fun r hr => by obtain ⟨e, he, rfl⟩ := List.mem_map.1 hr; exact hT.r128 e he) _
  generalize laidN ring0 at_ (rows.map RowE.data) rows.length = ring at *
  refine VO.know (p := ro = none → ring.length = 0) (fun w hw => hw.ownNone (.head _)) ?_
  intro hron
  refine VO.know (p := ring.length ≤ rc) (fun w hw => hw.ownCap (.head _)) ?_
  intro hrc
  obtain ⟨ra, rfl⟩ := some_of_pos hron (by omega)
  refine VO.ent (H' := OwnB (some ra, rc) ring :: TxnsO (t1, t2) ts :: BegO (fun c => c) (b1, b2) (lsOf ts) ts.length :: R) Ent.re ?_
  obtain ⟨F, hF⟩ : ∃ F, F = ofM (secB ring) n 9 (n + 1) (sq + 1) 0 at_ := ⟨_, rfl⟩
  have hall : F.take ts.length = numb (sq + 1) (lsOf ts) := by rw [hF, ← lsOf_length ts]; exact hlays.all
  have hfd : foundM ring ⟨9, sq + 1, at_⟩ = (0, ⟨F, sq + 1 + F.length, (at_ + costT F) % n, costT F⟩) := by
    rw [hF]; exact found_good hringl ⟨by omega, by omega⟩ (by decide) ⟨by omega, by omega⟩ hatn
  obtain ⟨G, hG⟩ : ∃ G, G = ofM (secB ring) n 8 (n + 1) (sq + 1) 0 at_ := ⟨_, rfl⟩
  obtain ⟨nx8, hd8, us8, hfd8⟩ : ∃ a b c, foundM ring ⟨8, sq + 1, at_⟩ = (0, ⟨G, a, b, c⟩) := ⟨_, _, _, by rw [hG]; exact found_good hringl ⟨by omega, by omega⟩ (by decide) ⟨by omega, by omega⟩ hatn⟩
  (refine w ?_; repeat ((first | refine VO.step rfl rfl ?_ | refine VD.end rfl rfl rfl ?_ | refine VD.mid rfl rfl rfl ?_); refine OpV.box rfl rfl rfl ?_; intro _; refine w ?_))
  (apply VO.pure rfl rfl; apply PureAt.build sb_57 rfl; (simp [buildX, setL, Value.cells]; rfl); rfl)
  ((first | refine VO.step rfl rfl ?_ | refine VD.end rfl rfl rfl ?_ | refine VD.mid rfl rfl rfl ?_); refine OpV.allocS sb_57 rfl ?_; intro nc)
  (first | refine VO.step rfl rfl ?_ | refine VD.end rfl rfl rfl ?_ | refine VD.mid rfl rfl rfl ?_)
  refine OpV.stA (vs := [.int .u64 9, .int .u64 ((sq + 1 : Nat) : Int), .int .i64 at_]) tab_ok rfl rfl rfl rfl (by simp [Value.oneCell']) (by (repeat first | exact .head | apply Hole.tail)) (by simp) ?_
  refine VO.ent (H' := Row nc 57 [.int .u64 9, .int .u64 ((sq + 1 : Nat) : Int), .int .i64 at_] :: OwnB (some ra, rc) ring :: TxnsO (t1, t2) ts :: BegO (fun c => c) (b1, b2) (lsOf ts) ts.length :: R) Ent.re ?_
  have hfitc : ∀ (e : Nat), e < 10 → (ChkD.mk e (sq + 1) at_).fit := fun e he => ⟨by show e < 2 ^ 64; omega, by show sq + 1 < 2 ^ 64; omega, by show -9223372036854775808 ≤ (at_ : Int) ∧ (at_ : Int) ≤ 9223372036854775807; omega⟩
  have hO1 := of_ok (W := W) (R := Row nc 57 [.int .u64 9, .int .u64 ((sq + 1 : Nat) : Int), .int .i64 at_] :: OwnB (some ra, rc) ring :: TxnsO (t1, t2) ts :: BegO (fun c => c) (b1, b2) (lsOf ts) ts.length :: R)
    (ao := some ra) (cap := rc) (data := ring) (Rds.own (bytes_one _) (.tail _ (.head _)) (by simp) hron) hrc (by omega) ⟨9, sq + 1, at_⟩ (hfitc 9 (by decide))
  rw [hfd] at hO1
  (refine w ?_; repeat ((first | refine VO.step rfl rfl ?_ | refine VD.end rfl rfl rfl ?_ | refine VD.mid rfl rfl rfl ?_); refine OpV.box rfl rfl rfl ?_; intro _; refine w ?_))
  ((first | refine VO.step rfl rfl ?_ | refine VD.end rfl rfl rfl ?_ | refine VD.mid rfl rfl rfl ?_); refine OpV.call rfl rfl (fun _ _ => by simp) (hO1) Ent.refl rfl ?_)
  rintro ⟨⟨o1, c1⟩, fs⟩ hfs
  dsimp only at hfs ⊢
  (refine w ?_; repeat ((first | refine VO.step rfl rfl ?_ | refine VD.end rfl rfl rfl ?_ | refine VD.mid rfl rfl rfl ?_); refine OpV.box rfl rfl rfl ?_; intro _; refine w ?_))
  ((first | refine VO.step rfl rfl ?_ | refine VD.end rfl rfl rfl ?_ | refine VD.mid rfl rfl rfl ?_); refine OpV.allocS sb_61 rfl ?_; intro n26)
  (refine w ?_; repeat ((first | refine VO.step rfl rfl ?_ | refine VD.end rfl rfl rfl ?_ | refine VD.mid rfl rfl rfl ?_); refine OpV.box rfl rfl rfl ?_; intro _; refine w ?_))
  (first | refine VO.step rfl rfl ?_ | refine VD.end rfl rfl rfl ?_ | refine VD.mid rfl rfl rfl ?_)
  refine OpV.stA (vs := [.slice o1 fs.length c1, .int .u64 ((sq + 1 + F.length : Nat) : Int), .int .i64 (((at_ + costT F) % n : Nat) : Int), .int .i64 ((costT F : Nat) : Int)]) tab_ok rfl rfl rfl rfl (by simp [Value.oneCell']) (by (repeat first | exact .head | apply Hole.tail)) (by simp) ?_
  refine VO.ent (H' := Row n26 61 [.slice o1 fs.length c1, .int .u64 ((sq + 1 + F.length : Nat) : Int), .int .i64 (((at_ + costT F) % n : Nat) : Int), .int .i64 ((costT F : Nat) : Int)] :: TxnsO (o1, c1) fs :: PilT fs :: Row nc 57 [.int .u64 9, .int .u64 ((sq + 1 : Nat) : Int), .int .i64 at_] :: OwnB (some ra, rc) ring :: TxnsO (t1, t2) ts :: BegO (fun c => c) (b1, b2) (lsOf ts) ts.length :: R) Ent.re ?_
  refine VO.know (p := ∀ t ∈ fs, t.ok) (fun w hw => PilT.know hw.tail.tail) ?_
  intro hok1
  refine VO.know (p := o1 = none → fs.length = 0) (fun w hw => hw.tail.ownNone (.head _)) ?_
  intro hon
  refine VO.know (p := fs.length ≤ c1) (fun w hw => hw.tail.ownCap (.head _)) ?_
  intro hoc
  have hfl : fs.length = F.length := by rw [← hfs, List.length_map]
  have hFl : ts.length ≤ F.length := by
    have := congrArg List.length hall
    rw [List.length_take, numb_length, lsOf_length] at this; omega
  have hsm : (fs.take ts.length).map TxnE.T = ts.map TxnE.T := by rw [List.map_take, hfs, hall, hT.num]
  have hnle : ¬ ((fs.length : Int) < ts.length) := by omega
  have hFn : F.length ≤ n := by
    have h1 : F.length ≤ costT F := by rw [hF, of_numb, costT_numb, numb_length]; exact costL_len _
    have h2 : costT F ≤ n := by
      have := of_cost (sec := secB ring) (size := n) (e := 9) (n + 1) (sq + 1) 0 at_ (Nat.zero_le _)
      rw [← hF] at this; omega
    omega
  (refine w ?_; repeat ((first | refine VO.step rfl rfl ?_ | refine VD.end rfl rfl rfl ?_ | refine VD.mid rfl rfl rfl ?_); refine OpV.box rfl rfl rfl ?_; intro _; refine w ?_))
  (first | refine VO.gF rfl rfl rfl (decide_eq_false hnle) ?_ | refine VD.gF rfl rfl rfl (decide_eq_false hnle) ?_)
  (refine w ?_; repeat ((first | refine VO.step rfl rfl ?_ | refine VD.end rfl rfl rfl ?_ | refine VD.mid rfl rfl rfl ?_); refine OpV.box rfl rfl rfl ?_; intro _; refine w ?_))
  refine VO.re 162 (.slice o1 (fs.take ts.length).length c1) rfl (by rw [List.length_take, Nat.min_eq_left (by omega)]) ?_
  have hS1 := sametxns_ok (W := W) (R := Row n26 61 [.slice o1 fs.length c1, .int .u64 ((sq + 1 + F.length : Nat) : Int), .int .i64 (((at_ + costT F) % n : Nat) : Int), .int .i64 ((costT F : Nat) : Int)] :: TxnsO (o1, c1) fs :: PilT fs :: Row nc 57 [.int .u64 9, .int .u64 ((sq + 1 : Nat) : Int), .int .i64 at_] :: OwnB (some ra, rc) ring :: TxnsO (t1, t2) ts :: BegO (fun c => c) (b1, b2) (lsOf ts) ts.length :: R)
    (l := fs.take ts.length) (m := ts) (ac := c1) (bc := t2) (RdTxns.take (RdTxns.own (x := (o1, c1)) hon hok1 (.tail _ (.head _)) (.tail _ (.tail _ (.head _)))) (by omega)) (hT.rds (x := (t1, t2)) htn (.tail _ (.tail _ (.tail _ (.tail _ (.tail _ (.head _))))))) (by rw [List.length_take]; omega) (TFew.of hsm hT.few)
  rw [decide_eq_true hsm] at hS1
  (refine w ?_; repeat ((first | refine VO.step rfl rfl ?_ | refine VD.end rfl rfl rfl ?_ | refine VD.mid rfl rfl rfl ?_); refine OpV.box rfl rfl rfl ?_; intro _; refine w ?_))
  ((first | refine VO.step rfl rfl ?_ | refine VD.end rfl rfl rfl ?_ | refine VD.mid rfl rfl rfl ?_); refine OpV.call rfl rfl (fun _ _ => by simp) (hS1) Ent.refl rfl ?_)
  intro _ _
  (refine w ?_; repeat ((first | refine VO.step rfl rfl ?_ | refine VD.end rfl rfl rfl ?_ | refine VD.mid rfl rfl rfl ?_); refine OpV.box rfl rfl rfl ?_; intro _; refine w ?_))
  (apply VO.pure rfl rfl; apply PureAt.build sb_57 rfl; (simp [buildX, setL, Value.cells]; rfl); rfl)
  refine VO.ent (H' := Row nc 57 [.int .u64 9, .int .u64 ((sq + 1 : Nat) : Int), .int .i64 at_] :: OwnB (some ra, rc) ring :: TxnsO (t1, t2) ts :: BegO (fun c => c) (b1, b2) (lsOf ts) ts.length :: R) Ent.re ?_
  have hO2 := of_ok (W := W) (R := Row nc 57 [.int .u64 9, .int .u64 ((sq + 1 : Nat) : Int), .int .i64 at_] :: OwnB (some ra, rc) ring :: TxnsO (t1, t2) ts :: BegO (fun c => c) (b1, b2) (lsOf ts) ts.length :: R)
    (ao := some ra) (cap := rc) (data := ring) (Rds.own (bytes_one _) (.tail _ (.head _)) (by simp) hron) hrc (by omega) ⟨8, sq + 1, at_⟩ (hfitc 8 (by decide))
  rw [hfd8] at hO2
  ((first | refine VO.step rfl rfl ?_ | refine VD.end rfl rfl rfl ?_ | refine VD.mid rfl rfl rfl ?_); refine OpV.call rfl rfl (fun _ _ => by simp) (hO2) Ent.refl rfl ?_)
  rintro ⟨⟨o2, c2⟩, gs⟩ hgs
  dsimp only at hgs ⊢
  (refine w ?_; repeat ((first | refine VO.step rfl rfl ?_ | refine VD.end rfl rfl rfl ?_ | refine VD.mid rfl rfl rfl ?_); refine OpV.box rfl rfl rfl ?_; intro _; refine w ?_))
  ((first | refine VO.step rfl rfl ?_ | refine VD.end rfl rfl rfl ?_ | refine VD.mid rfl rfl rfl ?_); refine OpV.allocS sb_61 rfl ?_; intro n28)
  (refine w ?_; repeat ((first | refine VO.step rfl rfl ?_ | refine VD.end rfl rfl rfl ?_ | refine VD.mid rfl rfl rfl ?_); refine OpV.box rfl rfl rfl ?_; intro _; refine w ?_))
  (first | refine VO.step rfl rfl ?_ | refine VD.end rfl rfl rfl ?_ | refine VD.mid rfl rfl rfl ?_)
  refine OpV.stA (vs := [.slice o2 gs.length c2, .int .u64 (nx8 : Int), .int .i64 (hd8 : Int), .int .i64 (us8 : Int)]) tab_ok rfl rfl rfl rfl (by simp [Value.oneCell']) (by (repeat first | exact .head | apply Hole.tail)) (by simp) ?_
  refine VO.ent (H' := Row n28 61 [.slice o2 gs.length c2, .int .u64 (nx8 : Int), .int .i64 (hd8 : Int), .int .i64 (us8 : Int)] :: Row nc 57 [.int .u64 9, .int .u64 ((sq + 1 : Nat) : Int), .int .i64 at_] :: OwnB (some ra, rc) ring :: TxnsO (t1, t2) ts :: BegO (fun c => c) (b1, b2) (lsOf ts) ts.length :: R) Ent.re ?_
  rcases Nat.eq_zero_or_pos ts.length with h0 | hpos
  · obtain rfl : ts = [] := List.length_eq_zero_iff.1 h0
    obtain rfl : rows = [] := rowsNil hT
    (refine w ?_; repeat ((first | refine VO.step rfl rfl ?_ | refine VD.end rfl rfl rfl ?_ | refine VD.mid rfl rfl rfl ?_); refine OpV.box rfl rfl rfl ?_; intro _; refine w ?_))
    exact VE.done1 rfl rfl Ent.re
  have hrpos := hT.pos hpos
  have hr0 : ((rows.length : Int) == 0) = false := by
    have h1 : ¬ ((rows.length : Int) = 0) := by omega
    simpa using h1
  have hG0 : G = [] := by rw [hG]; exact hlays.other (fun q => by have := lsOf_length ts; rw [q] at this; simp at this; omega) 8 (by decide) hatn
  rw [hG0] at hgs
  obtain rfl : gs = [] := List.map_eq_nil_iff.1 hgs
  obtain ⟨ta, rfl⟩ := some_of_pos htn hpos
  obtain ⟨ba, rfl⟩ := some_of_pos hbn hpos
  (refine w ?_; repeat ((first | refine VO.step rfl rfl ?_ | refine VD.end rfl rfl rfl ?_ | refine VD.mid rfl rfl rfl ?_); refine OpV.box rfl rfl rfl ?_; intro _; refine w ?_))
  (first | refine VO.gT rfl rfl rfl (decide_eq_true (by omega)) ?_ | refine VD.gT rfl rfl rfl (decide_eq_true (by omega)) ?_)
  (refine w ?_; repeat ((first | refine VO.step rfl rfl ?_ | refine VD.end rfl rfl rfl ?_ | refine VD.mid rfl rfl rfl ?_); refine OpV.box rfl rfl rfl ?_; intro _; refine w ?_))
  (refine VC.condFe rfl rfl (hr0) ?_)
  (refine w ?_; repeat ((first | refine VO.step rfl rfl ?_ | refine VD.end rfl rfl rfl ?_ | refine VD.mid rfl rfl rfl ?_); refine OpV.box rfl rfl rfl ?_; intro _; refine w ?_))
  refine VO.re 192 (.int .i64 (hu : Int)) rfl (by rw [IntWalk.i64_in _ ⟨by omega, by omega⟩]) ?_
  (first | refine VO.pure rfl rfl (PureAt.rem (a := hu) (b := rows.length) rfl rfl hrpos) rfl ?_ | refine VD.take rfl rfl rfl (PureAt.rem (a := hu) (b := rows.length) rfl rfl hrpos) rfl ?_ | refine VQ.pure rfl rfl (PureAt.rem (a := hu) (b := rows.length) rfl rfl hrpos) rfl ?_ | refine VD.end rfl rfl rfl (OpV.pure (PureAt.rem (a := hu) (b := rows.length) rfl rfl hrpos) rfl ?_))
  obtain ⟨bad, hbad⟩ : ∃ b, b = hu % rows.length := ⟨_, rfl⟩
  have hbl : bad < rows.length := by rw [hbad]; exact Nat.mod_lt _ hrpos
  rw [← hbad]
  (refine w ?_; repeat ((first | refine VO.step rfl rfl ?_ | refine VD.end rfl rfl rfl ?_ | refine VD.mid rfl rfl rfl ?_); refine OpV.box rfl rfl rfl ?_; intro _; refine w ?_))
  refine VO.ent (H' := Row nc 57 [.int .u64 9, .int .u64 ((sq + 1 : Nat) : Int), .int .i64 at_] :: OwnB (some ra, rc) ring :: TxnsO (some ta, t2) ts :: BegO (fun c => c) (some ba, b2) (lsOf ts) ts.length :: R) Ent.re ?_
  have hL2 := nlaid_ok (W := W) (R := Row nc 57 [.int .u64 9, .int .u64 ((sq + 1 : Nat) : Int), .int .i64 at_] :: OwnB (some ra, rc) ring :: TxnsO (some ta, t2) ts :: BegO (fun c => c) (some ba, b2) (lsOf ts) ts.length :: R)
    (rc := rc) (lc := 0) (n := n) (at_ := at_) (ring := ring) (ro := some ra) (lo := none) (l := []) (Rds.own (bytes_one _) (.tail _ (.head _)) (by simp) hron) hringl ⟨by omega, by omega⟩ (by omega) rdRows_nil (by simp) (by decide)
  ((first | refine VO.step rfl rfl ?_ | refine VD.end rfl rfl rfl ?_ | refine VD.mid rfl rfl rfl ?_); refine OpV.call rfl rfl (fun _ _ => by simp) (hL2) Ent.refl rfl ?_)
  rintro ⟨wo, wc⟩ -
  rw [show laidN ring at_ (([] : List RowE).map RowE.data) ([] : List RowE).length = ring from rfl]
  refine VO.know (p := wo = none → ring.length = 0) (fun w hw => hw.ownNone (.head _)) ?_
  intro hwon
  refine VO.know (p := ring.length ≤ wc) (fun w hw => hw.ownCap (.head _)) ?_
  intro hwc
  obtain ⟨wa, rfl⟩ := some_of_pos hwon (by omega)
  refine VO.ent (H' := OwnB (some wa, wc) ring :: Row nc 57 [.int .u64 9, .int .u64 ((sq + 1 : Nat) : Int), .int .i64 at_] :: TxnsO (some ta, t2) ts :: BegO (fun c => c) (some ba, b2) (lsOf ts) ts.length :: R) Ent.re ?_
  (refine w ?_; repeat ((first | refine VO.step rfl rfl ?_ | refine VD.end rfl rfl rfl ?_ | refine VD.mid rfl rfl rfl ?_); refine OpV.box rfl rfl rfl ?_; intro _; refine w ?_))
  (first | refine VO.pure rfl rfl (PureAt.rem (a := at_ + bad) (b := n) rfl rfl (by omega)) rfl ?_ | refine VD.take rfl rfl rfl (PureAt.rem (a := at_ + bad) (b := n) rfl rfl (by omega)) rfl ?_ | refine VQ.pure rfl rfl (PureAt.rem (a := at_ + bad) (b := n) rfl rfl (by omega)) rfl ?_ | refine VD.end rfl rfl rfl (OpV.pure (PureAt.rem (a := at_ + bad) (b := n) rfl rfl (by omega)) rfl ?_))
  obtain ⟨kk, hkk⟩ : ∃ k, k = (at_ + bad) % n := ⟨_, rfl⟩
  have hkn : kk < n := by rw [hkk]; exact Nat.mod_lt _ (by omega)
  rw [← hkk]
  (refine w ?_; repeat ((first | refine VO.step rfl rfl ?_ | refine VD.end rfl rfl rfl ?_ | refine VD.mid rfl rfl rfl ?_); refine OpV.box rfl rfl rfl ?_; intro _; refine w ?_))
  refine VO.re 32 (.int .i64 ((kk * 128 : Nat) : Int)) rfl (by congr 1) ?_
  refine VO.re 206 (.int .i64 ((kk * 128 : Nat) : Int)) rfl (by congr 1) ?_
  refine VO.re 208 (.int .i64 ((kk * 128 + 128 : Nat) : Int)) rfl (by congr 1) ?_
  (refine w ?_; repeat ((first | refine VO.step rfl rfl ?_ | refine VD.end rfl rfl rfl ?_ | refine VD.mid rfl rfl rfl ?_); refine OpV.box rfl rfl rfl ?_; intro _; refine w ?_))
  have hsecl : (secB ring kk).length = 128 := secB_len hringl hkn
  refine VO.re 209 (.slice (subA (some wa) wc (kk * 128) 1) (secB ring kk).length (wc - kk * 128)) rfl (by rw [hsecl]; congr 1; omega) ?_
  have hM1 := rsum_ok (W := W) (R := OwnB (some wa, wc) ring :: Row nc 57 [.int .u64 9, .int .u64 ((sq + 1 : Nat) : Int), .int .i64 at_] :: TxnsO (some ta, t2) ts :: BegO (fun c => c) (some ba, b2) (lsOf ts) ts.length :: R) (cap := wc - kk * 128) (l := secB ring kk)
    (by rw [hsecl]; have := sec_rds (W := W) (H := OwnB (some wa, wc) ring :: Row nc 57 [.int .u64 9, .int .u64 ((sq + 1 : Nat) : Int), .int .i64 at_] :: TxnsO (some ta, t2) ts :: BegO (fun c => c) (some ba, b2) (lsOf ts) ts.length :: R) (.head _) hringl hkn hwc
        rwa [show kk * 128 + 128 - kk * 128 = 128 by omega] at this) (by omega)
  ((first | refine VO.step rfl rfl ?_ | refine VD.end rfl rfl rfl ?_ | refine VD.mid rfl rfl rfl ?_); refine OpV.call rfl rfl (fun _ _ => by simp) (hM1) Ent.refl rfl ?_)
  intro _ _
  (refine w ?_; repeat ((first | refine VO.step rfl rfl ?_ | refine VD.end rfl rfl rfl ?_ | refine VD.mid rfl rfl rfl ?_); refine OpV.box rfl rfl rfl ?_; intro _; refine w ?_))
  refine VC.loop (α := Nat) (fun j => j ≤ 128) (fun j => Sl.Own 5 1 (.slice (some wa) ring.length wc) ring.length (bytes (putP ring kk (List.replicate 128 0) j)) :: Row nc 57 [.int .u64 9, .int .u64 ((sq + 1 : Nat) : Int), .int .i64 at_] :: TxnsO (some ta, t2) ts :: BegO (fun c => c) (some ba, b2) (lsOf ts) ts.length :: R)
    (fun j => [(19, .slice (some ba) ts.length b2), (20, .slice (some ta) ts.length t2), (25, .pointer (some ⟨nc, 0, none⟩)), (30, .int .i64 bad), (31, .slice (some wa) ring.length wc), (32, .int .i64 ((kk * 128 : Nat) : Int)), (33, .int .u32 ((crcS (secB ring kk)).toNat : Int)), (34, .int .i64 j)]) (fun j => 128 - j) rfl 0 (by decide) (by rw [putP_zero]; exact Ent.refl) ⟨rfl, rfl, rfl, rfl, rfl, rfl, rfl, rfl, trivial⟩ ?_
  intro j hj
  (refine w ?_; repeat ((first | refine VO.step rfl rfl ?_ | refine VD.end rfl rfl rfl ?_ | refine VD.mid rfl rfl rfl ?_); refine OpV.box rfl rfl rfl ?_; intro _; refine w ?_))
  (refine VC.cond rfl rfl ?_ ?_ <;> intro hc)
  · have hj2 : j < 128 := by have := of_decide_eq_true hc; omega
    clear hc
    (refine w ?_; repeat ((first | refine VO.step rfl rfl ?_ | refine VD.end rfl rfl rfl ?_ | refine VD.mid rfl rfl rfl ?_); refine OpV.box rfl rfl rfl ?_; intro _; refine w ?_))
    refine VO.re 219 (.pointer (some (wa.add (128 * kk + j)))) rfl (by rw [Nat.mul_comm 128]) ?_
    (first | refine VO.step rfl rfl ?_ | refine VD.end rfl rfl rfl ?_ | refine VD.mid rfl rfl rfl ?_)
    refine OpV.stO2 (j := 128 * kk + j) (xs' := bytes (putP ring kk (List.replicate 128 0) (j + 1))) tab_ok rfl rfl rfl rfl (by (repeat first | exact .head | apply Hole.tail)) (by rw [bytes_length, putP_length hringl hkn (by simp) hj]; omega) ?_ ?_
    · rw [← putP_nought hringl hkn hj2]; unfold bytes; rw [List.map_set]; rfl
    (refine w ?_; repeat ((first | refine VO.step rfl rfl ?_ | refine VD.end rfl rfl rfl ?_ | refine VD.mid rfl rfl rfl ?_); refine OpV.box rfl rfl rfl ?_; intro _; refine w ?_))
    exact VE.round (j + 1) (by omega) (by omega) ⟨rfl, rfl, rfl, rfl, rfl, rfl, rfl, asV rfl (by congr 1), trivial⟩ Ent.re
  obtain rfl : j = 128 := by have := of_decide_eq_false hc; omega
  clear hc
  rw [putP_all (by simp)]
  have hr2l : (putS ring kk (List.replicate 128 0)).length = 128 * n := putS_length hringl hkn (by simp)
  have hsec2 : ∀ i, secB (putS ring kk (List.replicate 128 0)) i = if i = kk then List.replicate 128 0 else secB ring i := sec_put hringl hkn (by simp)
  generalize putS ring kk (List.replicate 128 0) = ring2 at hr2l hsec2 ⊢
  have hsecz : secB ring2 kk = List.replicate 128 0 := by rw [hsec2, if_pos rfl]
  have hl12 : ring.length = ring2.length := by rw [hringl, hr2l]
  rw [hl12]
  rw [hl12] at hwc
  (refine w ?_; repeat ((first | refine VO.step rfl rfl ?_ | refine VD.end rfl rfl rfl ?_ | refine VD.mid rfl rfl rfl ?_); refine OpV.box rfl rfl rfl ?_; intro _; refine w ?_))
  refine VO.re 222 (.int .i64 ((kk * 128 : Nat) : Int)) rfl rfl ?_
  refine VO.re 224 (.int .i64 ((kk * 128 + 128 : Nat) : Int)) rfl (by congr 1) ?_
  (refine w ?_; repeat ((first | refine VO.step rfl rfl ?_ | refine VD.end rfl rfl rfl ?_ | refine VD.mid rfl rfl rfl ?_); refine OpV.box rfl rfl rfl ?_; intro _; refine w ?_))
  refine VO.re 225 (.slice (subA (some wa) wc (kk * 128) 1) (secB ring2 kk).length (wc - kk * 128)) rfl (by rw [hsecz, List.length_replicate]; congr 1; omega) ?_
  have hM2 := rsum_ok (W := W) (R := OwnB (some wa, wc) ring2 :: Row nc 57 [.int .u64 9, .int .u64 ((sq + 1 : Nat) : Int), .int .i64 at_] :: TxnsO (some ta, t2) ts :: BegO (fun c => c) (some ba, b2) (lsOf ts) ts.length :: R) (cap := wc - kk * 128) (l := secB ring2 kk)
    (by have h9 : (secB ring2 kk).length = 128 := by rw [hsecz, List.length_replicate]
        rw [h9]; have := sec_rds (W := W) (H := OwnB (some wa, wc) ring2 :: Row nc 57 [.int .u64 9, .int .u64 ((sq + 1 : Nat) : Int), .int .i64 at_] :: TxnsO (some ta, t2) ts :: BegO (fun c => c) (some ba, b2) (lsOf ts) ts.length :: R) (.head _) hr2l hkn hwc
        rwa [show kk * 128 + 128 - kk * 128 = 128 by omega] at this) (by rw [hsecz, List.length_replicate]; decide)
  ((first | refine VO.step rfl rfl ?_ | refine VD.end rfl rfl rfl ?_ | refine VD.mid rfl rfl rfl ?_); refine OpV.call rfl rfl (fun _ _ => by simp) (hM2) Ent.refl rfl ?_)
  intro _ _
  (refine w ?_; repeat ((first | refine VO.step rfl rfl ?_ | refine VD.end rfl rfl rfl ?_ | refine VD.mid rfl rfl rfl ?_); refine OpV.box rfl rfl rfl ?_; intro _; refine w ?_))
  obtain ⟨F2, hF2⟩ : ∃ F, F = ofM (secB ring2) n 9 (n + 1) (sq + 1) 0 at_ := ⟨_, rfl⟩
  obtain ⟨nx2, hd2, us2, hfd2⟩ : ∃ a b c, foundM ring2 ⟨9, sq + 1, at_⟩ = (0, ⟨F2, a, b, c⟩) := ⟨_, _, _, by rw [hF2]; exact found_good hr2l ⟨by omega, by omega⟩ (by decide) ⟨by omega, by omega⟩ hatn⟩
  have hO3 := of_ok (W := W) (R := OwnB (some wa, wc) ring2 :: Row nc 57 [.int .u64 9, .int .u64 ((sq + 1 : Nat) : Int), .int .i64 at_] :: TxnsO (some ta, t2) ts :: BegO (fun c => c) (some ba, b2) (lsOf ts) ts.length :: R)
    (ao := some wa) (cap := wc) (data := ring2) (Rds.own (bytes_one _) (.head _) (by simp) (by simp)) hwc (by omega) ⟨9, sq + 1, at_⟩ (hfitc 9 (by decide))
  rw [hfd2] at hO3
  ((first | refine VO.step rfl rfl ?_ | refine VD.end rfl rfl rfl ?_ | refine VD.mid rfl rfl rfl ?_); refine OpV.call rfl rfl (fun _ _ => by simp) (hO3) Ent.refl rfl ?_)
  rintro ⟨⟨o3, c3⟩, hs⟩ hhs
  dsimp only at hhs ⊢
  (refine w ?_; repeat ((first | refine VO.step rfl rfl ?_ | refine VD.end rfl rfl rfl ?_ | refine VD.mid rfl rfl rfl ?_); refine OpV.box rfl rfl rfl ?_; intro _; refine w ?_))
  ((first | refine VO.step rfl rfl ?_ | refine VD.end rfl rfl rfl ?_ | refine VD.mid rfl rfl rfl ?_); refine OpV.allocS sb_61 rfl ?_; intro n36)
  (refine w ?_; repeat ((first | refine VO.step rfl rfl ?_ | refine VD.end rfl rfl rfl ?_ | refine VD.mid rfl rfl rfl ?_); refine OpV.box rfl rfl rfl ?_; intro _; refine w ?_))
  (first | refine VO.step rfl rfl ?_ | refine VD.end rfl rfl rfl ?_ | refine VD.mid rfl rfl rfl ?_)
  refine OpV.stA (vs := [.slice o3 hs.length c3, .int .u64 (nx2 : Int), .int .i64 (hd2 : Int), .int .i64 (us2 : Int)]) tab_ok rfl rfl rfl rfl (by simp [Value.oneCell']) (by (repeat first | exact .head | apply Hole.tail)) (by simp) ?_
  refine VO.ent (H' := Row n36 61 [.slice o3 hs.length c3, .int .u64 (nx2 : Int), .int .i64 (hd2 : Int), .int .i64 (us2 : Int)] :: TxnsO (o3, c3) hs :: PilT hs :: TxnsO (some ta, t2) ts :: BegO (fun c => c) (some ba, b2) (lsOf ts) ts.length :: R) Ent.re ?_
  refine VO.know (p := ∀ t ∈ hs, t.ok) (fun w hw => PilT.know hw.tail.tail) ?_
  intro hok3
  refine VO.know (p := o3 = none → hs.length = 0) (fun w hw => hw.tail.ownNone (.head _)) ?_
  intro hon3
  (refine w ?_; repeat ((first | refine VO.step rfl rfl ?_ | refine VD.end rfl rfl rfl ?_ | refine VD.mid rfl rfl rfl ?_); refine OpV.box rfl rfl rfl ?_; intro _; refine w ?_))
  refine VC.loop (α := Nat) (fun m => m < ts.length ∧ costL ((lsOf ts).take m) ≤ bad) (fun _ => Row n36 61 [.slice o3 hs.length c3, .int .u64 (nx2 : Int), .int .i64 (hd2 : Int), .int .i64 (us2 : Int)] :: TxnsO (o3, c3) hs :: PilT hs :: TxnsO (some ta, t2) ts :: BegO (fun c => c) (some ba, b2) (lsOf ts) ts.length :: R)
    (fun m => [(19, .slice (some ba) ts.length b2), (20, .slice (some ta) ts.length t2), (30, .int .i64 bad), (35, .bool (((crcS (secB ring kk)).toNat : Int) == ((crcS (secB ring2 kk)).toNat : Int))), (36, .pointer (some ⟨n36, 0, none⟩)), (37, .int .u16 0), (38, .int .i64 m)]) (fun m => ts.length - m) rfl 0 ⟨hpos, Nat.zero_le _⟩ Ent.refl ⟨rfl, rfl, rfl, rfl, rfl, rfl, rfl, trivial⟩ ?_
  rintro m ⟨hm, hmb⟩
  have hRB : Rds W (Row n36 61 [.slice o3 hs.length c3, .int .u64 (nx2 : Int), .int .i64 (hd2 : Int), .int .i64 (us2 : Int)] :: TxnsO (o3, c3) hs :: PilT hs :: TxnsO (some ta, t2) ts :: BegO (fun c => c) (some ba, b2) (lsOf ts) ts.length :: R) 1 (some ba) ts.length (begV (fun c => c) (lsOf ts)) := Rds.own (begV_one _ _) (.tail _ (.tail _ (.tail _ (.tail _ (.head _))))) (by rw [begV_length, lsOf_length]; omega) (by simp)
  (refine w ?_; repeat ((first | refine VO.step rfl rfl ?_ | refine VD.end rfl rfl rfl ?_ | refine VD.mid rfl rfl rfl ?_); refine OpV.box rfl rfl rfl ?_; intro _; refine w ?_))
  refine VO.joinR (α := Bool) (fun b => b = decide (m + 1 < ts.length ∧ costL ((lsOf ts).take (m + 1)) ≤ bad)) (fun _ => Row n36 61 [.slice o3 hs.length c3, .int .u64 (nx2 : Int), .int .i64 (hd2 : Int), .int .i64 (us2 : Int)] :: TxnsO (o3, c3) hs :: PilT hs :: TxnsO (some ta, t2) ts :: BegO (fun c => c) (some ba, b2) (lsOf ts) ts.length :: R)
    (fun b => [(247, .bool b), (19, .slice (some ba) ts.length b2), (20, .slice (some ta) ts.length t2), (30, .int .i64 bad), (35, .bool (((crcS (secB ring kk)).toNat : Int) == ((crcS (secB ring2 kk)).toNat : Int))), (36, .pointer (some ⟨n36, 0, none⟩)), (37, .int .u16 0), (38, .int .i64 m)]) (fun Q2 jn => ?_) ?_
  · ((first | refine VO.split rfl rfl rfl ?_ ?_ | refine VD.split rfl rfl rfl ?_ ?_) <;> intro hb)
    · have hm1 : m + 1 < ts.length := by have := of_decide_eq_true hb; omega
      (refine w ?_; repeat ((first | refine VO.step rfl rfl ?_ | refine VD.end rfl rfl rfl ?_ | refine VD.mid rfl rfl rfl ?_); refine OpV.box rfl rfl rfl ?_; intro _; refine w ?_))
      refine VO.re 242 (.int .i64 ((m + 1 : Nat) : Int)) rfl rfl ?_
      (refine w ?_; repeat ((first | refine VO.step rfl rfl ?_ | refine VD.end rfl rfl rfl ?_ | refine VD.mid rfl rfl rfl ?_); refine OpV.box rfl rfl rfl ?_; intro _; refine w ?_))
      (first | refine VO.pure rfl rfl (PureAt.ldR tab_ok rfl rfl hRB (begV_get _ _ (show m + 1 < (lsOf ts).length by rw [lsOf_length]; exact hm1))) rfl ?_ | refine VD.take rfl rfl rfl (PureAt.ldR tab_ok rfl rfl hRB (begV_get _ _ (show m + 1 < (lsOf ts).length by rw [lsOf_length]; exact hm1))) rfl ?_ | refine VQ.pure rfl rfl (PureAt.ldR tab_ok rfl rfl hRB (begV_get _ _ (show m + 1 < (lsOf ts).length by rw [lsOf_length]; exact hm1))) rfl ?_ | refine VD.end rfl rfl rfl (OpV.pure (PureAt.ldR tab_ok rfl rfl hRB (begV_get _ _ (show m + 1 < (lsOf ts).length by rw [lsOf_length]; exact hm1))) rfl ?_))
      (refine w ?_; repeat ((first | refine VO.step rfl rfl ?_ | refine VD.end rfl rfl rfl ?_ | refine VD.mid rfl rfl rfl ?_); refine OpV.box rfl rfl rfl ?_; intro _; refine w ?_))
      (refine jn.to (decide ((costL ((lsOf ts).take (m + 1)) : Int) ≤ bad)) (by rw [decide_eq_decide]; omega) ⟨rfl, rfl, rfl, rfl, rfl, rfl, rfl, rfl, trivial⟩ ?_; (try dsimp only); exact Ent.re)
    · (refine w ?_; repeat ((first | refine VO.step rfl rfl ?_ | refine VD.end rfl rfl rfl ?_ | refine VD.mid rfl rfl rfl ?_); refine OpV.box rfl rfl rfl ?_; intro _; refine w ?_))
      (refine jn.to false (by have := of_decide_eq_false hb; symm; apply decide_eq_false; omega) ⟨rfl, rfl, rfl, rfl, rfl, rfl, rfl, rfl, trivial⟩ ?_; (try dsimp only); exact Ent.re)
  intro bb hbb
  (refine VC.cond rfl rfl ?_ ?_ <;> intro hc)
  · obtain ⟨hm1, hm2⟩ : m + 1 < ts.length ∧ costL ((lsOf ts).take (m + 1)) ≤ bad := of_decide_eq_true (hbb ▸ hc)
    clear hc
    (refine w ?_; repeat ((first | refine VO.step rfl rfl ?_ | refine VD.end rfl rfl rfl ?_ | refine VD.mid rfl rfl rfl ?_); refine OpV.box rfl rfl rfl ?_; intro _; refine w ?_))
    exact VE.round (m + 1) ⟨hm1, hm2⟩ (by omega) ⟨rfl, rfl, rfl, rfl, rfl, rfl, asV rfl (by congr 1), trivial⟩ Ent.re
  have hend : ¬ (m + 1 < ts.length ∧ costL ((lsOf ts).take (m + 1)) ≤ bad) := of_decide_eq_false (hbb ▸ hc)
  clear hc hbb
  (refine w ?_; repeat ((first | refine VO.step rfl rfl ?_ | refine VD.end rfl rfl rfl ?_ | refine VD.mid rfl rfl rfl ?_); refine OpV.box rfl rfl rfl ?_; intro _; refine w ?_))
  (refine VC.cond rfl rfl ?_ ?_ <;> intro hc)
  · (refine w ?_; repeat ((first | refine VO.step rfl rfl ?_ | refine VD.end rfl rfl rfl ?_ | refine VD.mid rfl rfl rfl ?_); refine OpV.box rfl rfl rfl ?_; intro _; refine w ?_))
    exact VE.done1 rfl rfl Ent.re
  have hne : (crcS (secB ring kk)).toNat ≠ (crcS (secB ring2 kk)).toNat := by
    intro q; rw [q] at hc; simp at hc
  clear hc
  have hml : m < (lsOf ts).length := by rw [lsOf_length]; exact hm
  have hbc : bad < costL (lsOf ts) := by rw [← hT.rlen]; exact hbl
  have hwh := which_whole hml hmb (by rw [lsOf_length]; omega) hbc
  have hfin : F2 = numb (sq + 1) ((lsOf ts).take m) := by
    rw [hF2]
    refine hlays.hurt (z := List.replicate 128 0) hml hmb hwh nought_head (fun j => ?_) ?_
    · rw [hsec2, ← hkk]
    · rw [← hkk, ← hsecz]; exact hne
  have hsm2 : hs.map TxnE.T = (ts.take m).map TxnE.T := by rw [hhs, hfin, hT.takeT]
  have hhl : hs.length = m := by have := congrArg List.length hsm2; rw [List.length_map, List.length_map, List.length_take] at this; omega
  have hS3 := sametxns_ok (W := W) (R := Row n36 61 [.slice o3 hs.length c3, .int .u64 (nx2 : Int), .int .i64 (hd2 : Int), .int .i64 (us2 : Int)] :: TxnsO (o3, c3) hs :: PilT hs :: TxnsO (some ta, t2) ts :: BegO (fun c => c) (some ba, b2) (lsOf ts) ts.length :: R)
    (l := hs) (m := ts.take m) (ac := c3) (bc := t2) (RdTxns.own (x := (o3, c3)) hon3 hok3 (.tail _ (.head _)) (.tail _ (.tail _ (.head _)))) (RdTxns.take (hT.rds (x := (some ta, t2)) (by simp) (.tail _ (.tail _ (.tail _ (.head _))))) (by omega)) (by omega) (TFew.of hsm2 (fun t ht => hT.few t (List.mem_of_mem_take ht)))
  rw [decide_eq_true hsm2] at hS3
  (refine w ?_; repeat ((first | refine VO.step rfl rfl ?_ | refine VD.end rfl rfl rfl ?_ | refine VD.mid rfl rfl rfl ?_); refine OpV.box rfl rfl rfl ?_; intro _; refine w ?_))
  ((refine VC.quiet rfl (by kernel_rfl) (by kernel_rfl) ?_); (refine w ?_; repeat ((first | refine VO.step rfl rfl ?_ | refine VD.end rfl rfl rfl ?_ | refine VD.mid rfl rfl rfl ?_); refine OpV.box rfl rfl rfl ?_; intro _; refine w ?_)))
  refine VQ.re 260 (.slice (some ta) (ts.take m).length t2) rfl (by rw [List.length_take, Nat.min_eq_left (by omega)]) ?_
  (refine VQ.call rfl rfl rfl rfl (fun _ _ => by simp) (hS3) Ent.refl Ent.refl rfl ?_)
  (refine w ?_; repeat ((first | refine VO.step rfl rfl ?_ | refine VD.end rfl rfl rfl ?_ | refine VD.mid rfl rfl rfl ?_); refine OpV.box rfl rfl rfl ?_; intro _; refine w ?_))
  exact VE.done1 rfl rfl Ent.re
end Go.Proofs.Ytlojjlbngnaphaa
