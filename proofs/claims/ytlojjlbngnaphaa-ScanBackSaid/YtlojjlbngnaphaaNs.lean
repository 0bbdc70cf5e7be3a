/- A ring with batches from a place on: the walk of ringOf. -/
import Derived.Test.YtlojjlbngnaphaaNr
import Derived.Test.YtlojjlbngnaphaaNv
set_option maxRecDepth 8000
set_option linter.unusedVariables false
set_option linter.unusedSimpArgs false
set_option linter.unusedSectionVars false
namespace Go.Proofs.Ytlojjlbngnaphaa
open Go.RowKit Go.Sl
attribute [local irreducible] Own

theorem FineL.nil {e s : Nat} : FineL e s [] := fun k hk => absurd hk (by simp)
theorem FineL.snoc {e s : Nat} {ls : List (List PatD)} {l : List PatD} (h : FineL e s ls) (hl : Fine e (s + ls.length) l) : FineL e s (ls ++ [l]) := by
  intro k hk
  by_cases q : k < ls.length
  · rw [List.getElem_append_left q]; exact h k q
  · have : k = ls.length := by rw [List.length_append, List.length_singleton] at hk; omega
    subst this
    rw [List.getElem_append_right (Nat.le_refl _)]; simpa using hl
theorem flatR_one (e s : Nat) (l : List PatD) : flatR e s [l] = rowsP e s l := by simp [flatR]
theorem costL_one (l : List PatD) : costL [l] = 2 * l.length + 1 := by simp [costL]
/-- Where each of them begins. -/
def begV (f : Nat → Nat) (ls : List (List PatD)) : List Value := (List.range ls.length).map fun k => .int .i64 (f (costL (ls.take k)) : Nat)
theorem begV_length (f : Nat → Nat) (ls : List (List PatD)) : (begV f ls).length = ls.length := by simp [begV]
theorem begV_snoc (f : Nat → Nat) (ls : List (List PatD)) (l : List PatD) : begV f (ls ++ [l]) = begV f ls ++ [.int .i64 (f (costL ls) : Nat)] := by
  unfold begV
  rw [List.length_append, List.length_singleton, List.range_succ, List.map_append]
  congr 1
  · apply List.map_congr_left
    intro k hk
    rw [List.mem_range] at hk
    rw [List.take_append_of_le_length (by omega)]
  · simp
theorem begV_one (f : Nat → Nat) (ls : List (List PatD)) : ∀ u ∈ begV f ls, u.oneCell' = true := by
  intro u hu; obtain ⟨k, _, rfl⟩ := List.mem_map.1 hu; rfl
theorem begV_get (f : Nat → Nat) (ls : List (List PatD)) {k : Nat} (h : k < ls.length) : (begV f ls)[k]? = some (.int .i64 (f (costL (ls.take k)) : Nat)) := by
  simp [begV, h]
def lsOf (ts : List TxnE) : List (List PatD) := ts.map fun t => t.pats.map PatE.D
theorem lsOf_length (ts : List TxnE) : (lsOf ts).length = ts.length := by simp [lsOf]
theorem lsOf_snoc (ts : List TxnE) (t : TxnE) : lsOf (ts ++ [t]) = lsOf ts ++ [t.pats.map PatE.D] := by simp [lsOf]
/-- Batches taken so far: their lists, which are somebody else's, and their rows. -/
structure Took (W : World) (e s n : Nat) (ts : List TxnE) (rows : List RowE) : Prop where
  num : ts.map TxnE.T = numb s (lsOf ts)
  rows : rows.map RowE.data = flatR e s (lsOf ts)
  fine : FineL e s (lsOf ts)
  cost : costL (lsOf ts) ≤ n
  rd : ∀ t ∈ ts, (∀ R, RdPats W R t.ao t.pats) ∧ t.ok
theorem Took.start (W : World) (e s n : Nat) : Took W e s n [] [] := ⟨rfl, rfl, FineL.nil, Nat.zero_le _, by simp⟩
theorem Took.rlen {W : World} {e s n : Nat} {ts : List TxnE} {rows : List RowE} (h : Took W e s n ts rows) : rows.length = costL (lsOf ts) := by
  have := congrArg List.length h.rows
  rwa [List.length_map, flatR_length] at this
theorem Took.r128 {W : World} {e s n : Nat} {ts : List TxnE} {rows : List RowE} (h : Took W e s n ts rows) : ∀ r ∈ rows, r.data.length = 128 := fun r hr =>
  h.fine.rows _ (by rw [← h.rows]; exact List.mem_map_of_mem hr)
theorem Took.snoc {W : World} {e s n : Nat} {ts : List TxnE} {rows rws : List RowE} (h : Took W e s n ts rows) {p : PlsE} (hp : p.wf W) (hf : Fine e (s + ts.length) (p.pats.map PatE.D)) (hr : rws.map RowE.data = rowsP e (s + ts.length) (p.pats.map PatE.D))
    (hc : rows.length + rws.length ≤ n) : Took W e s n (ts ++ [⟨s + ts.length, p.ao, p.cap, p.pats⟩]) (rows ++ rws) := by
  refine ⟨?_, ?_, ?_, ?_, ?_⟩
  · rw [List.map_append, h.num, lsOf_snoc, numb_append, lsOf_length]; rfl
  · rw [List.map_append, h.rows, lsOf_snoc, flatR_append, lsOf_length, flatR_one, hr]
  · rw [lsOf_snoc]; exact h.fine.snoc (by rw [lsOf_length]; exact hf)
  · rw [lsOf_snoc, costL_append, costL_one, ← h.rlen]
    have := congrArg List.length hr
    rw [List.length_map, rowsP_length] at this
    show rows.length + (2 * (p.pats.map PatE.D).length + 1) ≤ n
    omega
  · intro t ht
    rw [List.mem_append, List.mem_singleton] at ht
    rcases ht with ht | rfl
    · exact h.rd t ht
    · exact ⟨hp.rd, ⟨(hp.rd []).rds.nil, hp.cap, (hp.rd []).ok⟩⟩
theorem Took.few {W : World} {e s n : Nat} {ts : List TxnE} {rows : List RowE} (h : Took W e s n ts rows) : ∀ t ∈ ts, t.pats.length ≤ 140737488351232 ∧ ∀ p ∈ t.pats, p.d.data.length ≤ maxLen := by
  intro t ht
  obtain ⟨k, hk, rfl⟩ := List.mem_iff_getElem.1 ht
  have hf := h.fine k (by rw [lsOf_length]; exact hk)
  have e1 : (lsOf ts)[k]'(by rw [lsOf_length]; exact hk) = ts[k].pats.map PatE.D := by simp [lsOf]
  rw [e1] at hf
  have h2 := hf.n2
  rw [List.length_map] at h2
  refine ⟨by omega, fun p hp => ?_⟩
  have := (hf.pat p.D (List.mem_map_of_mem hp)).2.2
  have e2 : p.d.data.length = 128 := this
  rw [e2]; decide
/-- The batches, readable where their headers are one's own. -/
theorem Took.rds {W : World} {H : List SProp} {e s n : Nat} {ts : List TxnE} {rows : List RowE} (h : Took W e s n ts rows) {x : Option Addr × Nat} (hn : x.1 = none → ts.length = 0) (m : TxnsO x ts ∈ H) : RdTxns W H x.1 ts :=
  ⟨Rds.own (txns_one _) m (txns_len ts) hn, fun t ht => (h.rd t ht).1 H, fun t ht => (h.rd t ht).2⟩
theorem rowsO_app {y z : List RowE} (so : Option Addr) (sc : Nat) : RowsO (so, sc) (y ++ z) = Sl.Own 55 1 (.slice so (y.length + z.length) sc) (y.length + z.length) (y.map RowE.hdr ++ z.map RowE.hdr) := by
  show Sl.Own _ _ (.slice so (y ++ z).length sc) (y ++ z).length ((y ++ z).map RowE.hdr) = _
  rw [List.length_append, List.map_append]
abbrev BegO (f : Nat → Nat) (x : Option Addr × Nat) (ls : List (List PatD)) (k : Nat) : SProp := Sl.Own 3 1 (.slice x.1 k x.2) k (begV f ls)

structure RofE where
  i : Nat
  ts : List TxnE
  rows : List RowE
  t : Option Addr × Nat
  r : Option Addr × Nat
  b : Option Addr × Nat
set_option maxHeartbeats 2000000 in
theorem ringof_ok {W : World} {R : List SProp} {lo : Option Addr} {lc sz tl sq : Nat} {l : List PlsE} (h1 : sz < 256) (h2 : tl < 256) (h3 : sq < 65536) (hl : RdsA W 1 lo l.length (l.map PlsE.hdr)) (hwf : ∀ p ∈ l, p.wf W) (hlen : l.length ≤ 140737488351232) :
    Does W Try.prog 30 [.int .u8 sz, .int .u8 tl, .int .u16 sq, .slice lo l.length lc] R (β := RofE × (Option Addr × Nat)) (fun y => Took W 9 (sq + 1) (sz % 60 + 5) y.1.ts y.1.rows ∧ y.1.ts.length ≤ 40)
      (fun y => .tuple #[.slice y.2.1 (laidN (List.replicate ((sz % 60 + 5) * 128) 0) (tl % (sz % 60 + 5)) (y.1.rows.map RowE.data) y.1.rows.length).length y.2.2, .slice y.1.t.1 y.1.ts.length y.1.t.2, .slice y.1.b.1 y.1.ts.length y.1.b.2])
      (fun y => OwnB y.2 (laidN (List.replicate ((sz % 60 + 5) * 128) 0) (tl % (sz % 60 + 5)) (y.1.rows.map RowE.data) y.1.rows.length) :: TxnsO y.1.t y.1.ts :: BegO (fun c => (tl % (sz % 60 + 5) + c) % (sz % 60 + 5)) y.1.b (lsOf y.1.ts) y.1.ts.length :: R) := by
  obtain ⟨n, hn⟩ : ∃ n, n = sz % 60 + 5 := ⟨_, rfl⟩
  rw [← hn]
  obtain ⟨at_, hat⟩ : ∃ a, a = tl % n := ⟨_, rfl⟩
  rw [← hat]
  have hn5 : 5 ≤ n ∧ n ≤ 64 := by omega
  have hatn : at_ < n := by rw [hat]; exact Nat.mod_lt _ (by omega)
  (refine Does.enter Try.func30 Try.ntmps30 rfl rfl ?_)
  (refine w ?_; repeat ((first | refine VO.step rfl rfl ?_ | refine VD.end rfl rfl rfl ?_ | refine VD.mid rfl rfl rfl ?_); refine OpV.box rfl rfl rfl ?_; intro _; refine w ?_))
  refine VO.re 22 (.int .i64 (sz : Int)) rfl (by rw [IntWalk.i64_in _ ⟨by omega, by omega⟩]) ?_
  (first | refine VO.pure rfl rfl (PureAt.rem (a := sz) (b := 60) rfl rfl (by decide)) rfl ?_ | refine VD.take rfl rfl rfl (PureAt.rem (a := sz) (b := 60) rfl rfl (by decide)) rfl ?_ | refine VQ.pure rfl rfl (PureAt.rem (a := sz) (b := 60) rfl rfl (by decide)) rfl ?_ | refine VD.end rfl rfl rfl (OpV.pure (PureAt.rem (a := sz) (b := 60) rfl rfl (by decide)) rfl ?_))
  (refine w ?_; repeat ((first | refine VO.step rfl rfl ?_ | refine VD.end rfl rfl rfl ?_ | refine VD.mid rfl rfl rfl ?_); refine OpV.box rfl rfl rfl ?_; intro _; refine w ?_))
  refine VO.re 11 (.int .i64 n) rfl (by rw [hn]; congr 1) ?_
  refine VO.re 27 (.int .i64 n) rfl (by rw [hn]; congr 1) ?_
  (refine w ?_; repeat ((first | refine VO.step rfl rfl ?_ | refine VD.end rfl rfl rfl ?_ | refine VD.mid rfl rfl rfl ?_); refine OpV.box rfl rfl rfl ?_; intro _; refine w ?_))
  refine VO.re 26 (.int .i64 (tl : Int)) rfl (by rw [IntWalk.i64_in _ ⟨by omega, by omega⟩]) ?_
  (first | refine VO.pure rfl rfl (PureAt.rem (a := tl) (b := n) rfl rfl (by omega)) rfl ?_ | refine VD.take rfl rfl rfl (PureAt.rem (a := tl) (b := n) rfl rfl (by omega)) rfl ?_ | refine VQ.pure rfl rfl (PureAt.rem (a := tl) (b := n) rfl rfl (by omega)) rfl ?_ | refine VD.end rfl rfl rfl (OpV.pure (PureAt.rem (a := tl) (b := n) rfl rfl (by omega)) rfl ?_))
  refine VO.re 28 (.int .i64 at_) rfl (by rw [hat]) ?_
  (refine w ?_; repeat ((first | refine VO.step rfl rfl ?_ | refine VD.end rfl rfl rfl ?_ | refine VD.mid rfl rfl rfl ?_); refine OpV.box rfl rfl rfl ?_; intro _; refine w ?_))
  have hw1 : Value.int .u64 (IntKind.u64.wrap (IntKind.u64.wrap (sq : Int) + 1)) = .int .u64 ((sq + 1 : Nat) : Int) := by
    rw [wrap64_of (by omega), show ((sq : Int) + 1) = ((sq + 1 : Nat) : Int) by omega, wrap64_of (by omega)]
  refine VC.re 13 (.int .u64 ((sq + 1 : Nat) : Int)) rfl hw1 ?_
  refine VC.loop (α := RofE) (fun y => y.i ≤ l.length ∧ y.i ≤ 40 ∧ y.ts.length ≤ y.i ∧ Took W 9 (sq + 1) n y.ts y.rows)
    (fun y => TxnsO y.t y.ts :: RowsO y.r y.rows :: PilR y.rows :: BegO (fun c => (at_ + c) % n) y.b (lsOf y.ts) y.ts.length :: R)
    (fun y => [(3, .slice lo l.length lc), (11, .int .i64 n), (12, .int .i64 at_), (13, .int .u64 ((sq + 1 : Nat) : Int)), (14, .slice y.r.1 y.rows.length y.r.2), (15, .slice y.b.1 y.ts.length y.b.2), (16, .slice y.t.1 y.ts.length y.t.2), (17, .int .i64 y.i)]) (fun y => l.length - y.i) rfl
    ⟨0, [], [], (none, 0), (none, 0), (none, 0)⟩ ⟨Nat.zero_le _, Nat.zero_le _, Nat.le_refl _, Took.start W 9 (sq + 1) n⟩
    (fun w hw => by
      have a1 := hw.ownNil 3 1
      have a2 := pile_nil (res := RowE.res) a1
      have a3 := a2.ownNil 55 1
      exact a3.ownNil 25 2) ⟨rfl, rfl, rfl, rfl, rfl, rfl, rfl, rfl, trivial⟩ ?_
  rintro ⟨i, ts, rows, ⟨t1, t2⟩, ⟨r1, r2⟩, ⟨b1, b2⟩⟩ ⟨hi, hi40, hti, hT⟩
  dsimp only at hi hi40 hti hT ⊢
  have hrl := hT.rlen
  have hcn := hT.cost
  (refine w ?_; repeat ((first | refine VO.step rfl rfl ?_ | refine VD.end rfl rfl rfl ?_ | refine VD.mid rfl rfl rfl ?_); refine OpV.box rfl rfl rfl ?_; intro _; refine w ?_))
  refine VO.joinR (α := Bool) (fun b => b = decide (i < l.length ∧ i < 40)) (fun _ => TxnsO (t1, t2) ts :: RowsO (r1, r2) rows :: PilR rows :: BegO (fun c => (at_ + c) % n) (b1, b2) (lsOf ts) ts.length :: R)
    (fun b => [(39, .bool b), (3, .slice lo l.length lc), (11, .int .i64 n), (12, .int .i64 at_), (13, .int .u64 ((sq + 1 : Nat) : Int)), (14, .slice r1 rows.length r2), (15, .slice b1 ts.length b2), (16, .slice t1 ts.length t2), (17, .int .i64 i)]) (fun Q2 jn => ?_) ?_
  · ((first | refine VO.split rfl rfl rfl ?_ ?_ | refine VD.split rfl rfl rfl ?_ ?_) <;> intro hb)
    · (refine w ?_; repeat ((first | refine VO.step rfl rfl ?_ | refine VD.end rfl rfl rfl ?_ | refine VD.mid rfl rfl rfl ?_); refine OpV.box rfl rfl rfl ?_; intro _; refine w ?_))
      (refine jn.to (decide ((i : Int) < 40)) (by have := of_decide_eq_true hb; rw [decide_eq_decide]; omega) ⟨rfl, rfl, rfl, rfl, rfl, rfl, rfl, rfl, rfl, trivial⟩ ?_; (try dsimp only); exact Ent.re)
    · (refine w ?_; repeat ((first | refine VO.step rfl rfl ?_ | refine VD.end rfl rfl rfl ?_ | refine VD.mid rfl rfl rfl ?_); refine OpV.box rfl rfl rfl ?_; intro _; refine w ?_))
      (refine jn.to false (by have := of_decide_eq_false hb; symm; apply decide_eq_false; omega) ⟨rfl, rfl, rfl, rfl, rfl, rfl, rfl, rfl, rfl, trivial⟩ ?_; (try dsimp only); exact Ent.re)
  intro bb hbb
  (refine VC.cond rfl rfl ?_ ?_ <;> intro hc)
  · have hlt2 : i < l.length ∧ i < 40 := of_decide_eq_true (hbb ▸ hc)
    obtain ⟨hlt, h40⟩ := hlt2
    clear hc
    obtain ⟨la, rfl⟩ := some_of_pos (hl []).nil (by omega)
    have hget : (l.map PlsE.hdr)[i]? = some (.slice l[i].ao l[i].pats.length l[i].cap) := by rw [List.getElem?_map, List.getElem?_eq_getElem hlt]; rfl
    have hw := hwf _ (List.getElem_mem hlt)
    (refine w ?_; repeat ((first | refine VO.step rfl rfl ?_ | refine VD.end rfl rfl rfl ?_ | refine VD.mid rfl rfl rfl ?_); refine OpV.box rfl rfl rfl ?_; intro _; refine w ?_))
    (first | refine VO.pure rfl rfl (PureAt.ldR tab_ok rfl rfl (hl _) hget) rfl ?_ | refine VD.take rfl rfl rfl (PureAt.ldR tab_ok rfl rfl (hl _) hget) rfl ?_ | refine VQ.pure rfl rfl (PureAt.ldR tab_ok rfl rfl (hl _) hget) rfl ?_ | refine VD.end rfl rfl rfl (OpV.pure (PureAt.ldR tab_ok rfl rfl (hl _) hget) rfl ?_))
    ((first | refine VO.step rfl rfl ?_ | refine VD.end rfl rfl rfl ?_ | refine VD.mid rfl rfl rfl ?_); refine OpV.call rfl rfl (fun _ _ => by simp) (nmuch_ok hw.len hw.fit (hw.rd _)) Ent.refl rfl ?_)
    intro b hfew
    (refine w ?_; repeat ((first | refine VO.step rfl rfl ?_ | refine VD.end rfl rfl rfl ?_ | refine VD.mid rfl rfl rfl ?_); refine OpV.box rfl rfl rfl ?_; intro _; refine w ?_))
    (refine VC.cond rfl rfl ?_ ?_ <;> intro hc)
    · (refine w ?_; repeat ((first | refine VO.step rfl rfl ?_ | refine VD.end rfl rfl rfl ?_ | refine VD.mid rfl rfl rfl ?_); refine OpV.box rfl rfl rfl ?_; intro _; refine w ?_))
      exact VE.round ⟨i + 1, ts, rows, (t1, t2), (r1, r2), (b1, b2)⟩ ⟨hlt, h40, Nat.le_succ_of_le hti, hT⟩ (by simp only; omega) ⟨rfl, rfl, rfl, rfl, rfl, rfl, rfl, asV rfl (by congr 1), trivial⟩ Ent.re
    clear hc hfew
    (refine w ?_; repeat ((first | refine VO.step rfl rfl ?_ | refine VD.end rfl rfl rfl ?_ | refine VD.mid rfl rfl rfl ?_); refine OpV.box rfl rfl rfl ?_; intro _; refine w ?_))
    refine VO.re 51 (.int .u64 ((sq + 1 + ts.length : Nat) : Int)) rfl (by
      congr 1
      rw [wrap64_of (v := ts.length) (by omega), ← Int.natCast_add, wrap64_of (by omega)]) ?_
    (refine w ?_; repeat ((first | refine VO.step rfl rfl ?_ | refine VD.end rfl rfl rfl ?_ | refine VD.mid rfl rfl rfl ?_); refine OpV.box rfl rfl rfl ?_; intro _; refine w ?_))
    (first | refine VO.pure rfl rfl (PureAt.ldR tab_ok rfl rfl (hl _) hget) rfl ?_ | refine VD.take rfl rfl rfl (PureAt.ldR tab_ok rfl rfl (hl _) hget) rfl ?_ | refine VQ.pure rfl rfl (PureAt.ldR tab_ok rfl rfl (hl _) hget) rfl ?_ | refine VD.end rfl rfl rfl (OpV.pure (PureAt.ldR tab_ok rfl rfl (hl _) hget) rfl ?_))
    (apply VO.pure rfl rfl; apply PureAt.build sb_25 rfl; (simp [buildX, setL, Value.cells]; rfl); rfl)
    ((first | refine VO.step rfl rfl ?_ | refine VD.end rfl rfl rfl ?_ | refine VD.mid rfl rfl rfl ?_); refine OpV.allocS sb_25 rfl ?_; intro nt)
    (first | refine VO.step rfl rfl ?_ | refine VD.end rfl rfl rfl ?_ | refine VD.mid rfl rfl rfl ?_)
    refine OpV.stA (vs := [.int .u64 ((sq + 1 + ts.length : Nat) : Int), .slice l[i].ao l[i].pats.length l[i].cap]) tab_ok rfl rfl rfl rfl (by simp [Value.oneCell']) (by (repeat first | exact .head | apply Hole.tail)) (by simp) ?_
    refine VO.ent (H' := Row nt 25 [.int .u64 ((sq + 1 + ts.length : Nat) : Int), .slice l[i].ao l[i].pats.length l[i].cap] :: TxnsO (t1, t2) ts :: RowsO (r1, r2) rows :: PilR rows :: BegO (fun c => (at_ + c) % n) (b1, b2) (lsOf ts) ts.length :: R) Ent.re ?_
    have hS := sectors_ok (W := W) (R := Row nt 25 [.int .u64 ((sq + 1 + ts.length : Nat) : Int), .slice l[i].ao l[i].pats.length l[i].cap] :: TxnsO (t1, t2) ts :: RowsO (r1, r2) rows :: PilR rows :: BegO (fun c => (at_ + c) % n) (b1, b2) (lsOf ts) ts.length :: R) (cap := l[i].cap) 9 (sq + 1 + ts.length) (by omega) (by omega) (hw.rd _) hw.fit hw.len
    (refine w ?_; repeat ((first | refine VO.step rfl rfl ?_ | refine VD.end rfl rfl rfl ?_ | refine VD.mid rfl rfl rfl ?_); refine OpV.box rfl rfl rfl ?_; intro _; refine w ?_))
    ((first | refine VO.step rfl rfl ?_ | refine VD.end rfl rfl rfl ?_ | refine VD.mid rfl rfl rfl ?_); refine OpV.call rfl rfl (fun _ _ => by simp) (hS) Ent.refl rfl ?_)
    rintro ⟨⟨xo, xc⟩, rws⟩ hrws
    dsimp only at hrws ⊢
    rcases secs_cases 9 (sq + 1 + ts.length) (l[i].pats.map PatE.D) with ⟨hfine, hse⟩ | ⟨hnf, hse, -⟩
    · rw [hse] at hrws ⊢
      dsimp only at hrws ⊢
      have hn2 := hfine.n2
      rw [List.length_map] at hn2
      have hwl : rws.length = 2 * l[i].pats.length + 1 := by have := congrArg List.length hrws; rwa [List.length_map, rowsP_length, List.length_map] at this
      (refine w ?_; repeat ((first | refine VO.step rfl rfl ?_ | refine VD.end rfl rfl rfl ?_ | refine VD.mid rfl rfl rfl ?_); refine OpV.box rfl rfl rfl ?_; intro _; refine w ?_))
      (refine VC.cond rfl rfl ?_ ?_ <;> intro hc)
      · have hfit : rows.length + rws.length ≤ n := by have := of_decide_eq_true hc; omega
        clear hc
        have hT2 := hT.snoc hw hfine hrws hfit
        (refine w ?_; repeat ((first | refine VO.step rfl rfl ?_ | refine VD.end rfl rfl rfl ?_ | refine VD.mid rfl rfl rfl ?_); refine OpV.box rfl rfl rfl ?_; intro _; refine w ?_))
        (first | refine VO.pure rfl rfl (PureAt.rem (a := at_ + rows.length) (b := n) rfl rfl (by omega)) rfl ?_ | refine VD.take rfl rfl rfl (PureAt.rem (a := at_ + rows.length) (b := n) rfl rfl (by omega)) rfl ?_ | refine VQ.pure rfl rfl (PureAt.rem (a := at_ + rows.length) (b := n) rfl rfl (by omega)) rfl ?_ | refine VD.end rfl rfl rfl (OpV.pure (PureAt.rem (a := at_ + rows.length) (b := n) rfl rfl (by omega)) rfl ?_))
        ((first | refine VO.step rfl rfl ?_ | refine VD.end rfl rfl rfl ?_ | refine VD.mid rfl rfl rfl ?_); refine OpV.buildSlice1 st_71 rfl rfl (by first | (simp; done) | simp [Value.oneCell']) (by decide) rfl ?_; intro nb)
        ((first | refine VO.step rfl rfl ?_ | refine VD.end rfl rfl rfl ?_ | refine VD.mid rfl rfl rfl ?_); refine OpV.appendRow st_71 rfl rfl (by (repeat first | exact .head | apply Hole.tail)) (by (focus repeat first | exact .head _ | apply List.Mem.tail)) rfl (by first | (simp; done) | simp [Value.oneCell']) ?_ ?_ rfl ?_)
        · simp only [maxLen]; omega
        · omega
        intro bo bc
        (refine w ?_; repeat ((first | refine VO.step rfl rfl ?_ | refine VD.end rfl rfl rfl ?_ | refine VD.mid rfl rfl rfl ?_); refine OpV.box rfl rfl rfl ?_; intro _; refine w ?_))
        (first | refine VO.step rfl rfl ?_ | refine VD.end rfl rfl rfl ?_ | refine VD.mid rfl rfl rfl ?_)
        refine OpV.append (m := rws.length) (news := rws.map RowE.hdr) st_28 rfl rfl (by (repeat first | exact .head | apply Hole.tail)) (fun w hw => (show Sees w 1 (.slice xo rws.length xc) rws.length (rws.map RowE.hdr) from Sees.own (e := 55) (rowhdr_one rws) hw (by (focus repeat first | exact .head _ | apply List.Mem.tail))).src st_28.und) (by simp only [maxLen]; omega) (by omega) rfl ?_
        intro so sc
        (refine w ?_; repeat ((first | refine VO.step rfl rfl ?_ | refine VD.end rfl rfl rfl ?_ | refine VD.mid rfl rfl rfl ?_); refine OpV.box rfl rfl rfl ?_; intro _; refine w ?_))
        (first | refine VO.step rfl rfl ?_ | refine VD.end rfl rfl rfl ?_ | refine VD.mid rfl rfl rfl ?_)
        refine OpV.buildSlice (cs := TxnE.cells ⟨sq + 1 + ts.length, l[i].ao, l[i].cap, l[i].pats⟩) st_59 rfl rfl (by simp [Value.cells]) (by simp [Value.cells]) (by decide) rfl ?_
        intro nb
        (first | refine VO.step rfl rfl ?_ | refine VD.end rfl rfl rfl ?_ | refine VD.mid rfl rfl rfl ?_)
        refine OpV.appendRow st_59 rfl rfl (by (repeat first | exact .head | apply Hole.tail)) (by (focus repeat first | exact .head _ | apply List.Mem.tail)) rfl (txn_one _) (by simp only [maxLen]; omega) (by omega) rfl ?_
        intro to tc
        (refine w ?_; repeat ((first | refine VO.step rfl rfl ?_ | refine VD.end rfl rfl rfl ?_ | refine VD.mid rfl rfl rfl ?_); refine OpV.box rfl rfl rfl ?_; intro _; refine w ?_))
        refine VE.round ⟨i + 1, ts ++ [⟨sq + 1 + ts.length, l[i].ao, l[i].cap, l[i].pats⟩], rows ++ rws, (to, tc), (so, sc), (bo, bc)⟩ ⟨hlt, h40, by simp only [List.length_append, List.length_singleton]; omega, hT2⟩ (by simp only; omega) ⟨rfl, rfl, rfl, rfl, asV rfl (by rw [List.length_append]), asV rfl (by rw [List.length_append]; rfl), asV rfl (by rw [List.length_append]; rfl), asV rfl (by congr 1), trivial⟩ ?_
        dsimp only
        rw [txnsO_one, rowsO_app, lsOf_snoc, show BegO (fun c => (at_ + c) % n) (bo, bc) (lsOf ts ++ [l[i].pats.map PatE.D]) (ts ++ [(⟨sq + 1 + ts.length, l[i].ao, l[i].cap, l[i].pats⟩ : TxnE)]).length = Sl.Own 3 1 (.slice bo (ts.length + 1) bc) (ts.length + 1) (begV (fun c => (at_ + c) % n) (lsOf ts) ++ [.int .i64 (((at_ + rows.length) % n : Nat) : Int)]) by
          show Sl.Own _ _ (.slice bo (ts ++ [_]).length bc) (ts ++ [_]).length (begV _ (lsOf ts ++ [_])) = _
          rw [begV_snoc, List.length_append, List.length_singleton, hrl]]
        exact Ent.trans (Ent.re (L := PilR rows :: PilR rws :: Sl.Own 25 2 (.slice to (ts.length + 1) tc) (ts.length + 1) (txnCells ts ++ TxnE.cells ⟨sq + 1 + ts.length, l[i].ao, l[i].cap, l[i].pats⟩) :: Sl.Own 55 1 (.slice so (rows.length + rws.length) sc) (rows.length + rws.length) (rows.map RowE.hdr ++ rws.map RowE.hdr) :: Sl.Own 3 1 (.slice bo (ts.length + 1) bc) (ts.length + 1) (begV (fun c => (at_ + c) % n) (lsOf ts) ++ [.int .i64 (((at_ + rows.length) % n : Nat) : Int)]) :: R))
          (Ent.trans (fun w hw => pile_join hw) Ent.re)
      · (refine w ?_; repeat ((first | refine VO.step rfl rfl ?_ | refine VD.end rfl rfl rfl ?_ | refine VD.mid rfl rfl rfl ?_); refine OpV.box rfl rfl rfl ?_; intro _; refine w ?_))
        exact VE.round ⟨i + 1, ts, rows, (t1, t2), (r1, r2), (b1, b2)⟩ ⟨hlt, h40, Nat.le_succ_of_le hti, hT⟩ (by simp only; omega) ⟨rfl, rfl, rfl, rfl, rfl, rfl, rfl, asV rfl (by congr 1), trivial⟩ Ent.re
    · (refine w ?_; repeat ((first | refine VO.step rfl rfl ?_ | refine VD.end rfl rfl rfl ?_ | refine VD.mid rfl rfl rfl ?_); refine OpV.box rfl rfl rfl ?_; intro _; refine w ?_))
      (first | refine VO.gF rfl rfl rfl (by simpa using hse) ?_ | refine VD.gF rfl rfl rfl (by simpa using hse) ?_)
      (refine w ?_; repeat ((first | refine VO.step rfl rfl ?_ | refine VD.end rfl rfl rfl ?_ | refine VD.mid rfl rfl rfl ?_); refine OpV.box rfl rfl rfl ?_; intro _; refine w ?_))
      exact VE.round ⟨i + 1, ts, rows, (t1, t2), (r1, r2), (b1, b2)⟩ ⟨hlt, h40, Nat.le_succ_of_le hti, hT⟩ (by simp only; omega) ⟨rfl, rfl, rfl, rfl, rfl, rfl, rfl, asV rfl (by congr 1), trivial⟩ Ent.re
  · clear hc hbb
    (refine w ?_; repeat ((first | refine VO.step rfl rfl ?_ | refine VD.end rfl rfl rfl ?_ | refine VD.mid rfl rfl rfl ?_); refine OpV.box rfl rfl rfl ?_; intro _; refine w ?_))
    refine VO.re 90 (.int .i64 ((n * 128 : Nat) : Int)) rfl (by congr 1) ?_
    (first | refine VO.step rfl rfl ?_ | refine VD.end rfl rfl rfl ?_ | refine VD.mid rfl rfl rfl ?_)
    refine OpV.makeSlice1 (m := n * 128) st_55 rfl rfl rfl (by omega) (by simp only [maxLen]; omega) rfl ?_
    intro nz
    rw [← bytes_zero]
    have hzl : (List.replicate (n * 128) (0 : UInt8)).length = 128 * n := by rw [List.length_replicate]; omega
    refine VO.know (p := ∀ e ∈ rows, e.ok) (fun w hw => PilR.know hw.tail.tail.tail) ?_
    intro hok
    refine VO.know (p := r1 = none → rows.length = 0) (fun w hw => hw.tail.tail.ownNone (.head _)) ?_
    intro hrn
    (refine w ?_; repeat ((first | refine VO.step rfl rfl ?_ | refine VD.end rfl rfl rfl ?_ | refine VD.mid rfl rfl rfl ?_); refine OpV.box rfl rfl rfl ?_; intro _; refine w ?_))
    refine VO.re 91 (.slice (some ⟨nz, 0, none⟩) (List.replicate (n * 128) (0 : UInt8)).length (n * 128)) rfl (by rw [List.length_replicate]) ?_
    have hL := nlaid_ok (W := W) (R := Sl.Own 5 1 (.slice (some ⟨nz, 0, none⟩) (n * 128) (n * 128)) (n * 128) (bytes (List.replicate (n * 128) 0)) :: TxnsO (t1, t2) ts :: RowsO (r1, r2) rows :: PilR rows :: BegO (fun c => (at_ + c) % n) (b1, b2) (lsOf ts) ts.length :: R)
      (rc := n * 128) (lc := r2) (n := n) (at_ := at_) (ring := List.replicate (n * 128) 0) (ro := some ⟨nz, 0, none⟩) (lo := r1) (l := rows) (by rw [List.length_replicate]; exact Rds.own (bytes_one _) (.head _) (by simp) (by simp)) hzl ⟨by omega, by omega⟩ (by omega)
      (RdRows.sub (x := (r1, r2)) hrn hok (fun _ h => h) (.tail _ (.tail _ (.head _))) (.tail _ (.tail _ (.tail _ (.head _))))) hT.r128 (by omega)
    ((first | refine VO.step rfl rfl ?_ | refine VD.end rfl rfl rfl ?_ | refine VD.mid rfl rfl rfl ?_); refine OpV.call rfl rfl (fun _ _ => by simp) (hL) Ent.refl rfl ?_)
    rintro ⟨ro, rc⟩ -
    (refine w ?_; repeat ((first | refine VO.step rfl rfl ?_ | refine VD.end rfl rfl rfl ?_ | refine VD.mid rfl rfl rfl ?_); refine OpV.box rfl rfl rfl ?_; intro _; refine w ?_))
    refine VE.done (⟨i, ts, rows, (t1, t2), (r1, r2), (b1, b2)⟩, ro, rc) rfl ⟨hT, by simp only; omega⟩ rfl Ent.re
end Go.Proofs.Ytlojjlbngnaphaa
