import Derived.Test.YtlojjlbngnaphaaGreatM7
import Derived.WalkKit
import Derived.ProofKit
import Derived.OpenShut
/-! Text Ud. -/
/- Package wal: checkpoint, Log, Seal, Sync, Reclaim, Renew. -/
set_option maxRecDepth 8000
set_option linter.unusedVariables false
set_option linter.unusedSimpArgs false
set_option linter.unusedSectionVars false
namespace Go.Proofs.YtlojjlbngnaphaaGreat
open Go.RowKit Go.Sl
attribute [local irreducible] Own

theorem write_capd {D : BayD} {c : Nat} (h : D.capd c) (k a : Int) (b : List UInt8) : (D.write k a b).2.capd (c + 1) := by
  have := plain_capd h 2 k a b
  simpa [BayD.plain] using this
theorem flush_capd {D : BayD} {c : Nat} (h : D.capd c) (k : Int) : (D.flush k).2.capd (c + 1) := by
  have := plain_capd h 3 k 0 []
  simpa [BayD.plain] using this
theorem wWrite_capd {s : WS} {c : Nat} (h : s.2.capd c) (a : Int) (l : List UInt8) : (wWrite s a l).2.2.capd (c + 1) := by
  unfold wWrite
  split
  · exact write_capd h _ _ _
  · exact h.mono (by omega)
theorem wFlush_capd {s : WS} {c : Nat} (h : s.2.capd c) : (wFlush s).2.2.capd (c + 1) := by
  unfold wFlush
  split
  · exact flush_capd h _
  · exact h.mono (by omega)
theorem wWrite_same {v : WalD} {D : BayD} {a : Int} {l : List UInt8} (h : (wWrite (v, D) a l).1 = 0) : (wWrite (v, D) a l).2.1 = v ∧ v.broken = 0 := by
  unfold wWrite at *
  dsimp only at *
  split at h
  · rename_i h0
    rw [if_pos h0]
    dsimp only at *
    refine ⟨?_, h0⟩
    rw [h, ← h0]
  · rename_i h0
    exact absurd h h0
theorem wFlush_same {v : WalD} {D : BayD} (h : (wFlush (v, D)).1 = 0) : (wFlush (v, D)).2.1 = v ∧ v.broken = 0 := by
  unfold wFlush at *
  dsimp only at *
  split at h
  · rename_i h0
    rw [if_pos h0]
    dsimp only at *
    refine ⟨?_, h0⟩
    rw [h, ← h0]
  · rename_i h0
    exact absurd h h0
def placed (v : WalD) (rows : List (List UInt8)) : List (Int × List UInt8) := rows.mapIdx fun i r => (((v.spot i : Nat) : Int), r)
theorem placed_length (v : WalD) (rows : List (List UInt8)) : (placed v rows).length = rows.length := by simp [placed]
def logW (s : WS) (rows : List (List UInt8)) : Int × WS :=
  if (wMany s (placed s.1 rows.dropLast)).1 ≠ 0 then wMany s (placed s.1 rows.dropLast) else
  if (wFlush (wMany s (placed s.1 rows.dropLast)).2).1 ≠ 0 then wFlush (wMany s (placed s.1 rows.dropLast)).2 else
  (0, { (wFlush (wMany s (placed s.1 rows.dropLast)).2).2.1 with sure := true, log := some ⟨rows.length, rows.getLastD []⟩ }, (wFlush (wMany s (placed s.1 rows.dropLast)).2).2.2)
def wLog (s : WS) (ps : List PatD) : Int × WS :=
  if s.1.broken ≠ 0 then (s.1.broken, s) else
  if (secsM s.1.epoch s.1.next ps).1 ≠ 0 then ((secsM s.1.epoch s.1.next ps).1, s) else
  if s.1.size < (secsM s.1.epoch s.1.next ps).2.length then (122, s) else
  if s.1.size - s.1.used < (secsM s.1.epoch s.1.next ps).2.length then (121, s) else logW s (secsM s.1.epoch s.1.next ps).2
def wSeal (s : WS) : Int × WS :=
  if s.1.broken ≠ 0 then (s.1.broken, s) else match s.1.log with
  | none => (1, s)
  | some g => if (wWrite s (s.1.spot (g.cost - 1)) g.commit).1 ≠ 0 then wWrite s (s.1.spot (g.cost - 1)) g.commit else
    if s.1.size < s.1.used + g.cost then (90, (wWrite s (s.1.spot (g.cost - 1)) g.commit).2) else
    (0, { s.1 with used := s.1.used + g.cost, next := s.1.next + 1, sure := false, log := none }, (wWrite s (s.1.spot (g.cost - 1)) g.commit).2.2)
def wSync (s : WS) : Int × WS := if s.1.sure = true then (0, s) else ((wFlush s).1, { (wFlush s).2.1 with sure := decide ((wFlush s).1 = 0) }, (wFlush s).2.2)
def wEmpty (s : WS) (e : Nat) : Int × WS :=
  if s.1.broken ≠ 0 then (s.1.broken, s) else if s.1.sure = false then (1, s) else
  if (wCheck s ⟨e, s.1.next, s.1.head⟩).1 ≠ 0 then wCheck s ⟨e, s.1.next, s.1.head⟩ else
  (0, { s.1 with epoch := e, tail := s.1.head, used := 0, log := none }, (wCheck s ⟨e, s.1.next, s.1.head⟩).2.2)

theorem walcheck_ok {W : World} {R : List SProp} {D : BayD} {c0 : Nat} (wp b r : Nat) (lp : Option (Nat × (Option Addr × Nat))) (v : WalD) (c : ChkD) (hf : c.fit) (hcp : D.capd c0) (hc0 : c0 ≤ 999999000) :
    Does1 W Tryz.prog 65 [.pointer (some ⟨wp, 0, none⟩), .agg c.cells.toArray] (BayR b D :: WalO wp b r lp v R) (.int .u16 (wCheck (v, D) c).1) (BayR b (wCheck (v, D) c).2.2 :: WalO wp b r lp (wCheck (v, D) c).2.1 R) := by
  (refine Does.enter Tryz.func65 Tryz.ntmps65 rfl rfl ?_)
  (refine w ?_; repeat ((first | refine VO.step rfl rfl ?_ | refine VD.end rfl rfl rfl ?_ | refine VD.mid rfl rfl rfl ?_); refine OpV.box rfl rfl rfl ?_; intro _; refine w ?_))
  rename_i b3
  have hE := encs_ok (W := W) (R := Row b3 114 c.cells :: BayR b D :: WalO wp b r lp v R) c hf
  ((first | refine VO.step rfl rfl ?_ | refine VD.end rfl rfl rfl ?_ | refine VD.mid rfl rfl rfl ?_); refine OpV.call rfl rfl (fun _ _ => by simp) (hE) Ent.refl rfl ?_)
  rintro ⟨xo, xc⟩ -
  refine VO.know (p := xo = none → c.enc.2.length = 0) (fun w hw => hw.ownNone (.head _)) ?_
  intro hxn
  (refine w ?_; repeat ((first | refine VO.step rfl rfl ?_ | refine VD.end rfl rfl rfl ?_ | refine VD.mid rfl rfl rfl ?_); refine OpV.box rfl rfl rfl ?_; intro _; refine w ?_))
  (refine VC.cond rfl rfl ?_ ?_ <;> intro hc)
  · have h0 : c.enc.1 ≠ 0 := by simpa using hc
    have hz : wCheck (v, D) c = (c.enc.1, (v, D)) := if_pos h0
    rw [hz]
    (refine w ?_; repeat ((first | refine VO.step rfl rfl ?_ | refine VD.end rfl rfl rfl ?_ | refine VD.mid rfl rfl rfl ?_); refine OpV.box rfl rfl rfl ?_; intro _; refine w ?_))
    exact VE.done1 rfl rfl Ent.re
  have h0 : c.enc.1 = 0 := by simpa using hc
  clear hc
  have hz : wCheck (v, D) c = if (wWrite (v, D) 1 c.enc.2).1 ≠ 0 then wWrite (v, D) 1 c.enc.2 else wFlush (wWrite (v, D) 1 c.enc.2).2 := if_neg (by simpa using h0)
  rw [hz]
  (refine w ?_; repeat ((first | refine VO.step rfl rfl ?_ | refine VD.end rfl rfl rfl ?_ | refine VD.mid rfl rfl rfl ?_); refine OpV.box rfl rfl rfl ?_; intro _; refine w ?_))
  refine VO.ent (H' := BayR b D :: WalO wp b r lp v (OwnB (xo, xc) c.enc.2 :: R)) Ent.re ?_
  ((first | refine VO.step rfl rfl ?_ | refine VD.end rfl rfl rfl ?_ | refine VD.mid rfl rfl rfl ?_); refine OpV.call rfl rfl (fun _ _ => by simp) (walwrite_ok wp b r lp v 1 (Nat.le_trans (dv_cap hcp _) (by omega)) (Rds.own (bytes_one _) (.tail _ (.tail _ (.tail _ (.head _)))) (by simp) hxn)) Ent.refl rfl ?_)
  intro _ _
  (refine w ?_; repeat ((first | refine VO.step rfl rfl ?_ | refine VD.end rfl rfl rfl ?_ | refine VD.mid rfl rfl rfl ?_); refine OpV.box rfl rfl rfl ?_; intro _; refine w ?_))
  (refine VC.cond rfl rfl ?_ ?_ <;> intro hc)
  · have h1 : (wWrite (v, D) 1 c.enc.2).1 ≠ 0 := by simpa using hc
    rw [if_pos h1]
    (refine w ?_; repeat ((first | refine VO.step rfl rfl ?_ | refine VD.end rfl rfl rfl ?_ | refine VD.mid rfl rfl rfl ?_); refine OpV.box rfl rfl rfl ?_; intro _; refine w ?_))
    exact VE.done1 rfl rfl Ent.re
  have h1 : (wWrite (v, D) 1 c.enc.2).1 = 0 := by simpa using hc
  rw [if_neg (by simpa using h1)]
  (refine w ?_; repeat ((first | refine VO.step rfl rfl ?_ | refine VD.end rfl rfl rfl ?_ | refine VD.mid rfl rfl rfl ?_); refine OpV.box rfl rfl rfl ?_; intro _; refine w ?_))
  ((first | refine VO.step rfl rfl ?_ | refine VD.end rfl rfl rfl ?_ | refine VD.mid rfl rfl rfl ?_); refine OpV.call rfl rfl (fun _ _ => by simp) (walflush_ok wp b r lp (wWrite (v, D) 1 c.enc.2).2.1) Ent.refl rfl ?_)
  intro _ _
  (refine w ?_; repeat ((first | refine VO.step rfl rfl ?_ | refine VD.end rfl rfl rfl ?_ | refine VD.mid rfl rfl rfl ?_); refine OpV.box rfl rfl rfl ?_; intro _; refine w ?_))
  exact VE.done1 rfl rfl Ent.re

/-- A row of a pile, taken out for good. -/
theorem logShut {W : World} {R : List SProp} {wp b r lg : Nat} {v v' : WalD} {rows : List RowE} {i : Nat} (hi : i < rows.length) (hs : v'.slot = v.slot ∧ v'.epoch = v.epoch ∧ v'.size = v.size ∧ v'.tail = v.tail ∧ v'.used = v.used ∧ v'.next = v.next ∧ v'.broken = v.broken)
    (hl : v'.log = some ⟨rows.length, rows[i].data⟩) : Ent W (Row lg 138 [.int .i64 rows.length, rows[i].hdr] :: walRow wp b r (some (lg, rows[i].ao, rows[i].cap)) v' :: RingR r v.size v.tail v.used :: PilR rows :: R) (WalR wp b v' :: R) := by
  obtain ⟨h1, h2, h3, h4, h5, h6, h7⟩ := hs
  refine Ent.trans ?_ (WalR.shut r (some (lg, rows[i].ao, rows[i].cap)))
  unfold WalO
  rw [h3, h4, h5, hl]
  intro w hw
  have a1 : Holds W (PilR rows :: Row lg 138 [.int .i64 rows.length, rows[i].hdr] :: walRow wp b r (some (lg, rows[i].ao, rows[i].cap)) v' :: RingR r v.size v.tail v.used :: R) w := hw.reord (by (repeat first | exact .refl | (apply Reord.cons; focus repeat first | exact .head | apply Del.tail) | exact .nil | apply Reord.drop))
  have a2 := pile_out hi a1
  have a3 : Holds W (Row lg 138 [.int .i64 rows.length, rows[i].hdr] :: rows[i].res :: walRow wp b r (some (lg, rows[i].ao, rows[i].cap)) v' :: RingR r v.size v.tail v.used :: R) w := a2.reord (by (repeat first | exact .refl | (apply Reord.cons; focus repeat first | exact .head | apply Del.tail) | exact .nil | apply Reord.drop))
  have a4 := a3.nest (L := [Row lg 138 [.int .i64 rows.length, rows[i].hdr], rows[i].res])
  exact a4.reord (by
    show Reord (logRes (some ⟨rows.length, rows[i].data⟩) (some (lg, rows[i].ao, rows[i].cap)) :: walRow wp b r (some (lg, rows[i].ao, rows[i].cap)) v' :: RingR r v.size v.tail v.used :: R) _
    (repeat first | exact .refl | (apply Reord.cons; focus repeat first | exact .head | apply Del.tail) | exact .nil | apply Reord.drop))
set_option maxHeartbeats 4000000 in
theorem wallog_ok {W : World} {R : List SProp} {ao : Option Addr} {cap : Nat} {l : List PatE} {D : BayD} {c0 : Nat} (wp b : Nat) (v : WalD) (hv : v.ok) (hcp : D.capd c0) (hc0 : c0 ≤ 999990000) (hp : RdPats W R ao l) (hfit : ∀ p ∈ l, p.fit) (hlen : l.length ≤ 140737488351232) :
    Does1 W Tryz.prog 25 [.pointer (some ⟨wp, 0, none⟩), .slice ao l.length cap] (WalR wp b v :: BayR b D :: R) (.int .u16 (wLog (v, D) (l.map PatE.D)).1) (WalR wp b (wLog (v, D) (l.map PatE.D)).2.1 :: BayR b (wLog (v, D) (l.map PatE.D)).2.2 :: R) := by
  have hr1 := hv.ring.lo; have hr2 := hv.ring.hi; have hr3 := hv.ring.tl; have hr4 := hv.ring.us
  refine walDoes fun r lp => ?_
  (refine Does.enter Tryz.func25 Tryz.ntmps25 rfl rfl ?_)
  (refine w ?_; repeat ((first | refine VO.step rfl rfl ?_ | refine VD.end rfl rfl rfl ?_ | refine VD.mid rfl rfl rfl ?_); refine OpV.box rfl rfl rfl ?_; intro _; refine w ?_))
  (refine VC.cond rfl rfl ?_ ?_ <;> intro hc)
  · have h0 : v.broken ≠ 0 := by simpa using hc
    have hz : wLog (v, D) (l.map PatE.D) = (v.broken, (v, D)) := if_pos h0
    rw [hz]
    (refine w ?_; repeat ((first | refine VO.step rfl rfl ?_ | refine VD.end rfl rfl rfl ?_ | refine VD.mid rfl rfl rfl ?_); refine OpV.box rfl rfl rfl ?_; intro _; refine w ?_))
    refine VE.done1 rfl rfl ?_
    exact Ent.trans (Ent.re (L := WalO wp b r lp v (BayR b D :: R))) (WalR.shut r lp)
  have h0 : v.broken = 0 := by simpa using hc
  clear hc
  have hz0 : wLog (v, D) (l.map PatE.D) = if (secsM v.epoch v.next (l.map PatE.D)).1 ≠ 0 then ((secsM v.epoch v.next (l.map PatE.D)).1, (v, D)) else if v.size < (secsM v.epoch v.next (l.map PatE.D)).2.length then (122, (v, D)) else
    if v.size - v.used < (secsM v.epoch v.next (l.map PatE.D)).2.length then (121, (v, D)) else logW (v, D) (secsM v.epoch v.next (l.map PatE.D)).2 := if_neg (by simpa using h0)
  rw [hz0]
  have hepo := hv.epoch
  have hnxt := hv.next
  (refine w ?_; repeat ((first | refine VO.step rfl rfl ?_ | refine VD.end rfl rfl rfl ?_ | refine VD.mid rfl rfl rfl ?_); refine OpV.box rfl rfl rfl ?_; intro _; refine w ?_))
  refine VC.drawn [10] 15 [0, 1, 2, 3, 4, 5, 6, 7, 8, 9, 10, 11, 12, 13, 14, 15] (BayR b D :: WalO wp b r lp v R) rfl (by kernel_rfl) (by kernel_rfl) Ent.refl ?_
  (refine w ?_; repeat ((first | refine VO.step rfl rfl ?_ | refine VD.end rfl rfl rfl ?_ | refine VD.mid rfl rfl rfl ?_); refine OpV.box rfl rfl rfl ?_; intro _; refine w ?_))
  ((first | apply VO.pure rfl rfl | apply VD.take rfl rfl rfl | (refine VD.end rfl rfl rfl ?_; apply OpV.pure)); apply PureAt.build sb_43 rfl; (simp [buildX, setL, Value.cells]; rfl); rfl)
  have hS := sectors_ok (W := W) (R := BayR b D :: WalO wp b r lp v R) (cap := cap) v.epoch v.next (by omega) (by omega) (hp.ent Ent.re) hfit hlen
  ((first | refine VO.step rfl rfl ?_ | refine VD.end rfl rfl rfl ?_ | refine VD.mid rfl rfl rfl ?_); refine OpV.call rfl rfl (fun _ _ => by simp) (hS) Ent.refl rfl ?_)
  rintro ⟨⟨xo, xc⟩, rows⟩ hrows
  dsimp only at hrows ⊢
  refine ⟨Ent.re, ?_⟩
  (refine w ?_; repeat ((first | refine VO.step rfl rfl ?_ | refine VD.end rfl rfl rfl ?_ | refine VD.mid rfl rfl rfl ?_); refine OpV.box rfl rfl rfl ?_; intro _; refine w ?_))
  rcases secs_cases v.epoch v.next (l.map PatE.D) with ⟨hfine, hse⟩ | ⟨hnf, hse, hse2⟩
  · have hshut : ∀ (X : List SProp), Ent W (RowsO (xo, xc) rows :: PilR rows :: BayR b D :: WalO wp b r lp v R) (WalR wp b v :: BayR b D :: R) := fun _ => Ent.trans (Ent.re (L := WalO wp b r lp v (BayR b D :: R))) (WalR.shut r lp)
    rw [hse] at hrows ⊢
    dsimp only at hrows ⊢
    rw [if_neg (by simp)]
    have hrl : rows.length = 2 * l.length + 1 := by have := congrArg List.length hrows; rwa [List.length_map, rowsP_length, List.length_map] at this
    have hn2 := hfine.n2
    rw [List.length_map] at hn2
    have hrl' : (rowsP v.epoch v.next (l.map PatE.D)).length = rows.length := by rw [← hrows, List.length_map]
    rw [hrl']
    (refine w ?_; repeat ((first | refine VO.step rfl rfl ?_ | refine VD.end rfl rfl rfl ?_ | refine VD.mid rfl rfl rfl ?_); refine OpV.box rfl rfl rfl ?_; intro _; refine w ?_))
    refine VO.ent (H' := RingR r v.size v.tail v.used :: RowsO (xo, xc) rows :: PilR rows :: BayR b D :: walRow wp b r lp v :: logRes v.log lp :: R) Ent.re ?_
    ((first | refine VO.step rfl rfl ?_ | refine VD.end rfl rfl rfl ?_ | refine VD.mid rfl rfl rfl ?_); refine OpV.call rfl rfl (fun _ _ => by simp) (ringsize_ok r v.size v.tail v.used) Ent.refl rfl ?_)
    intro _ _
    (refine w ?_; repeat ((first | refine VO.step rfl rfl ?_ | refine VD.end rfl rfl rfl ?_ | refine VD.mid rfl rfl rfl ?_); refine OpV.box rfl rfl rfl ?_; intro _; refine w ?_))
    (refine VC.cond rfl rfl ?_ ?_ <;> intro hc)
    · have h1 : v.size < rows.length := by have := of_decide_eq_true hc; omega
      rw [if_pos h1]
      (refine w ?_; repeat ((first | refine VO.step rfl rfl ?_ | refine VD.end rfl rfl rfl ?_ | refine VD.mid rfl rfl rfl ?_); refine OpV.box rfl rfl rfl ?_; intro _; refine w ?_))
      refine VE.done1 rfl rfl ?_
      exact Ent.trans (Ent.re (L := WalO wp b r lp v (BayR b D :: R))) (WalR.shut r lp)
    have h1 : ¬ v.size < rows.length := by have := of_decide_eq_false hc; omega
    clear hc
    rw [if_neg h1]
    (refine w ?_; repeat ((first | refine VO.step rfl rfl ?_ | refine VD.end rfl rfl rfl ?_ | refine VD.mid rfl rfl rfl ?_); refine OpV.box rfl rfl rfl ?_; intro _; refine w ?_))
    ((first | refine VO.step rfl rfl ?_ | refine VD.end rfl rfl rfl ?_ | refine VD.mid rfl rfl rfl ?_); refine OpV.call rfl rfl (fun _ _ => by simp) (ringfree_ok r hv.ring) Ent.refl rfl ?_)
    intro _ _
    (refine w ?_; repeat ((first | refine VO.step rfl rfl ?_ | refine VD.end rfl rfl rfl ?_ | refine VD.mid rfl rfl rfl ?_); refine OpV.box rfl rfl rfl ?_; intro _; refine w ?_))
    (refine VC.cond rfl rfl ?_ ?_ <;> intro hc)
    · have h2 : v.size - v.used < rows.length := by have := of_decide_eq_true hc; omega
      rw [if_pos h2]
      (refine w ?_; repeat ((first | refine VO.step rfl rfl ?_ | refine VD.end rfl rfl rfl ?_ | refine VD.mid rfl rfl rfl ?_); refine OpV.box rfl rfl rfl ?_; intro _; refine w ?_))
      refine VE.done1 rfl rfl ?_
      exact Ent.trans (Ent.re (L := WalO wp b r lp v (BayR b D :: R))) (WalR.shut r lp)
    have h2 : ¬ v.size - v.used < rows.length := by have := of_decide_eq_false hc; omega
    clear hc
    rw [if_neg h2]
    (refine w ?_; repeat ((first | refine VO.step rfl rfl ?_ | refine VD.end rfl rfl rfl ?_ | refine VD.mid rfl rfl rfl ?_); refine OpV.box rfl rfl rfl ?_; intro _; refine w ?_))
    refine VO.know (p := ∀ e ∈ rows, e.ok) (fun w hw => PilR.know hw.tail.tail) ?_
    intro hok
    refine VO.know (p := xo = none → rows.length = 0) (fun w hw => hw.tail.ownNone (.head _)) ?_
    intro hxn
    refine VO.know (p := rows.length ≤ xc) (fun w hw => hw.tail.ownCap (.head _)) ?_
    intro hxc
    obtain ⟨xa, rfl⟩ := some_of_pos hxn (by omega)
    have hlast : rows.length - 1 < rows.length := by omega
    have h128 : ∀ e ∈ rows, e.data.length = 128 := fun e he => rowsP_128 hfine _ (by rw [← hrows]; exact List.mem_map_of_mem he)
    obtain ⟨L, hL⟩ : ∃ L, L = placed v (rowsP v.epoch v.next (l.map PatE.D)).dropLast := ⟨_, rfl⟩
    have hLl : L.length = rows.length - 1 := by rw [hL, placed_length, List.length_dropLast, hrl']
    have hLg : ∀ i (h : i < L.length) (h' : i < rows.length), L[i] = (((v.spot i : Nat) : Int), rows[i].data) := by
      intro i h h'
      subst hL
      simp only [placed, List.getElem_mapIdx, List.getElem_dropLast]
      congr 1
      have : (rows.map RowE.data)[i]'(by rw [List.length_map]; exact h') = rows[i].data := List.getElem_map ..
      rw [← this]
      congr 1
      exact hrows.symm
    have hlog : logW (v, D) (rowsP v.epoch v.next (l.map PatE.D)) = if (wMany (v, D) L).1 ≠ 0 then wMany (v, D) L else
        if (wFlush (wMany (v, D) L).2).1 ≠ 0 then wFlush (wMany (v, D) L).2 else
        (0, { (wFlush (wMany (v, D) L).2).2.1 with sure := true, log := some ⟨rows.length, rows[rows.length - 1].data⟩ }, (wFlush (wMany (v, D) L).2).2.2) := by
      have e1 : (rowsP v.epoch v.next (l.map PatE.D)).getLastD [] = rows[rows.length - 1].data := by
        rw [← hrows, List.getLastD_eq_getLast?, List.getLast?_eq_getElem?, List.length_map, List.getElem?_map, List.getElem?_eq_getElem hlast]; rfl
      unfold logW
      dsimp only
      rw [← hL, e1, hrl']
    refine VO.re 61 (.int .i64 ((rows.length - 1 : Nat) : Int)) rfl (by congr 1; omega) ?_
    refine VO.re 7 (.int .i64 ((rows.length - 1 : Nat) : Int)) rfl (by congr 1; omega) ?_
    (refine w ?_; repeat ((first | refine VO.step rfl rfl ?_ | refine VD.end rfl rfl rfl ?_ | refine VD.mid rfl rfl rfl ?_); refine OpV.box rfl rfl rfl ?_; intro _; refine w ?_))
    refine VC.loop (α := Nat × BayD) (fun y => y.1 ≤ rows.length - 1 ∧ y.2.capd (c0 + y.1) ∧ wMany (v, D) L = wMany (v, y.2) (L.drop y.1)) (fun y => BayR b y.2 :: WalO wp b r lp v (RowsO (some xa, xc) rows :: PilR rows :: R))
      (fun y => [(0, .pointer (some ⟨wp, 0, none⟩)), (5, .slice (some xa) rows.length xc), (7, .int .i64 ((rows.length - 1 : Nat) : Int)), (62, .slice (some xa) (rows.length - 1) xc), (63, .int .i64 ((rows.length - 1 : Nat) : Int)), (64, .int .i64 y.1)]) (fun y => rows.length - y.1) rfl (0, D) ⟨Nat.zero_le _, hcp, by rw [List.drop_zero]⟩ Ent.re ⟨rfl, rfl, rfl, rfl, rfl, rfl, trivial⟩ ?_
    rintro ⟨i, Di⟩ ⟨hi, hci, hmi⟩
    dsimp only at hi hci hmi ⊢
    (refine w ?_; repeat ((first | refine VO.step rfl rfl ?_ | refine VD.end rfl rfl rfl ?_ | refine VD.mid rfl rfl rfl ?_); refine OpV.box rfl rfl rfl ?_; intro _; refine w ?_))
    (refine VC.cond rfl rfl ?_ ?_ <;> intro hc)
    · have hlt : i < rows.length - 1 := by have := of_decide_eq_true hc; omega
      clear hc
      have hlt2 : i < rows.length := by omega
      have hRow : Rds W (BayR b Di :: WalO wp b r lp v (RowsO (some xa, xc) rows :: PilR rows :: R)) 1 (some xa) rows.length (rows.map RowE.hdr) := Rds.own (rowhdr_one _) (.tail _ (.tail _ (.tail _ (.tail _ (.head _))))) (by simp) (by simp)
      have hByt : Rds W (WalO wp b r lp v (RowsO (some xa, xc) rows :: PilR rows :: R)) 1 rows[i].ao rows[i].data.length (bytes rows[i].data) := Rds.pile (.tail _ (.tail _ (.tail _ (.tail _ (.head _))))) (List.getElem_mem hlt2) (fun R hR => RowE.rds (hok _ (List.getElem_mem hlt2)) hR)
      have hstep : wMany (v, Di) (L.drop i) = if (wWrite (v, Di) ((v.spot i : Nat) : Int) rows[i].data).1 ≠ 0 then wWrite (v, Di) ((v.spot i : Nat) : Int) rows[i].data else wMany (wWrite (v, Di) ((v.spot i : Nat) : Int) rows[i].data).2 (L.drop (i + 1)) := by
        rw [List.drop_eq_getElem_cons (by omega), hLg i (by omega) hlt2]; rfl
      (refine w ?_; repeat ((first | refine VO.step rfl rfl ?_ | refine VD.end rfl rfl rfl ?_ | refine VD.mid rfl rfl rfl ?_); refine OpV.box rfl rfl rfl ?_; intro _; refine w ?_))
      (first | refine VO.pure rfl rfl (PureAt.ldR tab_ok rfl rfl hRow (show (rows.map RowE.hdr)[i]? = some rows[i].hdr by rw [List.getElem?_map, List.getElem?_eq_getElem hlt2]; rfl)) rfl ?_ | refine VD.take rfl rfl rfl (PureAt.ldR tab_ok rfl rfl hRow (show (rows.map RowE.hdr)[i]? = some rows[i].hdr by rw [List.getElem?_map, List.getElem?_eq_getElem hlt2]; rfl)) rfl ?_ | refine VQ.pure rfl rfl (PureAt.ldR tab_ok rfl rfl hRow (show (rows.map RowE.hdr)[i]? = some rows[i].hdr by rw [List.getElem?_map, List.getElem?_eq_getElem hlt2]; rfl)) rfl ?_ | refine VD.end rfl rfl rfl (OpV.pure (PureAt.ldR tab_ok rfl rfl hRow (show (rows.map RowE.hdr)[i]? = some rows[i].hdr by rw [List.getElem?_map, List.getElem?_eq_getElem hlt2]; rfl)) rfl ?_))
      (refine w ?_; repeat ((first | refine VO.step rfl rfl ?_ | refine VD.end rfl rfl rfl ?_ | refine VD.mid rfl rfl rfl ?_); refine OpV.box rfl rfl rfl ?_; intro _; refine w ?_))
      ((first | refine VO.step rfl rfl ?_ | refine VD.end rfl rfl rfl ?_ | refine VD.mid rfl rfl rfl ?_); refine OpV.call rfl rfl (fun _ _ => by simp) (walplace_ok wp b r lp v hv i (by omega) (Nat.le_trans (dv_cap hci _) (by omega)) hByt) Ent.refl rfl ?_)
      intro _ _
      (refine w ?_; repeat ((first | refine VO.step rfl rfl ?_ | refine VD.end rfl rfl rfl ?_ | refine VD.mid rfl rfl rfl ?_); refine OpV.box rfl rfl rfl ?_; intro _; refine w ?_))
      (refine VC.cond rfl rfl ?_ ?_ <;> intro hc)
      · have h9 : (wWrite (v, Di) ((v.spot i : Nat) : Int) rows[i].data).1 ≠ 0 := by simpa using hc
        rw [if_pos h9] at hstep
        have hfin : logW (v, D) (rowsP v.epoch v.next (l.map PatE.D)) = wWrite (v, Di) ((v.spot i : Nat) : Int) rows[i].data := by
          rw [hlog, hmi, hstep, if_pos h9]
        rw [hfin]
        (refine w ?_; repeat ((first | refine VO.step rfl rfl ?_ | refine VD.end rfl rfl rfl ?_ | refine VD.mid rfl rfl rfl ?_); refine OpV.box rfl rfl rfl ?_; intro _; refine w ?_))
        refine VE.done1 rfl rfl ?_
        exact Ent.trans (Ent.re (L := WalO wp b r lp (wWrite (v, Di) ((v.spot i : Nat) : Int) rows[i].data).2.1 (BayR b (wWrite (v, Di) ((v.spot i : Nat) : Int) rows[i].data).2.2 :: R))) (WalR.shut r lp)
      have h9 : (wWrite (v, Di) ((v.spot i : Nat) : Int) rows[i].data).1 = 0 := by simpa using hc
      clear hc
      rw [if_neg (by simpa using h9)] at hstep
      have hsm := (wWrite_same h9).1
      (refine w ?_; repeat ((first | refine VO.step rfl rfl ?_ | refine VD.end rfl rfl rfl ?_ | refine VD.mid rfl rfl rfl ?_); refine OpV.box rfl rfl rfl ?_; intro _; refine w ?_))
      refine VE.round (i + 1, (wWrite (v, Di) ((v.spot i : Nat) : Int) rows[i].data).2.2) ⟨hlt, wWrite_capd hci _ _, ?_⟩ (by simp only; omega) ⟨rfl, rfl, rfl, rfl, rfl, asV rfl (by congr 1), trivial⟩ ?_
      · show wMany (v, D) L = wMany (v, (wWrite (v, Di) ((v.spot i : Nat) : Int) rows[i].data).2.2) (L.drop (i + 1))
        rw [hmi, hstep]
        congr 1
        exact Prod.ext hsm rfl
      · rw [hsm]; exact Ent.re
    have hie : i = rows.length - 1 := by have := of_decide_eq_false hc; omega
    clear hc
    rw [hie, ← hLl, List.drop_length] at hmi
    have hmany : wMany (v, D) L = (0, (v, Di)) := hmi
    rw [hmany] at hlog
    dsimp only at hlog
    rw [if_neg (by simp)] at hlog
    (refine w ?_; repeat ((first | refine VO.step rfl rfl ?_ | refine VD.end rfl rfl rfl ?_ | refine VD.mid rfl rfl rfl ?_); refine OpV.box rfl rfl rfl ?_; intro _; refine w ?_))
    ((first | refine VO.step rfl rfl ?_ | refine VD.end rfl rfl rfl ?_ | refine VD.mid rfl rfl rfl ?_); refine OpV.call rfl rfl (fun _ _ => by simp) (walflush_ok wp b r lp v) Ent.refl rfl ?_)
    intro _ _
    (refine w ?_; repeat ((first | refine VO.step rfl rfl ?_ | refine VD.end rfl rfl rfl ?_ | refine VD.mid rfl rfl rfl ?_); refine OpV.box rfl rfl rfl ?_; intro _; refine w ?_))
    (refine VC.cond rfl rfl ?_ ?_ <;> intro hc)
    · have h9 : (wFlush (v, Di)).1 ≠ 0 := by simpa using hc
      rw [if_pos h9] at hlog
      rw [hlog]
      (refine w ?_; repeat ((first | refine VO.step rfl rfl ?_ | refine VD.end rfl rfl rfl ?_ | refine VD.mid rfl rfl rfl ?_); refine OpV.box rfl rfl rfl ?_; intro _; refine w ?_))
      refine VE.done1 rfl rfl ?_
      exact Ent.trans (Ent.re (L := WalO wp b r lp (wFlush (v, Di)).2.1 (BayR b (wFlush (v, Di)).2.2 :: R))) (WalR.shut r lp)
    have h9 : (wFlush (v, Di)).1 = 0 := by simpa using hc
    clear hc
    rw [if_neg (by simpa using h9), (wFlush_same h9).1] at hlog
    rw [hlog, (wFlush_same h9).1]
    have hRow : Rds W (BayR b (wFlush (v, Di)).2.2 :: WalO wp b r lp v (RowsO (some xa, xc) rows :: PilR rows :: R)) 1 (some xa) rows.length (rows.map RowE.hdr) := Rds.own (rowhdr_one _) (.tail _ (.tail _ (.tail _ (.tail _ (.head _))))) (by simp) (by simp)
    (refine w ?_; repeat ((first | refine VO.step rfl rfl ?_ | refine VD.end rfl rfl rfl ?_ | refine VD.mid rfl rfl rfl ?_); refine OpV.box rfl rfl rfl ?_; intro _; refine w ?_))
    (first | refine VO.pure rfl rfl (PureAt.ldR tab_ok rfl rfl hRow (show (rows.map RowE.hdr)[rows.length - 1]? = some rows[rows.length - 1].hdr by rw [List.getElem?_map, List.getElem?_eq_getElem hlast]; rfl)) rfl ?_ | refine VD.take rfl rfl rfl (PureAt.ldR tab_ok rfl rfl hRow (show (rows.map RowE.hdr)[rows.length - 1]? = some rows[rows.length - 1].hdr by rw [List.getElem?_map, List.getElem?_eq_getElem hlast]; rfl)) rfl ?_ | refine VQ.pure rfl rfl (PureAt.ldR tab_ok rfl rfl hRow (show (rows.map RowE.hdr)[rows.length - 1]? = some rows[rows.length - 1].hdr by rw [List.getElem?_map, List.getElem?_eq_getElem hlast]; rfl)) rfl ?_ | refine VD.end rfl rfl rfl (OpV.pure (PureAt.ldR tab_ok rfl rfl hRow (show (rows.map RowE.hdr)[rows.length - 1]? = some rows[rows.length - 1].hdr by rw [List.getElem?_map, List.getElem?_eq_getElem hlast]; rfl)) rfl ?_))
    (apply VO.pure rfl rfl; apply PureAt.build sb_138 rfl; (simp [buildX, setL, Value.cells]; rfl); rfl)
    (refine w ?_; repeat ((first | refine VO.step rfl rfl ?_ | refine VD.end rfl rfl rfl ?_ | refine VD.mid rfl rfl rfl ?_); refine OpV.box rfl rfl rfl ?_; intro _; refine w ?_))
    rename_i lg
    refine VE.done1 rfl rfl ?_
    dsimp only
    refine Ent.trans (Ent.re (L := Row lg 138 [.int .i64 rows.length, rows[rows.length - 1].hdr] :: walRow wp b r (some (lg, rows[rows.length - 1].ao, rows[rows.length - 1].cap)) { v with sure := true, log := some ⟨rows.length, rows[rows.length - 1].data⟩ } :: RingR r v.size v.tail v.used :: PilR rows :: BayR b (wFlush (v, Di)).2.2 :: R)) ?_
    exact logShut hlast ⟨rfl, rfl, rfl, rfl, rfl, rfl, rfl⟩ rfl
  · rw [if_pos hse]
    (refine VC.condTe rfl rfl (by simpa using hse) ?_)
    (refine w ?_; repeat ((first | refine VO.step rfl rfl ?_ | refine VD.end rfl rfl rfl ?_ | refine VD.mid rfl rfl rfl ?_); refine OpV.box rfl rfl rfl ?_; intro _; refine w ?_))
    refine VE.done1 rfl rfl ?_
    exact Ent.trans (Ent.re (L := WalO wp b r lp v (BayR b D :: R))) (WalR.shut r lp)

theorem logOpen {W : World} {R : List SProp} {wp b r lg : Nat} {x : Option Addr × Nat} {v : WalD} {D : BayD} {g : LogD} (hg : v.log = some g) : Ent W (BayR b D :: WalO wp b r (some (lg, x)) v R) (BayR b D :: walRow wp b r (some (lg, x)) v :: RingR r v.size v.tail v.used :: Row lg 138 [.int .i64 g.cost, .slice x.1 g.commit.length x.2] :: OwnB x g.commit :: R) := by
  intro w hw
  have h1 : Holds W (logRes v.log (some (lg, x)) :: BayR b D :: walRow wp b r (some (lg, x)) v :: RingR r v.size v.tail v.used :: R) w := hw.reord (by unfold WalO; (repeat first | exact .refl | (apply Reord.cons; focus repeat first | exact .head | apply Del.tail) | exact .nil | apply Reord.drop))
  rw [hg] at h1
  have h2 : Holds W (star [Row lg 138 [.int .i64 g.cost, .slice x.1 g.commit.length x.2], OwnB x g.commit] :: BayR b D :: walRow wp b r (some (lg, x)) v :: RingR r v.size v.tail v.used :: R) w := h1
  exact h2.join.reord (by
    show Reord (Row lg 138 [.int .i64 g.cost, .slice x.1 g.commit.length x.2] :: OwnB x g.commit :: BayR b D :: walRow wp b r (some (lg, x)) v :: RingR r v.size v.tail v.used :: R) _
    (repeat first | exact .refl | (apply Reord.cons; focus repeat first | exact .head | apply Del.tail) | exact .nil | apply Reord.drop))
theorem logClose {W : World} {R : List SProp} {wp b r lg : Nat} {x : Option Addr × Nat} {v : WalD} {D : BayD} {g : LogD} (hg : v.log = some g) : Ent W (BayR b D :: walRow wp b r (some (lg, x)) v :: RingR r v.size v.tail v.used :: Row lg 138 [.int .i64 g.cost, .slice x.1 g.commit.length x.2] :: OwnB x g.commit :: R) (BayR b D :: WalO wp b r (some (lg, x)) v R) := by
  intro w hw
  have h1 : Holds W ([Row lg 138 [.int .i64 g.cost, .slice x.1 g.commit.length x.2], OwnB x g.commit] ++ (BayR b D :: walRow wp b r (some (lg, x)) v :: RingR r v.size v.tail v.used :: R)) w := hw.reord (by
    show Reord _ (Row lg 138 [.int .i64 g.cost, .slice x.1 g.commit.length x.2] :: OwnB x g.commit :: BayR b D :: walRow wp b r (some (lg, x)) v :: RingR r v.size v.tail v.used :: R)
    (repeat first | exact .refl | (apply Reord.cons; focus repeat first | exact .head | apply Del.tail) | exact .nil | apply Reord.drop))
  have h2 : Holds W (logRes v.log (some (lg, x)) :: BayR b D :: walRow wp b r (some (lg, x)) v :: RingR r v.size v.tail v.used :: R) w := by rw [hg]; exact h1.nest
  exact h2.reord (by unfold WalO; (repeat first | exact .refl | (apply Reord.cons; focus repeat first | exact .head | apply Del.tail) | exact .nil | apply Reord.drop))
theorem walNone {W : World} {R : List SProp} {wp b r : Nat} {v : WalD} (hg : v.log = none) : Ent W (walRow wp b r none v :: RingR r v.size v.tail v.used :: R) (WalR wp b v :: R) := by
  refine Ent.trans ?_ (WalR.shut r none)
  intro w hw
  have h1 : Holds W (logRes v.log none :: walRow wp b r none v :: RingR r v.size v.tail v.used :: R) w := by rw [hg]; exact hw.factShut trivial
  exact h1.reord (by unfold WalO; (repeat first | exact .refl | (apply Reord.cons; focus repeat first | exact .head | apply Del.tail) | exact .nil | apply Reord.drop))
set_option maxHeartbeats 4000000 in
theorem walseal_ok {W : World} {R : List SProp} {D : BayD} {c0 : Nat} (wp b : Nat) (v : WalD) (hv : v.ok) (hcp : D.capd c0) (hc0 : c0 ≤ 999990000) :
    Does1 W Tryz.prog 32 [.pointer (some ⟨wp, 0, none⟩)] (WalR wp b v :: BayR b D :: R) (.int .u16 (wSeal (v, D)).1) (WalR wp b (wSeal (v, D)).2.1 :: BayR b (wSeal (v, D)).2.2 :: R) := by
  have hr1 := hv.ring.lo; have hr2 := hv.ring.hi; have hr3 := hv.ring.tl; have hr4 := hv.ring.us
  refine walDoes fun r lp => ?_
  (refine Does.enter Tryz.func32 Tryz.ntmps32 rfl rfl ?_)
  (refine w ?_; repeat ((first | refine VO.step rfl rfl ?_ | refine VD.end rfl rfl rfl ?_ | refine VD.mid rfl rfl rfl ?_); refine OpV.box rfl rfl rfl ?_; intro _; refine w ?_))
  (refine VC.cond rfl rfl ?_ ?_ <;> intro hc)
  · have h0 : v.broken ≠ 0 := by simpa using hc
    have hz : wSeal (v, D) = (v.broken, (v, D)) := if_pos h0
    rw [hz]
    (refine w ?_; repeat ((first | refine VO.step rfl rfl ?_ | refine VD.end rfl rfl rfl ?_ | refine VD.mid rfl rfl rfl ?_); refine OpV.box rfl rfl rfl ?_; intro _; refine w ?_))
    refine VE.done1 rfl rfl ?_
    exact Ent.trans (Ent.re (L := WalO wp b r lp v (BayR b D :: R))) (WalR.shut r lp)
  have h0 : v.broken = 0 := by simpa using hc
  clear hc
  have hz0 : wSeal (v, D) = match v.log with
    | none => (1, (v, D))
    | some g => if (wWrite (v, D) (v.spot (g.cost - 1)) g.commit).1 ≠ 0 then wWrite (v, D) (v.spot (g.cost - 1)) g.commit else
      if v.size < v.used + g.cost then (90, (wWrite (v, D) (v.spot (g.cost - 1)) g.commit).2) else
      (0, { v with used := v.used + g.cost, next := v.next + 1, sure := false, log := none }, (wWrite (v, D) (v.spot (g.cost - 1)) g.commit).2.2) := if_neg (by simpa using h0)
  rw [hz0]
  cases hg : v.log with
  | none =>
    cases lp with
    | some x =>
      refine VC.know (p := False) (fun w hw => ?_) (fun h => h.elim)
      have := hw.reord (L := [logRes v.log (some x)]) (.cons (.tail (.tail (.tail .head))) .nil)
      rw [hg] at this
      exact this.factOpen
    | none =>
      (refine w ?_; repeat ((first | refine VO.step rfl rfl ?_ | refine VD.end rfl rfl rfl ?_ | refine VD.mid rfl rfl rfl ?_); refine OpV.box rfl rfl rfl ?_; intro _; refine w ?_))
      refine VE.done1 rfl rfl ?_
      exact Ent.trans (Ent.re (L := WalO wp b r none v (BayR b D :: R))) (WalR.shut r none)
  | some g =>
    cases lp with
    | none =>
      refine VC.know (p := False) (fun w hw => ?_) (fun h => h.elim)
      have := hw.reord (L := [logRes v.log none]) (.cons (.tail (.tail (.tail .head))) .nil)
      rw [hg] at this
      exact this.factOpen
    | some x =>
      obtain ⟨lg, ca, cc⟩ := x
      dsimp only
      obtain ⟨hg1, hg2, hg3, hg4⟩ := hv.log g hg
      refine VC.ent (logOpen hg) ?_
      refine VC.know (p := ca = none → g.commit.length = 0) (fun w hw => hw.tail.tail.tail.tail.ownNone (.head _)) ?_
      intro hcn
      have hl : Rds W (WalO wp b r (some (lg, ca, cc)) v R) 1 ca g.commit.length (bytes g.commit) := by
        refine Rds.star (L := [Row lg 138 [.int .i64 g.cost, .slice ca g.commit.length cc], OwnB (ca, cc) g.commit]) ?_ (fun R => Rds.own (bytes_one _) (.tail _ (.head _)) (by simp) hcn)
        have : logRes v.log (some (lg, ca, cc)) = star [Row lg 138 [.int .i64 g.cost, .slice ca g.commit.length cc], OwnB (ca, cc) g.commit] := by rw [hg]; rfl
        rw [← this]
        exact .tail _ (.tail _ (.head _))
      (refine w ?_; repeat ((first | refine VO.step rfl rfl ?_ | refine VD.end rfl rfl rfl ?_ | refine VD.mid rfl rfl rfl ?_); refine OpV.box rfl rfl rfl ?_; intro _; refine w ?_))
      (refine VC.drawn [] 16 [0, 1, 2, 3, 4, 5, 6, 7, 8, 9, 10, 11, 12, 13, 14, 15, 16, 17] _ rfl (by kernel_rfl) (by kernel_rfl) Ent.re ?_)
      (refine w ?_; repeat ((first | refine VO.step rfl rfl ?_ | refine VD.end rfl rfl rfl ?_ | refine VD.mid rfl rfl rfl ?_); refine OpV.box rfl rfl rfl ?_; intro _; refine w ?_))
      refine VD.re 28 (.int .i64 ((g.cost - 1 : Nat) : Int)) rfl (by congr 1; omega) ?_
      refine VD.ent (logClose hg) ?_
      ((first | refine VO.step rfl rfl ?_ | refine VD.end rfl rfl rfl ?_ | refine VD.mid rfl rfl rfl ?_); refine OpV.call rfl rfl (fun _ _ => by simp) (walplace_ok wp b r (some (lg, ca, cc)) v hv (g.cost - 1) (by omega) (Nat.le_trans (dv_cap hcp _) (by omega)) hl) Ent.refl rfl ?_)
      intro _ _
      (refine w ?_; repeat ((first | refine VO.step rfl rfl ?_ | refine VD.end rfl rfl rfl ?_ | refine VD.mid rfl rfl rfl ?_); refine OpV.box rfl rfl rfl ?_; intro _; refine w ?_))
      (refine VC.cond rfl rfl ?_ ?_ <;> intro hc)
      · have h9 : (wWrite (v, D) ((v.spot (g.cost - 1) : Nat) : Int) g.commit).1 ≠ 0 := by simpa using hc
        rw [if_pos h9]
        (refine w ?_; repeat ((first | refine VO.step rfl rfl ?_ | refine VD.end rfl rfl rfl ?_ | refine VD.mid rfl rfl rfl ?_); refine OpV.box rfl rfl rfl ?_; intro _; refine w ?_))
        refine VE.done1 rfl rfl ?_
        exact Ent.trans (Ent.re (L := WalO wp b r (some (lg, ca, cc)) (wWrite (v, D) ((v.spot (g.cost - 1) : Nat) : Int) g.commit).2.1 (BayR b (wWrite (v, D) ((v.spot (g.cost - 1) : Nat) : Int) g.commit).2.2 :: R))) (WalR.shut r _)
      have h9 : (wWrite (v, D) ((v.spot (g.cost - 1) : Nat) : Int) g.commit).1 = 0 := by simpa using hc
      clear hc
      rw [if_neg (by simpa using h9)]
      have hsm := (wWrite_same h9).1
      rw [hsm]
      obtain ⟨D2, hD2⟩ : ∃ D2, D2 = (wWrite (v, D) ((v.spot (g.cost - 1) : Nat) : Int) g.commit).2.2 := ⟨_, rfl⟩
      have hpair : (wWrite (v, D) ((v.spot (g.cost - 1) : Nat) : Int) g.commit).2 = (v, D2) := Prod.ext hsm hD2.symm
      rw [hpair]
      dsimp only
      refine VC.ent (logOpen hg) ?_
      (refine w ?_; repeat ((first | refine VO.step rfl rfl ?_ | refine VD.end rfl rfl rfl ?_ | refine VD.mid rfl rfl rfl ?_); refine OpV.box rfl rfl rfl ?_; intro _; refine w ?_))
      (refine VC.drawn [11] 16 [0, 1, 2, 3, 4, 5, 6, 7, 8, 9, 10, 11, 12, 13, 14, 15, 16] [walRow wp b r (some (lg, ca, cc)) v, Row lg 138 [.int .i64 g.cost, .slice ca g.commit.length cc]] rfl (by kernel_rfl) (by kernel_rfl) Ent.re ?_)
      (refine w ?_; repeat ((first | refine VO.step rfl rfl ?_ | refine VD.end rfl rfl rfl ?_ | refine VD.mid rfl rfl rfl ?_); refine OpV.box rfl rfl rfl ?_; intro _; refine w ?_))
      refine VD.ent (H' := RingR r v.size v.tail v.used :: BayR b D2 :: walRow wp b r (some (lg, ca, cc)) v :: Row lg 138 [.int .i64 g.cost, .slice ca g.commit.length cc] :: OwnB (ca, cc) g.commit :: R) Ent.re ?_
      by_cases hfull : v.size < v.used + g.cost
      · rw [if_pos hfull]
        ((first | refine VO.step rfl rfl ?_ | refine VD.end rfl rfl rfl ?_ | refine VD.mid rfl rfl rfl ?_); refine OpV.call rfl rfl (fun _ _ => by simp) (ringtake_full r hv.ring g.cost hfull) Ent.refl rfl ?_)
        intro _ _
        refine ⟨Ent.re, ?_⟩
        (refine w ?_; repeat ((first | refine VO.step rfl rfl ?_ | refine VD.end rfl rfl rfl ?_ | refine VD.mid rfl rfl rfl ?_); refine OpV.box rfl rfl rfl ?_; intro _; refine w ?_))
        refine VE.done1 rfl rfl ?_
        dsimp only
        exact Ent.trans (Ent.re (L := BayR b D2 :: walRow wp b r (some (lg, ca, cc)) v :: RingR r v.size v.tail v.used :: Row lg 138 [.int .i64 g.cost, .slice ca g.commit.length cc] :: OwnB (ca, cc) g.commit :: R))
          (Ent.trans (logClose hg) (Ent.trans (Ent.re (L := WalO wp b r (some (lg, ca, cc)) v (BayR b D2 :: R))) (WalR.shut r _)))
      · rw [if_neg hfull]
        ((first | refine VO.step rfl rfl ?_ | refine VD.end rfl rfl rfl ?_ | refine VD.mid rfl rfl rfl ?_); refine OpV.call rfl rfl (fun _ _ => by simp) (ringtake_ok r hv.ring g.cost (by omega)) Ent.refl rfl ?_)
        intro x9 _
        refine ⟨Ent.re, ?_⟩
        (refine w ?_; repeat ((first | refine VO.step rfl rfl ?_ | refine VD.end rfl rfl rfl ?_ | refine VD.mid rfl rfl rfl ?_); refine OpV.box rfl rfl rfl ?_; intro _; refine w ?_))
        have hnx := hv.next
        refine VE.done1 rfl rfl ?_
        dsimp only
        have hw9 : IntKind.u64.wrap ((v.next : Int) + 1) = ((v.next + 1 : Nat) : Int) := by rw [show ((v.next : Int) + 1) = ((v.next + 1 : Nat) : Int) by omega, wrap64_of (by omega)]
        refine Ent.trans (Ent.re (L := walRow wp b r none { v with used := v.used + g.cost, next := v.next + 1, sure := false, log := none } :: RingR r v.size v.tail (v.used + g.cost) :: BayR b D2 :: R) (by
          unfold walRow
          dsimp only
          rw [← hw9]
          (repeat first | exact .refl | (apply Reord.cons; focus repeat first | exact .head | apply Del.tail) | exact .nil | apply Reord.drop))) (walNone rfl)
theorem walsync_ok {W : World} {R : List SProp} {D : BayD} (wp b : Nat) (v : WalD) :
    Does1 W Tryz.prog 19 [.pointer (some ⟨wp, 0, none⟩)] (WalR wp b v :: BayR b D :: R) (.int .u16 (wSync (v, D)).1) (WalR wp b (wSync (v, D)).2.1 :: BayR b (wSync (v, D)).2.2 :: R) := by
  refine walDoes fun r lp => ?_
  (refine Does.enter Tryz.func19 Tryz.ntmps19 rfl rfl ?_)
  (refine w ?_; repeat ((first | refine VO.step rfl rfl ?_ | refine VD.end rfl rfl rfl ?_ | refine VD.mid rfl rfl rfl ?_); refine OpV.box rfl rfl rfl ?_; intro _; refine w ?_))
  (refine VC.cond rfl rfl ?_ ?_ <;> intro hc)
  · have hz : wSync (v, D) = (0, (v, D)) := if_pos hc
    rw [hz]
    (refine w ?_; repeat ((first | refine VO.step rfl rfl ?_ | refine VD.end rfl rfl rfl ?_ | refine VD.mid rfl rfl rfl ?_); refine OpV.box rfl rfl rfl ?_; intro _; refine w ?_))
    refine VE.done1 rfl rfl ?_
    exact Ent.trans (Ent.re (L := WalO wp b r lp v (BayR b D :: R))) (WalR.shut r lp)
  have hz : wSync (v, D) = ((wFlush (v, D)).1, { (wFlush (v, D)).2.1 with sure := decide ((wFlush (v, D)).1 = 0) }, (wFlush (v, D)).2.2) := if_neg (by rw [hc]; simp)
  rw [hz]
  (refine w ?_; repeat ((first | refine VO.step rfl rfl ?_ | refine VD.end rfl rfl rfl ?_ | refine VD.mid rfl rfl rfl ?_); refine OpV.box rfl rfl rfl ?_; intro _; refine w ?_))
  ((first | refine VO.step rfl rfl ?_ | refine VD.end rfl rfl rfl ?_ | refine VD.mid rfl rfl rfl ?_); refine OpV.call rfl rfl (fun _ _ => by simp) (walflush_ok wp b r lp v) Ent.refl rfl ?_)
  intro _ _
  (refine w ?_; repeat ((first | refine VO.step rfl rfl ?_ | refine VD.end rfl rfl rfl ?_ | refine VD.mid rfl rfl rfl ?_); refine OpV.box rfl rfl rfl ?_; intro _; refine w ?_))
  refine VE.done1 rfl rfl ?_
  dsimp only
  refine Ent.trans (Ent.re (L := WalO wp b r lp { (wFlush (v, D)).2.1 with sure := decide ((wFlush (v, D)).1 = 0) } (BayR b (wFlush (v, D)).2.2 :: R)) ?_) (WalR.shut r lp)
  have h1 : ((wFlush (v, D)).1 == 0) = decide ((wFlush (v, D)).1 = 0) := by rw [Bool.eq_iff_iff]; simp
  unfold WalO walRow
  dsimp only
  rw [← h1]
  (repeat first | exact .refl | (apply Reord.cons; focus repeat first | exact .head | apply Del.tail) | exact .nil | apply Reord.drop)
theorem wCheck_same {v : WalD} {D : BayD} {c : ChkD} (h : (wCheck (v, D) c).1 = 0) : (wCheck (v, D) c).2.1 = v := by
  unfold wCheck at *
  split at h
  · rename_i h0; exact absurd h h0
  · rename_i h0
    rw [if_neg h0]
    split at h
    · rename_i h1; exact absurd h h1
    · rename_i h1
      rw [if_neg h1]
      have h2 : (wWrite (v, D) 1 c.enc.2).1 = 0 := Decidable.byContradiction h1
      have h3 : (wWrite (v, D) 1 c.enc.2).2 = (v, (wWrite (v, D) 1 c.enc.2).2.2) := Prod.ext (wWrite_same h2).1 rfl
      rw [h3] at h ⊢
      exact (wFlush_same h).1
theorem wCheck_shut {W : World} {R : List SProp} {wp b : Nat} {v : WalD} (r : Nat) (lp : Option (Nat × (Option Addr × Nat))) : Ent W (WalO wp b r lp v R) (WalR wp b v :: R) := WalR.shut r lp
set_option maxHeartbeats 2000000 in
theorem walempty_ok {W : World} {R : List SProp} {D : BayD} {c0 : Nat} (wp b : Nat) (v : WalD) (e : Nat) (he : e < 2 ^ 64) (hv : v.ok) (hcp : D.capd c0) (hc0 : c0 ≤ 999990000) :
    Does1 W Tryz.prog 56 [.pointer (some ⟨wp, 0, none⟩), .int .u64 e] (WalR wp b v :: BayR b D :: R) (.int .u16 (wEmpty (v, D) e).1) (WalR wp b (wEmpty (v, D) e).2.1 :: BayR b (wEmpty (v, D) e).2.2 :: R) := by
  have hr1 := hv.ring.lo; have hr2 := hv.ring.hi; have hr3 := hv.ring.tl; have hr4 := hv.ring.us
  have hm : (v.tail + v.used) % v.size < v.size := Nat.mod_lt _ (by omega)
  have hnx := hv.next
  refine walDoes fun r lp => ?_
  (refine Does.enter Tryz.func56 Tryz.ntmps56 rfl rfl ?_)
  (refine w ?_; repeat ((first | refine VO.step rfl rfl ?_ | refine VD.end rfl rfl rfl ?_ | refine VD.mid rfl rfl rfl ?_); refine OpV.box rfl rfl rfl ?_; intro _; refine w ?_))
  (refine VC.cond rfl rfl ?_ ?_ <;> intro hc)
  · have h0 : v.broken ≠ 0 := by simpa using hc
    have hz : wEmpty (v, D) e = (v.broken, (v, D)) := if_pos h0
    rw [hz]
    (refine w ?_; repeat ((first | refine VO.step rfl rfl ?_ | refine VD.end rfl rfl rfl ?_ | refine VD.mid rfl rfl rfl ?_); refine OpV.box rfl rfl rfl ?_; intro _; refine w ?_))
    refine VE.done1 rfl rfl ?_
    exact Ent.trans (Ent.re (L := WalO wp b r lp v (BayR b D :: R))) (WalR.shut r lp)
  have h0 : v.broken = 0 := by simpa using hc
  clear hc
  (refine w ?_; repeat ((first | refine VO.step rfl rfl ?_ | refine VD.end rfl rfl rfl ?_ | refine VD.mid rfl rfl rfl ?_); refine OpV.box rfl rfl rfl ?_; intro _; refine w ?_))
  (refine VC.cond rfl rfl ?_ ?_ <;> intro hc)
  · have h1 : v.sure = false := by simpa using hc
    have hz : wEmpty (v, D) e = (1, (v, D)) := by unfold wEmpty; rw [if_neg (by simpa using h0), if_pos h1]
    rw [hz]
    (refine w ?_; repeat ((first | refine VO.step rfl rfl ?_ | refine VD.end rfl rfl rfl ?_ | refine VD.mid rfl rfl rfl ?_); refine OpV.box rfl rfl rfl ?_; intro _; refine w ?_))
    refine VE.done1 rfl rfl ?_
    exact Ent.trans (Ent.re (L := WalO wp b r lp v (BayR b D :: R))) (WalR.shut r lp)
  have h1 : v.sure = true := by simpa using hc
  clear hc
  have hz : wEmpty (v, D) e = if (wCheck (v, D) ⟨e, v.next, v.head⟩).1 ≠ 0 then wCheck (v, D) ⟨e, v.next, v.head⟩ else
      (0, { v with epoch := e, tail := v.head, used := 0, log := none }, (wCheck (v, D) ⟨e, v.next, v.head⟩).2.2) := by
    unfold wEmpty
    rw [if_neg (by simpa using h0), if_neg (by dsimp only; rw [h1]; simp)]
  rw [hz]
  (refine w ?_; repeat ((first | refine VO.step rfl rfl ?_ | refine VD.end rfl rfl rfl ?_ | refine VD.mid rfl rfl rfl ?_); refine OpV.box rfl rfl rfl ?_; intro _; refine w ?_))
  refine VC.drawn [10] 12 [0, 1, 2, 3, 4, 5, 6, 7, 8, 9, 10, 11, 12, 13] (BayR b D :: WalO wp b r lp v R) rfl (by kernel_rfl) (by kernel_rfl) Ent.refl ?_
  (refine w ?_; repeat ((first | refine VO.step rfl rfl ?_ | refine VD.end rfl rfl rfl ?_ | refine VD.mid rfl rfl rfl ?_); refine OpV.box rfl rfl rfl ?_; intro _; refine w ?_))
  refine VD.ent (H' := RingR r v.size v.tail v.used :: BayR b D :: walRow wp b r lp v :: logRes v.log lp :: R) Ent.re ?_
  ((first | refine VO.step rfl rfl ?_ | refine VD.end rfl rfl rfl ?_ | refine VD.mid rfl rfl rfl ?_); refine OpV.call rfl rfl (fun _ _ => by simp) (ringhead_ok r hv.ring) Ent.refl rfl ?_)
  intro _ _
  refine ⟨Ent.re, ?_⟩
  (refine w ?_; repeat ((first | refine VO.step rfl rfl ?_ | refine VD.end rfl rfl rfl ?_ | refine VD.mid rfl rfl rfl ?_); refine OpV.box rfl rfl rfl ?_; intro _; refine w ?_))
  ((first | apply VO.pure rfl rfl | apply VD.take rfl rfl rfl | (refine VD.end rfl rfl rfl ?_; apply OpV.pure)); apply PureAt.build sb_114 rfl; (simp [buildX, setL, Value.cells]; rfl); rfl)
  refine VD.ent (H' := BayR b D :: WalO wp b r lp v R) Ent.re ?_
  ((first | refine VO.step rfl rfl ?_ | refine VD.end rfl rfl rfl ?_ | refine VD.mid rfl rfl rfl ?_); refine OpV.call rfl rfl (fun _ _ => by simp) (walcheck_ok wp b r lp v ⟨e, v.next, v.head⟩ ⟨he, by dsimp only; omega, by dsimp only [WalD.head]; omega⟩ hcp (by omega)) Ent.refl rfl ?_)
  intro _ _
  (refine w ?_; repeat ((first | refine VO.step rfl rfl ?_ | refine VD.end rfl rfl rfl ?_ | refine VD.mid rfl rfl rfl ?_); refine OpV.box rfl rfl rfl ?_; intro _; refine w ?_))
  (refine VC.cond rfl rfl ?_ ?_ <;> intro hc)
  · have h9 : (wCheck (v, D) ⟨e, v.next, v.head⟩).1 ≠ 0 := by simpa using hc
    rw [if_pos h9]
    (refine w ?_; repeat ((first | refine VO.step rfl rfl ?_ | refine VD.end rfl rfl rfl ?_ | refine VD.mid rfl rfl rfl ?_); refine OpV.box rfl rfl rfl ?_; intro _; refine w ?_))
    refine VE.done1 rfl rfl ?_
    exact Ent.trans (Ent.re (L := WalO wp b r lp (wCheck (v, D) ⟨e, v.next, v.head⟩).2.1 (BayR b (wCheck (v, D) ⟨e, v.next, v.head⟩).2.2 :: R))) (wCheck_shut r lp)
  have h9 : (wCheck (v, D) ⟨e, v.next, v.head⟩).1 = 0 := by simpa using hc
  clear hc
  rw [if_neg (by simpa using h9), wCheck_same h9]
  (refine w ?_; repeat ((first | refine VO.step rfl rfl ?_ | refine VD.end rfl rfl rfl ?_ | refine VD.mid rfl rfl rfl ?_); refine OpV.box rfl rfl rfl ?_; intro _; refine w ?_))
  refine VC.drawn [8, 9] 14 [0, 1, 2, 3, 4, 5, 6, 7, 8, 9, 10, 11, 12, 13, 14] [walRow wp b r lp v] rfl (by kernel_rfl) (by kernel_rfl) Ent.re ?_
  (refine w ?_; repeat ((first | refine VO.step rfl rfl ?_ | refine VD.end rfl rfl rfl ?_ | refine VD.mid rfl rfl rfl ?_); refine OpV.box rfl rfl rfl ?_; intro _; refine w ?_))
  refine VD.ent (H' := RingR r v.size v.tail v.used :: BayR b (wCheck (v, D) ⟨e, v.next, v.head⟩).2.2 :: walRow wp b r lp v :: logRes v.log lp :: R) Ent.re ?_
  ((first | refine VO.step rfl rfl ?_ | refine VD.end rfl rfl rfl ?_ | refine VD.mid rfl rfl rfl ?_); refine OpV.call rfl rfl (fun _ _ => by simp) (ringused_ok r v.size v.tail v.used) Ent.refl rfl ?_)
  intro _ _
  refine ⟨Ent.re, ?_⟩
  (refine w ?_; repeat ((first | refine VO.step rfl rfl ?_ | refine VD.end rfl rfl rfl ?_ | refine VD.mid rfl rfl rfl ?_); refine OpV.box rfl rfl rfl ?_; intro _; refine w ?_))
  ((first | refine VO.step rfl rfl ?_ | refine VD.end rfl rfl rfl ?_ | refine VD.mid rfl rfl rfl ?_); refine OpV.call rfl rfl (fun _ _ => by simp) (ringgive_ok r hv.ring v.used (Nat.le_refl _)) Ent.refl rfl ?_)
  intro x9 _
  refine ⟨Ent.re, ?_⟩
  (refine w ?_; repeat ((first | refine VO.step rfl rfl ?_ | refine VD.end rfl rfl rfl ?_ | refine VD.mid rfl rfl rfl ?_); refine OpV.box rfl rfl rfl ?_; intro _; refine w ?_))
  refine VE.done1 rfl rfl ?_
  dsimp only
  refine Ent.trans (Ent.re (L := walRow wp b r none { v with epoch := e, tail := v.head, used := 0, log := none } :: RingR r v.size v.head 0 :: BayR b (wCheck (v, D) ⟨e, v.next, v.head⟩).2.2 :: R) (by
    unfold WalD.head
    rw [show v.used - v.used = 0 by omega]
    (repeat first | exact .refl | (apply Reord.cons; focus repeat first | exact .head | apply Del.tail) | exact .nil | apply Reord.drop))) (walNone rfl)
theorem walreclaim_ok {W : World} {R : List SProp} {D : BayD} {c0 : Nat} (wp b : Nat) (v : WalD) (hv : v.ok) (hcp : D.capd c0) (hc0 : c0 ≤ 999990000) :
    Does1 W Tryz.prog 21 [.pointer (some ⟨wp, 0, none⟩)] (WalR wp b v :: BayR b D :: R) (.int .u16 (wEmpty (v, D) v.epoch).1) (WalR wp b (wEmpty (v, D) v.epoch).2.1 :: BayR b (wEmpty (v, D) v.epoch).2.2 :: R) := by
  have hepo := hv.epoch
  refine walDoes fun r lp => ?_
  (refine Does.enter Tryz.func21 Tryz.ntmps21 rfl rfl ?_)
  (refine w ?_; repeat ((first | refine VO.step rfl rfl ?_ | refine VD.end rfl rfl rfl ?_ | refine VD.mid rfl rfl rfl ?_); refine OpV.box rfl rfl rfl ?_; intro _; refine w ?_))
  refine VO.ent (Ent.trans (Ent.re (L := WalO wp b r lp v (BayR b D :: R))) (WalR.shut r lp)) ?_
  ((first | refine VO.step rfl rfl ?_ | refine VD.end rfl rfl rfl ?_ | refine VD.mid rfl rfl rfl ?_); refine OpV.call rfl rfl (fun _ _ => by simp) (walempty_ok wp b v v.epoch (by omega) hv hcp hc0) Ent.refl rfl ?_)
  intro _ _
  (refine w ?_; repeat ((first | refine VO.step rfl rfl ?_ | refine VD.end rfl rfl rfl ?_ | refine VD.mid rfl rfl rfl ?_); refine OpV.box rfl rfl rfl ?_; intro _; refine w ?_))
  exact VE.done1 rfl rfl Ent.re
theorem walrenew_ok {W : World} {R : List SProp} {D : BayD} {c0 : Nat} (wp b : Nat) (v : WalD) (hv : v.ok) (hcp : D.capd c0) (hc0 : c0 ≤ 999990000) :
    Does1 W Tryz.prog 20 [.pointer (some ⟨wp, 0, none⟩)] (WalR wp b v :: BayR b D :: R) (.int .u16 (wEmpty (v, D) (v.epoch + 1)).1) (WalR wp b (wEmpty (v, D) (v.epoch + 1)).2.1 :: BayR b (wEmpty (v, D) (v.epoch + 1)).2.2 :: R) := by
  have hepo := hv.epoch
  refine walDoes fun r lp => ?_
  (refine Does.enter Tryz.func20 Tryz.ntmps20 rfl rfl ?_)
  (refine w ?_; repeat ((first | refine VO.step rfl rfl ?_ | refine VD.end rfl rfl rfl ?_ | refine VD.mid rfl rfl rfl ?_); refine OpV.box rfl rfl rfl ?_; intro _; refine w ?_))
  refine VO.re 8 (.int .u64 ((v.epoch + 1 : Nat) : Int)) rfl (by congr 1; rw [show ((v.epoch : Int) + 1) = ((v.epoch + 1 : Nat) : Int) by omega, wrap64_of (by omega)]) ?_
  refine VO.ent (Ent.trans (Ent.re (L := WalO wp b r lp v (BayR b D :: R))) (WalR.shut r lp)) ?_
  ((first | refine VO.step rfl rfl ?_ | refine VD.end rfl rfl rfl ?_ | refine VD.mid rfl rfl rfl ?_); refine OpV.call rfl rfl (fun _ _ => by simp) (walempty_ok wp b v (v.epoch + 1) (by omega) hv hcp hc0) Ent.refl rfl ?_)
  intro _ _
  (refine w ?_; repeat ((first | refine VO.step rfl rfl ?_ | refine VD.end rfl rfl rfl ?_ | refine VD.mid rfl rfl rfl ?_); refine OpV.box rfl rfl rfl ?_; intro _; refine w ?_))
  exact VE.done1 rfl rfl Ent.re
theorem walused_ok {W : World} {R : List SProp} (wp b : Nat) (v : WalD) : Does1 W Tryz.prog 18 [.pointer (some ⟨wp, 0, none⟩)] (WalR wp b v :: R) (.int .i64 v.used) (WalR wp b v :: R) := by
  refine DoesO (fun w hw => WalR.open hw) fun x => ?_
  (refine Does.enter Tryz.func18 Tryz.ntmps18 rfl rfl ?_)
  (refine w ?_; repeat ((first | refine VO.step rfl rfl ?_ | refine VD.end rfl rfl rfl ?_ | refine VD.mid rfl rfl rfl ?_); refine OpV.box rfl rfl rfl ?_; intro _; refine w ?_))
  refine VO.ent (H' := RingR x.1 v.size v.tail v.used :: walRow wp b x.1 x.2 v :: logRes v.log x.2 :: R) Ent.re ?_
  ((first | refine VO.step rfl rfl ?_ | refine VD.end rfl rfl rfl ?_ | refine VD.mid rfl rfl rfl ?_); refine OpV.call rfl rfl (fun _ _ => by simp) (ringused_ok x.1 v.size v.tail v.used) Ent.refl rfl ?_)
  intro _ _
  (refine w ?_; repeat ((first | refine VO.step rfl rfl ?_ | refine VD.end rfl rfl rfl ?_ | refine VD.mid rfl rfl rfl ?_); refine OpV.box rfl rfl rfl ?_; intro _; refine w ?_))
  exact VE.done1 rfl rfl (Ent.trans (Ent.re (L := WalO wp b x.1 x.2 v R)) (WalR.shut x.1 x.2))
theorem walnext_ok {W : World} {R : List SProp} (wp b : Nat) (v : WalD) : Does1 W Tryz.prog 15 [.pointer (some ⟨wp, 0, none⟩)] (WalR wp b v :: R) (.int .u64 v.next) (WalR wp b v :: R) := by
  refine DoesO (fun w hw => WalR.open hw) fun x => ?_
  (refine Does.enter Tryz.func15 Tryz.ntmps15 rfl rfl ?_)
  (refine w ?_; repeat ((first | refine VO.step rfl rfl ?_ | refine VD.end rfl rfl rfl ?_ | refine VD.mid rfl rfl rfl ?_); refine OpV.box rfl rfl rfl ?_; intro _; refine w ?_))
  exact VE.done1 rfl rfl (Ent.trans (Ent.re (L := WalO wp b x.1 x.2 v R)) (WalR.shut x.1 x.2))
end Go.Proofs.YtlojjlbngnaphaaGreat

/-! Text Ue. -/
/- Package wal: Format and Open. -/
set_option maxRecDepth 8000
set_option linter.unusedVariables false
set_option linter.unusedSimpArgs false
set_option linter.unusedSectionVars false
namespace Go.Proofs.YtlojjlbngnaphaaGreat
open Go.RowKit Go.Sl
attribute [local irreducible] Own

theorem bayOkk {W w : World} {R : List SProp} {b : Nat} {D : BayD} (h : Holds W (BayR b D :: R) w) (k : Int) (v : DevD) (hv : D.dev k = some v) : v.k.ok := by
  obtain ⟨⟨⟨a, sp⟩, h1, h2⟩, h3⟩ := BayR.open h
  dsimp only at h1 h2 h3
  rw [inP_D h1] at hv
  cases hp : inP sp k with
  | none => rw [hp] at hv; cases hv
  | some p =>
    rw [hp] at hv
    have hv : p.v = v := by injection hv
    obtain ⟨l1, s, l2, rfl, -, hs⟩ := inP_split hp
    have h4 := bayOutP hs w h3
    have := h4.tail
    rw [← hv]
    exact DiskR.know this
theorem rd_128 {k : DiskD} (hk : k.ok) {a : Int} (h : (k.rd a).2 = 0) : (k.rd a).1.length = 128 := by
  unfold DiskD.rd at *
  split at h
  · rename_i h0
    rw [if_pos h0]
    have := may_zero h0
    exact DiskD.look_128 hk (by omega)
  · rename_i h0; exact absurd h h0
theorem refuse_dev {D : BayD} {k : Int} (h : D.refuse k = 0) : ∃ v, D.dev k = some v := by
  unfold BayD.refuse at h
  split at h
  · cases h
  · split at h
    · cases h
    · rename_i h1 h2
      cases hd : D.dev k with
      | some v => exact ⟨v, rfl⟩
      | none =>
        rw [hd] at h
        unfold thereE at h
        simp only [Option.isSome_none] at h
        split at h
        · cases h
        · cases h
theorem use_okk {v : DevD} (h : v.k.ok) : v.use.k.ok := by
  unfold DevD.use
  split
  · exact h
  · split
    · exact DiskD.settle_okk (k := ⟨v.k.last, v.k.cache, true⟩) ⟨h.last, h.cache, h.size⟩
    · exact h
theorem read_128 {D : BayD} {k a : Int} (hk : ∀ v, D.dev k = some v → v.k.ok) (h : (D.read k a).1.2 = 0) : (D.read k a).1.1.length = 128 := by
  unfold BayD.read at *
  split at h
  · rename_i h0
    rw [if_pos h0]
    obtain ⟨v, hv⟩ := refuse_dev h0
    dsimp only at *
    refine rd_128 ?_ h
    unfold BayD.dv
    rw [hv]
    exact use_okk (hk v hv)
  · rename_i h0; exact absurd h h0

def sizedB (n : Int) : Bool := decide (5 ≤ n ∧ n ≤ 2048)
theorem sized_ok {W : World} {R : List SProp} (n : Int) : Does1 W Tryz.prog 49 [.int .i64 n] R (.bool (sizedB n)) R := by
  (refine Does.enter Tryz.func49 Tryz.ntmps49 rfl rfl ?_)
  (refine w ?_; repeat ((first | refine VO.step rfl rfl ?_ | refine VD.end rfl rfl rfl ?_ | refine VD.mid rfl rfl rfl ?_); refine OpV.box rfl rfl rfl ?_; intro _; refine w ?_))
  ((first | refine VO.split rfl rfl rfl ?_ ?_ | refine VD.split rfl rfl rfl ?_ ?_) <;> intro hb)
  · (refine w ?_; repeat ((first | refine VO.step rfl rfl ?_ | refine VD.end rfl rfl rfl ?_ | refine VD.mid rfl rfl rfl ?_); refine OpV.box rfl rfl rfl ?_; intro _; refine w ?_))
    exact VE.done1 rfl (by unfold sizedB; congr 1; rw [decide_eq_decide]; have := of_decide_eq_true hb; omega) Ent.re
  · (refine w ?_; repeat ((first | refine VO.step rfl rfl ?_ | refine VD.end rfl rfl rfl ?_ | refine VD.mid rfl rfl rfl ?_); refine OpV.box rfl rfl rfl ?_; intro _; refine w ?_))
    exact VE.done1 rfl (by unfold sizedB; congr 1; symm; apply decide_eq_false; have := of_decide_eq_false hb; omega) Ent.re
def fresh0 (slot : Int) (epoch n : Nat) : WalD := ⟨slot, epoch, n, 0, 0, 1, true, none, 0⟩
def zeroL (n : Nat) : List (Int × List UInt8) := (List.range n).map fun p => (((2 + p : Nat) : Int), zeroSec)
def wFormat (D : BayD) (slot places : Int) (epoch : Nat) : (Option WalD × Int) × BayD :=
  if sizedB places = false ∨ 4611686018427387904 < epoch then ((none, 1), D) else
  if (wMany (fresh0 slot epoch places.toNat, D) (zeroL places.toNat)).1 ≠ 0 then ((none, (wMany (fresh0 slot epoch places.toNat, D) (zeroL places.toNat)).1), (wMany (fresh0 slot epoch places.toNat, D) (zeroL places.toNat)).2.2) else
  if (wCheck (wMany (fresh0 slot epoch places.toNat, D) (zeroL places.toNat)).2 ⟨epoch, 1, 0⟩).1 ≠ 0 then ((none, (wCheck (wMany (fresh0 slot epoch places.toNat, D) (zeroL places.toNat)).2 ⟨epoch, 1, 0⟩).1), (wCheck (wMany (fresh0 slot epoch places.toNat, D) (zeroL places.toNat)).2 ⟨epoch, 1, 0⟩).2.2) else
  ((some (fresh0 slot epoch places.toNat), 0), (wCheck (wMany (fresh0 slot epoch places.toNat, D) (zeroL places.toNat)).2 ⟨epoch, 1, 0⟩).2.2)
set_option maxHeartbeats 4000000 in
theorem walformat_ok {W : World} {R : List SProp} {D : BayD} {c0 epoch : Nat} (b : Nat) (slot places : Int) (he : epoch < 2 ^ 64) (hcp : D.capd c0) (hc0 : c0 ≤ 999990000) :
    Does W Tryz.prog 29 [.pointer (some ⟨b, 0, none⟩), .int .i64 slot, .int .i64 places, .int .u64 epoch] (BayR b D :: R) (β := Option Nat) (fun x => x.isSome = (wFormat D slot places epoch).1.1.isSome)
      (fun x => .tuple #[.pointer (x.map fun w => ⟨w, 0, none⟩), .int .u16 (wFormat D slot places epoch).1.2])
      (fun x => x.elim (BayR b (wFormat D slot places epoch).2 :: R) fun w => WalR w b (fresh0 slot epoch places.toNat) :: BayR b (wFormat D slot places epoch).2 :: R) := by
  (refine Does.enter Tryz.func29 Tryz.ntmps29 rfl rfl ?_)
  (refine w ?_; repeat ((first | refine VO.step rfl rfl ?_ | refine VD.end rfl rfl rfl ?_ | refine VD.mid rfl rfl rfl ?_); refine OpV.box rfl rfl rfl ?_; intro _; refine w ?_))
  ((first | refine VO.step rfl rfl ?_ | refine VD.end rfl rfl rfl ?_ | refine VD.mid rfl rfl rfl ?_); refine OpV.call rfl rfl (fun _ _ => by simp) (sized_ok places) Ent.refl rfl ?_)
  intro _ _
  (refine w ?_; repeat ((first | refine VO.step rfl rfl ?_ | refine VD.end rfl rfl rfl ?_ | refine VD.mid rfl rfl rfl ?_); refine OpV.box rfl rfl rfl ?_; intro _; refine w ?_))
  by_cases hs : sizedB places = true
  rotate_left
  · have hs : sizedB places = false := by simpa using hs
    have hz : wFormat D slot places epoch = ((none, 1), D) := if_pos (.inl hs)
    rw [hs, hz]
    (refine w ?_; repeat ((first | refine VO.step rfl rfl ?_ | refine VD.end rfl rfl rfl ?_ | refine VD.mid rfl rfl rfl ?_); refine OpV.box rfl rfl rfl ?_; intro _; refine w ?_))
    exact VE.done none rfl rfl rfl Ent.refl
  rw [hs]
  have hs2 := of_decide_eq_true (show decide (5 ≤ places ∧ places ≤ 2048) = true from hs)
  (refine w ?_; repeat ((first | refine VO.step rfl rfl ?_ | refine VD.end rfl rfl rfl ?_ | refine VD.mid rfl rfl rfl ?_); refine OpV.box rfl rfl rfl ?_; intro _; refine w ?_))
  (refine VC.cond rfl rfl ?_ ?_ <;> intro hc)
  · have hep := of_decide_eq_true hc
    have hz : wFormat D slot places epoch = ((none, 1), D) := if_pos (.inr (by omega))
    rw [hz]
    (refine w ?_; repeat ((first | refine VO.step rfl rfl ?_ | refine VD.end rfl rfl rfl ?_ | refine VD.mid rfl rfl rfl ?_); refine OpV.box rfl rfl rfl ?_; intro _; refine w ?_))
    exact VE.done none rfl rfl rfl Ent.refl
  have hep : epoch ≤ 4611686018427387904 := by have := of_decide_eq_false hc; omega
  clear hc
  obtain ⟨n, rfl⟩ : ∃ n : Nat, places = n := ⟨places.toNat, by omega⟩
  have hro : RingOk n 0 0 := ⟨by omega, by omega, by omega, by omega⟩
  obtain ⟨L, hL⟩ : ∃ L, L = zeroL n := ⟨_, rfl⟩
  have hLl : L.length = n := by rw [hL]; simp [zeroL]
  have hLg : ∀ i (h : i < L.length), L[i] = (((2 + i : Nat) : Int), zeroSec) := by intro i h; subst hL; simp [zeroL]
  have hF : wFormat D slot n epoch = if (wMany (fresh0 slot epoch n, D) L).1 ≠ 0 then ((none, (wMany (fresh0 slot epoch n, D) L).1), (wMany (fresh0 slot epoch n, D) L).2.2) else
      if (wCheck (wMany (fresh0 slot epoch n, D) L).2 ⟨epoch, 1, 0⟩).1 ≠ 0 then ((none, (wCheck (wMany (fresh0 slot epoch n, D) L).2 ⟨epoch, 1, 0⟩).1), (wCheck (wMany (fresh0 slot epoch n, D) L).2 ⟨epoch, 1, 0⟩).2.2) else
      ((some (fresh0 slot epoch n), 0), (wCheck (wMany (fresh0 slot epoch n, D) L).2 ⟨epoch, 1, 0⟩).2.2) := by
    rw [hL]
    unfold wFormat
    rw [if_neg (by rw [hs]; simp; omega), Int.toNat_natCast]
  (refine w ?_; repeat ((first | refine VO.step rfl rfl ?_ | refine VD.end rfl rfl rfl ?_ | refine VD.mid rfl rfl rfl ?_); refine OpV.box rfl rfl rfl ?_; intro _; refine w ?_))
  ((first | refine VO.step rfl rfl ?_ | refine VD.end rfl rfl rfl ?_ | refine VD.mid rfl rfl rfl ?_); refine OpV.call rfl rfl (fun _ _ => by simp) (ringnew_ok (size := n) (tail := 0) (used := 0) hro) Ent.refl rfl ?_)
  intro r _
  (refine w ?_; repeat ((first | refine VO.step rfl rfl ?_ | refine VD.end rfl rfl rfl ?_ | refine VD.mid rfl rfl rfl ?_); refine OpV.box rfl rfl rfl ?_; intro _; refine w ?_))
  (apply VO.pure rfl rfl; apply PureAt.build sb_110 rfl; (simp [buildX, setL, Value.cells]; rfl); rfl)
  (refine w ?_; repeat ((first | refine VO.step rfl rfl ?_ | refine VD.end rfl rfl rfl ?_ | refine VD.mid rfl rfl rfl ?_); refine OpV.box rfl rfl rfl ?_; intro _; refine w ?_))
  rename_i wp
  refine VC.ent (H' := BayR b D :: WalO wp b r none (fresh0 slot epoch n) R) (fun w hw => by
    have h1 := hw.factShut (p := True) trivial
    exact h1.reord (by
      show Reord (logRes none none :: _) _
      unfold WalO fresh0
      dsimp only
      (repeat first | exact .refl | (apply Reord.cons; focus repeat first | exact .head | apply Del.tail) | exact .nil | apply Reord.drop))) ?_
  (refine w ?_; repeat ((first | refine VO.step rfl rfl ?_ | refine VD.end rfl rfl rfl ?_ | refine VD.mid rfl rfl rfl ?_); refine OpV.box rfl rfl rfl ?_; intro _; refine w ?_))
  refine VC.loop (α := Nat × BayD) (fun y => y.1 ≤ n ∧ y.2.capd (c0 + y.1) ∧ wMany (fresh0 slot epoch n, D) L = wMany (fresh0 slot epoch n, y.2) (L.drop y.1)) (fun y => BayR b y.2 :: WalO wp b r none (fresh0 slot epoch n) R)
    (fun y => [(3, .int .u64 epoch), (12, .pointer (some ⟨wp, 0, none⟩)), (37, .int .i64 n), (38, .int .i64 y.1)]) (fun y => n - y.1) rfl (0, D) ⟨Nat.zero_le _, hcp, by rw [List.drop_zero]⟩ Ent.refl ⟨rfl, rfl, rfl, rfl, trivial⟩ ?_
  rintro ⟨i, Di⟩ ⟨hi, hci, hmi⟩
  dsimp only at hi hci hmi ⊢
  (refine w ?_; repeat ((first | refine VO.step rfl rfl ?_ | refine VD.end rfl rfl rfl ?_ | refine VD.mid rfl rfl rfl ?_); refine OpV.box rfl rfl rfl ?_; intro _; refine w ?_))
  (refine VC.cond rfl rfl ?_ ?_ <;> intro hc)
  · have hlt : i < n := by have := of_decide_eq_true hc; omega
    clear hc
    have hstep : wMany (fresh0 slot epoch n, Di) (L.drop i) = if (wWrite (fresh0 slot epoch n, Di) ((2 + i : Nat) : Int) zeroSec).1 ≠ 0 then wWrite (fresh0 slot epoch n, Di) ((2 + i : Nat) : Int) zeroSec else wMany (wWrite (fresh0 slot epoch n, Di) ((2 + i : Nat) : Int) zeroSec).2 (L.drop (i + 1)) := by
      rw [List.drop_eq_getElem_cons (by omega), hLg i (by omega)]; rfl
    (refine w ?_; repeat ((first | refine VO.step rfl rfl ?_ | refine VD.end rfl rfl rfl ?_ | refine VD.mid rfl rfl rfl ?_); refine OpV.box rfl rfl rfl ?_; intro _; refine w ?_))
    (first | refine VO.step rfl rfl ?_ | refine VD.end rfl rfl rfl ?_ | refine VD.mid rfl rfl rfl ?_)
    refine OpV.makeSlice1 (m := 128) st_68 rfl rfl rfl (by decide) (by decide) rfl ?_
    intro nz
    refine VO.re 43 (.int .i64 ((2 + i : Nat) : Int)) rfl (by congr 1) ?_
    (refine w ?_; repeat ((first | refine VO.step rfl rfl ?_ | refine VD.end rfl rfl rfl ?_ | refine VD.mid rfl rfl rfl ?_); refine OpV.box rfl rfl rfl ?_; intro _; refine w ?_))
    refine VO.ent (H' := BayR b Di :: WalO wp b r none (fresh0 slot epoch n) (OwnB (some ⟨nz, 0, none⟩, 128) zeroSec :: R)) (by
      rw [show OwnB (some ⟨nz, 0, none⟩, 128) zeroSec = Sl.Own 5 1 (.slice (some ⟨nz, 0, none⟩) 128 128) 128 (List.replicate 128 (.int .u8 0)) by
        show Sl.Own _ _ (.slice _ zeroSec.length 128) zeroSec.length (bytes zeroSec) = _
        rw [zeroSec_length, show bytes zeroSec = List.replicate 128 (.int .u8 0) by unfold bytes zeroSec; rw [List.map_replicate]; rfl]]
      exact Ent.re) ?_
    refine VO.re 44 (.slice (some ⟨nz, 0, none⟩) zeroSec.length 128) rfl (by rw [zeroSec_length]) ?_
    ((first | refine VO.step rfl rfl ?_ | refine VD.end rfl rfl rfl ?_ | refine VD.mid rfl rfl rfl ?_); refine OpV.call rfl rfl (fun _ _ => by simp) (walwrite_ok wp b r none (fresh0 slot epoch n) ((2 + i : Nat) : Int) (Nat.le_trans (dv_cap hci _) (by omega)) (Rds.own (bytes_one _) (.tail _ (.tail _ (.tail _ (.head _)))) (by simp) (by simp))) Ent.refl rfl ?_)
    intro _ _
    (refine w ?_; repeat ((first | refine VO.step rfl rfl ?_ | refine VD.end rfl rfl rfl ?_ | refine VD.mid rfl rfl rfl ?_); refine OpV.box rfl rfl rfl ?_; intro _; refine w ?_))
    (refine VC.cond rfl rfl ?_ ?_ <;> intro hc)
    · have h9 : (wWrite (fresh0 slot epoch n, Di) ((2 + i : Nat) : Int) zeroSec).1 ≠ 0 := by simpa using hc
      rw [if_pos h9] at hstep
      have hfin : wFormat D slot n epoch = ((none, (wWrite (fresh0 slot epoch n, Di) ((2 + i : Nat) : Int) zeroSec).1), (wWrite (fresh0 slot epoch n, Di) ((2 + i : Nat) : Int) zeroSec).2.2) := by
        rw [hF, hmi, hstep, if_pos h9]
      rw [hfin]
      (refine w ?_; repeat ((first | refine VO.step rfl rfl ?_ | refine VD.end rfl rfl rfl ?_ | refine VD.mid rfl rfl rfl ?_); refine OpV.box rfl rfl rfl ?_; intro _; refine w ?_))
      refine VE.done none rfl rfl rfl ?_
      exact Ent.re
    have h9 : (wWrite (fresh0 slot epoch n, Di) ((2 + i : Nat) : Int) zeroSec).1 = 0 := by simpa using hc
    clear hc
    rw [if_neg (by simpa using h9)] at hstep
    have hsm := (wWrite_same h9).1
    (refine w ?_; repeat ((first | refine VO.step rfl rfl ?_ | refine VD.end rfl rfl rfl ?_ | refine VD.mid rfl rfl rfl ?_); refine OpV.box rfl rfl rfl ?_; intro _; refine w ?_))
    refine VE.round (i + 1, (wWrite (fresh0 slot epoch n, Di) ((2 + i : Nat) : Int) zeroSec).2.2) ⟨hlt, wWrite_capd hci _ _, ?_⟩ (by simp only; omega) ⟨rfl, rfl, rfl, asV rfl (by congr 1), trivial⟩ ?_
    · show wMany (fresh0 slot epoch n, D) L = wMany (fresh0 slot epoch n, (wWrite (fresh0 slot epoch n, Di) ((2 + i : Nat) : Int) zeroSec).2.2) (L.drop (i + 1))
      rw [hmi, hstep]
      congr 1
      exact Prod.ext hsm rfl
    · rw [hsm]; exact Ent.re
  have hie : i = n := by have := of_decide_eq_false hc; omega
  clear hc
  rw [hie, ← hLl, List.drop_length] at hmi
  have hmany : wMany (fresh0 slot epoch n, D) L = (0, (fresh0 slot epoch n, Di)) := by rw [hLl] at hmi; exact hmi
  rw [hmany] at hF
  dsimp only at hF
  rw [if_neg (by simp)] at hF
  (refine w ?_; repeat ((first | refine VO.step rfl rfl ?_ | refine VD.end rfl rfl rfl ?_ | refine VD.mid rfl rfl rfl ?_); refine OpV.box rfl rfl rfl ?_; intro _; refine w ?_))
  (apply VO.pure rfl rfl; apply PureAt.build sb_114 rfl; (simp [buildX, setL, Value.cells]; rfl); rfl)
  ((first | refine VO.step rfl rfl ?_ | refine VD.end rfl rfl rfl ?_ | refine VD.mid rfl rfl rfl ?_); refine OpV.call rfl rfl (fun _ _ => by simp) (walcheck_ok wp b r none (fresh0 slot epoch n) ⟨epoch, 1, 0⟩ ⟨he, by show 1 < 2 ^ 64; omega, by show -9223372036854775808 ≤ (0 : Int) ∧ (0 : Int) ≤ 9223372036854775807; omega⟩ hci (by omega)) Ent.refl rfl ?_)
  intro _ _
  (refine w ?_; repeat ((first | refine VO.step rfl rfl ?_ | refine VD.end rfl rfl rfl ?_ | refine VD.mid rfl rfl rfl ?_); refine OpV.box rfl rfl rfl ?_; intro _; refine w ?_))
  (refine VC.cond rfl rfl ?_ ?_ <;> intro hc)
  · have h9 : (wCheck (fresh0 slot epoch n, Di) ⟨epoch, 1, 0⟩).1 ≠ 0 := by simpa using hc
    rw [if_pos h9] at hF
    rw [hF]
    (refine w ?_; repeat ((first | refine VO.step rfl rfl ?_ | refine VD.end rfl rfl rfl ?_ | refine VD.mid rfl rfl rfl ?_); refine OpV.box rfl rfl rfl ?_; intro _; refine w ?_))
    refine VE.done none rfl rfl rfl ?_
    exact Ent.re
  have h9 : (wCheck (fresh0 slot epoch n, Di) ⟨epoch, 1, 0⟩).1 = 0 := by simpa using hc
  clear hc
  rw [if_neg (by simpa using h9)] at hF
  rw [hF, wCheck_same h9]
  (refine w ?_; repeat ((first | refine VO.step rfl rfl ?_ | refine VD.end rfl rfl rfl ?_ | refine VD.mid rfl rfl rfl ?_); refine OpV.box rfl rfl rfl ?_; intro _; refine w ?_))
  refine VE.done (some wp) rfl rfl rfl ?_
  exact Ent.trans (Ent.re (L := WalO wp b r none (fresh0 slot epoch n) (BayR b (wCheck (fresh0 slot epoch n, Di) ⟨epoch, 1, 0⟩).2.2 :: R))) (WalR.shut r none)

def bReads (D : BayD) (slot : Int) : List Int → List UInt8 → (List UInt8 × Int) × BayD
  | [], acc => ((acc, 0), D)
  | a :: r, acc => if (D.read slot a).1.2 ≠ 0 then (([], (D.read slot a).1.2), (D.read slot a).2) else bReads (D.read slot a).2 slot r (acc ++ (D.read slot a).1.1)
def ringL (n : Nat) : List Int := (List.range n).map fun p => ((2 + p : Nat) : Int)
def openW (slot places : Int) (c : ChkD) (f : FndD) : WalD := ⟨slot, c.epoch, places.toNat, c.tail.toNat, f.used, f.next, true, none, 0⟩
def wOpen (D : BayD) (slot places : Int) : ((Option WalD × List (Nat × List PatD)) × Int) × BayD :=
  if sizedB places = false then (((none, []), 1), D) else
  if (D.read slot 1).1.2 ≠ 0 then (((none, []), (D.read slot 1).1.2), (D.read slot 1).2) else
  if (ChkD.dec (D.read slot 1).1.1).1 ≠ 0 ∨ places ≤ (ChkD.dec (D.read slot 1).1.1).2.tail then (((none, []), 120), (D.read slot 1).2) else
  if (bReads (D.read slot 1).2 slot (ringL places.toNat) []).1.2 ≠ 0 then (((none, []), (bReads (D.read slot 1).2 slot (ringL places.toNat) []).1.2), (bReads (D.read slot 1).2 slot (ringL places.toNat) []).2) else
  if (foundM (bReads (D.read slot 1).2 slot (ringL places.toNat) []).1.1 (ChkD.dec (D.read slot 1).1.1).2).1 ≠ 0 then (((none, []), (foundM (bReads (D.read slot 1).2 slot (ringL places.toNat) []).1.1 (ChkD.dec (D.read slot 1).1.1).2).1), (bReads (D.read slot 1).2 slot (ringL places.toNat) []).2) else
  (((some (openW slot places (ChkD.dec (D.read slot 1).1.1).2 (foundM (bReads (D.read slot 1).2 slot (ringL places.toNat) []).1.1 (ChkD.dec (D.read slot 1).1.1).2).2), (foundM (bReads (D.read slot 1).2 slot (ringL places.toNat) []).1.1 (ChkD.dec (D.read slot 1).1.1).2).2.txns), 0), (bReads (D.read slot 1).2 slot (ringL places.toNat) []).2)
theorem dec_fitS (b : List UInt8) : (ChkD.dec b).2.fit := by
  have hz : zeroK.fit := ⟨by decide, by decide, by decide⟩
  unfold ChkD.dec
  split
  · exact hz
  · split
    · exact chk_fit b
    · exact hz
structure OpnE where
  w : Option Nat
  x : Option Addr × Nat
  ts : List TxnE
set_option maxHeartbeats 4000000 in
theorem walopen_ok {W : World} {R : List SProp} {D : BayD} (b : Nat) (slot places : Int) :
    Does W Tryz.prog 17 [.pointer (some ⟨b, 0, none⟩), .int .i64 slot, .int .i64 places] (BayR b D :: R) (β := OpnE) (fun y => y.w.isSome = (wOpen D slot places).1.1.1.isSome ∧ y.ts.map TxnE.T = (wOpen D slot places).1.1.2)
      (fun y => .tuple #[.pointer (y.w.map fun w => ⟨w, 0, none⟩), .slice y.x.1 y.ts.length y.x.2, .int .u16 (wOpen D slot places).1.2])
      (fun y => TxnsO y.x y.ts :: PilT y.ts :: y.w.elim (BayR b (wOpen D slot places).2 :: R) fun w => WalR w b ((wOpen D slot places).1.1.1.getD (fresh0 0 0 0)) :: BayR b (wOpen D slot places).2 :: R) := by
  have hnone : ∀ (D' : BayD), Ent W (BayR b D' :: R) (TxnsO (none, 0) [] :: PilT [] :: BayR b D' :: R) := fun D' w hw => (pile_nil (res := TxnE.res) hw).ownNil _ _
  (refine Does.enter Tryz.func17 Tryz.ntmps17 rfl rfl ?_)
  (refine w ?_; repeat ((first | refine VO.step rfl rfl ?_ | refine VD.end rfl rfl rfl ?_ | refine VD.mid rfl rfl rfl ?_); refine OpV.box rfl rfl rfl ?_; intro _; refine w ?_))
  ((first | refine VO.step rfl rfl ?_ | refine VD.end rfl rfl rfl ?_ | refine VD.mid rfl rfl rfl ?_); refine OpV.call rfl rfl (fun _ _ => by simp) (sized_ok places) Ent.refl rfl ?_)
  intro _ _
  (refine w ?_; repeat ((first | refine VO.step rfl rfl ?_ | refine VD.end rfl rfl rfl ?_ | refine VD.mid rfl rfl rfl ?_); refine OpV.box rfl rfl rfl ?_; intro _; refine w ?_))
  by_cases hs : sizedB places = true
  rotate_left
  · have hs : sizedB places = false := by simpa using hs
    have hz : wOpen D slot places = (((none, []), 1), D) := if_pos hs
    rw [hs, hz]
    (refine w ?_; repeat ((first | refine VO.step rfl rfl ?_ | refine VD.end rfl rfl rfl ?_ | refine VD.mid rfl rfl rfl ?_); refine OpV.box rfl rfl rfl ?_; intro _; refine w ?_))
    exact VE.done ⟨none, (none, 0), []⟩ rfl ⟨rfl, rfl⟩ rfl (hnone D)
  rw [hs]
  have hs2 := of_decide_eq_true (show decide (5 ≤ places ∧ places ≤ 2048) = true from hs)
  obtain ⟨n, rfl⟩ : ∃ n : Nat, places = n := ⟨places.toNat, by omega⟩
  have hO : wOpen D slot n = if (D.read slot 1).1.2 ≠ 0 then (((none, []), (D.read slot 1).1.2), (D.read slot 1).2) else
      if (ChkD.dec (D.read slot 1).1.1).1 ≠ 0 ∨ (n : Int) ≤ (ChkD.dec (D.read slot 1).1.1).2.tail then (((none, []), 120), (D.read slot 1).2) else
      if (bReads (D.read slot 1).2 slot (ringL n) []).1.2 ≠ 0 then (((none, []), (bReads (D.read slot 1).2 slot (ringL n) []).1.2), (bReads (D.read slot 1).2 slot (ringL n) []).2) else
      if (foundM (bReads (D.read slot 1).2 slot (ringL n) []).1.1 (ChkD.dec (D.read slot 1).1.1).2).1 ≠ 0 then (((none, []), (foundM (bReads (D.read slot 1).2 slot (ringL n) []).1.1 (ChkD.dec (D.read slot 1).1.1).2).1), (bReads (D.read slot 1).2 slot (ringL n) []).2) else
      (((some (openW slot n (ChkD.dec (D.read slot 1).1.1).2 (foundM (bReads (D.read slot 1).2 slot (ringL n) []).1.1 (ChkD.dec (D.read slot 1).1.1).2).2), (foundM (bReads (D.read slot 1).2 slot (ringL n) []).1.1 (ChkD.dec (D.read slot 1).1.1).2).2.txns), 0), (bReads (D.read slot 1).2 slot (ringL n) []).2) := by
    unfold wOpen
    rw [if_neg (by rw [hs]; simp), Int.toNat_natCast]
  (refine w ?_; repeat ((first | refine VO.step rfl rfl ?_ | refine VD.end rfl rfl rfl ?_ | refine VD.mid rfl rfl rfl ?_); refine OpV.box rfl rfl rfl ?_; intro _; refine w ?_))
  ((first | refine VO.step rfl rfl ?_ | refine VD.end rfl rfl rfl ?_ | refine VD.mid rfl rfl rfl ?_); refine OpV.call rfl rfl (fun _ _ => by simp) (bayread_ok b D slot 1) Ent.refl rfl ?_)
  rintro ⟨xo, xc⟩ hxn
  dsimp only at hxn
  refine VO.know (p := ∀ v, (D.read slot 1).2.dev slot = some v → v.k.ok) (fun w hw => bayOkk hw.tail slot) ?_
  intro hokk
  refine VO.know (p := (D.read slot 1).1.1.length ≤ xc) (fun w hw => hw.ownCap (.head _)) ?_
  intro hxc
  obtain ⟨D1, hD1⟩ : ∃ D1, D1 = (D.read slot 1).2 := ⟨_, rfl⟩
  obtain ⟨l1, hl1⟩ : ∃ l1, l1 = (D.read slot 1).1.1 := ⟨_, rfl⟩
  obtain ⟨e1, he1⟩ : ∃ e1, e1 = (D.read slot 1).1.2 := ⟨_, rfl⟩
  rw [← hl1, ← he1, ← hD1] at hO
  rw [← hD1] at hokk
  rw [← hl1] at hxc hxn
  rw [← hl1, ← he1, ← hD1]
  (refine w ?_; repeat ((first | refine VO.step rfl rfl ?_ | refine VD.end rfl rfl rfl ?_ | refine VD.mid rfl rfl rfl ?_); refine OpV.box rfl rfl rfl ?_; intro _; refine w ?_))
  (refine VC.cond rfl rfl ?_ ?_ <;> intro hc)
  · have h9 : e1 ≠ 0 := by simpa using hc
    rw [if_pos h9] at hO
    rw [hO]
    (refine w ?_; repeat ((first | refine VO.step rfl rfl ?_ | refine VD.end rfl rfl rfl ?_ | refine VD.mid rfl rfl rfl ?_); refine OpV.box rfl rfl rfl ?_; intro _; refine w ?_))
    refine VE.done ⟨none, (none, 0), []⟩ rfl ⟨rfl, rfl⟩ rfl ?_
    exact Ent.trans (Ent.re (L := BayR b D1 :: R)) (hnone D1)
  have h9 : e1 = 0 := by simpa using hc
  clear hc
  rw [if_neg (by simpa using h9)] at hO
  have hdf := dec_fitS l1
  obtain ⟨c, hcc⟩ : ∃ c, c = (ChkD.dec l1).2 := ⟨_, rfl⟩
  rw [← hcc] at hO hdf
  (refine w ?_; repeat ((first | refine VO.step rfl rfl ?_ | refine VD.end rfl rfl rfl ?_ | refine VD.mid rfl rfl rfl ?_); refine OpV.box rfl rfl rfl ?_; intro _; refine w ?_))
  ((first | refine VO.step rfl rfl ?_ | refine VD.end rfl rfl rfl ?_ | refine VD.mid rfl rfl rfl ?_); refine OpV.call rfl rfl (fun _ _ => by simp) (decs_ok (Rds.own (bytes_one _) (.head _) (by simp) hxn) hxc) Ent.refl rfl ?_)
  intro _ _
  rw [← hcc]
  (refine w ?_; repeat ((first | refine VO.step rfl rfl ?_ | refine VD.end rfl rfl rfl ?_ | refine VD.mid rfl rfl rfl ?_); refine OpV.box rfl rfl rfl ?_; intro _; refine w ?_))
  ((first | refine VO.step rfl rfl ?_ | refine VD.end rfl rfl rfl ?_ | refine VD.mid rfl rfl rfl ?_); refine OpV.allocS sb_114 rfl ?_; intro n11)
  (refine w ?_; repeat ((first | refine VO.step rfl rfl ?_ | refine VD.end rfl rfl rfl ?_ | refine VD.mid rfl rfl rfl ?_); refine OpV.box rfl rfl rfl ?_; intro _; refine w ?_))
  (first | refine VO.step rfl rfl ?_ | refine VD.end rfl rfl rfl ?_ | refine VD.mid rfl rfl rfl ?_)
  refine OpV.stA (vs := c.cells) tab_ok rfl rfl rfl rfl (by simp [Value.oneCell']) (by (repeat first | exact .head | apply Hole.tail)) (by simp) ?_
  refine VO.ent (H' := Row n11 114 c.cells :: BayR b D1 :: R) Ent.re ?_
  (refine w ?_; repeat ((first | refine VO.step rfl rfl ?_ | refine VD.end rfl rfl rfl ?_ | refine VD.mid rfl rfl rfl ?_); refine OpV.box rfl rfl rfl ?_; intro _; refine w ?_))
  ((first | refine VO.split rfl rfl rfl ?_ ?_ | refine VD.split rfl rfl rfl ?_ ?_) <;> intro hb)
  · have h8 : (ChkD.dec l1).1 ≠ 0 := by simpa using hb
    rw [if_pos (.inl h8)] at hO
    rw [hO]
    (refine w ?_; repeat ((first | refine VO.step rfl rfl ?_ | refine VD.end rfl rfl rfl ?_ | refine VD.mid rfl rfl rfl ?_); refine OpV.box rfl rfl rfl ?_; intro _; refine w ?_))
    refine VE.done ⟨none, (none, 0), []⟩ rfl ⟨rfl, rfl⟩ rfl ?_
    exact Ent.trans (Ent.re (L := BayR b D1 :: R)) (hnone D1)
  have h8 : (ChkD.dec l1).1 = 0 := by simpa using hb
  clear hb
  (refine w ?_; repeat ((first | refine VO.step rfl rfl ?_ | refine VD.end rfl rfl rfl ?_ | refine VD.mid rfl rfl rfl ?_); refine OpV.box rfl rfl rfl ?_; intro _; refine w ?_))
  (refine VC.cond rfl rfl ?_ ?_ <;> intro hc)
  · have h7 : (n : Int) ≤ c.tail := of_decide_eq_true hc
    rw [if_pos (.inr h7)] at hO
    rw [hO]
    (refine w ?_; repeat ((first | refine VO.step rfl rfl ?_ | refine VD.end rfl rfl rfl ?_ | refine VD.mid rfl rfl rfl ?_); refine OpV.box rfl rfl rfl ?_; intro _; refine w ?_))
    refine VE.done ⟨none, (none, 0), []⟩ rfl ⟨rfl, rfl⟩ rfl ?_
    exact Ent.trans (Ent.re (L := BayR b D1 :: R)) (hnone D1)
  have h7 : ¬ (n : Int) ≤ c.tail := of_decide_eq_false hc
  clear hc
  rw [if_neg (by rintro (q | q); exact q h8; exact h7 q)] at hO
  obtain ⟨L, hL⟩ : ∃ L, L = ringL n := ⟨_, rfl⟩
  have hLl : L.length = n := by rw [hL]; simp [ringL]
  have hLg : ∀ i (h : i < L.length), L[i] = ((2 + i : Nat) : Int) := by intro i h; subst hL; simp [ringL]
  rw [← hL] at hO
  (refine w ?_; repeat ((first | refine VO.step rfl rfl ?_ | refine VD.end rfl rfl rfl ?_ | refine VD.mid rfl rfl rfl ?_); refine OpV.box rfl rfl rfl ?_; intro _; refine w ?_))
  refine VC.loop (α := Nat × BayD × List UInt8 × (Option Addr × Nat)) (fun y => y.1 ≤ n ∧ y.2.2.1.length = 128 * y.1 ∧ bReads D1 slot L [] = bReads y.2.1 slot (L.drop y.1) y.2.2.1) (fun y => OwnB y.2.2.2 y.2.2.1 :: BayR b y.2.1 :: Row n11 114 c.cells :: R)
    (fun y => [(0, .pointer (some ⟨b, 0, none⟩)), (1, .int .i64 slot), (2, .int .i64 n), (11, .pointer (some ⟨n11, 0, none⟩)), (12, .slice y.2.2.2.1 y.2.2.1.length y.2.2.2.2), (43, .int .i64 n), (44, .int .i64 y.1)]) (fun y => n - y.1) rfl (0, D1, [], none, 0) ⟨Nat.zero_le _, rfl, by rw [List.drop_zero]⟩
    (Ent.trans (Ent.re (L := BayR b D1 :: Row n11 114 c.cells :: R)) (fun w hw => hw.ownNil 5 1)) ⟨rfl, rfl, rfl, rfl, rfl, rfl, rfl, trivial⟩ ?_
  rintro ⟨i, Di, acc, ⟨ao, ac⟩⟩ ⟨hi, hal, hmi⟩
  dsimp only at hi hal hmi ⊢
  (refine w ?_; repeat ((first | refine VO.step rfl rfl ?_ | refine VD.end rfl rfl rfl ?_ | refine VD.mid rfl rfl rfl ?_); refine OpV.box rfl rfl rfl ?_; intro _; refine w ?_))
  (refine VC.cond rfl rfl ?_ ?_ <;> intro hc)
  · have hlt : i < n := by have := of_decide_eq_true hc; omega
    clear hc
    have hstep : bReads Di slot (L.drop i) acc = if (Di.read slot ((2 + i : Nat) : Int)).1.2 ≠ 0 then (([], (Di.read slot ((2 + i : Nat) : Int)).1.2), (Di.read slot ((2 + i : Nat) : Int)).2) else bReads (Di.read slot ((2 + i : Nat) : Int)).2 slot (L.drop (i + 1)) (acc ++ (Di.read slot ((2 + i : Nat) : Int)).1.1) := by
      rw [List.drop_eq_getElem_cons (by omega), hLg i (by omega)]; rfl
    refine VC.know (p := ∀ v, Di.dev slot = some v → v.k.ok) (fun w hw => bayOkk hw.tail slot) ?_
    intro hokd
    (refine w ?_; repeat ((first | refine VO.step rfl rfl ?_ | refine VD.end rfl rfl rfl ?_ | refine VD.mid rfl rfl rfl ?_); refine OpV.box rfl rfl rfl ?_; intro _; refine w ?_))
    refine VO.re 51 (.int .i64 ((2 + i : Nat) : Int)) rfl (by congr 1) ?_
    refine VO.ent (H' := BayR b Di :: OwnB (ao, ac) acc :: Row n11 114 c.cells :: R) Ent.re ?_
    ((first | refine VO.step rfl rfl ?_ | refine VD.end rfl rfl rfl ?_ | refine VD.mid rfl rfl rfl ?_); refine OpV.call rfl rfl (fun _ _ => by simp) (bayread_ok b Di slot ((2 + i : Nat) : Int)) Ent.refl rfl ?_)
    rintro ⟨yo, yc⟩ hyn
    dsimp only at hyn
    (refine w ?_; repeat ((first | refine VO.step rfl rfl ?_ | refine VD.end rfl rfl rfl ?_ | refine VD.mid rfl rfl rfl ?_); refine OpV.box rfl rfl rfl ?_; intro _; refine w ?_))
    (refine VC.cond rfl rfl ?_ ?_ <;> intro hc)
    · have h9' : (Di.read slot ((2 + i : Nat) : Int)).1.2 ≠ 0 := by simpa using hc
      rw [if_pos h9'] at hstep
      rw [hmi, hstep, if_pos h9'] at hO
      rw [hO]
      (refine w ?_; repeat ((first | refine VO.step rfl rfl ?_ | refine VD.end rfl rfl rfl ?_ | refine VD.mid rfl rfl rfl ?_); refine OpV.box rfl rfl rfl ?_; intro _; refine w ?_))
      refine VE.done ⟨none, (none, 0), []⟩ rfl ⟨rfl, rfl⟩ rfl ?_
      exact Ent.trans (Ent.re (L := BayR b (Di.read slot ((2 + i : Nat) : Int)).2 :: R)) (hnone _)
    have h9' : (Di.read slot ((2 + i : Nat) : Int)).1.2 = 0 := by simpa using hc
    clear hc
    rw [if_neg (by simpa using h9')] at hstep
    have h128 := read_128 hokd h9'
    (refine w ?_; repeat ((first | refine VO.step rfl rfl ?_ | refine VD.end rfl rfl rfl ?_ | refine VD.mid rfl rfl rfl ?_); refine OpV.box rfl rfl rfl ?_; intro _; refine w ?_))
    (first | refine VO.step rfl rfl ?_ | refine VD.end rfl rfl rfl ?_ | refine VD.mid rfl rfl rfl ?_)
    refine OpV.append (m := (Di.read slot ((2 + i : Nat) : Int)).1.1.length) (news := bytes (Di.read slot ((2 + i : Nat) : Int)).1.1) st_68 rfl rfl (by (repeat first | exact .head | apply Hole.tail)) (fun w hw => (show Sees w 1 (.slice yo (Di.read slot ((2 + i : Nat) : Int)).1.1.length yc) (Di.read slot ((2 + i : Nat) : Int)).1.1.length (bytes (Di.read slot ((2 + i : Nat) : Int)).1.1) from Sees.own (e := 5) (bytes_one _) hw (by (focus repeat first | exact .head _ | apply List.Mem.tail))).src st_68.und) (by simp only [maxLen]; omega) (by omega) rfl ?_
    intro so sc
    (refine w ?_; repeat ((first | refine VO.step rfl rfl ?_ | refine VD.end rfl rfl rfl ?_ | refine VD.mid rfl rfl rfl ?_); refine OpV.box rfl rfl rfl ?_; intro _; refine w ?_))
    refine VE.round (i + 1, (Di.read slot ((2 + i : Nat) : Int)).2, acc ++ (Di.read slot ((2 + i : Nat) : Int)).1.1, so, sc) ⟨hlt, by simp only [List.length_append]; omega, by rw [hmi, hstep]⟩ (by simp only; omega) ⟨rfl, rfl, rfl, rfl, asV rfl (by rw [List.length_append]), rfl, asV rfl (by congr 1), trivial⟩ ?_
    dsimp only
    rw [show OwnB (so, sc) (acc ++ (Di.read slot ((2 + i : Nat) : Int)).1.1) = Sl.Own 5 1 (.slice so (acc.length + (Di.read slot ((2 + i : Nat) : Int)).1.1.length) sc) (acc.length + (Di.read slot ((2 + i : Nat) : Int)).1.1.length) (bytes acc ++ bytes (Di.read slot ((2 + i : Nat) : Int)).1.1) by
      show Sl.Own _ _ (.slice so (_ ++ _ : List UInt8).length sc) (_ ++ _ : List UInt8).length (bytes (_ ++ _)) = _
      rw [List.length_append]; unfold bytes; rw [List.map_append]]
    exact Ent.re
  have hie : i = n := by have := of_decide_eq_false hc; omega
  clear hc
  rw [hie, ← hLl, List.drop_length] at hmi
  have hrd : bReads D1 slot L [] = ((acc, 0), Di) := hmi
  rw [hrd] at hO
  dsimp only at hO
  rw [if_neg (by simp)] at hO
  rw [hie] at hal
  refine VC.know (p := ao = none → acc.length = 0) (fun w hw => hw.ownNone (.head _)) ?_
  intro hcn
  refine VC.know (p := acc.length ≤ ac) (fun w hw => hw.ownCap (.head _)) ?_
  intro hcc2
  obtain ⟨e2, f2, hf2⟩ : ∃ e f, foundM acc c = (e, f) := ⟨_, _, rfl⟩
  rw [hf2] at hO
  dsimp only at hO
  have hOF := of_ok (W := W) (R := OwnB (ao, ac) acc :: BayR b Di :: Row n11 114 c.cells :: R) (ao := ao) (cap := ac) (data := acc) (Rds.own (bytes_one _) (.head _) (by simp) hcn) hcc2 (by omega) c hdf
  rw [hf2] at hOF
  (refine w ?_; repeat ((first | refine VO.step rfl rfl ?_ | refine VD.end rfl rfl rfl ?_ | refine VD.mid rfl rfl rfl ?_); refine OpV.box rfl rfl rfl ?_; intro _; refine w ?_))
  ((first | refine VO.step rfl rfl ?_ | refine VD.end rfl rfl rfl ?_ | refine VD.mid rfl rfl rfl ?_); refine OpV.call rfl rfl (fun _ _ => by simp) (hOF) Ent.refl rfl ?_)
  rintro ⟨⟨o1, c1⟩, ts⟩ hts
  dsimp only at hts ⊢
  (refine w ?_; repeat ((first | refine VO.step rfl rfl ?_ | refine VD.end rfl rfl rfl ?_ | refine VD.mid rfl rfl rfl ?_); refine OpV.box rfl rfl rfl ?_; intro _; refine w ?_))
  ((first | refine VO.step rfl rfl ?_ | refine VD.end rfl rfl rfl ?_ | refine VD.mid rfl rfl rfl ?_); refine OpV.allocS sb_118 rfl ?_; intro n16)
  (refine w ?_; repeat ((first | refine VO.step rfl rfl ?_ | refine VD.end rfl rfl rfl ?_ | refine VD.mid rfl rfl rfl ?_); refine OpV.box rfl rfl rfl ?_; intro _; refine w ?_))
  (first | refine VO.step rfl rfl ?_ | refine VD.end rfl rfl rfl ?_ | refine VD.mid rfl rfl rfl ?_)
  refine OpV.stA (vs := [.slice o1 ts.length c1, .int .u64 (f2.next : Int), .int .i64 (f2.head : Int), .int .i64 (f2.used : Int)]) tab_ok rfl rfl rfl rfl (by simp [Value.oneCell']) (by (repeat first | exact .head | apply Hole.tail)) (by simp) ?_
  (refine w ?_; repeat ((first | refine VO.step rfl rfl ?_ | refine VD.end rfl rfl rfl ?_ | refine VD.mid rfl rfl rfl ?_); refine OpV.box rfl rfl rfl ?_; intro _; refine w ?_))
  (refine VC.cond rfl rfl ?_ ?_ <;> intro hc)
  · have h6 : e2 ≠ 0 := by simpa using hc
    rw [if_pos h6] at hO
    rw [hO]
    (refine w ?_; repeat ((first | refine VO.step rfl rfl ?_ | refine VD.end rfl rfl rfl ?_ | refine VD.mid rfl rfl rfl ?_); refine OpV.box rfl rfl rfl ?_; intro _; refine w ?_))
    refine VE.done ⟨none, (none, 0), []⟩ rfl ⟨rfl, rfl⟩ rfl ?_
    exact Ent.trans (Ent.re (L := BayR b Di :: R)) (hnone _)
  have h6 : e2 = 0 := by simpa using hc
  clear hc
  rw [if_neg (by simpa using h6)] at hO
  subst h6
  obtain ⟨n', tl, hdn, hn5, htl, htn, hgood, hfd⟩ := found_facts (data := acc) (c := c) (by rw [hf2])
  obtain rfl : n' = n := by omega
  have hus : f2.used ≤ n' := by
    have h5 : f2 = ⟨ofM (secB acc) n' c.epoch (n' + 1) c.seq 0 tl, c.seq + (ofM (secB acc) n' c.epoch (n' + 1) c.seq 0 tl).length, (tl + costT (ofM (secB acc) n' c.epoch (n' + 1) c.seq 0 tl)) % n', costT (ofM (secB acc) n' c.epoch (n' + 1) c.seq 0 tl)⟩ := by
      rw [hf2] at hfd; exact congrArg Prod.snd hfd
    rw [h5]
    have := of_cost (sec := secB acc) (size := n') (e := c.epoch) (n' + 1) c.seq 0 tl (Nat.zero_le _)
    dsimp only; omega
  have hro : RingOk n' tl f2.used := ⟨by omega, by omega, htn, hus⟩
  (refine w ?_; repeat ((first | refine VO.step rfl rfl ?_ | refine VD.end rfl rfl rfl ?_ | refine VD.mid rfl rfl rfl ?_); refine OpV.box rfl rfl rfl ?_; intro _; refine w ?_))
  refine VO.re 74 (.int .i64 (tl : Int)) rfl (by rw [← htl]) ?_
  ((first | refine VO.step rfl rfl ?_ | refine VD.end rfl rfl rfl ?_ | refine VD.mid rfl rfl rfl ?_); refine OpV.call rfl rfl (fun _ _ => by simp) (ringnew_ok hro) Ent.refl rfl ?_)
  intro r _
  (refine w ?_; repeat ((first | refine VO.step rfl rfl ?_ | refine VD.end rfl rfl rfl ?_ | refine VD.mid rfl rfl rfl ?_); refine OpV.box rfl rfl rfl ?_; intro _; refine w ?_))
  (refine VC.drawn [8] 12 [0, 1, 2, 3, 4, 5, 6, 7, 9, 10, 8, 11, 12, 13] _ rfl (by kernel_rfl) (by kernel_rfl) Ent.re ?_)
  (refine w ?_; repeat ((first | refine VO.step rfl rfl ?_ | refine VD.end rfl rfl rfl ?_ | refine VD.mid rfl rfl rfl ?_); refine OpV.box rfl rfl rfl ?_; intro _; refine w ?_))
  ((first | apply VO.pure rfl rfl | apply VD.take rfl rfl rfl | (refine VD.end rfl rfl rfl ?_; apply OpV.pure)); apply PureAt.build sb_110 rfl; (simp [buildX, setL, Value.cells]; rfl); rfl)
  (refine w ?_; repeat ((first | refine VO.step rfl rfl ?_ | refine VD.end rfl rfl rfl ?_ | refine VD.mid rfl rfl rfl ?_); refine OpV.box rfl rfl rfl ?_; intro _; refine w ?_))
  rename_i wp
  have hop : openW slot n' c f2 = ⟨slot, c.epoch, n', tl, f2.used, f2.next, true, none, 0⟩ := by unfold openW; rw [htl]; rfl
  rw [hO, hop]
  refine VE.done ⟨some wp, (o1, c1), ts⟩ rfl ⟨rfl, hts⟩ rfl ?_
  refine Ent.trans (Ent.re (L := walRow wp b r none ⟨slot, c.epoch, n', tl, f2.used, f2.next, true, none, 0⟩ :: RingR r n' tl f2.used :: TxnsO (o1, c1) ts :: PilT ts :: BayR b Di :: R)) ?_
  refine Ent.trans (walNone rfl) ?_
  exact Ent.re
end Go.Proofs.YtlojjlbngnaphaaGreat

/-! Text Uf. -/
/- A journal's calls on a disk by itself: what they do, with the power on, and where it goes: plainly. -/
set_option maxRecDepth 8000
set_option linter.unusedVariables false
set_option linter.unusedSimpArgs false
set_option linter.unusedSectionVars false
namespace Go.Proofs.YtlojjlbngnaphaaGreat
open Go.RowKit Go.Sl
attribute [local irreducible] Own

/-- A slot has this disk and nothing else, and there is power. -/
structure Pw (D : BayD) (s : Nat) (k : DiskD) : Prop where
  slot : D.slots[s]? = some ⟨some ⟨k, false, 0⟩, none, none⟩
  lit : D.dark = false
  live : k.failed = false
  trip : -1 ≤ D.trip ∧ D.trip ≤ 9223372036854775807
structure Dk (D : BayD) (s : Nat) (k : DiskD) : Prop where
  slot : D.slots[s]? = some ⟨some ⟨k, false, 0⟩, none, none⟩
  dark : D.dark = true
  live : k.failed = false
/-- What else comes of it. -/
structure Fol (s : Nat) (js : List Nat) (D D' : BayD) : Prop where
  len : D'.slots.length = D.slots.length
  oth : ∀ j, j ≠ s → D'.slots[j]? = D.slots[j]?
  calm : D.trip = -1 → D'.trip = -1
  cnt : D'.n = js.foldl CntD.inc D.n
theorem Fol.refl (s : Nat) (D : BayD) : Fol s [] D D := ⟨rfl, fun _ _ => rfl, fun h => h, rfl⟩
theorem Fol.trans {s : Nat} {a b : List Nat} {D E F : BayD} (h : Fol s a D E) (g : Fol s b E F) : Fol s (a ++ b) D F :=
  ⟨g.len.trans h.len, fun j hj => (g.oth j hj).trans (h.oth j hj), fun q => g.calm (h.calm q), by rw [List.foldl_append, ← h.cnt, g.cnt]⟩

theorem Pw.lt {D : BayD} {s : Nat} {k : DiskD} (h : Pw D s k) : s < D.slots.length := by
  rcases Nat.lt_or_ge s D.slots.length with q | q
  · exact q
  · have := h.slot; rw [List.getElem?_eq_none q] at this; cases this
theorem slot_dev {D : BayD} {s : Nat} {k : DiskD} (h : D.slots[s]? = some ⟨some ⟨k, false, 0⟩, none, none⟩) : D.dev (s : Int) = some ⟨k, false, 0⟩ := by
  unfold BayD.dev
  rw [if_pos (by omega), Int.toNat_natCast, h]; rfl
theorem inr {D : BayD} {s : Nat} (h : s < D.slots.length) : inRange D.slots.length (s : Int) = true := by
  unfold inRange; simp; omega
theorem setIn_at {D : BayD} {s : Nat} {k k' : DiskD} (h : D.slots[s]? = some ⟨some ⟨k, false, 0⟩, none, none⟩) : (D.setIn s ⟨k', false, 0⟩).slots[s]? = some ⟨some ⟨k', false, 0⟩, none, none⟩ := by
  have hlt : s < D.slots.length := by
    rcases Nat.lt_or_ge s D.slots.length with q | q
    · exact q
    · rw [List.getElem?_eq_none q] at h; cases h
  unfold BayD.setIn
  dsimp only
  rw [List.getElem?_set_self hlt, h]; rfl
theorem use_still {v : DevD} (h : v.worn = false) : v.use = v := if_pos h
/-- An operation, where there is power: none, or it is done. -/
theorem op_on {D : BayD} {s : Nat} {k : DiskD} (h : Pw D s k) (j : Nat) :
    (D.trip = 0 ∧ D.refuse (s : Int) = 50 ∧ D.ahead (s : Int) j = { D with dark := true, trip := -1 }) ∨
    (D.refuse (s : Int) = 0 ∧ D.dv (s : Int) = ⟨k, false, 0⟩ ∧ (D.ahead (s : Int) j).slots = D.slots ∧ (D.ahead (s : Int) j).dark = false ∧ (D.ahead (s : Int) j).n = D.n.inc j ∧ (-1 ≤ (D.ahead (s : Int) j).trip ∧ (D.ahead (s : Int) j).trip ≤ 9223372036854775807) ∧ (D.trip = -1 → (D.ahead (s : Int) j).trip = -1)) := by
  have hr := inr h.lt
  have hd := slot_dev h.slot
  by_cases h0 : D.trip = 0
  · left
    have hp : D.pow = { D with dark := true, trip := -1 } := if_pos h0
    refine ⟨h0, ?_, ?_⟩
    · unfold BayD.refuse
      rw [if_neg (by rw [hr]; simp), hp]; rfl
    · unfold BayD.ahead
      rw [if_neg (by rw [hr]; simp), hp]; rfl
  · right
    have hp : D.pow = D := if_neg h0
    have ha : D.ahead (s : Int) j = D.step j := by
      unfold BayD.ahead
      rw [if_neg (by rw [hr]; simp), hp, if_neg (by rw [h.lit]; simp)]
    refine ⟨?_, ?_, ?_⟩
    · unfold BayD.refuse
      rw [if_neg (by rw [hr]; simp), hp, if_neg (by rw [h.lit]; simp), hd]
      unfold thereE
      rw [hr]; rfl
    · unfold BayD.dv; rw [hd]; exact use_still rfl
    · rw [ha]
      have ht := h.trip
      refine ⟨rfl, h.lit, rfl, ?_, ?_⟩
      · show -1 ≤ (if 0 < D.trip then IntKind.i64.wrap (D.trip - 1) else D.trip) ∧ (if 0 < D.trip then IntKind.i64.wrap (D.trip - 1) else D.trip) ≤ 9223372036854775807
        split
        · rw [IntWalk.i64_in _ ⟨by omega, by omega⟩]; omega
        · exact ht
      · intro q
        show (if 0 < D.trip then IntKind.i64.wrap (D.trip - 1) else D.trip) = -1
        rw [if_neg (by omega)]; exact q

theorem setIn_oth {D : BayD} {s j : Nat} (v : DevD) (h : j ≠ s) : (D.setIn s v).slots[j]? = D.slots[j]? := by
  unfold BayD.setIn; exact List.getElem?_set_ne (fun q => h q.symm)
theorem setIn_len (D : BayD) (s : Nat) (v : DevD) : (D.setIn s v).slots.length = D.slots.length := by
  unfold BayD.setIn; exact List.length_set
def DiskD.writes (k : DiskD) (L : List (Nat × List UInt8)) : DiskD := { k with cache := k.cache ++ L }
theorem writes_nil (k : DiskD) : k.writes [] = k := by unfold DiskD.writes; rw [List.append_nil]
theorem write_writes (k : DiskD) (a : Nat) (b : List UInt8) (L : List (Nat × List UInt8)) : (k.write a b).writes L = k.writes ((a, b) :: L) := by
  unfold DiskD.write DiskD.writes; simp
theorem p_write {v : WalD} {D : BayD} {s a : Nat} {k : DiskD} {b : List UInt8} (h : Pw D s k) (hv : v.slot = (s : Int)) (hb : v.broken = 0) (ha : a < k.last.length) (hl : b.length = 128) :
    (∃ D', wWrite (v, D) ((a : Nat) : Int) b = (0, (v, D')) ∧ Pw D' s (k.write a b) ∧ Fol s [1] D D') ∨ (D.trip ≠ -1 ∧ ∃ D', wWrite (v, D) ((a : Nat) : Int) b = (50, ({ v with broken := 50 }, D')) ∧ Dk D' s k) := by
  obtain ⟨vs, ve, vz, vt, vu, vn, vb, vl, vk⟩ := v
  dsimp only at hv hb
  subst hv hb
  unfold wWrite
  dsimp only
  rw [if_pos rfl]
  unfold BayD.write
  rcases op_on h 1 with ⟨h0, h1, h2⟩ | ⟨h1, h2, h3, h4, h5, h6, h7⟩
  · right
    refine ⟨by omega, ?_⟩
    rw [if_neg (by rw [h1]; decide), h1, h2]
    exact ⟨_, rfl, ⟨h.slot, rfl, h.live⟩⟩
  · left
    have hm : k.may (a : Int) = 0 := by
      unfold DiskD.may; rw [if_neg (by rw [h.live]; simp), if_neg (by omega)]
    have hw : k.wr (a : Int) b = (0, k.write a b) := by
      unfold DiskD.wr; rw [if_neg (by simpa using hm), if_neg (by omega), Int.toNat_natCast]
    rw [if_pos h1, h2]
    dsimp only
    rw [hw, Int.toNat_natCast]
    refine ⟨_, rfl, ⟨setIn_at (by rw [h3]; exact h.slot), h4, h.live, h6⟩, ⟨?_, ?_, ?_, ?_⟩⟩
    · rw [setIn_len, h3]
    · intro j hj; rw [setIn_oth _ hj, h3]
    · exact h7
    · exact h5
theorem p_flush {v : WalD} {D : BayD} {s : Nat} {k : DiskD} (h : Pw D s k) (hv : v.slot = (s : Int)) (hb : v.broken = 0) :
    (∃ D', wFlush (v, D) = (0, (v, D')) ∧ Pw D' s (k.settle fun _ => true) ∧ Fol s [2] D D') ∨ (D.trip ≠ -1 ∧ ∃ D', wFlush (v, D) = (50, ({ v with broken := 50 }, D')) ∧ Dk D' s k) := by
  obtain ⟨vs, ve, vz, vt, vu, vn, vb, vl, vk⟩ := v
  dsimp only at hv hb
  subst hv hb
  unfold wFlush
  dsimp only
  rw [if_pos rfl]
  unfold BayD.flush
  rcases op_on h 2 with ⟨h0, h1, h2⟩ | ⟨h1, h2, h3, h4, h5, h6, h7⟩
  · right
    refine ⟨by omega, ?_⟩
    rw [if_neg (by rw [h1]; decide), h1, h2]
    exact ⟨_, rfl, ⟨h.slot, rfl, h.live⟩⟩
  · left
    have hw : k.fl = (0, k.settle fun _ => true) := by
      unfold DiskD.fl; rw [if_neg (by rw [h.live]; simp)]
    rw [if_pos h1, h2]
    dsimp only
    rw [hw, Int.toNat_natCast]
    refine ⟨_, rfl, ⟨setIn_at (by rw [h3]; exact h.slot), h4, h.live, h6⟩, ⟨?_, ?_, ?_, ?_⟩⟩
    · rw [setIn_len, h3]
    · intro j hj; rw [setIn_oth _ hj, h3]
    · exact h7
    · exact h5
def castL (L : List (Nat × List UInt8)) : List (Int × List UInt8) := L.map fun x => ((x.1 : Nat), x.2)
theorem p_many {v : WalD} {s : Nat} (hv : v.slot = (s : Int)) (hb : v.broken = 0) : ∀ (L : List (Nat × List UInt8)) {D : BayD} {k : DiskD}, Pw D s k → (∀ x ∈ L, x.1 < k.last.length ∧ x.2.length = 128) →
    (∃ D', wMany (v, D) (castL L) = (0, (v, D')) ∧ Pw D' s (k.writes L) ∧ Fol s (List.replicate L.length 1) D D') ∨ (D.trip ≠ -1 ∧ ∃ D' j, j ≤ L.length ∧ wMany (v, D) (castL L) = (50, ({ v with broken := 50 }, D')) ∧ Dk D' s (k.writes (L.take j)))
  | [], D, k, h, _ => .inl ⟨D, rfl, by rw [writes_nil]; exact h, Fol.refl s D⟩
  | x :: r, D, k, h, hl => by
    have hun : wMany (v, D) (castL (x :: r)) = if (wWrite (v, D) ((x.1 : Nat) : Int) x.2).1 ≠ 0 then wWrite (v, D) ((x.1 : Nat) : Int) x.2 else wMany (wWrite (v, D) ((x.1 : Nat) : Int) x.2).2 (castL r) := rfl
    rcases p_write h hv hb (hl x (.head _)).1 (hl x (.head _)).2 with ⟨D', e1, e2, e3⟩ | ⟨h0, D', e1, e2⟩
    · rw [hun, e1, if_neg (by simp)]
      dsimp only
      rcases p_many hv hb r e2 (fun y hy => hl y (.tail _ hy)) with ⟨D2, f1, f2, f3⟩ | ⟨f0, D2, j, f1, f2, f3⟩
      · left
        exact ⟨D2, f1, by rw [← write_writes]; exact f2, by have := e3.trans f3; exact this⟩
      · right
        refine ⟨fun q => f0 (e3.calm q), D2, j + 1, by simpa using f1, f2, ?_⟩
        rw [List.take_succ_cons, ← write_writes]; exact f3
    · right
      rw [hun, e1, if_pos (by show (50 : Int) ≠ 0; decide)]
      exact ⟨h0, D', 0, Nat.zero_le _, rfl, by rw [List.take_zero, writes_nil]; exact e2⟩
theorem p_check {v : WalD} {D : BayD} {s : Nat} {k : DiskD} {c : ChkD} (h : Pw D s k) (hv : v.slot = (s : Int)) (hb : v.broken = 0) (hc : c.good) (h1 : 1 < k.last.length) :
    (∃ D', wCheck (v, D) c = (0, (v, D')) ∧ Pw D' s ((k.writes [(1, c.enc.2)]).settle fun _ => true) ∧ Fol s [1, 2] D D') ∨
    (D.trip ≠ -1 ∧ ∃ D' L, (L = [] ∨ L = [(1, c.enc.2)]) ∧ wCheck (v, D) c = (50, ({ v with broken := 50 }, D')) ∧ Dk D' s (k.writes L)) := by
  have he : c.enc.1 = 0 := by rw [chk_ok hc]
  have hl : c.enc.2.length = 128 := by rw [chk_ok hc]; exact sectF_length _ _ _ _ (chk_sum _)
  have hun : wCheck (v, D) c = if (wWrite (v, D) 1 c.enc.2).1 ≠ 0 then wWrite (v, D) 1 c.enc.2 else wFlush (wWrite (v, D) 1 c.enc.2).2 := if_neg (by simpa using he)
  rcases p_write (a := 1) h hv hb h1 hl with ⟨D', e1, e2, e3⟩ | ⟨h0, D', e1, e2⟩
  · rw [hun, show wWrite (v, D) 1 c.enc.2 = (0, (v, D')) from e1, if_neg (by simp)]
    dsimp only
    rcases p_flush e2 hv hb with ⟨D2, f1, f2, f3⟩ | ⟨f0, D2, f1, f2⟩
    · left; exact ⟨D2, f1, f2, e3.trans f3⟩
    · right; exact ⟨fun q => f0 (e3.calm q), D2, _, .inr rfl, f1, f2⟩
  · right
    rw [hun, show wWrite (v, D) 1 c.enc.2 = (50, ({ v with broken := 50 }, D')) from e1, if_pos (by show (50 : Int) ≠ 0; decide)]
    exact ⟨h0, D', [], .inl rfl, rfl, by rw [writes_nil]; exact e2⟩
end Go.Proofs.YtlojjlbngnaphaaGreat

/-! Text Ug. -/
/- A journal's calls on a disk by itself: Log, Seal, Sync, Reclaim, Renew, a cut, Open: plainly. -/
set_option maxRecDepth 8000
set_option linter.unusedVariables false
set_option linter.unusedSimpArgs false
set_option linter.unusedSectionVars false
namespace Go.Proofs.YtlojjlbngnaphaaGreat
open Go.RowKit Go.Sl
attribute [local irreducible] Own

def placedN (v : WalD) (rows : List (List UInt8)) : List (Nat × List UInt8) := rows.mapIdx fun i r => (v.spot i, r)
theorem placedN_length (v : WalD) (rows : List (List UInt8)) : (placedN v rows).length = rows.length := by simp [placedN]
theorem placedN_get (v : WalD) (rows : List (List UInt8)) (i : Nat) (h : i < rows.length) : (placedN v rows)[i]'(by rw [placedN_length]; exact h) = (v.spot i, rows[i]) := by simp [placedN]
theorem cast_placed (v : WalD) (rows : List (List UInt8)) : castL (placedN v rows) = placed v rows := by
  unfold castL placedN placed
  apply List.ext_getElem
  · simp
  · intro i h1 h2; simp
theorem spot_lt {v : WalD} (h : 0 < v.size) (i : Nat) : v.spot i < 2 + v.size := by
  have := Nat.mod_lt (v.head + i) h
  unfold WalD.spot; omega
theorem rowsP_dropLast (e s : Nat) (l : List PatD) : (rowsP e s l).dropLast = pairsP e s l.length l 0 := by unfold rowsP; simp
theorem rowsP_getLast (e s : Nat) (l : List PatD) : (rowsP e s l).getLastD [] = (cmtP e s l).enc.2 := by unfold rowsP; simp
theorem pairsP_128 {e s : Nat} {l : List PatD} (h : Fine e s l) : ∀ r ∈ pairsP e s l.length l 0, r.length = 128 := fun r hr => rowsP_128 h r (by unfold rowsP; exact List.mem_append_left _ hr)
theorem secs_code (e s : Nat) (l : List PatD) : (secsM e s l).1 = 0 ∨ (secsM e s l).1 = 1 ∨ (secsM e s l).1 = 3 ∨ (secsM e s l).1 = 4 := by
  unfold secsM
  split
  · exact .inr (.inl rfl)
  · split
    · exact .inr (.inr (.inl rfl))
    · split
      · exact .inr (.inr (.inr rfl))
      · exact .inl rfl
/-- What a Log is refused for. -/
def logNo (v : WalD) (ps : List PatD) : Prop := (secsM v.epoch v.next ps).1 ≠ 0 ∨ v.size < 2 * ps.length + 1 ∨ v.size - v.used < 2 * ps.length + 1
theorem log_refused {v : WalD} {D : BayD} {ps : List PatD} (hb : v.broken = 0) (h : logNo v ps) : ∃ e, e ≠ 0 ∧ e ≠ 50 ∧ wLog (v, D) ps = (e, (v, D)) := by
  unfold wLog
  dsimp only
  rw [if_neg (by simpa using hb)]
  by_cases h1 : (secsM v.epoch v.next ps).1 ≠ 0
  · rw [if_pos h1]
    have := secs_code v.epoch v.next ps
    exact ⟨_, h1, by omega, rfl⟩
  · rw [if_neg h1]
    have hf := secs_ok (Decidable.of_not_not h1)
    rw [secs_fine hf]
    dsimp only
    rw [rowsP_length]
    by_cases h2 : v.size < 2 * ps.length + 1
    · rw [if_pos h2]; exact ⟨122, by decide, by decide, rfl⟩
    · rw [if_neg h2, if_pos (by rcases h with h | h | h; exact absurd h h1; exact absurd h h2; exact h)]
      exact ⟨121, by decide, by decide, rfl⟩
theorem log_fine {v : WalD} {ps : List PatD} (h : ¬ logNo v ps) : Fine v.epoch v.next ps ∧ 2 * ps.length + 1 ≤ v.size - v.used := by
  unfold logNo at h
  exact ⟨secs_ok (Decidable.byContradiction fun q => h (.inl q)), by omega⟩
theorem p_log {v : WalD} {D : BayD} {s : Nat} {k : DiskD} {ps : List PatD} (h : Pw D s k) (hv : v.slot = (s : Int)) (hb : v.broken = 0) (hf : Fine v.epoch v.next ps) (hr : 2 * ps.length + 1 ≤ v.size - v.used) (hk : 2 + v.size ≤ k.last.length) :
    (∃ D', wLog (v, D) ps = (0, ({ v with sure := true, log := some ⟨2 * ps.length + 1, (cmtP v.epoch v.next ps).enc.2⟩ }, D')) ∧ Pw D' s ((k.writes (placedN v (pairsP v.epoch v.next ps.length ps 0))).settle fun _ => true) ∧ Fol s (List.replicate (2 * ps.length) 1 ++ [2]) D D') ∨
    (D.trip ≠ -1 ∧ ∃ D' j, wLog (v, D) ps = (50, ({ v with broken := 50 }, D')) ∧ Dk D' s (k.writes ((placedN v (pairsP v.epoch v.next ps.length ps 0)).take j))) := by
  have hun : wLog (v, D) ps = logW (v, D) (rowsP v.epoch v.next ps) := by
    unfold wLog
    dsimp only
    rw [if_neg (by simpa using hb), secs_fine hf]
    dsimp only
    rw [if_neg (by simp), rowsP_length, if_neg (by omega), if_neg (by omega)]
  obtain ⟨L, hL⟩ : ∃ L, L = placedN v (pairsP v.epoch v.next ps.length ps 0) := ⟨_, rfl⟩
  have hLl : L.length = 2 * ps.length := by rw [hL, placedN_length, pairsP_length]
  have hLok : ∀ x ∈ L, x.1 < k.last.length ∧ x.2.length = 128 := by
    intro x hx
    rw [hL] at hx
    obtain ⟨i, hi, rfl⟩ := List.mem_iff_getElem.1 hx
    rw [placedN_length] at hi
    rw [placedN_get v _ i hi]
    have := spot_lt (v := v) (by omega) i
    exact ⟨by dsimp only; omega, pairsP_128 hf _ (List.getElem_mem hi)⟩
  have hlog : logW (v, D) (rowsP v.epoch v.next ps) = if (wMany (v, D) (castL L)).1 ≠ 0 then wMany (v, D) (castL L) else
      if (wFlush (wMany (v, D) (castL L)).2).1 ≠ 0 then wFlush (wMany (v, D) (castL L)).2 else
      (0, { (wFlush (wMany (v, D) (castL L)).2).2.1 with sure := true, log := some ⟨2 * ps.length + 1, (cmtP v.epoch v.next ps).enc.2⟩ }, (wFlush (wMany (v, D) (castL L)).2).2.2) := by
    unfold logW
    dsimp only
    rw [rowsP_dropLast, rowsP_getLast, rowsP_length, hL, cast_placed]
  rw [hun, hlog, ← hL]
  rcases p_many hv hb L h hLok with ⟨D', e1, e2, e3⟩ | ⟨h0, D', j, hj, e1, e2⟩
  · rw [e1]
    dsimp only
    rw [if_neg (by simp)]
    rcases p_flush e2 hv hb with ⟨D2, f1, f2, f3⟩ | ⟨f0, D2, f1, f2⟩
    · left
      rw [f1]
      dsimp only
      rw [if_neg (by simp)]
      exact ⟨D2, rfl, f2, by rw [← hLl]; exact e3.trans f3⟩
    · right
      rw [f1]
      dsimp only
      rw [if_pos (by decide)]
      exact ⟨fun q => f0 (e3.calm q), D2, L.length, rfl, by rw [List.take_length]; exact f2⟩
  · right
    rw [e1]
    dsimp only
    rw [if_pos (by decide)]
    exact ⟨h0, D', j, rfl, e2⟩
theorem p_seal {v : WalD} {D : BayD} {s : Nat} {k : DiskD} {g : LogD} (h : Pw D s k) (hv : v.slot = (s : Int)) (hb : v.broken = 0) (hg : v.log = some g) (hz : 0 < v.size) (hr : v.used + g.cost ≤ v.size) (hc : g.commit.length = 128) (hk : 2 + v.size ≤ k.last.length) :
    (∃ D', wSeal (v, D) = (0, ({ v with used := v.used + g.cost, next := v.next + 1, sure := false, log := none }, D')) ∧ Pw D' s (k.writes [(v.spot (g.cost - 1), g.commit)]) ∧ Fol s [1] D D') ∨
    (D.trip ≠ -1 ∧ ∃ D', wSeal (v, D) = (50, ({ v with broken := 50 }, D')) ∧ Dk D' s k) := by
  have hun : wSeal (v, D) = if (wWrite (v, D) (v.spot (g.cost - 1)) g.commit).1 ≠ 0 then wWrite (v, D) (v.spot (g.cost - 1)) g.commit else
      if v.size < v.used + g.cost then (90, (wWrite (v, D) (v.spot (g.cost - 1)) g.commit).2) else
      (0, { v with used := v.used + g.cost, next := v.next + 1, sure := false, log := none }, (wWrite (v, D) (v.spot (g.cost - 1)) g.commit).2.2) := by
    unfold wSeal
    dsimp only
    rw [if_neg (by simpa using hb), hg]
  have hsp := spot_lt (v := v) hz (g.cost - 1)
  rcases p_write (a := v.spot (g.cost - 1)) h hv hb (by omega) hc with ⟨D', e1, e2, e3⟩ | ⟨h0, D', e1, e2⟩
  · left
    rw [hun, e1]
    dsimp only
    rw [if_neg (by simp), if_neg (by omega)]
    exact ⟨D', rfl, e2, e3⟩
  · right
    rw [hun, e1]
    dsimp only
    rw [if_pos (by decide)]
    exact ⟨h0, D', rfl, e2⟩
theorem seal_none {v : WalD} {D : BayD} (hb : v.broken = 0) (hg : v.log = none) : wSeal (v, D) = (1, (v, D)) := by
  unfold wSeal
  dsimp only
  rw [if_neg (by simpa using hb), hg]
theorem p_sync {v : WalD} {D : BayD} {s : Nat} {k : DiskD} (h : Pw D s k) (hv : v.slot = (s : Int)) (hb : v.broken = 0) (hs : v.sure = false) :
    (∃ D', wSync (v, D) = (0, ({ v with sure := true }, D')) ∧ Pw D' s (k.settle fun _ => true) ∧ Fol s [2] D D') ∨
    (D.trip ≠ -1 ∧ ∃ D', wSync (v, D) = (50, ({ v with broken := 50, sure := false }, D')) ∧ Dk D' s k) := by
  unfold wSync
  dsimp only
  rw [if_neg (by rw [hs]; simp)]
  rcases p_flush h hv hb with ⟨D', e1, e2, e3⟩ | ⟨h0, D', e1, e2⟩
  · left; rw [e1]; exact ⟨D', rfl, e2, e3⟩
  · right; rw [e1]; exact ⟨h0, D', rfl, e2⟩
theorem sync_sure {v : WalD} {D : BayD} (hs : v.sure = true) : wSync (v, D) = (0, (v, D)) := if_pos hs
theorem p_empty {v : WalD} {D : BayD} {s : Nat} {k : DiskD} {e : Nat} (h : Pw D s k) (hv : v.slot = (s : Int)) (hb : v.broken = 0) (hs : v.sure = true) (hc : (ChkD.mk e v.next v.head).good) (h1 : 1 < k.last.length) :
    (∃ D', wEmpty (v, D) e = (0, ({ v with epoch := e, tail := v.head, used := 0, log := none }, D')) ∧ Pw D' s ((k.writes [(1, (ChkD.mk e v.next v.head).enc.2)]).settle fun _ => true) ∧ Fol s [1, 2] D D') ∨
    (D.trip ≠ -1 ∧ ∃ D' L, (L = [] ∨ L = [(1, (ChkD.mk e v.next v.head).enc.2)]) ∧ wEmpty (v, D) e = (50, ({ v with broken := 50 }, D')) ∧ Dk D' s (k.writes L)) := by
  have hun : wEmpty (v, D) e = if (wCheck (v, D) ⟨e, v.next, v.head⟩).1 ≠ 0 then wCheck (v, D) ⟨e, v.next, v.head⟩ else
      (0, { v with epoch := e, tail := v.head, used := 0, log := none }, (wCheck (v, D) ⟨e, v.next, v.head⟩).2.2) := by
    unfold wEmpty
    dsimp only
    rw [if_neg (by simpa using hb), if_neg (by rw [hs]; simp)]
  rcases p_check h hv hb hc h1 with ⟨D', e1, e2, e3⟩ | ⟨h0, D', L, hL, e1, e2⟩
  · left
    rw [hun, e1]
    dsimp only
    rw [if_neg (by simp)]
    exact ⟨D', rfl, e2, e3⟩
  · right
    rw [hun, e1]
    dsimp only
    rw [if_pos (by decide)]
    exact ⟨h0, D', L, hL, rfl, e2⟩
theorem empty_unsure {v : WalD} {D : BayD} {e : Nat} (hb : v.broken = 0) (hs : v.sure = false) : wEmpty (v, D) e = (1, (v, D)) := by
  unfold wEmpty
  dsimp only
  rw [if_neg (by simpa using hb), if_pos hs]
/-- Behind a cut. -/
theorem cut_pw {D : BayD} {s : Nat} {k : DiskD} (h : D.slots[s]? = some ⟨some ⟨k, false, 0⟩, none, none⟩) (hf : k.failed = false) (kl : List (List Bool)) : Pw (D.cut kl) s (k.settle (keepOf (kl.getD s []))) ∧ (D.cut kl).trip = -1 := by
  refine ⟨⟨?_, rfl, hf, by show (-1 : Int) ≤ -1 ∧ (-1 : Int) ≤ 9223372036854775807; decide⟩, rfl⟩
  unfold BayD.cut
  dsimp only
  rw [List.getElem?_mapIdx, h]; rfl
/-- A read, where there is power. -/
theorem read_pw {D : BayD} {s a : Nat} {k : DiskD} (h : Pw D s k) (ht : D.trip = -1) (ha : a < k.last.length) : ∃ D', D.read (s : Int) ((a : Nat) : Int) = ((k.look a, 0), D') ∧ Pw D' s k ∧ Fol s [0] D D' := by
  unfold BayD.read
  rcases op_on h 0 with ⟨h0, h1, h2⟩ | ⟨h1, h2, h3, h4, h5, h6, h7⟩
  · omega
  · have hm : k.may (a : Int) = 0 := by
      unfold DiskD.may; rw [if_neg (by rw [h.live]; simp), if_neg (by omega)]
    have hw : k.rd (a : Int) = (k.look a, 0) := by unfold DiskD.rd; rw [if_pos hm, Int.toNat_natCast]
    rw [if_pos h1, h2]
    dsimp only
    rw [hw, Int.toNat_natCast]
    refine ⟨_, rfl, ⟨setIn_at (by rw [h3]; exact h.slot), h4, h.live, h6⟩, ⟨?_, ?_, ?_, ?_⟩⟩
    · rw [setIn_len, h3]
    · intro j hj; rw [setIn_oth _ hj, h3]
    · exact h7
    · exact h5
theorem reads_pw {s : Nat} {k : DiskD} : ∀ (L : List Nat) {D : BayD} (acc : List UInt8), Pw D s k → D.trip = -1 → (∀ a ∈ L, a < k.last.length) →
    ∃ D', bReads D (s : Int) (L.map fun (a : Nat) => (a : Int)) acc = ((acc ++ L.flatMap k.look, 0), D') ∧ Pw D' s k ∧ Fol s (List.replicate L.length 0) D D'
  | [], D, acc, h, _, _ => ⟨D, by simp [bReads], h, Fol.refl s D⟩
  | a :: r, D, acc, h, ht, hl => by
    obtain ⟨D1, e1, e2, e3⟩ := read_pw (a := a) h ht (hl a (.head _))
    obtain ⟨D2, f1, f2, f3⟩ := reads_pw r (acc ++ k.look a) e2 (e3.calm ht) (fun b hb => hl b (.tail _ hb))
    refine ⟨D2, ?_, f2, e3.trans f3⟩
    rw [List.map_cons, bReads, e1]
    dsimp only
    rw [if_neg (by simp), f1, List.flatMap_cons, List.append_assoc]
def ringB (k : DiskD) (n : Nat) : List UInt8 := (List.range n).flatMap fun p => k.look (2 + p)
theorem open_pw {D : BayD} {s n : Nat} {k : DiskD} {c : ChkD} {f : FndD} (h : Pw D s k) (ht : D.trip = -1) (hn : 5 ≤ n ∧ n ≤ 2048) (hk : 2 + n ≤ k.last.length) (hc : ChkD.dec (k.look 1) = (0, c)) (hct : c.tail < n) (hf : foundM (ringB k n) c = (0, f)) :
    ∃ D', wOpen D (s : Int) (n : Int) = (((some ⟨(s : Int), c.epoch, n, c.tail.toNat, f.used, f.next, true, none, 0⟩, f.txns), 0), D') ∧ Pw D' s k ∧ Fol s (0 :: List.replicate n 0) D D' := by
  obtain ⟨D1, e1, e2, e3⟩ := read_pw (a := 1) h ht (by omega)
  have hL : ringL n = ((List.range n).map (2 + ·)).map fun (a : Nat) => (a : Int) := by unfold ringL; rw [List.map_map]; rfl
  obtain ⟨D2, f1, f2, f3⟩ := reads_pw ((List.range n).map (2 + ·)) [] e2 (e3.calm ht) (fun a ha => by
    obtain ⟨i, hi, rfl⟩ := List.mem_map.1 ha
    have := List.mem_range.1 hi; omega)
  rw [← hL, List.nil_append, List.flatMap_map] at f1
  refine ⟨D2, ?_, f2, by have := e3.trans f3; rwa [List.length_map, List.length_range] at this⟩
  have hs : sizedB (n : Int) = true := decide_eq_true ⟨by omega, by omega⟩
  unfold wOpen
  rw [if_neg (by rw [hs]; simp), Int.toNat_natCast, show D.read (s : Int) 1 = ((k.look 1, 0), D1) from e1]
  dsimp only
  rw [if_neg (by simp), hc]
  dsimp only
  rw [if_neg (by rintro (q | q); exact q rfl; omega), f1]
  dsimp only
  rw [if_neg (by simp)]
  have hr : (List.range n).flatMap (fun a => k.look (2 + a)) = ringB k n := rfl
  rw [hr, hf]
  dsimp only
  rw [if_neg (by simp)]
  unfold openW
  rw [Int.toNat_natCast]
end Go.Proofs.YtlojjlbngnaphaaGreat

/-! Text Uh. -/
/- What a disk keeps of a journal, whatever a cut leaves: plainly. -/
set_option maxRecDepth 8000
set_option linter.unusedVariables false
set_option linter.unusedSimpArgs false
set_option linter.unusedSectionVars false
namespace Go.Proofs.YtlojjlbngnaphaaGreat
open Go.RowKit Go.Sl
attribute [local irreducible] Own

abbrev Secs := List (List UInt8)
def sf (L : Secs) : SecF := fun i => (L[2 + i]?).getD []
theorem sf_set {L : Secs} {a : Nat} {b : List UInt8} (h : a < L.length) (i : Nat) : sf (L.set a b) i = if 2 + i = a then b else sf L i := by
  unfold sf
  by_cases q : 2 + i = a
  · rw [if_pos q, q, List.getElem?_set_self h]; rfl
  · rw [if_neg q, List.getElem?_set_ne (fun e => q e.symm)]
theorem mem_set128 {L : Secs} {a : Nat} {b : List UInt8} (h : ∀ x ∈ L, x.length = 128) (hb : b.length = 128) : ∀ x ∈ L.set a b, x.length = 128 := by
  intro x hx
  rcases List.mem_or_eq_of_mem_set hx with q | q
  · exact h x q
  · rw [q]; exact hb
def noCmt (b : List UInt8) : Prop := (CmtD.dec b).1 ≠ 0
theorem esc_noCmt (l : List UInt8) : noCmt (escM l) := (dec_nought escN_head).2
theorem head_noCmt {e s : Nat} {l : List PatD} (h : Fine e s l) {i : Nat} (hi : i < l.length) : noCmt (headP e s l.length i l[i]) := by
  intro q
  have h1 := (hdr_decO (by rw [headP_dec h hi])).1
  have h2 := (cmt_decO q).1
  unfold looksM at h1 h2
  split at h1
  · exact absurd h1 (by decide)
  · rename_i g
    rw [if_neg g] at h2
    split at h1
    · exact absurd h1 (by decide)
    · rename_i g1
      split at h2
      · exact absurd h2 (by decide)
      · rename_i g2
        exact absurd ((Decidable.of_not_not g1).symm.trans (Decidable.of_not_not g2)) (by decide)
theorem pairs_noCmt {e s : Nat} {l : List PatD} (h : Fine e s l) : ∀ r ∈ pairsP e s l.length l 0, noCmt r := by
  intro r hr
  obtain ⟨i, hi, rfl⟩ := List.mem_iff_getElem.1 hr
  rw [pairsP_length] at hi
  have hj : i / 2 < l.length := by omega
  have hg := pairsP_get e s l.length l 0 (i / 2) hj
  rw [Nat.zero_add] at hg
  rcases Nat.mod_two_eq_zero_or_one i with q | q
  · have e1 := hg.1
    rw [show 2 * (i / 2) = i by omega, List.getElem?_eq_getElem (by rw [pairsP_length]; exact hi)] at e1
    injection e1 with e1
    rw [e1]; exact head_noCmt h hj
  · have e1 := hg.2
    rw [show 2 * (i / 2) + 1 = i by omega, List.getElem?_eq_getElem (by rw [pairsP_length]; exact hi)] at e1
    injection e1 with e1
    rw [e1]; exact esc_noCmt _

/-- A disk's sectors are a journal, with just these batches. -/
structure Rep (n e base tl : Nat) (ls : List (List PatD)) (L : Secs) : Prop where
  all : ∀ b ∈ L, b.length = 128
  bnd : 5 ≤ n ∧ n ≤ 2048
  len : 2 + n ≤ L.length
  chk : L[1]? = some (ChkD.mk e base tl).enc.2
  cnt : cntOk e base
  tlt : tl < n
  lays : Lays (sf L) n e base tl ls
  noc : ∀ i, i < n → ∀ c, CmtD.dec (sf L i) = (0, c) → c.seq < base + ls.length
variable {n e base tl : Nat} {ls : List (List PatD)} {L : Secs}
theorem Rep.good (h : Rep n e base tl ls L) : (ChkD.mk e base tl).good := ⟨h.cnt, by simp only; omega, by have := h.bnd; have := h.tlt; simp only; omega⟩
/-- A sector that is free, and no commit. -/
theorem Rep.put (h : Rep n e base tl ls L) {j : Nat} {b : List UInt8} (h1 : costL ls ≤ j) (h2 : j < n) (hb : b.length = 128) (hn : noCmt b) : Rep n e base tl ls (L.set (2 + (tl + j) % n) b) := by
  have hm := Nat.mod_lt (tl + j) (show 0 < n by omega)
  have hl := h.len
  refine ⟨mem_set128 h.all hb, h.bnd, by rw [List.length_set]; exact hl, ?_, h.cnt, h.tlt, ⟨h.lays.fine, h.lays.cost, ?_⟩, ?_⟩
  · rw [List.getElem?_set_ne (by omega)]; exact h.chk
  · intro i hi
    rw [sf_set (by omega), if_neg]
    · exact h.lays.sec i hi
    · intro q
      have := mod_inj (a := tl) (i := i) (j := j) (n := n) (by omega) h2 (by omega)
      omega
  · intro i hi c hc
    rw [sf_set (by omega)] at hc
    split at hc
    · exact absurd (by rw [hc]) hn
    · exact h.noc i hi c hc
/-- A batch's seal, behind its other sectors. -/
theorem Rep.closed (h : Rep n e base tl ls L) {l : List PatD} (hf : Fine e (base + ls.length) l) (hc : costL ls + (2 * l.length + 1) ≤ n)
    (hp : ∀ j, j < 2 * l.length → (pairsP e (base + ls.length) l.length l 0)[j]? = some (sf L ((tl + (costL ls + j)) % n))) :
    Rep n e base tl (ls ++ [l]) (L.set (2 + (tl + (costL ls + 2 * l.length)) % n) (cmtP e (base + ls.length) l).enc.2) := by
  have hm := Nat.mod_lt (tl + (costL ls + 2 * l.length)) (show 0 < n by omega)
  have hl := h.len
  have hcl : costL (ls ++ [l]) = costL ls + (2 * l.length + 1) := by rw [costL_append, costL_cons]; rfl
  refine ⟨mem_set128 h.all (cmtP_length hf), h.bnd, by rw [List.length_set]; exact hl, ?_, h.cnt, h.tlt, ⟨?_, by omega, ?_⟩, ?_⟩
  · rw [List.getElem?_set_ne (by omega)]; exact h.chk
  · intro k hk
    by_cases q : k < ls.length
    · rw [List.getElem_append_left q]; exact h.lays.fine k q
    · have : k = ls.length := by simp at hk; omega
      subst this
      simpa using hf
  · intro j hj
    rw [hcl] at hj
    rw [flatR_append, sf_set (by omega)]
    by_cases q : j < costL ls
    · rw [List.getElem?_append_left (by rw [flatR_length]; exact q), if_neg]
      · exact h.lays.sec j q
      · intro g
        have := mod_inj (a := tl) (i := j) (j := costL ls + 2 * l.length) (n := n) (by omega) (by omega) (by omega)
        omega
    · rw [List.getElem?_append_right (by rw [flatR_length]; omega), flatR_length]
      have ef : flatR e (base + ls.length) [l] = rowsP e (base + ls.length) l := by simp [flatR]
      rw [ef]
      by_cases g : j = costL ls + 2 * l.length
      · subst g
        rw [if_pos rfl, Nat.add_sub_cancel_left, rowsP_last]
      · rw [if_neg]
        · unfold rowsP
          rw [List.getElem?_append_left (by rw [pairsP_length]; omega), hp _ (by omega), show costL ls + (j - costL ls) = j by omega]
        · intro g2
          have := mod_inj (a := tl) (i := j) (j := costL ls + 2 * l.length) (n := n) (by omega) (by omega) (by omega)
          omega
  · intro i hi c hd
    rw [sf_set (by omega)] at hd
    rw [List.length_append, List.length_singleton]
    split at hd
    · rw [cmtP_dec hf] at hd
      injection hd with _ hd
      subst hd
      show base + ls.length < _
      omega
    · have := h.noc i hi c hd; omega
/-- A new checkpoint, behind all. -/
theorem Rep.check (h : Rep n e base tl ls L) {e' : Nat} (hc : cntOk e' (base + ls.length)) : Rep n e' (base + ls.length) ((tl + costL ls) % n) [] (L.set 1 (ChkD.mk e' (base + ls.length) (((tl + costL ls) % n : Nat) : Int)).enc.2) := by
  have hn := h.bnd
  have hm := Nat.mod_lt (tl + costL ls) (show 0 < n by omega)
  have hl := h.len
  refine ⟨mem_set128 h.all ?_, h.bnd, by rw [List.length_set]; exact hl, by rw [List.getElem?_set_self (by omega)], hc, hm, ⟨fun k hk => absurd hk (Nat.not_lt_zero k), Nat.zero_le _, fun j hj => absurd hj (Nat.not_lt_zero j)⟩, ?_⟩
  · rw [chk_ok ⟨hc, by simp only; omega, by simp only; omega⟩]
    exact sectF_length _ _ _ _ (chk_sum _)
  · intro i hi c hd
    rw [sf_set (by omega), if_neg (by omega)] at hd
    exact h.noc i hi c hd
theorem bat_cmt {sec : SecF} {room s : Nat} {l : List PatD} (h : batM sec room e s = some l) : 2 * l.length < room ∧ CmtD.dec (sec (2 * l.length)) = (0, cmtP e s l) := by
  obtain ⟨a, b, c⟩ := (bat_iff _ _ _ _ _).1 h
  have h1 := c (2 * l.length) (by omega)
  rw [rowsP_last] at h1
  injection h1 with h1
  exact ⟨by omega, by rw [← h1]; exact cmtP_dec a⟩
theorem ringB_last (k : DiskD) (n : Nat) (hc : k.cache = []) (ha : ∀ b ∈ k.last, b.length = 128) (hl : 2 + n ≤ k.last.length) : (ringB k n).length = 128 * n ∧ ∀ i, i < n → secB (ringB k n) i = sf k.last i := by
  have hw : ∀ p ∈ List.range n, (k.look (2 + p)).length = 128 := by
    intro p hp
    have := List.mem_range.1 hp
    rw [DiskD.look_clean hc, List.getElem?_eq_getElem (by omega)]
    exact ha _ (List.getElem_mem _)
  constructor
  · unfold ringB
    rw [flat_length (w := 128) _ hw, List.length_range, Nat.mul_comm]
  · intro i hi
    unfold secB ringB
    have := flat_part (g := fun p => k.look (2 + p)) (w := 128) (List.range n) i (by rw [List.length_range]; exact hi) hw
    rw [Nat.mul_comm, this, List.getElem_range, DiskD.look_clean hc]
    rfl
/-- What is found there. -/
theorem Rep.found {k : DiskD} (h : Rep n e base tl ls k.last) (hc : k.cache = []) : foundM (ringB k n) ⟨e, base, tl⟩ = (0, ⟨numb base ls, base + ls.length, (tl + costL ls) % n, costL ls⟩) := by
  obtain ⟨h1, h2⟩ := ringB_last k n hc h.all h.len
  have hn := h.bnd
  have hcost := h.lays.cost
  have hlen := costL_len ls
  have hs : ∀ j, j < costL ls → (flatR e base ls)[j]? = some (secB (ringB k n) ((tl + j) % n)) := fun j hj => by
    rw [h2 _ (Nat.mod_lt _ (by omega))]; exact h.lays.sec j hj
  have hof : ofM (secB (ringB k n)) n e (n + 1) base 0 tl = numb base ls := by
    rw [of_laid h.lays.fine hcost hs (by omega), of_none, List.append_nil]
    cases hb : batM (rotF (secB (ringB k n)) n (if ls = [] then tl else (tl + costL ls) % n)) (n - costL ls) e (base + ls.length) with
    | none => rfl
    | some l =>
      exfalso
      have hq := (bat_cmt hb).2
      unfold rotF at hq
      rw [h2 _ (Nat.mod_lt _ (by omega))] at hq
      have := h.noc _ (Nat.mod_lt _ (by omega)) _ hq
      exact absurd this (by show ¬ base + ls.length < _; omega)
  rw [found_good h1 hn h.cnt.1 ⟨h.cnt.2.1, h.cnt.2.2⟩ h.tlt, hof, numb_length, costT_numb]
theorem Rep.look {k : DiskD} (h : Rep n e base tl ls k.last) (hc : k.cache = []) : ChkD.dec (k.look 1) = (0, ⟨e, base, tl⟩) := by
  rw [DiskD.look_clean hc, h.chk]
  exact chk_back _ h.good

/-! ### Whatever a cut leaves -/
def Cov (P : Secs → Prop) (k : DiskD) : Prop := ∀ keep, P (k.settle keep).last
theorem Cov.nil {P : Secs → Prop} {k : DiskD} (hc : k.cache = []) (h : P k.last) : Cov P k := fun keep => by unfold DiskD.settle; rw [hc]; exact h
theorem Cov.snoc {P : Secs → Prop} {k : DiskD} {a : Nat} {b : List UInt8} (h : Cov P k) (hs : ∀ L, P L → P (L.set a b)) : Cov P (k.write a b) := by
  intro keep
  have e : ((k.write a b).settle keep).last = sets keep k.last 0 (k.cache ++ [(a, b)]) := rfl
  rw [e, sets_snoc]
  split
  · exact hs _ (h keep)
  · exact h keep
theorem Cov.writes {P : Secs → Prop} : ∀ (R : List (Nat × List UInt8)) {k : DiskD}, Cov P k → (∀ x ∈ R, ∀ L, P L → P (L.set x.1 x.2)) → Cov P (k.writes R)
  | [], k, h, _ => by rw [writes_nil]; exact h
  | x :: r, k, h, hs => by
    rw [← write_writes]
    exact Cov.writes r (h.snoc (hs x (.head _))) (fun y hy => hs y (.tail _ hy))
theorem Cov.mono {P Q : Secs → Prop} {k : DiskD} (h : Cov P k) (hs : ∀ L, P L → Q L) : Cov Q k := fun keep => hs _ (h keep)
def full (L : Secs) (R : List (Nat × List UInt8)) : Secs := R.foldl (fun L x => L.set x.1 x.2) L
theorem sets_full : ∀ (R : List (Nat × List UInt8)) (L : Secs) (i : Nat), sets (fun _ => true) L i R = full L R
  | [], _, _ => rfl
  | x :: r, L, i => by rw [sets, if_pos rfl, sets_full r]; rfl
theorem settle_full (k : DiskD) : k.settle (fun _ => true) = ⟨full k.last k.cache, [], k.failed⟩ := by
  unfold DiskD.settle; rw [sets_full]
theorem full_append (L : Secs) (A B : List (Nat × List UInt8)) : full L (A ++ B) = full (full L A) B := by simp [full]
theorem full_length : ∀ (R : List (Nat × List UInt8)) (L : Secs), (full L R).length = L.length
  | [], _ => rfl
  | x :: r, L => by show (full (L.set x.1 x.2) r).length = _; rw [full_length r, List.length_set]
theorem snocList {α : Type} {motive : List α → Prop} (nil : motive []) (snoc : ∀ l a, motive l → motive (l ++ [a])) (l : List α) : motive l := by
  rw [← List.reverse_reverse l]
  induction l.reverse with
  | nil => exact nil
  | cons a l ih => rw [List.reverse_cons]; exact snoc _ _ ih
/-- Sectors laid one behind the other at free places. -/
theorem Rep.laid (h : Rep n e base tl ls L) : ∀ (rows : List (List UInt8)), costL ls + rows.length ≤ n → (∀ r ∈ rows, r.length = 128 ∧ noCmt r) →
    Rep n e base tl ls (full L (rows.mapIdx fun i r => (2 + (tl + (costL ls + i)) % n, r))) ∧ ∀ j, j < rows.length → rows[j]? = some (sf (full L (rows.mapIdx fun i r => (2 + (tl + (costL ls + i)) % n, r))) ((tl + (costL ls + j)) % n)) := by
  intro rows
  induction rows using snocList with
  | nil => intro _ _; exact ⟨h, fun j hj => absurd hj (Nat.not_lt_zero j)⟩
  | snoc rows r ih =>
    intro hl hr
    rw [List.length_append, List.length_singleton] at hl
    obtain ⟨i1, i2⟩ := ih (by omega) (fun x hx => hr x (List.mem_append_left _ hx))
    have hrr := hr r (by simp)
    have hm := Nat.mod_lt (tl + (costL ls + rows.length)) (show 0 < n by omega)
    have hlen := i1.len
    have e1 : full L ((rows ++ [r]).mapIdx fun i r => (2 + (tl + (costL ls + i)) % n, r)) = (full L (rows.mapIdx fun i r => (2 + (tl + (costL ls + i)) % n, r))).set (2 + (tl + (costL ls + rows.length)) % n) r := by
      rw [List.mapIdx_concat, full_append]; rfl
    rw [e1]
    refine ⟨i1.put (by omega) (by omega) hrr.1 hrr.2, fun j hj => ?_⟩
    rw [List.length_append, List.length_singleton] at hj
    rw [sf_set (by omega)]
    by_cases q : j = rows.length
    · subst q; rw [if_pos rfl]; simp
    · rw [if_neg, List.getElem?_append_left (by omega)]
      · exact i2 j (by omega)
      · intro g
        have := mod_inj (a := tl) (i := costL ls + j) (j := costL ls + rows.length) (n := n) (by omega) (by omega) (by omega)
        omega
end Go.Proofs.YtlojjlbngnaphaaGreat

/-! Text Ui. -/
/- A journal that stands, and each of its calls: plainly. -/
set_option maxRecDepth 8000
set_option linter.unusedVariables false
set_option linter.unusedSimpArgs false
set_option linter.unusedSectionVars false
namespace Go.Proofs.YtlojjlbngnaphaaGreat
open Go.RowKit Go.Sl
attribute [local irreducible] Own

/-- A journal in memory, and its disk: the batches, the first of them that are sure, the one that is logged. -/
structure Live (v : WalD) (k : DiskD) (base : Nat) (ls : List (List PatD)) (m : Nat) (lg : Option (List PatD)) : Prop where
  nob : v.broken = 0
  live : k.failed = false
  used : v.used = costL ls
  next : v.next = base + ls.length
  cov : Cov (fun L => Rep v.size v.epoch base v.tail (ls.take m) L ∨ Rep v.size v.epoch base v.tail ls L) k
  all : Rep v.size v.epoch base v.tail ls (full k.last k.cache)
  mle : m ≤ ls.length
  sure : v.sure = true → m = ls.length ∧ k.cache = []
  cap : k.cache.length ≤ 1
  nolg : lg = none → v.log = none
  lgs : ∀ l, lg = some l → v.sure = true ∧ v.log = some ⟨2 * l.length + 1, (cmtP v.epoch v.next l).enc.2⟩ ∧ Fine v.epoch v.next l ∧ costL ls + (2 * l.length + 1) ≤ v.size ∧ ∀ j, j < 2 * l.length → (pairsP v.epoch v.next l.length l 0)[j]? = some (sf k.last ((v.tail + (costL ls + j)) % v.size))
variable {v : WalD} {k : DiskD} {base m : Nat} {ls : List (List PatD)} {lg : Option (List PatD)} {D : BayD} {s : Nat}
theorem Live.len (h : Live v k base ls m lg) : 2 + v.size ≤ k.last.length := by have := h.all.len; rwa [full_length] at this
theorem Live.size (h : Live v k base ls m lg) : 5 ≤ v.size ∧ v.size ≤ 2048 := h.all.bnd
theorem Live.rep (h : Live v k base ls m lg) (hs : v.sure = true) : Rep v.size v.epoch base v.tail ls k.last := by
  have := h.all; rwa [(h.sure hs).2] at this
theorem Live.ringok (h : Live v k base ls m lg) : RingOk v.size v.tail v.used := ⟨h.size.1, h.size.2, h.all.tlt, by rw [h.used]; exact h.all.lays.cost⟩
theorem spot_is (v : WalD) (i : Nat) : v.spot i = 2 + (v.tail + (v.used + i)) % v.size := by
  unfold WalD.spot WalD.head
  rw [Nat.mod_add_mod, Nat.add_assoc]
theorem placed_is (h : v.used = costL ls) (rows : List (List UInt8)) : placedN v rows = rows.mapIdx fun i r => (2 + (v.tail + (costL ls + i)) % v.size, r) := by
  unfold placedN
  congr 1
  funext i r
  rw [spot_is, h]
/-- What is done. -/
structure LifeD where
  sealed : List (List PatD)
  sure : Nat
  logged : Option (List PatD)
def LifeD.does (x : LifeD) (kind : Nat) (ps : List PatD) : LifeD := match kind with
  | 1 => ⟨x.sealed, x.sealed.length, some ps⟩
  | 2 => ⟨x.sealed ++ [x.logged.getD []], x.sure, none⟩
  | 3 => ⟨x.sealed, x.sealed.length, x.logged⟩
  | 4 => ⟨[], 0, none⟩
  | 5 => ⟨[], 0, none⟩
  | _ => x
abbrev LiveX (v : WalD) (k : DiskD) (base : Nat) (x : LifeD) : Prop := Live v k base x.sealed x.sure x.logged
/-- What a cut may leave, the power having gone in such a call (0: in none). -/
def LifeD.left (x : LifeD) (kind : Nat) (ls : List (List PatD)) : Prop := (∃ c, x.sure ≤ c ∧ c ≤ x.sealed.length ∧ ls = x.sealed.take c) ∨ ((kind = 4 ∨ kind = 5) ∧ ls = [])
def Lft (n E N : Nat) (x : LifeD) (kind : Nat) (k : DiskD) : Prop := Cov (fun L => ∃ e base tl ls, Rep n e base tl ls L ∧ x.left kind ls ∧ e ≤ E ∧ base + ls.length ≤ N) k
theorem Lft.of {x : LifeD} (h : LiveX v k base x) (kind : Nat) {k' : DiskD} (hc : Cov (fun L => Rep v.size v.epoch base v.tail (x.sealed.take x.sure) L ∨ Rep v.size v.epoch base v.tail x.sealed L) k') : Lft v.size v.epoch v.next x kind k' := by
  refine hc.mono fun L hL => ?_
  have hm := h.mle
  have hn := h.next
  rcases hL with hL | hL
  · exact ⟨_, _, _, _, hL, .inl ⟨x.sure, Nat.le_refl _, hm, rfl⟩, Nat.le_refl _, by rw [List.length_take]; omega⟩
  · exact ⟨_, _, _, _, hL, .inl ⟨x.sealed.length, hm, Nat.le_refl _, by rw [List.take_length]⟩, Nat.le_refl _, by omega⟩
theorem Live.left {x : LifeD} (h : LiveX v k base x) (kind : Nat) : Lft v.size v.epoch v.next x kind k := Lft.of h kind h.cov
theorem Lft.mono {n E N E' N' kind kind' : Nat} {x : LifeD} (h : Lft n E N x kind k) (h1 : E ≤ E') (h2 : N ≤ N') (h3 : kind = kind' ∨ kind = 0) : Lft n E' N' x kind' k := by
  refine Cov.mono h fun L => ?_
  rintro ⟨e, b, t, ls, a, g, c, d⟩
  refine ⟨e, b, t, ls, a, ?_, by omega, by omega⟩
  rcases g with g | g
  · exact .inl g
  · exact .inr ⟨by omega, g.2⟩

theorem live_log {x : LifeD} {ps : List PatD} (h : LiveX v k base x) (hf : Fine v.epoch v.next ps) (hr : 2 * ps.length + 1 ≤ v.size - v.used) :
    LiveX { v with sure := true, log := some ⟨2 * ps.length + 1, (cmtP v.epoch v.next ps).enc.2⟩ } ((k.writes (placedN v (pairsP v.epoch v.next ps.length ps 0))).settle fun _ => true) base (x.does 1 ps) := by
  have hu := h.used
  have hc := h.all.lays.cost
  obtain ⟨a, b⟩ := h.all.laid (pairsP v.epoch v.next ps.length ps 0) (by rw [pairsP_length]; omega) (fun r hr => ⟨pairsP_128 hf r hr, pairs_noCmt hf r hr⟩)
  rw [← placed_is hu] at a b
  have e1 : ((k.writes (placedN v (pairsP v.epoch v.next ps.length ps 0))).settle fun _ => true) = ⟨full (full k.last k.cache) (placedN v (pairsP v.epoch v.next ps.length ps 0)), [], k.failed⟩ := by
    rw [settle_full]
    unfold DiskD.writes
    rw [full_append]
  rw [e1]
  refine ⟨h.nob, h.live, hu, h.next, Cov.nil rfl (.inr a), a, Nat.le_refl _, fun _ => ⟨rfl, rfl⟩, Nat.zero_le _, fun q => (by cases q), fun l hl => ?_⟩
  injection hl with hl
  subst hl
  exact ⟨rfl, rfl, hf, by show costL x.sealed + _ ≤ v.size; omega, fun j hj => b j (by rw [pairsP_length]; exact hj)⟩
theorem costL_take (ls : List (List PatD)) (m : Nat) : costL (ls.take m) ≤ costL ls := by
  have := costL_append (ls.take m) (ls.drop m)
  rw [List.take_append_drop] at this; omega
theorem left_log {x : LifeD} {ps : List PatD} (h : LiveX v k base x) (hf : Fine v.epoch v.next ps) (hr : 2 * ps.length + 1 ≤ v.size - v.used) (j : Nat) : Lft v.size v.epoch v.next x 1 (k.writes ((placedN v (pairsP v.epoch v.next ps.length ps 0)).take j)) := by
  have hu := h.used
  have hc := h.all.lays.cost
  have ht := costL_take x.sealed x.sure
  refine Lft.of h 1 (Cov.writes _ h.cov ?_)
  intro y hy L hL
  rw [placed_is hu] at hy
  obtain ⟨i, hi, rfl⟩ := List.mem_iff_getElem.1 (List.mem_of_mem_take hy)
  rw [List.length_mapIdx, pairsP_length] at hi
  rw [List.getElem_mapIdx]
  dsimp only
  have hr1 := pairsP_128 hf _ (List.getElem_mem (by rw [pairsP_length]; exact hi))
  have hr2 := pairs_noCmt hf _ (List.getElem_mem (by rw [pairsP_length]; exact hi))
  rcases hL with hL | hL
  · exact .inl (hL.put (by omega) (by omega) hr1 hr2)
  · exact .inr (hL.put (by omega) (by omega) hr1 hr2)
theorem live_seal {x : LifeD} {l : List PatD} (h : LiveX v k base x) (hl : x.logged = some l) :
    LiveX { v with used := v.used + (2 * l.length + 1), next := v.next + 1, sure := false, log := none } (k.writes [(v.spot (2 * l.length), (cmtP v.epoch v.next l).enc.2)]) base (x.does 2 []) := by
  obtain ⟨h1, h2, h3, h4, h5⟩ := h.lgs l hl
  obtain ⟨hm, hc⟩ := h.sure h1
  have hr := h.rep h1
  have hn := h.next
  rw [hn] at h3 h5
  have hs := hr.closed h3 h4 h5
  rw [← hn] at hs
  have esp : v.spot (2 * l.length) = 2 + (v.tail + (costL x.sealed + 2 * l.length)) % v.size := by rw [spot_is, h.used]
  rw [← esp] at hs
  have ed : x.does 2 [] = ⟨x.sealed ++ [l], x.sure, none⟩ := by unfold LifeD.does; rw [hl]; rfl
  have ek : k.writes [(v.spot (2 * l.length), (cmtP v.epoch v.next l).enc.2)] = ⟨k.last, [(v.spot (2 * l.length), (cmtP v.epoch v.next l).enc.2)], k.failed⟩ := by unfold DiskD.writes; rw [hc]; rfl
  rw [ek, ed]
  refine ⟨h.nob, h.live, ?_, ?_, ?_, hs, ?_, fun q => (by cases q), Nat.le_refl _, fun _ => rfl, fun l q => by cases q⟩
  · show v.used + _ = costL (x.sealed ++ [l])
    rw [costL_append, costL_cons, h.used]; rfl
  · show v.next + 1 = base + (x.sealed ++ [l]).length
    rw [List.length_append, List.length_singleton]; omega
  · intro keep
    show Rep v.size v.epoch base v.tail ((x.sealed ++ [l]).take x.sure) _ ∨ Rep v.size v.epoch base v.tail (x.sealed ++ [l]) _
    unfold DiskD.settle sets sets
    dsimp only
    split
    · exact .inr hs
    · left; rw [hm, List.take_left' rfl]; exact hr
  · show x.sure ≤ (x.sealed ++ [l]).length
    rw [List.length_append]; omega
theorem live_sync {x : LifeD} (h : LiveX v k base x) (hs : v.sure = false) : LiveX { v with sure := true } (k.settle fun _ => true) base (x.does 3 []) := by
  have hl : x.logged = none := by
    cases hq : x.logged with
    | none => rfl
    | some l => have := (h.lgs l hq).1; rw [hs] at this; cases this
  rw [settle_full]
  exact ⟨h.nob, h.live, h.used, h.next, Cov.nil rfl (.inr h.all), h.all, Nat.le_refl _, fun _ => ⟨rfl, rfl⟩, Nat.zero_le _, h.nolg, fun l q => by
    have q : x.logged = some l := q
    rw [hl] at q; cases q⟩
theorem live_sync0 {x : LifeD} (h : LiveX v k base x) (hs : v.sure = true) : LiveX v k base (x.does 3 []) := by
  obtain ⟨hm, hc⟩ := h.sure hs
  exact ⟨h.nob, h.live, h.used, h.next, Cov.nil hc (.inr (h.rep hs)), h.all, Nat.le_refl _, fun _ => ⟨rfl, hc⟩, h.cap, h.nolg, h.lgs⟩
theorem head_is (h : v.used = costL ls) : v.head = (v.tail + costL ls) % v.size := by unfold WalD.head; rw [h]
theorem live_empty {x : LifeD} (h : LiveX v k base x) (hs : v.sure = true) {e : Nat} (hc : cntOk e v.next) :
    LiveX { v with epoch := e, tail := v.head, used := 0, log := none } ((k.writes [(1, (ChkD.mk e v.next v.head).enc.2)]).settle fun _ => true) v.next ⟨[], 0, none⟩ := by
  obtain ⟨hm, hq⟩ := h.sure hs
  have hr := (h.rep hs).check (e' := e) (by rw [← h.next]; exact hc)
  rw [← h.next, ← head_is h.used] at hr
  have ek : ((k.writes [(1, (ChkD.mk e v.next v.head).enc.2)]).settle fun _ => true) = ⟨k.last.set 1 (ChkD.mk e v.next v.head).enc.2, [], k.failed⟩ := by
    rw [settle_full]; unfold DiskD.writes; rw [hq]; rfl
  rw [ek]
  exact ⟨h.nob, h.live, rfl, rfl, Cov.nil rfl (.inr hr), hr, Nat.le_refl _, fun _ => ⟨rfl, rfl⟩, Nat.zero_le _, fun _ => rfl, fun l q => by cases q⟩
theorem left_empty {x : LifeD} (h : LiveX v k base x) (hs : v.sure = true) {e kind : Nat} (hc : cntOk e v.next) (hk : kind = 4 ∨ kind = 5) {L : List (Nat × List UInt8)} (hL : L = [] ∨ L = [(1, (ChkD.mk e v.next v.head).enc.2)]) (he : e ≤ v.epoch + 1) : Lft v.size (v.epoch + 1) v.next x kind (k.writes L) := by
  have h0 : Lft v.size (v.epoch + 1) v.next x kind k := (h.left kind).mono (by omega) (Nat.le_refl _) (.inl rfl)
  rcases hL with rfl | rfl
  · rw [writes_nil]; exact h0
  · obtain ⟨hm, hq⟩ := h.sure hs
    have hr := (h.rep hs).check (e' := e) (by rw [← h.next]; exact hc)
    rw [← h.next, ← head_is h.used] at hr
    intro keep
    unfold DiskD.writes DiskD.settle
    rw [hq, List.nil_append]
    unfold sets sets
    dsimp only
    split
    · exact ⟨_, _, _, _, hr, .inr ⟨hk, rfl⟩, he, by simp⟩
    · have := h0 keep
      unfold DiskD.settle at this
      rw [hq] at this
      exact this
theorem Live.open {n e tl : Nat} (hr : Rep n e base tl ls k.last) (hc : k.cache = []) (hf : k.failed = false) : LiveX ⟨(s : Int), e, n, tl, costL ls, base + ls.length, true, none, 0⟩ k base ⟨ls, ls.length, none⟩ :=
  ⟨rfl, hf, rfl, rfl, Cov.nil hc (.inr hr), by rw [hc]; exact hr, Nat.le_refl _, fun _ => ⟨rfl, hc⟩, by rw [hc]; exact Nat.zero_le _, fun _ => rfl, fun l q => by cases q⟩
/-- A disk that a journal stands on is opened. -/
theorem rep_open {n e tl : Nat} (hp : Pw D s k) (ht : D.trip = -1) (hr : Rep n e base tl ls k.last) (hc : k.cache = []) :
    ∃ D', wOpen D (s : Int) (n : Int) = (((some ⟨(s : Int), e, n, tl, costL ls, base + ls.length, true, none, 0⟩, numb base ls), 0), D') ∧ Pw D' s k ∧ Fol s (0 :: List.replicate n 0) D D' := by
  obtain ⟨D', a, b, c⟩ := open_pw hp ht hr.bnd hr.len (hr.look hc) (by have := hr.tlt; simp only; omega) (hr.found hc)
  refine ⟨D', ?_, b, c⟩
  rw [a]; rfl

/-! ### Any call -/
def wDo (s : WS) (kind : Nat) (ps : List PatD) : Int × WS := match kind with
  | 1 => wLog s ps
  | 2 => wSeal s
  | 3 => wSync s
  | 4 => wEmpty s s.1.epoch
  | 5 => wEmpty s (s.1.epoch + 1)
  | _ => (0, s)
def opsOf (v : WalD) (kind : Nat) (ps : List PatD) : List Nat := match kind with
  | 1 => List.replicate (2 * ps.length) 1 ++ [2]
  | 2 => [1]
  | 3 => if v.sure then [] else [2]
  | 4 => [1, 2]
  | 5 => [1, 2]
  | _ => []
structure Good (v v' : WalD) (kind : Nat) : Prop where
  slot : v'.slot = v.slot
  size : v'.size = v.size
  next : v'.next = if kind = 2 then v.next + 1 else v.next
  epoch : v'.epoch ≤ v.epoch + 1
inductive Step (v : WalD) (D : BayD) (s : Nat) (k : DiskD) (base : Nat) (x : LifeD) (kind : Nat) (ps : List PatD) : Int × WS → Prop
  | good {v' : WalD} {D' : BayD} (k' : DiskD) (base' : Nat) (hg : Good v v' kind) (hp : Pw D' s k') (hl : LiveX v' k' base' (x.does kind ps)) (hf : Fol s (opsOf v kind ps) D D') (hb : kind < 4 → base' = base) (hb2 : 4 ≤ kind → kind ≤ 5 → base' = v.next) : Step v D s k base x kind ps (0, (v', D'))
  | no (e : Int) (h0 : e ≠ 0) (h5 : e ≠ 50) : Step v D s k base x kind ps (e, (v, D))
  | dark {v' : WalD} {D' : BayD} (k' : DiskD) (ht : D.trip ≠ -1) (hd : Dk D' s k') (hl : Lft v.size (v.epoch + 1) v.next x kind k') : Step v D s k base x kind ps (50, (v', D'))
theorem step_ok {x : LifeD} (hp : Pw D s k) (hv : v.slot = (s : Int)) (h : LiveX v k base x) (kind : Nat) (ps : List PatD) (hc : cntOk (v.epoch + 1) v.next) : Step v D s k base x kind ps (wDo (v, D) kind ps) := by
  have hb := h.nob
  have hsz := h.size
  have hkl := h.len
  have hcst := h.all.lays.cost
  have hu := h.used
  have hhd : v.head ≤ 2047 := by have := Nat.mod_lt (v.tail + v.used) (show 0 < v.size by omega); unfold WalD.head; omega
  have hct : ∀ e, e ≤ v.epoch + 1 → cntOk e v.next := fun e he => ⟨Nat.le_trans he hc.1, hc.2⟩
  have hE : ∀ e, e ≤ v.epoch + 1 → ∀ kind, kind = 4 ∨ kind = 5 → opsOf v kind ps = [1, 2] → x.does kind ps = ⟨[], 0, none⟩ → Step v D s k base x kind ps (wEmpty (v, D) e) := by
    intro e he kind hk ho hd
    cases hs : v.sure with
    | false => rw [empty_unsure hb hs]; exact .no 1 (by decide) (by decide)
    | true =>
      rcases p_empty (e := e) hp hv hb hs ⟨hct e he, by simp only; omega, by simp only; omega⟩ (by omega) with ⟨D', e1, e2, e3⟩ | ⟨h0, D', L, hL, e1, e2⟩
      · rw [e1]
        exact .good _ v.next ⟨rfl, rfl, by rw [if_neg (by omega)], he⟩ e2 (by rw [hd]; exact live_empty h hs (hct e he)) (by rw [ho]; exact e3) (fun q => by omega) (fun _ _ => rfl)
      · rw [e1]
        exact .dark _ h0 e2 (left_empty h hs (hct e he) hk hL he)
  unfold wDo
  split
  · by_cases hn : logNo v ps
    · obtain ⟨e, h0, h5, he⟩ := log_refused (D := D) hb hn
      rw [he]; exact .no e h0 h5
    · obtain ⟨hf, hr⟩ := log_fine hn
      rcases p_log hp hv hb hf hr hkl with ⟨D', e1, e2, e3⟩ | ⟨h0, D', j, e1, e2⟩
      · rw [e1]
        exact .good _ base ⟨rfl, rfl, rfl, Nat.le_succ _⟩ e2 (live_log h hf hr) e3 (fun _ => rfl) (fun q => by omega)
      · rw [e1]
        exact .dark _ h0 e2 ((left_log h hf hr j).mono (by omega) (Nat.le_refl _) (.inl rfl))
  · cases hl : x.logged with
    | none => rw [seal_none hb (h.nolg hl)]; exact .no 1 (by decide) (by decide)
    | some l =>
      obtain ⟨h1, h2, h3, h4, h5⟩ := h.lgs l hl
      rcases p_seal hp hv hb h2 (by omega) (by show v.used + (2 * l.length + 1) ≤ _; omega) (cmtP_length h3) hkl with ⟨D', e1, e2, e3⟩ | ⟨h0, D', e1, e2⟩
      · rw [e1]
        refine .good _ base ⟨rfl, rfl, rfl, Nat.le_succ _⟩ e2 ?_ e3 (fun _ => rfl) (fun q => by omega)
        exact live_seal h hl
      · rw [e1]
        exact .dark _ h0 e2 ((h.left 2).mono (by omega) (Nat.le_refl _) (.inl rfl))
  · cases hs : v.sure with
    | true =>
      rw [sync_sure hs]
      exact .good k base ⟨rfl, rfl, rfl, Nat.le_succ _⟩ hp (live_sync0 h hs) (by unfold opsOf; rw [hs]; exact Fol.refl s D) (fun _ => rfl) (fun q => by omega)
    | false =>
      rcases p_sync hp hv hb hs with ⟨D', e1, e2, e3⟩ | ⟨h0, D', e1, e2⟩
      · rw [e1]
        exact .good _ base ⟨rfl, rfl, rfl, Nat.le_succ _⟩ e2 (live_sync h hs) (by unfold opsOf; rw [hs]; exact e3) (fun _ => rfl) (fun q => by omega)
      · rw [e1]
        exact .dark _ h0 e2 ((h.left 3).mono (by omega) (Nat.le_refl _) (.inl rfl))
  · exact hE _ (Nat.le_succ _) 4 (.inl rfl) rfl rfl
  · exact hE _ (Nat.le_refl _) 5 (.inr rfl) rfl rfl
  · rename_i k1 k2 k3 k4 k5
    have e1 : x.does kind ps = x := by
      unfold LifeD.does
      split <;> first | rfl | (exfalso; simp_all)
    have e2 : opsOf v kind ps = [] := by
      unfold opsOf
      split <;> first | rfl | (exfalso; simp_all)
    refine .good k base ⟨rfl, rfl, by rw [if_neg (fun q => k2 q)], Nat.le_succ _⟩ hp (by rw [e1]; exact h) (by rw [e2]; exact Fol.refl s D) (fun _ => rfl) (fun q1 q2 => ?_)
    exact absurd (show kind = 4 ∨ kind = 5 by omega) (fun q => q.elim k4 k5)
end Go.Proofs.YtlojjlbngnaphaaGreat

/-! Text Uj. -/
/- A new journal, plainly; the arguments of the journal's laws. -/
set_option maxRecDepth 8000
set_option linter.unusedVariables false
set_option linter.unusedSimpArgs false
set_option linter.unusedSectionVars false
namespace Go.Proofs.YtlojjlbngnaphaaGreat
open Go.RowKit Go.Sl
attribute [local irreducible] Own

theorem new_pw {l : List Int} {s m : Nat} (h : l[s]? = some (m : Int)) (h0 : 0 < m) : Pw (BayD.new l) s (DiskD.blank m) := by
  refine ⟨?_, rfl, rfl, by show (-1 : Int) ≤ -1 ∧ (-1 : Int) ≤ 9223372036854775807; decide⟩
  show (l.map slotOf)[s]? = _
  rw [List.getElem?_map, h]
  show some (slotOf (m : Int)) = _
  unfold slotOf
  rw [if_neg (by omega), Int.toNat_natCast]
theorem full_same {N : Nat} {z : List UInt8} : ∀ (R : List (Nat × List UInt8)), (∀ x ∈ R, x.2 = z) → full (List.replicate N z) R = List.replicate N z
  | [], _ => rfl
  | x :: r, h => by
    show full ((List.replicate N z).set x.1 x.2) r = _
    rw [h x (.head _), List.set_replicate_self]
    exact full_same r (fun y hy => h y (.tail _ hy))
theorem zero_noCmt : noCmt zeroSec := (dec_nought (by decide)).2
/-- A new journal on a new disk. -/
theorem fresh_live {D : BayD} {s n N epoch : Nat} (hp : Pw D s (DiskD.blank N)) (hn : 5 ≤ n ∧ n ≤ 2048) (hN : 2 + n ≤ N) (he : epoch ≤ 4611686018427387904) (ht : D.trip = -1) :
    ∃ D' k', wFormat D (s : Int) (n : Int) epoch = ((some (fresh0 (s : Int) epoch n), 0), D') ∧ Pw D' s k' ∧ LiveX (fresh0 (s : Int) epoch n) k' 1 ⟨[], 0, none⟩ ∧ Fol s (List.replicate n 1 ++ [1, 2]) D D' := by
  have hs : sizedB (n : Int) = true := decide_eq_true ⟨by omega, by omega⟩
  obtain ⟨Z, hZ⟩ : ∃ Z : List (Nat × List UInt8), Z = (List.range n).map fun p => (2 + p, zeroSec) := ⟨_, rfl⟩
  have hzl : zeroL n = castL Z := by rw [hZ]; unfold zeroL castL; rw [List.map_map]; rfl
  have hzn : Z.length = n := by rw [hZ]; simp
  have hzz : ∀ x ∈ Z, x.2 = zeroSec := by intro x hx; rw [hZ] at hx; obtain ⟨p, _, rfl⟩ := List.mem_map.1 hx; rfl
  have hzb : ∀ x ∈ Z, x.1 < (DiskD.blank N).last.length ∧ x.2.length = 128 := by
    intro x hx
    rw [hZ] at hx
    obtain ⟨p, hq, rfl⟩ := List.mem_map.1 hx
    have := List.mem_range.1 hq
    refine ⟨?_, rfl⟩
    show 2 + p < (List.replicate N zeroSec).length
    rw [List.length_replicate]; omega
  have hg : (ChkD.mk epoch 1 0).good := ⟨⟨he, Nat.le_refl _, by show 1 ≤ 4611686018427387904; decide⟩, Int.le_refl _, by show (0 : Int) ≤ 2047; decide⟩
  have hbl : (DiskD.blank N).last.length = N := by show (List.replicate N zeroSec).length = N; rw [List.length_replicate]
  rcases p_many (v := fresh0 (s : Int) epoch n) rfl rfl Z hp hzb with ⟨D1, e1, e2, e3⟩ | ⟨h0, _⟩
  rotate_left
  · exact absurd ht h0
  rcases p_check (v := fresh0 (s : Int) epoch n) (c := ⟨epoch, 1, 0⟩) e2 rfl rfl hg (by show 1 < (DiskD.blank N).last.length; omega) with ⟨D2, f1, f2, f3⟩ | ⟨h0, _⟩
  rotate_left
  · exact absurd (e3.calm ht) h0
  have ek : ((((DiskD.blank N).writes Z).writes [(1, (ChkD.mk epoch 1 0).enc.2)]).settle fun _ => true) = ⟨(List.replicate N zeroSec).set 1 (ChkD.mk epoch 1 0).enc.2, [], false⟩ := by
    rw [settle_full]
    show DiskD.mk (full (List.replicate N zeroSec) (([] ++ Z) ++ [(1, (ChkD.mk epoch 1 0).enc.2)])) [] false = _
    rw [full_append, List.nil_append, full_same Z hzz]; rfl
  rw [ek] at f2
  refine ⟨D2, _, ?_, f2, ?_, by have := e3.trans f3; rwa [hzn] at this⟩
  · unfold wFormat
    rw [if_neg (by rintro (q | q); rw [hs] at q; cases q; omega), Int.toNat_natCast, hzl, e1]
    dsimp only
    rw [if_neg (by simp), f1]
    dsimp only
    rw [if_neg (by simp)]
  · have hl1 : ((List.replicate N zeroSec).set 1 (ChkD.mk epoch 1 0).enc.2).length = N := by rw [List.length_set, List.length_replicate]
    have hr : Rep n epoch 1 0 [] ((List.replicate N zeroSec).set 1 (ChkD.mk epoch 1 0).enc.2) := by
      refine ⟨mem_set128 (fun x hx => ?_) ?_, hn, by omega, by rw [List.getElem?_set_self (by rw [List.length_replicate]; omega)]; rfl, ⟨he, by decide, by decide⟩, by omega, ⟨fun k hk => absurd hk (Nat.not_lt_zero k), Nat.zero_le _, fun j hj => absurd hj (Nat.not_lt_zero j)⟩, ?_⟩
      · rw [List.eq_of_mem_replicate hx]; rfl
      · rw [chk_ok hg]; exact sectF_length _ _ _ _ (chk_sum _)
      · intro i hi c hc
        rw [sf_set (by rw [List.length_replicate]; omega), if_neg (by omega)] at hc
        have : sf (List.replicate N zeroSec) i = zeroSec := by
          unfold sf; rw [List.getElem?_replicate, if_pos (by omega)]; rfl
        rw [this] at hc
        exact absurd (by rw [hc]) zero_noCmt
    exact ⟨rfl, rfl, rfl, rfl, Cov.nil rfl (.inr hr), hr, Nat.le_refl _, fun _ => ⟨rfl, rfl⟩, Nat.zero_le _, fun _ => rfl, fun l q => by cases q⟩

/-! ### Arguments -/
structure OpE where
  kind : Int
  n : Int
  x : Option Addr × Nat
  pats : List PatE
  y : Option Addr × Nat
  keep : List Bool
abbrev OpE.cells (o : OpE) : List Value := [.int .i64 o.kind, .int .i64 o.n, .slice o.x.1 o.pats.length o.x.2, .slice o.y.1 o.keep.length o.y.2]
def opsC (l : List OpE) : List Value := l.flatMap OpE.cells
theorem opE_one (p : OpE) : ∀ u ∈ p.cells, u.oneCell' = true := by simp [Value.oneCell']
theorem opsC_get (l : List OpE) (j i : Nat) (h : j < l.length) (hi : i < 4) : (opsC l)[j * 4 + i]? = (l[j].cells)[i]? := flat_at l j i h (fun _ _ => rfl) hi
theorem opsC_at (l : List OpE) (j : Nat) (h : j < l.length) : ((opsC l).drop (j * 4)).take 4 = l[j].cells := flat_part l j h (fun _ _ => rfl)
structure OpE.wf (W : World) (o : OpE) : Prop where
  rd : ∀ R, RdPats W R o.x.1 o.pats
  fit : ∀ p ∈ o.pats, p.fit
  len : o.pats.length ≤ 140737488351232
  keep : RdsA W 1 o.y.1 o.keep.length (bools o.keep)
  klen : o.keep.length ≤ 140737488351232
  nfit : -9223372036854775808 ≤ o.n ∧ o.n ≤ 9223372036854775807
  kfit : -9223372036854775808 ≤ o.kind ∧ o.kind ≤ 9223372036854775807
theorem wop_of {W : World} {cs : List Value} (h : InT Tryz.prog W 37 cs) : ∃ o : OpE, cs = o.cells ∧ o.wf W := by
  have hl := (h.struct_inv Tryz.underlying37).1
  have c4 : Tryz.prog.cellsOf 37 = 4 := by kernel_rfl
  rw [c4] at hl
  match cs, hl with
  | [v0, v1, v2, v3], _ =>
    have ki : Tryz.prog.cellsOf 3 = 1 := by kernel_rfl
    have kp : Tryz.prog.cellsOf 34 = 1 := by kernel_rfl
    have ks : Tryz.prog.cellsOf 35 = 1 := by kernel_rfl
    have g0 : InT Tryz.prog W 3 [v0] := h.field (i := 0) (off := 0) Tryz.underlying37 rfl rfl rfl ki
    have g1 : InT Tryz.prog W 3 [v1] := h.field (i := 1) (off := 1) Tryz.underlying37 rfl rfl rfl ki
    have g2 : InT Tryz.prog W 34 [v2] := h.field (i := 2) (off := 2) Tryz.underlying37 rfl rfl rfl kp
    have g3 : InT Tryz.prog W 35 [v3] := h.field (i := 3) (off := 3) Tryz.underlying37 rfl rfl rfl ks
    obtain ⟨z0, e0, w0⟩ := g0.int_inv Tryz.underlying3
    obtain ⟨z1, e1, w1⟩ := g1.int_inv Tryz.underlying3
    obtain ⟨ao, n, cap, _, e2, _⟩ := g2.slice_inv Tryz.underlying34
    obtain ⟨bo, m, bcap, _, e3, _⟩ := g3.slice_inv Tryz.underlying35
    rw [e2] at g2
    rw [e3] at g3
    obtain ⟨l, rfl, q1, q2, q3, q4⟩ := pats_of g2
    obtain ⟨kl, rfl, r1, r2⟩ := bools_of g3
    cases e0; cases e1; cases e2; cases e3
    exact ⟨⟨z0, z1, (ao, cap), l, (bo, bcap), kl⟩, rfl, ⟨q1, q2, q3, r1, r2, i64_of w1, i64_of w0⟩⟩
/-- A script that can be read. -/
structure RdOps (W : World) (ao : Option Addr) (l : List OpE) : Prop where
  rds : ∀ R, Rds W R 4 ao l.length (opsC l)
  each : ∀ o ∈ l, o.wf W
  len : l.length ≤ 140737488351232
theorem wops_of {W : World} {ao : Option Addr} {n cap : Nat} (h : InT Tryz.prog W 22 [.slice ao n cap]) : ∃ l : List OpE, l.length = n ∧ RdOps W ao l := by
  obtain ⟨l, h1, h2, h3, h4, h5⟩ := h.list OpE.cells (OpE.wf W) ⟨0, 0, (none, 0), [], (none, 0), []⟩ Tryz.underlying22 (by kernel_rfl) (fun o _ => opE_one o) (fun cs hc => wop_of hc)
  have b1 : 1 ≤ Tryz.prog.bytesOf 37 := of_decide_eq_true (by kernel_rfl)
  have hb : cap ≤ reachBytes := Nat.le_trans (Nat.le_mul_of_pos_right cap b1) h5
  refine ⟨l, h1, ⟨fun R => ?_, h3, by simp only [reachBytes] at hb; omega⟩⟩
  rw [h1]; exact h2 R
/-- Where it is not much. -/
structure FewO (l : List OpE) : Prop where
  len : l.length ≤ 5000
  each : ∀ o ∈ l, o.pats.length ≤ 5000 ∧ o.keep.length ≤ 5000
theorem wmuch_ok {W : World} {R : List SProp} {ao : Option Addr} {cap : Nat} {l : List OpE} (hbs : RdOps W ao l) :
    Does W Tryz.prog 12 [.slice ao l.length cap] R (β := Bool) (fun b => b = false → FewO l) (fun b => .bool b) (fun _ => R) := by
  (refine Does.enter Tryz.func12 Tryz.ntmps12 rfl rfl ?_)
  (refine w ?_; repeat ((first | refine VO.step rfl rfl ?_ | refine VD.end rfl rfl rfl ?_ | refine VD.mid rfl rfl rfl ?_); refine OpV.box rfl rfl rfl ?_; intro _; refine w ?_))
  have hll := hbs.len
  refine VC.loop (α := Nat × Nat) (fun y => y.1 ≤ l.length ∧ y.1 ≤ y.2 ∧ y.2 ≤ 1407374883512320 ∧ ∀ x ∈ l.take y.1, x.pats.length ≤ y.2 ∧ x.keep.length ≤ y.2) (fun _ => R) (fun y => [(0, .slice ao l.length cap), (3, .int .i64 y.2), (4, .int .i64 y.1)]) (fun y => l.length - y.1) rfl (0, 0) ⟨Nat.zero_le _, Nat.le_refl _, by simp only; omega, by simp⟩ Ent.refl ⟨rfl, rfl, rfl, trivial⟩ ?_
  rintro ⟨i, n⟩ ⟨hi, h1, h2, h3⟩
  dsimp only at hi h1 h2 h3 ⊢
  (refine w ?_; repeat ((first | refine VO.step rfl rfl ?_ | refine VD.end rfl rfl rfl ?_ | refine VD.mid rfl rfl rfl ?_); refine OpV.box rfl rfl rfl ?_; intro _; refine w ?_))
  ((first | refine VO.split rfl rfl rfl ?_ ?_ | refine VD.split rfl rfl rfl ?_ ?_) <;> intro hb)
  · have hlt : i < l.length := by have := of_decide_eq_true hb; omega
    have hr := hbs.rds R
    obtain ⟨a, rfl⟩ := some_of_pos hr.nil (by omega)
    have hw := hbs.each _ (List.getElem_mem hlt)
    have hpl := hw.len
    have hkl := hw.klen
    (refine w ?_; repeat ((first | refine VO.step rfl rfl ?_ | refine VD.end rfl rfl rfl ?_ | refine VD.mid rfl rfl rfl ?_); refine OpV.box rfl rfl rfl ?_; intro _; refine w ?_))
    (refine VC.cond rfl rfl ?_ ?_ <;> intro hc)
    · have hle : n ≤ 5000 := by have := of_decide_eq_true hc; omega
      (refine w ?_; repeat ((first | refine VO.step rfl rfl ?_ | refine VD.end rfl rfl rfl ?_ | refine VD.mid rfl rfl rfl ?_); refine OpV.box rfl rfl rfl ?_; intro _; refine w ?_))
      ((refine VC.quiet rfl (by kernel_rfl) (by kernel_rfl) ?_); (refine w ?_; repeat ((first | refine VO.step rfl rfl ?_ | refine VD.end rfl rfl rfl ?_ | refine VD.mid rfl rfl rfl ?_); refine OpV.box rfl rfl rfl ?_; intro _; refine w ?_)))
      (first | refine VO.pure rfl rfl (PureAt.ldRc tab_ok rfl rfl hr (opsC_get l i 2 hlt (by decide))) rfl ?_ | refine VD.take rfl rfl rfl (PureAt.ldRc tab_ok rfl rfl hr (opsC_get l i 2 hlt (by decide))) rfl ?_ | refine VQ.pure rfl rfl (PureAt.ldRc tab_ok rfl rfl hr (opsC_get l i 2 hlt (by decide))) rfl ?_ | refine VD.end rfl rfl rfl (OpV.pure (PureAt.ldRc tab_ok rfl rfl hr (opsC_get l i 2 hlt (by decide))) rfl ?_))
      (refine w ?_; repeat ((first | refine VO.step rfl rfl ?_ | refine VD.end rfl rfl rfl ?_ | refine VD.mid rfl rfl rfl ?_); refine OpV.box rfl rfl rfl ?_; intro _; refine w ?_))
      (first | refine VO.pure rfl rfl (PureAt.ldRc tab_ok rfl rfl hr (opsC_get l i 3 hlt (by decide))) rfl ?_ | refine VD.take rfl rfl rfl (PureAt.ldRc tab_ok rfl rfl hr (opsC_get l i 3 hlt (by decide))) rfl ?_ | refine VQ.pure rfl rfl (PureAt.ldRc tab_ok rfl rfl hr (opsC_get l i 3 hlt (by decide))) rfl ?_ | refine VD.end rfl rfl rfl (OpV.pure (PureAt.ldRc tab_ok rfl rfl hr (opsC_get l i 3 hlt (by decide))) rfl ?_))
      (refine w ?_; repeat ((first | refine VO.step rfl rfl ?_ | refine VD.end rfl rfl rfl ?_ | refine VD.mid rfl rfl rfl ?_); refine OpV.box rfl rfl rfl ?_; intro _; refine w ?_))
      refine VC.re 3 (.int .i64 ((n + (1 + l[i].pats.length + l[i].keep.length) : Nat) : Int)) rfl (by congr 1) ?_
      (refine w ?_; repeat ((first | refine VO.step rfl rfl ?_ | refine VD.end rfl rfl rfl ?_ | refine VD.mid rfl rfl rfl ?_); refine OpV.box rfl rfl rfl ?_; intro _; refine w ?_))
      refine VC.loop (α := Nat × Nat) (fun y => y.1 ≤ l[i].pats.length ∧ n + (1 + l[i].pats.length + l[i].keep.length) ≤ y.2 ∧ y.2 ≤ 1407374883512320) (fun _ => R) (fun y => [(0, .slice (some a) l.length cap), (3, .int .i64 y.2), (4, .int .i64 i), (5, .int .i64 y.1)]) (fun y => l[i].pats.length - y.1) rfl (0, n + (1 + l[i].pats.length + l[i].keep.length)) ⟨Nat.zero_le _, Nat.le_refl _, by simp only; omega⟩ Ent.refl ⟨rfl, rfl, rfl, rfl, trivial⟩ ?_
      rintro ⟨k, m⟩ ⟨hk, g1, g2⟩
      dsimp only at hk g1 g2 ⊢
      (refine w ?_; repeat ((first | refine VO.step rfl rfl ?_ | refine VD.end rfl rfl rfl ?_ | refine VD.mid rfl rfl rfl ?_); refine OpV.box rfl rfl rfl ?_; intro _; refine w ?_))
      (first | refine VO.pure rfl rfl (PureAt.ldRc tab_ok rfl rfl hr (opsC_get l i 2 hlt (by decide))) rfl ?_ | refine VD.take rfl rfl rfl (PureAt.ldRc tab_ok rfl rfl hr (opsC_get l i 2 hlt (by decide))) rfl ?_ | refine VQ.pure rfl rfl (PureAt.ldRc tab_ok rfl rfl hr (opsC_get l i 2 hlt (by decide))) rfl ?_ | refine VD.end rfl rfl rfl (OpV.pure (PureAt.ldRc tab_ok rfl rfl hr (opsC_get l i 2 hlt (by decide))) rfl ?_))
      (refine w ?_; repeat ((first | refine VO.step rfl rfl ?_ | refine VD.end rfl rfl rfl ?_ | refine VD.mid rfl rfl rfl ?_); refine OpV.box rfl rfl rfl ?_; intro _; refine w ?_))
      have hend : ∀ x ∈ l.take (i + 1), x.pats.length ≤ m ∧ x.keep.length ≤ m := by
        intro x hx
        rw [List.take_succ_eq_append_getElem hlt, List.mem_append, List.mem_singleton] at hx
        rcases hx with h | h
        · have := h3 x h; omega
        · subst h; omega
      ((first | refine VO.split rfl rfl rfl ?_ ?_ | refine VD.split rfl rfl rfl ?_ ?_) <;> intro hb)
      · have hkt : k < l[i].pats.length := by have := of_decide_eq_true hb; omega
        have hrp := hw.rd R
        obtain ⟨pa, hpa⟩ := some_of_pos hrp.rds.nil (by omega)
        rw [hpa] at hrp
        have hfl := (hw.fit _ (List.getElem_mem hkt)).len
        (refine w ?_; repeat ((first | refine VO.step rfl rfl ?_ | refine VD.end rfl rfl rfl ?_ | refine VD.mid rfl rfl rfl ?_); refine OpV.box rfl rfl rfl ?_; intro _; refine w ?_))
        (refine VC.cond rfl rfl ?_ ?_ <;> intro hc)
        · have hle2 : m ≤ 5000 := by have := of_decide_eq_true hc; omega
          (refine w ?_; repeat ((first | refine VO.step rfl rfl ?_ | refine VD.end rfl rfl rfl ?_ | refine VD.mid rfl rfl rfl ?_); refine OpV.box rfl rfl rfl ?_; intro _; refine w ?_))
          (first | refine VO.pure rfl rfl (PureAt.ldRc tab_ok rfl rfl hr (show (opsC l)[i * 4 + 2]? = some (.slice (some pa) l[i].pats.length l[i].x.2) by rw [opsC_get l i 2 hlt (by decide), ← hpa]; rfl)) rfl ?_ | refine VD.take rfl rfl rfl (PureAt.ldRc tab_ok rfl rfl hr (show (opsC l)[i * 4 + 2]? = some (.slice (some pa) l[i].pats.length l[i].x.2) by rw [opsC_get l i 2 hlt (by decide), ← hpa]; rfl)) rfl ?_ | refine VQ.pure rfl rfl (PureAt.ldRc tab_ok rfl rfl hr (show (opsC l)[i * 4 + 2]? = some (.slice (some pa) l[i].pats.length l[i].x.2) by rw [opsC_get l i 2 hlt (by decide), ← hpa]; rfl)) rfl ?_ | refine VD.end rfl rfl rfl (OpV.pure (PureAt.ldRc tab_ok rfl rfl hr (show (opsC l)[i * 4 + 2]? = some (.slice (some pa) l[i].pats.length l[i].x.2) by rw [opsC_get l i 2 hlt (by decide), ← hpa]; rfl)) rfl ?_))
          (refine w ?_; repeat ((first | refine VO.step rfl rfl ?_ | refine VD.end rfl rfl rfl ?_ | refine VD.mid rfl rfl rfl ?_); refine OpV.box rfl rfl rfl ?_; intro _; refine w ?_))
          (first | refine VO.pure rfl rfl (PureAt.ldRc tab_ok rfl rfl hrp.rds (pat_get l[i].pats k 2 hkt (by decide))) rfl ?_ | refine VD.take rfl rfl rfl (PureAt.ldRc tab_ok rfl rfl hrp.rds (pat_get l[i].pats k 2 hkt (by decide))) rfl ?_ | refine VQ.pure rfl rfl (PureAt.ldRc tab_ok rfl rfl hrp.rds (pat_get l[i].pats k 2 hkt (by decide))) rfl ?_ | refine VD.end rfl rfl rfl (OpV.pure (PureAt.ldRc tab_ok rfl rfl hrp.rds (pat_get l[i].pats k 2 hkt (by decide))) rfl ?_))
          (refine w ?_; repeat ((first | refine VO.step rfl rfl ?_ | refine VD.end rfl rfl rfl ?_ | refine VD.mid rfl rfl rfl ?_); refine OpV.box rfl rfl rfl ?_; intro _; refine w ?_))
          (first | refine VO.pure rfl rfl (PureAt.quo (a := l[i].pats[k].d.data.length) (b := 64) rfl rfl (by decide) (IntWalk.i64_in _ ⟨by omega, by omega⟩)) rfl ?_ | refine VD.take rfl rfl rfl (PureAt.quo (a := l[i].pats[k].d.data.length) (b := 64) rfl rfl (by decide) (IntWalk.i64_in _ ⟨by omega, by omega⟩)) rfl ?_ | refine VQ.pure rfl rfl (PureAt.quo (a := l[i].pats[k].d.data.length) (b := 64) rfl rfl (by decide) (IntWalk.i64_in _ ⟨by omega, by omega⟩)) rfl ?_ | refine VD.end rfl rfl rfl (OpV.pure (PureAt.quo (a := l[i].pats[k].d.data.length) (b := 64) rfl rfl (by decide) (IntWalk.i64_in _ ⟨by omega, by omega⟩)) rfl ?_))
          (refine w ?_; repeat ((first | refine VO.step rfl rfl ?_ | refine VD.end rfl rfl rfl ?_ | refine VD.mid rfl rfl rfl ?_); refine OpV.box rfl rfl rfl ?_; intro _; refine w ?_))
          refine VE.round (k + 1, m + l[i].pats[k].d.data.length / 64) ⟨hkt, by simp only; omega, by simp only; omega⟩ (by simp only; omega) ⟨rfl, asV rfl (by congr 1), rfl, asV rfl (by congr 1), trivial⟩ Ent.refl
        · (refine w ?_; repeat ((first | refine VO.step rfl rfl ?_ | refine VD.end rfl rfl rfl ?_ | refine VD.mid rfl rfl rfl ?_); refine OpV.box rfl rfl rfl ?_; intro _; refine w ?_))
          refine VE.round (i + 1, m) ⟨hlt, by simp only; omega, by simp only; omega, hend⟩ (by simp only; omega) ⟨rfl, rfl, asV rfl (by congr 1), trivial⟩ Ent.refl
      · (refine w ?_; repeat ((first | refine VO.step rfl rfl ?_ | refine VD.end rfl rfl rfl ?_ | refine VD.mid rfl rfl rfl ?_); refine OpV.box rfl rfl rfl ?_; intro _; refine w ?_))
        (refine w ?_; repeat ((first | refine VO.step rfl rfl ?_ | refine VD.end rfl rfl rfl ?_ | refine VD.mid rfl rfl rfl ?_); refine OpV.box rfl rfl rfl ?_; intro _; refine w ?_))
        refine VE.round (i + 1, m) ⟨hlt, by simp only; omega, by simp only; omega, hend⟩ (by simp only; omega) ⟨rfl, rfl, asV rfl (by congr 1), trivial⟩ Ent.refl
    · have hgt : 5000 < n := by have := of_decide_eq_false hc; omega
      (refine w ?_; repeat ((first | refine VO.step rfl rfl ?_ | refine VD.end rfl rfl rfl ?_ | refine VD.mid rfl rfl rfl ?_); refine OpV.box rfl rfl rfl ?_; intro _; refine w ?_))
      refine VE.done true rfl (by simp) (by congr 1; simp; omega) Ent.refl
  · have hge : i = l.length := by have := of_decide_eq_false hb; omega
    subst hge
    rw [List.take_length] at h3
    (refine w ?_; repeat ((first | refine VO.step rfl rfl ?_ | refine VD.end rfl rfl rfl ?_ | refine VD.mid rfl rfl rfl ?_); refine OpV.box rfl rfl rfl ?_; intro _; refine w ?_))
    (refine w ?_; repeat ((first | refine VO.step rfl rfl ?_ | refine VD.end rfl rfl rfl ?_ | refine VD.mid rfl rfl rfl ?_); refine OpV.box rfl rfl rfl ?_; intro _; refine w ?_))
    refine VE.done (decide (5000 < n)) rfl (fun q => ?_) (by congr 1; rw [decide_eq_decide]; omega) Ent.refl
    have hq : ¬ 5000 < n := of_decide_eq_false q
    exact ⟨by omega, fun p hp => by have := h3 p hp; omega⟩
end Go.Proofs.YtlojjlbngnaphaaGreat

/-! Text Uk. -/
/- The journal's laws: a call, a new journal, a sector: walked. -/
set_option maxRecDepth 8000
set_option linter.unusedVariables false
set_option linter.unusedSimpArgs false
set_option linter.unusedSectionVars false
namespace Go.Proofs.YtlojjlbngnaphaaGreat
open Go.RowKit Go.Sl
attribute [local irreducible] Own

theorem wMany_capd : ∀ (L : List (Int × List UInt8)) {s : WS} {c : Nat}, s.2.capd c → (wMany s L).2.2.capd (c + L.length)
  | [], s, c, h => h
  | x :: r, s, c, h => by
    have h1 := wWrite_capd h x.1 x.2
    unfold wMany
    rw [List.length_cons]
    split
    · exact h1.mono (by omega)
    · have := wMany_capd r (c := c + 1) h1
      exact this.mono (by omega)
theorem wCheck_capd {s : WS} {c : Nat} (h : s.2.capd c) (k : ChkD) : (wCheck s k).2.2.capd (c + 2) := by
  unfold wCheck
  split
  · exact h.mono (by omega)
  · split
    · exact (wWrite_capd h _ _).mono (by omega)
    · exact wFlush_capd (wWrite_capd h _ _)
theorem wDo_capd {v : WalD} {D : BayD} {c : Nat} (h : D.capd c) (kind : Nat) (ps : List PatD) : (wDo (v, D) kind ps).2.2.capd (c + 4100) := by
  have hE : ∀ e, (wEmpty (v, D) e).2.2.capd (c + 4100) := by
    intro e
    have h1 := wCheck_capd (s := (v, D)) h ⟨e, v.next, v.head⟩
    unfold wEmpty
    dsimp only
    split
    · exact h.mono (by omega)
    · split
      · exact h.mono (by omega)
      · split
        · exact h1.mono (by omega)
        · exact h1.mono (by omega)
  unfold wDo
  split
  · unfold wLog
    dsimp only
    split
    · exact h.mono (by omega)
    · split
      · exact h.mono (by omega)
      · rename_i h1
        have hf := secs_ok (Decidable.of_not_not h1)
        have hn := hf.n2
        rw [secs_fine hf]
        dsimp only
        split
        · exact h.mono (by omega)
        · split
          · exact h.mono (by omega)
          · have hl : (placed v (rowsP v.epoch v.next ps).dropLast).length ≤ 2046 := by
              rw [← cast_placed]; unfold castL; rw [List.length_map, placedN_length, rowsP_dropLast, pairsP_length]; omega
            have h2 := wMany_capd (placed v (rowsP v.epoch v.next ps).dropLast) (s := (v, D)) h
            unfold logW
            dsimp only
            split
            · exact h2.mono (by omega)
            · have h3 := wFlush_capd h2
              split
              · exact h3.mono (by omega)
              · exact h3.mono (by omega)
  · unfold wSeal
    dsimp only
    split
    · exact h.mono (by omega)
    · split
      · exact h.mono (by omega)
      · have h1 := fun a l => wWrite_capd (s := (v, D)) h a l
        split
        · exact (h1 _ _).mono (by omega)
        · split
          · exact (h1 _ _).mono (by omega)
          · exact (h1 _ _).mono (by omega)
  · unfold wSync
    dsimp only
    split
    · exact h.mono (by omega)
    · exact (wFlush_capd (s := (v, D)) h).mono (by omega)
  · exact hE _
  · exact hE _
  · exact h.mono (by omega)
set_option maxHeartbeats 2000000 in
theorem calls_ok {W : World} {R : List SProp} {D : BayD} {c0 : Nat} (wp b : Nat) (v : WalD) (hv : v.ok) (hcp : D.capd c0) (hc0 : c0 ≤ 999990000) (o : OpE) (ho : o.wf W) :
    Does1 W Tryz.prog 16 [.pointer (some ⟨wp, 0, none⟩), .agg o.cells.toArray] (WalR wp b v :: BayR b D :: R) (.int .u16 (wDo (v, D) o.kind.toNat (o.pats.map PatE.D)).1)
      (WalR wp b (wDo (v, D) o.kind.toNat (o.pats.map PatE.D)).2.1 :: BayR b (wDo (v, D) o.kind.toNat (o.pats.map PatE.D)).2.2 :: R) := by
  have hkf := ho.kfit
  (refine Does.enter Tryz.func16 Tryz.ntmps16 rfl rfl ?_)
  (refine w ?_; repeat ((first | refine VO.step rfl rfl ?_ | refine VD.end rfl rfl rfl ?_ | refine VD.mid rfl rfl rfl ?_); refine OpV.box rfl rfl rfl ?_; intro _; refine w ?_))
  rename_i bo
  (refine w ?_; repeat ((first | refine VO.step rfl rfl ?_ | refine VD.end rfl rfl rfl ?_ | refine VD.mid rfl rfl rfl ?_); refine OpV.box rfl rfl rfl ?_; intro _; refine w ?_))
  (refine VC.cond rfl rfl ?_ ?_ <;> intro hc)
  · have hk : o.kind = 1 := by simpa using hc
    have ek : wDo (v, D) o.kind.toNat (o.pats.map PatE.D) = wLog (v, D) (o.pats.map PatE.D) := by rw [hk]; rfl
    rw [ek]
    (refine w ?_; repeat ((first | refine VO.step rfl rfl ?_ | refine VD.end rfl rfl rfl ?_ | refine VD.mid rfl rfl rfl ?_); refine OpV.box rfl rfl rfl ?_; intro _; refine w ?_))
    refine VO.ent (Ent.re (L := WalR wp b v :: BayR b D :: Row bo 37 o.cells :: R)) ?_
    ((first | refine VO.step rfl rfl ?_ | refine VD.end rfl rfl rfl ?_ | refine VD.mid rfl rfl rfl ?_); refine OpV.call rfl rfl (fun _ _ => by simp) (wallog_ok wp b v hv hcp hc0 (ho.rd _) ho.fit ho.len) Ent.refl rfl ?_)
    intro _ _
    (refine w ?_; repeat ((first | refine VO.step rfl rfl ?_ | refine VD.end rfl rfl rfl ?_ | refine VD.mid rfl rfl rfl ?_); refine OpV.box rfl rfl rfl ?_; intro _; refine w ?_))
    exact VE.done1 rfl rfl Ent.re
  have k1 : o.kind ≠ 1 := by simpa using hc
  (refine w ?_; repeat ((first | refine VO.step rfl rfl ?_ | refine VD.end rfl rfl rfl ?_ | refine VD.mid rfl rfl rfl ?_); refine OpV.box rfl rfl rfl ?_; intro _; refine w ?_))
  (refine VC.cond rfl rfl ?_ ?_ <;> intro hc)
  · have hk : o.kind = 2 := by simpa using hc
    have ek : wDo (v, D) o.kind.toNat (o.pats.map PatE.D) = wSeal (v, D) := by rw [hk]; rfl
    rw [ek]
    (refine w ?_; repeat ((first | refine VO.step rfl rfl ?_ | refine VD.end rfl rfl rfl ?_ | refine VD.mid rfl rfl rfl ?_); refine OpV.box rfl rfl rfl ?_; intro _; refine w ?_))
    refine VO.ent (Ent.re (L := WalR wp b v :: BayR b D :: Row bo 37 o.cells :: R)) ?_
    ((first | refine VO.step rfl rfl ?_ | refine VD.end rfl rfl rfl ?_ | refine VD.mid rfl rfl rfl ?_); refine OpV.call rfl rfl (fun _ _ => by simp) (walseal_ok wp b v hv hcp hc0) Ent.refl rfl ?_)
    intro _ _
    (refine w ?_; repeat ((first | refine VO.step rfl rfl ?_ | refine VD.end rfl rfl rfl ?_ | refine VD.mid rfl rfl rfl ?_); refine OpV.box rfl rfl rfl ?_; intro _; refine w ?_))
    exact VE.done1 rfl rfl Ent.re
  have k2 : o.kind ≠ 2 := by simpa using hc
  (refine w ?_; repeat ((first | refine VO.step rfl rfl ?_ | refine VD.end rfl rfl rfl ?_ | refine VD.mid rfl rfl rfl ?_); refine OpV.box rfl rfl rfl ?_; intro _; refine w ?_))
  (refine VC.cond rfl rfl ?_ ?_ <;> intro hc)
  · have hk : o.kind = 3 := by simpa using hc
    have ek : wDo (v, D) o.kind.toNat (o.pats.map PatE.D) = wSync (v, D) := by rw [hk]; rfl
    rw [ek]
    (refine w ?_; repeat ((first | refine VO.step rfl rfl ?_ | refine VD.end rfl rfl rfl ?_ | refine VD.mid rfl rfl rfl ?_); refine OpV.box rfl rfl rfl ?_; intro _; refine w ?_))
    refine VO.ent (Ent.re (L := WalR wp b v :: BayR b D :: Row bo 37 o.cells :: R)) ?_
    ((first | refine VO.step rfl rfl ?_ | refine VD.end rfl rfl rfl ?_ | refine VD.mid rfl rfl rfl ?_); refine OpV.call rfl rfl (fun _ _ => by simp) (walsync_ok wp b v) Ent.refl rfl ?_)
    intro _ _
    (refine w ?_; repeat ((first | refine VO.step rfl rfl ?_ | refine VD.end rfl rfl rfl ?_ | refine VD.mid rfl rfl rfl ?_); refine OpV.box rfl rfl rfl ?_; intro _; refine w ?_))
    exact VE.done1 rfl rfl Ent.re
  have k3 : o.kind ≠ 3 := by simpa using hc
  (refine w ?_; repeat ((first | refine VO.step rfl rfl ?_ | refine VD.end rfl rfl rfl ?_ | refine VD.mid rfl rfl rfl ?_); refine OpV.box rfl rfl rfl ?_; intro _; refine w ?_))
  (refine VC.cond rfl rfl ?_ ?_ <;> intro hc)
  · have hk : o.kind = 4 := by simpa using hc
    have ek : wDo (v, D) o.kind.toNat (o.pats.map PatE.D) = wEmpty (v, D) v.epoch := by rw [hk]; rfl
    rw [ek]
    (refine w ?_; repeat ((first | refine VO.step rfl rfl ?_ | refine VD.end rfl rfl rfl ?_ | refine VD.mid rfl rfl rfl ?_); refine OpV.box rfl rfl rfl ?_; intro _; refine w ?_))
    refine VO.ent (Ent.re (L := WalR wp b v :: BayR b D :: Row bo 37 o.cells :: R)) ?_
    ((first | refine VO.step rfl rfl ?_ | refine VD.end rfl rfl rfl ?_ | refine VD.mid rfl rfl rfl ?_); refine OpV.call rfl rfl (fun _ _ => by simp) (walreclaim_ok wp b v hv hcp hc0) Ent.refl rfl ?_)
    intro _ _
    (refine w ?_; repeat ((first | refine VO.step rfl rfl ?_ | refine VD.end rfl rfl rfl ?_ | refine VD.mid rfl rfl rfl ?_); refine OpV.box rfl rfl rfl ?_; intro _; refine w ?_))
    exact VE.done1 rfl rfl Ent.re
  have k4 : o.kind ≠ 4 := by simpa using hc
  (refine w ?_; repeat ((first | refine VO.step rfl rfl ?_ | refine VD.end rfl rfl rfl ?_ | refine VD.mid rfl rfl rfl ?_); refine OpV.box rfl rfl rfl ?_; intro _; refine w ?_))
  (refine VC.cond rfl rfl ?_ ?_ <;> intro hc)
  · have hk : o.kind = 5 := by simpa using hc
    have ek : wDo (v, D) o.kind.toNat (o.pats.map PatE.D) = wEmpty (v, D) (v.epoch + 1) := by rw [hk]; rfl
    rw [ek]
    (refine w ?_; repeat ((first | refine VO.step rfl rfl ?_ | refine VD.end rfl rfl rfl ?_ | refine VD.mid rfl rfl rfl ?_); refine OpV.box rfl rfl rfl ?_; intro _; refine w ?_))
    refine VO.ent (Ent.re (L := WalR wp b v :: BayR b D :: Row bo 37 o.cells :: R)) ?_
    ((first | refine VO.step rfl rfl ?_ | refine VD.end rfl rfl rfl ?_ | refine VD.mid rfl rfl rfl ?_); refine OpV.call rfl rfl (fun _ _ => by simp) (walrenew_ok wp b v hv hcp hc0) Ent.refl rfl ?_)
    intro _ _
    (refine w ?_; repeat ((first | refine VO.step rfl rfl ?_ | refine VD.end rfl rfl rfl ?_ | refine VD.mid rfl rfl rfl ?_); refine OpV.box rfl rfl rfl ?_; intro _; refine w ?_))
    exact VE.done1 rfl rfl Ent.re
  have k5 : o.kind ≠ 5 := by simpa using hc
  have ek : wDo (v, D) o.kind.toNat (o.pats.map PatE.D) = (0, (v, D)) := by
    unfold wDo; split <;> first | omega | rfl
  rw [ek]
  (refine w ?_; repeat ((first | refine VO.step rfl rfl ?_ | refine VD.end rfl rfl rfl ?_ | refine VD.mid rfl rfl rfl ?_); refine OpV.box rfl rfl rfl ?_; intro _; refine w ?_))
  exact VE.done1 rfl rfl Ent.re
def secV (z : UInt8) : List UInt8 := zeroSec.set 7 z
theorem wsector_ok {W : World} {R : List SProp} (z : UInt8) : Does W Tryz.prog 48 [byteV z] R (β := Nat) (fun _ => True) (fun p => .slice (some ⟨p, 0, none⟩) 128 128) (fun p => OwnB (some ⟨p, 0, none⟩, 128) (secV z) :: R) := by
  (refine Does.enter Tryz.func48 Tryz.ntmps48 rfl rfl ?_)
  (refine w ?_; repeat ((first | refine VO.step rfl rfl ?_ | refine VD.end rfl rfl rfl ?_ | refine VD.mid rfl rfl rfl ?_); refine OpV.box rfl rfl rfl ?_; intro _; refine w ?_))
  ((first | refine VO.step rfl rfl ?_ | refine VD.end rfl rfl rfl ?_ | refine VD.mid rfl rfl rfl ?_); refine OpV.makeSlice1 st_68 rfl rfl rfl ?_ ?_ rfl ?_)
  · decide
  · decide
  intro xb
  (refine w ?_; repeat ((first | refine VO.step rfl rfl ?_ | refine VD.end rfl rfl rfl ?_ | refine VD.mid rfl rfl rfl ?_); refine OpV.box rfl rfl rfl ?_; intro _; refine w ?_))
  refine VO.pure rfl rfl (PureAt.indexAddr (a := ⟨xb, 0, none⟩) (m := 128) (cap := 128) (j := 7) tab_ok rfl rfl rfl rfl (by decide)) rfl ?_
  (first | refine VO.step rfl rfl ?_ | refine VD.end rfl rfl rfl ?_ | refine VD.mid rfl rfl rfl ?_)
  refine OpV.stO2 (xs' := bytes (secV z)) tab_ok rfl rfl rfl rfl (by (repeat first | exact .head | apply Hole.tail)) (by simp) (by unfold secV bytes; rw [List.map_set]; rfl) ?_
  (refine w ?_; repeat ((first | refine VO.step rfl rfl ?_ | refine VD.end rfl rfl rfl ?_ | refine VD.mid rfl rfl rfl ?_); refine OpV.box rfl rfl rfl ?_; intro _; refine w ?_))
  exact VE.done xb rfl trivial rfl Ent.re
/-- A new journal, on a bay of two disks. -/
def begD (ring : Nat) : BayD := (wFormat (BayD.new [((2 + ring : Nat) : Int), ((2 + ring : Nat) : Int)]) 0 (ring : Int) 1).2
theorem beg_live {n : Nat} (hn : 5 ≤ n ∧ n ≤ 2048) : (wFormat (BayD.new [((2 + n : Nat) : Int), ((2 + n : Nat) : Int)]) 0 (n : Int) 1).1 = (some (fresh0 0 1 n), 0) ∧
    ∃ k', Pw (begD n) 0 k' ∧ LiveX (fresh0 0 1 n) k' 1 ⟨[], 0, none⟩ ∧ Fol 0 (List.replicate n 1 ++ [1, 2]) (BayD.new [((2 + n : Nat) : Int), ((2 + n : Nat) : Int)]) (begD n) := by
  obtain ⟨D', k', e1, e2, e3, e4⟩ := fresh_live (s := 0) (n := n) (epoch := 1) (new_pw (l := [((2 + n : Nat) : Int), ((2 + n : Nat) : Int)]) (s := 0) (m := 2 + n) rfl (by omega)) hn (Nat.le_refl _) (by decide) rfl
  have e0 : wFormat (BayD.new [((2 + n : Nat) : Int), ((2 + n : Nat) : Int)]) 0 (n : Int) 1 = ((some (fresh0 0 1 n), 0), D') := e1
  unfold begD
  rw [e0]
  exact ⟨rfl, k', e2, e3, e4⟩
theorem format_capd {D : BayD} {c n : Nat} (h : D.capd c) (s : Int) (e : Nat) : (wFormat D s (n : Int) e).2.capd (c + (n + 2)) := by
  have h1 := wMany_capd (zeroL n) (s := (fresh0 s e n, D)) h
  have hl : (zeroL n).length = n := by simp [zeroL]
  rw [hl] at h1
  have h2 := wCheck_capd h1 ⟨e, 1, 0⟩
  unfold wFormat
  rw [Int.toNat_natCast]
  split
  · exact h.mono (by omega)
  · split
    · exact h1.mono (by omega)
    · split
      · exact h2.mono (by omega)
      · exact h2.mono (by omega)
theorem beg_capd (n : Nat) : (begD n).capd (n + 2) := by
  have := format_capd (n := n) (new_capd [((2 + n : Nat) : Int), ((2 + n : Nat) : Int)]) 0 1
  unfold begD; exact this.mono (by omega)
theorem fresh_ok {s : Int} {e n : Nat} (hn : 5 ≤ n ∧ n ≤ 2048) (he : e ≤ 4611686018427387904) : (fresh0 s e n).ok := ⟨⟨hn.1, hn.2, by show 0 < n; omega, Nat.zero_le _⟩, he, ⟨by show 1 ≤ 1; decide, by show 1 ≤ 4611686018427387905; decide⟩, fun g q => by cases q⟩
/-- What begun gives: two pointers, or none. -/
structure BegE where
  b : Nat
  w : Nat
set_option maxHeartbeats 2000000 in
theorem wbegun_ok {W : World} {R : List SProp} (ring : Int) : Does W Tryz.prog 13 [.int .i64 ring] R (β := Option BegE) (fun x => x.isSome = true ↔ 5 ≤ ring ∧ ring ≤ 2048)
    (fun x => .tuple #[.pointer (x.map fun y => ⟨y.b, 0, none⟩), .pointer (x.map fun y => ⟨y.w, 0, none⟩)]) (fun x => x.elim R fun y => WalR y.w y.b (fresh0 0 1 ring.toNat) :: BayR y.b (begD ring.toNat) :: R) := by
  (refine Does.enter Tryz.func13 Tryz.ntmps13 rfl rfl ?_)
  (refine w ?_; repeat ((first | refine VO.step rfl rfl ?_ | refine VD.end rfl rfl rfl ?_ | refine VD.mid rfl rfl rfl ?_); refine OpV.box rfl rfl rfl ?_; intro _; refine w ?_))
  ((first | refine VO.split rfl rfl rfl ?_ ?_ | refine VD.split rfl rfl rfl ?_ ?_) <;> intro hb)
  · have h5 : ring < 5 := by have := of_decide_eq_true hb; omega
    (refine w ?_; repeat ((first | refine VO.step rfl rfl ?_ | refine VD.end rfl rfl rfl ?_ | refine VD.mid rfl rfl rfl ?_); refine OpV.box rfl rfl rfl ?_; intro _; refine w ?_))
    (refine w ?_; repeat ((first | refine VO.step rfl rfl ?_ | refine VD.end rfl rfl rfl ?_ | refine VD.mid rfl rfl rfl ?_); refine OpV.box rfl rfl rfl ?_; intro _; refine w ?_))
    exact VE.done none rfl (by simp; omega) rfl Ent.refl
  · have h5 : 5 ≤ ring := by have := of_decide_eq_false hb; omega
    (refine w ?_; repeat ((first | refine VO.step rfl rfl ?_ | refine VD.end rfl rfl rfl ?_ | refine VD.mid rfl rfl rfl ?_); refine OpV.box rfl rfl rfl ?_; intro _; refine w ?_))
    (refine VC.cond rfl rfl ?_ ?_ <;> intro hc)
    · have h6 : 2048 < ring := by have := of_decide_eq_true hc; omega
      (refine w ?_; repeat ((first | refine VO.step rfl rfl ?_ | refine VD.end rfl rfl rfl ?_ | refine VD.mid rfl rfl rfl ?_); refine OpV.box rfl rfl rfl ?_; intro _; refine w ?_))
      exact VE.done none rfl (by simp; omega) rfl Ent.refl
    have h6 : ring ≤ 2048 := by have := of_decide_eq_false hc; omega
    obtain ⟨n, rfl⟩ : ∃ n : Nat, ring = n := ⟨ring.toNat, by omega⟩
    rw [Int.toNat_natCast]
    have hbd := beg_live (n := n) ⟨by omega, by omega⟩
    (refine w ?_; repeat ((first | refine VO.step rfl rfl ?_ | refine VD.end rfl rfl rfl ?_ | refine VD.mid rfl rfl rfl ?_); refine OpV.box rfl rfl rfl ?_; intro _; refine w ?_))
    refine VO.re 16 (.int .i64 ((2 + n : Nat) : Int)) rfl (by congr 1) ?_
    refine VO.re 18 (.int .i64 ((2 + n : Nat) : Int)) rfl (by congr 1) ?_
    ((first | refine VO.step rfl rfl ?_ | refine VD.end rfl rfl rfl ?_ | refine VD.mid rfl rfl rfl ?_); refine OpV.buildSlice1 st_74 rfl rfl (by first | (simp; done) | simp [Value.oneCell']) (by decide) rfl ?_; intro nb)
    (refine w ?_; repeat ((first | refine VO.step rfl rfl ?_ | refine VD.end rfl rfl rfl ?_ | refine VD.mid rfl rfl rfl ?_); refine OpV.box rfl rfl rfl ?_; intro _; refine w ?_))
    have hr : Rds W (Row nb 3 [.int .i64 ((2 + n : Nat) : Int), .int .i64 ((2 + n : Nat) : Int)] :: R) 1 (some ⟨nb, 0, none⟩) 2 (intsI [((2 + n : Nat) : Int), ((2 + n : Nat) : Int)]) := Rds.row (intsI_one _) (.head _) rfl
    have hE : bayE [((2 + n : Nat) : Int), ((2 + n : Nat) : Int)] = 0 := by
      have : sizeOk ((2 + n : Nat) : Int) = true := decide_eq_true ⟨by omega, by omega⟩
      unfold bayE; rw [if_neg (by simp), if_pos (by rw [List.all_cons, List.all_cons, this]; rfl)]
    ((first | refine VO.step rfl rfl ?_ | refine VD.end rfl rfl rfl ?_ | refine VD.mid rfl rfl rfl ?_); refine OpV.call rfl rfl (fun _ _ => by simp) (baynew_ok (l := [((2 + n : Nat) : Int), ((2 + n : Nat) : Int)]) hr (by simp)) Ent.refl rfl ?_)
    intro x hx
    rw [hE] at hx ⊢
    obtain ⟨b, rfl⟩ : ∃ b, x = some b := by cases x with | none => cases hx | some b => exact ⟨b, rfl⟩
    dsimp only [Option.elim_some]
    (refine w ?_; repeat ((first | refine VO.step rfl rfl ?_ | refine VD.end rfl rfl rfl ?_ | refine VD.mid rfl rfl rfl ?_); refine OpV.box rfl rfl rfl ?_; intro _; refine w ?_))
    refine VO.ent (Ent.re (L := BayR b (BayD.new [((2 + n : Nat) : Int), ((2 + n : Nat) : Int)]) :: R)) ?_
    ((first | refine VO.step rfl rfl ?_ | refine VD.end rfl rfl rfl ?_ | refine VD.mid rfl rfl rfl ?_); refine OpV.call rfl rfl (fun _ _ => by simp) (walformat_ok (epoch := 1) b 0 (n : Int) (by decide) (new_capd _) (by decide)) Ent.refl rfl ?_)
    rw [hbd.1]
    intro y hy
    obtain ⟨wp, rfl⟩ : ∃ w, y = some w := by cases y with | none => cases hy | some w => exact ⟨w, rfl⟩
    dsimp only [Option.elim_some]
    (refine w ?_; repeat ((first | refine VO.step rfl rfl ?_ | refine VD.end rfl rfl rfl ?_ | refine VD.mid rfl rfl rfl ?_); refine OpV.box rfl rfl rfl ?_; intro _; refine w ?_))
    exact VE.done (some ⟨b, wp⟩) rfl (by simp; omega) rfl (by rw [Int.toNat_natCast]; exact Ent.re)
end Go.Proofs.YtlojjlbngnaphaaGreat

/-! Text Ul. -/
/- The journal's laws: what is known of a journal that is there. -/
set_option maxRecDepth 8000
set_option linter.unusedVariables false
set_option linter.unusedSimpArgs false
set_option linter.unusedSectionVars false
namespace Go.Proofs.YtlojjlbngnaphaaGreat
open Go.RowKit Go.Sl
attribute [local irreducible] Own

theorem Live.wok {v : WalD} {k : DiskD} {base : Nat} {x : LifeD} (h : LiveX v k base x) (he : v.epoch ≤ 4611686018427387904) (hn : v.next ≤ 4611686018427387904) (h1 : 1 ≤ base) : v.ok := by
  refine ⟨h.ringok, he, ⟨by have := h.next; omega, by omega⟩, fun g hg => ?_⟩
  cases hl : x.logged with
  | none => rw [h.nolg hl] at hg; cases hg
  | some l =>
    obtain ⟨a, b, c, d, e⟩ := h.lgs l hl
    rw [b] at hg
    injection hg with hg
    subst hg
    have := h.size
    exact ⟨by show 2 * l.length + 1 ≤ 2047; have := c.n2; omega, by show 1 ≤ 2 * l.length + 1; omega, cmtP_length c, hn⟩
theorem settle_one {k : DiskD} (h : k.cache.length ≤ 1) : k.settle (keepOf [true]) = ⟨full k.last k.cache, [], k.failed⟩ := by
  unfold DiskD.settle
  match hq : k.cache, h with
  | [], _ => rfl
  | [x], _ => rfl
theorem map_one {α β : Type} {f : α → β} {l : List α} {a : β} (h : l.map f = [a]) : ∃ t, l = [t] ∧ f t = a := by
  cases l with
  | nil => cases h
  | cons t r =>
    cases r with
    | nil => exact ⟨t, rfl, by simpa using h⟩
    | cons u r => simp at h
def patK : PatD := ⟨1, 2, secV 5⟩
theorem patK_fine : Fine 1 1 [patK] := ⟨⟨by decide, by decide, by decide⟩, by decide, by decide, fun p hp => by
  rw [List.mem_singleton] at hp; subst hp; exact ⟨by decide, by decide, by rfl⟩⟩
section
variable {v : WalD} {k : DiskD} {base : Nat} {x : LifeD} {D : BayD} {s : Nat}
theorem log_on {ps : List PatD} (hp : Pw D s k) (hv : v.slot = (s : Int)) (h : LiveX v k base x) (ht : D.trip = -1) (hf : Fine v.epoch v.next ps) (hr : 2 * ps.length + 1 ≤ v.size - v.used) :
    ∃ v' D' k', wLog (v, D) ps = (0, (v', D')) ∧ Pw D' s k' ∧ LiveX v' k' base (x.does 1 ps) ∧ D'.trip = -1 ∧ v'.slot = v.slot ∧ v'.size = v.size ∧ v'.epoch = v.epoch ∧ v'.tail = v.tail := by
  rcases p_log hp hv h.nob hf hr h.len with ⟨D2, f1, f2, f3⟩ | ⟨h0, _⟩
  · exact ⟨_, D2, _, f1, f2, live_log h hf hr, f3.calm ht, rfl, rfl, rfl, rfl⟩
  · exact absurd ht h0
theorem seal_on {l : List PatD} (hp : Pw D s k) (hv : v.slot = (s : Int)) (h : LiveX v k base x) (ht : D.trip = -1) (hl : x.logged = some l) :
    ∃ v' D' k', wSeal (v, D) = (0, (v', D')) ∧ Pw D' s k' ∧ LiveX v' k' base (x.does 2 []) ∧ D'.trip = -1 ∧ v'.slot = v.slot ∧ v'.size = v.size ∧ v'.epoch = v.epoch ∧ v'.tail = v.tail := by
  obtain ⟨h1, h2, h3, h4, h5⟩ := h.lgs l hl
  have hu := h.used
  have hs := h.size
  rcases p_seal hp hv h.nob h2 (by omega) (by show v.used + (2 * l.length + 1) ≤ _; omega) (cmtP_length h3) h.len with ⟨D2, f1, f2, f3⟩ | ⟨h0, _⟩
  · exact ⟨_, D2, _, f1, f2, live_seal h hl, f3.calm ht, rfl, rfl, rfl, rfl⟩
  · exact absurd ht h0
theorem cut_kept (hp : D.slots[s]? = some ⟨some ⟨k, false, 0⟩, none, none⟩) (h : LiveX v k base x) {kl : List (List Bool)} (hk : kl.getD s [] = [true]) : ∃ k', Pw (D.cut kl) s k' ∧ (D.cut kl).trip = -1 ∧ k'.cache = [] ∧ Rep v.size v.epoch base v.tail x.sealed k'.last := by
  obtain ⟨a, b⟩ := cut_pw hp h.live kl
  rw [hk, settle_one h.cap] at a
  exact ⟨_, a, b, rfl, h.all⟩
end
theorem known_law : ∃ D1 D2 D3 D5 v2 v3 v5, wFormat (BayD.new [12]) 0 10 1 = ((some (fresh0 0 1 10), 0), D1) ∧ D1.n = ⟨0, 11, 1⟩ ∧ wLog (fresh0 0 1 10, D1) [patK] = (0, (v2, D2)) ∧ wSeal (v2, D2) = (0, (v3, D3)) ∧ v2.ok ∧
    wOpen (D3.cut [[true]]) 0 10 = (((some v5, [(1, [patK])]), 0), D5) ∧ v5.next = 2 ∧ v5.used = 3 := by
  obtain ⟨D1, k1, e1, e2, e3, e4⟩ := fresh_live (s := 0) (n := 10) (epoch := 1) (new_pw (l := [12]) (s := 0) (m := 12) rfl (by decide)) ⟨by decide, by decide⟩ (by decide) (by decide) rfl
  have e3' : LiveX (fresh0 0 1 10) k1 1 ⟨[], 0, none⟩ := e3
  obtain ⟨v2, D2, k2, f1, f2, f3, f4, f5, f6, f7, f8⟩ := log_on (ps := [patK]) e2 rfl e3' (e4.calm rfl) patK_fine (by decide)
  obtain ⟨v3, D3, k3, g1, g2, g3, g4, g5, g6, g7, g8⟩ := seal_on (l := [patK]) f2 (by rw [f5]; rfl) f3 f4 rfl
  obtain ⟨k4, h1, h2, h3, h4⟩ := cut_kept (kl := [[true]]) g2.slot g3 rfl
  have hsz : v3.size = 10 := by rw [g6, f6]; rfl
  have hx : (((LifeD.mk [] 0 none).does 1 [patK]).does 2 []).sealed = [[patK]] := rfl
  rw [hx, hsz] at h4
  obtain ⟨D5, o1, o2, o3⟩ := rep_open (s := 0) h1 h2 h4 h3
  have hn2 := f3.next
  exact ⟨D1, D2, D3, D5, v2, v3, _, e1, e4.cnt.trans rfl, f1, g1, f3.wok (by rw [f7]; decide) (by rw [hn2]; decide) (by decide), o1, rfl, rfl⟩
set_option maxHeartbeats 4000000 in
theorem wknown_ok {W : World} {R : List SProp} : Does1 W Tryz.prog 14 [] R (.bool true) R := by
  obtain ⟨D1, D2, D3, D5, v2, v3, v5, e1, e2, e3, e4, e5, e6, e7, e8⟩ := known_law
  (refine Does.enter Tryz.func14 Tryz.ntmps14 rfl rfl ?_)
  (refine w ?_; repeat ((first | refine VO.step rfl rfl ?_ | refine VD.end rfl rfl rfl ?_ | refine VD.mid rfl rfl rfl ?_); refine OpV.box rfl rfl rfl ?_; intro _; refine w ?_))
  ((first | refine VO.step rfl rfl ?_ | refine VD.end rfl rfl rfl ?_ | refine VD.mid rfl rfl rfl ?_); refine OpV.buildSlice1 st_74 rfl rfl (by first | (simp; done) | simp [Value.oneCell']) (by decide) rfl ?_; intro nb)
  (refine w ?_; repeat ((first | refine VO.step rfl rfl ?_ | refine VD.end rfl rfl rfl ?_ | refine VD.mid rfl rfl rfl ?_); refine OpV.box rfl rfl rfl ?_; intro _; refine w ?_))
  have hr : Rds W (Row nb 3 [.int .i64 12] :: R) 1 (some ⟨nb, 0, none⟩) 1 (intsI [12]) := Rds.row (intsI_one _) (.head _) rfl
  ((first | refine VO.step rfl rfl ?_ | refine VD.end rfl rfl rfl ?_ | refine VD.mid rfl rfl rfl ?_); refine OpV.call rfl rfl (fun _ _ => by simp) (baynew_ok (l := [12]) hr (by decide)) Ent.refl rfl ?_)
  intro x hx
  rw [show bayE [12] = 0 from rfl] at hx ⊢
  obtain ⟨b, rfl⟩ : ∃ b, x = some b := by cases x with | none => cases hx | some b => exact ⟨b, rfl⟩
  dsimp only [Option.elim_some]
  (refine w ?_; repeat ((first | refine VO.step rfl rfl ?_ | refine VD.end rfl rfl rfl ?_ | refine VD.mid rfl rfl rfl ?_); refine OpV.box rfl rfl rfl ?_; intro _; refine w ?_))
  refine VO.ent (Ent.re (L := BayR b (BayD.new [12]) :: R)) ?_
  have hF := walformat_ok (W := W) (R := R) (D := BayD.new [12]) (epoch := 1) b 0 10 (by decide) (new_capd _) (by decide)
  rw [e1] at hF
  ((first | refine VO.step rfl rfl ?_ | refine VD.end rfl rfl rfl ?_ | refine VD.mid rfl rfl rfl ?_); refine OpV.call rfl rfl (fun _ _ => by simp) (hF) Ent.refl rfl ?_)
  intro y hy
  obtain ⟨wp, rfl⟩ : ∃ w, y = some w := by cases y with | none => cases hy | some w => exact ⟨w, rfl⟩
  dsimp only [Option.elim_some]
  (refine w ?_; repeat ((first | refine VO.step rfl rfl ?_ | refine VD.end rfl rfl rfl ?_ | refine VD.mid rfl rfl rfl ?_); refine OpV.box rfl rfl rfl ?_; intro _; refine w ?_))
  (((first | refine VO.step rfl rfl ?_ | refine VD.end rfl rfl rfl ?_ | refine VD.mid rfl rfl rfl ?_); refine OpV.call rfl rfl (fun _ _ => by simp) (baycounts_ok b D1) Ent.re rfl ?_); intro _ _)
  (refine w ?_; repeat ((first | refine VO.step rfl rfl ?_ | refine VD.end rfl rfl rfl ?_ | refine VD.mid rfl rfl rfl ?_); refine OpV.box rfl rfl rfl ?_; intro _; refine w ?_))
  (apply VO.pure rfl rfl; apply PureAt.build sb_63 rfl; (simp [buildX, setL, Value.cells]; rfl); rfl)
  refine VO.pure rfl rfl (cnt_eq (c := D1.n) (d := ⟨0, 11, 1⟩) rfl rfl (by rw [e2]; decide) (by decide) rfl) rfl ?_
  rw [e2]
  (refine w ?_; repeat ((first | refine VO.step rfl rfl ?_ | refine VD.end rfl rfl rfl ?_ | refine VD.mid rfl rfl rfl ?_); refine OpV.box rfl rfl rfl ?_; intro _; refine w ?_))
  have hc1 : D1.capd 100 := by
    have := format_capd (D := BayD.new [12]) (n := 10) (new_capd _) 0 1
    rw [show wFormat (BayD.new [12]) 0 ((10 : Nat) : Int) 1 = ((some (fresh0 0 1 10), 0), D1) from e1] at this
    exact this.mono (by decide)
  have hc2 : D2.capd 5000 := by
    have := wDo_capd (v := fresh0 0 1 10) hc1 1 [patK]
    rw [show wDo (fresh0 0 1 10, D1) 1 [patK] = (0, (v2, D2)) from e3] at this
    exact this.mono (by decide)
  ((first | refine VO.step rfl rfl ?_ | refine VD.end rfl rfl rfl ?_ | refine VD.mid rfl rfl rfl ?_); refine OpV.call rfl rfl (fun _ _ => by simp) (wsector_ok 5) Ent.re rfl ?_)
  intro nz _
  ((first | apply VO.pure rfl rfl | apply VD.take rfl rfl rfl | (refine VD.end rfl rfl rfl ?_; apply OpV.pure)); apply PureAt.build sb_105 rfl; (simp [buildX, setL, Value.cells]; rfl); rfl)
  (first | refine VO.step rfl rfl ?_ | refine VD.end rfl rfl rfl ?_ | refine VD.mid rfl rfl rfl ?_)
  refine OpV.buildSlice (cs := PatE.cells ⟨1, 2, ⟨some ⟨nz, 0, none⟩, 128, secV 5⟩⟩) st_34 rfl rfl (by simp [Value.cells]) (by simp [Value.cells]; rfl) (by decide) rfl ?_
  intro np
  refine VO.ent (Ent.re (L := WalR wp b (fresh0 0 1 10) :: BayR b D1 :: Row np 105 (PatE.cells ⟨1, 2, ⟨some ⟨nz, 0, none⟩, 128, secV 5⟩⟩) :: OwnB (some ⟨nz, 0, none⟩, 128) (secV 5) :: R)) ?_
  have hL := wallog_ok (W := W) (R := Row np 105 (PatE.cells ⟨1, 2, ⟨some ⟨nz, 0, none⟩, 128, secV 5⟩⟩) :: OwnB (some ⟨nz, 0, none⟩, 128) (secV 5) :: R) (ao := some ⟨np, 0, none⟩) (cap := 1) (l := [⟨1, 2, ⟨some ⟨nz, 0, none⟩, 128, secV 5⟩⟩]) wp b (fresh0 0 1 10) (fresh_ok ⟨by decide, by decide⟩ (by decide)) hc1 (by decide)
    ⟨Rds.row (pats_one [⟨1, 2, ⟨some ⟨nz, 0, none⟩, 128, secV 5⟩⟩]) (by (focus repeat first | exact .head _ | apply List.Mem.tail)) (by rfl), fun p hp => by
      rw [List.mem_singleton] at hp; subst hp
      exact Rds.own (bytes_one _) (.tail _ (.head _)) (by rw [bytes_length]; rfl) (by simp), fun p hp => by
      rw [List.mem_singleton] at hp; subst hp; exact ⟨by simp, by show 128 ≤ 128; decide⟩⟩ (fun p hp => by
      rw [List.mem_singleton] at hp; subst hp; exact ⟨by show (-9223372036854775808 : Int) ≤ 1 ∧ (1 : Int) ≤ 9223372036854775807; decide, by show (-9223372036854775808 : Int) ≤ 2 ∧ (2 : Int) ≤ 9223372036854775807; decide, by show 128 ≤ 140737488351232; decide⟩) (show 1 ≤ 140737488351232 by decide)
  rw [show ([(⟨1, 2, ⟨some ⟨nz, 0, none⟩, 128, secV 5⟩⟩ : PatE)].map PatE.D) = [patK] from rfl, e3] at hL
  ((first | refine VO.step rfl rfl ?_ | refine VD.end rfl rfl rfl ?_ | refine VD.mid rfl rfl rfl ?_); refine OpV.call rfl rfl (fun _ _ => by simp) (hL) Ent.refl rfl ?_)
  intro _ _
  (refine w ?_; repeat ((first | refine VO.step rfl rfl ?_ | refine VD.end rfl rfl rfl ?_ | refine VD.mid rfl rfl rfl ?_); refine OpV.box rfl rfl rfl ?_; intro _; refine w ?_))
  have hS := walseal_ok (W := W) (R := Row np 105 (PatE.cells ⟨1, 2, ⟨some ⟨nz, 0, none⟩, 128, secV 5⟩⟩) :: OwnB (some ⟨nz, 0, none⟩, 128) (secV 5) :: R) wp b v2 e5 hc2 (by decide)
  rw [e4] at hS
  ((first | refine VO.step rfl rfl ?_ | refine VD.end rfl rfl rfl ?_ | refine VD.mid rfl rfl rfl ?_); refine OpV.call rfl rfl (fun _ _ => by simp) (hS) Ent.refl rfl ?_)
  intro _ _
  (refine w ?_; repeat ((first | refine VO.step rfl rfl ?_ | refine VD.end rfl rfl rfl ?_ | refine VD.mid rfl rfl rfl ?_); refine OpV.box rfl rfl rfl ?_; intro _; refine w ?_))
  ((first | refine VO.step rfl rfl ?_ | refine VD.end rfl rfl rfl ?_ | refine VD.mid rfl rfl rfl ?_); refine OpV.buildSlice1 st_35 rfl rfl (by first | (simp; done) | simp [Value.oneCell']) (by decide) rfl ?_; intro nb)
  (refine w ?_; repeat ((first | refine VO.step rfl rfl ?_ | refine VD.end rfl rfl rfl ?_ | refine VD.mid rfl rfl rfl ?_); refine OpV.box rfl rfl rfl ?_; intro _; refine w ?_))
  ((first | refine VO.step rfl rfl ?_ | refine VD.end rfl rfl rfl ?_ | refine VD.mid rfl rfl rfl ?_); refine OpV.buildSlice1 st_92 rfl rfl (by first | (simp; done) | simp [Value.oneCell']) (by decide) rfl ?_; intro nb)
  rename_i nk
  have hk1 : ∀ X : List SProp, Keeps W (Row nb 35 [(KeepD.mk (some ⟨nk, 0, none⟩) 1 [true]).hdr] :: Row nk 4 [.bool true] :: X) (some ⟨nb, 0, none⟩) [⟨some ⟨nk, 0, none⟩, 1, [true]⟩] := fun X =>
    ⟨Rds.row (fun u hu => by simp only [List.map_cons, List.map_nil, List.mem_cons, List.not_mem_nil, or_false] at hu; subst hu; rfl) (.head _) rfl, fun x hx => by
      simp only [List.mem_cons, List.not_mem_nil, or_false] at hx; subst hx
      exact Rds.row (fun u hu => by simp only [bools, List.map_cons, List.map_nil, List.mem_cons, List.not_mem_nil, or_false] at hu; subst hu; rfl) (.tail _ (.head _)) rfl⟩
  (refine w ?_; repeat ((first | refine VO.step rfl rfl ?_ | refine VD.end rfl rfl rfl ?_ | refine VD.mid rfl rfl rfl ?_); refine OpV.box rfl rfl rfl ?_; intro _; refine w ?_))
  refine VO.ent (Ent.re (L := BayR b D3 :: Row nb 35 [(KeepD.mk (some ⟨nk, 0, none⟩) 1 [true]).hdr] :: Row nk 4 [.bool true] :: R)) ?_
  ((first | refine VO.step rfl rfl ?_ | refine VD.end rfl rfl rfl ?_ | refine VD.mid rfl rfl rfl ?_); refine OpV.call rfl rfl (fun _ _ => by simp) (baycut_ok (kl := [⟨some ⟨nk, 0, none⟩, 1, [true]⟩]) b D3 (hk1 _)) Ent.refl rfl ?_)
  intro _ _
  (refine w ?_; repeat ((first | refine VO.step rfl rfl ?_ | refine VD.end rfl rfl rfl ?_ | refine VD.mid rfl rfl rfl ?_); refine OpV.box rfl rfl rfl ?_; intro _; refine w ?_))
  have hO := walopen_ok (W := W) (R := R) (D := D3.cut [[true]]) b 0 10
  rw [e6] at hO
  refine VO.ent (Ent.re (L := BayR b (D3.cut [[true]]) :: R)) ?_
  ((first | refine VO.step rfl rfl ?_ | refine VD.end rfl rfl rfl ?_ | refine VD.mid rfl rfl rfl ?_); refine OpV.call rfl rfl (fun _ _ => by simp) (hO) Ent.refl rfl ?_)
  rintro ⟨yw, ⟨yo, yc⟩, ts⟩ ⟨hy1, hy2⟩
  dsimp only at hy1 hy2
  obtain ⟨w5, rfl⟩ : ∃ w, yw = some w := by cases yw with | none => cases hy1 | some w => exact ⟨w, rfl⟩
  obtain ⟨⟨sq, to, tc, ps⟩, rfl, hy3⟩ := map_one hy2
  obtain ⟨rfl, hps⟩ := Prod.mk.inj (show (sq, ps.map PatE.D) = (1, [patK]) from hy3)
  obtain ⟨q, rfl, hq⟩ := map_one hps
  obtain ⟨qm, qr, ⟨qo, qc, qd⟩⟩ := q
  obtain ⟨rfl, rfl, rfl⟩ : qm = 1 ∧ qr = 2 ∧ qd = secV 5 := by
    have := hq
    unfold PatE.D patK at this
    injection this with a b c
    exact ⟨a, b, c⟩
  dsimp only [Option.elim_some, Option.getD_some]
  refine VO.know (p := yo = none → 1 = 0) (fun w hw => hw.ownNone (.head _)) ?_
  intro hyo
  obtain ⟨ya, rfl⟩ := some_of_pos hyo (by decide)
  refine VO.know (p := ∀ t ∈ [(⟨1, to, tc, [⟨1, 2, ⟨qo, qc, secV 5⟩⟩]⟩ : TxnE)], t.ok) (fun w hw => PilT.know hw.tail) ?_
  intro hok
  have hRT : ∀ X, RdTxns W (TxnsO (some ya, yc) [⟨1, to, tc, [⟨1, 2, ⟨qo, qc, secV 5⟩⟩]⟩] :: PilT [⟨1, to, tc, [⟨1, 2, ⟨qo, qc, secV 5⟩⟩]⟩] :: X) (some ya) [⟨1, to, tc, [⟨1, 2, ⟨qo, qc, secV 5⟩⟩]⟩] := fun X => RdTxns.own (x := (some ya, yc)) (by simp) hok (.head _) (.tail _ (.head _))
  obtain ⟨ta, rfl⟩ := some_of_pos (hok _ (.head _)).nil (show 0 < 1 by decide)
  have hqo : qo = none → (secV 5).length = 0 := ((hok _ (.head _)).each _ (.head _)).nil
  (refine w ?_; repeat ((first | refine VO.step rfl rfl ?_ | refine VD.end rfl rfl rfl ?_ | refine VD.mid rfl rfl rfl ?_); refine OpV.box rfl rfl rfl ?_; intro _; refine w ?_))
  refine VC.ent (Ent.re (L := WalR w5 b v5 :: TxnsO (some ya, yc) [⟨1, some ta, tc, [⟨1, 2, ⟨qo, qc, secV 5⟩⟩]⟩] :: PilT [⟨1, some ta, tc, [⟨1, 2, ⟨qo, qc, secV 5⟩⟩]⟩] :: R)) ?_
  have hPT : RdPats W (TxnsO (some ya, yc) [⟨1, some ta, tc, [⟨1, 2, ⟨qo, qc, secV 5⟩⟩]⟩] :: PilT [⟨1, some ta, tc, [⟨1, 2, ⟨qo, qc, secV 5⟩⟩]⟩] :: R) (some ta) [⟨1, 2, ⟨qo, qc, secV 5⟩⟩] := (hRT R).each _ (.head _)
  refine VC.re 8 (.slice (some ya) 1 yc) rfl rfl ?_
  refine VC.drawn [16, 21, 62] 63 [0, 1, 2, 3, 4, 5, 6, 7, 8, 9, 10, 11, 12, 13, 14, 15, 16, 17, 18, 19, 20, 21, 22, 23, 24, 25, 26, 27, 28, 29, 30, 31, 32, 33, 34, 35, 36, 37, 38, 39, 40, 41, 42, 43, 44, 45, 46, 47, 48, 49, 50, 51, 52, 53, 54, 55, 56, 57, 58, 59, 60, 61, 62, 63, 64, 65] (TxnsO (some ya, yc) [⟨1, some ta, tc, [⟨1, 2, ⟨qo, qc, secV 5⟩⟩]⟩] :: PilT [⟨1, some ta, tc, [⟨1, 2, ⟨qo, qc, secV 5⟩⟩]⟩] :: R) rfl (by kernel_rfl) (by kernel_rfl) (Ent.drop Ent.refl) ?_
  (refine w ?_; repeat ((first | refine VO.step rfl rfl ?_ | refine VD.end rfl rfl rfl ?_ | refine VD.mid rfl rfl rfl ?_); refine OpV.box rfl rfl rfl ?_; intro _; refine w ?_))
  ((first | refine VO.step rfl rfl ?_ | refine VD.end rfl rfl rfl ?_ | refine VD.mid rfl rfl rfl ?_); refine OpV.call rfl rfl (fun _ _ => by simp) (walnext_ok w5 b v5) Ent.refl rfl ?_)
  intro _ _
  rw [e7]
  (refine w ?_; repeat ((first | refine VO.step rfl rfl ?_ | refine VD.end rfl rfl rfl ?_ | refine VD.mid rfl rfl rfl ?_); refine OpV.box rfl rfl rfl ?_; intro _; refine w ?_))
  ((first | refine VO.step rfl rfl ?_ | refine VD.end rfl rfl rfl ?_ | refine VD.mid rfl rfl rfl ?_); refine OpV.call rfl rfl (fun _ _ => by simp) (walused_ok w5 b v5) Ent.refl rfl ?_)
  intro _ _
  rw [e8]
  (refine w ?_; repeat ((first | refine VO.step rfl rfl ?_ | refine VD.end rfl rfl rfl ?_ | refine VD.mid rfl rfl rfl ?_); refine OpV.box rfl rfl rfl ?_; intro _; refine w ?_))
  (first | refine VO.pure rfl rfl (PureAt.ldRc tab_ok rfl rfl (hRT R).rds (show (txnCells [⟨1, some ta, tc, [⟨1, 2, ⟨qo, qc, secV 5⟩⟩]⟩])[0 * 2 + 0]? = some (.int .u64 1) from rfl)) rfl ?_ | refine VD.take rfl rfl rfl (PureAt.ldRc tab_ok rfl rfl (hRT R).rds (show (txnCells [⟨1, some ta, tc, [⟨1, 2, ⟨qo, qc, secV 5⟩⟩]⟩])[0 * 2 + 0]? = some (.int .u64 1) from rfl)) rfl ?_ | refine VQ.pure rfl rfl (PureAt.ldRc tab_ok rfl rfl (hRT R).rds (show (txnCells [⟨1, some ta, tc, [⟨1, 2, ⟨qo, qc, secV 5⟩⟩]⟩])[0 * 2 + 0]? = some (.int .u64 1) from rfl)) rfl ?_ | refine VD.end rfl rfl rfl (OpV.pure (PureAt.ldRc tab_ok rfl rfl (hRT R).rds (show (txnCells [⟨1, some ta, tc, [⟨1, 2, ⟨qo, qc, secV 5⟩⟩]⟩])[0 * 2 + 0]? = some (.int .u64 1) from rfl)) rfl ?_))
  (refine w ?_; repeat ((first | refine VO.step rfl rfl ?_ | refine VD.end rfl rfl rfl ?_ | refine VD.mid rfl rfl rfl ?_); refine OpV.box rfl rfl rfl ?_; intro _; refine w ?_))
  (first | refine VO.pure rfl rfl (PureAt.ldRc tab_ok rfl rfl (hRT R).rds (show (txnCells [⟨1, some ta, tc, [⟨1, 2, ⟨qo, qc, secV 5⟩⟩]⟩])[0 * 2 + 1]? = some (.slice (some ta) 1 tc) from rfl)) rfl ?_ | refine VD.take rfl rfl rfl (PureAt.ldRc tab_ok rfl rfl (hRT R).rds (show (txnCells [⟨1, some ta, tc, [⟨1, 2, ⟨qo, qc, secV 5⟩⟩]⟩])[0 * 2 + 1]? = some (.slice (some ta) 1 tc) from rfl)) rfl ?_ | refine VQ.pure rfl rfl (PureAt.ldRc tab_ok rfl rfl (hRT R).rds (show (txnCells [⟨1, some ta, tc, [⟨1, 2, ⟨qo, qc, secV 5⟩⟩]⟩])[0 * 2 + 1]? = some (.slice (some ta) 1 tc) from rfl)) rfl ?_ | refine VD.end rfl rfl rfl (OpV.pure (PureAt.ldRc tab_ok rfl rfl (hRT R).rds (show (txnCells [⟨1, some ta, tc, [⟨1, 2, ⟨qo, qc, secV 5⟩⟩]⟩])[0 * 2 + 1]? = some (.slice (some ta) 1 tc) from rfl)) rfl ?_))
  (refine w ?_; repeat ((first | refine VO.step rfl rfl ?_ | refine VD.end rfl rfl rfl ?_ | refine VD.mid rfl rfl rfl ?_); refine OpV.box rfl rfl rfl ?_; intro _; refine w ?_))
  (first | refine VO.pure rfl rfl (PureAt.ldRc tab_ok rfl rfl (hRT R).rds (show (txnCells [⟨1, some ta, tc, [⟨1, 2, ⟨qo, qc, secV 5⟩⟩]⟩])[0 * 2 + 1]? = some (.slice (some ta) 1 tc) from rfl)) rfl ?_ | refine VD.take rfl rfl rfl (PureAt.ldRc tab_ok rfl rfl (hRT R).rds (show (txnCells [⟨1, some ta, tc, [⟨1, 2, ⟨qo, qc, secV 5⟩⟩]⟩])[0 * 2 + 1]? = some (.slice (some ta) 1 tc) from rfl)) rfl ?_ | refine VQ.pure rfl rfl (PureAt.ldRc tab_ok rfl rfl (hRT R).rds (show (txnCells [⟨1, some ta, tc, [⟨1, 2, ⟨qo, qc, secV 5⟩⟩]⟩])[0 * 2 + 1]? = some (.slice (some ta) 1 tc) from rfl)) rfl ?_ | refine VD.end rfl rfl rfl (OpV.pure (PureAt.ldRc tab_ok rfl rfl (hRT R).rds (show (txnCells [⟨1, some ta, tc, [⟨1, 2, ⟨qo, qc, secV 5⟩⟩]⟩])[0 * 2 + 1]? = some (.slice (some ta) 1 tc) from rfl)) rfl ?_))
  (refine w ?_; repeat ((first | refine VO.step rfl rfl ?_ | refine VD.end rfl rfl rfl ?_ | refine VD.mid rfl rfl rfl ?_); refine OpV.box rfl rfl rfl ?_; intro _; refine w ?_))
  (first | refine VO.pure rfl rfl (PureAt.ldRc tab_ok rfl rfl hPT.rds (show (patCells [⟨1, 2, ⟨qo, qc, secV 5⟩⟩])[0 * 3 + 1]? = some (.int .i64 2) from rfl)) rfl ?_ | refine VD.take rfl rfl rfl (PureAt.ldRc tab_ok rfl rfl hPT.rds (show (patCells [⟨1, 2, ⟨qo, qc, secV 5⟩⟩])[0 * 3 + 1]? = some (.int .i64 2) from rfl)) rfl ?_ | refine VQ.pure rfl rfl (PureAt.ldRc tab_ok rfl rfl hPT.rds (show (patCells [⟨1, 2, ⟨qo, qc, secV 5⟩⟩])[0 * 3 + 1]? = some (.int .i64 2) from rfl)) rfl ?_ | refine VD.end rfl rfl rfl (OpV.pure (PureAt.ldRc tab_ok rfl rfl hPT.rds (show (patCells [⟨1, 2, ⟨qo, qc, secV 5⟩⟩])[0 * 3 + 1]? = some (.int .i64 2) from rfl)) rfl ?_))
  (refine w ?_; repeat ((first | refine VO.step rfl rfl ?_ | refine VD.end rfl rfl rfl ?_ | refine VD.mid rfl rfl rfl ?_); refine OpV.box rfl rfl rfl ?_; intro _; refine w ?_))
  (first | refine VO.pure rfl rfl (PureAt.ldRc tab_ok rfl rfl (hRT R).rds (show (txnCells [⟨1, some ta, tc, [⟨1, 2, ⟨qo, qc, secV 5⟩⟩]⟩])[0 * 2 + 1]? = some (.slice (some ta) 1 tc) from rfl)) rfl ?_ | refine VD.take rfl rfl rfl (PureAt.ldRc tab_ok rfl rfl (hRT R).rds (show (txnCells [⟨1, some ta, tc, [⟨1, 2, ⟨qo, qc, secV 5⟩⟩]⟩])[0 * 2 + 1]? = some (.slice (some ta) 1 tc) from rfl)) rfl ?_ | refine VQ.pure rfl rfl (PureAt.ldRc tab_ok rfl rfl (hRT R).rds (show (txnCells [⟨1, some ta, tc, [⟨1, 2, ⟨qo, qc, secV 5⟩⟩]⟩])[0 * 2 + 1]? = some (.slice (some ta) 1 tc) from rfl)) rfl ?_ | refine VD.end rfl rfl rfl (OpV.pure (PureAt.ldRc tab_ok rfl rfl (hRT R).rds (show (txnCells [⟨1, some ta, tc, [⟨1, 2, ⟨qo, qc, secV 5⟩⟩]⟩])[0 * 2 + 1]? = some (.slice (some ta) 1 tc) from rfl)) rfl ?_))
  (refine w ?_; repeat ((first | refine VO.step rfl rfl ?_ | refine VD.end rfl rfl rfl ?_ | refine VD.mid rfl rfl rfl ?_); refine OpV.box rfl rfl rfl ?_; intro _; refine w ?_))
  (first | refine VO.pure rfl rfl (PureAt.ldRc tab_ok rfl rfl hPT.rds (show (patCells [⟨1, 2, ⟨qo, qc, secV 5⟩⟩])[0 * 3 + 2]? = some (.slice qo (secV 5).length qc) from rfl)) rfl ?_ | refine VD.take rfl rfl rfl (PureAt.ldRc tab_ok rfl rfl hPT.rds (show (patCells [⟨1, 2, ⟨qo, qc, secV 5⟩⟩])[0 * 3 + 2]? = some (.slice qo (secV 5).length qc) from rfl)) rfl ?_ | refine VQ.pure rfl rfl (PureAt.ldRc tab_ok rfl rfl hPT.rds (show (patCells [⟨1, 2, ⟨qo, qc, secV 5⟩⟩])[0 * 3 + 2]? = some (.slice qo (secV 5).length qc) from rfl)) rfl ?_ | refine VD.end rfl rfl rfl (OpV.pure (PureAt.ldRc tab_ok rfl rfl hPT.rds (show (patCells [⟨1, 2, ⟨qo, qc, secV 5⟩⟩])[0 * 3 + 2]? = some (.slice qo (secV 5).length qc) from rfl)) rfl ?_))
  (refine w ?_; repeat ((first | refine VO.step rfl rfl ?_ | refine VD.end rfl rfl rfl ?_ | refine VD.mid rfl rfl rfl ?_); refine OpV.box rfl rfl rfl ?_; intro _; refine w ?_))
  ((first | refine VO.step rfl rfl ?_ | refine VD.end rfl rfl rfl ?_ | refine VD.mid rfl rfl rfl ?_); refine OpV.call rfl rfl (fun _ _ => by simp) (wsector_ok 5) Ent.re rfl ?_)
  intro nz2 _
  (refine w ?_; repeat ((first | refine VO.step rfl rfl ?_ | refine VD.end rfl rfl rfl ?_ | refine VD.mid rfl rfl rfl ?_); refine OpV.box rfl rfl rfl ?_; intro _; refine w ?_))
  have hq1 : Rds W (TxnsO (some ya, yc) [⟨1, some ta, tc, [⟨1, 2, ⟨qo, qc, secV 5⟩⟩]⟩] :: PilT [⟨1, some ta, tc, [⟨1, 2, ⟨qo, qc, secV 5⟩⟩]⟩] :: OwnB (some ⟨nz2, 0, none⟩, 128) (secV 5) :: R) 1 qo (secV 5).length (bytes (secV 5)) := ((hRT _).each _ (.head _)).each _ (.head _)
  refine VD.ent (H' := TxnsO (some ya, yc) [⟨1, some ta, tc, [⟨1, 2, ⟨qo, qc, secV 5⟩⟩]⟩] :: PilT [⟨1, some ta, tc, [⟨1, 2, ⟨qo, qc, secV 5⟩⟩]⟩] :: OwnB (some ⟨nz2, 0, none⟩, 128) (secV 5) :: R) Ent.re ?_
  ((first | refine VO.step rfl rfl ?_ | refine VD.end rfl rfl rfl ?_ | refine VD.mid rfl rfl rfl ?_); refine OpV.call rfl rfl (fun _ _ => by simp) (same_any (a := secV 5) (b := secV 5) hq1 (Rds.own (bytes_one _) (.tail _ (.tail _ (.head _))) (by rw [bytes_length]; rfl) (fun h => by cases h)) (by decide)) Ent.refl rfl ?_; intro _ _)
  (refine w ?_; repeat ((first | refine VO.step rfl rfl ?_ | refine VD.end rfl rfl rfl ?_ | refine VD.mid rfl rfl rfl ?_); refine OpV.box rfl rfl rfl ?_; intro _; refine w ?_))
  exact VE.done1 rfl rfl Ent.re
end Go.Proofs.YtlojjlbngnaphaaGreat

/-! Text Um. -/
/- The journal's laws: a script that runs with the power on; what is read through the cache; WalRises. -/
set_option maxRecDepth 8000
set_option linter.unusedVariables false
set_option linter.unusedSimpArgs false
set_option linter.unusedSectionVars false
namespace Go.Proofs.YtlojjlbngnaphaaGreat
open Go.RowKit Go.Sl
attribute [local irreducible] Own

/-- What holds of a journal, so many calls behind its beginning. -/
structure LInv (n c i : Nat) (v : WalD) (D : BayD) : Prop where
  slot : v.slot = 0
  size : v.size = n
  next : v.next ≤ 1 + i
  epoch : v.epoch ≤ 9 + i
  cap : D.capd (c + 4100 * i)
  calm : D.trip = -1
  live : ∃ k base x, Pw D 0 k ∧ LiveX v k base x ∧ 1 ≤ base
theorem LInv.wok {n c i : Nat} {v : WalD} {D : BayD} (h : LInv n c i v D) (hi : i ≤ 20000) : v.ok := by
  obtain ⟨k, base, x, h1, h2, h3⟩ := h.live
  have := h.next; have := h.epoch
  exact h2.wok (by omega) (by omega) h3
theorem LInv.step {n c i : Nat} {v : WalD} {D : BayD} (h : LInv n c i v D) (hi : i ≤ 20000) (kind : Nat) (ps : List PatD) :
    LInv n c (i + 1) (wDo (v, D) kind ps).2.1 (wDo (v, D) kind ps).2.2 ∧ (wDo (v, D) kind ps).2.1.next = if kind = 2 ∧ (wDo (v, D) kind ps).1 = 0 then v.next + 1 else v.next := by
  obtain ⟨k, base, x, h1, h2, h3⟩ := h.live
  have hnx := h2.next
  have hn := h.next; have he := h.epoch
  have hcp := wDo_capd (v := v) h.cap kind ps
  have hs := step_ok h1 h.slot h2 kind ps ⟨by omega, by omega, by omega⟩
  generalize wDo (v, D) kind ps = r at hs hcp
  cases hs with
  | good k' base' hg hp hl hf hb hb2 =>
    dsimp only at hcp ⊢
    refine ⟨⟨hg.slot.trans h.slot, hg.size.trans h.size, by rw [hg.next]; split <;> omega, by have := hg.epoch; omega, hcp.mono (by omega), hf.calm h.calm, k', base', _, hp, hl, ?_⟩, ?_⟩
    · by_cases q : kind < 4
      · rw [hb q]; exact h3
      · by_cases q2 : kind ≤ 5
        · rw [hb2 (by omega) q2]; omega
        · have hl1 := hl.next
          rw [hg.next, if_neg (by omega)] at hl1
          have : x.does kind ps = x := by
            unfold LifeD.does; split <;> first | rfl | (exfalso; omega)
          rw [this] at hl1
          omega
    · rw [hg.next]; simp
  | no e h0 h5 =>
    dsimp only at hcp ⊢
    exact ⟨⟨h.slot, h.size, by omega, by omega, h.cap.mono (by omega), h.calm, k, base, x, h1, h2, h3⟩, by rw [if_neg (fun q => h0 q.2)]⟩
  | dark k' ht hd hl => exact absurd h.calm ht
theorem beg_inv {n : Nat} (hn : 5 ≤ n ∧ n ≤ 2048) : LInv n (n + 2) 0 (fresh0 0 1 n) (begD n) := by
  obtain ⟨e, k', h1, h2, h3⟩ := beg_live hn
  exact ⟨rfl, rfl, by show 1 ≤ 1; decide, by show 1 ≤ 9; decide, (beg_capd n).mono (by omega), h3.calm rfl, k', 1, _, h1, h2, Nat.le_refl _⟩
/-- What is read through the cache is what a flush makes last. -/
theorem full_look (last : Secs) (f : Bool) (a : Nat) (ha : a < last.length) (c : List (Nat × List UInt8)) : (full last c)[a]? = some ((DiskD.mk last c f).look a) := by
  induction c using snocList with
  | nil => rw [DiskD.look_clean rfl, List.getElem?_eq_getElem ha]; show last[a]? = _; rw [List.getElem?_eq_getElem ha]; rfl
  | snoc c x ih =>
    have e : DiskD.mk last (c ++ [x]) f = (DiskD.mk last c f).write x.1 x.2 := rfl
    rw [full_append, e, DiskD.look_write]
    show ((full last c).set x.1 x.2)[a]? = _
    split
    · rename_i q
      subst q
      rw [List.getElem?_set_self (by rw [full_length]; exact ha)]
    · rename_i q
      rw [List.getElem?_set_ne (fun z => q z.symm)]; exact ih
theorem ringB_full {k : DiskD} {n : Nat} (h : 2 + n ≤ k.last.length) : ringB k n = ringB ⟨full k.last k.cache, [], k.failed⟩ n := by
  have key : ∀ a, a < k.last.length → k.look a = (DiskD.mk (full k.last k.cache) [] k.failed).look a := by
    intro a ha
    rw [DiskD.look_clean (k := ⟨full k.last k.cache, [], k.failed⟩) rfl, full_look k.last k.failed a ha]; rfl
  unfold ringB
  rw [List.flatMap_def, List.flatMap_def]
  congr 1
  refine List.map_congr_left fun p hp => ?_
  have := List.mem_range.1 hp
  exact key _ (by omega)
theorem live_open {v : WalD} {k : DiskD} {base s : Nat} {x : LifeD} {D : BayD} (hp : Pw D s k) (ht : D.trip = -1) (h : LiveX v k base x) :
    ∃ D', wOpen D (s : Int) (v.size : Int) = (((some ⟨(s : Int), v.epoch, v.size, v.tail, v.used, v.next, true, none, 0⟩, numb base x.sealed), 0), D') ∧ Pw D' s k ∧ Fol s (0 :: List.replicate v.size 0) D D' := by
  have hr := h.all
  have hl := h.len
  have hsz := h.size
  have hlk : k.look 1 = (DiskD.mk (full k.last k.cache) [] k.failed).look 1 := by
    rw [DiskD.look_clean (k := ⟨full k.last k.cache, [], k.failed⟩) rfl, full_look k.last k.failed 1 (by omega)]; rfl
  obtain ⟨D', a, b, c⟩ := open_pw (k := k) hp ht hr.bnd hl (by rw [hlk]; exact Rep.look (k := ⟨full k.last k.cache, [], k.failed⟩) hr rfl) (by have := hr.tlt; simp only; omega) (by rw [ringB_full hl]; exact Rep.found (k := ⟨full k.last k.cache, [], k.failed⟩) hr rfl)
  refine ⟨D', ?_, b, c⟩
  rw [a, h.next, h.used]; rfl
end Go.Proofs.YtlojjlbngnaphaaGreat

/-! Text Un. -/
/- The law WalRises. -/
set_option maxRecDepth 8000
set_option linter.unusedVariables false
set_option linter.unusedSimpArgs false
set_option linter.unusedSectionVars false
namespace Go.Proofs.YtlojjlbngnaphaaGreat
open Go.RowKit Go.Sl
attribute [local irreducible] Own

set_option maxHeartbeats 4000000 in
theorem wrises_law {W : World} {R : List SProp} {ao : Option Addr} {cap : Nat} {l : List OpE} (hbs : RdOps W ao l) (ring : Int) : Does1 W Tryz.prog 3 [.int .i64 ring, .slice ao l.length cap] R (.bool true) R := by
  (refine Does.enter Tryz.func3 Tryz.ntmps3 rfl rfl ?_)
  (refine w ?_; repeat ((first | refine VO.step rfl rfl ?_ | refine VD.end rfl rfl rfl ?_ | refine VD.mid rfl rfl rfl ?_); refine OpV.box rfl rfl rfl ?_; intro _; refine w ?_))
  ((first | refine VO.step rfl rfl ?_ | refine VD.end rfl rfl rfl ?_ | refine VD.mid rfl rfl rfl ?_); refine OpV.call rfl rfl (fun _ _ => by simp) (wmuch_ok hbs) Ent.refl rfl ?_)
  intro mu hmu
  cases mu with
  | true =>
    (refine w ?_; repeat ((first | refine VO.step rfl rfl ?_ | refine VD.end rfl rfl rfl ?_ | refine VD.mid rfl rfl rfl ?_); refine OpV.box rfl rfl rfl ?_; intro _; refine w ?_))
    exact VE.done1 rfl rfl Ent.refl
  | false =>
  have hf := hmu rfl
  (refine w ?_; repeat ((first | refine VO.step rfl rfl ?_ | refine VD.end rfl rfl rfl ?_ | refine VD.mid rfl rfl rfl ?_); refine OpV.box rfl rfl rfl ?_; intro _; refine w ?_))
  ((first | refine VO.step rfl rfl ?_ | refine VD.end rfl rfl rfl ?_ | refine VD.mid rfl rfl rfl ?_); refine OpV.call rfl rfl (fun _ _ => by simp) (wbegun_ok ring) Ent.refl rfl ?_)
  intro x hx
  cases x with
  | none =>
    have hn : ¬ (5 ≤ ring ∧ ring ≤ 2048) := fun q => by have := hx.2 q; cases this
    dsimp only [Option.elim_none, Option.map_none]
    (refine w ?_; repeat ((first | refine VO.step rfl rfl ?_ | refine VD.end rfl rfl rfl ?_ | refine VD.mid rfl rfl rfl ?_); refine OpV.box rfl rfl rfl ?_; intro _; refine w ?_))
    ((first | refine VO.step rfl rfl ?_ | refine VD.end rfl rfl rfl ?_ | refine VD.mid rfl rfl rfl ?_); refine OpV.call rfl rfl (fun _ _ => by simp) (wknown_ok) Ent.refl rfl ?_)
    intro _ _
    (refine w ?_; repeat ((first | refine VO.step rfl rfl ?_ | refine VD.end rfl rfl rfl ?_ | refine VD.mid rfl rfl rfl ?_); refine OpV.box rfl rfl rfl ?_; intro _; refine w ?_))
    ((first | refine VO.split rfl rfl rfl ?_ ?_ | refine VD.split rfl rfl rfl ?_ ?_) <;> intro hb)
    · (refine w ?_; repeat ((first | refine VO.step rfl rfl ?_ | refine VD.end rfl rfl rfl ?_ | refine VD.mid rfl rfl rfl ?_); refine OpV.box rfl rfl rfl ?_; intro _; refine w ?_))
      exact VE.done1 rfl rfl Ent.refl
    · have h5 := of_decide_eq_false hb
      (refine w ?_; repeat ((first | refine VO.step rfl rfl ?_ | refine VD.end rfl rfl rfl ?_ | refine VD.mid rfl rfl rfl ?_); refine OpV.box rfl rfl rfl ?_; intro _; refine w ?_))
      exact VE.done1 rfl (by congr 1; simp; omega) Ent.refl
  | some y =>
    obtain ⟨b, wp⟩ := y
    have hn : 5 ≤ ring ∧ ring ≤ 2048 := hx.1 rfl
    obtain ⟨n, rfl⟩ : ∃ n : Nat, ring = n := ⟨ring.toNat, by omega⟩
    dsimp only [Option.elim_some, Option.map_some]
    rw [Int.toNat_natCast]
    (refine w ?_; repeat ((first | refine VO.step rfl rfl ?_ | refine VD.end rfl rfl rfl ?_ | refine VD.mid rfl rfl rfl ?_); refine OpV.box rfl rfl rfl ?_; intro _; refine w ?_))
    ((first | refine VO.step rfl rfl ?_ | refine VD.end rfl rfl rfl ?_ | refine VD.mid rfl rfl rfl ?_); refine OpV.call rfl rfl (fun _ _ => by simp) (wknown_ok) Ent.refl rfl ?_)
    intro _ _
    (refine w ?_; repeat ((first | refine VO.step rfl rfl ?_ | refine VD.end rfl rfl rfl ?_ | refine VD.mid rfl rfl rfl ?_); refine OpV.box rfl rfl rfl ?_; intro _; refine w ?_))
    have hll := hf.len
    refine VC.loop (α := Nat × WalD × BayD) (fun y => y.1 ≤ l.length ∧ LInv n (n + 2) y.1 y.2.1 y.2.2) (fun y => WalR wp b y.2.1 :: BayR b y.2.2 :: R)
      (fun y => [(0, .int .i64 n), (1, .slice ao l.length cap), (5, .pointer (some ⟨b, 0, none⟩)), (6, .pointer (some ⟨wp, 0, none⟩)), (7, .int .i64 y.1)]) (fun y => l.length - y.1) rfl (0, fresh0 0 1 n, begD n) ⟨Nat.zero_le _, beg_inv ⟨by omega, by omega⟩⟩ Ent.refl ⟨rfl, rfl, rfl, rfl, rfl, trivial⟩ ?_
    rintro ⟨i, v, D⟩ ⟨hi, hI⟩
    dsimp only at hi hI ⊢
    (refine w ?_; repeat ((first | refine VO.step rfl rfl ?_ | refine VD.end rfl rfl rfl ?_ | refine VD.mid rfl rfl rfl ?_); refine OpV.box rfl rfl rfl ?_; intro _; refine w ?_))
    (refine VC.cond rfl rfl ?_ ?_ <;> intro hc)
    · have hlt : i < l.length := by have := of_decide_eq_true hc; omega
      have hr := hbs.rds (WalR wp b v :: BayR b D :: R)
      obtain ⟨a, rfl⟩ := some_of_pos hr.nil (by omega)
      have ho := hbs.each _ (List.getElem_mem hlt)
      obtain ⟨hI2, hnx⟩ := hI.step (by omega) l[i].kind.toNat (l[i].pats.map PatE.D)
      (refine w ?_; repeat ((first | refine VO.step rfl rfl ?_ | refine VD.end rfl rfl rfl ?_ | refine VD.mid rfl rfl rfl ?_); refine OpV.box rfl rfl rfl ?_; intro _; refine w ?_))
      ((first | refine VO.step rfl rfl ?_ | refine VD.end rfl rfl rfl ?_ | refine VD.mid rfl rfl rfl ?_); refine OpV.call rfl rfl (fun _ _ => by simp) (walnext_ok wp b v) Ent.refl rfl ?_)
      intro _ _
      (refine w ?_; repeat ((first | refine VO.step rfl rfl ?_ | refine VD.end rfl rfl rfl ?_ | refine VD.mid rfl rfl rfl ?_); refine OpV.box rfl rfl rfl ?_; intro _; refine w ?_))
      (first | refine VO.pure rfl rfl (.ldRA tab_ok rfl rfl hr (opsC_at l i hlt) rfl) rfl ?_ | refine VD.take rfl rfl rfl (.ldRA tab_ok rfl rfl hr (opsC_at l i hlt) rfl) rfl ?_ | refine VQ.pure rfl rfl (.ldRA tab_ok rfl rfl hr (opsC_at l i hlt) rfl) rfl ?_ | refine VD.end rfl rfl rfl (OpV.pure (.ldRA tab_ok rfl rfl hr (opsC_at l i hlt) rfl) rfl ?_))
      (refine w ?_; repeat ((first | refine VO.step rfl rfl ?_ | refine VD.end rfl rfl rfl ?_ | refine VD.mid rfl rfl rfl ?_); refine OpV.box rfl rfl rfl ?_; intro _; refine w ?_))
      ((first | refine VO.step rfl rfl ?_ | refine VD.end rfl rfl rfl ?_ | refine VD.mid rfl rfl rfl ?_); refine OpV.call rfl rfl (fun _ _ => by simp) (calls_ok wp b v (hI.wok (by omega)) hI.cap (by omega) l[i] ho) Ent.refl rfl ?_)
      intro _ _
      generalize wDo (v, D) l[i].kind.toNat (l[i].pats.map PatE.D) = rr at hI2 hnx ⊢
      obtain ⟨e, v2, D2⟩ := rr
      dsimp only at hI2 hnx ⊢
      have hvn := hI.next
      (refine w ?_; repeat ((first | refine VO.step rfl rfl ?_ | refine VD.end rfl rfl rfl ?_ | refine VD.mid rfl rfl rfl ?_); refine OpV.box rfl rfl rfl ?_; intro _; refine w ?_))
      ((first | refine VO.step rfl rfl ?_ | refine VD.end rfl rfl rfl ?_ | refine VD.mid rfl rfl rfl ?_); refine OpV.call rfl rfl (fun _ _ => by simp) (walnext_ok wp b v2) Ent.refl rfl ?_)
      intro _ _
      have hr2 := hbs.rds (WalR wp b v2 :: BayR b D2 :: R)
      (refine w ?_; repeat ((first | refine VO.step rfl rfl ?_ | refine VD.end rfl rfl rfl ?_ | refine VD.mid rfl rfl rfl ?_); refine OpV.box rfl rfl rfl ?_; intro _; refine w ?_))
      (first | refine VO.pure rfl rfl (PureAt.ldRc tab_ok rfl rfl hr2 (opsC_get l i 0 hlt (by decide))) rfl ?_ | refine VD.take rfl rfl rfl (PureAt.ldRc tab_ok rfl rfl hr2 (opsC_get l i 0 hlt (by decide))) rfl ?_ | refine VQ.pure rfl rfl (PureAt.ldRc tab_ok rfl rfl hr2 (opsC_get l i 0 hlt (by decide))) rfl ?_ | refine VD.end rfl rfl rfl (OpV.pure (PureAt.ldRc tab_ok rfl rfl hr2 (opsC_get l i 0 hlt (by decide))) rfl ?_))
      (refine w ?_; repeat ((first | refine VO.step rfl rfl ?_ | refine VD.end rfl rfl rfl ?_ | refine VD.mid rfl rfl rfl ?_); refine OpV.box rfl rfl rfl ?_; intro _; refine w ?_))
      ((first | refine VO.split rfl rfl rfl ?_ ?_ | refine VD.split rfl rfl rfl ?_ ?_) <;> intro hb)
      · have hk : l[i].kind = 2 := by simpa using hb
        (refine w ?_; repeat ((first | refine VO.step rfl rfl ?_ | refine VD.end rfl rfl rfl ?_ | refine VD.mid rfl rfl rfl ?_); refine OpV.box rfl rfl rfl ?_; intro _; refine w ?_))
        (refine VC.cond rfl rfl ?_ ?_ <;> intro hc)
        · have he : e = 0 := by simpa using hc
          rw [if_pos ⟨by rw [hk]; rfl, he⟩] at hnx
          have hw64 : IntKind.u64.wrap ((v.next : Int) + 1) = (v.next : Int) + 1 := by have h := wrap64_of (show v.next + 1 < 2 ^ 64 by omega); push_cast at h; exact h
          (refine w ?_; repeat ((first | refine VO.step rfl rfl ?_ | refine VD.end rfl rfl rfl ?_ | refine VD.mid rfl rfl rfl ?_); refine OpV.box rfl rfl rfl ?_; intro _; refine w ?_))
          rw [hnx]
          (refine w ?_; repeat ((first | refine VO.step rfl rfl ?_ | refine VD.end rfl rfl rfl ?_ | refine VD.mid rfl rfl rfl ?_); refine OpV.box rfl rfl rfl ?_; intro _; refine w ?_))
          (refine VC.condFe rfl rfl (by simp [hw64]) ?_)
          (refine w ?_; repeat ((first | refine VO.step rfl rfl ?_ | refine VD.end rfl rfl rfl ?_ | refine VD.mid rfl rfl rfl ?_); refine OpV.box rfl rfl rfl ?_; intro _; refine w ?_))
          refine VE.round (i + 1, v2, D2) ⟨hlt, hI2⟩ (by simp only; omega) ⟨rfl, rfl, rfl, rfl, asV rfl (by congr 1), trivial⟩ Ent.refl
        · have he : ¬ e = 0 := by simpa using hc
          rw [if_neg (fun q => he q.2)] at hnx
          rw [hnx]
          (refine w ?_; repeat ((first | refine VO.step rfl rfl ?_ | refine VD.end rfl rfl rfl ?_ | refine VD.mid rfl rfl rfl ?_); refine OpV.box rfl rfl rfl ?_; intro _; refine w ?_))
          (refine VC.condFe rfl rfl (by simp) ?_)
          (refine w ?_; repeat ((first | refine VO.step rfl rfl ?_ | refine VD.end rfl rfl rfl ?_ | refine VD.mid rfl rfl rfl ?_); refine OpV.box rfl rfl rfl ?_; intro _; refine w ?_))
          refine VE.round (i + 1, v2, D2) ⟨hlt, hI2⟩ (by simp only; omega) ⟨rfl, rfl, rfl, rfl, asV rfl (by congr 1), trivial⟩ Ent.refl
      · have hk : ¬ l[i].kind = 2 := by simpa using hb
        rw [if_neg (fun q => hk (by omega))] at hnx
        rw [hnx]
        (refine w ?_; repeat ((first | refine VO.step rfl rfl ?_ | refine VD.end rfl rfl rfl ?_ | refine VD.mid rfl rfl rfl ?_); refine OpV.box rfl rfl rfl ?_; intro _; refine w ?_))
        (refine w ?_; repeat ((first | refine VO.step rfl rfl ?_ | refine VD.end rfl rfl rfl ?_ | refine VD.mid rfl rfl rfl ?_); refine OpV.box rfl rfl rfl ?_; intro _; refine w ?_))
        (refine VC.condFe rfl rfl (by simp) ?_)
        (refine w ?_; repeat ((first | refine VO.step rfl rfl ?_ | refine VD.end rfl rfl rfl ?_ | refine VD.mid rfl rfl rfl ?_); refine OpV.box rfl rfl rfl ?_; intro _; refine w ?_))
        refine VE.round (i + 1, v2, D2) ⟨hlt, hI2⟩ (by simp only; omega) ⟨rfl, rfl, rfl, rfl, asV rfl (by congr 1), trivial⟩ Ent.refl
    · have hie : i = l.length := by have := of_decide_eq_false hc; omega
      have hiw := hI.wok (by omega)
      obtain ⟨hsl, hsz, hvn, hve, hvc, htr, k, base, x, hp, hl, hb1⟩ := hI
      obtain ⟨D', ho, -, -⟩ := live_open hp htr hl
      rw [hsz] at ho
      have hnx := hl.next
      obtain ⟨v5, hv5, h5n, h5u⟩ : ∃ v5 : WalD, v5 = ⟨((0 : Nat) : Int), v.epoch, n, v.tail, v.used, v.next, true, none, 0⟩ ∧ v5.next = v.next ∧ v5.used = v.used := ⟨_, rfl, rfl, rfl⟩
      rw [← hv5] at ho
      have hO := walopen_ok (W := W) (R := WalR wp b v :: R) (D := D) b 0 (n : Int)
      rw [show wOpen D 0 (n : Int) = _ from ho] at hO
      (refine w ?_; repeat ((first | refine VO.step rfl rfl ?_ | refine VD.end rfl rfl rfl ?_ | refine VD.mid rfl rfl rfl ?_); refine OpV.box rfl rfl rfl ?_; intro _; refine w ?_))
      refine VO.ent (Ent.re (L := BayR b D :: WalR wp b v :: R)) ?_
      ((first | refine VO.step rfl rfl ?_ | refine VD.end rfl rfl rfl ?_ | refine VD.mid rfl rfl rfl ?_); refine OpV.call rfl rfl (fun _ _ => by simp) (hO) Ent.refl rfl ?_)
      rintro ⟨yw, ⟨yo, yc⟩, ts⟩ ⟨hy1, hy2⟩
      dsimp only at hy1 hy2
      obtain ⟨w5, rfl⟩ : ∃ w, yw = some w := by cases yw with | none => cases hy1 | some w => exact ⟨w, rfl⟩
      dsimp only [Option.elim_some, Option.getD_some, Option.map_some]
      (refine w ?_; repeat ((first | refine VO.step rfl rfl ?_ | refine VD.end rfl rfl rfl ?_ | refine VD.mid rfl rfl rfl ?_); refine OpV.box rfl rfl rfl ?_; intro _; refine w ?_))
      (((first | refine VO.step rfl rfl ?_ | refine VD.end rfl rfl rfl ?_ | refine VD.mid rfl rfl rfl ?_); refine OpV.call rfl rfl (fun _ _ => by simp) (walnext_ok w5 b v5) Ent.re rfl ?_); intro _ _)
      (refine w ?_; repeat ((first | refine VO.step rfl rfl ?_ | refine VD.end rfl rfl rfl ?_ | refine VD.mid rfl rfl rfl ?_); refine OpV.box rfl rfl rfl ?_; intro _; refine w ?_))
      (((first | refine VO.step rfl rfl ?_ | refine VD.end rfl rfl rfl ?_ | refine VD.mid rfl rfl rfl ?_); refine OpV.call rfl rfl (fun _ _ => by simp) (walnext_ok wp b v) Ent.re rfl ?_); intro _ _)
      rw [h5n]
      (refine w ?_; repeat ((first | refine VO.step rfl rfl ?_ | refine VD.end rfl rfl rfl ?_ | refine VD.mid rfl rfl rfl ?_); refine OpV.box rfl rfl rfl ?_; intro _; refine w ?_))
      (first | refine VO.gF rfl rfl rfl (by simp) ?_ | refine VD.gF rfl rfl rfl (by simp) ?_)
      (refine w ?_; repeat ((first | refine VO.step rfl rfl ?_ | refine VD.end rfl rfl rfl ?_ | refine VD.mid rfl rfl rfl ?_); refine OpV.box rfl rfl rfl ?_; intro _; refine w ?_))
      (((first | refine VO.step rfl rfl ?_ | refine VD.end rfl rfl rfl ?_ | refine VD.mid rfl rfl rfl ?_); refine OpV.call rfl rfl (fun _ _ => by simp) (walused_ok w5 b v5) Ent.re rfl ?_); intro _ _)
      (refine w ?_; repeat ((first | refine VO.step rfl rfl ?_ | refine VD.end rfl rfl rfl ?_ | refine VD.mid rfl rfl rfl ?_); refine OpV.box rfl rfl rfl ?_; intro _; refine w ?_))
      (((first | refine VO.step rfl rfl ?_ | refine VD.end rfl rfl rfl ?_ | refine VD.mid rfl rfl rfl ?_); refine OpV.call rfl rfl (fun _ _ => by simp) (walused_ok wp b v) Ent.re rfl ?_); intro _ _)
      rw [h5u]
      (refine w ?_; repeat ((first | refine VO.step rfl rfl ?_ | refine VD.end rfl rfl rfl ?_ | refine VD.mid rfl rfl rfl ?_); refine OpV.box rfl rfl rfl ?_; intro _; refine w ?_))
      (refine VC.condFe rfl rfl (by simp) ?_)
      (refine w ?_; repeat ((first | refine VO.step rfl rfl ?_ | refine VD.end rfl rfl rfl ?_ | refine VD.mid rfl rfl rfl ?_); refine OpV.box rfl rfl rfl ?_; intro _; refine w ?_))
      have htl : ts.length = x.sealed.length := by have := congrArg List.length hy2; rwa [List.length_map, numb_length] at this
      have hseq : ∀ (j : Nat) (h : j < ts.length), ts[j].seq = base + j := by
        intro j h
        have h1 : (ts.map TxnE.T)[j]? = (numb base x.sealed)[j]? := by rw [hy2]
        rw [List.getElem?_map, List.getElem?_eq_getElem h, numb_get x.sealed base j (by omega)] at h1
        injection h1 with h1
        exact congrArg Prod.fst h1
      have hml := hl.mle
      refine VC.know (p := yo = none → ts.length = 0) (fun w hw => hw.tail.tail.ownNone (.head _)) ?_
      intro hyo
      refine VC.know (p := ∀ t ∈ ts, t.ok) (fun w hw => PilT.know hw.tail.tail.tail) ?_
      intro hok
      have hRT : RdTxns W (TxnsO (yo, yc) ts :: PilT ts :: R) yo ts := RdTxns.own (x := (yo, yc)) hyo hok (.head _) (.tail _ (.head _))
      refine VC.loop (α := Nat) (fun j => j ≤ ts.length) (fun _ => WalR w5 b v5 :: TxnsO (yo, yc) ts :: PilT ts :: R)
        (fun j => [(11, .pointer (some ⟨w5, 0, none⟩)), (12, .slice yo ts.length yc), (14, .int .i64 j)]) (fun j => ts.length - j) rfl 0 (Nat.zero_le _) Ent.re ⟨rfl, rfl, rfl, trivial⟩ ?_
      intro j hj
      (refine w ?_; repeat ((first | refine VO.step rfl rfl ?_ | refine VD.end rfl rfl rfl ?_ | refine VD.mid rfl rfl rfl ?_); refine OpV.box rfl rfl rfl ?_; intro _; refine w ?_))
      (refine VC.cond rfl rfl ?_ ?_ <;> intro hc)
      · have hjt : j < ts.length := by have := of_decide_eq_true hc; omega
        obtain ⟨ya, rfl⟩ := some_of_pos hyo (by omega)
        have hsj := hseq j hjt
        (refine w ?_; repeat ((first | refine VO.step rfl rfl ?_ | refine VD.end rfl rfl rfl ?_ | refine VD.mid rfl rfl rfl ?_); refine OpV.box rfl rfl rfl ?_; intro _; refine w ?_))
        refine VC.drawn [6] 13 [0, 1, 2, 3, 4, 5, 7, 8, 9, 10, 11, 6, 12, 13] (TxnsO (some ya, yc) ts :: PilT ts :: R) rfl (by kernel_rfl) (by kernel_rfl) (Ent.drop Ent.refl) ?_
        (refine w ?_; repeat ((first | refine VO.step rfl rfl ?_ | refine VD.end rfl rfl rfl ?_ | refine VD.mid rfl rfl rfl ?_); refine OpV.box rfl rfl rfl ?_; intro _; refine w ?_))
        (first | refine VO.pure rfl rfl (PureAt.ldRc tab_ok rfl rfl hRT.rds (show (txnCells ts)[j * 2 + 0]? = some (.int .u64 ((base + j : Nat) : Int)) by rw [txn_get ts j 0 hjt (by decide), ← hsj]; rfl)) rfl ?_ | refine VD.take rfl rfl rfl (PureAt.ldRc tab_ok rfl rfl hRT.rds (show (txnCells ts)[j * 2 + 0]? = some (.int .u64 ((base + j : Nat) : Int)) by rw [txn_get ts j 0 hjt (by decide), ← hsj]; rfl)) rfl ?_ | refine VQ.pure rfl rfl (PureAt.ldRc tab_ok rfl rfl hRT.rds (show (txnCells ts)[j * 2 + 0]? = some (.int .u64 ((base + j : Nat) : Int)) by rw [txn_get ts j 0 hjt (by decide), ← hsj]; rfl)) rfl ?_ | refine VD.end rfl rfl rfl (OpV.pure (PureAt.ldRc tab_ok rfl rfl hRT.rds (show (txnCells ts)[j * 2 + 0]? = some (.int .u64 ((base + j : Nat) : Int)) by rw [txn_get ts j 0 hjt (by decide), ← hsj]; rfl)) rfl ?_))
        (refine w ?_; repeat ((first | refine VO.step rfl rfl ?_ | refine VD.end rfl rfl rfl ?_ | refine VD.mid rfl rfl rfl ?_); refine OpV.box rfl rfl rfl ?_; intro _; refine w ?_))
        ((first | refine VO.step rfl rfl ?_ | refine VD.end rfl rfl rfl ?_ | refine VD.mid rfl rfl rfl ?_); refine OpV.call rfl rfl (fun _ _ => by simp) (walnext_ok w5 b v5) Ent.refl rfl ?_)
        intro _ _
        rw [h5n]
        have hw1 : IntKind.u64.wrap ((ts.length : Int) - (j : Int)) = (ts.length : Int) - (j : Int) := by
          have h := wrap64_of (show ts.length - j < 2 ^ 64 by omega)
          rw [show ((ts.length - j : Nat) : Int) = (ts.length : Int) - (j : Int) by omega] at h; exact h
        have hw2 : IntKind.u64.wrap ((v.next : Int) - ((ts.length : Int) - (j : Int))) = ((base + j : Nat) : Int) := by
          have h := wrap64_of (show base + j < 2 ^ 64 by omega)
          rw [← h]; congr 1; omega
        (refine w ?_; repeat ((first | refine VO.step rfl rfl ?_ | refine VD.end rfl rfl rfl ?_ | refine VD.mid rfl rfl rfl ?_); refine OpV.box rfl rfl rfl ?_; intro _; refine w ?_))
        (refine VC.condFe rfl rfl (by simp [hw1, hw2]) ?_)
        (refine w ?_; repeat ((first | refine VO.step rfl rfl ?_ | refine VD.end rfl rfl rfl ?_ | refine VD.mid rfl rfl rfl ?_); refine OpV.box rfl rfl rfl ?_; intro _; refine w ?_))
        refine VE.round (j + 1) hjt (by omega) ⟨rfl, rfl, asV rfl (by congr 1), trivial⟩ Ent.refl
      · (refine w ?_; repeat ((first | refine VO.step rfl rfl ?_ | refine VD.end rfl rfl rfl ?_ | refine VD.mid rfl rfl rfl ?_); refine OpV.box rfl rfl rfl ?_; intro _; refine w ?_))
        exact VE.done1 rfl rfl Ent.re
end Go.Proofs.YtlojjlbngnaphaaGreat

