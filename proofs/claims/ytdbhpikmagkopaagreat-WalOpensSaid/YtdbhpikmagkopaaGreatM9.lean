import Derived.Test.YtdbhpikmagkopaaGreatM8
import Derived.WalkKit
import Derived.ProofKit
import Derived.OpenShut
/-! Text Jd. -/
set_option maxRecDepth 8000
set_option maxHeartbeats 16000000
set_option linter.unusedVariables false
set_option linter.unusedSimpArgs false
set_option linter.unusedSectionVars false
namespace Go.Proofs.YtdbhpikmagkopaaGreat
open Go.RowKit Go.Sl
attribute [local irreducible] Sl.Own
variable {W : World} {R : List SProp}
theorem secs_small (e s : Nat) (l : List PatD) : 0 <= (secsM e s l).1 /\ (secsM e s l).1 <= 100 := by
 unfold secsM
 split
 · decide
 ·
  split
  · decide
  ·
   split
   · decide
   · exact ⟨by show (0 : Int) <= 0; decide, by show (0 : Int) <= 100; decide⟩
theorem rlogShut {wp b r : Nat} {v v' : WalD} {D : BayD} {rows : List RowE} {i : Nat} (hi : i < rows.length) (hs : v'.size = v.size /\ v'.tail = v.tail /\ v'.used = v.used)
  (hl : v'.log = some ⟨rows.length, rows[i].data⟩) : Ent W (rwalRow wp b r (rows[i].ao, rows[i].cap) rows[i].data v' :: RRing r v.size v.tail v.used :: PilR rows :: RBayR b D :: R) (RWalR wp b v' :: RBayR b D :: R) := by
 obtain ⟨h1, h2, h3⟩ := hs
 refine Ent.trans ?_ (RWalR.shut r (rows[i].ao, rows[i].cap) rows[i].data (fun g hg => by rw [hl] at hg; cases hg; rfl))
 unfold RWalO
 rw [h1, h2, h3]
 intro w hw
 have a1 : Holds W (PilR rows :: rwalRow wp b r (rows[i].ao, rows[i].cap) rows[i].data v' :: RRing r v.size v.tail v.used :: RBayR b D :: R) w := hw.reord (by (repeat first | exact .refl | (apply Reord.cons; focus repeat first | exact .head | apply Del.tail) | exact .nil | apply Reord.drop))
 have a2 := pile_out hi a1
 have a3 : Holds W (rwalRow wp b r (rows[i].ao, rows[i].cap) rows[i].data v' :: RRing r v.size v.tail v.used :: rows[i].res :: RBayR b D :: R) w := a2.reord (by (repeat first | exact .refl | (apply Reord.cons; focus repeat first | exact .head | apply Del.tail) | exact .nil | apply Reord.drop))
 exact a3
theorem rwlog_ok {ao : Option Addr} {cap : Nat} {l : List PatE} {D : BayD} {c0 : Nat} (wp b : Nat) (v : WalD) (hv : v.ok) (hs : D.sane) (hcp : D.capd c0) (hc0 : c0 <= 999990000) (hp : RdPats W R ao l) (hfit : ∀ p ∈ l, p.fit) (hlen : l.length <= 140737488351232) :
  Does1 W Tryz.prog 52 [.pointer (some ⟨wp, 0, none⟩), .slice ao l.length cap] (RWalR wp b v :: RBayR b D :: R) (.int .u16 (wLog (v, D) (l.map PatE.D)).1) (RWalR wp b (wLog (v, D) (l.map PatE.D)).2.1 :: RBayR b (wLog (v, D) (l.map PatE.D)).2.2 :: R) := by
 have hr1 := hv.ring.lo; have hr2 := hv.ring.hi; have hr3 := hv.ring.tl; have hr4 := hv.ring.us
 have hm : (v.tail + v.used) % v.size < v.size := Nat.mod_lt _ (by omega)
 refine rwalDoes fun r x cm hg => ?_
 (refine Does.enter Tryz.func52 Tryz.ntmps52 rfl rfl ?_)
 refine w ?_
 refine zk ?_ ?_ <;> intro hc
 ·
  have h0 : v.broken ≠ 0 := by simpa using hc
  have hz : wLog (v, D) (l.map PatE.D) = (v.broken, (v, D)) := if_pos h0
  rw [hz]
  refine w ?_
  exact VE.done1 rfl rfl (rwalShut hg)
 have h0 : v.broken = 0 := by simpa using hc
 clear hc
 have hz0 : wLog (v, D) (l.map PatE.D) = if (secsM v.epoch v.next (l.map PatE.D)).1 ≠ 0 then ((secsM v.epoch v.next (l.map PatE.D)).1, (v, D)) else if v.size < (secsM v.epoch v.next (l.map PatE.D)).2.length then (122, (v, D)) else
  if v.size - v.used < (secsM v.epoch v.next (l.map PatE.D)).2.length then (121, (v, D)) else logW (v, D) (secsM v.epoch v.next (l.map PatE.D)).2 := if_neg (by simpa using h0)
 rw [hz0]
 have hepo := hv.epoch
 have hnxt := hv.next
 refine w ?_
 (refine VC.drawn [10] 15 [0, 1, 2, 3, 4, 5, 6, 7, 8, 9, 10, 11, 12, 13, 14, 15] _ rfl (by kernel_rfl) (by kernel_rfl) Ent.re ?_)
 refine w ?_
 ((first | apply VO.pure rfl rfl | apply VD.take rfl rfl rfl | (refine VD.end rfl rfl rfl ?_; apply OpV.pure)); apply PureAt.build sb_87 rfl; (simp [buildX, setL, Value.cells]; rfl); rfl)
 have hS := rsecs_ok (W := W) (R := RBayR b D :: RWalO wp b r x cm v R) (cap := cap) v.epoch v.next (by omega) (by omega) (hp.ent Ent.re) hfit hlen
 (refine zq ?_; refine zy rfl rfl (hS) ?_)
 rintro ⟨⟨xo, xc⟩, rows⟩ hrows
 dsimp only at hrows ⊢
 refine ⟨Ent.re, ?_⟩
 refine w ?_
 rcases secs_cases v.epoch v.next (l.map PatE.D) with ⟨hfine, hse⟩ | ⟨hnf, hse, hse2⟩
 rotate_left
 ·
  have hsm := secs_small v.epoch v.next (l.map PatE.D)
  rw [if_pos hse]
  (refine VC.condTe rfl rfl (by simpa using hse) ?_)
  refine w ?_
  rw [show IntKind.u16.wrap (secsM v.epoch v.next (l.map PatE.D)).1 = (secsM v.epoch v.next (l.map PatE.D)).1 by rw [IntKind.wrap_u16]; omega]
  exact VE.done1 rfl rfl (Ent.trans (Ent.re (L := RBayR b D :: RWalO wp b r x cm v R)) (rwalShut hg))
 have hsh : Ent W (RowsO (xo, xc) rows :: PilR rows :: RBayR b D :: RWalO wp b r x cm v R) (RWalR wp b v :: RBayR b D :: R) := Ent.trans (Ent.re (L := RBayR b D :: RWalO wp b r x cm v R)) (rwalShut hg)
 rw [hse] at hrows ⊢
 dsimp only at hrows ⊢
 rw [if_neg (by simp)]
 have hrl : rows.length = 2 * l.length + 1 := by have := congrArg List.length hrows; rwa [List.length_map, rowsP_length, List.length_map] at this
 have hn2 := hfine.n2
 rw [List.length_map] at hn2
 have hrl' : (rowsP v.epoch v.next (l.map PatE.D)).length = rows.length := by rw [<- hrows, List.length_map]
 rw [hrl']
 refine w ?_
 refine zk ?_ ?_ <;> intro hc
 ·
  have h1 : v.size < rows.length := by have := of_decide_eq_true hc; omega
  rw [if_pos h1]
  refine w ?_
  exact VE.done1 rfl rfl hsh
 have h1 : ¬ v.size < rows.length := by have := of_decide_eq_false hc; omega
 clear hc
 rw [if_neg h1]
 refine w ?_
 (refine VC.drawn [] 17 [0, 1, 2, 3, 4, 5, 6, 7, 8, 9, 10, 11, 12, 13, 14, 15, 16, 17] _ rfl (by kernel_rfl) (by kernel_rfl) Ent.re ?_)
 refine w ?_
 refine zk ?_ ?_ <;> intro hc
 ·
  have h2 : v.size - v.used < rows.length := by have := of_decide_eq_true hc; omega
  rw [if_pos h2]
  refine w ?_
  exact VE.done1 rfl rfl hsh
 have h2 : ¬ v.size - v.used < rows.length := by have := of_decide_eq_false hc; omega
 clear hc
 rw [if_neg h2]
 refine VC.know (p := ∀ e ∈ rows, e.ok) (fun w hw => PilR.know hw.tail) ?_
 intro hok
 refine VC.know (p := xo = none -> rows.length = 0) (fun w hw => hw.ownNone (.head _)) ?_
 intro hxn
 obtain ⟨xa, rfl⟩ := some_of_pos hxn (by omega)
 have hlast : rows.length - 1 < rows.length := by omega
 have h128 : ∀ e ∈ rows, e.data.length = 128 := fun e he => rowsP_128 hfine _ (by rw [<- hrows]; exact List.mem_map_of_mem he)
 obtain ⟨L, hL⟩ : ∃ L, L = placed v (rowsP v.epoch v.next (l.map PatE.D)).dropLast := ⟨_, rfl⟩
 have hLl : L.length = rows.length - 1 := by rw [hL, placed_length, List.length_dropLast, hrl']
 have hLg : ∀ i (h : i < L.length) (h' : i < rows.length), L[i] = (((v.spot i : Nat) : Int), rows[i].data) := by
  intro i h h'
  subst hL
  simp only [placed, List.getElem_mapIdx, List.getElem_dropLast]
  congr 1
  have : (rows.map RowE.data)[i]'(by rw [List.length_map]; exact h') = rows[i].data := List.getElem_map ..
  rw [<- this]
  congr 1
  exact hrows.symm
 have hlog : logW (v, D) (rowsP v.epoch v.next (l.map PatE.D)) = if (wMany (v, D) L).1 ≠ 0 then wMany (v, D) L else
   if (wFlush (wMany (v, D) L).2).1 ≠ 0 then wFlush (wMany (v, D) L).2 else
   (0, { (wFlush (wMany (v, D) L).2).2.1 with sure := true, log := some ⟨rows.length, rows[rows.length - 1].data⟩ }, (wFlush (wMany (v, D) L).2).2.2) := by
  have e1 : (rowsP v.epoch v.next (l.map PatE.D)).getLastD [] = rows[rows.length - 1].data := by
   rw [<- hrows, List.getLastD_eq_getLast?, List.getLast?_eq_getElem?, List.length_map, List.getElem?_map, List.getElem?_eq_getElem hlast]; rfl
  unfold logW
  dsimp only
  rw [<- hL, e1, hrl']
 refine w ?_
 refine VC.loop (α := Nat × BayD) (fun y => y.1 <= rows.length - 1 /\ y.2.capd (c0 + y.1) /\ y.2.sane /\ wMany (v, D) L = wMany (v, y.2) (L.drop y.1)) (fun y => RBayR b y.2 :: RWalO wp b r x cm v (RowsO (some xa, xc) rows :: PilR rows :: R))
  (fun y => [(0, .pointer (some ⟨wp, 0, none⟩)), (5, .slice (some xa) rows.length xc), (7, .int .i64 y.1)]) (fun y => rows.length - 1 - y.1) rfl (0, D) ⟨Nat.zero_le _, hcp, hs, by rw [List.drop_zero]⟩ Ent.re ⟨rfl, rfl, rfl, trivial⟩ ?_
 rintro ⟨i, Di⟩ ⟨hi, hci, hsi, hmi⟩
 dsimp only at hi hci hsi hmi ⊢
 refine w ?_
 refine zk ?_ ?_ <;> intro hc
 ·
  have hlt : i < rows.length - 1 := by have := of_decide_eq_true hc; omega
  clear hc
  have hlt2 : i < rows.length := by omega
  have hRow : Rds W (RBayR b Di :: RWalO wp b r x cm v (RowsO (some xa, xc) rows :: PilR rows :: R)) 1 (some xa) rows.length (rows.map RowE.hdr) := Rds.own (rowhdr_one _) (.tail _ (.tail _ (.tail _ (.tail _ (.head _))))) (by simp) (by simp)
  have hByt : Rds W (RWalO wp b r x cm v (RowsO (some xa, xc) rows :: PilR rows :: R)) 1 rows[i].ao rows[i].data.length (bytes rows[i].data) := Rds.pile (.tail _ (.tail _ (.tail _ (.tail _ (.head _))))) (List.getElem_mem hlt2) (fun R hR => RowE.rds (hok _ (List.getElem_mem hlt2)) hR)
  have hstep : wMany (v, Di) (L.drop i) = if (wWrite (v, Di) ((v.spot i : Nat) : Int) rows[i].data).1 ≠ 0 then wWrite (v, Di) ((v.spot i : Nat) : Int) rows[i].data else wMany (wWrite (v, Di) ((v.spot i : Nat) : Int) rows[i].data).2 (L.drop (i + 1)) := by
   rw [List.drop_eq_getElem_cons (by omega), hLg i (by omega) hlt2]; rfl
  rw [wWrite_z h0] at hstep
  dsimp only at hstep
  refine w ?_
  (refine VC.drawn [12] 28 [0, 1, 2, 3, 4, 5, 6, 7, 8, 9, 10, 11, 13, 15, 16, 17, 18, 19, 20, 21, 24, 25, 26, 27, 12, 14, 22, 23, 28, 29] _ rfl (by kernel_rfl) (by kernel_rfl) Ent.re ?_)
  refine w ?_
  ((first | apply VO.pure rfl rfl | apply VQ.pure rfl rfl | apply VD.take rfl rfl rfl | (refine VD.end rfl rfl rfl ?_; apply OpV.pure)); exact PureAt.ldR tab_ok rfl rfl hRow (show (rows.map RowE.hdr)[i]? = some rows[i].hdr by rw [List.getElem?_map, List.getElem?_eq_getElem hlt2]; rfl); rfl)
  refine w ?_
  refine VD.ent (H' := RRing r v.size v.tail v.used :: RBayR b Di :: rwalRow wp b r x cm v :: OwnB x cm :: RowsO (some xa, xc) rows :: PilR rows :: R) Ent.re ?_
  (refine zq ?_; refine zy rfl rfl (rringhead_ok r hv.ring) ?_)
  intro _ _
  refine ⟨Ent.re, ?_⟩
  refine w ?_
  ((first | apply VO.pure rfl rfl | apply VQ.pure rfl rfl | apply VD.take rfl rfl rfl | (refine VD.end rfl rfl rfl ?_; apply OpV.pure)); exact PureAt.rem (a := (v.tail + v.used) % v.size + i) (b := v.size) rfl rfl (by omega); rfl)
  refine w ?_
  have hm2 : ((v.tail + v.used) % v.size + i) % v.size < v.size := Nat.mod_lt _ (by omega)
  refine VD.re 95 (.int .i64 ((v.spot i : Nat) : Int)) rfl (by congr 1; rw [IntWalk.i64_in _ ⟨by omega, by omega⟩]; unfold WalD.spot WalD.head; omega) ?_
  refine VD.ent (H' := RBayR b Di :: RWalO wp b r x cm v (RowsO (some xa, xc) rows :: PilR rows :: R)) Ent.re ?_
  (refine zq ?_; refine zy rfl rfl (rbaywrite_ok b Di v.slot ((v.spot i : Nat) : Int) hsi.dk (hsi.dev _) (Nat.le_trans (dv_cap hci _) (by omega)) hByt) ?_)
  intro _ _
  have hs2 := hsi.write v.slot ((v.spot i : Nat) : Int) rows[i].data
  have hcp2 := write_capd hci v.slot ((v.spot i : Nat) : Int) rows[i].data
  generalize (Di.write v.slot ((v.spot i : Nat) : Int) rows[i].data).2 = E at hs2 hcp2 hstep ⊢
  generalize (Di.write v.slot ((v.spot i : Nat) : Int) rows[i].data).1 = e1 at hstep ⊢
  refine w ?_
  by_cases h9 : e1 = 0
  ·
   subst h9
   rw [if_neg (by simp), broken_self h0] at hstep
   (refine VC.condFe rfl rfl (by simp) ?_)
   refine w ?_
   refine VE.round (i + 1, E) ⟨hlt, hcp2, hs2, by rw [hmi, hstep]⟩ (by simp only; omega) ⟨rfl, rfl, asV rfl (by congr 1), trivial⟩ Ent.re
  ·
   rw [if_pos h9] at hstep
   have hfin : logW (v, D) (rowsP v.epoch v.next (l.map PatE.D)) = (e1, ({ v with broken := e1 }, E)) := by
    rw [hlog, hmi, hstep, if_pos h9]
   rw [hfin]
   (refine VC.condTe rfl rfl (by simpa using h9) ?_)
   refine w ?_
   exact VE.done1 rfl rfl (Ent.trans (Ent.re (L := RBayR b E :: RWalO wp b r x cm { v with broken := e1 } R)) (rwalShut (v := { v with broken := e1 }) hg))
 have hie : i = rows.length - 1 := by have := of_decide_eq_false hc; omega
 clear hc
 rw [hie, <- hLl, List.drop_length] at hmi
 have hmany : wMany (v, D) L = (0, (v, Di)) := hmi
 rw [hmany] at hlog
 dsimp only at hlog
 rw [if_neg (by simp), wFlush_z h0] at hlog
 dsimp only at hlog
 refine w ?_
 (refine VC.drawn [] 8 [0, 1, 2, 3, 4, 5, 6, 7, 8, 9] _ rfl (by kernel_rfl) (by kernel_rfl) Ent.re ?_)
 refine w ?_
 (refine zq ?_; refine zy rfl rfl (rbayflush_ok b Di v.slot hsi.dk (hsi.dev _) (Nat.le_trans (dv_cap hci _) (by omega))) ?_)
 intro _ _
 generalize (Di.flush v.slot).2 = E at hlog ⊢
 generalize (Di.flush v.slot).1 = e1 at hlog ⊢
 refine w ?_
 by_cases h9 : e1 = 0
 rotate_left
 ·
  rw [if_pos h9] at hlog
  rw [hlog]
  (refine VC.condTe rfl rfl (by simpa using h9) ?_)
  refine w ?_
  exact VE.done1 rfl rfl (Ent.trans (Ent.re (L := RBayR b E :: RWalO wp b r x cm { v with broken := e1 } R)) (rwalShut (v := { v with broken := e1 }) hg))
 subst h9
 rw [if_neg (by simp)] at hlog
 rw [hlog]
 (refine VC.condFe rfl rfl (by simp) ?_)
 refine w ?_
 refine VO.re 136 (.int .i64 ((rows.length - 1 : Nat) : Int)) rfl (by congr 1; omega) ?_
 refine w ?_
 ((first | apply VO.pure rfl rfl | apply VQ.pure rfl rfl | apply VD.take rfl rfl rfl | (refine VD.end rfl rfl rfl ?_; apply OpV.pure)); exact PureAt.ldR tab_ok rfl rfl (Rds.own (rowhdr_one _) (.tail _ (.tail _ (.tail _ (.tail _ (.head _))))) (by simp) (by simp)) (show (rows.map RowE.hdr)[rows.length - 1]? = some rows[rows.length - 1].hdr by rw [List.getElem?_map, List.getElem?_eq_getElem hlast]; rfl); rfl)
 refine w ?_
 refine VE.done1 rfl rfl (Ent.trans (Ent.re (L := rwalRow wp b r (rows[rows.length - 1].ao, rows[rows.length - 1].cap) rows[rows.length - 1].data ⟨v.slot, v.epoch, v.size, v.tail, v.used, v.next, true, some ⟨rows.length, rows[rows.length - 1].data⟩, v.broken⟩ :: RRing r v.size v.tail v.used :: PilR rows :: RBayR b E :: R)) ?_)
 rw [h0]
 dsimp only
 exact rlogShut (v := v) hlast ⟨rfl, rfl, rfl⟩ rfl
theorem rwseal_ok {D : BayD} {c0 : Nat} (wp b : Nat) (v : WalD) (hv : v.ok) (hfits : ∀ g, v.log = some g -> v.used + g.cost <= v.size) (hs : D.sane) (hcp : D.capd c0) (hc0 : c0 <= 999990000) :
    Does1 W Tryz.prog 53 [.pointer (some ⟨wp, 0, none⟩)] (RWalR wp b v :: RBayR b D :: R) (.int .u16 (wSeal (v, D)).1) (RWalR wp b (wSeal (v, D)).2.1 :: RBayR b (wSeal (v, D)).2.2 :: R) := by
  have hr1 := hv.ring.lo; have hr2 := hv.ring.hi; have hr3 := hv.ring.tl; have hr4 := hv.ring.us
  have hm : (v.tail + v.used) % v.size < v.size := Nat.mod_lt _ (by omega)
  have hnx := hv.next
  refine rwalDoes fun r x cm hg => ?_
  (refine Does.enter Tryz.func53 Tryz.ntmps53 rfl rfl ?_)
  refine VC.know (p := x.1 = none -> cm.length = 0) (fun w hw => hw.ownNone (.tail _ (.tail _ (.tail _ (.head _))))) ?_
  intro hxn
  refine w ?_
  refine zk ?_ ?_ <;> intro hc
  · have h0 : v.broken ≠ 0 := by simpa using hc
    have hz : wSeal (v, D) = (v.broken, (v, D)) := if_pos h0
    rw [hz]
    refine w ?_
    exact VE.done1 rfl rfl (rwalShut hg)
  have h0 : v.broken = 0 := by simpa using hc
  clear hc
  cases hlg : v.log with
  | none =>
    have hz : wSeal (v, D) = (1, (v, D)) := by unfold wSeal; dsimp only; rw [if_neg (by simpa using h0), hlg]
    rw [hz]
    refine w ?_
    (refine VC.condTe rfl rfl (by rw [hlg]; rfl) ?_)
    refine w ?_
    exact VE.done1 rfl rfl (rwalShut hg)
  | some g =>
    have hcm := hg g hlg
    subst hcm
    obtain ⟨k1, k2, k3, k4⟩ := hv.log g hlg
    have hft := hfits g hlg
    have hz : wSeal (v, D) = if (wWrite (v, D) (v.spot (g.cost - 1)) g.commit).1 ≠ 0 then wWrite (v, D) (v.spot (g.cost - 1)) g.commit else
        (0, { v with used := v.used + g.cost, next := v.next + 1, sure := false, log := none }, (wWrite (v, D) (v.spot (g.cost - 1)) g.commit).2.2) := by
      unfold wSeal; dsimp only; rw [if_neg (by simpa using h0), hlg]; dsimp only
      split
      · rfl
      · rw [if_neg (by omega)]
    rw [hz, wWrite_z h0]
    dsimp only
    have hlc : costV v.log = (g.cost : Int) := by rw [hlg]; rfl
    refine w ?_
    (refine VC.condFe rfl rfl (by rw [hlc]; simp; omega) ?_)
    refine w ?_
    (refine VC.drawn [12] 32 [0, 1, 2, 3, 4, 5, 6, 7, 8, 9, 10, 11, 13, 14, 15, 16, 19, 20, 21, 22, 23, 24, 25, 28, 29, 30, 31, 12, 17, 18, 26, 27, 32, 33] _ rfl (by kernel_rfl) (by kernel_rfl) Ent.re ?_)
    refine w ?_
    refine VD.ent (H' := RRing r v.size v.tail v.used :: RBayR b D :: rwalRow wp b r x g.commit v :: OwnB x g.commit :: R) Ent.re ?_
    (refine zq ?_; refine zy rfl rfl (rringhead_ok r hv.ring) ?_)
    intro _ _
    refine ⟨Ent.re, ?_⟩
    rw [hlc]
    refine w ?_
    have hm2 : ((v.tail + v.used) % v.size + (g.cost - 1)) % v.size < v.size := Nat.mod_lt _ (by omega)
    refine VD.re 36 (.int .i64 (((v.tail + v.used) % v.size + (g.cost - 1) : Nat) : Int)) rfl (by congr 1 <;> omega) ?_
    refine w ?_
    ((first | apply VO.pure rfl rfl | apply VQ.pure rfl rfl | apply VD.take rfl rfl rfl | (refine VD.end rfl rfl rfl ?_; apply OpV.pure)); exact PureAt.rem (a := (v.tail + v.used) % v.size + (g.cost - 1)) (b := v.size) rfl rfl (by omega); rfl)
    refine w ?_
    refine VD.re 45 (.int .i64 ((v.spot (g.cost - 1) : Nat) : Int)) rfl (by congr 1) ?_
    refine VD.ent (H' := RBayR b D :: RWalO wp b r x g.commit v R) Ent.re ?_
    (refine zq ?_; refine zy rfl rfl (rbaywrite_ok b D v.slot ((v.spot (g.cost - 1) : Nat) : Int) hs.dk (hs.dev _) (Nat.le_trans (dv_cap hcp _) (by omega)) (Rds.own (bytes_one _) (.tail _ (.tail _ (.head _))) (by simp) hxn)) ?_)
    intro _ _
    generalize (D.write v.slot ((v.spot (g.cost - 1) : Nat) : Int) g.commit).2 = E
    generalize (D.write v.slot ((v.spot (g.cost - 1) : Nat) : Int) g.commit).1 = e1
    refine w ?_
    by_cases h9 : e1 = 0
    rotate_left
    · rw [if_pos h9]
      (refine VC.condTe rfl rfl (by simpa using h9) ?_)
      refine w ?_
      refine VE.done1 rfl rfl (Ent.trans (Ent.re (L := RBayR b E :: RWalO wp b r x g.commit { v with broken := e1 } R)) (rwalShut (v := { v with broken := e1 }) hg))
    subst h9
    rw [if_neg (by simp)]
    (refine VC.condFe rfl rfl (by simp) ?_)
    refine w ?_
    (refine VC.drawn [] 8 [0, 1, 2, 3, 4, 5, 6, 7, 8] _ rfl (by kernel_rfl) (by kernel_rfl) Ent.re ?_)
    refine w ?_
    refine VD.ent (H' := RRing r v.size v.tail v.used :: RBayR b E :: rwalRow wp b r x g.commit v :: OwnB x g.commit :: R) Ent.re ?_
    rw [hlc]
    (refine zq ?_; refine zy rfl rfl (rringtake_ok r hv.ring g.cost hft) ?_)
    intro x9 _
    refine w ?_
    rw [show IntKind.u64.wrap ((v.next : Int) + 1) = ((v.next + 1 : Nat) : Int) by rw [show ((v.next : Int) + 1) = ((v.next + 1 : Nat) : Int) by omega, wrap64_of (by omega)]]
    refine VE.done1 rfl rfl (Ent.trans (Ent.re (L := RBayR b E :: RWalO wp b r x g.commit { v with used := v.used + g.cost, next := v.next + 1, sure := false, log := none } R)) (rwalShut (fun g q => (by cases q))))
theorem rwempties_ok {D : BayD} {c0 : Nat} (wp b : Nat) (v : WalD) (e : Nat) (he : e < 2 ^ 64) (hv : v.ok) (hs : D.sane) (hcp : D.capd c0) (hc0 : c0 <= 999990000) :
  Does1 W Tryz.prog 120 [.pointer (some ⟨wp, 0, none⟩), .int .u64 e] (RWalR wp b v :: RBayR b D :: R) (.int .u16 (wEmpty (v, D) e).1) (RWalR wp b (wEmpty (v, D) e).2.1 :: RBayR b (wEmpty (v, D) e).2.2 :: R) := by
 have hr1 := hv.ring.lo; have hr2 := hv.ring.hi; have hr3 := hv.ring.tl; have hr4 := hv.ring.us
 have hm : (v.tail + v.used) % v.size < v.size := Nat.mod_lt _ (by omega)
 have hnx := hv.next
 refine rwalDoes fun r x cm hg => ?_
 (refine Does.enter Tryz.func120 Tryz.ntmps120 rfl rfl ?_)
 refine w ?_
 refine zk ?_ ?_ <;> intro hc
 ·
  have h0 : v.broken ≠ 0 := by simpa using hc
  have hz : wEmpty (v, D) e = (v.broken, (v, D)) := if_pos h0
  rw [hz]
  refine w ?_
  exact VE.done1 rfl rfl (rwalShut hg)
 have h0 : v.broken = 0 := by simpa using hc
 clear hc
 refine w ?_
 refine zk ?_ ?_ <;> intro hc
 ·
  have h1 : v.sure = false := by simpa using hc
  have hz : wEmpty (v, D) e = (1, (v, D)) := by unfold wEmpty; rw [if_neg (by simpa using h0), if_pos h1]
  rw [hz]
  refine w ?_
  exact VE.done1 rfl rfl (rwalShut hg)
 have h1 : v.sure = true := by simpa using hc
 clear hc
 have hz : wEmpty (v, D) e = if (wCheck (v, D) ⟨e, v.next, v.head⟩).1 ≠ 0 then wCheck (v, D) ⟨e, v.next, v.head⟩ else
   (0, { v with epoch := e, tail := v.head, used := 0, log := none }, (wCheck (v, D) ⟨e, v.next, v.head⟩).2.2) := by
  unfold wEmpty
  rw [if_neg (by simpa using h0), if_neg (by dsimp only; rw [h1]; simp)]
 rw [hz]
 refine w ?_
 refine VO.ent (H' := RRing r v.size v.tail v.used :: RBayR b D :: rwalRow wp b r x cm v :: OwnB x cm :: R) Ent.re ?_
 (refine zq ?_; refine zy rfl rfl (rringhead_ok r hv.ring) ?_)
 intro _ _
 refine w ?_
 refine VO.ent (H' := RBayR b D :: RWalO wp b r x cm v R) Ent.re ?_
 (refine zq ?_; refine zy rfl rfl (rwcheck_ok wp b r x cm v h0 e (v.head : Int) ⟨he, by dsimp only; omega, by dsimp only [WalD.head]; omega⟩ hs hcp (by omega)) ?_)
 intro _ _
 refine w ?_
 by_cases h9 : (wCheck (v, D) ⟨e, v.next, v.head⟩).1 = 0
 rotate_left
 ·
  rw [if_pos h9]
  (refine VC.condTe rfl rfl (by simpa using h9) ?_)
  refine w ?_
  exact VE.done1 rfl rfl (rwalShut (fun g q => hg g (by rw [<- q]; exact (wCheck_log v D ⟨e, v.next, v.head⟩).1.symm)))
 rw [if_neg (by simpa using h9), wCheck_same h9]
 rw [h9]
 (refine VC.condFe rfl rfl (by simp) ?_)
 refine w ?_
 (refine VC.drawn [] 11 [0, 1, 2, 3, 4, 5, 6, 7, 8, 9, 10, 11] _ rfl (by kernel_rfl) (by kernel_rfl) Ent.re ?_)
 refine w ?_
 refine VD.ent (H' := RRing r v.size v.tail v.used :: RBayR b (wCheck (v, D) ⟨e, v.next, v.head⟩).2.2 :: rwalRow wp b r x cm v :: OwnB x cm :: R) Ent.re ?_
 (refine zq ?_; refine zy rfl rfl (rringgive_ok r hv.ring v.used (Nat.le_refl _)) ?_)
 intro x9 _
 refine w ?_
 refine VE.done1 rfl rfl (Ent.trans (Ent.re (L := RBayR b (wCheck (v, D) ⟨e, v.next, v.head⟩).2.2 :: RWalO wp b r x cm { v with epoch := e, tail := v.head, used := 0, log := none } R) (by
  unfold RWalO WalD.head
  dsimp only
  rw [show v.used - v.used = 0 by omega]
  (repeat first | exact .refl | (apply Reord.cons; focus repeat first | exact .head | apply Del.tail) | exact .nil | apply Reord.drop))) (rwalShut (fun g q => (by cases q))))
theorem rwreclaim_ok {D : BayD} {c0 : Nat} (wp b : Nat) (v : WalD) (hv : v.ok) (hs : D.sane) (hcp : D.capd c0) (hc0 : c0 <= 999990000) :
  Does1 W Tryz.prog 57 [.pointer (some ⟨wp, 0, none⟩)] (RWalR wp b v :: RBayR b D :: R) (.int .u16 (wEmpty (v, D) v.epoch).1) (RWalR wp b (wEmpty (v, D) v.epoch).2.1 :: RBayR b (wEmpty (v, D) v.epoch).2.2 :: R) := by
 have hepo := hv.epoch
 refine rwalDoes fun r x cm hg => ?_
 (refine Does.enter Tryz.func57 Tryz.ntmps57 rfl rfl ?_)
 refine w ?_
 refine VO.ent (rwalShut hg) ?_
 (refine zq ?_; refine zy rfl rfl (rwempties_ok wp b v v.epoch (by omega) hv hs hcp hc0) ?_)
 intro _ _
 refine w ?_
 exact VE.done1 rfl rfl Ent.re
theorem rwrenew_ok {D : BayD} {c0 : Nat} (wp b : Nat) (v : WalD) (hv : v.ok) (hs : D.sane) (hcp : D.capd c0) (hc0 : c0 <= 999990000) :
  Does1 W Tryz.prog 59 [.pointer (some ⟨wp, 0, none⟩)] (RWalR wp b v :: RBayR b D :: R) (.int .u16 (wEmpty (v, D) (v.epoch + 1)).1) (RWalR wp b (wEmpty (v, D) (v.epoch + 1)).2.1 :: RBayR b (wEmpty (v, D) (v.epoch + 1)).2.2 :: R) := by
 have hepo := hv.epoch
 refine rwalDoes fun r x cm hg => ?_
 (refine Does.enter Tryz.func59 Tryz.ntmps59 rfl rfl ?_)
 refine w ?_
 refine VO.re 8 (.int .u64 ((v.epoch + 1 : Nat) : Int)) rfl (by congr 1; rw [show ((v.epoch : Int) + 1) = ((v.epoch + 1 : Nat) : Int) by omega, wrap64_of (by omega)]) ?_
 refine VO.ent (rwalShut hg) ?_
 (refine zq ?_; refine zy rfl rfl (rwempties_ok wp b v (v.epoch + 1) (by omega) hv hs hcp hc0) ?_)
 intro _ _
 refine w ?_
 exact VE.done1 rfl rfl Ent.re
theorem bayOkk {W w : World} {R : List SProp} {b : Nat} {D : BayD} (h : Holds W (BayR b D :: R) w) (k : Int) (v : DevD) (hv : D.dev k = some v) : v.k.ok := by
  obtain ⟨⟨⟨a, sp⟩, h1, h2⟩, h3⟩ := BayR.open h
  dsimp only at h1 h2 h3
  rw [inP_D h1] at hv
  cases hp : inP sp k with
  | none => rw [hp] at hv; cases hv
  | some p =>
    rw [hp] at hv
    have hv : p.v = v := by injection hv
    obtain ⟨l1, s, l2, rfl, -, hs⟩ := inP_split hp
    have h4 := bayOutP hs w h3
    have := h4.tail
    rw [<- hv]
    exact DiskR.know this
theorem rd_128 {k : DiskD} (hk : k.ok) {a : Int} (h : (k.rd a).2 = 0) : (k.rd a).1.length = 128 := by
 unfold DiskD.rd at *
 split at h
 ·
  rename_i h0
  rw [if_pos h0]
  have := may_zero h0
  exact DiskD.look_128 hk (by omega)
 · rename_i h0; exact absurd h h0
theorem refuse_devU {D : BayD} {k : Int} (h : D.refuse k = 0) : ∃ v, D.dev k = some v := by
  unfold BayD.refuse at h
  split at h
  · cases h
  · split at h
    · cases h
    · rename_i h1 h2
      cases hd : D.dev k with
      | some v => exact ⟨v, rfl⟩
      | none =>
        rw [hd] at h
        unfold thereE at h
        simp only [Option.isSome_none] at h
        split at h
        · cases h
        · cases h
theorem use_okk {v : DevD} (h : v.k.ok) : v.use.k.ok := by
 unfold DevD.use
 split
 · exact h
 ·
  split
  · exact DiskD.settle_okk (k := ⟨v.k.last, v.k.cache, true⟩) ⟨h.last, h.cache, h.size⟩
  · exact h
theorem read_128 {D : BayD} {k a : Int} (hk : ∀ v, D.dev k = some v -> v.k.ok) (h : (D.read k a).1.2 = 0) : (D.read k a).1.1.length = 128 := by
 unfold BayD.read at *
 split at h
 ·
  rename_i h0
  rw [if_pos h0]
  obtain ⟨v, hv⟩ := refuse_devU h0
  dsimp only at *
  refine rd_128 ?_ h
  unfold BayD.dv
  rw [hv]
  exact use_okk (hk v hv)
 · rename_i h0; exact absurd h h0
def sizedB (n : Int) : Bool := decide (5 <= n /\ n <= 2048)
theorem sized_ok (n : Int) : Does1 W Tryz.prog 29 [.int .i64 n] R (.bool (sizedB n)) R := by
 (refine Does.enter Tryz.func29 Tryz.ntmps29 rfl rfl ?_)
 refine w ?_
 refine zg ?_ ?_ <;> intro hb
 ·
  refine w ?_
  exact VE.done1 rfl (by unfold sizedB; congr 1; rw [decide_eq_decide]; have := of_decide_eq_true hb; omega) Ent.re
 ·
  refine w ?_
  exact VE.done1 rfl (by unfold sizedB; congr 1; symm; apply decide_eq_false; have := of_decide_eq_false hb; omega) Ent.re
def fresh0 (slot : Int) (epoch n : Nat) : WalD := ⟨slot, epoch, n, 0, 0, 1, true, none, 0⟩
def zeroL (n : Nat) : List (Int × List UInt8) := (List.range n).map fun p => (((2 + p : Nat) : Int), zeroSec)
def wFormat (D : BayD) (slot places : Int) (epoch : Nat) : (Option WalD × Int) × BayD :=
  if sizedB places = false \/ 4611686018427387904 < epoch then ((none, 1), D) else
  if (wMany (fresh0 slot epoch places.toNat, D) (zeroL places.toNat)).1 ≠ 0 then ((none, (wMany (fresh0 slot epoch places.toNat, D) (zeroL places.toNat)).1), (wMany (fresh0 slot epoch places.toNat, D) (zeroL places.toNat)).2.2) else
  if (wCheck (wMany (fresh0 slot epoch places.toNat, D) (zeroL places.toNat)).2 ⟨epoch, 1, 0⟩).1 ≠ 0 then ((none, (wCheck (wMany (fresh0 slot epoch places.toNat, D) (zeroL places.toNat)).2 ⟨epoch, 1, 0⟩).1), (wCheck (wMany (fresh0 slot epoch places.toNat, D) (zeroL places.toNat)).2 ⟨epoch, 1, 0⟩).2.2) else
  ((some (fresh0 slot epoch places.toNat), 0), (wCheck (wMany (fresh0 slot epoch places.toNat, D) (zeroL places.toNat)).2 ⟨epoch, 1, 0⟩).2.2)
theorem walformat_ok {D : BayD} {c0 epoch : Nat} (b : Nat) (slot places : Int) (he : epoch < 2 ^ 64) (hcp : D.capd c0) (hc0 : c0 <= 999990000) :
  Does W Tryz.prog 8 [.pointer (some ⟨b, 0, none⟩), .int .i64 slot, .int .i64 places, .int .u64 epoch] (BayR b D :: R) (β := Option Nat) (fun x => x.isSome = (wFormat D slot places epoch).1.1.isSome)
   (fun x => .tuple #[.pointer (x.map fun w => ⟨w, 0, none⟩), .int .u16 (wFormat D slot places epoch).1.2])
   (fun x => x.elim (BayR b (wFormat D slot places epoch).2 :: R) fun w => WalR w b (fresh0 slot epoch places.toNat) :: BayR b (wFormat D slot places epoch).2 :: R) := by
 (refine Does.enter Tryz.func8 Tryz.ntmps8 rfl rfl ?_)
 refine w ?_; repeat (refine zj fun _ => ?_; refine w ?_)
 (refine zq ?_; refine zy rfl rfl (sized_ok places) ?_)
 intro _ _
 refine w ?_; repeat (refine zj fun _ => ?_; refine w ?_)
 by_cases hs : sizedB places = true
 rotate_left
 ·
  have hs : sizedB places = false := by simpa using hs
  have hz : wFormat D slot places epoch = ((none, 1), D) := if_pos (.inl hs)
  rw [hs, hz]
  refine w ?_; repeat (refine zj fun _ => ?_; refine w ?_)
  exact VE.done none rfl rfl rfl Ent.refl
 rw [hs]
 have hs2 := of_decide_eq_true (show decide (5 <= places /\ places <= 2048) = true from hs)
 refine w ?_; repeat (refine zj fun _ => ?_; refine w ?_)
 refine zk ?_ ?_ <;> intro hc
 ·
  have hep := of_decide_eq_true hc
  have hz : wFormat D slot places epoch = ((none, 1), D) := if_pos (.inr (by omega))
  rw [hz]
  refine w ?_; repeat (refine zj fun _ => ?_; refine w ?_)
  exact VE.done none rfl rfl rfl Ent.refl
 have hep : epoch <= 4611686018427387904 := by have := of_decide_eq_false hc; omega
 clear hc
 obtain ⟨n, rfl⟩ : ∃ n : Nat, places = n := ⟨places.toNat, by omega⟩
 have hro : RingOk n 0 0 := ⟨by omega, by omega, by omega, by omega⟩
 obtain ⟨L, hL⟩ : ∃ L, L = zeroL n := ⟨_, rfl⟩
 have hLl : L.length = n := by rw [hL]; simp [zeroL]
 have hLg : ∀ i (h : i < L.length), L[i] = (((2 + i : Nat) : Int), zeroSec) := by intro i h; subst hL; simp [zeroL]
 have hF : wFormat D slot n epoch = if (wMany (fresh0 slot epoch n, D) L).1 ≠ 0 then ((none, (wMany (fresh0 slot epoch n, D) L).1), (wMany (fresh0 slot epoch n, D) L).2.2) else
   if (wCheck (wMany (fresh0 slot epoch n, D) L).2 ⟨epoch, 1, 0⟩).1 ≠ 0 then ((none, (wCheck (wMany (fresh0 slot epoch n, D) L).2 ⟨epoch, 1, 0⟩).1), (wCheck (wMany (fresh0 slot epoch n, D) L).2 ⟨epoch, 1, 0⟩).2.2) else
   ((some (fresh0 slot epoch n), 0), (wCheck (wMany (fresh0 slot epoch n, D) L).2 ⟨epoch, 1, 0⟩).2.2) := by
  rw [hL]
  unfold wFormat
  rw [if_neg (by rw [hs]; simp; omega), Int.toNat_natCast]
 refine w ?_; repeat (refine zj fun _ => ?_; refine w ?_)
 (refine zq ?_; refine zy rfl rfl (ringnew_ok (size := n) (tail := 0) (used := 0) hro) ?_)
 intro r _
 refine w ?_; repeat (refine zj fun _ => ?_; refine w ?_)
 (apply VO.pure rfl rfl; apply PureAt.build sb_95 rfl; (simp [buildX, setL, Value.cells]; rfl); rfl)
 refine w ?_; repeat (refine zj fun _ => ?_; refine w ?_)
 rename_i wp
 refine VC.ent (H' := BayR b D :: WalO wp b r none (fresh0 slot epoch n) R) (fun w hw => by
  have h1 := hw.factShut (p := True) trivial
  exact h1.reord (by
   show Reord (logRes none none :: _) _
   unfold WalO fresh0
   dsimp only
   (repeat first | exact .refl | (apply Reord.cons; focus repeat first | exact .head | apply Del.tail) | exact .nil | apply Reord.drop))) ?_
 refine w ?_; repeat (refine zj fun _ => ?_; refine w ?_)
 refine VC.loop (α := Nat × BayD) (fun y => y.1 <= n /\ y.2.capd (c0 + y.1) /\ wMany (fresh0 slot epoch n, D) L = wMany (fresh0 slot epoch n, y.2) (L.drop y.1)) (fun y => BayR b y.2 :: WalO wp b r none (fresh0 slot epoch n) R)
  (fun y => [(3, .int .u64 epoch), (12, .pointer (some ⟨wp, 0, none⟩)), (37, .int .i64 n), (38, .int .i64 y.1)]) (fun y => n - y.1) rfl (0, D) ⟨Nat.zero_le _, hcp, by rw [List.drop_zero]⟩ Ent.refl ⟨rfl, rfl, rfl, rfl, trivial⟩ ?_
 rintro ⟨i, Di⟩ ⟨hi, hci, hmi⟩
 dsimp only at hi hci hmi ⊢
 refine w ?_; repeat (refine zj fun _ => ?_; refine w ?_)
 refine zk ?_ ?_ <;> intro hc
 ·
  have hlt : i < n := by have := of_decide_eq_true hc; omega
  clear hc
  have hstep : wMany (fresh0 slot epoch n, Di) (L.drop i) = if (wWrite (fresh0 slot epoch n, Di) ((2 + i : Nat) : Int) zeroSec).1 ≠ 0 then wWrite (fresh0 slot epoch n, Di) ((2 + i : Nat) : Int) zeroSec else wMany (wWrite (fresh0 slot epoch n, Di) ((2 + i : Nat) : Int) zeroSec).2 (L.drop (i + 1)) := by
   rw [List.drop_eq_getElem_cons (by omega), hLg i (by omega)]; rfl
  refine w ?_; repeat (refine zj fun _ => ?_; refine w ?_)
  refine zq ?_
  refine OpV.makeSlice1 (m := 128) st_65 rfl rfl rfl (by decide) (by decide) rfl ?_
  intro nz
  refine VO.re 43 (.int .i64 ((2 + i : Nat) : Int)) rfl (by congr 1) ?_
  refine w ?_; repeat (refine zj fun _ => ?_; refine w ?_)
  refine VO.ent (H' := BayR b Di :: WalO wp b r none (fresh0 slot epoch n) (OwnB (some ⟨nz, 0, none⟩, 128) zeroSec :: R)) (by
   rw [show OwnB (some ⟨nz, 0, none⟩, 128) zeroSec = Sl.Own 5 1 (.slice (some ⟨nz, 0, none⟩) 128 128) 128 (List.replicate 128 (.int .u8 0)) by
    show Sl.Own _ _ (.slice _ zeroSec.length 128) zeroSec.length (bytes zeroSec) = _
    rw [zeroSec_length, show bytes zeroSec = List.replicate 128 (.int .u8 0) by unfold bytes zeroSec; rw [List.map_replicate]; rfl]]
   exact Ent.re) ?_
  refine VO.re 44 (.slice (some ⟨nz, 0, none⟩) zeroSec.length 128) rfl (by rw [zeroSec_length]) ?_
  (refine zq ?_; refine zy rfl rfl (walwrite_ok wp b r none (fresh0 slot epoch n) ((2 + i : Nat) : Int) (Nat.le_trans (dv_cap hci _) (by omega)) (Rds.own (bytes_one _) (.tail _ (.tail _ (.tail _ (.head _)))) (by simp) (by simp))) ?_)
  intro _ _
  refine w ?_; repeat (refine zj fun _ => ?_; refine w ?_)
  refine zk ?_ ?_ <;> intro hc
  ·
   have h9 : (wWrite (fresh0 slot epoch n, Di) ((2 + i : Nat) : Int) zeroSec).1 ≠ 0 := by simpa using hc
   rw [if_pos h9] at hstep
   have hfin : wFormat D slot n epoch = ((none, (wWrite (fresh0 slot epoch n, Di) ((2 + i : Nat) : Int) zeroSec).1), (wWrite (fresh0 slot epoch n, Di) ((2 + i : Nat) : Int) zeroSec).2.2) := by
    rw [hF, hmi, hstep, if_pos h9]
   rw [hfin]
   refine w ?_; repeat (refine zj fun _ => ?_; refine w ?_)
   refine VE.done none rfl rfl rfl ?_
   exact Ent.re
  have h9 : (wWrite (fresh0 slot epoch n, Di) ((2 + i : Nat) : Int) zeroSec).1 = 0 := by simpa using hc
  clear hc
  rw [if_neg (by simpa using h9)] at hstep
  have hsm := (wWrite_same h9).1
  refine w ?_; repeat (refine zj fun _ => ?_; refine w ?_)
  refine VE.round (i + 1, (wWrite (fresh0 slot epoch n, Di) ((2 + i : Nat) : Int) zeroSec).2.2) ⟨hlt, wWrite_capd hci _ _, ?_⟩ (by simp only; omega) ⟨rfl, rfl, rfl, asV rfl (by congr 1), trivial⟩ ?_
  ·
   show wMany (fresh0 slot epoch n, D) L = wMany (fresh0 slot epoch n, (wWrite (fresh0 slot epoch n, Di) ((2 + i : Nat) : Int) zeroSec).2.2) (L.drop (i + 1))
   rw [hmi, hstep]
   congr 1
   exact Prod.ext hsm rfl
  · rw [hsm]; exact Ent.re
 have hie : i = n := by have := of_decide_eq_false hc; omega
 clear hc
 rw [hie, <- hLl, List.drop_length] at hmi
 have hmany : wMany (fresh0 slot epoch n, D) L = (0, (fresh0 slot epoch n, Di)) := by rw [hLl] at hmi; exact hmi
 rw [hmany] at hF
 dsimp only at hF
 rw [if_neg (by simp)] at hF
 refine w ?_; repeat (refine zj fun _ => ?_; refine w ?_)
 (apply VO.pure rfl rfl; apply PureAt.build sb_98 rfl; (simp [buildX, setL, Value.cells]; rfl); rfl)
 (refine zq ?_; refine zy rfl rfl (walcheck_ok wp b r none (fresh0 slot epoch n) ⟨epoch, 1, 0⟩ ⟨he, by show 1 < 2 ^ 64; omega, by show -9223372036854775808 <= (0 : Int) /\ (0 : Int) <= 9223372036854775807; omega⟩ hci (by omega)) ?_)
 intro _ _
 refine w ?_; repeat (refine zj fun _ => ?_; refine w ?_)
 refine zk ?_ ?_ <;> intro hc
 ·
  have h9 : (wCheck (fresh0 slot epoch n, Di) ⟨epoch, 1, 0⟩).1 ≠ 0 := by simpa using hc
  rw [if_pos h9] at hF
  rw [hF]
  refine w ?_; repeat (refine zj fun _ => ?_; refine w ?_)
  refine VE.done none rfl rfl rfl ?_
  exact Ent.re
 have h9 : (wCheck (fresh0 slot epoch n, Di) ⟨epoch, 1, 0⟩).1 = 0 := by simpa using hc
 clear hc
 rw [if_neg (by simpa using h9)] at hF
 rw [hF, wCheck_same h9]
 refine w ?_; repeat (refine zj fun _ => ?_; refine w ?_)
 refine VE.done (some wp) rfl rfl rfl ?_
 exact Ent.trans (Ent.re (L := WalO wp b r none (fresh0 slot epoch n) (BayR b (wCheck (fresh0 slot epoch n, Di) ⟨epoch, 1, 0⟩).2.2 :: R))) (WalR.shut r none)
def bReads (D : BayD) (slot : Int) : List Int -> List UInt8 -> (List UInt8 × Int) × BayD
  | [], acc => ((acc, 0), D)
  | a :: r, acc => if (D.read slot a).1.2 ≠ 0 then (([], (D.read slot a).1.2), (D.read slot a).2) else bReads (D.read slot a).2 slot r (acc ++ (D.read slot a).1.1)
def ringL (n : Nat) : List Int := (List.range n).map fun p => ((2 + p : Nat) : Int)
def openW (slot places : Int) (c : ChkD) (f : FndD) : WalD := ⟨slot, c.epoch, places.toNat, c.tail.toNat, f.used, f.next, true, none, 0⟩
def wOpen (D : BayD) (slot places : Int) : ((Option WalD × List (Nat × List PatD)) × Int) × BayD :=
  if sizedB places = false then (((none, []), 1), D) else
  if (D.read slot 1).1.2 ≠ 0 then (((none, []), (D.read slot 1).1.2), (D.read slot 1).2) else
  if (ChkD.dec (D.read slot 1).1.1).1 ≠ 0 \/ places <= (ChkD.dec (D.read slot 1).1.1).2.tail then (((none, []), 120), (D.read slot 1).2) else
  if (bReads (D.read slot 1).2 slot (ringL places.toNat) []).1.2 ≠ 0 then (((none, []), (bReads (D.read slot 1).2 slot (ringL places.toNat) []).1.2), (bReads (D.read slot 1).2 slot (ringL places.toNat) []).2) else
  if (foundM (bReads (D.read slot 1).2 slot (ringL places.toNat) []).1.1 (ChkD.dec (D.read slot 1).1.1).2).1 ≠ 0 then (((none, []), (foundM (bReads (D.read slot 1).2 slot (ringL places.toNat) []).1.1 (ChkD.dec (D.read slot 1).1.1).2).1), (bReads (D.read slot 1).2 slot (ringL places.toNat) []).2) else
  (((some (openW slot places (ChkD.dec (D.read slot 1).1.1).2 (foundM (bReads (D.read slot 1).2 slot (ringL places.toNat) []).1.1 (ChkD.dec (D.read slot 1).1.1).2).2), (foundM (bReads (D.read slot 1).2 slot (ringL places.toNat) []).1.1 (ChkD.dec (D.read slot 1).1.1).2).2.txns), 0), (bReads (D.read slot 1).2 slot (ringL places.toNat) []).2)
theorem dec_fitS (b : List UInt8) : (ChkD.dec b).2.fit := by
 have hz : zeroK.fit := ⟨by decide, by decide, by decide⟩
 unfold ChkD.dec
 split
 · exact hz
 ·
  split
  · exact chk_fit b
  · exact hz
theorem dec_goodS {b : List UInt8} (h : (ChkD.dec b).1 = 0) : (ChkD.dec b).2.good /\ (ChkD.dec b).2.enc = (0, b) := by
 unfold ChkD.dec at *
 split at h
 · rename_i h1; exact absurd h h1
 ·
  rename_i h1
  rw [if_neg h1]
  split at h
  ·
   rename_i h2
   rw [if_pos h2]
   refine ⟨h2.1, ?_⟩
   rw [chk_ok h2.1] at h2 ⊢
   exact Prod.ext rfl h2.2
  · cases h
structure OpnE where
  w : Option Nat
  x : Option Addr × Nat
  ts : List TxnE
theorem walopen_ok {D : BayD} (b : Nat) (slot places : Int) :
  Does W Tryz.prog 25 [.pointer (some ⟨b, 0, none⟩), .int .i64 slot, .int .i64 places] (BayR b D :: R) (β := OpnE) (fun y => y.w.isSome = (wOpen D slot places).1.1.1.isSome /\ y.ts.map TxnE.T = (wOpen D slot places).1.1.2)
   (fun y => .tuple #[.pointer (y.w.map fun w => ⟨w, 0, none⟩), .slice y.x.1 y.ts.length y.x.2, .int .u16 (wOpen D slot places).1.2])
   (fun y => TxnsO y.x y.ts :: PilT y.ts :: y.w.elim (BayR b (wOpen D slot places).2 :: R) fun w => WalR w b ((wOpen D slot places).1.1.1.getD (fresh0 0 0 0)) :: BayR b (wOpen D slot places).2 :: R) := by
 have hnone : ∀ (D' : BayD), Ent W (BayR b D' :: R) (TxnsO (none, 0) [] :: PilT [] :: BayR b D' :: R) := fun D' w hw => (pile_nil (res := TxnE.res) hw).ownNil _ _
 (refine Does.enter Tryz.func25 Tryz.ntmps25 rfl rfl ?_)
 refine w ?_; repeat (refine zj fun _ => ?_; refine w ?_)
 (refine zq ?_; refine zy rfl rfl (sized_ok places) ?_)
 intro _ _
 refine w ?_; repeat (refine zj fun _ => ?_; refine w ?_)
 by_cases hs : sizedB places = true
 rotate_left
 ·
  have hs : sizedB places = false := by simpa using hs
  have hz : wOpen D slot places = (((none, []), 1), D) := if_pos hs
  rw [hs, hz]
  refine w ?_; repeat (refine zj fun _ => ?_; refine w ?_)
  exact VE.done ⟨none, (none, 0), []⟩ rfl ⟨rfl, rfl⟩ rfl (hnone D)
 rw [hs]
 have hs2 := of_decide_eq_true (show decide (5 <= places /\ places <= 2048) = true from hs)
 obtain ⟨n, rfl⟩ : ∃ n : Nat, places = n := ⟨places.toNat, by omega⟩
 have hO : wOpen D slot n = if (D.read slot 1).1.2 ≠ 0 then (((none, []), (D.read slot 1).1.2), (D.read slot 1).2) else
   if (ChkD.dec (D.read slot 1).1.1).1 ≠ 0 \/ (n : Int) <= (ChkD.dec (D.read slot 1).1.1).2.tail then (((none, []), 120), (D.read slot 1).2) else
   if (bReads (D.read slot 1).2 slot (ringL n) []).1.2 ≠ 0 then (((none, []), (bReads (D.read slot 1).2 slot (ringL n) []).1.2), (bReads (D.read slot 1).2 slot (ringL n) []).2) else
   if (foundM (bReads (D.read slot 1).2 slot (ringL n) []).1.1 (ChkD.dec (D.read slot 1).1.1).2).1 ≠ 0 then (((none, []), (foundM (bReads (D.read slot 1).2 slot (ringL n) []).1.1 (ChkD.dec (D.read slot 1).1.1).2).1), (bReads (D.read slot 1).2 slot (ringL n) []).2) else
   (((some (openW slot n (ChkD.dec (D.read slot 1).1.1).2 (foundM (bReads (D.read slot 1).2 slot (ringL n) []).1.1 (ChkD.dec (D.read slot 1).1.1).2).2), (foundM (bReads (D.read slot 1).2 slot (ringL n) []).1.1 (ChkD.dec (D.read slot 1).1.1).2).2.txns), 0), (bReads (D.read slot 1).2 slot (ringL n) []).2) := by
  unfold wOpen
  rw [if_neg (by rw [hs]; simp), Int.toNat_natCast]
 refine w ?_; repeat (refine zj fun _ => ?_; refine w ?_)
 (refine zq ?_; refine zy rfl rfl (bayread_ok b D slot 1) ?_)
 rintro ⟨xo, xc⟩ hxn
 dsimp only at hxn
 refine VO.know (p := ∀ v, (D.read slot 1).2.dev slot = some v -> v.k.ok) (fun w hw => bayOkk hw.tail slot) ?_
 intro hokk
 refine VO.know (p := (D.read slot 1).1.1.length <= xc) (fun w hw => hw.ownCap (.head _)) ?_
 intro hxc
 obtain ⟨D1, hD1⟩ : ∃ D1, D1 = (D.read slot 1).2 := ⟨_, rfl⟩
 obtain ⟨l1, hl1⟩ : ∃ l1, l1 = (D.read slot 1).1.1 := ⟨_, rfl⟩
 obtain ⟨e1, he1⟩ : ∃ e1, e1 = (D.read slot 1).1.2 := ⟨_, rfl⟩
 rw [<- hl1, <- he1, <- hD1] at hO
 rw [<- hD1] at hokk
 rw [<- hl1] at hxc hxn
 rw [<- hl1, <- he1, <- hD1]
 refine w ?_; repeat (refine zj fun _ => ?_; refine w ?_)
 refine zk ?_ ?_ <;> intro hc
 ·
  have h9 : e1 ≠ 0 := by simpa using hc
  rw [if_pos h9] at hO
  rw [hO]
  refine w ?_; repeat (refine zj fun _ => ?_; refine w ?_)
  refine VE.done ⟨none, (none, 0), []⟩ rfl ⟨rfl, rfl⟩ rfl ?_
  exact Ent.trans (Ent.re (L := BayR b D1 :: R)) (hnone D1)
 have h9 : e1 = 0 := by simpa using hc
 clear hc
 rw [if_neg (by simpa using h9)] at hO
 have hdf := dec_fitS l1
 obtain ⟨c, hcc⟩ : ∃ c, c = (ChkD.dec l1).2 := ⟨_, rfl⟩
 rw [<- hcc] at hO hdf
 refine w ?_; repeat (refine zj fun _ => ?_; refine w ?_)
 (refine zq ?_; refine zy rfl rfl (decs_ok (Rds.own (bytes_one _) (.head _) (by simp) hxn) hxc) ?_)
 intro _ _
 rw [<- hcc]
 refine w ?_; repeat (refine zj fun _ => ?_; refine w ?_)
 refine zq ?_; refine OpV.allocS sb_98 rfl ?_; intro n11
 refine w ?_; repeat (refine zj fun _ => ?_; refine w ?_)
 refine zq ?_
 refine OpV.stA (vs := c.cells) tab_ok rfl rfl rfl rfl (by simp [Value.oneCell']) zh (by simp) ?_
 refine VO.ent (H' := Row n11 98 c.cells :: BayR b D1 :: R) Ent.re ?_
 refine w ?_; repeat (refine zj fun _ => ?_; refine w ?_)
 refine zg ?_ ?_ <;> intro hb
 ·
  have h8 : (ChkD.dec l1).1 ≠ 0 := by simpa using hb
  rw [if_pos (.inl h8)] at hO
  rw [hO]
  refine w ?_; repeat (refine zj fun _ => ?_; refine w ?_)
  refine VE.done ⟨none, (none, 0), []⟩ rfl ⟨rfl, rfl⟩ rfl ?_
  exact Ent.trans (Ent.re (L := BayR b D1 :: R)) (hnone D1)
 have h8 : (ChkD.dec l1).1 = 0 := by simpa using hb
 clear hb
 refine w ?_; repeat (refine zj fun _ => ?_; refine w ?_)
 refine zk ?_ ?_ <;> intro hc
 ·
  have h7 : (n : Int) <= c.tail := of_decide_eq_true hc
  rw [if_pos (.inr h7)] at hO
  rw [hO]
  refine w ?_; repeat (refine zj fun _ => ?_; refine w ?_)
  refine VE.done ⟨none, (none, 0), []⟩ rfl ⟨rfl, rfl⟩ rfl ?_
  exact Ent.trans (Ent.re (L := BayR b D1 :: R)) (hnone D1)
 have h7 : ¬ (n : Int) <= c.tail := of_decide_eq_false hc
 clear hc
 rw [if_neg (by rintro (q | q); exact q h8; exact h7 q)] at hO
 obtain ⟨L, hL⟩ : ∃ L, L = ringL n := ⟨_, rfl⟩
 have hLl : L.length = n := by rw [hL]; simp [ringL]
 have hLg : ∀ i (h : i < L.length), L[i] = ((2 + i : Nat) : Int) := by intro i h; subst hL; simp [ringL]
 rw [<- hL] at hO
 refine w ?_; repeat (refine zj fun _ => ?_; refine w ?_)
 refine VC.loop (α := Nat × BayD × List UInt8 × (Option Addr × Nat)) (fun y => y.1 <= n /\ y.2.2.1.length = 128 * y.1 /\ bReads D1 slot L [] = bReads y.2.1 slot (L.drop y.1) y.2.2.1) (fun y => OwnB y.2.2.2 y.2.2.1 :: BayR b y.2.1 :: Row n11 98 c.cells :: R)
  (fun y => [(0, .pointer (some ⟨b, 0, none⟩)), (1, .int .i64 slot), (2, .int .i64 n), (11, .pointer (some ⟨n11, 0, none⟩)), (12, .slice y.2.2.2.1 y.2.2.1.length y.2.2.2.2), (43, .int .i64 n), (44, .int .i64 y.1)]) (fun y => n - y.1) rfl (0, D1, [], none, 0) ⟨Nat.zero_le _, rfl, by rw [List.drop_zero]⟩
  (Ent.trans (Ent.re (L := BayR b D1 :: Row n11 98 c.cells :: R)) (fun w hw => hw.ownNil 5 1)) ⟨rfl, rfl, rfl, rfl, rfl, rfl, rfl, trivial⟩ ?_
 rintro ⟨i, Di, acc, ⟨ao, ac⟩⟩ ⟨hi, hal, hmi⟩
 dsimp only at hi hal hmi ⊢
 refine w ?_; repeat (refine zj fun _ => ?_; refine w ?_)
 refine zk ?_ ?_ <;> intro hc
 ·
  have hlt : i < n := by have := of_decide_eq_true hc; omega
  clear hc
  have hstep : bReads Di slot (L.drop i) acc = if (Di.read slot ((2 + i : Nat) : Int)).1.2 ≠ 0 then (([], (Di.read slot ((2 + i : Nat) : Int)).1.2), (Di.read slot ((2 + i : Nat) : Int)).2) else bReads (Di.read slot ((2 + i : Nat) : Int)).2 slot (L.drop (i + 1)) (acc ++ (Di.read slot ((2 + i : Nat) : Int)).1.1) := by
   rw [List.drop_eq_getElem_cons (by omega), hLg i (by omega)]; rfl
  refine VC.know (p := ∀ v, Di.dev slot = some v -> v.k.ok) (fun w hw => bayOkk hw.tail slot) ?_
  intro hokd
  refine w ?_; repeat (refine zj fun _ => ?_; refine w ?_)
  refine VO.re 51 (.int .i64 ((2 + i : Nat) : Int)) rfl (by congr 1) ?_
  refine VO.ent (H' := BayR b Di :: OwnB (ao, ac) acc :: Row n11 98 c.cells :: R) Ent.re ?_
  (refine zq ?_; refine zy rfl rfl (bayread_ok b Di slot ((2 + i : Nat) : Int)) ?_)
  rintro ⟨yo, yc⟩ hyn
  dsimp only at hyn
  refine w ?_; repeat (refine zj fun _ => ?_; refine w ?_)
  refine zk ?_ ?_ <;> intro hc
  ·
   have h9' : (Di.read slot ((2 + i : Nat) : Int)).1.2 ≠ 0 := by simpa using hc
   rw [if_pos h9'] at hstep
   rw [hmi, hstep, if_pos h9'] at hO
   rw [hO]
   refine w ?_; repeat (refine zj fun _ => ?_; refine w ?_)
   refine VE.done ⟨none, (none, 0), []⟩ rfl ⟨rfl, rfl⟩ rfl ?_
   exact Ent.trans (Ent.re (L := BayR b (Di.read slot ((2 + i : Nat) : Int)).2 :: R)) (hnone _)
  have h9' : (Di.read slot ((2 + i : Nat) : Int)).1.2 = 0 := by simpa using hc
  clear hc
  rw [if_neg (by simpa using h9')] at hstep
  have h128 := read_128 hokd h9'
  refine w ?_; repeat (refine zj fun _ => ?_; refine w ?_)
  refine zq ?_
  refine OpV.append (m := (Di.read slot ((2 + i : Nat) : Int)).1.1.length) (news := bytes (Di.read slot ((2 + i : Nat) : Int)).1.1) st_65 rfl rfl zh (fun w hw => (show Sees w 1 (.slice yo (Di.read slot ((2 + i : Nat) : Int)).1.1.length yc) (Di.read slot ((2 + i : Nat) : Int)).1.1.length (bytes (Di.read slot ((2 + i : Nat) : Int)).1.1) from Sees.own (e := 5) (bytes_one _) hw zm).src st_65.und) (by simp only [maxLen]; omega) (by omega) rfl ?_
  intro so sc
  refine w ?_; repeat (refine zj fun _ => ?_; refine w ?_)
  refine VE.round (i + 1, (Di.read slot ((2 + i : Nat) : Int)).2, acc ++ (Di.read slot ((2 + i : Nat) : Int)).1.1, so, sc) ⟨hlt, by simp only [List.length_append]; omega, by rw [hmi, hstep]⟩ (by simp only; omega) ⟨rfl, rfl, rfl, rfl, asV rfl (by rw [List.length_append]), rfl, asV rfl (by congr 1), trivial⟩ ?_
  dsimp only
  rw [show OwnB (so, sc) (acc ++ (Di.read slot ((2 + i : Nat) : Int)).1.1) = Sl.Own 5 1 (.slice so (acc.length + (Di.read slot ((2 + i : Nat) : Int)).1.1.length) sc) (acc.length + (Di.read slot ((2 + i : Nat) : Int)).1.1.length) (bytes acc ++ bytes (Di.read slot ((2 + i : Nat) : Int)).1.1) by
   show Sl.Own _ _ (.slice so (_ ++ _ : List UInt8).length sc) (_ ++ _ : List UInt8).length (bytes (_ ++ _)) = _
   rw [List.length_append]; unfold bytes; rw [List.map_append]]
  exact Ent.re
 have hie : i = n := by have := of_decide_eq_false hc; omega
 clear hc
 rw [hie, <- hLl, List.drop_length] at hmi
 have hrd : bReads D1 slot L [] = ((acc, 0), Di) := hmi
 rw [hrd] at hO
 dsimp only at hO
 rw [if_neg (by simp)] at hO
 rw [hie] at hal
 refine VC.know (p := ao = none -> acc.length = 0) (fun w hw => hw.ownNone (.head _)) ?_
 intro hcn
 refine VC.know (p := acc.length <= ac) (fun w hw => hw.ownCap (.head _)) ?_
 intro hcc2
 obtain ⟨e2, f2, hf2⟩ : ∃ e f, foundM acc c = (e, f) := ⟨_, _, rfl⟩
 rw [hf2] at hO
 dsimp only at hO
 have hOF := of_ok (W := W) (R := OwnB (ao, ac) acc :: BayR b Di :: Row n11 98 c.cells :: R) (ao := ao) (cap := ac) (data := acc) (Rds.own (bytes_one _) (.head _) (by simp) hcn) hcc2 (by omega) c hdf
 rw [hf2] at hOF
 refine w ?_; repeat (refine zj fun _ => ?_; refine w ?_)
 (refine zq ?_; refine zy rfl rfl (hOF) ?_)
 rintro ⟨⟨o1, c1⟩, ts⟩ hts
 dsimp only at hts ⊢
 refine w ?_; repeat (refine zj fun _ => ?_; refine w ?_)
 refine zq ?_; refine OpV.allocS sb_172 rfl ?_; intro n16
 refine w ?_; repeat (refine zj fun _ => ?_; refine w ?_)
 refine zq ?_
 refine OpV.stA (vs := [.slice o1 ts.length c1, .int .u64 (f2.next : Int), .int .i64 (f2.head : Int), .int .i64 (f2.used : Int)]) tab_ok rfl rfl rfl rfl (by simp [Value.oneCell']) zh (by simp) ?_
 refine w ?_; repeat (refine zj fun _ => ?_; refine w ?_)
 refine zk ?_ ?_ <;> intro hc
 ·
  have h6 : e2 ≠ 0 := by simpa using hc
  rw [if_pos h6] at hO
  rw [hO]
  refine w ?_; repeat (refine zj fun _ => ?_; refine w ?_)
  refine VE.done ⟨none, (none, 0), []⟩ rfl ⟨rfl, rfl⟩ rfl ?_
  exact Ent.trans (Ent.re (L := BayR b Di :: R)) (hnone _)
 have h6 : e2 = 0 := by simpa using hc
 clear hc
 rw [if_neg (by simpa using h6)] at hO
 subst h6
 obtain ⟨n', tl, hdn, hn5, htl, htn, hgood, hfd⟩ := found_facts (data := acc) (c := c) (by rw [hf2])
 obtain rfl : n' = n := by omega
 have hus : f2.used <= n' := by
  have h5 : f2 = ⟨ofM (secB acc) n' c.epoch (n' + 1) c.seq 0 tl, c.seq + (ofM (secB acc) n' c.epoch (n' + 1) c.seq 0 tl).length, (tl + costT (ofM (secB acc) n' c.epoch (n' + 1) c.seq 0 tl)) % n', costT (ofM (secB acc) n' c.epoch (n' + 1) c.seq 0 tl)⟩ := by
   rw [hf2] at hfd; exact congrArg Prod.snd hfd
  rw [h5]
  have := of_cost (sec := secB acc) (size := n') (e := c.epoch) (n' + 1) c.seq 0 tl (Nat.zero_le _)
  dsimp only; omega
 have hro : RingOk n' tl f2.used := ⟨by omega, by omega, htn, hus⟩
 refine w ?_; repeat (refine zj fun _ => ?_; refine w ?_)
 refine VO.re 74 (.int .i64 (tl : Int)) rfl (by rw [<- htl]) ?_
 (refine zq ?_; refine zy rfl rfl (ringnew_ok hro) ?_)
 intro r _
 refine w ?_; repeat (refine zj fun _ => ?_; refine w ?_)
 (refine VC.drawn [8] 12 [0, 1, 2, 3, 4, 5, 6, 7, 9, 10, 8, 11, 12, 13] _ rfl (by kernel_rfl) (by kernel_rfl) Ent.re ?_)
 refine w ?_; repeat (refine zj fun _ => ?_; refine w ?_)
 ((first | apply VO.pure rfl rfl | apply VD.take rfl rfl rfl | (refine VD.end rfl rfl rfl ?_; apply OpV.pure)); apply PureAt.build sb_95 rfl; (simp [buildX, setL, Value.cells]; rfl); rfl)
 refine w ?_; repeat (refine zj fun _ => ?_; refine w ?_)
 rename_i wp
 have hop : openW slot n' c f2 = ⟨slot, c.epoch, n', tl, f2.used, f2.next, true, none, 0⟩ := by unfold openW; rw [htl]; rfl
 rw [hO, hop]
 refine VE.done ⟨some wp, (o1, c1), ts⟩ rfl ⟨rfl, hts⟩ rfl ?_
 refine Ent.trans (Ent.re (L := walRow wp b r none ⟨slot, c.epoch, n', tl, f2.used, f2.next, true, none, 0⟩ :: RingR r n' tl f2.used :: TxnsO (o1, c1) ts :: PilT ts :: BayR b Di :: R)) ?_
 refine Ent.trans (walNone rfl) ?_
 exact Ent.re
theorem rsector_ok {la : Addr} {cap n at_ i : Nat} (hn : 0 < n /\ n <= 2048) (hcap : n * 128 <= cap) (hi : at_ + i <= 1000000000) :
  Does1 W Tryz.prog 215 [.slice (some la) (n * 128) cap, .int .i64 at_, .int .i64 i] R (.slice (subA (some la) cap ((at_ + i) % n * 128) 1) 128 (cap - (at_ + i) % n * 128)) R := by
 have hm : (at_ + i) % n < n := Nat.mod_lt _ hn.1
 obtain ⟨k, hk⟩ : ∃ k, k = (at_ + i) % n := ⟨_, rfl⟩
 rw [<- hk] at hm ⊢
 (refine Does.enter Tryz.func215 Tryz.ntmps215 rfl rfl ?_)
 refine w ?_
 refine VO.pure rfl rfl (PureAt.quo (a := n * 128) (b := 128) rfl rfl (by decide) (IntWalk.i64_in _ ⟨by omega, by omega⟩)) rfl ?_
 rw [Nat.mul_div_cancel n (by decide : 0 < 128)]
 refine VO.re 10 (.int .i64 ((at_ + i : Nat) : Int)) rfl (by congr 1) ?_
 refine VO.pure rfl rfl (PureAt.rem (a := at_ + i) (b := n) rfl rfl hn.1) rfl ?_
 rw [<- hk]
 refine w ?_
 refine VO.re 17 (.int .i64 ((k * 128 : Nat) : Int)) rfl (by congr 1; omega) ?_
 refine VO.re 20 (.int .i64 (((k + 1) * 128 : Nat) : Int)) rfl (by congr 1; omega) ?_
 refine w ?_
 refine VE.done1 rfl (by congr 1; omega) Ent.refl
theorem rsector_rds {la : Addr} {cap n : Nat} {data : List UInt8} (hcap : n * 128 <= cap) (hr : Rds W R 1 (some la) (n * 128) (bytes data)) (hd : data.length = n * 128) {k : Nat} (hk : k < n) :
  Rds W R 1 (subA (some la) cap (k * 128) 1) 128 (bytes ((data.drop (k * 128)).take 128)) := by
 have h1 := hr.sub (cap := cap) (l := k * 128) (h := (k + 1) * 128) (by omega) (by omega) hcap
 rw [show (k + 1) * 128 - k * 128 = 128 by omega, Nat.mul_one, Nat.mul_one] at h1
 have h2 : bytes ((data.drop (k * 128)).take 128) = ((bytes data).drop (k * 128)).take 128 := by unfold bytes; rw [List.map_take, List.map_drop]
 rw [h2]
 exact h1
theorem batN_pos {sec : SecF} (h : (HdrD.dec (sec 0)).1 = 0) : 1 <= batN sec /\ batN sec <= 1023 := (hdr_decO h).2.1.2.1
theorem batM_none {sec : SecF} {room e s : Nat} (h : ¬ batOk sec room e s) : batM sec room e s = none := if_neg h
theorem rbatch_ok {la : Addr} {cap n : Nat} {data : List UInt8} (hn : 0 < n /\ n <= 2048) (hcap : n * 128 <= cap) (at_ room e s : Nat) (ha : at_ < n) (hroom : room <= n) (he : e < 2 ^ 64) (hs : s < 2 ^ 64) (hd : data.length = n * 128) (hr : Rds W R 1 (some la) (n * 128) (bytes data)) (sec : SecF) (hsec : ∀ i, sec i = (data.drop ((at_ + i) % n * 128)).take 128) :
  Does W Tryz.prog 183 [.slice (some la) (n * 128) cap, .int .i64 at_, .int .i64 room, .int .u64 e, .int .u64 s] R (β := TxnE) (fun t => ∀ l, s <= 4611686018427387904 -> batM sec room e s = some l -> t.seq = s /\ t.pats.map PatE.D = l)
   (fun t => .tuple #[.agg t.cells.toArray, .int .i64 (if s <= 4611686018427387904 then (batM sec room e s).elim 0 fun l => 2 * (l.length : Int) + 1 else 0)]) (fun t => PatsO (t.ao, t.cap) t.pats :: PilP t.pats :: R) := by
 have hlen : ∀ i, (sec i).length = 128 := fun i => by
  have := Nat.mod_lt (at_ + i) hn.1
  rw [hsec, List.length_take, List.length_drop]; omega
 have hRd : ∀ i, Rds W R 1 (subA (some la) cap ((at_ + i) % n * 128) 1) (sec i).length (bytes (sec i)) := fun i => by
  rw [hlen, hsec]; exact rsector_rds hcap hr hd (Nat.mod_lt _ hn.1)
 have hnone : ∀ {L : List SProp}, Ent W L R -> Ent W L (PatsO (none, 0) [] :: PilP [] :: R) := fun h w hw => (pile_nil (res := PatE.res) (h w hw)).ownNil _ _
 have hfail : ∀ (h : s <= 4611686018427387904 -> ¬ batOk sec room e s), (∀ l, s <= 4611686018427387904 -> batM sec room e s = some l -> (0 : Nat) = s /\ ([] : List PatE).map PatE.D = l) /\ (if s <= 4611686018427387904 then (batM sec room e s).elim 0 fun l => 2 * (l.length : Int) + 1 else 0) = 0 := fun h => by
  refine ⟨fun l h1 h2 => (by rw [batM_none (h h1)] at h2; cases h2), ?_⟩
  split
  · rename_i h1; rw [batM_none (h h1)]; rfl
  · rfl
 have hSC : ∀ (L : List SProp) (i : Nat), i <= 10000 -> Does1 W Tryz.prog 215 [.slice (some la) (n * 128) cap, .int .i64 at_, .int .i64 i] L (.slice (subA (some la) cap ((at_ + i) % n * 128) 1) 128 (cap - (at_ + i) % n * 128)) L := fun L i hi => rsector_ok hn hcap (by omega)
 have hcp : ∀ i, 128 <= cap - (at_ + i) % n * 128 := fun i => by
  have := Nat.mod_lt (at_ + i) hn.1
  have : ((at_ + i) % n + 1) * 128 <= n * 128 := Nat.mul_le_mul_right _ (by omega)
  omega
 (refine Does.enter Tryz.func183 Tryz.ntmps183 rfl rfl ?_)
 refine w ?_
 refine zq ?_; refine OpV.allocS sb_87 rfl ?_; intro n10
 refine w ?_
 (apply VO.pure rfl rfl; apply PureAt.build sb_87 rfl; (simp [buildX, setL, Value.cells]; rfl); rfl)
 refine zq ?_; refine OpV.allocS sb_87 rfl ?_; intro n12
 refine zq ?_
 refine OpV.stA (vs := [.int .u64 0, .slice none 0 0]) tab_ok rfl rfl rfl rfl (by simp [Value.oneCell']) zh (by simp) ?_
 refine VO.ent (H' := Row n12 87 [.int .u64 0, .slice none 0 0] :: Row n10 87 [.int .u64 0, .slice none 0 0] :: R) Ent.refl ?_
 refine w ?_
 by_cases hrm : room < 3
 ·
  (first | refine VO.gT rfl rfl rfl (decide_eq_true (by omega)) ?_ | refine VD.gT rfl rfl rfl (decide_eq_true (by omega)) ?_)
  (refine w ?_; (refine zq ?_); refine OpV.stA (vs := [.int .u64 0, .slice none 0 0]) tab_ok rfl rfl rfl rfl (by simp [Value.oneCell']) zh (by simp) ?_; refine w ?_; refine VE.results2 (.inl rfl) (⟨0, none, 0, []⟩ : TxnE) rfl (ResIs.agg (vs := [.int .u64 0, .slice none 0 0]) tab_ok rfl rfl zm rfl rfl) (.tmp rfl) (hfail (fun _ h => by have := batN_pos h.1; have := h.2.1; omega)).1 (by rw [(hfail (fun _ h => by have := batN_pos h.1; have := h.2.1; omega)).2]; rfl) (hnone Ent.re))
 (first | refine VO.gF rfl rfl rfl (decide_eq_false (by omega)) ?_ | refine VD.gF rfl rfl rfl (decide_eq_false (by omega)) ?_)
 refine w ?_
 by_cases hsm : 4611686018427387904 < s
 ·
  (refine VC.condTe rfl rfl (decide_eq_true (by omega)) ?_)
  (refine w ?_; (refine zq ?_); refine OpV.stA (vs := [.int .u64 0, .slice none 0 0]) tab_ok rfl rfl rfl rfl (by simp [Value.oneCell']) zh (by simp) ?_; refine w ?_; refine VE.results2 (.inl rfl) (⟨0, none, 0, []⟩ : TxnE) rfl (ResIs.agg (vs := [.int .u64 0, .slice none 0 0]) tab_ok rfl rfl zm rfl rfl) (.tmp rfl) (hfail (fun h => absurd h (by omega))).1 (by rw [(hfail (fun h => absurd h (by omega))).2]; rfl) (hnone Ent.re))
 (refine VC.condFe rfl rfl (decide_eq_false (by omega)) ?_)
 refine w ?_
 (refine zq ?_; refine zy rfl rfl (hSC _ 0 (by decide)) ?_)
 intro _ _
 refine w ?_
 have hC0 := rdech_ok (W := W) (R := Row n12 87 [.int .u64 0, .slice none 0 0] :: Row n10 87 [.int .u64 0, .slice none 0 0] :: R) ((hRd 0).ent (Ent.drop (Ent.drop Ent.refl))) (by rw [hlen]; exact hcp 0)
 rw [hlen] at hC0
 (refine zq ?_; refine zy rfl rfl (hC0) ?_)
 intro _ _
 refine w ?_
 refine zq ?_; refine OpV.allocS sb_233 rfl ?_; intro n13
 refine w ?_
 refine zq ?_
 refine OpV.stA (vs := (HdrD.dec (sec 0)).2.cells) tab_ok rfl rfl rfl rfl (by simp [Value.oneCell']) zh (by simp) ?_
 refine VO.ent (H' := Row n13 233 (HdrD.dec (sec 0)).2.cells :: Row n12 87 [.int .u64 0, .slice none 0 0] :: Row n10 87 [.int .u64 0, .slice none 0 0] :: R) Ent.re ?_
 refine w ?_
 by_cases h0 : (HdrD.dec (sec 0)).1 ≠ 0
 ·
  (first | refine VO.gT rfl rfl rfl (by simpa using h0) ?_ | refine VD.gT rfl rfl rfl (by simpa using h0) ?_)
  (refine w ?_; (refine zq ?_); refine OpV.stA (vs := [.int .u64 0, .slice none 0 0]) tab_ok rfl rfl rfl rfl (by simp [Value.oneCell']) zh (by simp) ?_; refine w ?_; refine VE.results2 (.inl rfl) (⟨0, none, 0, []⟩ : TxnE) rfl (ResIs.agg (vs := [.int .u64 0, .slice none 0 0]) tab_ok rfl rfl zm rfl rfl) (.tmp rfl) (hfail (fun _ h => h0 h.1)).1 (by rw [(hfail (fun _ h => h0 h.1)).2]; rfl) (hnone Ent.re))
 have h0 := Classical.not_not.1 h0
 (first | refine VO.gF rfl rfl rfl (by simpa using h0) ?_ | refine VD.gF rfl rfl rfl (by simpa using h0) ?_)
 obtain ⟨p1, p2⟩ := batN_pos h0
 obtain ⟨N, hN⟩ : ∃ N : Nat, batN sec = N := ⟨(batN sec).toNat, by omega⟩
 have hcnt : (HdrD.dec (sec 0)).2.count = (N : Int) := hN
 have hN0 : (batN sec).toNat = N := by omega
 refine w ?_
 by_cases hrN : room < 2 * N + 1
 ·
  (refine VC.condTe rfl rfl (decide_eq_true (by omega)) ?_)
  (refine w ?_; (refine zq ?_); refine OpV.stA (vs := [.int .u64 0, .slice none 0 0]) tab_ok rfl rfl rfl rfl (by simp [Value.oneCell']) zh (by simp) ?_; refine w ?_; refine VE.results2 (.inl rfl) (⟨0, none, 0, []⟩ : TxnE) rfl (ResIs.agg (vs := [.int .u64 0, .slice none 0 0]) tab_ok rfl rfl zm rfl rfl) (.tmp rfl) (hfail (fun _ h => by have := h.2.1; omega)).1 (by rw [(hfail (fun _ h => by have := h.2.1; omega)).2]; rfl) (hnone Ent.re))
 (refine VC.condFe rfl rfl (decide_eq_false (by omega)) ?_)
 refine w ?_
 (apply VO.pure rfl rfl; apply PureAt.build sb_87 rfl; (simp [buildX, setL, Value.cells]; rfl); rfl)
 refine zq ?_; refine OpV.allocS sb_87 rfl ?_; intro n16
 refine w ?_
 refine zq ?_
 refine OpV.stA (vs := [.int .u64 s, .slice none 0 0]) tab_ok rfl rfl rfl rfl (by simp [Value.oneCell']) zh (by simp) ?_
 refine w ?_
 refine VC.loop (α := Nat × (Option Addr × Nat) × (Option Addr × Nat) × List PatE) (fun y => y.1 <= N /\ y.2.2.2.length = y.1 /\ (∀ j, j < y.1 -> stepOk sec e s N j) /\ y.2.2.2.map PatE.D = (List.range y.1).map (patAt sec))
  (fun y => Row n16 87 [.int .u64 s, .slice y.2.2.1.1 y.2.2.2.length y.2.2.1.2] :: OwnB y.2.1 (headsF sec y.1) :: PatsO y.2.2.1 y.2.2.2 :: PilP y.2.2.2 :: Row n12 87 [.int .u64 0, .slice none 0 0] :: Row n10 87 [.int .u64 0, .slice none 0 0] :: R)
  (fun y => [(0, .slice (some la) (n * 128) cap), (1, .int .i64 at_), (3, .int .u64 e), (4, .int .u64 s), (10, .pointer (some ⟨n10, 0, none⟩)), (12, .pointer (some ⟨n12, 0, none⟩)), (15, .int .i64 N), (16, .pointer (some ⟨n16, 0, none⟩)), (17, .slice y.2.1.1 (headsF sec y.1).length y.2.1.2), (18, .int .i64 y.1)]) (fun y => N - y.1) rfl
  (0, (none, 0), (none, 0), []) ⟨Nat.zero_le _, rfl, fun j h => absurd h (Nat.not_lt_zero _), rfl⟩ ?_ ⟨rfl, rfl, rfl, rfl, rfl, rfl, asV rfl (by rw [hcnt]), rfl, rfl, rfl, trivial⟩ ?_
 ·
  refine Ent.trans (Ent.re (L := Row n16 87 [.int .u64 s, .slice none 0 0] :: Row n12 87 [.int .u64 0, .slice none 0 0] :: Row n10 87 [.int .u64 0, .slice none 0 0] :: R)) fun w hw => ?_
  have h1 := Holds.ownNil 5 1 (Holds.ownNil 70 3 (pile_nil (res := PatE.res) hw))
  have hE : Ent W (OwnB (none, 0) [] :: PatsO (none, 0) [] :: PilP [] :: Row n16 87 [.int .u64 s, .slice none 0 0] :: Row n12 87 [.int .u64 0, .slice none 0 0] :: Row n10 87 [.int .u64 0, .slice none 0 0] :: R)
   (Row n16 87 [.int .u64 s, .slice none 0 0] :: OwnB (none, 0) [] :: PatsO (none, 0) [] :: PilP [] :: Row n12 87 [.int .u64 0, .slice none 0 0] :: Row n10 87 [.int .u64 0, .slice none 0 0] :: R) := Ent.re
  exact hE w h1
 rintro ⟨i, ⟨ho, hc'⟩, ⟨po, pc⟩, ps⟩ ⟨hi, hpl, hst, hpm⟩
 dsimp only at hi hpl hst hpm ⊢
 refine w ?_
 refine zk ?_ ?_ <;> intro hc
 ·
  have hlt : i < N := by have := of_decide_eq_true hc; omega
  clear hc
  refine w ?_
  refine VO.re 66 (.int .i64 ((2 * i : Nat) : Int)) rfl (by congr 1) ?_
  (refine zq ?_; refine zy rfl rfl (hSC _ (2 * i) (by omega)) ?_)
  intro _ _
  refine w ?_
  have hdrop : Ent W (Row n16 87 [.int .u64 s, .slice po ps.length pc] :: OwnB (ho, hc') (headsF sec i) :: PatsO (po, pc) ps :: PilP ps :: Row n12 87 [.int .u64 0, .slice none 0 0] :: Row n10 87 [.int .u64 0, .slice none 0 0] :: R) R := Ent.drop (Ent.drop (Ent.drop (Ent.drop (Ent.drop (Ent.drop Ent.refl)))))
  have hC1 := rdech_ok (W := W) ((hRd (2 * i)).ent hdrop) (by rw [hlen]; exact hcp (2 * i))
  rw [hlen] at hC1
  (refine zq ?_; refine zy rfl rfl (hC1) ?_)
  intro _ _
  generalize hq : HdrD.dec (sec (2 * i)) = q
  obtain ⟨qe, qh⟩ := q
  dsimp only
  refine w ?_
  refine zq ?_; refine OpV.allocS sb_233 rfl ?_; intro n20
  refine w ?_
  refine zq ?_
  refine OpV.stA (vs := qh.cells) tab_ok rfl rfl rfl rfl (by simp [Value.oneCell']) zh (by simp) ?_
  refine VO.ent (H' := Row n20 233 qh.cells :: Row n16 87 [.int .u64 s, .slice po ps.length pc] :: OwnB (ho, hc') (headsF sec i) :: PatsO (po, pc) ps :: PilP ps :: Row n12 87 [.int .u64 0, .slice none 0 0] :: Row n10 87 [.int .u64 0, .slice none 0 0] :: R) Ent.re ?_
  have hbad : ∀ (h : ¬ stepOk sec e s N i), s <= 4611686018427387904 -> ¬ batOk sec room e s := fun h _ hb => by
   have := hb.2.2.1 i (by rw [hN0]; exact hlt)
   rw [hN] at this
   exact h this
  have hstp : stepOk sec e s N i ↔ (qe = 0 /\ qh.epoch = e /\ qh.seq = s /\ qh.index = i /\ qh.count = N /\ (unD (sec (2 * i + 1)) qh.escaped).2 = 0 /\ (crcS (sec (2 * i + 1))).toNat = qh.sum) := by unfold stepOk; rw [hq]
  refine w ?_
  by_cases c0 : qe ≠ 0
  ·
   (first | refine VO.gT rfl rfl rfl (by simpa using c0) ?_ | refine VD.gT rfl rfl rfl (by simpa using c0) ?_)
   (refine w ?_; (refine zq ?_); refine OpV.stA (vs := [.int .u64 0, .slice none 0 0]) tab_ok rfl rfl rfl rfl (by simp [Value.oneCell']) zh (by simp) ?_; refine w ?_; refine VE.results2 (.inl rfl) (⟨0, none, 0, []⟩ : TxnE) rfl (ResIs.agg (vs := [.int .u64 0, .slice none 0 0]) tab_ok rfl rfl zm rfl rfl) (.tmp rfl) (hfail (hbad fun h => c0 (hstp.1 h).1)).1 (by rw [(hfail (hbad fun h => c0 (hstp.1 h).1)).2]; rfl) (hnone Ent.re))
  have c0 := Classical.not_not.1 c0
  (first | refine VO.gF rfl rfl rfl (by simpa using c0) ?_ | refine VD.gF rfl rfl rfl (by simpa using c0) ?_)
  refine w ?_
  by_cases c1 : qh.epoch ≠ e
  ·
   (first | refine VO.gT rfl rfl rfl (by simp; omega) ?_ | refine VD.gT rfl rfl rfl (by simp; omega) ?_)
   (refine w ?_; (refine zq ?_); refine OpV.stA (vs := [.int .u64 0, .slice none 0 0]) tab_ok rfl rfl rfl rfl (by simp [Value.oneCell']) zh (by simp) ?_; refine w ?_; refine VE.results2 (.inl rfl) (⟨0, none, 0, []⟩ : TxnE) rfl (ResIs.agg (vs := [.int .u64 0, .slice none 0 0]) tab_ok rfl rfl zm rfl rfl) (.tmp rfl) (hfail (hbad fun h => c1 (hstp.1 h).2.1)).1 (by rw [(hfail (hbad fun h => c1 (hstp.1 h).2.1)).2]; rfl) (hnone Ent.re))
  have c1 := Classical.not_not.1 c1
  (first | refine VO.gF rfl rfl rfl (by simp; omega) ?_ | refine VD.gF rfl rfl rfl (by simp; omega) ?_)
  refine w ?_
  by_cases c2 : qh.seq ≠ s
  ·
   (first | refine VO.gT rfl rfl rfl (by simp; omega) ?_ | refine VD.gT rfl rfl rfl (by simp; omega) ?_)
   (refine w ?_; (refine zq ?_); refine OpV.stA (vs := [.int .u64 0, .slice none 0 0]) tab_ok rfl rfl rfl rfl (by simp [Value.oneCell']) zh (by simp) ?_; refine w ?_; refine VE.results2 (.inl rfl) (⟨0, none, 0, []⟩ : TxnE) rfl (ResIs.agg (vs := [.int .u64 0, .slice none 0 0]) tab_ok rfl rfl zm rfl rfl) (.tmp rfl) (hfail (hbad fun h => c2 (hstp.1 h).2.2.1)).1 (by rw [(hfail (hbad fun h => c2 (hstp.1 h).2.2.1)).2]; rfl) (hnone Ent.re))
  have c2 := Classical.not_not.1 c2
  (first | refine VO.gF rfl rfl rfl (by simp; omega) ?_ | refine VD.gF rfl rfl rfl (by simp; omega) ?_)
  refine w ?_
  by_cases c3 : qh.index ≠ (i : Int)
  ·
   (first | refine VO.gT rfl rfl rfl (by simpa using c3) ?_ | refine VD.gT rfl rfl rfl (by simpa using c3) ?_)
   (refine w ?_; (refine zq ?_); refine OpV.stA (vs := [.int .u64 0, .slice none 0 0]) tab_ok rfl rfl rfl rfl (by simp [Value.oneCell']) zh (by simp) ?_; refine w ?_; refine VE.results2 (.inl rfl) (⟨0, none, 0, []⟩ : TxnE) rfl (ResIs.agg (vs := [.int .u64 0, .slice none 0 0]) tab_ok rfl rfl zm rfl rfl) (.tmp rfl) (hfail (hbad fun h => c3 (hstp.1 h).2.2.2.1)).1 (by rw [(hfail (hbad fun h => c3 (hstp.1 h).2.2.2.1)).2]; rfl) (hnone Ent.re))
  have c3 := Classical.not_not.1 c3
  (first | refine VO.gF rfl rfl rfl (by simpa using c3) ?_ | refine VD.gF rfl rfl rfl (by simpa using c3) ?_)
  refine w ?_
  by_cases c4 : qh.count ≠ (N : Int)
  ·
   (refine VC.condTe rfl rfl (by simpa using c4) ?_)
   (refine w ?_; (refine zq ?_); refine OpV.stA (vs := [.int .u64 0, .slice none 0 0]) tab_ok rfl rfl rfl rfl (by simp [Value.oneCell']) zh (by simp) ?_; refine w ?_; refine VE.results2 (.inl rfl) (⟨0, none, 0, []⟩ : TxnE) rfl (ResIs.agg (vs := [.int .u64 0, .slice none 0 0]) tab_ok rfl rfl zm rfl rfl) (.tmp rfl) (hfail (hbad fun h => c4 (hstp.1 h).2.2.2.2.1)).1 (by rw [(hfail (hbad fun h => c4 (hstp.1 h).2.2.2.2.1)).2]; rfl) (hnone Ent.re))
  have c4 := Classical.not_not.1 c4
  (refine VC.condFe rfl rfl (by simpa using c4) ?_)
  refine w ?_
  have hhl : (headsF sec i).length = i * 128 := by
   clear hstp hbad hdrop hq
   have : ∀ m, (headsF sec m).length = m * 128 := fun m => by
    induction m with
    | zero => rfl
    | succ m ih => rw [headsF, List.length_append, ih, hlen, Nat.add_mul]
   exact this i
  have hdrop2 : Ent W (Row n20 233 qh.cells :: Row n16 87 [.int .u64 s, .slice po ps.length pc] :: OwnB (ho, hc') (headsF sec i) :: PatsO (po, pc) ps :: PilP ps :: Row n12 87 [.int .u64 0, .slice none 0 0] :: Row n10 87 [.int .u64 0, .slice none 0 0] :: R) R := Ent.drop hdrop
  refine zq ?_
  refine OpV.append (m := 128) st_65 rfl rfl zh (fun w hw => (by have := ((hRd (2 * i)).ent hdrop2).sees (cap := cap - (at_ + 2 * i) % n * 128) hw; rw [hlen] at this; exact this.src st_65.und)) (by simp only [maxLen]; omega) (by omega) rfl ?_
  intro ho2 hc2
  refine w ?_
  have hhl2 : (headsF sec (i + 1)).length = (headsF sec i).length + 128 := by rw [headsF, List.length_append, hlen]
  have hown : Sl.Own 5 1 (.slice ho2 ((headsF sec i).length + 128) hc2) ((headsF sec i).length + 128) (bytes (headsF sec i) ++ bytes (sec (2 * i))) = OwnB (ho2, hc2) (headsF sec (i + 1)) := by
   unfold OwnB; rw [hhl2, headsF, bytes_append]
  rw [hown]
  refine VO.re 107 (.int .i64 ((2 * i + 1 : Nat) : Int)) rfl (by congr 1) ?_
  have hdrop3 : Ent W (Row n20 233 qh.cells :: Row n16 87 [.int .u64 s, .slice po ps.length pc] :: OwnB (ho2, hc2) (headsF sec (i + 1)) :: PatsO (po, pc) ps :: PilP ps :: Row n12 87 [.int .u64 0, .slice none 0 0] :: Row n10 87 [.int .u64 0, .slice none 0 0] :: R) R := Ent.drop (Ent.drop (Ent.drop (Ent.drop (Ent.drop (Ent.drop (Ent.drop Ent.refl))))))
  (refine zq ?_; refine zy rfl rfl (hSC _ (2 * i + 1) (by omega)) ?_)
  intro _ _
  refine w ?_
  have hC2 := rsum_ok (W := W) (cap := cap - (at_ + (2 * i + 1)) % n * 128) ((hRd (2 * i + 1)).ent hdrop3) (by rw [hlen]; decide)
  rw [hlen] at hC2
  (refine zq ?_; refine zy rfl rfl (hC2) ?_)
  intro _ _
  refine w ?_
  have hC3 := runesc_ok (W := W) ((hRd (2 * i + 1)).ent hdrop3) (by rw [hlen]; exact hcp (2 * i + 1)) qh.escaped
  rw [hlen] at hC3
  (refine zq ?_; refine zy rfl rfl (hC3) ?_)
  rintro ⟨uo, uc⟩ _
  dsimp only
  generalize hu : unD (sec (2 * i + 1)) qh.escaped = u at *
  obtain ⟨ud, ue⟩ := u
  dsimp only at hstp ⊢
  refine w ?_
  by_cases c5 : (crcS (sec (2 * i + 1))).toNat ≠ qh.sum
  ·
   (first | refine VO.gT rfl rfl rfl (by simp; omega) ?_ | refine VD.gT rfl rfl rfl (by simp; omega) ?_)
   refine VO.ent (Ent.drop Ent.refl) ?_
   (refine w ?_; (refine zq ?_); refine OpV.stA (vs := [.int .u64 0, .slice none 0 0]) tab_ok rfl rfl rfl rfl (by simp [Value.oneCell']) zh (by simp) ?_; refine w ?_; refine VE.results2 (.inl rfl) (⟨0, none, 0, []⟩ : TxnE) rfl (ResIs.agg (vs := [.int .u64 0, .slice none 0 0]) tab_ok rfl rfl zm rfl rfl) (.tmp rfl) (hfail (hbad fun h => c5 (hstp.1 h).2.2.2.2.2.2)).1 (by rw [(hfail (hbad fun h => c5 (hstp.1 h).2.2.2.2.2.2)).2]; rfl) (hnone Ent.re))
  have c5 := Classical.not_not.1 c5
  (first | refine VO.gF rfl rfl rfl (by simp; omega) ?_ | refine VD.gF rfl rfl rfl (by simp; omega) ?_)
  refine w ?_
  by_cases c6 : ue ≠ 0
  ·
   (refine VC.condTe rfl rfl (by simpa using c6) ?_)
   refine VC.ent (Ent.drop Ent.refl) ?_
   (refine w ?_; (refine zq ?_); refine OpV.stA (vs := [.int .u64 0, .slice none 0 0]) tab_ok rfl rfl rfl rfl (by simp [Value.oneCell']) zh (by simp) ?_; refine w ?_; refine VE.results2 (.inl rfl) (⟨0, none, 0, []⟩ : TxnE) rfl (ResIs.agg (vs := [.int .u64 0, .slice none 0 0]) tab_ok rfl rfl zm rfl rfl) (.tmp rfl) (hfail (hbad fun h => c6 (hstp.1 h).2.2.2.2.2.1)).1 (by rw [(hfail (hbad fun h => c6 (hstp.1 h).2.2.2.2.2.1)).2]; rfl) (hnone Ent.re))
  have c6 := Classical.not_not.1 c6
  (refine VC.condFe rfl rfl (by simpa using c6) ?_)
  refine w ?_
  obtain ⟨p, hp⟩ : ∃ p : PatE, p = ⟨qh.member, qh.row, ⟨uo, uc, ud⟩⟩ := ⟨_, rfl⟩
  refine VO.re 133 (.slice uo ud.length uc) rfl rfl ?_
  (apply VO.pure rfl rfl; apply PureAt.build sb_70 rfl; (simp [buildX, setL, Value.cells]; rfl); rfl)
  refine zq ?_
  refine OpV.buildSlice (cs := p.cells) st_58 rfl rfl (by simp [Value.cells]) (by simp [Value.cells, hp]) (by decide) rfl ?_
  intro nc
  refine zq ?_
  refine OpV.appendRow st_58 rfl rfl zh zm rfl (pat_one _) ?_ ?_ rfl ?_
  · simp only [maxLen]; omega
  · omega
  intro po2 pc2
  refine w ?_
  have hpl2 : (ps ++ [p]).length = ps.length + 1 := by rw [List.length_append]; rfl
  refine VE.round (i + 1, (ho2, hc2), (po2, pc2), ps ++ [p]) ⟨hlt, by rw [hpl2, hpl], fun j hj => ?_, ?_⟩ (by simp only; omega) ⟨rfl, rfl, rfl, rfl, rfl, rfl, rfl, rfl, asV rfl (by rw [hhl2]), asV rfl (by congr 1), trivial⟩ ?_
  ·
   dsimp only at hj
   by_cases hji : j < i
   · exact hst j hji
   ·
    obtain rfl : j = i := by omega
    exact hstp.2 ⟨c0, c1, c2, c3, c4, c6, c5⟩
  ·
   dsimp only
   rw [List.map_append, hpm, List.range_succ, List.map_append]
   congr 1
   show [p.D] = [patAt sec i]
   subst hp
   unfold patAt
   rw [hq]
   dsimp only
   rw [hu]
  ·
   dsimp only
   have hres : OwnB (uo, uc) ud = PatE.res p := by rw [hp]; rfl
   rw [hpl2, hres]
   have hpo : Sl.Own 70 3 (.slice po2 (ps.length + 1) pc2) (ps.length + 1) (patCells ps ++ p.cells) = PatsO (po2, pc2) (ps ++ [p]) := by
    show _ = Sl.Own 70 3 (.slice po2 (ps ++ [p]).length pc2) (ps ++ [p]).length (patCells (ps ++ [p]))
    rw [hpl2]; unfold patCells; rw [List.flatMap_append]; simp
   rw [hpo]
   refine Ent.trans (H' := PatE.res p :: PilP ps :: Row n16 87 [.int .u64 s, .slice po2 (ps.length + 1) pc2] :: OwnB (ho2, hc2) (headsF sec (i + 1)) :: PatsO (po2, pc2) (ps ++ [p]) :: Row n12 87 [.int .u64 0, .slice none 0 0] :: Row n10 87 [.int .u64 0, .slice none 0 0] :: R) Ent.re (fun w hw => ?_)
   have h2 : Holds W (PilP (ps ++ [p]) :: _) w := pile_push (res := PatE.res) hw
   have hE : Ent W (PilP (ps ++ [p]) :: Row n16 87 [.int .u64 s, .slice po2 (ps.length + 1) pc2] :: OwnB (ho2, hc2) (headsF sec (i + 1)) :: PatsO (po2, pc2) (ps ++ [p]) :: Row n12 87 [.int .u64 0, .slice none 0 0] :: Row n10 87 [.int .u64 0, .slice none 0 0] :: R)
    (Row n16 87 [.int .u64 s, .slice po2 (ps.length + 1) pc2] :: OwnB (ho2, hc2) (headsF sec (i + 1)) :: PatsO (po2, pc2) (ps ++ [p]) :: PilP (ps ++ [p]) :: Row n12 87 [.int .u64 0, .slice none 0 0] :: Row n10 87 [.int .u64 0, .slice none 0 0] :: R) := Ent.re
   exact hE w h2
 ·
  have hge : i = N := by have := of_decide_eq_false hc; omega
  subst hge
  clear hc
  have hhl : (headsF sec i).length = i * 128 := by
   have : ∀ m, (headsF sec m).length = m * 128 := fun m => by
    induction m with
    | zero => rfl
    | succ m ih => rw [headsF, List.length_append, ih, hlen, Nat.add_mul]
   exact this i
  refine VC.know (p := ho = none -> (headsF sec i).length = 0) (fun w hw => hw.tail.ownNone (.head _)) ?_
  intro hhn
  refine w ?_
  refine VO.re 142 (.int .i64 ((2 * i : Nat) : Int)) rfl (by congr 1) ?_
  (refine zq ?_; refine zy rfl rfl (hSC _ (2 * i) (by omega)) ?_)
  intro _ _
  refine w ?_
  have hdrop : Ent W (Row n16 87 [.int .u64 s, .slice po ps.length pc] :: OwnB (ho, hc') (headsF sec i) :: PatsO (po, pc) ps :: PilP ps :: Row n12 87 [.int .u64 0, .slice none 0 0] :: Row n10 87 [.int .u64 0, .slice none 0 0] :: R) R := Ent.drop (Ent.drop (Ent.drop (Ent.drop (Ent.drop (Ent.drop Ent.refl)))))
  have hC1 := rdecc_ok (W := W) ((hRd (2 * i)).ent hdrop) (by rw [hlen]; exact hcp (2 * i))
  rw [hlen] at hC1
  (refine zq ?_; refine zy rfl rfl (hC1) ?_)
  intro _ _
  generalize hq : CmtD.dec (sec (2 * i)) = q
  obtain ⟨qe, qh⟩ := q
  dsimp only
  refine w ?_
  refine zq ?_; refine OpV.allocS sb_238 rfl ?_; intro n26
  refine w ?_
  refine zq ?_
  refine OpV.stA (vs := qh.cells) tab_ok rfl rfl rfl rfl (by simp [Value.oneCell']) zh (by simp) ?_
  refine VO.ent (H' := Row n26 238 qh.cells :: Row n16 87 [.int .u64 s, .slice po ps.length pc] :: OwnB (ho, hc') (headsF sec i) :: PatsO (po, pc) ps :: PilP ps :: Row n12 87 [.int .u64 0, .slice none 0 0] :: Row n10 87 [.int .u64 0, .slice none 0 0] :: R) Ent.re ?_
  have hok : batOk sec room e s ↔ (qe = 0 /\ qh.epoch = e /\ qh.seq = s /\ qh.count = i /\ qh.sum = (crcS (headsF sec i)).toNat) := by
   unfold batOk
   rw [hN0, hN, hq]
   constructor
   ·
    rintro ⟨-, -, -, h⟩
    cases h
    exact ⟨rfl, rfl, rfl, rfl, rfl⟩
   ·
    rintro ⟨h1, h2, h3, h4, h5⟩
    refine ⟨h0, by omega, fun j hj => hst j hj, ?_⟩
    cases qh
    simp_all
  refine w ?_
  (refine zq ?_; refine zy rfl rfl (rsum_ok (W := W) (cap := hc') (l := headsF sec i) (Rds.own (bytes_one _) zm (by simp) hhn) (by omega)) ?_)
  intro _ _
  refine w ?_
  by_cases c0 : qe ≠ 0
  ·
   (first | refine VO.gT rfl rfl rfl (by simpa using c0) ?_ | refine VD.gT rfl rfl rfl (by simpa using c0) ?_)
   (refine w ?_; (refine zq ?_); refine OpV.stA (vs := [.int .u64 0, .slice none 0 0]) tab_ok rfl rfl rfl rfl (by simp [Value.oneCell']) zh (by simp) ?_; refine w ?_; refine VE.results2 (.inl rfl) (⟨0, none, 0, []⟩ : TxnE) rfl (ResIs.agg (vs := [.int .u64 0, .slice none 0 0]) tab_ok rfl rfl zm rfl rfl) (.tmp rfl) (hfail (fun _ h => c0 (hok.1 h).1)).1 (by rw [(hfail (fun _ h => c0 (hok.1 h).1)).2]; rfl) (hnone Ent.re))
  have c0 := Classical.not_not.1 c0
  (first | refine VO.gF rfl rfl rfl (by simpa using c0) ?_ | refine VD.gF rfl rfl rfl (by simpa using c0) ?_)
  refine w ?_
  by_cases c1 : qh.epoch ≠ e
  ·
   (first | refine VO.gT rfl rfl rfl (by simp; omega) ?_ | refine VD.gT rfl rfl rfl (by simp; omega) ?_)
   (refine w ?_; (refine zq ?_); refine OpV.stA (vs := [.int .u64 0, .slice none 0 0]) tab_ok rfl rfl rfl rfl (by simp [Value.oneCell']) zh (by simp) ?_; refine w ?_; refine VE.results2 (.inl rfl) (⟨0, none, 0, []⟩ : TxnE) rfl (ResIs.agg (vs := [.int .u64 0, .slice none 0 0]) tab_ok rfl rfl zm rfl rfl) (.tmp rfl) (hfail (fun _ h => c1 (hok.1 h).2.1)).1 (by rw [(hfail (fun _ h => c1 (hok.1 h).2.1)).2]; rfl) (hnone Ent.re))
  have c1 := Classical.not_not.1 c1
  (first | refine VO.gF rfl rfl rfl (by simp; omega) ?_ | refine VD.gF rfl rfl rfl (by simp; omega) ?_)
  refine w ?_
  by_cases c2 : qh.seq ≠ s
  ·
   (first | refine VO.gT rfl rfl rfl (by simp; omega) ?_ | refine VD.gT rfl rfl rfl (by simp; omega) ?_)
   (refine w ?_; (refine zq ?_); refine OpV.stA (vs := [.int .u64 0, .slice none 0 0]) tab_ok rfl rfl rfl rfl (by simp [Value.oneCell']) zh (by simp) ?_; refine w ?_; refine VE.results2 (.inl rfl) (⟨0, none, 0, []⟩ : TxnE) rfl (ResIs.agg (vs := [.int .u64 0, .slice none 0 0]) tab_ok rfl rfl zm rfl rfl) (.tmp rfl) (hfail (fun _ h => c2 (hok.1 h).2.2.1)).1 (by rw [(hfail (fun _ h => c2 (hok.1 h).2.2.1)).2]; rfl) (hnone Ent.re))
  have c2 := Classical.not_not.1 c2
  (first | refine VO.gF rfl rfl rfl (by simp; omega) ?_ | refine VD.gF rfl rfl rfl (by simp; omega) ?_)
  refine w ?_
  by_cases c3 : qh.count ≠ (i : Int)
  ·
   (first | refine VO.gT rfl rfl rfl (by simpa using c3) ?_ | refine VD.gT rfl rfl rfl (by simpa using c3) ?_)
   (refine w ?_; (refine zq ?_); refine OpV.stA (vs := [.int .u64 0, .slice none 0 0]) tab_ok rfl rfl rfl rfl (by simp [Value.oneCell']) zh (by simp) ?_; refine w ?_; refine VE.results2 (.inl rfl) (⟨0, none, 0, []⟩ : TxnE) rfl (ResIs.agg (vs := [.int .u64 0, .slice none 0 0]) tab_ok rfl rfl zm rfl rfl) (.tmp rfl) (hfail (fun _ h => c3 (hok.1 h).2.2.2.1)).1 (by rw [(hfail (fun _ h => c3 (hok.1 h).2.2.2.1)).2]; rfl) (hnone Ent.re))
  have c3 := Classical.not_not.1 c3
  (first | refine VO.gF rfl rfl rfl (by simpa using c3) ?_ | refine VD.gF rfl rfl rfl (by simpa using c3) ?_)
  refine w ?_
  by_cases c4 : qh.sum ≠ (crcS (headsF sec i)).toNat
  ·
   (refine VC.condTe rfl rfl (by simp; omega) ?_)
   (refine w ?_; (refine zq ?_); refine OpV.stA (vs := [.int .u64 0, .slice none 0 0]) tab_ok rfl rfl rfl rfl (by simp [Value.oneCell']) zh (by simp) ?_; refine w ?_; refine VE.results2 (.inl rfl) (⟨0, none, 0, []⟩ : TxnE) rfl (ResIs.agg (vs := [.int .u64 0, .slice none 0 0]) tab_ok rfl rfl zm rfl rfl) (.tmp rfl) (hfail (fun _ h => c4 (hok.1 h).2.2.2.2)).1 (by rw [(hfail (fun _ h => c4 (hok.1 h).2.2.2.2)).2]; rfl) (hnone Ent.re))
  have c4 := Classical.not_not.1 c4
  (refine VC.condFe rfl rfl (by simp; omega) ?_)
  refine w ?_
  refine zq ?_
  refine OpV.stA (vs := [.int .u64 s, .slice po ps.length pc]) tab_ok rfl rfl rfl rfl (by simp [Value.oneCell']) zh (by simp) ?_
  refine w ?_
  have hbm : batM sec room e s = some ((List.range i).map (patAt sec)) := by
   unfold batM; rw [if_pos (hok.2 ⟨c0, c1, c2, c3, c4⟩), hN0]
  refine VE.results2 (.inl rfl) (⟨s, po, pc, ps⟩ : TxnE) rfl (ResIs.agg (vs := [.int .u64 s, .slice po ps.length pc]) tab_ok rfl rfl zm rfl rfl) (.tmp rfl) (fun l _ h2 => ?_) ?_ Ent.re
  ·
   rw [hbm] at h2
   injection h2 with h2
   exact ⟨rfl, hpm.trans h2⟩
  ·
   rw [if_pos (by omega), hbm]
   simp
theorem rof_ok {ao : Option Addr} {cap : Nat} {data : List UInt8} (hr : Rds W R 1 ao data.length (bytes data)) (hcap : data.length <= cap) (hlen : data.length <= 140737488351232) (c : ChkD) (hf : c.fit) :
    Does W Tryz.prog 132 [.slice ao data.length cap, .agg c.cells.toArray] R (β := (Option Addr × Nat) × List TxnE) (fun y => y.2.map TxnE.T = (foundM data c).2.txns)
      (fun y => .tuple #[.agg [.slice y.1.1 y.2.length y.1.2, .int .u64 ((foundM data c).2.next : Int), .int .i64 ((foundM data c).2.head : Int), .int .i64 ((foundM data c).2.used : Int)].toArray, .int .i64 (foundM data c).1]) (fun y => TxnsO y.1 y.2 :: PilT y.2 :: R) := by
  (refine Does.enter Tryz.func132 Tryz.ntmps132 rfl rfl ?_)
  refine w ?_; repeat (refine zj fun _ => ?_; refine w ?_)
  rename_i n3
  refine zq ?_; refine OpV.allocS sb_172 rfl ?_; intro n4
  refine w ?_; repeat (refine zj fun _ => ?_; refine w ?_)
  refine VO.pure rfl rfl (PureAt.quo (a := data.length) (b := 128) rfl rfl (by decide) (IntWalk.i64_in _ ⟨by omega, by omega⟩)) rfl ?_
  refine w ?_; repeat (refine zj fun _ => ?_; refine w ?_)
  (refine zq ?_; refine zy rfl rfl (rencs_ok c hf) ?_)
  rintro ⟨ea, ec⟩ -
  refine w ?_; repeat (refine zj fun _ => ?_; refine w ?_)
  refine VO.pure rfl rfl (PureAt.rem (a := data.length) (b := 128) rfl rfl (by decide)) rfl ?_
  refine w ?_; repeat (refine zj fun _ => ?_; refine w ?_)
  refine VO.ent (H' := Row n4 172 [.slice none 0 0, .int .u64 0, .int .i64 0, .int .i64 0] :: Row n3 98 c.cells :: R) Ent.re ?_
  refine VO.joinR (α := Unit) (fun _ => True) (fun _ => Row n4 172 [.slice none 0 0, .int .u64 0, .int .i64 0, .int .i64 0] :: Row n3 98 c.cells :: R) (fun _ => [(41, .bool (decide (badM data c))), (0, .slice ao data.length cap), (3, .pointer (some ⟨n3, 0, none⟩)), (4, .pointer (some ⟨n4, 0, none⟩)), (6, .int .i64 ((data.length / 128 : Nat) : Int))]) (fun Q2 jn => ?_) ?_
  · by_cases b2 : data.length % 128 = 0
    · (first | refine VO.gF rfl rfl rfl (by simp; omega) ?_ | refine VD.gF rfl rfl rfl (by simp; omega) ?_)
      refine w ?_; repeat (refine zj fun _ => ?_; refine w ?_)
      by_cases b3 : data.length / 128 < 5
      · (first | refine VO.gT rfl rfl rfl (decide_eq_true (by omega)) ?_ | refine VD.gT rfl rfl rfl (decide_eq_true (by omega)) ?_)
        have hz : badM data c := .inr (.inr (.inl b3))
        refine w ?_; repeat (refine zj fun _ => ?_; refine w ?_)
        exact jn.to () trivial ⟨asV rfl (by simp [hz]), rfl, rfl, rfl, rfl, trivial⟩ Ent.refl
      · (first | refine VO.gF rfl rfl rfl (decide_eq_false (by omega)) ?_ | refine VD.gF rfl rfl rfl (decide_eq_false (by omega)) ?_)
        refine w ?_; repeat (refine zj fun _ => ?_; refine w ?_)
        by_cases b4 : 2048 < data.length / 128
        · (first | refine VO.gT rfl rfl rfl (decide_eq_true (by omega)) ?_ | refine VD.gT rfl rfl rfl (decide_eq_true (by omega)) ?_)
          have hz : badM data c := .inr (.inr (.inr (.inl b4)))
          refine w ?_; repeat (refine zj fun _ => ?_; refine w ?_)
          exact jn.to () trivial ⟨asV rfl (by simp [hz]), rfl, rfl, rfl, rfl, trivial⟩ Ent.refl
        · (first | refine VO.gF rfl rfl rfl (decide_eq_false (by omega)) ?_ | refine VD.gF rfl rfl rfl (decide_eq_false (by omega)) ?_)
          refine w ?_; repeat (refine zj fun _ => ?_; refine w ?_)
          by_cases b1 : c.enc.1 = 0
          · (first | refine VO.gF rfl rfl rfl (by simpa using b1) ?_ | refine VD.gF rfl rfl rfl (by simpa using b1) ?_)
            refine w ?_; repeat (refine zj fun _ => ?_; refine w ?_)
            exact jn.to () trivial ⟨asV rfl (by congr 1; rw [decide_eq_decide]; unfold badM; omega), rfl, rfl, rfl, rfl, trivial⟩ Ent.refl
          · (first | refine VO.gT rfl rfl rfl (by simpa using b1) ?_ | refine VD.gT rfl rfl rfl (by simpa using b1) ?_)
            have hz : badM data c := .inl b1
            refine w ?_; repeat (refine zj fun _ => ?_; refine w ?_)
            exact jn.to () trivial ⟨asV rfl (by simp [hz]), rfl, rfl, rfl, rfl, trivial⟩ Ent.refl
    · (first | refine VO.gT rfl rfl rfl (by simp; omega) ?_ | refine VD.gT rfl rfl rfl (by simp; omega) ?_)
      have hz : badM data c := .inr (.inl b2)
      refine w ?_; repeat (refine zj fun _ => ?_; refine w ?_)
      exact jn.to () trivial ⟨asV rfl (by simp [hz]), rfl, rfl, rfl, rfl, trivial⟩ Ent.refl
  rintro ⟨⟩ -
  refine w ?_; repeat (refine zj fun _ => ?_; refine w ?_)
  by_cases hbd : badM data c
  · (refine VC.condTe rfl rfl (decide_eq_true hbd) ?_)
    have hz : foundM data c = (1, ⟨[], 0, 0, 0⟩) := if_pos hbd
    refine w ?_; repeat (refine zj fun _ => ?_; refine w ?_)
    (apply VO.pure rfl rfl; apply PureAt.build sb_172 (pv := []) rfl; rfl; rfl)
    refine w ?_; repeat (refine zj fun _ => ?_; refine w ?_)
    refine zq ?_
    refine OpV.stA (vs := [.slice none 0 0, .int .u64 0, .int .i64 0, .int .i64 0]) tab_ok rfl rfl rfl rfl (by simp [Value.oneCell']) zh (by simp) ?_
    refine w ?_; repeat (refine zj fun _ => ?_; refine w ?_)
    refine VE.results2 (.inl rfl) ((none, 0), []) rfl (ResIs.agg (vs := [.slice none 0 0, .int .u64 0, .int .i64 0, .int .i64 0]) tab_ok rfl rfl (.head _) rfl rfl) (.tmp rfl) (by rw [hz]; rfl) (by rw [hz]; rfl) ?_
    exact Ent.trans (Ent.re (L := R)) (fun w hw => (pile_nil (res := TxnE.res) hw).ownNil _ _)
  (refine VC.condFe rfl rfl (decide_eq_false hbd) ?_)
  have hnb0 := hbd
  have hnb : ¬ badM data c := hnb0
  obtain ⟨n, hn⟩ : ∃ n, n = data.length / 128 := ⟨_, rfl⟩
  have hfnd : foundM data c = (0, ⟨ofM (secB data) n c.epoch (n + 1) c.seq 0 c.tail.toNat, c.seq + (ofM (secB data) n c.epoch (n + 1) c.seq 0 c.tail.toNat).length, (c.tail.toNat + costT (ofM (secB data) n c.epoch (n + 1) c.seq 0 c.tail.toNat)) % n, costT (ofM (secB data) n c.epoch (n + 1) c.seq 0 c.tail.toNat)⟩) := by
    rw [hn]; exact if_neg hnb
  have hen : c.enc.1 = 0 := Decidable.byContradiction fun q => hnb (.inl q)
  have hgood : c.good := by
    by_cases g : c.good
    · exact g
    · rw [chk_bad g] at hen; cases hen
  have hct := (chk_iff c).1 hgood
  have b2 : data.length % 128 = 0 := Decidable.byContradiction fun q => hnb (.inr (.inl q))
  have b3 : ¬ n < 5 := fun q => hnb (.inr (.inr (.inl (hn ▸ q))))
  have b4 : ¬ 2048 < n := fun q => hnb (.inr (.inr (.inr (.inl (hn ▸ q)))))
  have b5 : ¬ (n : Int) <= c.tail := fun q => hnb (.inr (.inr (.inr (.inr (hn ▸ q)))))
  have hdn : data.length = n * 128 := by omega
  obtain ⟨tl, htl⟩ : ∃ tl : Nat, c.tail = tl := ⟨c.tail.toNat, by omega⟩
  rw [htl, Int.toNat_natCast] at hfnd
  obtain ⟨la, rfl⟩ : ∃ a, ao = some a := by cases ao with | none => have := hr.nil rfl; omega | some a => exact ⟨a, rfl⟩
  rw [<- hn]
  refine w ?_; repeat (refine zj fun _ => ?_; refine w ?_)
  ((first | apply VO.pure rfl rfl | apply VD.take rfl rfl rfl | (refine VD.end rfl rfl rfl ?_; apply OpV.pure)); apply PureAt.build sb_172 rfl; (simp [buildX, setL, Value.cells]; rfl); rfl)
  refine zq ?_; refine OpV.allocS sb_172 rfl ?_; intro n9
  refine w ?_; repeat (refine zj fun _ => ?_; refine w ?_)
  refine zq ?_
  refine OpV.stA (vs := [.slice none 0 0, .int .u64 c.seq, .int .i64 c.tail, .int .i64 0]) tab_ok rfl rfl rfl rfl (by simp [Value.oneCell']) zh (by simp) ?_
  refine w ?_; repeat (refine zj fun _ => ?_; refine w ?_)
  refine VC.loop (α := List TxnE × (Option Addr × Nat) × Nat) (fun y => ofM (secB data) n c.epoch (n + 1) c.seq 0 tl = y.1.map TxnE.T ++ ofM (secB data) n c.epoch y.2.2 (c.seq + y.1.length) (costT (y.1.map TxnE.T)) ((tl + costT (y.1.map TxnE.T)) % n) /\ costT (y.1.map TxnE.T) <= n /\ n < costT (y.1.map TxnE.T) + y.2.2 /\ y.1.length <= costT (y.1.map TxnE.T))
    (fun y => Row n9 172 [.slice y.2.1.1 y.1.length y.2.1.2, .int .u64 ((c.seq + y.1.length : Nat) : Int), .int .i64 (((tl + costT (y.1.map TxnE.T)) % n : Nat) : Int), .int .i64 ((costT (y.1.map TxnE.T) : Nat) : Int)] :: TxnsO y.2.1 y.1 :: PilT y.1 :: Row n4 172 [.slice none 0 0, .int .u64 0, .int .i64 0, .int .i64 0] :: Row n3 98 c.cells :: R)
    (fun y => [(0, .slice (some la) (n * 128) cap), (3, .pointer (some ⟨n3, 0, none⟩)), (4, .pointer (some ⟨n4, 0, none⟩)), (6, .int .i64 n), (9, .pointer (some ⟨n9, 0, none⟩))]) (fun y => y.2.2) rfl ([], (none, 0), n + 1) ?_ ?_ ⟨asV rfl (by rw [hdn]), rfl, rfl, rfl, rfl, trivial⟩ ?_
  · have h1 : tl % n = tl := Nat.mod_eq_of_lt (by omega)
    refine ⟨?_, Nat.zero_le _, by show n < 0 + (n + 1); omega, Nat.zero_le _⟩
    show _ = [] ++ ofM (secB data) n c.epoch (n + 1) (c.seq + 0) 0 ((tl + 0) % n)
    rw [List.nil_append]; simp only [Nat.add_zero]; rw [h1]
  · have h1 : tl % n = tl := Nat.mod_eq_of_lt (by omega)
    dsimp only
    rw [show (tl + costT (([] : List TxnE).map TxnE.T)) % n = tl from h1, <- htl]
    exact Ent.trans (fun w hw => (pile_nil (res := TxnE.res) hw).ownNil 87 2) Ent.re
  rintro ⟨l, x, f⟩ ⟨hof, hus, hfu, hll⟩
  dsimp only at hof hus hfu hll ⊢
  have hr' : Rds W R 1 (some la) (n * 128) (bytes data) := hdn ▸ hr
  have hhd : (tl + costT (l.map TxnE.T)) % n < n := Nat.mod_lt _ (by omega)
  refine w ?_; repeat (refine zj fun _ => ?_; refine w ?_)
  refine VO.re 55 (.int .i64 ((n - costT (l.map TxnE.T) : Nat) : Int)) rfl (by congr 1; omega) ?_
  have hE : Ent W (Row n9 172 [.slice x.1 l.length x.2, .int .u64 ((c.seq + l.length : Nat) : Int), .int .i64 (((tl + costT (l.map TxnE.T)) % n : Nat) : Int), .int .i64 ((costT (l.map TxnE.T) : Nat) : Int)] :: TxnsO x l :: PilT l :: Row n4 172 [.slice none 0 0, .int .u64 0, .int .i64 0, .int .i64 0] :: Row n3 98 c.cells :: R) R := Ent.re
  (refine zq ?_; refine zy rfl rfl (rbatch_ok ⟨by omega, by omega⟩ (by omega) ((tl + costT (l.map TxnE.T)) % n) (n - costT (l.map TxnE.T)) c.epoch (c.seq + l.length) hhd (by omega) hf.epoch (by omega) hdn (hr'.ent hE) (rotF (secB data) n ((tl + costT (l.map TxnE.T)) % n)) (fun i => by unfold rotF secB; rw [Nat.mul_comm])) ?_)
  intro t htp
  refine w ?_; repeat (refine zj fun _ => ?_; refine w ?_)
  refine zq ?_; refine OpV.allocS sb_87 rfl ?_; intro n10
  refine w ?_; repeat (refine zj fun _ => ?_; refine w ?_)
  refine zq ?_
  refine OpV.stA (vs := t.cells) tab_ok rfl rfl rfl rfl (txn_one _) zh (by simp) ?_
  refine VO.ent (Ent.re (L := Row n10 87 t.cells :: PatsO (t.ao, t.cap) t.pats :: PilP t.pats :: Row n9 172 [.slice x.1 l.length x.2, .int .u64 ((c.seq + l.length : Nat) : Int), .int .i64 (((tl + costT (l.map TxnE.T)) % n : Nat) : Int), .int .i64 ((costT (l.map TxnE.T) : Nat) : Int)] :: TxnsO x l :: PilT l :: Row n4 172 [.slice none 0 0, .int .u64 0, .int .i64 0, .int .i64 0] :: Row n3 98 c.cells :: R)) ?_
  refine w ?_; repeat (refine zj fun _ => ?_; refine w ?_)
  by_cases hmx : c.seq + l.length <= 4611686018427387904
  · rw [if_pos hmx]
    cases hbm : batM (rotF (secB data) n ((tl + costT (l.map TxnE.T)) % n)) (n - costT (l.map TxnE.T)) c.epoch (c.seq + l.length) with
    | none =>
      have hfull : ofM (secB data) n c.epoch (n + 1) c.seq 0 tl = l.map TxnE.T := by rw [hof, of_none hbm]; exact List.append_nil _
      (refine VC.condTe rfl rfl (by simp) ?_)
      refine w ?_; repeat (refine zj fun _ => ?_; refine w ?_)
      refine zq ?_
      refine OpV.stA (vs := [.slice x.1 l.length x.2, .int .u64 ((c.seq + l.length : Nat) : Int), .int .i64 (((tl + costT (l.map TxnE.T)) % n : Nat) : Int), .int .i64 ((costT (l.map TxnE.T) : Nat) : Int)]) tab_ok rfl rfl rfl rfl (by simp [Value.oneCell']) zh (by simp) ?_
      refine w ?_; repeat (refine zj fun _ => ?_; refine w ?_)
      refine VE.results2 (.inl rfl) (x, l) rfl (ResIs.agg (vs := [.slice x.1 l.length x.2, .int .u64 ((c.seq + l.length : Nat) : Int), .int .i64 (((tl + costT (l.map TxnE.T)) % n : Nat) : Int), .int .i64 ((costT (l.map TxnE.T) : Nat) : Int)]) tab_ok rfl rfl zm rfl rfl) (.tmp rfl) (by rw [hfnd]; exact hfull.symm) (by rw [hfnd]; simp only [hfull, List.length_map]) ?_
      exact Ent.re
    | some lp =>
      obtain ⟨hts, htd⟩ := htp lp hmx hbm
      have hbr := bat_room hbm
      have hpl : t.pats.length = lp.length := by rw [<- htd, List.length_map]
      have hlen2 : t.pats.length <= 1023 := by omega
      have hop : (Option.elim (some lp) (0 : Int) fun l => 2 * (l.length : Int) + 1) = ((2 * lp.length + 1 : Nat) : Int) := by show 2 * (lp.length : Int) + 1 = _; omega
      rw [hop]
      (refine VC.condFe rfl rfl (by simp; omega) ?_)
      refine w ?_; repeat (refine zj fun _ => ?_; refine w ?_)
      refine zq ?_
      refine OpV.buildSlice (cs := t.cells) st_81 rfl rfl (by simp [Value.cells]) (by simp [Value.cells]) (by decide) rfl ?_
      intro nc
      refine zq ?_
      refine OpV.appendRow st_81 rfl rfl zh zm rfl (txn_one _) (by simp only [maxLen]; omega) (by omega) rfl ?_
      intro so sc
      refine w ?_; repeat (refine zj fun _ => ?_; refine w ?_)
      refine VO.pure rfl rfl (PureAt.rem (a := (tl + costT (l.map TxnE.T)) % n + (2 * lp.length + 1)) (b := n) rfl rfl (by omega)) rfl ?_
      refine w ?_; repeat (refine zj fun _ => ?_; refine w ?_)
      have hT : (l ++ [t]).map TxnE.T = l.map TxnE.T ++ [(c.seq + l.length, lp)] := by rw [List.map_append, List.map_cons, List.map_nil]; unfold TxnE.T; rw [hts, htd]
      have hcost : costT ((l ++ [t]).map TxnE.T) = costT (l.map TxnE.T) + (2 * lp.length + 1) := by rw [hT, costT_append, costT_cons]; simp [costT]
      obtain ⟨g, rfl⟩ : ∃ g, f = g + 1 := ⟨f - 1, by omega⟩
      have hmod : ((tl + costT (l.map TxnE.T)) % n + (2 * lp.length + 1)) % n = (tl + (costT (l.map TxnE.T) + (2 * lp.length + 1))) % n := by rw [Nat.mod_add_mod, Nat.add_assoc]
      refine VE.round (l ++ [t], (so, sc), g) ⟨?_, ?_, ?_, ?_⟩ (by simp only; omega) ⟨rfl, rfl, rfl, rfl, rfl, trivial⟩ ?_
      · simp only
        rw [hcost, hT, hof, List.length_append, List.length_singleton, ofM, if_pos hmx, hbm]
        dsimp only
        rw [List.append_assoc, List.singleton_append, hmod, Nat.add_assoc c.seq]
      · simp only; rw [hcost]; omega
      · simp only; rw [hcost]; omega
      · simp only; rw [hcost, List.length_append, List.length_singleton]; omega
      dsimp only
      have e1 : (((c.seq + l.length : Nat) : Int) + 1) = ((c.seq + (l.length + 1) : Nat) : Int) := by omega
      have e2 : ((((tl + costT (l.map TxnE.T)) % n + (2 * lp.length + 1)) % n : Nat) : Int) = (((tl + (costT (l.map TxnE.T) + (2 * lp.length + 1))) % n : Nat) : Int) := by rw [hmod]
      have e3 : (((costT (l.map TxnE.T) : Nat) : Int) + ((2 * lp.length + 1 : Nat) : Int)) = ((costT (l.map TxnE.T) + (2 * lp.length + 1) : Nat) : Int) := by omega
      rw [show IntKind.u64.wrap (((c.seq + l.length : Nat) : Int) + 1) = ((c.seq + l.length : Nat) : Int) + 1 from IntWalk.u64_in _ ⟨by omega, by omega⟩]
      refine Ent.trans (Ent.re (L := PatsO (t.ao, t.cap) t.pats :: PilP t.pats :: PilT l :: Row n9 172 [.slice so (l.length + 1) sc, .int .u64 (((c.seq + l.length : Nat) : Int) + 1), .int .i64 ((((tl + costT (l.map TxnE.T)) % n + (2 * lp.length + 1)) % n : Nat) : Int), .int .i64 (((costT (l.map TxnE.T) : Nat) : Int) + ((2 * lp.length + 1 : Nat) : Int))] :: Sl.Own 87 2 (.slice so (l.length + 1) sc) (l.length + 1) (txnCells l ++ t.cells) :: Row n4 172 [.slice none 0 0, .int .u64 0, .int .i64 0, .int .i64 0] :: Row n3 98 c.cells :: R)) ?_
      refine Ent.trans (fun w hw => pile_push (res := TxnE.res) (TxnE.shut t hw)) ?_
      rw [txnsO_one, hcost, List.length_append, List.length_singleton, <- e1, <- e2, <- e3]
      exact Ent.re
  · rw [if_neg hmx]
    have hfull : ofM (secB data) n c.epoch (n + 1) c.seq 0 tl = l.map TxnE.T := by
      rw [hof]
      cases f with
      | zero => exact List.append_nil _
      | succ f => unfold ofM; rw [if_neg hmx]; exact List.append_nil _
    (refine VC.condTe rfl rfl (by simp) ?_)
    refine w ?_; repeat (refine zj fun _ => ?_; refine w ?_)
    refine zq ?_
    refine OpV.stA (vs := [.slice x.1 l.length x.2, .int .u64 ((c.seq + l.length : Nat) : Int), .int .i64 (((tl + costT (l.map TxnE.T)) % n : Nat) : Int), .int .i64 ((costT (l.map TxnE.T) : Nat) : Int)]) tab_ok rfl rfl rfl rfl (by simp [Value.oneCell']) zh (by simp) ?_
    refine w ?_; repeat (refine zj fun _ => ?_; refine w ?_)
    refine VE.results2 (.inl rfl) (x, l) rfl (ResIs.agg (vs := [.slice x.1 l.length x.2, .int .u64 ((c.seq + l.length : Nat) : Int), .int .i64 (((tl + costT (l.map TxnE.T)) % n : Nat) : Int), .int .i64 ((costT (l.map TxnE.T) : Nat) : Int)]) tab_ok rfl rfl zm rfl rfl) (.tmp rfl) (by rw [hfnd]; exact hfull.symm) (by rw [hfnd]; simp only [hfull, List.length_map]) ?_
    exact Ent.re
theorem rsized_ok (n : Int) : Does1 W Tryz.prog 33 [.int .i64 n] R (.bool (sizedB n)) R := by
 (refine Does.enter Tryz.func33 Tryz.ntmps33 rfl rfl ?_)
 refine w ?_
 refine zg ?_ ?_ <;> intro hb
 ·
  have q := of_decide_eq_true hb
  refine w ?_
  exact VE.done1 rfl (by unfold sizedB; congr 1; rw [decide_eq_decide]; omega) Ent.refl
 ·
  have q := of_decide_eq_false hb
  refine w ?_
  exact VE.done1 rfl (by unfold sizedB; congr 1; symm; apply decide_eq_false; omega) Ent.refl
theorem rbayOkk {W w : World} {R : List SProp} {b : Nat} {D : BayD} (h : Holds W (RBayR b D :: R) w) (k : Int) (v : DevD) (hv : D.dev k = some v) : v.k.ok := by
  obtain ⟨⟨⟨x, sp⟩, h1, h2⟩, h3⟩ := RBayR.open h
  dsimp only at h1 h2 h3
  rw [rinP_D h1] at hv
  cases hp : rinP sp k with
  | none => rw [hp] at hv; cases hv
  | some p =>
    rw [hp] at hv
    have hv : p.v = v := by injection hv
    have hin : inRange sp.length k = true := by rw [<- Bool.not_eq_false]; intro h; rw [rinP_range h] at hp; cases hp
    obtain ⟨l1, s, l2, rfl, rfl⟩ := rrange_split hin
    rw [rinP_mid] at hp
    have h4 := rbayOutP hp w h3
    obtain ⟨⟨x, hx⟩, _⟩ := DocR.open h4
    rw [<- hv]
    exact hx.1
theorem read_capd {D : BayD} {c : Nat} (h : D.capd c) (k a : Int) : (D.read k a).2.capd c := by
 unfold BayD.read
 split
 · exact setIn_capd (ahead_capd h k 0) (dv_cap h k)
 · exact ahead_capd h k 0
theorem rwopen_ok {D : BayD} {c0 : Nat} (b : Nat) (slot places : Int) (hs : D.sane) (hcp : D.capd c0) (hc0 : c0 <= 999990000) :
  Does W Tryz.prog 83 [.pointer (some ⟨b, 0, none⟩), .int .i64 slot, .int .i64 places] (RBayR b D :: R) (β := OpnE) (fun y => y.w.isSome = (wOpen D slot places).1.1.1.isSome /\ y.ts.map TxnE.T = (wOpen D slot places).1.1.2)
   (fun y => .tuple #[.pointer (y.w.map fun w => ⟨w, 0, none⟩), .slice y.x.1 y.ts.length y.x.2, .int .u16 (wOpen D slot places).1.2])
   (fun y => TxnsO y.x y.ts :: PilT y.ts :: y.w.elim (RBayR b (wOpen D slot places).2 :: R) fun w => RWalR w b ((wOpen D slot places).1.1.1.getD (fresh0 0 0 0)) :: RBayR b (wOpen D slot places).2 :: R) := by
 have hnone : ∀ (D' : BayD), Ent W (RBayR b D' :: R) (TxnsO (none, 0) [] :: PilT [] :: RBayR b D' :: R) := fun D' w hw => (pile_nil (res := TxnE.res) hw).ownNil _ _
 (refine Does.enter Tryz.func83 Tryz.ntmps83 rfl rfl ?_)
 refine w ?_; repeat (refine zj fun _ => ?_; refine w ?_)
 (refine zq ?_; refine zy rfl rfl (rsized_ok places) ?_)
 intro _ _
 refine w ?_; repeat (refine zj fun _ => ?_; refine w ?_)
 by_cases hsz : sizedB places = true
 rotate_left
 ·
  have hsz : sizedB places = false := by simpa using hsz
  have hz : wOpen D slot places = (((none, []), 1), D) := if_pos hsz
  rw [hsz, hz]
  refine w ?_; repeat (refine zj fun _ => ?_; refine w ?_)
  exact VE.done ⟨none, (none, 0), []⟩ rfl ⟨rfl, rfl⟩ rfl (hnone D)
 rw [hsz]
 have hs2 := of_decide_eq_true (show decide (5 <= places /\ places <= 2048) = true from hsz)
 obtain ⟨n, rfl⟩ : ∃ n : Nat, places = n := ⟨places.toNat, by omega⟩
 have hO : wOpen D slot n = if (D.read slot 1).1.2 ≠ 0 then (((none, []), (D.read slot 1).1.2), (D.read slot 1).2) else
   if (ChkD.dec (D.read slot 1).1.1).1 ≠ 0 \/ (n : Int) <= (ChkD.dec (D.read slot 1).1.1).2.tail then (((none, []), 120), (D.read slot 1).2) else
   if (bReads (D.read slot 1).2 slot (ringL n) []).1.2 ≠ 0 then (((none, []), (bReads (D.read slot 1).2 slot (ringL n) []).1.2), (bReads (D.read slot 1).2 slot (ringL n) []).2) else
   if (foundM (bReads (D.read slot 1).2 slot (ringL n) []).1.1 (ChkD.dec (D.read slot 1).1.1).2).1 ≠ 0 then (((none, []), (foundM (bReads (D.read slot 1).2 slot (ringL n) []).1.1 (ChkD.dec (D.read slot 1).1.1).2).1), (bReads (D.read slot 1).2 slot (ringL n) []).2) else
   (((some (openW slot n (ChkD.dec (D.read slot 1).1.1).2 (foundM (bReads (D.read slot 1).2 slot (ringL n) []).1.1 (ChkD.dec (D.read slot 1).1.1).2).2), (foundM (bReads (D.read slot 1).2 slot (ringL n) []).1.1 (ChkD.dec (D.read slot 1).1.1).2).2.txns), 0), (bReads (D.read slot 1).2 slot (ringL n) []).2) := by
  unfold wOpen
  rw [if_neg (by rw [hsz]; simp), Int.toNat_natCast]
 refine w ?_; repeat (refine zj fun _ => ?_; refine w ?_)
 (refine zq ?_; refine zy rfl rfl (rbayread_ok b D slot 1 hs.dk (hs.dev _) (Nat.le_trans (dv_cap hcp _) (by omega))) ?_)
 rintro ⟨xo, xc⟩ hxn
 dsimp only at hxn
 refine VO.know (p := ∀ v, (D.read slot 1).2.dev slot = some v -> v.k.ok) (fun w hw => rbayOkk hw.tail slot) ?_
 intro hokk
 refine VO.know (p := (D.read slot 1).1.1.length <= xc) (fun w hw => hw.ownCap (.head _)) ?_
 intro hxc
 have hsD1 := hs.read slot 1
 have hcD1 := read_capd hcp slot 1
 obtain ⟨D1, hD1⟩ : ∃ D1, D1 = (D.read slot 1).2 := ⟨_, rfl⟩
 obtain ⟨l1, hl1⟩ : ∃ l1, l1 = (D.read slot 1).1.1 := ⟨_, rfl⟩
 obtain ⟨e1, he1⟩ : ∃ e1, e1 = (D.read slot 1).1.2 := ⟨_, rfl⟩
 rw [<- hl1, <- he1, <- hD1] at hO
 rw [<- hD1] at hokk hsD1 hcD1
 rw [<- hl1] at hxc hxn
 rw [<- hl1, <- he1, <- hD1]
 refine w ?_; repeat (refine zj fun _ => ?_; refine w ?_)
 refine zk ?_ ?_ <;> intro hc
 ·
  have h9 : e1 ≠ 0 := by simpa using hc
  rw [if_pos h9] at hO
  rw [hO]
  refine w ?_; repeat (refine zj fun _ => ?_; refine w ?_)
  refine VE.done ⟨none, (none, 0), []⟩ rfl ⟨rfl, rfl⟩ rfl ?_
  exact Ent.trans (Ent.re (L := RBayR b D1 :: R)) (hnone D1)
 have h9 : e1 = 0 := by simpa using hc
 clear hc
 rw [if_neg (by simpa using h9)] at hO
 have hdf := dec_fitS l1
 obtain ⟨c, hcc⟩ : ∃ c, c = (ChkD.dec l1).2 := ⟨_, rfl⟩
 rw [<- hcc] at hO hdf
 refine w ?_; repeat (refine zj fun _ => ?_; refine w ?_)
 (refine zq ?_; refine zy rfl rfl (rdecs_ok (Rds.own (bytes_one _) (.head _) (by simp) hxn) hxc) ?_)
 intro _ _
 rw [<- hcc]
 refine w ?_; repeat (refine zj fun _ => ?_; refine w ?_)
 refine zq ?_; refine OpV.allocS sb_98 rfl ?_; intro n11
 refine w ?_; repeat (refine zj fun _ => ?_; refine w ?_)
 refine zq ?_
 refine OpV.stA (vs := c.cells) tab_ok rfl rfl rfl rfl (by simp [Value.oneCell']) zh (by simp) ?_
 refine VO.ent (H' := Row n11 98 c.cells :: RBayR b D1 :: R) Ent.re ?_
 refine w ?_; repeat (refine zj fun _ => ?_; refine w ?_)
 refine zg ?_ ?_ <;> intro hb
 ·
  have h8 : (ChkD.dec l1).1 ≠ 0 := by simpa using hb
  rw [if_pos (.inl h8)] at hO
  rw [hO]
  refine w ?_; repeat (refine zj fun _ => ?_; refine w ?_)
  refine VE.done ⟨none, (none, 0), []⟩ rfl ⟨rfl, rfl⟩ rfl ?_
  exact Ent.trans (Ent.re (L := RBayR b D1 :: R)) (hnone D1)
 have h8 : (ChkD.dec l1).1 = 0 := by simpa using hb
 clear hb
 have hgood := dec_goodS h8
 rw [<- hcc] at hgood
 refine w ?_; repeat (refine zj fun _ => ?_; refine w ?_)
 refine zk ?_ ?_ <;> intro hc
 ·
  have h7 : (n : Int) <= c.tail := of_decide_eq_true hc
  rw [if_pos (.inr h7)] at hO
  rw [hO]
  refine w ?_; repeat (refine zj fun _ => ?_; refine w ?_)
  refine VE.done ⟨none, (none, 0), []⟩ rfl ⟨rfl, rfl⟩ rfl ?_
  exact Ent.trans (Ent.re (L := RBayR b D1 :: R)) (hnone D1)
 have h7 : ¬ (n : Int) <= c.tail := of_decide_eq_false hc
 clear hc
 rw [if_neg (by rintro (q | q); exact q h8; exact h7 q)] at hO
 obtain ⟨L, hL⟩ : ∃ L, L = ringL n := ⟨_, rfl⟩
 have hLl : L.length = n := by rw [hL]; simp [ringL]
 have hLg : ∀ i (h : i < L.length), L[i] = ((2 + i : Nat) : Int) := by intro i h; subst hL; simp [ringL]
 rw [<- hL] at hO
 refine w ?_; repeat (refine zj fun _ => ?_; refine w ?_)
 refine VC.loop (α := Nat × BayD × List UInt8 × (Option Addr × Nat)) (fun y => y.1 <= n /\ y.2.2.1.length = 128 * y.1 /\ y.2.1.sane /\ y.2.1.capd c0 /\ bReads D1 slot L [] = bReads y.2.1 slot (L.drop y.1) y.2.2.1) (fun y => OwnB y.2.2.2 y.2.2.1 :: RBayR b y.2.1 :: Row n11 98 c.cells :: R)
  (fun y => [(0, .pointer (some ⟨b, 0, none⟩)), (1, .int .i64 slot), (2, .int .i64 n), (11, .pointer (some ⟨n11, 0, none⟩)), (13, .slice y.2.2.2.1 y.2.2.1.length y.2.2.2.2), (14, .int .i64 y.1)]) (fun y => n - y.1) rfl (0, D1, [], (none, 0)) ⟨Nat.zero_le _, rfl, hsD1, hcD1, by rw [List.drop_zero]⟩
  (Ent.trans (Ent.re (L := RBayR b D1 :: Row n11 98 c.cells :: R)) (fun w hw => hw.ownNil 5 1)) ⟨rfl, rfl, rfl, rfl, rfl, rfl, trivial⟩ ?_
 rintro ⟨i, Di, acc, ⟨ao, ac⟩⟩ ⟨hi, hal, hsi, hci, hmi⟩
 dsimp only at hi hal hsi hci hmi ⊢
 refine w ?_; repeat (refine zj fun _ => ?_; refine w ?_)
 refine zk ?_ ?_ <;> intro hc
 ·
  have hlt : i < n := by have := of_decide_eq_true hc; omega
  clear hc
  have hstep : bReads Di slot (L.drop i) acc = if (Di.read slot ((2 + i : Nat) : Int)).1.2 ≠ 0 then (([], (Di.read slot ((2 + i : Nat) : Int)).1.2), (Di.read slot ((2 + i : Nat) : Int)).2) else bReads (Di.read slot ((2 + i : Nat) : Int)).2 slot (L.drop (i + 1)) (acc ++ (Di.read slot ((2 + i : Nat) : Int)).1.1) := by
   rw [List.drop_eq_getElem_cons (by omega), hLg i (by omega)]; rfl
  refine VC.know (p := ∀ v, Di.dev slot = some v -> v.k.ok) (fun w hw => rbayOkk hw.tail slot) ?_
  intro hokd
  refine w ?_; repeat (refine zj fun _ => ?_; refine w ?_)
  refine VO.re 52 (.int .i64 ((2 + i : Nat) : Int)) rfl (by congr 1) ?_
  refine VO.ent (H' := RBayR b Di :: OwnB (ao, ac) acc :: Row n11 98 c.cells :: R) Ent.re ?_
  (refine zq ?_; refine zy rfl rfl (rbayread_ok b Di slot ((2 + i : Nat) : Int) hsi.dk (hsi.dev _) (Nat.le_trans (dv_cap hci _) (by omega))) ?_)
  rintro ⟨yo, yc⟩ hyn
  dsimp only at hyn
  refine w ?_; repeat (refine zj fun _ => ?_; refine w ?_)
  refine zk ?_ ?_ <;> intro hc
  ·
   have h9' : (Di.read slot ((2 + i : Nat) : Int)).1.2 ≠ 0 := by simpa using hc
   rw [if_pos h9'] at hstep
   rw [hmi, hstep, if_pos h9'] at hO
   rw [hO]
   refine w ?_; repeat (refine zj fun _ => ?_; refine w ?_)
   refine VE.done ⟨none, (none, 0), []⟩ rfl ⟨rfl, rfl⟩ rfl ?_
   exact Ent.trans (Ent.re (L := RBayR b (Di.read slot ((2 + i : Nat) : Int)).2 :: R)) (hnone _)
  have h9' : (Di.read slot ((2 + i : Nat) : Int)).1.2 = 0 := by simpa using hc
  clear hc
  rw [if_neg (by simpa using h9')] at hstep
  have h128 := read_128 hokd h9'
  refine w ?_; repeat (refine zj fun _ => ?_; refine w ?_)
  refine zq ?_
  refine OpV.append (m := (Di.read slot ((2 + i : Nat) : Int)).1.1.length) (news := bytes (Di.read slot ((2 + i : Nat) : Int)).1.1) st_65 rfl rfl zh (fun w hw => (show Sees w 1 (.slice yo (Di.read slot ((2 + i : Nat) : Int)).1.1.length yc) (Di.read slot ((2 + i : Nat) : Int)).1.1.length (bytes (Di.read slot ((2 + i : Nat) : Int)).1.1) from Sees.own (e := 5) (bytes_one _) hw zm).src st_65.und) (by simp only [maxLen]; omega) (by omega) rfl ?_
  intro so sc
  refine w ?_; repeat (refine zj fun _ => ?_; refine w ?_)
  refine VE.round (i + 1, (Di.read slot ((2 + i : Nat) : Int)).2, acc ++ (Di.read slot ((2 + i : Nat) : Int)).1.1, so, sc) ⟨hlt, by simp only [List.length_append]; omega, hsi.read _ _, read_capd hci _ _, by rw [hmi, hstep]⟩ (by simp only; omega) ⟨rfl, rfl, rfl, rfl, asV rfl (by rw [List.length_append]), asV rfl (by congr 1), trivial⟩ ?_
  dsimp only
  rw [show OwnB (so, sc) (acc ++ (Di.read slot ((2 + i : Nat) : Int)).1.1) = Sl.Own 5 1 (.slice so (acc.length + (Di.read slot ((2 + i : Nat) : Int)).1.1.length) sc) (acc.length + (Di.read slot ((2 + i : Nat) : Int)).1.1.length) (bytes acc ++ bytes (Di.read slot ((2 + i : Nat) : Int)).1.1) by
   show Sl.Own _ _ (.slice so (_ ++ _ : List UInt8).length sc) (_ ++ _ : List UInt8).length (bytes (_ ++ _)) = _
   rw [List.length_append]; unfold bytes; rw [List.map_append]]
  exact Ent.re
 have hie : i = n := by have := of_decide_eq_false hc; omega
 clear hc
 rw [hie, <- hLl, List.drop_length] at hmi
 have hrd : bReads D1 slot L [] = ((acc, 0), Di) := hmi
 rw [hrd] at hO
 dsimp only at hO
 rw [if_neg (by simp)] at hO
 rw [hie] at hal
 refine VC.know (p := ao = none -> acc.length = 0) (fun w hw => hw.ownNone (.head _)) ?_
 intro hcn
 refine VC.know (p := acc.length <= ac) (fun w hw => hw.ownCap (.head _)) ?_
 intro hcc2
 have hct := (chk_iff c).1 hgood.1
 have hf0 : (foundM acc c).1 = 0 := by
  have : foundM acc c = (0, ⟨_, _, _, _⟩) := if_neg (by
   rw [hgood.2]
   rintro (q | q | q | q | q)
   · exact q rfl
   · omega
   · omega
   · omega
   · omega)
  rw [this]
 rw [if_neg (by simpa using hf0)] at hO
 obtain ⟨e2, f2, hf2⟩ : ∃ e f, foundM acc c = (e, f) := ⟨_, _, rfl⟩
 rw [hf2] at hf0
 dsimp only at hf0
 subst hf0
 rw [hf2] at hO
 dsimp only at hO
 have hOF := rof_ok (W := W) (R := OwnB (ao, ac) acc :: RBayR b Di :: Row n11 98 c.cells :: R) (ao := ao) (cap := ac) (data := acc) (Rds.own (bytes_one _) (.head _) (by simp) hcn) hcc2 (by omega) c hdf
 rw [hf2] at hOF
 obtain ⟨n', tl, hdn, hn5, htl, htn, hgd, hfd⟩ := found_facts (data := acc) (c := c) (by rw [hf2])
 obtain rfl : n' = n := by omega
 have hus : f2.used <= n' := by
  have h5 : f2 = ⟨ofM (secB acc) n' c.epoch (n' + 1) c.seq 0 tl, c.seq + (ofM (secB acc) n' c.epoch (n' + 1) c.seq 0 tl).length, (tl + costT (ofM (secB acc) n' c.epoch (n' + 1) c.seq 0 tl)) % n', costT (ofM (secB acc) n' c.epoch (n' + 1) c.seq 0 tl)⟩ := by
   rw [hf2] at hfd; exact congrArg Prod.snd hfd
  rw [h5]
  have := of_cost (sec := secB acc) (size := n') (e := c.epoch) (n' + 1) c.seq 0 tl (Nat.zero_le _)
  dsimp only; omega
 have hro : RingOk n' tl f2.used := ⟨by omega, by omega, htn, hus⟩
 refine w ?_; repeat (refine zj fun _ => ?_; refine w ?_)
 (refine zq ?_; refine zy rfl rfl (hOF) ?_)
 rintro ⟨⟨o1, c1⟩, ts⟩ hts
 dsimp only at hts ⊢
 refine w ?_; repeat (refine zj fun _ => ?_; refine w ?_)
 refine zq ?_; refine OpV.allocS sb_172 rfl ?_; intro n16
 refine w ?_; repeat (refine zj fun _ => ?_; refine w ?_)
 refine zq ?_
 refine OpV.stA (vs := [.slice o1 ts.length c1, .int .u64 (f2.next : Int), .int .i64 (f2.head : Int), .int .i64 (f2.used : Int)]) tab_ok rfl rfl rfl rfl (by simp [Value.oneCell']) zh (by simp) ?_
 refine w ?_; repeat (refine zj fun _ => ?_; refine w ?_)
 (apply VO.pure rfl rfl; apply PureAt.build sb_102 rfl; (simp [buildX, setL, Value.cells]; rfl); rfl)
 refine w ?_; repeat (refine zj fun _ => ?_; refine w ?_)
 rename_i wp
 refine VO.re 80 (.int .i64 (tl : Int)) rfl (by rw [<- htl]) ?_
 refine w ?_; repeat (refine zj fun _ => ?_; refine w ?_)
 (refine zq ?_; refine zy rfl rfl (rringnew_ok hro) ?_)
 intro r _
 refine w ?_; repeat (refine zj fun _ => ?_; refine w ?_)
 (refine VC.drawn [] 4 [0, 1, 2, 3, 4, 5] _ rfl (by kernel_rfl) (by kernel_rfl) Ent.re ?_)
 refine w ?_; repeat (refine zj fun _ => ?_; refine w ?_)
 have hop : openW slot n' c f2 = ⟨slot, c.epoch, n', tl, f2.used, f2.next, true, none, 0⟩ := by unfold openW; rw [htl]; rfl
 rw [hO, hop]
 refine VE.done ⟨some wp, (o1, c1), ts⟩ rfl ⟨rfl, hts⟩ rfl ?_
 have hw0 : Ent W (RBayR b Di :: RWalO wp b r (none, 0) [] ⟨slot, c.epoch, n', tl, f2.used, f2.next, true, none, 0⟩ (TxnsO (o1, c1) ts :: PilT ts :: R)) (RWalR wp b ⟨slot, c.epoch, n', tl, f2.used, f2.next, true, none, 0⟩ :: RBayR b Di :: TxnsO (o1, c1) ts :: PilT ts :: R) := rwalShut (fun g q => by cases q)
 refine Ent.trans (fun w hw => ?_) (Ent.trans hw0 Ent.re)
 exact (hw.ownNil 5 1).reord (by
  show Reord (Sl.Own _ _ (.slice none 0 0) 0 [] :: _) (RBayR b Di :: rwalRow wp b r (none, 0) [] ⟨slot, c.epoch, n', tl, f2.used, f2.next, true, none, 0⟩ :: RRing r n' tl f2.used :: Sl.Own _ _ (.slice none 0 0) 0 [] :: TxnsO (o1, c1) ts :: PilT ts :: R)
  (repeat first | exact .refl | (apply Reord.cons; focus repeat first | exact .head | apply Del.tail) | exact .nil | apply Reord.drop))
structure Pw (D : BayD) (s : Nat) (k : DiskD) : Prop where
  slot : D.slots[s]? = some ⟨some ⟨k, false, 0⟩, none, none⟩
  lit : D.dark = false
  live : k.failed = false
  trip : -1 <= D.trip /\ D.trip <= 9223372036854775807
structure Fol (s : Nat) (js : List Nat) (D D' : BayD) : Prop where
  len : D'.slots.length = D.slots.length
  oth : ∀ j, j ≠ s -> D'.slots[j]? = D.slots[j]?
  calm : D.trip = -1 -> D'.trip = -1
  cnt : D'.n = js.foldl CntD.inc D.n
theorem Fol.refl (s : Nat) (D : BayD) : Fol s [] D D := ⟨rfl, fun _ _ => rfl, fun h => h, rfl⟩
theorem Fol.trans {s : Nat} {a b : List Nat} {D E F : BayD} (h : Fol s a D E) (g : Fol s b E F) : Fol s (a ++ b) D F :=
 ⟨g.len.trans h.len, fun j hj => (g.oth j hj).trans (h.oth j hj), fun q => g.calm (h.calm q), by rw [List.foldl_append, <- h.cnt, g.cnt]⟩
theorem Pw.lt {D : BayD} {s : Nat} {k : DiskD} (h : Pw D s k) : s < D.slots.length := by
 rcases Nat.lt_or_ge s D.slots.length with q | q
 · exact q
 · have := h.slot; rw [List.getElem?_eq_none q] at this; cases this
theorem inr {D : BayD} {s : Nat} (h : s < D.slots.length) : inRange D.slots.length (s : Int) = true := by
 unfold inRange; simp; omega
def DiskD.writes (k : DiskD) (L : List (Nat × List UInt8)) : DiskD := { k with cache := k.cache ++ L }
theorem writes_nil (k : DiskD) : k.writes [] = k := by unfold DiskD.writes; rw [List.append_nil]
theorem write_writes (k : DiskD) (a : Nat) (b : List UInt8) (L : List (Nat × List UInt8)) : (k.write a b).writes L = k.writes ((a, b) :: L) := by
 unfold DiskD.write DiskD.writes; simp
def castL (L : List (Nat × List UInt8)) : List (Int × List UInt8) := L.map fun x => ((x.1 : Nat), x.2)
def placedN (v : WalD) (rows : List (List UInt8)) : List (Nat × List UInt8) := rows.mapIdx fun i r => (v.spot i, r)
theorem placedN_length (v : WalD) (rows : List (List UInt8)) : (placedN v rows).length = rows.length := by simp [placedN]
theorem cast_placed (v : WalD) (rows : List (List UInt8)) : castL (placedN v rows) = placed v rows := by
 unfold castL placedN placed
 apply List.ext_getElem
 · simp
 · intro i h1 h2; simp
theorem rowsP_dropLast (e s : Nat) (l : List PatD) : (rowsP e s l).dropLast = pairsP e s l.length l 0 := by unfold rowsP; simp
def ringB (k : DiskD) (n : Nat) : List UInt8 := (List.range n).flatMap fun p => k.look (2 + p)
abbrev Secs := List (List UInt8)
def sf (L : Secs) : SecF := fun i => (L[2 + i]?).getD []
theorem sf_set {L : Secs} {a : Nat} {b : List UInt8} (h : a < L.length) (i : Nat) : sf (L.set a b) i = if 2 + i = a then b else sf L i := by
 unfold sf
 by_cases q : 2 + i = a
 · rw [if_pos q, q, List.getElem?_set_self h]; rfl
 · rw [if_neg q, List.getElem?_set_ne (fun e => q e.symm)]
theorem mem_set128 {L : Secs} {a : Nat} {b : List UInt8} (h : ∀ x ∈ L, x.length = 128) (hb : b.length = 128) : ∀ x ∈ L.set a b, x.length = 128 := by
 intro x hx
 rcases List.mem_or_eq_of_mem_set hx with q | q
 · exact h x q
 · rw [q]; exact hb
def noCmt (b : List UInt8) : Prop := (CmtD.dec b).1 ≠ 0
structure Rep (n e base tl : Nat) (ls : List (List PatD)) (L : Secs) : Prop where
  all : ∀ b ∈ L, b.length = 128
  bnd : 5 <= n /\ n <= 2048
  len : 2 + n <= L.length
  chk : L[1]? = some (ChkD.mk e base tl).enc.2
  cnt : cntOk e base
  tlt : tl < n
  lays : Lays (sf L) n e base tl ls
  noc : ∀ i, i < n -> ∀ c, CmtD.dec (sf L i) = (0, c) -> c.seq < base + ls.length
variable {n e base tl : Nat} {ls : List (List PatD)} {L : Secs}
theorem Rep.good (h : Rep n e base tl ls L) : (ChkD.mk e base tl).good := ⟨h.cnt, by simp only; omega, by have := h.bnd; have := h.tlt; simp only; omega⟩
theorem Rep.put (h : Rep n e base tl ls L) {j : Nat} {b : List UInt8} (h1 : costL ls <= j) (h2 : j < n) (hb : b.length = 128) (hn : noCmt b) : Rep n e base tl ls (L.set (2 + (tl + j) % n) b) := by
 have hm := Nat.mod_lt (tl + j) (show 0 < n by omega)
 have hl := h.len
 refine ⟨mem_set128 h.all hb, h.bnd, by rw [List.length_set]; exact hl, ?_, h.cnt, h.tlt, ⟨h.lays.fine, h.lays.cost, ?_⟩, ?_⟩
 · rw [List.getElem?_set_ne (by omega)]; exact h.chk
 ·
  intro i hi
  rw [sf_set (by omega), if_neg]
  · exact h.lays.sec i hi
  ·
   intro q
   have := mod_inj (a := tl) (i := i) (j := j) (n := n) (by omega) h2 (by omega)
   omega
 ·
  intro i hi c hc
  rw [sf_set (by omega)] at hc
  split at hc
  · exact absurd (by rw [hc]) hn
  · exact h.noc i hi c hc
theorem Rep.closed (h : Rep n e base tl ls L) {l : List PatD} (hf : Fine e (base + ls.length) l) (hc : costL ls + (2 * l.length + 1) <= n)
  (hp : ∀ j, j < 2 * l.length -> (pairsP e (base + ls.length) l.length l 0)[j]? = some (sf L ((tl + (costL ls + j)) % n))) :
  Rep n e base tl (ls ++ [l]) (L.set (2 + (tl + (costL ls + 2 * l.length)) % n) (cmtP e (base + ls.length) l).enc.2) := by
 have hm := Nat.mod_lt (tl + (costL ls + 2 * l.length)) (show 0 < n by omega)
 have hl := h.len
 have hcl : costL (ls ++ [l]) = costL ls + (2 * l.length + 1) := by rw [costL_append, costL_cons]; rfl
 refine ⟨mem_set128 h.all (cmtP_length hf), h.bnd, by rw [List.length_set]; exact hl, ?_, h.cnt, h.tlt, ⟨?_, by omega, ?_⟩, ?_⟩
 · rw [List.getElem?_set_ne (by omega)]; exact h.chk
 ·
  intro k hk
  by_cases q : k < ls.length
  · rw [List.getElem_append_left q]; exact h.lays.fine k q
  ·
   have : k = ls.length := by simp at hk; omega
   subst this
   simpa using hf
 ·
  intro j hj
  rw [hcl] at hj
  rw [flatR_append, sf_set (by omega)]
  by_cases q : j < costL ls
  ·
   rw [List.getElem?_append_left (by rw [flatR_length]; exact q), if_neg]
   · exact h.lays.sec j q
   ·
    intro g
    have := mod_inj (a := tl) (i := j) (j := costL ls + 2 * l.length) (n := n) (by omega) (by omega) (by omega)
    omega
  ·
   rw [List.getElem?_append_right (by rw [flatR_length]; omega), flatR_length]
   have ef : flatR e (base + ls.length) [l] = rowsP e (base + ls.length) l := by simp [flatR]
   rw [ef]
   by_cases g : j = costL ls + 2 * l.length
   ·
    subst g
    rw [if_pos rfl, Nat.add_sub_cancel_left, rowsP_last]
   ·
    rw [if_neg]
    ·
     unfold rowsP
     rw [List.getElem?_append_left (by rw [pairsP_length]; omega), hp _ (by omega), show costL ls + (j - costL ls) = j by omega]
    ·
     intro g2
     have := mod_inj (a := tl) (i := j) (j := costL ls + 2 * l.length) (n := n) (by omega) (by omega) (by omega)
     omega
 ·
  intro i hi c hd
  rw [sf_set (by omega)] at hd
  rw [List.length_append, List.length_singleton]
  split at hd
  ·
   rw [cmtP_dec hf] at hd
   injection hd with _ hd
   subst hd
   show base + ls.length < _
   omega
  · have := h.noc i hi c hd; omega
theorem Rep.check (h : Rep n e base tl ls L) {e' : Nat} (hc : cntOk e' (base + ls.length)) : Rep n e' (base + ls.length) ((tl + costL ls) % n) [] (L.set 1 (ChkD.mk e' (base + ls.length) (((tl + costL ls) % n : Nat) : Int)).enc.2) := by
 have hn := h.bnd
 have hm := Nat.mod_lt (tl + costL ls) (show 0 < n by omega)
 have hl := h.len
 refine ⟨mem_set128 h.all ?_, h.bnd, by rw [List.length_set]; exact hl, by rw [List.getElem?_set_self (by omega)], hc, hm, ⟨fun k hk => absurd hk (Nat.not_lt_zero k), Nat.zero_le _, fun j hj => absurd hj (Nat.not_lt_zero j)⟩, ?_⟩
 ·
  rw [chk_ok ⟨hc, by simp only; omega, by simp only; omega⟩]
  exact sectF_length _ _ _ _ (chk_sum _)
 ·
  intro i hi c hd
  rw [sf_set (by omega), if_neg (by omega)] at hd
  exact h.noc i hi c hd
theorem bat_cmt {sec : SecF} {room s : Nat} {l : List PatD} (h : batM sec room e s = some l) : 2 * l.length < room /\ CmtD.dec (sec (2 * l.length)) = (0, cmtP e s l) := by
 obtain ⟨a, b, c⟩ := (bat_iff _ _ _ _ _).1 h
 have h1 := c (2 * l.length) (by omega)
 rw [rowsP_last] at h1
 injection h1 with h1
 exact ⟨by omega, by rw [<- h1]; exact cmtP_dec a⟩
theorem ringB_last (k : DiskD) (n : Nat) (hc : k.cache = []) (ha : ∀ b ∈ k.last, b.length = 128) (hl : 2 + n <= k.last.length) : (ringB k n).length = 128 * n /\ ∀ i, i < n -> secB (ringB k n) i = sf k.last i := by
 have hw : ∀ p ∈ List.range n, (k.look (2 + p)).length = 128 := by
  intro p hp
  have := List.mem_range.1 hp
  rw [DiskD.look_clean hc, List.getElem?_eq_getElem (by omega)]
  exact ha _ (List.getElem_mem _)
 constructor
 ·
  unfold ringB
  rw [flat_length (w := 128) _ hw, List.length_range, Nat.mul_comm]
 ·
  intro i hi
  unfold secB ringB
  have := flat_part (g := fun p => k.look (2 + p)) (w := 128) (List.range n) i (by rw [List.length_range]; exact hi) hw
  rw [Nat.mul_comm, this, List.getElem_range, DiskD.look_clean hc]
  rfl
theorem Rep.found {k : DiskD} (h : Rep n e base tl ls k.last) (hc : k.cache = []) : foundM (ringB k n) ⟨e, base, tl⟩ = (0, ⟨numb base ls, base + ls.length, (tl + costL ls) % n, costL ls⟩) := by
  obtain ⟨h1, h2⟩ := ringB_last k n hc h.all h.len
  have hn := h.bnd
  have hcost := h.lays.cost
  have hlen := costL_len ls
  have hs : ∀ j, j < costL ls -> (flatR e base ls)[j]? = some (secB (ringB k n) ((tl + j) % n)) := fun j hj => by
    rw [h2 _ (Nat.mod_lt _ (by omega))]; exact h.lays.sec j hj
  have hof : ofM (secB (ringB k n)) n e (n + 1) base 0 tl = numb base ls := by
    rw [of_laid h.lays.fine hcost hs (by omega), of_none, List.append_nil]
    cases hb : batM (rotF (secB (ringB k n)) n (if ls = [] then tl else (tl + costL ls) % n)) (n - costL ls) e (base + ls.length) with
    | none => rfl
    | some l =>
      exfalso
      have hq := (bat_cmt hb).2
      unfold rotF at hq
      rw [h2 _ (Nat.mod_lt _ (by omega))] at hq
      have := h.noc _ (Nat.mod_lt _ (by omega)) _ hq
      exact absurd this (by show ¬ base + ls.length < _; omega)
  rw [found_good h1 hn h.cnt.1 ⟨h.cnt.2.1, h.cnt.2.2⟩ h.tlt, hof, numb_length, costT_numb]
theorem Rep.look {k : DiskD} (h : Rep n e base tl ls k.last) (hc : k.cache = []) : ChkD.dec (k.look 1) = (0, ⟨e, base, tl⟩) := by
 rw [DiskD.look_clean hc, h.chk]
 exact chk_back _ h.good
def Cov (P : Secs -> Prop) (k : DiskD) : Prop := ∀ keep, P (k.settle keep).last
theorem Cov.nil {P : Secs -> Prop} {k : DiskD} (hc : k.cache = []) (h : P k.last) : Cov P k := fun keep => by unfold DiskD.settle; rw [hc]; exact h
theorem Cov.snoc {P : Secs -> Prop} {k : DiskD} {a : Nat} {b : List UInt8} (h : Cov P k) (hs : ∀ L, P L -> P (L.set a b)) : Cov P (k.write a b) := by
 intro keep
 have e : ((k.write a b).settle keep).last = sets keep k.last 0 (k.cache ++ [(a, b)]) := rfl
 rw [e, sets_snoc]
 split
 · exact hs _ (h keep)
 · exact h keep
theorem Cov.writes {P : Secs -> Prop} : ∀ (R : List (Nat × List UInt8)) {k : DiskD}, Cov P k -> (∀ x ∈ R, ∀ L, P L -> P (L.set x.1 x.2)) -> Cov P (k.writes R)
  | [], k, h, _ => by rw [writes_nil]; exact h
  | x :: r, k, h, hs => by
    rw [<- write_writes]
    exact Cov.writes r (h.snoc (hs x (.head _))) (fun y hy => hs y (.tail _ hy))
theorem Cov.mono {P Q : Secs -> Prop} {k : DiskD} (h : Cov P k) (hs : ∀ L, P L -> Q L) : Cov Q k := fun keep => hs _ (h keep)
def full (L : Secs) (R : List (Nat × List UInt8)) : Secs := R.foldl (fun L x => L.set x.1 x.2) L
theorem full_append (L : Secs) (A B : List (Nat × List UInt8)) : full L (A ++ B) = full (full L A) B := by simp [full]
theorem full_length : ∀ (R : List (Nat × List UInt8)) (L : Secs), (full L R).length = L.length
 | [], _ => rfl
 | x :: r, L => by show (full (L.set x.1 x.2) r).length = _; rw [full_length r, List.length_set]
theorem snocList {α : Type} {motive : List α -> Prop} (nil : motive []) (snoc : ∀ l a, motive l -> motive (l ++ [a])) (l : List α) : motive l := by
 rw [<- List.reverse_reverse l]
 induction l.reverse with
 | nil => exact nil
 | cons a l ih => rw [List.reverse_cons]; exact snoc _ _ ih
theorem Rep.laid (h : Rep n e base tl ls L) : ∀ (rows : List (List UInt8)), costL ls + rows.length <= n -> (∀ r ∈ rows, r.length = 128 /\ noCmt r) ->
    Rep n e base tl ls (full L (rows.mapIdx fun i r => (2 + (tl + (costL ls + i)) % n, r))) /\ ∀ j, j < rows.length -> rows[j]? = some (sf (full L (rows.mapIdx fun i r => (2 + (tl + (costL ls + i)) % n, r))) ((tl + (costL ls + j)) % n)) := by
  intro rows
  induction rows using snocList with
  | nil => intro _ _; exact ⟨h, fun j hj => absurd hj (Nat.not_lt_zero j)⟩
  | snoc rows r ih =>
    intro hl hr
    rw [List.length_append, List.length_singleton] at hl
    obtain ⟨i1, i2⟩ := ih (by omega) (fun x hx => hr x (List.mem_append_left _ hx))
    have hrr := hr r (by simp)
    have hm := Nat.mod_lt (tl + (costL ls + rows.length)) (show 0 < n by omega)
    have hlen := i1.len
    have e1 : full L ((rows ++ [r]).mapIdx fun i r => (2 + (tl + (costL ls + i)) % n, r)) = (full L (rows.mapIdx fun i r => (2 + (tl + (costL ls + i)) % n, r))).set (2 + (tl + (costL ls + rows.length)) % n) r := by
      rw [List.mapIdx_concat, full_append]; rfl
    rw [e1]
    refine ⟨i1.put (by omega) (by omega) hrr.1 hrr.2, fun j hj => ?_⟩
    rw [List.length_append, List.length_singleton] at hj
    rw [sf_set (by omega)]
    by_cases q : j = rows.length
    · subst q; rw [if_pos rfl]; simp
    · rw [if_neg, List.getElem?_append_left (by omega)]
      · exact i2 j (by omega)
      · intro g
        have := mod_inj (a := tl) (i := costL ls + j) (j := costL ls + rows.length) (n := n) (by omega) (by omega) (by omega)
        omega
structure Live (v : WalD) (k : DiskD) (base : Nat) (ls : List (List PatD)) (m : Nat) (lg : Option (List PatD)) : Prop where
  nob : v.broken = 0
  live : k.failed = false
  used : v.used = costL ls
  next : v.next = base + ls.length
  cov : Cov (fun L => Rep v.size v.epoch base v.tail (ls.take m) L \/ Rep v.size v.epoch base v.tail ls L) k
  all : Rep v.size v.epoch base v.tail ls (full k.last k.cache)
  mle : m <= ls.length
  sure : v.sure = true -> m = ls.length /\ k.cache = []
  cap : k.cache.length <= 1
  nolg : lg = none -> v.log = none
  lgs : ∀ l, lg = some l -> v.sure = true /\ v.log = some ⟨2 * l.length + 1, (cmtP v.epoch v.next l).enc.2⟩ /\ Fine v.epoch v.next l /\ costL ls + (2 * l.length + 1) <= v.size /\ ∀ j, j < 2 * l.length -> (pairsP v.epoch v.next l.length l 0)[j]? = some (sf k.last ((v.tail + (costL ls + j)) % v.size))
variable {v : WalD} {k : DiskD} {base m : Nat} {ls : List (List PatD)} {lg : Option (List PatD)} {D : BayD} {s : Nat}
theorem Live.len (h : Live v k base ls m lg) : 2 + v.size <= k.last.length := by have := h.all.len; rwa [full_length] at this
theorem Live.size (h : Live v k base ls m lg) : 5 <= v.size /\ v.size <= 2048 := h.all.bnd
structure LifeD where
  sealed : List (List PatD)
  sure : Nat
  logged : Option (List PatD)
def LifeD.does (x : LifeD) (kind : Nat) (ps : List PatD) : LifeD := match kind with
  | 1 => ⟨x.sealed, x.sealed.length, some ps⟩
  | 2 => ⟨x.sealed ++ [x.logged.getD []], x.sure, none⟩
  | 3 => ⟨x.sealed, x.sealed.length, x.logged⟩
  | 4 => ⟨[], 0, none⟩
  | 5 => ⟨[], 0, none⟩
  | _ => x
abbrev LiveX (v : WalD) (k : DiskD) (base : Nat) (x : LifeD) : Prop := Live v k base x.sealed x.sure x.logged
def LifeD.left (x : LifeD) (kind : Nat) (ls : List (List PatD)) : Prop := (∃ c, x.sure <= c /\ c <= x.sealed.length /\ ls = x.sealed.take c) \/ ((kind = 4 \/ kind = 5) /\ ls = [])
def Lft (n E N : Nat) (x : LifeD) (kind : Nat) (k : DiskD) : Prop := Cov (fun L => ∃ e base tl ls, Rep n e base tl ls L /\ x.left kind ls /\ e <= E /\ base + ls.length <= N) k
theorem Lft.of {x : LifeD} (h : LiveX v k base x) (kind : Nat) {k' : DiskD} (hc : Cov (fun L => Rep v.size v.epoch base v.tail (x.sealed.take x.sure) L \/ Rep v.size v.epoch base v.tail x.sealed L) k') : Lft v.size v.epoch v.next x kind k' := by
 refine hc.mono fun L hL => ?_
 have hm := h.mle
 have hn := h.next
 rcases hL with hL | hL
 · exact ⟨_, _, _, _, hL, .inl ⟨x.sure, Nat.le_refl _, hm, rfl⟩, Nat.le_refl _, by rw [List.length_take]; omega⟩
 · exact ⟨_, _, _, _, hL, .inl ⟨x.sealed.length, hm, Nat.le_refl _, by rw [List.take_length]⟩, Nat.le_refl _, by omega⟩
theorem Live.left {x : LifeD} (h : LiveX v k base x) (kind : Nat) : Lft v.size v.epoch v.next x kind k := Lft.of h kind h.cov
theorem Lft.mono {n E N E' N' kind kind' : Nat} {x : LifeD} (h : Lft n E N x kind k) (h1 : E <= E') (h2 : N <= N') (h3 : kind = kind' \/ kind = 0) : Lft n E' N' x kind' k := by
 refine Cov.mono h fun L => ?_
 rintro ⟨e, b, t, ls, a, g, c, d⟩
 refine ⟨e, b, t, ls, a, ?_, by omega, by omega⟩
 rcases g with g | g
 · exact .inl g
 · exact .inr ⟨by omega, g.2⟩
theorem Live.open {n e tl : Nat} (hr : Rep n e base tl ls k.last) (hc : k.cache = []) (hf : k.failed = false) : LiveX ⟨(s : Int), e, n, tl, costL ls, base + ls.length, true, none, 0⟩ k base ⟨ls, ls.length, none⟩ :=
 ⟨rfl, hf, rfl, rfl, Cov.nil hc (.inr hr), by rw [hc]; exact hr, Nat.le_refl _, fun _ => ⟨rfl, hc⟩, by rw [hc]; exact Nat.zero_le _, fun _ => rfl, fun l q => by cases q⟩
def wDo (s : WS) (kind : Nat) (ps : List PatD) : Int × WS := match kind with
  | 1 => wLog s ps
  | 2 => wSeal s
  | 3 => wSync s
  | 4 => wEmpty s s.1.epoch
  | 5 => wEmpty s (s.1.epoch + 1)
  | _ => (0, s)
structure OpE where
  kind : Int
  n : Int
  x : Option Addr × Nat
  pats : List PatE
  y : Option Addr × Nat
  keep : List Bool
abbrev OpE.cells (o : OpE) : List Value := [.int .i64 o.kind, .int .i64 o.n, .slice o.x.1 o.pats.length o.x.2, .slice o.y.1 o.keep.length o.y.2]
def opsC (l : List OpE) : List Value := l.flatMap OpE.cells
theorem opE_one (p : OpE) : ∀ u ∈ p.cells, u.oneCell' = true := by simp [Value.oneCell']
theorem opsC_get (l : List OpE) (j i : Nat) (h : j < l.length) (hi : i < 4) : (opsC l)[j * 4 + i]? = (l[j].cells)[i]? := flat_at l j i h (fun _ _ => rfl) hi
theorem opsC_at (l : List OpE) (j : Nat) (h : j < l.length) : ((opsC l).drop (j * 4)).take 4 = l[j].cells := flat_part l j h (fun _ _ => rfl)
structure OpE.wf (W : World) (o : OpE) : Prop where
  rd : ∀ R, RdPats W R o.x.1 o.pats
  fit : ∀ p ∈ o.pats, p.fit
  len : o.pats.length <= 140737488351232
  keep : RdsA W 1 o.y.1 o.keep.length (bools o.keep)
  klen : o.keep.length <= 140737488351232
  nfit : -9223372036854775808 <= o.n /\ o.n <= 9223372036854775807
  kfit : -9223372036854775808 <= o.kind /\ o.kind <= 9223372036854775807
theorem wop_of {cs : List Value} (h : InT Tryz.prog W 61 cs) : ∃ o : OpE, cs = o.cells /\ o.wf W := by
  have hl := (h.struct_inv Tryz.underlying61).1
  have c4 : Tryz.prog.cellsOf 61 = 4 := by kernel_rfl
  rw [c4] at hl
  match cs, hl with
  | [v0, v1, v2, v3], _ =>
    have ki : Tryz.prog.cellsOf 3 = 1 := by kernel_rfl
    have kp : Tryz.prog.cellsOf 58 = 1 := by kernel_rfl
    have ks : Tryz.prog.cellsOf 59 = 1 := by kernel_rfl
    have g0 : InT Tryz.prog W 3 [v0] := h.field (i := 0) (off := 0) Tryz.underlying61 rfl rfl rfl ki
    have g1 : InT Tryz.prog W 3 [v1] := h.field (i := 1) (off := 1) Tryz.underlying61 rfl rfl rfl ki
    have g2 : InT Tryz.prog W 58 [v2] := h.field (i := 2) (off := 2) Tryz.underlying61 rfl rfl rfl kp
    have g3 : InT Tryz.prog W 59 [v3] := h.field (i := 3) (off := 3) Tryz.underlying61 rfl rfl rfl ks
    obtain ⟨z0, e0, w0⟩ := g0.int_inv Tryz.underlying3
    obtain ⟨z1, e1, w1⟩ := g1.int_inv Tryz.underlying3
    obtain ⟨ao, n, cap, _, e2, _⟩ := g2.slice_inv Tryz.underlying58
    obtain ⟨bo, m, bcap, _, e3, _⟩ := g3.slice_inv Tryz.underlying59
    rw [e2] at g2
    rw [e3] at g3
    obtain ⟨l, rfl, q1, q2, q3, q4⟩ := pats_of g2
    obtain ⟨kl, rfl, r1, r2⟩ := bools_of g3
    cases e0; cases e1; cases e2; cases e3
    exact ⟨⟨z0, z1, (ao, cap), l, (bo, bcap), kl⟩, rfl, ⟨q1, q2, q3, r1, r2, i64_of w1, i64_of w0⟩⟩
structure RdOps (W : World) (ao : Option Addr) (l : List OpE) : Prop where
  rds : ∀ R, Rds W R 4 ao l.length (opsC l)
  each : ∀ o ∈ l, o.wf W
  len : l.length <= 140737488351232
theorem wops_of {ao : Option Addr} {n cap : Nat} (h : InT Tryz.prog W 24 [.slice ao n cap]) : ∃ l : List OpE, l.length = n /\ RdOps W ao l := by
 obtain ⟨l, h1, h2, h3, h4, h5⟩ := h.list OpE.cells (OpE.wf W) ⟨0, 0, (none, 0), [], (none, 0), []⟩ Tryz.underlying24 (by kernel_rfl) (fun o _ => opE_one o) (fun cs hc => wop_of hc)
 have b1 : 1 <= Tryz.prog.bytesOf 61 := of_decide_eq_true (by kernel_rfl)
 have hb : cap <= reachBytes := Nat.le_trans (Nat.le_mul_of_pos_right cap b1) h5
 refine ⟨l, h1, ⟨fun R => ?_, h3, by simp only [reachBytes] at hb; omega⟩⟩
 rw [h1]; exact h2 R
structure FewO (l : List OpE) : Prop where
  len : l.length <= 5000
  each : ∀ o ∈ l, o.pats.length <= 5000 /\ o.keep.length <= 5000
theorem wMany_capd : ∀ (L : List (Int × List UInt8)) {s : WS} {c : Nat}, s.2.capd c -> (wMany s L).2.2.capd (c + L.length)
  | [], s, c, h => h
  | x :: r, s, c, h => by
    have h1 := wWrite_capd h x.1 x.2
    unfold wMany
    rw [List.length_cons]
    split
    · exact h1.mono (by omega)
    · have := wMany_capd r (c := c + 1) h1
      exact this.mono (by omega)
theorem wCheck_capd {s : WS} {c : Nat} (h : s.2.capd c) (k : ChkD) : (wCheck s k).2.2.capd (c + 2) := by
 unfold wCheck
 split
 · exact h.mono (by omega)
 ·
  split
  · exact (wWrite_capd h _ _).mono (by omega)
  · exact wFlush_capd (wWrite_capd h _ _)
theorem wDo_capd {v : WalD} {D : BayD} {c : Nat} (h : D.capd c) (kind : Nat) (ps : List PatD) : (wDo (v, D) kind ps).2.2.capd (c + 4100) := by
 have hE : ∀ e, (wEmpty (v, D) e).2.2.capd (c + 4100) := by
  intro e
  have h1 := wCheck_capd (s := (v, D)) h ⟨e, v.next, v.head⟩
  unfold wEmpty
  dsimp only
  split
  · exact h.mono (by omega)
  ·
   split
   · exact h.mono (by omega)
   ·
    split
    · exact h1.mono (by omega)
    · exact h1.mono (by omega)
 unfold wDo
 split
 ·
  unfold wLog
  dsimp only
  split
  · exact h.mono (by omega)
  ·
   split
   · exact h.mono (by omega)
   ·
    rename_i h1
    have hf := secs_ok (Decidable.of_not_not h1)
    have hn := hf.n2
    rw [secs_fine hf]
    dsimp only
    split
    · exact h.mono (by omega)
    ·
     split
     · exact h.mono (by omega)
     ·
      have hl : (placed v (rowsP v.epoch v.next ps).dropLast).length <= 2046 := by
       rw [<- cast_placed]; unfold castL; rw [List.length_map, placedN_length, rowsP_dropLast, pairsP_length]; omega
      have h2 := wMany_capd (placed v (rowsP v.epoch v.next ps).dropLast) (s := (v, D)) h
      unfold logW
      dsimp only
      split
      · exact h2.mono (by omega)
      ·
       have h3 := wFlush_capd h2
       split
       · exact h3.mono (by omega)
       · exact h3.mono (by omega)
 ·
  unfold wSeal
  dsimp only
  split
  · exact h.mono (by omega)
  ·
   split
   · exact h.mono (by omega)
   ·
    have h1 := fun a l => wWrite_capd (s := (v, D)) h a l
    split
    · exact (h1 _ _).mono (by omega)
    ·
     split
     · exact (h1 _ _).mono (by omega)
     · exact (h1 _ _).mono (by omega)
 ·
  unfold wSync
  dsimp only
  split
  · exact h.mono (by omega)
  · exact (wFlush_capd (s := (v, D)) h).mono (by omega)
 · exact hE _
 · exact hE _
 · exact h.mono (by omega)
def secV (z : UInt8) : List UInt8 := zeroSec.set 7 z
theorem wsector_ok (z : UInt8) : Does W Tryz.prog 23 [byteV z] R (β := Nat) (fun _ => True) (fun p => .slice (some ⟨p, 0, none⟩) 128 128) (fun p => OwnB (some ⟨p, 0, none⟩, 128) (secV z) :: R) := by
 (refine Does.enter Tryz.func23 Tryz.ntmps23 rfl rfl ?_)
 refine w ?_
 refine zq ?_; refine OpV.makeSlice1 st_65 rfl rfl rfl ?_ ?_ rfl ?_
 · decide
 · decide
 intro xb
 refine w ?_
 refine VO.pure rfl rfl (PureAt.indexAddr (a := ⟨xb, 0, none⟩) (m := 128) (cap := 128) (j := 7) tab_ok rfl rfl rfl rfl (by decide)) rfl ?_
 refine zq ?_
 refine OpV.stO2 (xs' := bytes (secV z)) tab_ok rfl rfl rfl rfl zh (by simp) (by unfold secV bytes; rw [List.map_set]; rfl) ?_
 refine w ?_
 exact VE.done xb rfl trivial rfl Ent.re
theorem format_capd {D : BayD} {c n : Nat} (h : D.capd c) (s : Int) (e : Nat) : (wFormat D s (n : Int) e).2.capd (c + (n + 2)) := by
 have h1 := wMany_capd (zeroL n) (s := (fresh0 s e n, D)) h
 have hl : (zeroL n).length = n := by simp [zeroL]
 rw [hl] at h1
 have h2 := wCheck_capd h1 ⟨e, 1, 0⟩
 unfold wFormat
 rw [Int.toNat_natCast]
 split
 · exact h.mono (by omega)
 ·
  split
  · exact h1.mono (by omega)
  ·
   split
   · exact h2.mono (by omega)
   · exact h2.mono (by omega)
theorem fresh_ok {s : Int} {e n : Nat} (hn : 5 <= n /\ n <= 2048) (he : e <= 4611686018427387904) : (fresh0 s e n).ok := ⟨⟨hn.1, hn.2, by show 0 < n; omega, Nat.zero_le _⟩, he, ⟨by show 1 <= 1; decide, by show 1 <= 4611686018427387905; decide⟩, fun g q => by cases q⟩
theorem costT_len : ∀ (ts : List (Nat × List PatD)), ts.length <= costT ts
  | [] => Nat.zero_le _
  | t :: r => by
    have := costT_len r
    rw [costT_cons, List.length_cons]; omega
theorem found_few {data : List UInt8} {c : ChkD} {ts : List TxnE} (h : ts.map TxnE.T = (foundM data c).2.txns) : ts.length <= 2048 /\ ∀ t ∈ ts, t.pats.length <= 1023 /\ ∀ p ∈ t.pats, p.d.data.length = 128 := by
 by_cases hb : badM data c
 ·
  have hz : foundM data c = (1, ⟨[], 0, 0, 0⟩) := if_pos hb
  rw [hz] at h
  have : ts = [] := by cases ts with | nil => rfl | cons a r => cases h
  subst this
  exact ⟨Nat.zero_le _, fun t ht => (by cases ht)⟩
 ·
  have hfnd : (foundM data c).2.txns = ofM (secB data) (data.length / 128) c.epoch (data.length / 128 + 1) c.seq 0 c.tail.toNat := by
   have : foundM data c = (0, ⟨ofM (secB data) (data.length / 128) c.epoch (data.length / 128 + 1) c.seq 0 c.tail.toNat, _, _, _⟩) := if_neg hb
   rw [this]
  rw [hfnd] at h
  have b4 : data.length / 128 <= 2048 := by
   apply Decidable.byContradiction
   intro q
   exact hb (.inr (.inr (.inr (.inl (by omega)))))
  have hc := of_cost (sec := secB data) (size := data.length / 128) (e := c.epoch) (data.length / 128 + 1) c.seq 0 c.tail.toNat (Nat.zero_le _)
  rw [<- h] at hc
  have hl := costT_len (ts.map TxnE.T)
  rw [List.length_map] at hl
  refine ⟨by omega, fun t ht => ?_⟩
  obtain ⟨i, hi, rfl⟩ := List.mem_iff_getElem.1 ht
  have h1 : (ofM (secB data) (data.length / 128) c.epoch (data.length / 128 + 1) c.seq 0 c.tail.toNat)[i]? = some ts[i].T := by rw [<- h, List.getElem?_map, List.getElem?_eq_getElem hi]; rfl
  obtain ⟨-, -, hb2⟩ := of_each _ _ _ _ _ _ h1
  have hf := ((bat_iff _ _ _ _ _).1 hb2).1
  have hn2 := hf.n2
  refine ⟨by rwa [List.length_map] at hn2, fun p hp => ?_⟩
  exact (hf.pat p.D (List.mem_map_of_mem hp)).2.2
section
variable {W w : World} {A B X : SProp} {L R : List SProp}
theorem gOpen (h : Holds W (A :: Sl.star (B :: L) :: R) w) : Holds W (A :: B :: (L ++ R)) w := by
 have h2 := (h.swap).join
 exact h2.perm (List.perm_middle (l₁ := B :: L))
theorem gShut (h : Holds W (A :: B :: (L ++ R)) w) : Holds W (A :: Sl.star (B :: L) :: R) w := by
 have h2 : Holds W ((B :: L) ++ (A :: R)) w := h.perm (List.perm_middle (l₁ := B :: L)).symm
 exact h2.nest.swap
end
theorem pile_pop {W w : World} {α : Type} {res : α -> SProp} {a : α} {l : List α} {R : List SProp} (h : Holds W (pile res (a :: l) :: R) w) : Holds W (res a :: pile res l :: R) w := pile_out (i := 0) (by simp) h
abbrev nilS : Value := .slice none 0 0
abbrev bkCells (e f p t : Value) : List Value := [e, nilS, nilS, nilS, nilS, nilS, nilS, nilS, f, nilS, p, t]
abbrev gE (x : Option Addr × Nat) (E : List ListE) : SProp := Sl.star (Sl.Own 65 1 (.slice x.1 E.length x.2) E.length (E.map ListE.hdr) :: E.map ListE.res)
abbrev gF (x : Option Addr × Nat) (F : List ListN) : SProp := Sl.star (Sl.Own 43 1 (.slice x.1 F.length x.2) F.length (F.map ListN.hdr) :: F.map Rw.res)
abbrev gP (x : Option Addr × Nat) (P : List ListN) : SProp := Sl.star (Sl.Own 58 1 (.slice x.1 P.length x.2) P.length (P.map ListN.hdr) :: P.map Pt.res)
abbrev gT (x : Option Addr × Nat) (T : List ListN) : SProp := Sl.star (Sl.Own 81 1 (.slice x.1 T.length x.2) T.length (T.map ListN.hdr) :: T.map Tx.res)
abbrev sl4 (x : Option Addr × Nat) (n : Nat) : Value := .slice x.1 n x.2
theorem bkbytes_raw (b : Nat) (f p t : Value) (x : Option Addr × Nat) (E : List ListE) (e : ListE) (hn : E.length <= 2000000000) :
  Does W Tryz.prog 184 [.pointer (some ⟨b, 0, none⟩), .slice e.ao e.xs.length e.cap] (Row b 56 (bkCells (sl4 x E.length) f p t) :: gE x E :: e.res :: R) (β := Option Addr × Nat) (fun _ => True) (fun _ => .tuple #[])
   (fun y => Row b 56 (bkCells (sl4 y (E ++ [e]).length) f p t) :: gE y (E ++ [e]) :: R) := by
 obtain ⟨lo, lc⟩ := x
 (refine Does.enter Tryz.func184 Tryz.ntmps184 rfl rfl ?_)
 refine VC.ent (fun w hw => gOpen hw) ?_
 refine w ?_
 (refine zq ?_; refine OpV.buildSlice1 st_43 rfl rfl (by first | (simp; done) | simp [Value.oneCell']) (by decide) rfl ?_; intro nb)
 (refine zq ?_; refine OpV.appendRow st_43 rfl rfl zh zm rfl (by first | (simp; done) | simp [Value.oneCell']) ?_ ?_ rfl ?_)
 · simp only [maxLen]; omega
 · omega
 intro lo' lc'
 refine w ?_
 refine VE.doneN (lo', lc') rfl trivial rfl ?_
 intro w hw
 refine gShut (L := (E ++ [e]).map ListE.res) ?_
 rw [List.length_append, List.length_singleton, List.map_append, List.map_append, List.append_assoc]
 exact hw.tail
def eR (e : RowE) : ListE := ⟨e.ao, e.cap, bytes e.data⟩
theorem eR_hdr (e : RowE) : Value.slice (eR e).ao (eR e).xs.length (eR e).cap = e.hdr := by unfold eR; dsimp only; rw [bytes_length]
theorem eR_res (e : RowE) : (eR e).res = e.res := by unfold ListE.res RowE.res eR; dsimp only; rw [bytes_length]
theorem eR_len (e : RowE) : (eR e).xs.length = e.data.length := by unfold eR; rw [bytes_length]
def rowsN (x : Option Addr × Nat) (l : List RowE) : ListN := ⟨x.1, x.2, l.length, l.map RowE.hdr⟩
def patsN (x : Option Addr × Nat) (l : List PatE) : ListN := ⟨x.1, x.2, l.length, patCells l⟩
def txnsN (x : Option Addr × Nat) (l : List TxnE) : ListN := ⟨x.1, x.2, l.length, txnCells l⟩
def eP (l : List PatE) : List ListE := l.map fun p => eR p.d
theorem bkpats_raw (b : Nat) (f t : Value) (x y : Option Addr × Nat) (E : List ListE) (P : List ListN) (z : Option Addr × Nat) (l : List PatE) (hz : z.1 = none -> l.length = 0) (hn : E.length + l.length <= 1000000000) (hf : P.length <= 1000000000) :
  Does W Tryz.prog 133 [.pointer (some ⟨b, 0, none⟩), .slice z.1 l.length z.2] (Row b 56 (bkCells (sl4 x E.length) f (sl4 y P.length) t) :: gE x E :: gP y P :: PatsO z l :: PilP l :: R) (β := (Option Addr × Nat) × Option Addr × Nat) (fun _ => True) (fun _ => .tuple #[])
   (fun g => Row b 56 (bkCells (sl4 g.1 (E ++ eP l).length) f (sl4 g.2 (P ++ [patsN z l]).length) t) :: gE g.1 (E ++ eP l) :: gP g.2 (P ++ [patsN z l]) :: R) := by
 obtain ⟨lo, lc⟩ := y
 (refine Does.enter Tryz.func133 Tryz.ntmps133 rfl rfl ?_)
 refine VC.ent (Ent.trans (Ent.re (L := Row b 56 (bkCells (sl4 x E.length) f (sl4 (lo, lc) P.length) t) :: gP (lo, lc) P :: gE x E :: PatsO z l :: PilP l :: R)) (fun w hw => gOpen hw)) ?_
 refine w ?_
 (refine zq ?_; refine OpV.buildSlice1 st_53 rfl rfl (by first | (simp; done) | simp [Value.oneCell']) (by decide) rfl ?_; intro nb)
 (refine zq ?_; refine OpV.appendRow st_53 rfl rfl zh zm rfl (by first | (simp; done) | simp [Value.oneCell']) ?_ ?_ rfl ?_)
 · simp only [maxLen]; omega
 · omega
 intro lo' lc'
 refine w ?_
 have hF : (P ++ [patsN z l]).length = P.length + 1 := by rw [List.length_append]; rfl
 have hFm : (P ++ [patsN z l]).map ListN.hdr = P.map ListN.hdr ++ [.slice z.1 l.length z.2] := by rw [List.map_append]; rfl
 have hML : ∀ m : List PatE, (eP m).length = m.length := fun m => by simp [eP]
 generalize hFF : P ++ [patsN z l] = FF at *
 refine VC.loop (α := Nat × Option Addr × Nat) (fun g => g.1 <= l.length) (fun g => Row b 56 (bkCells (sl4 g.2 (E ++ eP (l.take g.1)).length) f (sl4 (lo', lc') FF.length) t) :: gE g.2 (E ++ eP (l.take g.1)) :: pile PatE.res (l.drop g.1) :: PatsO z l :: Sl.star (Sl.Own 58 1 (.slice lo' FF.length lc') FF.length (FF.map ListN.hdr) :: P.map Pt.res) :: R)
  (fun g => [(0, .pointer (some ⟨b, 0, none⟩)), (1, .slice z.1 l.length z.2), (4, .int .i64 g.1)]) (fun g => l.length - g.1) rfl (0, x) (Nat.zero_le _) ?_ ⟨rfl, rfl, rfl, trivial⟩ ?_
 ·
  rw [hF, hFm]
  simp only [List.take_zero, List.drop_zero, show eP ([] : List PatE) = [] from rfl, List.append_nil]
  exact Ent.trans (fun w hw => gShut (L := P.map Pt.res) hw.tail) Ent.re
 rintro ⟨i, xe⟩ hi
 dsimp only at hi ⊢
 refine w ?_
 refine zk ?_ ?_ <;> intro hc
 ·
  have hlt : i < l.length := by have := of_decide_eq_true hc; omega
  obtain ⟨zo, zc⟩ := z
  obtain ⟨za, rfl⟩ : ∃ za, zo = some za := by cases zo with | none => have := hz rfl; omega | some za => exact ⟨za, rfl⟩
  have hd : l.drop i = l[i] :: l.drop (i + 1) := List.drop_eq_getElem_cons hlt
  have hlen : (E ++ eP (l.take i)).length <= 2000000000 := by rw [List.length_append, hML, List.length_take]; omega
  rw [hd]
  refine w ?_
  refine VO.pure rfl rfl (PureAt.ldRc tab_ok rfl rfl (Rds.own (pats_one l) zm (pats_len l) (fun h => by cases h)) (show (patCells l)[i * 3 + 2]? = some l[i].d.hdr by rw [pat_get l i 2 hlt (by decide)]; rfl)) rfl ?_
  refine w ?_
  have hC := bkbytes_raw (W := W) (R := pile PatE.res (l.drop (i + 1)) :: PatsO (some za, zc) l :: Sl.star (Sl.Own 58 1 (.slice lo' FF.length lc') FF.length (FF.map ListN.hdr) :: P.map Pt.res) :: R) b f (sl4 (lo', lc') FF.length) t xe (E ++ eP (l.take i)) (eR l[i].d) hlen
  rw [eR_hdr, eR_res] at hC
  refine VO.ent (Ent.trans (Ent.re (L := pile PatE.res (l[i] :: l.drop (i + 1)) :: Row b 56 (bkCells (sl4 xe (E ++ eP (l.take i)).length) f (sl4 (lo', lc') FF.length) t) :: gE xe (E ++ eP (l.take i)) :: PatsO (some za, zc) l :: Sl.star (Sl.Own 58 1 (.slice lo' FF.length lc') FF.length (FF.map ListN.hdr) :: P.map Pt.res) :: R)) (fun w hw => pile_pop hw)) ?_
  refine VO.ent (Ent.re (L := Row b 56 (bkCells (sl4 xe (E ++ eP (l.take i)).length) f (sl4 (lo', lc') FF.length) t) :: gE xe (E ++ eP (l.take i)) :: PatE.res l[i] :: pile PatE.res (l.drop (i + 1)) :: PatsO (some za, zc) l :: Sl.star (Sl.Own 58 1 (.slice lo' FF.length lc') FF.length (FF.map ListN.hdr) :: P.map Pt.res) :: R)) ?_
  (refine zq ?_; refine zy rfl rfl (hC) ?_)
  intro xe' _
  refine w ?_
  refine VE.round (i + 1, xe') hlt (by simp only; omega) ⟨rfl, rfl, asV rfl (by congr 1), trivial⟩ ?_
  dsimp only
  rw [show E ++ eP (l.take (i + 1)) = (E ++ eP (l.take i)) ++ [eR l[i].d] by rw [List.take_succ_eq_append_getElem hlt, eP, eP, List.map_append, List.append_assoc]; rfl]
  exact Ent.refl
 ·
  have hge : i = l.length := by have := of_decide_eq_false hc; omega
  subst hge
  refine w ?_
  refine VE.doneN (xe, lo', lc') rfl trivial rfl ?_
  dsimp only
  rw [List.take_length]
  refine Ent.trans (Ent.re (L := Row b 56 (bkCells (sl4 xe (E ++ eP l).length) f (sl4 (lo', lc') FF.length) t) :: Sl.star (Sl.Own 58 1 (.slice lo' FF.length lc') FF.length (FF.map ListN.hdr) :: P.map Pt.res) :: Pt.res (patsN z l) :: gE xe (E ++ eP l) :: R)) (fun w hw => ?_)
  have h2 := gOpen hw
  have h3 := gShut (L := FF.map Pt.res) (R := gE xe (E ++ eP l) :: R) (by rw [show FF.map Pt.res = P.map Pt.res ++ [Pt.res (patsN z l)] by rw [<- hFF, List.map_append]; rfl, List.append_assoc]; exact h2)
  exact h3.perm ((List.Perm.swap _ _ _).cons _)
def eT (l : List TxnE) : List ListE := l.flatMap fun t => eP t.pats
def pT (l : List TxnE) : List ListN := l.map fun t => patsN (t.ao, t.cap) t.pats
theorem eT_snoc (l : List TxnE) (i : Nat) (h : i < l.length) : eT (l.take (i + 1)) = eT (l.take i) ++ eP l[i].pats := by
 rw [List.take_succ_eq_append_getElem h, eT, List.flatMap_append]; simp [eT]
theorem pT_snoc (l : List TxnE) (i : Nat) (h : i < l.length) : pT (l.take (i + 1)) = pT (l.take i) ++ [patsN (l[i].ao, l[i].cap) l[i].pats] := by
 rw [List.take_succ_eq_append_getElem h, pT, List.map_append]; rfl
theorem eT_le (l : List TxnE) (i : Nat) (h : i < l.length) : (eT (l.take i)).length + l[i].pats.length <= (eT l).length := by
 have e : eT l = eT (l.take (i + 1)) ++ eT (l.drop (i + 1)) := by unfold eT; rw [<- List.flatMap_append, List.take_append_drop]
 rw [e, eT_snoc l i h, List.length_append, List.length_append]
 have : (eP l[i].pats).length = l[i].pats.length := by simp [eP]
 omega
theorem bktxns_raw (b : Nat) (f : Value) (x y u : Option Addr × Nat) (E : List ListE) (P T : List ListN) (z : Option Addr × Nat) (l : List TxnE) (hz : z.1 = none -> l.length = 0) (hn : E.length + (eT l).length <= 1000000000) (hp : P.length + l.length <= 1000000000) (ht : T.length <= 1000000000) :
  Does W Tryz.prog 84 [.pointer (some ⟨b, 0, none⟩), .slice z.1 l.length z.2] (Row b 56 (bkCells (sl4 x E.length) f (sl4 y P.length) (sl4 u T.length)) :: gE x E :: gP y P :: gT u T :: TxnsO z l :: PilT l :: R) (β := (Option Addr × Nat) × (Option Addr × Nat) × Option Addr × Nat) (fun _ => True) (fun _ => .tuple #[])
   (fun g => Row b 56 (bkCells (sl4 g.1 (E ++ eT l).length) f (sl4 g.2.1 (P ++ pT l).length) (sl4 g.2.2 (T ++ [txnsN z l]).length)) :: gE g.1 (E ++ eT l) :: gP g.2.1 (P ++ pT l) :: gT g.2.2 (T ++ [txnsN z l]) :: R) := by
 obtain ⟨lo, lc⟩ := u
 (refine Does.enter Tryz.func84 Tryz.ntmps84 rfl rfl ?_)
 refine VC.know (p := ∀ t ∈ l, t.ok) (fun w hw => PilT.know hw.tail.tail.tail.tail.tail) ?_
 intro hok
 refine VC.ent (Ent.trans (Ent.re (L := Row b 56 (bkCells (sl4 x E.length) f (sl4 y P.length) (sl4 (lo, lc) T.length)) :: gT (lo, lc) T :: gE x E :: gP y P :: TxnsO z l :: PilT l :: R)) (fun w hw => gOpen hw)) ?_
 refine w ?_
 (refine zq ?_; refine OpV.buildSlice1 st_54 rfl rfl (by first | (simp; done) | simp [Value.oneCell']) (by decide) rfl ?_; intro nb)
 (refine zq ?_; refine OpV.appendRow st_54 rfl rfl zh zm rfl (by first | (simp; done) | simp [Value.oneCell']) ?_ ?_ rfl ?_)
 · simp only [maxLen]; omega
 · omega
 intro lo' lc'
 refine w ?_
 have hF : (T ++ [txnsN z l]).length = T.length + 1 := by rw [List.length_append]; rfl
 have hFm : (T ++ [txnsN z l]).map ListN.hdr = T.map ListN.hdr ++ [.slice z.1 l.length z.2] := by rw [List.map_append]; rfl
 generalize hFF : T ++ [txnsN z l] = FF at *
 refine VC.loop (α := Nat × (Option Addr × Nat) × Option Addr × Nat) (fun g => g.1 <= l.length) (fun g => Row b 56 (bkCells (sl4 g.2.1 (E ++ eT (l.take g.1)).length) f (sl4 g.2.2 (P ++ pT (l.take g.1)).length) (sl4 (lo', lc') FF.length)) :: gE g.2.1 (E ++ eT (l.take g.1)) :: gP g.2.2 (P ++ pT (l.take g.1)) :: pile TxnE.res (l.drop g.1) :: TxnsO z l :: Sl.star (Sl.Own 81 1 (.slice lo' FF.length lc') FF.length (FF.map ListN.hdr) :: T.map Tx.res) :: R)
  (fun g => [(0, .pointer (some ⟨b, 0, none⟩)), (1, .slice z.1 l.length z.2), (4, .int .i64 g.1)]) (fun g => l.length - g.1) rfl (0, x, y) (Nat.zero_le _) ?_ ⟨rfl, rfl, rfl, trivial⟩ ?_
 ·
  rw [hF, hFm]
  simp only [List.take_zero, List.drop_zero, show eT ([] : List TxnE) = [] from rfl, show pT ([] : List TxnE) = [] from rfl, List.append_nil]
  exact Ent.trans (fun w hw => gShut (L := T.map Tx.res) hw.tail) Ent.re
 rintro ⟨i, xe, xp⟩ hi
 dsimp only at hi ⊢
 refine w ?_
 refine zk ?_ ?_ <;> intro hc
 ·
  have hlt : i < l.length := by have := of_decide_eq_true hc; omega
  obtain ⟨zo, zc⟩ := z
  obtain ⟨za, rfl⟩ : ∃ za, zo = some za := by cases zo with | none => have := hz rfl; omega | some za => exact ⟨za, rfl⟩
  have hd : l.drop i = l[i] :: l.drop (i + 1) := List.drop_eq_getElem_cons hlt
  have hle := eT_le l i hlt
  have hpt : (pT (l.take i)).length = i := by simp only [pT, List.length_map, List.length_take]; omega
  have hoki := (hok _ (List.getElem_mem hlt)).nil
  rw [hd]
  refine w ?_
  refine VO.pure rfl rfl (PureAt.ldRc tab_ok rfl rfl (Rds.own (txns_one l) zm (txns_len l) (fun h => by cases h)) (show (txnCells l)[i * 2 + 1]? = some (.slice l[i].ao l[i].pats.length l[i].cap) by rw [txn_get l i 1 hlt (by decide)]; rfl)) rfl ?_
  refine w ?_
  have hC := bkpats_raw (W := W) (R := pile TxnE.res (l.drop (i + 1)) :: TxnsO (some za, zc) l :: Sl.star (Sl.Own 81 1 (.slice lo' FF.length lc') FF.length (FF.map ListN.hdr) :: T.map Tx.res) :: R) b f (sl4 (lo', lc') FF.length) xe xp (E ++ eT (l.take i)) (P ++ pT (l.take i)) (l[i].ao, l[i].cap) l[i].pats hoki (by rw [List.length_append]; omega) (by rw [List.length_append]; omega)
  refine VO.ent (Ent.trans (Ent.re (L := pile TxnE.res (l[i] :: l.drop (i + 1)) :: Row b 56 (bkCells (sl4 xe (E ++ eT (l.take i)).length) f (sl4 xp (P ++ pT (l.take i)).length) (sl4 (lo', lc') FF.length)) :: gE xe (E ++ eT (l.take i)) :: gP xp (P ++ pT (l.take i)) :: TxnsO (some za, zc) l :: Sl.star (Sl.Own 81 1 (.slice lo' FF.length lc') FF.length (FF.map ListN.hdr) :: T.map Tx.res) :: R)) (fun w hw => (pile_pop hw).join)) ?_
  refine VO.ent (Ent.re (L := Row b 56 (bkCells (sl4 xe (E ++ eT (l.take i)).length) f (sl4 xp (P ++ pT (l.take i)).length) (sl4 (lo', lc') FF.length)) :: gE xe (E ++ eT (l.take i)) :: gP xp (P ++ pT (l.take i)) :: PatsO (l[i].ao, l[i].cap) l[i].pats :: PilP l[i].pats :: pile TxnE.res (l.drop (i + 1)) :: TxnsO (some za, zc) l :: Sl.star (Sl.Own 81 1 (.slice lo' FF.length lc') FF.length (FF.map ListN.hdr) :: T.map Tx.res) :: R)) ?_
  (refine zq ?_; refine zy rfl rfl (hC) ?_)
  rintro ⟨xe', xp'⟩ _
  refine w ?_
  refine VE.round (i + 1, xe', xp') hlt (by simp only; omega) ⟨rfl, rfl, asV rfl (by congr 1), trivial⟩ ?_
  dsimp only
  rw [eT_snoc l i hlt, pT_snoc l i hlt, <- List.append_assoc, <- List.append_assoc]
  exact Ent.refl
 ·
  have hge : i = l.length := by have := of_decide_eq_false hc; omega
  subst hge
  refine w ?_
  refine VE.doneN (xe, xp, lo', lc') rfl trivial rfl ?_
  dsimp only
  rw [List.take_length]
  refine Ent.trans (Ent.re (L := Row b 56 (bkCells (sl4 xe (E ++ eT l).length) f (sl4 xp (P ++ pT l).length) (sl4 (lo', lc') FF.length)) :: Sl.star (Sl.Own 81 1 (.slice lo' FF.length lc') FF.length (FF.map ListN.hdr) :: T.map Tx.res) :: Tx.res (txnsN z l) :: gE xe (E ++ eT l) :: gP xp (P ++ pT l) :: R)) (fun w hw => ?_)
  have h2 := gOpen hw
  have h3 := gShut (L := FF.map Tx.res) (R := gE xe (E ++ eT l) :: gP xp (P ++ pT l) :: R) (by rw [show FF.map Tx.res = T.map Tx.res ++ [Tx.res (txnsN z l)] by rw [<- hFF, List.map_append]; rfl, List.append_assoc]; exact h2)
  exact h3.perm (((List.Perm.swap _ _ _).trans ((List.Perm.swap _ _ _).cons _)).cons _)
structure Bk where
  E : List ListE
  F : List ListN
  P : List ListN
  T : List ListN
structure BkX where
  e : Option Addr × Nat
  f : Option Addr × Nat
  p : Option Addr × Nat
  t : Option Addr × Nat
abbrev bkO (b : Nat) (x : BkX) (B : Bk) (R : List SProp) : List SProp :=
  Row b 56 (bkCells (sl4 x.e B.E.length) (sl4 x.f B.F.length) (sl4 x.p B.P.length) (sl4 x.t B.T.length)) :: gE x.e B.E :: gF x.f B.F :: gP x.p B.P :: gT x.t B.T :: R
def BookQ (b : Nat) (B : Bk) : SProp := ex fun x : BkX => Sl.star (bkO b x B [])
theorem BookQ.open {W w : World} {b : Nat} {B : Bk} {R : List SProp} (h : Holds W (BookQ b B :: R) w) : ∃ x, Holds W (bkO b x B R) w := by
 obtain ⟨x, h⟩ := h.exOpen
 exact ⟨x, h.join⟩
theorem BookQ.shut {b : Nat} {B : Bk} {R : List SProp} (x : BkX) : Ent W (bkO b x B R) (BookQ b B :: R) := fun w hw => Holds.exShut x (Holds.nest (L := bkO b x B []) hw)
theorem BookQ.start {b : Nat} {R : List SProp} : Ent W (Row b 56 (bkCells nilS nilS nilS nilS) :: R) (BookQ b ⟨[], [], [], []⟩ :: R) := by
 intro w hw
 refine BookQ.shut ⟨(none, 0), (none, 0), (none, 0), (none, 0)⟩ w ?_
 have h1 := Holds.nest (L := [Sl.Own 81 1 (.slice none 0 0) 0 []]) (Holds.ownNil 81 1 hw)
 have h2 := Holds.nest (L := [Sl.Own 58 1 (.slice none 0 0) 0 []]) (Holds.ownNil 58 1 h1)
 have h3 := Holds.nest (L := [Sl.Own 43 1 (.slice none 0 0) 0 []]) (Holds.ownNil 43 1 h2)
 have h4 := Holds.nest (L := [Sl.Own 65 1 (.slice none 0 0) 0 []]) (Holds.ownNil 65 1 h3)
 have hE : Ent W (gE (none, 0) [] :: gF (none, 0) [] :: gP (none, 0) [] :: gT (none, 0) [] :: Row b 56 (bkCells nilS nilS nilS nilS) :: R) (bkO b ⟨(none, 0), (none, 0), (none, 0), (none, 0)⟩ ⟨[], [], [], []⟩ R) := Ent.re
 exact hE w h4
theorem bktxns_ok (b : Nat) (B : Bk) (z : Option Addr × Nat) (l : List TxnE) (hz : z.1 = none -> l.length = 0) (hn : B.E.length + (eT l).length <= 1000000000) (hp : B.P.length + l.length <= 1000000000) (ht : B.T.length <= 1000000000) :
  Does1 W Tryz.prog 84 [.pointer (some ⟨b, 0, none⟩), .slice z.1 l.length z.2] (BookQ b B :: TxnsO z l :: PilT l :: R) (.tuple #[]) (BookQ b { B with E := B.E ++ eT l, P := B.P ++ pT l, T := B.T ++ [txnsN z l] } :: R) := by
 refine DoesO (fun w hw => BookQ.open hw) fun x => ?_
 refine DoesE (H' := Row b 56 (bkCells (sl4 x.e B.E.length) (sl4 x.f B.F.length) (sl4 x.p B.P.length) (sl4 x.t B.T.length)) :: gE x.e B.E :: gP x.p B.P :: gT x.t B.T :: TxnsO z l :: PilT l :: gF x.f B.F :: R) Ent.re ?_
 exact Does.mono (bktxns_raw (R := gF x.f B.F :: R) b (sl4 x.f B.F.length) x.e x.p x.t B.E B.P B.T z l hz hn hp ht) (fun _ => ()) (fun _ _ => trivial) (fun _ _ => rfl) (fun y _ => Ent.trans (Ent.re (L := bkO b ⟨y.1, x.f, y.2.1, y.2.2⟩ { B with E := B.E ++ eT l, P := B.P ++ pT l, T := B.T ++ [txnsN z l] } R)) (BookQ.shut ⟨y.1, x.f, y.2.1, y.2.2⟩))
structure Bk.ok (B : Bk) : Prop where
  E : B.E.length <= 1000000000
  F : B.F.length <= 1000000000
  P : B.P.length <= 1000000000
  T : B.T.length <= 1000000000
  e : ∀ e ∈ B.E, e.xs.length <= 1000000000
  f : ∀ e ∈ B.F, e.n <= 1000000000
  p : ∀ e ∈ B.P, e.n <= 1000000000
  t : ∀ e ∈ B.T, e.n <= 1000000000
theorem Rds.exq {H : List SProp} {α : Type} {P : α -> SProp} {sz k : Nat} {ao : Option Addr} {xs : List Value} (m : ex P ∈ H) (x0 : α) (h : ∀ x R, Rds W (P x :: R) sz ao k xs) : Rds W H sz ao k xs := by
 have h0 := h x0 []
 refine ⟨h0.len, h0.one, h0.nil, fun w hw => ?_⟩
 obtain ⟨R, p⟩ := mem_perm m
 obtain ⟨x, hx⟩ := (hw.perm p).exOpen
 exact (h x R).cell w hx
theorem BookQ.part {H : List SProp} {b : Nat} {B : Bk} {X : SProp} {sz k : Nat} {ao : Option Addr} {xs : List Value} (m : BookQ b B ∈ H) (hX : ∀ x : BkX, ∃ L, X ∈ L /\ (Sl.star L = gE x.e B.E \/ Sl.star L = gF x.f B.F \/ Sl.star L = gP x.p B.P \/ Sl.star L = gT x.t B.T)) (h : ∀ R, X ∈ R -> Rds W R sz ao k xs) : Rds W H sz ao k xs := by
 refine Rds.exq (P := fun x : BkX => Sl.star (bkO b x B [])) m ⟨(none, 0), (none, 0), (none, 0), (none, 0)⟩ fun x R => ?_
 refine Rds.star (L := bkO b x B []) (.head _) fun R => ?_
 obtain ⟨L, hL, hs⟩ := hX x
 refine Rds.star (L := L) ?_ fun R => h _ (List.mem_append_left _ hL)
 rcases hs with hs | hs | hs | hs <;> rw [hs]
 · exact .tail _ (.head _)
 · exact .tail _ (.tail _ (.head _))
 · exact .tail _ (.tail _ (.tail _ (.head _)))
 · exact .tail _ (.tail _ (.tail _ (.tail _ (.head _))))
theorem BookQ.row {H : List SProp} {b : Nat} {B : Bk} {e : RowE} (m : BookQ b B ∈ H) (he : eR e ∈ B.E) (hok : e.ok) : Rds W H 1 e.ao e.data.length (bytes e.data) :=
 BookQ.part (X := e.res) m (fun x => ⟨_, .tail _ (by rw [<- eR_res]; exact List.mem_map_of_mem he), .inl rfl⟩) (fun R hR => RowE.rds hok hR)
theorem BookQ.rows {H : List SProp} {b : Nat} {B : Bk} {z : Option Addr × Nat} {l : List RowE} (m : BookQ b B ∈ H) (hE : ∀ e ∈ l, eR e ∈ B.E) (hF : rowsN z l ∈ B.F) (hz : z.1 = none -> l.length = 0) (hok : ∀ e ∈ l, e.ok) : RdRows W H z.1 l :=
 ⟨BookQ.part (X := RowsO z l) m (fun x => ⟨_, .tail _ (List.mem_map.2 ⟨_, hF, rfl⟩), .inr (.inl rfl)⟩) (fun R hR => Rds.own (rowhdr_one l) hR (by simp) hz), fun e he => BookQ.row m (hE e he) (hok e he), hok⟩
theorem BookQ.pats {H : List SProp} {b : Nat} {B : Bk} {z : Option Addr × Nat} {l : List PatE} (m : BookQ b B ∈ H) (hE : ∀ e ∈ eP l, e ∈ B.E) (hP : patsN z l ∈ B.P) (hz : z.1 = none -> l.length = 0) (hok : ∀ p ∈ l, p.d.ok) : RdPats W H z.1 l :=
 ⟨BookQ.part (X := PatsO z l) m (fun x => ⟨_, .tail _ (List.mem_map.2 ⟨_, hP, rfl⟩), .inr (.inr (.inl rfl))⟩) (fun R hR => Rds.own (pats_one l) hR (pats_len l) hz), fun p hp => BookQ.row m (hE _ (List.mem_map.2 ⟨p, hp, rfl⟩)) (hok p hp), hok⟩
theorem BookQ.txns {H : List SProp} {b : Nat} {B : Bk} {z : Option Addr × Nat} {l : List TxnE} (m : BookQ b B ∈ H) (hE : ∀ e ∈ eT l, e ∈ B.E) (hP : ∀ e ∈ pT l, e ∈ B.P) (hT : txnsN z l ∈ B.T) (hz : z.1 = none -> l.length = 0) (hok : ∀ t ∈ l, t.ok) : RdTxns W H z.1 l :=
 ⟨BookQ.part (X := TxnsO z l) m (fun x => ⟨_, .tail _ (List.mem_map.2 ⟨_, hT, rfl⟩), .inr (.inr (.inr rfl))⟩) (fun R hR => Rds.own (txns_one l) hR (txns_len l) hz),
  fun t ht => BookQ.pats (z := (t.ao, t.cap)) m (fun e he => hE e (List.mem_flatMap.2 ⟨t, ht, he⟩)) (hP _ (List.mem_map.2 ⟨t, ht, rfl⟩)) (hok t ht).nil (hok t ht).each, hok⟩
structure WalD.okk (v : WalD) : Prop where
  ok : v.ok
  fits : ∀ g, v.log = some g -> v.used + g.cost <= v.size
theorem WalD.okk.broke {v : WalD} (h : v.okk) (e : Int) : WalD.okk { v with broken := e } := ⟨⟨h.ok.ring, h.ok.epoch, h.ok.next, h.ok.log⟩, h.fits⟩
def SameW (v v' : WalD) : Prop := ∃ e, v' = { v with broken := e }
theorem SameW.rfl' {v : WalD} : SameW v v := ⟨v.broken, rfl⟩
theorem SameW.trans {a b c : WalD} (h : SameW a b) (k : SameW b c) : SameW a c := by
 obtain ⟨e, rfl⟩ := h; obtain ⟨e2, rfl⟩ := k; exact ⟨e2, rfl⟩
theorem SameW.okk {v v' : WalD} (h : SameW v v') (hv : v.okk) : v'.okk := by obtain ⟨e, rfl⟩ := h; exact hv.broke e
theorem SameW.slot {v v' : WalD} (h : SameW v v') : v'.slot = v.slot := by obtain ⟨e, rfl⟩ := h; rfl
theorem wWrite_like (v : WalD) (D : BayD) (a : Int) (l : List UInt8) : SameW v (wWrite (v, D) a l).2.1 := by rw [wWrite_eq]; exact ⟨_, rfl⟩
theorem wFlush_like (v : WalD) (D : BayD) : SameW v (wFlush (v, D)).2.1 := by rw [wFlush_eq]; exact ⟨_, rfl⟩
theorem wMany_like : ∀ (L : List (Int × List UInt8)) (v : WalD) (D : BayD), SameW v (wMany (v, D) L).2.1
  | [], v, D => SameW.rfl'
  | x :: r, v, D => by
    unfold wMany
    split
    · exact wWrite_like v D _ _
    · exact (wWrite_like v D x.1 x.2).trans (wMany_like r _ _)
theorem wCheck_like (v : WalD) (D : BayD) (c : ChkD) : SameW v (wCheck (v, D) c).2.1 := by
 unfold wCheck
 split
 · exact SameW.rfl'
 ·
  split
  · exact wWrite_like v D _ _
  · exact (wWrite_like v D _ _).trans (wFlush_like _ _)
theorem wWrite_sane {s : WS} (h : s.2.sane) (a : Int) (l : List UInt8) : (wWrite s a l).2.2.sane := by
 unfold wWrite
 split
 · exact h.write _ _ _
 · exact h
theorem wFlush_sane {s : WS} (h : s.2.sane) : (wFlush s).2.2.sane := by
 unfold wFlush
 split
 · exact h.flush _
 · exact h
theorem wMany_sane : ∀ (L : List (Int × List UInt8)) {s : WS}, s.2.sane -> (wMany s L).2.2.sane
  | [], s, h => h
  | x :: r, s, h => by
    have h1 := wWrite_sane h x.1 x.2
    unfold wMany
    split
    · exact h1
    · exact wMany_sane r h1
theorem wCheck_sane {s : WS} (h : s.2.sane) (c : ChkD) : (wCheck s c).2.2.sane := by
 unfold wCheck
 split
 · exact h
 ·
  split
  · exact wWrite_sane h _ _
  · exact wFlush_sane (wWrite_sane h _ _)
theorem wDo_sane {v : WalD} {D : BayD} (h : D.sane) (kind : Nat) (ps : List PatD) : (wDo (v, D) kind ps).2.2.sane := by
 have hE : ∀ e, (wEmpty (v, D) e).2.2.sane := fun e => by
  unfold wEmpty
  have h1 := wCheck_sane (s := (v, D)) h ⟨e, v.next, v.head⟩
  split
  · exact h
  ·
   split
   · exact h
   ·
    split
    · exact h1
    · exact h1
 unfold wDo
 split
 ·
  unfold wLog
  split
  · exact h
  ·
   split
   · exact h
   ·
    split
    · exact h
    ·
     split
     · exact h
     ·
      unfold logW
      have h1 := wMany_sane (placed v (secsM v.epoch v.next ps).2.dropLast) (s := (v, D)) h
      have h2 := wFlush_sane h1
      dsimp only
      split
      · exact h1
      ·
       split
       · exact h2
       · exact h2
 ·
  unfold wSeal
  dsimp only
  split
  · exact h
  ·
   split
   · exact h
   ·
    have h1 := fun a l => wWrite_sane (s := (v, D)) h a l
    split
    · exact h1 _ _
    ·
     split
     · exact h1 _ _
     · exact h1 _ _
 ·
  unfold wSync
  dsimp only
  split
  · exact h
  · exact wFlush_sane (s := (v, D)) h
 · exact hE _
 · exact hE _
 · exact h
theorem wEmpty_okk {v : WalD} {D : BayD} (hv : v.okk) (e : Nat) : (wEmpty (v, D) e).2.1.okk /\ (wEmpty (v, D) e).2.1.slot = v.slot := by
 have hr := hv.ok.ring
 unfold wEmpty
 dsimp only
 split
 · exact ⟨hv, rfl⟩
 ·
  split
  · exact ⟨hv, rfl⟩
  ·
   split
   · exact ⟨(wCheck_like v D _).okk hv, (wCheck_like v D _).slot⟩
   ·
    rename_i h2
    have h0 : (wCheck (v, D) ⟨e, v.next, v.head⟩).1 = 0 := by simpa using h2
    have hen : (ChkD.enc ⟨e, v.next, v.head⟩).1 = 0 := by
     unfold wCheck at h0
     split at h0
     · rename_i h1; exact absurd h0 h1
     · rename_i h1; simpa using h1
    have hg : (ChkD.mk e v.next v.head).good := by
     by_cases g : (ChkD.mk e v.next v.head).good
     · exact g
     · rw [chk_bad g] at hen; cases hen
    have hm : v.head < v.size := Nat.mod_lt _ (by have := hr.lo; omega)
    exact ⟨⟨⟨⟨hr.lo, hr.hi, hm, Nat.zero_le _⟩, hg.1.1, hv.ok.next, fun g hg => (by cases hg)⟩, fun g hg => (by cases hg)⟩, rfl⟩
theorem wDo_okk {v : WalD} {D : BayD} (hv : v.okk) (kind : Nat) (ps : List PatD) : (wDo (v, D) kind ps).2.1.okk /\ (wDo (v, D) kind ps).2.1.slot = v.slot := by
 have hr := hv.ok.ring
 unfold wDo
 split
 ·
  unfold wLog
  split
  · exact ⟨hv, rfl⟩
  ·
   split
   · exact ⟨hv, rfl⟩
   ·
    rename_i hs
    have hs0 : (secsM v.epoch v.next ps).1 = 0 := by simpa using hs
    split
    · exact ⟨hv, rfl⟩
    ·
     rename_i hsz
     split
     · exact ⟨hv, rfl⟩
     ·
      rename_i hfr
      rcases secs_cases v.epoch v.next ps with ⟨hfine, hse⟩ | ⟨hnf, hse, hse2⟩
      rotate_left
      · exact absurd hs0 hse
      rw [hse] at hsz hfr ⊢
      dsimp only at hsz hfr ⊢
      rw [rowsP_length] at hsz hfr
      unfold logW
      have l1 := wMany_like (placed v (rowsP v.epoch v.next ps).dropLast) v D
      have l2 := l1.trans (wFlush_like (wMany (v, D) (placed v (rowsP v.epoch v.next ps).dropLast)).2.1 (wMany (v, D) (placed v (rowsP v.epoch v.next ps).dropLast)).2.2)
      dsimp only
      split
      · exact ⟨l1.okk hv, l1.slot⟩
      ·
       split
       · exact ⟨l2.okk hv, l2.slot⟩
       ·
        obtain ⟨e, he⟩ := l2
        have hl2 : (wFlush (wMany (v, D) (placed v (rowsP v.epoch v.next ps).dropLast)).2).2.1 = { v with broken := e } := he
        rw [hl2]
        have hn2 := hfine.n2
        have hn1 := hfine.n1
        have hus := hr.us
        have hlast : ((rowsP v.epoch v.next ps).getLastD []).length = 128 := by
         have hne : rowsP v.epoch v.next ps ≠ [] := fun q => by have := rowsP_length v.epoch v.next ps; rw [q] at this; simp at this
         rw [List.getLastD_eq_getLast?, List.getLast?_eq_some_getLast hne]
         exact rowsP_128 hfine _ (List.getLast_mem hne)
        refine ⟨⟨⟨hr, hv.ok.epoch, hv.ok.next, fun g hg => ?_⟩, fun g hg => ?_⟩, rfl⟩
        ·
         cases hg
         dsimp only
         rw [rowsP_length]
         exact ⟨by omega, by omega, hlast, hfine.cnt.2.2⟩
        ·
         cases hg
         dsimp only
         rw [rowsP_length]
         omega
 ·
  unfold wSeal
  dsimp only
  split
  · exact ⟨hv, rfl⟩
  ·
   split
   · exact ⟨hv, rfl⟩
   ·
    rename_i g hg
    have l1 := fun a l => wWrite_like v D a l
    have hf := hv.fits g hg
    obtain ⟨k1, k2, k3, k4⟩ := hv.ok.log g hg
    split
    · exact ⟨(l1 _ _).okk hv, (l1 _ _).slot⟩
    ·
     rw [if_neg (by omega)]
     exact ⟨⟨⟨⟨hr.lo, hr.hi, hr.tl, hf⟩, hv.ok.epoch, ⟨by show 1 <= v.next + 1; omega, by show v.next + 1 <= _; omega⟩, fun g hg => (by cases hg)⟩, fun g hg => (by cases hg)⟩, rfl⟩
 ·
  unfold wSync
  dsimp only
  split
  · exact ⟨hv, rfl⟩
  ·
   obtain ⟨e, he⟩ := wFlush_like v D
   rw [he]
   exact ⟨⟨⟨hr, hv.ok.epoch, hv.ok.next, hv.ok.log⟩, hv.fits⟩, rfl⟩
 · exact wEmpty_okk hv _
 · exact wEmpty_okk hv _
 · exact ⟨hv, rfl⟩
theorem bReads_sane : ∀ (L : List Int) {D : BayD} (slot : Int) (acc : List UInt8), D.sane -> (bReads D slot L acc).2.sane
  | [], D, slot, acc, h => h
  | a :: r, D, slot, acc, h => by
    unfold bReads
    split
    · exact h.read _ _
    · exact bReads_sane r slot _ (h.read _ _)
theorem wOpen_sane {D : BayD} (h : D.sane) (slot places : Int) : (wOpen D slot places).2.sane := by
 have h1 := h.read slot 1
 have h2 := bReads_sane (ringL places.toNat) slot [] h1
 unfold wOpen
 split
 · exact h
 ·
  split
  · exact h1
  ·
   split
   · exact h1
   ·
    split
    · exact h2
    ·
     split
     · exact h2
     · exact h2
theorem costT_pats : ∀ (ts : List TxnE), (eT ts).length <= costT (ts.map TxnE.T)
  | [] => Nat.zero_le _
  | t :: r => by
    have := costT_pats r
    rw [List.map_cons, costT_cons, show eT (t :: r) = eP t.pats ++ eT r from List.flatMap_cons .., List.length_append, show (eP t.pats).length = t.pats.length by simp [eP]]
    have e : t.T.2.length = t.pats.length := by show (t.pats.map PatE.D).length = _; rw [List.length_map]
    omega
theorem found_next {data : List UInt8} {c : ChkD} (h : (foundM data c).1 = 0) : 1 <= (foundM data c).2.next /\ (foundM data c).2.next <= 4611686018427387905 := by
  obtain ⟨n, tl, h1, h2, h3, h4, hg, he⟩ := found_facts h
  rw [he]
  dsimp only
  have hc := hg.1
  refine ⟨by have := hc.2.1; omega, ?_⟩
  cases hl : (ofM (secB data) n c.epoch (n + 1) c.seq 0 tl).length with
  | zero => have := hc.2.2; omega
  | succ m =>
    have hlt : m < (ofM (secB data) n c.epoch (n + 1) c.seq 0 tl).length := by omega
    obtain ⟨-, hb, -⟩ := of_each _ _ _ _ _ _ (List.getElem?_eq_getElem hlt)
    have hm : mostC = 4611686018427387904 := rfl
    omega
theorem read_dev {D : BayD} {k a : Int} (hk : ∀ v, D.dev k = some v -> v.k.ok) : ∀ v, (D.read k a).2.dev k = some v -> v.k.ok := by
 unfold BayD.read
 split
 ·
  rename_i h0
  obtain ⟨u, hu⟩ := refuse_devU h0
  have e : ((D.ahead k 0).setIn k.toNat (D.dv k)).dev k = some (D.dv k) := setIn_dev (u := u) (by rw [dev_slots (D.ahead_slots k 0)]; exact hu)
  intro v hv
  rw [e] at hv
  cases hv
  unfold BayD.dv
  rw [hu]
  exact use_okk (hk u hu)
 ·
  intro v hv
  rw [dev_slots (D.ahead_slots k 0)] at hv
  exact hk v hv
theorem bReads_len (slot : Int) : ∀ (L : List Int) (D : BayD) (acc : List UInt8), (∀ v, D.dev slot = some v -> v.k.ok) -> (bReads D slot L acc).1.2 = 0 -> (bReads D slot L acc).1.1.length = acc.length + 128 * L.length
  | [], D, acc, hk, h => rfl
  | a :: r, D, acc, hk, h => by
    unfold bReads at h ⊢
    split at h
    · rename_i h1; exact absurd h h1
    · rename_i h1
      rw [if_neg h1]
      have h0 : (D.read slot a).1.2 = 0 := by simpa using h1
      rw [bReads_len slot r _ _ (read_dev hk) h, List.length_append, read_128 hk h0, List.length_cons]
      omega
theorem wOpen_okk {D : BayD} (slot places : Int) (hk : ∀ v, D.dev slot = some v -> v.k.ok) {v : WalD} (h : (wOpen D slot places).1.1.1 = some v) : v.okk /\ v.slot = slot := by
 unfold wOpen at h
 split at h
 · cases h
 rename_i hs
 have hs : sizedB places = true := by simpa using hs
 have hs2 := of_decide_eq_true (show decide (5 <= places /\ places <= 2048) = true from hs)
 split at h
 · cases h
 split at h
 · cases h
 rename_i hb
 have hdt : ¬ places <= (ChkD.dec (D.read slot 1).1.1).2.tail := fun q => hb (.inr q)
 split at h
 · cases h
 rename_i hrd
 have hl := bReads_len slot (ringL places.toNat) _ [] (read_dev (a := 1) hk) (by simpa using hrd)
 rw [show (ringL places.toNat).length = places.toNat by simp [ringL]] at hl
 split at h
 · cases h
 rename_i hf
 have hf0 : (foundM (bReads (D.read slot 1).2 slot (ringL places.toNat) []).1.1 (ChkD.dec (D.read slot 1).1.1).2).1 = 0 := by simpa using hf
 have hnx := found_next hf0
 obtain ⟨n, tl, h1, h2, h3, h4, hg, he⟩ := found_facts hf0
 have hn : n = places.toNat := by simp only [List.length_nil] at hl; omega
 have hus : (foundM (bReads (D.read slot 1).2 slot (ringL places.toNat) []).1.1 (ChkD.dec (D.read slot 1).1.1).2).2.used <= n := by
  rw [he]
  have := of_cost (sec := secB (bReads (D.read slot 1).2 slot (ringL places.toNat) []).1.1) (size := n) (e := (ChkD.dec (D.read slot 1).1.1).2.epoch) (n + 1) (ChkD.dec (D.read slot 1).1.1).2.seq 0 tl (Nat.zero_le _)
  dsimp only; omega
 cases h
 refine ⟨⟨⟨⟨?_, ?_, ?_, ?_⟩, hg.1.1, hnx, fun g hg => (by cases hg)⟩, fun g hg => (by cases hg)⟩, rfl⟩
 · show 5 <= places.toNat; omega
 · show places.toNat <= 2048; omega
 · show (ChkD.dec (D.read slot 1).1.1).2.tail.toNat < places.toNat; omega
 · exact Nat.le_trans hus (Nat.le_of_eq hn)
theorem open_few {D : BayD} {slot places : Int} {ts : List TxnE} (h : ts.map TxnE.T = (wOpen D slot places).1.1.2) : ts.length <= 2048 /\ (eT ts).length <= 2048 /\ ∀ t ∈ ts, t.pats.length <= 1023 /\ ∀ p ∈ t.pats, p.d.data.length = 128 := by
 have hz : ∀ {us : List TxnE}, us.map TxnE.T = [] -> us.length <= 2048 /\ (eT us).length <= 2048 /\ ∀ t ∈ us, t.pats.length <= 1023 /\ ∀ p ∈ t.pats, p.d.data.length = 128 := fun {us} q => by
  have : us = [] := by cases us with | nil => rfl | cons a r => cases q
  subst this
  exact ⟨Nat.zero_le _, Nat.zero_le _, fun t ht => (by cases ht)⟩
 unfold wOpen at h
 split at h
 · exact hz h
 split at h
 · exact hz h
 split at h
 · exact hz h
 split at h
 · exact hz h
 split at h
 · exact hz h
 rename_i hf
 have hf0 : (foundM (bReads (D.read slot 1).2 slot (ringL places.toNat) []).1.1 (ChkD.dec (D.read slot 1).1.1).2).1 = 0 := by simpa using hf
 dsimp only at h
 obtain ⟨n, tl, h1, h2, h3, h4, hg, he⟩ := found_facts hf0
 have hc := of_cost (sec := secB (bReads (D.read slot 1).2 slot (ringL places.toNat) []).1.1) (size := n) (e := (ChkD.dec (D.read slot 1).1.1).2.epoch) (n + 1) (ChkD.dec (D.read slot 1).1.1).2.seq 0 tl (Nat.zero_le _)
 obtain ⟨f1, f2⟩ := found_few h
 rw [he] at h
 dsimp only at h
 rw [<- h] at hc
 have := costT_pats ts
 exact ⟨f1, by omega, f2⟩
abbrev ptrO (x : Option Nat) : Value := .pointer (x.map fun a => ⟨a, 0, none⟩)
structure WalJ where
  w : Nat
  v : Nat
  d : WalD
def walsJ (b c : Nat) (o : Option WalJ) : SProp := match o with
  | none => fact True
  | some x => Sl.star [WalR x.w b x.d, RWalR x.v c x.d]
abbrev pairRow (p b c : Nat) (o : Option WalJ) (slot ring : Int) : SProp :=
  Row p 35 [.pointer (some ⟨b, 0, none⟩), .pointer (some ⟨c, 0, none⟩), ptrO (o.map WalJ.w), ptrO (o.map WalJ.v), .int .i64 slot, .int .i64 ring]
theorem walsOpen {b c : Nat} {x : WalJ} {R : List SProp} : Ent W (walsJ b c (some x) :: R) (WalR x.w b x.d :: RWalR x.v c x.d :: R) := fun w hw => Holds.join (L := [_, _]) hw
theorem walsShut {b c : Nat} {x : WalJ} {R : List SProp} : Ent W (WalR x.w b x.d :: RWalR x.v c x.d :: R) (walsJ b c (some x) :: R) := fun w hw => Holds.nest (L := [_, _]) hw
theorem walsNone {b c : Nat} {R : List SProp} : Ent W R (walsJ b c none :: R) := fun w hw => hw.factShut trivial
theorem lbays_ok {ao : Option Addr} {cap : Nat} {l : List Int} (hr : Rds W R 1 ao l.length (intsI l)) (hlen : l.length <= 1000000000) :
  Does W Tryz.prog 6 [.slice ao l.length cap] R (β := Option (Nat × Nat)) (fun x => x.isSome = decide (bayE l = 0)) (fun x => .tuple #[ptrO (x.map Prod.fst), ptrO (x.map Prod.snd), .bool x.isSome]) (fun x => x.elim R fun y => BayR y.1 (BayD.new l) :: RBayR y.2 (BayD.new l) :: R) := by
 (refine Does.enter Tryz.func6 Tryz.ntmps6 rfl rfl ?_)
 refine w ?_
 (refine zq ?_; refine zy rfl rfl (baynew_ok hr hlen) ?_)
 intro x hx
 by_cases hb : bayE l = 0
 rotate_left
 ·
  obtain rfl : x = none := by cases x with | none => rfl | some b => rw [decide_eq_false hb] at hx; cases hx
  refine w ?_
  (refine zq ?_; refine zy rfl rfl (rbaynew_ok hr hlen) ?_)
  intro y hy
  obtain rfl : y = none := by cases y with | none => rfl | some b => rw [decide_eq_false hb] at hy; cases hy
  refine w ?_
  (first | refine VO.gF rfl rfl rfl (by simpa using hb) ?_ | refine VD.gF rfl rfl rfl (by simpa using hb) ?_)
  refine w ?_
  exact VE.done none rfl (by rw [decide_eq_false hb]; rfl) rfl Ent.refl
 ·
  obtain ⟨b, rfl⟩ : ∃ b, x = some b := by cases x with | none => rw [decide_eq_true hb] at hx; cases hx | some b => exact ⟨b, rfl⟩
  dsimp only [Option.elim]
  refine w ?_
  (refine zq ?_; refine zy rfl rfl (rbaynew_ok (R := BayR b (BayD.new l) :: R) (hr.ent (Ent.drop Ent.refl)) hlen) ?_)
  intro y hy
  obtain ⟨c, rfl⟩ : ∃ c, y = some c := by cases y with | none => rw [decide_eq_true hb] at hy; cases hy | some c => exact ⟨c, rfl⟩
  dsimp only [Option.elim]
  refine w ?_
  (first | refine VO.gT rfl rfl rfl (by simp [hb]) ?_ | refine VD.gT rfl rfl rfl (by simp [hb]) ?_)
  refine w ?_
  refine VE.done (some (b, c)) rfl (by rw [decide_eq_true hb]; rfl) ?_ Ent.re
  simp [hb]
theorem jslots_ok (b : Nat) (D : BayD) : Does1 W Tryz.prog 62 [.pointer (some ⟨b, 0, none⟩)] (BayR b D :: R) (.int .i64 (D.slots.length : Nat)) (BayR b D :: R) := by
 (refine Does.enter Tryz.func62 Tryz.ntmps62 rfl rfl ?_)
 refine VC.obtain (fun w => BayR.open) ?_
 rintro ⟨⟨a, sp⟩, h1, h2⟩
 dsimp only at h1 h2 ⊢
 refine w ?_
 refine VE.done1 rfl ?_ ?_
 · rw [h1, List.length_map]
 · exact BayR.shut h1 h2
theorem jimg_len {W w : World} {R : List SProp} {b : Nat} {D : BayD} (h : Holds W (BayR b D :: R) w) (k : Nat) : (D.image (k : Int)).1.length <= 1048576 := by
  unfold BayD.image
  cases hd : D.dev (k : Int) with
  | none => simp
  | some v =>
    have hk := bayOkk h k v hd
    show v.k.img.length <= _
    unfold DiskD.img
    split
    · simp
    · rw [img_len hk]
      have := hk.size
      omega
theorem limages_ok {D : BayD} (p b c : Nat) (o : Option WalJ) (slot ring : Int) :
  Does1 W Tryz.prog 14 [.pointer (some ⟨p, 0, none⟩)] (pairRow p b c o slot ring :: BayR b D :: RBayR c D :: R) (.bool true) (pairRow p b c o slot ring :: BayR b D :: RBayR c D :: R) := by
 refine DoesK (p := D.slots.length <= 17) (fun w hw => BayR.know hw.tail) fun hn17 => ?_
 refine DoesK (p := ∀ k : Nat, (D.image (k : Int)).1.length <= 1048576) (fun w hw => jimg_len hw.tail) fun hXl => ?_
 (refine Does.enter Tryz.func14 Tryz.ntmps14 rfl rfl ?_)
 refine w ?_
 refine VC.loop (α := Nat) (fun i => i <= D.slots.length) (fun i => pairRow p b c o slot ring :: BayR b D :: RBayR c D :: R)
  (fun i => [(0, .pointer (some ⟨p, 0, none⟩)), (3, .int .i64 i)]) (fun i => D.slots.length - i) rfl 0 (Nat.zero_le _) Ent.refl ⟨rfl, rfl, trivial⟩ ?_
 intro i hi
 refine w ?_
 refine VO.ent (H' := BayR b D :: pairRow p b c o slot ring :: RBayR c D :: R) Ent.re ?_
 (refine zq ?_; refine zy rfl rfl (jslots_ok b D) ?_)
 intro _ _
 refine w ?_
 refine zk ?_ ?_ <;> intro hc
 rotate_left
 ·
  refine w ?_
  exact VE.done1 rfl rfl Ent.re
 have hlt : i < D.slots.length := by have := of_decide_eq_true hc; omega
 clear hc
 refine w ?_
 (refine zq ?_; refine zy rfl rfl (bayimage_ok b D (i : Int)) ?_)
 rintro ⟨xo, xc⟩ hx
 dsimp only at hx
 refine w ?_
 refine VO.ent (H' := RBayR c D :: OwnB (xo, xc) (D.image (i : Int)).1 :: BayR b D :: pairRow p b c o slot ring :: R) Ent.re ?_
 (refine zq ?_; refine zy rfl rfl (rbayimage_ok c D (i : Int)) ?_)
 rintro ⟨yo, yc⟩ hy
 dsimp only at hy
 refine w ?_
 (first | refine VO.gF rfl rfl rfl (by simp) ?_ | refine VD.gF rfl rfl rfl (by simp) ?_)
 refine w ?_
 have hsm := same_any (W := W) (R := OwnB (yo, yc) (D.image (i : Int)).1 :: RBayR c D :: OwnB (xo, xc) (D.image (i : Int)).1 :: BayR b D :: pairRow p b c o slot ring :: R) (cap := xc) (cap' := yc) (a := (D.image (i : Int)).1) (b := (D.image (i : Int)).1) (Rds.own (e := 5) (cap := xc) (bytes_one _) (.tail _ (.tail _ (.head _))) (by simp) hx) (Rds.own (e := 5) (cap := yc) (bytes_one _) (.head _) (by simp) hy) (by have := hXl i; simp only [maxLen]; omega)
 rw [decide_eq_true (rfl : (D.image (i : Int)).1 = (D.image (i : Int)).1)] at hsm
 (refine zq ?_; refine zy rfl rfl (hsm) ?_)
 intro _ _
 refine w ?_
 exact VE.round (i + 1) hlt (by omega) ⟨rfl, asV rfl (by congr 1), trivial⟩ Ent.re
theorem lstands_ok {D : BayD} {c0 : Nat} (p b c : Nat) (o : Option WalJ) (slot ring : Int) (hs : D.sane) (hcp : D.capd c0) (hc0 : c0 <= 999990000) :
    Does1 W Tryz.prog 10 [.pointer (some ⟨p, 0, none⟩)] (pairRow p b c o slot ring :: BayR b D :: RBayR c D :: walsJ b c o :: R) (.bool true) (pairRow p b c o slot ring :: BayR b D :: RBayR c D :: walsJ b c o :: R) := by
  have hcapd : ∀ v, D.dev slot = some v -> v.k.cache.length <= 1000000000 := fun v hv => by
    obtain ⟨s, hs, e⟩ := BayD.dev_mem hv
    exact Nat.le_trans (hcp s hs v (.inl e)) (by omega)
  obtain ⟨pd, hpd⟩ : ∃ pd : List Nat, ((D.dev slot).elim [] fun v => v.k.cache.map (·.1)) = pd := ⟨_, rfl⟩
  have hpl : pd.length <= 1000000000 := by
    rw [<- hpd]
    cases hd : D.dev slot with
    | none => exact Nat.zero_le _
    | some v => show (v.k.cache.map (·.1)).length <= _; rw [List.length_map]; exact hcapd v hd
  (refine Does.enter Tryz.func10 Tryz.ntmps10 rfl rfl ?_)
  refine VC.ent (H' := RBayR c D :: pairRow p b c o slot ring :: BayR b D :: walsJ b c o :: R) Ent.re ?_
  refine VC.obtain (fun w => RBayR.openS) ?_
  rintro ⟨⟨x, sp⟩, h1, h2⟩
  dsimp only at h1 h2 ⊢
  refine w ?_
  (refine VC.drawn [4, 18, 37] 46 [0, 1, 2, 3, 5, 6, 7, 8, 9, 10, 11, 4, 12, 13, 14, 15, 16, 17, 19, 20, 21, 22, 23, 24, 25, 18, 26, 27, 28, 29, 30, 31, 32, 33, 34, 35, 36, 38, 39, 40, 41, 42, 43, 44, 45, 37, 46, 47, 48, 49] _ rfl (by kernel_rfl) (by kernel_rfl) Ent.re ?_)
  refine w ?_
  ((refine zq ?_; refine zd rfl rfl (baycounts_ok b D) ?_); intro _ _)
  refine ⟨Ent.re, ?_⟩
  refine VD.take rfl rfl rfl (cnt_eq (c := D.n) (d := D.n) (v := .bool false) rfl rfl hs.cw.wf hs.cw.wf (by rw [decide_eq_true ⟨rfl, rfl, rfl⟩]; rfl)) rfl ?_
  refine w ?_
  ((refine zq ?_; refine zd rfl rfl (baydark_ok b D) ?_); intro _ _)
  refine ⟨Ent.re, ?_⟩
  refine w ?_
  (first | refine VO.gF rfl rfl rfl (by simp) ?_ | refine VD.gF rfl rfl rfl (by simp) ?_)
  refine w ?_
  have hp1 := baypending_ok (W := W) (R := rbayRow c D x sp.length :: rrest x sp :: pairRow p b c o slot ring :: walsJ b c o :: R) b D slot hcapd
  rw [hpd] at hp1
  refine VD.ent (H' := BayR b D :: rbayRow c D x sp.length :: rrest x sp :: pairRow p b c o slot ring :: walsJ b c o :: R) Ent.re ?_
  (refine zq ?_; refine zy rfl rfl (hp1) ?_)
  rintro ⟨po, pc⟩ hpo
  dsimp only at hpo
  refine ⟨Ent.re, ?_⟩
  refine w ?_
  have hp2 := rbaypending_ok (W := W) (R := Sl.Own 3 1 (.slice po pd.length pc) pd.length (ints pd) :: pairRow p b c o slot ring :: BayR b D :: walsJ b c o :: R) c D slot hcapd
  rw [hpd] at hp2
  refine VD.ent (H' := RBayR c D :: Sl.Own 3 1 (.slice po pd.length pc) pd.length (ints pd) :: pairRow p b c o slot ring :: BayR b D :: walsJ b c o :: R) (Ent.trans (Ent.re (L := rbayRow c D x sp.length :: rrest x sp :: Sl.Own 3 1 (.slice po pd.length pc) pd.length (ints pd) :: pairRow p b c o slot ring :: BayR b D :: walsJ b c o :: R)) (RBayR.shutS h1 h2)) ?_
  (refine zq ?_; refine zy rfl rfl (hp2) ?_)
  rintro ⟨qo, qc⟩ hqo
  dsimp only at hqo
  refine w ?_
  have hone : ∀ u ∈ ints pd, u.oneCell' = true := fun u hu => by obtain ⟨c, _, rfl⟩ := List.mem_map.1 hu; rfl
  have hsi := sameints_any (W := W) (R := Sl.Own 3 1 (.slice qo pd.length qc) pd.length (ints pd) :: RBayR c D :: Sl.Own 3 1 (.slice po pd.length pc) pd.length (ints pd) :: pairRow p b c o slot ring :: BayR b D :: walsJ b c o :: R) (cap := pc) (cap' := qc) (a := pd) (b := pd) (Rds.own (e := 3) (cap := pc) hone (.tail _ (.tail _ (.head _))) (by simp [ints]) hpo) (Rds.own (e := 3) (cap := qc) hone (.head _) (by simp [ints]) hqo) (by simp only [maxLen]; omega)
  rw [decide_eq_true (rfl : pd = pd)] at hsi
  (refine zq ?_; refine zy rfl rfl (hsi) ?_)
  intro _ _
  refine w ?_
  refine VC.ent (H' := pairRow p b c o slot ring :: BayR b D :: RBayR c D :: walsJ b c o :: R) Ent.re ?_
  refine w ?_
  cases o with
  | none =>
    (refine VC.drawn [10, 27, 45, 60] 68 [0, 1, 2, 3, 4, 5, 6, 7, 8, 9, 11, 12, 13, 14, 15, 16, 17, 18, 19, 20, 10, 21, 22, 23, 24, 25, 26, 28, 29, 30, 31, 32, 33, 34, 35, 36, 37, 27, 38, 39, 40, 41, 42, 43, 44, 46, 47, 48, 49, 50, 51, 52, 45, 53, 54, 55, 56, 57, 58, 59, 61, 62, 63, 64, 65, 66, 67, 60, 68, 69, 70, 71] _ rfl (by kernel_rfl) (by kernel_rfl) Ent.re ?_)
    refine w ?_
    exact VE.done1 rfl rfl Ent.refl
  | some x =>
    refine VC.ent (H' := WalR x.w b x.d :: RWalR x.v c x.d :: pairRow p b c (some x) slot ring :: BayR b D :: RBayR c D :: R) (Ent.trans (Ent.re (L := walsJ b c (some x) :: pairRow p b c (some x) slot ring :: BayR b D :: RBayR c D :: R)) walsOpen) ?_
    refine VC.ent (H' := RWalR x.v c x.d :: WalR x.w b x.d :: pairRow p b c (some x) slot ring :: BayR b D :: RBayR c D :: R) Ent.re ?_
    refine VC.obtain (fun w => RWalR.open) ?_
    rintro ⟨⟨r, y, cm⟩, hg⟩
    dsimp only at hg ⊢
    refine VC.ent (H' := WalR x.w b x.d :: RWalO x.v c r y cm x.d (pairRow p b c (some x) slot ring :: BayR b D :: RBayR c D :: R)) Ent.re ?_
    (refine VC.drawn [10, 27, 45, 60] 68 [0, 1, 2, 3, 4, 5, 6, 7, 8, 9, 11, 12, 13, 14, 15, 16, 17, 18, 19, 20, 10, 21, 22, 23, 24, 25, 26, 28, 29, 30, 31, 32, 33, 34, 35, 36, 37, 27, 38, 39, 40, 41, 42, 43, 44, 46, 47, 48, 49, 50, 51, 52, 45, 53, 54, 55, 56, 57, 58, 59, 61, 62, 63, 64, 65, 66, 67, 60, 68, 69, 70, 71] _ rfl (by kernel_rfl) (by kernel_rfl) Ent.re ?_)
    refine w ?_
    (refine zq ?_; refine zy rfl rfl (walsize_ok x.w b x.d) ?_)
    intro _ _
    refine ⟨Ent.re, ?_⟩
    refine w ?_
    (first | refine VO.gT rfl rfl rfl (by simp) ?_ | refine VD.gT rfl rfl rfl (by simp) ?_)
    refine w ?_
    (refine zq ?_; refine zy rfl rfl (walused_ok x.w b x.d) ?_)
    intro _ _
    refine ⟨Ent.re, ?_⟩
    refine w ?_
    (first | refine VO.gT rfl rfl rfl (by simp) ?_ | refine VD.gT rfl rfl rfl (by simp) ?_)
    refine w ?_
    (refine zq ?_; refine zy rfl rfl (walnext_ok x.w b x.d) ?_)
    intro _ _
    refine ⟨Ent.re, ?_⟩
    refine w ?_
    (first | refine VO.gT rfl rfl rfl (by simp) ?_ | refine VD.gT rfl rfl rfl (by simp) ?_)
    refine w ?_
    (refine zq ?_; refine zy rfl rfl (walsure_ok x.w b x.d) ?_)
    intro _ _
    refine ⟨Ent.re, ?_⟩
    refine w ?_
    refine VE.done1 rfl (by simp) ?_
    refine Ent.trans (Ent.re (L := RWalO x.v c r y cm x.d (WalR x.w b x.d :: pairRow p b c (some x) slot ring :: BayR b D :: RBayR c D :: R))) ?_
    refine Ent.trans (RWalR.shut r y cm hg) ?_
    refine Ent.trans (Ent.re (L := WalR x.w b x.d :: RWalR x.v c x.d :: pairRow p b c (some x) slot ring :: BayR b D :: RBayR c D :: R)) ?_
    exact Ent.trans walsShut Ent.re
def walO1 (w : Option Nat) (b : Nat) (o : Option WalD) : SProp := match w, o with
  | some w, some d => WalR w b d
  | _, _ => fact True
def rwalO1 (w : Option Nat) (b : Nat) (o : Option WalD) : SProp := match w, o with
  | some w, some d => RWalR w b d
  | _, _ => fact True
theorem walO1_in {w : Option Nat} {b : Nat} {o : Option WalD} {z : WalD} {A P Y : SProp} {X : List SProp} (h : w.isSome = o.isSome) : Ent W (A :: P :: w.elim (Y :: X) fun w => WalR w b (o.getD z) :: Y :: X) (walO1 w b o :: Y :: A :: P :: X) := by
  cases w with
  | none => exact fun w' hw => (hw.factShut (p := True) trivial).reord (by
      show Reord (fact True :: A :: P :: Y :: X) (fact True :: Y :: A :: P :: X)
      (repeat first | exact .refl | (apply Reord.cons; focus repeat first | exact .head | apply Del.tail) | exact .nil | apply Reord.drop))
  | some w => cases o with
    | none => cases h
    | some d => exact fun w' hw => hw.reord (by
      show Reord (A :: P :: WalR w b d :: Y :: X) (WalR w b d :: Y :: A :: P :: X)
      (repeat first | exact .refl | (apply Reord.cons; focus repeat first | exact .head | apply Del.tail) | exact .nil | apply Reord.drop))
theorem rwalO1_in {w : Option Nat} {b : Nat} {o : Option WalD} {z : WalD} {A P Y : SProp} {X : List SProp} (h : w.isSome = o.isSome) : Ent W (A :: P :: w.elim (Y :: X) fun w => RWalR w b (o.getD z) :: Y :: X) (rwalO1 w b o :: Y :: A :: P :: X) := by
  cases w with
  | none => exact fun w' hw => (hw.factShut (p := True) trivial).reord (by
      show Reord (fact True :: A :: P :: Y :: X) (fact True :: Y :: A :: P :: X)
      (repeat first | exact .refl | (apply Reord.cons; focus repeat first | exact .head | apply Del.tail) | exact .nil | apply Reord.drop))
  | some w => cases o with
    | none => cases h
    | some d => exact fun w' hw => hw.reord (by
      show Reord (A :: P :: RWalR w b d :: Y :: X) (RWalR w b d :: Y :: A :: P :: X)
      (repeat first | exact .refl | (apply Reord.cons; focus repeat first | exact .head | apply Del.tail) | exact .nil | apply Reord.drop))
def joinJ (w v : Option Nat) (o : Option WalD) : Option WalJ := match w, v, o with
  | some w, some v, some d => some ⟨w, v, d⟩
  | _, _, _ => none
theorem joinJ_d {w v : Option Nat} {o : Option WalD} (h : w.isSome = o.isSome) (k : v.isSome = o.isSome) : (joinJ w v o).map WalJ.d = o /\ (joinJ w v o).map WalJ.w = w /\ (joinJ w v o).map WalJ.v = v := by
  cases o with
  | none =>
    cases w with
    | none => cases v with
      | none => exact ⟨rfl, rfl, rfl⟩
      | some v => cases k
    | some w => cases h
  | some d =>
    cases w with
    | none => cases h
    | some w => cases v with
      | none => cases k
      | some v => exact ⟨rfl, rfl, rfl⟩
theorem joinJ_in {w v : Option Nat} {o : Option WalD} {b c : Nat} {R : List SProp} (h : w.isSome = o.isSome) (k : v.isSome = o.isSome) : Ent W (walO1 w b o :: rwalO1 v c o :: R) (walsJ b c (joinJ w v o) :: R) := by
  cases o with
  | none =>
    cases w with
    | none => cases v with
      | none => exact Ent.trans (Ent.drop (Ent.drop Ent.refl)) walsNone
      | some v => cases k
    | some w => cases h
  | some d =>
    cases w with
    | none => cases h
    | some w => cases v with
      | none => cases k
      | some v => exact walsShut (x := ⟨w, v, d⟩)
structure BkT (B : Bk) (k : Nat) : Prop where
  E : B.E.length <= 2048 * k
  F : B.F = []
  P : B.P.length <= 2048 * k
  T : B.T.length <= k
  e : ∀ e ∈ B.E, e.xs.length <= 1000000000
  p : ∀ e ∈ B.P, e.n <= 1000000000
  t : ∀ e ∈ B.T, e.n <= 1000000000
theorem BkT.start : BkT ⟨[], [], [], []⟩ 0 := ⟨Nat.zero_le _, rfl, Nat.zero_le _, Nat.zero_le _, fun e h => (by cases h), fun e h => (by cases h), fun e h => (by cases h)⟩
theorem BkT.ok {B : Bk} {k : Nat} (h : BkT B k) (hk : k <= 100000) : B.ok := by
 have h1 := h.E; have h2 := h.P; have h3 := h.T
 exact ⟨by omega, by rw [h.F]; exact Nat.zero_le _, by omega, by omega, h.e, fun e he => (by rw [h.F] at he; cases he), h.p, h.t⟩
theorem BkT.add {B : Bk} {k : Nat} (h : BkT B k) {ts : List TxnE} {z : Option Addr × Nat} (h1 : ts.length <= 2048) (h2 : (eT ts).length <= 2048) (h3 : ∀ t ∈ ts, t.pats.length <= 1023 /\ ∀ p ∈ t.pats, p.d.data.length = 128) : BkT { B with E := B.E ++ eT ts, P := B.P ++ pT ts, T := B.T ++ [txnsN z ts] } (k + 1) := by
 have q1 := h.E; have q2 := h.P; have q3 := h.T
 refine ⟨by dsimp only; rw [List.length_append]; omega, h.F, by dsimp only; rw [List.length_append, show (pT ts).length = ts.length by simp [pT]]; omega, by dsimp only; rw [List.length_append, List.length_singleton]; omega, fun e he => ?_, fun e he => ?_, fun e he => ?_⟩
 ·
  rcases List.mem_append.1 he with q | q
  · exact h.e e q
  ·
   obtain ⟨t, ht, g⟩ := List.mem_flatMap.1 q
   obtain ⟨p, hp, rfl⟩ := List.mem_map.1 g
   rw [eR_len, (h3 t ht).2 p hp]; decide
 ·
  rcases List.mem_append.1 he with q | q
  · exact h.p e q
  ·
   obtain ⟨t, ht, rfl⟩ := List.mem_map.1 q
   exact Nat.le_trans (h3 t ht).1 (by decide)
 ·
  rcases List.mem_append.1 he with q | q
  · exact h.t e q
  ·
   rw [List.mem_singleton] at q; subst q
   show ts.length <= _; omega
theorem lopens_ok {D : BayD} {c0 k : Nat} (p b c bk : Nat) (o : Option WalJ) (slot ring : Int) (hs : D.sane) (hcp : D.capd c0) (hc0 : c0 <= 999990000) (B : Bk) (hB : BkT B k) (hk : k <= 10000) :
  Does W Tryz.prog 18 [.pointer (some ⟨p, 0, none⟩), .pointer (some ⟨bk, 0, none⟩)] (pairRow p b c o slot ring :: BayR b D :: RBayR c D :: walsJ b c o :: BookQ bk B :: R) (β := Option WalJ × Bk) (fun y => y.1.map WalJ.d = (wOpen D slot ring).1.1.1 /\ BkT y.2 (k + 1)) (fun _ => .bool true)
   (fun y => pairRow p b c y.1 slot ring :: BayR b (wOpen D slot ring).2 :: RBayR c (wOpen D slot ring).2 :: walsJ b c y.1 :: BookQ bk y.2 :: R) := by
 obtain ⟨O, hO⟩ : ∃ O, O = wOpen D slot ring := ⟨_, rfl⟩
 have hq1 := hB.E; have hq2 := hB.P; have hq3 := hB.T
 rw [<- hO]
 (refine Does.enter Tryz.func18 Tryz.ntmps18 rfl rfl ?_)
 refine VC.ent (H' := BayR b D :: pairRow p b c o slot ring :: RBayR c D :: BookQ bk B :: R) Ent.re ?_
 refine w ?_
 (refine VC.drawn [12] 19 [0, 1, 2, 3, 4, 5, 6, 7, 8, 9, 10, 11, 12, 13, 14, 15, 16, 17, 18, 19] [pairRow p b c o slot ring] rfl (by kernel_rfl) (by kernel_rfl) Ent.re ?_)
 refine w ?_
 refine VD.ent (H' := BayR b D :: pairRow p b c o slot ring :: RBayR c D :: BookQ bk B :: R) Ent.re ?_
 (refine zq ?_; refine zy rfl rfl (walopen_ok b slot ring) ?_)
 rw [<- hO]
 rintro ⟨yw, ⟨xo, xc⟩, ts⟩ ⟨hy1, hy2⟩
 dsimp only at hy1 hy2 ⊢
 have hIn : Ent W _ _ := walO1_in (W := W) (b := b) (z := fresh0 0 0 0) (A := TxnsO (xo, xc) ts) (P := PilT ts) (Y := BayR b O.2) (X := pairRow p b c o slot ring :: RBayR c D :: BookQ bk B :: R) hy1
 refine ⟨Ent.trans hIn Ent.re, ?_⟩
 refine VD.ent (H' := RBayR c D :: walO1 yw b O.1.1.1 :: BayR b O.2 :: TxnsO (xo, xc) ts :: PilT ts :: pairRow p b c o slot ring :: BookQ bk B :: R) (Ent.trans hIn Ent.re) ?_
 refine w ?_
 (refine VC.drawn [12] 19 [0, 1, 2, 3, 4, 5, 6, 7, 8, 9, 10, 11, 12, 13, 14, 15, 16, 17, 18, 19] [pairRow p b c o slot ring] rfl (by kernel_rfl) (by kernel_rfl) Ent.re ?_)
 refine w ?_
 (refine zq ?_; refine zy rfl rfl (rwopen_ok c slot ring hs hcp hc0) ?_)
 rw [<- hO]
 rintro ⟨zw, ⟨uo, uc⟩, us⟩ ⟨hz1, hz2⟩
 dsimp only at hz1 hz2 ⊢
 have hIn2 : Ent W _ _ := rwalO1_in (W := W) (b := c) (z := fresh0 0 0 0) (A := TxnsO (uo, uc) us) (P := PilT us) (Y := RBayR c O.2) (X := walO1 yw b O.1.1.1 :: BayR b O.2 :: TxnsO (xo, xc) ts :: PilT ts :: pairRow p b c o slot ring :: BookQ bk B :: R) hz1
 refine ⟨Ent.trans hIn2 Ent.re, ?_⟩
 refine VD.ent (H' := BookQ bk B :: TxnsO (xo, xc) ts :: PilT ts :: rwalO1 zw c O.1.1.1 :: RBayR c O.2 :: TxnsO (uo, uc) us :: PilT us :: walO1 yw b O.1.1.1 :: BayR b O.2 :: pairRow p b c o slot ring :: R) (Ent.trans hIn2 Ent.re) ?_
 refine w ?_
 refine VO.know (p := xo = none -> ts.length = 0) (fun w hw => hw.tail.ownNone (.head _)) ?_
 intro hxn
 refine VO.know (p := ∀ t ∈ ts, t.ok) (fun w hw => PilT.know hw.tail.tail) ?_
 intro htok
 refine VO.know (p := uo = none -> us.length = 0) (fun w hw => hw.tail.tail.tail.tail.tail.ownNone (.head _)) ?_
 intro hun
 refine VO.know (p := ∀ t ∈ us, t.ok) (fun w hw => PilT.know hw.tail.tail.tail.tail.tail.tail) ?_
 intro huok
 obtain ⟨f1, f2, f3⟩ := open_few (D := D) (slot := slot) (places := ring) (ts := ts) (by rw [<- hO]; exact hy2)
 obtain ⟨g1, g2, g3⟩ := open_few (D := D) (slot := slot) (places := ring) (ts := us) (by rw [<- hO]; exact hz2)
 (refine zq ?_; refine zy rfl rfl (bktxns_ok bk B (xo, xc) ts hxn (by omega) (by omega) (by omega)) ?_)
 intro _ _
 have hB2 := hB.add (z := (xo, xc)) f1 f2 f3
 have hTx : ∀ X : List SProp, BookQ bk { B with E := B.E ++ eT ts, P := B.P ++ pT ts, T := B.T ++ [txnsN (xo, xc) ts] } ∈ X -> RdTxns W X xo ts := fun X m => BookQ.txns (z := (xo, xc)) m (fun e he => List.mem_append_right _ he) (fun e he => List.mem_append_right _ he) (List.mem_append_right _ (.head _)) hxn htok
 generalize ({ B with E := B.E ++ eT ts, P := B.P ++ pT ts, T := B.T ++ [txnsN (xo, xc) ts] } : Bk) = B2 at hB2 hTx ⊢
 have hd1 : ∀ t ∈ ts, t.pats.length <= 140737488351232 /\ ∀ p ∈ t.pats, p.d.data.length <= maxLen := fun t ht => ⟨Nat.le_trans (f3 t ht).1 (by decide), fun p hp => by rw [(f3 t ht).2 p hp]; decide⟩
 refine w ?_
 (first | refine VO.gF rfl rfl rfl (by simp) ?_ | refine VD.gF rfl rfl rfl (by simp) ?_)
 refine w ?_
 have hst := sametxns_ok (W := W) (R := BookQ bk B2 :: rwalO1 zw c O.1.1.1 :: RBayR c O.2 :: TxnsO (uo, uc) us :: PilT us :: walO1 yw b O.1.1.1 :: BayR b O.2 :: pairRow p b c o slot ring :: R) (ac := xc) (bc := uc) (hTx _ (.head _)) (RdTxns.own (x := (uo, uc)) hun huok (.tail _ (.tail _ (.tail _ (.head _)))) (.tail _ (.tail _ (.tail _ (.tail _ (.head _)))))) (by omega) hd1
 rw [decide_eq_true (hy2.trans hz2.symm)] at hst
 (refine zq ?_; refine zy rfl rfl (hst) ?_)
 intro _ _
 refine w ?_
 (refine VC.condFe rfl rfl (by cases yw <;> cases zw <;> first | rfl | (rw [<- hz1] at hy1; cases hy1)) ?_)
 refine w ?_
 obtain ⟨j1, j2, j3⟩ := joinJ_d hy1 hz1
 refine VE.done (joinJ yw zw O.1.1.1, B2) rfl ⟨j1, hB2⟩ rfl ?_
 dsimp only
 unfold pairRow
 rw [j2, j3]
 refine Ent.trans (Ent.re (L := walO1 yw b O.1.1.1 :: rwalO1 zw c O.1.1.1 :: Row p 35 [.pointer (some ⟨b, 0, none⟩), .pointer (some ⟨c, 0, none⟩), ptrO yw, ptrO zw, .int .i64 slot, .int .i64 ring] :: BayR b O.2 :: RBayR c O.2 :: BookQ bk B2 :: R)) ?_
 exact Ent.trans (joinJ_in hy1 hz1) Ent.re
theorem memFront {X : SProp} {H : List SProp} (m : X ∈ H) : ∃ R, Ent W H (X :: R) /\ Ent W (X :: R) H := by
 obtain ⟨R, p⟩ := mem_perm m
 exact ⟨R, fun w hw => hw.perm p, fun w hw => hw.perm p.symm⟩
def PatE.lend (p : PatE) (e : Addr × Nat) : PatE := ⟨p.member, p.row, ⟨some e.1, e.2, p.d.data⟩⟩
theorem lent_rds {H : List SProp} {a : Addr} {cap : Nat} {l : List UInt8} (m : LentO a cap l ∈ H) : Rds W H 1 (some a) l.length (bytes l) := by
 obtain ⟨R, h1, -⟩ := memFront (W := W) m
 exact LentO.rds.ent h1
theorem whole_mem {H : List SProp} {ao : Option Addr} {a : Addr} {cap cap2 : Nat} {l : List UInt8} (hb : RdsA W 1 ao l.length (bytes l)) (hl : l.length <= 1000000000) (m : LentO a cap l ∈ H) :
  Does1 W Tryz.prog 114 [.slice (some a) l.length cap, .slice ao l.length cap2] H (.bool true) H := by
 obtain ⟨R, h1, h2⟩ := memFront (W := W) m
 exact Does1P (DoesE h1 (whole_ok hb hl)) h2
def lentP (l : List PatE) (es : List (Addr × Nat)) : List PatE := List.zipWith PatE.lend l es
def lentPR (l : List PatE) (es : List (Addr × Nat)) : List SProp := List.zipWith (fun p e => LentO e.1 e.2 p.d.data) l es
def markP : PatE := ⟨-77, 0, ⟨none, 0, []⟩⟩
theorem zipPush {α β γ : Type} (f : α -> β -> γ) : ∀ (l : List α) (es : List β) (e : β) (h : es.length < l.length), List.zipWith f l (es ++ [e]) = List.zipWith f l es ++ [f l[es.length] e]
  | [], es, e, h => absurd h (by simp)
  | a :: r, [], e, _ => by simp
  | a :: r, x :: es, e, h => by
    simp only [List.cons_append, List.zipWith_cons_cons, List.length_cons, List.getElem_cons_succ]
    rw [zipPush f r es e (by simpa using h)]
theorem lentP_length {l : List PatE} {es : List (Addr × Nat)} (h : es.length = l.length) : (lentP l es).length = l.length := by simp [lentP, h]
theorem lentP_get {l : List PatE} {es : List (Addr × Nat)} (h : es.length = l.length) (i : Nat) (hi : i < l.length) : (lentP l es)[i]'(by rw [lentP_length h]; exact hi) = l[i].lend (es[i]'(by omega)) := by simp [lentP]
theorem lentPR_length {l : List PatE} {es : List (Addr × Nat)} (h : es.length = l.length) : (lentPR l es).length = l.length := by simp [lentPR, h]
theorem lentPR_get {l : List PatE} {es : List (Addr × Nat)} (h : es.length = l.length) (i : Nat) (hi : i < l.length) : (lentPR l es)[i]'(by rw [lentPR_length h]; exact hi) = LentO (es[i]'(by omega)).1 (es[i]'(by omega)).2 l[i].d.data := by simp [lentPR]
theorem lentPR_mem {l : List PatE} {es : List (Addr × Nat)} (h : es.length = l.length) (i : Nat) (hi : i < l.length) : LentO (es[i]'(by omega)).1 (es[i]'(by omega)).2 l[i].d.data ∈ lentPR l es := by
 rw [<- lentPR_get h i hi]; exact List.getElem_mem _
theorem lentP_D {l : List PatE} {es : List (Addr × Nat)} (h : es.length = l.length) : (lentP l es).map PatE.D = l.map PatE.D := by
 refine List.ext_getElem (by rw [List.length_map, List.length_map, lentP_length h]) fun i h1 h2 => ?_
 have hi : i < l.length := by simpa using h2
 rw [List.getElem_map, List.getElem_map, lentP_get h i hi]; rfl
theorem patCells_push (l : List PatE) (p : PatE) : patCells (l ++ [p]) = patCells l ++ p.cells := by unfold patCells; rw [List.flatMap_append]; simp
structure PatsA (W : World) (ao : Option Addr) (l : List PatE) : Prop where
  rd : ∀ R, RdPats W R ao l
  len : l.length <= 1000000
  data : ∀ p ∈ l, p.d.data.length <= 1000000000
theorem PatsA.bytes {ao : Option Addr} {l : List PatE} (h : PatsA W ao l) : ∀ p ∈ l, RdsA W 1 p.d.ao p.d.data.length (bytes p.d.data) := fun p hp R => (h.rd R).each p hp
abbrev LentPs (l : List PatE) (es : List (Addr × Nat)) (a : Addr) (cap : Nat) : SProp := Sl.Own 70 3 (.slice (some a) (l.length + 2) cap) (l.length + 2) (patCells (lentP l es ++ [markP, markP]))
theorem lentpats_ok {ao : Option Addr} {cap : Nat} {l : List PatE} (hP : PatsA W ao l) :
  Does W Tryz.prog 49 [.slice ao l.length cap] R (β := List (Addr × Nat) × Addr × Nat) (fun x => x.1.length = l.length) (fun x => .slice (some x.2.1) l.length x.2.2)
   (fun x => LentPs l x.1 x.2.1 x.2.2 :: (lentPR l x.1 ++ R)) := by
 have hl := hP.len
 (refine Does.enter Tryz.func49 Tryz.ntmps49 rfl rfl ?_)
 refine w ?_
 refine VO.re 8 (.int .i64 ((l.length + 2 : Nat) : Int)) rfl (by congr 1) ?_
 refine zq ?_
 refine OpV.makeCap (m := l.length + 2) st_58 rfl rfl (by omega) (by simp only [maxLen]; omega) rfl ?_
 intro nb
 refine w ?_
 refine VC.loop (α := List (Addr × Nat) × Option Addr × Nat) (fun y => y.1.length <= l.length) (fun y => Sl.Own 70 3 (.slice y.2.1 y.1.length y.2.2) y.1.length (patCells (lentP l y.1)) :: (lentPR l y.1 ++ R))
  (fun y => [(0, .slice ao l.length cap), (3, .slice y.2.1 y.1.length y.2.2), (4, .int .i64 y.1.length)]) (fun y => l.length - y.1.length) rfl ([], some ⟨nb, 0, none⟩, l.length + 2) (Nat.zero_le _) (by simp only [lentP, lentPR, List.zipWith_nil_right]; exact Ent.refl) ⟨rfl, rfl, rfl, trivial⟩ ?_
 rintro ⟨es, so, sc⟩ hi
 dsimp only at hi ⊢
 refine w ?_
 refine zk ?_ ?_ <;> intro hc
 ·
  have hlt : es.length < l.length := by have := of_decide_eq_true hc; omega
  obtain ⟨la, rfl⟩ : ∃ x, ao = some x := by cases ao with | none => have := (hP.rd []).rds.nil rfl; omega | some x => exact ⟨x, rfl⟩
  have hst := hP.bytes _ (List.getElem_mem hlt)
  have hsl := hP.data _ (List.getElem_mem hlt)
  refine w ?_
  (refine VC.drawn [16, 18] 19 [0, 1, 2, 3, 4, 5, 6, 7, 8, 9, 10, 11, 12, 13, 14, 15, 16, 17, 18, 19, 20] _ rfl (by kernel_rfl) (by kernel_rfl) Ent.re ?_)
  refine w ?_
  ((first | apply VO.pure rfl rfl | apply VQ.pure rfl rfl | apply VD.take rfl rfl rfl | (refine VD.end rfl rfl rfl ?_; apply OpV.pure)); exact PureAt.ldRc tab_ok rfl rfl (hP.rd _).rds (pat_get l es.length 0 hlt (by decide)); rfl)
  refine w ?_
  ((first | apply VO.pure rfl rfl | apply VQ.pure rfl rfl | apply VD.take rfl rfl rfl | (refine VD.end rfl rfl rfl ?_; apply OpV.pure)); exact PureAt.ldRc tab_ok rfl rfl (hP.rd _).rds (pat_get l es.length 1 hlt (by decide)); rfl)
  refine w ?_
  ((first | apply VO.pure rfl rfl | apply VQ.pure rfl rfl | apply VD.take rfl rfl rfl | (refine VD.end rfl rfl rfl ?_; apply OpV.pure)); exact PureAt.ldRc tab_ok rfl rfl (hP.rd _).rds (pat_get l es.length 2 hlt (by decide)); rfl)
  refine w ?_
  (refine zq ?_; refine zy rfl rfl (lent_ok hst hsl) ?_)
  rintro e _
  refine w ?_
  ((first | apply VO.pure rfl rfl | apply VQ.pure rfl rfl | apply VD.take rfl rfl rfl | (refine VD.end rfl rfl rfl ?_; apply OpV.pure)); exact PureAt.build sb_70 rfl (by simp [buildX, setL, Value.cells]; rfl); rfl)
  refine zq ?_
  refine OpV.buildSlice (cs := PatE.cells (l[es.length].lend e)) st_58 rfl rfl (by simp [Value.cells]) (by simp [Value.cells, PatE.lend]) (by decide) rfl ?_
  intro nc
  refine w ?_
  refine zq ?_
  refine OpV.appendRow st_58 rfl rfl zh zm rfl (pat_one _) ?_ ?_ rfl ?_
  · simp only [maxLen]; omega
  · omega
  intro so' sc'
  refine w ?_
  refine VE.round (es ++ [e], so', sc') (by simp only [List.length_append, List.length_singleton]; omega) (by simp only [List.length_append, List.length_singleton]; omega) ⟨rfl, asV rfl (by simp), asV rfl (by simp), trivial⟩ ?_
  dsimp only
  rw [show lentP l (es ++ [e]) = _ from zipPush _ l es e hlt, show lentPR l (es ++ [e]) = _ from zipPush _ l es e hlt, patCells_push, List.length_append, List.length_singleton]
  refine Ent.trans (Ent.re (L := Sl.Own 70 3 (.slice so' (es.length + 1) sc') (es.length + 1) (patCells (lentP l es) ++ PatE.cells (l[es.length].lend e)) :: LentO e.1 e.2 (l[es.length]).d.data :: (lentPR l es ++ R))) (fun w hw => ?_)
  rw [List.append_assoc]
  exact hw.perm (List.Perm.cons _ List.perm_middle.symm)
 ·
  have hge : es.length = l.length := by have := of_decide_eq_false hc; omega
  rw [hge]
  refine w ?_
  (apply VO.pure rfl rfl; apply PureAt.build sb_70 rfl; (simp [buildX, setL, Value.cells]; rfl); rfl)
  (apply VO.pure rfl rfl; apply PureAt.build sb_70 rfl; (simp [buildX, setL, Value.cells]; rfl); rfl)
  refine zq ?_
  refine OpV.buildSlice (cs := markP.cells ++ markP.cells) st_58 rfl rfl (by simp [Value.cells]) (by simp [Value.cells, markP]) (by decide) rfl ?_
  intro nc
  refine zq ?_
  refine OpV.appendRow st_58 rfl rfl zh zm rfl (by simp [Value.oneCell']) ?_ ?_ rfl ?_
  · simp only [maxLen]; omega
  · omega
  intro so' sc'
  refine VO.know (p := so' = none -> l.length + 2 = 0) (fun w hw => Holds.ownNone hw zm) ?_
  intro hnn
  refine VO.know (p := l.length + 2 <= sc') (fun w hw => Holds.ownCap hw zm) ?_
  intro hcc
  obtain ⟨sa, rfl⟩ : ∃ x, so' = some x := by cases so' with | none => have := hnn rfl; omega | some x => exact ⟨x, rfl⟩
  refine w ?_
  refine VE.done (es, sa, sc') rfl hge rfl ?_
  dsimp only
  rw [LentPs, show lentP l es ++ [markP, markP] = (lentP l es ++ [markP]) ++ [markP] by simp, patCells_push, patCells_push, List.append_assoc]
  exact Ent.re
theorem lentp_get {l : List PatE} {es : List (Addr × Nat)} (h : es.length = l.length) (i : Nat) (hi : i < l.length) : (lentP l es ++ [markP, markP])[i]'(by rw [List.length_append, lentP_length h]; omega) = l[i].lend (es[i]'(by omega)) := by
 rw [List.getElem_append_left (by rw [lentP_length h]; exact hi), lentP_get h i hi]
theorem lentp_mark {l : List PatE} {es : List (Addr × Nat)} (h : es.length = l.length) (i : Nat) (h1 : l.length <= i) (hi : i < l.length + 2) : (lentP l es ++ [markP, markP])[i]'(by rw [List.length_append, lentP_length h]; exact hi) = markP := by
 rw [List.getElem_append_right (by rw [lentP_length h]; exact h1)]
 obtain q | q : i - (lentP l es).length = 0 \/ i - (lentP l es).length = 1 := by rw [lentP_length h]; omega
 · simp only [q]; rfl
 · simp only [q]; rfl
theorem lentp_len {l : List PatE} {es : List (Addr × Nat)} (h : es.length = l.length) : (lentP l es ++ [markP, markP]).length = l.length + 2 := by rw [List.length_append, lentP_length h]; rfl
theorem lentp_rds {H : List SProp} {l : List PatE} {es : List (Addr × Nat)} {a : Addr} {cap : Nat} (h : es.length = l.length) (m : LentPs l es a cap ∈ H) : Rds W H 3 (some a) (l.length + 2) (patCells (lentP l es ++ [markP, markP])) := Rds.own (pats_one _) m (by rw [pats_len, lentp_len h]) (fun h => by cases h)
theorem lentp_cap {W w : World} {R : List SProp} {l : List PatE} {es : List (Addr × Nat)} (h : es.length = l.length) (hw : Holds W (lentPR l es ++ R) w) : ∀ (i : Nat) (hi : i < l.length), l[i].d.data.length <= (es[i]'(by omega)).2 := fun i hi => by
 have := Holds.ownCap hw (List.mem_append_left _ (lentPR_mem h i hi))
 omega
theorem lentp_pats {H : List SProp} {l : List PatE} {es : List (Addr × Nat)} {a : Addr} {cap : Nat} (h : es.length = l.length) (m : LentPs l es a cap ∈ H) (hR : ∀ x ∈ lentPR l es, x ∈ H) (hc : ∀ (i : Nat) (hi : i < l.length), l[i].d.data.length <= (es[i]'(by omega)).2) : RdPats W H (some a) (lentP l es) where
 rds := by
  have := Rds.take (W := W) (l := l.length) (lentp_rds h m) (by omega)
  rw [show l.length * 3 = (patCells (lentP l es)).length by rw [pats_len, lentP_length h], show patCells (lentP l es ++ [markP, markP]) = patCells (lentP l es) ++ patCells [markP, markP] by unfold patCells; rw [List.flatMap_append], List.take_left] at this
  rw [lentP_length h]; exact this
 each := fun b hb => by
  obtain ⟨i, hi, rfl⟩ := List.mem_iff_getElem.1 hb
  have hi2 : i < l.length := by rw [lentP_length h] at hi; exact hi
  rw [lentP_get h i hi2]
  exact lent_rds (hR _ (lentPR_mem h i hi2))
 ok := fun b hb => by
  obtain ⟨i, hi, rfl⟩ := List.mem_iff_getElem.1 hb
  have hi2 : i < l.length := by rw [lentP_length h] at hi; exact hi
  rw [lentP_get h i hi2]
  exact ⟨fun q => (by cases q), hc i hi2⟩
theorem wholepats_ok {ao : Option Addr} {a : Addr} {cap cap2 : Nat} {l : List PatE} (es : List (Addr × Nat)) (hes : es.length = l.length) (hP : PatsA W ao l) :
  Does1 W Tryz.prog 50 [.slice (some a) l.length cap, .slice ao l.length cap2] (LentPs l es a cap :: (lentPR l es ++ R)) (.bool true) (LentPs l es a cap :: (lentPR l es ++ R)) := by
 have hl := hP.len
 (refine Does.enter Tryz.func50 Tryz.ntmps50 rfl rfl ?_)
 refine VC.know (p := l.length + 2 <= cap) (fun w hw => Holds.ownCap hw (.head _)) ?_
 intro hcc
 refine w ?_
 (first | refine VO.gF rfl rfl rfl (by simp) ?_ | refine VD.gF rfl rfl rfl (by simp) ?_)
 refine w ?_
 (refine VC.condFe rfl rfl (decide_eq_false (by omega)) ?_)
 refine w ?_
 refine VC.loop (α := Nat) (fun i => l.length <= i /\ i <= l.length + 2) (fun _ => LentPs l es a cap :: (lentPR l es ++ R)) (fun i => [(0, .slice (some a) l.length cap), (1, .slice ao l.length cap2), (5, .slice (some a) (l.length + 2) cap), (6, .int .i64 i)]) (fun i => l.length + 2 - i) rfl l.length ⟨Nat.le_refl _, by omega⟩ Ent.refl ⟨rfl, rfl, rfl, rfl, trivial⟩ ?_
 rintro i ⟨hi1, hi2⟩
 refine w ?_
 refine zk ?_ ?_ <;> intro hc
 ·
  have hlt : i < l.length + 2 := by have := of_decide_eq_true hc; omega
  have hll : i < (lentP l es ++ [markP, markP]).length := by rw [lentp_len hes]; omega
  have hmk := lentp_mark hes i hi1 hlt
  refine w ?_
  ((first | apply VO.pure rfl rfl | apply VQ.pure rfl rfl | apply VD.take rfl rfl rfl | (refine VD.end rfl rfl rfl ?_; apply OpV.pure)); exact PureAt.ldRc tab_ok rfl rfl (lentp_rds hes (.head _)) ((pat_get _ i 0 hll (by decide)).trans (show _ = some (.int .i64 (-77)) by rw [hmk]; rfl)); rfl)
  refine w ?_
  ((first | apply VO.pure rfl rfl | apply VQ.pure rfl rfl | apply VD.take rfl rfl rfl | (refine VD.end rfl rfl rfl ?_; apply OpV.pure)); exact PureAt.ldRc tab_ok rfl rfl (lentp_rds hes (.head _)) ((pat_get _ i 1 hll (by decide)).trans (show _ = some (.int .i64 0) by rw [hmk]; rfl)); rfl)
  refine w ?_
  ((first | apply VO.pure rfl rfl | apply VQ.pure rfl rfl | apply VD.take rfl rfl rfl | (refine VD.end rfl rfl rfl ?_; apply OpV.pure)); exact PureAt.ldRc tab_ok rfl rfl (lentp_rds hes (.head _)) ((pat_get _ i 2 hll (by decide)).trans (show _ = some (.slice none 0 0) by rw [hmk]; rfl)); rfl)
  refine w ?_
  refine VE.round (i + 1) ⟨by omega, by omega⟩ (by omega) ⟨rfl, rfl, rfl, asV rfl (by congr 1), trivial⟩ Ent.refl
 have hge : i = l.length + 2 := by have := of_decide_eq_false hc; omega
 clear hc
 refine w ?_
 refine VC.know (fun w hw => lentp_cap hes hw.tail) ?_
 intro hcap
 refine VC.loop (α := Nat) (fun i => i <= l.length) (fun _ => LentPs l es a cap :: (lentPR l es ++ R)) (fun i => [(0, .slice (some a) l.length cap), (1, .slice ao l.length cap2), (7, .int .i64 i)]) (fun i => l.length - i) rfl 0 (Nat.zero_le _) Ent.refl ⟨rfl, rfl, rfl, trivial⟩ ?_
 intro i hi
 refine w ?_
 refine zk ?_ ?_ <;> intro hc
 ·
  have hlt : i < l.length := by have := of_decide_eq_true hc; omega
  obtain ⟨la, rfl⟩ : ∃ x, ao = some x := by cases ao with | none => have := (hP.rd []).rds.nil rfl; omega | some x => exact ⟨x, rfl⟩
  have hlg := lentp_get hes i hlt
  have hll : i < (lentP l es ++ [markP, markP]).length := by rw [lentp_len hes]; omega
  have hst := hP.bytes _ (List.getElem_mem hlt)
  have hsl := hP.data _ (List.getElem_mem hlt)
  refine w ?_
  (refine VC.drawn [] 35 [0, 1, 2, 3, 4, 5, 6, 7, 8, 9, 10, 11, 12, 13, 14, 15, 16, 17, 18, 19, 20, 21, 22, 23, 24, 25, 26, 27, 28, 29, 30, 31, 32, 33, 34, 35, 36, 37] _ rfl (by kernel_rfl) (by kernel_rfl) Ent.re ?_)
  refine w ?_
  ((first | apply VO.pure rfl rfl | apply VQ.pure rfl rfl | apply VD.take rfl rfl rfl | (refine VD.end rfl rfl rfl ?_; apply OpV.pure)); exact PureAt.ldRc tab_ok rfl rfl (lentp_rds hes (.head _)) ((pat_get _ i 0 hll (by decide)).trans (show _ = some (.int .i64 l[i].member) by rw [hlg]; rfl)); rfl)
  refine w ?_
  ((first | apply VO.pure rfl rfl | apply VQ.pure rfl rfl | apply VD.take rfl rfl rfl | (refine VD.end rfl rfl rfl ?_; apply OpV.pure)); exact PureAt.ldRc tab_ok rfl rfl (hP.rd _).rds (pat_get l i 0 hlt (by decide)); rfl)
  refine w ?_
  (first | refine VO.gF rfl rfl rfl (by simp) ?_ | refine VD.gF rfl rfl rfl (by simp) ?_)
  refine w ?_
  ((first | apply VO.pure rfl rfl | apply VQ.pure rfl rfl | apply VD.take rfl rfl rfl | (refine VD.end rfl rfl rfl ?_; apply OpV.pure)); exact PureAt.ldRc tab_ok rfl rfl (lentp_rds hes (.head _)) ((pat_get _ i 1 hll (by decide)).trans (show _ = some (.int .i64 l[i].row) by rw [hlg]; rfl)); rfl)
  refine w ?_
  ((first | apply VO.pure rfl rfl | apply VQ.pure rfl rfl | apply VD.take rfl rfl rfl | (refine VD.end rfl rfl rfl ?_; apply OpV.pure)); exact PureAt.ldRc tab_ok rfl rfl (hP.rd _).rds (pat_get l i 1 hlt (by decide)); rfl)
  refine w ?_
  (first | refine VO.gF rfl rfl rfl (by simp) ?_ | refine VD.gF rfl rfl rfl (by simp) ?_)
  refine w ?_
  ((first | apply VO.pure rfl rfl | apply VQ.pure rfl rfl | apply VD.take rfl rfl rfl | (refine VD.end rfl rfl rfl ?_; apply OpV.pure)); exact PureAt.ldRc tab_ok rfl rfl (lentp_rds hes (.head _)) ((pat_get _ i 2 hll (by decide)).trans (show _ = some (.slice (some (es[i]'(by omega)).1) l[i].d.data.length (es[i]'(by omega)).2) by rw [hlg]; rfl)); rfl)
  refine w ?_
  ((first | apply VO.pure rfl rfl | apply VQ.pure rfl rfl | apply VD.take rfl rfl rfl | (refine VD.end rfl rfl rfl ?_; apply OpV.pure)); exact PureAt.ldRc tab_ok rfl rfl (hP.rd _).rds (pat_get l i 2 hlt (by decide)); rfl)
  refine w ?_
  (refine zq ?_; refine zy rfl rfl (whole_mem hst hsl (.tail _ (List.mem_append_left _ (lentPR_mem hes i hlt)))) ?_; intro _ _)
  refine w ?_
  exact VE.round (i + 1) (by omega) (by omega) ⟨rfl, rfl, asV rfl (by congr 1), trivial⟩ Ent.refl
 ·
  refine w ?_
  refine VE.done1 rfl ?_ ?_
  · rfl
  · exact Ent.refl
theorem ownFullN {W w : World} {R : List SProp} {e m cap sz : Nat} {a : Addr} {xs : List Value} (hw : Holds W (Sl.Own e sz (.slice (some a) m cap) m xs :: R) w) : ∃ ys : { ys : List Value // ys.length = cap * sz /\ cap <= maxLen }, Holds W (Sl.Own e sz (.slice (some a) cap cap) cap ys.1 :: R) w := by
 obtain ⟨hl, hv⟩ := hw.ownOpen
 rcases hv with ⟨he, rfl, hR⟩ | ⟨b, cap0, spare, he, hn, hm, hc, hR⟩
 · cases he
 ·
  cases he
  refine ⟨⟨xs ++ spare, hc, hm⟩, ?_⟩
  exact Holds.ownShut (spare := []) hc (Nat.le_refl _) hm (by rw [List.append_nil]; exact hc) (by rw [List.append_nil]; exact hR)
theorem spoilpats_ok {a : Addr} {cap : Nat} {l : List PatE} (es : List (Addr × Nat)) (hes : es.length = l.length) (hl : l.length <= 1000000) :
  Does1 W Tryz.prog 51 [.slice (some a) l.length cap] (LentPs l es a cap :: (lentPR l es ++ R)) (.tuple #[]) R := by
 (refine Does.enter Tryz.func51 Tryz.ntmps51 rfl rfl ?_)
 refine VC.know (p := l.length + 2 <= cap) (fun w hw => Holds.ownCap hw (.head _)) ?_
 intro hcc
 refine VC.know (fun w hw => lentp_cap hes hw.tail) ?_
 intro hcap
 refine w ?_
 refine VC.loop (α := Nat) (fun i => i <= l.length) (fun i => LentPs l es a cap :: ((lentPR l es).drop i ++ R)) (fun i => [(0, .slice (some a) l.length cap), (2, .int .i64 i)]) (fun i => l.length - i) rfl 0 (Nat.zero_le _) Ent.refl ⟨rfl, rfl, trivial⟩ ?_
 intro i hi
 refine w ?_
 refine zk ?_ ?_ <;> intro hc
 ·
  have hlt : i < l.length := by have := of_decide_eq_true hc; omega
  have hlg := lentp_get hes i hlt
  have hll : i < (lentP l es ++ [markP, markP]).length := by rw [lentp_len hes]; omega
  have hcpi := hcap i hlt
  have hd : (lentPR l es).drop i = LentO (es[i]'(by omega)).1 (es[i]'(by omega)).2 l[i].d.data :: (lentPR l es).drop (i + 1) := by
   rw [List.drop_eq_getElem_cons (by rw [lentPR_length hes]; exact hlt), lentPR_get hes i hlt]
  refine w ?_
  refine VO.pure rfl rfl (PureAt.ldRc tab_ok rfl rfl (lentp_rds hes (.head _)) ((pat_get _ i 2 hll (by decide)).trans (show _ = some (.slice (some (es[i]'(by omega)).1) l[i].d.data.length (es[i]'(by omega)).2) by rw [hlg]; rfl))) rfl ?_
  rw [hd]
  refine w ?_
  (refine zq ?_; refine zd rfl rfl (spoil_ok (R := LentPs l es a cap :: ((lentPR l es).drop (i + 1) ++ R)) (m := l[i].d.data.length + 2) (xs := lentV l[i].d.data) hcpi) ?_)
  intro _ _
  refine w ?_
  exact VE.round (i + 1) (by omega) (by omega) ⟨rfl, asV rfl (by congr 1), trivial⟩ Ent.refl
 have hge : i = l.length := by have := of_decide_eq_false hc; omega
 rw [hge, List.drop_of_length_le (by rw [lentPR_length hes]; exact Nat.le_refl _), List.nil_append]
 refine VC.obtain (fun w => ownFullN) ?_
 rintro ⟨ys, hy, hcm⟩
 dsimp only
 simp only [maxLen] at hcm
 refine w ?_
 refine VC.loop (α := Nat × List Value) (fun g => g.1 <= cap /\ g.2.length = cap * 3) (fun g => Sl.Own 70 3 (.slice (some a) cap cap) cap g.2 :: R)
  (fun g => [(3, .slice (some a) cap cap), (4, .int .i64 g.1)]) (fun g => cap - g.1) rfl (0, ys) ⟨Nat.zero_le _, hy⟩ Ent.refl ⟨rfl, rfl, trivial⟩ ?_
 rintro ⟨k, zs⟩ ⟨hk, hz⟩
 dsimp only at hk hz ⊢
 refine w ?_
 refine zk ?_ ?_ <;> intro hc
 ·
  have hlt : k < cap := by have := of_decide_eq_true hc; omega
  refine w ?_
  (apply VO.pure rfl rfl; apply PureAt.build sb_70 rfl; (simp [buildX, setL, Value.cells]; rfl); rfl)
  refine w ?_
  refine zq ?_
  refine OpV.stOA (vs := PatE.cells ⟨-77, 0, ⟨none, 0, []⟩⟩) tab_ok rfl rfl rfl rfl (pat_one _) .head (by omega) ?_
  refine w ?_
  exact VE.round (k + 1, _) ⟨hlt, by simp only [List.length_append, List.length_take, List.length_drop, List.length_cons, List.length_nil]; omega⟩ (by simp only; omega) ⟨rfl, asV rfl (by congr 1), trivial⟩ Ent.refl
 ·
  refine w ?_
  (refine VE.done1N rfl ?_ ?_)
  · rfl
  · exact Ent.drop Ent.refl
def LentA (l : List PatE) (es : List (Addr × Nat)) (a : Addr) (cap : Nat) : SProp := Sl.star (LentPs l es a cap :: lentPR l es)
structure Lent (l : List PatE) (es : List (Addr × Nat)) : Prop where
  len : es.length = l.length
  cap : ∀ (i : Nat) (hi : i < l.length), l[i].d.data.length <= (es[i]'(by omega)).2
theorem lentpatsA_ok {ao : Option Addr} {cap : Nat} {l : List PatE} (hP : PatsA W ao l) :
  Does W Tryz.prog 49 [.slice ao l.length cap] R (β := List (Addr × Nat) × Addr × Nat) (fun x => Lent l x.1) (fun x => .slice (some x.2.1) l.length x.2.2) (fun x => [LentA l x.1 x.2.1 x.2.2] ++ R) := by
 have h := DoesA (B := fun x : List (Addr × Nat) × Addr × Nat => Lent l x.1) (lentpats_ok (R := R) (cap := cap) hP) (fun x hx w hw => ⟨hx, lentp_cap hx hw.tail⟩)
 exact Does.mono h (fun x => x) (fun _ h => h) (fun _ _ => rfl) (fun x _ => fun w hw => Holds.nest (L := LentPs l x.1 x.2.1 x.2.2 :: lentPR l x.1) hw)
theorem Lent.rd {H : List SProp} {l : List PatE} {es : List (Addr × Nat)} {a : Addr} {cap : Nat} (h : Lent l es) (m : LentA l es a cap ∈ H) : RdPats W H (some a) (lentP l es) := by
 have key : ∀ R, RdPats W ((LentPs l es a cap :: lentPR l es) ++ R) (some a) (lentP l es) := fun R => lentp_pats h.len (.head _) (fun x hx => .tail _ (List.mem_append_left _ hx)) h.cap
 exact ⟨Rds.star m fun R => (key R).rds, fun p hp => Rds.star m fun R => (key R).each p hp, (key []).ok⟩
theorem Lent.fit {l : List PatE} {es : List (Addr × Nat)} (h : Lent l es) (hf : ∀ p ∈ l, p.fit) : ∀ p ∈ lentP l es, p.fit := fun p hp => by
 obtain ⟨i, hi, rfl⟩ := List.mem_iff_getElem.1 hp
 have hi2 : i < l.length := by rw [lentP_length h.len] at hi; exact hi
 rw [lentP_get h.len i hi2]
 exact hf _ (List.getElem_mem hi2) |> fun q => ⟨q.member, q.row, q.len⟩
theorem wholepatsA_ok {ao : Option Addr} {a : Addr} {cap cap2 : Nat} {l : List PatE} {es : List (Addr × Nat)} (h : Lent l es) (hP : PatsA W ao l) :
  Does1 W Tryz.prog 50 [.slice (some a) l.length cap, .slice ao l.length cap2] (LentA l es a cap :: R) (.bool true) (LentA l es a cap :: R) :=
 Does1P (DoesE (fun w hw => hw.join) (wholepats_ok (R := R) es h.len hP)) (fun w hw => Holds.nest (L := LentPs l es a cap :: lentPR l es) hw)
theorem spoilpatsA_ok {a : Addr} {cap : Nat} {l : List PatE} {es : List (Addr × Nat)} (h : Lent l es) (hl : l.length <= 1000000) :
  Does1 W Tryz.prog 51 [.slice (some a) l.length cap] (LentA l es a cap :: R) (.tuple #[]) R :=
 DoesE (fun w hw => hw.join) (spoilpats_ok (R := R) es h.len hl)
theorem BkT.mono {B : Bk} {k k' : Nat} (h : BkT B k) (hk : k <= k') : BkT B k' := ⟨by have := h.E; omega, h.F, by have := h.P; omega, by have := h.T; omega, h.e, h.p, h.t⟩
theorem bReads_capd : ∀ (L : List Int) {D : BayD} {c : Nat} (slot : Int) (acc : List UInt8), D.capd c -> (bReads D slot L acc).2.capd c
  | [], D, c, slot, acc, h => h
  | a :: r, D, c, slot, acc, h => by
    unfold bReads
    split
    · exact read_capd h _ _
    · exact bReads_capd r slot _ (read_capd h _ _)
theorem wOpen_capd {D : BayD} {c : Nat} (h : D.capd c) (slot places : Int) : (wOpen D slot places).2.capd c := by
 have h1 := read_capd h slot 1
 have h2 := bReads_capd (ringL places.toNat) slot [] h1
 unfold wOpen
 split
 · exact h
 ·
  split
  · exact h1
  ·
   split
   · exact h1
   ·
    split
    · exact h2
    ·
     split
     · exact h2
     · exact h2
structure StJ where
  o : Option WalJ
  D : BayD
  B : Bk
structure StJ.ok (s : StJ) (slot : Int) (c k : Nat) : Prop where
  sane : s.D.sane
  capd : s.D.capd c
  wal : ∀ j, s.o = some j -> j.d.okk /\ j.d.slot = slot
  book : BkT s.B k
abbrev stMem (p b c bk : Nat) (slot ring : Int) (s : StJ) (R : List SProp) : List SProp := pairRow p b c s.o slot ring :: BayR b s.D :: RBayR c s.D :: walsJ b c s.o :: BookQ bk s.B :: R
theorem jopens_ok {c0 k : Nat} (p b c bk : Nat) (slot ring : Int) (s : StJ) (hs : s.ok slot c0 k) (hc0 : c0 <= 999980000) (hk : k <= 10000) :
  Does W Tryz.prog 18 [.pointer (some ⟨p, 0, none⟩), .pointer (some ⟨bk, 0, none⟩)] (stMem p b c bk slot ring s R) (β := StJ) (fun y => y.ok slot c0 (k + 1)) (fun _ => .bool true) (fun y => stMem p b c bk slot ring y R) := by
 refine DoesK (p := ∀ v, s.D.dev slot = some v -> v.k.ok) (fun w hw => bayOkk hw.tail slot) fun hdk => ?_
 refine Does.mono (lopens_ok (W := W) (R := R) p b c bk s.o slot ring hs.sane hs.capd (by omega) s.B hs.book hk) (fun y => (⟨y.1, (wOpen s.D slot ring).2, y.2⟩ : StJ)) (fun y hy => ⟨wOpen_sane hs.sane _ _, wOpen_capd hs.capd _ _, fun j hj => ?_, hy.2⟩) (fun _ _ => rfl) (fun _ _ => Ent.refl)
 have h1 := hy.1
 rw [show y.1 = some j from hj] at h1
 exact wOpen_okk slot ring hdk h1.symm
def cutK (m : Nat) (x : OpE) : List KeepD := List.replicate m ⟨none, 0, []⟩ ++ [⟨x.y.1, x.y.2, x.keep⟩]
theorem cutK_hdr (m : Nat) (x : OpE) : (cutK m x).map KeepD.hdr = List.replicate m (.slice none 0 0) ++ [.slice x.y.1 x.keep.length x.y.2] := by
 unfold cutK; rw [List.map_append, List.map_replicate]; rfl
theorem ldoes_ok {c0 k : Nat} (p b c bk : Nat) (slot ring : Int) (s : StJ) (x : OpE) (hx : x.wf W) (hxp : x.pats.length <= 5000) (hxd : ∀ p ∈ x.pats, p.d.data.length <= 320063) (hs : s.ok slot c0 k) (hc0 : c0 <= 999980000) (hk : k <= 10000) :
    Does W Tryz.prog 11 [.pointer (some ⟨p, 0, none⟩), .agg x.cells.toArray, .pointer (some ⟨bk, 0, none⟩)] (stMem p b c bk slot ring s R) (β := StJ) (fun y => y.ok slot (c0 + 4100) (k + 1)) (fun _ => .bool true) (fun y => stMem p b c bk slot ring y R) := by
  have hkf := hx.kfit
  have hnf := hx.nfit
  (refine Does.enter Tryz.func11 Tryz.ntmps11 rfl rfl ?_)
  refine w ?_; repeat (refine zj fun _ => ?_; refine w ?_)
  rename_i bo
  refine w ?_; repeat (refine zj fun _ => ?_; refine w ?_)
  refine zk ?_ ?_ <;> intro hc
  · refine w ?_; repeat (refine zj fun _ => ?_; refine w ?_)
    refine VO.ent (Ent.re (L := stMem p b c bk slot ring s (Row bo 61 x.cells :: R))) ?_
    (refine zq ?_; refine zy rfl rfl (jopens_ok p b c bk slot ring s hs hc0 hk) ?_)
    intro y hy
    refine w ?_; repeat (refine zj fun _ => ?_; refine w ?_)
    exact VE.done y rfl ⟨hy.sane, hy.capd.mono (by omega), hy.wal, hy.book⟩ rfl Ent.re
  have k6 : x.kind ≠ 6 := by simpa using hc
  clear hc
  obtain ⟨o, D, B⟩ := s
  obtain ⟨hsane, hcapd, hwal, hbook⟩ := hs
  dsimp only at hsane hcapd hwal hbook ⊢
  have hbk1 := hbook.mono (Nat.le_add_right k 1)
  refine w ?_; repeat (refine zj fun _ => ?_; refine w ?_)
  refine zk ?_ ?_ <;> intro hc
  · refine w ?_; repeat (refine zj fun _ => ?_; refine w ?_)
    (refine VC.drawn [6] 13 [0, 1, 2, 3, 4, 5, 7, 8, 9, 10, 11, 12, 6, 13, 14, 15] [pairRow p b c o slot ring, Row bo 61 x.cells] rfl (by kernel_rfl) (by kernel_rfl) Ent.re ?_)
    refine w ?_; repeat (refine zj fun _ => ?_; refine w ?_)
    refine VD.ent (H' := BayR b D :: pairRow p b c o slot ring :: Row bo 61 x.cells :: RBayR c D :: walsJ b c o :: BookQ bk B :: R) Ent.re ?_
    (refine zq ?_; refine zy rfl rfl (baytrip_ok b D x.n) ?_)
    intro _ _
    refine ⟨Ent.re, ?_⟩
    refine w ?_; repeat (refine zj fun _ => ?_; refine w ?_)
    refine VD.ent (H' := RBayR c D :: BayR b (D.trips x.n).2 :: pairRow p b c o slot ring :: Row bo 61 x.cells :: walsJ b c o :: BookQ bk B :: R) Ent.re ?_
    (refine zq ?_; refine zy rfl rfl (rbaytrip_ok c D x.n) ?_)
    intro _ _
    refine w ?_; repeat (refine zj fun _ => ?_; refine w ?_)
    exact VE.done (⟨o, (D.trips x.n).2, B⟩ : StJ) rfl ⟨hsane.trips _, (trips_capd hcapd _).mono (by omega), hwal, hbk1⟩ (by simp) Ent.re
  have k7 : x.kind ≠ 7 := by simpa using hc
  clear hc
  refine w ?_; repeat (refine zj fun _ => ?_; refine w ?_)
  refine zk ?_ ?_ <;> intro hc
  · obtain ⟨m, hm⟩ : ∃ m : Nat, max 0 (min slot 20) = (m : Int) := ⟨(max 0 (min slot 20)).toNat, by omega⟩
    have hm20 : m <= 20 := by omega
    have hkl : (cutK m x).length = m + 1 := by simp [cutK]
    refine w ?_; repeat (refine zj fun _ => ?_; refine w ?_)
    refine VO.re 43 (.int .i64 ((m + 1 : Nat) : Int)) rfl (by congr 1; omega) ?_
    refine zq ?_
    refine OpV.makeSlice1 (m := m + 1) st_50 rfl rfl rfl (by omega) (by simp only [maxLen]; omega) rfl ?_
    intro nk
    refine w ?_; repeat (refine zj fun _ => ?_; refine w ?_)
    refine VO.re 48 (.int .i64 (m : Int)) rfl (by congr 1; omega) ?_
    refine w ?_; repeat (refine zj fun _ => ?_; refine w ?_)
    refine zq ?_
    refine OpV.stO2 (xs' := (cutK m x).map KeepD.hdr) tab_ok rfl rfl rfl rfl zh (by simp) (by rw [cutK_hdr, List.replicate_succ', List.set_append_right _ _ (by simp)]; simp) ?_
    have hrd : ∀ A : List SProp, Sl.Own 59 1 (.slice (some ⟨nk, 0, none⟩) (m + 1) (m + 1)) (m + 1) ((cutK m x).map KeepD.hdr) ∈ A -> Rds W A 1 (some ⟨nk, 0, none⟩) (cutK m x).length ((cutK m x).map KeepD.hdr) := fun A mm => by
      rw [hkl]
      exact Rds.own (fun u hu => by obtain ⟨y, _, rfl⟩ := List.mem_map.1 hu; rfl) mm (by rw [List.length_map, hkl]; omega) (fun h => by cases h)
    have hkb : ∀ y ∈ cutK m x, RdsA W 1 y.ao y.l.length (bools y.l) := fun y hy => by
      rcases List.mem_append.1 hy with q | q
      · rw [(List.mem_replicate.1 q).2]; exact fun R => nilBools
      · rw [List.mem_singleton] at q; subst q; exact hx.keep
    generalize hKp : Sl.Own 59 1 (.slice (some ⟨nk, 0, none⟩) (m + 1) (m + 1)) (m + 1) ((cutK m x).map KeepD.hdr) = Kp at hrd
    generalize hKV : cutK m x = K at hkl hrd hkb
    refine w ?_; repeat (refine zj fun _ => ?_; refine w ?_)
    refine VO.ent (H' := BayR b D :: Kp :: pairRow p b c o slot ring :: RBayR c D :: walsJ b c o :: BookQ bk B :: Row bo 61 x.cells :: R) (by subst hKV; rw [<- hKp]; exact Ent.re) ?_
    have hC1 := baycut_ok (W := W) (R := Kp :: pairRow p b c o slot ring :: RBayR c D :: walsJ b c o :: BookQ bk B :: Row bo 61 x.cells :: R) (cap := m + 1) (ao := some ⟨nk, 0, none⟩) (kl := K) b D ⟨hrd _ (.head _), fun y hy => hkb y hy _⟩
    rw [hkl] at hC1
    (refine zq ?_; refine zy rfl rfl (hC1) ?_)
    intro _ _
    refine w ?_; repeat (refine zj fun _ => ?_; refine w ?_)
    refine VO.ent (H' := RBayR c D :: Kp :: BayR b (D.cut (K.map KeepD.l)) :: pairRow p b c o slot ring :: walsJ b c o :: BookQ bk B :: Row bo 61 x.cells :: R) Ent.re ?_
    have hC2 := rbaycut_ok (W := W) (R := Kp :: BayR b (D.cut (K.map KeepD.l)) :: pairRow p b c o slot ring :: walsJ b c o :: BookQ bk B :: Row bo 61 x.cells :: R) (cap := m + 1) (ao := some ⟨nk, 0, none⟩) (kl := K) c D (hrd _ (.head _)) hkb (fun s hs v hv => Nat.le_trans (hcapd s hs v (.inl hv)) (by omega)) (fun s hs => (hsane.slot s hs).1)
    rw [hkl] at hC2
    (refine zq ?_; refine zy rfl rfl (hC2) ?_)
    intro _ _
    refine w ?_; repeat (refine zj fun _ => ?_; refine w ?_)
    refine VO.ent (H' := stMem p b c bk slot ring ⟨o, D.cut (K.map KeepD.l), B⟩ (Row bo 61 x.cells :: R)) Ent.re ?_
    (refine zq ?_; refine zy rfl rfl (jopens_ok p b c bk slot ring ⟨o, D.cut (K.map KeepD.l), B⟩ ⟨hsane.cut _, cut_capd hcapd _, hwal, hbook⟩ hc0 hk) ?_)
    intro y hy
    refine w ?_; repeat (refine zj fun _ => ?_; refine w ?_)
    exact VE.done y rfl ⟨hy.sane, hy.capd.mono (by omega), hy.wal, hy.book⟩ rfl Ent.re
  have k8 : x.kind ≠ 8 := by simpa using hc
  clear hc
  refine w ?_; repeat (refine zj fun _ => ?_; refine w ?_)
  refine zk ?_ ?_ <;> intro hc
  · refine w ?_; repeat (refine zj fun _ => ?_; refine w ?_)
    (refine VC.drawn [8] 17 [0, 1, 2, 3, 4, 5, 6, 7, 9, 10, 11, 12, 13, 14, 15, 16, 8, 17, 18, 19] [pairRow p b c o slot ring] rfl (by kernel_rfl) (by kernel_rfl) Ent.re ?_)
    refine w ?_; repeat (refine zj fun _ => ?_; refine w ?_)
    refine VD.ent (H' := BayR b D :: pairRow p b c o slot ring :: RBayR c D :: walsJ b c o :: BookQ bk B :: R) Ent.re ?_
    (refine zq ?_; refine zy rfl rfl (bayfail_ok b D slot) ?_)
    intro _ _
    refine ⟨Ent.re, ?_⟩
    refine w ?_; repeat (refine zj fun _ => ?_; refine w ?_)
    refine VD.ent (H' := RBayR c D :: BayR b (D.fail slot).2 :: pairRow p b c o slot ring :: walsJ b c o :: BookQ bk B :: R) Ent.re ?_
    (refine zq ?_; refine zy rfl rfl (rbayfail_ok c D slot) ?_)
    intro _ _
    refine w ?_; repeat (refine zj fun _ => ?_; refine w ?_)
    exact VE.done (⟨o, (D.fail slot).2, B⟩ : StJ) rfl ⟨hsane.fail _, (fail_capd hcapd _).mono (by omega), hwal, hbk1⟩ (by simp) Ent.re
  have k9 : x.kind ≠ 9 := by simpa using hc
  clear hc
  refine w ?_; repeat (refine zj fun _ => ?_; refine w ?_)
  refine zk ?_ ?_ <;> intro hc
  · refine w ?_; repeat (refine zj fun _ => ?_; refine w ?_)
    (refine VC.drawn [10] 21 [0, 1, 2, 3, 4, 5, 6, 7, 8, 9, 11, 12, 13, 14, 15, 16, 17, 18, 19, 20, 10, 21, 22, 23] [pairRow p b c o slot ring, Row bo 61 x.cells] rfl (by kernel_rfl) (by kernel_rfl) Ent.re ?_)
    refine w ?_; repeat (refine zj fun _ => ?_; refine w ?_)
    refine VD.ent (H' := BayR b D :: pairRow p b c o slot ring :: Row bo 61 x.cells :: RBayR c D :: walsJ b c o :: BookQ bk B :: R) Ent.re ?_
    (refine zq ?_; refine zy rfl rfl (baywear_ok b D slot x.n) ?_)
    intro _ _
    refine ⟨Ent.re, ?_⟩
    refine w ?_; repeat (refine zj fun _ => ?_; refine w ?_)
    refine VD.ent (H' := RBayR c D :: BayR b (D.wear slot x.n).2 :: pairRow p b c o slot ring :: Row bo 61 x.cells :: walsJ b c o :: BookQ bk B :: R) Ent.re ?_
    (refine zq ?_; refine zy rfl rfl (rbaywear_ok c D slot x.n) ?_)
    intro _ _
    refine w ?_; repeat (refine zj fun _ => ?_; refine w ?_)
    exact VE.done (⟨o, (D.wear slot x.n).2, B⟩ : StJ) rfl ⟨hsane.wear _ _ hnf.2, (wear_capd hcapd _ _).mono (by omega), hwal, hbk1⟩ (by simp) Ent.re
  have k10 : x.kind ≠ 10 := by simpa using hc
  clear hc
  refine w ?_; repeat (refine zj fun _ => ?_; refine w ?_)
  cases o with
  | none =>
    (refine VC.condTe rfl rfl (rfl) ?_)
    refine w ?_; repeat (refine zj fun _ => ?_; refine w ?_)
    exact VE.done (⟨none, D, B⟩ : StJ) rfl ⟨hsane, hcapd.mono (by omega), hwal, hbk1⟩ rfl Ent.re
  | some j =>
    obtain ⟨hjk, hjs⟩ := hwal j rfl
    (refine VC.condFe rfl rfl (rfl) ?_)
    refine VC.ent (H' := walsJ b c (some j) :: BayR b D :: RBayR c D :: pairRow p b c (some j) slot ring :: BookQ bk B :: Row bo 61 x.cells :: R) Ent.re ?_
    refine VC.ent walsOpen ?_
    have hfin : ∀ (kd : Nat) (ps : List PatD) (S : Int × WS), wDo (j.d, D) kd ps = S -> StJ.ok ⟨some ⟨j.w, j.v, S.2.1⟩, S.2.2, B⟩ slot (c0 + 4100) (k + 1) := fun kd ps S e => by
      subst e
      refine ⟨wDo_sane hsane kd ps, wDo_capd hcapd kd ps, fun i hi => ?_, hbk1⟩
      cases hi
      have := wDo_okk (D := D) hjk kd ps
      exact ⟨this.1, this.2.trans hjs⟩
    have hmem : ∀ (d : WalD) (E : BayD) (X : List SProp), Ent W (WalR j.w b d :: RWalR j.v c d :: BayR b E :: RBayR c E :: pairRow p b c (some j) slot ring :: BookQ bk B :: X) (stMem p b c bk slot ring ⟨some ⟨j.w, j.v, d⟩, E, B⟩ X) := fun d E X =>
      Ent.trans (walsShut (x := ⟨j.w, j.v, d⟩)) (Ent.re (L := pairRow p b c (some j) slot ring :: BayR b E :: RBayR c E :: walsJ b c (some ⟨j.w, j.v, d⟩) :: BookQ bk B :: X))
    refine w ?_; repeat (refine zj fun _ => ?_; refine w ?_)
    refine zk ?_ ?_ <;> intro hc
    · have hkd : x.kind = 1 := by simpa using hc
      clear hc
      have hPA : PatsA W x.x.1 x.pats := ⟨hx.rd, by omega, fun p hp => Nat.le_trans (hxd p hp) (by omega)⟩
      have hy := hfin 1 (x.pats.map PatE.D) _ (rfl : _ = wLog (j.d, D) (x.pats.map PatE.D))
      refine w ?_; repeat (refine zj fun _ => ?_; refine w ?_)
      (refine zq ?_; refine zy rfl rfl (lentpatsA_ok hPA) ?_)
      rintro ⟨es, a, lc⟩ hes
      dsimp only at hes ⊢
      refine VO.ent (H' := WalR j.w b j.d :: BayR b D :: LentA x.pats es a lc :: RWalR j.v c j.d :: RBayR c D :: pairRow p b c (some j) slot ring :: BookQ bk B :: Row bo 61 x.cells :: R) Ent.re ?_
      refine w ?_; repeat (refine zj fun _ => ?_; refine w ?_)
      have hL := wallog_ok (W := W) (R := LentA x.pats es a lc :: RWalR j.v c j.d :: RBayR c D :: pairRow p b c (some j) slot ring :: BookQ bk B :: Row bo 61 x.cells :: R) (ao := some a) (cap := lc) (l := lentP x.pats es) j.w b j.d hjk.ok hcapd (by omega) (hes.rd (.head _)) (hes.fit hx.fit) (by rw [lentP_length hes.len]; exact hx.len)
      rw [lentP_length hes.len, lentP_D hes.len] at hL
      (refine zq ?_; refine zy rfl rfl (hL) ?_)
      intro _ _
      refine VO.ent (H' := LentA x.pats es a lc :: WalR j.w b (wLog (j.d, D) (x.pats.map PatE.D)).2.1 :: BayR b (wLog (j.d, D) (x.pats.map PatE.D)).2.2 :: RWalR j.v c j.d :: RBayR c D :: pairRow p b c (some j) slot ring :: BookQ bk B :: Row bo 61 x.cells :: R) Ent.re ?_
      refine w ?_; repeat (refine zj fun _ => ?_; refine w ?_)
      (refine zq ?_; refine zy rfl rfl (wholepatsA_ok hes hPA) ?_)
      intro _ _
      refine w ?_; repeat (refine zj fun _ => ?_; refine w ?_)
      (refine zq ?_; refine zy rfl rfl (spoilpatsA_ok hes (by omega)) ?_)
      intro _ _
      refine w ?_; repeat (refine zj fun _ => ?_; refine w ?_)
      (refine VC.drawn [9] 10 [0, 1, 2, 3, 4, 5, 6, 7, 8, 9, 10, 11, 12] [pairRow p b c (some j) slot ring, Row bo 61 x.cells] rfl (by kernel_rfl) (by kernel_rfl) Ent.re ?_)
      refine w ?_; repeat (refine zj fun _ => ?_; refine w ?_)
      refine VD.ent (H' := RWalR j.v c j.d :: RBayR c D :: WalR j.w b (wLog (j.d, D) (x.pats.map PatE.D)).2.1 :: BayR b (wLog (j.d, D) (x.pats.map PatE.D)).2.2 :: pairRow p b c (some j) slot ring :: BookQ bk B :: Row bo 61 x.cells :: R) Ent.re ?_
      (refine zq ?_; refine zy rfl rfl (rwlog_ok j.v c j.d hjk.ok hsane hcapd (by omega) (hx.rd _) hx.fit hx.len) ?_)
      intro _ _
      refine ⟨Ent.re, ?_⟩
      generalize wLog (j.d, D) (x.pats.map PatE.D) = S at hy ⊢
      refine w ?_; repeat (refine zj fun _ => ?_; refine w ?_)
      exact VE.done (⟨some ⟨j.w, j.v, S.2.1⟩, S.2.2, B⟩ : StJ) rfl hy (by simp) (Ent.trans (Ent.re (L := WalR j.w b S.2.1 :: RWalR j.v c S.2.1 :: BayR b S.2.2 :: RBayR c S.2.2 :: pairRow p b c (some j) slot ring :: BookQ bk B :: Row bo 61 x.cells :: R)) (Ent.trans (hmem _ _ _) Ent.re))
    have k1 : x.kind ≠ 1 := by simpa using hc
    clear hc
    refine w ?_; repeat (refine zj fun _ => ?_; refine w ?_)
    refine zk ?_ ?_ <;> intro hc
    · have hy := hfin 2 [] _ (rfl : _ = wSeal (j.d, D))
      clear hc
      refine w ?_; repeat (refine zj fun _ => ?_; refine w ?_)
      (refine VC.drawn [4] 9 [0, 1, 2, 3, 5, 6, 7, 8, 4, 9, 10, 11] [pairRow p b c (some j) slot ring] rfl (by kernel_rfl) (by kernel_rfl) Ent.re ?_)
      refine w ?_; repeat (refine zj fun _ => ?_; refine w ?_)
      refine VD.ent (H' := WalR j.w b j.d :: BayR b D :: RWalR j.v c j.d :: RBayR c D :: pairRow p b c (some j) slot ring :: BookQ bk B :: Row bo 61 x.cells :: R) Ent.re ?_
      (refine zq ?_; refine zy rfl rfl (walseal_ok j.w b j.d hjk.ok hcapd (by omega)) ?_)
      intro _ _
      refine ⟨Ent.re, ?_⟩
      refine w ?_; repeat (refine zj fun _ => ?_; refine w ?_)
      refine VD.ent (H' := RWalR j.v c j.d :: RBayR c D :: WalR j.w b (wSeal (j.d, D)).2.1 :: BayR b (wSeal (j.d, D)).2.2 :: pairRow p b c (some j) slot ring :: BookQ bk B :: Row bo 61 x.cells :: R) Ent.re ?_
      (refine zq ?_; refine zy rfl rfl (rwseal_ok j.v c j.d hjk.ok hjk.fits hsane hcapd (by omega)) ?_)
      intro _ _
      generalize wSeal (j.d, D) = S at hy ⊢
      refine w ?_; repeat (refine zj fun _ => ?_; refine w ?_)
      exact VE.done (⟨some ⟨j.w, j.v, S.2.1⟩, S.2.2, B⟩ : StJ) rfl hy (by simp) (Ent.trans (Ent.re (L := WalR j.w b S.2.1 :: RWalR j.v c S.2.1 :: BayR b S.2.2 :: RBayR c S.2.2 :: pairRow p b c (some j) slot ring :: BookQ bk B :: Row bo 61 x.cells :: R)) (Ent.trans (hmem _ _ _) Ent.re))
    clear hc
    refine w ?_; repeat (refine zj fun _ => ?_; refine w ?_)
    refine zk ?_ ?_ <;> intro hc
    · have hy := hfin 3 [] _ (rfl : _ = wSync (j.d, D))
      clear hc
      refine w ?_; repeat (refine zj fun _ => ?_; refine w ?_)
      (refine VC.drawn [4] 9 [0, 1, 2, 3, 5, 6, 7, 8, 4, 9, 10, 11] [pairRow p b c (some j) slot ring] rfl (by kernel_rfl) (by kernel_rfl) Ent.re ?_)
      refine w ?_; repeat (refine zj fun _ => ?_; refine w ?_)
      refine VD.ent (H' := WalR j.w b j.d :: BayR b D :: RWalR j.v c j.d :: RBayR c D :: pairRow p b c (some j) slot ring :: BookQ bk B :: Row bo 61 x.cells :: R) Ent.re ?_
      (refine zq ?_; refine zy rfl rfl (walsync_ok j.w b j.d) ?_)
      intro _ _
      refine ⟨Ent.re, ?_⟩
      refine w ?_; repeat (refine zj fun _ => ?_; refine w ?_)
      refine VD.ent (H' := RWalR j.v c j.d :: RBayR c D :: WalR j.w b (wSync (j.d, D)).2.1 :: BayR b (wSync (j.d, D)).2.2 :: pairRow p b c (some j) slot ring :: BookQ bk B :: Row bo 61 x.cells :: R) Ent.re ?_
      (refine zq ?_; refine zy rfl rfl (rwsync_ok j.v c j.d hsane hcapd (by omega)) ?_)
      intro _ _
      generalize wSync (j.d, D) = S at hy ⊢
      refine w ?_; repeat (refine zj fun _ => ?_; refine w ?_)
      exact VE.done (⟨some ⟨j.w, j.v, S.2.1⟩, S.2.2, B⟩ : StJ) rfl hy (by simp) (Ent.trans (Ent.re (L := WalR j.w b S.2.1 :: RWalR j.v c S.2.1 :: BayR b S.2.2 :: RBayR c S.2.2 :: pairRow p b c (some j) slot ring :: BookQ bk B :: Row bo 61 x.cells :: R)) (Ent.trans (hmem _ _ _) Ent.re))
    clear hc
    refine w ?_; repeat (refine zj fun _ => ?_; refine w ?_)
    refine zk ?_ ?_ <;> intro hc
    · have hy := hfin 4 [] _ (rfl : _ = wEmpty (j.d, D) j.d.epoch)
      clear hc
      refine w ?_; repeat (refine zj fun _ => ?_; refine w ?_)
      (refine VC.drawn [4] 9 [0, 1, 2, 3, 5, 6, 7, 8, 4, 9, 10, 11] [pairRow p b c (some j) slot ring] rfl (by kernel_rfl) (by kernel_rfl) Ent.re ?_)
      refine w ?_; repeat (refine zj fun _ => ?_; refine w ?_)
      refine VD.ent (H' := WalR j.w b j.d :: BayR b D :: RWalR j.v c j.d :: RBayR c D :: pairRow p b c (some j) slot ring :: BookQ bk B :: Row bo 61 x.cells :: R) Ent.re ?_
      (refine zq ?_; refine zy rfl rfl (walreclaim_ok j.w b j.d hjk.ok hcapd (by omega)) ?_)
      intro _ _
      refine ⟨Ent.re, ?_⟩
      refine w ?_; repeat (refine zj fun _ => ?_; refine w ?_)
      refine VD.ent (H' := RWalR j.v c j.d :: RBayR c D :: WalR j.w b (wEmpty (j.d, D) j.d.epoch).2.1 :: BayR b (wEmpty (j.d, D) j.d.epoch).2.2 :: pairRow p b c (some j) slot ring :: BookQ bk B :: Row bo 61 x.cells :: R) Ent.re ?_
      (refine zq ?_; refine zy rfl rfl (rwreclaim_ok j.v c j.d hjk.ok hsane hcapd (by omega)) ?_)
      intro _ _
      generalize wEmpty (j.d, D) j.d.epoch = S at hy ⊢
      refine w ?_; repeat (refine zj fun _ => ?_; refine w ?_)
      exact VE.done (⟨some ⟨j.w, j.v, S.2.1⟩, S.2.2, B⟩ : StJ) rfl hy (by simp) (Ent.trans (Ent.re (L := WalR j.w b S.2.1 :: RWalR j.v c S.2.1 :: BayR b S.2.2 :: RBayR c S.2.2 :: pairRow p b c (some j) slot ring :: BookQ bk B :: Row bo 61 x.cells :: R)) (Ent.trans (hmem _ _ _) Ent.re))
    clear hc
    refine w ?_; repeat (refine zj fun _ => ?_; refine w ?_)
    refine zk ?_ ?_ <;> intro hc
    · have hy := hfin 5 [] _ (rfl : _ = wEmpty (j.d, D) (j.d.epoch + 1))
      clear hc
      refine w ?_; repeat (refine zj fun _ => ?_; refine w ?_)
      (refine VC.drawn [4] 9 [0, 1, 2, 3, 5, 6, 7, 8, 4, 9, 10, 11] [pairRow p b c (some j) slot ring] rfl (by kernel_rfl) (by kernel_rfl) Ent.re ?_)
      refine w ?_; repeat (refine zj fun _ => ?_; refine w ?_)
      refine VD.ent (H' := WalR j.w b j.d :: BayR b D :: RWalR j.v c j.d :: RBayR c D :: pairRow p b c (some j) slot ring :: BookQ bk B :: Row bo 61 x.cells :: R) Ent.re ?_
      (refine zq ?_; refine zy rfl rfl (walrenew_ok j.w b j.d hjk.ok hcapd (by omega)) ?_)
      intro _ _
      refine ⟨Ent.re, ?_⟩
      refine w ?_; repeat (refine zj fun _ => ?_; refine w ?_)
      refine VD.ent (H' := RWalR j.v c j.d :: RBayR c D :: WalR j.w b (wEmpty (j.d, D) (j.d.epoch + 1)).2.1 :: BayR b (wEmpty (j.d, D) (j.d.epoch + 1)).2.2 :: pairRow p b c (some j) slot ring :: BookQ bk B :: Row bo 61 x.cells :: R) Ent.re ?_
      (refine zq ?_; refine zy rfl rfl (rwrenew_ok j.v c j.d hjk.ok hsane hcapd (by omega)) ?_)
      intro _ _
      generalize wEmpty (j.d, D) (j.d.epoch + 1) = S at hy ⊢
      refine w ?_; repeat (refine zj fun _ => ?_; refine w ?_)
      exact VE.done (⟨some ⟨j.w, j.v, S.2.1⟩, S.2.2, B⟩ : StJ) rfl hy (by simp) (Ent.trans (Ent.re (L := WalR j.w b S.2.1 :: RWalR j.v c S.2.1 :: BayR b S.2.2 :: RBayR c S.2.2 :: pairRow p b c (some j) slot ring :: BookQ bk B :: Row bo 61 x.cells :: R)) (Ent.trans (hmem _ _ _) Ent.re))
    clear hc
    refine w ?_; repeat (refine zj fun _ => ?_; refine w ?_)
    exact VE.done (⟨some j, D, B⟩ : StJ) rfl ⟨hsane, hcapd.mono (by omega), hwal, hbk1⟩ rfl (Ent.trans (hmem _ _ _) Ent.re)
theorem wmuchD_ok {ao : Option Addr} {cap : Nat} {l : List OpE} (hbs : RdOps W ao l) :
  Does W Tryz.prog 5 [.slice ao l.length cap] R (β := Bool) (fun b => b = false -> FewO l /\ ∀ o ∈ l, ∀ p ∈ o.pats, p.d.data.length <= 320063) (fun b => .bool b) (fun _ => R) := by
 (refine Does.enter Tryz.func5 Tryz.ntmps5 rfl rfl ?_)
 refine w ?_
 have hll := hbs.len
 refine VC.loop (α := Nat × Nat) (fun y => y.1 <= l.length /\ y.1 <= y.2 /\ y.2 <= 1407374883512320 /\ (∀ x ∈ l.take y.1, x.pats.length <= y.2 /\ x.keep.length <= y.2) /\ (y.2 <= 5000 -> ∀ x ∈ l.take y.1, ∀ p ∈ x.pats, p.d.data.length / 64 <= y.2)) (fun _ => R) (fun y => [(0, .slice ao l.length cap), (3, .int .i64 y.2), (4, .int .i64 y.1)]) (fun y => l.length - y.1) rfl (0, 0) ⟨Nat.zero_le _, Nat.le_refl _, by simp only; omega, by simp, fun _ => by simp⟩ Ent.refl ⟨rfl, rfl, rfl, trivial⟩ ?_
 rintro ⟨i, n⟩ ⟨hi, h1, h2, h3, h4⟩
 dsimp only at hi h1 h2 h3 h4 ⊢
 refine w ?_
 refine zg ?_ ?_ <;> intro hb
 ·
  have hlt : i < l.length := by have := of_decide_eq_true hb; omega
  have hr := hbs.rds R
  obtain ⟨a, rfl⟩ := some_of_pos hr.nil (by omega)
  have hw := hbs.each _ (List.getElem_mem hlt)
  have hpl := hw.len
  have hkl := hw.klen
  refine w ?_
  refine zk ?_ ?_ <;> intro hc
  ·
   have hle : n <= 5000 := by have := of_decide_eq_true hc; omega
   refine w ?_
   ((refine VC.quiet rfl (by kernel_rfl) (by kernel_rfl) ?_); refine w ?_)
   ((first | apply VO.pure rfl rfl | apply VQ.pure rfl rfl | apply VD.take rfl rfl rfl | (refine VD.end rfl rfl rfl ?_; apply OpV.pure)); exact PureAt.ldRc tab_ok rfl rfl hr (opsC_get l i 2 hlt (by decide)); rfl)
   refine w ?_
   ((first | apply VO.pure rfl rfl | apply VQ.pure rfl rfl | apply VD.take rfl rfl rfl | (refine VD.end rfl rfl rfl ?_; apply OpV.pure)); exact PureAt.ldRc tab_ok rfl rfl hr (opsC_get l i 3 hlt (by decide)); rfl)
   refine w ?_
   refine VC.re 3 (.int .i64 ((n + (1 + l[i].pats.length + l[i].keep.length) : Nat) : Int)) rfl (by congr 1) ?_
   refine w ?_
   refine VC.loop (α := Nat × Nat) (fun y => y.1 <= l[i].pats.length /\ n + (1 + l[i].pats.length + l[i].keep.length) <= y.2 /\ y.2 <= 1407374883512320 /\ ∀ p ∈ l[i].pats.take y.1, p.d.data.length / 64 <= y.2) (fun _ => R) (fun y => [(0, .slice (some a) l.length cap), (3, .int .i64 y.2), (4, .int .i64 i), (5, .int .i64 y.1)]) (fun y => l[i].pats.length - y.1) rfl (0, n + (1 + l[i].pats.length + l[i].keep.length)) ⟨Nat.zero_le _, Nat.le_refl _, by simp only; omega, by simp⟩ Ent.refl ⟨rfl, rfl, rfl, rfl, trivial⟩ ?_
   rintro ⟨k, m⟩ ⟨hk, g1, g2, g3⟩
   dsimp only at hk g1 g2 g3 ⊢
   refine w ?_
   ((first | apply VO.pure rfl rfl | apply VQ.pure rfl rfl | apply VD.take rfl rfl rfl | (refine VD.end rfl rfl rfl ?_; apply OpV.pure)); exact PureAt.ldRc tab_ok rfl rfl hr (opsC_get l i 2 hlt (by decide)); rfl)
   refine w ?_
   have hend : ∀ x ∈ l.take (i + 1), x.pats.length <= m /\ x.keep.length <= m := by
    intro x hx
    rw [List.take_succ_eq_append_getElem hlt, List.mem_append, List.mem_singleton] at hx
    rcases hx with h | h
    · have := h3 x h; omega
    · subst h; omega
   refine zg ?_ ?_ <;> intro hb
   ·
    have hkt : k < l[i].pats.length := by have := of_decide_eq_true hb; omega
    have hrp := hw.rd R
    obtain ⟨pa, hpa⟩ := some_of_pos hrp.rds.nil (by omega)
    rw [hpa] at hrp
    have hfl := (hw.fit _ (List.getElem_mem hkt)).len
    refine w ?_
    refine zk ?_ ?_ <;> intro hc
    ·
     have hle2 : m <= 5000 := by have := of_decide_eq_true hc; omega
     refine w ?_
     ((first | apply VO.pure rfl rfl | apply VQ.pure rfl rfl | apply VD.take rfl rfl rfl | (refine VD.end rfl rfl rfl ?_; apply OpV.pure)); exact PureAt.ldRc tab_ok rfl rfl hr (show (opsC l)[i * 4 + 2]? = some (.slice (some pa) l[i].pats.length l[i].x.2) by rw [opsC_get l i 2 hlt (by decide), <- hpa]; rfl); rfl)
     refine w ?_
     ((first | apply VO.pure rfl rfl | apply VQ.pure rfl rfl | apply VD.take rfl rfl rfl | (refine VD.end rfl rfl rfl ?_; apply OpV.pure)); exact PureAt.ldRc tab_ok rfl rfl hrp.rds (pat_get l[i].pats k 2 hkt (by decide)); rfl)
     refine w ?_
     ((first | apply VO.pure rfl rfl | apply VQ.pure rfl rfl | apply VD.take rfl rfl rfl | (refine VD.end rfl rfl rfl ?_; apply OpV.pure)); exact PureAt.quo (a := l[i].pats[k].d.data.length) (b := 64) rfl rfl (by decide) (IntWalk.i64_in _ ⟨by omega, by omega⟩); rfl)
     refine w ?_
     refine VE.round (k + 1, m + l[i].pats[k].d.data.length / 64) ⟨hkt, by simp only; omega, by simp only; omega, fun p hp => by
      rw [List.take_succ_eq_append_getElem hkt, List.mem_append, List.mem_singleton] at hp
      rcases hp with q | q
      · have := g3 p q; dsimp only; omega
      · subst q; dsimp only; omega⟩ (by simp only; omega) ⟨rfl, asV rfl (by congr 1), rfl, asV rfl (by congr 1), trivial⟩ Ent.refl
    ·
     refine w ?_
     have hgt2 : 5000 < m := by have := of_decide_eq_false hc; omega
     refine VE.round (i + 1, m) ⟨hlt, by simp only; omega, by simp only; omega, hend, fun q => absurd q (by simp only; omega)⟩ (by simp only; omega) ⟨rfl, rfl, asV rfl (by congr 1), trivial⟩ Ent.refl
   ·
    refine w ?_
    refine w ?_
    have hkk : k = l[i].pats.length := by have := of_decide_eq_false hb; omega
    refine VE.round (i + 1, m) ⟨hlt, by simp only; omega, by simp only; omega, hend, fun q x hx p hp => by
     rw [List.take_succ_eq_append_getElem hlt, List.mem_append, List.mem_singleton] at hx
     rcases hx with g | g
     · have := h4 hle x g p hp; dsimp only; omega
     · subst g; exact g3 p (by rw [hkk, List.take_length]; exact hp)⟩ (by simp only; omega) ⟨rfl, rfl, asV rfl (by congr 1), trivial⟩ Ent.refl
  ·
   have hgt : 5000 < n := by have := of_decide_eq_false hc; omega
   refine w ?_
   refine VE.done true rfl (by simp) (by congr 1; simp; omega) Ent.refl
 ·
  have hge : i = l.length := by have := of_decide_eq_false hb; omega
  subst hge
  rw [List.take_length] at h3 h4
  refine w ?_
  refine w ?_
  refine VE.done (decide (5000 < n)) rfl (fun q => ?_) (by congr 1; rw [decide_eq_decide]; omega) Ent.refl
  have hq : ¬ 5000 < n := of_decide_eq_false q
  exact ⟨⟨by omega, fun p hp => by have := h3 p hp; omega⟩, fun x hx p hp => by have := h4 (by omega) x hx p hp; omega⟩
theorem ownRows_nil0 {lo : Option Addr} {lc : Nat} : Does1 W Tryz.prog 73 [.slice lo 0 lc] R (.bool true) R := by
 (refine Does.enter Tryz.func73 Tryz.ntmps73 rfl rfl ?_)
 refine w ?_
 refine VC.once rfl ?_
 refine w ?_
 refine VC.once rfl ?_
 refine w ?_
 refine VC.once rfl ?_
 refine w ?_
 (first | exact VE.done1 rfl rfl Ent.refl | exact VE.done1N rfl rfl Ent.refl)
theorem bkownT_ok (b : Nat) (B : Bk) (h : B.ok) (hF : B.F = []) :
  Does1 W Tryz.prog 15 [.pointer (some ⟨b, 0, none⟩)] (BookQ b B :: R) (.bool true) R := by
 (refine Does.enter Tryz.func15 Tryz.ntmps15 rfl rfl ?_)
 refine VC.obtain (fun w => BookQ.open) ?_
 rintro ⟨xe, xf, xp, xt⟩
 refine VC.ent (H' := Row b 56 (bkCells (sl4 xe B.E.length) (sl4 xf B.F.length) (sl4 xp B.P.length) (sl4 xt B.T.length)) :: gE xe B.E :: gP xp B.P :: gT xt B.T :: R) Ent.re ?_
 refine VC.ent (fun w hw => gOpen hw) ?_
 refine w ?_
 refine zq ?_
 refine OpV.call rfl rfl (fun _ _ => by simp) (ownbytes_ok (R := Row b 56 (bkCells (sl4 xe B.E.length) (sl4 xf B.F.length) (sl4 xp B.P.length) (sl4 xt B.T.length)) :: gP xp B.P :: gT xt B.T :: R) h.E h.e) (fun w hw => hw.perm ?_) rfl ?_
 · exact (List.Perm.swap _ _ _).trans ((List.perm_middle (l₁ := B.E.map ListE.res)).symm.cons _)
 intro _ _
 refine w ?_
 (refine zq ?_; refine zy rfl rfl (ownTexts_nil) ?_; intro _ _)
 refine w ?_
 (refine zq ?_; refine zy rfl rfl (ownInts_nil) ?_; intro _ _)
 refine w ?_
 (refine zq ?_; refine zy rfl rfl (ownNumbers_nil) ?_; intro _ _)
 refine w ?_
 (refine zq ?_; refine zy rfl rfl (ownErrs_nil) ?_; intro _ _)
 refine w ?_
 (refine zq ?_; refine zy rfl rfl (ownSpans_nil) ?_; intro _ _)
 refine w ?_
 (refine zq ?_; refine zy rfl rfl (ownStates_nil) ?_; intro _ _)
 refine w ?_
 (refine zq ?_; refine zy rfl rfl (ownBools_nil) ?_; intro _ _)
 refine w ?_
 rw [show B.F.length = 0 by rw [hF]; rfl]
 (refine zq ?_; refine zy rfl rfl (ownRows_nil0) ?_; intro _ _)
 refine w ?_
 (refine zq ?_; refine zy rfl rfl (ownPuts_nil) ?_; intro _ _)
 refine w ?_
 refine VO.ent (fun w hw => gOpen hw) ?_
 refine zq ?_
 refine OpV.call rfl rfl (fun _ _ => by simp) (Pt.own_ok (R := Row b 56 (bkCells (sl4 xe B.E.length) (sl4 xf 0) (sl4 xp B.P.length) (sl4 xt B.T.length)) :: gT xt B.T :: R) h.P h.p) (fun w hw => hw.perm ?_) rfl ?_
 · exact (List.Perm.swap _ _ _).trans ((List.perm_middle (l₁ := B.P.map Pt.res)).symm.cons _)
 intro _ _
 refine w ?_
 refine VO.ent (fun w hw => gOpen hw) ?_
 refine zq ?_
 refine OpV.call rfl rfl (fun _ _ => by simp) (Tx.own_ok (R := Row b 56 (bkCells (sl4 xe B.E.length) (sl4 xf 0) (sl4 xp B.P.length) (sl4 xt B.T.length)) :: R) h.T h.t) (fun w hw => hw.perm ?_) rfl ?_
 · exact (List.Perm.swap _ _ _).trans ((List.perm_middle (l₁ := B.T.map Tx.res)).symm.cons _)
 intro _ _
 refine w ?_
 refine VE.done1 rfl ?_ ?_
 · rfl
 · exact Ent.drop Ent.refl
theorem map_one {α β : Type} {f : α -> β} {l : List α} {a : β} (h : l.map f = [a]) : ∃ t, l = [t] /\ f t = a := by
  cases l with
  | nil => cases h
  | cons t r =>
    cases r with
    | nil => exact ⟨t, rfl, by simpa using h⟩
    | cons u r => simp at h
def patK : PatD := ⟨1, 2, secV 5⟩
section
variable {v : WalD} {k : DiskD} {base : Nat} {x : LifeD} {D : BayD} {s : Nat}
end
end Go.Proofs.YtdbhpikmagkopaaGreat
/-! Text Jq. -/
set_option maxRecDepth 100000
namespace Go.Proofs.YtdbhpikmagkopaaGreat
open Go.RowKit Go.Sl
attribute [local irreducible] Sl.Own
variable {W : World} {R : List SProp}
theorem pair2 {α β : Type} (x : α × β) {a : α} (h : x.1 = a) : x = (a, x.2) := by subst h; rfl
theorem pair3 {α β γ : Type} (x : α × β × γ) {a : α} (h : x.1 = a) : x = (a, (x.2.1, x.2.2)) := by subst h; rfl
def jkD : BayD := (wFormat (BayD.new [12]) 0 10 1).2
def jkL : Int × WS := wLog (fresh0 0 1 10, jkD) [patK]
def jkS : Int × WS := wSeal jkL.2
def jkO : ((Option WalD × List (Nat × List PatD)) × Int) × BayD := wOpen (jkS.2.2.cut [[true]]) 0 10
theorem jknown_law : ∃ D1 D2 D3 D5 v2 v3 v5, wFormat (BayD.new [12]) 0 10 1 = ((some (fresh0 0 1 10), 0), D1) /\ D1.n = ⟨0, 11, 1⟩ /\ wLog (fresh0 0 1 10, D1) [patK] = (0, (v2, D2)) /\ wSeal (v2, D2) = (0, (v3, D3)) /\ v2.ok /\
  wOpen (D3.cut [[true]]) 0 10 = (((some v5, [(1, [patK])]), 0), D5) /\ v5.next = 2 /\ v5.used = 3 := by
 have h1 : (wFormat (BayD.new [12]) 0 10 1).1 = (some (fresh0 0 1 10), 0) := by kernel_rfl
 have h2 : jkD.n = ⟨0, 11, 1⟩ := by kernel_rfl
 have h3 : jkL.1 = 0 := by kernel_rfl
 have h4 : jkS.1 = 0 := by kernel_rfl
 have h5 : jkO.1 = ((some ⟨0, 1, 10, 0, 3, 2, true, none, 0⟩, [(1, [patK])]), 0) := by kernel_rfl
 have e1 : wFormat (BayD.new [12]) 0 10 1 = ((some (fresh0 0 1 10), 0), jkD) := by unfold jkD; exact pair2 _ h1
 have e3 : wLog (fresh0 0 1 10, jkD) [patK] = (0, (jkL.2.1, jkL.2.2)) := by
  have q := pair3 _ h3
  unfold jkL at q ⊢
  exact q
 have e4 : wSeal (jkL.2.1, jkL.2.2) = (0, (jkS.2.1, jkS.2.2)) := by
  have q := pair3 _ h4
  unfold jkS at q ⊢
  generalize jkL.2 = y at q ⊢
  obtain ⟨y1, y2⟩ := y
  exact q
 have e5 : wOpen (jkS.2.2.cut [[true]]) 0 10 = (((some ⟨0, 1, 10, 0, 3, 2, true, none, 0⟩, [(1, [patK])]), 0), jkO.2) := by
  have q := pair2 _ h5
  unfold jkO at q ⊢
  exact q
 have h6 : (wDo (fresh0 0 1 10, jkD) 1 [patK]).2.1.okk := (wDo_okk (v := fresh0 0 1 10) (D := jkD) ⟨fresh_ok ⟨by decide, by decide⟩ (by decide), fun g hg => (by cases hg)⟩ 1 [patK]).1
 have h7 : wDo (fresh0 0 1 10, jkD) 1 [patK] = wLog (fresh0 0 1 10, jkD) [patK] := by unfold wDo; rfl
 rw [h7, e3] at h6
 dsimp only at h6
 clear h1 h3 h4 h5 h7
 generalize jkD = D1 at *
 generalize jkL = L1 at *
 generalize jkS = S1 at *
 generalize jkO = O1 at *
 exact ⟨D1, L1.2.2, S1.2.2, O1.2, L1.2.1, S1.2.1, ⟨0, 1, 10, 0, 3, 2, true, none, 0⟩, e1, h2, e3, e4, h6.ok, e5, rfl, rfl⟩
theorem jknown_ok : Does1 W Tryz.prog 7 [] R (.bool true) R := by
 obtain ⟨D1, D2, D3, D5, v2, v3, v5, e1, e2, e3, e4, e5, e6, e7, e8⟩ := jknown_law
 (refine Does.enter Tryz.func7 Tryz.ntmps7 rfl rfl ?_)
 refine w ?_
 (refine zq ?_; refine OpV.buildSlice1 st_22 rfl rfl (by first | (simp; done) | simp [Value.oneCell']) (by decide) rfl ?_; intro nb)
 refine w ?_
 have hr : Rds W (Row nb 3 [.int .i64 12] :: R) 1 (some ⟨nb, 0, none⟩) 1 (intsI [12]) := Rds.row (intsI_one _) (.head _) rfl
 (refine zq ?_; refine zy rfl rfl (baynew_ok (l := [12]) hr (by decide)) ?_)
 intro x hx
 rw [show bayE [12] = 0 from rfl] at hx ⊢
 obtain ⟨b, rfl⟩ : ∃ b, x = some b := by cases x with | none => cases hx | some b => exact ⟨b, rfl⟩
 dsimp only [Option.elim_some]
 refine w ?_
 refine VO.ent (Ent.re (L := BayR b (BayD.new [12]) :: R)) ?_
 have hF := walformat_ok (W := W) (R := R) (D := BayD.new [12]) (epoch := 1) b 0 10 (by decide) (new_capd _) (by decide)
 rw [e1] at hF
 (refine zq ?_; refine zy rfl rfl (hF) ?_)
 intro y hy
 obtain ⟨wp, rfl⟩ : ∃ w, y = some w := by cases y with | none => cases hy | some w => exact ⟨w, rfl⟩
 dsimp only [Option.elim_some]
 refine w ?_
 ((refine zq ?_; refine zd rfl rfl (baycounts_ok b D1) ?_); intro _ _)
 refine w ?_
 (apply VO.pure rfl rfl; apply PureAt.build sb_76 rfl; (simp [buildX, setL, Value.cells]; rfl); rfl)
 refine VO.pure rfl rfl (cnt_eq (c := D1.n) (d := ⟨0, 11, 1⟩) rfl rfl (by rw [e2]; decide) (by decide) rfl) rfl ?_
 rw [e2]
 refine w ?_
 have hc1 : D1.capd 100 := by
  have := format_capd (D := BayD.new [12]) (n := 10) (new_capd _) 0 1
  rw [show wFormat (BayD.new [12]) 0 ((10 : Nat) : Int) 1 = ((some (fresh0 0 1 10), 0), D1) from e1] at this
  exact this.mono (by decide)
 have hc2 : D2.capd 5000 := by
  have := wDo_capd (v := fresh0 0 1 10) hc1 1 [patK]
  rw [show wDo (fresh0 0 1 10, D1) 1 [patK] = (0, (v2, D2)) from e3] at this
  exact this.mono (by decide)
 (refine zq ?_; refine zd rfl rfl (wsector_ok 5) ?_)
 intro nz _
 ((first | apply VO.pure rfl rfl | apply VD.take rfl rfl rfl | (refine VD.end rfl rfl rfl ?_; apply OpV.pure)); apply PureAt.build sb_70 rfl; (simp [buildX, setL, Value.cells]; rfl); rfl)
 refine zq ?_
 refine OpV.buildSlice (cs := PatE.cells ⟨1, 2, ⟨some ⟨nz, 0, none⟩, 128, secV 5⟩⟩) st_58 rfl rfl (by simp [Value.cells]) (by simp [Value.cells]; rfl) (by decide) rfl ?_
 intro np
 refine VO.ent (Ent.re (L := WalR wp b (fresh0 0 1 10) :: BayR b D1 :: Row np 70 (PatE.cells ⟨1, 2, ⟨some ⟨nz, 0, none⟩, 128, secV 5⟩⟩) :: OwnB (some ⟨nz, 0, none⟩, 128) (secV 5) :: R)) ?_
 have hL := wallog_ok (W := W) (R := Row np 70 (PatE.cells ⟨1, 2, ⟨some ⟨nz, 0, none⟩, 128, secV 5⟩⟩) :: OwnB (some ⟨nz, 0, none⟩, 128) (secV 5) :: R) (ao := some ⟨np, 0, none⟩) (cap := 1) (l := [⟨1, 2, ⟨some ⟨nz, 0, none⟩, 128, secV 5⟩⟩]) wp b (fresh0 0 1 10) (fresh_ok ⟨by decide, by decide⟩ (by decide)) hc1 (by decide)
  ⟨Rds.row (pats_one [⟨1, 2, ⟨some ⟨nz, 0, none⟩, 128, secV 5⟩⟩]) zm (by rfl), fun p hp => by
   rw [List.mem_singleton] at hp; subst hp
   exact Rds.own (bytes_one _) (.tail _ (.head _)) (by rw [bytes_length]; rfl) (by simp), fun p hp => by
   rw [List.mem_singleton] at hp; subst hp; exact ⟨by simp, by show 128 <= 128; decide⟩⟩ (fun p hp => by
   rw [List.mem_singleton] at hp; subst hp; exact ⟨by show (-9223372036854775808 : Int) <= 1 /\ (1 : Int) <= 9223372036854775807; decide, by show (-9223372036854775808 : Int) <= 2 /\ (2 : Int) <= 9223372036854775807; decide, by show 128 <= 140737488351232; decide⟩) (show 1 <= 140737488351232 by decide)
 rw [show ([(⟨1, 2, ⟨some ⟨nz, 0, none⟩, 128, secV 5⟩⟩ : PatE)].map PatE.D) = [patK] from rfl, e3] at hL
 (refine zq ?_; refine zy rfl rfl (hL) ?_)
 intro _ _
 refine w ?_
 have hS := walseal_ok (W := W) (R := Row np 70 (PatE.cells ⟨1, 2, ⟨some ⟨nz, 0, none⟩, 128, secV 5⟩⟩) :: OwnB (some ⟨nz, 0, none⟩, 128) (secV 5) :: R) wp b v2 e5 hc2 (by decide)
 rw [e4] at hS
 (refine zq ?_; refine zy rfl rfl (hS) ?_)
 intro _ _
 refine w ?_
 (refine zq ?_; refine OpV.buildSlice1 st_59 rfl rfl (by first | (simp; done) | simp [Value.oneCell']) (by decide) rfl ?_; intro nb)
 refine w ?_
 (refine zq ?_; refine OpV.buildSlice1 st_50 rfl rfl (by first | (simp; done) | simp [Value.oneCell']) (by decide) rfl ?_; intro nb)
 rename_i nk
 have hk1 : ∀ X : List SProp, Keeps W (Row nb 59 [(KeepD.mk (some ⟨nk, 0, none⟩) 1 [true]).hdr] :: Row nk 4 [.bool true] :: X) (some ⟨nb, 0, none⟩) [⟨some ⟨nk, 0, none⟩, 1, [true]⟩] := fun X =>
  ⟨Rds.row (fun u hu => by simp only [List.map_cons, List.map_nil, List.mem_cons, List.not_mem_nil, or_false] at hu; subst hu; rfl) (.head _) rfl, fun x hx => by
   simp only [List.mem_cons, List.not_mem_nil, or_false] at hx; subst hx
   exact Rds.row (fun u hu => by simp only [bools, List.map_cons, List.map_nil, List.mem_cons, List.not_mem_nil, or_false] at hu; subst hu; rfl) (.tail _ (.head _)) rfl⟩
 refine w ?_
 refine VO.ent (Ent.re (L := BayR b D3 :: Row nb 59 [(KeepD.mk (some ⟨nk, 0, none⟩) 1 [true]).hdr] :: Row nk 4 [.bool true] :: R)) ?_
 (refine zq ?_; refine zy rfl rfl (baycut_ok (kl := [⟨some ⟨nk, 0, none⟩, 1, [true]⟩]) b D3 (hk1 _)) ?_)
 intro _ _
 refine w ?_
 have hO := walopen_ok (W := W) (R := R) (D := D3.cut [[true]]) b 0 10
 rw [e6] at hO
 refine VO.ent (Ent.re (L := BayR b (D3.cut [[true]]) :: R)) ?_
 (refine zq ?_; refine zy rfl rfl (hO) ?_)
 rintro ⟨yw, ⟨yo, yc⟩, ts⟩ ⟨hy1, hy2⟩
 dsimp only at hy1 hy2
 obtain ⟨w5, rfl⟩ : ∃ w, yw = some w := by cases yw with | none => cases hy1 | some w => exact ⟨w, rfl⟩
 obtain ⟨⟨sq, to, tc, ps⟩, rfl, hy3⟩ := map_one hy2
 obtain ⟨rfl, hps⟩ := Prod.mk.inj (show (sq, ps.map PatE.D) = (1, [patK]) from hy3)
 obtain ⟨q, rfl, hq⟩ := map_one hps
 obtain ⟨qm, qr, ⟨qo, qc, qd⟩⟩ := q
 obtain ⟨rfl, rfl, rfl⟩ : qm = 1 /\ qr = 2 /\ qd = secV 5 := by
  have := hq
  unfold PatE.D patK at this
  injection this with a b c
  exact ⟨a, b, c⟩
 dsimp only [Option.elim_some, Option.getD_some]
 refine VO.know (p := yo = none -> 1 = 0) (fun w hw => hw.ownNone (.head _)) ?_
 intro hyo
 obtain ⟨ya, rfl⟩ := some_of_pos hyo (by decide)
 refine VO.know (p := ∀ t ∈ [(⟨1, to, tc, [⟨1, 2, ⟨qo, qc, secV 5⟩⟩]⟩ : TxnE)], t.ok) (fun w hw => PilT.know hw.tail) ?_
 intro hok
 have hRT : ∀ X, RdTxns W (TxnsO (some ya, yc) [⟨1, to, tc, [⟨1, 2, ⟨qo, qc, secV 5⟩⟩]⟩] :: PilT [⟨1, to, tc, [⟨1, 2, ⟨qo, qc, secV 5⟩⟩]⟩] :: X) (some ya) [⟨1, to, tc, [⟨1, 2, ⟨qo, qc, secV 5⟩⟩]⟩] := fun X => RdTxns.own (x := (some ya, yc)) (by simp) hok (.head _) (.tail _ (.head _))
 obtain ⟨ta, rfl⟩ := some_of_pos (hok _ (.head _)).nil (show 0 < 1 by decide)
 have hqo : qo = none -> (secV 5).length = 0 := ((hok _ (.head _)).each _ (.head _)).nil
 refine w ?_
 refine VC.ent (Ent.re (L := WalR w5 b v5 :: TxnsO (some ya, yc) [⟨1, some ta, tc, [⟨1, 2, ⟨qo, qc, secV 5⟩⟩]⟩] :: PilT [⟨1, some ta, tc, [⟨1, 2, ⟨qo, qc, secV 5⟩⟩]⟩] :: R)) ?_
 have hPT : RdPats W (TxnsO (some ya, yc) [⟨1, some ta, tc, [⟨1, 2, ⟨qo, qc, secV 5⟩⟩]⟩] :: PilT [⟨1, some ta, tc, [⟨1, 2, ⟨qo, qc, secV 5⟩⟩]⟩] :: R) (some ta) [⟨1, 2, ⟨qo, qc, secV 5⟩⟩] := (hRT R).each _ (.head _)
 refine VC.re 8 (.slice (some ya) 1 yc) rfl rfl ?_
 refine VC.drawn [16, 21, 62] 63 [0, 1, 2, 3, 4, 5, 6, 7, 8, 9, 10, 11, 12, 13, 14, 15, 16, 17, 18, 19, 20, 21, 22, 23, 24, 25, 26, 27, 28, 29, 30, 31, 32, 33, 34, 35, 36, 37, 38, 39, 40, 41, 42, 43, 44, 45, 46, 47, 48, 49, 50, 51, 52, 53, 54, 55, 56, 57, 58, 59, 60, 61, 62, 63, 64, 65] (TxnsO (some ya, yc) [⟨1, some ta, tc, [⟨1, 2, ⟨qo, qc, secV 5⟩⟩]⟩] :: PilT [⟨1, some ta, tc, [⟨1, 2, ⟨qo, qc, secV 5⟩⟩]⟩] :: R) rfl (by kernel_rfl) (by kernel_rfl) (Ent.drop Ent.refl) ?_
 refine w ?_
 (refine zq ?_; refine zy rfl rfl (walnext_ok w5 b v5) ?_)
 intro _ _
 rw [e7]
 refine w ?_
 (refine zq ?_; refine zy rfl rfl (walused_ok w5 b v5) ?_)
 intro _ _
 rw [e8]
 refine w ?_
 ((first | apply VO.pure rfl rfl | apply VQ.pure rfl rfl | apply VD.take rfl rfl rfl | (refine VD.end rfl rfl rfl ?_; apply OpV.pure)); exact PureAt.ldRc tab_ok rfl rfl (hRT R).rds (show (txnCells [⟨1, some ta, tc, [⟨1, 2, ⟨qo, qc, secV 5⟩⟩]⟩])[0 * 2 + 0]? = some (.int .u64 1) from rfl); rfl)
 refine w ?_
 ((first | apply VO.pure rfl rfl | apply VQ.pure rfl rfl | apply VD.take rfl rfl rfl | (refine VD.end rfl rfl rfl ?_; apply OpV.pure)); exact PureAt.ldRc tab_ok rfl rfl (hRT R).rds (show (txnCells [⟨1, some ta, tc, [⟨1, 2, ⟨qo, qc, secV 5⟩⟩]⟩])[0 * 2 + 1]? = some (.slice (some ta) 1 tc) from rfl); rfl)
 refine w ?_
 ((first | apply VO.pure rfl rfl | apply VQ.pure rfl rfl | apply VD.take rfl rfl rfl | (refine VD.end rfl rfl rfl ?_; apply OpV.pure)); exact PureAt.ldRc tab_ok rfl rfl (hRT R).rds (show (txnCells [⟨1, some ta, tc, [⟨1, 2, ⟨qo, qc, secV 5⟩⟩]⟩])[0 * 2 + 1]? = some (.slice (some ta) 1 tc) from rfl); rfl)
 refine w ?_
 ((first | apply VO.pure rfl rfl | apply VQ.pure rfl rfl | apply VD.take rfl rfl rfl | (refine VD.end rfl rfl rfl ?_; apply OpV.pure)); exact PureAt.ldRc tab_ok rfl rfl hPT.rds (show (patCells [⟨1, 2, ⟨qo, qc, secV 5⟩⟩])[0 * 3 + 1]? = some (.int .i64 2) from rfl); rfl)
 refine w ?_
 ((first | apply VO.pure rfl rfl | apply VQ.pure rfl rfl | apply VD.take rfl rfl rfl | (refine VD.end rfl rfl rfl ?_; apply OpV.pure)); exact PureAt.ldRc tab_ok rfl rfl (hRT R).rds (show (txnCells [⟨1, some ta, tc, [⟨1, 2, ⟨qo, qc, secV 5⟩⟩]⟩])[0 * 2 + 1]? = some (.slice (some ta) 1 tc) from rfl); rfl)
 refine w ?_
 ((first | apply VO.pure rfl rfl | apply VQ.pure rfl rfl | apply VD.take rfl rfl rfl | (refine VD.end rfl rfl rfl ?_; apply OpV.pure)); exact PureAt.ldRc tab_ok rfl rfl hPT.rds (show (patCells [⟨1, 2, ⟨qo, qc, secV 5⟩⟩])[0 * 3 + 2]? = some (.slice qo (secV 5).length qc) from rfl); rfl)
 refine w ?_
 (refine zq ?_; refine zd rfl rfl (wsector_ok 5) ?_)
 intro nz2 _
 refine w ?_
 have hq1 : Rds W (TxnsO (some ya, yc) [⟨1, some ta, tc, [⟨1, 2, ⟨qo, qc, secV 5⟩⟩]⟩] :: PilT [⟨1, some ta, tc, [⟨1, 2, ⟨qo, qc, secV 5⟩⟩]⟩] :: OwnB (some ⟨nz2, 0, none⟩, 128) (secV 5) :: R) 1 qo (secV 5).length (bytes (secV 5)) := ((hRT _).each _ (.head _)).each _ (.head _)
 refine VD.ent (H' := TxnsO (some ya, yc) [⟨1, some ta, tc, [⟨1, 2, ⟨qo, qc, secV 5⟩⟩]⟩] :: PilT [⟨1, some ta, tc, [⟨1, 2, ⟨qo, qc, secV 5⟩⟩]⟩] :: OwnB (some ⟨nz2, 0, none⟩, 128) (secV 5) :: R) Ent.re ?_
 (refine zq ?_; refine zy rfl rfl (same_any (a := secV 5) (b := secV 5) hq1 (Rds.own (bytes_one _) (.tail _ (.tail _ (.head _))) (by rw [bytes_length]; rfl) (fun h => by cases h)) (by decide)) ?_; intro _ _)
 refine w ?_
 exact VE.done1 rfl rfl Ent.re
theorem BayD.sane.load {D : BayD} (h : D.sane) (k : Int) (l : List UInt8) : (D.load k l).2.sane := by
 unfold BayD.load BayD.lay
 split
 · exact h
 ·
  split
  · exact h
  ·
   refine ⟨h.cw, h.dk, fun s hs => ?_⟩
   unfold BayD.setSlot at hs
   rcases List.mem_or_eq_of_mem_set hs with q | q
   · exact h.slot s q
   ·
    subst q
    refine ⟨?_, fun v hv hw => by cases hv; cases hw⟩
    unfold BayD.slot
    cases hg : D.slots[k.toNat]? with
    | none => rfl
    | some t => exact (h.slot t (List.mem_of_getElem? hg)).1
theorem wopens_law {io ao : Option Addr} {icap cap : Nat} {im : List UInt8} {l : List OpE} (him : RdsA W 1 io im.length (bytes im)) (himl : im.length <= 140737488351232) (himc : im.length <= icap) (hbs : RdOps W ao l) (ring : Int) :
    Does1 W Tryz.prog 4 [.slice io im.length icap, .int .i64 ring, .slice ao l.length cap] R (.bool true) R := by
  (refine Does.enter Tryz.func4 Tryz.ntmps4 rfl rfl ?_)
  refine w ?_; repeat (refine zj fun _ => ?_; refine w ?_)
  (refine zq ?_; refine zy rfl rfl (wmuchD_ok hbs) ?_)
  intro mu hmu
  cases mu with
  | true =>
    refine w ?_; repeat (refine zj fun _ => ?_; refine w ?_)
    exact VE.done1 rfl rfl Ent.refl
  | false =>
  obtain ⟨hf, hfd⟩ := hmu rfl
  refine w ?_; repeat (refine zj fun _ => ?_; refine w ?_)
  refine zk ?_ ?_ <;> intro hc
  · refine w ?_; repeat (refine zj fun _ => ?_; refine w ?_)
    exact VE.done1 rfl rfl Ent.refl
  have h30 : im.length <= 300000 := by have := of_decide_eq_false hc; omega
  clear hc
  refine w ?_; repeat (refine zj fun _ => ?_; refine w ?_)
  refine zq ?_
  refine OpV.buildSlice (cs := intsI [0, 0]) st_22 rfl rfl (by simp [Value.cells]) (by simp [intsI, Value.cells]) (by decide) rfl ?_
  intro nz
  refine w ?_; repeat (refine zj fun _ => ?_; refine w ?_)
  have hro : Rds W (Row nz 3 (intsI [0, 0]) :: R) 1 (some ⟨nz, 0, none⟩) [(0 : Int), 0].length (intsI [0, 0]) := Rds.row (by intro u hu; simp [intsI] at hu; subst hu; rfl) (.head _) rfl
  (refine zq ?_; refine zy rfl rfl (lbays_ok hro (by decide)) ?_)
  intro x hx
  obtain ⟨⟨b, c⟩, rfl⟩ : ∃ y, x = some y := by
    cases x with
    | none => rw [show bayE [0, 0] = 0 by decide] at hx; cases hx
    | some y => exact ⟨y, rfl⟩
  dsimp only [Option.elim]
  refine w ?_; repeat (refine zj fun _ => ?_; refine w ?_)
  (first | refine VO.gF rfl rfl rfl (rfl) ?_ | refine VD.gF rfl rfl rfl (rfl) ?_)
  refine w ?_; repeat (refine zj fun _ => ?_; refine w ?_)
  (refine zq ?_; refine zy rfl rfl (jknown_ok) ?_)
  intro _ _
  refine w ?_; repeat (refine zj fun _ => ?_; refine w ?_)
  (refine zq ?_; refine zy rfl rfl (bayload_ok b (BayD.new [0, 0]) 1 him (by omega) himc) ?_)
  intro _ _
  refine w ?_; repeat (refine zj fun _ => ?_; refine w ?_)
  refine VO.ent (H' := RBayR c (BayD.new [0, 0]) :: BayR b ((BayD.new [0, 0]).load 1 im).2 :: R) Ent.re ?_
  (refine zq ?_; refine zy rfl rfl (rbayload_ok c (BayD.new [0, 0]) 1 him (by omega)) ?_)
  intro _ _
  have hD1s := (BayD.sane.new [0, 0]).load 1 im
  have hD1c := load_capd (new_capd [0, 0]) 1 im
  generalize ((BayD.new [0, 0]).load 1 im).2 = D1 at hD1s hD1c ⊢
  generalize ((BayD.new [0, 0]).load 1 im).1 = e1
  refine w ?_; repeat (refine zj fun _ => ?_; refine w ?_)
  (refine VC.condFe rfl rfl (by simp) ?_)
  refine w ?_; repeat (refine zj fun _ => ?_; refine w ?_)
  (apply VO.pure rfl rfl; apply PureAt.build sb_35 rfl; (simp [buildX, setL, Value.cells]; rfl); rfl)
  refine w ?_; repeat (refine zj fun _ => ?_; refine w ?_)
  rename_i p
  refine w ?_; repeat (refine zj fun _ => ?_; refine w ?_)
  ((first | apply VO.pure rfl rfl | apply VD.take rfl rfl rfl | (refine VD.end rfl rfl rfl ?_; apply OpV.pure)); apply PureAt.build sb_56 rfl; (simp [buildX, setL, Value.cells]; rfl); rfl)
  refine w ?_; repeat (refine zj fun _ => ?_; refine w ?_)
  rename_i bk
  refine VO.ent (H' := stMem p b c bk 1 ring ⟨none, D1, ⟨[], [], [], []⟩⟩ R) (Ent.trans (Ent.re (L := Row bk 56 (bkCells nilS nilS nilS nilS) :: pairRow p b c none 1 ring :: BayR b D1 :: RBayR c D1 :: R)) (Ent.trans BookQ.start (Ent.trans walsNone (Ent.re (H := walsJ b c none :: BookQ bk ⟨[], [], [], []⟩ :: pairRow p b c none 1 ring :: BayR b D1 :: RBayR c D1 :: R))))) ?_
  (refine zq ?_; refine zy rfl rfl (jopens_ok p b c bk 1 ring ⟨none, D1, ⟨[], [], [], []⟩⟩ ⟨hD1s, hD1c, fun j hj => (by cases hj), BkT.start⟩ (by omega) (by omega)) ?_)
  intro s1 hs1
  refine w ?_; repeat (refine zj fun _ => ?_; refine w ?_)
  (refine zq ?_; refine zy rfl rfl (jopens_ok p b c bk 1 ring s1 hs1 (by omega) (by omega)) ?_)
  intro s0 hs0
  refine w ?_; repeat (refine zj fun _ => ?_; refine w ?_)
  refine VC.loop (α := Nat × StJ) (fun y => y.1 <= l.length /\ y.2.ok 1 (4100 * y.1) (2 + y.1)) (fun y => stMem p b c bk 1 ring y.2 R)
    (fun y => [(2, .slice ao l.length cap), (12, .pointer (some ⟨p, 0, none⟩)), (13, .pointer (some ⟨bk, 0, none⟩)), (14, .int .i64 y.1)]) (fun y => l.length - y.1) rfl (0, s0) ⟨Nat.zero_le _, hs0⟩ Ent.refl ⟨rfl, rfl, rfl, rfl, trivial⟩ ?_
  rintro ⟨i, s⟩ ⟨hi, hs⟩
  dsimp only at hi hs ⊢
  have hl5 := hf.len
  refine w ?_; repeat (refine zj fun _ => ?_; refine w ?_)
  refine zk ?_ ?_ <;> intro hc
  · have hlt : i < l.length := by have := of_decide_eq_true hc; omega
    clear hc
    have hr := hbs.rds (stMem p b c bk 1 ring s R)
    obtain ⟨a, rfl⟩ := some_of_pos hr.nil (by omega)
    refine w ?_; repeat (refine zj fun _ => ?_; refine w ?_)
    (refine zq ?_; refine zy rfl rfl (lstands_ok (R := BookQ bk s.B :: R) p b c s.o 1 ring hs.sane hs.capd (by omega)) ?_)
    intro _ _
    refine w ?_; repeat (refine zj fun _ => ?_; refine w ?_)
    (first | refine VO.gF rfl rfl rfl (rfl) ?_ | refine VD.gF rfl rfl rfl (rfl) ?_)
    refine w ?_; repeat (refine zj fun _ => ?_; refine w ?_)
    refine VO.pure rfl rfl (.ldRA tab_ok rfl rfl hr (opsC_at l i hlt) rfl) rfl ?_
    refine w ?_; repeat (refine zj fun _ => ?_; refine w ?_)
    (refine zq ?_; refine zy rfl rfl (ldoes_ok p b c bk 1 ring s l[i] (hbs.each _ (List.getElem_mem hlt)) (hf.each _ (List.getElem_mem hlt)).1 (hfd _ (List.getElem_mem hlt)) hs (by omega) (by omega)) ?_)
    intro y hy
    refine w ?_; repeat (refine zj fun _ => ?_; refine w ?_)
    exact VE.round (i + 1, y) ⟨hlt, ⟨hy.sane, hy.capd.mono (by dsimp only; omega), hy.wal, hy.book⟩⟩ (by simp only; omega) ⟨rfl, rfl, rfl, asV rfl (by congr 1), trivial⟩ Ent.refl
  have hge : i = l.length := by have := of_decide_eq_false hc; omega
  clear hc
  refine w ?_; repeat (refine zj fun _ => ?_; refine w ?_)
  (refine zq ?_; refine zy rfl rfl (lstands_ok (R := BookQ bk s.B :: R) p b c s.o 1 ring hs.sane hs.capd (by omega)) ?_)
  intro _ _
  refine w ?_; repeat (refine zj fun _ => ?_; refine w ?_)
  (refine zq ?_; refine zy rfl rfl (limages_ok p b c s.o 1 ring) ?_)
  intro _ _
  refine w ?_; repeat (refine zj fun _ => ?_; refine w ?_)
  refine VO.ent (H' := BookQ bk s.B :: R) Ent.re ?_
  (refine zq ?_; refine zy rfl rfl (bkownT_ok bk s.B (hs.book.ok (by omega)) hs.book.F) ?_)
  intro _ _
  refine w ?_; repeat (refine zj fun _ => ?_; refine w ?_)
  exact VE.done1 rfl rfl Ent.re
end Go.Proofs.YtdbhpikmagkopaaGreat
