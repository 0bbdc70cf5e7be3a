/- Scan: what was found is what stands in the ring: the walk. -/
import Derived.Test.YtlojjlbngnaphaaNi
set_option maxRecDepth 8000
set_option linter.unusedVariables false
set_option linter.unusedSimpArgs false
set_option linter.unusedSectionVars false
namespace Go.Proofs.Ytlojjlbngnaphaa
open Go.RowKit Go.Sl
attribute [local irreducible] Own

/-- What is found, batch by batch. -/
theorem of_rows {sec : SecF} {n e s tl i : Nat} {t : Nat × List PatD} (h : (ofM sec n e (n + 1) s 0 tl)[i]? = some t) :
    t.1 = s + i ∧ Fine e (s + i) t.2 ∧ ∀ j, j < 2 * t.2.length + 1 → (rowsP e (s + i) t.2)[j]? = some (sec ((tl + costT ((ofM sec n e (n + 1) s 0 tl).take i) + j) % n)) := by
  have h1 := of_each (n + 1) s 0 tl i t h
  have h2 := (bat_iff _ _ _ _ _).1 h1.2.2
  exact ⟨h1.1, h2.1, h2.2.2⟩
theorem found_facts {data : List UInt8} {c : ChkD} (h : (foundM data c).1 = 0) : ∃ n tl : Nat, data.length = n * 128 ∧ (5 ≤ n ∧ n ≤ 2048) ∧ c.tail = tl ∧ tl < n ∧ c.good ∧
    foundM data c = (0, ⟨ofM (secB data) n c.epoch (n + 1) c.seq 0 tl, c.seq + (ofM (secB data) n c.epoch (n + 1) c.seq 0 tl).length, (tl + costT (ofM (secB data) n c.epoch (n + 1) c.seq 0 tl)) % n, costT (ofM (secB data) n c.epoch (n + 1) c.seq 0 tl)⟩) := by
  have hnb : ¬ badM data c := fun q => by
    have : foundM data c = (1, ⟨[], 0, 0, 0⟩) := if_pos q
    rw [this] at h; cases h
  have hen : c.enc.1 = 0 := Decidable.byContradiction fun q => hnb (.inl q)
  have hgood : c.good := by
    by_cases g : c.good
    · exact g
    · rw [chk_bad g] at hen; cases hen
  have hct := (chk_iff c).1 hgood
  have b2 : data.length % 128 = 0 := Decidable.byContradiction fun q => hnb (.inr (.inl q))
  have b3 : ¬ data.length / 128 < 5 := fun q => hnb (.inr (.inr (.inl q)))
  have b4 : ¬ 2048 < data.length / 128 := fun q => hnb (.inr (.inr (.inr (.inl q))))
  have b5 : ¬ ((data.length / 128 : Nat) : Int) ≤ c.tail := fun q => hnb (.inr (.inr (.inr (.inr q))))
  have hf : foundM data c = (0, ⟨ofM (secB data) (data.length / 128) c.epoch (data.length / 128 + 1) c.seq 0 c.tail.toNat, c.seq + (ofM (secB data) (data.length / 128) c.epoch (data.length / 128 + 1) c.seq 0 c.tail.toNat).length, (c.tail.toNat + costT (ofM (secB data) (data.length / 128) c.epoch (data.length / 128 + 1) c.seq 0 c.tail.toNat)) % (data.length / 128), costT (ofM (secB data) (data.length / 128) c.epoch (data.length / 128 + 1) c.seq 0 c.tail.toNat)⟩) := if_neg hnb
  exact ⟨data.length / 128, c.tail.toNat, by omega, by omega, by omega, by omega, hgood, hf⟩
set_option maxHeartbeats 1000000 in
theorem again_ok {W : World} {R : List SProp} {ao : Option Addr} {cap : Nat} {data : List UInt8} (hr : Rds W R 1 ao data.length (bytes data)) (hcap : data.length ≤ cap) (hlen : data.length ≤ 140737488351232) (c : ChkD) (hf : c.fit) :
    Does1 W Try.prog 9 [.slice ao data.length cap, .agg c.cells.toArray] R (.bool true) R := by
  (refine Does.enter Try.func9 Try.ntmps9 rfl rfl ?_)
  (refine w ?_; repeat ((first | refine VO.step rfl rfl ?_ | refine VD.end rfl rfl rfl ?_ | refine VD.mid rfl rfl rfl ?_); refine OpV.box rfl rfl rfl ?_; intro _; refine w ?_))
  rename_i n3
  (refine VC.cond rfl rfl ?_ ?_ <;> intro hc)
  · (refine w ?_; repeat ((first | refine VO.step rfl rfl ?_ | refine VD.end rfl rfl rfl ?_ | refine VD.mid rfl rfl rfl ?_); refine OpV.box rfl rfl rfl ?_; intro _; refine w ?_))
    exact VE.done1 rfl rfl Ent.re
  have hle : data.length ≤ 300000 := by have := hc; simp at this; omega
  clear hc
  (refine w ?_; repeat ((first | refine VO.step rfl rfl ?_ | refine VD.end rfl rfl rfl ?_ | refine VD.mid rfl rfl rfl ?_); refine OpV.box rfl rfl rfl ?_; intro _; refine w ?_))
  have hO := of_ok (W := W) (R := Row n3 57 c.cells :: R) (cap := cap) (hr.ent (Ent.drop Ent.refl)) hcap hlen c hf
  ((first | refine VO.step rfl rfl ?_ | refine VD.end rfl rfl rfl ?_ | refine VD.mid rfl rfl rfl ?_); refine OpV.call rfl rfl (fun _ _ => by simp) (hO) Ent.refl rfl ?_)
  rintro ⟨⟨o1, c1⟩, ts⟩ hts
  dsimp only at hts ⊢
  (refine w ?_; repeat ((first | refine VO.step rfl rfl ?_ | refine VD.end rfl rfl rfl ?_ | refine VD.mid rfl rfl rfl ?_); refine OpV.box rfl rfl rfl ?_; intro _; refine w ?_))
  ((first | refine VO.step rfl rfl ?_ | refine VD.end rfl rfl rfl ?_ | refine VD.mid rfl rfl rfl ?_); refine OpV.allocS sb_61 rfl ?_; intro n5)
  (refine w ?_; repeat ((first | refine VO.step rfl rfl ?_ | refine VD.end rfl rfl rfl ?_ | refine VD.mid rfl rfl rfl ?_); refine OpV.box rfl rfl rfl ?_; intro _; refine w ?_))
  (first | refine VO.step rfl rfl ?_ | refine VD.end rfl rfl rfl ?_ | refine VD.mid rfl rfl rfl ?_)
  refine OpV.stA (vs := [.slice o1 ts.length c1, .int .u64 ((foundM data c).2.next : Int), .int .i64 ((foundM data c).2.head : Int), .int .i64 ((foundM data c).2.used : Int)]) tab_ok rfl rfl rfl rfl (by simp [Value.oneCell']) (by (repeat first | exact .head | apply Hole.tail)) (by simp) ?_
  refine VO.ent (H' := Row n5 61 [.slice o1 ts.length c1, .int .u64 ((foundM data c).2.next : Int), .int .i64 ((foundM data c).2.head : Int), .int .i64 ((foundM data c).2.used : Int)] :: TxnsO (o1, c1) ts :: PilT ts :: Row n3 57 c.cells :: R) Ent.re ?_
  (refine w ?_; repeat ((first | refine VO.step rfl rfl ?_ | refine VD.end rfl rfl rfl ?_ | refine VD.mid rfl rfl rfl ?_); refine OpV.box rfl rfl rfl ?_; intro _; refine w ?_))
  (refine VC.cond rfl rfl ?_ ?_ <;> intro hc)
  · (refine w ?_; repeat ((first | refine VO.step rfl rfl ?_ | refine VD.end rfl rfl rfl ?_ | refine VD.mid rfl rfl rfl ?_); refine OpV.box rfl rfl rfl ?_; intro _; refine w ?_))
    ((first | refine VO.step rfl rfl ?_ | refine VD.end rfl rfl rfl ?_ | refine VD.mid rfl rfl rfl ?_); refine OpV.call rfl rfl (fun _ _ => by simp) (nknown_ok) Ent.refl rfl ?_)
    intro _ _
    (refine w ?_; repeat ((first | refine VO.step rfl rfl ?_ | refine VD.end rfl rfl rfl ?_ | refine VD.mid rfl rfl rfl ?_); refine OpV.box rfl rfl rfl ?_; intro _; refine w ?_))
    exact VE.done1 rfl rfl Ent.re
  have h0 : (foundM data c).1 = 0 := by simpa using hc
  clear hc
  obtain ⟨n, tl, hdn, hn5, htl, htn, hgood, hfd⟩ := found_facts h0
  obtain ⟨F, hF⟩ : ∃ F, F = ofM (secB data) n c.epoch (n + 1) c.seq 0 tl := ⟨_, rfl⟩
  rw [← hF] at hfd
  rw [hfd] at hts ⊢
  dsimp only at hts ⊢
  have hct := (chk_iff c).1 hgood
  obtain ⟨la, rfl⟩ : ∃ a, ao = some a := by cases ao with | none => have := hr.nil rfl; omega | some a => exact ⟨a, rfl⟩
  (refine w ?_; repeat ((first | refine VO.step rfl rfl ?_ | refine VD.end rfl rfl rfl ?_ | refine VD.mid rfl rfl rfl ?_); refine OpV.box rfl rfl rfl ?_; intro _; refine w ?_))
  (first | refine VO.pure rfl rfl (PureAt.quo (a := data.length) (b := 128) rfl rfl (by decide) (IntWalk.i64_in _ ⟨by omega, by omega⟩)) rfl ?_ | refine VD.take rfl rfl rfl (PureAt.quo (a := data.length) (b := 128) rfl rfl (by decide) (IntWalk.i64_in _ ⟨by omega, by omega⟩)) rfl ?_ | refine VQ.pure rfl rfl (PureAt.quo (a := data.length) (b := 128) rfl rfl (by decide) (IntWalk.i64_in _ ⟨by omega, by omega⟩)) rfl ?_ | refine VD.end rfl rfl rfl (OpV.pure (PureAt.quo (a := data.length) (b := 128) rfl rfl (by decide) (IntWalk.i64_in _ ⟨by omega, by omega⟩)) rfl ?_))
  refine VO.re 27 (.int .i64 n) rfl (by rw [show data.length / 128 = n by omega]) ?_
  (refine w ?_; repeat ((first | refine VO.step rfl rfl ?_ | refine VD.end rfl rfl rfl ?_ | refine VD.mid rfl rfl rfl ?_); refine OpV.box rfl rfl rfl ?_; intro _; refine w ?_))
  refine VC.re 8 (.int .i64 tl) rfl (by rw [htl]) ?_
  have hlenT : ts.length = F.length := by rw [← hts, List.length_map]
  (refine w ?_; repeat ((first | refine VO.step rfl rfl ?_ | refine VD.end rfl rfl rfl ?_ | refine VD.mid rfl rfl rfl ?_); refine OpV.box rfl rfl rfl ?_; intro _; refine w ?_))
  refine VC.loop (α := Nat) (fun i => i ≤ ts.length) (fun _ => Row n5 61 [.slice o1 ts.length c1, .int .u64 ((c.seq + F.length : Nat) : Int), .int .i64 (((tl + costT F) % n : Nat) : Int), .int .i64 ((costT F : Nat) : Int)] :: TxnsO (o1, c1) ts :: PilT ts :: Row n3 57 c.cells :: R)
    (fun i => [(0, .slice (some la) data.length cap), (3, .pointer (some ⟨n3, 0, none⟩)), (5, .pointer (some ⟨n5, 0, none⟩)), (7, .int .i64 n), (8, .int .i64 (((tl + costT (F.take i)) % n : Nat) : Int)), (9, .int .i64 i)]) (fun i => ts.length - i) rfl 0 (Nat.zero_le _) Ent.re ⟨rfl, rfl, rfl, rfl, asV rfl (by rw [List.take_zero]; congr 1; show (tl : Int) = (((tl + 0) % n : Nat) : Int); rw [Nat.add_zero, Nat.mod_eq_of_lt htn]), rfl, trivial⟩ ?_
  intro i hi
  (refine w ?_; repeat ((first | refine VO.step rfl rfl ?_ | refine VD.end rfl rfl rfl ?_ | refine VD.mid rfl rfl rfl ?_); refine OpV.box rfl rfl rfl ?_; intro _; refine w ?_))
  (refine VC.cond rfl rfl ?_ ?_ <;> intro hc)
  · have hlt : i < ts.length := by have := of_decide_eq_true hc; omega
    have hlF : i < F.length := by omega
    have hTi : ts[i].T = F[i] := by
      have h1 : (ts.map TxnE.T)[i]? = F[i]? := by rw [hts]
      rw [List.getElem?_map, List.getElem?_eq_getElem hlt, List.getElem?_eq_getElem hlF] at h1
      injection h1
    have hro := of_rows (sec := secB data) (n := n) (e := c.epoch) (s := c.seq) (tl := tl) (i := i) (t := F[i]) (by rw [← hF]; exact List.getElem?_eq_getElem hlF)
    rw [← hF, ← hTi] at hro
    obtain ⟨hseq, hfine, hrw⟩ := hro
    dsimp only [TxnE.T] at hseq hfine hrw
    refine VC.know (p := ∀ t ∈ ts, t.ok) (fun w hw => PilT.know hw.tail.tail) ?_
    intro hok
    refine VC.know (p := o1 = none → ts.length = 0) (fun w hw => hw.tail.ownNone (.head _)) ?_
    intro hon
    obtain ⟨oa, rfl⟩ : ∃ a, o1 = some a := by cases o1 with | none => have := hon rfl; omega | some a => exact ⟨a, rfl⟩
    have hRT : RdTxns W (Row n5 61 [.slice (some oa) ts.length c1, .int .u64 ((c.seq + F.length : Nat) : Int), .int .i64 (((tl + costT F) % n : Nat) : Int), .int .i64 ((costT F : Nat) : Int)] :: TxnsO (some oa, c1) ts :: PilT ts :: Row n3 57 c.cells :: R) (some oa) ts := RdTxns.own (x := (some oa, c1)) (by simp) hok (.tail _ (.head _)) (.tail _ (.tail _ (.head _)))
    have hpl : (ts[i].pats.map PatE.D).length = ts[i].pats.length := List.length_map ..
    (refine w ?_; repeat ((first | refine VO.step rfl rfl ?_ | refine VD.end rfl rfl rfl ?_ | refine VD.mid rfl rfl rfl ?_); refine OpV.box rfl rfl rfl ?_; intro _; refine w ?_))
    (refine VC.drawn [7] 12 [0, 1, 2, 3, 4, 5, 6, 7, 8, 9, 10, 11, 12] _ rfl (by kernel_rfl) (by kernel_rfl) Ent.re ?_)
    (refine w ?_; repeat ((first | refine VO.step rfl rfl ?_ | refine VD.end rfl rfl rfl ?_ | refine VD.mid rfl rfl rfl ?_); refine OpV.box rfl rfl rfl ?_; intro _; refine w ?_))
    (first | refine VO.pure rfl rfl (.ldRA tab_ok rfl rfl hRT.rds (flat_part ts i hlt (fun _ _ => rfl)) rfl) rfl ?_ | refine VD.take rfl rfl rfl (.ldRA tab_ok rfl rfl hRT.rds (flat_part ts i hlt (fun _ _ => rfl)) rfl) rfl ?_ | refine VQ.pure rfl rfl (.ldRA tab_ok rfl rfl hRT.rds (flat_part ts i hlt (fun _ _ => rfl)) rfl) rfl ?_ | refine VD.end rfl rfl rfl (OpV.pure (.ldRA tab_ok rfl rfl hRT.rds (flat_part ts i hlt (fun _ _ => rfl)) rfl) rfl ?_))
    (refine w ?_; repeat ((first | refine VO.step rfl rfl ?_ | refine VD.end rfl rfl rfl ?_ | refine VD.mid rfl rfl rfl ?_); refine OpV.box rfl rfl rfl ?_; intro _; refine w ?_))
    have hS := sectors_ok (W := W) (R := Row n5 61 [.slice (some oa) ts.length c1, .int .u64 ((c.seq + F.length : Nat) : Int), .int .i64 (((tl + costT F) % n : Nat) : Int), .int .i64 ((costT F : Nat) : Int)] :: TxnsO (some oa, c1) ts :: PilT ts :: Row n3 57 c.cells :: R) (cap := ts[i].cap) c.epoch ts[i].seq hf.epoch (by rw [hseq]; have := hfine.cnt.2.2; omega) (hRT.each _ (List.getElem_mem hlt)) (fun p hp => by
      have := hfine.pat p.D (List.mem_map_of_mem hp)
      dsimp only [PatE.D] at this
      exact ⟨by omega, by omega, by omega⟩) (by have := hfine.n2; omega)
    have hs : secsM c.epoch ts[i].seq (ts[i].pats.map PatE.D) = (0, rowsP c.epoch (c.seq + i) (ts[i].pats.map PatE.D)) := by rw [hseq]; exact secs_fine hfine
    rw [hs] at hS
    ((first | refine VO.step rfl rfl ?_ | refine VD.end rfl rfl rfl ?_ | refine VD.mid rfl rfl rfl ?_); refine OpV.call rfl rfl (fun _ _ => by simp) (hS) Ent.refl rfl ?_)
    rintro ⟨⟨xo, xc⟩, rows⟩ hrows
    dsimp only at hrows ⊢
    refine ⟨Ent.re, ?_⟩
    refine VD.know (p := ∀ e ∈ rows, e.ok) (fun w hw => PilR.know hw.tail) ?_
    intro hok2
    refine VD.know (p := xo = none → rows.length = 0) (fun w hw => hw.ownNone (.head _)) ?_
    intro hxn
    have hrl : rows.length = 2 * ts[i].pats.length + 1 := by have := congrArg List.length hrows; rw [List.length_map, rowsP_length, hpl] at this; exact this
    have hib : i ≤ 4611686018427387904 := by have := hfine.cnt.2.2; omega
    have hrb : rows.length ≤ 3000 := by have := hfine.n2; omega
    obtain ⟨xa, rfl⟩ : ∃ a, xo = some a := by cases xo with | none => have := hxn rfl; omega | some a => exact ⟨a, rfl⟩
    (refine w ?_; repeat ((first | refine VO.step rfl rfl ?_ | refine VD.end rfl rfl rfl ?_ | refine VD.mid rfl rfl rfl ?_); refine OpV.box rfl rfl rfl ?_; intro _; refine w ?_))
    refine VC.loop (α := Nat) (fun k => k ≤ rows.length) (fun _ => RowsO (some xa, xc) rows :: PilR rows :: Row n5 61 [.slice (some oa) ts.length c1, .int .u64 ((c.seq + F.length : Nat) : Int), .int .i64 (((tl + costT F) % n : Nat) : Int), .int .i64 ((costT F : Nat) : Int)] :: TxnsO (some oa, c1) ts :: PilT ts :: Row n3 57 c.cells :: R)
      (fun k => [(0, .slice (some la) data.length cap), (3, .pointer (some ⟨n3, 0, none⟩)), (5, .pointer (some ⟨n5, 0, none⟩)), (7, .int .i64 n), (8, .int .i64 (((tl + costT (F.take i) + k) % n : Nat) : Int)), (9, .int .i64 i), (10, .slice (some xa) rows.length xc), (12, .int .i64 k)]) (fun k => rows.length - k) rfl 0 (Nat.zero_le _) Ent.refl ⟨rfl, rfl, rfl, rfl, rfl, rfl, rfl, rfl, trivial⟩ ?_
    intro k hk
    have hat : (tl + costT (F.take i) + k) % n < n := Nat.mod_lt _ (by omega)
    (refine w ?_; repeat ((first | refine VO.step rfl rfl ?_ | refine VD.end rfl rfl rfl ?_ | refine VD.mid rfl rfl rfl ?_); refine OpV.box rfl rfl rfl ?_; intro _; refine w ?_))
    (refine VC.cond rfl rfl ?_ ?_ <;> intro hc)
    · have hk2 : k < rows.length := by have := of_decide_eq_true hc; omega
      have hrk : rows[k].data = secB data ((tl + costT (F.take i) + k) % n) := by
        have h1 : (rows.map RowE.data)[k]? = some (secB data ((tl + costT (F.take i) + k) % n)) := by rw [hrows]; exact hrw k (by rw [hpl, ← hrl]; exact hk2)
        rw [List.getElem?_map, List.getElem?_eq_getElem hk2] at h1
        injection h1
      have hRow : Rds W (RowsO (some xa, xc) rows :: PilR rows :: Row n5 61 [.slice (some oa) ts.length c1, .int .u64 ((c.seq + F.length : Nat) : Int), .int .i64 (((tl + costT F) % n : Nat) : Int), .int .i64 ((costT F : Nat) : Int)] :: TxnsO (some oa, c1) ts :: PilT ts :: Row n3 57 c.cells :: R) 1 (some xa) rows.length (rows.map RowE.hdr) := Rds.own (rowhdr_one _) (.head _) (by simp) (by simp)
      have hByt : Rds W (RowsO (some xa, xc) rows :: PilR rows :: Row n5 61 [.slice (some oa) ts.length c1, .int .u64 ((c.seq + F.length : Nat) : Int), .int .i64 (((tl + costT F) % n : Nat) : Int), .int .i64 ((costT F : Nat) : Int)] :: TxnsO (some oa, c1) ts :: PilT ts :: Row n3 57 c.cells :: R) 1 rows[k].ao rows[k].data.length (bytes rows[k].data) :=
        Rds.pile (.tail _ (.head _)) (List.getElem_mem hk2) (fun R hR => RowE.rds (hok2 _ (List.getElem_mem hk2)) hR)
      have hSec : Rds W (RowsO (some xa, xc) rows :: PilR rows :: Row n5 61 [.slice (some oa) ts.length c1, .int .u64 ((c.seq + F.length : Nat) : Int), .int .i64 (((tl + costT F) % n : Nat) : Int), .int .i64 ((costT F : Nat) : Int)] :: TxnsO (some oa, c1) ts :: PilT ts :: Row n3 57 c.cells :: R) 1 (subA (some la) cap ((tl + costT (F.take i) + k) % n * 128) 1) (((tl + costT (F.take i) + k) % n + 1) * 128 - (tl + costT (F.take i) + k) % n * 128) (bytes (secB data ((tl + costT (F.take i) + k) % n))) := by
        have h1 := hr.sub (cap := cap) (l := (tl + costT (F.take i) + k) % n * 128) (h := ((tl + costT (F.take i) + k) % n + 1) * 128) (by omega) (by omega) hcap
        have h2 : bytes (secB data ((tl + costT (F.take i) + k) % n)) = ((bytes data).drop ((tl + costT (F.take i) + k) % n * 128 * 1)).take ((((tl + costT (F.take i) + k) % n + 1) * 128 - (tl + costT (F.take i) + k) % n * 128) * 1) := by
          unfold secB bytes
          rw [List.map_take, List.map_drop, Nat.mul_one, Nat.mul_one, Nat.mul_comm 128, show ((tl + costT (F.take i) + k) % n + 1) * 128 - (tl + costT (F.take i) + k) % n * 128 = 128 by omega]
        rw [h2]
        exact h1.ent Ent.re
      have hml : rows[k].data.length ≤ maxLen := by rw [hrk, secB_len (n := n) (by omega) hat]; decide
      (refine w ?_; repeat ((first | refine VO.step rfl rfl ?_ | refine VD.end rfl rfl rfl ?_ | refine VD.mid rfl rfl rfl ?_); refine OpV.box rfl rfl rfl ?_; intro _; refine w ?_))
      (refine VC.drawn [] 11 [0, 1, 2, 3, 4, 5, 6, 7, 8, 9, 10, 11, 12] _ rfl (by kernel_rfl) (by kernel_rfl) Ent.re ?_)
      (refine w ?_; repeat ((first | refine VO.step rfl rfl ?_ | refine VD.end rfl rfl rfl ?_ | refine VD.mid rfl rfl rfl ?_); refine OpV.box rfl rfl rfl ?_; intro _; refine w ?_))
      (first | refine VO.pure rfl rfl (PureAt.ldR tab_ok rfl rfl hRow (show (rows.map RowE.hdr)[k]? = some rows[k].hdr by rw [List.getElem?_map, List.getElem?_eq_getElem hk2]; rfl)) rfl ?_ | refine VD.take rfl rfl rfl (PureAt.ldR tab_ok rfl rfl hRow (show (rows.map RowE.hdr)[k]? = some rows[k].hdr by rw [List.getElem?_map, List.getElem?_eq_getElem hk2]; rfl)) rfl ?_ | refine VQ.pure rfl rfl (PureAt.ldR tab_ok rfl rfl hRow (show (rows.map RowE.hdr)[k]? = some rows[k].hdr by rw [List.getElem?_map, List.getElem?_eq_getElem hk2]; rfl)) rfl ?_ | refine VD.end rfl rfl rfl (OpV.pure (PureAt.ldR tab_ok rfl rfl hRow (show (rows.map RowE.hdr)[k]? = some rows[k].hdr by rw [List.getElem?_map, List.getElem?_eq_getElem hk2]; rfl)) rfl ?_))
      (refine w ?_; repeat ((first | refine VO.step rfl rfl ?_ | refine VD.end rfl rfl rfl ?_ | refine VD.mid rfl rfl rfl ?_); refine OpV.box rfl rfl rfl ?_; intro _; refine w ?_))
      (first | refine VO.pure rfl rfl (PureAt.sliceLH (l := (tl + costT (F.take i) + k) % n * 128) (h := ((tl + costT (F.take i) + k) % n + 1) * 128) tab_ok rfl rfl rfl rfl (by omega) (by omega)) rfl ?_ | refine VD.take rfl rfl rfl (PureAt.sliceLH (l := (tl + costT (F.take i) + k) % n * 128) (h := ((tl + costT (F.take i) + k) % n + 1) * 128) tab_ok rfl rfl rfl rfl (by omega) (by omega)) rfl ?_ | refine VQ.pure rfl rfl (PureAt.sliceLH (l := (tl + costT (F.take i) + k) % n * 128) (h := ((tl + costT (F.take i) + k) % n + 1) * 128) tab_ok rfl rfl rfl rfl (by omega) (by omega)) rfl ?_ | refine VD.end rfl rfl rfl (OpV.pure (PureAt.sliceLH (l := (tl + costT (F.take i) + k) % n * 128) (h := ((tl + costT (F.take i) + k) % n + 1) * 128) tab_ok rfl rfl rfl rfl (by omega) (by omega)) rfl ?_))
      ((first | refine VO.step rfl rfl ?_ | refine VD.end rfl rfl rfl ?_ | refine VD.mid rfl rfl rfl ?_); refine OpV.call rfl rfl (fun _ _ => by simp) (same_any hByt hSec hml) Ent.refl rfl ?_)
      intro _ _
      rw [show decide (rows[k].data = secB data ((tl + costT (F.take i) + k) % n)) = true from decide_eq_true hrk]
      (refine w ?_; repeat ((first | refine VO.step rfl rfl ?_ | refine VD.end rfl rfl rfl ?_ | refine VD.mid rfl rfl rfl ?_); refine OpV.box rfl rfl rfl ?_; intro _; refine w ?_))
      (first | refine VO.pure rfl rfl (PureAt.rem (a := (tl + costT (F.take i) + k) % n + 1) (b := n) rfl rfl (by omega)) rfl ?_ | refine VD.take rfl rfl rfl (PureAt.rem (a := (tl + costT (F.take i) + k) % n + 1) (b := n) rfl rfl (by omega)) rfl ?_ | refine VQ.pure rfl rfl (PureAt.rem (a := (tl + costT (F.take i) + k) % n + 1) (b := n) rfl rfl (by omega)) rfl ?_ | refine VD.end rfl rfl rfl (OpV.pure (PureAt.rem (a := (tl + costT (F.take i) + k) % n + 1) (b := n) rfl rfl (by omega)) rfl ?_))
      (refine w ?_; repeat ((first | refine VO.step rfl rfl ?_ | refine VD.end rfl rfl rfl ?_ | refine VD.mid rfl rfl rfl ?_); refine OpV.box rfl rfl rfl ?_; intro _; refine w ?_))
      exact VE.round (k + 1) (by omega) (by omega) ⟨rfl, rfl, rfl, rfl, asV rfl (by rw [Nat.mod_add_mod, Nat.add_assoc]), rfl, rfl, asV rfl (by congr 1), trivial⟩ Ent.re
    have hke : k = rows.length := by have := of_decide_eq_false hc; omega
    subst hke
    (refine w ?_; repeat ((first | refine VO.step rfl rfl ?_ | refine VD.end rfl rfl rfl ?_ | refine VD.mid rfl rfl rfl ?_); refine OpV.box rfl rfl rfl ?_; intro _; refine w ?_))
    refine VE.round (i + 1) (by omega) (by omega) ⟨rfl, rfl, rfl, rfl, asV rfl ?_, asV rfl (by congr 1), trivial⟩ Ent.re
    rw [List.take_succ_eq_append_getElem hlF, costT_append, show costT [F[i]] = 2 * ts[i].pats.length + 1 by rw [← hTi, costT_cons]; simp [costT, TxnE.T], hrl, Nat.add_assoc]
  have hie : i = ts.length := by have := of_decide_eq_false hc; omega
  subst hie
  refine VC.re 8 (.int .i64 (((tl + costT F) % n : Nat) : Int)) rfl (by rw [hlenT, List.take_length]) ?_
  (refine w ?_; repeat ((first | refine VO.step rfl rfl ?_ | refine VD.end rfl rfl rfl ?_ | refine VD.mid rfl rfl rfl ?_); refine OpV.box rfl rfl rfl ?_; intro _; refine w ?_))
  ((first | refine VO.step rfl rfl ?_ | refine VD.end rfl rfl rfl ?_ | refine VD.mid rfl rfl rfl ?_); refine OpV.call rfl rfl (fun _ _ => by simp) (nknown_ok) Ent.refl rfl ?_)
  intro _ _
  (refine w ?_; repeat ((first | refine VO.step rfl rfl ?_ | refine VD.end rfl rfl rfl ?_ | refine VD.mid rfl rfl rfl ?_); refine OpV.box rfl rfl rfl ?_; intro _; refine w ?_))
  exact VE.done1 rfl (by simp) Ent.re
end Go.Proofs.Ytlojjlbngnaphaa
