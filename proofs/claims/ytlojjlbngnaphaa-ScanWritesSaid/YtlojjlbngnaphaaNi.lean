/- Scan: what the chapter's examples fix: the walk. -/
import Derived.Test.YtlojjlbngnaphaaNh
set_option maxRecDepth 8000
set_option linter.unusedVariables false
set_option linter.unusedSimpArgs false
set_option linter.unusedSectionVars false
namespace Go.Proofs.Ytlojjlbngnaphaa
open Go.RowKit Go.Sl
attribute [local irreducible] Own

set_option maxHeartbeats 1000000 in
theorem nknown_ok {W : World} {R : List SProp} : Does1 W Try.prog 17 [] R (.bool true) R := by
  (refine Does.enter Try.func17 Try.ntmps17 rfl rfl ?_)
  (refine w ?_; repeat ((first | refine VO.step rfl rfl ?_ | refine VD.end rfl rfl rfl ?_ | refine VD.mid rfl rfl rfl ?_); refine OpV.box rfl rfl rfl ?_; intro _; refine w ?_))
  (first | refine VO.step rfl rfl ?_ | refine VD.end rfl rfl rfl ?_ | refine VD.mid rfl rfl rfl ?_)
  refine OpV.makeSlice1 (m := 128) st_55 rfl rfl rfl (by decide) (by decide) rfl ?_
  intro nz
  ((first | apply VO.pure rfl rfl | apply VD.take rfl rfl rfl | (refine VD.end rfl rfl rfl ?_; apply OpV.pure)); apply PureAt.build sb_78 rfl; (simp [buildX, setL, Value.cells]; rfl); rfl)
  (first | refine VO.step rfl rfl ?_ | refine VD.end rfl rfl rfl ?_ | refine VD.mid rfl rfl rfl ?_)
  refine OpV.buildSlice (cs := PatE.cells ⟨0, 0, ⟨some ⟨nz, 0, none⟩, 128, List.replicate 128 0⟩⟩) st_23 rfl rfl (by simp [Value.cells]) (by simp [Value.cells]) (by decide) rfl ?_
  intro np
  ((first | apply VO.pure rfl rfl | apply VD.take rfl rfl rfl | (refine VD.end rfl rfl rfl ?_; apply OpV.pure)); apply PureAt.build sb_25 rfl; (simp [buildX, setL, Value.cells]; rfl); rfl)
  ((first | refine VO.step rfl rfl ?_ | refine VD.end rfl rfl rfl ?_ | refine VD.mid rfl rfl rfl ?_); refine OpV.allocS sb_25 rfl ?_; intro n1)
  (first | refine VO.step rfl rfl ?_ | refine VD.end rfl rfl rfl ?_ | refine VD.mid rfl rfl rfl ?_)
  refine OpV.stA (vs := [.int .u64 1, .slice (some ⟨np, 0, none⟩) 1 1]) tab_ok rfl rfl rfl rfl (by simp [Value.oneCell']) (by (repeat first | exact .head | apply Hole.tail)) (by simp) ?_
  refine VO.ent (H' := Row n1 25 [.int .u64 1, .slice (some ⟨np, 0, none⟩) 1 1] :: Row np 78 (PatE.cells ⟨0, 0, ⟨some ⟨nz, 0, none⟩, 128, List.replicate 128 0⟩⟩) :: OwnB (some ⟨nz, 0, none⟩, 128) (List.replicate 128 0) :: R) ?_ ?_
  · rw [show OwnB (some ⟨nz, 0, none⟩, 128) (List.replicate 128 0) = Sl.Own 5 1 (.slice (some ⟨nz, 0, none⟩) 128 128) 128 (List.replicate 128 (.int .u8 0)) by
      show Sl.Own 5 1 (.slice _ (List.replicate 128 (0 : UInt8)).length 128) (List.replicate 128 (0 : UInt8)).length (bytes (List.replicate 128 0)) = _
      rw [List.length_replicate, show bytes (List.replicate 128 0) = List.replicate 128 (.int .u8 0) by unfold bytes; rw [List.map_replicate]; rfl]]
    exact Ent.re
  (refine w ?_; repeat ((first | refine VO.step rfl rfl ?_ | refine VD.end rfl rfl rfl ?_ | refine VD.mid rfl rfl rfl ?_); refine OpV.box rfl rfl rfl ?_; intro _; refine w ?_))
  have hs : secsM 1 1 ([(⟨0, 0, ⟨some ⟨nz, 0, none⟩, 128, List.replicate 128 0⟩⟩ : PatE)].map PatE.D) = (0, kRows) := secs_fine zeroP_fine
  have hS := sectors_ok (W := W) (R := Row n1 25 [.int .u64 1, .slice (some ⟨np, 0, none⟩) 1 1] :: Row np 78 (PatE.cells ⟨0, 0, ⟨some ⟨nz, 0, none⟩, 128, List.replicate 128 0⟩⟩) :: OwnB (some ⟨nz, 0, none⟩, 128) (List.replicate 128 0) :: R) (ao := some ⟨np, 0, none⟩) (cap := 1) (l := [⟨0, 0, ⟨some ⟨nz, 0, none⟩, 128, List.replicate 128 0⟩⟩]) 1 1 (by decide) (by decide)
    ⟨Rds.row (pats_one [⟨0, 0, ⟨some ⟨nz, 0, none⟩, 128, List.replicate 128 0⟩⟩]) (by (focus repeat first | exact .head _ | apply List.Mem.tail)) (by rfl), fun p hp => by
      rw [List.mem_singleton] at hp; subst hp
      exact Rds.own (bytes_one _) (.tail _ (.tail _ (.head _))) (by simp) (by simp), fun p hp => by
      rw [List.mem_singleton] at hp; subst hp; exact ⟨by simp, by simp⟩⟩ (fun p hp => by
      rw [List.mem_singleton] at hp; subst hp; exact ⟨by simp, by simp, by simp⟩) (show 1 ≤ 140737488351232 by decide)
  rw [hs] at hS
  ((first | refine VO.step rfl rfl ?_ | refine VD.end rfl rfl rfl ?_ | refine VD.mid rfl rfl rfl ?_); refine OpV.call rfl rfl (fun _ _ => by simp) (hS) Ent.refl rfl ?_)
  rintro ⟨⟨xo, xc⟩, rows⟩ hrows
  dsimp only at hrows ⊢
  have hr3 : rows.length = 3 := by rw [← kRows_length, ← hrows, List.length_map]
  refine VO.know (p := xo = none → rows.length = 0) (fun w hw => hw.ownNone (.head _)) ?_
  intro hxn
  obtain ⟨xa, rfl⟩ : ∃ a, xo = some a := by cases xo with | none => have := hxn rfl; omega | some a => exact ⟨a, rfl⟩
  refine VO.know (p := ∀ e ∈ rows, e.ok) (fun w hw => PilR.know hw.tail) ?_
  intro hok
  (refine w ?_; repeat ((first | refine VO.step rfl rfl ?_ | refine VD.end rfl rfl rfl ?_ | refine VD.mid rfl rfl rfl ?_); refine OpV.box rfl rfl rfl ?_; intro _; refine w ?_))
  refine VC.re 26 (.bool false) rfl (by rw [hr3]; rfl) ?_
  (refine w ?_; repeat ((first | refine VO.step rfl rfl ?_ | refine VD.end rfl rfl rfl ?_ | refine VD.mid rfl rfl rfl ?_); refine OpV.box rfl rfl rfl ?_; intro _; refine w ?_))
  (first | refine VO.step rfl rfl ?_ | refine VD.end rfl rfl rfl ?_ | refine VD.mid rfl rfl rfl ?_)
  refine OpV.makeSlice1 (m := 640) st_55 rfl rfl rfl (by decide) (by decide) rfl ?_
  intro nr
  (refine w ?_; repeat ((first | refine VO.step rfl rfl ?_ | refine VD.end rfl rfl rfl ?_ | refine VD.mid rfl rfl rfl ?_); refine OpV.box rfl rfl rfl ?_; intro _; refine w ?_))
  refine VC.loop (α := Nat) (fun i => i ≤ 3) (fun i => Sl.Own 5 1 (.slice (some ⟨nr, 0, none⟩) 640 640) 640 (bytes (kRing i)) :: RowsO (some xa, xc) rows :: PilR rows :: R)
    (fun i => [(2, .slice (some xa) rows.length xc), (4, .slice (some ⟨nr, 0, none⟩) 640 640), (5, .int .i64 i)]) (fun i => 3 - i) rfl 0 (by decide) ?_ ⟨rfl, rfl, rfl, trivial⟩ ?_
  · rw [show bytes (kRing 0) = List.replicate 640 (.int .u8 0) by unfold kRing laidN bytes; rw [List.map_replicate]; rfl]
    exact Ent.re
  intro i hi
  (refine w ?_; repeat ((first | refine VO.step rfl rfl ?_ | refine VD.end rfl rfl rfl ?_ | refine VD.mid rfl rfl rfl ?_); refine OpV.box rfl rfl rfl ?_; intro _; refine w ?_))
  (refine VC.cond rfl rfl ?_ ?_ <;> intro hc)
  · have hlt : i < rows.length := by have := of_decide_eq_true hc; omega
    have hi3 : i < 3 := by omega
    have hki : i < kRows.length := by rw [kRows_length]; exact hi3
    have hrd : rows[i].data = kRows[i] := by
      have h1 : (rows.map RowE.data)[i]? = kRows[i]? := by rw [hrows]
      rw [List.getElem?_map, List.getElem?_eq_getElem hlt, List.getElem?_eq_getElem hki] at h1
      injection h1
    have h128 : rows[i].data.length = 128 := by rw [hrd]; exact kRows_128 _ (List.getElem_mem hki)
    have hro := hok _ (List.getElem_mem hlt)
    obtain ⟨ra, hra⟩ : ∃ a, rows[i].ao = some a := by
      cases h : rows[i].ao with
      | none => have := hro.nil h; omega
      | some a => exact ⟨a, rfl⟩
    have hhd : rows[i].hdr = .slice (some ra) 128 rows[i].cap := by show Value.slice rows[i].ao rows[i].data.length rows[i].cap = _; rw [hra, h128]
    have hRow : ∀ (A : SProp), Rds W (A :: RowsO (some xa, xc) rows :: PilR rows :: R) 1 (some xa) rows.length (rows.map RowE.hdr) := fun A => Rds.own (rowhdr_one _) (.tail _ (.head _)) (by simp) (by simp)
    have hByt : ∀ (A : SProp), Rds W (A :: RowsO (some xa, xc) rows :: PilR rows :: R) 1 (some ra) 128 (bytes kRows[i]) := fun A => by
      have := Rds.pile (W := W) (H := A :: RowsO (some xa, xc) rows :: PilR rows :: R) (.tail _ (.tail _ (.head _))) (List.getElem_mem hlt) (fun R hR => RowE.rds hro hR)
      rw [hra, h128, hrd] at this
      exact this
    (refine w ?_; repeat ((first | refine VO.step rfl rfl ?_ | refine VD.end rfl rfl rfl ?_ | refine VD.mid rfl rfl rfl ?_); refine OpV.box rfl rfl rfl ?_; intro _; refine w ?_))
    (first | refine VO.pure rfl rfl (PureAt.ldR tab_ok rfl rfl (hRow _) (show (rows.map RowE.hdr)[i]? = some (.slice (some ra) 128 rows[i].cap) by rw [List.getElem?_map, List.getElem?_eq_getElem hlt]; exact congrArg some hhd)) rfl ?_ | refine VD.take rfl rfl rfl (PureAt.ldR tab_ok rfl rfl (hRow _) (show (rows.map RowE.hdr)[i]? = some (.slice (some ra) 128 rows[i].cap) by rw [List.getElem?_map, List.getElem?_eq_getElem hlt]; exact congrArg some hhd)) rfl ?_ | refine VQ.pure rfl rfl (PureAt.ldR tab_ok rfl rfl (hRow _) (show (rows.map RowE.hdr)[i]? = some (.slice (some ra) 128 rows[i].cap) by rw [List.getElem?_map, List.getElem?_eq_getElem hlt]; exact congrArg some hhd)) rfl ?_ | refine VD.end rfl rfl rfl (OpV.pure (PureAt.ldR tab_ok rfl rfl (hRow _) (show (rows.map RowE.hdr)[i]? = some (.slice (some ra) 128 rows[i].cap) by rw [List.getElem?_map, List.getElem?_eq_getElem hlt]; exact congrArg some hhd)) rfl ?_))
    (refine w ?_; repeat ((first | refine VO.step rfl rfl ?_ | refine VD.end rfl rfl rfl ?_ | refine VD.mid rfl rfl rfl ?_); refine OpV.box rfl rfl rfl ?_; intro _; refine w ?_))
    have hm5 : (3 + i) % 5 < 5 := Nat.mod_lt _ (by decide)
    have hl640 : ∀ k, k ≤ 128 → (bytes (putP (kRing i) ((3 + i) % 5) kRows[i] k)).length = 640 := fun k hk => by
      rw [bytes_length, putP_length (kRing_length i) hm5 (kRows_128 _ (List.getElem_mem hki)) hk]
    refine VC.loop (α := Nat) (fun k => k ≤ 128) (fun k => Sl.Own 5 1 (.slice (some ⟨nr, 0, none⟩) 640 640) 640 (bytes (putP (kRing i) ((3 + i) % 5) kRows[i] k)) :: RowsO (some xa, xc) rows :: PilR rows :: R)
      (fun k => [(2, .slice (some xa) rows.length xc), (4, .slice (some ⟨nr, 0, none⟩) 640 640), (5, .int .i64 i), (6, .int .i64 k)]) (fun k => 128 - k) rfl 0 (by decide) (by rw [putP_zero]; exact Ent.refl) ⟨rfl, rfl, rfl, rfl, trivial⟩ ?_
    intro k hk
    (refine w ?_; repeat ((first | refine VO.step rfl rfl ?_ | refine VD.end rfl rfl rfl ?_ | refine VD.mid rfl rfl rfl ?_); refine OpV.box rfl rfl rfl ?_; intro _; refine w ?_))
    (refine VC.cond rfl rfl ?_ ?_ <;> intro hc)
    · have hk2 : k < 128 := by have := of_decide_eq_true hc; omega
      have hkr : k < kRows[i].length := by rw [kRows_128 _ (List.getElem_mem hki)]; exact hk2
      (refine w ?_; repeat ((first | refine VO.step rfl rfl ?_ | refine VD.end rfl rfl rfl ?_ | refine VD.mid rfl rfl rfl ?_); refine OpV.box rfl rfl rfl ?_; intro _; refine w ?_))
      (first | refine VO.pure rfl rfl (PureAt.rem (a := 3 + i) (b := 5) rfl rfl (by decide)) rfl ?_ | refine VD.take rfl rfl rfl (PureAt.rem (a := 3 + i) (b := 5) rfl rfl (by decide)) rfl ?_ | refine VQ.pure rfl rfl (PureAt.rem (a := 3 + i) (b := 5) rfl rfl (by decide)) rfl ?_ | refine VD.end rfl rfl rfl (OpV.pure (PureAt.rem (a := 3 + i) (b := 5) rfl rfl (by decide)) rfl ?_))
      (refine w ?_; repeat ((first | refine VO.step rfl rfl ?_ | refine VD.end rfl rfl rfl ?_ | refine VD.mid rfl rfl rfl ?_); refine OpV.box rfl rfl rfl ?_; intro _; refine w ?_))
      (first | refine VO.pure rfl rfl (PureAt.ldR tab_ok rfl rfl (hRow _) (show (rows.map RowE.hdr)[i]? = some (.slice (some ra) 128 rows[i].cap) by rw [List.getElem?_map, List.getElem?_eq_getElem hlt]; exact congrArg some hhd)) rfl ?_ | refine VD.take rfl rfl rfl (PureAt.ldR tab_ok rfl rfl (hRow _) (show (rows.map RowE.hdr)[i]? = some (.slice (some ra) 128 rows[i].cap) by rw [List.getElem?_map, List.getElem?_eq_getElem hlt]; exact congrArg some hhd)) rfl ?_ | refine VQ.pure rfl rfl (PureAt.ldR tab_ok rfl rfl (hRow _) (show (rows.map RowE.hdr)[i]? = some (.slice (some ra) 128 rows[i].cap) by rw [List.getElem?_map, List.getElem?_eq_getElem hlt]; exact congrArg some hhd)) rfl ?_ | refine VD.end rfl rfl rfl (OpV.pure (PureAt.ldR tab_ok rfl rfl (hRow _) (show (rows.map RowE.hdr)[i]? = some (.slice (some ra) 128 rows[i].cap) by rw [List.getElem?_map, List.getElem?_eq_getElem hlt]; exact congrArg some hhd)) rfl ?_))
      (refine w ?_; repeat ((first | refine VO.step rfl rfl ?_ | refine VD.end rfl rfl rfl ?_ | refine VD.mid rfl rfl rfl ?_); refine OpV.box rfl rfl rfl ?_; intro _; refine w ?_))
      (first | refine VO.pure rfl rfl (PureAt.ldR tab_ok rfl rfl (hByt _) (show (bytes kRows[i])[k]? = some (byteV kRows[i][k]) by unfold bytes; rw [List.getElem?_map, List.getElem?_eq_getElem hkr]; rfl)) rfl ?_ | refine VD.take rfl rfl rfl (PureAt.ldR tab_ok rfl rfl (hByt _) (show (bytes kRows[i])[k]? = some (byteV kRows[i][k]) by unfold bytes; rw [List.getElem?_map, List.getElem?_eq_getElem hkr]; rfl)) rfl ?_ | refine VQ.pure rfl rfl (PureAt.ldR tab_ok rfl rfl (hByt _) (show (bytes kRows[i])[k]? = some (byteV kRows[i][k]) by unfold bytes; rw [List.getElem?_map, List.getElem?_eq_getElem hkr]; rfl)) rfl ?_ | refine VD.end rfl rfl rfl (OpV.pure (PureAt.ldR tab_ok rfl rfl (hByt _) (show (bytes kRows[i])[k]? = some (byteV kRows[i][k]) by unfold bytes; rw [List.getElem?_map, List.getElem?_eq_getElem hkr]; rfl)) rfl ?_))
      refine VO.re 50 (.int .i64 ((128 * ((3 + i) % 5) + k : Nat) : Int)) rfl (by congr 1; omega) ?_
      (refine w ?_; repeat ((first | refine VO.step rfl rfl ?_ | refine VD.end rfl rfl rfl ?_ | refine VD.mid rfl rfl rfl ?_); refine OpV.box rfl rfl rfl ?_; intro _; refine w ?_))
      (first | refine VO.step rfl rfl ?_ | refine VD.end rfl rfl rfl ?_ | refine VD.mid rfl rfl rfl ?_)
      refine OpV.stO2 (j := 128 * ((3 + i) % 5) + k) (xs' := bytes (putP (kRing i) ((3 + i) % 5) kRows[i] (k + 1))) tab_ok rfl rfl rfl rfl (by (repeat first | exact .head | apply Hole.tail)) (by rw [hl640 k hk]; omega) ?_ ?_
      · rw [← putP_set (kRing_length i) hm5 (kRows_128 _ (List.getElem_mem hki)) hk2]
        unfold bytes; rw [List.map_set]
      (refine w ?_; repeat ((first | refine VO.step rfl rfl ?_ | refine VD.end rfl rfl rfl ?_ | refine VD.mid rfl rfl rfl ?_); refine OpV.box rfl rfl rfl ?_; intro _; refine w ?_))
      exact VE.round (k + 1) (by omega) (by omega) ⟨rfl, rfl, rfl, asV rfl (by congr 1), trivial⟩ Ent.re
    have hke : k = 128 := by have := of_decide_eq_false hc; omega
    subst hke
    (refine w ?_; repeat ((first | refine VO.step rfl rfl ?_ | refine VD.end rfl rfl rfl ?_ | refine VD.mid rfl rfl rfl ?_); refine OpV.box rfl rfl rfl ?_; intro _; refine w ?_))
    refine VE.round (i + 1) (by omega) (by omega) ⟨rfl, rfl, asV rfl (by congr 1), trivial⟩ ?_
    rw [putP_all (kRows_128 _ (List.getElem_mem hki)), ← kRing_step hi3]
    exact Ent.re
  have hie : i = 3 := by have := of_decide_eq_false hc; omega
  subst hie
  have hl3 : (kRing 3).length = 640 := kRing_length 3
  have hO : ∀ (L : List SProp), Sl.Own 5 1 (.slice (some ⟨nr, 0, none⟩) 640 640) 640 (bytes (kRing 3)) ∈ L → Rds W L 1 (some ⟨nr, 0, none⟩) (kRing 3).length (bytes (kRing 3)) := fun L m => by
    rw [hl3]; exact Rds.own (bytes_one _) m (by rw [bytes_length, hl3]) (by simp)
  (refine w ?_; repeat ((first | refine VO.step rfl rfl ?_ | refine VD.end rfl rfl rfl ?_ | refine VD.mid rfl rfl rfl ?_); refine OpV.box rfl rfl rfl ?_; intro _; refine w ?_))
  refine VO.re 60 (.slice (some ⟨nr, 0, none⟩) (kRing 3).length 640) rfl (by rw [hl3]) ?_
  ((first | apply VO.pure rfl rfl | apply VD.take rfl rfl rfl | (refine VD.end rfl rfl rfl ?_; apply OpV.pure)); apply PureAt.build sb_57 rfl; (simp [buildX, setL, Value.cells]; rfl); rfl)
  have hO1 := of_ok (W := W) (R := Sl.Own 5 1 (.slice (some ⟨nr, 0, none⟩) 640 640) 640 (bytes (kRing 3)) :: RowsO (some xa, xc) rows :: PilR rows :: R) (cap := 640) (hO _ (.head _)) (by rw [hl3]; decide) (by rw [hl3]; decide) ⟨1, 1, 3⟩ ⟨by decide, by decide, by decide⟩
  rw [kFound1] at hO1
  ((first | refine VO.step rfl rfl ?_ | refine VD.end rfl rfl rfl ?_ | refine VD.mid rfl rfl rfl ?_); refine OpV.call rfl rfl (fun _ _ => by simp) (hO1) Ent.refl rfl ?_)
  rintro ⟨⟨o1, c1⟩, ts⟩ hts
  dsimp only at hts ⊢
  have ht1 : ts.length = 1 := by have := congrArg List.length hts; simpa using this
  (refine w ?_; repeat ((first | refine VO.step rfl rfl ?_ | refine VD.end rfl rfl rfl ?_ | refine VD.mid rfl rfl rfl ?_); refine OpV.box rfl rfl rfl ?_; intro _; refine w ?_))
  ((first | refine VO.step rfl rfl ?_ | refine VD.end rfl rfl rfl ?_ | refine VD.mid rfl rfl rfl ?_); refine OpV.allocS sb_61 rfl ?_; intro n7)
  (refine w ?_; repeat ((first | refine VO.step rfl rfl ?_ | refine VD.end rfl rfl rfl ?_ | refine VD.mid rfl rfl rfl ?_); refine OpV.box rfl rfl rfl ?_; intro _; refine w ?_))
  (first | refine VO.step rfl rfl ?_ | refine VD.end rfl rfl rfl ?_ | refine VD.mid rfl rfl rfl ?_)
  refine OpV.stA (vs := [.slice o1 ts.length c1, .int .u64 2, .int .i64 1, .int .i64 3]) tab_ok rfl rfl rfl rfl (by simp [Value.oneCell']) (by (repeat first | exact .head | apply Hole.tail)) (by simp) ?_
  refine VO.ent (H' := Row n7 61 [.slice o1 ts.length c1, .int .u64 2, .int .i64 1, .int .i64 3] :: Sl.Own 5 1 (.slice (some ⟨nr, 0, none⟩) 640 640) 640 (bytes (kRing 3)) :: RowsO (some xa, xc) rows :: PilR rows :: R) Ent.re ?_
  (refine w ?_; repeat ((first | refine VO.step rfl rfl ?_ | refine VD.end rfl rfl rfl ?_ | refine VD.mid rfl rfl rfl ?_); refine OpV.box rfl rfl rfl ?_; intro _; refine w ?_))
  refine VO.re 66 (.slice (some ⟨nr, 0, none⟩) (kRing 3).length 640) rfl (by rw [hl3]) ?_
  ((first | apply VO.pure rfl rfl | apply VD.take rfl rfl rfl | (refine VD.end rfl rfl rfl ?_; apply OpV.pure)); apply PureAt.build sb_57 rfl; (simp [buildX, setL, Value.cells]; rfl); rfl)
  have hO2 := of_ok (W := W) (R := Row n7 61 [.slice o1 ts.length c1, .int .u64 2, .int .i64 1, .int .i64 3] :: Sl.Own 5 1 (.slice (some ⟨nr, 0, none⟩) 640 640) 640 (bytes (kRing 3)) :: RowsO (some xa, xc) rows :: PilR rows :: R) (cap := 640) (hO _ (.tail _ (.head _))) (by rw [hl3]; decide) (by rw [hl3]; decide) ⟨2, 1, 3⟩ ⟨by decide, by decide, by decide⟩
  rw [kFound2] at hO2
  ((first | refine VO.step rfl rfl ?_ | refine VD.end rfl rfl rfl ?_ | refine VD.mid rfl rfl rfl ?_); refine OpV.call rfl rfl (fun _ _ => by simp) (hO2) Ent.refl rfl ?_)
  rintro ⟨⟨o2, c2⟩, us⟩ hus
  dsimp only at hus ⊢
  have ht2 : us.length = 0 := by have := congrArg List.length hus; simpa using this
  (refine w ?_; repeat ((first | refine VO.step rfl rfl ?_ | refine VD.end rfl rfl rfl ?_ | refine VD.mid rfl rfl rfl ?_); refine OpV.box rfl rfl rfl ?_; intro _; refine w ?_))
  ((first | refine VO.step rfl rfl ?_ | refine VD.end rfl rfl rfl ?_ | refine VD.mid rfl rfl rfl ?_); refine OpV.allocS sb_61 rfl ?_; intro n9)
  (refine w ?_; repeat ((first | refine VO.step rfl rfl ?_ | refine VD.end rfl rfl rfl ?_ | refine VD.mid rfl rfl rfl ?_); refine OpV.box rfl rfl rfl ?_; intro _; refine w ?_))
  (first | refine VO.step rfl rfl ?_ | refine VD.end rfl rfl rfl ?_ | refine VD.mid rfl rfl rfl ?_)
  refine OpV.stA (vs := [.slice o2 us.length c2, .int .u64 1, .int .i64 3, .int .i64 0]) tab_ok rfl rfl rfl rfl (by simp [Value.oneCell']) (by (repeat first | exact .head | apply Hole.tail)) (by simp) ?_
  refine VO.ent (H' := Row n9 61 [.slice o2 us.length c2, .int .u64 1, .int .i64 3, .int .i64 0] :: Row n7 61 [.slice o1 ts.length c1, .int .u64 2, .int .i64 1, .int .i64 3] :: R) Ent.re ?_
  rw [ht1, ht2]
  (refine w ?_; repeat ((first | refine VO.step rfl rfl ?_ | refine VD.end rfl rfl rfl ?_ | refine VD.mid rfl rfl rfl ?_); refine OpV.box rfl rfl rfl ?_; intro _; refine w ?_))
  exact VE.done1 rfl rfl Ent.re
end Go.Proofs.Ytlojjlbngnaphaa
