/- Scan: rows laid into a ring: the walk. -/
import Derived.Test.YtlojjlbngnaphaaNm
set_option maxRecDepth 8000
set_option linter.unusedVariables false
set_option linter.unusedSimpArgs false
set_option linter.unusedSectionVars false
namespace Go.Proofs.Ytlojjlbngnaphaa
open Go.RowKit Go.Sl
attribute [local irreducible] Own

theorem rdRows_nil {W : World} {R : List SProp} : RdRows W R Option.none [] :=
  ⟨⟨rfl, by simp, fun _ => rfl, fun _ _ _ h => by cases h⟩, by simp, by simp⟩
theorem laidN_step {ring : List UInt8} {at_ n i : Nat} {rows : List (List UInt8)} (h : ring.length = 128 * n) (hi : i < rows.length) : laidN ring at_ rows (i + 1) = putS (laidN ring at_ rows i) ((at_ + i) % n) rows[i] := by
  rw [laidN, List.getElem?_eq_getElem hi, show ring.length / 128 = n by omega]
set_option maxHeartbeats 1000000 in
theorem nlaid_ok {W : World} {R : List SProp} {ro lo : Option Addr} {rc lc n at_ : Nat} {ring : List UInt8} {l : List RowE} (hr : Rds W R 1 ro ring.length (bytes ring)) (hlr : ring.length = 128 * n) (hn : 0 < n ∧ n ≤ 2048) (hat : at_ ≤ 1000000)
    (hl : RdRows W R lo l) (h128 : ∀ e ∈ l, e.data.length = 128) (hll : l.length ≤ 1000000) :
    Does W Try.prog 27 [.slice ro ring.length rc, .int .i64 at_, .slice lo l.length lc] R (β := Option Addr × Nat) (fun _ => True) (fun x => .slice x.1 (laidN ring at_ (l.map RowE.data) l.length).length x.2) (fun x => OwnB x (laidN ring at_ (l.map RowE.data) l.length) :: R) := by
  have hm128 : ∀ r ∈ l.map RowE.data, r.length = 128 := fun r hr => by obtain ⟨e, he, rfl⟩ := List.mem_map.1 hr; exact h128 e he
  have hnl : ∀ i, (laidN ring at_ (l.map RowE.data) i).length = 128 * n := fun i => laidN_length hlr hn.1 hm128 i
  (refine Does.enter Try.func27 Try.ntmps27 rfl rfl ?_)
  refine VC.ent (fun w hw => hw.ownNil 5 1) ?_
  (refine w ?_; repeat ((first | refine VO.step rfl rfl ?_ | refine VD.end rfl rfl rfl ?_ | refine VD.mid rfl rfl rfl ?_); refine OpV.box rfl rfl rfl ?_; intro _; refine w ?_))
  (first | refine VO.pure rfl rfl (PureAt.quo (a := ring.length) (b := 128) rfl rfl (by decide) (IntWalk.i64_in _ ⟨by omega, by omega⟩)) rfl ?_ | refine VD.take rfl rfl rfl (PureAt.quo (a := ring.length) (b := 128) rfl rfl (by decide) (IntWalk.i64_in _ ⟨by omega, by omega⟩)) rfl ?_ | refine VQ.pure rfl rfl (PureAt.quo (a := ring.length) (b := 128) rfl rfl (by decide) (IntWalk.i64_in _ ⟨by omega, by omega⟩)) rfl ?_ | refine VD.end rfl rfl rfl (OpV.pure (PureAt.quo (a := ring.length) (b := 128) rfl rfl (by decide) (IntWalk.i64_in _ ⟨by omega, by omega⟩)) rfl ?_))
  refine VO.re 14 (.int .i64 n) rfl (by rw [show ring.length / 128 = n by omega]) ?_
  (refine w ?_; repeat ((first | refine VO.step rfl rfl ?_ | refine VD.end rfl rfl rfl ?_ | refine VD.mid rfl rfl rfl ?_); refine OpV.box rfl rfl rfl ?_; intro _; refine w ?_))
  (first | refine VO.step rfl rfl ?_ | refine VD.end rfl rfl rfl ?_ | refine VD.mid rfl rfl rfl ?_)
  refine OpV.append (k := 0) st_55 rfl rfl (by (repeat first | exact .head | apply Hole.tail)) (fun w hw => (hr.sees (cap := rc) hw.tail).src st_55.und) (by simp only [maxLen]; omega) (by omega) rfl ?_
  intro oo oc
  refine VO.ent (H' := Sl.Own 5 1 (.slice oo ring.length oc) ring.length (bytes ring) :: R) (by rw [List.nil_append, Nat.zero_add]; exact Ent.refl) ?_
  refine VO.re 17 (.slice oo ring.length oc) rfl (by rw [Nat.zero_add]) ?_
  refine VO.know (p := oo = none → ring.length = 0) (fun w hw => hw.ownNone (.head _)) ?_
  intro hon
  obtain ⟨oa, rfl⟩ := some_of_pos hon (by omega)
  rw [hlr]
  (refine w ?_; repeat ((first | refine VO.step rfl rfl ?_ | refine VD.end rfl rfl rfl ?_ | refine VD.mid rfl rfl rfl ?_); refine OpV.box rfl rfl rfl ?_; intro _; refine w ?_))
  refine VC.loop (α := Nat) (fun i => i ≤ l.length) (fun i => Sl.Own 5 1 (.slice (some oa) (128 * n) oc) (128 * n) (bytes (laidN ring at_ (l.map RowE.data) i)) :: R)
    (fun i => [(1, .int .i64 at_), (2, .slice lo l.length lc), (7, .int .i64 n), (8, .slice (some oa) ((128 * n : Nat)) oc), (9, .int .i64 i)]) (fun i => l.length - i) rfl 0 (Nat.zero_le _) Ent.refl ⟨rfl, rfl, rfl, rfl, rfl, trivial⟩ ?_
  intro i hi
  (refine w ?_; repeat ((first | refine VO.step rfl rfl ?_ | refine VD.end rfl rfl rfl ?_ | refine VD.mid rfl rfl rfl ?_); refine OpV.box rfl rfl rfl ?_; intro _; refine w ?_))
  (refine VC.cond rfl rfl ?_ ?_ <;> intro hc)
  · have hlt : i < l.length := by have := of_decide_eq_true hc; omega
    obtain ⟨la, rfl⟩ := some_of_pos hl.rds.nil (by omega)
    have hm : (at_ + i) % n < n := Nat.mod_lt _ hn.1
    have h8 := h128 _ (List.getElem_mem hlt)
    have hok := hl.ok _ (List.getElem_mem hlt)
    obtain ⟨ra, hra⟩ := some_of_pos hok.nil (by omega)
    have hhd : l[i].hdr = .slice (some ra) 128 l[i].cap := by show Value.slice l[i].ao l[i].data.length l[i].cap = _; rw [hra, h8]
    have hget : (l.map RowE.hdr)[i]? = some (.slice (some ra) 128 l[i].cap) := by rw [List.getElem?_map, List.getElem?_eq_getElem hlt]; exact congrArg some hhd
    have hByt : Rds W R 1 (some ra) 128 (bytes l[i].data) := by have := hl.each _ (List.getElem_mem hlt); rwa [hra, h8] at this
    have hl640 : ∀ k, k ≤ 128 → (bytes (putP (laidN ring at_ (l.map RowE.data) i) ((at_ + i) % n) l[i].data k)).length = 128 * n := fun k hk => by
      rw [bytes_length, putP_length (hnl i) hm h8 hk]
    (refine w ?_; repeat ((first | refine VO.step rfl rfl ?_ | refine VD.end rfl rfl rfl ?_ | refine VD.mid rfl rfl rfl ?_); refine OpV.box rfl rfl rfl ?_; intro _; refine w ?_))
    (first | refine VO.pure rfl rfl (PureAt.rem (a := at_ + i) (b := n) rfl rfl (by omega)) rfl ?_ | refine VD.take rfl rfl rfl (PureAt.rem (a := at_ + i) (b := n) rfl rfl (by omega)) rfl ?_ | refine VQ.pure rfl rfl (PureAt.rem (a := at_ + i) (b := n) rfl rfl (by omega)) rfl ?_ | refine VD.end rfl rfl rfl (OpV.pure (PureAt.rem (a := at_ + i) (b := n) rfl rfl (by omega)) rfl ?_))
    (refine w ?_; repeat ((first | refine VO.step rfl rfl ?_ | refine VD.end rfl rfl rfl ?_ | refine VD.mid rfl rfl rfl ?_); refine OpV.box rfl rfl rfl ?_; intro _; refine w ?_))
    refine VC.loop (α := Nat) (fun k => k ≤ 128) (fun k => Sl.Own 5 1 (.slice (some oa) (128 * n) oc) (128 * n) (bytes (putP (laidN ring at_ (l.map RowE.data) i) ((at_ + i) % n) l[i].data k)) :: R)
      (fun k => [(1, .int .i64 at_), (2, .slice (some la) l.length lc), (7, .int .i64 n), (8, .slice (some oa) ((128 * n : Nat)) oc), (9, .int .i64 i), (10, .int .i64 ((((at_ + i) % n * 128 : Nat)))), (11, .int .i64 k)]) (fun k => 128 - k) rfl 0 (by decide) (by rw [putP_zero]; exact Ent.refl) ⟨rfl, rfl, rfl, rfl, rfl, rfl, rfl, trivial⟩ ?_
    intro k hk
    (refine w ?_; repeat ((first | refine VO.step rfl rfl ?_ | refine VD.end rfl rfl rfl ?_ | refine VD.mid rfl rfl rfl ?_); refine OpV.box rfl rfl rfl ?_; intro _; refine w ?_))
    ((first | refine VO.split rfl rfl rfl ?_ ?_ | refine VD.split rfl rfl rfl ?_ ?_) <;> intro hb)
    · have hk2 : k < 128 := by have := of_decide_eq_true hb; omega
      (refine w ?_; repeat ((first | refine VO.step rfl rfl ?_ | refine VD.end rfl rfl rfl ?_ | refine VD.mid rfl rfl rfl ?_); refine OpV.box rfl rfl rfl ?_; intro _; refine w ?_))
      (first | refine VO.pure rfl rfl (PureAt.ldR tab_ok rfl rfl (hl.rds.ent (Ent.drop Ent.refl)) hget) rfl ?_ | refine VD.take rfl rfl rfl (PureAt.ldR tab_ok rfl rfl (hl.rds.ent (Ent.drop Ent.refl)) hget) rfl ?_ | refine VQ.pure rfl rfl (PureAt.ldR tab_ok rfl rfl (hl.rds.ent (Ent.drop Ent.refl)) hget) rfl ?_ | refine VD.end rfl rfl rfl (OpV.pure (PureAt.ldR tab_ok rfl rfl (hl.rds.ent (Ent.drop Ent.refl)) hget) rfl ?_))
      (refine w ?_; repeat ((first | refine VO.step rfl rfl ?_ | refine VD.end rfl rfl rfl ?_ | refine VD.mid rfl rfl rfl ?_); refine OpV.box rfl rfl rfl ?_; intro _; refine w ?_))
      (refine VC.condTe rfl rfl (decide_eq_true (by omega)) ?_)
      (refine w ?_; repeat ((first | refine VO.step rfl rfl ?_ | refine VD.end rfl rfl rfl ?_ | refine VD.mid rfl rfl rfl ?_); refine OpV.box rfl rfl rfl ?_; intro _; refine w ?_))
      (first | refine VO.pure rfl rfl (PureAt.ldR tab_ok rfl rfl (hl.rds.ent (Ent.drop Ent.refl)) hget) rfl ?_ | refine VD.take rfl rfl rfl (PureAt.ldR tab_ok rfl rfl (hl.rds.ent (Ent.drop Ent.refl)) hget) rfl ?_ | refine VQ.pure rfl rfl (PureAt.ldR tab_ok rfl rfl (hl.rds.ent (Ent.drop Ent.refl)) hget) rfl ?_ | refine VD.end rfl rfl rfl (OpV.pure (PureAt.ldR tab_ok rfl rfl (hl.rds.ent (Ent.drop Ent.refl)) hget) rfl ?_))
      (refine w ?_; repeat ((first | refine VO.step rfl rfl ?_ | refine VD.end rfl rfl rfl ?_ | refine VD.mid rfl rfl rfl ?_); refine OpV.box rfl rfl rfl ?_; intro _; refine w ?_))
      (first | refine VO.pure rfl rfl (PureAt.ldR tab_ok rfl rfl (hByt.ent (Ent.drop Ent.refl)) (show (bytes l[i].data)[k]? = some (byteV (l[i].data[k]'(by omega))) by unfold bytes; rw [List.getElem?_map, List.getElem?_eq_getElem (by omega)]; rfl)) rfl ?_ | refine VD.take rfl rfl rfl (PureAt.ldR tab_ok rfl rfl (hByt.ent (Ent.drop Ent.refl)) (show (bytes l[i].data)[k]? = some (byteV (l[i].data[k]'(by omega))) by unfold bytes; rw [List.getElem?_map, List.getElem?_eq_getElem (by omega)]; rfl)) rfl ?_ | refine VQ.pure rfl rfl (PureAt.ldR tab_ok rfl rfl (hByt.ent (Ent.drop Ent.refl)) (show (bytes l[i].data)[k]? = some (byteV (l[i].data[k]'(by omega))) by unfold bytes; rw [List.getElem?_map, List.getElem?_eq_getElem (by omega)]; rfl)) rfl ?_ | refine VD.end rfl rfl rfl (OpV.pure (PureAt.ldR tab_ok rfl rfl (hByt.ent (Ent.drop Ent.refl)) (show (bytes l[i].data)[k]? = some (byteV (l[i].data[k]'(by omega))) by unfold bytes; rw [List.getElem?_map, List.getElem?_eq_getElem (by omega)]; rfl)) rfl ?_))
      refine VO.re 46 (.int .i64 ((128 * ((at_ + i) % n) + k : Nat) : Int)) rfl (by congr 1; omega) ?_
      (refine w ?_; repeat ((first | refine VO.step rfl rfl ?_ | refine VD.end rfl rfl rfl ?_ | refine VD.mid rfl rfl rfl ?_); refine OpV.box rfl rfl rfl ?_; intro _; refine w ?_))
      (first | refine VO.step rfl rfl ?_ | refine VD.end rfl rfl rfl ?_ | refine VD.mid rfl rfl rfl ?_)
      refine OpV.stO2 (j := 128 * ((at_ + i) % n) + k) (xs' := bytes (putP (laidN ring at_ (l.map RowE.data) i) ((at_ + i) % n) l[i].data (k + 1))) tab_ok rfl rfl rfl rfl (by (repeat first | exact .head | apply Hole.tail)) (by rw [hl640 k hk]; omega) ?_ ?_
      · rw [← putP_set (hnl i) hm h8 hk2]
        unfold bytes; rw [List.map_set]
      (refine w ?_; repeat ((first | refine VO.step rfl rfl ?_ | refine VD.end rfl rfl rfl ?_ | refine VD.mid rfl rfl rfl ?_); refine OpV.box rfl rfl rfl ?_; intro _; refine w ?_))
      exact VE.round (k + 1) (by omega) (by omega) ⟨rfl, rfl, rfl, rfl, rfl, rfl, asV rfl (by congr 1), trivial⟩ Ent.re
    have hke : k = 128 := by have := of_decide_eq_false hb; omega
    subst hke
    (refine w ?_; repeat ((first | refine VO.step rfl rfl ?_ | refine VD.end rfl rfl rfl ?_ | refine VD.mid rfl rfl rfl ?_); refine OpV.box rfl rfl rfl ?_; intro _; refine w ?_))
    refine VE.round (i + 1) (by omega) (by omega) ⟨rfl, rfl, rfl, rfl, asV rfl (by congr 1), trivial⟩ ?_
    rw [putP_all h8, laidN_step hlr (by rw [List.length_map]; exact hlt), List.getElem_map]
    exact Ent.re
  have hie : i = l.length := by have := of_decide_eq_false hc; omega
  subst hie
  (refine w ?_; repeat ((first | refine VO.step rfl rfl ?_ | refine VD.end rfl rfl rfl ?_ | refine VD.mid rfl rfl rfl ?_); refine OpV.box rfl rfl rfl ?_; intro _; refine w ?_))
  refine VE.done (some oa, oc) rfl trivial ?_ ?_
  · rw [hnl]
  · show Ent W _ (Sl.Own 5 1 (.slice (some oa) (laidN ring at_ (l.map RowE.data) l.length).length oc) (laidN ring at_ (l.map RowE.data) l.length).length (bytes (laidN ring at_ (l.map RowE.data) l.length)) :: R)
    rw [hnl]
    exact Ent.re
end Go.Proofs.Ytlojjlbngnaphaa
