/- ScanForged: what a batch writes can't be taken for the journal's own: the walk. -/
import Derived.Test.YtlojjlbngnaphaaNo
set_option maxRecDepth 8000
set_option linter.unusedVariables false
set_option linter.unusedSimpArgs false
set_option linter.unusedSectionVars false
namespace Go.Proofs.Ytlojjlbngnaphaa
open Go.RowKit Go.Sl
attribute [local irreducible] Own

theorem RdRows.sub {W : World} {H : List SProp} {x : Option Addr × Nat} {l m : List RowE} (hn : x.1 = none → l.length = 0) (hok : ∀ e ∈ m, e.ok) (hs : ∀ e ∈ l, e ∈ m) (m1 : RowsO x l ∈ H) (m2 : PilR m ∈ H) : RdRows W H x.1 l :=
  ⟨Rds.own (rowhdr_one _) m1 (by simp) hn, fun e he => Rds.pile m2 (hs e he) (fun R hR => RowE.rds (hok e (hs e he)) hR), fun e he => hok e (hs e he)⟩
theorem RdPats.sub {W : World} {H : List SProp} {x : Option Addr × Nat} {l : List PatE} {m : List RowE} (hn : x.1 = none → l.length = 0) (hok : ∀ e ∈ m, e.ok) (hs : ∀ p ∈ l, p.d ∈ m) (m1 : PatsO x l ∈ H) (m2 : PilR m ∈ H) : RdPats W H x.1 l :=
  ⟨Rds.own (pats_one _) m1 (pats_len l) hn, fun p hp => Rds.pile m2 (hs p hp) (fun R hR => RowE.rds (hok _ (hs p hp)) hR), fun p hp => hok _ (hs p hp)⟩
/-- A batch whose data are the sectors of another one. -/
def asPats (l : List RowE) : List PatE := l.mapIdx fun j e => ⟨1, j, e⟩
theorem asPats_length (l : List RowE) : (asPats l).length = l.length := by simp [asPats]
theorem asPats_snoc (l : List RowE) (e : RowE) : asPats (l ++ [e]) = asPats l ++ [⟨1, l.length, e⟩] := by simp [asPats, List.mapIdx_concat]
theorem asPats_mem {l : List RowE} {p : PatE} (h : p ∈ asPats l) : p.d ∈ l ∧ p.member = 1 ∧ 0 ≤ p.row ∧ p.row < l.length := by
  obtain ⟨j, hj, rfl⟩ := List.mem_iff_getElem.1 h
  have hj' : j < l.length := by rwa [asPats_length] at hj
  have e : (asPats l)[j] = ⟨1, j, l[j]⟩ := by simp [asPats]
  rw [e]
  exact ⟨List.getElem_mem hj', rfl, Int.natCast_nonneg _, by show ((j : Nat) : Int) < l.length; omega⟩
theorem asPats_get {l : List RowE} {j : Nat} (h : j < l.length) : ((asPats l).map PatE.D)[j]? = some ⟨1, j, l[j].data⟩ := by
  simp [asPats, List.getElem?_eq_getElem h]
theorem patCells_snoc (l : List PatE) (p : PatE) : patCells (l ++ [p]) = patCells l ++ p.cells := by simp [patCells]

theorem bytes_zero (m : Nat) : bytes (List.replicate m 0) = List.replicate m (.int .u8 0) := by unfold bytes; rw [List.map_replicate]; rfl
set_option maxHeartbeats 2000000 in
theorem forged_law {W : World} {R : List SProp} {io : Option Addr} {ic sq : Nat} {l : List PatE} (hsq : sq < 65536) (hp : RdPats W R io l) (hfit : ∀ p ∈ l, p.fit) (hlen : l.length ≤ 140737488351232) :
    Does1 W Try.prog 6 [.int .u16 sq, .slice io l.length ic] R (.bool true) R := by
  (refine Does.enter Try.func6 Try.ntmps6 rfl rfl ?_)
  (refine w ?_; repeat ((first | refine VO.step rfl rfl ?_ | refine VD.end rfl rfl rfl ?_ | refine VD.mid rfl rfl rfl ?_); refine OpV.box rfl rfl rfl ?_; intro _; refine w ?_))
  ((first | refine VO.step rfl rfl ?_ | refine VD.end rfl rfl rfl ?_ | refine VD.mid rfl rfl rfl ?_); refine OpV.call rfl rfl (fun _ _ => by simp) (nknown_ok) Ent.refl rfl ?_)
  intro _ _
  (refine w ?_; repeat ((first | refine VO.step rfl rfl ?_ | refine VD.end rfl rfl rfl ?_ | refine VD.mid rfl rfl rfl ?_); refine OpV.box rfl rfl rfl ?_; intro _; refine w ?_))
  ((first | refine VO.split rfl rfl rfl ?_ ?_ | refine VD.split rfl rfl rfl ?_ ?_) <;> intro hb)
  · (refine w ?_; repeat ((first | refine VO.step rfl rfl ?_ | refine VD.end rfl rfl rfl ?_ | refine VD.mid rfl rfl rfl ?_); refine OpV.box rfl rfl rfl ?_; intro _; refine w ?_))
    ((first | refine VO.step rfl rfl ?_ | refine VD.end rfl rfl rfl ?_ | refine VD.mid rfl rfl rfl ?_); refine OpV.call rfl rfl (fun _ _ => by simp) (nknown_ok) Ent.refl rfl ?_)
    intro _ _
    (refine w ?_; repeat ((first | refine VO.step rfl rfl ?_ | refine VD.end rfl rfl rfl ?_ | refine VD.mid rfl rfl rfl ?_); refine OpV.box rfl rfl rfl ?_; intro _; refine w ?_))
    exact VE.done1 rfl rfl Ent.re
  (refine w ?_; repeat ((first | refine VO.step rfl rfl ?_ | refine VD.end rfl rfl rfl ?_ | refine VD.mid rfl rfl rfl ?_); refine OpV.box rfl rfl rfl ?_; intro _; refine w ?_))
  ((first | refine VO.split rfl rfl rfl ?_ ?_ | refine VD.split rfl rfl rfl ?_ ?_) <;> intro hb)
  · (refine w ?_; repeat ((first | refine VO.step rfl rfl ?_ | refine VD.end rfl rfl rfl ?_ | refine VD.mid rfl rfl rfl ?_); refine OpV.box rfl rfl rfl ?_; intro _; refine w ?_))
    ((first | refine VO.step rfl rfl ?_ | refine VD.end rfl rfl rfl ?_ | refine VD.mid rfl rfl rfl ?_); refine OpV.call rfl rfl (fun _ _ => by simp) (nknown_ok) Ent.refl rfl ?_)
    intro _ _
    (refine w ?_; repeat ((first | refine VO.step rfl rfl ?_ | refine VD.end rfl rfl rfl ?_ | refine VD.mid rfl rfl rfl ?_); refine OpV.box rfl rfl rfl ?_; intro _; refine w ?_))
    exact VE.done1 rfl rfl Ent.re
  rename_i hb1
  have hl1 : 1 ≤ l.length := by have := of_decide_eq_false hb1; omega
  have hl20 : l.length ≤ 20 := by have := of_decide_eq_false hb; omega
  clear hb hb1
  (refine w ?_; repeat ((first | refine VO.step rfl rfl ?_ | refine VD.end rfl rfl rfl ?_ | refine VD.mid rfl rfl rfl ?_); refine OpV.box rfl rfl rfl ?_; intro _; refine w ?_))
  ((first | refine VO.step rfl rfl ?_ | refine VD.end rfl rfl rfl ?_ | refine VD.mid rfl rfl rfl ?_); refine OpV.call rfl rfl (fun _ _ => by simp) (nmuch_ok hlen hfit hp) Ent.refl rfl ?_)
  intro b hfew
  (refine w ?_; repeat ((first | refine VO.step rfl rfl ?_ | refine VD.end rfl rfl rfl ?_ | refine VD.mid rfl rfl rfl ?_); refine OpV.box rfl rfl rfl ?_; intro _; refine w ?_))
  (refine VC.cond rfl rfl ?_ ?_ <;> intro hc)
  · (refine w ?_; repeat ((first | refine VO.step rfl rfl ?_ | refine VD.end rfl rfl rfl ?_ | refine VD.mid rfl rfl rfl ?_); refine OpV.box rfl rfl rfl ?_; intro _; refine w ?_))
    ((first | refine VO.step rfl rfl ?_ | refine VD.end rfl rfl rfl ?_ | refine VD.mid rfl rfl rfl ?_); refine OpV.call rfl rfl (fun _ _ => by simp) (nknown_ok) Ent.refl rfl ?_)
    intro _ _
    (refine w ?_; repeat ((first | refine VO.step rfl rfl ?_ | refine VD.end rfl rfl rfl ?_ | refine VD.mid rfl rfl rfl ?_); refine OpV.box rfl rfl rfl ?_; intro _; refine w ?_))
    exact VE.done1 rfl rfl Ent.re
  have hfew := hfew hc
  clear hc
  (refine w ?_; repeat ((first | refine VO.step rfl rfl ?_ | refine VD.end rfl rfl rfl ?_ | refine VD.mid rfl rfl rfl ?_); refine OpV.box rfl rfl rfl ?_; intro _; refine w ?_))
  have hw2 : Value.int .u64 (IntKind.u64.wrap (IntKind.u64.wrap (sq : Int) + 2)) = .int .u64 ((sq + 2 : Nat) : Int) := by
    rw [wrap64_of (by omega), show ((sq : Int) + 2) = ((sq + 2 : Nat) : Int) by omega, wrap64_of (by omega)]
  refine VO.re 5 (.int .u64 ((sq + 2 : Nat) : Int)) rfl hw2 ?_
  refine VO.re 38 (.int .u64 ((sq + 2 : Nat) : Int)) rfl hw2 ?_
  (apply VO.pure rfl rfl; apply PureAt.build sb_25 rfl; (simp [buildX, setL, Value.cells]; rfl); rfl)
  have hS := sectors_ok (W := W) (R := R) (cap := ic) 9 (sq + 2) (by omega) (by omega) hp hfit hlen
  ((first | refine VO.step rfl rfl ?_ | refine VD.end rfl rfl rfl ?_ | refine VD.mid rfl rfl rfl ?_); refine OpV.call rfl rfl (fun _ _ => by simp) (hS) Ent.refl rfl ?_)
  rintro ⟨⟨xo, xc⟩, rows⟩ hrows
  dsimp only at hrows ⊢
  (refine w ?_; repeat ((first | refine VO.step rfl rfl ?_ | refine VD.end rfl rfl rfl ?_ | refine VD.mid rfl rfl rfl ?_); refine OpV.box rfl rfl rfl ?_; intro _; refine w ?_))
  (refine VC.cond rfl rfl ?_ ?_ <;> intro hc)
  · (refine w ?_; repeat ((first | refine VO.step rfl rfl ?_ | refine VD.end rfl rfl rfl ?_ | refine VD.mid rfl rfl rfl ?_); refine OpV.box rfl rfl rfl ?_; intro _; refine w ?_))
    exact VE.done1 rfl rfl Ent.re
  have hfine : Fine 9 (sq + 2) (l.map PatE.D) := secs_ok (by simpa using hc)
  clear hc
  rw [secs_fine hfine] at hrows ⊢
  dsimp only at hrows ⊢
  have hrl : rows.length = 2 * l.length + 1 := by have := congrArg List.length hrows; rwa [List.length_map, rowsP_length, List.length_map] at this
  have hr128 : ∀ e ∈ rows, e.data.length = 128 := fun e he => rowsP_128 hfine _ (by rw [← hrows]; exact List.mem_map_of_mem he)
  refine VC.know (p := ∀ e ∈ rows, e.ok) (fun w hw => PilR.know hw.tail) ?_
  intro hok
  refine VC.know (p := xo = none → rows.length = 0) (fun w hw => hw.ownNone (.head _)) ?_
  intro hxn
  obtain ⟨xa, rfl⟩ := some_of_pos hxn (by omega)
  (refine w ?_; repeat ((first | refine VO.step rfl rfl ?_ | refine VD.end rfl rfl rfl ?_ | refine VD.mid rfl rfl rfl ?_); refine OpV.box rfl rfl rfl ?_; intro _; refine w ?_))
  refine VC.loop (α := Nat × (Option Addr × Nat)) (fun y => y.1 ≤ rows.length) (fun y => PatsO y.2 (asPats (rows.take y.1)) :: RowsO (some xa, xc) rows :: PilR rows :: R)
    (fun y => [(5, .int .u64 ((sq + 2 : Nat) : Int)), (6, .slice (some xa) rows.length xc), (8, .slice y.2.1 y.1 y.2.2), (9, .int .i64 y.1)]) (fun y => rows.length - y.1) rfl (0, none, 0) (Nat.zero_le _)
    (by rw [List.take_zero]; exact fun w hw => hw.ownNil 78 3) ⟨rfl, rfl, rfl, rfl, trivial⟩ ?_
  rintro ⟨i, po, pc⟩ hi
  dsimp only at hi ⊢
  have htl : (asPats (rows.take i)).length = i := by rw [asPats_length, List.length_take]; omega
  rw [show PatsO (po, pc) (asPats (rows.take i)) = Sl.Own 78 3 (.slice po i pc) i (patCells (asPats (rows.take i))) by show Sl.Own _ _ (.slice po (asPats (rows.take i)).length pc) (asPats (rows.take i)).length _ = _; rw [htl]]
  (refine w ?_; repeat ((first | refine VO.step rfl rfl ?_ | refine VD.end rfl rfl rfl ?_ | refine VD.mid rfl rfl rfl ?_); refine OpV.box rfl rfl rfl ?_; intro _; refine w ?_))
  (refine VC.cond rfl rfl ?_ ?_ <;> intro hc)
  · have hlt : i < rows.length := by have := of_decide_eq_true hc; omega
    have hRow : Rds W (Sl.Own 78 3 (.slice po i pc) i (patCells (asPats (rows.take i))) :: RowsO (some xa, xc) rows :: PilR rows :: R) 1 (some xa) rows.length (rows.map RowE.hdr) := Rds.own (rowhdr_one _) (.tail _ (.head _)) (by simp) (by simp)
    (refine w ?_; repeat ((first | refine VO.step rfl rfl ?_ | refine VD.end rfl rfl rfl ?_ | refine VD.mid rfl rfl rfl ?_); refine OpV.box rfl rfl rfl ?_; intro _; refine w ?_))
    (first | refine VO.pure rfl rfl (PureAt.ldR tab_ok rfl rfl hRow (show (rows.map RowE.hdr)[i]? = some rows[i].hdr by rw [List.getElem?_map, List.getElem?_eq_getElem hlt]; rfl)) rfl ?_ | refine VD.take rfl rfl rfl (PureAt.ldR tab_ok rfl rfl hRow (show (rows.map RowE.hdr)[i]? = some rows[i].hdr by rw [List.getElem?_map, List.getElem?_eq_getElem hlt]; rfl)) rfl ?_ | refine VQ.pure rfl rfl (PureAt.ldR tab_ok rfl rfl hRow (show (rows.map RowE.hdr)[i]? = some rows[i].hdr by rw [List.getElem?_map, List.getElem?_eq_getElem hlt]; rfl)) rfl ?_ | refine VD.end rfl rfl rfl (OpV.pure (PureAt.ldR tab_ok rfl rfl hRow (show (rows.map RowE.hdr)[i]? = some rows[i].hdr by rw [List.getElem?_map, List.getElem?_eq_getElem hlt]; rfl)) rfl ?_))
    (apply VO.pure rfl rfl; apply PureAt.build sb_78 rfl; (simp [buildX, setL, Value.cells]; rfl); rfl)
    (first | refine VO.step rfl rfl ?_ | refine VD.end rfl rfl rfl ?_ | refine VD.mid rfl rfl rfl ?_)
    refine OpV.buildSlice (cs := PatE.cells ⟨1, i, rows[i]⟩) st_23 rfl rfl (by simp [Value.cells]) (by simp [Value.cells]) (by decide) rfl ?_
    intro nb
    (first | refine VO.step rfl rfl ?_ | refine VD.end rfl rfl rfl ?_ | refine VD.mid rfl rfl rfl ?_)
    refine OpV.appendRow st_23 rfl rfl (by (repeat first | exact .head | apply Hole.tail)) (by (focus repeat first | exact .head _ | apply List.Mem.tail)) rfl (pat_one _) (by simp only [maxLen]; omega) (by omega) rfl ?_
    intro so sc
    (refine w ?_; repeat ((first | refine VO.step rfl rfl ?_ | refine VD.end rfl rfl rfl ?_ | refine VD.mid rfl rfl rfl ?_); refine OpV.box rfl rfl rfl ?_; intro _; refine w ?_))
    refine VE.round (i + 1, so, sc) hlt (by simp only; omega) ⟨rfl, rfl, asV rfl rfl, asV rfl (by congr 1), trivial⟩ ?_
    dsimp only
    rw [List.take_succ_eq_append_getElem hlt, asPats_snoc, List.length_take, Nat.min_eq_left (by omega), show PatsO (so, sc) (asPats (rows.take i) ++ [⟨1, i, rows[i]⟩]) = Sl.Own 78 3 (.slice so (i + 1) sc) (i + 1) (patCells (asPats (rows.take i)) ++ PatE.cells ⟨1, i, rows[i]⟩) by
      show Sl.Own _ _ (.slice so (asPats (rows.take i) ++ [_]).length sc) (asPats (rows.take i) ++ [_]).length _ = _
      rw [List.length_append, htl, patCells_snoc]; rfl]
    exact Ent.re
  have hie : i = rows.length := by have := of_decide_eq_false hc; omega
  subst hie
  clear hc
  rw [List.take_length] at htl ⊢
  rw [show Sl.Own 78 3 (.slice po rows.length pc) rows.length (patCells (asPats rows)) = PatsO (po, pc) (asPats rows) by show _ = Sl.Own _ _ (.slice po (asPats rows).length pc) (asPats rows).length _; rw [htl]]
  refine VC.know (p := po = none → (asPats rows).length = 0) (fun w hw => hw.ownNone (.head _)) ?_
  intro hpn
  (refine w ?_; repeat ((first | refine VO.step rfl rfl ?_ | refine VD.end rfl rfl rfl ?_ | refine VD.mid rfl rfl rfl ?_); refine OpV.box rfl rfl rfl ?_; intro _; refine w ?_))
  refine VO.re 63 (.int .u64 ((sq + 1 : Nat) : Int)) rfl (by
    show Value.int .u64 (IntKind.u64.wrap (((sq + 2 : Nat) : Int) - 1)) = _
    rw [show (((sq + 2 : Nat) : Int) - 1) = ((sq + 1 : Nat) : Int) by omega, wrap64_of (by omega)]) ?_
  refine VO.re 64 (.slice po (asPats rows).length pc) rfl (by rw [htl]) ?_
  (refine w ?_; repeat ((first | refine VO.step rfl rfl ?_ | refine VD.end rfl rfl rfl ?_ | refine VD.mid rfl rfl rfl ?_); refine OpV.box rfl rfl rfl ?_; intro _; refine w ?_))
  (apply VO.pure rfl rfl; apply PureAt.build sb_25 rfl; (simp [buildX, setL, Value.cells]; rfl); rfl)
  have hfine2 : Fine 9 (sq + 1) ((asPats rows).map PatE.D) := by
    refine ⟨⟨by decide, by omega, by omega⟩, by rw [List.length_map]; omega, by rw [List.length_map]; omega, fun q hq => ?_⟩
    obtain ⟨p, hp, rfl⟩ := List.mem_map.1 hq
    obtain ⟨h1, h2, h3, h4⟩ := asPats_mem hp
    exact ⟨by show 0 ≤ p.member ∧ p.member ≤ 15; omega, by show 0 ≤ p.row ∧ p.row ≤ 4095; omega, hr128 _ h1⟩
  have hS2 := sectors_ok (W := W) (R := PatsO (po, pc) (asPats rows) :: RowsO (some xa, xc) rows :: PilR rows :: R) (cap := pc) 9 (sq + 1) (by omega) (by omega) (RdPats.sub (x := (po, pc)) hpn hok (fun p hp => (asPats_mem hp).1) (.head _) (.tail _ (.tail _ (.head _))))
    (fun p hp => by obtain ⟨h1, h2, h3, h4⟩ := asPats_mem hp; exact ⟨by omega, by omega, by have := hr128 _ h1; omega⟩) (by omega)
  rw [secs_fine hfine2] at hS2
  ((first | refine VO.step rfl rfl ?_ | refine VD.end rfl rfl rfl ?_ | refine VD.mid rfl rfl rfl ?_); refine OpV.call rfl rfl (fun _ _ => by simp) (hS2) Ent.refl rfl ?_)
  rintro ⟨⟨yo, yc⟩, rows2⟩ hrows2
  dsimp only at hrows2 ⊢
  have hrl2 : rows2.length = 2 * rows.length + 1 := by have := congrArg List.length hrows2; rwa [List.length_map, rowsP_length, List.length_map, asPats_length] at this
  refine VO.know (p := ∀ e ∈ rows2, e.ok) (fun w hw => PilR.know hw.tail) ?_
  intro hok2
  refine VO.know (p := yo = none → rows2.length = 0) (fun w hw => hw.ownNone (.head _)) ?_
  intro hyn
  obtain ⟨ya, rfl⟩ := some_of_pos hyn (by omega)
  (refine w ?_; repeat ((first | refine VO.step rfl rfl ?_ | refine VD.end rfl rfl rfl ?_ | refine VD.mid rfl rfl rfl ?_); refine OpV.box rfl rfl rfl ?_; intro _; refine w ?_))
  refine VC.loop (α := Nat × List RowE × (Option Addr × Nat)) (fun y => y.1 ≤ rows.length ∧ y.2.1.length = y.1 ∧ (∀ e ∈ y.2.1, e ∈ rows2) ∧ y.2.1.map RowE.data = ((rows.map RowE.data).take y.1).map escM) (fun y => RowsO y.2.2 y.2.1 :: RowsO (some ya, yc) rows2 :: PilR rows2 :: R)
    (fun y => [(5, .int .u64 ((sq + 2 : Nat) : Int)), (10, .slice (some ya) rows2.length yc), (12, .slice y.2.2.1 y.1 y.2.2.2), (13, .int .i64 ((2 * y.1 + 1 : Nat) : Int))]) (fun y => rows.length - y.1) rfl (0, [], none, 0) ⟨Nat.zero_le _, rfl, by simp, by simp⟩
    (Ent.trans (Ent.re (L := RowsO (some ya, yc) rows2 :: PilR rows2 :: R)) (fun w hw => hw.ownNil 55 1)) ⟨rfl, rfl, rfl, rfl, trivial⟩ ?_
  rintro ⟨m, dl, dro, drc⟩ ⟨hm, hdl, hdm, hdd⟩
  dsimp only at hm hdl hdm hdd ⊢
  subst hdl
  (refine w ?_; repeat ((first | refine VO.step rfl rfl ?_ | refine VD.end rfl rfl rfl ?_ | refine VD.mid rfl rfl rfl ?_); refine OpV.box rfl rfl rfl ?_; intro _; refine w ?_))
  (refine VC.cond rfl rfl ?_ ?_ <;> intro hc)
  · have hlt : dl.length < rows.length := by have := of_decide_eq_true hc; omega
    have hlt2 : 2 * dl.length + 1 < rows2.length := by omega
    have hRow : Rds W (RowsO (dro, drc) dl :: RowsO (some ya, yc) rows2 :: PilR rows2 :: R) 1 (some ya) rows2.length (rows2.map RowE.hdr) := Rds.own (rowhdr_one _) (.tail _ (.head _)) (by simp) (by simp)
    (refine w ?_; repeat ((first | refine VO.step rfl rfl ?_ | refine VD.end rfl rfl rfl ?_ | refine VD.mid rfl rfl rfl ?_); refine OpV.box rfl rfl rfl ?_; intro _; refine w ?_))
    (first | refine VO.pure rfl rfl (PureAt.ldR tab_ok rfl rfl hRow (show (rows2.map RowE.hdr)[2 * dl.length + 1]? = some rows2[2 * dl.length + 1].hdr by rw [List.getElem?_map, List.getElem?_eq_getElem hlt2]; rfl)) rfl ?_ | refine VD.take rfl rfl rfl (PureAt.ldR tab_ok rfl rfl hRow (show (rows2.map RowE.hdr)[2 * dl.length + 1]? = some rows2[2 * dl.length + 1].hdr by rw [List.getElem?_map, List.getElem?_eq_getElem hlt2]; rfl)) rfl ?_ | refine VQ.pure rfl rfl (PureAt.ldR tab_ok rfl rfl hRow (show (rows2.map RowE.hdr)[2 * dl.length + 1]? = some rows2[2 * dl.length + 1].hdr by rw [List.getElem?_map, List.getElem?_eq_getElem hlt2]; rfl)) rfl ?_ | refine VD.end rfl rfl rfl (OpV.pure (PureAt.ldR tab_ok rfl rfl hRow (show (rows2.map RowE.hdr)[2 * dl.length + 1]? = some rows2[2 * dl.length + 1].hdr by rw [List.getElem?_map, List.getElem?_eq_getElem hlt2]; rfl)) rfl ?_))
    ((first | refine VO.step rfl rfl ?_ | refine VD.end rfl rfl rfl ?_ | refine VD.mid rfl rfl rfl ?_); refine OpV.buildSlice1 st_28 rfl rfl (by first | (simp; done) | simp [Value.oneCell']) (by decide) rfl ?_; intro nb)
    ((first | refine VO.step rfl rfl ?_ | refine VD.end rfl rfl rfl ?_ | refine VD.mid rfl rfl rfl ?_); refine OpV.appendRow st_28 rfl rfl (by (repeat first | exact .head | apply Hole.tail)) (by (focus repeat first | exact .head _ | apply List.Mem.tail)) rfl (by first | (simp; done) | simp [Value.oneCell']) ?_ ?_ rfl ?_)
    · simp only [maxLen]; omega
    · omega
    intro so sc
    (refine w ?_; repeat ((first | refine VO.step rfl rfl ?_ | refine VD.end rfl rfl rfl ?_ | refine VD.mid rfl rfl rfl ?_); refine OpV.box rfl rfl rfl ?_; intro _; refine w ?_))
    refine VE.round (dl.length + 1, dl ++ [rows2[2 * dl.length + 1]], so, sc) ⟨hlt, by simp, fun e he => ?_, ?_⟩ (by simp only; omega) ⟨rfl, rfl, asV rfl rfl, asV rfl (by congr 1), trivial⟩ ?_
    · rw [List.mem_append, List.mem_singleton] at he
      rcases he with h | h
      · exact hdm e h
      · rw [h]; exact List.getElem_mem hlt2
    · have h1 : (rows2.map RowE.data)[2 * dl.length + 1]? = some (escM rows[dl.length].data) := by
        rw [hrows2]
        have h2 := asPats_get hlt
        have hl : dl.length < ((asPats rows).map PatE.D).length := by rw [List.length_map, asPats_length]; exact hlt
        rw [List.getElem?_eq_getElem hl] at h2
        injection h2 with h2
        rw [rowsP_odd hl, h2]
      rw [List.getElem?_map, List.getElem?_eq_getElem hlt2] at h1
      injection h1 with h1
      rw [List.map_append, hdd, List.take_succ_eq_append_getElem (by rw [List.length_map]; exact hlt), List.map_append, List.getElem_map]
      simp only [List.map_cons, List.map_nil, h1]
    · dsimp only
      rw [rowsO_one]
      exact Ent.re
  have hie : dl.length = rows.length := by have := of_decide_eq_false hc; omega
  clear hc
  refine VC.know (p := dro = none → dl.length = 0) (fun w hw => hw.ownNone (.head _)) ?_
  intro hdn
  have hdat : dl.map RowE.data = (rows.map RowE.data).map escM := by rw [hdd, List.take_of_length_le (by rw [List.length_map]; omega)]
  have hd128 : ∀ e ∈ dl, e.data.length = 128 := fun e he => by
    have h1 : e.data ∈ dl.map RowE.data := List.mem_map_of_mem he
    rw [hdat] at h1
    obtain ⟨d, hd, h2⟩ := List.mem_map.1 h1
    obtain ⟨r, hr, rfl⟩ := List.mem_map.1 hd
    rw [← h2]; exact escN_length (hr128 r hr)
  (refine w ?_; repeat ((first | refine VO.step rfl rfl ?_ | refine VD.end rfl rfl rfl ?_ | refine VD.mid rfl rfl rfl ?_); refine OpV.box rfl rfl rfl ?_; intro _; refine w ?_))
  refine VO.re 87 (.int .i64 (((dl.length + 5) * 128 : Nat) : Int)) rfl (by congr 1) ?_
  (first | refine VO.step rfl rfl ?_ | refine VD.end rfl rfl rfl ?_ | refine VD.mid rfl rfl rfl ?_)
  refine OpV.makeSlice1 (m := (dl.length + 5) * 128) st_55 rfl rfl rfl (by omega) (by simp only [maxLen]; omega) rfl ?_
  intro nz
  rw [← bytes_zero]
  (refine w ?_; repeat ((first | refine VO.step rfl rfl ?_ | refine VD.end rfl rfl rfl ?_ | refine VD.mid rfl rfl rfl ?_); refine OpV.box rfl rfl rfl ?_; intro _; refine w ?_))
  refine VO.re 88 (.slice (some ⟨nz, 0, none⟩) (List.replicate ((dl.length + 5) * 128) (0 : UInt8)).length ((dl.length + 5) * 128)) rfl (by rw [List.length_replicate]) ?_
  have hzl : (List.replicate ((dl.length + 5) * 128) (0 : UInt8)).length = 128 * (dl.length + 5) := by rw [List.length_replicate]; omega
  have hL := nlaid_ok (W := W) (R := Sl.Own 5 1 (.slice (some ⟨nz, 0, none⟩) ((dl.length + 5) * 128) ((dl.length + 5) * 128)) ((dl.length + 5) * 128) (bytes (List.replicate ((dl.length + 5) * 128) 0)) :: RowsO (dro, drc) dl :: RowsO (some ya, yc) rows2 :: PilR rows2 :: R)
    (rc := (dl.length + 5) * 128) (lc := drc) (n := dl.length + 5) (at_ := 0) (ring := List.replicate ((dl.length + 5) * 128) 0) (ro := some ⟨nz, 0, none⟩) (lo := dro) (l := dl) (by rw [List.length_replicate]; exact Rds.own (bytes_one _) (.head _) (by simp) (by simp)) hzl ⟨by omega, by omega⟩ (by decide)
    (RdRows.sub (x := (dro, drc)) hdn hok2 hdm (.tail _ (.head _)) (.tail _ (.tail _ (.tail _ (.head _))))) hd128 (by omega)
  ((first | refine VO.step rfl rfl ?_ | refine VD.end rfl rfl rfl ?_ | refine VD.mid rfl rfl rfl ?_); refine OpV.call rfl rfl (fun _ _ => by simp) (hL) Ent.refl rfl ?_)
  rintro ⟨ro, rc⟩ -
  obtain ⟨ring, hring⟩ : ∃ ring, ring = laidN (List.replicate ((dl.length + 5) * 128) 0) 0 (dl.map RowE.data) dl.length := ⟨_, rfl⟩
  rw [← hring]
  have hm128 : ∀ r ∈ dl.map RowE.data, r.length = 128 := fun r hr => by obtain ⟨e, he, rfl⟩ := List.mem_map.1 hr; exact hd128 e he
  have hringl : ring.length = 128 * (dl.length + 5) := by rw [hring]; exact laidN_length hzl (by omega) hm128 _
  have hsec0 : (secB ring 0).take 4 ≠ magicL := by
    have h1 := (sec_laid (at_ := 0) hzl (by omega) hm128 (by rw [List.length_map]; omega) dl.length (by rw [List.length_map]; exact Nat.le_refl _)).1 0 (by omega)
    rw [← hring, hdat, Nat.add_zero, Nat.zero_mod] at h1
    have hpos : 0 < (rows.map RowE.data).length := by rw [List.length_map]; omega
    rw [List.getElem?_map, List.getElem?_eq_getElem hpos] at h1
    injection h1 with h1
    rw [h1]; exact escN_head
  refine VO.know (p := ro = none → ring.length = 0) (fun w hw => hw.ownNone (.head _)) ?_
  intro hron
  refine VO.know (p := ring.length ≤ rc) (fun w hw => hw.ownCap (.head _)) ?_
  intro hrc
  (refine w ?_; repeat ((first | refine VO.step rfl rfl ?_ | refine VD.end rfl rfl rfl ?_ | refine VD.mid rfl rfl rfl ?_); refine OpV.box rfl rfl rfl ?_; intro _; refine w ?_))
  (apply VO.pure rfl rfl; apply PureAt.build sb_57 rfl; (simp [buildX, setL, Value.cells]; rfl); rfl)
  have hfd : foundM ring ⟨9, sq + 2, 0⟩ = (0, ⟨[], sq + 2, 0, 0⟩) := by
    have h1 := found_good (ring := ring) (n := dl.length + 5) (e := 9) (s := sq + 2) (t := 0) hringl ⟨by omega, by omega⟩ (by decide) ⟨by omega, by omega⟩ (by omega)
    rw [forged_none (l := []) (i := 0) hsec0] at h1
    simpa [costT] using h1
  have hO := of_ok (W := W) (R := OwnB (ro, rc) ring :: Sl.Own 5 1 (.slice (some ⟨nz, 0, none⟩) ((dl.length + 5) * 128) ((dl.length + 5) * 128)) ((dl.length + 5) * 128) (bytes (List.replicate ((dl.length + 5) * 128) 0)) :: RowsO (dro, drc) dl :: RowsO (some ya, yc) rows2 :: PilR rows2 :: R)
    (ao := ro) (cap := rc) (data := ring) (Rds.own (bytes_one _) (.head _) (by simp) hron) hrc (by omega) ⟨9, sq + 2, 0⟩ ⟨by show 9 < 2 ^ 64; omega, by show sq + 2 < 2 ^ 64; omega, by show -9223372036854775808 ≤ (0 : Int) ∧ (0 : Int) ≤ 9223372036854775807; omega⟩
  rw [hfd] at hO
  ((first | refine VO.step rfl rfl ?_ | refine VD.end rfl rfl rfl ?_ | refine VD.mid rfl rfl rfl ?_); refine OpV.call rfl rfl (fun _ _ => by simp) (hO) Ent.refl rfl ?_)
  rintro ⟨⟨o2, c2⟩, ts2⟩ hts2
  dsimp only at hts2 ⊢
  have hnil : ts2 = [] := List.map_eq_nil_iff.1 hts2
  subst hnil
  (refine w ?_; repeat ((first | refine VO.step rfl rfl ?_ | refine VD.end rfl rfl rfl ?_ | refine VD.mid rfl rfl rfl ?_); refine OpV.box rfl rfl rfl ?_; intro _; refine w ?_))
  ((first | refine VO.step rfl rfl ?_ | refine VD.end rfl rfl rfl ?_ | refine VD.mid rfl rfl rfl ?_); refine OpV.allocS sb_61 rfl ?_; intro n6)
  (refine w ?_; repeat ((first | refine VO.step rfl rfl ?_ | refine VD.end rfl rfl rfl ?_ | refine VD.mid rfl rfl rfl ?_); refine OpV.box rfl rfl rfl ?_; intro _; refine w ?_))
  (first | refine VO.step rfl rfl ?_ | refine VD.end rfl rfl rfl ?_ | refine VD.mid rfl rfl rfl ?_)
  refine OpV.stA (vs := [.slice o2 0 c2, .int .u64 ((sq + 2 : Nat) : Int), .int .i64 0, .int .i64 0]) tab_ok rfl rfl rfl rfl (by simp [Value.oneCell']) (by (repeat first | exact .head | apply Hole.tail)) (by simp) ?_
  (refine w ?_; repeat ((first | refine VO.step rfl rfl ?_ | refine VD.end rfl rfl rfl ?_ | refine VD.mid rfl rfl rfl ?_); refine OpV.box rfl rfl rfl ?_; intro _; refine w ?_))
  exact VE.done1 rfl (by simp) Ent.re
end Go.Proofs.Ytlojjlbngnaphaa
