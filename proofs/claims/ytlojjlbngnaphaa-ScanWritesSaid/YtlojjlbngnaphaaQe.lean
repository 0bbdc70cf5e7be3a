/- The document's book of bytes, rows, patches, batches: Bytes, Rows, Patches, Txns, Found, Own. -/
import Derived.Test.YtlojjlbngnaphaaQb
import Derived.Test.YtlojjlbngnaphaaQc
import Derived.Test.YtlojjlbngnaphaaQd
import Derived.Test.YtlojjlbngnaphaaBo
import Derived.Test.YtlojjlbngnaphaaNb
set_option maxRecDepth 8000
set_option linter.unusedVariables false
set_option linter.unusedSimpArgs false
set_option linter.unusedSectionVars false
namespace Go.Proofs.Ytlojjlbngnaphaa
open Go.RowKit Go.Sl
attribute [local irreducible] Sl.Own

section
variable {W w : World} {A B X : SProp} {L R : List SProp}
theorem gOpen (h : Holds W (A :: Sl.star (B :: L) :: R) w) : Holds W (A :: B :: (L ++ R)) w := by
  have h2 := (h.swap).join
  exact h2.perm (List.perm_middle (l₁ := B :: L))
theorem gShut (h : Holds W (A :: B :: (L ++ R)) w) : Holds W (A :: Sl.star (B :: L) :: R) w := by
  have h2 : Holds W ((B :: L) ++ (A :: R)) w := h.perm (List.perm_middle (l₁ := B :: L)).symm
  exact h2.nest.swap
end
theorem pile_pop {W w : World} {α : Type} {res : α → SProp} {a : α} {l : List α} {R : List SProp} (h : Holds W (pile res (a :: l) :: R) w) : Holds W (res a :: pile res l :: R) w := pile_out (i := 0) (by simp) h
abbrev nilS : Value := .slice none 0 0
abbrev bkCells (e f p t : Value) : List Value := [e, nilS, nilS, nilS, nilS, nilS, nilS, nilS, f, nilS, p, t]
abbrev gE (x : Option Addr × Nat) (E : List ListE) : SProp := Sl.star (Sl.Own 55 1 (.slice x.1 E.length x.2) E.length (E.map ListE.hdr) :: E.map ListE.res)
abbrev gF (x : Option Addr × Nat) (F : List ListN) : SProp := Sl.star (Sl.Own 28 1 (.slice x.1 F.length x.2) F.length (F.map ListN.hdr) :: F.map Rw.res)
abbrev gP (x : Option Addr × Nat) (P : List ListN) : SProp := Sl.star (Sl.Own 23 1 (.slice x.1 P.length x.2) P.length (P.map ListN.hdr) :: P.map Pt.res)
abbrev gT (x : Option Addr × Nat) (T : List ListN) : SProp := Sl.star (Sl.Own 59 1 (.slice x.1 T.length x.2) T.length (T.map ListN.hdr) :: T.map Tx.res)
abbrev sl4 (x : Option Addr × Nat) (n : Nat) : Value := .slice x.1 n x.2

theorem bkbytes_raw {W : World} {R : List SProp} (b : Nat) (f p t : Value) (x : Option Addr × Nat) (E : List ListE) (e : ListE) (hn : E.length ≤ 2000000000) :
    Does W Try.prog 42 [.pointer (some ⟨b, 0, none⟩), .slice e.ao e.xs.length e.cap] (Row b 50 (bkCells (sl4 x E.length) f p t) :: gE x E :: e.res :: R) (β := Option Addr × Nat) (fun _ => True) (fun _ => .tuple #[])
      (fun y => Row b 50 (bkCells (sl4 y (E ++ [e]).length) f p t) :: gE y (E ++ [e]) :: R) := by
  obtain ⟨lo, lc⟩ := x
  (refine Does.enter Try.func42 Try.ntmps42 rfl rfl ?_)
  refine VC.ent (fun w hw => gOpen hw) ?_
  (refine w ?_; repeat ((first | refine VO.step rfl rfl ?_ | refine VD.end rfl rfl rfl ?_ | refine VD.mid rfl rfl rfl ?_); refine OpV.box rfl rfl rfl ?_; intro _; refine w ?_))
  ((first | refine VO.step rfl rfl ?_ | refine VD.end rfl rfl rfl ?_ | refine VD.mid rfl rfl rfl ?_); refine OpV.buildSlice1 st_28 rfl rfl (by first | (simp; done) | simp [Value.oneCell']) (by decide) rfl ?_; intro nb)
  ((first | refine VO.step rfl rfl ?_ | refine VD.end rfl rfl rfl ?_ | refine VD.mid rfl rfl rfl ?_); refine OpV.appendRow st_28 rfl rfl (by (repeat first | exact .head | apply Hole.tail)) (by (focus repeat first | exact .head _ | apply List.Mem.tail)) rfl (by first | (simp; done) | simp [Value.oneCell']) ?_ ?_ rfl ?_)
  · simp only [maxLen]; omega
  · omega
  intro lo' lc'
  (refine w ?_; repeat ((first | refine VO.step rfl rfl ?_ | refine VD.end rfl rfl rfl ?_ | refine VD.mid rfl rfl rfl ?_); refine OpV.box rfl rfl rfl ?_; intro _; refine w ?_))
  refine VE.doneN (lo', lc') rfl trivial rfl ?_
  intro w hw
  refine gShut (L := (E ++ [e]).map ListE.res) ?_
  rw [List.length_append, List.length_singleton, List.map_append, List.map_append, List.append_assoc]
  exact hw.tail
def eR (e : RowE) : ListE := ⟨e.ao, e.cap, bytes e.data⟩
theorem eR_hdr (e : RowE) : Value.slice (eR e).ao (eR e).xs.length (eR e).cap = e.hdr := by unfold eR; dsimp only; rw [bytes_length]
theorem eR_res (e : RowE) : (eR e).res = e.res := by unfold ListE.res RowE.res eR; dsimp only; rw [bytes_length]
theorem eR_len (e : RowE) : (eR e).xs.length = e.data.length := by unfold eR; rw [bytes_length]
def rowsN (x : Option Addr × Nat) (l : List RowE) : ListN := ⟨x.1, x.2, l.length, l.map RowE.hdr⟩
def patsN (x : Option Addr × Nat) (l : List PatE) : ListN := ⟨x.1, x.2, l.length, patCells l⟩
def txnsN (x : Option Addr × Nat) (l : List TxnE) : ListN := ⟨x.1, x.2, l.length, txnCells l⟩
def eP (l : List PatE) : List ListE := l.map fun p => eR p.d
set_option maxHeartbeats 2000000 in
theorem bkrows_raw {W : World} {R : List SProp} (b : Nat) (p t : Value) (x y : Option Addr × Nat) (E : List ListE) (F : List ListN) (z : Option Addr × Nat) (l : List RowE) (hz : z.1 = none → l.length = 0) (hn : E.length + l.length ≤ 1000000000) (hf : F.length ≤ 1000000000) :
    Does W Try.prog 16 [.pointer (some ⟨b, 0, none⟩), .slice z.1 l.length z.2] (Row b 50 (bkCells (sl4 x E.length) (sl4 y F.length) p t) :: gE x E :: gF y F :: RowsO z l :: PilR l :: R) (β := (Option Addr × Nat) × Option Addr × Nat) (fun _ => True) (fun _ => .tuple #[])
      (fun g => Row b 50 (bkCells (sl4 g.1 (E ++ List.map eR l).length) (sl4 g.2 (F ++ [rowsN z l]).length) p t) :: gE g.1 (E ++ List.map eR l) :: gF g.2 (F ++ [rowsN z l]) :: R) := by
  obtain ⟨lo, lc⟩ := y
  (refine Does.enter Try.func16 Try.ntmps16 rfl rfl ?_)
  refine VC.ent (Ent.trans (Ent.re (L := Row b 50 (bkCells (sl4 x E.length) (sl4 (lo, lc) F.length) p t) :: gF (lo, lc) F :: gE x E :: RowsO z l :: PilR l :: R)) (fun w hw => gOpen hw)) ?_
  (refine w ?_; repeat ((first | refine VO.step rfl rfl ?_ | refine VD.end rfl rfl rfl ?_ | refine VD.mid rfl rfl rfl ?_); refine OpV.box rfl rfl rfl ?_; intro _; refine w ?_))
  ((first | refine VO.step rfl rfl ?_ | refine VD.end rfl rfl rfl ?_ | refine VD.mid rfl rfl rfl ?_); refine OpV.buildSlice1 st_45 rfl rfl (by first | (simp; done) | simp [Value.oneCell']) (by decide) rfl ?_; intro nb)
  ((first | refine VO.step rfl rfl ?_ | refine VD.end rfl rfl rfl ?_ | refine VD.mid rfl rfl rfl ?_); refine OpV.appendRow st_45 rfl rfl (by (repeat first | exact .head | apply Hole.tail)) (by (focus repeat first | exact .head _ | apply List.Mem.tail)) rfl (by first | (simp; done) | simp [Value.oneCell']) ?_ ?_ rfl ?_)
  · simp only [maxLen]; omega
  · omega
  intro lo' lc'
  (refine w ?_; repeat ((first | refine VO.step rfl rfl ?_ | refine VD.end rfl rfl rfl ?_ | refine VD.mid rfl rfl rfl ?_); refine OpV.box rfl rfl rfl ?_; intro _; refine w ?_))
  have hF : (F ++ [rowsN z l]).length = F.length + 1 := by rw [List.length_append]; rfl
  have hFm : (F ++ [rowsN z l]).map ListN.hdr = F.map ListN.hdr ++ [.slice z.1 l.length z.2] := by rw [List.map_append]; rfl
  have hML : ∀ m : List RowE, (List.map eR m).length = m.length := fun m => by simp []
  generalize hFF : F ++ [rowsN z l] = FF at *
  refine VC.loop (α := Nat × Option Addr × Nat) (fun g => g.1 ≤ l.length) (fun g => Row b 50 (bkCells (sl4 g.2 (E ++ List.map eR (l.take g.1)).length) (sl4 (lo', lc') FF.length) p t) :: gE g.2 (E ++ List.map eR (l.take g.1)) :: pile RowE.res (l.drop g.1) :: RowsO z l :: Sl.star (Sl.Own 28 1 (.slice lo' FF.length lc') FF.length (FF.map ListN.hdr) :: F.map Rw.res) :: R)
    (fun g => [(0, .pointer (some ⟨b, 0, none⟩)), (1, .slice z.1 l.length z.2), (4, .int .i64 g.1)]) (fun g => l.length - g.1) rfl (0, x) (Nat.zero_le _) ?_ ⟨rfl, rfl, rfl, trivial⟩ ?_
  · rw [hF, hFm]
    simp only [List.take_zero, List.drop_zero, show List.map eR ([] : List RowE) = [] from rfl, List.append_nil]
    exact Ent.trans (fun w hw => gShut (L := F.map Rw.res) hw.tail) Ent.re
  rintro ⟨i, xe⟩ hi
  dsimp only at hi ⊢
  (refine w ?_; repeat ((first | refine VO.step rfl rfl ?_ | refine VD.end rfl rfl rfl ?_ | refine VD.mid rfl rfl rfl ?_); refine OpV.box rfl rfl rfl ?_; intro _; refine w ?_))
  (refine VC.cond rfl rfl ?_ ?_ <;> intro hc)
  · have hlt : i < l.length := by have := of_decide_eq_true hc; omega
    obtain ⟨zo, zc⟩ := z
    obtain ⟨za, rfl⟩ : ∃ za, zo = some za := by cases zo with | none => have := hz rfl; omega | some za => exact ⟨za, rfl⟩
    have hd : l.drop i = l[i] :: l.drop (i + 1) := List.drop_eq_getElem_cons hlt
    have hlen : (E ++ List.map eR (l.take i)).length ≤ 2000000000 := by rw [List.length_append, hML, List.length_take]; omega
    rw [hd]
    (refine w ?_; repeat ((first | refine VO.step rfl rfl ?_ | refine VD.end rfl rfl rfl ?_ | refine VD.mid rfl rfl rfl ?_); refine OpV.box rfl rfl rfl ?_; intro _; refine w ?_))
    (first | refine VO.pure rfl rfl (PureAt.ldR tab_ok rfl rfl (Rds.own (rowhdr_one l) (by (focus repeat first | exact .head _ | apply List.Mem.tail)) (by rw [List.length_map, Nat.mul_one]) (fun h => by cases h)) (show (l.map RowE.hdr)[i]? = some l[i].hdr by rw [List.getElem?_map, List.getElem?_eq_getElem hlt]; rfl)) rfl ?_ | refine VD.take rfl rfl rfl (PureAt.ldR tab_ok rfl rfl (Rds.own (rowhdr_one l) (by (focus repeat first | exact .head _ | apply List.Mem.tail)) (by rw [List.length_map, Nat.mul_one]) (fun h => by cases h)) (show (l.map RowE.hdr)[i]? = some l[i].hdr by rw [List.getElem?_map, List.getElem?_eq_getElem hlt]; rfl)) rfl ?_ | refine VQ.pure rfl rfl (PureAt.ldR tab_ok rfl rfl (Rds.own (rowhdr_one l) (by (focus repeat first | exact .head _ | apply List.Mem.tail)) (by rw [List.length_map, Nat.mul_one]) (fun h => by cases h)) (show (l.map RowE.hdr)[i]? = some l[i].hdr by rw [List.getElem?_map, List.getElem?_eq_getElem hlt]; rfl)) rfl ?_ | refine VD.end rfl rfl rfl (OpV.pure (PureAt.ldR tab_ok rfl rfl (Rds.own (rowhdr_one l) (by (focus repeat first | exact .head _ | apply List.Mem.tail)) (by rw [List.length_map, Nat.mul_one]) (fun h => by cases h)) (show (l.map RowE.hdr)[i]? = some l[i].hdr by rw [List.getElem?_map, List.getElem?_eq_getElem hlt]; rfl)) rfl ?_))
    (refine w ?_; repeat ((first | refine VO.step rfl rfl ?_ | refine VD.end rfl rfl rfl ?_ | refine VD.mid rfl rfl rfl ?_); refine OpV.box rfl rfl rfl ?_; intro _; refine w ?_))
    have hC := bkbytes_raw (W := W) (R := pile RowE.res (l.drop (i + 1)) :: RowsO (some za, zc) l :: Sl.star (Sl.Own 28 1 (.slice lo' FF.length lc') FF.length (FF.map ListN.hdr) :: F.map Rw.res) :: R) b (sl4 (lo', lc') FF.length) p t xe (E ++ List.map eR (l.take i)) (eR l[i]) hlen
    rw [eR_hdr, eR_res] at hC
    refine VO.ent (Ent.trans (Ent.re (L := pile RowE.res (l[i] :: l.drop (i + 1)) :: Row b 50 (bkCells (sl4 xe (E ++ List.map eR (l.take i)).length) (sl4 (lo', lc') FF.length) p t) :: gE xe (E ++ List.map eR (l.take i)) :: RowsO (some za, zc) l :: Sl.star (Sl.Own 28 1 (.slice lo' FF.length lc') FF.length (FF.map ListN.hdr) :: F.map Rw.res) :: R)) (fun w hw => pile_pop hw)) ?_
    refine VO.ent (Ent.re (L := Row b 50 (bkCells (sl4 xe (E ++ List.map eR (l.take i)).length) (sl4 (lo', lc') FF.length) p t) :: gE xe (E ++ List.map eR (l.take i)) :: RowE.res l[i] :: pile RowE.res (l.drop (i + 1)) :: RowsO (some za, zc) l :: Sl.star (Sl.Own 28 1 (.slice lo' FF.length lc') FF.length (FF.map ListN.hdr) :: F.map Rw.res) :: R)) ?_
    ((first | refine VO.step rfl rfl ?_ | refine VD.end rfl rfl rfl ?_ | refine VD.mid rfl rfl rfl ?_); refine OpV.call rfl rfl (fun _ _ => by simp) (hC) Ent.refl rfl ?_)
    intro xe' _
    (refine w ?_; repeat ((first | refine VO.step rfl rfl ?_ | refine VD.end rfl rfl rfl ?_ | refine VD.mid rfl rfl rfl ?_); refine OpV.box rfl rfl rfl ?_; intro _; refine w ?_))
    refine VE.round (i + 1, xe') hlt (by simp only; omega) ⟨rfl, rfl, asV rfl (by congr 1), trivial⟩ ?_
    dsimp only
    rw [show E ++ List.map eR (l.take (i + 1)) = (E ++ List.map eR (l.take i)) ++ [eR l[i]] by rw [List.take_succ_eq_append_getElem hlt, List.map_append, List.append_assoc]; rfl]
    exact Ent.refl
  · have hge : i = l.length := by have := of_decide_eq_false hc; omega
    subst hge
    (refine w ?_; repeat ((first | refine VO.step rfl rfl ?_ | refine VD.end rfl rfl rfl ?_ | refine VD.mid rfl rfl rfl ?_); refine OpV.box rfl rfl rfl ?_; intro _; refine w ?_))
    refine VE.doneN (xe, lo', lc') rfl trivial rfl ?_
    dsimp only
    rw [List.take_length]
    refine Ent.trans (Ent.re (L := Row b 50 (bkCells (sl4 xe (E ++ List.map eR l).length) (sl4 (lo', lc') FF.length) p t) :: Sl.star (Sl.Own 28 1 (.slice lo' FF.length lc') FF.length (FF.map ListN.hdr) :: F.map Rw.res) :: Rw.res (rowsN z l) :: gE xe (E ++ List.map eR l) :: R)) (fun w hw => ?_)
    have h2 := gOpen hw
    have h3 := gShut (L := FF.map Rw.res) (R := gE xe (E ++ List.map eR l) :: R) (by rw [show FF.map Rw.res = F.map Rw.res ++ [Rw.res (rowsN z l)] by rw [← hFF, List.map_append]; rfl, List.append_assoc]; exact h2)
    exact h3.perm ((List.Perm.swap _ _ _).cons _)
set_option maxHeartbeats 2000000 in
theorem bkpats_raw {W : World} {R : List SProp} (b : Nat) (f t : Value) (x y : Option Addr × Nat) (E : List ListE) (P : List ListN) (z : Option Addr × Nat) (l : List PatE) (hz : z.1 = none → l.length = 0) (hn : E.length + l.length ≤ 1000000000) (hf : P.length ≤ 1000000000) :
    Does W Try.prog 85 [.pointer (some ⟨b, 0, none⟩), .slice z.1 l.length z.2] (Row b 50 (bkCells (sl4 x E.length) f (sl4 y P.length) t) :: gE x E :: gP y P :: PatsO z l :: PilP l :: R) (β := (Option Addr × Nat) × Option Addr × Nat) (fun _ => True) (fun _ => .tuple #[])
      (fun g => Row b 50 (bkCells (sl4 g.1 (E ++ eP l).length) f (sl4 g.2 (P ++ [patsN z l]).length) t) :: gE g.1 (E ++ eP l) :: gP g.2 (P ++ [patsN z l]) :: R) := by
  obtain ⟨lo, lc⟩ := y
  (refine Does.enter Try.func85 Try.ntmps85 rfl rfl ?_)
  refine VC.ent (Ent.trans (Ent.re (L := Row b 50 (bkCells (sl4 x E.length) f (sl4 (lo, lc) P.length) t) :: gP (lo, lc) P :: gE x E :: PatsO z l :: PilP l :: R)) (fun w hw => gOpen hw)) ?_
  (refine w ?_; repeat ((first | refine VO.step rfl rfl ?_ | refine VD.end rfl rfl rfl ?_ | refine VD.mid rfl rfl rfl ?_); refine OpV.box rfl rfl rfl ?_; intro _; refine w ?_))
  ((first | refine VO.step rfl rfl ?_ | refine VD.end rfl rfl rfl ?_ | refine VD.mid rfl rfl rfl ?_); refine OpV.buildSlice1 st_47 rfl rfl (by first | (simp; done) | simp [Value.oneCell']) (by decide) rfl ?_; intro nb)
  ((first | refine VO.step rfl rfl ?_ | refine VD.end rfl rfl rfl ?_ | refine VD.mid rfl rfl rfl ?_); refine OpV.appendRow st_47 rfl rfl (by (repeat first | exact .head | apply Hole.tail)) (by (focus repeat first | exact .head _ | apply List.Mem.tail)) rfl (by first | (simp; done) | simp [Value.oneCell']) ?_ ?_ rfl ?_)
  · simp only [maxLen]; omega
  · omega
  intro lo' lc'
  (refine w ?_; repeat ((first | refine VO.step rfl rfl ?_ | refine VD.end rfl rfl rfl ?_ | refine VD.mid rfl rfl rfl ?_); refine OpV.box rfl rfl rfl ?_; intro _; refine w ?_))
  have hF : (P ++ [patsN z l]).length = P.length + 1 := by rw [List.length_append]; rfl
  have hFm : (P ++ [patsN z l]).map ListN.hdr = P.map ListN.hdr ++ [.slice z.1 l.length z.2] := by rw [List.map_append]; rfl
  have hML : ∀ m : List PatE, (eP m).length = m.length := fun m => by simp [eP]
  generalize hFF : P ++ [patsN z l] = FF at *
  refine VC.loop (α := Nat × Option Addr × Nat) (fun g => g.1 ≤ l.length) (fun g => Row b 50 (bkCells (sl4 g.2 (E ++ eP (l.take g.1)).length) f (sl4 (lo', lc') FF.length) t) :: gE g.2 (E ++ eP (l.take g.1)) :: pile PatE.res (l.drop g.1) :: PatsO z l :: Sl.star (Sl.Own 23 1 (.slice lo' FF.length lc') FF.length (FF.map ListN.hdr) :: P.map Pt.res) :: R)
    (fun g => [(0, .pointer (some ⟨b, 0, none⟩)), (1, .slice z.1 l.length z.2), (4, .int .i64 g.1)]) (fun g => l.length - g.1) rfl (0, x) (Nat.zero_le _) ?_ ⟨rfl, rfl, rfl, trivial⟩ ?_
  · rw [hF, hFm]
    simp only [List.take_zero, List.drop_zero, show eP ([] : List PatE) = [] from rfl, List.append_nil]
    exact Ent.trans (fun w hw => gShut (L := P.map Pt.res) hw.tail) Ent.re
  rintro ⟨i, xe⟩ hi
  dsimp only at hi ⊢
  (refine w ?_; repeat ((first | refine VO.step rfl rfl ?_ | refine VD.end rfl rfl rfl ?_ | refine VD.mid rfl rfl rfl ?_); refine OpV.box rfl rfl rfl ?_; intro _; refine w ?_))
  (refine VC.cond rfl rfl ?_ ?_ <;> intro hc)
  · have hlt : i < l.length := by have := of_decide_eq_true hc; omega
    obtain ⟨zo, zc⟩ := z
    obtain ⟨za, rfl⟩ : ∃ za, zo = some za := by cases zo with | none => have := hz rfl; omega | some za => exact ⟨za, rfl⟩
    have hd : l.drop i = l[i] :: l.drop (i + 1) := List.drop_eq_getElem_cons hlt
    have hlen : (E ++ eP (l.take i)).length ≤ 2000000000 := by rw [List.length_append, hML, List.length_take]; omega
    rw [hd]
    (refine w ?_; repeat ((first | refine VO.step rfl rfl ?_ | refine VD.end rfl rfl rfl ?_ | refine VD.mid rfl rfl rfl ?_); refine OpV.box rfl rfl rfl ?_; intro _; refine w ?_))
    (first | refine VO.pure rfl rfl (PureAt.ldRc tab_ok rfl rfl (Rds.own (pats_one l) (by (focus repeat first | exact .head _ | apply List.Mem.tail)) (pats_len l) (fun h => by cases h)) (show (patCells l)[i * 3 + 2]? = some l[i].d.hdr by rw [pat_get l i 2 hlt (by decide)]; rfl)) rfl ?_ | refine VD.take rfl rfl rfl (PureAt.ldRc tab_ok rfl rfl (Rds.own (pats_one l) (by (focus repeat first | exact .head _ | apply List.Mem.tail)) (pats_len l) (fun h => by cases h)) (show (patCells l)[i * 3 + 2]? = some l[i].d.hdr by rw [pat_get l i 2 hlt (by decide)]; rfl)) rfl ?_ | refine VQ.pure rfl rfl (PureAt.ldRc tab_ok rfl rfl (Rds.own (pats_one l) (by (focus repeat first | exact .head _ | apply List.Mem.tail)) (pats_len l) (fun h => by cases h)) (show (patCells l)[i * 3 + 2]? = some l[i].d.hdr by rw [pat_get l i 2 hlt (by decide)]; rfl)) rfl ?_ | refine VD.end rfl rfl rfl (OpV.pure (PureAt.ldRc tab_ok rfl rfl (Rds.own (pats_one l) (by (focus repeat first | exact .head _ | apply List.Mem.tail)) (pats_len l) (fun h => by cases h)) (show (patCells l)[i * 3 + 2]? = some l[i].d.hdr by rw [pat_get l i 2 hlt (by decide)]; rfl)) rfl ?_))
    (refine w ?_; repeat ((first | refine VO.step rfl rfl ?_ | refine VD.end rfl rfl rfl ?_ | refine VD.mid rfl rfl rfl ?_); refine OpV.box rfl rfl rfl ?_; intro _; refine w ?_))
    have hC := bkbytes_raw (W := W) (R := pile PatE.res (l.drop (i + 1)) :: PatsO (some za, zc) l :: Sl.star (Sl.Own 23 1 (.slice lo' FF.length lc') FF.length (FF.map ListN.hdr) :: P.map Pt.res) :: R) b f (sl4 (lo', lc') FF.length) t xe (E ++ eP (l.take i)) (eR l[i].d) hlen
    rw [eR_hdr, eR_res] at hC
    refine VO.ent (Ent.trans (Ent.re (L := pile PatE.res (l[i] :: l.drop (i + 1)) :: Row b 50 (bkCells (sl4 xe (E ++ eP (l.take i)).length) f (sl4 (lo', lc') FF.length) t) :: gE xe (E ++ eP (l.take i)) :: PatsO (some za, zc) l :: Sl.star (Sl.Own 23 1 (.slice lo' FF.length lc') FF.length (FF.map ListN.hdr) :: P.map Pt.res) :: R)) (fun w hw => pile_pop hw)) ?_
    refine VO.ent (Ent.re (L := Row b 50 (bkCells (sl4 xe (E ++ eP (l.take i)).length) f (sl4 (lo', lc') FF.length) t) :: gE xe (E ++ eP (l.take i)) :: PatE.res l[i] :: pile PatE.res (l.drop (i + 1)) :: PatsO (some za, zc) l :: Sl.star (Sl.Own 23 1 (.slice lo' FF.length lc') FF.length (FF.map ListN.hdr) :: P.map Pt.res) :: R)) ?_
    ((first | refine VO.step rfl rfl ?_ | refine VD.end rfl rfl rfl ?_ | refine VD.mid rfl rfl rfl ?_); refine OpV.call rfl rfl (fun _ _ => by simp) (hC) Ent.refl rfl ?_)
    intro xe' _
    (refine w ?_; repeat ((first | refine VO.step rfl rfl ?_ | refine VD.end rfl rfl rfl ?_ | refine VD.mid rfl rfl rfl ?_); refine OpV.box rfl rfl rfl ?_; intro _; refine w ?_))
    refine VE.round (i + 1, xe') hlt (by simp only; omega) ⟨rfl, rfl, asV rfl (by congr 1), trivial⟩ ?_
    dsimp only
    rw [show E ++ eP (l.take (i + 1)) = (E ++ eP (l.take i)) ++ [eR l[i].d] by rw [List.take_succ_eq_append_getElem hlt, eP, eP, List.map_append, List.append_assoc]; rfl]
    exact Ent.refl
  · have hge : i = l.length := by have := of_decide_eq_false hc; omega
    subst hge
    (refine w ?_; repeat ((first | refine VO.step rfl rfl ?_ | refine VD.end rfl rfl rfl ?_ | refine VD.mid rfl rfl rfl ?_); refine OpV.box rfl rfl rfl ?_; intro _; refine w ?_))
    refine VE.doneN (xe, lo', lc') rfl trivial rfl ?_
    dsimp only
    rw [List.take_length]
    refine Ent.trans (Ent.re (L := Row b 50 (bkCells (sl4 xe (E ++ eP l).length) f (sl4 (lo', lc') FF.length) t) :: Sl.star (Sl.Own 23 1 (.slice lo' FF.length lc') FF.length (FF.map ListN.hdr) :: P.map Pt.res) :: Pt.res (patsN z l) :: gE xe (E ++ eP l) :: R)) (fun w hw => ?_)
    have h2 := gOpen hw
    have h3 := gShut (L := FF.map Pt.res) (R := gE xe (E ++ eP l) :: R) (by rw [show FF.map Pt.res = P.map Pt.res ++ [Pt.res (patsN z l)] by rw [← hFF, List.map_append]; rfl, List.append_assoc]; exact h2)
    exact h3.perm ((List.Perm.swap _ _ _).cons _)
def eT (l : List TxnE) : List ListE := l.flatMap fun t => eP t.pats
def pT (l : List TxnE) : List ListN := l.map fun t => patsN (t.ao, t.cap) t.pats
theorem eT_snoc (l : List TxnE) (i : Nat) (h : i < l.length) : eT (l.take (i + 1)) = eT (l.take i) ++ eP l[i].pats := by
  rw [List.take_succ_eq_append_getElem h, eT, List.flatMap_append]; simp [eT]
theorem pT_snoc (l : List TxnE) (i : Nat) (h : i < l.length) : pT (l.take (i + 1)) = pT (l.take i) ++ [patsN (l[i].ao, l[i].cap) l[i].pats] := by
  rw [List.take_succ_eq_append_getElem h, pT, List.map_append]; rfl
theorem eT_le (l : List TxnE) (i : Nat) (h : i < l.length) : (eT (l.take i)).length + l[i].pats.length ≤ (eT l).length := by
  have e : eT l = eT (l.take (i + 1)) ++ eT (l.drop (i + 1)) := by unfold eT; rw [← List.flatMap_append, List.take_append_drop]
  rw [e, eT_snoc l i h, List.length_append, List.length_append]
  have : (eP l[i].pats).length = l[i].pats.length := by simp [eP]
  omega
set_option maxHeartbeats 2000000 in
theorem bktxns_raw {W : World} {R : List SProp} (b : Nat) (f : Value) (x y u : Option Addr × Nat) (E : List ListE) (P T : List ListN) (z : Option Addr × Nat) (l : List TxnE) (hz : z.1 = none → l.length = 0) (hn : E.length + (eT l).length ≤ 1000000000) (hp : P.length + l.length ≤ 1000000000) (ht : T.length ≤ 1000000000) :
    Does W Try.prog 60 [.pointer (some ⟨b, 0, none⟩), .slice z.1 l.length z.2] (Row b 50 (bkCells (sl4 x E.length) f (sl4 y P.length) (sl4 u T.length)) :: gE x E :: gP y P :: gT u T :: TxnsO z l :: PilT l :: R) (β := (Option Addr × Nat) × (Option Addr × Nat) × Option Addr × Nat) (fun _ => True) (fun _ => .tuple #[])
      (fun g => Row b 50 (bkCells (sl4 g.1 (E ++ eT l).length) f (sl4 g.2.1 (P ++ pT l).length) (sl4 g.2.2 (T ++ [txnsN z l]).length)) :: gE g.1 (E ++ eT l) :: gP g.2.1 (P ++ pT l) :: gT g.2.2 (T ++ [txnsN z l]) :: R) := by
  obtain ⟨lo, lc⟩ := u
  (refine Does.enter Try.func60 Try.ntmps60 rfl rfl ?_)
  refine VC.know (p := ∀ t ∈ l, t.ok) (fun w hw => PilT.know hw.tail.tail.tail.tail.tail) ?_
  intro hok
  refine VC.ent (Ent.trans (Ent.re (L := Row b 50 (bkCells (sl4 x E.length) f (sl4 y P.length) (sl4 (lo, lc) T.length)) :: gT (lo, lc) T :: gE x E :: gP y P :: TxnsO z l :: PilT l :: R)) (fun w hw => gOpen hw)) ?_
  (refine w ?_; repeat ((first | refine VO.step rfl rfl ?_ | refine VD.end rfl rfl rfl ?_ | refine VD.mid rfl rfl rfl ?_); refine OpV.box rfl rfl rfl ?_; intro _; refine w ?_))
  ((first | refine VO.step rfl rfl ?_ | refine VD.end rfl rfl rfl ?_ | refine VD.mid rfl rfl rfl ?_); refine OpV.buildSlice1 st_48 rfl rfl (by first | (simp; done) | simp [Value.oneCell']) (by decide) rfl ?_; intro nb)
  ((first | refine VO.step rfl rfl ?_ | refine VD.end rfl rfl rfl ?_ | refine VD.mid rfl rfl rfl ?_); refine OpV.appendRow st_48 rfl rfl (by (repeat first | exact .head | apply Hole.tail)) (by (focus repeat first | exact .head _ | apply List.Mem.tail)) rfl (by first | (simp; done) | simp [Value.oneCell']) ?_ ?_ rfl ?_)
  · simp only [maxLen]; omega
  · omega
  intro lo' lc'
  (refine w ?_; repeat ((first | refine VO.step rfl rfl ?_ | refine VD.end rfl rfl rfl ?_ | refine VD.mid rfl rfl rfl ?_); refine OpV.box rfl rfl rfl ?_; intro _; refine w ?_))
  have hF : (T ++ [txnsN z l]).length = T.length + 1 := by rw [List.length_append]; rfl
  have hFm : (T ++ [txnsN z l]).map ListN.hdr = T.map ListN.hdr ++ [.slice z.1 l.length z.2] := by rw [List.map_append]; rfl
  generalize hFF : T ++ [txnsN z l] = FF at *
  refine VC.loop (α := Nat × (Option Addr × Nat) × Option Addr × Nat) (fun g => g.1 ≤ l.length) (fun g => Row b 50 (bkCells (sl4 g.2.1 (E ++ eT (l.take g.1)).length) f (sl4 g.2.2 (P ++ pT (l.take g.1)).length) (sl4 (lo', lc') FF.length)) :: gE g.2.1 (E ++ eT (l.take g.1)) :: gP g.2.2 (P ++ pT (l.take g.1)) :: pile TxnE.res (l.drop g.1) :: TxnsO z l :: Sl.star (Sl.Own 59 1 (.slice lo' FF.length lc') FF.length (FF.map ListN.hdr) :: T.map Tx.res) :: R)
    (fun g => [(0, .pointer (some ⟨b, 0, none⟩)), (1, .slice z.1 l.length z.2), (4, .int .i64 g.1)]) (fun g => l.length - g.1) rfl (0, x, y) (Nat.zero_le _) ?_ ⟨rfl, rfl, rfl, trivial⟩ ?_
  · rw [hF, hFm]
    simp only [List.take_zero, List.drop_zero, show eT ([] : List TxnE) = [] from rfl, show pT ([] : List TxnE) = [] from rfl, List.append_nil]
    exact Ent.trans (fun w hw => gShut (L := T.map Tx.res) hw.tail) Ent.re
  rintro ⟨i, xe, xp⟩ hi
  dsimp only at hi ⊢
  (refine w ?_; repeat ((first | refine VO.step rfl rfl ?_ | refine VD.end rfl rfl rfl ?_ | refine VD.mid rfl rfl rfl ?_); refine OpV.box rfl rfl rfl ?_; intro _; refine w ?_))
  (refine VC.cond rfl rfl ?_ ?_ <;> intro hc)
  · have hlt : i < l.length := by have := of_decide_eq_true hc; omega
    obtain ⟨zo, zc⟩ := z
    obtain ⟨za, rfl⟩ : ∃ za, zo = some za := by cases zo with | none => have := hz rfl; omega | some za => exact ⟨za, rfl⟩
    have hd : l.drop i = l[i] :: l.drop (i + 1) := List.drop_eq_getElem_cons hlt
    have hle := eT_le l i hlt
    have hpt : (pT (l.take i)).length = i := by simp only [pT, List.length_map, List.length_take]; omega
    have hoki := (hok _ (List.getElem_mem hlt)).nil
    rw [hd]
    (refine w ?_; repeat ((first | refine VO.step rfl rfl ?_ | refine VD.end rfl rfl rfl ?_ | refine VD.mid rfl rfl rfl ?_); refine OpV.box rfl rfl rfl ?_; intro _; refine w ?_))
    (first | refine VO.pure rfl rfl (PureAt.ldRc tab_ok rfl rfl (Rds.own (txns_one l) (by (focus repeat first | exact .head _ | apply List.Mem.tail)) (txns_len l) (fun h => by cases h)) (show (txnCells l)[i * 2 + 1]? = some (.slice l[i].ao l[i].pats.length l[i].cap) by rw [txn_get l i 1 hlt (by decide)]; rfl)) rfl ?_ | refine VD.take rfl rfl rfl (PureAt.ldRc tab_ok rfl rfl (Rds.own (txns_one l) (by (focus repeat first | exact .head _ | apply List.Mem.tail)) (txns_len l) (fun h => by cases h)) (show (txnCells l)[i * 2 + 1]? = some (.slice l[i].ao l[i].pats.length l[i].cap) by rw [txn_get l i 1 hlt (by decide)]; rfl)) rfl ?_ | refine VQ.pure rfl rfl (PureAt.ldRc tab_ok rfl rfl (Rds.own (txns_one l) (by (focus repeat first | exact .head _ | apply List.Mem.tail)) (txns_len l) (fun h => by cases h)) (show (txnCells l)[i * 2 + 1]? = some (.slice l[i].ao l[i].pats.length l[i].cap) by rw [txn_get l i 1 hlt (by decide)]; rfl)) rfl ?_ | refine VD.end rfl rfl rfl (OpV.pure (PureAt.ldRc tab_ok rfl rfl (Rds.own (txns_one l) (by (focus repeat first | exact .head _ | apply List.Mem.tail)) (txns_len l) (fun h => by cases h)) (show (txnCells l)[i * 2 + 1]? = some (.slice l[i].ao l[i].pats.length l[i].cap) by rw [txn_get l i 1 hlt (by decide)]; rfl)) rfl ?_))
    (refine w ?_; repeat ((first | refine VO.step rfl rfl ?_ | refine VD.end rfl rfl rfl ?_ | refine VD.mid rfl rfl rfl ?_); refine OpV.box rfl rfl rfl ?_; intro _; refine w ?_))
    have hC := bkpats_raw (W := W) (R := pile TxnE.res (l.drop (i + 1)) :: TxnsO (some za, zc) l :: Sl.star (Sl.Own 59 1 (.slice lo' FF.length lc') FF.length (FF.map ListN.hdr) :: T.map Tx.res) :: R) b f (sl4 (lo', lc') FF.length) xe xp (E ++ eT (l.take i)) (P ++ pT (l.take i)) (l[i].ao, l[i].cap) l[i].pats hoki (by rw [List.length_append]; omega) (by rw [List.length_append]; omega)
    refine VO.ent (Ent.trans (Ent.re (L := pile TxnE.res (l[i] :: l.drop (i + 1)) :: Row b 50 (bkCells (sl4 xe (E ++ eT (l.take i)).length) f (sl4 xp (P ++ pT (l.take i)).length) (sl4 (lo', lc') FF.length)) :: gE xe (E ++ eT (l.take i)) :: gP xp (P ++ pT (l.take i)) :: TxnsO (some za, zc) l :: Sl.star (Sl.Own 59 1 (.slice lo' FF.length lc') FF.length (FF.map ListN.hdr) :: T.map Tx.res) :: R)) (fun w hw => (pile_pop hw).join)) ?_
    refine VO.ent (Ent.re (L := Row b 50 (bkCells (sl4 xe (E ++ eT (l.take i)).length) f (sl4 xp (P ++ pT (l.take i)).length) (sl4 (lo', lc') FF.length)) :: gE xe (E ++ eT (l.take i)) :: gP xp (P ++ pT (l.take i)) :: PatsO (l[i].ao, l[i].cap) l[i].pats :: PilP l[i].pats :: pile TxnE.res (l.drop (i + 1)) :: TxnsO (some za, zc) l :: Sl.star (Sl.Own 59 1 (.slice lo' FF.length lc') FF.length (FF.map ListN.hdr) :: T.map Tx.res) :: R)) ?_
    ((first | refine VO.step rfl rfl ?_ | refine VD.end rfl rfl rfl ?_ | refine VD.mid rfl rfl rfl ?_); refine OpV.call rfl rfl (fun _ _ => by simp) (hC) Ent.refl rfl ?_)
    rintro ⟨xe', xp'⟩ _
    (refine w ?_; repeat ((first | refine VO.step rfl rfl ?_ | refine VD.end rfl rfl rfl ?_ | refine VD.mid rfl rfl rfl ?_); refine OpV.box rfl rfl rfl ?_; intro _; refine w ?_))
    refine VE.round (i + 1, xe', xp') hlt (by simp only; omega) ⟨rfl, rfl, asV rfl (by congr 1), trivial⟩ ?_
    dsimp only
    rw [eT_snoc l i hlt, pT_snoc l i hlt, ← List.append_assoc, ← List.append_assoc]
    exact Ent.refl
  · have hge : i = l.length := by have := of_decide_eq_false hc; omega
    subst hge
    (refine w ?_; repeat ((first | refine VO.step rfl rfl ?_ | refine VD.end rfl rfl rfl ?_ | refine VD.mid rfl rfl rfl ?_); refine OpV.box rfl rfl rfl ?_; intro _; refine w ?_))
    refine VE.doneN (xe, xp, lo', lc') rfl trivial rfl ?_
    dsimp only
    rw [List.take_length]
    refine Ent.trans (Ent.re (L := Row b 50 (bkCells (sl4 xe (E ++ eT l).length) f (sl4 xp (P ++ pT l).length) (sl4 (lo', lc') FF.length)) :: Sl.star (Sl.Own 59 1 (.slice lo' FF.length lc') FF.length (FF.map ListN.hdr) :: T.map Tx.res) :: Tx.res (txnsN z l) :: gE xe (E ++ eT l) :: gP xp (P ++ pT l) :: R)) (fun w hw => ?_)
    have h2 := gOpen hw
    have h3 := gShut (L := FF.map Tx.res) (R := gE xe (E ++ eT l) :: gP xp (P ++ pT l) :: R) (by rw [show FF.map Tx.res = T.map Tx.res ++ [Tx.res (txnsN z l)] by rw [← hFF, List.map_append]; rfl, List.append_assoc]; exact h2)
    exact h3.perm (((List.Perm.swap _ _ _).trans ((List.Perm.swap _ _ _).cons _)).cons _)
/-! ### The book, shut -/
structure Bk where
  E : List ListE
  F : List ListN
  P : List ListN
  T : List ListN
structure BkX where
  e : Option Addr × Nat
  f : Option Addr × Nat
  p : Option Addr × Nat
  t : Option Addr × Nat
abbrev bkO (b : Nat) (x : BkX) (B : Bk) (R : List SProp) : List SProp :=
  Row b 50 (bkCells (sl4 x.e B.E.length) (sl4 x.f B.F.length) (sl4 x.p B.P.length) (sl4 x.t B.T.length)) :: gE x.e B.E :: gF x.f B.F :: gP x.p B.P :: gT x.t B.T :: R
def BookQ (b : Nat) (B : Bk) : SProp := ex fun x : BkX => Sl.star (bkO b x B [])
theorem BookQ.open {W w : World} {b : Nat} {B : Bk} {R : List SProp} (h : Holds W (BookQ b B :: R) w) : ∃ x, Holds W (bkO b x B R) w := by
  obtain ⟨x, h⟩ := h.exOpen
  exact ⟨x, h.join⟩
theorem BookQ.shut {W : World} {b : Nat} {B : Bk} {R : List SProp} (x : BkX) : Ent W (bkO b x B R) (BookQ b B :: R) := fun w hw => Holds.exShut x (Holds.nest (L := bkO b x B []) hw)
theorem BookQ.start {W : World} {b : Nat} {R : List SProp} : Ent W (Row b 50 (bkCells nilS nilS nilS nilS) :: R) (BookQ b ⟨[], [], [], []⟩ :: R) := by
  intro w hw
  refine BookQ.shut ⟨(none, 0), (none, 0), (none, 0), (none, 0)⟩ w ?_
  have h1 := Holds.nest (L := [Sl.Own 59 1 (.slice none 0 0) 0 []]) (Holds.ownNil 59 1 hw)
  have h2 := Holds.nest (L := [Sl.Own 23 1 (.slice none 0 0) 0 []]) (Holds.ownNil 23 1 h1)
  have h3 := Holds.nest (L := [Sl.Own 28 1 (.slice none 0 0) 0 []]) (Holds.ownNil 28 1 h2)
  have h4 := Holds.nest (L := [Sl.Own 55 1 (.slice none 0 0) 0 []]) (Holds.ownNil 55 1 h3)
  have hE : Ent W (gE (none, 0) [] :: gF (none, 0) [] :: gP (none, 0) [] :: gT (none, 0) [] :: Row b 50 (bkCells nilS nilS nilS nilS) :: R) (bkO b ⟨(none, 0), (none, 0), (none, 0), (none, 0)⟩ ⟨[], [], [], []⟩ R) := Ent.re
  exact hE w h4
theorem bkbytes_ok {W : World} {R : List SProp} (b : Nat) (B : Bk) (e : ListE) (hn : B.E.length ≤ 2000000000) :
    Does1 W Try.prog 42 [.pointer (some ⟨b, 0, none⟩), .slice e.ao e.xs.length e.cap] (BookQ b B :: e.res :: R) (.tuple #[]) (BookQ b { B with E := B.E ++ [e] } :: R) := by
  refine DoesO (fun w hw => BookQ.open hw) fun x => ?_
  refine DoesE (H' := Row b 50 (bkCells (sl4 x.e B.E.length) (sl4 x.f B.F.length) (sl4 x.p B.P.length) (sl4 x.t B.T.length)) :: gE x.e B.E :: e.res :: gF x.f B.F :: gP x.p B.P :: gT x.t B.T :: R) Ent.re ?_
  exact Does.mono (bkbytes_raw (R := gF x.f B.F :: gP x.p B.P :: gT x.t B.T :: R) b (sl4 x.f B.F.length) (sl4 x.p B.P.length) (sl4 x.t B.T.length) x.e B.E e hn) (fun _ => ()) (fun _ _ => trivial) (fun _ _ => rfl) (fun y _ => BookQ.shut (B := { B with E := B.E ++ [e] }) ⟨y, x.f, x.p, x.t⟩)
theorem bkrows_ok {W : World} {R : List SProp} (b : Nat) (B : Bk) (z : Option Addr × Nat) (l : List RowE) (hz : z.1 = none → l.length = 0) (hn : B.E.length + l.length ≤ 1000000000) (hf : B.F.length ≤ 1000000000) :
    Does1 W Try.prog 16 [.pointer (some ⟨b, 0, none⟩), .slice z.1 l.length z.2] (BookQ b B :: RowsO z l :: PilR l :: R) (.tuple #[]) (BookQ b { B with E := B.E ++ l.map eR, F := B.F ++ [rowsN z l] } :: R) := by
  refine DoesO (fun w hw => BookQ.open hw) fun x => ?_
  refine DoesE (H' := Row b 50 (bkCells (sl4 x.e B.E.length) (sl4 x.f B.F.length) (sl4 x.p B.P.length) (sl4 x.t B.T.length)) :: gE x.e B.E :: gF x.f B.F :: RowsO z l :: PilR l :: gP x.p B.P :: gT x.t B.T :: R) Ent.re ?_
  exact Does.mono (bkrows_raw (R := gP x.p B.P :: gT x.t B.T :: R) b (sl4 x.p B.P.length) (sl4 x.t B.T.length) x.e x.f B.E B.F z l hz hn hf) (fun _ => ()) (fun _ _ => trivial) (fun _ _ => rfl) (fun y _ => BookQ.shut (B := { B with E := B.E ++ l.map eR, F := B.F ++ [rowsN z l] }) ⟨y.1, y.2, x.p, x.t⟩)
theorem bkpats_ok {W : World} {R : List SProp} (b : Nat) (B : Bk) (z : Option Addr × Nat) (l : List PatE) (hz : z.1 = none → l.length = 0) (hn : B.E.length + l.length ≤ 1000000000) (hf : B.P.length ≤ 1000000000) :
    Does1 W Try.prog 85 [.pointer (some ⟨b, 0, none⟩), .slice z.1 l.length z.2] (BookQ b B :: PatsO z l :: PilP l :: R) (.tuple #[]) (BookQ b { B with E := B.E ++ eP l, P := B.P ++ [patsN z l] } :: R) := by
  refine DoesO (fun w hw => BookQ.open hw) fun x => ?_
  refine DoesE (H' := Row b 50 (bkCells (sl4 x.e B.E.length) (sl4 x.f B.F.length) (sl4 x.p B.P.length) (sl4 x.t B.T.length)) :: gE x.e B.E :: gP x.p B.P :: PatsO z l :: PilP l :: gF x.f B.F :: gT x.t B.T :: R) Ent.re ?_
  exact Does.mono (bkpats_raw (R := gF x.f B.F :: gT x.t B.T :: R) b (sl4 x.f B.F.length) (sl4 x.t B.T.length) x.e x.p B.E B.P z l hz hn hf) (fun _ => ()) (fun _ _ => trivial) (fun _ _ => rfl) (fun y _ => Ent.trans (Ent.re (L := bkO b ⟨y.1, x.f, y.2, x.t⟩ { B with E := B.E ++ eP l, P := B.P ++ [patsN z l] } R)) (BookQ.shut ⟨y.1, x.f, y.2, x.t⟩))
theorem bktxns_ok {W : World} {R : List SProp} (b : Nat) (B : Bk) (z : Option Addr × Nat) (l : List TxnE) (hz : z.1 = none → l.length = 0) (hn : B.E.length + (eT l).length ≤ 1000000000) (hp : B.P.length + l.length ≤ 1000000000) (ht : B.T.length ≤ 1000000000) :
    Does1 W Try.prog 60 [.pointer (some ⟨b, 0, none⟩), .slice z.1 l.length z.2] (BookQ b B :: TxnsO z l :: PilT l :: R) (.tuple #[]) (BookQ b { B with E := B.E ++ eT l, P := B.P ++ pT l, T := B.T ++ [txnsN z l] } :: R) := by
  refine DoesO (fun w hw => BookQ.open hw) fun x => ?_
  refine DoesE (H' := Row b 50 (bkCells (sl4 x.e B.E.length) (sl4 x.f B.F.length) (sl4 x.p B.P.length) (sl4 x.t B.T.length)) :: gE x.e B.E :: gP x.p B.P :: gT x.t B.T :: TxnsO z l :: PilT l :: gF x.f B.F :: R) Ent.re ?_
  exact Does.mono (bktxns_raw (R := gF x.f B.F :: R) b (sl4 x.f B.F.length) x.e x.p x.t B.E B.P B.T z l hz hn hp ht) (fun _ => ()) (fun _ _ => trivial) (fun _ _ => rfl) (fun y _ => Ent.trans (Ent.re (L := bkO b ⟨y.1, x.f, y.2.1, y.2.2⟩ { B with E := B.E ++ eT l, P := B.P ++ pT l, T := B.T ++ [txnsN z l] } R)) (BookQ.shut ⟨y.1, x.f, y.2.1, y.2.2⟩))
structure Bk.ok (B : Bk) : Prop where
  E : B.E.length ≤ 1000000000
  F : B.F.length ≤ 1000000000
  P : B.P.length ≤ 1000000000
  T : B.T.length ≤ 1000000000
  e : ∀ e ∈ B.E, e.xs.length ≤ 1000000000
  f : ∀ e ∈ B.F, e.n ≤ 1000000000
  p : ∀ e ∈ B.P, e.n ≤ 1000000000
  t : ∀ e ∈ B.T, e.n ≤ 1000000000
set_option maxHeartbeats 4000000 in
theorem bkown_ok {W : World} {R : List SProp} (b : Nat) (B : Bk) (h : B.ok) :
    Does1 W Try.prog 19 [.pointer (some ⟨b, 0, none⟩)] (BookQ b B :: R) (.bool true) R := by
  (refine Does.enter Try.func19 Try.ntmps19 rfl rfl ?_)
  refine VC.obtain (fun w => BookQ.open) ?_
  rintro ⟨xe, xf, xp, xt⟩
  refine VC.ent (fun w hw => gOpen hw) ?_
  (refine w ?_; repeat ((first | refine VO.step rfl rfl ?_ | refine VD.end rfl rfl rfl ?_ | refine VD.mid rfl rfl rfl ?_); refine OpV.box rfl rfl rfl ?_; intro _; refine w ?_))
  (first | refine VO.step rfl rfl ?_ | refine VD.end rfl rfl rfl ?_ | refine VD.mid rfl rfl rfl ?_)
  refine OpV.call rfl rfl (fun _ _ => by simp) (ownbytes_ok (R := Row b 50 (bkCells (sl4 xe B.E.length) (sl4 xf B.F.length) (sl4 xp B.P.length) (sl4 xt B.T.length)) :: gF xf B.F :: gP xp B.P :: gT xt B.T :: R) h.E h.e) (fun w hw => hw.perm ?_) rfl ?_
  · exact (List.Perm.swap _ _ _).trans ((List.perm_middle (l₁ := B.E.map ListE.res)).symm.cons _)
  intro _ _
  (refine w ?_; repeat ((first | refine VO.step rfl rfl ?_ | refine VD.end rfl rfl rfl ?_ | refine VD.mid rfl rfl rfl ?_); refine OpV.box rfl rfl rfl ?_; intro _; refine w ?_))
  ((first | refine VO.step rfl rfl ?_ | refine VD.end rfl rfl rfl ?_ | refine VD.mid rfl rfl rfl ?_); refine OpV.call rfl rfl (fun _ _ => by simp) (ownTexts_nil) Ent.refl rfl ?_; intro _ _)
  (refine w ?_; repeat ((first | refine VO.step rfl rfl ?_ | refine VD.end rfl rfl rfl ?_ | refine VD.mid rfl rfl rfl ?_); refine OpV.box rfl rfl rfl ?_; intro _; refine w ?_))
  ((first | refine VO.step rfl rfl ?_ | refine VD.end rfl rfl rfl ?_ | refine VD.mid rfl rfl rfl ?_); refine OpV.call rfl rfl (fun _ _ => by simp) (ownInts_nil) Ent.refl rfl ?_; intro _ _)
  (refine w ?_; repeat ((first | refine VO.step rfl rfl ?_ | refine VD.end rfl rfl rfl ?_ | refine VD.mid rfl rfl rfl ?_); refine OpV.box rfl rfl rfl ?_; intro _; refine w ?_))
  ((first | refine VO.step rfl rfl ?_ | refine VD.end rfl rfl rfl ?_ | refine VD.mid rfl rfl rfl ?_); refine OpV.call rfl rfl (fun _ _ => by simp) (ownNumbers_nil) Ent.refl rfl ?_; intro _ _)
  (refine w ?_; repeat ((first | refine VO.step rfl rfl ?_ | refine VD.end rfl rfl rfl ?_ | refine VD.mid rfl rfl rfl ?_); refine OpV.box rfl rfl rfl ?_; intro _; refine w ?_))
  ((first | refine VO.step rfl rfl ?_ | refine VD.end rfl rfl rfl ?_ | refine VD.mid rfl rfl rfl ?_); refine OpV.call rfl rfl (fun _ _ => by simp) (ownErrs_nil) Ent.refl rfl ?_; intro _ _)
  (refine w ?_; repeat ((first | refine VO.step rfl rfl ?_ | refine VD.end rfl rfl rfl ?_ | refine VD.mid rfl rfl rfl ?_); refine OpV.box rfl rfl rfl ?_; intro _; refine w ?_))
  ((first | refine VO.step rfl rfl ?_ | refine VD.end rfl rfl rfl ?_ | refine VD.mid rfl rfl rfl ?_); refine OpV.call rfl rfl (fun _ _ => by simp) (ownSpans_nil) Ent.refl rfl ?_; intro _ _)
  (refine w ?_; repeat ((first | refine VO.step rfl rfl ?_ | refine VD.end rfl rfl rfl ?_ | refine VD.mid rfl rfl rfl ?_); refine OpV.box rfl rfl rfl ?_; intro _; refine w ?_))
  ((first | refine VO.step rfl rfl ?_ | refine VD.end rfl rfl rfl ?_ | refine VD.mid rfl rfl rfl ?_); refine OpV.call rfl rfl (fun _ _ => by simp) (ownStates_nil) Ent.refl rfl ?_; intro _ _)
  (refine w ?_; repeat ((first | refine VO.step rfl rfl ?_ | refine VD.end rfl rfl rfl ?_ | refine VD.mid rfl rfl rfl ?_); refine OpV.box rfl rfl rfl ?_; intro _; refine w ?_))
  ((first | refine VO.step rfl rfl ?_ | refine VD.end rfl rfl rfl ?_ | refine VD.mid rfl rfl rfl ?_); refine OpV.call rfl rfl (fun _ _ => by simp) (ownBools_nil) Ent.refl rfl ?_; intro _ _)
  (refine w ?_; repeat ((first | refine VO.step rfl rfl ?_ | refine VD.end rfl rfl rfl ?_ | refine VD.mid rfl rfl rfl ?_); refine OpV.box rfl rfl rfl ?_; intro _; refine w ?_))
  refine VO.ent (fun w hw => gOpen hw) ?_
  (first | refine VO.step rfl rfl ?_ | refine VD.end rfl rfl rfl ?_ | refine VD.mid rfl rfl rfl ?_)
  refine OpV.call rfl rfl (fun _ _ => by simp) (Rw.own_ok (R := Row b 50 (bkCells (sl4 xe B.E.length) (sl4 xf B.F.length) (sl4 xp B.P.length) (sl4 xt B.T.length)) :: gP xp B.P :: gT xt B.T :: R) h.F h.f) (fun w hw => hw.perm ?_) rfl ?_
  · exact (List.Perm.swap _ _ _).trans ((List.perm_middle (l₁ := B.F.map Rw.res)).symm.cons _)
  intro _ _
  (refine w ?_; repeat ((first | refine VO.step rfl rfl ?_ | refine VD.end rfl rfl rfl ?_ | refine VD.mid rfl rfl rfl ?_); refine OpV.box rfl rfl rfl ?_; intro _; refine w ?_))
  ((first | refine VO.step rfl rfl ?_ | refine VD.end rfl rfl rfl ?_ | refine VD.mid rfl rfl rfl ?_); refine OpV.call rfl rfl (fun _ _ => by simp) (ownPuts_nil) Ent.refl rfl ?_; intro _ _)
  (refine w ?_; repeat ((first | refine VO.step rfl rfl ?_ | refine VD.end rfl rfl rfl ?_ | refine VD.mid rfl rfl rfl ?_); refine OpV.box rfl rfl rfl ?_; intro _; refine w ?_))
  refine VO.ent (fun w hw => gOpen hw) ?_
  (first | refine VO.step rfl rfl ?_ | refine VD.end rfl rfl rfl ?_ | refine VD.mid rfl rfl rfl ?_)
  refine OpV.call rfl rfl (fun _ _ => by simp) (Pt.own_ok (R := Row b 50 (bkCells (sl4 xe B.E.length) (sl4 xf B.F.length) (sl4 xp B.P.length) (sl4 xt B.T.length)) :: gT xt B.T :: R) h.P h.p) (fun w hw => hw.perm ?_) rfl ?_
  · exact (List.Perm.swap _ _ _).trans ((List.perm_middle (l₁ := B.P.map Pt.res)).symm.cons _)
  intro _ _
  (refine w ?_; repeat ((first | refine VO.step rfl rfl ?_ | refine VD.end rfl rfl rfl ?_ | refine VD.mid rfl rfl rfl ?_); refine OpV.box rfl rfl rfl ?_; intro _; refine w ?_))
  refine VO.ent (fun w hw => gOpen hw) ?_
  (first | refine VO.step rfl rfl ?_ | refine VD.end rfl rfl rfl ?_ | refine VD.mid rfl rfl rfl ?_)
  refine OpV.call rfl rfl (fun _ _ => by simp) (Tx.own_ok (R := Row b 50 (bkCells (sl4 xe B.E.length) (sl4 xf B.F.length) (sl4 xp B.P.length) (sl4 xt B.T.length)) :: R) h.T h.t) (fun w hw => hw.perm ?_) rfl ?_
  · exact (List.Perm.swap _ _ _).trans ((List.perm_middle (l₁ := B.T.map Tx.res)).symm.cons _)
  intro _ _
  (refine w ?_; repeat ((first | refine VO.step rfl rfl ?_ | refine VD.end rfl rfl rfl ?_ | refine VD.mid rfl rfl rfl ?_); refine OpV.box rfl rfl rfl ?_; intro _; refine w ?_))
  (refine VE.done1 rfl ?_ ?_)
  · rfl
  · exact Ent.drop Ent.refl
/-! ### What lies in the book can be read -/
theorem Rds.exq {W : World} {H : List SProp} {α : Type} {P : α → SProp} {sz k : Nat} {ao : Option Addr} {xs : List Value} (m : ex P ∈ H) (x0 : α) (h : ∀ x R, Rds W (P x :: R) sz ao k xs) : Rds W H sz ao k xs := by
  have h0 := h x0 []
  refine ⟨h0.len, h0.one, h0.nil, fun w hw => ?_⟩
  obtain ⟨R, p⟩ := mem_perm m
  obtain ⟨x, hx⟩ := (hw.perm p).exOpen
  exact (h x R).cell w hx
theorem BookQ.part {W : World} {H : List SProp} {b : Nat} {B : Bk} {X : SProp} {sz k : Nat} {ao : Option Addr} {xs : List Value} (m : BookQ b B ∈ H) (hX : ∀ x : BkX, ∃ L, X ∈ L ∧ (Sl.star L = gE x.e B.E ∨ Sl.star L = gF x.f B.F ∨ Sl.star L = gP x.p B.P ∨ Sl.star L = gT x.t B.T)) (h : ∀ R, X ∈ R → Rds W R sz ao k xs) : Rds W H sz ao k xs := by
  refine Rds.exq (P := fun x : BkX => Sl.star (bkO b x B [])) m ⟨(none, 0), (none, 0), (none, 0), (none, 0)⟩ fun x R => ?_
  refine Rds.star (L := bkO b x B []) (.head _) fun R => ?_
  obtain ⟨L, hL, hs⟩ := hX x
  refine Rds.star (L := L) ?_ fun R => h _ (List.mem_append_left _ hL)
  rcases hs with hs | hs | hs | hs <;> rw [hs]
  · exact .tail _ (.head _)
  · exact .tail _ (.tail _ (.head _))
  · exact .tail _ (.tail _ (.tail _ (.head _)))
  · exact .tail _ (.tail _ (.tail _ (.tail _ (.head _))))
theorem BookQ.row {W : World} {H : List SProp} {b : Nat} {B : Bk} {e : RowE} (m : BookQ b B ∈ H) (he : eR e ∈ B.E) (hok : e.ok) : Rds W H 1 e.ao e.data.length (bytes e.data) :=
  BookQ.part (X := e.res) m (fun x => ⟨_, .tail _ (by rw [← eR_res]; exact List.mem_map_of_mem he), .inl rfl⟩) (fun R hR => RowE.rds hok hR)
theorem BookQ.rows {W : World} {H : List SProp} {b : Nat} {B : Bk} {z : Option Addr × Nat} {l : List RowE} (m : BookQ b B ∈ H) (hE : ∀ e ∈ l, eR e ∈ B.E) (hF : rowsN z l ∈ B.F) (hz : z.1 = none → l.length = 0) (hok : ∀ e ∈ l, e.ok) : RdRows W H z.1 l :=
  ⟨BookQ.part (X := RowsO z l) m (fun x => ⟨_, .tail _ (List.mem_map.2 ⟨_, hF, rfl⟩), .inr (.inl rfl)⟩) (fun R hR => Rds.own (rowhdr_one l) hR (by simp) hz), fun e he => BookQ.row m (hE e he) (hok e he), hok⟩
theorem BookQ.pats {W : World} {H : List SProp} {b : Nat} {B : Bk} {z : Option Addr × Nat} {l : List PatE} (m : BookQ b B ∈ H) (hE : ∀ e ∈ eP l, e ∈ B.E) (hP : patsN z l ∈ B.P) (hz : z.1 = none → l.length = 0) (hok : ∀ p ∈ l, p.d.ok) : RdPats W H z.1 l :=
  ⟨BookQ.part (X := PatsO z l) m (fun x => ⟨_, .tail _ (List.mem_map.2 ⟨_, hP, rfl⟩), .inr (.inr (.inl rfl))⟩) (fun R hR => Rds.own (pats_one l) hR (pats_len l) hz), fun p hp => BookQ.row m (hE _ (List.mem_map.2 ⟨p, hp, rfl⟩)) (hok p hp), hok⟩
theorem BookQ.txns {W : World} {H : List SProp} {b : Nat} {B : Bk} {z : Option Addr × Nat} {l : List TxnE} (m : BookQ b B ∈ H) (hE : ∀ e ∈ eT l, e ∈ B.E) (hP : ∀ e ∈ pT l, e ∈ B.P) (hT : txnsN z l ∈ B.T) (hz : z.1 = none → l.length = 0) (hok : ∀ t ∈ l, t.ok) : RdTxns W H z.1 l :=
  ⟨BookQ.part (X := TxnsO z l) m (fun x => ⟨_, .tail _ (List.mem_map.2 ⟨_, hT, rfl⟩), .inr (.inr (.inr rfl))⟩) (fun R hR => Rds.own (txns_one l) hR (txns_len l) hz),
    fun t ht => BookQ.pats (z := (t.ao, t.cap)) m (fun e he => hE e (List.mem_flatMap.2 ⟨t, ht, he⟩)) (hP _ (List.mem_map.2 ⟨t, ht, rfl⟩)) (hok t ht).nil (hok t ht).each, hok⟩
end Go.Proofs.Ytlojjlbngnaphaa
