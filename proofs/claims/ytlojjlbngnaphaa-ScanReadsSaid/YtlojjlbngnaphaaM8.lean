import Derived.Test.YtlojjlbngnaphaaM7
/-! Text Qe. -/
/- The document's book of bytes, rows, patches, batches: Bytes, Rows, Patches, Txns, Found, Own. -/
set_option maxRecDepth 8000
set_option linter.unusedVariables false
set_option linter.unusedSimpArgs false
set_option linter.unusedSectionVars false
namespace Go.Proofs.Ytlojjlbngnaphaa
open Go.RowKit Go.Sl
attribute [local irreducible] Sl.Own

section
variable {W w : World} {A B X : SProp} {L R : List SProp}
theorem gOpen (h : Holds W (A :: Sl.star (B :: L) :: R) w) : Holds W (A :: B :: (L ++ R)) w := by
  have h2 := (h.swap).join
  exact h2.perm (List.perm_middle (l₁ := B :: L))
theorem gShut (h : Holds W (A :: B :: (L ++ R)) w) : Holds W (A :: Sl.star (B :: L) :: R) w := by
  have h2 : Holds W ((B :: L) ++ (A :: R)) w := h.perm (List.perm_middle (l₁ := B :: L)).symm
  exact h2.nest.swap
end
theorem pile_pop {W w : World} {α : Type} {res : α → SProp} {a : α} {l : List α} {R : List SProp} (h : Holds W (pile res (a :: l) :: R) w) : Holds W (res a :: pile res l :: R) w := pile_out (i := 0) (by simp) h
abbrev nilS : Value := .slice none 0 0
abbrev bkCells (e f p t : Value) : List Value := [e, nilS, nilS, nilS, nilS, nilS, nilS, nilS, f, nilS, p, t]
abbrev gE (x : Option Addr × Nat) (E : List ListE) : SProp := Sl.star (Sl.Own 55 1 (.slice x.1 E.length x.2) E.length (E.map ListE.hdr) :: E.map ListE.res)
abbrev gF (x : Option Addr × Nat) (F : List ListN) : SProp := Sl.star (Sl.Own 28 1 (.slice x.1 F.length x.2) F.length (F.map ListN.hdr) :: F.map Rw.res)
abbrev gP (x : Option Addr × Nat) (P : List ListN) : SProp := Sl.star (Sl.Own 23 1 (.slice x.1 P.length x.2) P.length (P.map ListN.hdr) :: P.map Pt.res)
abbrev gT (x : Option Addr × Nat) (T : List ListN) : SProp := Sl.star (Sl.Own 59 1 (.slice x.1 T.length x.2) T.length (T.map ListN.hdr) :: T.map Tx.res)
abbrev sl4 (x : Option Addr × Nat) (n : Nat) : Value := .slice x.1 n x.2

theorem bkbytes_raw {W : World} {R : List SProp} (b : Nat) (f p t : Value) (x : Option Addr × Nat) (E : List ListE) (e : ListE) (hn : E.length ≤ 2000000000) :
    Does W Try.prog 42 [.pointer (some ⟨b, 0, none⟩), .slice e.ao e.xs.length e.cap] (Row b 50 (bkCells (sl4 x E.length) f p t) :: gE x E :: e.res :: R) (β := Option Addr × Nat) (fun _ => True) (fun _ => .tuple #[])
      (fun y => Row b 50 (bkCells (sl4 y (E ++ [e]).length) f p t) :: gE y (E ++ [e]) :: R) := by
  obtain ⟨lo, lc⟩ := x
  (refine Does.enter Try.func42 Try.ntmps42 rfl rfl ?_)
  refine VC.ent (fun w hw => gOpen hw) ?_
  (refine w ?_; repeat ((first | refine VO.step rfl rfl ?_ | refine VD.end rfl rfl rfl ?_ | refine VD.mid rfl rfl rfl ?_); refine OpV.box rfl rfl rfl ?_; intro _; refine w ?_))
  ((first | refine VO.step rfl rfl ?_ | refine VD.end rfl rfl rfl ?_ | refine VD.mid rfl rfl rfl ?_); refine OpV.buildSlice1 st_28 rfl rfl (by first | (simp; done) | simp [Value.oneCell']) (by decide) rfl ?_; intro nb)
  ((first | refine VO.step rfl rfl ?_ | refine VD.end rfl rfl rfl ?_ | refine VD.mid rfl rfl rfl ?_); refine OpV.appendRow st_28 rfl rfl (by (repeat first | exact .head | apply Hole.tail)) (by (focus repeat first | exact .head _ | apply List.Mem.tail)) rfl (by first | (simp; done) | simp [Value.oneCell']) ?_ ?_ rfl ?_)
  · simp only [maxLen]; omega
  · omega
  intro lo' lc'
  (refine w ?_; repeat ((first | refine VO.step rfl rfl ?_ | refine VD.end rfl rfl rfl ?_ | refine VD.mid rfl rfl rfl ?_); refine OpV.box rfl rfl rfl ?_; intro _; refine w ?_))
  refine VE.doneN (lo', lc') rfl trivial rfl ?_
  intro w hw
  refine gShut (L := (E ++ [e]).map ListE.res) ?_
  rw [List.length_append, List.length_singleton, List.map_append, List.map_append, List.append_assoc]
  exact hw.tail
def eR (e : RowE) : ListE := ⟨e.ao, e.cap, bytes e.data⟩
theorem eR_hdr (e : RowE) : Value.slice (eR e).ao (eR e).xs.length (eR e).cap = e.hdr := by unfold eR; dsimp only; rw [bytes_length]
theorem eR_res (e : RowE) : (eR e).res = e.res := by unfold ListE.res RowE.res eR; dsimp only; rw [bytes_length]
theorem eR_len (e : RowE) : (eR e).xs.length = e.data.length := by unfold eR; rw [bytes_length]
def rowsN (x : Option Addr × Nat) (l : List RowE) : ListN := ⟨x.1, x.2, l.length, l.map RowE.hdr⟩
def patsN (x : Option Addr × Nat) (l : List PatE) : ListN := ⟨x.1, x.2, l.length, patCells l⟩
def txnsN (x : Option Addr × Nat) (l : List TxnE) : ListN := ⟨x.1, x.2, l.length, txnCells l⟩
def eP (l : List PatE) : List ListE := l.map fun p => eR p.d
set_option maxHeartbeats 2000000 in
theorem bkpats_raw {W : World} {R : List SProp} (b : Nat) (f t : Value) (x y : Option Addr × Nat) (E : List ListE) (P : List ListN) (z : Option Addr × Nat) (l : List PatE) (hz : z.1 = none → l.length = 0) (hn : E.length + l.length ≤ 1000000000) (hf : P.length ≤ 1000000000) :
    Does W Try.prog 85 [.pointer (some ⟨b, 0, none⟩), .slice z.1 l.length z.2] (Row b 50 (bkCells (sl4 x E.length) f (sl4 y P.length) t) :: gE x E :: gP y P :: PatsO z l :: PilP l :: R) (β := (Option Addr × Nat) × Option Addr × Nat) (fun _ => True) (fun _ => .tuple #[])
      (fun g => Row b 50 (bkCells (sl4 g.1 (E ++ eP l).length) f (sl4 g.2 (P ++ [patsN z l]).length) t) :: gE g.1 (E ++ eP l) :: gP g.2 (P ++ [patsN z l]) :: R) := by
  obtain ⟨lo, lc⟩ := y
  (refine Does.enter Try.func85 Try.ntmps85 rfl rfl ?_)
  refine VC.ent (Ent.trans (Ent.re (L := Row b 50 (bkCells (sl4 x E.length) f (sl4 (lo, lc) P.length) t) :: gP (lo, lc) P :: gE x E :: PatsO z l :: PilP l :: R)) (fun w hw => gOpen hw)) ?_
  (refine w ?_; repeat ((first | refine VO.step rfl rfl ?_ | refine VD.end rfl rfl rfl ?_ | refine VD.mid rfl rfl rfl ?_); refine OpV.box rfl rfl rfl ?_; intro _; refine w ?_))
  ((first | refine VO.step rfl rfl ?_ | refine VD.end rfl rfl rfl ?_ | refine VD.mid rfl rfl rfl ?_); refine OpV.buildSlice1 st_47 rfl rfl (by first | (simp; done) | simp [Value.oneCell']) (by decide) rfl ?_; intro nb)
  ((first | refine VO.step rfl rfl ?_ | refine VD.end rfl rfl rfl ?_ | refine VD.mid rfl rfl rfl ?_); refine OpV.appendRow st_47 rfl rfl (by (repeat first | exact .head | apply Hole.tail)) (by (focus repeat first | exact .head _ | apply List.Mem.tail)) rfl (by first | (simp; done) | simp [Value.oneCell']) ?_ ?_ rfl ?_)
  · simp only [maxLen]; omega
  · omega
  intro lo' lc'
  (refine w ?_; repeat ((first | refine VO.step rfl rfl ?_ | refine VD.end rfl rfl rfl ?_ | refine VD.mid rfl rfl rfl ?_); refine OpV.box rfl rfl rfl ?_; intro _; refine w ?_))
  have hF : (P ++ [patsN z l]).length = P.length + 1 := by rw [List.length_append]; rfl
  have hFm : (P ++ [patsN z l]).map ListN.hdr = P.map ListN.hdr ++ [.slice z.1 l.length z.2] := by rw [List.map_append]; rfl
  have hML : ∀ m : List PatE, (eP m).length = m.length := fun m => by simp [eP]
  generalize hFF : P ++ [patsN z l] = FF at *
  refine VC.loop (α := Nat × Option Addr × Nat) (fun g => g.1 ≤ l.length) (fun g => Row b 50 (bkCells (sl4 g.2 (E ++ eP (l.take g.1)).length) f (sl4 (lo', lc') FF.length) t) :: gE g.2 (E ++ eP (l.take g.1)) :: pile PatE.res (l.drop g.1) :: PatsO z l :: Sl.star (Sl.Own 23 1 (.slice lo' FF.length lc') FF.length (FF.map ListN.hdr) :: P.map Pt.res) :: R)
    (fun g => [(0, .pointer (some ⟨b, 0, none⟩)), (1, .slice z.1 l.length z.2), (4, .int .i64 g.1)]) (fun g => l.length - g.1) rfl (0, x) (Nat.zero_le _) ?_ ⟨rfl, rfl, rfl, trivial⟩ ?_
  · rw [hF, hFm]
    simp only [List.take_zero, List.drop_zero, show eP ([] : List PatE) = [] from rfl, List.append_nil]
    exact Ent.trans (fun w hw => gShut (L := P.map Pt.res) hw.tail) Ent.re
  rintro ⟨i, xe⟩ hi
  dsimp only at hi ⊢
  (refine w ?_; repeat ((first | refine VO.step rfl rfl ?_ | refine VD.end rfl rfl rfl ?_ | refine VD.mid rfl rfl rfl ?_); refine OpV.box rfl rfl rfl ?_; intro _; refine w ?_))
  (refine VC.cond rfl rfl ?_ ?_ <;> intro hc)
  · have hlt : i < l.length := by have := of_decide_eq_true hc; omega
    obtain ⟨zo, zc⟩ := z
    obtain ⟨za, rfl⟩ : ∃ za, zo = some za := by cases zo with | none => have := hz rfl; omega | some za => exact ⟨za, rfl⟩
    have hd : l.drop i = l[i] :: l.drop (i + 1) := List.drop_eq_getElem_cons hlt
    have hlen : (E ++ eP (l.take i)).length ≤ 2000000000 := by rw [List.length_append, hML, List.length_take]; omega
    rw [hd]
    (refine w ?_; repeat ((first | refine VO.step rfl rfl ?_ | refine VD.end rfl rfl rfl ?_ | refine VD.mid rfl rfl rfl ?_); refine OpV.box rfl rfl rfl ?_; intro _; refine w ?_))
    (first | refine VO.pure rfl rfl (PureAt.ldRc tab_ok rfl rfl (Rds.own (pats_one l) (by (focus repeat first | exact .head _ | apply List.Mem.tail)) (pats_len l) (fun h => by cases h)) (show (patCells l)[i * 3 + 2]? = some l[i].d.hdr by rw [pat_get l i 2 hlt (by decide)]; rfl)) rfl ?_ | refine VD.take rfl rfl rfl (PureAt.ldRc tab_ok rfl rfl (Rds.own (pats_one l) (by (focus repeat first | exact .head _ | apply List.Mem.tail)) (pats_len l) (fun h => by cases h)) (show (patCells l)[i * 3 + 2]? = some l[i].d.hdr by rw [pat_get l i 2 hlt (by decide)]; rfl)) rfl ?_ | refine VQ.pure rfl rfl (PureAt.ldRc tab_ok rfl rfl (Rds.own (pats_one l) (by (focus repeat first | exact .head _ | apply List.Mem.tail)) (pats_len l) (fun h => by cases h)) (show (patCells l)[i * 3 + 2]? = some l[i].d.hdr by rw [pat_get l i 2 hlt (by decide)]; rfl)) rfl ?_ | refine VD.end rfl rfl rfl (OpV.pure (PureAt.ldRc tab_ok rfl rfl (Rds.own (pats_one l) (by (focus repeat first | exact .head _ | apply List.Mem.tail)) (pats_len l) (fun h => by cases h)) (show (patCells l)[i * 3 + 2]? = some l[i].d.hdr by rw [pat_get l i 2 hlt (by decide)]; rfl)) rfl ?_))
    (refine w ?_; repeat ((first | refine VO.step rfl rfl ?_ | refine VD.end rfl rfl rfl ?_ | refine VD.mid rfl rfl rfl ?_); refine OpV.box rfl rfl rfl ?_; intro _; refine w ?_))
    have hC := bkbytes_raw (W := W) (R := pile PatE.res (l.drop (i + 1)) :: PatsO (some za, zc) l :: Sl.star (Sl.Own 23 1 (.slice lo' FF.length lc') FF.length (FF.map ListN.hdr) :: P.map Pt.res) :: R) b f (sl4 (lo', lc') FF.length) t xe (E ++ eP (l.take i)) (eR l[i].d) hlen
    rw [eR_hdr, eR_res] at hC
    refine VO.ent (Ent.trans (Ent.re (L := pile PatE.res (l[i] :: l.drop (i + 1)) :: Row b 50 (bkCells (sl4 xe (E ++ eP (l.take i)).length) f (sl4 (lo', lc') FF.length) t) :: gE xe (E ++ eP (l.take i)) :: PatsO (some za, zc) l :: Sl.star (Sl.Own 23 1 (.slice lo' FF.length lc') FF.length (FF.map ListN.hdr) :: P.map Pt.res) :: R)) (fun w hw => pile_pop hw)) ?_
    refine VO.ent (Ent.re (L := Row b 50 (bkCells (sl4 xe (E ++ eP (l.take i)).length) f (sl4 (lo', lc') FF.length) t) :: gE xe (E ++ eP (l.take i)) :: PatE.res l[i] :: pile PatE.res (l.drop (i + 1)) :: PatsO (some za, zc) l :: Sl.star (Sl.Own 23 1 (.slice lo' FF.length lc') FF.length (FF.map ListN.hdr) :: P.map Pt.res) :: R)) ?_
    ((first | refine VO.step rfl rfl ?_ | refine VD.end rfl rfl rfl ?_ | refine VD.mid rfl rfl rfl ?_); refine OpV.call rfl rfl (fun _ _ => by simp) (hC) Ent.refl rfl ?_)
    intro xe' _
    (refine w ?_; repeat ((first | refine VO.step rfl rfl ?_ | refine VD.end rfl rfl rfl ?_ | refine VD.mid rfl rfl rfl ?_); refine OpV.box rfl rfl rfl ?_; intro _; refine w ?_))
    refine VE.round (i + 1, xe') hlt (by simp only; omega) ⟨rfl, rfl, asV rfl (by congr 1), trivial⟩ ?_
    dsimp only
    rw [show E ++ eP (l.take (i + 1)) = (E ++ eP (l.take i)) ++ [eR l[i].d] by rw [List.take_succ_eq_append_getElem hlt, eP, eP, List.map_append, List.append_assoc]; rfl]
    exact Ent.refl
  · have hge : i = l.length := by have := of_decide_eq_false hc; omega
    subst hge
    (refine w ?_; repeat ((first | refine VO.step rfl rfl ?_ | refine VD.end rfl rfl rfl ?_ | refine VD.mid rfl rfl rfl ?_); refine OpV.box rfl rfl rfl ?_; intro _; refine w ?_))
    refine VE.doneN (xe, lo', lc') rfl trivial rfl ?_
    dsimp only
    rw [List.take_length]
    refine Ent.trans (Ent.re (L := Row b 50 (bkCells (sl4 xe (E ++ eP l).length) f (sl4 (lo', lc') FF.length) t) :: Sl.star (Sl.Own 23 1 (.slice lo' FF.length lc') FF.length (FF.map ListN.hdr) :: P.map Pt.res) :: Pt.res (patsN z l) :: gE xe (E ++ eP l) :: R)) (fun w hw => ?_)
    have h2 := gOpen hw
    have h3 := gShut (L := FF.map Pt.res) (R := gE xe (E ++ eP l) :: R) (by rw [show FF.map Pt.res = P.map Pt.res ++ [Pt.res (patsN z l)] by rw [← hFF, List.map_append]; rfl, List.append_assoc]; exact h2)
    exact h3.perm ((List.Perm.swap _ _ _).cons _)
def eT (l : List TxnE) : List ListE := l.flatMap fun t => eP t.pats
def pT (l : List TxnE) : List ListN := l.map fun t => patsN (t.ao, t.cap) t.pats
theorem eT_snoc (l : List TxnE) (i : Nat) (h : i < l.length) : eT (l.take (i + 1)) = eT (l.take i) ++ eP l[i].pats := by
  rw [List.take_succ_eq_append_getElem h, eT, List.flatMap_append]; simp [eT]
theorem pT_snoc (l : List TxnE) (i : Nat) (h : i < l.length) : pT (l.take (i + 1)) = pT (l.take i) ++ [patsN (l[i].ao, l[i].cap) l[i].pats] := by
  rw [List.take_succ_eq_append_getElem h, pT, List.map_append]; rfl
theorem eT_le (l : List TxnE) (i : Nat) (h : i < l.length) : (eT (l.take i)).length + l[i].pats.length ≤ (eT l).length := by
  have e : eT l = eT (l.take (i + 1)) ++ eT (l.drop (i + 1)) := by unfold eT; rw [← List.flatMap_append, List.take_append_drop]
  rw [e, eT_snoc l i h, List.length_append, List.length_append]
  have : (eP l[i].pats).length = l[i].pats.length := by simp [eP]
  omega
set_option maxHeartbeats 2000000 in
theorem bktxns_raw {W : World} {R : List SProp} (b : Nat) (f : Value) (x y u : Option Addr × Nat) (E : List ListE) (P T : List ListN) (z : Option Addr × Nat) (l : List TxnE) (hz : z.1 = none → l.length = 0) (hn : E.length + (eT l).length ≤ 1000000000) (hp : P.length + l.length ≤ 1000000000) (ht : T.length ≤ 1000000000) :
    Does W Try.prog 60 [.pointer (some ⟨b, 0, none⟩), .slice z.1 l.length z.2] (Row b 50 (bkCells (sl4 x E.length) f (sl4 y P.length) (sl4 u T.length)) :: gE x E :: gP y P :: gT u T :: TxnsO z l :: PilT l :: R) (β := (Option Addr × Nat) × (Option Addr × Nat) × Option Addr × Nat) (fun _ => True) (fun _ => .tuple #[])
      (fun g => Row b 50 (bkCells (sl4 g.1 (E ++ eT l).length) f (sl4 g.2.1 (P ++ pT l).length) (sl4 g.2.2 (T ++ [txnsN z l]).length)) :: gE g.1 (E ++ eT l) :: gP g.2.1 (P ++ pT l) :: gT g.2.2 (T ++ [txnsN z l]) :: R) := by
  obtain ⟨lo, lc⟩ := u
  (refine Does.enter Try.func60 Try.ntmps60 rfl rfl ?_)
  refine VC.know (p := ∀ t ∈ l, t.ok) (fun w hw => PilT.know hw.tail.tail.tail.tail.tail) ?_
  intro hok
  refine VC.ent (Ent.trans (Ent.re (L := Row b 50 (bkCells (sl4 x E.length) f (sl4 y P.length) (sl4 (lo, lc) T.length)) :: gT (lo, lc) T :: gE x E :: gP y P :: TxnsO z l :: PilT l :: R)) (fun w hw => gOpen hw)) ?_
  (refine w ?_; repeat ((first | refine VO.step rfl rfl ?_ | refine VD.end rfl rfl rfl ?_ | refine VD.mid rfl rfl rfl ?_); refine OpV.box rfl rfl rfl ?_; intro _; refine w ?_))
  ((first | refine VO.step rfl rfl ?_ | refine VD.end rfl rfl rfl ?_ | refine VD.mid rfl rfl rfl ?_); refine OpV.buildSlice1 st_48 rfl rfl (by first | (simp; done) | simp [Value.oneCell']) (by decide) rfl ?_; intro nb)
  ((first | refine VO.step rfl rfl ?_ | refine VD.end rfl rfl rfl ?_ | refine VD.mid rfl rfl rfl ?_); refine OpV.appendRow st_48 rfl rfl (by (repeat first | exact .head | apply Hole.tail)) (by (focus repeat first | exact .head _ | apply List.Mem.tail)) rfl (by first | (simp; done) | simp [Value.oneCell']) ?_ ?_ rfl ?_)
  · simp only [maxLen]; omega
  · omega
  intro lo' lc'
  (refine w ?_; repeat ((first | refine VO.step rfl rfl ?_ | refine VD.end rfl rfl rfl ?_ | refine VD.mid rfl rfl rfl ?_); refine OpV.box rfl rfl rfl ?_; intro _; refine w ?_))
  have hF : (T ++ [txnsN z l]).length = T.length + 1 := by rw [List.length_append]; rfl
  have hFm : (T ++ [txnsN z l]).map ListN.hdr = T.map ListN.hdr ++ [.slice z.1 l.length z.2] := by rw [List.map_append]; rfl
  generalize hFF : T ++ [txnsN z l] = FF at *
  refine VC.loop (α := Nat × (Option Addr × Nat) × Option Addr × Nat) (fun g => g.1 ≤ l.length) (fun g => Row b 50 (bkCells (sl4 g.2.1 (E ++ eT (l.take g.1)).length) f (sl4 g.2.2 (P ++ pT (l.take g.1)).length) (sl4 (lo', lc') FF.length)) :: gE g.2.1 (E ++ eT (l.take g.1)) :: gP g.2.2 (P ++ pT (l.take g.1)) :: pile TxnE.res (l.drop g.1) :: TxnsO z l :: Sl.star (Sl.Own 59 1 (.slice lo' FF.length lc') FF.length (FF.map ListN.hdr) :: T.map Tx.res) :: R)
    (fun g => [(0, .pointer (some ⟨b, 0, none⟩)), (1, .slice z.1 l.length z.2), (4, .int .i64 g.1)]) (fun g => l.length - g.1) rfl (0, x, y) (Nat.zero_le _) ?_ ⟨rfl, rfl, rfl, trivial⟩ ?_
  · rw [hF, hFm]
    simp only [List.take_zero, List.drop_zero, show eT ([] : List TxnE) = [] from rfl, show pT ([] : List TxnE) = [] from rfl, List.append_nil]
    exact Ent.trans (fun w hw => gShut (L := T.map Tx.res) hw.tail) Ent.re
  rintro ⟨i, xe, xp⟩ hi
  dsimp only at hi ⊢
  (refine w ?_; repeat ((first | refine VO.step rfl rfl ?_ | refine VD.end rfl rfl rfl ?_ | refine VD.mid rfl rfl rfl ?_); refine OpV.box rfl rfl rfl ?_; intro _; refine w ?_))
  (refine VC.cond rfl rfl ?_ ?_ <;> intro hc)
  · have hlt : i < l.length := by have := of_decide_eq_true hc; omega
    obtain ⟨zo, zc⟩ := z
    obtain ⟨za, rfl⟩ : ∃ za, zo = some za := by cases zo with | none => have := hz rfl; omega | some za => exact ⟨za, rfl⟩
    have hd : l.drop i = l[i] :: l.drop (i + 1) := List.drop_eq_getElem_cons hlt
    have hle := eT_le l i hlt
    have hpt : (pT (l.take i)).length = i := by simp only [pT, List.length_map, List.length_take]; omega
    have hoki := (hok _ (List.getElem_mem hlt)).nil
    rw [hd]
    (refine w ?_; repeat ((first | refine VO.step rfl rfl ?_ | refine VD.end rfl rfl rfl ?_ | refine VD.mid rfl rfl rfl ?_); refine OpV.box rfl rfl rfl ?_; intro _; refine w ?_))
    (first | refine VO.pure rfl rfl (PureAt.ldRc tab_ok rfl rfl (Rds.own (txns_one l) (by (focus repeat first | exact .head _ | apply List.Mem.tail)) (txns_len l) (fun h => by cases h)) (show (txnCells l)[i * 2 + 1]? = some (.slice l[i].ao l[i].pats.length l[i].cap) by rw [txn_get l i 1 hlt (by decide)]; rfl)) rfl ?_ | refine VD.take rfl rfl rfl (PureAt.ldRc tab_ok rfl rfl (Rds.own (txns_one l) (by (focus repeat first | exact .head _ | apply List.Mem.tail)) (txns_len l) (fun h => by cases h)) (show (txnCells l)[i * 2 + 1]? = some (.slice l[i].ao l[i].pats.length l[i].cap) by rw [txn_get l i 1 hlt (by decide)]; rfl)) rfl ?_ | refine VQ.pure rfl rfl (PureAt.ldRc tab_ok rfl rfl (Rds.own (txns_one l) (by (focus repeat first | exact .head _ | apply List.Mem.tail)) (txns_len l) (fun h => by cases h)) (show (txnCells l)[i * 2 + 1]? = some (.slice l[i].ao l[i].pats.length l[i].cap) by rw [txn_get l i 1 hlt (by decide)]; rfl)) rfl ?_ | refine VD.end rfl rfl rfl (OpV.pure (PureAt.ldRc tab_ok rfl rfl (Rds.own (txns_one l) (by (focus repeat first | exact .head _ | apply List.Mem.tail)) (txns_len l) (fun h => by cases h)) (show (txnCells l)[i * 2 + 1]? = some (.slice l[i].ao l[i].pats.length l[i].cap) by rw [txn_get l i 1 hlt (by decide)]; rfl)) rfl ?_))
    (refine w ?_; repeat ((first | refine VO.step rfl rfl ?_ | refine VD.end rfl rfl rfl ?_ | refine VD.mid rfl rfl rfl ?_); refine OpV.box rfl rfl rfl ?_; intro _; refine w ?_))
    have hC := bkpats_raw (W := W) (R := pile TxnE.res (l.drop (i + 1)) :: TxnsO (some za, zc) l :: Sl.star (Sl.Own 59 1 (.slice lo' FF.length lc') FF.length (FF.map ListN.hdr) :: T.map Tx.res) :: R) b f (sl4 (lo', lc') FF.length) xe xp (E ++ eT (l.take i)) (P ++ pT (l.take i)) (l[i].ao, l[i].cap) l[i].pats hoki (by rw [List.length_append]; omega) (by rw [List.length_append]; omega)
    refine VO.ent (Ent.trans (Ent.re (L := pile TxnE.res (l[i] :: l.drop (i + 1)) :: Row b 50 (bkCells (sl4 xe (E ++ eT (l.take i)).length) f (sl4 xp (P ++ pT (l.take i)).length) (sl4 (lo', lc') FF.length)) :: gE xe (E ++ eT (l.take i)) :: gP xp (P ++ pT (l.take i)) :: TxnsO (some za, zc) l :: Sl.star (Sl.Own 59 1 (.slice lo' FF.length lc') FF.length (FF.map ListN.hdr) :: T.map Tx.res) :: R)) (fun w hw => (pile_pop hw).join)) ?_
    refine VO.ent (Ent.re (L := Row b 50 (bkCells (sl4 xe (E ++ eT (l.take i)).length) f (sl4 xp (P ++ pT (l.take i)).length) (sl4 (lo', lc') FF.length)) :: gE xe (E ++ eT (l.take i)) :: gP xp (P ++ pT (l.take i)) :: PatsO (l[i].ao, l[i].cap) l[i].pats :: PilP l[i].pats :: pile TxnE.res (l.drop (i + 1)) :: TxnsO (some za, zc) l :: Sl.star (Sl.Own 59 1 (.slice lo' FF.length lc') FF.length (FF.map ListN.hdr) :: T.map Tx.res) :: R)) ?_
    ((first | refine VO.step rfl rfl ?_ | refine VD.end rfl rfl rfl ?_ | refine VD.mid rfl rfl rfl ?_); refine OpV.call rfl rfl (fun _ _ => by simp) (hC) Ent.refl rfl ?_)
    rintro ⟨xe', xp'⟩ _
    (refine w ?_; repeat ((first | refine VO.step rfl rfl ?_ | refine VD.end rfl rfl rfl ?_ | refine VD.mid rfl rfl rfl ?_); refine OpV.box rfl rfl rfl ?_; intro _; refine w ?_))
    refine VE.round (i + 1, xe', xp') hlt (by simp only; omega) ⟨rfl, rfl, asV rfl (by congr 1), trivial⟩ ?_
    dsimp only
    rw [eT_snoc l i hlt, pT_snoc l i hlt, ← List.append_assoc, ← List.append_assoc]
    exact Ent.refl
  · have hge : i = l.length := by have := of_decide_eq_false hc; omega
    subst hge
    (refine w ?_; repeat ((first | refine VO.step rfl rfl ?_ | refine VD.end rfl rfl rfl ?_ | refine VD.mid rfl rfl rfl ?_); refine OpV.box rfl rfl rfl ?_; intro _; refine w ?_))
    refine VE.doneN (xe, xp, lo', lc') rfl trivial rfl ?_
    dsimp only
    rw [List.take_length]
    refine Ent.trans (Ent.re (L := Row b 50 (bkCells (sl4 xe (E ++ eT l).length) f (sl4 xp (P ++ pT l).length) (sl4 (lo', lc') FF.length)) :: Sl.star (Sl.Own 59 1 (.slice lo' FF.length lc') FF.length (FF.map ListN.hdr) :: T.map Tx.res) :: Tx.res (txnsN z l) :: gE xe (E ++ eT l) :: gP xp (P ++ pT l) :: R)) (fun w hw => ?_)
    have h2 := gOpen hw
    have h3 := gShut (L := FF.map Tx.res) (R := gE xe (E ++ eT l) :: gP xp (P ++ pT l) :: R) (by rw [show FF.map Tx.res = T.map Tx.res ++ [Tx.res (txnsN z l)] by rw [← hFF, List.map_append]; rfl, List.append_assoc]; exact h2)
    exact h3.perm (((List.Perm.swap _ _ _).trans ((List.Perm.swap _ _ _).cons _)).cons _)
/-! ### The book, shut -/
structure Bk where
  E : List ListE
  F : List ListN
  P : List ListN
  T : List ListN
structure BkX where
  e : Option Addr × Nat
  f : Option Addr × Nat
  p : Option Addr × Nat
  t : Option Addr × Nat
abbrev bkO (b : Nat) (x : BkX) (B : Bk) (R : List SProp) : List SProp :=
  Row b 50 (bkCells (sl4 x.e B.E.length) (sl4 x.f B.F.length) (sl4 x.p B.P.length) (sl4 x.t B.T.length)) :: gE x.e B.E :: gF x.f B.F :: gP x.p B.P :: gT x.t B.T :: R
def BookQ (b : Nat) (B : Bk) : SProp := ex fun x : BkX => Sl.star (bkO b x B [])
theorem BookQ.open {W w : World} {b : Nat} {B : Bk} {R : List SProp} (h : Holds W (BookQ b B :: R) w) : ∃ x, Holds W (bkO b x B R) w := by
  obtain ⟨x, h⟩ := h.exOpen
  exact ⟨x, h.join⟩
theorem BookQ.shut {W : World} {b : Nat} {B : Bk} {R : List SProp} (x : BkX) : Ent W (bkO b x B R) (BookQ b B :: R) := fun w hw => Holds.exShut x (Holds.nest (L := bkO b x B []) hw)
theorem BookQ.start {W : World} {b : Nat} {R : List SProp} : Ent W (Row b 50 (bkCells nilS nilS nilS nilS) :: R) (BookQ b ⟨[], [], [], []⟩ :: R) := by
  intro w hw
  refine BookQ.shut ⟨(none, 0), (none, 0), (none, 0), (none, 0)⟩ w ?_
  have h1 := Holds.nest (L := [Sl.Own 59 1 (.slice none 0 0) 0 []]) (Holds.ownNil 59 1 hw)
  have h2 := Holds.nest (L := [Sl.Own 23 1 (.slice none 0 0) 0 []]) (Holds.ownNil 23 1 h1)
  have h3 := Holds.nest (L := [Sl.Own 28 1 (.slice none 0 0) 0 []]) (Holds.ownNil 28 1 h2)
  have h4 := Holds.nest (L := [Sl.Own 55 1 (.slice none 0 0) 0 []]) (Holds.ownNil 55 1 h3)
  have hE : Ent W (gE (none, 0) [] :: gF (none, 0) [] :: gP (none, 0) [] :: gT (none, 0) [] :: Row b 50 (bkCells nilS nilS nilS nilS) :: R) (bkO b ⟨(none, 0), (none, 0), (none, 0), (none, 0)⟩ ⟨[], [], [], []⟩ R) := Ent.re
  exact hE w h4
theorem bktxns_ok {W : World} {R : List SProp} (b : Nat) (B : Bk) (z : Option Addr × Nat) (l : List TxnE) (hz : z.1 = none → l.length = 0) (hn : B.E.length + (eT l).length ≤ 1000000000) (hp : B.P.length + l.length ≤ 1000000000) (ht : B.T.length ≤ 1000000000) :
    Does1 W Try.prog 60 [.pointer (some ⟨b, 0, none⟩), .slice z.1 l.length z.2] (BookQ b B :: TxnsO z l :: PilT l :: R) (.tuple #[]) (BookQ b { B with E := B.E ++ eT l, P := B.P ++ pT l, T := B.T ++ [txnsN z l] } :: R) := by
  refine DoesO (fun w hw => BookQ.open hw) fun x => ?_
  refine DoesE (H' := Row b 50 (bkCells (sl4 x.e B.E.length) (sl4 x.f B.F.length) (sl4 x.p B.P.length) (sl4 x.t B.T.length)) :: gE x.e B.E :: gP x.p B.P :: gT x.t B.T :: TxnsO z l :: PilT l :: gF x.f B.F :: R) Ent.re ?_
  exact Does.mono (bktxns_raw (R := gF x.f B.F :: R) b (sl4 x.f B.F.length) x.e x.p x.t B.E B.P B.T z l hz hn hp ht) (fun _ => ()) (fun _ _ => trivial) (fun _ _ => rfl) (fun y _ => Ent.trans (Ent.re (L := bkO b ⟨y.1, x.f, y.2.1, y.2.2⟩ { B with E := B.E ++ eT l, P := B.P ++ pT l, T := B.T ++ [txnsN z l] } R)) (BookQ.shut ⟨y.1, x.f, y.2.1, y.2.2⟩))
structure Bk.ok (B : Bk) : Prop where
  E : B.E.length ≤ 1000000000
  F : B.F.length ≤ 1000000000
  P : B.P.length ≤ 1000000000
  T : B.T.length ≤ 1000000000
  e : ∀ e ∈ B.E, e.xs.length ≤ 1000000000
  f : ∀ e ∈ B.F, e.n ≤ 1000000000
  p : ∀ e ∈ B.P, e.n ≤ 1000000000
  t : ∀ e ∈ B.T, e.n ≤ 1000000000
set_option maxHeartbeats 4000000 in
theorem bkown_ok {W : World} {R : List SProp} (b : Nat) (B : Bk) (h : B.ok) :
    Does1 W Try.prog 19 [.pointer (some ⟨b, 0, none⟩)] (BookQ b B :: R) (.bool true) R := by
  (refine Does.enter Try.func19 Try.ntmps19 rfl rfl ?_)
  refine VC.obtain (fun w => BookQ.open) ?_
  rintro ⟨xe, xf, xp, xt⟩
  refine VC.ent (fun w hw => gOpen hw) ?_
  (refine w ?_; repeat ((first | refine VO.step rfl rfl ?_ | refine VD.end rfl rfl rfl ?_ | refine VD.mid rfl rfl rfl ?_); refine OpV.box rfl rfl rfl ?_; intro _; refine w ?_))
  (first | refine VO.step rfl rfl ?_ | refine VD.end rfl rfl rfl ?_ | refine VD.mid rfl rfl rfl ?_)
  refine OpV.call rfl rfl (fun _ _ => by simp) (ownbytes_ok (R := Row b 50 (bkCells (sl4 xe B.E.length) (sl4 xf B.F.length) (sl4 xp B.P.length) (sl4 xt B.T.length)) :: gF xf B.F :: gP xp B.P :: gT xt B.T :: R) h.E h.e) (fun w hw => hw.perm ?_) rfl ?_
  · exact (List.Perm.swap _ _ _).trans ((List.perm_middle (l₁ := B.E.map ListE.res)).symm.cons _)
  intro _ _
  (refine w ?_; repeat ((first | refine VO.step rfl rfl ?_ | refine VD.end rfl rfl rfl ?_ | refine VD.mid rfl rfl rfl ?_); refine OpV.box rfl rfl rfl ?_; intro _; refine w ?_))
  ((first | refine VO.step rfl rfl ?_ | refine VD.end rfl rfl rfl ?_ | refine VD.mid rfl rfl rfl ?_); refine OpV.call rfl rfl (fun _ _ => by simp) (ownTexts_nil) Ent.refl rfl ?_; intro _ _)
  (refine w ?_; repeat ((first | refine VO.step rfl rfl ?_ | refine VD.end rfl rfl rfl ?_ | refine VD.mid rfl rfl rfl ?_); refine OpV.box rfl rfl rfl ?_; intro _; refine w ?_))
  ((first | refine VO.step rfl rfl ?_ | refine VD.end rfl rfl rfl ?_ | refine VD.mid rfl rfl rfl ?_); refine OpV.call rfl rfl (fun _ _ => by simp) (ownInts_nil) Ent.refl rfl ?_; intro _ _)
  (refine w ?_; repeat ((first | refine VO.step rfl rfl ?_ | refine VD.end rfl rfl rfl ?_ | refine VD.mid rfl rfl rfl ?_); refine OpV.box rfl rfl rfl ?_; intro _; refine w ?_))
  ((first | refine VO.step rfl rfl ?_ | refine VD.end rfl rfl rfl ?_ | refine VD.mid rfl rfl rfl ?_); refine OpV.call rfl rfl (fun _ _ => by simp) (ownNumbers_nil) Ent.refl rfl ?_; intro _ _)
  (refine w ?_; repeat ((first | refine VO.step rfl rfl ?_ | refine VD.end rfl rfl rfl ?_ | refine VD.mid rfl rfl rfl ?_); refine OpV.box rfl rfl rfl ?_; intro _; refine w ?_))
  ((first | refine VO.step rfl rfl ?_ | refine VD.end rfl rfl rfl ?_ | refine VD.mid rfl rfl rfl ?_); refine OpV.call rfl rfl (fun _ _ => by simp) (ownErrs_nil) Ent.refl rfl ?_; intro _ _)
  (refine w ?_; repeat ((first | refine VO.step rfl rfl ?_ | refine VD.end rfl rfl rfl ?_ | refine VD.mid rfl rfl rfl ?_); refine OpV.box rfl rfl rfl ?_; intro _; refine w ?_))
  ((first | refine VO.step rfl rfl ?_ | refine VD.end rfl rfl rfl ?_ | refine VD.mid rfl rfl rfl ?_); refine OpV.call rfl rfl (fun _ _ => by simp) (ownSpans_nil) Ent.refl rfl ?_; intro _ _)
  (refine w ?_; repeat ((first | refine VO.step rfl rfl ?_ | refine VD.end rfl rfl rfl ?_ | refine VD.mid rfl rfl rfl ?_); refine OpV.box rfl rfl rfl ?_; intro _; refine w ?_))
  ((first | refine VO.step rfl rfl ?_ | refine VD.end rfl rfl rfl ?_ | refine VD.mid rfl rfl rfl ?_); refine OpV.call rfl rfl (fun _ _ => by simp) (ownStates_nil) Ent.refl rfl ?_; intro _ _)
  (refine w ?_; repeat ((first | refine VO.step rfl rfl ?_ | refine VD.end rfl rfl rfl ?_ | refine VD.mid rfl rfl rfl ?_); refine OpV.box rfl rfl rfl ?_; intro _; refine w ?_))
  ((first | refine VO.step rfl rfl ?_ | refine VD.end rfl rfl rfl ?_ | refine VD.mid rfl rfl rfl ?_); refine OpV.call rfl rfl (fun _ _ => by simp) (ownBools_nil) Ent.refl rfl ?_; intro _ _)
  (refine w ?_; repeat ((first | refine VO.step rfl rfl ?_ | refine VD.end rfl rfl rfl ?_ | refine VD.mid rfl rfl rfl ?_); refine OpV.box rfl rfl rfl ?_; intro _; refine w ?_))
  refine VO.ent (fun w hw => gOpen hw) ?_
  (first | refine VO.step rfl rfl ?_ | refine VD.end rfl rfl rfl ?_ | refine VD.mid rfl rfl rfl ?_)
  refine OpV.call rfl rfl (fun _ _ => by simp) (Rw.own_ok (R := Row b 50 (bkCells (sl4 xe B.E.length) (sl4 xf B.F.length) (sl4 xp B.P.length) (sl4 xt B.T.length)) :: gP xp B.P :: gT xt B.T :: R) h.F h.f) (fun w hw => hw.perm ?_) rfl ?_
  · exact (List.Perm.swap _ _ _).trans ((List.perm_middle (l₁ := B.F.map Rw.res)).symm.cons _)
  intro _ _
  (refine w ?_; repeat ((first | refine VO.step rfl rfl ?_ | refine VD.end rfl rfl rfl ?_ | refine VD.mid rfl rfl rfl ?_); refine OpV.box rfl rfl rfl ?_; intro _; refine w ?_))
  ((first | refine VO.step rfl rfl ?_ | refine VD.end rfl rfl rfl ?_ | refine VD.mid rfl rfl rfl ?_); refine OpV.call rfl rfl (fun _ _ => by simp) (ownPuts_nil) Ent.refl rfl ?_; intro _ _)
  (refine w ?_; repeat ((first | refine VO.step rfl rfl ?_ | refine VD.end rfl rfl rfl ?_ | refine VD.mid rfl rfl rfl ?_); refine OpV.box rfl rfl rfl ?_; intro _; refine w ?_))
  refine VO.ent (fun w hw => gOpen hw) ?_
  (first | refine VO.step rfl rfl ?_ | refine VD.end rfl rfl rfl ?_ | refine VD.mid rfl rfl rfl ?_)
  refine OpV.call rfl rfl (fun _ _ => by simp) (Pt.own_ok (R := Row b 50 (bkCells (sl4 xe B.E.length) (sl4 xf B.F.length) (sl4 xp B.P.length) (sl4 xt B.T.length)) :: gT xt B.T :: R) h.P h.p) (fun w hw => hw.perm ?_) rfl ?_
  · exact (List.Perm.swap _ _ _).trans ((List.perm_middle (l₁ := B.P.map Pt.res)).symm.cons _)
  intro _ _
  (refine w ?_; repeat ((first | refine VO.step rfl rfl ?_ | refine VD.end rfl rfl rfl ?_ | refine VD.mid rfl rfl rfl ?_); refine OpV.box rfl rfl rfl ?_; intro _; refine w ?_))
  refine VO.ent (fun w hw => gOpen hw) ?_
  (first | refine VO.step rfl rfl ?_ | refine VD.end rfl rfl rfl ?_ | refine VD.mid rfl rfl rfl ?_)
  refine OpV.call rfl rfl (fun _ _ => by simp) (Tx.own_ok (R := Row b 50 (bkCells (sl4 xe B.E.length) (sl4 xf B.F.length) (sl4 xp B.P.length) (sl4 xt B.T.length)) :: R) h.T h.t) (fun w hw => hw.perm ?_) rfl ?_
  · exact (List.Perm.swap _ _ _).trans ((List.perm_middle (l₁ := B.T.map Tx.res)).symm.cons _)
  intro _ _
  (refine w ?_; repeat ((first | refine VO.step rfl rfl ?_ | refine VD.end rfl rfl rfl ?_ | refine VD.mid rfl rfl rfl ?_); refine OpV.box rfl rfl rfl ?_; intro _; refine w ?_))
  (refine VE.done1 rfl ?_ ?_)
  · rfl
  · exact Ent.drop Ent.refl
/-! ### What lies in the book can be read -/
theorem Rds.exq {W : World} {H : List SProp} {α : Type} {P : α → SProp} {sz k : Nat} {ao : Option Addr} {xs : List Value} (m : ex P ∈ H) (x0 : α) (h : ∀ x R, Rds W (P x :: R) sz ao k xs) : Rds W H sz ao k xs := by
  have h0 := h x0 []
  refine ⟨h0.len, h0.one, h0.nil, fun w hw => ?_⟩
  obtain ⟨R, p⟩ := mem_perm m
  obtain ⟨x, hx⟩ := (hw.perm p).exOpen
  exact (h x R).cell w hx
theorem BookQ.part {W : World} {H : List SProp} {b : Nat} {B : Bk} {X : SProp} {sz k : Nat} {ao : Option Addr} {xs : List Value} (m : BookQ b B ∈ H) (hX : ∀ x : BkX, ∃ L, X ∈ L ∧ (Sl.star L = gE x.e B.E ∨ Sl.star L = gF x.f B.F ∨ Sl.star L = gP x.p B.P ∨ Sl.star L = gT x.t B.T)) (h : ∀ R, X ∈ R → Rds W R sz ao k xs) : Rds W H sz ao k xs := by
  refine Rds.exq (P := fun x : BkX => Sl.star (bkO b x B [])) m ⟨(none, 0), (none, 0), (none, 0), (none, 0)⟩ fun x R => ?_
  refine Rds.star (L := bkO b x B []) (.head _) fun R => ?_
  obtain ⟨L, hL, hs⟩ := hX x
  refine Rds.star (L := L) ?_ fun R => h _ (List.mem_append_left _ hL)
  rcases hs with hs | hs | hs | hs <;> rw [hs]
  · exact .tail _ (.head _)
  · exact .tail _ (.tail _ (.head _))
  · exact .tail _ (.tail _ (.tail _ (.head _)))
  · exact .tail _ (.tail _ (.tail _ (.tail _ (.head _))))
theorem BookQ.row {W : World} {H : List SProp} {b : Nat} {B : Bk} {e : RowE} (m : BookQ b B ∈ H) (he : eR e ∈ B.E) (hok : e.ok) : Rds W H 1 e.ao e.data.length (bytes e.data) :=
  BookQ.part (X := e.res) m (fun x => ⟨_, .tail _ (by rw [← eR_res]; exact List.mem_map_of_mem he), .inl rfl⟩) (fun R hR => RowE.rds hok hR)
theorem BookQ.rows {W : World} {H : List SProp} {b : Nat} {B : Bk} {z : Option Addr × Nat} {l : List RowE} (m : BookQ b B ∈ H) (hE : ∀ e ∈ l, eR e ∈ B.E) (hF : rowsN z l ∈ B.F) (hz : z.1 = none → l.length = 0) (hok : ∀ e ∈ l, e.ok) : RdRows W H z.1 l :=
  ⟨BookQ.part (X := RowsO z l) m (fun x => ⟨_, .tail _ (List.mem_map.2 ⟨_, hF, rfl⟩), .inr (.inl rfl)⟩) (fun R hR => Rds.own (rowhdr_one l) hR (by simp) hz), fun e he => BookQ.row m (hE e he) (hok e he), hok⟩
theorem BookQ.pats {W : World} {H : List SProp} {b : Nat} {B : Bk} {z : Option Addr × Nat} {l : List PatE} (m : BookQ b B ∈ H) (hE : ∀ e ∈ eP l, e ∈ B.E) (hP : patsN z l ∈ B.P) (hz : z.1 = none → l.length = 0) (hok : ∀ p ∈ l, p.d.ok) : RdPats W H z.1 l :=
  ⟨BookQ.part (X := PatsO z l) m (fun x => ⟨_, .tail _ (List.mem_map.2 ⟨_, hP, rfl⟩), .inr (.inr (.inl rfl))⟩) (fun R hR => Rds.own (pats_one l) hR (pats_len l) hz), fun p hp => BookQ.row m (hE _ (List.mem_map.2 ⟨p, hp, rfl⟩)) (hok p hp), hok⟩
theorem BookQ.txns {W : World} {H : List SProp} {b : Nat} {B : Bk} {z : Option Addr × Nat} {l : List TxnE} (m : BookQ b B ∈ H) (hE : ∀ e ∈ eT l, e ∈ B.E) (hP : ∀ e ∈ pT l, e ∈ B.P) (hT : txnsN z l ∈ B.T) (hz : z.1 = none → l.length = 0) (hok : ∀ t ∈ l, t.ok) : RdTxns W H z.1 l :=
  ⟨BookQ.part (X := TxnsO z l) m (fun x => ⟨_, .tail _ (List.mem_map.2 ⟨_, hT, rfl⟩), .inr (.inr (.inr rfl))⟩) (fun R hR => Rds.own (txns_one l) hR (txns_len l) hz),
    fun t ht => BookQ.pats (z := (t.ao, t.cap)) m (fun e he => hE e (List.mem_flatMap.2 ⟨t, ht, he⟩)) (hP _ (List.mem_map.2 ⟨t, ht, rfl⟩)) (hok t ht).nil (hok t ht).each, hok⟩
end Go.Proofs.Ytlojjlbngnaphaa

/-! Text Nx. -/
/- Scan: the document's Sectors. -/
set_option maxRecDepth 8000
set_option linter.unusedVariables false
set_option linter.unusedSimpArgs false
set_option linter.unusedSectionVars false
namespace Go.Proofs.Ytlojjlbngnaphaa
open Go.RowKit Go.Sl
attribute [local irreducible] Own

end Go.Proofs.Ytlojjlbngnaphaa

/-! Text Qf. -/
/- The law ScanWrites: walked. -/
set_option maxRecDepth 8000
set_option linter.unusedVariables false
set_option linter.unusedSimpArgs false
set_option linter.unusedSectionVars false
namespace Go.Proofs.Ytlojjlbngnaphaa
open Go.RowKit Go.Sl
attribute [local irreducible] Sl.Own

end Go.Proofs.Ytlojjlbngnaphaa

/-! Text Qg. -/
/- Scan: the document's own answer: a sector, a batch: walked. -/
set_option maxRecDepth 8000
set_option linter.unusedVariables false
set_option linter.unusedSimpArgs false
set_option linter.unusedSectionVars false
namespace Go.Proofs.Ytlojjlbngnaphaa
open Go.RowKit Go.Sl
attribute [local irreducible] Sl.Own

theorem rsector_ok {W : World} {R : List SProp} {la : Addr} {cap n at_ i : Nat} (hn : 0 < n ∧ n ≤ 2048) (hcap : n * 128 ≤ cap) (hi : at_ + i ≤ 1000000000) :
    Does1 W Try.prog 82 [.slice (some la) (n * 128) cap, .int .i64 at_, .int .i64 i] R (.slice (subA (some la) cap ((at_ + i) % n * 128) 1) 128 (cap - (at_ + i) % n * 128)) R := by
  have hm : (at_ + i) % n < n := Nat.mod_lt _ hn.1
  obtain ⟨k, hk⟩ : ∃ k, k = (at_ + i) % n := ⟨_, rfl⟩
  rw [← hk] at hm ⊢
  (refine Does.enter Try.func82 Try.ntmps82 rfl rfl ?_)
  (refine w ?_; repeat ((first | refine VO.step rfl rfl ?_ | refine VD.end rfl rfl rfl ?_ | refine VD.mid rfl rfl rfl ?_); refine OpV.box rfl rfl rfl ?_; intro _; refine w ?_))
  (first | refine VO.pure rfl rfl (PureAt.quo (a := n * 128) (b := 128) rfl rfl (by decide) (IntWalk.i64_in _ ⟨by omega, by omega⟩)) rfl ?_ | refine VD.take rfl rfl rfl (PureAt.quo (a := n * 128) (b := 128) rfl rfl (by decide) (IntWalk.i64_in _ ⟨by omega, by omega⟩)) rfl ?_ | refine VQ.pure rfl rfl (PureAt.quo (a := n * 128) (b := 128) rfl rfl (by decide) (IntWalk.i64_in _ ⟨by omega, by omega⟩)) rfl ?_ | refine VD.end rfl rfl rfl (OpV.pure (PureAt.quo (a := n * 128) (b := 128) rfl rfl (by decide) (IntWalk.i64_in _ ⟨by omega, by omega⟩)) rfl ?_))
  rw [Nat.mul_div_cancel n (by decide : 0 < 128)]
  refine VO.re 10 (.int .i64 ((at_ + i : Nat) : Int)) rfl (by congr 1) ?_
  (first | refine VO.pure rfl rfl (PureAt.rem (a := at_ + i) (b := n) rfl rfl hn.1) rfl ?_ | refine VD.take rfl rfl rfl (PureAt.rem (a := at_ + i) (b := n) rfl rfl hn.1) rfl ?_ | refine VQ.pure rfl rfl (PureAt.rem (a := at_ + i) (b := n) rfl rfl hn.1) rfl ?_ | refine VD.end rfl rfl rfl (OpV.pure (PureAt.rem (a := at_ + i) (b := n) rfl rfl hn.1) rfl ?_))
  rw [← hk]
  (refine w ?_; repeat ((first | refine VO.step rfl rfl ?_ | refine VD.end rfl rfl rfl ?_ | refine VD.mid rfl rfl rfl ?_); refine OpV.box rfl rfl rfl ?_; intro _; refine w ?_))
  refine VO.re 17 (.int .i64 ((k * 128 : Nat) : Int)) rfl (by congr 1; omega) ?_
  refine VO.re 20 (.int .i64 (((k + 1) * 128 : Nat) : Int)) rfl (by congr 1; omega) ?_
  (refine w ?_; repeat ((first | refine VO.step rfl rfl ?_ | refine VD.end rfl rfl rfl ?_ | refine VD.mid rfl rfl rfl ?_); refine OpV.box rfl rfl rfl ?_; intro _; refine w ?_))
  refine VE.done1 rfl (by congr 1; omega) Ent.refl
/-- The document's sector as it can be read. -/
theorem rsector_rds {W : World} {R : List SProp} {la : Addr} {cap n : Nat} {data : List UInt8} (hcap : n * 128 ≤ cap) (hr : Rds W R 1 (some la) (n * 128) (bytes data)) (hd : data.length = n * 128) {k : Nat} (hk : k < n) :
    Rds W R 1 (subA (some la) cap (k * 128) 1) 128 (bytes ((data.drop (k * 128)).take 128)) := by
  have h1 := hr.sub (cap := cap) (l := k * 128) (h := (k + 1) * 128) (by omega) (by omega) hcap
  rw [show (k + 1) * 128 - k * 128 = 128 by omega, Nat.mul_one, Nat.mul_one] at h1
  have h2 : bytes ((data.drop (k * 128)).take 128) = ((bytes data).drop (k * 128)).take 128 := by unfold bytes; rw [List.map_take, List.map_drop]
  rw [h2]
  exact h1
theorem batN_pos {sec : SecF} (h : (HdrD.dec (sec 0)).1 = 0) : 1 ≤ batN sec ∧ batN sec ≤ 1023 := (hdr_decO h).2.1.2.1
theorem batM_none {sec : SecF} {room e s : Nat} (h : ¬ batOk sec room e s) : batM sec room e s = none := if_neg h
set_option maxHeartbeats 8000000 in
theorem rbatch_ok {W : World} {R : List SProp} {la : Addr} {cap n : Nat} {data : List UInt8} (hn : 0 < n ∧ n ≤ 2048) (hcap : n * 128 ≤ cap) (at_ room e s : Nat) (ha : at_ < n) (hroom : room ≤ n) (he : e < 2 ^ 64) (hs : s < 2 ^ 64) (hd : data.length = n * 128) (hr : Rds W R 1 (some la) (n * 128) (bytes data)) (sec : SecF) (hsec : ∀ i, sec i = (data.drop ((at_ + i) % n * 128)).take 128) :
    Does W Try.prog 59 [.slice (some la) (n * 128) cap, .int .i64 at_, .int .i64 room, .int .u64 e, .int .u64 s] R (β := TxnE) (fun t => ∀ l, s ≤ 4611686018427387904 → batM sec room e s = some l → t.seq = s ∧ t.pats.map PatE.D = l)
      (fun t => .tuple #[.agg t.cells.toArray, .int .i64 (if s ≤ 4611686018427387904 then (batM sec room e s).elim 0 fun l => 2 * (l.length : Int) + 1 else 0)]) (fun t => PatsO (t.ao, t.cap) t.pats :: PilP t.pats :: R) := by
  have hlen : ∀ i, (sec i).length = 128 := fun i => by
    have := Nat.mod_lt (at_ + i) hn.1
    rw [hsec, List.length_take, List.length_drop]; omega
  have hRd : ∀ i, Rds W R 1 (subA (some la) cap ((at_ + i) % n * 128) 1) (sec i).length (bytes (sec i)) := fun i => by
    rw [hlen, hsec]; exact rsector_rds hcap hr hd (Nat.mod_lt _ hn.1)
  have hnone : ∀ {L : List SProp}, Ent W L R → Ent W L (PatsO (none, 0) [] :: PilP [] :: R) := fun h w hw => (pile_nil (res := PatE.res) (h w hw)).ownNil _ _
  have hfail : ∀ (h : s ≤ 4611686018427387904 → ¬ batOk sec room e s), (∀ l, s ≤ 4611686018427387904 → batM sec room e s = some l → (0 : Nat) = s ∧ ([] : List PatE).map PatE.D = l) ∧ (if s ≤ 4611686018427387904 then (batM sec room e s).elim 0 fun l => 2 * (l.length : Int) + 1 else 0) = 0 := fun h => by
    refine ⟨fun l h1 h2 => (by rw [batM_none (h h1)] at h2; cases h2), ?_⟩
    split
    · rename_i h1; rw [batM_none (h h1)]; rfl
    · rfl
  have hSC : ∀ (L : List SProp) (i : Nat), i ≤ 10000 → Does1 W Try.prog 82 [.slice (some la) (n * 128) cap, .int .i64 at_, .int .i64 i] L (.slice (subA (some la) cap ((at_ + i) % n * 128) 1) 128 (cap - (at_ + i) % n * 128)) L := fun L i hi => rsector_ok hn hcap (by omega)
  have hcp : ∀ i, 128 ≤ cap - (at_ + i) % n * 128 := fun i => by
    have := Nat.mod_lt (at_ + i) hn.1
    have : ((at_ + i) % n + 1) * 128 ≤ n * 128 := Nat.mul_le_mul_right _ (by omega)
    omega
  (refine Does.enter Try.func59 Try.ntmps59 rfl rfl ?_)
  (refine w ?_; repeat ((first | refine VO.step rfl rfl ?_ | refine VD.end rfl rfl rfl ?_ | refine VD.mid rfl rfl rfl ?_); refine OpV.box rfl rfl rfl ?_; intro _; refine w ?_))
  ((first | refine VO.step rfl rfl ?_ | refine VD.end rfl rfl rfl ?_ | refine VD.mid rfl rfl rfl ?_); refine OpV.allocS sb_25 rfl ?_; intro n10)
  (refine w ?_; repeat ((first | refine VO.step rfl rfl ?_ | refine VD.end rfl rfl rfl ?_ | refine VD.mid rfl rfl rfl ?_); refine OpV.box rfl rfl rfl ?_; intro _; refine w ?_))
  (apply VO.pure rfl rfl; apply PureAt.build sb_25 rfl; (simp [buildX, setL, Value.cells]; rfl); rfl)
  ((first | refine VO.step rfl rfl ?_ | refine VD.end rfl rfl rfl ?_ | refine VD.mid rfl rfl rfl ?_); refine OpV.allocS sb_25 rfl ?_; intro n12)
  (first | refine VO.step rfl rfl ?_ | refine VD.end rfl rfl rfl ?_ | refine VD.mid rfl rfl rfl ?_)
  refine OpV.stA (vs := [.int .u64 0, .slice none 0 0]) tab_ok rfl rfl rfl rfl (by simp [Value.oneCell']) (by (repeat first | exact .head | apply Hole.tail)) (by simp) ?_
  refine VO.ent (H' := Row n12 25 [.int .u64 0, .slice none 0 0] :: Row n10 25 [.int .u64 0, .slice none 0 0] :: R) Ent.refl ?_
  (refine w ?_; repeat ((first | refine VO.step rfl rfl ?_ | refine VD.end rfl rfl rfl ?_ | refine VD.mid rfl rfl rfl ?_); refine OpV.box rfl rfl rfl ?_; intro _; refine w ?_))
  by_cases hrm : room < 3
  · (first | refine VO.gT rfl rfl rfl (decide_eq_true (by omega)) ?_ | refine VD.gT rfl rfl rfl (decide_eq_true (by omega)) ?_)
    ((refine w ?_; repeat ((first | refine VO.step rfl rfl ?_ | refine VD.end rfl rfl rfl ?_ | refine VD.mid rfl rfl rfl ?_); refine OpV.box rfl rfl rfl ?_; intro _; refine w ?_)); (first | refine VO.step rfl rfl ?_ | refine VD.end rfl rfl rfl ?_ | refine VD.mid rfl rfl rfl ?_); refine OpV.stA (vs := [.int .u64 0, .slice none 0 0]) tab_ok rfl rfl rfl rfl (by simp [Value.oneCell']) (by (repeat first | exact .head | apply Hole.tail)) (by simp) ?_; (refine w ?_; repeat ((first | refine VO.step rfl rfl ?_ | refine VD.end rfl rfl rfl ?_ | refine VD.mid rfl rfl rfl ?_); refine OpV.box rfl rfl rfl ?_; intro _; refine w ?_)); refine VE.results2 (.inl rfl) (⟨0, none, 0, []⟩ : TxnE) rfl (ResIs.agg (vs := [.int .u64 0, .slice none 0 0]) tab_ok rfl rfl (by (focus repeat first | exact .head _ | apply List.Mem.tail)) rfl rfl) (.tmp rfl) (hfail (fun _ h => by have := batN_pos h.1; have := h.2.1; omega)).1 (by rw [(hfail (fun _ h => by have := batN_pos h.1; have := h.2.1; omega)).2]; rfl) (hnone Ent.re))
  (first | refine VO.gF rfl rfl rfl (decide_eq_false (by omega)) ?_ | refine VD.gF rfl rfl rfl (decide_eq_false (by omega)) ?_)
  (refine w ?_; repeat ((first | refine VO.step rfl rfl ?_ | refine VD.end rfl rfl rfl ?_ | refine VD.mid rfl rfl rfl ?_); refine OpV.box rfl rfl rfl ?_; intro _; refine w ?_))
  by_cases hsm : 4611686018427387904 < s
  · (refine VC.condTe rfl rfl (decide_eq_true (by omega)) ?_)
    ((refine w ?_; repeat ((first | refine VO.step rfl rfl ?_ | refine VD.end rfl rfl rfl ?_ | refine VD.mid rfl rfl rfl ?_); refine OpV.box rfl rfl rfl ?_; intro _; refine w ?_)); (first | refine VO.step rfl rfl ?_ | refine VD.end rfl rfl rfl ?_ | refine VD.mid rfl rfl rfl ?_); refine OpV.stA (vs := [.int .u64 0, .slice none 0 0]) tab_ok rfl rfl rfl rfl (by simp [Value.oneCell']) (by (repeat first | exact .head | apply Hole.tail)) (by simp) ?_; (refine w ?_; repeat ((first | refine VO.step rfl rfl ?_ | refine VD.end rfl rfl rfl ?_ | refine VD.mid rfl rfl rfl ?_); refine OpV.box rfl rfl rfl ?_; intro _; refine w ?_)); refine VE.results2 (.inl rfl) (⟨0, none, 0, []⟩ : TxnE) rfl (ResIs.agg (vs := [.int .u64 0, .slice none 0 0]) tab_ok rfl rfl (by (focus repeat first | exact .head _ | apply List.Mem.tail)) rfl rfl) (.tmp rfl) (hfail (fun h => absurd h (by omega))).1 (by rw [(hfail (fun h => absurd h (by omega))).2]; rfl) (hnone Ent.re))
  (refine VC.condFe rfl rfl (decide_eq_false (by omega)) ?_)
  (refine w ?_; repeat ((first | refine VO.step rfl rfl ?_ | refine VD.end rfl rfl rfl ?_ | refine VD.mid rfl rfl rfl ?_); refine OpV.box rfl rfl rfl ?_; intro _; refine w ?_))
  ((first | refine VO.step rfl rfl ?_ | refine VD.end rfl rfl rfl ?_ | refine VD.mid rfl rfl rfl ?_); refine OpV.call rfl rfl (fun _ _ => by simp) (hSC _ 0 (by decide)) Ent.refl rfl ?_)
  intro _ _
  (refine w ?_; repeat ((first | refine VO.step rfl rfl ?_ | refine VD.end rfl rfl rfl ?_ | refine VD.mid rfl rfl rfl ?_); refine OpV.box rfl rfl rfl ?_; intro _; refine w ?_))
  have hC0 := rdech_ok (W := W) (R := Row n12 25 [.int .u64 0, .slice none 0 0] :: Row n10 25 [.int .u64 0, .slice none 0 0] :: R) ((hRd 0).ent (Ent.drop (Ent.drop Ent.refl))) (by rw [hlen]; exact hcp 0)
  rw [hlen] at hC0
  ((first | refine VO.step rfl rfl ?_ | refine VD.end rfl rfl rfl ?_ | refine VD.mid rfl rfl rfl ?_); refine OpV.call rfl rfl (fun _ _ => by simp) (hC0) Ent.refl rfl ?_)
  intro _ _
  (refine w ?_; repeat ((first | refine VO.step rfl rfl ?_ | refine VD.end rfl rfl rfl ?_ | refine VD.mid rfl rfl rfl ?_); refine OpV.box rfl rfl rfl ?_; intro _; refine w ?_))
  ((first | refine VO.step rfl rfl ?_ | refine VD.end rfl rfl rfl ?_ | refine VD.mid rfl rfl rfl ?_); refine OpV.allocS sb_90 rfl ?_; intro n13)
  (refine w ?_; repeat ((first | refine VO.step rfl rfl ?_ | refine VD.end rfl rfl rfl ?_ | refine VD.mid rfl rfl rfl ?_); refine OpV.box rfl rfl rfl ?_; intro _; refine w ?_))
  (first | refine VO.step rfl rfl ?_ | refine VD.end rfl rfl rfl ?_ | refine VD.mid rfl rfl rfl ?_)
  refine OpV.stA (vs := (HdrD.dec (sec 0)).2.cells) tab_ok rfl rfl rfl rfl (by simp [Value.oneCell']) (by (repeat first | exact .head | apply Hole.tail)) (by simp) ?_
  refine VO.ent (H' := Row n13 90 (HdrD.dec (sec 0)).2.cells :: Row n12 25 [.int .u64 0, .slice none 0 0] :: Row n10 25 [.int .u64 0, .slice none 0 0] :: R) Ent.re ?_
  (refine w ?_; repeat ((first | refine VO.step rfl rfl ?_ | refine VD.end rfl rfl rfl ?_ | refine VD.mid rfl rfl rfl ?_); refine OpV.box rfl rfl rfl ?_; intro _; refine w ?_))
  by_cases h0 : (HdrD.dec (sec 0)).1 ≠ 0
  · (first | refine VO.gT rfl rfl rfl (by simpa using h0) ?_ | refine VD.gT rfl rfl rfl (by simpa using h0) ?_)
    ((refine w ?_; repeat ((first | refine VO.step rfl rfl ?_ | refine VD.end rfl rfl rfl ?_ | refine VD.mid rfl rfl rfl ?_); refine OpV.box rfl rfl rfl ?_; intro _; refine w ?_)); (first | refine VO.step rfl rfl ?_ | refine VD.end rfl rfl rfl ?_ | refine VD.mid rfl rfl rfl ?_); refine OpV.stA (vs := [.int .u64 0, .slice none 0 0]) tab_ok rfl rfl rfl rfl (by simp [Value.oneCell']) (by (repeat first | exact .head | apply Hole.tail)) (by simp) ?_; (refine w ?_; repeat ((first | refine VO.step rfl rfl ?_ | refine VD.end rfl rfl rfl ?_ | refine VD.mid rfl rfl rfl ?_); refine OpV.box rfl rfl rfl ?_; intro _; refine w ?_)); refine VE.results2 (.inl rfl) (⟨0, none, 0, []⟩ : TxnE) rfl (ResIs.agg (vs := [.int .u64 0, .slice none 0 0]) tab_ok rfl rfl (by (focus repeat first | exact .head _ | apply List.Mem.tail)) rfl rfl) (.tmp rfl) (hfail (fun _ h => h0 h.1)).1 (by rw [(hfail (fun _ h => h0 h.1)).2]; rfl) (hnone Ent.re))
  have h0 := Classical.not_not.1 h0
  (first | refine VO.gF rfl rfl rfl (by simpa using h0) ?_ | refine VD.gF rfl rfl rfl (by simpa using h0) ?_)
  obtain ⟨p1, p2⟩ := batN_pos h0
  obtain ⟨N, hN⟩ : ∃ N : Nat, batN sec = N := ⟨(batN sec).toNat, by omega⟩
  have hcnt : (HdrD.dec (sec 0)).2.count = (N : Int) := hN
  have hN0 : (batN sec).toNat = N := by omega
  (refine w ?_; repeat ((first | refine VO.step rfl rfl ?_ | refine VD.end rfl rfl rfl ?_ | refine VD.mid rfl rfl rfl ?_); refine OpV.box rfl rfl rfl ?_; intro _; refine w ?_))
  by_cases hrN : room < 2 * N + 1
  · (refine VC.condTe rfl rfl (decide_eq_true (by omega)) ?_)
    ((refine w ?_; repeat ((first | refine VO.step rfl rfl ?_ | refine VD.end rfl rfl rfl ?_ | refine VD.mid rfl rfl rfl ?_); refine OpV.box rfl rfl rfl ?_; intro _; refine w ?_)); (first | refine VO.step rfl rfl ?_ | refine VD.end rfl rfl rfl ?_ | refine VD.mid rfl rfl rfl ?_); refine OpV.stA (vs := [.int .u64 0, .slice none 0 0]) tab_ok rfl rfl rfl rfl (by simp [Value.oneCell']) (by (repeat first | exact .head | apply Hole.tail)) (by simp) ?_; (refine w ?_; repeat ((first | refine VO.step rfl rfl ?_ | refine VD.end rfl rfl rfl ?_ | refine VD.mid rfl rfl rfl ?_); refine OpV.box rfl rfl rfl ?_; intro _; refine w ?_)); refine VE.results2 (.inl rfl) (⟨0, none, 0, []⟩ : TxnE) rfl (ResIs.agg (vs := [.int .u64 0, .slice none 0 0]) tab_ok rfl rfl (by (focus repeat first | exact .head _ | apply List.Mem.tail)) rfl rfl) (.tmp rfl) (hfail (fun _ h => by have := h.2.1; omega)).1 (by rw [(hfail (fun _ h => by have := h.2.1; omega)).2]; rfl) (hnone Ent.re))
  (refine VC.condFe rfl rfl (decide_eq_false (by omega)) ?_)
  (refine w ?_; repeat ((first | refine VO.step rfl rfl ?_ | refine VD.end rfl rfl rfl ?_ | refine VD.mid rfl rfl rfl ?_); refine OpV.box rfl rfl rfl ?_; intro _; refine w ?_))
  (apply VO.pure rfl rfl; apply PureAt.build sb_25 rfl; (simp [buildX, setL, Value.cells]; rfl); rfl)
  ((first | refine VO.step rfl rfl ?_ | refine VD.end rfl rfl rfl ?_ | refine VD.mid rfl rfl rfl ?_); refine OpV.allocS sb_25 rfl ?_; intro n16)
  (refine w ?_; repeat ((first | refine VO.step rfl rfl ?_ | refine VD.end rfl rfl rfl ?_ | refine VD.mid rfl rfl rfl ?_); refine OpV.box rfl rfl rfl ?_; intro _; refine w ?_))
  (first | refine VO.step rfl rfl ?_ | refine VD.end rfl rfl rfl ?_ | refine VD.mid rfl rfl rfl ?_)
  refine OpV.stA (vs := [.int .u64 s, .slice none 0 0]) tab_ok rfl rfl rfl rfl (by simp [Value.oneCell']) (by (repeat first | exact .head | apply Hole.tail)) (by simp) ?_
  (refine w ?_; repeat ((first | refine VO.step rfl rfl ?_ | refine VD.end rfl rfl rfl ?_ | refine VD.mid rfl rfl rfl ?_); refine OpV.box rfl rfl rfl ?_; intro _; refine w ?_))
  refine VC.loop (α := Nat × (Option Addr × Nat) × (Option Addr × Nat) × List PatE) (fun y => y.1 ≤ N ∧ y.2.2.2.length = y.1 ∧ (∀ j, j < y.1 → stepOk sec e s N j) ∧ y.2.2.2.map PatE.D = (List.range y.1).map (patAt sec))
    (fun y => Row n16 25 [.int .u64 s, .slice y.2.2.1.1 y.2.2.2.length y.2.2.1.2] :: OwnB y.2.1 (headsF sec y.1) :: PatsO y.2.2.1 y.2.2.2 :: PilP y.2.2.2 :: Row n12 25 [.int .u64 0, .slice none 0 0] :: Row n10 25 [.int .u64 0, .slice none 0 0] :: R)
    (fun y => [(0, .slice (some la) (n * 128) cap), (1, .int .i64 at_), (3, .int .u64 e), (4, .int .u64 s), (10, .pointer (some ⟨n10, 0, none⟩)), (12, .pointer (some ⟨n12, 0, none⟩)), (15, .int .i64 N), (16, .pointer (some ⟨n16, 0, none⟩)), (17, .slice y.2.1.1 (headsF sec y.1).length y.2.1.2), (18, .int .i64 y.1)]) (fun y => N - y.1) rfl
    (0, (none, 0), (none, 0), []) ⟨Nat.zero_le _, rfl, fun j h => absurd h (Nat.not_lt_zero _), rfl⟩ ?_ ⟨rfl, rfl, rfl, rfl, rfl, rfl, asV rfl (by rw [hcnt]), rfl, rfl, rfl, trivial⟩ ?_
  · refine Ent.trans (Ent.re (L := Row n16 25 [.int .u64 s, .slice none 0 0] :: Row n12 25 [.int .u64 0, .slice none 0 0] :: Row n10 25 [.int .u64 0, .slice none 0 0] :: R)) fun w hw => ?_
    have h1 := Holds.ownNil 5 1 (Holds.ownNil 78 3 (pile_nil (res := PatE.res) hw))
    have hE : Ent W (OwnB (none, 0) [] :: PatsO (none, 0) [] :: PilP [] :: Row n16 25 [.int .u64 s, .slice none 0 0] :: Row n12 25 [.int .u64 0, .slice none 0 0] :: Row n10 25 [.int .u64 0, .slice none 0 0] :: R)
      (Row n16 25 [.int .u64 s, .slice none 0 0] :: OwnB (none, 0) [] :: PatsO (none, 0) [] :: PilP [] :: Row n12 25 [.int .u64 0, .slice none 0 0] :: Row n10 25 [.int .u64 0, .slice none 0 0] :: R) := Ent.re
    exact hE w h1
  rintro ⟨i, ⟨ho, hc'⟩, ⟨po, pc⟩, ps⟩ ⟨hi, hpl, hst, hpm⟩
  dsimp only at hi hpl hst hpm ⊢
  (refine w ?_; repeat ((first | refine VO.step rfl rfl ?_ | refine VD.end rfl rfl rfl ?_ | refine VD.mid rfl rfl rfl ?_); refine OpV.box rfl rfl rfl ?_; intro _; refine w ?_))
  (refine VC.cond rfl rfl ?_ ?_ <;> intro hc)
  · have hlt : i < N := by have := of_decide_eq_true hc; omega
    clear hc
    (refine w ?_; repeat ((first | refine VO.step rfl rfl ?_ | refine VD.end rfl rfl rfl ?_ | refine VD.mid rfl rfl rfl ?_); refine OpV.box rfl rfl rfl ?_; intro _; refine w ?_))
    refine VO.re 66 (.int .i64 ((2 * i : Nat) : Int)) rfl (by congr 1) ?_
    ((first | refine VO.step rfl rfl ?_ | refine VD.end rfl rfl rfl ?_ | refine VD.mid rfl rfl rfl ?_); refine OpV.call rfl rfl (fun _ _ => by simp) (hSC _ (2 * i) (by omega)) Ent.refl rfl ?_)
    intro _ _
    (refine w ?_; repeat ((first | refine VO.step rfl rfl ?_ | refine VD.end rfl rfl rfl ?_ | refine VD.mid rfl rfl rfl ?_); refine OpV.box rfl rfl rfl ?_; intro _; refine w ?_))
    have hdrop : Ent W (Row n16 25 [.int .u64 s, .slice po ps.length pc] :: OwnB (ho, hc') (headsF sec i) :: PatsO (po, pc) ps :: PilP ps :: Row n12 25 [.int .u64 0, .slice none 0 0] :: Row n10 25 [.int .u64 0, .slice none 0 0] :: R) R := Ent.drop (Ent.drop (Ent.drop (Ent.drop (Ent.drop (Ent.drop Ent.refl)))))
    have hC1 := rdech_ok (W := W) ((hRd (2 * i)).ent hdrop) (by rw [hlen]; exact hcp (2 * i))
    rw [hlen] at hC1
    ((first | refine VO.step rfl rfl ?_ | refine VD.end rfl rfl rfl ?_ | refine VD.mid rfl rfl rfl ?_); refine OpV.call rfl rfl (fun _ _ => by simp) (hC1) Ent.refl rfl ?_)
    intro _ _
    generalize hq : HdrD.dec (sec (2 * i)) = q
    obtain ⟨qe, qh⟩ := q
    dsimp only
    (refine w ?_; repeat ((first | refine VO.step rfl rfl ?_ | refine VD.end rfl rfl rfl ?_ | refine VD.mid rfl rfl rfl ?_); refine OpV.box rfl rfl rfl ?_; intro _; refine w ?_))
    ((first | refine VO.step rfl rfl ?_ | refine VD.end rfl rfl rfl ?_ | refine VD.mid rfl rfl rfl ?_); refine OpV.allocS sb_90 rfl ?_; intro n20)
    (refine w ?_; repeat ((first | refine VO.step rfl rfl ?_ | refine VD.end rfl rfl rfl ?_ | refine VD.mid rfl rfl rfl ?_); refine OpV.box rfl rfl rfl ?_; intro _; refine w ?_))
    (first | refine VO.step rfl rfl ?_ | refine VD.end rfl rfl rfl ?_ | refine VD.mid rfl rfl rfl ?_)
    refine OpV.stA (vs := qh.cells) tab_ok rfl rfl rfl rfl (by simp [Value.oneCell']) (by (repeat first | exact .head | apply Hole.tail)) (by simp) ?_
    refine VO.ent (H' := Row n20 90 qh.cells :: Row n16 25 [.int .u64 s, .slice po ps.length pc] :: OwnB (ho, hc') (headsF sec i) :: PatsO (po, pc) ps :: PilP ps :: Row n12 25 [.int .u64 0, .slice none 0 0] :: Row n10 25 [.int .u64 0, .slice none 0 0] :: R) Ent.re ?_
    have hbad : ∀ (h : ¬ stepOk sec e s N i), s ≤ 4611686018427387904 → ¬ batOk sec room e s := fun h _ hb => by
      have := hb.2.2.1 i (by rw [hN0]; exact hlt)
      rw [hN] at this
      exact h this
    have hstp : stepOk sec e s N i ↔ (qe = 0 ∧ qh.epoch = e ∧ qh.seq = s ∧ qh.index = i ∧ qh.count = N ∧ (unD (sec (2 * i + 1)) qh.escaped).2 = 0 ∧ (crcS (sec (2 * i + 1))).toNat = qh.sum) := by unfold stepOk; rw [hq]
    (refine w ?_; repeat ((first | refine VO.step rfl rfl ?_ | refine VD.end rfl rfl rfl ?_ | refine VD.mid rfl rfl rfl ?_); refine OpV.box rfl rfl rfl ?_; intro _; refine w ?_))
    by_cases c0 : qe ≠ 0
    · (first | refine VO.gT rfl rfl rfl (by simpa using c0) ?_ | refine VD.gT rfl rfl rfl (by simpa using c0) ?_)
      ((refine w ?_; repeat ((first | refine VO.step rfl rfl ?_ | refine VD.end rfl rfl rfl ?_ | refine VD.mid rfl rfl rfl ?_); refine OpV.box rfl rfl rfl ?_; intro _; refine w ?_)); (first | refine VO.step rfl rfl ?_ | refine VD.end rfl rfl rfl ?_ | refine VD.mid rfl rfl rfl ?_); refine OpV.stA (vs := [.int .u64 0, .slice none 0 0]) tab_ok rfl rfl rfl rfl (by simp [Value.oneCell']) (by (repeat first | exact .head | apply Hole.tail)) (by simp) ?_; (refine w ?_; repeat ((first | refine VO.step rfl rfl ?_ | refine VD.end rfl rfl rfl ?_ | refine VD.mid rfl rfl rfl ?_); refine OpV.box rfl rfl rfl ?_; intro _; refine w ?_)); refine VE.results2 (.inl rfl) (⟨0, none, 0, []⟩ : TxnE) rfl (ResIs.agg (vs := [.int .u64 0, .slice none 0 0]) tab_ok rfl rfl (by (focus repeat first | exact .head _ | apply List.Mem.tail)) rfl rfl) (.tmp rfl) (hfail (hbad fun h => c0 (hstp.1 h).1)).1 (by rw [(hfail (hbad fun h => c0 (hstp.1 h).1)).2]; rfl) (hnone Ent.re))
    have c0 := Classical.not_not.1 c0
    (first | refine VO.gF rfl rfl rfl (by simpa using c0) ?_ | refine VD.gF rfl rfl rfl (by simpa using c0) ?_)
    (refine w ?_; repeat ((first | refine VO.step rfl rfl ?_ | refine VD.end rfl rfl rfl ?_ | refine VD.mid rfl rfl rfl ?_); refine OpV.box rfl rfl rfl ?_; intro _; refine w ?_))
    by_cases c1 : qh.epoch ≠ e
    · (first | refine VO.gT rfl rfl rfl (by simp; omega) ?_ | refine VD.gT rfl rfl rfl (by simp; omega) ?_)
      ((refine w ?_; repeat ((first | refine VO.step rfl rfl ?_ | refine VD.end rfl rfl rfl ?_ | refine VD.mid rfl rfl rfl ?_); refine OpV.box rfl rfl rfl ?_; intro _; refine w ?_)); (first | refine VO.step rfl rfl ?_ | refine VD.end rfl rfl rfl ?_ | refine VD.mid rfl rfl rfl ?_); refine OpV.stA (vs := [.int .u64 0, .slice none 0 0]) tab_ok rfl rfl rfl rfl (by simp [Value.oneCell']) (by (repeat first | exact .head | apply Hole.tail)) (by simp) ?_; (refine w ?_; repeat ((first | refine VO.step rfl rfl ?_ | refine VD.end rfl rfl rfl ?_ | refine VD.mid rfl rfl rfl ?_); refine OpV.box rfl rfl rfl ?_; intro _; refine w ?_)); refine VE.results2 (.inl rfl) (⟨0, none, 0, []⟩ : TxnE) rfl (ResIs.agg (vs := [.int .u64 0, .slice none 0 0]) tab_ok rfl rfl (by (focus repeat first | exact .head _ | apply List.Mem.tail)) rfl rfl) (.tmp rfl) (hfail (hbad fun h => c1 (hstp.1 h).2.1)).1 (by rw [(hfail (hbad fun h => c1 (hstp.1 h).2.1)).2]; rfl) (hnone Ent.re))
    have c1 := Classical.not_not.1 c1
    (first | refine VO.gF rfl rfl rfl (by simp; omega) ?_ | refine VD.gF rfl rfl rfl (by simp; omega) ?_)
    (refine w ?_; repeat ((first | refine VO.step rfl rfl ?_ | refine VD.end rfl rfl rfl ?_ | refine VD.mid rfl rfl rfl ?_); refine OpV.box rfl rfl rfl ?_; intro _; refine w ?_))
    by_cases c2 : qh.seq ≠ s
    · (first | refine VO.gT rfl rfl rfl (by simp; omega) ?_ | refine VD.gT rfl rfl rfl (by simp; omega) ?_)
      ((refine w ?_; repeat ((first | refine VO.step rfl rfl ?_ | refine VD.end rfl rfl rfl ?_ | refine VD.mid rfl rfl rfl ?_); refine OpV.box rfl rfl rfl ?_; intro _; refine w ?_)); (first | refine VO.step rfl rfl ?_ | refine VD.end rfl rfl rfl ?_ | refine VD.mid rfl rfl rfl ?_); refine OpV.stA (vs := [.int .u64 0, .slice none 0 0]) tab_ok rfl rfl rfl rfl (by simp [Value.oneCell']) (by (repeat first | exact .head | apply Hole.tail)) (by simp) ?_; (refine w ?_; repeat ((first | refine VO.step rfl rfl ?_ | refine VD.end rfl rfl rfl ?_ | refine VD.mid rfl rfl rfl ?_); refine OpV.box rfl rfl rfl ?_; intro _; refine w ?_)); refine VE.results2 (.inl rfl) (⟨0, none, 0, []⟩ : TxnE) rfl (ResIs.agg (vs := [.int .u64 0, .slice none 0 0]) tab_ok rfl rfl (by (focus repeat first | exact .head _ | apply List.Mem.tail)) rfl rfl) (.tmp rfl) (hfail (hbad fun h => c2 (hstp.1 h).2.2.1)).1 (by rw [(hfail (hbad fun h => c2 (hstp.1 h).2.2.1)).2]; rfl) (hnone Ent.re))
    have c2 := Classical.not_not.1 c2
    (first | refine VO.gF rfl rfl rfl (by simp; omega) ?_ | refine VD.gF rfl rfl rfl (by simp; omega) ?_)
    (refine w ?_; repeat ((first | refine VO.step rfl rfl ?_ | refine VD.end rfl rfl rfl ?_ | refine VD.mid rfl rfl rfl ?_); refine OpV.box rfl rfl rfl ?_; intro _; refine w ?_))
    by_cases c3 : qh.index ≠ (i : Int)
    · (first | refine VO.gT rfl rfl rfl (by simpa using c3) ?_ | refine VD.gT rfl rfl rfl (by simpa using c3) ?_)
      ((refine w ?_; repeat ((first | refine VO.step rfl rfl ?_ | refine VD.end rfl rfl rfl ?_ | refine VD.mid rfl rfl rfl ?_); refine OpV.box rfl rfl rfl ?_; intro _; refine w ?_)); (first | refine VO.step rfl rfl ?_ | refine VD.end rfl rfl rfl ?_ | refine VD.mid rfl rfl rfl ?_); refine OpV.stA (vs := [.int .u64 0, .slice none 0 0]) tab_ok rfl rfl rfl rfl (by simp [Value.oneCell']) (by (repeat first | exact .head | apply Hole.tail)) (by simp) ?_; (refine w ?_; repeat ((first | refine VO.step rfl rfl ?_ | refine VD.end rfl rfl rfl ?_ | refine VD.mid rfl rfl rfl ?_); refine OpV.box rfl rfl rfl ?_; intro _; refine w ?_)); refine VE.results2 (.inl rfl) (⟨0, none, 0, []⟩ : TxnE) rfl (ResIs.agg (vs := [.int .u64 0, .slice none 0 0]) tab_ok rfl rfl (by (focus repeat first | exact .head _ | apply List.Mem.tail)) rfl rfl) (.tmp rfl) (hfail (hbad fun h => c3 (hstp.1 h).2.2.2.1)).1 (by rw [(hfail (hbad fun h => c3 (hstp.1 h).2.2.2.1)).2]; rfl) (hnone Ent.re))
    have c3 := Classical.not_not.1 c3
    (first | refine VO.gF rfl rfl rfl (by simpa using c3) ?_ | refine VD.gF rfl rfl rfl (by simpa using c3) ?_)
    (refine w ?_; repeat ((first | refine VO.step rfl rfl ?_ | refine VD.end rfl rfl rfl ?_ | refine VD.mid rfl rfl rfl ?_); refine OpV.box rfl rfl rfl ?_; intro _; refine w ?_))
    by_cases c4 : qh.count ≠ (N : Int)
    · (refine VC.condTe rfl rfl (by simpa using c4) ?_)
      ((refine w ?_; repeat ((first | refine VO.step rfl rfl ?_ | refine VD.end rfl rfl rfl ?_ | refine VD.mid rfl rfl rfl ?_); refine OpV.box rfl rfl rfl ?_; intro _; refine w ?_)); (first | refine VO.step rfl rfl ?_ | refine VD.end rfl rfl rfl ?_ | refine VD.mid rfl rfl rfl ?_); refine OpV.stA (vs := [.int .u64 0, .slice none 0 0]) tab_ok rfl rfl rfl rfl (by simp [Value.oneCell']) (by (repeat first | exact .head | apply Hole.tail)) (by simp) ?_; (refine w ?_; repeat ((first | refine VO.step rfl rfl ?_ | refine VD.end rfl rfl rfl ?_ | refine VD.mid rfl rfl rfl ?_); refine OpV.box rfl rfl rfl ?_; intro _; refine w ?_)); refine VE.results2 (.inl rfl) (⟨0, none, 0, []⟩ : TxnE) rfl (ResIs.agg (vs := [.int .u64 0, .slice none 0 0]) tab_ok rfl rfl (by (focus repeat first | exact .head _ | apply List.Mem.tail)) rfl rfl) (.tmp rfl) (hfail (hbad fun h => c4 (hstp.1 h).2.2.2.2.1)).1 (by rw [(hfail (hbad fun h => c4 (hstp.1 h).2.2.2.2.1)).2]; rfl) (hnone Ent.re))
    have c4 := Classical.not_not.1 c4
    (refine VC.condFe rfl rfl (by simpa using c4) ?_)
    (refine w ?_; repeat ((first | refine VO.step rfl rfl ?_ | refine VD.end rfl rfl rfl ?_ | refine VD.mid rfl rfl rfl ?_); refine OpV.box rfl rfl rfl ?_; intro _; refine w ?_))
    have hhl : (headsF sec i).length = i * 128 := by
      clear hstp hbad hdrop hq
      have : ∀ m, (headsF sec m).length = m * 128 := fun m => by
        induction m with
        | zero => rfl
        | succ m ih => rw [headsF, List.length_append, ih, hlen, Nat.add_mul]
      exact this i
    have hdrop2 : Ent W (Row n20 90 qh.cells :: Row n16 25 [.int .u64 s, .slice po ps.length pc] :: OwnB (ho, hc') (headsF sec i) :: PatsO (po, pc) ps :: PilP ps :: Row n12 25 [.int .u64 0, .slice none 0 0] :: Row n10 25 [.int .u64 0, .slice none 0 0] :: R) R := Ent.drop hdrop
    (first | refine VO.step rfl rfl ?_ | refine VD.end rfl rfl rfl ?_ | refine VD.mid rfl rfl rfl ?_)
    refine OpV.append (m := 128) st_55 rfl rfl (by (repeat first | exact .head | apply Hole.tail)) (fun w hw => (by have := ((hRd (2 * i)).ent hdrop2).sees (cap := cap - (at_ + 2 * i) % n * 128) hw; rw [hlen] at this; exact this.src st_55.und)) (by simp only [maxLen]; omega) (by omega) rfl ?_
    intro ho2 hc2
    (refine w ?_; repeat ((first | refine VO.step rfl rfl ?_ | refine VD.end rfl rfl rfl ?_ | refine VD.mid rfl rfl rfl ?_); refine OpV.box rfl rfl rfl ?_; intro _; refine w ?_))
    have hhl2 : (headsF sec (i + 1)).length = (headsF sec i).length + 128 := by rw [headsF, List.length_append, hlen]
    have hown : Sl.Own 5 1 (.slice ho2 ((headsF sec i).length + 128) hc2) ((headsF sec i).length + 128) (bytes (headsF sec i) ++ bytes (sec (2 * i))) = OwnB (ho2, hc2) (headsF sec (i + 1)) := by
      unfold OwnB; rw [hhl2, headsF, bytes_append]
    rw [hown]
    refine VO.re 107 (.int .i64 ((2 * i + 1 : Nat) : Int)) rfl (by congr 1) ?_
    have hdrop3 : Ent W (Row n20 90 qh.cells :: Row n16 25 [.int .u64 s, .slice po ps.length pc] :: OwnB (ho2, hc2) (headsF sec (i + 1)) :: PatsO (po, pc) ps :: PilP ps :: Row n12 25 [.int .u64 0, .slice none 0 0] :: Row n10 25 [.int .u64 0, .slice none 0 0] :: R) R := Ent.drop (Ent.drop (Ent.drop (Ent.drop (Ent.drop (Ent.drop (Ent.drop Ent.refl))))))
    ((first | refine VO.step rfl rfl ?_ | refine VD.end rfl rfl rfl ?_ | refine VD.mid rfl rfl rfl ?_); refine OpV.call rfl rfl (fun _ _ => by simp) (hSC _ (2 * i + 1) (by omega)) Ent.refl rfl ?_)
    intro _ _
    (refine w ?_; repeat ((first | refine VO.step rfl rfl ?_ | refine VD.end rfl rfl rfl ?_ | refine VD.mid rfl rfl rfl ?_); refine OpV.box rfl rfl rfl ?_; intro _; refine w ?_))
    have hC2 := rsum_ok (W := W) (cap := cap - (at_ + (2 * i + 1)) % n * 128) ((hRd (2 * i + 1)).ent hdrop3) (by rw [hlen]; decide)
    rw [hlen] at hC2
    ((first | refine VO.step rfl rfl ?_ | refine VD.end rfl rfl rfl ?_ | refine VD.mid rfl rfl rfl ?_); refine OpV.call rfl rfl (fun _ _ => by simp) (hC2) Ent.refl rfl ?_)
    intro _ _
    (refine w ?_; repeat ((first | refine VO.step rfl rfl ?_ | refine VD.end rfl rfl rfl ?_ | refine VD.mid rfl rfl rfl ?_); refine OpV.box rfl rfl rfl ?_; intro _; refine w ?_))
    have hC3 := runesc_ok (W := W) ((hRd (2 * i + 1)).ent hdrop3) (by rw [hlen]; exact hcp (2 * i + 1)) qh.escaped
    rw [hlen] at hC3
    ((first | refine VO.step rfl rfl ?_ | refine VD.end rfl rfl rfl ?_ | refine VD.mid rfl rfl rfl ?_); refine OpV.call rfl rfl (fun _ _ => by simp) (hC3) Ent.refl rfl ?_)
    rintro ⟨uo, uc⟩ _
    dsimp only
    generalize hu : unD (sec (2 * i + 1)) qh.escaped = u at *
    obtain ⟨ud, ue⟩ := u
    dsimp only at hstp ⊢
    (refine w ?_; repeat ((first | refine VO.step rfl rfl ?_ | refine VD.end rfl rfl rfl ?_ | refine VD.mid rfl rfl rfl ?_); refine OpV.box rfl rfl rfl ?_; intro _; refine w ?_))
    by_cases c5 : (crcS (sec (2 * i + 1))).toNat ≠ qh.sum
    · (first | refine VO.gT rfl rfl rfl (by simp; omega) ?_ | refine VD.gT rfl rfl rfl (by simp; omega) ?_)
      refine VO.ent (Ent.drop Ent.refl) ?_
      ((refine w ?_; repeat ((first | refine VO.step rfl rfl ?_ | refine VD.end rfl rfl rfl ?_ | refine VD.mid rfl rfl rfl ?_); refine OpV.box rfl rfl rfl ?_; intro _; refine w ?_)); (first | refine VO.step rfl rfl ?_ | refine VD.end rfl rfl rfl ?_ | refine VD.mid rfl rfl rfl ?_); refine OpV.stA (vs := [.int .u64 0, .slice none 0 0]) tab_ok rfl rfl rfl rfl (by simp [Value.oneCell']) (by (repeat first | exact .head | apply Hole.tail)) (by simp) ?_; (refine w ?_; repeat ((first | refine VO.step rfl rfl ?_ | refine VD.end rfl rfl rfl ?_ | refine VD.mid rfl rfl rfl ?_); refine OpV.box rfl rfl rfl ?_; intro _; refine w ?_)); refine VE.results2 (.inl rfl) (⟨0, none, 0, []⟩ : TxnE) rfl (ResIs.agg (vs := [.int .u64 0, .slice none 0 0]) tab_ok rfl rfl (by (focus repeat first | exact .head _ | apply List.Mem.tail)) rfl rfl) (.tmp rfl) (hfail (hbad fun h => c5 (hstp.1 h).2.2.2.2.2.2)).1 (by rw [(hfail (hbad fun h => c5 (hstp.1 h).2.2.2.2.2.2)).2]; rfl) (hnone Ent.re))
    have c5 := Classical.not_not.1 c5
    (first | refine VO.gF rfl rfl rfl (by simp; omega) ?_ | refine VD.gF rfl rfl rfl (by simp; omega) ?_)
    (refine w ?_; repeat ((first | refine VO.step rfl rfl ?_ | refine VD.end rfl rfl rfl ?_ | refine VD.mid rfl rfl rfl ?_); refine OpV.box rfl rfl rfl ?_; intro _; refine w ?_))
    by_cases c6 : ue ≠ 0
    · (refine VC.condTe rfl rfl (by simpa using c6) ?_)
      refine VC.ent (Ent.drop Ent.refl) ?_
      ((refine w ?_; repeat ((first | refine VO.step rfl rfl ?_ | refine VD.end rfl rfl rfl ?_ | refine VD.mid rfl rfl rfl ?_); refine OpV.box rfl rfl rfl ?_; intro _; refine w ?_)); (first | refine VO.step rfl rfl ?_ | refine VD.end rfl rfl rfl ?_ | refine VD.mid rfl rfl rfl ?_); refine OpV.stA (vs := [.int .u64 0, .slice none 0 0]) tab_ok rfl rfl rfl rfl (by simp [Value.oneCell']) (by (repeat first | exact .head | apply Hole.tail)) (by simp) ?_; (refine w ?_; repeat ((first | refine VO.step rfl rfl ?_ | refine VD.end rfl rfl rfl ?_ | refine VD.mid rfl rfl rfl ?_); refine OpV.box rfl rfl rfl ?_; intro _; refine w ?_)); refine VE.results2 (.inl rfl) (⟨0, none, 0, []⟩ : TxnE) rfl (ResIs.agg (vs := [.int .u64 0, .slice none 0 0]) tab_ok rfl rfl (by (focus repeat first | exact .head _ | apply List.Mem.tail)) rfl rfl) (.tmp rfl) (hfail (hbad fun h => c6 (hstp.1 h).2.2.2.2.2.1)).1 (by rw [(hfail (hbad fun h => c6 (hstp.1 h).2.2.2.2.2.1)).2]; rfl) (hnone Ent.re))
    have c6 := Classical.not_not.1 c6
    (refine VC.condFe rfl rfl (by simpa using c6) ?_)
    (refine w ?_; repeat ((first | refine VO.step rfl rfl ?_ | refine VD.end rfl rfl rfl ?_ | refine VD.mid rfl rfl rfl ?_); refine OpV.box rfl rfl rfl ?_; intro _; refine w ?_))
    obtain ⟨p, hp⟩ : ∃ p : PatE, p = ⟨qh.member, qh.row, ⟨uo, uc, ud⟩⟩ := ⟨_, rfl⟩
    refine VO.re 133 (.slice uo ud.length uc) rfl rfl ?_
    (apply VO.pure rfl rfl; apply PureAt.build sb_78 rfl; (simp [buildX, setL, Value.cells]; rfl); rfl)
    (first | refine VO.step rfl rfl ?_ | refine VD.end rfl rfl rfl ?_ | refine VD.mid rfl rfl rfl ?_)
    refine OpV.buildSlice (cs := p.cells) st_23 rfl rfl (by simp [Value.cells]) (by simp [Value.cells, hp]) (by decide) rfl ?_
    intro nc
    (first | refine VO.step rfl rfl ?_ | refine VD.end rfl rfl rfl ?_ | refine VD.mid rfl rfl rfl ?_)
    refine OpV.appendRow st_23 rfl rfl (by (repeat first | exact .head | apply Hole.tail)) (by (focus repeat first | exact .head _ | apply List.Mem.tail)) rfl (pat_one _) ?_ ?_ rfl ?_
    · simp only [maxLen]; omega
    · omega
    intro po2 pc2
    (refine w ?_; repeat ((first | refine VO.step rfl rfl ?_ | refine VD.end rfl rfl rfl ?_ | refine VD.mid rfl rfl rfl ?_); refine OpV.box rfl rfl rfl ?_; intro _; refine w ?_))
    have hpl2 : (ps ++ [p]).length = ps.length + 1 := by rw [List.length_append]; rfl
    refine VE.round (i + 1, (ho2, hc2), (po2, pc2), ps ++ [p]) ⟨hlt, by rw [hpl2, hpl], fun j hj => ?_, ?_⟩ (by simp only; omega) ⟨rfl, rfl, rfl, rfl, rfl, rfl, rfl, rfl, asV rfl (by rw [hhl2]), asV rfl (by congr 1), trivial⟩ ?_
    · dsimp only at hj
      by_cases hji : j < i
      · exact hst j hji
      · obtain rfl : j = i := by omega
        exact hstp.2 ⟨c0, c1, c2, c3, c4, c6, c5⟩
    · dsimp only
      rw [List.map_append, hpm, List.range_succ, List.map_append]
      congr 1
      show [p.D] = [patAt sec i]
      subst hp
      unfold patAt
      rw [hq]
      dsimp only
      rw [hu]
    · dsimp only
      have hres : OwnB (uo, uc) ud = PatE.res p := by rw [hp]; rfl
      rw [hpl2, hres]
      have hpo : Sl.Own 78 3 (.slice po2 (ps.length + 1) pc2) (ps.length + 1) (patCells ps ++ p.cells) = PatsO (po2, pc2) (ps ++ [p]) := by
        show _ = Sl.Own 78 3 (.slice po2 (ps ++ [p]).length pc2) (ps ++ [p]).length (patCells (ps ++ [p]))
        rw [hpl2]; unfold patCells; rw [List.flatMap_append]; simp
      rw [hpo]
      refine Ent.trans (H' := PatE.res p :: PilP ps :: Row n16 25 [.int .u64 s, .slice po2 (ps.length + 1) pc2] :: OwnB (ho2, hc2) (headsF sec (i + 1)) :: PatsO (po2, pc2) (ps ++ [p]) :: Row n12 25 [.int .u64 0, .slice none 0 0] :: Row n10 25 [.int .u64 0, .slice none 0 0] :: R) Ent.re (fun w hw => ?_)
      have h2 : Holds W (PilP (ps ++ [p]) :: _) w := pile_push (res := PatE.res) hw
      have hE : Ent W (PilP (ps ++ [p]) :: Row n16 25 [.int .u64 s, .slice po2 (ps.length + 1) pc2] :: OwnB (ho2, hc2) (headsF sec (i + 1)) :: PatsO (po2, pc2) (ps ++ [p]) :: Row n12 25 [.int .u64 0, .slice none 0 0] :: Row n10 25 [.int .u64 0, .slice none 0 0] :: R)
        (Row n16 25 [.int .u64 s, .slice po2 (ps.length + 1) pc2] :: OwnB (ho2, hc2) (headsF sec (i + 1)) :: PatsO (po2, pc2) (ps ++ [p]) :: PilP (ps ++ [p]) :: Row n12 25 [.int .u64 0, .slice none 0 0] :: Row n10 25 [.int .u64 0, .slice none 0 0] :: R) := Ent.re
      exact hE w h2
  · have hge : i = N := by have := of_decide_eq_false hc; omega
    subst hge
    clear hc
    have hhl : (headsF sec i).length = i * 128 := by
      have : ∀ m, (headsF sec m).length = m * 128 := fun m => by
        induction m with
        | zero => rfl
        | succ m ih => rw [headsF, List.length_append, ih, hlen, Nat.add_mul]
      exact this i
    refine VC.know (p := ho = none → (headsF sec i).length = 0) (fun w hw => hw.tail.ownNone (.head _)) ?_
    intro hhn
    (refine w ?_; repeat ((first | refine VO.step rfl rfl ?_ | refine VD.end rfl rfl rfl ?_ | refine VD.mid rfl rfl rfl ?_); refine OpV.box rfl rfl rfl ?_; intro _; refine w ?_))
    refine VO.re 142 (.int .i64 ((2 * i : Nat) : Int)) rfl (by congr 1) ?_
    ((first | refine VO.step rfl rfl ?_ | refine VD.end rfl rfl rfl ?_ | refine VD.mid rfl rfl rfl ?_); refine OpV.call rfl rfl (fun _ _ => by simp) (hSC _ (2 * i) (by omega)) Ent.refl rfl ?_)
    intro _ _
    (refine w ?_; repeat ((first | refine VO.step rfl rfl ?_ | refine VD.end rfl rfl rfl ?_ | refine VD.mid rfl rfl rfl ?_); refine OpV.box rfl rfl rfl ?_; intro _; refine w ?_))
    have hdrop : Ent W (Row n16 25 [.int .u64 s, .slice po ps.length pc] :: OwnB (ho, hc') (headsF sec i) :: PatsO (po, pc) ps :: PilP ps :: Row n12 25 [.int .u64 0, .slice none 0 0] :: Row n10 25 [.int .u64 0, .slice none 0 0] :: R) R := Ent.drop (Ent.drop (Ent.drop (Ent.drop (Ent.drop (Ent.drop Ent.refl)))))
    have hC1 := rdecc_ok (W := W) ((hRd (2 * i)).ent hdrop) (by rw [hlen]; exact hcp (2 * i))
    rw [hlen] at hC1
    ((first | refine VO.step rfl rfl ?_ | refine VD.end rfl rfl rfl ?_ | refine VD.mid rfl rfl rfl ?_); refine OpV.call rfl rfl (fun _ _ => by simp) (hC1) Ent.refl rfl ?_)
    intro _ _
    generalize hq : CmtD.dec (sec (2 * i)) = q
    obtain ⟨qe, qh⟩ := q
    dsimp only
    (refine w ?_; repeat ((first | refine VO.step rfl rfl ?_ | refine VD.end rfl rfl rfl ?_ | refine VD.mid rfl rfl rfl ?_); refine OpV.box rfl rfl rfl ?_; intro _; refine w ?_))
    ((first | refine VO.step rfl rfl ?_ | refine VD.end rfl rfl rfl ?_ | refine VD.mid rfl rfl rfl ?_); refine OpV.allocS sb_95 rfl ?_; intro n26)
    (refine w ?_; repeat ((first | refine VO.step rfl rfl ?_ | refine VD.end rfl rfl rfl ?_ | refine VD.mid rfl rfl rfl ?_); refine OpV.box rfl rfl rfl ?_; intro _; refine w ?_))
    (first | refine VO.step rfl rfl ?_ | refine VD.end rfl rfl rfl ?_ | refine VD.mid rfl rfl rfl ?_)
    refine OpV.stA (vs := qh.cells) tab_ok rfl rfl rfl rfl (by simp [Value.oneCell']) (by (repeat first | exact .head | apply Hole.tail)) (by simp) ?_
    refine VO.ent (H' := Row n26 95 qh.cells :: Row n16 25 [.int .u64 s, .slice po ps.length pc] :: OwnB (ho, hc') (headsF sec i) :: PatsO (po, pc) ps :: PilP ps :: Row n12 25 [.int .u64 0, .slice none 0 0] :: Row n10 25 [.int .u64 0, .slice none 0 0] :: R) Ent.re ?_
    have hok : batOk sec room e s ↔ (qe = 0 ∧ qh.epoch = e ∧ qh.seq = s ∧ qh.count = i ∧ qh.sum = (crcS (headsF sec i)).toNat) := by
      unfold batOk
      rw [hN0, hN, hq]
      constructor
      · rintro ⟨-, -, -, h⟩
        cases h
        exact ⟨rfl, rfl, rfl, rfl, rfl⟩
      · rintro ⟨h1, h2, h3, h4, h5⟩
        refine ⟨h0, by omega, fun j hj => hst j hj, ?_⟩
        cases qh
        simp_all
    (refine w ?_; repeat ((first | refine VO.step rfl rfl ?_ | refine VD.end rfl rfl rfl ?_ | refine VD.mid rfl rfl rfl ?_); refine OpV.box rfl rfl rfl ?_; intro _; refine w ?_))
    ((first | refine VO.step rfl rfl ?_ | refine VD.end rfl rfl rfl ?_ | refine VD.mid rfl rfl rfl ?_); refine OpV.call rfl rfl (fun _ _ => by simp) (rsum_ok (W := W) (cap := hc') (l := headsF sec i) (Rds.own (bytes_one _) (by (focus repeat first | exact .head _ | apply List.Mem.tail)) (by simp) hhn) (by omega)) Ent.refl rfl ?_)
    intro _ _
    (refine w ?_; repeat ((first | refine VO.step rfl rfl ?_ | refine VD.end rfl rfl rfl ?_ | refine VD.mid rfl rfl rfl ?_); refine OpV.box rfl rfl rfl ?_; intro _; refine w ?_))
    by_cases c0 : qe ≠ 0
    · (first | refine VO.gT rfl rfl rfl (by simpa using c0) ?_ | refine VD.gT rfl rfl rfl (by simpa using c0) ?_)
      ((refine w ?_; repeat ((first | refine VO.step rfl rfl ?_ | refine VD.end rfl rfl rfl ?_ | refine VD.mid rfl rfl rfl ?_); refine OpV.box rfl rfl rfl ?_; intro _; refine w ?_)); (first | refine VO.step rfl rfl ?_ | refine VD.end rfl rfl rfl ?_ | refine VD.mid rfl rfl rfl ?_); refine OpV.stA (vs := [.int .u64 0, .slice none 0 0]) tab_ok rfl rfl rfl rfl (by simp [Value.oneCell']) (by (repeat first | exact .head | apply Hole.tail)) (by simp) ?_; (refine w ?_; repeat ((first | refine VO.step rfl rfl ?_ | refine VD.end rfl rfl rfl ?_ | refine VD.mid rfl rfl rfl ?_); refine OpV.box rfl rfl rfl ?_; intro _; refine w ?_)); refine VE.results2 (.inl rfl) (⟨0, none, 0, []⟩ : TxnE) rfl (ResIs.agg (vs := [.int .u64 0, .slice none 0 0]) tab_ok rfl rfl (by (focus repeat first | exact .head _ | apply List.Mem.tail)) rfl rfl) (.tmp rfl) (hfail (fun _ h => c0 (hok.1 h).1)).1 (by rw [(hfail (fun _ h => c0 (hok.1 h).1)).2]; rfl) (hnone Ent.re))
    have c0 := Classical.not_not.1 c0
    (first | refine VO.gF rfl rfl rfl (by simpa using c0) ?_ | refine VD.gF rfl rfl rfl (by simpa using c0) ?_)
    (refine w ?_; repeat ((first | refine VO.step rfl rfl ?_ | refine VD.end rfl rfl rfl ?_ | refine VD.mid rfl rfl rfl ?_); refine OpV.box rfl rfl rfl ?_; intro _; refine w ?_))
    by_cases c1 : qh.epoch ≠ e
    · (first | refine VO.gT rfl rfl rfl (by simp; omega) ?_ | refine VD.gT rfl rfl rfl (by simp; omega) ?_)
      ((refine w ?_; repeat ((first | refine VO.step rfl rfl ?_ | refine VD.end rfl rfl rfl ?_ | refine VD.mid rfl rfl rfl ?_); refine OpV.box rfl rfl rfl ?_; intro _; refine w ?_)); (first | refine VO.step rfl rfl ?_ | refine VD.end rfl rfl rfl ?_ | refine VD.mid rfl rfl rfl ?_); refine OpV.stA (vs := [.int .u64 0, .slice none 0 0]) tab_ok rfl rfl rfl rfl (by simp [Value.oneCell']) (by (repeat first | exact .head | apply Hole.tail)) (by simp) ?_; (refine w ?_; repeat ((first | refine VO.step rfl rfl ?_ | refine VD.end rfl rfl rfl ?_ | refine VD.mid rfl rfl rfl ?_); refine OpV.box rfl rfl rfl ?_; intro _; refine w ?_)); refine VE.results2 (.inl rfl) (⟨0, none, 0, []⟩ : TxnE) rfl (ResIs.agg (vs := [.int .u64 0, .slice none 0 0]) tab_ok rfl rfl (by (focus repeat first | exact .head _ | apply List.Mem.tail)) rfl rfl) (.tmp rfl) (hfail (fun _ h => c1 (hok.1 h).2.1)).1 (by rw [(hfail (fun _ h => c1 (hok.1 h).2.1)).2]; rfl) (hnone Ent.re))
    have c1 := Classical.not_not.1 c1
    (first | refine VO.gF rfl rfl rfl (by simp; omega) ?_ | refine VD.gF rfl rfl rfl (by simp; omega) ?_)
    (refine w ?_; repeat ((first | refine VO.step rfl rfl ?_ | refine VD.end rfl rfl rfl ?_ | refine VD.mid rfl rfl rfl ?_); refine OpV.box rfl rfl rfl ?_; intro _; refine w ?_))
    by_cases c2 : qh.seq ≠ s
    · (first | refine VO.gT rfl rfl rfl (by simp; omega) ?_ | refine VD.gT rfl rfl rfl (by simp; omega) ?_)
      ((refine w ?_; repeat ((first | refine VO.step rfl rfl ?_ | refine VD.end rfl rfl rfl ?_ | refine VD.mid rfl rfl rfl ?_); refine OpV.box rfl rfl rfl ?_; intro _; refine w ?_)); (first | refine VO.step rfl rfl ?_ | refine VD.end rfl rfl rfl ?_ | refine VD.mid rfl rfl rfl ?_); refine OpV.stA (vs := [.int .u64 0, .slice none 0 0]) tab_ok rfl rfl rfl rfl (by simp [Value.oneCell']) (by (repeat first | exact .head | apply Hole.tail)) (by simp) ?_; (refine w ?_; repeat ((first | refine VO.step rfl rfl ?_ | refine VD.end rfl rfl rfl ?_ | refine VD.mid rfl rfl rfl ?_); refine OpV.box rfl rfl rfl ?_; intro _; refine w ?_)); refine VE.results2 (.inl rfl) (⟨0, none, 0, []⟩ : TxnE) rfl (ResIs.agg (vs := [.int .u64 0, .slice none 0 0]) tab_ok rfl rfl (by (focus repeat first | exact .head _ | apply List.Mem.tail)) rfl rfl) (.tmp rfl) (hfail (fun _ h => c2 (hok.1 h).2.2.1)).1 (by rw [(hfail (fun _ h => c2 (hok.1 h).2.2.1)).2]; rfl) (hnone Ent.re))
    have c2 := Classical.not_not.1 c2
    (first | refine VO.gF rfl rfl rfl (by simp; omega) ?_ | refine VD.gF rfl rfl rfl (by simp; omega) ?_)
    (refine w ?_; repeat ((first | refine VO.step rfl rfl ?_ | refine VD.end rfl rfl rfl ?_ | refine VD.mid rfl rfl rfl ?_); refine OpV.box rfl rfl rfl ?_; intro _; refine w ?_))
    by_cases c3 : qh.count ≠ (i : Int)
    · (first | refine VO.gT rfl rfl rfl (by simpa using c3) ?_ | refine VD.gT rfl rfl rfl (by simpa using c3) ?_)
      ((refine w ?_; repeat ((first | refine VO.step rfl rfl ?_ | refine VD.end rfl rfl rfl ?_ | refine VD.mid rfl rfl rfl ?_); refine OpV.box rfl rfl rfl ?_; intro _; refine w ?_)); (first | refine VO.step rfl rfl ?_ | refine VD.end rfl rfl rfl ?_ | refine VD.mid rfl rfl rfl ?_); refine OpV.stA (vs := [.int .u64 0, .slice none 0 0]) tab_ok rfl rfl rfl rfl (by simp [Value.oneCell']) (by (repeat first | exact .head | apply Hole.tail)) (by simp) ?_; (refine w ?_; repeat ((first | refine VO.step rfl rfl ?_ | refine VD.end rfl rfl rfl ?_ | refine VD.mid rfl rfl rfl ?_); refine OpV.box rfl rfl rfl ?_; intro _; refine w ?_)); refine VE.results2 (.inl rfl) (⟨0, none, 0, []⟩ : TxnE) rfl (ResIs.agg (vs := [.int .u64 0, .slice none 0 0]) tab_ok rfl rfl (by (focus repeat first | exact .head _ | apply List.Mem.tail)) rfl rfl) (.tmp rfl) (hfail (fun _ h => c3 (hok.1 h).2.2.2.1)).1 (by rw [(hfail (fun _ h => c3 (hok.1 h).2.2.2.1)).2]; rfl) (hnone Ent.re))
    have c3 := Classical.not_not.1 c3
    (first | refine VO.gF rfl rfl rfl (by simpa using c3) ?_ | refine VD.gF rfl rfl rfl (by simpa using c3) ?_)
    (refine w ?_; repeat ((first | refine VO.step rfl rfl ?_ | refine VD.end rfl rfl rfl ?_ | refine VD.mid rfl rfl rfl ?_); refine OpV.box rfl rfl rfl ?_; intro _; refine w ?_))
    by_cases c4 : qh.sum ≠ (crcS (headsF sec i)).toNat
    · (refine VC.condTe rfl rfl (by simp; omega) ?_)
      ((refine w ?_; repeat ((first | refine VO.step rfl rfl ?_ | refine VD.end rfl rfl rfl ?_ | refine VD.mid rfl rfl rfl ?_); refine OpV.box rfl rfl rfl ?_; intro _; refine w ?_)); (first | refine VO.step rfl rfl ?_ | refine VD.end rfl rfl rfl ?_ | refine VD.mid rfl rfl rfl ?_); refine OpV.stA (vs := [.int .u64 0, .slice none 0 0]) tab_ok rfl rfl rfl rfl (by simp [Value.oneCell']) (by (repeat first | exact .head | apply Hole.tail)) (by simp) ?_; (refine w ?_; repeat ((first | refine VO.step rfl rfl ?_ | refine VD.end rfl rfl rfl ?_ | refine VD.mid rfl rfl rfl ?_); refine OpV.box rfl rfl rfl ?_; intro _; refine w ?_)); refine VE.results2 (.inl rfl) (⟨0, none, 0, []⟩ : TxnE) rfl (ResIs.agg (vs := [.int .u64 0, .slice none 0 0]) tab_ok rfl rfl (by (focus repeat first | exact .head _ | apply List.Mem.tail)) rfl rfl) (.tmp rfl) (hfail (fun _ h => c4 (hok.1 h).2.2.2.2)).1 (by rw [(hfail (fun _ h => c4 (hok.1 h).2.2.2.2)).2]; rfl) (hnone Ent.re))
    have c4 := Classical.not_not.1 c4
    (refine VC.condFe rfl rfl (by simp; omega) ?_)
    (refine w ?_; repeat ((first | refine VO.step rfl rfl ?_ | refine VD.end rfl rfl rfl ?_ | refine VD.mid rfl rfl rfl ?_); refine OpV.box rfl rfl rfl ?_; intro _; refine w ?_))
    (first | refine VO.step rfl rfl ?_ | refine VD.end rfl rfl rfl ?_ | refine VD.mid rfl rfl rfl ?_)
    refine OpV.stA (vs := [.int .u64 s, .slice po ps.length pc]) tab_ok rfl rfl rfl rfl (by simp [Value.oneCell']) (by (repeat first | exact .head | apply Hole.tail)) (by simp) ?_
    (refine w ?_; repeat ((first | refine VO.step rfl rfl ?_ | refine VD.end rfl rfl rfl ?_ | refine VD.mid rfl rfl rfl ?_); refine OpV.box rfl rfl rfl ?_; intro _; refine w ?_))
    have hbm : batM sec room e s = some ((List.range i).map (patAt sec)) := by
      unfold batM; rw [if_pos (hok.2 ⟨c0, c1, c2, c3, c4⟩), hN0]
    refine VE.results2 (.inl rfl) (⟨s, po, pc, ps⟩ : TxnE) rfl (ResIs.agg (vs := [.int .u64 s, .slice po ps.length pc]) tab_ok rfl rfl (by (focus repeat first | exact .head _ | apply List.Mem.tail)) rfl rfl) (.tmp rfl) (fun l _ h2 => ?_) ?_ Ent.re
    · rw [hbm] at h2
      injection h2 with h2
      exact ⟨rfl, hpm.trans h2⟩
    · rw [if_pos (by omega), hbm]
      simp
end Go.Proofs.Ytlojjlbngnaphaa

/-! Text Qh. -/
/- Scan: the document's own answer: what counts in a ring: walked. -/
set_option maxRecDepth 8000
set_option linter.unusedVariables false
set_option linter.unusedSimpArgs false
set_option linter.unusedSectionVars false
namespace Go.Proofs.Ytlojjlbngnaphaa
open Go.RowKit Go.Sl
attribute [local irreducible] Sl.Own

set_option maxHeartbeats 8000000 in
theorem rof_ok {W : World} {R : List SProp} {ao : Option Addr} {cap : Nat} {data : List UInt8} (hr : Rds W R 1 ao data.length (bytes data)) (hcap : data.length ≤ cap) (hlen : data.length ≤ 140737488351232) (c : ChkD) (hf : c.fit) :
    Does W Try.prog 24 [.slice ao data.length cap, .agg c.cells.toArray] R (β := (Option Addr × Nat) × List TxnE) (fun y => y.2.map TxnE.T = (foundM data c).2.txns)
      (fun y => .tuple #[.agg [.slice y.1.1 y.2.length y.1.2, .int .u64 ((foundM data c).2.next : Int), .int .i64 ((foundM data c).2.head : Int), .int .i64 ((foundM data c).2.used : Int)].toArray, .int .i64 (foundM data c).1]) (fun y => TxnsO y.1 y.2 :: PilT y.2 :: R) := by
  (refine Does.enter Try.func24 Try.ntmps24 rfl rfl ?_)
  (refine w ?_; repeat ((first | refine VO.step rfl rfl ?_ | refine VD.end rfl rfl rfl ?_ | refine VD.mid rfl rfl rfl ?_); refine OpV.box rfl rfl rfl ?_; intro _; refine w ?_))
  rename_i n3
  ((first | refine VO.step rfl rfl ?_ | refine VD.end rfl rfl rfl ?_ | refine VD.mid rfl rfl rfl ?_); refine OpV.allocS sb_61 rfl ?_; intro n4)
  (refine w ?_; repeat ((first | refine VO.step rfl rfl ?_ | refine VD.end rfl rfl rfl ?_ | refine VD.mid rfl rfl rfl ?_); refine OpV.box rfl rfl rfl ?_; intro _; refine w ?_))
  (first | refine VO.pure rfl rfl (PureAt.quo (a := data.length) (b := 128) rfl rfl (by decide) (IntWalk.i64_in _ ⟨by omega, by omega⟩)) rfl ?_ | refine VD.take rfl rfl rfl (PureAt.quo (a := data.length) (b := 128) rfl rfl (by decide) (IntWalk.i64_in _ ⟨by omega, by omega⟩)) rfl ?_ | refine VQ.pure rfl rfl (PureAt.quo (a := data.length) (b := 128) rfl rfl (by decide) (IntWalk.i64_in _ ⟨by omega, by omega⟩)) rfl ?_ | refine VD.end rfl rfl rfl (OpV.pure (PureAt.quo (a := data.length) (b := 128) rfl rfl (by decide) (IntWalk.i64_in _ ⟨by omega, by omega⟩)) rfl ?_))
  (refine w ?_; repeat ((first | refine VO.step rfl rfl ?_ | refine VD.end rfl rfl rfl ?_ | refine VD.mid rfl rfl rfl ?_); refine OpV.box rfl rfl rfl ?_; intro _; refine w ?_))
  ((first | refine VO.step rfl rfl ?_ | refine VD.end rfl rfl rfl ?_ | refine VD.mid rfl rfl rfl ?_); refine OpV.call rfl rfl (fun _ _ => by simp) (rencs_ok c hf) Ent.refl rfl ?_)
  rintro ⟨ea, ec⟩ -
  (refine w ?_; repeat ((first | refine VO.step rfl rfl ?_ | refine VD.end rfl rfl rfl ?_ | refine VD.mid rfl rfl rfl ?_); refine OpV.box rfl rfl rfl ?_; intro _; refine w ?_))
  (first | refine VO.pure rfl rfl (PureAt.rem (a := data.length) (b := 128) rfl rfl (by decide)) rfl ?_ | refine VD.take rfl rfl rfl (PureAt.rem (a := data.length) (b := 128) rfl rfl (by decide)) rfl ?_ | refine VQ.pure rfl rfl (PureAt.rem (a := data.length) (b := 128) rfl rfl (by decide)) rfl ?_ | refine VD.end rfl rfl rfl (OpV.pure (PureAt.rem (a := data.length) (b := 128) rfl rfl (by decide)) rfl ?_))
  (refine w ?_; repeat ((first | refine VO.step rfl rfl ?_ | refine VD.end rfl rfl rfl ?_ | refine VD.mid rfl rfl rfl ?_); refine OpV.box rfl rfl rfl ?_; intro _; refine w ?_))
  refine VO.ent (H' := Row n4 61 [.slice none 0 0, .int .u64 0, .int .i64 0, .int .i64 0] :: Row n3 57 c.cells :: R) Ent.re ?_
  refine VO.joinR (α := Unit) (fun _ => True) (fun _ => Row n4 61 [.slice none 0 0, .int .u64 0, .int .i64 0, .int .i64 0] :: Row n3 57 c.cells :: R) (fun _ => [(41, .bool (decide (badM data c))), (0, .slice ao data.length cap), (3, .pointer (some ⟨n3, 0, none⟩)), (4, .pointer (some ⟨n4, 0, none⟩)), (6, .int .i64 ((data.length / 128 : Nat) : Int))]) (fun Q2 jn => ?_) ?_
  · by_cases b2 : data.length % 128 = 0
    · (first | refine VO.gF rfl rfl rfl (by simp; omega) ?_ | refine VD.gF rfl rfl rfl (by simp; omega) ?_)
      (refine w ?_; repeat ((first | refine VO.step rfl rfl ?_ | refine VD.end rfl rfl rfl ?_ | refine VD.mid rfl rfl rfl ?_); refine OpV.box rfl rfl rfl ?_; intro _; refine w ?_))
      by_cases b3 : data.length / 128 < 5
      · (first | refine VO.gT rfl rfl rfl (decide_eq_true (by omega)) ?_ | refine VD.gT rfl rfl rfl (decide_eq_true (by omega)) ?_)
        have hz : badM data c := .inr (.inr (.inl b3))
        (refine w ?_; repeat ((first | refine VO.step rfl rfl ?_ | refine VD.end rfl rfl rfl ?_ | refine VD.mid rfl rfl rfl ?_); refine OpV.box rfl rfl rfl ?_; intro _; refine w ?_))
        exact jn.to () trivial ⟨asV rfl (by simp [hz]), rfl, rfl, rfl, rfl, trivial⟩ Ent.refl
      · (first | refine VO.gF rfl rfl rfl (decide_eq_false (by omega)) ?_ | refine VD.gF rfl rfl rfl (decide_eq_false (by omega)) ?_)
        (refine w ?_; repeat ((first | refine VO.step rfl rfl ?_ | refine VD.end rfl rfl rfl ?_ | refine VD.mid rfl rfl rfl ?_); refine OpV.box rfl rfl rfl ?_; intro _; refine w ?_))
        by_cases b4 : 2048 < data.length / 128
        · (first | refine VO.gT rfl rfl rfl (decide_eq_true (by omega)) ?_ | refine VD.gT rfl rfl rfl (decide_eq_true (by omega)) ?_)
          have hz : badM data c := .inr (.inr (.inr (.inl b4)))
          (refine w ?_; repeat ((first | refine VO.step rfl rfl ?_ | refine VD.end rfl rfl rfl ?_ | refine VD.mid rfl rfl rfl ?_); refine OpV.box rfl rfl rfl ?_; intro _; refine w ?_))
          exact jn.to () trivial ⟨asV rfl (by simp [hz]), rfl, rfl, rfl, rfl, trivial⟩ Ent.refl
        · (first | refine VO.gF rfl rfl rfl (decide_eq_false (by omega)) ?_ | refine VD.gF rfl rfl rfl (decide_eq_false (by omega)) ?_)
          (refine w ?_; repeat ((first | refine VO.step rfl rfl ?_ | refine VD.end rfl rfl rfl ?_ | refine VD.mid rfl rfl rfl ?_); refine OpV.box rfl rfl rfl ?_; intro _; refine w ?_))
          by_cases b1 : c.enc.1 = 0
          · (first | refine VO.gF rfl rfl rfl (by simpa using b1) ?_ | refine VD.gF rfl rfl rfl (by simpa using b1) ?_)
            (refine w ?_; repeat ((first | refine VO.step rfl rfl ?_ | refine VD.end rfl rfl rfl ?_ | refine VD.mid rfl rfl rfl ?_); refine OpV.box rfl rfl rfl ?_; intro _; refine w ?_))
            exact jn.to () trivial ⟨asV rfl (by congr 1; rw [decide_eq_decide]; unfold badM; omega), rfl, rfl, rfl, rfl, trivial⟩ Ent.refl
          · (first | refine VO.gT rfl rfl rfl (by simpa using b1) ?_ | refine VD.gT rfl rfl rfl (by simpa using b1) ?_)
            have hz : badM data c := .inl b1
            (refine w ?_; repeat ((first | refine VO.step rfl rfl ?_ | refine VD.end rfl rfl rfl ?_ | refine VD.mid rfl rfl rfl ?_); refine OpV.box rfl rfl rfl ?_; intro _; refine w ?_))
            exact jn.to () trivial ⟨asV rfl (by simp [hz]), rfl, rfl, rfl, rfl, trivial⟩ Ent.refl
    · (first | refine VO.gT rfl rfl rfl (by simp; omega) ?_ | refine VD.gT rfl rfl rfl (by simp; omega) ?_)
      have hz : badM data c := .inr (.inl b2)
      (refine w ?_; repeat ((first | refine VO.step rfl rfl ?_ | refine VD.end rfl rfl rfl ?_ | refine VD.mid rfl rfl rfl ?_); refine OpV.box rfl rfl rfl ?_; intro _; refine w ?_))
      exact jn.to () trivial ⟨asV rfl (by simp [hz]), rfl, rfl, rfl, rfl, trivial⟩ Ent.refl
  rintro ⟨⟩ -
  (refine w ?_; repeat ((first | refine VO.step rfl rfl ?_ | refine VD.end rfl rfl rfl ?_ | refine VD.mid rfl rfl rfl ?_); refine OpV.box rfl rfl rfl ?_; intro _; refine w ?_))
  by_cases hbd : badM data c
  · (refine VC.condTe rfl rfl (decide_eq_true hbd) ?_)
    have hz : foundM data c = (1, ⟨[], 0, 0, 0⟩) := if_pos hbd
    (refine w ?_; repeat ((first | refine VO.step rfl rfl ?_ | refine VD.end rfl rfl rfl ?_ | refine VD.mid rfl rfl rfl ?_); refine OpV.box rfl rfl rfl ?_; intro _; refine w ?_))
    (apply VO.pure rfl rfl; apply PureAt.build sb_61 (pv := []) rfl; rfl; rfl)
    (refine w ?_; repeat ((first | refine VO.step rfl rfl ?_ | refine VD.end rfl rfl rfl ?_ | refine VD.mid rfl rfl rfl ?_); refine OpV.box rfl rfl rfl ?_; intro _; refine w ?_))
    (first | refine VO.step rfl rfl ?_ | refine VD.end rfl rfl rfl ?_ | refine VD.mid rfl rfl rfl ?_)
    refine OpV.stA (vs := [.slice none 0 0, .int .u64 0, .int .i64 0, .int .i64 0]) tab_ok rfl rfl rfl rfl (by simp [Value.oneCell']) (by (repeat first | exact .head | apply Hole.tail)) (by simp) ?_
    (refine w ?_; repeat ((first | refine VO.step rfl rfl ?_ | refine VD.end rfl rfl rfl ?_ | refine VD.mid rfl rfl rfl ?_); refine OpV.box rfl rfl rfl ?_; intro _; refine w ?_))
    refine VE.results2 (.inl rfl) ((none, 0), []) rfl (ResIs.agg (vs := [.slice none 0 0, .int .u64 0, .int .i64 0, .int .i64 0]) tab_ok rfl rfl (.head _) rfl rfl) (.tmp rfl) (by rw [hz]; rfl) (by rw [hz]; rfl) ?_
    exact Ent.trans (Ent.re (L := R)) (fun w hw => (pile_nil (res := TxnE.res) hw).ownNil _ _)
  (refine VC.condFe rfl rfl (decide_eq_false hbd) ?_)
  have hnb0 := hbd
  have hnb : ¬ badM data c := hnb0
  obtain ⟨n, hn⟩ : ∃ n, n = data.length / 128 := ⟨_, rfl⟩
  have hfnd : foundM data c = (0, ⟨ofM (secB data) n c.epoch (n + 1) c.seq 0 c.tail.toNat, c.seq + (ofM (secB data) n c.epoch (n + 1) c.seq 0 c.tail.toNat).length, (c.tail.toNat + costT (ofM (secB data) n c.epoch (n + 1) c.seq 0 c.tail.toNat)) % n, costT (ofM (secB data) n c.epoch (n + 1) c.seq 0 c.tail.toNat)⟩) := by
    rw [hn]; exact if_neg hnb
  have hen : c.enc.1 = 0 := Decidable.byContradiction fun q => hnb (.inl q)
  have hgood : c.good := by
    by_cases g : c.good
    · exact g
    · rw [chk_bad g] at hen; cases hen
  have hct := (chk_iff c).1 hgood
  have b2 : data.length % 128 = 0 := Decidable.byContradiction fun q => hnb (.inr (.inl q))
  have b3 : ¬ n < 5 := fun q => hnb (.inr (.inr (.inl (hn ▸ q))))
  have b4 : ¬ 2048 < n := fun q => hnb (.inr (.inr (.inr (.inl (hn ▸ q)))))
  have b5 : ¬ (n : Int) ≤ c.tail := fun q => hnb (.inr (.inr (.inr (.inr (hn ▸ q)))))
  have hdn : data.length = n * 128 := by omega
  obtain ⟨tl, htl⟩ : ∃ tl : Nat, c.tail = tl := ⟨c.tail.toNat, by omega⟩
  rw [htl, Int.toNat_natCast] at hfnd
  obtain ⟨la, rfl⟩ : ∃ a, ao = some a := by cases ao with | none => have := hr.nil rfl; omega | some a => exact ⟨a, rfl⟩
  rw [← hn]
  (refine w ?_; repeat ((first | refine VO.step rfl rfl ?_ | refine VD.end rfl rfl rfl ?_ | refine VD.mid rfl rfl rfl ?_); refine OpV.box rfl rfl rfl ?_; intro _; refine w ?_))
  ((first | apply VO.pure rfl rfl | apply VD.take rfl rfl rfl | (refine VD.end rfl rfl rfl ?_; apply OpV.pure)); apply PureAt.build sb_61 rfl; (simp [buildX, setL, Value.cells]; rfl); rfl)
  ((first | refine VO.step rfl rfl ?_ | refine VD.end rfl rfl rfl ?_ | refine VD.mid rfl rfl rfl ?_); refine OpV.allocS sb_61 rfl ?_; intro n9)
  (refine w ?_; repeat ((first | refine VO.step rfl rfl ?_ | refine VD.end rfl rfl rfl ?_ | refine VD.mid rfl rfl rfl ?_); refine OpV.box rfl rfl rfl ?_; intro _; refine w ?_))
  (first | refine VO.step rfl rfl ?_ | refine VD.end rfl rfl rfl ?_ | refine VD.mid rfl rfl rfl ?_)
  refine OpV.stA (vs := [.slice none 0 0, .int .u64 c.seq, .int .i64 c.tail, .int .i64 0]) tab_ok rfl rfl rfl rfl (by simp [Value.oneCell']) (by (repeat first | exact .head | apply Hole.tail)) (by simp) ?_
  (refine w ?_; repeat ((first | refine VO.step rfl rfl ?_ | refine VD.end rfl rfl rfl ?_ | refine VD.mid rfl rfl rfl ?_); refine OpV.box rfl rfl rfl ?_; intro _; refine w ?_))
  refine VC.loop (α := List TxnE × (Option Addr × Nat) × Nat) (fun y => ofM (secB data) n c.epoch (n + 1) c.seq 0 tl = y.1.map TxnE.T ++ ofM (secB data) n c.epoch y.2.2 (c.seq + y.1.length) (costT (y.1.map TxnE.T)) ((tl + costT (y.1.map TxnE.T)) % n) ∧ costT (y.1.map TxnE.T) ≤ n ∧ n < costT (y.1.map TxnE.T) + y.2.2 ∧ y.1.length ≤ costT (y.1.map TxnE.T))
    (fun y => Row n9 61 [.slice y.2.1.1 y.1.length y.2.1.2, .int .u64 ((c.seq + y.1.length : Nat) : Int), .int .i64 (((tl + costT (y.1.map TxnE.T)) % n : Nat) : Int), .int .i64 ((costT (y.1.map TxnE.T) : Nat) : Int)] :: TxnsO y.2.1 y.1 :: PilT y.1 :: Row n4 61 [.slice none 0 0, .int .u64 0, .int .i64 0, .int .i64 0] :: Row n3 57 c.cells :: R)
    (fun y => [(0, .slice (some la) (n * 128) cap), (3, .pointer (some ⟨n3, 0, none⟩)), (4, .pointer (some ⟨n4, 0, none⟩)), (6, .int .i64 n), (9, .pointer (some ⟨n9, 0, none⟩))]) (fun y => y.2.2) rfl ([], (none, 0), n + 1) ?_ ?_ ⟨asV rfl (by rw [hdn]), rfl, rfl, rfl, rfl, trivial⟩ ?_
  · have h1 : tl % n = tl := Nat.mod_eq_of_lt (by omega)
    refine ⟨?_, Nat.zero_le _, by show n < 0 + (n + 1); omega, Nat.zero_le _⟩
    show _ = [] ++ ofM (secB data) n c.epoch (n + 1) (c.seq + 0) 0 ((tl + 0) % n)
    rw [List.nil_append]; simp only [Nat.add_zero]; rw [h1]
  · have h1 : tl % n = tl := Nat.mod_eq_of_lt (by omega)
    dsimp only
    rw [show (tl + costT (([] : List TxnE).map TxnE.T)) % n = tl from h1, ← htl]
    exact Ent.trans (fun w hw => (pile_nil (res := TxnE.res) hw).ownNil 25 2) Ent.re
  rintro ⟨l, x, f⟩ ⟨hof, hus, hfu, hll⟩
  dsimp only at hof hus hfu hll ⊢
  have hr' : Rds W R 1 (some la) (n * 128) (bytes data) := hdn ▸ hr
  have hhd : (tl + costT (l.map TxnE.T)) % n < n := Nat.mod_lt _ (by omega)
  (refine w ?_; repeat ((first | refine VO.step rfl rfl ?_ | refine VD.end rfl rfl rfl ?_ | refine VD.mid rfl rfl rfl ?_); refine OpV.box rfl rfl rfl ?_; intro _; refine w ?_))
  refine VO.re 55 (.int .i64 ((n - costT (l.map TxnE.T) : Nat) : Int)) rfl (by congr 1; omega) ?_
  have hE : Ent W (Row n9 61 [.slice x.1 l.length x.2, .int .u64 ((c.seq + l.length : Nat) : Int), .int .i64 (((tl + costT (l.map TxnE.T)) % n : Nat) : Int), .int .i64 ((costT (l.map TxnE.T) : Nat) : Int)] :: TxnsO x l :: PilT l :: Row n4 61 [.slice none 0 0, .int .u64 0, .int .i64 0, .int .i64 0] :: Row n3 57 c.cells :: R) R := Ent.re
  ((first | refine VO.step rfl rfl ?_ | refine VD.end rfl rfl rfl ?_ | refine VD.mid rfl rfl rfl ?_); refine OpV.call rfl rfl (fun _ _ => by simp) (rbatch_ok ⟨by omega, by omega⟩ (by omega) ((tl + costT (l.map TxnE.T)) % n) (n - costT (l.map TxnE.T)) c.epoch (c.seq + l.length) hhd (by omega) hf.epoch (by omega) hdn (hr'.ent hE) (rotF (secB data) n ((tl + costT (l.map TxnE.T)) % n)) (fun i => by unfold rotF secB; rw [Nat.mul_comm])) Ent.refl rfl ?_)
  intro t htp
  (refine w ?_; repeat ((first | refine VO.step rfl rfl ?_ | refine VD.end rfl rfl rfl ?_ | refine VD.mid rfl rfl rfl ?_); refine OpV.box rfl rfl rfl ?_; intro _; refine w ?_))
  ((first | refine VO.step rfl rfl ?_ | refine VD.end rfl rfl rfl ?_ | refine VD.mid rfl rfl rfl ?_); refine OpV.allocS sb_25 rfl ?_; intro n10)
  (refine w ?_; repeat ((first | refine VO.step rfl rfl ?_ | refine VD.end rfl rfl rfl ?_ | refine VD.mid rfl rfl rfl ?_); refine OpV.box rfl rfl rfl ?_; intro _; refine w ?_))
  (first | refine VO.step rfl rfl ?_ | refine VD.end rfl rfl rfl ?_ | refine VD.mid rfl rfl rfl ?_)
  refine OpV.stA (vs := t.cells) tab_ok rfl rfl rfl rfl (txn_one _) (by (repeat first | exact .head | apply Hole.tail)) (by simp) ?_
  refine VO.ent (Ent.re (L := Row n10 25 t.cells :: PatsO (t.ao, t.cap) t.pats :: PilP t.pats :: Row n9 61 [.slice x.1 l.length x.2, .int .u64 ((c.seq + l.length : Nat) : Int), .int .i64 (((tl + costT (l.map TxnE.T)) % n : Nat) : Int), .int .i64 ((costT (l.map TxnE.T) : Nat) : Int)] :: TxnsO x l :: PilT l :: Row n4 61 [.slice none 0 0, .int .u64 0, .int .i64 0, .int .i64 0] :: Row n3 57 c.cells :: R)) ?_
  (refine w ?_; repeat ((first | refine VO.step rfl rfl ?_ | refine VD.end rfl rfl rfl ?_ | refine VD.mid rfl rfl rfl ?_); refine OpV.box rfl rfl rfl ?_; intro _; refine w ?_))
  by_cases hmx : c.seq + l.length ≤ 4611686018427387904
  · rw [if_pos hmx]
    cases hbm : batM (rotF (secB data) n ((tl + costT (l.map TxnE.T)) % n)) (n - costT (l.map TxnE.T)) c.epoch (c.seq + l.length) with
    | none =>
      have hfull : ofM (secB data) n c.epoch (n + 1) c.seq 0 tl = l.map TxnE.T := by rw [hof, of_none hbm]; exact List.append_nil _
      (refine VC.condTe rfl rfl (by simp) ?_)
      (refine w ?_; repeat ((first | refine VO.step rfl rfl ?_ | refine VD.end rfl rfl rfl ?_ | refine VD.mid rfl rfl rfl ?_); refine OpV.box rfl rfl rfl ?_; intro _; refine w ?_))
      (first | refine VO.step rfl rfl ?_ | refine VD.end rfl rfl rfl ?_ | refine VD.mid rfl rfl rfl ?_)
      refine OpV.stA (vs := [.slice x.1 l.length x.2, .int .u64 ((c.seq + l.length : Nat) : Int), .int .i64 (((tl + costT (l.map TxnE.T)) % n : Nat) : Int), .int .i64 ((costT (l.map TxnE.T) : Nat) : Int)]) tab_ok rfl rfl rfl rfl (by simp [Value.oneCell']) (by (repeat first | exact .head | apply Hole.tail)) (by simp) ?_
      (refine w ?_; repeat ((first | refine VO.step rfl rfl ?_ | refine VD.end rfl rfl rfl ?_ | refine VD.mid rfl rfl rfl ?_); refine OpV.box rfl rfl rfl ?_; intro _; refine w ?_))
      refine VE.results2 (.inl rfl) (x, l) rfl (ResIs.agg (vs := [.slice x.1 l.length x.2, .int .u64 ((c.seq + l.length : Nat) : Int), .int .i64 (((tl + costT (l.map TxnE.T)) % n : Nat) : Int), .int .i64 ((costT (l.map TxnE.T) : Nat) : Int)]) tab_ok rfl rfl (by (focus repeat first | exact .head _ | apply List.Mem.tail)) rfl rfl) (.tmp rfl) (by rw [hfnd]; exact hfull.symm) (by rw [hfnd]; simp only [hfull, List.length_map]) ?_
      exact Ent.re
    | some lp =>
      obtain ⟨hts, htd⟩ := htp lp hmx hbm
      have hbr := bat_room hbm
      have hpl : t.pats.length = lp.length := by rw [← htd, List.length_map]
      have hlen2 : t.pats.length ≤ 1023 := by omega
      have hop : (Option.elim (some lp) (0 : Int) fun l => 2 * (l.length : Int) + 1) = ((2 * lp.length + 1 : Nat) : Int) := by show 2 * (lp.length : Int) + 1 = _; omega
      rw [hop]
      (refine VC.condFe rfl rfl (by simp; omega) ?_)
      (refine w ?_; repeat ((first | refine VO.step rfl rfl ?_ | refine VD.end rfl rfl rfl ?_ | refine VD.mid rfl rfl rfl ?_); refine OpV.box rfl rfl rfl ?_; intro _; refine w ?_))
      (first | refine VO.step rfl rfl ?_ | refine VD.end rfl rfl rfl ?_ | refine VD.mid rfl rfl rfl ?_)
      refine OpV.buildSlice (cs := t.cells) st_59 rfl rfl (by simp [Value.cells]) (by simp [Value.cells]) (by decide) rfl ?_
      intro nc
      (first | refine VO.step rfl rfl ?_ | refine VD.end rfl rfl rfl ?_ | refine VD.mid rfl rfl rfl ?_)
      refine OpV.appendRow st_59 rfl rfl (by (repeat first | exact .head | apply Hole.tail)) (by (focus repeat first | exact .head _ | apply List.Mem.tail)) rfl (txn_one _) (by simp only [maxLen]; omega) (by omega) rfl ?_
      intro so sc
      (refine w ?_; repeat ((first | refine VO.step rfl rfl ?_ | refine VD.end rfl rfl rfl ?_ | refine VD.mid rfl rfl rfl ?_); refine OpV.box rfl rfl rfl ?_; intro _; refine w ?_))
      (first | refine VO.pure rfl rfl (PureAt.rem (a := (tl + costT (l.map TxnE.T)) % n + (2 * lp.length + 1)) (b := n) rfl rfl (by omega)) rfl ?_ | refine VD.take rfl rfl rfl (PureAt.rem (a := (tl + costT (l.map TxnE.T)) % n + (2 * lp.length + 1)) (b := n) rfl rfl (by omega)) rfl ?_ | refine VQ.pure rfl rfl (PureAt.rem (a := (tl + costT (l.map TxnE.T)) % n + (2 * lp.length + 1)) (b := n) rfl rfl (by omega)) rfl ?_ | refine VD.end rfl rfl rfl (OpV.pure (PureAt.rem (a := (tl + costT (l.map TxnE.T)) % n + (2 * lp.length + 1)) (b := n) rfl rfl (by omega)) rfl ?_))
      (refine w ?_; repeat ((first | refine VO.step rfl rfl ?_ | refine VD.end rfl rfl rfl ?_ | refine VD.mid rfl rfl rfl ?_); refine OpV.box rfl rfl rfl ?_; intro _; refine w ?_))
      have hT : (l ++ [t]).map TxnE.T = l.map TxnE.T ++ [(c.seq + l.length, lp)] := by rw [List.map_append, List.map_cons, List.map_nil]; unfold TxnE.T; rw [hts, htd]
      have hcost : costT ((l ++ [t]).map TxnE.T) = costT (l.map TxnE.T) + (2 * lp.length + 1) := by rw [hT, costT_append, costT_cons]; simp [costT]
      obtain ⟨g, rfl⟩ : ∃ g, f = g + 1 := ⟨f - 1, by omega⟩
      have hmod : ((tl + costT (l.map TxnE.T)) % n + (2 * lp.length + 1)) % n = (tl + (costT (l.map TxnE.T) + (2 * lp.length + 1))) % n := by rw [Nat.mod_add_mod, Nat.add_assoc]
      refine VE.round (l ++ [t], (so, sc), g) ⟨?_, ?_, ?_, ?_⟩ (by simp only; omega) ⟨rfl, rfl, rfl, rfl, rfl, trivial⟩ ?_
      · simp only
        rw [hcost, hT, hof, List.length_append, List.length_singleton, ofM, if_pos hmx, hbm]
        dsimp only
        rw [List.append_assoc, List.singleton_append, hmod, Nat.add_assoc c.seq]
      · simp only; rw [hcost]; omega
      · simp only; rw [hcost]; omega
      · simp only; rw [hcost, List.length_append, List.length_singleton]; omega
      dsimp only
      have e1 : (((c.seq + l.length : Nat) : Int) + 1) = ((c.seq + (l.length + 1) : Nat) : Int) := by omega
      have e2 : ((((tl + costT (l.map TxnE.T)) % n + (2 * lp.length + 1)) % n : Nat) : Int) = (((tl + (costT (l.map TxnE.T) + (2 * lp.length + 1))) % n : Nat) : Int) := by rw [hmod]
      have e3 : (((costT (l.map TxnE.T) : Nat) : Int) + ((2 * lp.length + 1 : Nat) : Int)) = ((costT (l.map TxnE.T) + (2 * lp.length + 1) : Nat) : Int) := by omega
      rw [show IntKind.u64.wrap (((c.seq + l.length : Nat) : Int) + 1) = ((c.seq + l.length : Nat) : Int) + 1 from IntWalk.u64_in _ ⟨by omega, by omega⟩]
      refine Ent.trans (Ent.re (L := PatsO (t.ao, t.cap) t.pats :: PilP t.pats :: PilT l :: Row n9 61 [.slice so (l.length + 1) sc, .int .u64 (((c.seq + l.length : Nat) : Int) + 1), .int .i64 ((((tl + costT (l.map TxnE.T)) % n + (2 * lp.length + 1)) % n : Nat) : Int), .int .i64 (((costT (l.map TxnE.T) : Nat) : Int) + ((2 * lp.length + 1 : Nat) : Int))] :: Sl.Own 25 2 (.slice so (l.length + 1) sc) (l.length + 1) (txnCells l ++ t.cells) :: Row n4 61 [.slice none 0 0, .int .u64 0, .int .i64 0, .int .i64 0] :: Row n3 57 c.cells :: R)) ?_
      refine Ent.trans (fun w hw => pile_push (res := TxnE.res) (TxnE.shut t hw)) ?_
      rw [txnsO_one, hcost, List.length_append, List.length_singleton, ← e1, ← e2, ← e3]
      exact Ent.re
  · rw [if_neg hmx]
    have hfull : ofM (secB data) n c.epoch (n + 1) c.seq 0 tl = l.map TxnE.T := by
      rw [hof]
      cases f with
      | zero => exact List.append_nil _
      | succ f => unfold ofM; rw [if_neg hmx]; exact List.append_nil _
    (refine VC.condTe rfl rfl (by simp) ?_)
    (refine w ?_; repeat ((first | refine VO.step rfl rfl ?_ | refine VD.end rfl rfl rfl ?_ | refine VD.mid rfl rfl rfl ?_); refine OpV.box rfl rfl rfl ?_; intro _; refine w ?_))
    (first | refine VO.step rfl rfl ?_ | refine VD.end rfl rfl rfl ?_ | refine VD.mid rfl rfl rfl ?_)
    refine OpV.stA (vs := [.slice x.1 l.length x.2, .int .u64 ((c.seq + l.length : Nat) : Int), .int .i64 (((tl + costT (l.map TxnE.T)) % n : Nat) : Int), .int .i64 ((costT (l.map TxnE.T) : Nat) : Int)]) tab_ok rfl rfl rfl rfl (by simp [Value.oneCell']) (by (repeat first | exact .head | apply Hole.tail)) (by simp) ?_
    (refine w ?_; repeat ((first | refine VO.step rfl rfl ?_ | refine VD.end rfl rfl rfl ?_ | refine VD.mid rfl rfl rfl ?_); refine OpV.box rfl rfl rfl ?_; intro _; refine w ?_))
    refine VE.results2 (.inl rfl) (x, l) rfl (ResIs.agg (vs := [.slice x.1 l.length x.2, .int .u64 ((c.seq + l.length : Nat) : Int), .int .i64 (((tl + costT (l.map TxnE.T)) % n : Nat) : Int), .int .i64 ((costT (l.map TxnE.T) : Nat) : Int)]) tab_ok rfl rfl (by (focus repeat first | exact .head _ | apply List.Mem.tail)) rfl rfl) (.tmp rfl) (by rw [hfnd]; exact hfull.symm) (by rw [hfnd]; simp only [hfull, List.length_map]) ?_
    exact Ent.re
end Go.Proofs.Ytlojjlbngnaphaa

/-! Text Qi. -/
/- The law ScanReads: walked. -/
set_option maxRecDepth 8000
set_option linter.unusedVariables false
set_option linter.unusedSimpArgs false
set_option linter.unusedSectionVars false
namespace Go.Proofs.Ytlojjlbngnaphaa
open Go.RowKit Go.Sl
attribute [local irreducible] Sl.Own

theorem bkfound_ok {W : World} {R : List SProp} (b : Nat) (B : Bk) (z : Option Addr × Nat) (l : List TxnE) (x y u : Value) (hx : x.oneCell' = true) (hy : y.oneCell' = true) (hu : u.oneCell' = true) (hz : z.1 = none → l.length = 0) (hn : B.E.length + (eT l).length ≤ 1000000000) (hp : B.P.length + l.length ≤ 1000000000) (ht : B.T.length ≤ 1000000000) :
    Does1 W Try.prog 25 [.pointer (some ⟨b, 0, none⟩), .agg [.slice z.1 l.length z.2, x, y, u].toArray] (BookQ b B :: TxnsO z l :: PilT l :: R) (.tuple #[]) (BookQ b { B with E := B.E ++ eT l, P := B.P ++ pT l, T := B.T ++ [txnsN z l] } :: R) := by
  (refine Does.enter Try.func25 Try.ntmps25 rfl rfl ?_)
  (refine w ?_; repeat ((first | refine VO.step rfl rfl ?_ | refine VD.end rfl rfl rfl ?_ | refine VD.mid rfl rfl rfl ?_); refine OpV.box rfl rfl rfl ?_; intro _; refine w ?_))
  rename_i n3
  (refine w ?_; repeat ((first | refine VO.step rfl rfl ?_ | refine VD.end rfl rfl rfl ?_ | refine VD.mid rfl rfl rfl ?_); refine OpV.box rfl rfl rfl ?_; intro _; refine w ?_))
  refine VO.ent (Ent.re (L := BookQ b B :: TxnsO z l :: PilT l :: Row n3 61 [.slice z.1 l.length z.2, x, y, u] :: R)) ?_
  ((first | refine VO.step rfl rfl ?_ | refine VD.end rfl rfl rfl ?_ | refine VD.mid rfl rfl rfl ?_); refine OpV.call rfl rfl (fun _ _ => by simp) (bktxns_ok b B z l hz hn hp ht) Ent.refl rfl ?_)
  intro _ _
  (refine w ?_; repeat ((first | refine VO.step rfl rfl ?_ | refine VD.end rfl rfl rfl ?_ | refine VD.mid rfl rfl rfl ?_); refine OpV.box rfl rfl rfl ?_; intro _; refine w ?_))
  exact VE.done1N rfl rfl Ent.re
theorem samefound_ok {W : World} {R : List SProp} {ao bo : Option Addr} {ac bc : Nat} {l m : List TxnE} (x y u : Nat) (hl : RdTxns W R ao l) (hm : RdTxns W R bo m) (hn : l.length ≤ 140737488351232) (hd : ∀ t ∈ l, t.pats.length ≤ 140737488351232 ∧ ∀ p ∈ t.pats, p.d.data.length ≤ maxLen) (he : l.map TxnE.T = m.map TxnE.T) :
    Does1 W Try.prog 26 [.agg [.slice ao l.length ac, .int .u64 x, .int .i64 y, .int .i64 u].toArray, .agg [.slice bo m.length bc, .int .u64 x, .int .i64 y, .int .i64 u].toArray] R (.bool true) R := by
  (refine Does.enter Try.func26 Try.ntmps26 rfl rfl ?_)
  (refine w ?_; repeat ((first | refine VO.step rfl rfl ?_ | refine VD.end rfl rfl rfl ?_ | refine VD.mid rfl rfl rfl ?_); refine OpV.box rfl rfl rfl ?_; intro _; refine w ?_))
  (first | refine VO.gT rfl rfl rfl (by simp) ?_ | refine VD.gT rfl rfl rfl (by simp) ?_)
  (refine w ?_; repeat ((first | refine VO.step rfl rfl ?_ | refine VD.end rfl rfl rfl ?_ | refine VD.mid rfl rfl rfl ?_); refine OpV.box rfl rfl rfl ?_; intro _; refine w ?_))
  (first | refine VO.gT rfl rfl rfl (by simp) ?_ | refine VD.gT rfl rfl rfl (by simp) ?_)
  (refine w ?_; repeat ((first | refine VO.step rfl rfl ?_ | refine VD.end rfl rfl rfl ?_ | refine VD.mid rfl rfl rfl ?_); refine OpV.box rfl rfl rfl ?_; intro _; refine w ?_))
  (first | refine VO.gT rfl rfl rfl (by simp) ?_ | refine VD.gT rfl rfl rfl (by simp) ?_)
  (refine w ?_; repeat ((first | refine VO.step rfl rfl ?_ | refine VD.end rfl rfl rfl ?_ | refine VD.mid rfl rfl rfl ?_); refine OpV.box rfl rfl rfl ?_; intro _; refine w ?_))
  ((first | refine VO.step rfl rfl ?_ | refine VD.end rfl rfl rfl ?_ | refine VD.mid rfl rfl rfl ?_); refine OpV.call rfl rfl (fun _ _ => by simp) (sametxns_ok (hl.ent (Ent.drop (Ent.drop Ent.refl))) (hm.ent (Ent.drop (Ent.drop Ent.refl))) hn hd) Ent.refl rfl ?_)
  intro _ _
  rw [decide_eq_true he]
  (refine w ?_; repeat ((first | refine VO.step rfl rfl ?_ | refine VD.end rfl rfl rfl ?_ | refine VD.mid rfl rfl rfl ?_); refine OpV.box rfl rfl rfl ?_; intro _; refine w ?_))
  exact VE.done1 rfl rfl (Ent.drop (Ent.drop Ent.refl))
theorem costT_len : ∀ (ts : List (Nat × List PatD)), ts.length ≤ costT ts
  | [] => Nat.zero_le _
  | t :: r => by
    have := costT_len r
    rw [costT_cons, List.length_cons]; omega
/-- What is found is few. -/
theorem found_few {data : List UInt8} {c : ChkD} {ts : List TxnE} (h : ts.map TxnE.T = (foundM data c).2.txns) : ts.length ≤ 2048 ∧ ∀ t ∈ ts, t.pats.length ≤ 1023 ∧ ∀ p ∈ t.pats, p.d.data.length = 128 := by
  by_cases hb : badM data c
  · have hz : foundM data c = (1, ⟨[], 0, 0, 0⟩) := if_pos hb
    rw [hz] at h
    have : ts = [] := by cases ts with | nil => rfl | cons a r => cases h
    subst this
    exact ⟨Nat.zero_le _, fun t ht => (by cases ht)⟩
  · have hfnd : (foundM data c).2.txns = ofM (secB data) (data.length / 128) c.epoch (data.length / 128 + 1) c.seq 0 c.tail.toNat := by
      have : foundM data c = (0, ⟨ofM (secB data) (data.length / 128) c.epoch (data.length / 128 + 1) c.seq 0 c.tail.toNat, _, _, _⟩) := if_neg hb
      rw [this]
    rw [hfnd] at h
    have b4 : data.length / 128 ≤ 2048 := by
      apply Decidable.byContradiction
      intro q
      exact hb (.inr (.inr (.inr (.inl (by omega)))))
    have hc := of_cost (sec := secB data) (size := data.length / 128) (e := c.epoch) (data.length / 128 + 1) c.seq 0 c.tail.toNat (Nat.zero_le _)
    rw [← h] at hc
    have hl := costT_len (ts.map TxnE.T)
    rw [List.length_map] at hl
    refine ⟨by omega, fun t ht => ?_⟩
    obtain ⟨i, hi, rfl⟩ := List.mem_iff_getElem.1 ht
    have h1 : (ofM (secB data) (data.length / 128) c.epoch (data.length / 128 + 1) c.seq 0 c.tail.toNat)[i]? = some ts[i].T := by rw [← h, List.getElem?_map, List.getElem?_eq_getElem hi]; rfl
    obtain ⟨-, -, hb2⟩ := of_each _ _ _ _ _ _ h1
    have hf := ((bat_iff _ _ _ _ _).1 hb2).1
    have hn2 := hf.n2
    refine ⟨by rwa [List.length_map] at hn2, fun p hp => ?_⟩
    exact (hf.pat p.D (List.mem_map_of_mem hp)).2.2
set_option maxHeartbeats 8000000 in
theorem scanreads_law {W : World} {R : List SProp} {ao : Option Addr} {cap : Nat} {data : List UInt8} (hb : RdsA W 1 ao data.length (bytes data)) (hcap : data.length ≤ cap) (hlen : data.length ≤ 140737488351232) (c : ChkD) (hf : c.fit) :
    Does1 W Try.prog 4 [.slice ao data.length cap, .agg c.cells.toArray] R (.bool true) R := by
  (refine Does.enter Try.func4 Try.ntmps4 rfl rfl ?_)
  (refine w ?_; repeat ((first | refine VO.step rfl rfl ?_ | refine VD.end rfl rfl rfl ?_ | refine VD.mid rfl rfl rfl ?_); refine OpV.box rfl rfl rfl ?_; intro _; refine w ?_))
  rename_i n3
  (refine w ?_; repeat ((first | refine VO.step rfl rfl ?_ | refine VD.end rfl rfl rfl ?_ | refine VD.mid rfl rfl rfl ?_); refine OpV.box rfl rfl rfl ?_; intro _; refine w ?_))
  (refine VC.cond rfl rfl ?_ ?_ <;> intro hc)
  · (refine w ?_; repeat ((first | refine VO.step rfl rfl ?_ | refine VD.end rfl rfl rfl ?_ | refine VD.mid rfl rfl rfl ?_); refine OpV.box rfl rfl rfl ?_; intro _; refine w ?_))
    exact VE.done1 rfl rfl Ent.re
  have hle : data.length ≤ 300000 := by have := of_decide_eq_false hc; omega
  clear hc
  (refine w ?_; repeat ((first | refine VO.step rfl rfl ?_ | refine VD.end rfl rfl rfl ?_ | refine VD.mid rfl rfl rfl ?_); refine OpV.box rfl rfl rfl ?_; intro _; refine w ?_))
  ((first | refine VO.step rfl rfl ?_ | refine VD.end rfl rfl rfl ?_ | refine VD.mid rfl rfl rfl ?_); refine OpV.call rfl rfl (fun _ _ => by simp) (lent_ok hb (by omega)) Ent.refl rfl ?_)
  rintro ⟨a, lc⟩ _
  dsimp only
  (refine w ?_; repeat ((first | refine VO.step rfl rfl ?_ | refine VD.end rfl rfl rfl ?_ | refine VD.mid rfl rfl rfl ?_); refine OpV.box rfl rfl rfl ?_; intro _; refine w ?_))
  refine VO.know (p := data.length + 2 ≤ lc) (fun w hw => hw.ownCap (.head _)) ?_
  intro hlc
  (refine w ?_; repeat ((first | refine VO.step rfl rfl ?_ | refine VD.end rfl rfl rfl ?_ | refine VD.mid rfl rfl rfl ?_); refine OpV.box rfl rfl rfl ?_; intro _; refine w ?_))
  have hO1 := of_ok (W := W) (R := LentO a lc data :: Row n3 57 c.cells :: R) (cap := lc) (LentO.rds) (by omega) hlen c hf
  ((first | refine VO.step rfl rfl ?_ | refine VD.end rfl rfl rfl ?_ | refine VD.mid rfl rfl rfl ?_); refine OpV.call rfl rfl (fun _ _ => by simp) (hO1) Ent.refl rfl ?_)
  rintro ⟨⟨o1, c1⟩, ts1⟩ hts1
  dsimp only at hts1 ⊢
  (refine w ?_; repeat ((first | refine VO.step rfl rfl ?_ | refine VD.end rfl rfl rfl ?_ | refine VD.mid rfl rfl rfl ?_); refine OpV.box rfl rfl rfl ?_; intro _; refine w ?_))
  ((first | refine VO.step rfl rfl ?_ | refine VD.end rfl rfl rfl ?_ | refine VD.mid rfl rfl rfl ?_); refine OpV.allocS sb_61 rfl ?_; intro n6)
  (refine w ?_; repeat ((first | refine VO.step rfl rfl ?_ | refine VD.end rfl rfl rfl ?_ | refine VD.mid rfl rfl rfl ?_); refine OpV.box rfl rfl rfl ?_; intro _; refine w ?_))
  (first | refine VO.step rfl rfl ?_ | refine VD.end rfl rfl rfl ?_ | refine VD.mid rfl rfl rfl ?_)
  refine OpV.stA (vs := [.slice o1 ts1.length c1, .int .u64 ((foundM data c).2.next : Int), .int .i64 ((foundM data c).2.head : Int), .int .i64 ((foundM data c).2.used : Int)]) tab_ok rfl rfl rfl rfl (by simp [Value.oneCell']) (by (repeat first | exact .head | apply Hole.tail)) (by simp) ?_
  (refine w ?_; repeat ((first | refine VO.step rfl rfl ?_ | refine VD.end rfl rfl rfl ?_ | refine VD.mid rfl rfl rfl ?_); refine OpV.box rfl rfl rfl ?_; intro _; refine w ?_))
  refine VO.ent (Ent.re (L := LentO a lc data :: Row n6 61 [.slice o1 ts1.length c1, .int .u64 ((foundM data c).2.next : Int), .int .i64 ((foundM data c).2.head : Int), .int .i64 ((foundM data c).2.used : Int)] :: TxnsO (o1, c1) ts1 :: PilT ts1 :: Row n3 57 c.cells :: R)) ?_
  have hO2 := of_ok (W := W) (R := LentO a lc data :: Row n6 61 [.slice o1 ts1.length c1, .int .u64 ((foundM data c).2.next : Int), .int .i64 ((foundM data c).2.head : Int), .int .i64 ((foundM data c).2.used : Int)] :: TxnsO (o1, c1) ts1 :: PilT ts1 :: Row n3 57 c.cells :: R) (cap := lc) (LentO.rds) (by omega) hlen c hf
  ((first | refine VO.step rfl rfl ?_ | refine VD.end rfl rfl rfl ?_ | refine VD.mid rfl rfl rfl ?_); refine OpV.call rfl rfl (fun _ _ => by simp) (hO2) Ent.refl rfl ?_)
  rintro ⟨⟨o2, c2⟩, ts2⟩ hts2
  dsimp only at hts2 ⊢
  (refine w ?_; repeat ((first | refine VO.step rfl rfl ?_ | refine VD.end rfl rfl rfl ?_ | refine VD.mid rfl rfl rfl ?_); refine OpV.box rfl rfl rfl ?_; intro _; refine w ?_))
  ((first | refine VO.step rfl rfl ?_ | refine VD.end rfl rfl rfl ?_ | refine VD.mid rfl rfl rfl ?_); refine OpV.allocS sb_61 rfl ?_; intro n8)
  (refine w ?_; repeat ((first | refine VO.step rfl rfl ?_ | refine VD.end rfl rfl rfl ?_ | refine VD.mid rfl rfl rfl ?_); refine OpV.box rfl rfl rfl ?_; intro _; refine w ?_))
  (first | refine VO.step rfl rfl ?_ | refine VD.end rfl rfl rfl ?_ | refine VD.mid rfl rfl rfl ?_)
  refine OpV.stA (vs := [.slice o2 ts2.length c2, .int .u64 ((foundM data c).2.next : Int), .int .i64 ((foundM data c).2.head : Int), .int .i64 ((foundM data c).2.used : Int)]) tab_ok rfl rfl rfl rfl (by simp [Value.oneCell']) (by (repeat first | exact .head | apply Hole.tail)) (by simp) ?_
  (refine w ?_; repeat ((first | refine VO.step rfl rfl ?_ | refine VD.end rfl rfl rfl ?_ | refine VD.mid rfl rfl rfl ?_); refine OpV.box rfl rfl rfl ?_; intro _; refine w ?_))
  refine VO.ent (Ent.re (L := LentO a lc data :: Row n8 61 [.slice o2 ts2.length c2, .int .u64 ((foundM data c).2.next : Int), .int .i64 ((foundM data c).2.head : Int), .int .i64 ((foundM data c).2.used : Int)] :: TxnsO (o2, c2) ts2 :: PilT ts2 :: Row n6 61 [.slice o1 ts1.length c1, .int .u64 ((foundM data c).2.next : Int), .int .i64 ((foundM data c).2.head : Int), .int .i64 ((foundM data c).2.used : Int)] :: TxnsO (o1, c1) ts1 :: PilT ts1 :: Row n3 57 c.cells :: R)) ?_
  ((first | refine VO.step rfl rfl ?_ | refine VD.end rfl rfl rfl ?_ | refine VD.mid rfl rfl rfl ?_); refine OpV.call rfl rfl (fun _ _ => by simp) (whole_ok hb (by omega)) Ent.refl rfl ?_)
  intro _ _
  (refine w ?_; repeat ((first | refine VO.step rfl rfl ?_ | refine VD.end rfl rfl rfl ?_ | refine VD.mid rfl rfl rfl ?_); refine OpV.box rfl rfl rfl ?_; intro _; refine w ?_))
  ((first | refine VO.step rfl rfl ?_ | refine VD.end rfl rfl rfl ?_ | refine VD.mid rfl rfl rfl ?_); refine OpV.call rfl rfl (fun _ _ => by simp) (spoil_ok (n := data.length) (m := data.length + 2) (xs := lentV data) (by omega)) Ent.refl rfl ?_)
  intro _ _
  (refine w ?_; repeat ((first | refine VO.step rfl rfl ?_ | refine VD.end rfl rfl rfl ?_ | refine VD.mid rfl rfl rfl ?_); refine OpV.box rfl rfl rfl ?_; intro _; refine w ?_))
  have hO3 := rof_ok (W := W) (R := Row n8 61 [.slice o2 ts2.length c2, .int .u64 ((foundM data c).2.next : Int), .int .i64 ((foundM data c).2.head : Int), .int .i64 ((foundM data c).2.used : Int)] :: TxnsO (o2, c2) ts2 :: PilT ts2 :: Row n6 61 [.slice o1 ts1.length c1, .int .u64 ((foundM data c).2.next : Int), .int .i64 ((foundM data c).2.head : Int), .int .i64 ((foundM data c).2.used : Int)] :: TxnsO (o1, c1) ts1 :: PilT ts1 :: Row n3 57 c.cells :: R) (cap := cap) (hb _) hcap hlen c hf
  ((first | refine VO.step rfl rfl ?_ | refine VD.end rfl rfl rfl ?_ | refine VD.mid rfl rfl rfl ?_); refine OpV.call rfl rfl (fun _ _ => by simp) (hO3) Ent.refl rfl ?_)
  rintro ⟨⟨o3, c3⟩, ts3⟩ hts3
  dsimp only at hts3 ⊢
  (refine w ?_; repeat ((first | refine VO.step rfl rfl ?_ | refine VD.end rfl rfl rfl ?_ | refine VD.mid rfl rfl rfl ?_); refine OpV.box rfl rfl rfl ?_; intro _; refine w ?_))
  ((first | refine VO.step rfl rfl ?_ | refine VD.end rfl rfl rfl ?_ | refine VD.mid rfl rfl rfl ?_); refine OpV.allocS sb_61 rfl ?_; intro n11)
  (refine w ?_; repeat ((first | refine VO.step rfl rfl ?_ | refine VD.end rfl rfl rfl ?_ | refine VD.mid rfl rfl rfl ?_); refine OpV.box rfl rfl rfl ?_; intro _; refine w ?_))
  (first | refine VO.step rfl rfl ?_ | refine VD.end rfl rfl rfl ?_ | refine VD.mid rfl rfl rfl ?_)
  refine OpV.stA (vs := [.slice o3 ts3.length c3, .int .u64 ((foundM data c).2.next : Int), .int .i64 ((foundM data c).2.head : Int), .int .i64 ((foundM data c).2.used : Int)]) tab_ok rfl rfl rfl rfl (by simp [Value.oneCell']) (by (repeat first | exact .head | apply Hole.tail)) (by simp) ?_
  (refine w ?_; repeat ((first | refine VO.step rfl rfl ?_ | refine VD.end rfl rfl rfl ?_ | refine VD.mid rfl rfl rfl ?_); refine OpV.box rfl rfl rfl ?_; intro _; refine w ?_))
  ((first | apply VO.pure rfl rfl | apply VD.take rfl rfl rfl | (refine VD.end rfl rfl rfl ?_; apply OpV.pure)); apply PureAt.build sb_50 rfl; (simp [buildX, setL, Value.cells]; rfl); rfl)
  (refine w ?_; repeat ((first | refine VO.step rfl rfl ?_ | refine VD.end rfl rfl rfl ?_ | refine VD.mid rfl rfl rfl ?_); refine OpV.box rfl rfl rfl ?_; intro _; refine w ?_))
  rename_i bk
  obtain ⟨f1, g1⟩ := found_few hts1
  obtain ⟨f2, g2⟩ := found_few hts2
  obtain ⟨f3, g3⟩ := found_few hts3
  have hfc : (foundM data c).1 = 0 ∨ (foundM data c).1 = 1 := by
    by_cases hz : badM data c
    · have : foundM data c = (1, ⟨[], 0, 0, 0⟩) := if_pos hz
      rw [this]; exact .inr rfl
    · have : foundM data c = (0, ⟨_, _, _, _⟩) := if_neg hz
      rw [this]; exact .inl rfl
  have hfl : ∀ {ts : List TxnE}, ts.length ≤ 2048 → (∀ t ∈ ts, t.pats.length ≤ 1023 ∧ ∀ p ∈ t.pats, p.d.data.length = 128) → (eT ts).length ≤ 2095104 := by
    intro ts h1 h2
    have : ∀ us : List TxnE, (∀ t ∈ us, t.pats.length ≤ 1023) → (eT us).length ≤ us.length * 1023 := fun us => by
      induction us with
      | nil => intro _; exact Nat.zero_le _
      | cons u r ih =>
        intro h
        have h3 := ih (fun t ht => h t (.tail _ ht))
        have h4 := h u (.head _)
        have e : eT (u :: r) = eP u.pats ++ eT r := by unfold eT; rw [List.flatMap_cons]
        rw [e, List.length_append, List.length_cons, Nat.add_mul, show (eP u.pats).length = u.pats.length by simp [eP]]
        omega
    have := this ts (fun t ht => (h2 t ht).1)
    omega
  have e1 := hfl f1 g1
  have e2 := hfl f2 g2
  refine VO.ent (Ent.trans (Ent.re (L := Row bk 50 (bkCells nilS nilS nilS nilS) :: TxnsO (o1, c1) ts1 :: PilT ts1 :: TxnsO (o2, c2) ts2 :: PilT ts2 :: TxnsO (o3, c3) ts3 :: PilT ts3 :: Row n6 61 [.slice o1 ts1.length c1, .int .u64 ((foundM data c).2.next : Int), .int .i64 ((foundM data c).2.head : Int), .int .i64 ((foundM data c).2.used : Int)] :: Row n8 61 [.slice o2 ts2.length c2, .int .u64 ((foundM data c).2.next : Int), .int .i64 ((foundM data c).2.head : Int), .int .i64 ((foundM data c).2.used : Int)] :: Row n11 61 [.slice o3 ts3.length c3, .int .u64 ((foundM data c).2.next : Int), .int .i64 ((foundM data c).2.head : Int), .int .i64 ((foundM data c).2.used : Int)] :: R)) BookQ.start) ?_
  refine VO.know (p := o1 = none → ts1.length = 0) (fun w hw => hw.tail.ownNone (.head _)) ?_
  intro hn1
  refine VO.know (p := ∀ t ∈ ts1, t.ok) (fun w hw => PilT.know hw.tail.tail) ?_
  intro hk1
  refine VO.know (p := o2 = none → ts2.length = 0) (fun w hw => hw.tail.tail.tail.ownNone (.head _)) ?_
  intro hn2
  refine VO.know (p := ∀ t ∈ ts2, t.ok) (fun w hw => PilT.know hw.tail.tail.tail.tail) ?_
  intro hk2
  refine VO.know (p := o3 = none → ts3.length = 0) (fun w hw => hw.tail.tail.tail.tail.tail.ownNone (.head _)) ?_
  intro hn3
  refine VO.know (p := ∀ t ∈ ts3, t.ok) (fun w hw => PilT.know hw.tail.tail.tail.tail.tail.tail) ?_
  intro hk3
  (refine w ?_; repeat ((first | refine VO.step rfl rfl ?_ | refine VD.end rfl rfl rfl ?_ | refine VD.mid rfl rfl rfl ?_); refine OpV.box rfl rfl rfl ?_; intro _; refine w ?_))
  ((first | refine VO.step rfl rfl ?_ | refine VD.end rfl rfl rfl ?_ | refine VD.mid rfl rfl rfl ?_); refine OpV.call rfl rfl (fun _ _ => by simp) (bkfound_ok bk ⟨[], [], [], []⟩ (o1, c1) ts1 _ _ _ rfl rfl rfl hn1 (by show 0 + (eT ts1).length ≤ _; omega) (by show 0 + ts1.length ≤ _; omega) (Nat.zero_le _)) Ent.refl rfl ?_)
  intro _ _
  (refine w ?_; repeat ((first | refine VO.step rfl rfl ?_ | refine VD.end rfl rfl rfl ?_ | refine VD.mid rfl rfl rfl ?_); refine OpV.box rfl rfl rfl ?_; intro _; refine w ?_))
  ((first | refine VO.step rfl rfl ?_ | refine VD.end rfl rfl rfl ?_ | refine VD.mid rfl rfl rfl ?_); refine OpV.call rfl rfl (fun _ _ => by simp) (bkfound_ok bk ⟨[] ++ eT ts1, [], [] ++ pT ts1, [] ++ [txnsN (o1, c1) ts1]⟩ (o2, c2) ts2 _ _ _ rfl rfl rfl hn2 (by simp only [List.nil_append]; omega) (by simp only [List.nil_append, pT, List.length_map]; omega) (by simp)) Ent.refl rfl ?_)
  intro _ _
  dsimp only [List.nil_append]
  generalize hB : (Bk.mk (eT ts1 ++ eT ts2) [] (pT ts1 ++ pT ts2) ([txnsN (o1, c1) ts1] ++ [txnsN (o2, c2) ts2])) = B
  have hel : ∀ {ts : List TxnE}, (∀ t ∈ ts, t.pats.length ≤ 1023 ∧ ∀ p ∈ t.pats, p.d.data.length = 128) → (∀ e ∈ eT ts, e.xs.length ≤ 1000000000) ∧ ∀ e ∈ pT ts, e.n ≤ 1000000000 := by
    intro ts h
    refine ⟨fun e he => ?_, fun e he => ?_⟩
    · obtain ⟨t, ht, h2⟩ := List.mem_flatMap.1 he
      obtain ⟨p, hp, rfl⟩ := List.mem_map.1 h2
      rw [eR_len, (h t ht).2 p hp]; decide
    · obtain ⟨t, ht, rfl⟩ := List.mem_map.1 he
      exact Nat.le_trans (h t ht).1 (by decide)
  have hBok : B.ok := by
    subst hB
    refine ⟨by simp only [List.length_append]; omega, by simp, by simp only [List.length_append, pT, List.length_map]; omega, by simp, fun e he => ?_, fun e he => (by cases he), fun e he => ?_, fun e he => ?_⟩
    · rcases List.mem_append.1 he with h | h
      · exact (hel g1).1 e h
      · exact (hel g2).1 e h
    · rcases List.mem_append.1 he with h | h
      · exact (hel g1).2 e h
      · exact (hel g2).2 e h
    · simp only [List.mem_append, List.mem_singleton] at he
      rcases he with h | h <;> subst h
      · show ts1.length ≤ _; omega
      · show ts2.length ≤ _; omega
  have hR1 : ∀ X : List SProp, BookQ bk B ∈ X → RdTxns W X o1 ts1 := fun X m => BookQ.txns (z := (o1, c1)) m (fun e he => by subst hB; exact List.mem_append_left _ he) (fun e he => by subst hB; exact List.mem_append_left _ he) (by subst hB; simp) hn1 hk1
  have hR2 : ∀ X : List SProp, BookQ bk B ∈ X → RdTxns W X o2 ts2 := fun X m => BookQ.txns (z := (o2, c2)) m (fun e he => by subst hB; exact List.mem_append_right _ he) (fun e he => by subst hB; exact List.mem_append_right _ he) (by subst hB; simp) hn2 hk2
  have hR3 : ∀ X : List SProp, TxnsO (o3, c3) ts3 ∈ X → PilT ts3 ∈ X → RdTxns W X o3 ts3 := fun X m1 m2 => RdTxns.own (x := (o3, c3)) hn3 hk3 m1 m2
  have hd1 : ∀ {ts : List TxnE}, (∀ t ∈ ts, t.pats.length ≤ 1023 ∧ ∀ p ∈ t.pats, p.d.data.length = 128) → ∀ t ∈ ts, t.pats.length ≤ 140737488351232 ∧ ∀ p ∈ t.pats, p.d.data.length ≤ maxLen := fun h t ht => ⟨Nat.le_trans (h t ht).1 (by decide), fun p hp => by rw [(h t ht).2 p hp]; decide⟩
  (refine w ?_; repeat ((first | refine VO.step rfl rfl ?_ | refine VD.end rfl rfl rfl ?_ | refine VD.mid rfl rfl rfl ?_); refine OpV.box rfl rfl rfl ?_; intro _; refine w ?_))
  ((first | refine VO.step rfl rfl ?_ | refine VD.end rfl rfl rfl ?_ | refine VD.mid rfl rfl rfl ?_); refine OpV.call rfl rfl (fun _ _ => by simp) (nknown_ok) Ent.refl rfl ?_)
  intro _ _
  have hcw := IntWalk.i64_in (foundM data c).1 (by omega)
  (refine w ?_; repeat ((first | refine VO.step rfl rfl ?_ | refine VD.end rfl rfl rfl ?_ | refine VD.mid rfl rfl rfl ?_); refine OpV.box rfl rfl rfl ?_; intro _; refine w ?_))
  (first | refine VO.gT rfl rfl rfl (by simp [hcw]) ?_ | refine VD.gT rfl rfl rfl (by simp [hcw]) ?_)
  (refine w ?_; repeat ((first | refine VO.step rfl rfl ?_ | refine VD.end rfl rfl rfl ?_ | refine VD.mid rfl rfl rfl ?_); refine OpV.box rfl rfl rfl ?_; intro _; refine w ?_))
  (first | refine VO.gT rfl rfl rfl (by simp [hcw]) ?_ | refine VD.gT rfl rfl rfl (by simp [hcw]) ?_)
  (refine w ?_; repeat ((first | refine VO.step rfl rfl ?_ | refine VD.end rfl rfl rfl ?_ | refine VD.mid rfl rfl rfl ?_); refine OpV.box rfl rfl rfl ?_; intro _; refine w ?_))
  ((first | refine VO.step rfl rfl ?_ | refine VD.end rfl rfl rfl ?_ | refine VD.mid rfl rfl rfl ?_); refine OpV.call rfl rfl (fun _ _ => by simp) (samefound_ok (foundM data c).2.next (foundM data c).2.head (foundM data c).2.used (hR1 _ (.head _)) (hR3 _ (.tail _ (.head _)) (.tail _ (.tail _ (.head _)))) (by omega) (hd1 g1) (hts1.trans hts3.symm)) Ent.refl rfl ?_)
  intro _ _
  (refine w ?_; repeat ((first | refine VO.step rfl rfl ?_ | refine VD.end rfl rfl rfl ?_ | refine VD.mid rfl rfl rfl ?_); refine OpV.box rfl rfl rfl ?_; intro _; refine w ?_))
  ((first | refine VO.step rfl rfl ?_ | refine VD.end rfl rfl rfl ?_ | refine VD.mid rfl rfl rfl ?_); refine OpV.call rfl rfl (fun _ _ => by simp) (samefound_ok (foundM data c).2.next (foundM data c).2.head (foundM data c).2.used (hR2 _ (.head _)) (hR3 _ (.tail _ (.head _)) (.tail _ (.tail _ (.head _)))) (by omega) (hd1 g2) (hts2.trans hts3.symm)) Ent.refl rfl ?_)
  intro _ _
  (refine w ?_; repeat ((first | refine VO.step rfl rfl ?_ | refine VD.end rfl rfl rfl ?_ | refine VD.mid rfl rfl rfl ?_); refine OpV.box rfl rfl rfl ?_; intro _; refine w ?_))
  ((first | refine VO.step rfl rfl ?_ | refine VD.end rfl rfl rfl ?_ | refine VD.mid rfl rfl rfl ?_); refine OpV.call rfl rfl (fun _ _ => by simp) (bkown_ok bk B hBok) Ent.refl rfl ?_)
  intro _ _
  (refine w ?_; repeat ((first | refine VO.step rfl rfl ?_ | refine VD.end rfl rfl rfl ?_ | refine VD.mid rfl rfl rfl ?_); refine OpV.box rfl rfl rfl ?_; intro _; refine w ?_))
  exact VE.done1 rfl rfl Ent.re
end Go.Proofs.Ytlojjlbngnaphaa

