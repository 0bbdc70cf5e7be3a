import Derived.Test.YtpmmkmcbimnigaaM7
/-! Text Qe. -/
/- The document's book of bytes, rows, patches, batches: Bytes, Rows, Patches, Txns, Found, Own. -/
set_option maxRecDepth 8000
set_option linter.unusedVariables false
set_option linter.unusedSimpArgs false
set_option linter.unusedSectionVars false
namespace Go.Proofs.Ytpmmkmcbimnigaa
open Go.RowKit Go.Sl
attribute [local irreducible] Sl.Own

section
variable {W w : World} {A B X : SProp} {L R : List SProp}
theorem gOpen (h : Holds W (A :: Sl.star (B :: L) :: R) w) : Holds W (A :: B :: (L ++ R)) w := by
  have h2 := (h.swap).join
  exact h2.perm (List.perm_middle (l₁ := B :: L))
theorem gShut (h : Holds W (A :: B :: (L ++ R)) w) : Holds W (A :: Sl.star (B :: L) :: R) w := by
  have h2 : Holds W ((B :: L) ++ (A :: R)) w := h.perm (List.perm_middle (l₁ := B :: L)).symm
  exact h2.nest.swap
end
theorem pile_pop {W w : World} {α : Type} {res : α → SProp} {a : α} {l : List α} {R : List SProp} (h : Holds W (pile res (a :: l) :: R) w) : Holds W (res a :: pile res l :: R) w := pile_out (i := 0) (by simp) h
abbrev nilS : Value := .slice none 0 0
abbrev bkCells (e f p t : Value) : List Value := [e, nilS, nilS, nilS, nilS, nilS, nilS, nilS, f, nilS, p, t]
abbrev gE (x : Option Addr × Nat) (E : List ListE) : SProp := Sl.star (Sl.Own 47 1 (.slice x.1 E.length x.2) E.length (E.map ListE.hdr) :: E.map ListE.res)
abbrev gF (x : Option Addr × Nat) (F : List ListN) : SProp := Sl.star (Sl.Own 33 1 (.slice x.1 F.length x.2) F.length (F.map ListN.hdr) :: F.map Rw.res)
abbrev gP (x : Option Addr × Nat) (P : List ListN) : SProp := Sl.star (Sl.Own 56 1 (.slice x.1 P.length x.2) P.length (P.map ListN.hdr) :: P.map Pt.res)
abbrev gT (x : Option Addr × Nat) (T : List ListN) : SProp := Sl.star (Sl.Own 168 1 (.slice x.1 T.length x.2) T.length (T.map ListN.hdr) :: T.map Tx.res)
abbrev sl4 (x : Option Addr × Nat) (n : Nat) : Value := .slice x.1 n x.2

theorem bkbytes_raw {W : World} {R : List SProp} (b : Nat) (f p t : Value) (x : Option Addr × Nat) (E : List ListE) (e : ListE) (hn : E.length ≤ 2000000000) :
    Does W Try.prog 14 [.pointer (some ⟨b, 0, none⟩), .slice e.ao e.xs.length e.cap] (Row b 46 (bkCells (sl4 x E.length) f p t) :: gE x E :: e.res :: R) (β := Option Addr × Nat) (fun _ => True) (fun _ => .tuple #[])
      (fun y => Row b 46 (bkCells (sl4 y (E ++ [e]).length) f p t) :: gE y (E ++ [e]) :: R) := by
  obtain ⟨lo, lc⟩ := x
  (refine Does.enter Try.func14 Try.ntmps14 rfl rfl ?_)
  refine VC.ent (fun w hw => gOpen hw) ?_
  (refine w ?_; repeat ((first | refine VO.step rfl rfl ?_ | refine VD.end rfl rfl rfl ?_ | refine VD.mid rfl rfl rfl ?_); refine OpV.box rfl rfl rfl ?_; intro _; refine w ?_))
  ((first | refine VO.step rfl rfl ?_ | refine VD.end rfl rfl rfl ?_ | refine VD.mid rfl rfl rfl ?_); refine OpV.buildSlice1 st_33 rfl rfl (by first | (simp; done) | simp [Value.oneCell']) (by decide) rfl ?_; intro nb)
  ((first | refine VO.step rfl rfl ?_ | refine VD.end rfl rfl rfl ?_ | refine VD.mid rfl rfl rfl ?_); refine OpV.appendRow st_33 rfl rfl (by (repeat first | exact .head | apply Hole.tail)) (by (focus repeat first | exact .head _ | apply List.Mem.tail)) rfl (by first | (simp; done) | simp [Value.oneCell']) ?_ ?_ rfl ?_)
  · simp only [maxLen]; omega
  · omega
  intro lo' lc'
  (refine w ?_; repeat ((first | refine VO.step rfl rfl ?_ | refine VD.end rfl rfl rfl ?_ | refine VD.mid rfl rfl rfl ?_); refine OpV.box rfl rfl rfl ?_; intro _; refine w ?_))
  refine VE.doneN (lo', lc') rfl trivial rfl ?_
  intro w hw
  refine gShut (L := (E ++ [e]).map ListE.res) ?_
  rw [List.length_append, List.length_singleton, List.map_append, List.map_append, List.append_assoc]
  exact hw.tail
def eR (e : RowE) : ListE := ⟨e.ao, e.cap, bytes e.data⟩
theorem eR_hdr (e : RowE) : Value.slice (eR e).ao (eR e).xs.length (eR e).cap = e.hdr := by unfold eR; dsimp only; rw [bytes_length]
theorem eR_res (e : RowE) : (eR e).res = e.res := by unfold ListE.res RowE.res eR; dsimp only; rw [bytes_length]
theorem eR_len (e : RowE) : (eR e).xs.length = e.data.length := by unfold eR; rw [bytes_length]
def rowsN (x : Option Addr × Nat) (l : List RowE) : ListN := ⟨x.1, x.2, l.length, l.map RowE.hdr⟩
def patsN (x : Option Addr × Nat) (l : List PatE) : ListN := ⟨x.1, x.2, l.length, patCells l⟩
def eP (l : List PatE) : List ListE := l.map fun p => eR p.d
set_option maxHeartbeats 2000000 in
theorem bkpats_raw {W : World} {R : List SProp} (b : Nat) (f t : Value) (x y : Option Addr × Nat) (E : List ListE) (P : List ListN) (z : Option Addr × Nat) (l : List PatE) (hz : z.1 = none → l.length = 0) (hn : E.length + l.length ≤ 1000000000) (hf : P.length ≤ 1000000000) :
    Does W Try.prog 18 [.pointer (some ⟨b, 0, none⟩), .slice z.1 l.length z.2] (Row b 46 (bkCells (sl4 x E.length) f (sl4 y P.length) t) :: gE x E :: gP y P :: PatsO z l :: PilP l :: R) (β := (Option Addr × Nat) × Option Addr × Nat) (fun _ => True) (fun _ => .tuple #[])
      (fun g => Row b 46 (bkCells (sl4 g.1 (E ++ eP l).length) f (sl4 g.2 (P ++ [patsN z l]).length) t) :: gE g.1 (E ++ eP l) :: gP g.2 (P ++ [patsN z l]) :: R) := by
  obtain ⟨lo, lc⟩ := y
  (refine Does.enter Try.func18 Try.ntmps18 rfl rfl ?_)
  refine VC.ent (Ent.trans (Ent.re (L := Row b 46 (bkCells (sl4 x E.length) f (sl4 (lo, lc) P.length) t) :: gP (lo, lc) P :: gE x E :: PatsO z l :: PilP l :: R)) (fun w hw => gOpen hw)) ?_
  (refine w ?_; repeat ((first | refine VO.step rfl rfl ?_ | refine VD.end rfl rfl rfl ?_ | refine VD.mid rfl rfl rfl ?_); refine OpV.box rfl rfl rfl ?_; intro _; refine w ?_))
  ((first | refine VO.step rfl rfl ?_ | refine VD.end rfl rfl rfl ?_ | refine VD.mid rfl rfl rfl ?_); refine OpV.buildSlice1 st_43 rfl rfl (by first | (simp; done) | simp [Value.oneCell']) (by decide) rfl ?_; intro nb)
  ((first | refine VO.step rfl rfl ?_ | refine VD.end rfl rfl rfl ?_ | refine VD.mid rfl rfl rfl ?_); refine OpV.appendRow st_43 rfl rfl (by (repeat first | exact .head | apply Hole.tail)) (by (focus repeat first | exact .head _ | apply List.Mem.tail)) rfl (by first | (simp; done) | simp [Value.oneCell']) ?_ ?_ rfl ?_)
  · simp only [maxLen]; omega
  · omega
  intro lo' lc'
  (refine w ?_; repeat ((first | refine VO.step rfl rfl ?_ | refine VD.end rfl rfl rfl ?_ | refine VD.mid rfl rfl rfl ?_); refine OpV.box rfl rfl rfl ?_; intro _; refine w ?_))
  have hF : (P ++ [patsN z l]).length = P.length + 1 := by rw [List.length_append]; rfl
  have hFm : (P ++ [patsN z l]).map ListN.hdr = P.map ListN.hdr ++ [.slice z.1 l.length z.2] := by rw [List.map_append]; rfl
  have hML : ∀ m : List PatE, (eP m).length = m.length := fun m => by simp [eP]
  generalize hFF : P ++ [patsN z l] = FF at *
  refine VC.loop (α := Nat × Option Addr × Nat) (fun g => g.1 ≤ l.length) (fun g => Row b 46 (bkCells (sl4 g.2 (E ++ eP (l.take g.1)).length) f (sl4 (lo', lc') FF.length) t) :: gE g.2 (E ++ eP (l.take g.1)) :: pile PatE.res (l.drop g.1) :: PatsO z l :: Sl.star (Sl.Own 56 1 (.slice lo' FF.length lc') FF.length (FF.map ListN.hdr) :: P.map Pt.res) :: R)
    (fun g => [(0, .pointer (some ⟨b, 0, none⟩)), (1, .slice z.1 l.length z.2), (4, .int .i64 g.1)]) (fun g => l.length - g.1) rfl (0, x) (Nat.zero_le _) ?_ ⟨rfl, rfl, rfl, trivial⟩ ?_
  · rw [hF, hFm]
    simp only [List.take_zero, List.drop_zero, show eP ([] : List PatE) = [] from rfl, List.append_nil]
    exact Ent.trans (fun w hw => gShut (L := P.map Pt.res) hw.tail) Ent.re
  rintro ⟨i, xe⟩ hi
  dsimp only at hi ⊢
  (refine w ?_; repeat ((first | refine VO.step rfl rfl ?_ | refine VD.end rfl rfl rfl ?_ | refine VD.mid rfl rfl rfl ?_); refine OpV.box rfl rfl rfl ?_; intro _; refine w ?_))
  (refine VC.cond rfl rfl ?_ ?_ <;> intro hc)
  · have hlt : i < l.length := by have := of_decide_eq_true hc; omega
    obtain ⟨zo, zc⟩ := z
    obtain ⟨za, rfl⟩ : ∃ za, zo = some za := by cases zo with | none => have := hz rfl; omega | some za => exact ⟨za, rfl⟩
    have hd : l.drop i = l[i] :: l.drop (i + 1) := List.drop_eq_getElem_cons hlt
    have hlen : (E ++ eP (l.take i)).length ≤ 2000000000 := by rw [List.length_append, hML, List.length_take]; omega
    rw [hd]
    (refine w ?_; repeat ((first | refine VO.step rfl rfl ?_ | refine VD.end rfl rfl rfl ?_ | refine VD.mid rfl rfl rfl ?_); refine OpV.box rfl rfl rfl ?_; intro _; refine w ?_))
    (first | refine VO.pure rfl rfl (PureAt.ldRc tab_ok rfl rfl (Rds.own (pats_one l) (by (focus repeat first | exact .head _ | apply List.Mem.tail)) (pats_len l) (fun h => by cases h)) (show (patCells l)[i * 3 + 2]? = some l[i].d.hdr by rw [pat_get l i 2 hlt (by decide)]; rfl)) rfl ?_ | refine VD.take rfl rfl rfl (PureAt.ldRc tab_ok rfl rfl (Rds.own (pats_one l) (by (focus repeat first | exact .head _ | apply List.Mem.tail)) (pats_len l) (fun h => by cases h)) (show (patCells l)[i * 3 + 2]? = some l[i].d.hdr by rw [pat_get l i 2 hlt (by decide)]; rfl)) rfl ?_ | refine VQ.pure rfl rfl (PureAt.ldRc tab_ok rfl rfl (Rds.own (pats_one l) (by (focus repeat first | exact .head _ | apply List.Mem.tail)) (pats_len l) (fun h => by cases h)) (show (patCells l)[i * 3 + 2]? = some l[i].d.hdr by rw [pat_get l i 2 hlt (by decide)]; rfl)) rfl ?_ | refine VD.end rfl rfl rfl (OpV.pure (PureAt.ldRc tab_ok rfl rfl (Rds.own (pats_one l) (by (focus repeat first | exact .head _ | apply List.Mem.tail)) (pats_len l) (fun h => by cases h)) (show (patCells l)[i * 3 + 2]? = some l[i].d.hdr by rw [pat_get l i 2 hlt (by decide)]; rfl)) rfl ?_))
    (refine w ?_; repeat ((first | refine VO.step rfl rfl ?_ | refine VD.end rfl rfl rfl ?_ | refine VD.mid rfl rfl rfl ?_); refine OpV.box rfl rfl rfl ?_; intro _; refine w ?_))
    have hC := bkbytes_raw (W := W) (R := pile PatE.res (l.drop (i + 1)) :: PatsO (some za, zc) l :: Sl.star (Sl.Own 56 1 (.slice lo' FF.length lc') FF.length (FF.map ListN.hdr) :: P.map Pt.res) :: R) b f (sl4 (lo', lc') FF.length) t xe (E ++ eP (l.take i)) (eR l[i].d) hlen
    rw [eR_hdr, eR_res] at hC
    refine VO.ent (Ent.trans (Ent.re (L := pile PatE.res (l[i] :: l.drop (i + 1)) :: Row b 46 (bkCells (sl4 xe (E ++ eP (l.take i)).length) f (sl4 (lo', lc') FF.length) t) :: gE xe (E ++ eP (l.take i)) :: PatsO (some za, zc) l :: Sl.star (Sl.Own 56 1 (.slice lo' FF.length lc') FF.length (FF.map ListN.hdr) :: P.map Pt.res) :: R)) (fun w hw => pile_pop hw)) ?_
    refine VO.ent (Ent.re (L := Row b 46 (bkCells (sl4 xe (E ++ eP (l.take i)).length) f (sl4 (lo', lc') FF.length) t) :: gE xe (E ++ eP (l.take i)) :: PatE.res l[i] :: pile PatE.res (l.drop (i + 1)) :: PatsO (some za, zc) l :: Sl.star (Sl.Own 56 1 (.slice lo' FF.length lc') FF.length (FF.map ListN.hdr) :: P.map Pt.res) :: R)) ?_
    ((first | refine VO.step rfl rfl ?_ | refine VD.end rfl rfl rfl ?_ | refine VD.mid rfl rfl rfl ?_); refine OpV.call rfl rfl (fun _ _ => by simp) (hC) Ent.refl rfl ?_)
    intro xe' _
    (refine w ?_; repeat ((first | refine VO.step rfl rfl ?_ | refine VD.end rfl rfl rfl ?_ | refine VD.mid rfl rfl rfl ?_); refine OpV.box rfl rfl rfl ?_; intro _; refine w ?_))
    refine VE.round (i + 1, xe') hlt (by simp only; omega) ⟨rfl, rfl, asV rfl (by congr 1), trivial⟩ ?_
    dsimp only
    rw [show E ++ eP (l.take (i + 1)) = (E ++ eP (l.take i)) ++ [eR l[i].d] by rw [List.take_succ_eq_append_getElem hlt, eP, eP, List.map_append, List.append_assoc]; rfl]
    exact Ent.refl
  · have hge : i = l.length := by have := of_decide_eq_false hc; omega
    subst hge
    (refine w ?_; repeat ((first | refine VO.step rfl rfl ?_ | refine VD.end rfl rfl rfl ?_ | refine VD.mid rfl rfl rfl ?_); refine OpV.box rfl rfl rfl ?_; intro _; refine w ?_))
    refine VE.doneN (xe, lo', lc') rfl trivial rfl ?_
    dsimp only
    rw [List.take_length]
    refine Ent.trans (Ent.re (L := Row b 46 (bkCells (sl4 xe (E ++ eP l).length) f (sl4 (lo', lc') FF.length) t) :: Sl.star (Sl.Own 56 1 (.slice lo' FF.length lc') FF.length (FF.map ListN.hdr) :: P.map Pt.res) :: Pt.res (patsN z l) :: gE xe (E ++ eP l) :: R)) (fun w hw => ?_)
    have h2 := gOpen hw
    have h3 := gShut (L := FF.map Pt.res) (R := gE xe (E ++ eP l) :: R) (by rw [show FF.map Pt.res = P.map Pt.res ++ [Pt.res (patsN z l)] by rw [← hFF, List.map_append]; rfl, List.append_assoc]; exact h2)
    exact h3.perm ((List.Perm.swap _ _ _).cons _)
/-! ### The book, shut -/
structure Bk where
  E : List ListE
  F : List ListN
  P : List ListN
  T : List ListN
structure BkX where
  e : Option Addr × Nat
  f : Option Addr × Nat
  p : Option Addr × Nat
  t : Option Addr × Nat
abbrev bkO (b : Nat) (x : BkX) (B : Bk) (R : List SProp) : List SProp :=
  Row b 46 (bkCells (sl4 x.e B.E.length) (sl4 x.f B.F.length) (sl4 x.p B.P.length) (sl4 x.t B.T.length)) :: gE x.e B.E :: gF x.f B.F :: gP x.p B.P :: gT x.t B.T :: R
def BookQ (b : Nat) (B : Bk) : SProp := ex fun x : BkX => Sl.star (bkO b x B [])
theorem BookQ.open {W w : World} {b : Nat} {B : Bk} {R : List SProp} (h : Holds W (BookQ b B :: R) w) : ∃ x, Holds W (bkO b x B R) w := by
  obtain ⟨x, h⟩ := h.exOpen
  exact ⟨x, h.join⟩
theorem BookQ.shut {W : World} {b : Nat} {B : Bk} {R : List SProp} (x : BkX) : Ent W (bkO b x B R) (BookQ b B :: R) := fun w hw => Holds.exShut x (Holds.nest (L := bkO b x B []) hw)
theorem BookQ.start {W : World} {b : Nat} {R : List SProp} : Ent W (Row b 46 (bkCells nilS nilS nilS nilS) :: R) (BookQ b ⟨[], [], [], []⟩ :: R) := by
  intro w hw
  refine BookQ.shut ⟨(none, 0), (none, 0), (none, 0), (none, 0)⟩ w ?_
  have h1 := Holds.nest (L := [Sl.Own 168 1 (.slice none 0 0) 0 []]) (Holds.ownNil 168 1 hw)
  have h2 := Holds.nest (L := [Sl.Own 56 1 (.slice none 0 0) 0 []]) (Holds.ownNil 56 1 h1)
  have h3 := Holds.nest (L := [Sl.Own 33 1 (.slice none 0 0) 0 []]) (Holds.ownNil 33 1 h2)
  have h4 := Holds.nest (L := [Sl.Own 47 1 (.slice none 0 0) 0 []]) (Holds.ownNil 47 1 h3)
  have hE : Ent W (gE (none, 0) [] :: gF (none, 0) [] :: gP (none, 0) [] :: gT (none, 0) [] :: Row b 46 (bkCells nilS nilS nilS nilS) :: R) (bkO b ⟨(none, 0), (none, 0), (none, 0), (none, 0)⟩ ⟨[], [], [], []⟩ R) := Ent.re
  exact hE w h4
theorem bkbytes_ok {W : World} {R : List SProp} (b : Nat) (B : Bk) (e : ListE) (hn : B.E.length ≤ 2000000000) :
    Does1 W Try.prog 14 [.pointer (some ⟨b, 0, none⟩), .slice e.ao e.xs.length e.cap] (BookQ b B :: e.res :: R) (.tuple #[]) (BookQ b { B with E := B.E ++ [e] } :: R) := by
  refine DoesO (fun w hw => BookQ.open hw) fun x => ?_
  refine DoesE (H' := Row b 46 (bkCells (sl4 x.e B.E.length) (sl4 x.f B.F.length) (sl4 x.p B.P.length) (sl4 x.t B.T.length)) :: gE x.e B.E :: e.res :: gF x.f B.F :: gP x.p B.P :: gT x.t B.T :: R) Ent.re ?_
  exact Does.mono (bkbytes_raw (R := gF x.f B.F :: gP x.p B.P :: gT x.t B.T :: R) b (sl4 x.f B.F.length) (sl4 x.p B.P.length) (sl4 x.t B.T.length) x.e B.E e hn) (fun _ => ()) (fun _ _ => trivial) (fun _ _ => rfl) (fun y _ => BookQ.shut (B := { B with E := B.E ++ [e] }) ⟨y, x.f, x.p, x.t⟩)
theorem bkpats_ok {W : World} {R : List SProp} (b : Nat) (B : Bk) (z : Option Addr × Nat) (l : List PatE) (hz : z.1 = none → l.length = 0) (hn : B.E.length + l.length ≤ 1000000000) (hf : B.P.length ≤ 1000000000) :
    Does1 W Try.prog 18 [.pointer (some ⟨b, 0, none⟩), .slice z.1 l.length z.2] (BookQ b B :: PatsO z l :: PilP l :: R) (.tuple #[]) (BookQ b { B with E := B.E ++ eP l, P := B.P ++ [patsN z l] } :: R) := by
  refine DoesO (fun w hw => BookQ.open hw) fun x => ?_
  refine DoesE (H' := Row b 46 (bkCells (sl4 x.e B.E.length) (sl4 x.f B.F.length) (sl4 x.p B.P.length) (sl4 x.t B.T.length)) :: gE x.e B.E :: gP x.p B.P :: PatsO z l :: PilP l :: gF x.f B.F :: gT x.t B.T :: R) Ent.re ?_
  exact Does.mono (bkpats_raw (R := gF x.f B.F :: gT x.t B.T :: R) b (sl4 x.f B.F.length) (sl4 x.t B.T.length) x.e x.p B.E B.P z l hz hn hf) (fun _ => ()) (fun _ _ => trivial) (fun _ _ => rfl) (fun y _ => Ent.trans (Ent.re (L := bkO b ⟨y.1, x.f, y.2, x.t⟩ { B with E := B.E ++ eP l, P := B.P ++ [patsN z l] } R)) (BookQ.shut ⟨y.1, x.f, y.2, x.t⟩))
structure Bk.ok (B : Bk) : Prop where
  E : B.E.length ≤ 1000000000
  F : B.F.length ≤ 1000000000
  P : B.P.length ≤ 1000000000
  T : B.T.length ≤ 1000000000
  e : ∀ e ∈ B.E, e.xs.length ≤ 1000000000
  f : ∀ e ∈ B.F, e.n ≤ 1000000000
  p : ∀ e ∈ B.P, e.n ≤ 1000000000
  t : ∀ e ∈ B.T, e.n ≤ 1000000000
set_option maxHeartbeats 4000000 in
theorem bkown_ok {W : World} {R : List SProp} (b : Nat) (B : Bk) (h : B.ok) :
    Does1 W Try.prog 26 [.pointer (some ⟨b, 0, none⟩)] (BookQ b B :: R) (.bool true) R := by
  (refine Does.enter Try.func26 Try.ntmps26 rfl rfl ?_)
  refine VC.obtain (fun w => BookQ.open) ?_
  rintro ⟨xe, xf, xp, xt⟩
  refine VC.ent (fun w hw => gOpen hw) ?_
  (refine w ?_; repeat ((first | refine VO.step rfl rfl ?_ | refine VD.end rfl rfl rfl ?_ | refine VD.mid rfl rfl rfl ?_); refine OpV.box rfl rfl rfl ?_; intro _; refine w ?_))
  (first | refine VO.step rfl rfl ?_ | refine VD.end rfl rfl rfl ?_ | refine VD.mid rfl rfl rfl ?_)
  refine OpV.call rfl rfl (fun _ _ => by simp) (ownbytes_ok (R := Row b 46 (bkCells (sl4 xe B.E.length) (sl4 xf B.F.length) (sl4 xp B.P.length) (sl4 xt B.T.length)) :: gF xf B.F :: gP xp B.P :: gT xt B.T :: R) h.E h.e) (fun w hw => hw.perm ?_) rfl ?_
  · exact (List.Perm.swap _ _ _).trans ((List.perm_middle (l₁ := B.E.map ListE.res)).symm.cons _)
  intro _ _
  (refine w ?_; repeat ((first | refine VO.step rfl rfl ?_ | refine VD.end rfl rfl rfl ?_ | refine VD.mid rfl rfl rfl ?_); refine OpV.box rfl rfl rfl ?_; intro _; refine w ?_))
  ((first | refine VO.step rfl rfl ?_ | refine VD.end rfl rfl rfl ?_ | refine VD.mid rfl rfl rfl ?_); refine OpV.call rfl rfl (fun _ _ => by simp) (ownTexts_nil) Ent.refl rfl ?_; intro _ _)
  (refine w ?_; repeat ((first | refine VO.step rfl rfl ?_ | refine VD.end rfl rfl rfl ?_ | refine VD.mid rfl rfl rfl ?_); refine OpV.box rfl rfl rfl ?_; intro _; refine w ?_))
  ((first | refine VO.step rfl rfl ?_ | refine VD.end rfl rfl rfl ?_ | refine VD.mid rfl rfl rfl ?_); refine OpV.call rfl rfl (fun _ _ => by simp) (ownInts_nil) Ent.refl rfl ?_; intro _ _)
  (refine w ?_; repeat ((first | refine VO.step rfl rfl ?_ | refine VD.end rfl rfl rfl ?_ | refine VD.mid rfl rfl rfl ?_); refine OpV.box rfl rfl rfl ?_; intro _; refine w ?_))
  ((first | refine VO.step rfl rfl ?_ | refine VD.end rfl rfl rfl ?_ | refine VD.mid rfl rfl rfl ?_); refine OpV.call rfl rfl (fun _ _ => by simp) (ownNumbers_nil) Ent.refl rfl ?_; intro _ _)
  (refine w ?_; repeat ((first | refine VO.step rfl rfl ?_ | refine VD.end rfl rfl rfl ?_ | refine VD.mid rfl rfl rfl ?_); refine OpV.box rfl rfl rfl ?_; intro _; refine w ?_))
  ((first | refine VO.step rfl rfl ?_ | refine VD.end rfl rfl rfl ?_ | refine VD.mid rfl rfl rfl ?_); refine OpV.call rfl rfl (fun _ _ => by simp) (ownErrs_nil) Ent.refl rfl ?_; intro _ _)
  (refine w ?_; repeat ((first | refine VO.step rfl rfl ?_ | refine VD.end rfl rfl rfl ?_ | refine VD.mid rfl rfl rfl ?_); refine OpV.box rfl rfl rfl ?_; intro _; refine w ?_))
  ((first | refine VO.step rfl rfl ?_ | refine VD.end rfl rfl rfl ?_ | refine VD.mid rfl rfl rfl ?_); refine OpV.call rfl rfl (fun _ _ => by simp) (ownSpans_nil) Ent.refl rfl ?_; intro _ _)
  (refine w ?_; repeat ((first | refine VO.step rfl rfl ?_ | refine VD.end rfl rfl rfl ?_ | refine VD.mid rfl rfl rfl ?_); refine OpV.box rfl rfl rfl ?_; intro _; refine w ?_))
  ((first | refine VO.step rfl rfl ?_ | refine VD.end rfl rfl rfl ?_ | refine VD.mid rfl rfl rfl ?_); refine OpV.call rfl rfl (fun _ _ => by simp) (ownStates_nil) Ent.refl rfl ?_; intro _ _)
  (refine w ?_; repeat ((first | refine VO.step rfl rfl ?_ | refine VD.end rfl rfl rfl ?_ | refine VD.mid rfl rfl rfl ?_); refine OpV.box rfl rfl rfl ?_; intro _; refine w ?_))
  ((first | refine VO.step rfl rfl ?_ | refine VD.end rfl rfl rfl ?_ | refine VD.mid rfl rfl rfl ?_); refine OpV.call rfl rfl (fun _ _ => by simp) (ownBools_nil) Ent.refl rfl ?_; intro _ _)
  (refine w ?_; repeat ((first | refine VO.step rfl rfl ?_ | refine VD.end rfl rfl rfl ?_ | refine VD.mid rfl rfl rfl ?_); refine OpV.box rfl rfl rfl ?_; intro _; refine w ?_))
  refine VO.ent (fun w hw => gOpen hw) ?_
  (first | refine VO.step rfl rfl ?_ | refine VD.end rfl rfl rfl ?_ | refine VD.mid rfl rfl rfl ?_)
  refine OpV.call rfl rfl (fun _ _ => by simp) (Rw.own_ok (R := Row b 46 (bkCells (sl4 xe B.E.length) (sl4 xf B.F.length) (sl4 xp B.P.length) (sl4 xt B.T.length)) :: gP xp B.P :: gT xt B.T :: R) h.F h.f) (fun w hw => hw.perm ?_) rfl ?_
  · exact (List.Perm.swap _ _ _).trans ((List.perm_middle (l₁ := B.F.map Rw.res)).symm.cons _)
  intro _ _
  (refine w ?_; repeat ((first | refine VO.step rfl rfl ?_ | refine VD.end rfl rfl rfl ?_ | refine VD.mid rfl rfl rfl ?_); refine OpV.box rfl rfl rfl ?_; intro _; refine w ?_))
  ((first | refine VO.step rfl rfl ?_ | refine VD.end rfl rfl rfl ?_ | refine VD.mid rfl rfl rfl ?_); refine OpV.call rfl rfl (fun _ _ => by simp) (ownPuts_nil) Ent.refl rfl ?_; intro _ _)
  (refine w ?_; repeat ((first | refine VO.step rfl rfl ?_ | refine VD.end rfl rfl rfl ?_ | refine VD.mid rfl rfl rfl ?_); refine OpV.box rfl rfl rfl ?_; intro _; refine w ?_))
  refine VO.ent (fun w hw => gOpen hw) ?_
  (first | refine VO.step rfl rfl ?_ | refine VD.end rfl rfl rfl ?_ | refine VD.mid rfl rfl rfl ?_)
  refine OpV.call rfl rfl (fun _ _ => by simp) (Pt.own_ok (R := Row b 46 (bkCells (sl4 xe B.E.length) (sl4 xf B.F.length) (sl4 xp B.P.length) (sl4 xt B.T.length)) :: gT xt B.T :: R) h.P h.p) (fun w hw => hw.perm ?_) rfl ?_
  · exact (List.Perm.swap _ _ _).trans ((List.perm_middle (l₁ := B.P.map Pt.res)).symm.cons _)
  intro _ _
  (refine w ?_; repeat ((first | refine VO.step rfl rfl ?_ | refine VD.end rfl rfl rfl ?_ | refine VD.mid rfl rfl rfl ?_); refine OpV.box rfl rfl rfl ?_; intro _; refine w ?_))
  refine VO.ent (fun w hw => gOpen hw) ?_
  (first | refine VO.step rfl rfl ?_ | refine VD.end rfl rfl rfl ?_ | refine VD.mid rfl rfl rfl ?_)
  refine OpV.call rfl rfl (fun _ _ => by simp) (Tx.own_ok (R := Row b 46 (bkCells (sl4 xe B.E.length) (sl4 xf B.F.length) (sl4 xp B.P.length) (sl4 xt B.T.length)) :: R) h.T h.t) (fun w hw => hw.perm ?_) rfl ?_
  · exact (List.Perm.swap _ _ _).trans ((List.perm_middle (l₁ := B.T.map Tx.res)).symm.cons _)
  intro _ _
  (refine w ?_; repeat ((first | refine VO.step rfl rfl ?_ | refine VD.end rfl rfl rfl ?_ | refine VD.mid rfl rfl rfl ?_); refine OpV.box rfl rfl rfl ?_; intro _; refine w ?_))
  (refine VE.done1 rfl ?_ ?_)
  · rfl
  · exact Ent.drop Ent.refl
/-! ### What lies in the book can be read -/
theorem Rds.exq {W : World} {H : List SProp} {α : Type} {P : α → SProp} {sz k : Nat} {ao : Option Addr} {xs : List Value} (m : ex P ∈ H) (x0 : α) (h : ∀ x R, Rds W (P x :: R) sz ao k xs) : Rds W H sz ao k xs := by
  have h0 := h x0 []
  refine ⟨h0.len, h0.one, h0.nil, fun w hw => ?_⟩
  obtain ⟨R, p⟩ := mem_perm m
  obtain ⟨x, hx⟩ := (hw.perm p).exOpen
  exact (h x R).cell w hx
theorem BookQ.part {W : World} {H : List SProp} {b : Nat} {B : Bk} {X : SProp} {sz k : Nat} {ao : Option Addr} {xs : List Value} (m : BookQ b B ∈ H) (hX : ∀ x : BkX, ∃ L, X ∈ L ∧ (Sl.star L = gE x.e B.E ∨ Sl.star L = gF x.f B.F ∨ Sl.star L = gP x.p B.P ∨ Sl.star L = gT x.t B.T)) (h : ∀ R, X ∈ R → Rds W R sz ao k xs) : Rds W H sz ao k xs := by
  refine Rds.exq (P := fun x : BkX => Sl.star (bkO b x B [])) m ⟨(none, 0), (none, 0), (none, 0), (none, 0)⟩ fun x R => ?_
  refine Rds.star (L := bkO b x B []) (.head _) fun R => ?_
  obtain ⟨L, hL, hs⟩ := hX x
  refine Rds.star (L := L) ?_ fun R => h _ (List.mem_append_left _ hL)
  rcases hs with hs | hs | hs | hs <;> rw [hs]
  · exact .tail _ (.head _)
  · exact .tail _ (.tail _ (.head _))
  · exact .tail _ (.tail _ (.tail _ (.head _)))
  · exact .tail _ (.tail _ (.tail _ (.tail _ (.head _))))
theorem BookQ.row {W : World} {H : List SProp} {b : Nat} {B : Bk} {e : RowE} (m : BookQ b B ∈ H) (he : eR e ∈ B.E) (hok : e.ok) : Rds W H 1 e.ao e.data.length (bytes e.data) :=
  BookQ.part (X := e.res) m (fun x => ⟨_, .tail _ (by rw [← eR_res]; exact List.mem_map_of_mem he), .inl rfl⟩) (fun R hR => RowE.rds hok hR)
theorem BookQ.rows {W : World} {H : List SProp} {b : Nat} {B : Bk} {z : Option Addr × Nat} {l : List RowE} (m : BookQ b B ∈ H) (hE : ∀ e ∈ l, eR e ∈ B.E) (hF : rowsN z l ∈ B.F) (hz : z.1 = none → l.length = 0) (hok : ∀ e ∈ l, e.ok) : RdRows W H z.1 l :=
  ⟨BookQ.part (X := RowsO z l) m (fun x => ⟨_, .tail _ (List.mem_map.2 ⟨_, hF, rfl⟩), .inr (.inl rfl)⟩) (fun R hR => Rds.own (rowhdr_one l) hR (by simp) hz), fun e he => BookQ.row m (hE e he) (hok e he), hok⟩
theorem BookQ.pats {W : World} {H : List SProp} {b : Nat} {B : Bk} {z : Option Addr × Nat} {l : List PatE} (m : BookQ b B ∈ H) (hE : ∀ e ∈ eP l, e ∈ B.E) (hP : patsN z l ∈ B.P) (hz : z.1 = none → l.length = 0) (hok : ∀ p ∈ l, p.d.ok) : RdPats W H z.1 l :=
  ⟨BookQ.part (X := PatsO z l) m (fun x => ⟨_, .tail _ (List.mem_map.2 ⟨_, hP, rfl⟩), .inr (.inr (.inl rfl))⟩) (fun R hR => Rds.own (pats_one l) hR (pats_len l) hz), fun p hp => BookQ.row m (hE _ (List.mem_map.2 ⟨p, hp, rfl⟩)) (hok p hp), hok⟩
end Go.Proofs.Ytpmmkmcbimnigaa

/-! Text Yt. -/
/- The law LiftDoes: what it is handed; the program's refusals; what is lent of patches that lie in memory of one's own. -/
set_option maxRecDepth 8000
set_option linter.unusedVariables false
set_option linter.unusedSimpArgs false
set_option linter.unusedSectionVars false
namespace Go.Sl
open Go Go.RowKit
section
variable {W w : World} {P : Program} {R H : List SProp}
theorem ent_app : ∀ A : List SProp, Ent W (A ++ R) R
  | [] => Ent.refl
  | a :: A => Ent.trans (Ent.drop Ent.refl) (ent_app A)
theorem frag_sub {w' : World} (h : Below W.heap.size W w) (h' : Below w.heap.size w w') : Frag.sub (frag W w) (frag W w') ∧ Frag.sub (frag w w') (frag W w') ∧ Frag.disj (frag w w') (frag W w) := by
  refine ⟨fun k o hk => ?_, fun k o hk => ?_, fun k => ?_⟩
  · unfold frag at hk ⊢
    split at hk
    · cases hk
    · rename_i h1
      rw [if_neg h1, h'.block k ?_]
      · exact hk
      · exact (Array.getElem?_eq_some_iff.1 hk).1
  · unfold frag at hk ⊢
    split at hk
    · cases hk
    · rename_i h1
      have := h.size
      rw [if_neg (by omega)]; exact hk
  · unfold frag
    by_cases h1 : k < w.heap.size
    · left; rw [if_pos h1]
    · right
      split
      · rfl
      · exact Array.getElem?_eq_none (by omega)
/-- What a call does from the memory as it is: all that is one's own ahead of it stays. -/
theorem Holds.onto {w' : World} {L : List SProp} (h : Holds W R w) (h' : Holds w L w') : Holds W (L ++ R) w' := by
  obtain ⟨s1, s2, s3⟩ := frag_sub h.below h'.below
  exact ⟨h.below.trans (h'.below.mono h.below.size), star.join ⟨_, _, s2, s1, s3, h'.star, h.star⟩⟩
theorem Does.frame {g : FuncId} {args : List Value} {β : Type} {A : β → Prop} {r : β → Value} {G : β → List SProp} (h : ∀ w, Holds W R w → Does w P g args [] A r G) : Does W P g args R A r (fun x => G x ++ R) := by
  unfold Does
  intro w hw
  have h1 := h w hw
  unfold Does at h1
  refine Calls.mono (h1 w (Holds.start w)) ?_
  rintro e w' ⟨x, hA, rfl, hG⟩
  exact ⟨x, hA, rfl, hw.onto hG⟩
theorem Rds.base {sz n : Nat} {ao : Option Addr} {xs : List Value} (r : Rds W H sz ao n xs) (hw : Holds W H w) : RdsA w sz ao n xs :=
  fun _ => ⟨r.len, r.one, r.nil, fun _ hw' a ha j u hj => hw'.ro (r.cell w hw a ha j u hj)⟩
end
end Go.Sl
namespace Go.Proofs.Ytpmmkmcbimnigaa
open Go.RowKit Go.Sl
attribute [local irreducible] Sl.Own

theorem RdPats.base {W w : World} {H : List SProp} {ao : Option Addr} {l : List PatE} (h : RdPats W H ao l) (hw : Holds W H w) (R : List SProp) : RdPats w R ao l := ⟨Rds.base h.rds hw R, fun p hp => Rds.base (h.each p hp) hw R, h.ok⟩
theorem lentpatsR_ok {W : World} {R : List SProp} {ao : Option Addr} {cap : Nat} {l : List PatE} (hP : RdPats W R ao l) (hl : l.length ≤ 1000000) (hD : ∀ p ∈ l, p.d.data.length ≤ 1000000000) :
    Does W Try.prog 19 [.slice ao l.length cap] R (β := List (Addr × Nat) × Addr × Nat) (fun x => Lent l x.1) (fun x => .slice (some x.2.1) l.length x.2.2) (fun x => LentA l x.1 x.2.1 x.2.2 :: R) := by
  have h := Does.frame (W := W) (R := R) (P := Try.prog) (g := 19) fun w hw => lentpatsA_ok (W := w) (R := []) (cap := cap) (ao := ao) (l := l) ⟨fun R' => hP.base hw R', hl, hD⟩
  exact Does.mono h (fun x => x) (fun _ h => h) (fun _ _ => rfl) (fun x _ => Ent.refl)
set_option maxHeartbeats 2000000 in
theorem wholepatsR_ok {W : World} {R : List SProp} {ao : Option Addr} {a : Addr} {cap cap2 : Nat} {l : List PatE} (es : List (Addr × Nat)) (hes : es.length = l.length) (hP : RdPats W R ao l) (hB : ∀ p ∈ l, RdsA W 1 p.d.ao p.d.data.length (bytes p.d.data)) (hl : l.length ≤ 1000000) (hD : ∀ p ∈ l, p.d.data.length ≤ 1000000000) :
    Does1 W Try.prog 22 [.slice (some a) l.length cap, .slice ao l.length cap2] (LentPs l es a cap :: (lentPR l es ++ R)) (.bool true) (LentPs l es a cap :: (lentPR l es ++ R)) := by
  (refine Does.enter Try.func22 Try.ntmps22 rfl rfl ?_)
  refine VC.know (p := l.length + 2 ≤ cap) (fun w hw => Holds.ownCap hw (.head _)) ?_
  intro hcc
  (refine w ?_; repeat ((first | refine VO.step rfl rfl ?_ | refine VD.end rfl rfl rfl ?_ | refine VD.mid rfl rfl rfl ?_); refine OpV.box rfl rfl rfl ?_; intro _; refine w ?_))
  (first | refine VO.gF rfl rfl rfl (by simp) ?_ | refine VD.gF rfl rfl rfl (by simp) ?_)
  (refine w ?_; repeat ((first | refine VO.step rfl rfl ?_ | refine VD.end rfl rfl rfl ?_ | refine VD.mid rfl rfl rfl ?_); refine OpV.box rfl rfl rfl ?_; intro _; refine w ?_))
  (refine VC.condFe rfl rfl (decide_eq_false (by omega)) ?_)
  (refine w ?_; repeat ((first | refine VO.step rfl rfl ?_ | refine VD.end rfl rfl rfl ?_ | refine VD.mid rfl rfl rfl ?_); refine OpV.box rfl rfl rfl ?_; intro _; refine w ?_))
  refine VC.loop (α := Nat) (fun i => l.length ≤ i ∧ i ≤ l.length + 2) (fun _ => LentPs l es a cap :: (lentPR l es ++ R)) (fun i => [(0, .slice (some a) l.length cap), (1, .slice ao l.length cap2), (5, .slice (some a) (l.length + 2) cap), (6, .int .i64 i)]) (fun i => l.length + 2 - i) rfl l.length ⟨Nat.le_refl _, by omega⟩ Ent.refl ⟨rfl, rfl, rfl, rfl, trivial⟩ ?_
  rintro i ⟨hi1, hi2⟩
  (refine w ?_; repeat ((first | refine VO.step rfl rfl ?_ | refine VD.end rfl rfl rfl ?_ | refine VD.mid rfl rfl rfl ?_); refine OpV.box rfl rfl rfl ?_; intro _; refine w ?_))
  (refine VC.cond rfl rfl ?_ ?_ <;> intro hc)
  · have hlt : i < l.length + 2 := by have := of_decide_eq_true hc; omega
    have hll : i < (lentP l es ++ [markP, markP]).length := by rw [lentp_len hes]; omega
    have hmk := lentp_mark hes i hi1 hlt
    (refine w ?_; repeat ((first | refine VO.step rfl rfl ?_ | refine VD.end rfl rfl rfl ?_ | refine VD.mid rfl rfl rfl ?_); refine OpV.box rfl rfl rfl ?_; intro _; refine w ?_))
    (first | refine VO.pure rfl rfl (PureAt.ldRc tab_ok rfl rfl (lentp_rds hes (.head _)) ((pat_get _ i 0 hll (by decide)).trans (show _ = some (.int .i64 (-77)) by rw [hmk]; rfl))) rfl ?_ | refine VD.take rfl rfl rfl (PureAt.ldRc tab_ok rfl rfl (lentp_rds hes (.head _)) ((pat_get _ i 0 hll (by decide)).trans (show _ = some (.int .i64 (-77)) by rw [hmk]; rfl))) rfl ?_ | refine VQ.pure rfl rfl (PureAt.ldRc tab_ok rfl rfl (lentp_rds hes (.head _)) ((pat_get _ i 0 hll (by decide)).trans (show _ = some (.int .i64 (-77)) by rw [hmk]; rfl))) rfl ?_ | refine VD.end rfl rfl rfl (OpV.pure (PureAt.ldRc tab_ok rfl rfl (lentp_rds hes (.head _)) ((pat_get _ i 0 hll (by decide)).trans (show _ = some (.int .i64 (-77)) by rw [hmk]; rfl))) rfl ?_))
    (refine w ?_; repeat ((first | refine VO.step rfl rfl ?_ | refine VD.end rfl rfl rfl ?_ | refine VD.mid rfl rfl rfl ?_); refine OpV.box rfl rfl rfl ?_; intro _; refine w ?_))
    (first | refine VO.pure rfl rfl (PureAt.ldRc tab_ok rfl rfl (lentp_rds hes (.head _)) ((pat_get _ i 1 hll (by decide)).trans (show _ = some (.int .i64 0) by rw [hmk]; rfl))) rfl ?_ | refine VD.take rfl rfl rfl (PureAt.ldRc tab_ok rfl rfl (lentp_rds hes (.head _)) ((pat_get _ i 1 hll (by decide)).trans (show _ = some (.int .i64 0) by rw [hmk]; rfl))) rfl ?_ | refine VQ.pure rfl rfl (PureAt.ldRc tab_ok rfl rfl (lentp_rds hes (.head _)) ((pat_get _ i 1 hll (by decide)).trans (show _ = some (.int .i64 0) by rw [hmk]; rfl))) rfl ?_ | refine VD.end rfl rfl rfl (OpV.pure (PureAt.ldRc tab_ok rfl rfl (lentp_rds hes (.head _)) ((pat_get _ i 1 hll (by decide)).trans (show _ = some (.int .i64 0) by rw [hmk]; rfl))) rfl ?_))
    (refine w ?_; repeat ((first | refine VO.step rfl rfl ?_ | refine VD.end rfl rfl rfl ?_ | refine VD.mid rfl rfl rfl ?_); refine OpV.box rfl rfl rfl ?_; intro _; refine w ?_))
    (first | refine VO.pure rfl rfl (PureAt.ldRc tab_ok rfl rfl (lentp_rds hes (.head _)) ((pat_get _ i 2 hll (by decide)).trans (show _ = some (.slice none 0 0) by rw [hmk]; rfl))) rfl ?_ | refine VD.take rfl rfl rfl (PureAt.ldRc tab_ok rfl rfl (lentp_rds hes (.head _)) ((pat_get _ i 2 hll (by decide)).trans (show _ = some (.slice none 0 0) by rw [hmk]; rfl))) rfl ?_ | refine VQ.pure rfl rfl (PureAt.ldRc tab_ok rfl rfl (lentp_rds hes (.head _)) ((pat_get _ i 2 hll (by decide)).trans (show _ = some (.slice none 0 0) by rw [hmk]; rfl))) rfl ?_ | refine VD.end rfl rfl rfl (OpV.pure (PureAt.ldRc tab_ok rfl rfl (lentp_rds hes (.head _)) ((pat_get _ i 2 hll (by decide)).trans (show _ = some (.slice none 0 0) by rw [hmk]; rfl))) rfl ?_))
    (refine w ?_; repeat ((first | refine VO.step rfl rfl ?_ | refine VD.end rfl rfl rfl ?_ | refine VD.mid rfl rfl rfl ?_); refine OpV.box rfl rfl rfl ?_; intro _; refine w ?_))
    refine VE.round (i + 1) ⟨by omega, by omega⟩ (by omega) ⟨rfl, rfl, rfl, asV rfl (by congr 1), trivial⟩ Ent.refl
  have hge : i = l.length + 2 := by have := of_decide_eq_false hc; omega
  clear hc
  (refine w ?_; repeat ((first | refine VO.step rfl rfl ?_ | refine VD.end rfl rfl rfl ?_ | refine VD.mid rfl rfl rfl ?_); refine OpV.box rfl rfl rfl ?_; intro _; refine w ?_))
  refine VC.know (fun w hw => lentp_cap hes hw.tail) ?_
  intro hcap
  refine VC.loop (α := Nat) (fun i => i ≤ l.length) (fun _ => LentPs l es a cap :: (lentPR l es ++ R)) (fun i => [(0, .slice (some a) l.length cap), (1, .slice ao l.length cap2), (7, .int .i64 i)]) (fun i => l.length - i) rfl 0 (Nat.zero_le _) Ent.refl ⟨rfl, rfl, rfl, trivial⟩ ?_
  intro i hi
  (refine w ?_; repeat ((first | refine VO.step rfl rfl ?_ | refine VD.end rfl rfl rfl ?_ | refine VD.mid rfl rfl rfl ?_); refine OpV.box rfl rfl rfl ?_; intro _; refine w ?_))
  (refine VC.cond rfl rfl ?_ ?_ <;> intro hc)
  · have hlt : i < l.length := by have := of_decide_eq_true hc; omega
    obtain ⟨la, rfl⟩ : ∃ x, ao = some x := by cases ao with | none => have := hP.rds.nil rfl; omega | some x => exact ⟨x, rfl⟩
    have hlg := lentp_get hes i hlt
    have hll : i < (lentP l es ++ [markP, markP]).length := by rw [lentp_len hes]; omega
    have hst := hB _ (List.getElem_mem hlt)
    have hsl := hD _ (List.getElem_mem hlt)
    (refine w ?_; repeat ((first | refine VO.step rfl rfl ?_ | refine VD.end rfl rfl rfl ?_ | refine VD.mid rfl rfl rfl ?_); refine OpV.box rfl rfl rfl ?_; intro _; refine w ?_))
    (refine VC.drawn [] 35 [0, 1, 2, 3, 4, 5, 6, 7, 8, 9, 10, 11, 12, 13, 14, 15, 16, 17, 18, 19, 20, 21, 22, 23, 24, 25, 26, 27, 28, 29, 30, 31, 32, 33, 34, 35, 36, 37] _ rfl (by kernel_rfl) (by kernel_rfl) Ent.re ?_)
    (refine w ?_; repeat ((first | refine VO.step rfl rfl ?_ | refine VD.end rfl rfl rfl ?_ | refine VD.mid rfl rfl rfl ?_); refine OpV.box rfl rfl rfl ?_; intro _; refine w ?_))
    (first | refine VO.pure rfl rfl (PureAt.ldRc tab_ok rfl rfl (lentp_rds hes (.head _)) ((pat_get _ i 0 hll (by decide)).trans (show _ = some (.int .i64 l[i].member) by rw [hlg]; rfl))) rfl ?_ | refine VD.take rfl rfl rfl (PureAt.ldRc tab_ok rfl rfl (lentp_rds hes (.head _)) ((pat_get _ i 0 hll (by decide)).trans (show _ = some (.int .i64 l[i].member) by rw [hlg]; rfl))) rfl ?_ | refine VQ.pure rfl rfl (PureAt.ldRc tab_ok rfl rfl (lentp_rds hes (.head _)) ((pat_get _ i 0 hll (by decide)).trans (show _ = some (.int .i64 l[i].member) by rw [hlg]; rfl))) rfl ?_ | refine VD.end rfl rfl rfl (OpV.pure (PureAt.ldRc tab_ok rfl rfl (lentp_rds hes (.head _)) ((pat_get _ i 0 hll (by decide)).trans (show _ = some (.int .i64 l[i].member) by rw [hlg]; rfl))) rfl ?_))
    (refine w ?_; repeat ((first | refine VO.step rfl rfl ?_ | refine VD.end rfl rfl rfl ?_ | refine VD.mid rfl rfl rfl ?_); refine OpV.box rfl rfl rfl ?_; intro _; refine w ?_))
    (first | refine VO.pure rfl rfl (PureAt.ldRc tab_ok rfl rfl (hP.rds.ent (Ent.drop (ent_app _))) (pat_get l i 0 hlt (by decide))) rfl ?_ | refine VD.take rfl rfl rfl (PureAt.ldRc tab_ok rfl rfl (hP.rds.ent (Ent.drop (ent_app _))) (pat_get l i 0 hlt (by decide))) rfl ?_ | refine VQ.pure rfl rfl (PureAt.ldRc tab_ok rfl rfl (hP.rds.ent (Ent.drop (ent_app _))) (pat_get l i 0 hlt (by decide))) rfl ?_ | refine VD.end rfl rfl rfl (OpV.pure (PureAt.ldRc tab_ok rfl rfl (hP.rds.ent (Ent.drop (ent_app _))) (pat_get l i 0 hlt (by decide))) rfl ?_))
    (refine w ?_; repeat ((first | refine VO.step rfl rfl ?_ | refine VD.end rfl rfl rfl ?_ | refine VD.mid rfl rfl rfl ?_); refine OpV.box rfl rfl rfl ?_; intro _; refine w ?_))
    (first | refine VO.gF rfl rfl rfl (by simp) ?_ | refine VD.gF rfl rfl rfl (by simp) ?_)
    (refine w ?_; repeat ((first | refine VO.step rfl rfl ?_ | refine VD.end rfl rfl rfl ?_ | refine VD.mid rfl rfl rfl ?_); refine OpV.box rfl rfl rfl ?_; intro _; refine w ?_))
    (first | refine VO.pure rfl rfl (PureAt.ldRc tab_ok rfl rfl (lentp_rds hes (.head _)) ((pat_get _ i 1 hll (by decide)).trans (show _ = some (.int .i64 l[i].row) by rw [hlg]; rfl))) rfl ?_ | refine VD.take rfl rfl rfl (PureAt.ldRc tab_ok rfl rfl (lentp_rds hes (.head _)) ((pat_get _ i 1 hll (by decide)).trans (show _ = some (.int .i64 l[i].row) by rw [hlg]; rfl))) rfl ?_ | refine VQ.pure rfl rfl (PureAt.ldRc tab_ok rfl rfl (lentp_rds hes (.head _)) ((pat_get _ i 1 hll (by decide)).trans (show _ = some (.int .i64 l[i].row) by rw [hlg]; rfl))) rfl ?_ | refine VD.end rfl rfl rfl (OpV.pure (PureAt.ldRc tab_ok rfl rfl (lentp_rds hes (.head _)) ((pat_get _ i 1 hll (by decide)).trans (show _ = some (.int .i64 l[i].row) by rw [hlg]; rfl))) rfl ?_))
    (refine w ?_; repeat ((first | refine VO.step rfl rfl ?_ | refine VD.end rfl rfl rfl ?_ | refine VD.mid rfl rfl rfl ?_); refine OpV.box rfl rfl rfl ?_; intro _; refine w ?_))
    (first | refine VO.pure rfl rfl (PureAt.ldRc tab_ok rfl rfl (hP.rds.ent (Ent.drop (ent_app _))) (pat_get l i 1 hlt (by decide))) rfl ?_ | refine VD.take rfl rfl rfl (PureAt.ldRc tab_ok rfl rfl (hP.rds.ent (Ent.drop (ent_app _))) (pat_get l i 1 hlt (by decide))) rfl ?_ | refine VQ.pure rfl rfl (PureAt.ldRc tab_ok rfl rfl (hP.rds.ent (Ent.drop (ent_app _))) (pat_get l i 1 hlt (by decide))) rfl ?_ | refine VD.end rfl rfl rfl (OpV.pure (PureAt.ldRc tab_ok rfl rfl (hP.rds.ent (Ent.drop (ent_app _))) (pat_get l i 1 hlt (by decide))) rfl ?_))
    (refine w ?_; repeat ((first | refine VO.step rfl rfl ?_ | refine VD.end rfl rfl rfl ?_ | refine VD.mid rfl rfl rfl ?_); refine OpV.box rfl rfl rfl ?_; intro _; refine w ?_))
    (first | refine VO.gF rfl rfl rfl (by simp) ?_ | refine VD.gF rfl rfl rfl (by simp) ?_)
    (refine w ?_; repeat ((first | refine VO.step rfl rfl ?_ | refine VD.end rfl rfl rfl ?_ | refine VD.mid rfl rfl rfl ?_); refine OpV.box rfl rfl rfl ?_; intro _; refine w ?_))
    (first | refine VO.pure rfl rfl (PureAt.ldRc tab_ok rfl rfl (lentp_rds hes (.head _)) ((pat_get _ i 2 hll (by decide)).trans (show _ = some (.slice (some (es[i]'(by omega)).1) l[i].d.data.length (es[i]'(by omega)).2) by rw [hlg]; rfl))) rfl ?_ | refine VD.take rfl rfl rfl (PureAt.ldRc tab_ok rfl rfl (lentp_rds hes (.head _)) ((pat_get _ i 2 hll (by decide)).trans (show _ = some (.slice (some (es[i]'(by omega)).1) l[i].d.data.length (es[i]'(by omega)).2) by rw [hlg]; rfl))) rfl ?_ | refine VQ.pure rfl rfl (PureAt.ldRc tab_ok rfl rfl (lentp_rds hes (.head _)) ((pat_get _ i 2 hll (by decide)).trans (show _ = some (.slice (some (es[i]'(by omega)).1) l[i].d.data.length (es[i]'(by omega)).2) by rw [hlg]; rfl))) rfl ?_ | refine VD.end rfl rfl rfl (OpV.pure (PureAt.ldRc tab_ok rfl rfl (lentp_rds hes (.head _)) ((pat_get _ i 2 hll (by decide)).trans (show _ = some (.slice (some (es[i]'(by omega)).1) l[i].d.data.length (es[i]'(by omega)).2) by rw [hlg]; rfl))) rfl ?_))
    (refine w ?_; repeat ((first | refine VO.step rfl rfl ?_ | refine VD.end rfl rfl rfl ?_ | refine VD.mid rfl rfl rfl ?_); refine OpV.box rfl rfl rfl ?_; intro _; refine w ?_))
    (first | refine VO.pure rfl rfl (PureAt.ldRc tab_ok rfl rfl (hP.rds.ent (Ent.drop (ent_app _))) (pat_get l i 2 hlt (by decide))) rfl ?_ | refine VD.take rfl rfl rfl (PureAt.ldRc tab_ok rfl rfl (hP.rds.ent (Ent.drop (ent_app _))) (pat_get l i 2 hlt (by decide))) rfl ?_ | refine VQ.pure rfl rfl (PureAt.ldRc tab_ok rfl rfl (hP.rds.ent (Ent.drop (ent_app _))) (pat_get l i 2 hlt (by decide))) rfl ?_ | refine VD.end rfl rfl rfl (OpV.pure (PureAt.ldRc tab_ok rfl rfl (hP.rds.ent (Ent.drop (ent_app _))) (pat_get l i 2 hlt (by decide))) rfl ?_))
    (refine w ?_; repeat ((first | refine VO.step rfl rfl ?_ | refine VD.end rfl rfl rfl ?_ | refine VD.mid rfl rfl rfl ?_); refine OpV.box rfl rfl rfl ?_; intro _; refine w ?_))
    ((first | refine VO.step rfl rfl ?_ | refine VD.end rfl rfl rfl ?_ | refine VD.mid rfl rfl rfl ?_); refine OpV.call rfl rfl (fun _ _ => by simp) (whole_mem hst hsl (.tail _ (List.mem_append_left _ (lentPR_mem hes i hlt)))) Ent.refl rfl ?_; intro _ _)
    (refine w ?_; repeat ((first | refine VO.step rfl rfl ?_ | refine VD.end rfl rfl rfl ?_ | refine VD.mid rfl rfl rfl ?_); refine OpV.box rfl rfl rfl ?_; intro _; refine w ?_))
    exact VE.round (i + 1) (by omega) (by omega) ⟨rfl, rfl, asV rfl (by congr 1), trivial⟩ Ent.refl
  · (refine w ?_; repeat ((first | refine VO.step rfl rfl ?_ | refine VD.end rfl rfl rfl ?_ | refine VD.mid rfl rfl rfl ?_); refine OpV.box rfl rfl rfl ?_; intro _; refine w ?_))
    (refine VE.done1 rfl ?_ ?_)
    · rfl
    · exact Ent.refl

theorem wholepatsRA_ok {W : World} {R : List SProp} {ao : Option Addr} {a : Addr} {cap cap2 : Nat} {l : List PatE} {es : List (Addr × Nat)} (h : Lent l es) (hP : RdPats W R ao l) (hB : ∀ p ∈ l, RdsA W 1 p.d.ao p.d.data.length (bytes p.d.data)) (hl : l.length ≤ 1000000) (hD : ∀ p ∈ l, p.d.data.length ≤ 1000000000) :
    Does1 W Try.prog 22 [.slice (some a) l.length cap, .slice ao l.length cap2] (LentA l es a cap :: R) (.bool true) (LentA l es a cap :: R) :=
  Does1P (DoesE (fun w hw => hw.join) (wholepatsR_ok (R := R) es h.len hP hB hl hD)) (fun w hw => Holds.nest (L := LentPs l es a cap :: lentPR l es) hw)
/-! ### What the program refuses -/
theorem liftput_far {W : World} {R : List SProp} {b : Nat} {p : PatE} (hp : ¬ (0 ≤ p.member ∧ p.member ≤ 15 ∧ 0 ≤ p.row ∧ p.row ≤ 4095)) :
    Does1 W Try.prog 20 [.pointer (some ⟨b, 0, none⟩), .agg p.cells.toArray] R (.int .u16 3) R := by
  (refine Does.enter Try.func20 Try.ntmps20 rfl rfl ?_)
  (refine w ?_; repeat ((first | refine VO.step rfl rfl ?_ | refine VD.end rfl rfl rfl ?_ | refine VD.mid rfl rfl rfl ?_); refine OpV.box rfl rfl rfl ?_; intro _; refine w ?_))
  rename_i n3
  ((first | refine VO.split rfl rfl rfl ?_ ?_ | refine VD.split rfl rfl rfl ?_ ?_) <;> intro hb)
  · (refine w ?_; repeat ((first | refine VO.step rfl rfl ?_ | refine VD.end rfl rfl rfl ?_ | refine VD.mid rfl rfl rfl ?_); refine OpV.box rfl rfl rfl ?_; intro _; refine w ?_))
    (refine VE.done1 rfl ?_ ?_)
    · rfl
    · exact Ent.re
  have h1 := of_decide_eq_false hb
  (refine w ?_; repeat ((first | refine VO.step rfl rfl ?_ | refine VD.end rfl rfl rfl ?_ | refine VD.mid rfl rfl rfl ?_); refine OpV.box rfl rfl rfl ?_; intro _; refine w ?_))
  ((first | refine VO.split rfl rfl rfl ?_ ?_ | refine VD.split rfl rfl rfl ?_ ?_) <;> intro hb)
  · (refine w ?_; repeat ((first | refine VO.step rfl rfl ?_ | refine VD.end rfl rfl rfl ?_ | refine VD.mid rfl rfl rfl ?_); refine OpV.box rfl rfl rfl ?_; intro _; refine w ?_))
    (refine VE.done1 rfl ?_ ?_)
    · rfl
    · exact Ent.re
  have h2 := of_decide_eq_false hb
  (refine w ?_; repeat ((first | refine VO.step rfl rfl ?_ | refine VD.end rfl rfl rfl ?_ | refine VD.mid rfl rfl rfl ?_); refine OpV.box rfl rfl rfl ?_; intro _; refine w ?_))
  ((first | refine VO.split rfl rfl rfl ?_ ?_ | refine VD.split rfl rfl rfl ?_ ?_) <;> intro hb)
  · (refine w ?_; repeat ((first | refine VO.step rfl rfl ?_ | refine VD.end rfl rfl rfl ?_ | refine VD.mid rfl rfl rfl ?_); refine OpV.box rfl rfl rfl ?_; intro _; refine w ?_))
    (refine VE.done1 rfl ?_ ?_)
    · rfl
    · exact Ent.re
  have h3 := of_decide_eq_false hb
  (refine w ?_; repeat ((first | refine VO.step rfl rfl ?_ | refine VD.end rfl rfl rfl ?_ | refine VD.mid rfl rfl rfl ?_); refine OpV.box rfl rfl rfl ?_; intro _; refine w ?_))
  (refine VC.condTe rfl rfl (decide_eq_true (by omega)) ?_)
  (refine w ?_; repeat ((first | refine VO.step rfl rfl ?_ | refine VD.end rfl rfl rfl ?_ | refine VD.mid rfl rfl rfl ?_); refine OpV.box rfl rfl rfl ?_; intro _; refine w ?_))
  (refine VE.done1 rfl ?_ ?_)
  · rfl
  · exact Ent.re
theorem liftput_len {W : World} {R : List SProp} {b : Nat} {p : PatE} (hm : 0 ≤ p.member ∧ p.member ≤ 15) (hr : 0 ≤ p.row ∧ p.row ≤ 4095) (hl : p.d.data.length ≠ 128) :
    Does1 W Try.prog 20 [.pointer (some ⟨b, 0, none⟩), .agg p.cells.toArray] R (.int .u16 4) R := by
  (refine Does.enter Try.func20 Try.ntmps20 rfl rfl ?_)
  (refine w ?_; repeat ((first | refine VO.step rfl rfl ?_ | refine VD.end rfl rfl rfl ?_ | refine VD.mid rfl rfl rfl ?_); refine OpV.box rfl rfl rfl ?_; intro _; refine w ?_))
  rename_i n3
  (first | refine VO.gF rfl rfl rfl (decide_eq_false (by omega)) ?_ | refine VD.gF rfl rfl rfl (decide_eq_false (by omega)) ?_)
  (refine w ?_; repeat ((first | refine VO.step rfl rfl ?_ | refine VD.end rfl rfl rfl ?_ | refine VD.mid rfl rfl rfl ?_); refine OpV.box rfl rfl rfl ?_; intro _; refine w ?_))
  (first | refine VO.gF rfl rfl rfl (decide_eq_false (by omega)) ?_ | refine VD.gF rfl rfl rfl (decide_eq_false (by omega)) ?_)
  (refine w ?_; repeat ((first | refine VO.step rfl rfl ?_ | refine VD.end rfl rfl rfl ?_ | refine VD.mid rfl rfl rfl ?_); refine OpV.box rfl rfl rfl ?_; intro _; refine w ?_))
  (first | refine VO.gF rfl rfl rfl (decide_eq_false (by omega)) ?_ | refine VD.gF rfl rfl rfl (decide_eq_false (by omega)) ?_)
  (refine w ?_; repeat ((first | refine VO.step rfl rfl ?_ | refine VD.end rfl rfl rfl ?_ | refine VD.mid rfl rfl rfl ?_); refine OpV.box rfl rfl rfl ?_; intro _; refine w ?_))
  (refine VC.condFe rfl rfl (decide_eq_false (by omega)) ?_)
  (refine w ?_; repeat ((first | refine VO.step rfl rfl ?_ | refine VD.end rfl rfl rfl ?_ | refine VD.mid rfl rfl rfl ?_); refine OpV.box rfl rfl rfl ?_; intro _; refine w ?_))
  (refine VC.condTe rfl rfl (by simp; omega) ?_)
  (refine w ?_; repeat ((first | refine VO.step rfl rfl ?_ | refine VD.end rfl rfl rfl ?_ | refine VD.mid rfl rfl rfl ?_); refine OpV.box rfl rfl rfl ?_; intro _; refine w ?_))
  (refine VE.done1 rfl ?_ ?_)
  · rfl
  · exact Ent.re
/-! ### What it is handed -/
structure LActE where
  kind : Nat
  p : PatE
abbrev LActE.cells (o : LActE) : List Value := [.int .u8 o.kind, .int .i64 o.p.member, .int .i64 o.p.row, o.p.d.hdr]
def lactCells (l : List LActE) : List Value := l.flatMap LActE.cells
structure LActE.wf (W : World) (o : LActE) : Prop where
  k : o.kind < 256
  p : o.p.wf W
theorem lact_one (p : LActE) : ∀ u ∈ p.cells, u.oneCell' = true := by simp [Value.oneCell']
theorem lact_get (l : List LActE) (j i : Nat) (h : j < l.length) (hi : i < 4) : (lactCells l)[j * 4 + i]? = (l[j].cells)[i]? := flat_at l j i h (fun _ _ => rfl) hi
theorem lact_of {W : World} {cs : List Value} (h : InT Try.prog W 51 cs) : ∃ o : LActE, cs = o.cells ∧ o.wf W := by
  have hl := (h.struct_inv Try.underlying51).1
  have c4 : Try.prog.cellsOf 51 = 4 := by kernel_rfl
  rw [c4] at hl
  match cs, hl with
  | [v0, v1, v2, v3], _ =>
    have ki : Try.prog.cellsOf 5 = 1 := by kernel_rfl
    have ks : Try.prog.cellsOf 49 = 3 := by kernel_rfl
    have g0 : InT Try.prog W 5 [v0] := h.field (i := 0) (off := 0) Try.underlying51 rfl rfl rfl ki
    have g1 : InT Try.prog W 49 [v1, v2, v3] := h.field (i := 1) (off := 1) Try.underlying51 rfl rfl rfl ks
    obtain ⟨z0, e0, w0⟩ := g0.int_inv Try.underlying5
    obtain ⟨k, rfl, hk⟩ := u8n_of w0
    obtain ⟨p, e1, hp⟩ := pat_of g1
    cases e0
    refine ⟨⟨k, p⟩, ?_, ⟨hk, hp⟩⟩
    rw [e1]
theorem lacts_of {W : World} {ao : Option Addr} {n cap : Nat} (h : InT Try.prog W 22 [.slice ao n cap]) : ∃ l : List LActE, l.length = n ∧ RdsA W 4 ao n (lactCells l) ∧ (∀ o ∈ l, o.wf W) ∧ n ≤ 140737488351232 := by
  obtain ⟨l, h1, h2, h3, h4, h5⟩ := h.list LActE.cells (LActE.wf W) ⟨0, 0, 0, ⟨none, 0, []⟩⟩ Try.underlying22 (by kernel_rfl) (fun o _ => lact_one o) (fun cs hc => lact_of hc)
  have b1 : 1 ≤ Try.prog.bytesOf 51 := of_decide_eq_true (by kernel_rfl)
  have hb : cap ≤ reachBytes := Nat.le_trans (Nat.le_mul_of_pos_right cap b1) h5
  exact ⟨l, h1, h2, h3, by simp only [reachBytes] at hb; omega⟩
/-! ### Both lifts, plainly -/
theorem StepP.same {r : Int} {X ps : List PatE} {c d : Option PatE} (hd : (X.map PatE.place).Nodup) (h : X.map PatE.D = ps.map PatE.D) (hc : StepP r X c) (he : StepP r ps d) :
    c.map PatE.D = d.map PatE.D ∧ (psOf X c).map PatE.D = (psOf ps d).map PatE.D ∧ rowOf r c = rowOf r d := by
  have hK : X.map PatE.place = ps.map PatE.place := by rw [← map_DP, ← map_DP, h]
  cases c with
  | none =>
    have : X = [] := hc
    subst this
    have hps : ps = [] := by simpa using h.symm
    subst hps
    cases d with
    | none => exact ⟨rfl, rfl, rfl⟩
    | some q => cases he.1
  | some p =>
    cases d with
    | none =>
      have : ps = [] := he
      subst this
      have hX : X = [] := by simpa using h
      subst hX
      cases hc.1
    | some q =>
      have h1 : p.place = q.place := hc.2.one (by rw [hK]; exact he.2)
      have hd2 : (ps.map PatE.place).Nodup := hK ▸ hd
      obtain ⟨q', hq', e⟩ := List.mem_map.1 (h ▸ List.mem_map_of_mem (f := PatE.D) hc.1)
      have h2 : q'.place = p.place := congrArg PatD.place e
      have h3 : q' = q := same_place hd2 hq' he.1 (h2.trans h1)
      subst h3
      refine ⟨by simp [e], ?_, congrArg Prod.snd h1⟩
      show (X.filter fun x => x.place ≠ p.place).map PatE.D = (ps.filter fun x => x.place ≠ q'.place).map PatE.D
      rw [map_DF, map_DF, h, h1]
end Go.Proofs.Ytpmmkmcbimnigaa

/-! Text Yu. -/
/- The law LiftDoes: walked. -/
set_option maxRecDepth 8000
set_option linter.unusedVariables false
set_option linter.unusedSimpArgs false
set_option linter.unusedSectionVars false
namespace Go.Proofs.Ytpmmkmcbimnigaa
open Go.RowKit Go.Sl
attribute [local irreducible] Sl.Own

/-- What the book holds, of k rounds. -/
structure BkI (B : Bk) (k : Nat) : Prop where
  E : B.E.length ≤ k * 1000
  P : B.P.length ≤ k
  F : B.F = []
  T : B.T = []
  e : ∀ e ∈ B.E, e.xs.length ≤ 1000000000
  p : ∀ e ∈ B.P, e.n ≤ 1000000000
theorem BkI.ok {B : Bk} {k : Nat} (h : BkI B k) (hk : k ≤ 400) : B.ok := by
  have := h.E; have := h.P
  exact ⟨by omega, by rw [h.F]; simp, by omega, by rw [h.T]; simp, h.e, by rw [h.F]; simp, h.p, by rw [h.T]; simp⟩
theorem BkI.mono {B : Bk} {k m : Nat} (h : BkI B k) (hm : k ≤ m) : BkI B m := by
  have := h.E; have := h.P
  exact ⟨by omega, by omega, h.F, h.T, h.e, h.p⟩
theorem BkI.byte {B : Bk} {k : Nat} (h : BkI B k) {e : ListE} (he : e.xs.length ≤ 1000000000) : BkI { B with E := B.E ++ [e] } (k + 1) := by
  have h1 := h.E; have h2 := h.P
  refine ⟨?_, by show B.P.length ≤ k + 1; omega, h.F, h.T, fun x hx => ?_, h.p⟩
  · show (B.E ++ [e]).length ≤ _
    rw [List.length_append, List.length_singleton]; omega
  · rcases List.mem_append.1 hx with hx | hx
    · exact h.e x hx
    · rw [List.mem_singleton] at hx; subst hx; exact he
theorem BkI.pats {B : Bk} {k : Nat} (h : BkI B k) {z : Option Addr × Nat} {l : List PatE} (hl : l.length ≤ 1000) (he : ∀ p ∈ l, p.d.data.length ≤ 1000000000) : BkI { B with E := B.E ++ eP l, P := B.P ++ [patsN z l] } (k + 1) := by
  have h1 := h.E; have h2 := h.P
  refine ⟨?_, ?_, h.F, h.T, fun x hx => ?_, fun x hx => ?_⟩
  · show (B.E ++ eP l).length ≤ _
    rw [List.length_append, show (eP l).length = l.length by unfold eP; rw [List.length_map]]; omega
  · show (B.P ++ [patsN z l]).length ≤ _
    rw [List.length_append, List.length_singleton]; omega
  · rcases List.mem_append.1 hx with hx | hx
    · exact h.e x hx
    · obtain ⟨p, hp, rfl⟩ := List.mem_map.1 hx
      rw [eR_len]; exact he p hp
  · rcases List.mem_append.1 hx with hx | hx
    · exact h.p x hx
    · rw [List.mem_singleton] at hx; subst hx
      show l.length ≤ _
      omega
structure DoX where
  r : Int
  X : List PatE
  ps : List PatE
  x : Option Addr × Nat
  B : Bk
structure DoI (k : Nat) (y : DoX) : Prop where
  same : y.X.map PatE.D = y.ps.map PatE.D
  one : (y.ps.map PatE.place).Nodup
  all : ∀ p ∈ y.ps, p.In
  len : y.ps.length ≤ k
  bk : BkI y.B k
theorem DoI.oneX {k : Nat} {y : DoX} (h : DoI k y) : (y.X.map PatE.place).Nodup := by rw [← map_DP, h.same, map_DP]; exact h.one
theorem DoI.lenX {k : Nat} {y : DoX} (h : DoI k y) : y.X.length ≤ k := by have := congrArg List.length h.same; simp at this; have := h.len; omega
abbrev doM (b1 b2 bk : Nat) (y : DoX) (R : List SProp) : List SProp := LiftR b1 y.r y.X :: BookQ bk y.B :: dlO b2 y.r y.ps y.x R
/-! ### Put, both, in one form -/
def PatE.near (p : PatE) : Prop := 0 ≤ p.member ∧ p.member ≤ 15 ∧ 0 ≤ p.row ∧ p.row ≤ 4095
instance (p : PatE) : Decidable p.near := by unfold PatE.near; exact inferInstance
def putErr (p : PatE) : Nat := if p.near then (if p.d.data.length = 128 then 0 else 4) else 3
def putU (ps : List PatE) (p : PatE) (u : Option Addr × Nat) : List PatE := if p.near ∧ p.d.data.length = 128 then putL ps ⟨p.member, p.row, ⟨u.1, u.2, p.d.data⟩⟩ else ps
theorem near_in {p : PatE} (h : p.near) (hl : p.d.data.length = 128) : p.In := ⟨⟨h.1, h.2.1⟩, ⟨h.2.2.1, h.2.2.2⟩, hl⟩
theorem liftputU_ok {W : World} {R : List SProp} {b : Nat} {r : Int} {ps : List PatE} {p : PatE} (hrd : Rds W R 1 p.d.ao p.d.data.length (bytes p.d.data)) (hps : ps.length ≤ 800000) :
    Does W Try.prog 20 [.pointer (some ⟨b, 0, none⟩), .agg p.cells.toArray] (LiftR b r ps :: R) (β := Option Addr × Nat) (fun _ => True) (fun _ => .int .u16 (putErr p : Nat)) (fun y => LiftR b r (putU ps p y) :: R) := by
  by_cases h1 : p.near
  · by_cases h2 : p.d.data.length = 128
    · refine Does.mono (liftput_ok (near_in h1 h2) hrd hps) (fun y => y) (fun _ _ => trivial) (fun _ _ => ?_) (fun y _ => ?_)
      · rw [show putErr p = 0 by unfold putErr; rw [if_pos h1, if_pos h2]]; rfl
      · rw [show putU ps p y = _ from if_pos ⟨h1, h2⟩]; exact Ent.refl
    · refine Does.mono (liftput_len (R := LiftR b r ps :: R) ⟨h1.1, h1.2.1⟩ ⟨h1.2.2.1, h1.2.2.2⟩ h2) (fun _ => (none, 0)) (fun _ _ => trivial) (fun _ _ => ?_) (fun y _ => ?_)
      · rw [show putErr p = 4 by unfold putErr; rw [if_pos h1, if_neg h2]]; rfl
      · rw [show putU ps p (none, 0) = _ from if_neg (fun h => h2 h.2)]; exact Ent.refl
  · refine Does.mono (liftput_far (R := LiftR b r ps :: R) h1) (fun _ => (none, 0)) (fun _ _ => trivial) (fun _ _ => ?_) (fun y _ => ?_)
    · rw [show putErr p = 3 by unfold putErr; rw [if_neg h1]]; rfl
    · rw [show putU ps p (none, 0) = _ from if_neg (fun h => h1 h.1)]; exact Ent.refl
theorem dliftputU_ok {W : World} {R : List SProp} {b : Nat} {r : Int} {ps : List PatE} {p : PatE} {x : Option Addr × Nat} (hd : (ps.map PatE.place).Nodup) (hrd : Rds W R 1 p.d.ao p.d.data.length (bytes p.d.data)) (hps : ps.length ≤ 800000) :
    Does W Try.prog 21 [.pointer (some ⟨b, 0, none⟩), .agg p.cells.toArray] (dlO b r ps x R) (β := (Option Addr × Nat) × Option Addr × Nat) (fun _ => True) (fun _ => .int .i64 (putErr p : Nat)) (fun y => dlO b r (putU ps p y.2) y.1 R) := by
  by_cases h1 : p.near
  · by_cases h2 : p.d.data.length = 128
    · refine Does.mono (dliftput_ok hd (near_in h1 h2) hrd hps) (fun y => y) (fun _ _ => trivial) (fun _ _ => ?_) (fun y _ => ?_)
      · rw [show putErr p = 0 by unfold putErr; rw [if_pos h1, if_pos h2]]; rfl
      · rw [show putU ps p y.2 = _ from if_pos ⟨h1, h2⟩]; exact Ent.refl
    · refine Does.mono (dliftput_len (R := dlO b r ps x R) ⟨h1.1, h1.2.1⟩ ⟨h1.2.2.1, h1.2.2.2⟩ h2) (fun _ => (x, (none, 0))) (fun _ _ => trivial) (fun _ _ => ?_) (fun y _ => ?_)
      · rw [show putErr p = 4 by unfold putErr; rw [if_pos h1, if_neg h2]]; rfl
      · dsimp only; rw [show putU ps p (none, 0) = _ from if_neg (fun h => h2 h.2)]; exact Ent.refl
  · refine Does.mono (dliftput_far (R := dlO b r ps x R) h1) (fun _ => (x, (none, 0))) (fun _ _ => trivial) (fun _ _ => ?_) (fun y _ => ?_)
    · rw [show putErr p = 3 by unfold putErr; rw [if_neg h1]]; rfl
    · dsimp only; rw [show putU ps p (none, 0) = _ from if_neg (fun h => h1 h.1)]; exact Ent.refl
theorem putL_mapD (ps : List PatE) (q : PatE) : (putL ps q).map PatE.D = ((ps.map PatE.D).filter fun x => x.place ≠ q.place) ++ [q.D] := by
  unfold putL
  rw [List.map_append, map_DF, List.map_singleton]
theorem putU_mapD {X ps : List PatE} {p q : PatE} {u v : Option Addr × Nat} (h : X.map PatE.D = ps.map PatE.D) (e : q.D = p.D) : (putU X q u).map PatE.D = (putU ps p v).map PatE.D := by
  have e1 : q.member = p.member := congrArg PatD.member e
  have e2 : q.row = p.row := congrArg PatD.row e
  have e3 : q.d.data = p.d.data := congrArg PatD.data e
  have en : q.near ↔ p.near := by unfold PatE.near; rw [e1, e2]
  unfold putU
  by_cases hc : p.near ∧ p.d.data.length = 128
  · rw [if_pos hc, if_pos (by rw [en, e3]; exact hc), putL_mapD, putL_mapD, h]
    have e4 : PatE.place ⟨q.member, q.row, ⟨u.1, u.2, q.d.data⟩⟩ = PatE.place ⟨p.member, p.row, ⟨v.1, v.2, p.d.data⟩⟩ := by show (q.member, q.row) = (p.member, p.row); rw [e1, e2]
    have e5 : PatE.D ⟨q.member, q.row, ⟨u.1, u.2, q.d.data⟩⟩ = PatE.D ⟨p.member, p.row, ⟨v.1, v.2, p.d.data⟩⟩ := by show PatD.mk q.member q.row q.d.data = PatD.mk p.member p.row p.d.data; rw [e1, e2, e3]
    rw [e4, e5]
  · rw [if_neg hc, if_neg (by rw [en, e3]; exact hc), h]
theorem putErr_D {p q : PatE} (e : q.D = p.D) : putErr q = putErr p := by
  have e1 : q.member = p.member := congrArg PatD.member e
  have e2 : q.row = p.row := congrArg PatD.row e
  have e3 : q.d.data = p.d.data := congrArg PatD.data e
  have en : q.near ↔ p.near := by unfold PatE.near; rw [e1, e2]
  unfold putErr
  by_cases hc : p.near
  · rw [if_pos hc, if_pos (en.2 hc), e3]
  · rw [if_neg hc, if_neg (fun h => hc (en.1 h))]
theorem DoI.put {k : Nat} {y : DoX} (h : DoI k y) {p q : PatE} (e : q.D = p.D) (u v x : Option Addr × Nat) : DoI (k + 1) ⟨y.r, putU y.X q u, putU y.ps p v, x, y.B⟩ := by
  refine ⟨putU_mapD h.same e, ?_, ?_, ?_, h.bk.mono (by omega)⟩
  · show ((putU y.ps p v).map PatE.place).Nodup
    unfold putU
    split
    · rw [place_put]
      refine List.nodup_append.2 ⟨List.Pairwise.sublist List.filter_sublist h.one, by simp, fun a ha b hb => ?_⟩
      rw [List.mem_singleton] at hb
      subst hb
      exact of_decide_eq_true (List.mem_filter.1 ha).2
    · exact h.one
  · show ∀ z ∈ putU y.ps p v, z.In
    unfold putU
    split
    · rename_i hc
      exact put_in h.all ⟨⟨hc.1.1, hc.1.2.1⟩, ⟨hc.1.2.2.1, hc.1.2.2.2⟩, hc.2⟩
    · exact h.all
  · show (putU y.ps p v).length ≤ k + 1
    have h1 := h.len
    unfold putU
    split
    · unfold putL
      rw [List.length_append, List.length_singleton]
      have := List.length_filter_le (fun x : PatE => decide (x.place ≠ PatE.place ⟨p.member, p.row, ⟨v.1, v.2, p.d.data⟩⟩)) y.ps
      omega
    · omega
/-! ### What one Next gives, as a patch -/
def curP (c : Option PatE) : PatE := c.getD ⟨0, 0, ⟨none, 0, []⟩⟩
theorem curC_P (c : Option PatE) : curC c = (curP c).cells := by cases c <;> rfl
theorem cur_res {W : World} {c : Option PatE} {R : List SProp} : Ent W (PilP c.toList :: R) ((curP c).d.res :: R) := fun w hw => by
  cases c with
  | none => exact Holds.ownNil 5 1 hw.tail
  | some p => exact (pile_head hw).swap.tail
theorem pat1_rd {W : World} {H : List SProp} {b : Nat} {p : PatE} (m : Row b 49 p.cells ∈ H) (h : Rds W H 1 p.d.ao p.d.data.length (bytes p.d.data)) (ok : p.d.ok) : RdPats W H (some ⟨b, 0, none⟩) [p] :=
  ⟨Rds.row (pats_one [p]) (by simpa [patCells] using m) (pats_len [p]), fun q hq => by rw [List.mem_singleton] at hq; subst hq; exact h, fun q hq => by rw [List.mem_singleton] at hq; subst hq; exact ok⟩
theorem lact_pat (l : List LActE) (j : Nat) (h : j < l.length) : ((lactCells l).drop (j * 4 + 1)).take 3 = l[j].p.cells := by
  have h1 : ((lactCells l).drop (j * 4)).take 4 = l[j].cells := flat_part l j h (fun _ _ => rfl)
  have h2 := congrArg (fun z => (z.drop 1).take 3) h1
  simp only [List.drop_take, List.drop_drop, List.take_take] at h2
  exact h2
set_option maxHeartbeats 8000000 in
theorem liftdoes_law {W : World} {r : Int} {ao : Option Addr} {cap : Nat} {l : List LActE} (hA : RdsA W 4 ao l.length (lactCells l)) (hwf : ∀ o ∈ l, o.wf W) (hn : l.length ≤ 140737488351232) :
    Does1 W Try.prog 3 [.int .i64 r, .slice ao l.length cap] [] (.bool true) [] := by
  (refine Does.enter Try.func3 Try.ntmps3 rfl rfl ?_)
  (refine w ?_; repeat ((first | refine VO.step rfl rfl ?_ | refine VD.end rfl rfl rfl ?_ | refine VD.mid rfl rfl rfl ?_); refine OpV.box rfl rfl rfl ?_; intro _; refine w ?_))
  ((first | refine VO.step rfl rfl ?_ | refine VD.end rfl rfl rfl ?_ | refine VD.mid rfl rfl rfl ?_); refine OpV.call rfl rfl (fun _ _ => by simp) (liftknown_ok (R := [])) Ent.refl rfl ?_)
  intro _ _
  (refine w ?_; repeat ((first | refine VO.step rfl rfl ?_ | refine VD.end rfl rfl rfl ?_ | refine VD.mid rfl rfl rfl ?_); refine OpV.box rfl rfl rfl ?_; intro _; refine w ?_))
  by_cases hr : 0 ≤ r ∧ r ≤ 4095
  · ((first | refine VO.step rfl rfl ?_ | refine VD.end rfl rfl rfl ?_ | refine VD.mid rfl rfl rfl ?_); refine OpV.call rfl rfl (fun _ _ => by simp) (liftnew_ok (R := []) hr) Ent.refl rfl ?_)
    intro b1 _
    (refine w ?_; repeat ((first | refine VO.step rfl rfl ?_ | refine VD.end rfl rfl rfl ?_ | refine VD.mid rfl rfl rfl ?_); refine OpV.box rfl rfl rfl ?_; intro _; refine w ?_))
    ((first | refine VO.step rfl rfl ?_ | refine VD.end rfl rfl rfl ?_ | refine VD.mid rfl rfl rfl ?_); refine OpV.call rfl rfl (fun _ _ => by simp) (dliftnew_ok (R := LiftR b1 r [] :: []) hr) Ent.refl rfl ?_)
    intro b2 _
    (refine w ?_; repeat ((first | refine VO.step rfl rfl ?_ | refine VD.end rfl rfl rfl ?_ | refine VD.mid rfl rfl rfl ?_); refine OpV.box rfl rfl rfl ?_; intro _; refine w ?_))
    (refine VC.cond rfl rfl ?_ ?_ <;> intro hc)
    · (refine w ?_; repeat ((first | refine VO.step rfl rfl ?_ | refine VD.end rfl rfl rfl ?_ | refine VD.mid rfl rfl rfl ?_); refine OpV.box rfl rfl rfl ?_; intro _; refine w ?_))
      (refine VE.done1 rfl ?_ ?_)
      · rfl
      · exact Ent.re
    have hl : l.length ≤ 400 := by have := of_decide_eq_false hc; omega
    clear hc
    (refine w ?_; repeat ((first | refine VO.step rfl rfl ?_ | refine VD.end rfl rfl rfl ?_ | refine VD.mid rfl rfl rfl ?_); refine OpV.box rfl rfl rfl ?_; intro _; refine w ?_))
    (apply VO.pure rfl rfl; apply PureAt.build sb_46 rfl; (simp [buildX, setL, Value.cells]; rfl); rfl)
    (first | refine VO.step rfl rfl ?_ | refine VD.end rfl rfl rfl ?_ | refine VD.mid rfl rfl rfl ?_)
    refine OpV.box rfl rfl rfl ?_
    intro bk
    (refine w ?_; repeat ((first | refine VO.step rfl rfl ?_ | refine VD.end rfl rfl rfl ?_ | refine VD.mid rfl rfl rfl ?_); refine OpV.box rfl rfl rfl ?_; intro _; refine w ?_))
    refine VC.ent (H' := doM b1 b2 bk ⟨r, [], [], (none, 0), ⟨[], [], [], []⟩⟩ []) (Ent.trans BookQ.start Ent.re) ?_
    refine VC.loop (α := Nat × DoX) (fun y => y.1 ≤ l.length ∧ DoI y.1 y.2) (fun y => doM b1 b2 bk y.2 [])
      (fun y => [(1, .slice ao l.length cap), (4, .bool false), (5, .pointer (some ⟨b1, 0, none⟩)), (7, .pointer (some ⟨b2, 0, none⟩)), (9, .pointer (some ⟨bk, 0, none⟩)), (10, .int .i64 y.1)]) (fun y => l.length - y.1) rfl
      (0, ⟨r, [], [], (none, 0), ⟨[], [], [], []⟩⟩) ⟨Nat.zero_le _, ⟨rfl, List.nodup_nil, fun p h => (by cases h), Nat.le_refl _, ⟨Nat.le_refl _, Nat.le_refl _, rfl, rfl, fun e h => (by cases h), fun e h => (by cases h)⟩⟩⟩ Ent.refl ⟨rfl, rfl, rfl, rfl, rfl, rfl, trivial⟩ ?_
    rintro ⟨i, y⟩ ⟨hi, hy⟩
    dsimp only at hi hy ⊢
    (refine w ?_; repeat ((first | refine VO.step rfl rfl ?_ | refine VD.end rfl rfl rfl ?_ | refine VD.mid rfl rfl rfl ?_); refine OpV.box rfl rfl rfl ?_; intro _; refine w ?_))
    (refine VC.cond rfl rfl ?_ ?_ <;> intro hc)
    · have hlt : i < l.length := by have := of_decide_eq_true hc; omega
      clear hc
      obtain ⟨la, rfl⟩ : ∃ x, ao = some x := by cases ao with | none => have := (hA []).nil rfl; omega | some x => exact ⟨x, rfl⟩
      have hw := hwf _ (List.getElem_mem hlt)
      (refine w ?_; repeat ((first | refine VO.step rfl rfl ?_ | refine VD.end rfl rfl rfl ?_ | refine VD.mid rfl rfl rfl ?_); refine OpV.box rfl rfl rfl ?_; intro _; refine w ?_))
      (first | refine VO.pure rfl rfl (PureAt.ldRc tab_ok rfl rfl (hA _) (lact_get l i 3 hlt (by decide))) rfl ?_ | refine VD.take rfl rfl rfl (PureAt.ldRc tab_ok rfl rfl (hA _) (lact_get l i 3 hlt (by decide))) rfl ?_ | refine VQ.pure rfl rfl (PureAt.ldRc tab_ok rfl rfl (hA _) (lact_get l i 3 hlt (by decide))) rfl ?_ | refine VD.end rfl rfl rfl (OpV.pure (PureAt.ldRc tab_ok rfl rfl (hA _) (lact_get l i 3 hlt (by decide))) rfl ?_))
      (refine w ?_; repeat ((first | refine VO.step rfl rfl ?_ | refine VD.end rfl rfl rfl ?_ | refine VD.mid rfl rfl rfl ?_); refine OpV.box rfl rfl rfl ?_; intro _; refine w ?_))
      (refine VC.cond rfl rfl ?_ ?_ <;> intro hc)
      · (refine w ?_; repeat ((first | refine VO.step rfl rfl ?_ | refine VD.end rfl rfl rfl ?_ | refine VD.mid rfl rfl rfl ?_); refine OpV.box rfl rfl rfl ?_; intro _; refine w ?_))
        (refine VE.done1 rfl ?_ ?_)
        · rfl
        · exact Ent.re
      have hdl : l[i].p.d.data.length ≤ 1000 := by have := of_decide_eq_false hc; omega
      clear hc
      (refine w ?_; repeat ((first | refine VO.step rfl rfl ?_ | refine VD.end rfl rfl rfl ?_ | refine VD.mid rfl rfl rfl ?_); refine OpV.box rfl rfl rfl ?_; intro _; refine w ?_))
      (first | refine VO.pure rfl rfl (PureAt.ldRc tab_ok rfl rfl (hA _) (lact_get l i 0 hlt (by decide))) rfl ?_ | refine VD.take rfl rfl rfl (PureAt.ldRc tab_ok rfl rfl (hA _) (lact_get l i 0 hlt (by decide))) rfl ?_ | refine VQ.pure rfl rfl (PureAt.ldRc tab_ok rfl rfl (hA _) (lact_get l i 0 hlt (by decide))) rfl ?_ | refine VD.end rfl rfl rfl (OpV.pure (PureAt.ldRc tab_ok rfl rfl (hA _) (lact_get l i 0 hlt (by decide))) rfl ?_))
      (refine w ?_; repeat ((first | refine VO.step rfl rfl ?_ | refine VD.end rfl rfl rfl ?_ | refine VD.mid rfl rfl rfl ?_); refine OpV.box rfl rfl rfl ?_; intro _; refine w ?_))
      (first | refine VO.join (α := DoX) (DoI (i + 1)) (fun y => doM b1 b2 bk y []) (fun _ => [(1, .slice (some la) l.length cap), (4, .bool false), (5, .pointer (some ⟨b1, 0, none⟩)), (7, .pointer (some ⟨b2, 0, none⟩)), (9, .pointer (some ⟨bk, 0, none⟩)), (10, .int .i64 i)]) ?_ ?_ | refine VC.joinTB (α := DoX) (DoI (i + 1)) (fun y => doM b1 b2 bk y []) (fun _ => [(1, .slice (some la) l.length cap), (4, .bool false), (5, .pointer (some ⟨b1, 0, none⟩)), (7, .pointer (some ⟨b2, 0, none⟩)), (9, .pointer (some ⟨bk, 0, none⟩)), (10, .int .i64 i)]) ?_ ?_ | refine VC.joinB (α := DoX) (DoI (i + 1)) (fun y => doM b1 b2 bk y []) (fun _ => [(1, .slice (some la) l.length cap), (4, .bool false), (5, .pointer (some ⟨b1, 0, none⟩)), (7, .pointer (some ⟨b2, 0, none⟩)), (9, .pointer (some ⟨bk, 0, none⟩)), (10, .int .i64 i)]) ?_ ?_ | refine VC.join (α := DoX) (DoI (i + 1)) (fun y => doM b1 b2 bk y []) (fun _ => [(1, .slice (some la) l.length cap), (4, .bool false), (5, .pointer (some ⟨b1, 0, none⟩)), (7, .pointer (some ⟨b2, 0, none⟩)), (9, .pointer (some ⟨bk, 0, none⟩)), (10, .int .i64 i)]) ?_ ?_)
      · intro Q2 jn
        (first | refine VO.pure rfl rfl (PureAt.rem (a := l[i].kind) (b := 8) rfl rfl (by decide)) rfl ?_ | refine VD.take rfl rfl rfl (PureAt.rem (a := l[i].kind) (b := 8) rfl rfl (by decide)) rfl ?_ | refine VQ.pure rfl rfl (PureAt.rem (a := l[i].kind) (b := 8) rfl rfl (by decide)) rfl ?_ | refine VD.end rfl rfl rfl (OpV.pure (PureAt.rem (a := l[i].kind) (b := 8) rfl rfl (by decide)) rfl ?_))
        generalize l[i].kind % 8 = kk
        (refine w ?_; repeat ((first | refine VO.step rfl rfl ?_ | refine VD.end rfl rfl rfl ?_ | refine VD.mid rfl rfl rfl ?_); refine OpV.box rfl rfl rfl ?_; intro _; refine w ?_))
        (refine VC.cond rfl rfl ?_ ?_ <;> intro hc)
        · clear hc
          (refine w ?_; repeat ((first | refine VO.step rfl rfl ?_ | refine VD.end rfl rfl rfl ?_ | refine VD.mid rfl rfl rfl ?_); refine OpV.box rfl rfl rfl ?_; intro _; refine w ?_))
          have hlx := hy.lenX
          ((first | refine VO.step rfl rfl ?_ | refine VD.end rfl rfl rfl ?_ | refine VD.mid rfl rfl rfl ?_); refine OpV.call rfl rfl (fun _ _ => by simp) (liftstep_ok (R := BookQ bk y.B :: dlO b2 y.r y.ps y.x []) (by omega)) Ent.refl rfl ?_)
          intro c hc1
          rw [curC_P]
          (refine w ?_; repeat ((first | refine VO.step rfl rfl ?_ | refine VD.end rfl rfl rfl ?_ | refine VD.mid rfl rfl rfl ?_); refine OpV.box rfl rfl rfl ?_; intro _; refine w ?_))
          (first | refine VO.step rfl rfl ?_ | refine VD.end rfl rfl rfl ?_ | refine VD.mid rfl rfl rfl ?_)
          refine OpV.allocS sb_49 rfl ?_
          intro n11
          (first | refine VO.step rfl rfl ?_ | refine VD.end rfl rfl rfl ?_ | refine VD.mid rfl rfl rfl ?_)
          refine OpV.stA (vs := (curP c).cells) tab_ok rfl rfl rfl rfl (pat_one _) (by (repeat first | exact .head | apply Hole.tail)) (by simp) ?_
          (refine w ?_; repeat ((first | refine VO.step rfl rfl ?_ | refine VD.end rfl rfl rfl ?_ | refine VD.mid rfl rfl rfl ?_); refine OpV.box rfl rfl rfl ?_; intro _; refine w ?_))
          refine VO.ent (H' := dlO b2 y.r y.ps y.x (Row n11 49 (curP c).cells :: PilP c.toList :: LiftR b1 (rowOf y.r c) (psOf y.X c) :: BookQ bk y.B :: [])) Ent.re ?_
          ((first | refine VO.step rfl rfl ?_ | refine VD.end rfl rfl rfl ?_ | refine VD.mid rfl rfl rfl ?_); refine OpV.call rfl rfl (fun _ _ => by simp) (dstep_ok hy.one (fun p hp => (hy.all p hp).r.1) (by have := hy.len; omega)) Ent.refl rfl ?_)
          rintro ⟨d, x2⟩ hd1
          dsimp only at hd1 ⊢
          rw [curC_P]
          (refine w ?_; repeat ((first | refine VO.step rfl rfl ?_ | refine VD.end rfl rfl rfl ?_ | refine VD.mid rfl rfl rfl ?_); refine OpV.box rfl rfl rfl ?_; intro _; refine w ?_))
          (first | refine VO.step rfl rfl ?_ | refine VD.end rfl rfl rfl ?_ | refine VD.mid rfl rfl rfl ?_)
          refine OpV.allocS sb_49 rfl ?_
          intro n13
          (first | refine VO.step rfl rfl ?_ | refine VD.end rfl rfl rfl ?_ | refine VD.mid rfl rfl rfl ?_)
          refine OpV.stA (vs := (curP d).cells) tab_ok rfl rfl rfl rfl (pat_one _) (by (repeat first | exact .head | apply Hole.tail)) (by simp) ?_
          (refine w ?_; repeat ((first | refine VO.step rfl rfl ?_ | refine VD.end rfl rfl rfl ?_ | refine VD.mid rfl rfl rfl ?_); refine OpV.box rfl rfl rfl ?_; intro _; refine w ?_))
          obtain ⟨f1, f2, f3⟩ := StepP.same hy.oneX hy.same hc1 hd1
          have hib : c.isSome = d.isSome := by have := congrArg Option.isSome f1; simpa using this
          have hpD : (curP c).D = (curP d).D := by
            cases c with
            | none => cases d with
              | none => rfl
              | some q => cases hib
            | some p => cases d with
              | none => cases hib
              | some q => exact Option.some.inj f1
          refine VO.ent (Ent.trans (Ent.re (L := PilP c.toList :: Row n13 49 (curP d).cells :: Row n11 49 (curP c).cells :: PilP d.toList :: LiftR b1 (rowOf y.r c) (psOf y.X c) :: BookQ bk y.B :: dlO b2 (rowOf y.r d) (psOf y.ps d) x2 [])) cur_res) ?_
          refine VO.know (fun w hw => RowE.know hw) ?_
          intro hokc
          refine VO.ent (Ent.trans (Ent.re (L := PilP d.toList :: (curP c).d.res :: Row n13 49 (curP d).cells :: Row n11 49 (curP c).cells :: LiftR b1 (rowOf y.r c) (psOf y.X c) :: BookQ bk y.B :: dlO b2 (rowOf y.r d) (psOf y.ps d) x2 [])) cur_res) ?_
          refine VO.know (fun w hw => RowE.know hw) ?_
          intro hokd
          have hlenc : (curP c).d.data.length ≤ 1000000000 := by
            cases c with
            | none => simp [curP]
            | some p =>
              obtain ⟨q, hq, he⟩ := List.mem_map.1 (hy.same ▸ List.mem_map_of_mem (f := PatE.D) hc1.1)
              have h1 : q.d.data = p.d.data := congrArg PatD.data he
              have h2 := (hy.all q hq).n
              show p.d.data.length ≤ _
              rw [← h1, h2]; decide
          have hC := bkbytes_ok (W := W) (R := (curP d).d.res :: Row n13 49 (curP d).cells :: Row n11 49 (curP c).cells :: LiftR b1 (rowOf y.r c) (psOf y.X c) :: dlO b2 (rowOf y.r d) (psOf y.ps d) x2 []) bk y.B (eR (curP c).d) (by have := hy.bk.E; omega)
          rw [eR_hdr, eR_res] at hC
          refine VO.ent (H' := BookQ bk y.B :: (curP c).d.res :: (curP d).d.res :: Row n13 49 (curP d).cells :: Row n11 49 (curP c).cells :: LiftR b1 (rowOf y.r c) (psOf y.X c) :: dlO b2 (rowOf y.r d) (psOf y.ps d) x2 []) Ent.re ?_
          ((first | refine VO.step rfl rfl ?_ | refine VD.end rfl rfl rfl ?_ | refine VD.mid rfl rfl rfl ?_); refine OpV.call rfl rfl (fun _ _ => by simp) (hC) Ent.refl rfl ?_)
          intro _ _
          have hB2 := hy.bk.byte (e := eR (curP c).d) (by rw [eR_len]; exact hlenc)
          have hmB : eR (curP c).d ∈ y.B.E ++ [eR (curP c).d] := List.mem_append_right _ (.head _)
          have hB3 : ({ y.B with E := y.B.E ++ [eR (curP c).d] } : Bk).E = y.B.E ++ [eR (curP c).d] := rfl
          generalize ({ y.B with E := y.B.E ++ [eR (curP c).d] } : Bk) = B2 at hB2 hB3 ⊢
          rw [← hB3] at hmB
          (refine w ?_; repeat ((first | refine VO.step rfl rfl ?_ | refine VD.end rfl rfl rfl ?_ | refine VD.mid rfl rfl rfl ?_); refine OpV.box rfl rfl rfl ?_; intro _; refine w ?_))
          (first | refine VO.gF rfl rfl rfl (by simp [hib]) ?_ | refine VD.gF rfl rfl rfl (by simp [hib]) ?_)
          (refine w ?_; repeat ((first | refine VO.step rfl rfl ?_ | refine VD.end rfl rfl rfl ?_ | refine VD.mid rfl rfl rfl ?_); refine OpV.box rfl rfl rfl ?_; intro _; refine w ?_))
          refine VO.re 134 (.agg (curP c).cells.toArray) rfl rfl ?_
          (first | refine VO.step rfl rfl ?_ | refine VD.end rfl rfl rfl ?_ | refine VD.mid rfl rfl rfl ?_)
          refine OpV.buildSlice (cs := (curP c).cells) st_56 rfl rfl (by simp [Value.cells]) (by simp [Value.cells]) (by decide) rfl ?_
          intro nb1
          (refine w ?_; repeat ((first | refine VO.step rfl rfl ?_ | refine VD.end rfl rfl rfl ?_ | refine VD.mid rfl rfl rfl ?_); refine OpV.box rfl rfl rfl ?_; intro _; refine w ?_))
          refine VO.re 136 (.agg (curP d).cells.toArray) rfl rfl ?_
          (first | refine VO.step rfl rfl ?_ | refine VD.end rfl rfl rfl ?_ | refine VD.mid rfl rfl rfl ?_)
          refine OpV.buildSlice (cs := (curP d).cells) st_56 rfl rfl (by simp [Value.cells]) (by simp [Value.cells]) (by decide) rfl ?_
          intro nb2
          (refine w ?_; repeat ((first | refine VO.step rfl rfl ?_ | refine VD.end rfl rfl rfl ?_ | refine VD.mid rfl rfl rfl ?_); refine OpV.box rfl rfl rfl ?_; intro _; refine w ?_))
          ((first | refine VO.step rfl rfl ?_ | refine VD.end rfl rfl rfl ?_ | refine VD.mid rfl rfl rfl ?_); refine OpV.call rfl rfl (fun _ _ => by simp) (samepats_ok (l := [curP c]) (m := [curP d]) (pat1_rd (b := nb1) (by (focus repeat first | exact .head _ | apply List.Mem.tail)) (BookQ.row (b := bk) (B := B2) (by (focus repeat first | exact .head _ | apply List.Mem.tail)) hmB hokc) hokc) (pat1_rd (b := nb2) (by (focus repeat first | exact .head _ | apply List.Mem.tail)) (RowE.rds hokd (by (focus repeat first | exact .head _ | apply List.Mem.tail))) hokd) (by simp) (by intro p hp; rw [List.mem_singleton] at hp; subst hp; exact Nat.le_trans hlenc (by decide))) Ent.refl rfl ?_)
          intro _ _
          rw [decide_eq_true (show [curP c].map PatE.D = [curP d].map PatE.D by simp only [List.map_cons, List.map_nil, hpD])]
          (refine w ?_; repeat ((first | refine VO.step rfl rfl ?_ | refine VD.end rfl rfl rfl ?_ | refine VD.mid rfl rfl rfl ?_); refine OpV.box rfl rfl rfl ?_; intro _; refine w ?_))
          refine jn.to (⟨rowOf y.r c, psOf y.X c, psOf y.ps d, x2, B2⟩ : DoX) ⟨f2, ?_, ?_, ?_, hB2⟩ ⟨rfl, rfl, rfl, rfl, rfl, rfl, trivial⟩ (by dsimp only [doM]; rw [f3]; exact Ent.re)
          · have h1 := (Take.nil.step hd1).sub hy.one
            exact h1.1
          · intro p hp
            exact hy.all p (((Take.nil.step hd1).sub hy.one).2 p hp)
          · have h1 := psOf_le hd1
            have h2 := hy.len
            show (psOf y.ps d).length ≤ i + 1
            omega
        · clear hc
          (refine w ?_; repeat ((first | refine VO.step rfl rfl ?_ | refine VD.end rfl rfl rfl ?_ | refine VD.mid rfl rfl rfl ?_); refine OpV.box rfl rfl rfl ?_; intro _; refine w ?_))
          (refine VC.cond rfl rfl ?_ ?_ <;> intro hc)
          · clear hc
            (refine w ?_; repeat ((first | refine VO.step rfl rfl ?_ | refine VD.end rfl rfl rfl ?_ | refine VD.mid rfl rfl rfl ?_); refine OpV.box rfl rfl rfl ?_; intro _; refine w ?_))
            have hlx := hy.lenX
            ((first | refine VO.step rfl rfl ?_ | refine VD.end rfl rfl rfl ?_ | refine VD.mid rfl rfl rfl ?_); refine OpV.call rfl rfl (fun _ _ => by simp) (liftall_ok (R := BookQ bk y.B :: dlO b2 y.r y.ps y.x []) (by omega)) Ent.refl rfl ?_)
            rintro ⟨z, L, r1⟩ ht
            dsimp only at ht ⊢
            (refine w ?_; repeat ((first | refine VO.step rfl rfl ?_ | refine VD.end rfl rfl rfl ?_ | refine VD.mid rfl rfl rfl ?_); refine OpV.box rfl rfl rfl ?_; intro _; refine w ?_))
            refine VO.ent (H' := dlO b2 y.r y.ps y.x (PatsO z L :: PilP L :: LiftR b1 r1 [] :: BookQ bk y.B :: [])) Ent.re ?_
            ((first | refine VO.step rfl rfl ?_ | refine VD.end rfl rfl rfl ?_ | refine VD.mid rfl rfl rfl ?_); refine OpV.call rfl rfl (fun _ _ => by simp) (dall_ok hy.one (fun p hp => (hy.all p hp).r.1) (by have := hy.len; omega)) Ent.refl rfl ?_)
            rintro ⟨z2, L2, r2, x2⟩ ht2
            dsimp only at ht2 ⊢
            obtain ⟨f1, rfl⟩ := Take.same y.X.length (Nat.le_refl _) hy.oneX (hy.same ▸ List.Perm.refl _) ht ht2
            refine VO.know (p := (z.1 = none → L.length = 0) ∧ (z2.1 = none → L2.length = 0) ∧ (∀ p ∈ L, p.d.ok) ∧ ∀ p ∈ L2, p.d.ok) (fun w hw => ⟨Holds.ownNone hw (by (focus repeat first | exact .head _ | apply List.Mem.tail)), Holds.ownNone hw (.head _), pilp_know (by (focus repeat first | exact .head _ | apply List.Mem.tail)) hw, pilp_know (.tail _ (.head _)) hw⟩) ?_
            rintro ⟨hz, hz2, hokL, hokL2⟩
            have hLl : L.length ≤ 1000 := by have := ht.length; omega
            have hLd : ∀ p ∈ L, p.d.data.length ≤ 1000000000 := fun p hp => by
              have h0 : p ∈ y.X := by
                have := (ht.perm hy.oneX).subset (List.mem_append_left [] hp)
                exact this
              obtain ⟨q, hq, he⟩ := List.mem_map.1 (hy.same ▸ List.mem_map_of_mem (f := PatE.D) h0)
              have h1 : q.d.data = p.d.data := congrArg PatD.data he
              have h2 := (hy.all q hq).n
              rw [← h1, h2]; decide
            (refine w ?_; repeat ((first | refine VO.step rfl rfl ?_ | refine VD.end rfl rfl rfl ?_ | refine VD.mid rfl rfl rfl ?_); refine OpV.box rfl rfl rfl ?_; intro _; refine w ?_))
            refine VO.ent (H' := BookQ bk y.B :: PatsO z L :: PilP L :: PatsO z2 L2 :: PilP L2 :: LiftR b1 r1 [] :: dlO b2 r1 [] x2 []) Ent.re ?_
            ((first | refine VO.step rfl rfl ?_ | refine VD.end rfl rfl rfl ?_ | refine VD.mid rfl rfl rfl ?_); refine OpV.call rfl rfl (fun _ _ => by simp) (bkpats_ok bk y.B z L hz (by have := hy.bk.E; omega) (by have := hy.bk.P; omega)) Ent.refl rfl ?_)
            intro _ _
            have hB2 := hy.bk.pats (z := z) hLl hLd
            have hmE : ∀ e ∈ eP L, e ∈ y.B.E ++ eP L := fun e he => List.mem_append_right _ he
            have hmP : patsN z L ∈ y.B.P ++ [patsN z L] := List.mem_append_right _ (.head _)
            have hB3 : ({ y.B with E := y.B.E ++ eP L, P := y.B.P ++ [patsN z L] } : Bk).E = y.B.E ++ eP L := rfl
            have hB4 : ({ y.B with E := y.B.E ++ eP L, P := y.B.P ++ [patsN z L] } : Bk).P = y.B.P ++ [patsN z L] := rfl
            generalize ({ y.B with E := y.B.E ++ eP L, P := y.B.P ++ [patsN z L] } : Bk) = B2 at hB2 hB3 hB4 ⊢
            rw [← hB3] at hmE
            rw [← hB4] at hmP
            (refine w ?_; repeat ((first | refine VO.step rfl rfl ?_ | refine VD.end rfl rfl rfl ?_ | refine VD.mid rfl rfl rfl ?_); refine OpV.box rfl rfl rfl ?_; intro _; refine w ?_))
            ((first | refine VO.step rfl rfl ?_ | refine VD.end rfl rfl rfl ?_ | refine VD.mid rfl rfl rfl ?_); refine OpV.call rfl rfl (fun _ _ => by simp) (samepats_ok (l := L) (m := L2) (BookQ.pats (b := bk) (B := B2) (z := z) (by (focus repeat first | exact .head _ | apply List.Mem.tail)) hmE hmP hz hokL) (RdPats.own (x := z2) hz2 hokL2 (by (focus repeat first | exact .head _ | apply List.Mem.tail)) (by (focus repeat first | exact .head _ | apply List.Mem.tail))) (by omega) (fun p hp => Nat.le_trans (hLd p hp) (by decide))) Ent.refl rfl ?_)
            intro _ _
            rw [decide_eq_true f1]
            (refine w ?_; repeat ((first | refine VO.step rfl rfl ?_ | refine VD.end rfl rfl rfl ?_ | refine VD.mid rfl rfl rfl ?_); refine OpV.box rfl rfl rfl ?_; intro _; refine w ?_))
            refine jn.to (⟨r1, [], [], x2, B2⟩ : DoX) ⟨rfl, List.nodup_nil, fun p h => (by cases h), Nat.zero_le _, hB2⟩ ⟨rfl, rfl, rfl, rfl, rfl, rfl, trivial⟩ Ent.re
          · clear hc
            (refine w ?_; repeat ((first | refine VO.step rfl rfl ?_ | refine VD.end rfl rfl rfl ?_ | refine VD.mid rfl rfl rfl ?_); refine OpV.box rfl rfl rfl ?_; intro _; refine w ?_))
            (refine VC.cond rfl rfl ?_ ?_ <;> intro hc)
            · clear hc
              (refine w ?_; repeat ((first | refine VO.step rfl rfl ?_ | refine VD.end rfl rfl rfl ?_ | refine VD.mid rfl rfl rfl ?_); refine OpV.box rfl rfl rfl ?_; intro _; refine w ?_))
              exact jn.to y ⟨hy.same, hy.one, hy.all, Nat.le_succ_of_le hy.len, hy.bk.mono (by omega)⟩ ⟨rfl, rfl, rfl, rfl, rfl, rfl, trivial⟩ Ent.refl
            · clear hc
              have hlp := lact_pat l i hlt
              generalize hp0 : l[i].p = p at hw hdl hlp ⊢
              have hwp : p.wf W := hp0 ▸ hw.p
              have hm1 : ∀ q ∈ [p], q.d.data.length ≤ 1000000000 := fun q hq => by rw [List.mem_singleton] at hq; subst hq; omega
              have hm2 : ∀ q ∈ [p], RdsA W 1 q.d.ao q.d.data.length (bytes q.d.data) := fun q hq => by rw [List.mem_singleton] at hq; subst hq; exact hwp.rd
              (refine w ?_; repeat ((first | refine VO.step rfl rfl ?_ | refine VD.end rfl rfl rfl ?_ | refine VD.mid rfl rfl rfl ?_); refine OpV.box rfl rfl rfl ?_; intro _; refine w ?_))
              (first | refine VO.pure rfl rfl (PureAt.ldRA tab_ok rfl rfl (hA _) hlp rfl) rfl ?_ | refine VD.take rfl rfl rfl (PureAt.ldRA tab_ok rfl rfl (hA _) hlp rfl) rfl ?_ | refine VQ.pure rfl rfl (PureAt.ldRA tab_ok rfl rfl (hA _) hlp rfl) rfl ?_ | refine VD.end rfl rfl rfl (OpV.pure (PureAt.ldRA tab_ok rfl rfl (hA _) hlp rfl) rfl ?_))
              (refine w ?_; repeat ((first | refine VO.step rfl rfl ?_ | refine VD.end rfl rfl rfl ?_ | refine VD.mid rfl rfl rfl ?_); refine OpV.box rfl rfl rfl ?_; intro _; refine w ?_))
              (first | refine VO.step rfl rfl ?_ | refine VD.end rfl rfl rfl ?_ | refine VD.mid rfl rfl rfl ?_)
              refine OpV.buildSlice (cs := p.cells) st_56 rfl rfl (by simp [Value.cells]) (by simp [Value.cells]) (by decide) rfl ?_
              intro nb
              (refine w ?_; repeat ((first | refine VO.step rfl rfl ?_ | refine VD.end rfl rfl rfl ?_ | refine VD.mid rfl rfl rfl ?_); refine OpV.box rfl rfl rfl ?_; intro _; refine w ?_))
              ((first | refine VO.step rfl rfl ?_ | refine VD.end rfl rfl rfl ?_ | refine VD.mid rfl rfl rfl ?_); refine OpV.call rfl rfl (fun _ _ => by simp) (lentpatsR_ok (l := [p]) (pat1_rd (.head _) (hwp.rd _) hwp.ok) (by simp) hm1) Ent.refl rfl ?_)
              rintro ⟨es, ea, ec⟩ hes
              dsimp only at hes ⊢
              have hel : es.length = 1 := hes.len
              obtain ⟨e0, rfl⟩ : ∃ e, es = [e] := by
                match es, hel with
                | [e], _ => exact ⟨e, rfl⟩
              have hrdl : ∀ H : List SProp, LentA [p] [e0] ea ec ∈ H → RdPats W H (some ea) [p.lend e0] := fun H hm => hes.rd hm
              (refine w ?_; repeat ((first | refine VO.step rfl rfl ?_ | refine VD.end rfl rfl rfl ?_ | refine VD.mid rfl rfl rfl ?_); refine OpV.box rfl rfl rfl ?_; intro _; refine w ?_))
              refine VO.re 85 (.slice (some ea) 1 ec) rfl rfl ?_
              (refine w ?_; repeat ((first | refine VO.step rfl rfl ?_ | refine VD.end rfl rfl rfl ?_ | refine VD.mid rfl rfl rfl ?_); refine OpV.box rfl rfl rfl ?_; intro _; refine w ?_))
              (first | refine VO.pure rfl rfl (PureAt.ldRA tab_ok rfl rfl (hrdl _ (.head _)).rds (vs := (p.lend e0).cells) rfl rfl) rfl ?_ | refine VD.take rfl rfl rfl (PureAt.ldRA tab_ok rfl rfl (hrdl _ (.head _)).rds (vs := (p.lend e0).cells) rfl rfl) rfl ?_ | refine VQ.pure rfl rfl (PureAt.ldRA tab_ok rfl rfl (hrdl _ (.head _)).rds (vs := (p.lend e0).cells) rfl rfl) rfl ?_ | refine VD.end rfl rfl rfl (OpV.pure (PureAt.ldRA tab_ok rfl rfl (hrdl _ (.head _)).rds (vs := (p.lend e0).cells) rfl rfl) rfl ?_))
              (refine w ?_; repeat ((first | refine VO.step rfl rfl ?_ | refine VD.end rfl rfl rfl ?_ | refine VD.mid rfl rfl rfl ?_); refine OpV.box rfl rfl rfl ?_; intro _; refine w ?_))
              have hE1 : Ent W (LentA [p] [e0] ea ec :: Row nb 49 p.cells :: doM b1 b2 bk y []) (LiftR b1 y.r y.X :: LentA [p] [e0] ea ec :: Row nb 49 p.cells :: BookQ bk y.B :: dlO b2 y.r y.ps y.x []) := Ent.re
              refine VO.ent hE1 ?_
              ((first | refine VO.step rfl rfl ?_ | refine VD.end rfl rfl rfl ?_ | refine VD.mid rfl rfl rfl ?_); refine OpV.call rfl rfl (fun _ _ => by simp) (liftputU_ok (p := p.lend e0) ((hrdl _ (.head _)).each _ (.head _)) (by have := hy.lenX; omega)) Ent.refl rfl ?_)
              intro u _
              (refine w ?_; repeat ((first | refine VO.step rfl rfl ?_ | refine VD.end rfl rfl rfl ?_ | refine VD.mid rfl rfl rfl ?_); refine OpV.box rfl rfl rfl ?_; intro _; refine w ?_))
              (first | refine VO.pure rfl rfl (PureAt.ldRA tab_ok rfl rfl (hA _) hlp rfl) rfl ?_ | refine VD.take rfl rfl rfl (PureAt.ldRA tab_ok rfl rfl (hA _) hlp rfl) rfl ?_ | refine VQ.pure rfl rfl (PureAt.ldRA tab_ok rfl rfl (hA _) hlp rfl) rfl ?_ | refine VD.end rfl rfl rfl (OpV.pure (PureAt.ldRA tab_ok rfl rfl (hA _) hlp rfl) rfl ?_))
              (refine w ?_; repeat ((first | refine VO.step rfl rfl ?_ | refine VD.end rfl rfl rfl ?_ | refine VD.mid rfl rfl rfl ?_); refine OpV.box rfl rfl rfl ?_; intro _; refine w ?_))
              refine VO.ent (H' := dlO b2 y.r y.ps y.x (LiftR b1 y.r (putU y.X (p.lend e0) u) :: LentA [p] [e0] ea ec :: Row nb 49 p.cells :: BookQ bk y.B :: [])) Ent.re ?_
              ((first | refine VO.step rfl rfl ?_ | refine VD.end rfl rfl rfl ?_ | refine VD.mid rfl rfl rfl ?_); refine OpV.call rfl rfl (fun _ _ => by simp) (dliftputU_ok (p := p) hy.one (hwp.rd _) (by have := hy.len; omega)) Ent.refl rfl ?_)
              rintro ⟨x2, v⟩ _
              dsimp only
              (refine w ?_; repeat ((first | refine VO.step rfl rfl ?_ | refine VD.end rfl rfl rfl ?_ | refine VD.mid rfl rfl rfl ?_); refine OpV.box rfl rfl rfl ?_; intro _; refine w ?_))
              (first | refine VO.pure rfl rfl (PureAt.ldRA tab_ok rfl rfl (hA _) hlp rfl) rfl ?_ | refine VD.take rfl rfl rfl (PureAt.ldRA tab_ok rfl rfl (hA _) hlp rfl) rfl ?_ | refine VQ.pure rfl rfl (PureAt.ldRA tab_ok rfl rfl (hA _) hlp rfl) rfl ?_ | refine VD.end rfl rfl rfl (OpV.pure (PureAt.ldRA tab_ok rfl rfl (hA _) hlp rfl) rfl ?_))
              (refine w ?_; repeat ((first | refine VO.step rfl rfl ?_ | refine VD.end rfl rfl rfl ?_ | refine VD.mid rfl rfl rfl ?_); refine OpV.box rfl rfl rfl ?_; intro _; refine w ?_))
              (first | refine VO.step rfl rfl ?_ | refine VD.end rfl rfl rfl ?_ | refine VD.mid rfl rfl rfl ?_)
              refine OpV.buildSlice (cs := p.cells) st_56 rfl rfl (by simp [Value.cells]) (by simp [Value.cells]) (by decide) rfl ?_
              intro nb2
              (refine w ?_; repeat ((first | refine VO.step rfl rfl ?_ | refine VD.end rfl rfl rfl ?_ | refine VD.mid rfl rfl rfl ?_); refine OpV.box rfl rfl rfl ?_; intro _; refine w ?_))
              refine VO.ent (H' := LentA [p] [e0] ea ec :: Row nb2 49 p.cells :: LiftR b1 y.r (putU y.X (p.lend e0) u) :: BookQ bk y.B :: dlO b2 y.r (putU y.ps p v) x2 []) Ent.re ?_
              ((first | refine VO.step rfl rfl ?_ | refine VD.end rfl rfl rfl ?_ | refine VD.mid rfl rfl rfl ?_); refine OpV.call rfl rfl (fun _ _ => by simp) (wholepatsRA_ok hes (pat1_rd (.head _) (hwp.rd _) hwp.ok) hm2 (by simp) hm1) Ent.refl rfl ?_)
              intro _ _
              (refine w ?_; repeat ((first | refine VO.step rfl rfl ?_ | refine VD.end rfl rfl rfl ?_ | refine VD.mid rfl rfl rfl ?_); refine OpV.box rfl rfl rfl ?_; intro _; refine w ?_))
              ((first | refine VO.step rfl rfl ?_ | refine VD.end rfl rfl rfl ?_ | refine VD.mid rfl rfl rfl ?_); refine OpV.call rfl rfl (fun _ _ => by simp) (spoilpatsA_ok hes (by simp)) Ent.refl rfl ?_)
              intro _ _
              (refine w ?_; repeat ((first | refine VO.step rfl rfl ?_ | refine VD.end rfl rfl rfl ?_ | refine VD.mid rfl rfl rfl ?_); refine OpV.box rfl rfl rfl ?_; intro _; refine w ?_))
              have hpe : putErr (p.lend e0) = putErr p := putErr_D (lendD p e0)
              have hps : putErr p ≤ 4 := by
                unfold putErr
                split
                · split <;> omega
                · omega
              (first | refine VO.gF rfl rfl rfl (by rw [hpe, IntWalk.i64_in _ ⟨by omega, by omega⟩]; simp) ?_ | refine VD.gF rfl rfl rfl (by rw [hpe, IntWalk.i64_in _ ⟨by omega, by omega⟩]; simp) ?_)
              (refine w ?_; repeat ((first | refine VO.step rfl rfl ?_ | refine VD.end rfl rfl rfl ?_ | refine VD.mid rfl rfl rfl ?_); refine OpV.box rfl rfl rfl ?_; intro _; refine w ?_))
              exact jn.to (⟨y.r, putU y.X (p.lend e0) u, putU y.ps p v, x2, y.B⟩ : DoX) (hy.put (lendD p e0) u v x2) ⟨rfl, rfl, rfl, rfl, rfl, rfl, trivial⟩ Ent.re
      · intro y2 hy2
        (refine w ?_; repeat ((first | refine VO.step rfl rfl ?_ | refine VD.end rfl rfl rfl ?_ | refine VD.mid rfl rfl rfl ?_); refine OpV.box rfl rfl rfl ?_; intro _; refine w ?_))
        (refine VC.drawn [1, 10] 15 [0, 2, 3, 4, 5, 6, 1, 7, 8, 9, 11, 12, 13, 14, 10, 15, 16] _ rfl (by kernel_rfl) (by kernel_rfl) Ent.re ?_)
        (refine w ?_; repeat ((first | refine VO.step rfl rfl ?_ | refine VD.end rfl rfl rfl ?_ | refine VD.mid rfl rfl rfl ?_); refine OpV.box rfl rfl rfl ?_; intro _; refine w ?_))
        ((first | refine VO.step rfl rfl ?_ | refine VD.end rfl rfl rfl ?_ | refine VD.mid rfl rfl rfl ?_); refine OpV.call rfl rfl (fun _ _ => by simp) (liftlen_ok (b := b1) (r := y2.r) (ps := y2.X)) Ent.refl rfl ?_)
        intro _ _
        refine ⟨Ent.re, ?_⟩
        (refine w ?_; repeat ((first | refine VO.step rfl rfl ?_ | refine VD.end rfl rfl rfl ?_ | refine VD.mid rfl rfl rfl ?_); refine OpV.box rfl rfl rfl ?_; intro _; refine w ?_))
        (first | refine VO.gF rfl rfl rfl (by have := congrArg List.length hy2.same; simp at this; simp [this]) ?_ | refine VD.gF rfl rfl rfl (by have := congrArg List.length hy2.same; simp at this; simp [this]) ?_)
        (refine w ?_; repeat ((first | refine VO.step rfl rfl ?_ | refine VD.end rfl rfl rfl ?_ | refine VD.mid rfl rfl rfl ?_); refine OpV.box rfl rfl rfl ?_; intro _; refine w ?_))
        ((first | refine VO.step rfl rfl ?_ | refine VD.end rfl rfl rfl ?_ | refine VD.mid rfl rfl rfl ?_); refine OpV.call rfl rfl (fun _ _ => by simp) (liftrow_ok (b := b1) (r := y2.r) (ps := y2.X)) Ent.refl rfl ?_)
        intro _ _
        refine ⟨Ent.re, ?_⟩
        (refine w ?_; repeat ((first | refine VO.step rfl rfl ?_ | refine VD.end rfl rfl rfl ?_ | refine VD.mid rfl rfl rfl ?_); refine OpV.box rfl rfl rfl ?_; intro _; refine w ?_))
        (refine VC.condFe rfl rfl (by simp) ?_)
        (refine w ?_; repeat ((first | refine VO.step rfl rfl ?_ | refine VD.end rfl rfl rfl ?_ | refine VD.mid rfl rfl rfl ?_); refine OpV.box rfl rfl rfl ?_; intro _; refine w ?_))
        exact VE.round (i + 1, y2) ⟨hlt, hy2⟩ (by dsimp only; omega) ⟨rfl, rfl, rfl, rfl, rfl, asV rfl (by congr 1), trivial⟩ Ent.refl
    · have hge : l.length ≤ i := by have := of_decide_eq_false hc; omega
      clear hc
      (refine w ?_; repeat ((first | refine VO.step rfl rfl ?_ | refine VD.end rfl rfl rfl ?_ | refine VD.mid rfl rfl rfl ?_); refine OpV.box rfl rfl rfl ?_; intro _; refine w ?_))
      refine VO.ent (H' := BookQ bk y.B :: []) Ent.re ?_
      ((first | refine VO.step rfl rfl ?_ | refine VD.end rfl rfl rfl ?_ | refine VD.mid rfl rfl rfl ?_); refine OpV.call rfl rfl (fun _ _ => by simp) (bkown_ok bk y.B (hy.bk.ok (by omega))) Ent.refl rfl ?_)
      intro _ _
      (refine w ?_; repeat ((first | refine VO.step rfl rfl ?_ | refine VD.end rfl rfl rfl ?_ | refine VD.mid rfl rfl rfl ?_); refine OpV.box rfl rfl rfl ?_; intro _; refine w ?_))
      (refine VE.done1 rfl ?_ ?_)
      · rfl
      · exact Ent.re
  · have hr2 : r < 0 ∨ 4095 < r := by omega
    ((first | refine VO.step rfl rfl ?_ | refine VD.end rfl rfl rfl ?_ | refine VD.mid rfl rfl rfl ?_); refine OpV.call rfl rfl (fun _ _ => by simp) (liftnew_bad (R := []) hr2) Ent.refl rfl ?_)
    intro _ _
    (refine w ?_; repeat ((first | refine VO.step rfl rfl ?_ | refine VD.end rfl rfl rfl ?_ | refine VD.mid rfl rfl rfl ?_); refine OpV.box rfl rfl rfl ?_; intro _; refine w ?_))
    ((first | refine VO.step rfl rfl ?_ | refine VD.end rfl rfl rfl ?_ | refine VD.mid rfl rfl rfl ?_); refine OpV.call rfl rfl (fun _ _ => by simp) (dliftnew_bad (R := []) hr2) Ent.refl rfl ?_)
    intro _ _
    (refine w ?_; repeat ((first | refine VO.step rfl rfl ?_ | refine VD.end rfl rfl rfl ?_ | refine VD.mid rfl rfl rfl ?_); refine OpV.box rfl rfl rfl ?_; intro _; refine w ?_))
    (refine VE.done1 rfl ?_ ?_)
    · rfl
    · exact Ent.re
end Go.Proofs.Ytpmmkmcbimnigaa

