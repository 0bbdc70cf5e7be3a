/- VoteTwo: the walk. -/
import Derived.Test.YtlflmnmkgaeabaaVp
set_option maxRecDepth 8000
set_option linter.unusedVariables false
set_option linter.unusedSimpArgs false
set_option linter.unusedSectionVars false
namespace Go.Proofs.Ytlflmnmkgaeabaa
open Go.RowKit Go.Sl
attribute [local irreducible] Own

/-- The plain law: two that are not there, or not up. -/
theorem two_law {L : List BalD} (hl : L.length = 4) (hs : ∀ j x, L[j]? = some x → Std x j) (h3 : ∀ x, L[3]? = some x → x.has = true) {ia ib : Nat} (hia : ia < 3) (hib : ib < 3) (hne : ia ≠ ib)
    (ha : ∀ x, L[ia]? = some x → x.has = false) (hb : (∀ x, L[ib]? = some x → x.has = false) ∨ (∀ x, L[3]? = some x → stAt x.s.states ib ≠ 1)) : chooseM L = (152, noneV) := by
  rw [std_all hl hs h3]
  refine if_pos ?_
  have hx3 := List.getElem?_eq_getElem (l := L) (i := 3) (by omega)
  have e3 : supAt L 3 = (L[3]'(by omega)).s := supAt_get L 3 (by omega)
  have c : ∀ m, m < 3 → (m = ia ∨ m = ib) → (stAt (supAt L 3).states m != 1 || !fitM L (supAt L 3).safe (supAt L 3).states m) = true := by
    intro m hm h
    have hxm := List.getElem?_eq_getElem (l := L) (i := m) (by omega)
    have hno : ∀ x, L[m]? = some x → x.has = false → (stAt (supAt L 3).states m != 1 || !fitM L (supAt L 3).safe (supAt L 3).states m) = true := by
      intro x hx hf
      rw [fit_std hl hx (hs m x hx), hf]
      simp
    rcases h with rfl | rfl
    · exact hno _ hxm (ha _ hxm)
    · rcases hb with hb | hb
      · exact hno _ hxm (hb _ hxm)
      · have := hb _ hx3
        rw [e3]
        simp [this]
  simp only [awayM]
  have p := c 0 (by omega)
  have q := c 1 (by omega)
  have r := c 2 (by omega)
  generalize (stAt (supAt L 3).states 0 != 1 || !fitM L (supAt L 3).safe (supAt L 3).states 0) = A at p ⊢
  generalize (stAt (supAt L 3).states 1 != 1 || !fitM L (supAt L 3).safe (supAt L 3).states 1) = B at q ⊢
  generalize (stAt (supAt L 3).states 2 != 1 || !fitM L (supAt L 3).safe (supAt L 3).states 2) = C at r ⊢
  clear c hx3 e3 ha hb hs h3 hl
  have hp : A = false → 0 ≠ ia ∧ 0 ≠ ib := fun h => ⟨fun e => (by rw [p (.inl e)] at h; cases h), fun e => (by rw [p (.inr e)] at h; cases h)⟩
  have hq : B = false → 1 ≠ ia ∧ 1 ≠ ib := fun h => ⟨fun e => (by rw [q (.inl e)] at h; cases h), fun e => (by rw [q (.inr e)] at h; cases h)⟩
  have hr : C = false → 2 ≠ ia ∧ 2 ≠ ib := fun h => ⟨fun e => (by rw [r (.inl e)] at h; cases h), fun e => (by rw [r (.inr e)] at h; cases h)⟩
  clear p q r
  cases A <;> cases B <;> cases C <;> simp only [true_implies, Bool.true_eq_false, Bool.false_eq_true, false_implies, if_true, if_false] at hp hq hr ⊢ <;> omega

def turnB (st : List UInt8) (ns : List Nat) (l : List BalD) : List BalD := l.mapIdx fun j x => match ns[j]? with
  | some n => ⟨x.has, { x.s with so := some ⟨n, 0, none⟩, sc := 3, states := st }⟩
  | none => x
@[simp] theorem turnB_length (st : List UInt8) (ns : List Nat) (l : List BalD) : (turnB st ns l).length = l.length := by simp [turnB]
theorem turnB_nil (st : List UInt8) (l : List BalD) : turnB st [] l = l := by
  apply List.ext_getElem (by simp)
  intro j h1 h2
  simp [turnB]
theorem turnB_get (st : List UInt8) (ns : List Nat) (l : List BalD) (j : Nat) (h : j < l.length) : (turnB st ns l)[j]'(by simpa using h) = match ns[j]? with
  | some n => ⟨l[j].has, { l[j].s with so := some ⟨n, 0, none⟩, sc := 3, states := st }⟩
  | none => l[j] := by simp [turnB]
theorem turnB_push (st : List UInt8) (ns : List Nat) (n : Nat) (l : List BalD) (h : ns.length < l.length) : turnB st (ns ++ [n]) l = (turnB st ns l).set ns.length ⟨l[ns.length].has, { l[ns.length].s with so := some ⟨n, 0, none⟩, sc := 3, states := st }⟩ := by
  apply List.ext_getElem (by simp)
  intro j h1 h2
  have hj : j < l.length := by simpa using h1
  rw [turnB_get _ _ _ j hj, List.getElem_set]
  by_cases e : ns.length = j
  · subst e; rw [if_pos rfl, List.getElem?_append_right (Nat.le_refl _), Nat.sub_self]; rfl
  · rw [if_neg e, turnB_get _ _ _ j hj]
    by_cases q : j < ns.length
    · rw [List.getElem?_append_left q]
    · rw [List.getElem?_eq_none (show (ns ++ [n]).length ≤ j by rw [List.length_append, List.length_singleton]; omega), List.getElem?_eq_none (show ns.length ≤ j by omega)]
abbrev rowS (st : List UInt8) (n : Nat) : SProp := Row n 59 (bytes st)
theorem good_set (ib : Nat) (v : UInt8) (hib : ib < 3) (hv : v = 1 ∨ v = 2 ∨ v = 3) : goodSt (([1, 1, 1] : List UInt8).set ib v) 3 := by
  have hc : ib = 0 ∨ ib = 1 ∨ ib = 2 := by omega
  rcases hc with rfl | rfl | rfl <;> rcases hv with rfl | rfl | rfl <;> exact (goodB_iff _ 3 (by decide)).1 (by decide)

/-- What the walk knows of the laws' ballots as they come. -/
theorem bals_std (e : Nat) (bs : List Nat) (hb : bs.length = 4) (h1 : 1 ≤ e) (h2 : e ≤ 4611686018427387904) (j : Nat) (x : BalD) (h : (balsOf e bs)[j]? = some x) : Std x j ∧ x.has = true ∧ x.s.events = e ∧ x.s.safe = 1 ∧ (∃ n ∈ bs, x.s.so = some ⟨n, 0, none⟩) ∧ x.s.states = [1, 1, 1] := by
  simp only [balsOf, List.getElem?_mapIdx, Option.map_eq_some_iff] at h
  obtain ⟨n, hn, rfl⟩ := h
  exact ⟨⟨rfl, rfl, ⟨rfl, rfl, rfl⟩, rfl, rfl, rfl, rfl, (goodB_iff [1, 1, 1] 3 (by decide)).1 (by decide), h2, ⟨Nat.le_refl _, h1⟩, rfl⟩, rfl, rfl, rfl, ⟨n, List.mem_of_getElem? hn, rfl⟩, rfl⟩
theorem set_get {α : Type} {l : List α} {i j : Nat} {a x : α} (h : (l.set i a)[j]? = some x) : (j = i ∧ x = a ∧ i < l.length) ∨ (j ≠ i ∧ l[j]? = some x) := by
  rw [List.getElem?_set] at h
  split at h
  · rename_i e
    split at h
    · cases h; exact .inl ⟨e.symm, rfl, by assumption⟩
    · cases h
  · rename_i e; exact .inr ⟨fun q => e q.symm, h⟩

set_option maxHeartbeats 8000000 in
theorem two_ok {W : World} (ev one two how : Nat) (hev : ev ≤ 65535) (h1 : one ≤ 255) (h2 : two ≤ 255) (h3 : how ≤ 255) :
    Does1 W Try.prog 8 [.int .u16 ev, .int .u8 one, .int .u8 two, .int .u8 how] [] (.bool true) [] := by
  (refine Does.enter Try.func8 Try.ntmps8 rfl rfl ?_)
  (refine w ?_; repeat ((first | refine VO.step rfl rfl ?_ | refine VD.end rfl rfl rfl ?_ | refine VD.mid rfl rfl rfl ?_); refine OpV.box rfl rfl rfl ?_; intro _; refine w ?_))
  refine VO.re 18 (.int .u64 ((ev + 1 : Nat) : Int)) rfl (by rw [IntWalk.u64_in (ev : Int) ⟨by omega, by omega⟩, IntWalk.u64_in _ ⟨by omega, by omega⟩]; rfl) ?_
  ((first | refine VO.step rfl rfl ?_ | refine VD.end rfl rfl rfl ?_ | refine VD.mid rfl rfl rfl ?_); refine OpV.call rfl rfl (fun _ _ => by simp) (ballots_ok (ev + 1)) Ent.refl rfl ?_)
  rintro ⟨bs, ao, cap⟩ hbs
  dsimp only at hbs ⊢
  refine VO.know (p := ao = none → 4 = 0) (fun w hw => Holds.ownNone hw (.head _)) ?_
  intro hn
  obtain ⟨la, rfl⟩ : ∃ x, ao = some x := by cases ao with | none => exact absurd (hn rfl) (by decide) | some x => exact ⟨x, rfl⟩
  obtain ⟨ia, hia, hia3⟩ : ∃ ia, ia = one % 3 ∧ ia < 3 := ⟨_, rfl, Nat.mod_lt _ (by decide)⟩
  obtain ⟨ib, hib, hib3⟩ : ∃ ib, ib = (ia + 1 + two % 2) % 3 ∧ ib < 3 := ⟨_, rfl, Nat.mod_lt _ (by decide)⟩
  have hne : ia ≠ ib := by omega
  (refine w ?_; repeat ((first | refine VO.step rfl rfl ?_ | refine VD.end rfl rfl rfl ?_ | refine VD.mid rfl rfl rfl ?_); refine OpV.box rfl rfl rfl ?_; intro _; refine w ?_))
  refine VO.re 21 (.int .i64 (one : Int)) rfl (by rw [IntWalk.i64_in _ ⟨by omega, by omega⟩]) ?_
  (first | refine VO.pure rfl rfl (PureAt.rem (b := 3) rfl rfl (by decide)) rfl ?_ | refine VD.take rfl rfl rfl (PureAt.rem (b := 3) rfl rfl (by decide)) rfl ?_ | refine VQ.pure rfl rfl (PureAt.rem (b := 3) rfl rfl (by decide)) rfl ?_ | refine VD.end rfl rfl rfl (OpV.pure (PureAt.rem (b := 3) rfl rfl (by decide)) rfl ?_))
  rw [← hia]
  (refine w ?_; repeat ((first | refine VO.step rfl rfl ?_ | refine VD.end rfl rfl rfl ?_ | refine VD.mid rfl rfl rfl ?_); refine OpV.box rfl rfl rfl ?_; intro _; refine w ?_))
  refine VO.re 26 (.int .i64 (two : Int)) rfl (by rw [IntWalk.i64_in _ ⟨by omega, by omega⟩]) ?_
  (first | refine VO.pure rfl rfl (PureAt.rem (b := 2) rfl rfl (by decide)) rfl ?_ | refine VD.take rfl rfl rfl (PureAt.rem (b := 2) rfl rfl (by decide)) rfl ?_ | refine VQ.pure rfl rfl (PureAt.rem (b := 2) rfl rfl (by decide)) rfl ?_ | refine VD.end rfl rfl rfl (OpV.pure (PureAt.rem (b := 2) rfl rfl (by decide)) rfl ?_))
  (refine w ?_; repeat ((first | refine VO.step rfl rfl ?_ | refine VD.end rfl rfl rfl ?_ | refine VD.mid rfl rfl rfl ?_); refine OpV.box rfl rfl rfl ?_; intro _; refine w ?_))
  refine VO.re 28 (.int .i64 ((ia + 1 + two % 2 : Nat) : Int)) rfl (by congr 1) ?_
  (first | refine VO.pure rfl rfl (PureAt.rem (b := 3) rfl rfl (by decide)) rfl ?_ | refine VD.take rfl rfl rfl (PureAt.rem (b := 3) rfl rfl (by decide)) rfl ?_ | refine VQ.pure rfl rfl (PureAt.rem (b := 3) rfl rfl (by decide)) rfl ?_ | refine VD.end rfl rfl rfl (OpV.pure (PureAt.rem (b := 3) rfl rfl (by decide)) rfl ?_))
  rw [← hib]
  (refine w ?_; repeat ((first | refine VO.step rfl rfl ?_ | refine VD.end rfl rfl rfl ?_ | refine VD.mid rfl rfl rfl ?_); refine OpV.box rfl rfl rfl ?_; intro _; refine w ?_))
  have hl0 : (balsOf (ev + 1) bs).length = 4 := by simp [hbs]
  have hstd0 := bals_std (ev + 1) bs hbs (by omega) (by omega)
  generalize balsOf (ev + 1) bs = L0 at *
  (first | refine VO.step rfl rfl ?_ | refine VD.end rfl rfl rfl ?_ | refine VD.mid rfl rfl rfl ?_)
  refine OpV.stO2 (xs' := balCells (L0.set ia (awayB (L0[ia]'(by omega))))) tab_ok rfl rfl rfl rfl .head (by rw [balCells_length]; omega) (bal_set L0 ia 0 (by omega) (by decide) _ _ rfl) ?_
  have hl1 : (L0.set ia (awayB (L0[ia]'(by omega)))).length = 4 := by simpa using hl0
  have hstd1 : ∀ j x, (L0.set ia (awayB (L0[ia]'(by omega))))[j]? = some x → Std x j ∧ (x.has = decide (j ≠ ia)) ∧ (∃ n ∈ bs, x.s.so = some ⟨n, 0, none⟩) ∧ x.s.states = [1, 1, 1] := by
    intro j x hx
    rcases set_get hx with ⟨rfl, rfl, hj⟩ | ⟨hj, hx⟩
    · obtain ⟨a, b, c, d, e, f⟩ := hstd0 j _ (List.getElem?_eq_getElem hj)
      exact ⟨⟨a.id, a.role, a.geo, a.ring, a.lazy, a.cursor, a.len, a.good, a.ev, a.safe, a.sc⟩, by simp [awayB], e, f⟩
    · obtain ⟨a, b, c, d, e, f⟩ := hstd0 j x hx
      exact ⟨a, by rw [b]; simp [hj], e, f⟩
  generalize L0.set ia (awayB (L0[ia]'(by omega))) = L1 at *
  have hmem : ∀ x ∈ L1, ∃ j, L1[j]? = some x ∧ j < 4 := fun x hx => by
    obtain ⟨j, hj, rfl⟩ := List.mem_iff_getElem.1 hx
    exact ⟨j, List.getElem?_eq_getElem hj, by omega⟩
  (refine w ?_; repeat ((first | refine VO.step rfl rfl ?_ | refine VD.end rfl rfl rfl ?_ | refine VD.mid rfl rfl rfl ?_); refine OpV.box rfl rfl rfl ?_; intro _; refine w ?_))
  (first | refine VO.pure rfl rfl (PureAt.rem (b := 3) rfl rfl (by decide)) rfl ?_ | refine VD.take rfl rfl rfl (PureAt.rem (b := 3) rfl rfl (by decide)) rfl ?_ | refine VQ.pure rfl rfl (PureAt.rem (b := 3) rfl rfl (by decide)) rfl ?_ | refine VD.end rfl rfl rfl (OpV.pure (PureAt.rem (b := 3) rfl rfl (by decide)) rfl ?_))
  (refine w ?_; repeat ((first | refine VO.step rfl rfl ?_ | refine VD.end rfl rfl rfl ?_ | refine VD.mid rfl rfl rfl ?_); refine OpV.box rfl rfl rfl ?_; intro _; refine w ?_))
  (refine VC.cond rfl rfl ?_ ?_ <;> intro hc)
  · have hL2l : (L1.set ib (awayB (L1[ib]'(by omega)))).length = 4 := by simpa using hl1
    have hstd2 : ∀ j x, (L1.set ib (awayB (L1[ib]'(by omega))))[j]? = some x → Std x j ∧ (x.has = (decide (j ≠ ia) && decide (j ≠ ib))) ∧ (∃ n ∈ bs, x.s.so = some ⟨n, 0, none⟩) ∧ x.s.states = [1, 1, 1] := by
      intro j x hx
      rcases set_get hx with ⟨rfl, rfl, hj⟩ | ⟨hj, hx⟩
      · obtain ⟨a, b, e, f⟩ := hstd1 j _ (List.getElem?_eq_getElem hj)
        exact ⟨⟨a.id, a.role, a.geo, a.ring, a.lazy, a.cursor, a.len, a.good, a.ev, a.safe, a.sc⟩, by simp [awayB], e, f⟩
      · obtain ⟨a, b, e, f⟩ := hstd1 j x hx
        exact ⟨a, by rw [b]; simp [hj], e, f⟩
    (refine w ?_; repeat ((first | refine VO.step rfl rfl ?_ | refine VD.end rfl rfl rfl ?_ | refine VD.mid rfl rfl rfl ?_); refine OpV.box rfl rfl rfl ?_; intro _; refine w ?_))
    (first | refine VO.step rfl rfl ?_ | refine VD.end rfl rfl rfl ?_ | refine VD.mid rfl rfl rfl ?_)
    refine OpV.stO2 (xs' := balCells (L1.set ib (awayB (L1[ib]'(by omega))))) tab_ok rfl rfl rfl rfl .head (by rw [balCells_length]; omega) (bal_set L1 ib 0 (by omega) (by decide) _ _ rfl) ?_
    generalize L1.set ib (awayB (L1[ib]'(by omega))) = L at *
    have hcm : chooseM L = (152, noneV) := two_law hL2l (fun j x hx => (hstd2 j x hx).1) (fun x hx => by rw [(hstd2 3 x hx).2.1]; simp; omega) hia3 hib3 hne (fun x hx => by rw [(hstd2 _ x hx).2.1]; simp) (.inl fun x hx => by rw [(hstd2 _ x hx).2.1]; simp)
    have hso : ∀ x ∈ L, ∃ n, x.s.so = some ⟨n, 0, none⟩ ∧ Row n 59 (bytes x.s.states) ∈ Own 61 13 (.slice (some la) 4 cap) 4 (balCells L) :: (bs.map upR ++ []) := fun x hx => by
      obtain ⟨j, hj, rfl⟩ := List.mem_iff_getElem.1 hx
      obtain ⟨a, b, ⟨n, hn1, hn2⟩, f⟩ := hstd2 j _ (List.getElem?_eq_getElem hj)
      refine ⟨n, hn2, .tail _ (List.mem_append_left _ ?_)⟩
      rw [f]; exact List.mem_map_of_mem hn1
    have hft : ∀ x ∈ L, x.s.fit := fun x hx => by
      obtain ⟨j, hj, rfl⟩ := List.mem_iff_getElem.1 hx
      exact std_fit (hstd2 j _ (List.getElem?_eq_getElem hj)).1 (by omega)
    ((refine w ?_; repeat ((first | refine VO.step rfl rfl ?_ | refine VD.end rfl rfl rfl ?_ | refine VD.mid rfl rfl rfl ?_); refine OpV.box rfl rfl rfl ?_; intro _; refine w ?_)); ((first | refine VO.step rfl rfl ?_ | refine VD.end rfl rfl rfl ?_ | refine VD.mid rfl rfl rfl ?_); refine OpV.call rfl rfl (fun _ _ => by simp) (choose_n (l := L) hL2l (by omega) (bals_own L (by rw [hL2l]; exact .head _) (by simp) hso hft)) Ent.refl rfl ?_); rintro ⟨xo, xc⟩ _; rw [hcm]; (refine w ?_; repeat ((first | refine VO.step rfl rfl ?_ | refine VD.end rfl rfl rfl ?_ | refine VD.mid rfl rfl rfl ?_); refine OpV.box rfl rfl rfl ?_; intro _; refine w ?_)); (first | refine VO.step rfl rfl ?_ | refine VD.end rfl rfl rfl ?_ | refine VD.mid rfl rfl rfl ?_); refine OpV.allocS sb_32 rfl ?_; intro n14; (refine w ?_; repeat ((first | refine VO.step rfl rfl ?_ | refine VD.end rfl rfl rfl ?_ | refine VD.mid rfl rfl rfl ?_); refine OpV.box rfl rfl rfl ?_; intro _; refine w ?_)); (first | refine VO.step rfl rfl ?_ | refine VD.end rfl rfl rfl ?_ | refine VD.mid rfl rfl rfl ?_); refine OpV.stA (vs := vCells zeroSup xo 0 xc 0 false false) tab_ok rfl rfl rfl rfl (vCells_one _ _ _ _ _ _ _) (by (repeat first | exact .head | apply Hole.tail)) (by simp) ?_; (refine w ?_; repeat ((first | refine VO.step rfl rfl ?_ | refine VD.end rfl rfl rfl ?_ | refine VD.mid rfl rfl rfl ?_); refine OpV.box rfl rfl rfl ?_; intro _; refine w ?_)); ((first | refine VO.step rfl rfl ?_ | refine VD.end rfl rfl rfl ?_ | refine VD.mid rfl rfl rfl ?_); refine OpV.call rfl rfl (fun _ _ => by simp) (vknown_ok) Ent.refl rfl ?_; intro _ _); (refine w ?_; repeat ((first | refine VO.step rfl rfl ?_ | refine VD.end rfl rfl rfl ?_ | refine VD.mid rfl rfl rfl ?_); refine OpV.box rfl rfl rfl ?_; intro _; refine w ?_)); (refine VE.done1 rfl ?_ ?_))
    · rfl
    · exact Ent.re
  (refine w ?_; repeat ((first | refine VO.step rfl rfl ?_ | refine VD.end rfl rfl rfl ?_ | refine VD.mid rfl rfl rfl ?_); refine OpV.box rfl rfl rfl ?_; intro _; refine w ?_))
  (refine VC.cond rfl rfl ?_ ?_ <;> intro hc)
  · (refine w ?_; repeat ((first | refine VO.step rfl rfl ?_ | refine VD.end rfl rfl rfl ?_ | refine VD.mid rfl rfl rfl ?_); refine OpV.box rfl rfl rfl ?_; intro _; refine w ?_))
    have hb1 := hstd1 ib _ (List.getElem?_eq_getElem (by omega))
    (first | refine VO.step rfl rfl ?_ | refine VD.end rfl rfl rfl ?_ | refine VD.mid rfl rfl rfl ?_)
    refine OpV.stO2 (xs' := balCells L1) tab_ok rfl rfl rfl rfl .head (by rw [balCells_length]; omega) ((bal_set L1 ib 1 (by omega) (by decide) _ (L1[ib]'(by omega)) (by simp [hb1.1.id])).trans (by rw [List.set_getElem_self])) ?_
    (refine w ?_; repeat ((first | refine VO.step rfl rfl ?_ | refine VD.end rfl rfl rfl ?_ | refine VD.mid rfl rfl rfl ?_); refine OpV.box rfl rfl rfl ?_; intro _; refine w ?_))
    (refine VC.loop (α := List Nat) (fun ns => ns.length ≤ 4) (fun ns => Own 61 13 (.slice (some la) 4 cap) 4 (balCells (turnB (([1, 1, 1] : List UInt8).set ib 2) ns L1)) :: (ns.map (rowS (([1, 1, 1] : List UInt8).set ib 2)) ++ [])) (fun ns => [(9, .slice (some la) 4 cap), (11, .int .i64 ib), (12, .int .i64 ns.length)]) (fun ns => 4 - ns.length) rfl [] (Nat.zero_le _) (by rw [turnB_nil]; exact Ent.re) ⟨rfl, rfl, rfl, trivial⟩ ?_)
    · intro ns hns
      (refine w ?_; repeat ((first | refine VO.step rfl rfl ?_ | refine VD.end rfl rfl rfl ?_ | refine VD.mid rfl rfl rfl ?_); refine OpV.box rfl rfl rfl ?_; intro _; refine w ?_))
      (refine VC.cond rfl rfl ?_ ?_ <;> intro hc)
      · have hlt : ns.length < 4 := by have := of_decide_eq_true hc; omega
        (refine w ?_; repeat ((first | refine VO.step rfl rfl ?_ | refine VD.end rfl rfl rfl ?_ | refine VD.mid rfl rfl rfl ?_); refine OpV.box rfl rfl rfl ?_; intro _; refine w ?_))
        ((first | refine VO.step rfl rfl ?_ | refine VD.end rfl rfl rfl ?_ | refine VD.mid rfl rfl rfl ?_); refine OpV.buildSlice1 st_28 rfl rfl (by first | (simp; done) | simp [Value.oneCell']) (by decide) rfl ?_; intro nb)
        (refine w ?_; repeat ((first | refine VO.step rfl rfl ?_ | refine VD.end rfl rfl rfl ?_ | refine VD.mid rfl rfl rfl ?_); refine OpV.box rfl rfl rfl ?_; intro _; refine w ?_))
        (first | refine VO.step rfl rfl ?_ | refine VD.end rfl rfl rfl ?_ | refine VD.mid rfl rfl rfl ?_)
        have hgl : (turnB (([1, 1, 1] : List UInt8).set ib 2) ns L1)[ns.length]'(by simp; omega) = L1[ns.length]'(by omega) := by rw [turnB_get _ _ _ _ (by omega), List.getElem?_eq_none (Nat.le_refl _)]
        refine OpV.stO2 (xs' := balCells (turnB (([1, 1, 1] : List UInt8).set ib 2) (ns ++ [nb]) L1)) tab_ok rfl rfl rfl rfl (.tail .head) (by rw [balCells_length, turnB_length]; omega) ((bal_set _ ns.length 11 (by rw [turnB_length]; omega) (by decide) _ ⟨(L1[ns.length]'(by omega)).has, { (L1[ns.length]'(by omega)).s with so := some ⟨nb, 0, none⟩, sc := 3, states := ([1, 1, 1] : List UInt8).set ib 2 }⟩ (by rw [hgl]; simp)).trans (by rw [turnB_push _ _ _ _ (by omega)])) ?_
        refine VO.ent (H' := Row nb 59 (bytes [1, 1, 1]) :: Own 61 13 (.slice (some la) 4 cap) 4 (balCells (turnB (([1, 1, 1] : List UInt8).set ib 2) (ns ++ [nb]) L1)) :: (ns.map (rowS (([1, 1, 1] : List UInt8).set ib 2)) ++ [])) Ent.re ?_
        (refine w ?_; repeat ((first | refine VO.step rfl rfl ?_ | refine VD.end rfl rfl rfl ?_ | refine VD.mid rfl rfl rfl ?_); refine OpV.box rfl rfl rfl ?_; intro _; refine w ?_))
        have hg2 : (turnB (([1, 1, 1] : List UInt8).set ib 2) (ns ++ [nb]) L1)[ns.length]'(by simp; omega) = ⟨(L1[ns.length]'(by omega)).has, { (L1[ns.length]'(by omega)).s with so := some ⟨nb, 0, none⟩, sc := 3, states := ([1, 1, 1] : List UInt8).set ib 2 }⟩ := by
          rw [turnB_get _ _ _ _ (by omega), List.getElem?_append_right (Nat.le_refl _), Nat.sub_self]; rfl
        (first | refine VO.pure rfl rfl (PureAt.ldRc tab_ok rfl rfl (rdsBals (l := turnB (([1, 1, 1] : List UInt8).set ib 2) (ns ++ [nb]) L1) (by (focus repeat first | exact .head _ | apply List.Mem.tail)) (by rw [turnB_length]; omega)) ((bal_get _ ns.length 11 (by rw [turnB_length]; omega) (by decide)).trans (show _ = some (.slice (some ⟨nb, 0, none⟩) 3 3) by rw [hg2]; simp))) rfl ?_ | refine VD.take rfl rfl rfl (PureAt.ldRc tab_ok rfl rfl (rdsBals (l := turnB (([1, 1, 1] : List UInt8).set ib 2) (ns ++ [nb]) L1) (by (focus repeat first | exact .head _ | apply List.Mem.tail)) (by rw [turnB_length]; omega)) ((bal_get _ ns.length 11 (by rw [turnB_length]; omega) (by decide)).trans (show _ = some (.slice (some ⟨nb, 0, none⟩) 3 3) by rw [hg2]; simp))) rfl ?_ | refine VQ.pure rfl rfl (PureAt.ldRc tab_ok rfl rfl (rdsBals (l := turnB (([1, 1, 1] : List UInt8).set ib 2) (ns ++ [nb]) L1) (by (focus repeat first | exact .head _ | apply List.Mem.tail)) (by rw [turnB_length]; omega)) ((bal_get _ ns.length 11 (by rw [turnB_length]; omega) (by decide)).trans (show _ = some (.slice (some ⟨nb, 0, none⟩) 3 3) by rw [hg2]; simp))) rfl ?_ | refine VD.end rfl rfl rfl (OpV.pure (PureAt.ldRc tab_ok rfl rfl (rdsBals (l := turnB (([1, 1, 1] : List UInt8).set ib 2) (ns ++ [nb]) L1) (by (focus repeat first | exact .head _ | apply List.Mem.tail)) (by rw [turnB_length]; omega)) ((bal_get _ ns.length 11 (by rw [turnB_length]; omega) (by decide)).trans (show _ = some (.slice (some ⟨nb, 0, none⟩) 3 3) by rw [hg2]; simp))) rfl ?_))
        (refine w ?_; repeat ((first | refine VO.step rfl rfl ?_ | refine VD.end rfl rfl rfl ?_ | refine VD.mid rfl rfl rfl ?_); refine OpV.box rfl rfl rfl ?_; intro _; refine w ?_))
        refine VO.re 84 (.pointer (some ⟨nb, ib, none⟩)) rfl (by unfold Addr.add; split <;> simp_all) ?_
        (first | refine VO.step rfl rfl ?_ | refine VD.end rfl rfl rfl ?_ | refine VD.mid rfl rfl rfl ?_)
        refine OpV.st (cs := bytes [1, 1, 1]) tab_ok rfl rfl rfl rfl .head (by simp; omega) ?_
        refine VO.ent (H' := Own 61 13 (.slice (some la) 4 cap) 4 (balCells (turnB (([1, 1, 1] : List UInt8).set ib 2) (ns ++ [nb]) L1)) :: rowS (([1, 1, 1] : List UInt8).set ib 2) nb :: (ns.map (rowS (([1, 1, 1] : List UInt8).set ib 2)) ++ [])) (by rw [show (bytes [1, 1, 1]).set ib (.int .u8 2) = bytes (List.set [1, 1, 1] ib 2) from bytes_set8 [1, 1, 1] ib 2]; exact Ent.re) ?_
        (refine w ?_; repeat ((first | refine VO.step rfl rfl ?_ | refine VD.end rfl rfl rfl ?_ | refine VD.mid rfl rfl rfl ?_); refine OpV.box rfl rfl rfl ?_; intro _; refine w ?_))
        refine VE.round (ns ++ [nb]) (by rw [List.length_append, List.length_singleton]; omega) (by rw [List.length_append, List.length_singleton]; omega) ⟨rfl, rfl, asV rfl (by simp), trivial⟩ (fun w hw => ?_)
        rw [List.map_append, List.append_assoc]
        exact hw.perm (List.Perm.cons _ List.perm_middle.symm)
      · have hge : ns.length = 4 := by have := of_decide_eq_false hc; omega
        have hLl : (turnB (([1, 1, 1] : List UInt8).set ib 2) ns L1).length = 4 := by rw [turnB_length]; exact hl1
        have hLs : ∀ j x, (turnB (([1, 1, 1] : List UInt8).set ib 2) ns L1)[j]? = some x → Std x j ∧ x.has = decide (j ≠ ia) ∧ (∃ n ∈ ns, x.s.so = some ⟨n, 0, none⟩) ∧ x.s.states = ([1, 1, 1] : List UInt8).set ib 2 := fun j x hx => by
          obtain ⟨hj, rfl⟩ := List.getElem?_eq_some_iff.1 hx
          have hj2 : j < L1.length := by rw [turnB_length] at hj; exact hj
          obtain ⟨a, b, e, f⟩ := hstd1 j _ (List.getElem?_eq_getElem hj2)
          rw [turnB_get _ _ _ _ hj2, List.getElem?_eq_getElem (by omega)]
          exact ⟨⟨a.id, a.role, a.geo, a.ring, a.lazy, a.cursor, by simp, good_set ib 2 hib3 (by decide), a.ev, a.safe, rfl⟩, b, ⟨_, List.getElem_mem _, rfl⟩, rfl⟩
        generalize turnB (([1, 1, 1] : List UInt8).set ib 2) ns L1 = L at *
        have hcm : chooseM L = (152, noneV) := two_law hLl (fun j x hx => (hLs j x hx).1) (fun x hx => by rw [(hLs 3 x hx).2.1]; simp; omega) hia3 hib3 hne (fun x hx => by rw [(hLs _ x hx).2.1]; simp) (.inr fun x hx => by rw [(hLs _ x hx).2.2.2]; simp [stAt, hib3])
        have hso : ∀ x ∈ L, ∃ n, x.s.so = some ⟨n, 0, none⟩ ∧ Row n 59 (bytes x.s.states) ∈ Own 61 13 (.slice (some la) 4 cap) 4 (balCells L) :: (ns.map (rowS (([1, 1, 1] : List UInt8).set ib 2)) ++ []) := fun x hx => by
          obtain ⟨j, hj, rfl⟩ := List.mem_iff_getElem.1 hx
          obtain ⟨a, b, ⟨n, hn1, hn2⟩, f⟩ := hLs j _ (List.getElem?_eq_getElem hj)
          refine ⟨n, hn2, .tail _ (List.mem_append_left _ ?_)⟩
          rw [f]; exact List.mem_map_of_mem hn1
        have hft : ∀ x ∈ L, x.s.fit := fun x hx => by
          obtain ⟨j, hj, rfl⟩ := List.mem_iff_getElem.1 hx
          exact std_fit (hLs j _ (List.getElem?_eq_getElem hj)).1 (by omega)
        ((refine w ?_; repeat ((first | refine VO.step rfl rfl ?_ | refine VD.end rfl rfl rfl ?_ | refine VD.mid rfl rfl rfl ?_); refine OpV.box rfl rfl rfl ?_; intro _; refine w ?_)); ((first | refine VO.step rfl rfl ?_ | refine VD.end rfl rfl rfl ?_ | refine VD.mid rfl rfl rfl ?_); refine OpV.call rfl rfl (fun _ _ => by simp) (choose_n (l := L) hLl (by omega) (bals_own L (by rw [hLl]; exact .head _) (by simp) hso hft)) Ent.refl rfl ?_); rintro ⟨xo, xc⟩ _; rw [hcm]; (refine w ?_; repeat ((first | refine VO.step rfl rfl ?_ | refine VD.end rfl rfl rfl ?_ | refine VD.mid rfl rfl rfl ?_); refine OpV.box rfl rfl rfl ?_; intro _; refine w ?_)); (first | refine VO.step rfl rfl ?_ | refine VD.end rfl rfl rfl ?_ | refine VD.mid rfl rfl rfl ?_); refine OpV.allocS sb_32 rfl ?_; intro n14; (refine w ?_; repeat ((first | refine VO.step rfl rfl ?_ | refine VD.end rfl rfl rfl ?_ | refine VD.mid rfl rfl rfl ?_); refine OpV.box rfl rfl rfl ?_; intro _; refine w ?_)); (first | refine VO.step rfl rfl ?_ | refine VD.end rfl rfl rfl ?_ | refine VD.mid rfl rfl rfl ?_); refine OpV.stA (vs := vCells zeroSup xo 0 xc 0 false false) tab_ok rfl rfl rfl rfl (vCells_one _ _ _ _ _ _ _) (by (repeat first | exact .head | apply Hole.tail)) (by simp) ?_; (refine w ?_; repeat ((first | refine VO.step rfl rfl ?_ | refine VD.end rfl rfl rfl ?_ | refine VD.mid rfl rfl rfl ?_); refine OpV.box rfl rfl rfl ?_; intro _; refine w ?_)); ((first | refine VO.step rfl rfl ?_ | refine VD.end rfl rfl rfl ?_ | refine VD.mid rfl rfl rfl ?_); refine OpV.call rfl rfl (fun _ _ => by simp) (vknown_ok) Ent.refl rfl ?_; intro _ _); (refine w ?_; repeat ((first | refine VO.step rfl rfl ?_ | refine VD.end rfl rfl rfl ?_ | refine VD.mid rfl rfl rfl ?_); refine OpV.box rfl rfl rfl ?_; intro _; refine w ?_)); (refine VE.done1 rfl ?_ ?_))
        · rfl
        · exact Ent.re
  · (refine w ?_; repeat ((first | refine VO.step rfl rfl ?_ | refine VD.end rfl rfl rfl ?_ | refine VD.mid rfl rfl rfl ?_); refine OpV.box rfl rfl rfl ?_; intro _; refine w ?_))
    (refine VC.loop (α := List Nat) (fun ns => ns.length ≤ 4) (fun ns => Own 61 13 (.slice (some la) 4 cap) 4 (balCells (turnB (([1, 1, 1] : List UInt8).set ib 3) ns L1)) :: (ns.map (rowS (([1, 1, 1] : List UInt8).set ib 3)) ++ [])) (fun ns => [(9, .slice (some la) 4 cap), (11, .int .i64 ib), (13, .int .i64 ns.length)]) (fun ns => 4 - ns.length) rfl [] (Nat.zero_le _) (by rw [turnB_nil]; exact Ent.re) ⟨rfl, rfl, rfl, trivial⟩ ?_)
    · intro ns hns
      (refine w ?_; repeat ((first | refine VO.step rfl rfl ?_ | refine VD.end rfl rfl rfl ?_ | refine VD.mid rfl rfl rfl ?_); refine OpV.box rfl rfl rfl ?_; intro _; refine w ?_))
      (refine VC.cond rfl rfl ?_ ?_ <;> intro hc)
      · have hlt : ns.length < 4 := by have := of_decide_eq_true hc; omega
        (refine w ?_; repeat ((first | refine VO.step rfl rfl ?_ | refine VD.end rfl rfl rfl ?_ | refine VD.mid rfl rfl rfl ?_); refine OpV.box rfl rfl rfl ?_; intro _; refine w ?_))
        ((first | refine VO.step rfl rfl ?_ | refine VD.end rfl rfl rfl ?_ | refine VD.mid rfl rfl rfl ?_); refine OpV.buildSlice1 st_28 rfl rfl (by first | (simp; done) | simp [Value.oneCell']) (by decide) rfl ?_; intro nb)
        (refine w ?_; repeat ((first | refine VO.step rfl rfl ?_ | refine VD.end rfl rfl rfl ?_ | refine VD.mid rfl rfl rfl ?_); refine OpV.box rfl rfl rfl ?_; intro _; refine w ?_))
        (first | refine VO.step rfl rfl ?_ | refine VD.end rfl rfl rfl ?_ | refine VD.mid rfl rfl rfl ?_)
        have hgl : (turnB (([1, 1, 1] : List UInt8).set ib 3) ns L1)[ns.length]'(by simp; omega) = L1[ns.length]'(by omega) := by rw [turnB_get _ _ _ _ (by omega), List.getElem?_eq_none (Nat.le_refl _)]
        refine OpV.stO2 (xs' := balCells (turnB (([1, 1, 1] : List UInt8).set ib 3) (ns ++ [nb]) L1)) tab_ok rfl rfl rfl rfl (.tail .head) (by rw [balCells_length, turnB_length]; omega) ((bal_set _ ns.length 11 (by rw [turnB_length]; omega) (by decide) _ ⟨(L1[ns.length]'(by omega)).has, { (L1[ns.length]'(by omega)).s with so := some ⟨nb, 0, none⟩, sc := 3, states := ([1, 1, 1] : List UInt8).set ib 3 }⟩ (by rw [hgl]; simp)).trans (by rw [turnB_push _ _ _ _ (by omega)])) ?_
        refine VO.ent (H' := Row nb 59 (bytes [1, 1, 1]) :: Own 61 13 (.slice (some la) 4 cap) 4 (balCells (turnB (([1, 1, 1] : List UInt8).set ib 3) (ns ++ [nb]) L1)) :: (ns.map (rowS (([1, 1, 1] : List UInt8).set ib 3)) ++ [])) Ent.re ?_
        (refine w ?_; repeat ((first | refine VO.step rfl rfl ?_ | refine VD.end rfl rfl rfl ?_ | refine VD.mid rfl rfl rfl ?_); refine OpV.box rfl rfl rfl ?_; intro _; refine w ?_))
        have hg2 : (turnB (([1, 1, 1] : List UInt8).set ib 3) (ns ++ [nb]) L1)[ns.length]'(by simp; omega) = ⟨(L1[ns.length]'(by omega)).has, { (L1[ns.length]'(by omega)).s with so := some ⟨nb, 0, none⟩, sc := 3, states := ([1, 1, 1] : List UInt8).set ib 3 }⟩ := by
          rw [turnB_get _ _ _ _ (by omega), List.getElem?_append_right (Nat.le_refl _), Nat.sub_self]; rfl
        (first | refine VO.pure rfl rfl (PureAt.ldRc tab_ok rfl rfl (rdsBals (l := turnB (([1, 1, 1] : List UInt8).set ib 3) (ns ++ [nb]) L1) (by (focus repeat first | exact .head _ | apply List.Mem.tail)) (by rw [turnB_length]; omega)) ((bal_get _ ns.length 11 (by rw [turnB_length]; omega) (by decide)).trans (show _ = some (.slice (some ⟨nb, 0, none⟩) 3 3) by rw [hg2]; simp))) rfl ?_ | refine VD.take rfl rfl rfl (PureAt.ldRc tab_ok rfl rfl (rdsBals (l := turnB (([1, 1, 1] : List UInt8).set ib 3) (ns ++ [nb]) L1) (by (focus repeat first | exact .head _ | apply List.Mem.tail)) (by rw [turnB_length]; omega)) ((bal_get _ ns.length 11 (by rw [turnB_length]; omega) (by decide)).trans (show _ = some (.slice (some ⟨nb, 0, none⟩) 3 3) by rw [hg2]; simp))) rfl ?_ | refine VQ.pure rfl rfl (PureAt.ldRc tab_ok rfl rfl (rdsBals (l := turnB (([1, 1, 1] : List UInt8).set ib 3) (ns ++ [nb]) L1) (by (focus repeat first | exact .head _ | apply List.Mem.tail)) (by rw [turnB_length]; omega)) ((bal_get _ ns.length 11 (by rw [turnB_length]; omega) (by decide)).trans (show _ = some (.slice (some ⟨nb, 0, none⟩) 3 3) by rw [hg2]; simp))) rfl ?_ | refine VD.end rfl rfl rfl (OpV.pure (PureAt.ldRc tab_ok rfl rfl (rdsBals (l := turnB (([1, 1, 1] : List UInt8).set ib 3) (ns ++ [nb]) L1) (by (focus repeat first | exact .head _ | apply List.Mem.tail)) (by rw [turnB_length]; omega)) ((bal_get _ ns.length 11 (by rw [turnB_length]; omega) (by decide)).trans (show _ = some (.slice (some ⟨nb, 0, none⟩) 3 3) by rw [hg2]; simp))) rfl ?_))
        (refine w ?_; repeat ((first | refine VO.step rfl rfl ?_ | refine VD.end rfl rfl rfl ?_ | refine VD.mid rfl rfl rfl ?_); refine OpV.box rfl rfl rfl ?_; intro _; refine w ?_))
        refine VO.re 53 (.pointer (some ⟨nb, ib, none⟩)) rfl (by unfold Addr.add; split <;> simp_all) ?_
        (first | refine VO.step rfl rfl ?_ | refine VD.end rfl rfl rfl ?_ | refine VD.mid rfl rfl rfl ?_)
        refine OpV.st (cs := bytes [1, 1, 1]) tab_ok rfl rfl rfl rfl .head (by simp; omega) ?_
        refine VO.ent (H' := Own 61 13 (.slice (some la) 4 cap) 4 (balCells (turnB (([1, 1, 1] : List UInt8).set ib 3) (ns ++ [nb]) L1)) :: rowS (([1, 1, 1] : List UInt8).set ib 3) nb :: (ns.map (rowS (([1, 1, 1] : List UInt8).set ib 3)) ++ [])) (by rw [show (bytes [1, 1, 1]).set ib (.int .u8 3) = bytes (List.set [1, 1, 1] ib 3) from bytes_set8 [1, 1, 1] ib 3]; exact Ent.re) ?_
        (refine w ?_; repeat ((first | refine VO.step rfl rfl ?_ | refine VD.end rfl rfl rfl ?_ | refine VD.mid rfl rfl rfl ?_); refine OpV.box rfl rfl rfl ?_; intro _; refine w ?_))
        refine VE.round (ns ++ [nb]) (by rw [List.length_append, List.length_singleton]; omega) (by rw [List.length_append, List.length_singleton]; omega) ⟨rfl, rfl, asV rfl (by simp), trivial⟩ (fun w hw => ?_)
        rw [List.map_append, List.append_assoc]
        exact hw.perm (List.Perm.cons _ List.perm_middle.symm)
      · have hge : ns.length = 4 := by have := of_decide_eq_false hc; omega
        have hLl : (turnB (([1, 1, 1] : List UInt8).set ib 3) ns L1).length = 4 := by rw [turnB_length]; exact hl1
        have hLs : ∀ j x, (turnB (([1, 1, 1] : List UInt8).set ib 3) ns L1)[j]? = some x → Std x j ∧ x.has = decide (j ≠ ia) ∧ (∃ n ∈ ns, x.s.so = some ⟨n, 0, none⟩) ∧ x.s.states = ([1, 1, 1] : List UInt8).set ib 3 := fun j x hx => by
          obtain ⟨hj, rfl⟩ := List.getElem?_eq_some_iff.1 hx
          have hj2 : j < L1.length := by rw [turnB_length] at hj; exact hj
          obtain ⟨a, b, e, f⟩ := hstd1 j _ (List.getElem?_eq_getElem hj2)
          rw [turnB_get _ _ _ _ hj2, List.getElem?_eq_getElem (by omega)]
          exact ⟨⟨a.id, a.role, a.geo, a.ring, a.lazy, a.cursor, by simp, good_set ib 3 hib3 (by decide), a.ev, a.safe, rfl⟩, b, ⟨_, List.getElem_mem _, rfl⟩, rfl⟩
        generalize turnB (([1, 1, 1] : List UInt8).set ib 3) ns L1 = L at *
        have hcm : chooseM L = (152, noneV) := two_law hLl (fun j x hx => (hLs j x hx).1) (fun x hx => by rw [(hLs 3 x hx).2.1]; simp; omega) hia3 hib3 hne (fun x hx => by rw [(hLs _ x hx).2.1]; simp) (.inr fun x hx => by rw [(hLs _ x hx).2.2.2]; simp [stAt, hib3])
        have hso : ∀ x ∈ L, ∃ n, x.s.so = some ⟨n, 0, none⟩ ∧ Row n 59 (bytes x.s.states) ∈ Own 61 13 (.slice (some la) 4 cap) 4 (balCells L) :: (ns.map (rowS (([1, 1, 1] : List UInt8).set ib 3)) ++ []) := fun x hx => by
          obtain ⟨j, hj, rfl⟩ := List.mem_iff_getElem.1 hx
          obtain ⟨a, b, ⟨n, hn1, hn2⟩, f⟩ := hLs j _ (List.getElem?_eq_getElem hj)
          refine ⟨n, hn2, .tail _ (List.mem_append_left _ ?_)⟩
          rw [f]; exact List.mem_map_of_mem hn1
        have hft : ∀ x ∈ L, x.s.fit := fun x hx => by
          obtain ⟨j, hj, rfl⟩ := List.mem_iff_getElem.1 hx
          exact std_fit (hLs j _ (List.getElem?_eq_getElem hj)).1 (by omega)
        ((refine w ?_; repeat ((first | refine VO.step rfl rfl ?_ | refine VD.end rfl rfl rfl ?_ | refine VD.mid rfl rfl rfl ?_); refine OpV.box rfl rfl rfl ?_; intro _; refine w ?_)); ((first | refine VO.step rfl rfl ?_ | refine VD.end rfl rfl rfl ?_ | refine VD.mid rfl rfl rfl ?_); refine OpV.call rfl rfl (fun _ _ => by simp) (choose_n (l := L) hLl (by omega) (bals_own L (by rw [hLl]; exact .head _) (by simp) hso hft)) Ent.refl rfl ?_); rintro ⟨xo, xc⟩ _; rw [hcm]; (refine w ?_; repeat ((first | refine VO.step rfl rfl ?_ | refine VD.end rfl rfl rfl ?_ | refine VD.mid rfl rfl rfl ?_); refine OpV.box rfl rfl rfl ?_; intro _; refine w ?_)); (first | refine VO.step rfl rfl ?_ | refine VD.end rfl rfl rfl ?_ | refine VD.mid rfl rfl rfl ?_); refine OpV.allocS sb_32 rfl ?_; intro n14; (refine w ?_; repeat ((first | refine VO.step rfl rfl ?_ | refine VD.end rfl rfl rfl ?_ | refine VD.mid rfl rfl rfl ?_); refine OpV.box rfl rfl rfl ?_; intro _; refine w ?_)); (first | refine VO.step rfl rfl ?_ | refine VD.end rfl rfl rfl ?_ | refine VD.mid rfl rfl rfl ?_); refine OpV.stA (vs := vCells zeroSup xo 0 xc 0 false false) tab_ok rfl rfl rfl rfl (vCells_one _ _ _ _ _ _ _) (by (repeat first | exact .head | apply Hole.tail)) (by simp) ?_; (refine w ?_; repeat ((first | refine VO.step rfl rfl ?_ | refine VD.end rfl rfl rfl ?_ | refine VD.mid rfl rfl rfl ?_); refine OpV.box rfl rfl rfl ?_; intro _; refine w ?_)); ((first | refine VO.step rfl rfl ?_ | refine VD.end rfl rfl rfl ?_ | refine VD.mid rfl rfl rfl ?_); refine OpV.call rfl rfl (fun _ _ => by simp) (vknown_ok) Ent.refl rfl ?_; intro _ _); (refine w ?_; repeat ((first | refine VO.step rfl rfl ?_ | refine VD.end rfl rfl rfl ?_ | refine VD.mid rfl rfl rfl ?_); refine OpV.box rfl rfl rfl ?_; intro _; refine w ?_)); (refine VE.done1 rfl ?_ ?_))
        · rfl
        · exact Ent.re
end Go.Proofs.Ytlflmnmkgaeabaa
