/- VoteStale: the walk. -/
import Derived.Test.YtlflmnmkgaeabaaVq
set_option maxRecDepth 8000
set_option linter.unusedVariables false
set_option linter.unusedSimpArgs false
set_option linter.unusedSectionVars false
namespace Go.Proofs.Ytlflmnmkgaeabaa
open Go.RowKit Go.Sl
attribute [local irreducible] Own

theorem stale_law {L : List BalD} {n s m : Nat} (hl : L.length = 4) (hs : ∀ j x, L[j]? = some x → Std x j ∧ x.has = true) (hm : m < 3) (hsn : s ≤ n)
    (h : ∀ j x, L[j]? = some x → j ≠ m → x.s.events = n ∧ x.s.safe = s ∧ x.s.states = [1, 1, 1]) (hx : ∀ x, L[m]? = some x → x.s.events < s) :
    ∃ v, chooseM L = (0, v) ∧ v.ch = true ∧ v.st.length = 3 ∧ v.st[m]? = some 2 ∧ v.s.events = n := by
  have g : ∀ j, j < 4 → ∃ x, L[j]? = some x := fun j hj => ⟨_, List.getElem?_eq_getElem (by omega)⟩
  obtain ⟨x3, h3⟩ := g 3 (by omega)
  obtain ⟨e3, s3, t3⟩ := h 3 x3 h3 (by omega)
  have hsup : supAt L 3 = x3.s := by unfold supAt; rw [h3]
  have hst : ∀ j, j < 3 → stAt [1, 1, 1] j = 1 := fun j hj => by
    have hc : j = 0 ∨ j = 1 ∨ j = 2 := by omega
    rcases hc with rfl | rfl | rfl <;> rfl
  have hfit : ∀ j, j < 3 → fitM L s [1, 1, 1] j = decide (j ≠ m) := fun j hj => by
    obtain ⟨x, hxj⟩ := g j (by omega)
    rw [fit_std hl hxj (hs j x hxj).1, hst j hj, (hs j x hxj).2]
    by_cases e : j = m
    · subst e; have := hx x hxj; simp; omega
    · have := (h j x hxj e).1; simp [e]; omega
  have hgone : ∀ j, j < 3 → goneM L s [1, 1, 1] j = decide (j = m) := fun j hj => by
    unfold goneM; rw [hst j hj, hfit j hj]; by_cases e : j = m <;> simp [e]
  have haw : awayM L s [1, 1, 1] 3 = 1 := by
    simp only [awayM]
    rw [hst 0 (by omega), hst 1 (by omega), hst 2 (by omega), hfit 0 (by omega), hfit 1 (by omega), hfit 2 (by omega)]
    have hc : m = 0 ∨ m = 1 ∨ m = 2 := by omega
    rcases hc with rfl | rfl | rfl <;> rfl
  have htn : turnM L s [1, 1, 1] 3 = true := by
    simp only [turnM]
    rw [hgone 0 (by omega), hgone 1 (by omega), hgone 2 (by omega)]
    have hc : m = 0 ∨ m = 1 ∨ m = 2 := by omega
    rcases hc with rfl | rfl | rfl <;> rfl
  have hev : ∀ j, j < 4 → countsB L j = true ∧ evs L j ≤ n ∧ (j = 3 → evs L j = n) := fun j hj => by
    obtain ⟨x, hxj⟩ := g j hj
    refine ⟨by rw [std_counts hl hxj (hs j x hxj).1, (hs j x hxj).2], ?_, ?_⟩
    · unfold evs; rw [hxj]
      by_cases e : j = m
      · subst e; have := hx x hxj; simp only; omega
      · have := (h j x hxj e).1; simp only; omega
    · intro e; subst e; unfold evs; rw [h3]; exact e3
  have htop : topN L 4 = n := by
    simp only [topN]
    rw [if_pos (hev 0 (by omega)).1, if_pos (hev 1 (by omega)).1, if_pos (hev 2 (by omega)).1, if_pos (hev 3 (by omega)).1]
    have a := (hev 0 (by omega)).2.1; have b := (hev 1 (by omega)).2.1; have c := (hev 2 (by omega)).2.1; have d := (hev 3 (by omega)).2.2 rfl
    omega
  have hcm := std_all hl (fun j x hx => (hs j x hx).1) (fun x hx => (hs 3 x hx).2)
  rw [hsup, s3, t3, haw, if_neg (by omega)] at hcm
  refine ⟨_, hcm, ?_, ?_, ?_, ?_⟩
  · show turnM L x3.s.safe x3.s.states x3.s.states.length = true
    rw [s3, t3]; exact htn
  · show (newSt L x3.s.safe x3.s.states x3.s.states.length).length = 3
    rw [newSt_length, t3]; rfl
  · show (newSt L x3.s.safe x3.s.states x3.s.states.length)[m]? = some 2
    rw [s3, t3]
    unfold newSt
    rw [List.getElem?_mapIdx]
    have : ([1, 1, 1] : List UInt8)[m]? = some 1 := by
      have hc : m = 0 ∨ m = 1 ∨ m = 2 := by omega
      rcases hc with rfl | rfl | rfl <;> rfl
    rw [this]
    show some (if m < 3 ∧ goneM L s [1, 1, 1] m = true then (2 : UInt8) else 1) = some 2
    rw [if_pos ⟨hm, by rw [hgone m hm]; simp⟩]
  · show topN L L.length = n
    rw [hl]; exact htop

set_option maxHeartbeats 8000000 in
theorem stale_ok {W : World} (ev sf mb stt seen : Nat) (hev : ev ≤ 65535) (h1 : sf ≤ 65535) (h2 : mb ≤ 255) (h3 : stt ≤ 255) (h4 : seen ≤ 65535) :
    Does1 W Try.prog 5 [.int .u16 ev, .int .u16 sf, .int .u8 mb, .int .u8 stt, .int .u16 seen] [] (.bool true) [] := by
  (refine Does.enter Try.func5 Try.ntmps5 rfl rfl ?_)
  (refine w ?_; repeat ((first | refine VO.step rfl rfl ?_ | refine VD.end rfl rfl rfl ?_ | refine VD.mid rfl rfl rfl ?_); refine OpV.box rfl rfl rfl ?_; intro _; refine w ?_))
  refine VO.re 11 (.int .u64 ((ev + 2 : Nat) : Int)) rfl (by rw [IntWalk.u64_in (ev : Int) ⟨by omega, by omega⟩, IntWalk.u64_in _ ⟨by omega, by omega⟩]; rfl) ?_
  refine VO.re 22 (.int .u64 ((ev + 2 : Nat) : Int)) rfl (by rw [IntWalk.u64_in (ev : Int) ⟨by omega, by omega⟩, IntWalk.u64_in _ ⟨by omega, by omega⟩]; rfl) ?_
  ((first | refine VO.step rfl rfl ?_ | refine VD.end rfl rfl rfl ?_ | refine VD.mid rfl rfl rfl ?_); refine OpV.call rfl rfl (fun _ _ => by simp) (ballots_ok (ev + 2)) Ent.refl rfl ?_)
  rintro ⟨bs, ao, cap⟩ hbs
  dsimp only at hbs ⊢
  refine VO.know (p := ao = none → 4 = 0) (fun w hw => Holds.ownNone hw (.head _)) ?_
  intro hn
  obtain ⟨la, rfl⟩ : ∃ x, ao = some x := by cases ao with | none => exact absurd (hn rfl) (by decide) | some x => exact ⟨x, rfl⟩
  obtain ⟨n, hn⟩ : ∃ n, n = ev + 2 := ⟨_, rfl⟩
  rw [← hn]
  obtain ⟨s, hs, hs1⟩ : ∃ s, s = sf % n + 1 ∧ s ≤ n := ⟨_, rfl, Nat.mod_lt _ (by omega)⟩
  obtain ⟨m, hm, hm3⟩ : ∃ m, m = mb % 3 ∧ m < 3 := ⟨_, rfl, Nat.mod_lt _ (by decide)⟩
  obtain ⟨old, hold, holds⟩ : ∃ old, old = seen % s ∧ old < s := ⟨_, rfl, Nat.mod_lt _ (by omega)⟩
  obtain ⟨k, hk, hk4⟩ : ∃ k, k = stt % 4 ∧ k < 4 := ⟨_, rfl, Nat.mod_lt _ (by decide)⟩
  (refine w ?_; repeat ((first | refine VO.step rfl rfl ?_ | refine VD.end rfl rfl rfl ?_ | refine VD.mid rfl rfl rfl ?_); refine OpV.box rfl rfl rfl ?_; intro _; refine w ?_))
  refine VO.re 25 (.int .u64 (sf : Int)) rfl (by rw [IntWalk.u64_in _ ⟨by omega, by omega⟩]) ?_
  (first | refine VO.pure rfl rfl (PureAt.rem (b := n) rfl rfl (by omega)) rfl ?_ | refine VD.take rfl rfl rfl (PureAt.rem (b := n) rfl rfl (by omega)) rfl ?_ | refine VQ.pure rfl rfl (PureAt.rem (b := n) rfl rfl (by omega)) rfl ?_ | refine VD.end rfl rfl rfl (OpV.pure (PureAt.rem (b := n) rfl rfl (by omega)) rfl ?_))
  (refine w ?_; repeat ((first | refine VO.step rfl rfl ?_ | refine VD.end rfl rfl rfl ?_ | refine VD.mid rfl rfl rfl ?_); refine OpV.box rfl rfl rfl ?_; intro _; refine w ?_))
  refine VC.re 13 (.int .u64 (s : Int)) rfl (by rw [hs, IntWalk.u64_in _ ⟨by omega, by have := Nat.mod_lt sf (show n > 0 by omega); omega⟩]; rfl) ?_
  have hl0 : (balsOf n bs).length = 4 := by simp [hbs]
  have hstd0 := bals_std n bs hbs (by omega) (by omega)
  generalize balsOf n bs = L0 at *
  refine VC.loop (α := Nat × List BalD) (fun y => y.1 ≤ 4 ∧ y.2.length = 4 ∧ ∀ j x, y.2[j]? = some x → Std x j ∧ x.has = true ∧ x.s.events = n ∧ (j < y.1 → x.s.safe = s) ∧ (∃ n ∈ bs, x.s.so = some ⟨n, 0, none⟩) ∧ x.s.states = [1, 1, 1])
    (fun y => Own 61 13 (.slice (some la) 4 cap) 4 (balCells y.2) :: (bs.map upR ++ [])) (fun y => [(2, .int .u8 mb), (3, .int .u8 stt), (4, .int .u16 seen), (11, .int .u64 n), (12, .slice (some la) 4 cap), (13, .int .u64 s), (14, .int .i64 y.1)]) (fun y => 4 - y.1) rfl (0, L0) ⟨by simp only; omega, hl0, fun j x hx => ?_⟩ Ent.refl ⟨rfl, rfl, rfl, rfl, rfl, rfl, rfl, trivial⟩ ?_
  · obtain ⟨a, b, c, d, e, f⟩ := hstd0 j x hx
    exact ⟨a, b, c, fun h => absurd h (by simp only; omega), e, f⟩
  rintro ⟨i, L⟩ ⟨hi, hl, hstd⟩
  dsimp only at hi hl hstd ⊢
  (refine w ?_; repeat ((first | refine VO.step rfl rfl ?_ | refine VD.end rfl rfl rfl ?_ | refine VD.mid rfl rfl rfl ?_); refine OpV.box rfl rfl rfl ?_; intro _; refine w ?_))
  (refine VC.cond rfl rfl ?_ ?_ <;> intro hc)
  · have hlt : i < 4 := by have := of_decide_eq_true hc; omega
    (refine w ?_; repeat ((first | refine VO.step rfl rfl ?_ | refine VD.end rfl rfl rfl ?_ | refine VD.mid rfl rfl rfl ?_); refine OpV.box rfl rfl rfl ?_; intro _; refine w ?_))
    (first | refine VO.step rfl rfl ?_ | refine VD.end rfl rfl rfl ?_ | refine VD.mid rfl rfl rfl ?_)
    refine OpV.stO2 (xs' := balCells (L.set i ⟨(L[i]'(by omega)).has, { (L[i]'(by omega)).s with safe := s }⟩)) tab_ok rfl rfl rfl rfl .head (by rw [balCells_length]; omega) (bal_set L i 3 (by omega) (by decide) _ _ rfl) ?_
    (refine w ?_; repeat ((first | refine VO.step rfl rfl ?_ | refine VD.end rfl rfl rfl ?_ | refine VD.mid rfl rfl rfl ?_); refine OpV.box rfl rfl rfl ?_; intro _; refine w ?_))
    refine VE.round (i + 1, L.set i ⟨(L[i]'(by omega)).has, { (L[i]'(by omega)).s with safe := s }⟩) ⟨by simp only; omega, by simpa using hl, fun j x hx => ?_⟩ (by simp only; omega) ⟨rfl, rfl, rfl, rfl, rfl, rfl, asV rfl (by congr 1), trivial⟩ Ent.re
    rcases set_get hx with ⟨rfl, rfl, hj⟩ | ⟨hj, hx⟩
    · obtain ⟨a, b, c, d, e, f⟩ := hstd j _ (List.getElem?_eq_getElem hj)
      exact ⟨⟨a.id, a.role, a.geo, a.ring, a.lazy, a.cursor, a.len, a.good, a.ev, ⟨by simp only; omega, by simp only; rw [c]; omega⟩, a.sc⟩, b, c, fun _ => rfl, e, f⟩
    · obtain ⟨a, b, c, d, e, f⟩ := hstd j x hx
      exact ⟨a, b, c, fun h => d (by simp only at h; omega), e, f⟩
  have hge : i = 4 := by have := of_decide_eq_false hc; omega
  subst hge
  (refine w ?_; repeat ((first | refine VO.step rfl rfl ?_ | refine VD.end rfl rfl rfl ?_ | refine VD.mid rfl rfl rfl ?_); refine OpV.box rfl rfl rfl ?_; intro _; refine w ?_))
  refine VO.re 40 (.int .i64 (mb : Int)) rfl (by rw [IntWalk.i64_in _ ⟨by omega, by omega⟩]) ?_
  (first | refine VO.pure rfl rfl (PureAt.rem (b := 3) rfl rfl (by decide)) rfl ?_ | refine VD.take rfl rfl rfl (PureAt.rem (b := 3) rfl rfl (by decide)) rfl ?_ | refine VQ.pure rfl rfl (PureAt.rem (b := 3) rfl rfl (by decide)) rfl ?_ | refine VD.end rfl rfl rfl (OpV.pure (PureAt.rem (b := 3) rfl rfl (by decide)) rfl ?_))
  rw [← hm]
  (refine w ?_; repeat ((first | refine VO.step rfl rfl ?_ | refine VD.end rfl rfl rfl ?_ | refine VD.mid rfl rfl rfl ?_); refine OpV.box rfl rfl rfl ?_; intro _; refine w ?_))
  refine VO.re 43 (.int .u64 (seen : Int)) rfl (by rw [IntWalk.u64_in _ ⟨by omega, by omega⟩]) ?_
  (first | refine VO.pure rfl rfl (PureAt.rem (b := s) rfl rfl (by omega)) rfl ?_ | refine VD.take rfl rfl rfl (PureAt.rem (b := s) rfl rfl (by omega)) rfl ?_ | refine VQ.pure rfl rfl (PureAt.rem (b := s) rfl rfl (by omega)) rfl ?_ | refine VD.end rfl rfl rfl (OpV.pure (PureAt.rem (b := s) rfl rfl (by omega)) rfl ?_))
  rw [← hold]
  (refine w ?_; repeat ((first | refine VO.step rfl rfl ?_ | refine VD.end rfl rfl rfl ?_ | refine VD.mid rfl rfl rfl ?_); refine OpV.box rfl rfl rfl ?_; intro _; refine w ?_))
  (refine VC.cond rfl rfl ?_ ?_ <;> intro hc)
  · (refine w ?_; repeat ((first | refine VO.step rfl rfl ?_ | refine VD.end rfl rfl rfl ?_ | refine VD.mid rfl rfl rfl ?_); refine OpV.box rfl rfl rfl ?_; intro _; refine w ?_))
    ((first | refine VO.step rfl rfl ?_ | refine VD.end rfl rfl rfl ?_ | refine VD.mid rfl rfl rfl ?_); refine OpV.call rfl rfl (fun _ _ => by simp) (vknown_ok) Ent.refl rfl ?_; intro _ _)
    (refine w ?_; repeat ((first | refine VO.step rfl rfl ?_ | refine VD.end rfl rfl rfl ?_ | refine VD.mid rfl rfl rfl ?_); refine OpV.box rfl rfl rfl ?_; intro _; refine w ?_))
    (refine VE.done1 rfl ?_ ?_)
    · rfl
    · exact Ent.re
  have ho0 : 1 ≤ old := by have h : ¬ (old : Int) = 0 := (by simpa using hc); omega
  (refine w ?_; repeat ((first | refine VO.step rfl rfl ?_ | refine VD.end rfl rfl rfl ?_ | refine VD.mid rfl rfl rfl ?_); refine OpV.box rfl rfl rfl ?_; intro _; refine w ?_))
  (first | refine VO.step rfl rfl ?_ | refine VD.end rfl rfl rfl ?_ | refine VD.mid rfl rfl rfl ?_)
  refine OpV.stO2 (xs' := balCells (L.set m ⟨(L[m]'(by omega)).has, { (L[m]'(by omega)).s with events := old }⟩)) tab_ok rfl rfl rfl rfl .head (by rw [balCells_length]; omega) (bal_set L m 2 (by omega) (by decide) _ _ rfl) ?_
  (refine w ?_; repeat ((first | refine VO.step rfl rfl ?_ | refine VD.end rfl rfl rfl ?_ | refine VD.mid rfl rfl rfl ?_); refine OpV.box rfl rfl rfl ?_; intro _; refine w ?_))
  (first | refine VO.step rfl rfl ?_ | refine VD.end rfl rfl rfl ?_ | refine VD.mid rfl rfl rfl ?_)
  refine OpV.stO2 (xs' := balCells (L.set m ⟨(L[m]'(by omega)).has, { (L[m]'(by omega)).s with events := old, safe := old }⟩)) tab_ok rfl rfl rfl rfl .head (by rw [balCells_length, List.length_set]; omega) ((bal_set _ m 3 (by rw [List.length_set]; omega) (by decide) _ ⟨(L[m]'(by omega)).has, { (L[m]'(by omega)).s with events := old, safe := old }⟩ (by rw [List.getElem_set_self]; rfl)).trans (by rw [List.set_set])) ?_
  (refine w ?_; repeat ((first | refine VO.step rfl rfl ?_ | refine VD.end rfl rfl rfl ?_ | refine VD.mid rfl rfl rfl ?_); refine OpV.box rfl rfl rfl ?_; intro _; refine w ?_))
  ((first | refine VO.step rfl rfl ?_ | refine VD.end rfl rfl rfl ?_ | refine VD.mid rfl rfl rfl ?_); refine OpV.buildSlice1 st_28 rfl rfl (by first | (simp; done) | simp [Value.oneCell']) (by decide) rfl ?_; intro nb)
  (refine w ?_; repeat ((first | refine VO.step rfl rfl ?_ | refine VD.end rfl rfl rfl ?_ | refine VD.mid rfl rfl rfl ?_); refine OpV.box rfl rfl rfl ?_; intro _; refine w ?_))
  (first | refine VO.step rfl rfl ?_ | refine VD.end rfl rfl rfl ?_ | refine VD.mid rfl rfl rfl ?_)
  refine OpV.stO2 (xs' := balCells (L.set m ⟨(L[m]'(by omega)).has, { (L[m]'(by omega)).s with events := old, safe := old, so := some ⟨nb, 0, none⟩, sc := 3, states := ([1, 1, 1] : List UInt8).set k 2 }⟩)) tab_ok rfl rfl rfl rfl (.tail .head) (by rw [balCells_length, List.length_set]; omega) ((bal_set _ m 11 (by rw [List.length_set]; omega) (by decide) _ ⟨(L[m]'(by omega)).has, { (L[m]'(by omega)).s with events := old, safe := old, so := some ⟨nb, 0, none⟩, sc := 3, states := ([1, 1, 1] : List UInt8).set k 2 }⟩ (by rw [List.getElem_set_self]; simp)).trans (by rw [List.set_set])) ?_
  have hgood : goodSt (([1, 1, 1] : List UInt8).set k 2) 3 := by
    rcases Nat.lt_or_ge k 3 with h | h
    · exact good_set k 2 h (by decide)
    · obtain rfl : k = 3 := by omega
      exact (goodB_iff [1, 1, 1] 3 (by decide)).1 (by decide)
  have hLl : (L.set m ⟨(L[m]'(by omega)).has, { (L[m]'(by omega)).s with events := old, safe := old, so := some ⟨nb, 0, none⟩, sc := 3, states := ([1, 1, 1] : List UInt8).set k 2 }⟩).length = 4 := by simpa using hl
  have hLs : ∀ j x, (L.set m ⟨(L[m]'(by omega)).has, { (L[m]'(by omega)).s with events := old, safe := old, so := some ⟨nb, 0, none⟩, sc := 3, states := ([1, 1, 1] : List UInt8).set k 2 }⟩)[j]? = some x → Std x j ∧ x.has = true ∧ (j ≠ m → x.s.events = n ∧ x.s.safe = s ∧ x.s.states = [1, 1, 1] ∧ ∃ n ∈ bs, x.s.so = some ⟨n, 0, none⟩) ∧ (j = m → x.s.events = old ∧ x.s.so = some ⟨nb, 0, none⟩ ∧ x.s.states = ([1, 1, 1] : List UInt8).set k 2) := by
    intro j x hx
    rcases set_get hx with ⟨rfl, rfl, hj⟩ | ⟨hj, hx⟩
    · obtain ⟨a, b, c, d, e, f⟩ := hstd j _ (List.getElem?_eq_getElem hj)
      exact ⟨⟨a.id, a.role, a.geo, a.ring, a.lazy, a.cursor, by simp, hgood, by simp only; omega, ⟨by simp only; omega, by simp only; omega⟩, rfl⟩, b, fun h => absurd rfl h, fun _ => ⟨rfl, rfl, rfl⟩⟩
    · obtain ⟨a, b, c, d, e, f⟩ := hstd j x hx
      have hj4 : j < 4 := by have := (List.getElem?_eq_some_iff.1 hx).1; omega
      exact ⟨a, b, fun _ => ⟨c, d hj4, f, e⟩, fun h => absurd h hj⟩
  generalize L.set m ⟨(L[m]'(by omega)).has, { (L[m]'(by omega)).s with events := old, safe := old, so := some ⟨nb, 0, none⟩, sc := 3, states := ([1, 1, 1] : List UInt8).set k 2 }⟩ = L2 at *
  obtain ⟨v, hcm, hv1, hv2, hv3, hv4⟩ := stale_law hLl (fun j x hx => ⟨(hLs j x hx).1, (hLs j x hx).2.1⟩) hm3 hs1 (fun j x hx hj => ⟨((hLs j x hx).2.2.1 hj).1, ((hLs j x hx).2.2.1 hj).2.1, ((hLs j x hx).2.2.1 hj).2.2.1⟩) (fun x hx => by rw [((hLs m x hx).2.2.2 rfl).1]; exact holds)
  refine VO.ent (H' := Row nb 59 (bytes [1, 1, 1]) :: Own 61 13 (.slice (some la) 4 cap) 4 (balCells L2) :: (bs.map upR ++ [])) Ent.re ?_
  (refine w ?_; repeat ((first | refine VO.step rfl rfl ?_ | refine VD.end rfl rfl rfl ?_ | refine VD.mid rfl rfl rfl ?_); refine OpV.box rfl rfl rfl ?_; intro _; refine w ?_))
  (first | refine VO.pure rfl rfl (PureAt.rem (b := 4) rfl rfl (by decide)) rfl ?_ | refine VD.take rfl rfl rfl (PureAt.rem (b := 4) rfl rfl (by decide)) rfl ?_ | refine VQ.pure rfl rfl (PureAt.rem (b := 4) rfl rfl (by decide)) rfl ?_ | refine VD.end rfl rfl rfl (OpV.pure (PureAt.rem (b := 4) rfl rfl (by decide)) rfl ?_))
  rw [← hk]
  (refine w ?_; repeat ((first | refine VO.step rfl rfl ?_ | refine VD.end rfl rfl rfl ?_ | refine VD.mid rfl rfl rfl ?_); refine OpV.box rfl rfl rfl ?_; intro _; refine w ?_))
  have hm4 : m < L2.length := by omega
  have hcell : (balCells L2)[m * 13 + 11]? = some (.slice (some ⟨nb, 0, none⟩) 3 3) := by
    obtain ⟨a, b, c, d⟩ := hLs m _ (List.getElem?_eq_getElem hm4)
    obtain ⟨d1, d2, d3⟩ := d rfl
    refine (bal_get L2 m 11 hm4 (by decide)).trans ?_
    simp [d2, d3, a.sc]
  have hend : ∀ st : List UInt8, st = ([1, 1, 1] : List UInt8).set k 2 → ∀ x ∈ L2, ∃ n, x.s.so = some ⟨n, 0, none⟩ ∧ Row n 59 (bytes x.s.states) ∈ Row nb 59 (bytes st) :: Own 61 13 (.slice (some la) 4 cap) 4 (balCells L2) :: (bs.map upR ++ []) := fun st hst x hx => by
    obtain ⟨j, hj, rfl⟩ := List.mem_iff_getElem.1 hx
    obtain ⟨a, b, c, d⟩ := hLs j _ (List.getElem?_eq_getElem hj)
    by_cases e : j = m
    · obtain ⟨d1, d2, d3⟩ := d e
      exact ⟨nb, d2, by rw [d3, ← hst]; exact .head _⟩
    · obtain ⟨c1, c2, c3, n, hn1, hn2⟩ := c e
      exact ⟨n, hn2, by rw [c3]; exact .tail _ (.tail _ (List.mem_append_left _ (List.mem_map_of_mem hn1)))⟩
  have hft : ∀ x ∈ L2, x.s.fit := fun x hx => by
    obtain ⟨j, hj, rfl⟩ := List.mem_iff_getElem.1 hx
    exact std_fit (hLs j _ (List.getElem?_eq_getElem hj)).1 (by omega)
  refine VC.join (α := Unit) (fun _ => True) (fun _ => Row nb 59 (bytes (([1, 1, 1] : List UInt8).set k 2)) :: Own 61 13 (.slice (some la) 4 cap) 4 (balCells L2) :: (bs.map upR ++ [])) (fun _ => [(11, .int .u64 n), (12, .slice (some la) 4 cap), (15, .int .i64 m)]) ?_ ?_
  · intro Q2 jn
    (refine VC.cond rfl rfl ?_ ?_ <;> intro hc)
    · have hk3 : k < 3 := by have := of_decide_eq_true hc; omega
      (refine w ?_; repeat ((first | refine VO.step rfl rfl ?_ | refine VD.end rfl rfl rfl ?_ | refine VD.mid rfl rfl rfl ?_); refine OpV.box rfl rfl rfl ?_; intro _; refine w ?_))
      (first | refine VO.pure rfl rfl (PureAt.ldRc tab_ok rfl rfl (rdsBals (l := L2) (by (focus repeat first | exact .head _ | apply List.Mem.tail)) hLl) hcell) rfl ?_ | refine VD.take rfl rfl rfl (PureAt.ldRc tab_ok rfl rfl (rdsBals (l := L2) (by (focus repeat first | exact .head _ | apply List.Mem.tail)) hLl) hcell) rfl ?_ | refine VQ.pure rfl rfl (PureAt.ldRc tab_ok rfl rfl (rdsBals (l := L2) (by (focus repeat first | exact .head _ | apply List.Mem.tail)) hLl) hcell) rfl ?_ | refine VD.end rfl rfl rfl (OpV.pure (PureAt.ldRc tab_ok rfl rfl (rdsBals (l := L2) (by (focus repeat first | exact .head _ | apply List.Mem.tail)) hLl) hcell) rfl ?_))
      (refine w ?_; repeat ((first | refine VO.step rfl rfl ?_ | refine VD.end rfl rfl rfl ?_ | refine VD.mid rfl rfl rfl ?_); refine OpV.box rfl rfl rfl ?_; intro _; refine w ?_))
      (first | refine VO.pure rfl rfl (PureAt.rem (b := 4) rfl rfl (by decide)) rfl ?_ | refine VD.take rfl rfl rfl (PureAt.rem (b := 4) rfl rfl (by decide)) rfl ?_ | refine VQ.pure rfl rfl (PureAt.rem (b := 4) rfl rfl (by decide)) rfl ?_ | refine VD.end rfl rfl rfl (OpV.pure (PureAt.rem (b := 4) rfl rfl (by decide)) rfl ?_))
      rw [← hk]
      (refine w ?_; repeat ((first | refine VO.step rfl rfl ?_ | refine VD.end rfl rfl rfl ?_ | refine VD.mid rfl rfl rfl ?_); refine OpV.box rfl rfl rfl ?_; intro _; refine w ?_))
      refine VO.re 78 (.pointer (some ⟨nb, k, none⟩)) rfl (by unfold Addr.add; split <;> simp_all) ?_
      (first | refine VO.step rfl rfl ?_ | refine VD.end rfl rfl rfl ?_ | refine VD.mid rfl rfl rfl ?_)
      refine OpV.st (cs := bytes [1, 1, 1]) tab_ok rfl rfl rfl rfl .head (by simp; omega) ?_
      (refine w ?_; repeat ((first | refine VO.step rfl rfl ?_ | refine VD.end rfl rfl rfl ?_ | refine VD.mid rfl rfl rfl ?_); refine OpV.box rfl rfl rfl ?_; intro _; refine w ?_))
      exact jn.to () trivial ⟨rfl, rfl, rfl, trivial⟩ (by rw [show (bytes [1, 1, 1]).set k (.int .u8 2) = bytes (List.set [1, 1, 1] k 2) from bytes_set8 [1, 1, 1] k 2]; exact Ent.re)
    · have hk3 : k = 3 := by have := of_decide_eq_false hc; omega
      subst hk3
      (refine w ?_; repeat ((first | refine VO.step rfl rfl ?_ | refine VD.end rfl rfl rfl ?_ | refine VD.mid rfl rfl rfl ?_); refine OpV.box rfl rfl rfl ?_; intro _; refine w ?_))
      exact jn.to () trivial ⟨rfl, rfl, rfl, trivial⟩ Ent.re
  rintro ⟨⟩ -
  (refine w ?_; repeat ((first | refine VO.step rfl rfl ?_ | refine VD.end rfl rfl rfl ?_ | refine VD.mid rfl rfl rfl ?_); refine OpV.box rfl rfl rfl ?_; intro _; refine w ?_))
  ((first | refine VO.step rfl rfl ?_ | refine VD.end rfl rfl rfl ?_ | refine VD.mid rfl rfl rfl ?_); refine OpV.call rfl rfl (fun _ _ => by simp) (choose_n (l := L2) hLl (by omega) (bals_own L2 (by rw [hLl]; exact .tail _ (.head _)) (by simp) (hend _ rfl) hft)) Ent.refl rfl ?_)
  rintro ⟨xo, xc⟩ _
  rw [hcm]
  dsimp only
  refine VO.know (p := xo = none → v.st.length = 0) (fun w hw => Holds.ownNone hw (.head _)) ?_
  intro hxn
  obtain ⟨xa, rfl⟩ : ∃ x, xo = some x := by cases xo with | none => have := hxn rfl; omega | some x => exact ⟨x, rfl⟩
  obtain ⟨vs, vst, vcur, vch, vjr⟩ := v
  dsimp only at hv1 hv2 hv3 hv4 ⊢
  subst hv1
  (refine w ?_; repeat ((first | refine VO.step rfl rfl ?_ | refine VD.end rfl rfl rfl ?_ | refine VD.mid rfl rfl rfl ?_); refine OpV.box rfl rfl rfl ?_; intro _; refine w ?_))
  ((first | refine VO.step rfl rfl ?_ | refine VD.end rfl rfl rfl ?_ | refine VD.mid rfl rfl rfl ?_); refine OpV.allocS sb_32 rfl ?_; intro n17)
  (refine w ?_; repeat ((first | refine VO.step rfl rfl ?_ | refine VD.end rfl rfl rfl ?_ | refine VD.mid rfl rfl rfl ?_); refine OpV.box rfl rfl rfl ?_; intro _; refine w ?_))
  (first | refine VO.step rfl rfl ?_ | refine VD.end rfl rfl rfl ?_ | refine VD.mid rfl rfl rfl ?_)
  refine OpV.stA (vs := vCells vs (some xa) vst.length xc vcur true vjr) tab_ok rfl rfl rfl rfl (vCells_one _ _ _ _ _ _ _) (by (repeat first | exact .head | apply Hole.tail)) (by simp) ?_
  refine VO.ent (Reord.ent (L := Row n17 32 (vCells vs (some xa) vst.length xc vcur true vjr) :: Own 59 1 (.slice (some xa) vst.length xc) vst.length (bytes vst) :: []) (by (repeat first | exact .refl | (apply Reord.cons; focus repeat first | exact .head | apply Del.tail) | exact .nil | apply Reord.drop))) ?_
  (refine w ?_; repeat ((first | refine VO.step rfl rfl ?_ | refine VD.end rfl rfl rfl ?_ | refine VD.mid rfl rfl rfl ?_); refine OpV.box rfl rfl rfl ?_; intro _; refine w ?_))
  ((first | refine VO.step rfl rfl ?_ | refine VD.end rfl rfl rfl ?_ | refine VD.mid rfl rfl rfl ?_); refine OpV.call rfl rfl (fun _ _ => by simp) (vknown_ok) Ent.refl rfl ?_; intro _ _)
  (refine w ?_; repeat ((first | refine VO.step rfl rfl ?_ | refine VD.end rfl rfl rfl ?_ | refine VD.mid rfl rfl rfl ?_); refine OpV.box rfl rfl rfl ?_; intro _; refine w ?_))
  (first | refine VO.pure rfl rfl (.ldR tab_ok rfl rfl (Rds.own (bytes_one _) (by (focus repeat first | exact .head _ | apply List.Mem.tail)) (by simp) (by simp)) (show (bytes vst)[m]? = some (.int .u8 2) by simp [bytes, hv3]; rfl)) rfl ?_ | refine VD.take rfl rfl rfl (.ldR tab_ok rfl rfl (Rds.own (bytes_one _) (by (focus repeat first | exact .head _ | apply List.Mem.tail)) (by simp) (by simp)) (show (bytes vst)[m]? = some (.int .u8 2) by simp [bytes, hv3]; rfl)) rfl ?_ | refine VQ.pure rfl rfl (.ldR tab_ok rfl rfl (Rds.own (bytes_one _) (by (focus repeat first | exact .head _ | apply List.Mem.tail)) (by simp) (by simp)) (show (bytes vst)[m]? = some (.int .u8 2) by simp [bytes, hv3]; rfl)) rfl ?_ | refine VD.end rfl rfl rfl (OpV.pure (.ldR tab_ok rfl rfl (Rds.own (bytes_one _) (by (focus repeat first | exact .head _ | apply List.Mem.tail)) (by simp) (by simp)) (show (bytes vst)[m]? = some (.int .u8 2) by simp [bytes, hv3]; rfl)) rfl ?_))
  (refine w ?_; repeat ((first | refine VO.step rfl rfl ?_ | refine VD.end rfl rfl rfl ?_ | refine VD.mid rfl rfl rfl ?_); refine OpV.box rfl rfl rfl ?_; intro _; refine w ?_))
  (refine VE.done1 rfl ?_ ?_)
  · rw [hv4]; simp
  · exact Ent.re
end Go.Proofs.Ytlflmnmkgaeabaa
