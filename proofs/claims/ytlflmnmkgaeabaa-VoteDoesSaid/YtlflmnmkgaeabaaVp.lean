/- Votes: stores into ballots, ballots that count, the vote where the journal's counts. -/
import Derived.Test.YtlflmnmkgaeabaaVo
set_option maxRecDepth 8000
set_option linter.unusedVariables false
set_option linter.unusedSimpArgs false
set_option linter.unusedSectionVars false
namespace Go.Proofs.Ytlflmnmkgaeabaa
open Go.RowKit Go.Sl
attribute [local irreducible] Own

theorem flat_set1 {α β : Type} {g : α → List β} {w : Nat} (b : α) (v : β) (k : Nat) (hk : k < w) : ∀ (l : List α) (j : Nat) (h : j < l.length), (∀ a ∈ l, (g a).length = w) → g b = (g l[j]).set k v → (l.flatMap g).set (j * w + k) v = (l.set j b).flatMap g
  | a :: r, 0, _, h, hb => by
    rw [Nat.zero_mul, Nat.zero_add, List.flatMap_cons, List.set_append, if_pos (by rw [h a (.head _)]; exact hk), List.set_cons_zero, List.flatMap_cons]
    rw [hb]; rfl
  | a :: r, j + 1, hj, h, hb => by
    have ih := flat_set1 b v k hk r j (by simpa using hj) (fun x hx => h x (.tail _ hx)) hb
    rw [List.flatMap_cons, List.set_append, if_neg (by rw [h a (.head _), Nat.add_mul]; omega), List.set_cons_succ, List.flatMap_cons, ← ih, h a (.head _)]
    congr 2
    rw [Nat.add_mul]; omega
theorem bal_set (l : List BalD) (j k : Nat) (h : j < l.length) (hk : k < 13) (v : Value) (b : BalD) (hb : b.cells = (l[j].cells).set k v) : (balCells l).set (j * 13 + k) v = balCells (l.set j b) := flat_set1 b v k hk l j h (fun _ _ => rfl) hb
theorem balCells_length (l : List BalD) : (balCells l).length = l.length * 13 := flat_length l fun _ _ => rfl

/-- Of the laws' array: three members, their journal. -/
structure Std (x : BalD) (i : Nat) : Prop where
  id : x.s.id = 1
  role : x.s.role = (i : Int)
  geo : x.s.members = 3 ∧ x.s.chunk = 1 ∧ x.s.stripes = 2
  ring : x.s.ring = 10
  lazy : x.s.lazy = false
  cursor : x.s.cursor = 0
  len : x.s.states.length = 3
  good : goodSt x.s.states 3
  ev : x.s.events ≤ 4611686018427387904
  safe : 1 ≤ x.s.safe ∧ x.s.safe ≤ x.s.events
  sc : x.s.sc = 3
theorem std_counts {l : List BalD} {i : Nat} {x : BalD} (hl : l.length = 4) (hx : l[i]? = some x) (h : Std x i) : countsB l i = x.has := by
  have hok : x.s.okP := by
    refine ⟨(form_iff _).2 ?_, by rw [h.len]; exact h.good, by rw [h.cursor]; decide, ?_⟩
    · obtain ⟨g1, g2, g3⟩ := h.geo
      obtain ⟨s1, s2⟩ := h.safe
      have e1 := h.ev; have r1 := h.role; have r2 := h.ring; have l1 := h.len
      have hi : i < l.length := (List.getElem?_eq_some_iff.1 hx).1
      refine ⟨⟨?_, ?_, ?_, ?_, ?_, ?_⟩, ?_, ?_, ?_, ?_, ?_, ?_, ?_, ?_, ?_⟩ <;> omega
    · rw [h.cursor]; unfold SuperD.last; obtain ⟨g1, g2, g3⟩ := h.geo; split <;> omega
  unfold countsB
  rw [hx]
  have h1 : x.s.okP ∧ x.s.members = (l.length : Int) - 1 ∧ x.s.role = (i : Int) := ⟨hok, by rw [h.geo.1, hl]; rfl, h.role⟩
  simp only [decide_eq_true h1, Bool.and_true]
theorem std_akin {x y : BalD} {i j : Nat} (h : Std x i) (k : Std y j) : x.s.akin y.s = true := by
  unfold SuperD.akin
  obtain ⟨g1, g2, g3⟩ := h.geo
  obtain ⟨k1, k2, k3⟩ := k.geo
  simp only [h.id, k.id, g1, g2, g3, k1, k2, k3, h.ring, k.ring, h.lazy, k.lazy, and_self, decide_true]

theorem choose_jr (l : List BalD) (h4 : 4 ≤ l.length) (h17 : l.length ≤ 17) (hj : countsB l (l.length - 1) = true) (hak : ∀ i j, countsB l i = true → countsB l j = true → (supAt l i).akin (supAt l j) = true) :
    chooseM l = if 1 < awayM l (supAt l (l.length - 1)).safe (supAt l (l.length - 1)).states (supAt l (l.length - 1)).states.length then (152, noneV) else (0, fullV l (supAt l (l.length - 1))) := by
  have hne : votesN l l.length ≠ [] := by
    obtain ⟨k, hk⟩ : ∃ k, l.length = k + 1 := ⟨l.length - 1, by omega⟩
    have hj' : countsB l k = true := by rw [← hj]; congr 1; omega
    rw [hk, votesN, if_pos hj']; simp
  have hany : ¬ (votesN l l.length).any (fun s => !s.akin ((votesN l l.length).headD zeroSup)) = true := by
    intro h
    obtain ⟨s, hs, h2⟩ := List.any_eq_true.1 h
    obtain ⟨i, -, hi, rfl⟩ := votes_mem l _ s hs
    have hh : (votesN l l.length).headD zeroSup ∈ votesN l l.length := by
      obtain ⟨x, r, hx⟩ := List.exists_cons_of_ne_nil hne
      rw [hx]; exact .head _
    obtain ⟨j, -, hj2, hj3⟩ := votes_mem l _ _ hh
    rw [← hj3, hak i j hi hj2] at h2
    cases h2
  have hg : guideM l = (0, supAt l (l.length - 1)) := if_pos hj
  unfold chooseM
  rw [if_neg (by omega), if_neg hne, if_neg hany, hg]
  simp only [ne_eq, not_true_eq_false, if_false]
theorem std_all {l : List BalD} (hl : l.length = 4) (h : ∀ i x, l[i]? = some x → Std x i) (hj : ∀ x, l[3]? = some x → x.has = true) :
    chooseM l = if 1 < awayM l (supAt l 3).safe (supAt l 3).states 3 then (152, noneV) else (0, fullV l (supAt l 3)) := by
  have h3 : ∃ x, l[3]? = some x := ⟨_, List.getElem?_eq_getElem (by omega)⟩
  obtain ⟨x, hx⟩ := h3
  have e := choose_jr l (by omega) (by omega) (by rw [hl]; show countsB l 3 = true; rw [std_counts hl hx (h _ _ hx)]; exact hj x hx) (fun i j hi hj => by
    have a := counts_lt l i hi
    have b := counts_lt l j hj
    rw [supAt_get l i a, supAt_get l j b]
    exact std_akin (h i _ (List.getElem?_eq_getElem a)) (h j _ (List.getElem?_eq_getElem b)))
  rw [hl] at e
  have hs : (supAt l 3).states.length = 3 := by unfold supAt; rw [hx]; exact (h _ _ hx).len
  rw [show 4 - 1 = 3 from rfl, hs] at e
  exact e
theorem fit_std {l : List BalD} {i : Nat} {x : BalD} (hl : l.length = 4) (hx : l[i]? = some x) (h : Std x i) (safe : Nat) (st : List UInt8) : fitM l safe st i = (stAt st i != 2 && (x.has && decide (safe ≤ x.s.events))) := by
  unfold fitM
  rw [std_counts hl hx h]
  unfold evs
  rw [hx]
theorem std_fit {x : BalD} {i : Nat} (h : Std x i) (hi : i < 100) : x.s.fit := by
  have e1 := h.ev; have s1 := h.safe; have r1 := h.role; have g1 := h.geo; have r2 := h.ring; have c1 := h.cursor; have l1 := h.len; have i1 := h.id; have z1 := h.sc
  constructor <;> omega
theorem choose_n {W : World} {R : List SProp} {ao : Option Addr} {cap n : Nat} {l : List BalD} (hn : l.length = n) (hlen : l.length ≤ 1000000) (hb : Bals W R ao l) :
    Does W Try.prog 11 [.slice ao n cap] R (β := Option Addr × Nat) (fun _ => True) (fun x => .tuple #[.agg ((chooseM l).2.cells x).toArray, .int .u16 (chooseM l).1])
      (fun x => Own 59 1 (.slice x.1 (chooseM l).2.st.length x.2) (chooseM l).2.st.length (bytes (chooseM l).2.st) :: R) := by
  subst hn; exact choose_ok hlen hb
theorem rdsBals {W : World} {H : List SProp} {a : Addr} {cap n : Nat} {l : List BalD} (m : Own 61 13 (.slice (some a) n cap) n (balCells l) ∈ H) (hl : l.length = n) : Rds W H 13 (some a) n (balCells l) :=
  Rds.own (fun u hu => by obtain ⟨b, _, h⟩ := List.mem_flatMap.1 hu; exact bal_one b u h) m (by rw [balCells_length, hl]) (by simp)
theorem nat_u8 {n : Int} (h : (Lit.int .u8 n).wf = true) : ∃ m : Nat, n = m ∧ m ≤ 255 := by
  have hb : 0 ≤ n ∧ n ≤ 255 := by simpa [Lit.wf, IntKind.min, IntKind.max, IntKind.signed, IntKind.bits] using h
  exact ⟨n.toNat, by omega, by omega⟩
theorem nat_u16 {n : Int} (h : (Lit.int .u16 n).wf = true) : ∃ m : Nat, n = m ∧ m ≤ 65535 := by
  have hb : 0 ≤ n ∧ n ≤ 65535 := by simpa [Lit.wf, IntKind.min, IntKind.max, IntKind.signed, IntKind.bits] using h
  exact ⟨n.toNat, by omega, by omega⟩
end Go.Proofs.Ytlflmnmkgaeabaa
