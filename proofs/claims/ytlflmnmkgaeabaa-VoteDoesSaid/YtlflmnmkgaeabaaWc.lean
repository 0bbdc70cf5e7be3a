/- Votes over ballots that are lent: the plain law. -/
import Derived.Test.YtlflmnmkgaeabaaWb
import Derived.Test.YtlflmnmkgaeabaaVy
set_option maxRecDepth 8000
set_option linter.unusedVariables false
set_option linter.unusedSimpArgs false
set_option linter.unusedSectionVars false
namespace Go.Proofs.Ytlflmnmkgaeabaa
open Go.RowKit Go.Sl
attribute [local irreducible] Own

def eqS (a b : SuperD) : Prop := a.same b = true
theorem eqS_iff {a b : SuperD} : eqS a b ↔ a.id = b.id ∧ a.events = b.events ∧ a.safe = b.safe ∧ a.role = b.role ∧ (a.members = b.members ∧ a.chunk = b.chunk ∧ a.stripes = b.stripes) ∧ a.ring = b.ring ∧ a.lazy = b.lazy ∧ a.lost = b.lost ∧ a.cursor = b.cursor ∧ a.states = b.states := same_iff a b
theorem eqS_refl (a : SuperD) : eqS a a := eqS_iff.2 ⟨rfl, rfl, rfl, rfl, ⟨rfl, rfl, rfl⟩, rfl, rfl, rfl, rfl, rfl⟩
theorem eqS_like {a b : SuperD} (h : eqS a b) : likeS a b := by
  obtain ⟨h1, h2, h3, h4, h5, h6, h7, h8, h9, h10⟩ := eqS_iff.1 h
  exact ⟨h1, h5, h6, h7⟩
theorem alike_eqS {a b c d : SuperD} (h : eqS a c) (k : eqS b d) : a.alike b = c.alike d := by
  obtain ⟨h1, h2, h3, h4, h5, h6, h7, h8, h9, h10⟩ := eqS_iff.1 h
  obtain ⟨k1, k2, k3, k4, k5, k6, k7, k8, k9, k10⟩ := eqS_iff.1 k
  unfold SuperD.alike
  rw [akin_like (eqS_like h) (eqS_like k), h2, h3, h8, h9, h10, k2, k3, k8, k9, k10]
theorem rows_any {p q : SuperD → Bool} {a b : List SuperD} (h : Rows2 eqS a b) (hp : ∀ x y, eqS x y → p x = q y) : a.any p = b.any q := by
  induction h with
  | nil => rfl
  | cons x _ ih => rw [List.any_cons, List.any_cons, hp _ _ x, ih]
theorem rows_filter {p q : SuperD → Bool} {a b : List SuperD} (h : Rows2 eqS a b) (hp : ∀ x y, eqS x y → p x = q y) : Rows2 eqS (a.filter p) (b.filter q) := by
  induction h with
  | nil => exact .nil
  | @cons s t l m x _ ih =>
    rw [List.filter_cons, List.filter_cons, hp _ _ x]
    split
    · exact .cons x ih
    · exact ih
theorem members_eqS {a b : List SuperD} (h : Rows2 eqS a b) : (membersM a).1 = (membersM b).1 ∧ eqS (membersM a).2 (membersM b).2 := by
  have h1 : a.any (fun s => !s.lost) = b.any (fun s => !s.lost) := rows_any h fun x y e => by rw [(eqS_iff.1 e).2.2.2.2.2.2.2.1]
  have h2 : a.any (oddOne a) = b.any (oddOne b) := rows_any h fun x y e => by
    unfold oddOne
    exact rows_any h fun u v f => by rw [alike_eqS e f]
  unfold membersM
  rw [h1, h2]
  split
  · exact ⟨rfl, eqS_refl _⟩
  · split
    · exact ⟨rfl, eqS_refl _⟩
    · refine ⟨rfl, ?_⟩
      cases h with
      | nil => exact eqS_refl _
      | cons x _ => exact x
/-- Lists of ballots that differ but in where states lie. -/
structure SameL (m l : List BalD) : Prop where
  len : m.length = l.length
  has : ∀ (i : Nat) (b c : BalD), m[i]? = some b → l[i]? = some c → b.has = c.has ∧ eqS b.s c.s
theorem SameL.cts {m l : List BalD} (h : SameL m l) (i : Nat) : countsB m i = countsB l i := by
  unfold countsB
  rcases Nat.lt_or_ge i l.length with hi | hi
  · have hm : i < m.length := by rw [h.len]; exact hi
    have e := h.has i _ _ (List.getElem?_eq_getElem hm) (List.getElem?_eq_getElem hi)
    rw [List.getElem?_eq_getElem hi, List.getElem?_eq_getElem hm]
    dsimp only
    obtain ⟨h1, h2, h3, h4, ⟨h5, h6, h7⟩, h8, h9, h10, h11, h12⟩ := eqS_iff.1 e.2
    have hok : m[i].s.okP ↔ l[i].s.okP := by
      unfold SuperD.okP SuperD.form SuperD.sizes SuperD.counts SuperD.last
      rw [h2, h3, h4, h5, h6, h7, h8, h11, h12]
    rw [e.1, h.len, h4, h5]
    congr 1
    rw [decide_eq_decide, hok]
  · rw [List.getElem?_eq_none hi, List.getElem?_eq_none (by rw [h.len]; exact hi)]
theorem SameL.sups {m l : List BalD} (h : SameL m l) (i : Nat) : eqS (supAt m i) (supAt l i) := by
  unfold supAt
  rcases Nat.lt_or_ge i l.length with hi | hi
  · have hm : i < m.length := by rw [h.len]; exact hi
    have e := h.has i _ _ (List.getElem?_eq_getElem hm) (List.getElem?_eq_getElem hi)
    rw [List.getElem?_eq_getElem hi, List.getElem?_eq_getElem hm]
    exact e.2
  · rw [List.getElem?_eq_none hi, List.getElem?_eq_none (by rw [h.len]; exact hi)]; exact eqS_refl _
theorem SameL.evv {m l : List BalD} (h : SameL m l) (i : Nat) : evs m i = evs l i := by
  unfold evs
  rcases Nat.lt_or_ge i l.length with hi | hi
  · have hm : i < m.length := by rw [h.len]; exact hi
    have e := h.has i _ _ (List.getElem?_eq_getElem hm) (List.getElem?_eq_getElem hi)
    rw [List.getElem?_eq_getElem hi, List.getElem?_eq_getElem hm]
    exact (eqS_iff.1 e.2).2.1
  · rw [List.getElem?_eq_none hi, List.getElem?_eq_none (by rw [h.len]; exact hi)]
theorem SameL.vts {m l : List BalD} (h : SameL m l) : ∀ i, Rows2 eqS (votesN m i) (votesN l i)
  | 0 => .nil
  | i + 1 => by
    rw [votesN, votesN, h.cts i]
    refine (SameL.vts h i).append ?_
    split
    · exact .cons (h.sups i) .nil
    · exact .nil
theorem SameL.gds {m l : List BalD} (h : SameL m l) : (guideM m).1 = (guideM l).1 ∧ eqS (guideM m).2 (guideM l).2 := by
  unfold guideM
  rw [h.len, h.cts]
  split
  · exact ⟨rfl, h.sups _⟩
  · rw [top_congr h.cts (fun i _ => h.evv i)]
    refine members_eqS (rows_filter (h.vts _) fun x y e => ?_)
    rw [(eqS_iff.1 e).2.1]
theorem SameL.chs {m l : List BalD} (h : SameL m l) : (chooseM m).1 = (chooseM l).1 ∧ (chooseM m).2.same (chooseM l).2 = true := by
  obtain ⟨g1, g2⟩ := h.gds
  have hv := h.vts l.length
  obtain ⟨e1, e2, e3, e4, e5, e6, e7, e8, e9, e10⟩ := eqS_iff.1 g2
  have hany : (votesN m l.length).any (fun s => !s.akin ((votesN m l.length).headD zeroSup)) = (votesN l l.length).any (fun s => !s.akin ((votesN l l.length).headD zeroSup)) := by
    generalize votesN m l.length = a at hv
    generalize votesN l l.length = b at hv
    have hd : eqS (a.headD zeroSup) (b.headD zeroSup) := by
      cases hv with
      | nil => exact eqS_refl _
      | cons x _ => exact x
    exact rows_any hv fun x y e => by rw [akin_like (eqS_like e) (eqS_like hd)]
  have hnil : votesN m l.length = [] ↔ votesN l l.length = [] := by
    generalize votesN m l.length = a at hv
    generalize votesN l l.length = b at hv
    cases hv <;> simp
  have hfull : (fullV m (guideM m).2).same (fullV l (guideM l).2) = true := by
    unfold fullV
    rw [h.len, h.cts, top_congr h.cts (fun i _ => h.evv i), wipe_congr h.cts (fun i _ => h.evv i), turn_congr h.cts (fun i _ => h.evv i), new_congr h.cts (fun i _ => h.evv i), e3, e8, e9, e10]
    unfold VerD.same
    simp only [beq_self_eq_true, Bool.true_and]
    exact (same_iff _ _).2 ⟨e1, rfl, rfl, rfl, e5, e6, e7, rfl, rfl, rfl⟩
  unfold chooseM
  rw [h.len, hany, g1, away_congr h.cts (fun i _ => h.evv i), e3, e10]
  by_cases c1 : l.length < 4 ∨ 17 < l.length
  · rw [if_pos c1, if_pos c1]; exact ⟨rfl, same_refl _⟩
  rw [if_neg c1, if_neg c1]
  by_cases c2 : votesN l l.length = []
  · rw [if_pos (hnil.2 c2), if_pos c2]; exact ⟨rfl, same_refl _⟩
  rw [if_neg (fun q => c2 (hnil.1 q)), if_neg c2]
  split
  · exact ⟨rfl, same_refl _⟩
  · split
    · exact ⟨rfl, same_refl _⟩
    · split
      · exact ⟨rfl, same_refl _⟩
      · exact ⟨rfl, hfull⟩
theorem lent_same {l : List BalD} {es : List (Addr × Nat)} (h : es.length = l.length) : SameL (lentL l es) l where
  len := lentL_length h
  has := fun i b c hb hc => by
    obtain ⟨hi, rfl⟩ := List.getElem?_eq_some_iff.1 hc
    obtain ⟨hi2, rfl⟩ := List.getElem?_eq_some_iff.1 hb
    rw [lentL_get h i hi]
    exact ⟨rfl, eqS_iff.2 ⟨rfl, rfl, rfl, rfl, ⟨rfl, rfl, rfl⟩, rfl, rfl, rfl, rfl, rfl⟩⟩
theorem same_st {v u : VerD} (h : v.same u = true) : v.st = u.st := by
  unfold VerD.same at h
  simp only [Bool.and_eq_true] at h
  exact ((same_iff _ _).1 h.2.2).2.2.2.2.2.2.2.2.2
end Go.Proofs.Ytlflmnmkgaeabaa
