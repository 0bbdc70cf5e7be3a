/- Votes that come to the same: the plain law. -/
import Derived.Test.YtlflmnmkgaeabaaVu
set_option maxRecDepth 8000
set_option linter.unusedVariables false
set_option linter.unusedSimpArgs false
set_option linter.unusedSectionVars false
namespace Go.Proofs.Ytlflmnmkgaeabaa
open Go.RowKit Go.Sl
attribute [local irreducible] Own

/-- What of a superblock is asked where its array is told, and what of its age. -/
def likeS (a b : SuperD) : Prop := a.id = b.id ∧ (a.members = b.members ∧ a.chunk = b.chunk ∧ a.stripes = b.stripes) ∧ a.ring = b.ring ∧ a.lazy = b.lazy
theorem akin_like {a b c d : SuperD} (h : likeS a c) (k : likeS b d) : a.akin b = c.akin d := by
  obtain ⟨h1, ⟨h2, h3, h4⟩, h5, h6⟩ := h
  obtain ⟨k1, ⟨k2, k3, k4⟩, k5, k6⟩ := k
  unfold SuperD.akin
  rw [h1, h2, h3, h4, h5, h6, k1, k2, k3, k4, k5, k6]
theorem top_congr {l m : List BalD} (hc : ∀ i, countsB m i = countsB l i) (he : ∀ i, countsB l i = true → evs m i = evs l i) : ∀ i, topN m i = topN l i
  | 0 => rfl
  | i + 1 => by
    rw [topN, topN, hc i, top_congr hc he i]
    by_cases h : countsB l i = true
    · rw [if_pos h, if_pos h, he i h]
    · rw [if_neg h, if_neg h]
theorem fit_congr {l m : List BalD} (hc : ∀ i, countsB m i = countsB l i) (he : ∀ i, countsB l i = true → evs m i = evs l i) (safe : Nat) (st : List UInt8) (i : Nat) : fitM m safe st i = fitM l safe st i := by
  unfold fitM
  rw [hc i]
  cases h : countsB l i
  · simp
  · rw [he i h]
theorem gone_congr {l m : List BalD} (hc : ∀ i, countsB m i = countsB l i) (he : ∀ i, countsB l i = true → evs m i = evs l i) (safe : Nat) (st : List UInt8) (i : Nat) : goneM m safe st i = goneM l safe st i := by
  unfold goneM; rw [fit_congr hc he]
theorem away_congr {l m : List BalD} (hc : ∀ i, countsB m i = countsB l i) (he : ∀ i, countsB l i = true → evs m i = evs l i) (safe : Nat) (st : List UInt8) : ∀ i, awayM m safe st i = awayM l safe st i
  | 0 => rfl
  | i + 1 => by rw [awayM, awayM, fit_congr hc he, away_congr hc he safe st i]
theorem turn_congr {l m : List BalD} (hc : ∀ i, countsB m i = countsB l i) (he : ∀ i, countsB l i = true → evs m i = evs l i) (safe : Nat) (st : List UInt8) : ∀ i, turnM m safe st i = turnM l safe st i
  | 0 => rfl
  | i + 1 => by rw [turnM, turnM, gone_congr hc he, turn_congr hc he safe st i]
theorem wipe_congr {l m : List BalD} (hc : ∀ i, countsB m i = countsB l i) (he : ∀ i, countsB l i = true → evs m i = evs l i) (safe : Nat) (st : List UInt8) : ∀ i, wipeM m safe st i = wipeM l safe st i
  | 0 => rfl
  | i + 1 => by rw [wipeM, wipeM, gone_congr hc he, wipe_congr hc he safe st i]
theorem new_congr {l m : List BalD} (hc : ∀ i, countsB m i = countsB l i) (he : ∀ i, countsB l i = true → evs m i = evs l i) (safe : Nat) (st : List UInt8) (i : Nat) : newSt m safe st i = newSt l safe st i := by
  unfold newSt
  congr 1
  funext j x
  rw [gone_congr hc he]
/-- Lists of votes, place for place. -/
inductive Rows2 {α β : Type} (p : α → β → Prop) : List α → List β → Prop
  | nil : Rows2 p [] []
  | cons {a : α} {b : β} {l : List α} {m : List β} : p a b → Rows2 p l m → Rows2 p (a :: l) (b :: m)
theorem Rows2.append {α β : Type} {p : α → β → Prop} {a c : List α} {b d : List β} (h : Rows2 p a b) (k : Rows2 p c d) : Rows2 p (a ++ c) (b ++ d) := by
  induction h with
  | nil => exact k
  | cons x _ ih => exact .cons x ih
theorem votes_like {l m : List BalD} (hc : ∀ i, countsB m i = countsB l i) (hk : ∀ i, countsB l i = true → likeS (supAt m i) (supAt l i)) : ∀ i, Rows2 likeS (votesN m i) (votesN l i)
  | 0 => .nil
  | i + 1 => by
    rw [votesN, votesN, hc i]
    refine (votes_like hc hk i).append ?_
    by_cases h : countsB l i = true
    · rw [if_pos h, if_pos h]; exact .cons (hk i h) .nil
    · rw [if_neg h, if_neg h]; exact .nil
theorem any_like {a b : List SuperD} {s t : SuperD} (h : Rows2 likeS a b) (k : likeS s t) : a.any (fun x => !x.akin s) = b.any (fun x => !x.akin t) := by
  induction h with
  | nil => rfl
  | cons x _ ih => rw [List.any_cons, List.any_cons, akin_like x k, ih]
theorem choose_congr {l m : List BalD} (hl : m.length = l.length) (hc : ∀ i, countsB m i = countsB l i) (hk : ∀ i, countsB l i = true → likeS (supAt m i) (supAt l i)) (he : ∀ i, countsB l i = true → evs m i = evs l i) (hg : guideM m = guideM l) : chooseM m = chooseM l := by
  have hv := votes_like hc hk l.length
  have hf : ∀ s, fullV m s = fullV l s := fun s => by
    unfold fullV
    rw [hl, hc, top_congr hc he, wipe_congr hc he, turn_congr hc he, new_congr hc he]
  unfold chooseM
  rw [hl, hg, away_congr hc he, hf]
  have h1 : votesN m l.length = [] ↔ votesN l l.length = [] := by
    generalize votesN m l.length = a at hv
    generalize votesN l l.length = b at hv
    cases hv <;> simp
  have h2 : (votesN m l.length).any (fun s => !s.akin ((votesN m l.length).headD zeroSup)) = (votesN l l.length).any (fun s => !s.akin ((votesN l l.length).headD zeroSup)) := by
    generalize votesN m l.length = a at hv
    generalize votesN l l.length = b at hv
    refine any_like hv ?_
    cases hv with
    | nil => exact ⟨rfl, ⟨rfl, rfl, rfl⟩, rfl, rfl⟩
    | cons x _ => exact x
  rw [h2]
  by_cases e : votesN l l.length = []
  · rw [if_pos (h1.2 e), if_pos e]
  · rw [if_neg (fun q => e (h1.1 q)), if_neg e]

theorem top_bound (l : List BalD) (hf : ∀ b ∈ l, b.s.fit) : ∀ i, topN l i < 18446744073709551616
  | 0 => by show 0 < 18446744073709551616; decide
  | i + 1 => by
    rw [topN]
    have := top_bound l hf i
    split
    · rename_i h
      have hi := counts_lt l i h
      have := (hf _ (List.getElem_mem hi)).events
      rw [show evs l i = l[i].s.events by simp [evs, hi]]
      omega
    · exact this
theorem guide_fit (l : List BalD) (hf : ∀ b ∈ l, b.s.fit) : (guideM l).2.fit ∨ (guideM l).2 = zeroSup := by
  unfold guideM
  split
  · rename_i h
    have hi := counts_lt l _ h
    rw [supAt_get l _ hi]; exact .inl (hf _ (List.getElem_mem hi))
  · unfold membersM
    split
    · exact .inr rfl
    · split
      · exact .inr rfl
      · cases hb : bestN (votesN l l.length) (topN l l.length) with
        | nil => exact .inr rfl
        | cons x r =>
          have hm0 : x ∈ bestN (votesN l l.length) (topN l l.length) := by rw [hb]; exact .head _
          obtain ⟨j, -, h3, rfl⟩ := votes_mem l _ _ (List.mem_filter.1 hm0).1
          have hi := counts_lt l _ h3
          refine .inl ?_
          show (supAt l j).fit
          rw [supAt_get l _ hi]; exact hf _ (List.getElem_mem hi)
theorem none_fit (x : Option Addr × Nat) : (noneV.sup x).fit := by constructor <;> simp [VerD.sup, noneV, zeroSup]
theorem zero_fit : zeroSup.fit := by constructor <;> simp [zeroSup]
theorem choose_fit (l : List BalD) (hf : ∀ b ∈ l, b.s.fit) (x : Option Addr × Nat) (hx : (chooseM l).2.st.length ≤ x.2) : ((chooseM l).2.sup x).fit := by
  unfold chooseM at *
  split
  · exact none_fit x
  · split
    · exact none_fit x
    · split
      · exact none_fit x
      · split
        · exact none_fit x
        · split
          · exact none_fit x
          · rename_i h1 h2 h3 h4 h5
            rw [if_neg h1, if_neg h2, if_neg h3, if_neg h4, if_neg h5] at hx
            have g : (guideM l).2.fit := by
              rcases guide_fit l hf with h | h
              · exact h
              · rw [h]; exact zero_fit
            have hst : (fullV l (guideM l).2).st.length = (guideM l).2.states.length := by simp [fullV]
            have ht := top_bound l hf l.length
            have hcur : (fullV l (guideM l).2).cur = 0 ∨ (fullV l (guideM l).2).cur = (guideM l).2.cursor := by
              unfold fullV; dsimp only; split
              · exact .inl rfl
              · exact .inr rfl
            constructor
            · exact g.id
            · exact ht
            · exact g.safe
            · simp [VerD.sup, fullV]
            · exact g.members
            · exact g.chunk
            · exact g.stripes
            · exact g.ring
            · rcases hcur with h | h
              · simp [VerD.sup, h]
              · have := g.cursor; simp only [VerD.sup, h]; exact this
            · show (fullV l (guideM l).2).st.length ≤ _; rw [hst]; exact g.len
            · exact hx
theorem same_refl (v : VerD) : v.same v = true := by
  unfold VerD.same
  have : (v.sup (none, 0)).same (v.sup (none, 0)) = true := (same_iff _ _).2 ⟨rfl, rfl, rfl, rfl, ⟨rfl, rfl, rfl⟩, rfl, rfl, rfl, rfl, rfl⟩
  rw [this]; simp
end Go.Proofs.Ytlflmnmkgaeabaa
