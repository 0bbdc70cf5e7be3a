/- VoteKeeps: the plain law. -/
import Derived.Test.YtlflmnmkgaeabaaVs
set_option maxRecDepth 8000
set_option linter.unusedVariables false
set_option linter.unusedSimpArgs false
set_option linter.unusedSectionVars false
namespace Go.Proofs.Ytlflmnmkgaeabaa
open Go.RowKit Go.Sl
attribute [local irreducible] Own

theorem choose_inv (l : List BalD) (h0 : (chooseM l).1 = 0) : 4 ≤ l.length ∧ l.length ≤ 17 ∧ votesN l l.length ≠ [] ∧ ¬ (votesN l l.length).any (fun s => !s.akin ((votesN l l.length).headD zeroSup)) = true ∧ (guideM l).1 = 0 ∧
    ¬ 1 < awayM l (guideM l).2.safe (guideM l).2.states (guideM l).2.states.length ∧ chooseM l = (0, fullV l (guideM l).2) := by
  unfold chooseM at *
  split at h0
  · cases h0
  · rename_i h1
    rw [if_neg h1]
    split at h0
    · cases h0
    · rename_i h2
      rw [if_neg h2]
      split at h0
      · cases h0
      · rename_i h3
        rw [if_neg h3]
        split at h0
        · rename_i h4; exact absurd h0 h4
        · rename_i h4
          rw [if_neg h4]
          split at h0
          · cases h0
          · rename_i h5
            rw [if_neg h5]
            exact ⟨by omega, by omega, h2, h3, by omega, h5, rfl⟩
theorem akin_iff (a b : SuperD) : a.akin b = true ↔ a.id = b.id ∧ (a.members = b.members ∧ a.chunk = b.chunk ∧ a.stripes = b.stripes) ∧ a.ring = b.ring ∧ a.lazy = b.lazy := by unfold SuperD.akin; simp
theorem votes_of (l : List BalD) : ∀ i m, m < i → countsB l m = true → supAt l m ∈ votesN l i
  | 0, m, h, _ => absurd h (by omega)
  | i + 1, m, h, hc => by
    rw [votesN]
    by_cases e : m = i
    · subst e; rw [if_pos hc]; exact List.mem_append_right _ (.head _)
    · exact List.mem_append_left _ (votes_of l i m (by omega) hc)
theorem top_ge (l : List BalD) : ∀ i m, m < i → countsB l m = true → evs l m ≤ topN l i
  | 0, m, h, _ => absurd h (by omega)
  | i + 1, m, h, hc => by
    rw [topN]
    by_cases e : m = i
    · subst e; rw [if_pos hc]; omega
    · have := top_ge l i m (by omega) hc
      split <;> omega
theorem all_akin (l : List BalD) (hany : ¬ (votesN l l.length).any (fun s => !s.akin ((votesN l l.length).headD zeroSup)) = true) (m k : Nat) (hm : countsB l m = true) (hk : countsB l k = true) : (supAt l m).id = (supAt l k).id := by
  have h : ∀ m, countsB l m = true → (supAt l m).akin ((votesN l l.length).headD zeroSup) = true := fun m hm => by
    cases hq : (supAt l m).akin ((votesN l l.length).headD zeroSup)
    · exact absurd (List.any_eq_true.2 ⟨_, votes_of l _ m (counts_lt l m hm) hm, by rw [hq]; rfl⟩) hany
    · rfl
  rw [((akin_iff _ _).1 (h m hm)).1, ((akin_iff _ _).1 (h k hk)).1]
def upN (st : List UInt8) : Nat → Nat
  | 0 => 0
  | i + 1 => upN st i + (if (stAt st i != 1) = true then 1 else 0)
theorem upN_le (st : List UInt8) : ∀ i, upN st i ≤ i
  | 0 => Nat.le_refl _
  | i + 1 => by have := upN_le st i; rw [upN]; split <;> omega
theorem stAt_new (l : List BalD) (safe : Nat) (st : List UInt8) (m : Nat) (h : m < st.length) : stAt (newSt l safe st st.length) m = if goneM l safe st m = true then 2 else stAt st m := by
  unfold stAt newSt
  rw [List.getD_eq_getElem?_getD, List.getElem?_mapIdx, List.getElem?_eq_getElem h]
  simp [h]
theorem upN_away (l : List BalD) (safe : Nat) (st : List UInt8) : ∀ i, i ≤ st.length → upN (newSt l safe st st.length) i ≤ awayM l safe st i
  | 0, _ => Nat.le_refl _
  | i + 1, hi => by
    have ih := upN_away l safe st i (by omega)
    rw [upN, awayM, stAt_new l safe st i (by omega)]
    by_cases hg : goneM l safe st i = true
    · have : fitM l safe st i = false := by unfold goneM at hg; cases h : fitM l safe st i with | true => rw [h] at hg; simp at hg | false => rfl
      rw [if_pos hg, this]
      simp; omega
    · rw [if_neg hg]
      by_cases h1 : (stAt st i != 1) = true
      · rw [if_pos h1, h1]; simp; omega
      · rw [if_neg h1]; omega

theorem keeps_law (l : List BalD) (v : VerD) (h0 : chooseM l = (0, v)) : 4 ≤ l.length ∧ v.st.length + 1 = l.length ∧ v.s.role = 0 ∧ upN v.st v.st.length ≤ 1 ∧ ∀ m, m < v.st.length → stAt v.st m ≠ 2 →
    countsB l m = true ∧ evs l m ≤ v.s.events ∧ v.s.safe ≤ evs l m ∧ (supAt l m).id = v.s.id ∧ (v.jr = true → m < (supAt l (l.length - 1)).states.length ∧ stAt (supAt l (l.length - 1)).states m = stAt v.st m) := by
  obtain ⟨h4, h17, hne, hany, hg, haw, hcm⟩ := choose_inv l (by rw [h0])
  obtain ⟨gi, hgi, hgs⟩ := guide_states l hg hne
  have hst := counts_states l gi hgi
  rw [← hgs] at hst
  rw [h0] at hcm
  obtain rfl : v = fullV l (guideM l).2 := by injection hcm
  have hn : (fullV l (guideM l).2).st.length = (guideM l).2.states.length := by simp [fullV]
  refine ⟨h4, by rw [hn]; exact hst, rfl, ?_, ?_⟩
  · rw [hn]
    exact Nat.le_trans (upN_away l (guideM l).2.safe (guideM l).2.states _ (Nat.le_refl _)) (by omega)
  · intro m hm h2
    rw [hn] at hm
    have hsn : stAt (fullV l (guideM l).2).st m = if goneM l (guideM l).2.safe (guideM l).2.states m = true then 2 else stAt (guideM l).2.states m := stAt_new l _ _ m hm
    rw [hsn] at h2
    have hng : goneM l (guideM l).2.safe (guideM l).2.states m = false := by
      cases h : goneM l (guideM l).2.safe (guideM l).2.states m with
      | true => rw [h] at h2; exact absurd rfl h2
      | false => rfl
    rw [hng] at h2 hsn
    simp only [Bool.false_eq_true, if_false] at h2 hsn
    have hf : fitM l (guideM l).2.safe (guideM l).2.states m = true := by
      have h22 : (stAt (guideM l).2.states m != 2) = true := by simpa using h2
      unfold goneM at hng
      rw [h22] at hng
      simpa using hng
    unfold fitM at hf
    simp only [Bool.and_eq_true, decide_eq_true_eq] at hf
    obtain ⟨_, hct, hsf⟩ := hf
    refine ⟨hct, top_ge l l.length m (counts_lt l m hct) hct, hsf, ?_, ?_⟩
    · show (supAt l m).id = (guideM l).2.id
      rw [hgs]; exact all_akin l hany m gi hct hgi
    · intro hj
      have hj' : countsB l (l.length - 1) = true := hj
      have hg2 : (guideM l).2 = supAt l (l.length - 1) := by unfold guideM; rw [if_pos hj']
      rw [hg2] at hm
      exact ⟨hm, by rw [hsn, hg2]⟩
end Go.Proofs.Ytlflmnmkgaeabaa
