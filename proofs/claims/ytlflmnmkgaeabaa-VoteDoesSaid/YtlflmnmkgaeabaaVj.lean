/- Package vote: Choose. -/
import Derived.Test.YtlflmnmkgaeabaaVi
set_option maxRecDepth 8000
set_option linter.unusedVariables false
set_option linter.unusedSimpArgs false
set_option linter.unusedSectionVars false
namespace Go.Proofs.Ytlflmnmkgaeabaa
open Go.RowKit Go.Sl
attribute [local irreducible] Own

def supAt (l : List BalD) (i : Nat) : SuperD := match l[i]? with
  | some b => b.s
  | none => zeroSup
theorem supAt_get (l : List BalD) (i : Nat) (h : i < l.length) : supAt l i = l[i].s := by simp [supAt, h]
def votesN (l : List BalD) : Nat → List SuperD
  | 0 => []
  | i + 1 => votesN l i ++ (if countsB l i = true then [supAt l i] else [])
def topN (l : List BalD) : Nat → Nat
  | 0 => 0
  | i + 1 => if countsB l i = true then max (topN l i) (evs l i) else topN l i
theorem votes_mem (l : List BalD) : ∀ i s, s ∈ votesN l i → ∃ j, j < i ∧ countsB l j = true ∧ supAt l j = s
  | 0, s, h => by cases h
  | i + 1, s, h => by
    rcases List.mem_append.1 h with h | h
    · obtain ⟨j, a, b, c⟩ := votes_mem l i s h
      exact ⟨j, by omega, b, c⟩
    · by_cases hc : countsB l i = true
      · rw [if_pos hc, List.mem_singleton] at h
        exact ⟨i, by omega, hc, h.symm⟩
      · rw [if_neg hc] at h; cases h
theorem votes_len (l : List BalD) : ∀ i, (votesN l i).length ≤ i
  | 0 => Nat.le_refl _
  | i + 1 => by have := votes_len l i; rw [votesN, List.length_append]; split <;> simp <;> omega
theorem counts_lt (l : List BalD) (i : Nat) (h : countsB l i = true) : i < l.length := by
  rcases Nat.lt_or_ge i l.length with h' | h'
  · exact h'
  · unfold countsB at h; rw [List.getElem?_eq_none h'] at h; cases h
theorem counts_iff (l : List BalD) (i : Nat) (hi : i < l.length) : countsB l i = true ↔ l[i].has = true ∧ l[i].s.okP ∧ l[i].s.members = (l.length : Int) - 1 ∧ l[i].s.role = (i : Int) := by
  unfold countsB; rw [List.getElem?_eq_getElem hi]; simp
theorem counts_states (l : List BalD) (i : Nat) (h : countsB l i = true) : (supAt l i).states.length + 1 = l.length := by
  have hi := counts_lt l i h
  rw [supAt_get l i hi]
  obtain ⟨-, h2, h3, -⟩ := (counts_iff l i hi).1 h
  have := h2.1.2.2.2.2
  omega
theorem top_att (l : List BalD) : ∀ i, votesN l i ≠ [] → ∃ s ∈ votesN l i, s.events = topN l i
  | 0, h => absurd rfl h
  | i + 1, h => by
    rw [votesN, topN] at *
    by_cases hc : countsB l i = true
    · have hi := counts_lt l i hc
      have he : evs l i = (supAt l i).events := by simp [evs, supAt, hi]
      rw [if_pos hc] at *
      rw [if_pos hc]
      by_cases hm : topN l i ≤ evs l i
      · exact ⟨supAt l i, by simp, by omega⟩
      · have hne : votesN l i ≠ [] := by
          intro e
          have : topN l i = 0 := by
            clear hm h hc he hi
            induction i with
            | zero => rfl
            | succ k ih =>
              rw [votesN] at e
              have e1 := List.append_eq_nil_iff.1 e
              rw [topN]
              by_cases hk : countsB l k = true
              · rw [if_pos hk] at e1; exact absurd e1.2 (by simp)
              · rw [if_neg hk]; exact ih e1.1
          omega
        obtain ⟨s, hs, he2⟩ := top_att l i hne
        exact ⟨s, List.mem_append_left _ hs, by omega⟩
    · rw [if_neg hc] at *
      rw [if_neg hc]
      rw [List.append_nil] at *
      exact top_att l i h

structure VerD where
  s : SuperD
  st : List UInt8
  cur : Int
  ch : Bool
  jr : Bool
def VerD.cells (v : VerD) (x : Option Addr × Nat) : List Value := vCells v.s x.1 v.st.length x.2 v.cur v.ch v.jr
def noneV : VerD := ⟨zeroSup, [], 0, false, false⟩
def guideM (l : List BalD) : Int × SuperD :=
  if countsB l (l.length - 1) = true then (0, supAt l (l.length - 1)) else membersM (bestN (votesN l l.length) (topN l l.length))
def fullV (l : List BalD) (s : SuperD) : VerD :=
  ⟨{ s with role := 0, lost := s.lost && !countsB l (l.length - 1), events := topN l l.length }, newSt l s.safe s.states s.states.length, if wipeM l s.safe s.states s.states.length = true then 0 else s.cursor, turnM l s.safe s.states s.states.length, countsB l (l.length - 1)⟩
def chooseM (l : List BalD) : Int × VerD :=
  if l.length < 4 ∨ 17 < l.length then (1, noneV)
  else if votesN l l.length = [] then (150, noneV)
  else if (votesN l l.length).any (fun s => !s.akin ((votesN l l.length).headD zeroSup)) = true then (151, noneV)
  else if (guideM l).1 ≠ 0 then ((guideM l).1, noneV)
  else if 1 < awayM l (guideM l).2.safe (guideM l).2.states (guideM l).2.states.length then (152, noneV)
  else (0, fullV l (guideM l).2)
theorem guide_states (l : List BalD) (h0 : (guideM l).1 = 0) (hne : votesN l l.length ≠ []) : ∃ i, countsB l i = true ∧ (guideM l).2 = supAt l i := by
  unfold guideM at *
  by_cases h : countsB l (l.length - 1) = true
  · rw [if_pos h]; exact ⟨_, h, rfl⟩
  · rw [if_neg h] at *
    unfold membersM at *
    split
    · rename_i h1; rw [if_pos h1] at h0; cases h0
    · rename_i h1
      rw [if_neg h1] at h0
      split
      · rename_i h2; rw [if_pos h2] at h0; cases h0
      · obtain ⟨s, hs, he⟩ := top_att l l.length hne
        have hb : bestN (votesN l l.length) (topN l l.length) ≠ [] := List.ne_nil_of_mem (List.mem_filter.2 ⟨hs, by simp [he]⟩)
        obtain ⟨x, r, hx⟩ := List.exists_cons_of_ne_nil hb
        have hm0 : x ∈ bestN (votesN l l.length) (topN l l.length) := by rw [hx]; exact .head _
        have hm : x ∈ votesN l l.length := (List.mem_filter.1 hm0).1
        obtain ⟨j, -, h3, h4⟩ := votes_mem l _ _ hm
        exact ⟨j, h3, by simp only [hx, List.headD_cons]; exact h4.symm⟩
end Go.Proofs.Ytlflmnmkgaeabaa
