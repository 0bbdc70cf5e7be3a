/- What an argument that is a slice gives a walk: a list of what its elements are. Generic: no program is named. -/
import Derived.Test.YtgkpdpoblofehaaArg
import Derived.Test.YtgkpdpoblofehaaSlm
set_option maxRecDepth 8000
set_option linter.unusedVariables false
set_option linter.unusedSimpArgs false
set_option linter.unusedSectionVars false
namespace Go.Sl
open Go.RowKit

theorem InT.list {α : Type} {P : Program} {W : World} {t e : TypeId} {ao : Option Addr} {n cap sz : Nat} (cells : α → List Value) (wf : α → Prop) (d : α) (hu : P.underlying t = some (.slice e)) (hsz : P.cellsOf e = sz) (hone : ∀ o : α, wf o → ∀ u ∈ cells o, u.oneCell' = true)
    (dec : ∀ cs, InT P W e cs → ∃ o, cs = cells o ∧ wf o) (h : InT P W t [.slice ao n cap]) :
    ∃ l : List α, l.length = n ∧ RdsA W sz ao n (l.flatMap cells) ∧ (∀ o ∈ l, wf o) ∧ n ≤ cap ∧ cap * P.bytesOf e ≤ reachBytes := by
  obtain ⟨ao', n', cap', row, he, h0, hn, hm, hr, hl, hc, hi⟩ := h.slice_inv hu
  cases he
  rw [hsz] at hl hc
  have hb : ∀ i, ∃ o : α, i < cap → row i = cells o ∧ wf o := fun i => by
    by_cases h : i < cap
    · obtain ⟨o, h1, h2⟩ := dec _ (hi i h)
      exact ⟨o, fun _ => ⟨h1, h2⟩⟩
    · exact ⟨d, fun h' => absurd h' h⟩
  obtain ⟨c, hcc⟩ := Classical.axiomOfChoice hb
  have e : (List.range n).flatMap row = ((List.range n).map c).flatMap cells := by
    have : ∀ k, k ≤ n → (List.range k).flatMap row = ((List.range k).map c).flatMap cells := by
      intro k
      induction k with
      | zero => intro _; rfl
      | succ k ih =>
        intro hk
        rw [List.range_succ, List.flatMap_append, List.map_append, ih (by omega)]
        simp [(hcc k (by omega)).1]
    exact this n (Nat.le_refl _)
  refine ⟨(List.range n).map c, by simp, fun R => ?_, fun o ho => ?_, hn, hr⟩
  · have hs := sees_rows (R := R) h0 hn hl (fun i h u hu => by rw [(hcc i h).1] at hu; exact hone _ (hcc i h).2 u hu) hc
    rw [e] at hs
    exact hs
  · obtain ⟨i, hi', rfl⟩ := List.mem_map.1 ho
    exact (hcc i (by have := List.mem_range.1 hi'; omega)).2
theorem flat_at {α β : Type} {g : α → List β} {w : Nat} (l : List α) (j i : Nat) (h : j < l.length) (hw : ∀ a ∈ l, (g a).length = w) (hi : i < w) : (l.flatMap g)[j * w + i]? = (g l[j])[i]? := by
  rw [← flat_part l j h hw, List.getElem?_take, if_pos hi, List.getElem?_drop]
theorem flatMap_single {α β : Type} (g : α → β) (l : List α) : l.flatMap (fun x => [g x]) = l.map g := by induction l with | nil => rfl | cons a r ih => simp [ih]
end Go.Sl
