/- What calls on a packer come to, one after the other. -/
import Derived.Test.YthefmgmgmoanlaaLd
set_option maxRecDepth 8000
set_option linter.unusedVariables false
set_option linter.unusedSimpArgs false
set_option linter.unusedSectionVars false
namespace Go.Proofs.Ythefmgmgmoanlaa
open Go.RowKit Go.Sl

theorem Pk.room_bad {k : Pk} {n : Int} (h : k.bad ≠ 0) : k.room n = k := by
  unfold Pk.room; rw [if_neg]; exact fun e => h e.1
theorem Pk.puts_bad {k : Pk} (o : OpD) (l : List UInt8) (h : k.bad ≠ 0) : k.puts o l = k := by
  have n (v w : Nat) : k.number v w = k := by unfold Pk.number; rw [Pk.room_bad h, if_neg h]
  have r : k.raw l = k := by unfold Pk.raw; rw [Pk.room_bad h, if_neg h]
  have f (m : Int) (c : UInt8) : k.fill m c = k := by unfold Pk.fill; rw [Pk.room_bad h, if_neg h, ite_self]
  unfold Pk.puts
  repeat (first | rfl | (split; (first | exact n _ _ | exact r | exact f _ _)))
theorem Pk.puts_grow (k : Pk) (o : OpD) (l : List UInt8) : ∃ x, (k.puts o l).had = k.had ++ x := by
  have n (v w : Nat) : ∃ x, (k.number v w).had = k.had ++ x := by
    unfold Pk.number; split
    · exact ⟨_, rfl⟩
    · exact ⟨[], by rw [Pk.room_had]; simp⟩
  have r : ∃ x, (k.raw l).had = k.had ++ x := by
    unfold Pk.raw; split
    · exact ⟨_, rfl⟩
    · exact ⟨[], by rw [Pk.room_had]; simp⟩
  have f (m : Int) (c : UInt8) : ∃ x, (k.fill m c).had = k.had ++ x := by
    unfold Pk.fill
    split
    · exact ⟨[], by simp⟩
    · split
      · exact ⟨_, rfl⟩
      · exact ⟨[], by rw [Pk.room_had]; simp⟩
  unfold Pk.puts
  repeat (split; (first | exact n _ _ | exact r | exact f _ _))
  exact ⟨[], by simp⟩
theorem Pk.puts_size (k : Pk) (o : OpD) (l : List UInt8) : (k.puts o l).size = k.size := by
  have n (v w : Nat) : (k.number v w).size = k.size := by unfold Pk.number; split; rfl; exact Pk.room_size
  have r : (k.raw l).size = k.size := by unfold Pk.raw; split; rfl; exact Pk.room_size
  have f (m : Int) (c : UInt8) : (k.fill m c).size = k.size := by
    unfold Pk.fill; split; rfl; split; rfl; exact Pk.room_size
  unfold Pk.puts
  repeat (first | rfl | (split; (first | exact n _ _ | exact r | exact f _ _)))

/-- All calls, one after the other. -/
def Pk.run (k : Pk) (l : List OpD) : Pk := l.foldl (fun k o => k.puts o o.b) k
theorem Pk.run_snoc (k : Pk) (l : List OpD) (j : Nat) (h : j < l.length) : k.run (l.take (j + 1)) = (k.run (l.take j)).puts l[j] l[j].b := by
  unfold Pk.run
  rw [List.take_succ_eq_append_getElem h, List.foldl_append]; rfl
theorem Pk.run_bad : ∀ (l : List OpD) (k : Pk), k.bad ≠ 0 → k.run l = k
  | [], _, _ => rfl
  | o :: r, k, h => by
    show Pk.run (k.puts o o.b) r = k
    rw [Pk.puts_bad o o.b h]; exact Pk.run_bad r k h
theorem Pk.run_grow : ∀ (l : List OpD) (k : Pk), ∃ x, (k.run l).had = k.had ++ x
  | [], k => ⟨[], by simp [Pk.run]⟩
  | o :: r, k => by
    obtain ⟨x, hx⟩ := Pk.puts_grow k o o.b
    obtain ⟨y, hy⟩ := Pk.run_grow r (k.puts o o.b)
    exact ⟨x ++ y, by show (Pk.run (k.puts o o.b) r).had = _; rw [hy, hx]; simp⟩
theorem Pk.run_size : ∀ (l : List OpD) (k : Pk), (k.run l).size = k.size
  | [], _ => rfl
  | o :: r, k => by
    show (Pk.run (k.puts o o.b) r).size = _
    rw [Pk.run_size r, Pk.puts_size]
theorem Pk.run_split (k : Pk) (l : List OpD) (n : Nat) : k.run l = (k.run (l.take n)).run (l.drop n) := by
  unfold Pk.run; rw [← List.foldl_append, List.take_append_drop]

theorem bytes_take (l : List UInt8) (n : Nat) : (bytes l).take n = bytes (l.take n) := by simp [bytes, List.map_take]
end Go.Proofs.Ythefmgmgmoanlaa
