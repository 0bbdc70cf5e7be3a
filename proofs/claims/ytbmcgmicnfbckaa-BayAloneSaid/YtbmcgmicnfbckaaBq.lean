/- The bay's model: trips, counts. -/
import Derived.Test.YtbmcgmicnfbckaaBp
set_option maxRecDepth 8000
set_option linter.unusedVariables false
set_option linter.unusedSimpArgs false
set_option linter.unusedSectionVars false
namespace Go.Proofs.Ytbmcgmicnfbckaa
open Go.RowKit Go.Sl

def BayD.withT (D : BayD) (t : Int) : BayD := { D with trip := t }
def BayD.night (D : BayD) : BayD := { D with dark := true, trip := -1 }
theorem pow_quiet {D : BayD} (ht : D.trip ≠ 0) : D.pow = D := if_neg ht
theorem refuse_quiet {D : BayD} {k : Int} (hr : inRange D.slots.length k = true) (hd : D.dark = false) (ht : D.trip ≠ 0) : D.refuse k = thereE D.slots.length (D.dev k).isSome k := by
  unfold BayD.refuse; rw [hr, pow_quiet ht, hd]; rfl
theorem ahead_quiet {D : BayD} {k : Int} (hr : inRange D.slots.length k = true) (hd : D.dark = false) (ht : D.trip ≠ 0) (j : Nat) : D.ahead k j = D.step j := by
  unfold BayD.ahead; rw [hr, pow_quiet ht, hd]; rfl
theorem plain_dark {D : BayD} {k : Int} (hr : inRange D.slots.length k = true) (hd : D.dark = true) (ht : D.trip ≠ 0) (kind n : Int) (b : List UInt8) : D.plain kind k n b = (([], 50), D) := by
  have h1 : D.refuse k = 50 := by unfold BayD.refuse; rw [hr, pow_quiet ht, hd]; rfl
  have h2 : ∀ j, D.ahead k j = D := fun j => by unfold BayD.ahead; rw [hr, pow_quiet ht, hd]; rfl
  unfold BayD.plain BayD.read BayD.write BayD.flush
  simp [h1, h2]
theorem plain_zero {D : BayD} {k : Int} (hr : inRange D.slots.length k = true) (ht : D.trip = 0) (kind n : Int) (b : List UInt8) : D.plain kind k n b = (([], 50), D.night) := by
  have hp : D.pow = D.night := if_pos ht
  have h1 : D.refuse k = 50 := by unfold BayD.refuse; rw [hr, hp]; rfl
  have h2 : ∀ j, D.ahead k j = D.night := fun j => by unfold BayD.ahead; rw [hr, hp]; rfl
  unfold BayD.plain BayD.read BayD.write BayD.flush
  simp [h1, h2]
theorem plain_trip {D : BayD} {k t : Int} (hr : inRange D.slots.length k = true) (hd : D.dark = false) (hm : D.trip = -1) (ht : 0 < t) (hb : t ≤ 9223372036854775807) (kind n : Int) (b : List UInt8) :
    (D.withT t).plain kind k n b = ((D.plain kind k n b).1, (D.plain kind k n b).2.withT (t - 1)) := by
  have ht0 : (D.withT t).trip ≠ 0 := by show t ≠ 0; omega
  have hm0 : D.trip ≠ 0 := by omega
  have h1 : (D.withT t).refuse k = D.refuse k := by rw [refuse_quiet (D := D.withT t) hr hd ht0, refuse_quiet hr hd hm0]; rfl
  have h2 : ∀ j, (D.withT t).ahead k j = (D.ahead k j).withT (t - 1) := fun j => by
    rw [ahead_quiet (D := D.withT t) hr hd ht0, ahead_quiet hr hd hm0]
    unfold BayD.step BayD.withT
    simp only [if_pos ht]
    rw [IntWalk.i64_in _ ⟨by omega, by omega⟩]
  have h3 : (D.withT t).dv k = D.dv k := rfl
  have h4 : ∀ (X : BayD) (i : Nat) (v : DevD) (s : Int), (X.withT s).setIn i v = (X.setIn i v).withT s := fun _ _ _ _ => rfl
  unfold BayD.plain BayD.read BayD.write BayD.flush
  simp only [h1, h2, h3, h4]
  split
  · split <;> rfl
  · split
    · dsimp only; split <;> rfl
    · dsimp only; split <;> rfl
theorem step_still {D : BayD} (hm : D.trip = -1) (j : Nat) : D.step j = { D with n := D.n.inc j } := by unfold BayD.step; rw [if_neg (by omega)]
theorem plain_still {D : BayD} {k : Int} (hr : inRange D.slots.length k = true) (hd : D.dark = false) (hm : D.trip = -1) (kind n : Int) (b : List UInt8) :
    (D.plain kind k n b).2.dark = false ∧ (D.plain kind k n b).2.trip = -1 ∧ (D.plain kind k n b).2.n = D.n.inc (opJ kind) ∧ (D.plain kind k n b).2.slots.length = D.slots.length := by
  have hm0 : D.trip ≠ 0 := by omega
  have h2 : ∀ j, D.ahead k j = { D with n := D.n.inc j } := fun j => by rw [ahead_quiet hr hd hm0, step_still hm]
  have h4 : ∀ (X : BayD) (i : Nat) (v : DevD), (X.setIn i v).slots.length = X.slots.length := fun X i v => by unfold BayD.setIn; simp
  unfold BayD.plain BayD.read BayD.write BayD.flush opJ
  simp only [h2]
  split
  · split
    · exact ⟨hd, hm, rfl, h4 _ _ _⟩
    · exact ⟨hd, hm, rfl, rfl⟩
  · split
    · dsimp only; split
      · exact ⟨hd, hm, rfl, h4 _ _ _⟩
      · exact ⟨hd, hm, rfl, rfl⟩
    · dsimp only; split
      · exact ⟨hd, hm, rfl, h4 _ _ _⟩
      · exact ⟨hd, hm, rfl, rfl⟩

/-- So many operations were counted. -/
structure CntD.is (c : CntD) (m : Nat) : Prop where
  r : 0 ≤ c.r
  w : 0 ≤ c.w
  f : 0 ≤ c.f
  sum : c.r + c.w + c.f = m
theorem CntD.is.inc {c : CntD} {m : Nat} (h : c.is m) (hm : m ≤ 1000000) (j : Nat) : (c.inc j).is (m + 1) := by
  obtain ⟨h1, h2, h3, h4⟩ := h
  unfold CntD.inc
  split
  · have e : IntKind.i64.wrap (c.r + 1) = c.r + 1 := IntWalk.i64_in _ ⟨by omega, by omega⟩
    rw [e]; exact ⟨by dsimp only; omega, h2, h3, by dsimp only; omega⟩
  · have e : IntKind.i64.wrap (c.w + 1) = c.w + 1 := IntWalk.i64_in _ ⟨by omega, by omega⟩
    rw [e]; exact ⟨h1, by dsimp only; omega, h3, by dsimp only; omega⟩
  · have e : IntKind.i64.wrap (c.f + 1) = c.f + 1 := IntWalk.i64_in _ ⟨by omega, by omega⟩
    rw [e]; exact ⟨h1, h2, by dsimp only; omega, by dsimp only; omega⟩
theorem CntD.is.total {c : CntD} {m : Nat} (h : c.is m) (hm : m ≤ 1000000) : c.total = m := by
  obtain ⟨h1, h2, h3, h4⟩ := h
  unfold CntD.total
  rw [IntWalk.i64_in (c.r + c.w) ⟨by omega, by omega⟩, IntWalk.i64_in _ ⟨by omega, by omega⟩]; exact h4
end Go.Proofs.Ytbmcgmicnfbckaa
