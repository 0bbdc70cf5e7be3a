/- The bay's model: caches stay small, counts stay in range, what a new bay has. -/
import Derived.Test.YtbmcgmicnfbckaaBh
set_option maxRecDepth 8000
set_option linter.unusedVariables false
set_option linter.unusedSimpArgs false
set_option linter.unusedSectionVars false
namespace Go.Proofs.Ytbmcgmicnfbckaa
open Go.RowKit Go.Sl

def SlotD.capd (s : SlotD) (c : Nat) : Prop := ∀ v, (s.in_ = some v ∨ s.aside = some v ∨ s.coming = some v) → v.k.cache.length ≤ c
def BayD.capd (D : BayD) (c : Nat) : Prop := ∀ s ∈ D.slots, s.capd c
theorem BayD.capd.mono {D : BayD} {c c' : Nat} (h : D.capd c) (hc : c ≤ c') : D.capd c' := fun s hs v hv => Nat.le_trans (h s hs v hv) hc
theorem noneS_capd (c : Nat) : SlotD.capd ⟨none, none, none⟩ c := fun v hv => by rcases hv with h | h | h <;> cases h
theorem dev_mem {D : BayD} {k : Int} {v : DevD} (h : D.dev k = some v) : ∃ s ∈ D.slots, s.in_ = some v := by
  unfold BayD.dev at h
  split at h
  · obtain ⟨s, h1, h2⟩ := Option.bind_eq_some_iff.1 h
    exact ⟨s, List.mem_of_getElem? h1, h2⟩
  · cases h
theorem settle_cache (k : DiskD) (keep : Nat → Bool) : (k.settle keep).cache = [] := rfl
theorem use_cap {v : DevD} {c : Nat} (h : v.k.cache.length ≤ c) : v.use.k.cache.length ≤ c := by
  unfold DevD.use; split
  · exact h
  · split
    · exact Nat.zero_le _
    · exact h
theorem dv_cap {D : BayD} {c : Nat} (h : D.capd c) (k : Int) : (D.dv k).k.cache.length ≤ c := by
  unfold BayD.dv
  refine use_cap ?_
  cases hd : D.dev k with
  | none => exact Nat.zero_le _
  | some v =>
    obtain ⟨s, hs, hi⟩ := dev_mem hd
    exact h s hs v (.inl hi)
theorem slot_capd {D : BayD} {c : Nat} (h : D.capd c) (i : Nat) : SlotD.capd ((D.slots[i]?).getD ⟨none, none, none⟩) c := by
  cases hg : D.slots[i]? with
  | none => exact noneS_capd c
  | some s => exact h s (List.mem_of_getElem? hg)
theorem set_capd {D : BayD} {c i : Nat} {s : SlotD} (h : D.capd c) (hs : s.capd c) : (D.setSlot i s).capd c := by
  intro x hx
  rcases List.mem_or_eq_of_mem_set hx with q | q
  · exact h x q
  · subst q; exact hs
theorem setIn_capd {D : BayD} {c i : Nat} {v : DevD} (h : D.capd c) (hv : v.k.cache.length ≤ c) : (D.setIn i v).capd c := by
  have hg := slot_capd h i
  refine set_capd (s := { (D.slots[i]?.getD ⟨none, none, none⟩) with in_ := some v }) h ?_
  intro x hx
  rcases hx with q | q | q
  · cases q; exact hv
  · exact hg x (.inr (.inl q))
  · exact hg x (.inr (.inr q))
theorem ahead_capd {D : BayD} {c : Nat} (h : D.capd c) (k : Int) (j : Nat) : (D.ahead k j).capd c := by intro s hs; rw [D.ahead_slots] at hs; exact h s hs
theorem wr_cap {k : DiskD} {a : Int} {b : List UInt8} {c : Nat} (h : k.cache.length ≤ c) : (k.wr a b).2.cache.length ≤ c + 1 := by
  unfold DiskD.wr; split
  · exact Nat.le_succ_of_le h
  · split
    · exact Nat.le_succ_of_le h
    · show (k.cache ++ [_]).length ≤ _
      rw [List.length_append, List.length_singleton]; omega
theorem fl_cap {k : DiskD} {c : Nat} (h : k.cache.length ≤ c) : k.fl.2.cache.length ≤ c := by
  unfold DiskD.fl; split
  · exact h
  · exact Nat.zero_le _
theorem plain_capd {D : BayD} {c : Nat} (h : D.capd c) (kind slot n : Int) (b : List UInt8) : (D.plain kind slot n b).2.capd (c + 1) := by
  have hd := dv_cap h slot
  unfold BayD.plain BayD.read BayD.write BayD.flush
  split
  · split
    · exact (setIn_capd (ahead_capd h _ _) hd).mono (Nat.le_succ _)
    · exact (ahead_capd h _ _).mono (Nat.le_succ _)
  · split
    · dsimp only; split
      · exact setIn_capd ((ahead_capd h _ _).mono (Nat.le_succ _)) (wr_cap hd)
      · exact (ahead_capd h _ _).mono (Nat.le_succ _)
    · dsimp only; split
      · exact (setIn_capd (ahead_capd h _ _) (fl_cap hd)).mono (Nat.le_succ _)
      · exact (ahead_capd h _ _).mono (Nat.le_succ _)
theorem fail_capd {D : BayD} {c : Nat} (h : D.capd c) (k : Int) : (D.fail k).2.capd c := by
  unfold BayD.fail; split
  · exact setIn_capd h (Nat.zero_le _)
  · exact h
theorem wear_capd {D : BayD} {c : Nat} (h : D.capd c) (k n : Int) : (D.wear k n).2.capd c := by
  unfold BayD.wear; split
  · exact h
  · split
    · rename_i v hv
      obtain ⟨s, hs, hi⟩ := dev_mem hv
      exact setIn_capd h (h s hs v (.inl hi))
    · exact h
theorem pull_capd {D : BayD} {c : Nat} (h : D.capd c) (k : Int) : (D.pull k).2.capd c := by
  unfold BayD.pull; split
  · refine set_capd h ?_
    intro x hx
    rcases hx with q | q | q
    · cases q
    · cases q; exact Nat.zero_le _
    · exact slot_capd h k.toNat x (.inr (.inr q))
  · exact h
theorem lay_capd {D : BayD} {c : Nat} (h : D.capd c) (k e : Int) (kd : DiskD) (hk : kd.cache.length ≤ c) : (D.lay k e kd).2.capd c := by
  unfold BayD.lay; split
  · exact h
  · split
    · exact h
    · refine set_capd h ?_
      intro x hx
      rcases hx with q | q | q
      · cases q; exact hk
      · exact slot_capd h k.toNat x (.inr (.inl q))
      · exact slot_capd h k.toNat x (.inr (.inr q))
theorem swap_capd {D : BayD} {c : Nat} (h : D.capd c) (k n : Int) : (D.swap k n).2.capd c := by
  unfold BayD.swap; split
  · exact h
  · exact lay_capd h _ _ _ (Nat.zero_le _)
theorem load_capd {D : BayD} {c : Nat} (h : D.capd c) (k : Int) (l : List UInt8) : (D.load k l).2.capd c := lay_capd h _ _ _ (Nat.zero_le _)
theorem push_capd {D : BayD} {c : Nat} (h : D.capd c) (k : Int) : (D.push k).2.capd c := by
  unfold BayD.push; split
  · exact h
  · split
    · exact h
    · split
      · exact h
      · refine set_capd h ?_
        intro x hx
        rcases hx with q | q | q
        · exact slot_capd h k.toNat x (.inl q)
        · cases q
        · exact slot_capd h k.toNat x (.inr (.inl q))
theorem trips_capd {D : BayD} {c : Nat} (h : D.capd c) (n : Int) : (D.trips n).2.capd c := by
  unfold BayD.trips; split
  · exact h
  · split
    · exact h
    · exact h
theorem cut_capd {D : BayD} {c : Nat} (h : D.capd c) (kl : List (List Bool)) : (D.cut kl).capd c := by
  intro s hs
  simp only [BayD.cut, List.mem_mapIdx] at hs
  obtain ⟨i, hi, rfl⟩ := hs
  have h0 := h D.slots[i] (List.getElem_mem hi)
  intro v hv
  unfold SlotD.cut at hv
  split at hv
  · rcases hv with q | q | q
    · exact h0 v (.inr (.inr q))
    · exact h0 v (.inr (.inl q))
    · cases q
  · rcases hv with q | q | q
    · obtain ⟨u, _, rfl⟩ := Option.map_eq_some_iff.1 q
      exact Nat.zero_le _
    · exact h0 v (.inr (.inl q))
    · cases q
theorem new_capd (l : List Int) : (BayD.new l).capd 0 := by
  intro s hs
  obtain ⟨n, _, rfl⟩ := List.mem_map.1 hs
  intro v hv
  unfold slotOf at hv
  split at hv
  · rcases hv with q | q | q <;> cases q
  · rcases hv with q | q | q
    · cases q; exact Nat.le_refl _
    · cases q
    · cases q

/-! ### Counts in range -/
def CntD.ok (c : CntD) : Prop := (Lit.int .i64 c.r).wf = true ∧ (Lit.int .i64 c.w).wf = true ∧ (Lit.int .i64 c.f).wf = true
theorem inc_ok {c : CntD} (h : c.ok) (j : Nat) : (c.inc j).ok := by
  obtain ⟨h1, h2, h3⟩ := h
  unfold CntD.inc
  split
  · exact ⟨wf_wrap _ _, h2, h3⟩
  · exact ⟨h1, wf_wrap _ _, h3⟩
  · exact ⟨h1, h2, wf_wrap _ _⟩

/-! ### A new bay -/
theorem new_dev (l : List Int) (i : Nat) (h : i < l.length) : (BayD.new l).dev (i : Int) = if l[i] = 0 then none else some ⟨.blank l[i].toNat, false, 0⟩ := by
  unfold BayD.dev BayD.new
  rw [if_pos (by omega), Int.toNat_natCast]
  simp only [List.getElem?_map, List.getElem?_eq_getElem h, Option.map_some, Option.bind_some]
  unfold slotOf; split <;> rfl
theorem blank_img (n : Nat) : (DiskD.blank n).img = List.replicate (n * 128) 0 := by
  unfold DiskD.img DiskD.blank
  dsimp only
  rw [if_neg (by simp)]
  induction n with
  | zero => rfl
  | succ n ih => rw [List.replicate_succ, List.flatten_cons, ih, zeroSec, List.replicate_append_replicate]; congr 1; omega
theorem new_image (l : List Int) (i : Nat) (h : i < l.length) : (BayD.new l).image (i : Int) = if l[i] = 0 then ([], 51) else (List.replicate (l[i].toNat * 128) 0, 0) := by
  unfold BayD.image
  rw [new_dev l i h]
  split
  · rename_i v hv
    split at hv
    · cases hv
    · cases hv; rename_i h0; rw [if_neg h0, blank_img]
  · rename_i hv
    split at hv
    · rename_i h0; rw [if_pos h0]
      unfold thereE inRange BayD.new; rw [if_pos (by simp; omega)]; rfl
    · cases hv
end Go.Proofs.Ytbmcgmicnfbckaa
