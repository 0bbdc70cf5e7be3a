/- Scan: what is laid in is found; one sector hurt; a later checkpoint; a forged batch: plainly. -/
import Derived.Test.YtlojjlbngnaphaaNj
set_option maxRecDepth 8000
set_option linter.unusedVariables false
set_option linter.unusedSimpArgs false
set_option linter.unusedSectionVars false
namespace Go.Proofs.Ytlojjlbngnaphaa
open Go.RowKit Go.Sl
attribute [local irreducible] Own

/-- A batch's sectors are the ring's own from a place on. -/
structure Lays (sec : SecF) (n e s at_ : Nat) (ls : List (List PatD)) : Prop where
  fine : FineL e s ls
  cost : costL ls ≤ n
  sec : ∀ j, j < costL ls → (flatR e s ls)[j]? = some (sec ((at_ + j) % n))

theorem FineL.rows {e s : Nat} {ls : List (List PatD)} (h : FineL e s ls) : ∀ r ∈ flatR e s ls, r.length = 128 := by
  induction ls generalizing s with
  | nil => intro r hr; cases hr
  | cons l ls ih =>
    intro r hr
    rw [flatR, List.mem_append] at hr
    rcases hr with hr | hr
    · exact rowsP_128 (h 0 (by simp)) r hr
    · refine ih (fun k hk => ?_) r hr
      have := h (k + 1) (by simpa using hk)
      rw [show s + (k + 1) = s + 1 + k by omega] at this
      simpa using this

theorem lays_of {ring : List UInt8} {n e s at_ : Nat} {ls : List (List PatD)} (hl : ring.length = 128 * n) (hn : 0 < n) (hf : FineL e s ls) (hc : costL ls ≤ n) : Lays (secB (laidN ring at_ (flatR e s ls) (costL ls))) n e s at_ ls :=
  ⟨hf, hc, fun j hj => by
    have h := (sec_laid (at_ := at_) hl hn hf.rows (by rw [flatR_length]; exact hc) (costL ls) (by rw [flatR_length]; exact Nat.le_refl _)).1 j hj
    exact h.symm⟩

variable {sec was : SecF} {n e s at_ : Nat} {ls : List (List PatD)}
theorem Lays.found (h : Lays sec n e s at_ ls) {k : Nat} (hk : k < ls.length) : s + k ≤ mostC ∧ batM (rotF sec n (at_ + costL (ls.take k))) (n - (0 + costL (ls.take k))) e (s + k) = some ls[k] :=
  laid_found h.fine h.cost h.sec k hk

/-- What is laid in is found ahead of all. -/
theorem Lays.all (h : Lays sec n e s at_ ls) : (ofM sec n e (n + 1) s 0 at_).take ls.length = numb s ls := by
  rw [of_laid h.fine h.cost h.sec (by have := costL_len ls; have := h.cost; omega), List.take_left' (numb_length ls s)]

theorem numb_nil {s : Nat} : numb s [] = [] := rfl

/-- Of another epoch nothing is. -/
theorem Lays.other (h : Lays sec n e s at_ ls) (hl : ls ≠ []) (e' : Nat) (he : e' ≠ e) (hat : at_ < n) : ofM sec n e' (n + 1) s 0 at_ = [] := by
  have h0 : 0 < ls.length := List.length_pos_iff.2 hl
  have := (h.found h0).2
  rw [List.take_zero, show costL [] = 0 from rfl, Nat.add_zero, Nat.add_zero] at this
  exact of_none (bat_other this (.inl he))

theorem bat_congr {sec was : SecF} {room room' e s : Nat} {l : List PatD} (h : batM sec room e s = some l) (hr : 2 * l.length + 1 ≤ room') (hw : ∀ j, j < 2 * l.length + 1 → was j = sec j) : batM was room' e s = some l := by
  obtain ⟨a, b, c⟩ := (bat_iff _ _ _ _ _).1 h
  exact (bat_iff _ _ _ _ _).2 ⟨a, hr, fun j hj => by rw [c j hj, hw j hj]⟩

/-- One sector hurt: just the batches ahead of it are found. -/
theorem Lays.hurt (h : Lays sec n e s at_ ls) {bad m : Nat} {z : List UInt8} (hm : m < ls.length) (h1 : costL (ls.take m) ≤ bad) (h2 : bad < costL (ls.take m) + (2 * (ls[m]'hm).length + 1)) (hz : z.take 4 ≠ magicL)
    (hw : ∀ j, was j = if j = (at_ + bad) % n then z else sec j) (hu : (crcS (sec ((at_ + bad) % n))).toNat ≠ (crcS z).toNat) : ofM was n e (n + 1) s 0 at_ = numb s (ls.take m) := by
  have hall := costL_take_le ls m hm
  have hcost := h.cost
  have hlen : (ls.take m).length = m := by rw [List.length_take]; omega
  have hlenc := costL_len ls
  have hmono : ∀ k, k < m → costL (ls.take k) + (2 * (ls[k]?.getD []).length + 1) ≤ costL (ls.take m) := by
    intro k hk
    have h3 := costL_take_le (ls.take m) k (by omega)
    rw [List.take_take, show min k m = k by omega] at h3
    rw [List.getElem?_eq_getElem (by omega), Option.getD_some]
    simpa using h3
  have hsec : ∀ (k j : Nat), k ≤ m → costL (ls.take k) + j < n → costL (ls.take k) + j ≠ bad → rotF was n (at_ + costL (ls.take k)) j = rotF sec n (at_ + costL (ls.take k)) j := by
    intro k j hk hj hne
    unfold rotF
    rw [hw, if_neg]
    intro q
    rw [Nat.add_assoc] at q
    exact hne (mod_inj hj (by omega) q)
  have hpre : ∀ (k : Nat) (hk : k < (ls.take m).length), s + k ≤ mostC ∧ batM (rotF was n (at_ + costL ((ls.take m).take k))) (n - (0 + costL ((ls.take m).take k))) e (s + k) = some (ls.take m)[k] := by
    intro k hk
    rw [hlen] at hk
    have hf := h.found (k := k) (by omega)
    have hb := bat_room hf.2
    have hk2 := hmono k hk
    rw [List.getElem?_eq_getElem (by omega), Option.getD_some] at hk2
    rw [List.take_take, show min k m = k by omega, List.getElem_take]
    refine ⟨hf.1, bat_congr hf.2 hb.1 fun j hj => hsec k j (by omega) (by omega) (by omega)⟩
  rw [of_prefix (ls.take m) (n + 1) s 0 at_ hpre (by omega), hlen]
  have hlast : ofM was n e (n + 1 - m) (s + m) (0 + costL (ls.take m)) (if ls.take m = [] then at_ else (at_ + costL (ls.take m)) % n) = [] := by
    refine of_none ?_
    have e1 : rotF was n (if ls.take m = [] then at_ else (at_ + costL (ls.take m)) % n) = rotF was n (at_ + costL (ls.take m)) := by
      split
      · rename_i q; rw [q]; rfl
      · exact rotF_mod ..
    rw [e1]
    refine hurt_none (j := bad - costL (ls.take m)) (z := z) (h.found hm).2 (by omega) hz ?_ ?_ ?_
    · unfold rotF; rw [hw, if_pos]; congr 1; omega
    · intro i hi hne
      exact hsec m i (Nat.le_refl _) (by omega) (by omega)
    · unfold rotF; rw [show at_ + costL (ls.take m) + (bad - costL (ls.take m)) = at_ + bad by omega]; exact hu
  rw [hlast, List.append_nil]

/-- A checkpoint that has gone on to a later batch. -/
theorem Lays.drop (h : Lays sec n e s at_ ls) (i : Nat) : Lays sec n e (s + i) ((at_ + costL (ls.take i)) % n) (ls.drop i) := by
  have hsum : costL (ls.take i) + costL (ls.drop i) = costL ls := by rw [← costL_append, List.take_append_drop]
  refine ⟨fun k hk => ?_, by have := h.cost; omega, fun j hj => ?_⟩
  · have := h.fine (i + k) (by rw [List.length_drop] at hk; omega)
    rw [List.getElem_drop, show s + i + k = s + (i + k) by omega]
    exact this
  · have h1 := h.sec (costL (ls.take i) + j) (by omega)
    rw [Nat.mod_add_mod, Nat.add_assoc]
    rw [← h1]
    have h2 := flatR_append e (ls.take i) (ls.drop i) s
    rw [List.take_append_drop] at h2
    by_cases hi : i ≤ ls.length
    · rw [List.length_take, Nat.min_eq_left hi] at h2
      rw [h2, List.getElem?_append_right (by rw [flatR_length]; omega), flatR_length]
      congr 1; omega
    · rw [List.drop_eq_nil_of_le (by omega)] at hj; exact absurd hj (by simp [costL])

/-- Just those are found, where noughts stand behind them. -/
theorem Lays.just (h : Lays sec n e s at_ ls) (hz : ∀ j, costL ls ≤ j → j < n → (sec ((at_ + j) % n)).take 4 ≠ magicL) (hat : at_ < n) {i : Nat} (hi : i < ls.length) :
    ofM sec n e (n + 1) (s + i) 0 ((at_ + costL (ls.take i)) % n) = numb (s + i) (ls.drop i) := by
  have hd := h.drop i
  have hsum : costL (ls.take i) + costL (ls.drop i) = costL ls := by rw [← costL_append, List.take_append_drop]
  have hne : ls.drop i ≠ [] := fun q => by have := congrArg List.length q; rw [List.length_drop] at this; simp at this; omega
  have hlenc := costL_len (ls.drop i)
  have hcost := h.cost
  rw [of_laid hd.fine hd.cost hd.sec (by omega), if_neg hne]
  have hlast : batM (rotF sec n (((at_ + costL (ls.take i)) % n + costL (ls.drop i)) % n)) (n - costL (ls.drop i)) e (s + i + (ls.drop i).length) = none := by
    rw [Nat.mod_add_mod, Nat.add_assoc, hsum, rotF_mod]
    by_cases hfull : costL ls < n
    · refine bat_no (dec_nought ?_).1
      show (sec ((at_ + costL ls + 0) % n)).take 4 ≠ magicL
      exact hz (costL ls) (Nat.le_refl _) hfull
    · have hn : costL ls = n := by omega
      rw [hn, ← rotF_mod, Nat.add_mod_right, rotF_mod]
      have h0 := (h.found (k := 0) (by omega)).2
      rw [List.take_zero, show costL [] = 0 from rfl, Nat.add_zero, Nat.add_zero] at h0
      refine bat_other h0 (.inr ?_)
      rw [List.length_drop]; omega
  rw [of_none hlast, List.append_nil]

/-! ### What a batch writes can't be taken for the journal's own -/
theorem forged_none {n e s : Nat} {l : List PatD} {i : Nat} (hs : (sec 0).take 4 ≠ magicL) : ofM sec n e (n + 1) s 0 0 = [] :=
  of_none (bat_no (by
    show (HdrD.dec (sec ((0 + 0) % n))).1 ≠ 0
    rw [Nat.add_zero, Nat.zero_mod]
    exact (dec_nought hs).1))
end Go.Proofs.Ytlojjlbngnaphaa
