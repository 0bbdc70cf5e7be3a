/- Scan: what the chapter's examples fix. -/
import Derived.Test.YtlojjlbngnaphaaNg
set_option maxRecDepth 8000
set_option linter.unusedVariables false
set_option linter.unusedSimpArgs false
set_option linter.unusedSectionVars false
namespace Go.Proofs.Ytlojjlbngnaphaa
open Go.RowKit Go.Sl
attribute [local irreducible] Own

/-- A sector, the first so many bytes laid in. -/
def putP (b : List UInt8) (k : Nat) (r : List UInt8) (j : Nat) : List UInt8 := b.take (128 * k) ++ r.take j ++ b.drop (128 * k + j)
theorem putP_zero (b : List UInt8) (k : Nat) (r : List UInt8) : putP b k r 0 = b := by simp [putP]
theorem putP_all {b : List UInt8} {k : Nat} {r : List UInt8} (hr : r.length = 128) : putP b k r 128 = putS b k r := by
  unfold putP putS; rw [List.take_of_length_le (l := r) (by omega)]
theorem putP_length {b r : List UInt8} {k n j : Nat} (h : b.length = 128 * n) (hk : k < n) (hr : r.length = 128) (hj : j ≤ 128) : (putP b k r j).length = 128 * n := by
  unfold putP; simp only [List.length_append, List.length_take, List.length_drop]; omega
theorem putP_set {b r : List UInt8} {k n j : Nat} (h : b.length = 128 * n) (hk : k < n) (hr : r.length = 128) (hj : j < 128) : (putP b k r j).set (128 * k + j) (r[j]'(by omega)) = putP b k r (j + 1) := by
  have h1 : (b.take (128 * k) ++ r.take j).length = 128 * k + j := by simp only [List.length_append, List.length_take]; omega
  unfold putP
  rw [List.set_append_right _ _ (by omega), h1, Nat.sub_self, List.drop_eq_getElem_cons (by omega), List.set_cons_zero, List.take_succ_eq_append_getElem (l := r) (by omega)]
  simp only [List.append_assoc, List.singleton_append, Nat.add_assoc]
def zeroP : PatD := ⟨0, 0, List.replicate 128 0⟩
theorem zeroP_fine : Fine 1 1 [zeroP] := ⟨⟨by decide, by decide, by decide⟩, by decide, by decide, fun p hp => by
  rw [List.mem_singleton] at hp; subst hp; exact ⟨by decide, by decide, by simp [zeroP]⟩⟩
def kRows : List (List UInt8) := rowsP 1 1 [zeroP]
theorem kRows_length : kRows.length = 3 := rowsP_length 1 1 [zeroP]
theorem kRows_128 : ∀ r ∈ kRows, r.length = 128 := rowsP_128 zeroP_fine
/-- The first so many laid in. -/
def kRing (i : Nat) : List UInt8 := laidN (List.replicate 640 0) 3 kRows i
theorem kRing_length (i : Nat) : (kRing i).length = 128 * 5 := laidN_length (n := 5) (by simp) (by decide) kRows_128 i
theorem kRing_sec (j : Nat) (h : j < 3) : some (secB (kRing 3) ((3 + j) % 5)) = kRows[j]? :=
  (sec_laid (n := 5) (ring := List.replicate 640 0) (at_ := 3) (rows := kRows) (by simp) (by decide) kRows_128 (by rw [kRows_length]; decide) 3 (by rw [kRows_length]; decide)).1 j h
theorem kRing_step {i : Nat} (h : i < 3) : kRing (i + 1) = putS (kRing i) ((3 + i) % 5) (kRows[i]'(by rw [kRows_length]; exact h)) := by
  unfold kRing
  rw [laidN, List.getElem?_eq_getElem (by rw [kRows_length]; exact h)]
  simp
theorem kRing_of : ofM (secB (kRing 3)) 5 1 (5 + 1) 1 0 3 = [(1, [zeroP])] := by
  have h := of_laid (sec := secB (kRing 3)) (size := 5) (e := 1) (s := 1) (at_ := 3) (f := 5 + 1) (ls := [[zeroP]]) (fun k hk => by
      obtain rfl : k = 0 := by simp at hk; omega
      exact zeroP_fine) (by simp [costL]) (fun j hj => by
      have hj3 : j < 3 := by simpa [costL] using hj
      rw [kRing_sec j hj3, show flatR 1 1 [[zeroP]] = kRows by simp [flatR, kRows]]) (by decide)
  rw [h, of_none]
  · rfl
  · cases hb : batM (rotF (secB (kRing 3)) 5 (if [[zeroP]] = [] then 3 else (3 + costL [[zeroP]]) % 5)) (5 - costL [[zeroP]]) 1 (1 + [[zeroP]].length) with
    | none => rfl
    | some l => have h1 := bat_room hb; simp [costL] at h1; omega
theorem kRing_bat : batM (rotF (secB (kRing 3)) 5 3) 5 1 1 = some [zeroP] := by
  have h := of_each (sec := secB (kRing 3)) (size := 5) (e := 1) (5 + 1) 1 0 3 0 (1, [zeroP]) (by rw [kRing_of]; rfl)
  have h2 := h.2.2
  rw [List.take_zero] at h2
  exact h2
theorem kRing_other : ofM (secB (kRing 3)) 5 2 (5 + 1) 1 0 3 = [] := of_none (bat_other kRing_bat (.inl (by decide)))
theorem chk_fine {e s t : Nat} (he : e ≤ 4611686018427387904) (hs : 1 ≤ s ∧ s ≤ 4611686018427387904) (ht : t ≤ 2047) : (ChkD.mk e s t).enc.1 = 0 := by
  rw [chk_ok ((chk_iff _).2 ⟨⟨he, hs.1, hs.2⟩, by simp only; omega, by simp only; omega⟩)]
theorem found_good {ring : List UInt8} {n e s t : Nat} (hl : ring.length = 128 * n) (hn : 5 ≤ n ∧ n ≤ 2048) (he : e ≤ 4611686018427387904) (hs : 1 ≤ s ∧ s ≤ 4611686018427387904) (ht : t < n) :
    foundM ring ⟨e, s, t⟩ = (0, ⟨ofM (secB ring) n e (n + 1) s 0 t, s + (ofM (secB ring) n e (n + 1) s 0 t).length, (t + costT (ofM (secB ring) n e (n + 1) s 0 t)) % n, costT (ofM (secB ring) n e (n + 1) s 0 t)⟩) := by
  have hd : ring.length / 128 = n := by omega
  unfold foundM
  rw [if_neg, hd]
  · rfl
  · rintro (h | h | h | h | h)
    · exact h (chk_fine he hs (by omega))
    · omega
    · omega
    · omega
    · simp only at h; omega
theorem kFound1 : foundM (kRing 3) ⟨1, 1, 3⟩ = (0, ⟨[(1, [zeroP])], 2, 1, 3⟩) := by
  have h := found_good (e := 1) (s := 1) (t := 3) (kRing_length 3) ⟨by decide, by decide⟩ (by decide) ⟨by decide, by decide⟩ (by decide)
  rw [kRing_of] at h
  refine Eq.trans h ?_
  simp [costT]
theorem kFound2 : foundM (kRing 3) ⟨2, 1, 3⟩ = (0, ⟨[], 1, 3, 0⟩) := by
  have h := found_good (e := 2) (s := 1) (t := 3) (kRing_length 3) ⟨by decide, by decide⟩ (by decide) ⟨by decide, by decide⟩ (by decide)
  rw [kRing_other] at h
  refine Eq.trans h ?_
  simp [costT]
end Go.Proofs.Ytlojjlbngnaphaa
