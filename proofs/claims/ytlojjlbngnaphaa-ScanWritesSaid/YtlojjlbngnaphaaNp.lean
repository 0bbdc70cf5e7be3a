/- Batches in a ring: what they are as sectors, when one counts, what a scan finds: the plain law. -/
import Derived.Test.YtlojjlbngnaphaaEm
import Derived.Test.YtlojjlbngnaphaaEn
set_option maxRecDepth 8000
set_option linter.unusedVariables false
set_option linter.unusedSimpArgs false
set_option linter.unusedSectionVars false
namespace Go.Proofs.Ytlojjlbngnaphaa
open Go.RowKit Go.Sl
attribute [local irreducible] Own

/-! ### Sums -/
theorem crcF_append (n : BitVec 32) (a b : List UInt8) : crcF n (a ++ b) = crcF (crcF n a) b := by simp [crcF]
theorem crcM_append (n : BitVec 32) (a b : List UInt8) : crcM n (a ++ b) = crcM (crcM n a) b := by
  unfold crcM; rw [crcF_append]; simp
theorem crcM_nil (n : BitVec 32) : crcM n [] = n := by simp [crcM, crcF]
/-! ### What is decoded is what was encoded -/
theorem hdr_decO {b : List UInt8} (h : (HdrD.dec b).1 = 0) : looksM b 1 = 0 ∧ (HdrD.dec b).2.good ∧ (HdrD.dec b).2.enc = (0, b) ∧ (HdrD.dec b).2 = HdrD.parse b := by
  unfold HdrD.dec at h ⊢
  split at h
  · rename_i h1; exact absurd h h1
  · rename_i h1
    split at h
    · rename_i h2
      rw [if_neg h1, if_pos h2]
      exact ⟨Decidable.of_not_not h1, h2.1, by rw [hdr_ok h2.1]; have := h2.2; rw [hdr_ok h2.1] at this; exact congrArg (Prod.mk 0) this, rfl⟩
    · cases h
theorem cmt_decO {b : List UInt8} (h : (CmtD.dec b).1 = 0) : looksM b 2 = 0 ∧ (CmtD.dec b).2.good ∧ (CmtD.dec b).2.enc = (0, b) := by
  unfold CmtD.dec at h ⊢
  split at h
  · rename_i h1; exact absurd h h1
  · rename_i h1
    split at h
    · rename_i h2
      rw [if_neg h1, if_pos h2]
      exact ⟨Decidable.of_not_not h1, h2.1, by rw [cmt_ok h2.1]; have := h2.2; rw [cmt_ok h2.1] at this; exact congrArg (Prod.mk 0) this⟩
    · cases h
theorem parse_sum (b : List UInt8) : (HdrD.parse b).sum < 4294967296 := numAt_lt b 44 4
/-! ### Escapes -/
theorem nought_magic : magicL ≠ nought4 := by decide
theorem escN_length {b : List UInt8} (h : b.length = 128) : (escM b).length = 128 := by
  unfold escM; split
  · simp [nought4]; omega
  · exact h
theorem escN_head {l : List UInt8} : (escM l).take 4 ≠ magicL := by
  unfold escM; split
  · rw [List.take_left' (by rfl)]; exact fun h => nought_magic h.symm
  · assumption
theorem unN_back {l : List UInt8} (h : l.length = 128) : unD (escM l) (isEsc l) = (l, 0) := by
  have hl := escN_length h
  have hh := escN_head (l := l)
  unfold unD isEsc
  rw [if_neg (by omega)]
  by_cases hm : l.take 4 = magicL
  · rw [decide_eq_true hm, if_neg (by simp)]
    have e : escM l = nought4 ++ l.drop 4 := if_pos hm
    rw [e, List.take_left' (by rfl), if_pos rfl, List.drop_left' (by rfl), ← hm, List.take_append_drop]
  · rw [decide_eq_false hm, if_pos rfl, if_neg hh, show escM l = l from if_neg hm]
/-- What is unescaped is escaped back. -/
theorem unN_esc {b : List UInt8} {e : Bool} (h : (unD b e).2 = 0) : (unD b e).1.length = 128 ∧ escM (unD b e).1 = b ∧ isEsc (unD b e).1 = e := by
  unfold unD at h ⊢
  split at h
  · cases h
  · rename_i h1
    have h128 : b.length = 128 := Decidable.of_not_not h1
    rw [if_neg h1]
    split at h
    · rename_i h2
      rw [if_pos h2]
      split at h
      · cases h
      · rename_i h3
        rw [if_neg h3]
        exact ⟨h128, if_neg h3, by rw [h2]; exact decide_eq_false h3⟩
    · rename_i h2
      rw [if_neg h2]
      split at h
      · rename_i h3
        rw [if_pos h3]
        have ht : (magicL ++ b.drop 4).take 4 = magicL := List.take_left' (by rfl)
        have hd : (magicL ++ b.drop 4).drop 4 = b.drop 4 := List.drop_left' (by rfl)
        refine ⟨by simp [magicL]; omega, ?_, ?_⟩
        · show escM (magicL ++ b.drop 4) = b
          unfold escM
          rw [if_pos ht, hd, ← h3, List.take_append_drop]
        · show isEsc (magicL ++ b.drop 4) = e
          cases e with
          | true => exact decide_eq_true ht
          | false => exact absurd rfl h2
      · cases h
/-! ### Batches as sectors -/
structure PatD where
  member : Int
  row : Int
  data : List UInt8
def PatD.far (p : PatD) : Prop := p.member < 0 ∨ 15 < p.member ∨ p.row < 0 ∨ 4095 < p.row
instance (p : PatD) : Decidable p.far := by unfold PatD.far; exact inferInstance
def hdrP (e s n i : Nat) (p : PatD) : HdrD := ⟨e, s, i, n, p.member, p.row, isEsc p.data, (crcS (escM p.data)).toNat⟩
def headP (e s n i : Nat) (p : PatD) : List UInt8 := (hdrP e s n i p).enc.2
/-- The first so many pairs. -/
def pairsP (e s n : Nat) : List PatD → Nat → List (List UInt8)
  | [], _ => []
  | p :: r, i => headP e s n i p :: escM p.data :: pairsP e s n r (i + 1)
def headsP (e s n : Nat) : List PatD → Nat → List UInt8
  | [], _ => []
  | p :: r, i => headP e s n i p ++ headsP e s n r (i + 1)
def cmtP (e s : Nat) (l : List PatD) : CmtD := ⟨e, s, l.length, (crcS (headsP e s l.length l 0)).toNat⟩
def secsM (e s : Nat) (l : List PatD) : Int × List (List UInt8) :=
  if l.length < 1 ∨ 1023 < l.length then (1, []) else if ¬ cntOk e s ∨ ∃ p ∈ l, p.far then (3, []) else if ∃ p ∈ l, p.data.length ≠ 128 then (4, []) else
  (0, pairsP e s l.length l 0 ++ [(cmtP e s l).enc.2])
theorem pairsP_length (e s n : Nat) : ∀ (l : List PatD) (i : Nat), (pairsP e s n l i).length = 2 * l.length
  | [], _ => rfl
  | _ :: r, i => by simp only [pairsP, List.length_cons, pairsP_length e s n r]; omega
theorem pairsP_get (e s n : Nat) : ∀ (l : List PatD) (i j : Nat) (h : j < l.length), (pairsP e s n l i)[2 * j]? = some (headP e s n (i + j) l[j]) ∧ (pairsP e s n l i)[2 * j + 1]? = some (escM l[j].data)
  | p :: r, i, 0, _ => ⟨rfl, rfl⟩
  | p :: r, i, j + 1, h => by
    have ih := pairsP_get e s n r (i + 1) j (by simpa using h)
    rw [show 2 * (j + 1) = 2 * j + 2 by omega, show 2 * j + 2 + 1 = (2 * j + 1) + 2 by omega]
    simp only [pairsP, List.getElem?_cons_succ, List.getElem_cons_succ]
    rw [show i + (j + 1) = i + 1 + j by omega]
    exact ih
theorem headsP_append (e s n : Nat) : ∀ (l m : List PatD) (i : Nat), headsP e s n (l ++ m) i = headsP e s n l i ++ headsP e s n m (i + l.length)
  | [], m, i => by simp [headsP]
  | p :: r, m, i => by simp only [List.cons_append, headsP, headsP_append e s n r, List.append_assoc, List.length_cons]; rw [show i + 1 + r.length = i + (r.length + 1) by omega]
theorem pairsP_append (e s n : Nat) : ∀ (l m : List PatD) (i : Nat), pairsP e s n (l ++ m) i = pairsP e s n l i ++ pairsP e s n m (i + l.length)
  | [], m, i => by simp [pairsP]
  | p :: r, m, i => by simp only [List.cons_append, pairsP, pairsP_append e s n r, List.length_cons]; rw [show i + 1 + r.length = i + (r.length + 1) by omega]
/-- What is asked of a batch that has sectors. -/
structure Fine (e s : Nat) (l : List PatD) : Prop where
  cnt : cntOk e s
  n1 : 1 ≤ l.length
  n2 : l.length ≤ 1023
  pat : ∀ p ∈ l, (0 ≤ p.member ∧ p.member ≤ 15) ∧ (0 ≤ p.row ∧ p.row ≤ 4095) ∧ p.data.length = 128
def rowsP (e s : Nat) (l : List PatD) : List (List UInt8) := pairsP e s l.length l 0 ++ [(cmtP e s l).enc.2]
theorem rowsP_length (e s : Nat) (l : List PatD) : (rowsP e s l).length = 2 * l.length + 1 := by simp [rowsP, pairsP_length]
theorem secs_fine {e s : Nat} {l : List PatD} (h : Fine e s l) : secsM e s l = (0, rowsP e s l) := by
  unfold secsM
  rw [if_neg (by have := h.n1; have := h.n2; omega), if_neg, if_neg]
  · rfl
  · rintro ⟨p, hp, hd⟩; exact hd (h.pat p hp).2.2
  · rintro (h1 | ⟨p, hp, hf⟩)
    · exact h1 h.cnt
    · have := h.pat p hp; unfold PatD.far at hf; omega
theorem secs_ok {e s : Nat} {l : List PatD} (h : (secsM e s l).1 = 0) : Fine e s l := by
  unfold secsM at h
  split at h
  · cases h
  · rename_i h1
    split at h
    · cases h
    · rename_i h2
      split at h
      · cases h
      · rename_i h3
        refine ⟨Decidable.of_not_not fun q => h2 (.inl q), by omega, by omega, fun p hp => ?_⟩
        have hf : ¬ p.far := fun q => h2 (.inr ⟨p, hp, q⟩)
        have hd : p.data.length = 128 := Decidable.of_not_not fun q => h3 ⟨p, hp, q⟩
        unfold PatD.far at hf
        exact ⟨by omega, by omega, hd⟩
theorem secs_cases (e s : Nat) (l : List PatD) : (Fine e s l ∧ secsM e s l = (0, rowsP e s l)) ∨ (¬ Fine e s l ∧ (secsM e s l).1 ≠ 0 ∧ (secsM e s l).2 = []) := by
  by_cases h : (secsM e s l).1 = 0
  · exact .inl ⟨secs_ok h, secs_fine (secs_ok h)⟩
  · refine .inr ⟨fun q => h (by rw [secs_fine q]), h, ?_⟩
    unfold secsM at h ⊢
    split
    · rfl
    · split
      · rfl
      · split
        · rfl
        · rename_i h1 h2 h3; rw [if_neg h1, if_neg h2, if_neg h3] at h; exact absurd rfl h
theorem hdrP_good {e s : Nat} {l : List PatD} (h : Fine e s l) {i : Nat} (hi : i < l.length) : (hdrP e s l.length i l[i]).good := by
  have hp := h.pat l[i] (List.getElem_mem hi)
  have := h.n2
  exact ⟨h.cnt, ⟨by simp only [hdrP]; omega, by simp only [hdrP]; omega⟩, ⟨by simp only [hdrP]; omega, by simp only [hdrP]; omega⟩, hp.1, hp.2.1⟩
theorem hdrP_sum (e s n i : Nat) (p : PatD) : (hdrP e s n i p).sum < 4294967296 := (crcS (escM p.data)).isLt
theorem cmtP_good {e s : Nat} {l : List PatD} (h : Fine e s l) : (cmtP e s l).good := ⟨h.cnt, by have := h.n1; simp only [cmtP]; omega, by have := h.n2; simp only [cmtP]; omega⟩
theorem cmtP_sum (e s : Nat) (l : List PatD) : (cmtP e s l).sum < 4294967296 := (crcS _).isLt
theorem headP_dec {e s : Nat} {l : List PatD} (h : Fine e s l) {i : Nat} (hi : i < l.length) : HdrD.dec (headP e s l.length i l[i]) = (0, hdrP e s l.length i l[i]) := hdr_back _ (hdrP_good h hi) (hdrP_sum _ _ _ _ _)
theorem headP_length {e s : Nat} {l : List PatD} (h : Fine e s l) {i : Nat} (hi : i < l.length) : (headP e s l.length i l[i]).length = 128 := by
  unfold headP; rw [hdr_ok (hdrP_good h hi)]; exact sectF_length _ _ _ _ (hdr_sum _)
theorem cmtP_dec {e s : Nat} {l : List PatD} (h : Fine e s l) : CmtD.dec (cmtP e s l).enc.2 = (0, cmtP e s l) := cmt_back _ (cmtP_good h) (cmtP_sum _ _ _)
theorem cmtP_length {e s : Nat} {l : List PatD} (h : Fine e s l) : (cmtP e s l).enc.2.length = 128 := by
  rw [cmt_ok (cmtP_good h)]; exact sectF_length _ _ _ _ (cmt_sum _)
theorem rowsP_even {e s : Nat} {l : List PatD} {i : Nat} (hi : i < l.length) : (rowsP e s l)[2 * i]? = some (headP e s l.length i l[i]) := by
  unfold rowsP
  rw [List.getElem?_append_left (by rw [pairsP_length]; omega), (pairsP_get e s l.length l 0 i hi).1, Nat.zero_add]
theorem rowsP_odd {e s : Nat} {l : List PatD} {i : Nat} (hi : i < l.length) : (rowsP e s l)[2 * i + 1]? = some (escM l[i].data) := by
  unfold rowsP
  rw [List.getElem?_append_left (by rw [pairsP_length]; omega), (pairsP_get e s l.length l 0 i hi).2]
theorem rowsP_last (e s : Nat) (l : List PatD) : (rowsP e s l)[2 * l.length]? = some (cmtP e s l).enc.2 := by
  unfold rowsP
  rw [List.getElem?_append_right (by rw [pairsP_length]; exact Nat.le_refl _), pairsP_length]; simp
theorem rowsP_128 {e s : Nat} {l : List PatD} (h : Fine e s l) : ∀ r ∈ rowsP e s l, r.length = 128 := by
  intro r hr
  obtain ⟨j, hj⟩ := List.mem_iff_getElem?.1 hr
  have hlt := (List.getElem?_eq_some_iff.1 hj).1
  rw [rowsP_length] at hlt
  rcases Nat.lt_or_ge j (2 * l.length) with h1 | h1
  · rcases Nat.mod_two_eq_zero_or_one j with h2 | h2
    · rw [show j = 2 * (j / 2) by omega, rowsP_even (by omega)] at hj
      injection hj with hj; rw [← hj]; exact headP_length h _
    · rw [show j = 2 * (j / 2) + 1 by omega, rowsP_odd (by omega)] at hj
      injection hj with hj; rw [← hj]; exact escN_length (h.pat _ (List.getElem_mem _)).2.2
  · rw [show j = 2 * l.length by omega, rowsP_last] at hj
    injection hj with hj; rw [← hj]; exact cmtP_length h
/-! ### When one counts -/
abbrev SecF := Nat → List UInt8
/-- The i-th pair of sectors is as it must be. -/
def stepOk (sec : SecF) (e s : Nat) (n : Int) (i : Nat) : Prop :=
  (HdrD.dec (sec (2 * i))).1 = 0 ∧ (HdrD.dec (sec (2 * i))).2.epoch = e ∧ (HdrD.dec (sec (2 * i))).2.seq = s ∧ (HdrD.dec (sec (2 * i))).2.index = i ∧ (HdrD.dec (sec (2 * i))).2.count = n ∧
  (unD (sec (2 * i + 1)) (HdrD.dec (sec (2 * i))).2.escaped).2 = 0 ∧ (crcS (sec (2 * i + 1))).toNat = (HdrD.dec (sec (2 * i))).2.sum
instance (sec : SecF) (e s : Nat) (n : Int) (i : Nat) : Decidable (stepOk sec e s n i) := by unfold stepOk; exact inferInstance
def patAt (sec : SecF) (i : Nat) : PatD := ⟨(HdrD.dec (sec (2 * i))).2.member, (HdrD.dec (sec (2 * i))).2.row, (unD (sec (2 * i + 1)) (HdrD.dec (sec (2 * i))).2.escaped).1⟩
def headsF (sec : SecF) : Nat → List UInt8
  | 0 => []
  | i + 1 => headsF sec i ++ sec (2 * i)
def batN (sec : SecF) : Int := (HdrD.dec (sec 0)).2.count
def batOk (sec : SecF) (room e s : Nat) : Prop :=
  (HdrD.dec (sec 0)).1 = 0 ∧ 2 * batN sec + 1 ≤ room ∧ (∀ i, i < (batN sec).toNat → stepOk sec e s (batN sec) i) ∧
  (CmtD.dec (sec (2 * (batN sec).toNat))) = (0, ⟨e, s, batN sec, (crcS (headsF sec (batN sec).toNat)).toNat⟩)
instance instCmtN : DecidableEq CmtD := fun a b => if h : a.epoch = b.epoch ∧ a.seq = b.seq ∧ a.count = b.count ∧ a.sum = b.sum then isTrue (by cases a; cases b; simp_all) else isFalse (fun q => h (by rw [q]; exact ⟨rfl, rfl, rfl, rfl⟩))
instance (sec : SecF) (room e s : Nat) : Decidable (batOk sec room e s) := by unfold batOk; exact inferInstance
def batM (sec : SecF) (room e s : Nat) : Option (List PatD) := if batOk sec room e s then some ((List.range (batN sec).toNat).map (patAt sec)) else none
theorem headsP_map (e s : Nat) (sec : SecF) (n : Nat) : ∀ (m : Nat), (∀ i, i < m → sec (2 * i) = headP e s n i (patAt sec i)) → headsP e s n ((List.range m).map (patAt sec)) 0 = headsF sec m
  | 0, _ => rfl
  | m + 1, h => by
    rw [List.range_succ, List.map_append, headsP_append, headsP_map e s sec n m (fun i hi => h i (by omega))]
    simp only [List.map_cons, List.map_nil, headsP, List.append_nil, List.length_map, List.length_range, Nat.zero_add, headsF]
    rw [h m (by omega)]
/-- WHEN A BATCH COUNTS: just if its own sectors stand there. -/
theorem bat_iff (sec : SecF) (room e s : Nat) (l : List PatD) : batM sec room e s = some l ↔ Fine e s l ∧ 2 * l.length + 1 ≤ room ∧ ∀ j, j < 2 * l.length + 1 → (rowsP e s l)[j]? = some (sec j) := by
  constructor
  · intro h
    unfold batM at h
    split at h
    · rename_i hb
      injection h with h
      obtain ⟨h0, hroom, hst, hc⟩ := hb
      have g0 := (hdr_decO h0).2.1
      have hn1 : 1 ≤ batN sec ∧ batN sec ≤ 1023 := g0.2.1
      obtain ⟨N, hN⟩ : ∃ N : Nat, batN sec = N := ⟨(batN sec).toNat, by omega⟩
      rw [hN] at hst hc hroom hn1
      rw [hN] at h
      rw [Int.toNat_natCast] at hst hc h
      have hl : l.length = N := by rw [← h]; simp
      have hget : ∀ (i : Nat) (hi : i < l.length), l[i] = patAt sec i := by
        intro i hi; simp only [← h, List.getElem_map, List.getElem_range]
      have hs : ∀ i, i < N → sec (2 * i) = headP e s N i (patAt sec i) ∧ sec (2 * i + 1) = escM (patAt sec i).data ∧ (patAt sec i).data.length = 128 ∧ (0 ≤ (patAt sec i).member ∧ (patAt sec i).member ≤ 15) ∧ (0 ≤ (patAt sec i).row ∧ (patAt sec i).row ≤ 4095) ∧ cntOk e s := by
        intro i hi
        obtain ⟨a1, a2, a3, a4, a5, a6, a7⟩ := hst i hi
        obtain ⟨_, b2, b3, b4⟩ := hdr_decO a1
        obtain ⟨c1, c2, c3⟩ := unN_esc a6
        have hh : (HdrD.dec (sec (2 * i))).2 = hdrP e s N i (patAt sec i) := by
          unfold hdrP patAt
          dsimp only
          rw [c2, c3, a7, ← a2, ← a3, ← a4, ← a5]
        refine ⟨?_, c2.symm, c1, b2.2.2.2.1, b2.2.2.2.2, by rw [← a2, ← a3]; exact b2.1⟩
        unfold headP
        rw [← hh, b3]
      have hfine : Fine e s l := by
        refine ⟨(hs 0 (by omega)).2.2.2.2.2, by omega, by omega, fun p hp => ?_⟩
        obtain ⟨i, hi, rfl⟩ := List.mem_iff_getElem.1 hp
        rw [hget i hi]
        have := hs i (by omega)
        exact ⟨this.2.2.2.1, this.2.2.2.2.1, this.2.2.1⟩
      refine ⟨hfine, by omega, fun j hj => ?_⟩
      rcases Nat.lt_or_ge j (2 * l.length) with h1 | h1
      · rcases Nat.mod_two_eq_zero_or_one j with h2 | h2
        · obtain ⟨i, rfl⟩ : ∃ i, j = 2 * i := ⟨j / 2, by omega⟩
          rw [rowsP_even (by omega), hget i (by omega), hl, ← (hs i (by omega)).1]
        · obtain ⟨i, rfl⟩ : ∃ i, j = 2 * i + 1 := ⟨j / 2, by omega⟩
          rw [rowsP_odd (by omega), hget i (by omega), ← (hs i (by omega)).2.1]
      · obtain rfl : j = 2 * l.length := by omega
        rw [rowsP_last]
        have hcm : cmtP e s l = ⟨e, s, N, (crcS (headsF sec N)).toNat⟩ := by
          unfold cmtP
          rw [hl, ← h, headsP_map e s sec N N (fun i hi => (hs i hi).1)]
        have hd := cmt_decO (b := sec (2 * N)) (by rw [hc])
        rw [hc] at hd
        rw [hcm, hd.2.2, hl]
    · cases h
  · rintro ⟨hf, hroom, hrow⟩
    have hn1 := hf.n1
    have he : ∀ (i : Nat) (hi : i < l.length), sec (2 * i) = headP e s l.length i l[i] ∧ sec (2 * i + 1) = escM l[i].data := by
      intro i hi
      have h1 := hrow (2 * i) (by omega)
      have h2 := hrow (2 * i + 1) (by omega)
      rw [rowsP_even hi] at h1
      rw [rowsP_odd hi] at h2
      injection h1 with h1; injection h2 with h2
      exact ⟨h1.symm, h2.symm⟩
    have hd : ∀ (i : Nat) (hi : i < l.length), HdrD.dec (sec (2 * i)) = (0, hdrP e s l.length i l[i]) := fun i hi => by rw [(he i hi).1]; exact headP_dec hf hi
    have hu : ∀ (i : Nat) (hi : i < l.length), unD (sec (2 * i + 1)) (hdrP e s l.length i l[i]).escaped = (l[i].data, 0) := fun i hi => by rw [(he i hi).2]; exact unN_back (hf.pat _ (List.getElem_mem hi)).2.2
    have h0 := hd 0 (by omega)
    rw [Nat.mul_zero] at h0
    have hN : batN sec = l.length := by unfold batN; rw [h0]; rfl
    have hp : ∀ (i : Nat) (hi : i < l.length), patAt sec i = l[i] := by
      intro i hi
      unfold patAt
      rw [hd i hi]; dsimp only
      rw [hu i hi]; rfl
    have hm : (List.range l.length).map (patAt sec) = l := by
      apply List.ext_getElem
      · simp
      · intro i h1 h2; simp only [List.getElem_map, List.getElem_range]; exact hp i h2
    unfold batM
    rw [if_pos]
    · rw [hN, Int.toNat_natCast, hm]
    · refine ⟨by rw [h0], by rw [hN]; omega, ?_, ?_⟩
      · intro i hi
        rw [hN, Int.toNat_natCast] at hi
        unfold stepOk
        rw [hN, hd i hi]
        dsimp only
        rw [hu i hi, (he i hi).2]
        exact ⟨rfl, rfl, rfl, rfl, rfl, rfl, rfl⟩
      · have h1 := hrow (2 * l.length) (by omega)
        rw [rowsP_last] at h1
        injection h1 with h1
        rw [hN, Int.toNat_natCast, ← h1, cmtP_dec hf]
        congr 1
        unfold cmtP
        congr 3
        rw [← headsP_map e s sec l.length l.length (fun i hi => by rw [hp i hi]; exact (he i hi).1), hm]
/-! ### What a scan finds -/
def rotF (sec : SecF) (size hd : Nat) : SecF := fun j => sec ((hd + j) % size)
def ofM (sec : SecF) (size e : Nat) : Nat → Nat → Nat → Nat → List (Nat × List PatD)
  | 0, _, _, _ => []
  | f + 1, nx, us, hd => if nx ≤ 4611686018427387904 then match batM (rotF sec size hd) (size - us) e nx with
    | none => []
    | some l => (nx, l) :: ofM sec size e f (nx + 1) (us + (2 * l.length + 1)) ((hd + (2 * l.length + 1)) % size)
    else []
def costT (ts : List (Nat × List PatD)) : Nat := (ts.map fun t => 2 * t.2.length + 1).sum
end Go.Proofs.Ytlojjlbngnaphaa
