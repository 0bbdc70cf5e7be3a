/- Checksums: the plain law of shifts by a polynomial: a run of at most 32 bits that has changed is told. No program is named. -/
import Derived.Test.YtlojjlbngnaphaaSk
set_option maxRecDepth 8000
set_option linter.unusedVariables false
set_option linter.unusedSimpArgs false
set_option linter.unusedSectionVars false
namespace Go.Sl

def crcPoly : BitVec 32 := 0x82f63b78#32
def stp (n : BitVec 32) : BitVec 32 := (n >>> 1) ^^^ (if n.getLsbD 0 then crcPoly else 0#32)
def stpN : Nat → BitVec 32 → BitVec 32
  | 0, n => n
  | k + 1, n => stpN k (stp n)
theorem stpN_add (a b : Nat) (n : BitVec 32) : stpN (a + b) n = stpN b (stpN a n) := by
  induction a generalizing n with
  | zero => rw [Nat.zero_add]; rfl
  | succ a ih => rw [Nat.succ_add]; exact ih (stp n)
theorem stp_xor (a b : BitVec 32) : stp (a ^^^ b) = stp a ^^^ stp b := by
  unfold stp
  rw [BitVec.getLsbD_xor]
  apply BitVec.eq_of_getLsbD_eq
  intro i hi
  simp only [BitVec.getLsbD_xor, BitVec.getLsbD_ushiftRight]
  cases a.getLsbD 0 <;> cases b.getLsbD 0 <;> simp <;> cases a.getLsbD (1 + i) <;> cases b.getLsbD (1 + i) <;> cases crcPoly.getLsbD i <;> rfl
theorem stp_zero : stp 0#32 = 0#32 := by decide
theorem stp_even (n : BitVec 32) (h : n.getLsbD 0 = false) : stp n = n >>> 1 := by
  unfold stp; rw [h]; simp
theorem stpN_xor : ∀ (k : Nat) (a b : BitVec 32), stpN k (a ^^^ b) = stpN k a ^^^ stpN k b
  | 0, _, _ => rfl
  | k + 1, a, b => by rw [stpN, stp_xor, stpN_xor k]; rfl
theorem stpN_zero : ∀ k, stpN k 0#32 = 0#32
  | 0 => rfl
  | k + 1 => by rw [stpN, stp_zero, stpN_zero k]
theorem poly_top : crcPoly.getLsbD 31 = true := by decide
theorem stp_inj0 (a : BitVec 32) (h : stp a = 0#32) : a = 0#32 := by
  have h31 : (stp a).getLsbD 31 = (if a.getLsbD 0 then true else false) := by
    unfold stp
    rw [BitVec.getLsbD_xor, BitVec.getLsbD_ushiftRight, BitVec.getLsbD_of_ge _ _ (by omega)]
    cases a.getLsbD 0
    · simp
    · simp [poly_top]
  have h0 : a.getLsbD 0 = false := by
    rw [h] at h31
    cases ha : a.getLsbD 0
    · rfl
    · rw [ha] at h31; simp at h31
  rw [stp_even a h0] at h
  apply BitVec.eq_of_getLsbD_eq
  intro i hi
  cases i with
  | zero => rw [h0]; simp
  | succ i =>
    have : (a >>> 1).getLsbD i = false := by rw [h]; simp
    rw [BitVec.getLsbD_ushiftRight, Nat.add_comm] at this
    rw [this]; simp
theorem stpN_inj0 : ∀ (k : Nat) (a : BitVec 32), stpN k a = 0#32 → a = 0#32
  | 0, _, h => h
  | k + 1, a, h => stp_inj0 a (stpN_inj0 k _ h)
theorem xor_zero_eq {w : Nat} {a b : BitVec w} (h : a ^^^ b = 0#w) : a = b := by
  apply BitVec.eq_of_getLsbD_eq
  intro i hi
  have : (a ^^^ b).getLsbD i = false := by rw [h]; simp
  rw [BitVec.getLsbD_xor] at this
  cases h1 : a.getLsbD i <;> cases h2 : b.getLsbD i <;> simp_all
/-- A number whose lowest bits are noughts is only shifted. -/
theorem stpN_shift : ∀ (k : Nat) (n : BitVec 32), (∀ i, i < k → n.getLsbD i = false) → stpN k n = n >>> k
  | 0, n, _ => by simp [stpN]
  | k + 1, n, h => by
    rw [stpN, stp_even n (h 0 (by omega)), stpN_shift k _ (fun i hi => by rw [BitVec.getLsbD_ushiftRight, Nat.add_comm]; exact h (i + 1) (by omega))]
    rw [← BitVec.shiftRight_add, Nat.add_comm]
/-- By halves of a byte, from a table. -/
theorem stp_nibble (n : BitVec 32) : stpN 4 n = (n >>> 4) ^^^ stpN 4 (n &&& 15#32) := by
  have e : n = (n &&& 0xfffffff0#32) ^^^ (n &&& 15#32) := by
    apply BitVec.eq_of_getLsbD_eq
    intro i hi
    rw [BitVec.getLsbD_xor, BitVec.getLsbD_and, BitVec.getLsbD_and]
    have : (0xfffffff0#32).getLsbD i = !(15#32).getLsbD i := by
      have hc : ∀ j : Fin 32, (0xfffffff0#32).getLsbD j.1 = !(15#32).getLsbD j.1 := by decide
      exact hc ⟨i, hi⟩
    rw [this]
    cases n.getLsbD i <;> cases (15#32).getLsbD i <;> rfl
  have hs : stpN 4 (n &&& 0xfffffff0#32) = n >>> 4 := by
    rw [stpN_shift 4 _ (fun i hi => by
      rw [BitVec.getLsbD_and]
      have hc : ∀ j : Fin 4, (0xfffffff0#32).getLsbD j.1 = false := by decide
      rw [hc ⟨i, hi⟩, Bool.and_false])]
    apply BitVec.eq_of_getLsbD_eq
    intro i hi
    rw [BitVec.getLsbD_ushiftRight, BitVec.getLsbD_ushiftRight, BitVec.getLsbD_and]
    by_cases h : 4 + i < 32
    · have hc : ∀ j : Fin 28, (0xfffffff0#32).getLsbD (4 + j.1) = true := by decide
      rw [hc ⟨i, by omega⟩, Bool.and_true]
    · rw [BitVec.getLsbD_of_ge n _ (by omega)]; rfl
  conv => lhs; rw [e]
  rw [stpN_xor, hs]

/-- A byte more. -/
def crcB (n : BitVec 32) (b : UInt8) : BitVec 32 := stpN 8 (n ^^^ BitVec.ofNat 32 b.toNat)
def crcF (n : BitVec 32) (l : List UInt8) : BitVec 32 := l.foldl crcB n
def crcM (n : BitVec 32) (l : List UInt8) : BitVec 32 := ~~~(crcF (~~~n) l)
def crcS (l : List UInt8) : BitVec 32 := crcM 0#32 l
theorem crcB_nibbles (n : BitVec 32) (b : UInt8) : crcB n b =
    (((((n ^^^ BitVec.ofNat 32 b.toNat) >>> 4) ^^^ stpN 4 ((n ^^^ BitVec.ofNat 32 b.toNat) &&& 15#32)) >>> 4) ^^^ stpN 4 ((((n ^^^ BitVec.ofNat 32 b.toNat) >>> 4) ^^^ stpN 4 ((n ^^^ BitVec.ofNat 32 b.toNat) &&& 15#32)) &&& 15#32)) := by
  unfold crcB
  rw [show (8 : Nat) = 4 + 4 from rfl, stpN_add, stp_nibble (stpN 4 _), stp_nibble (n ^^^ _)]

/-! ### Bit by bit -/
def bv (b : Bool) : BitVec 32 := if b then 1#32 else 0#32
def bitF : BitVec 32 → List Bool → BitVec 32
  | n, [] => n
  | n, b :: r => bitF (stp (n ^^^ bv b)) r
theorem bitF_append : ∀ (a b : List Bool) (n : BitVec 32), bitF n (a ++ b) = bitF (bitF n a) b
  | [], _, _ => rfl
  | x :: r, b, n => bitF_append r b _
def xorL : List Bool → List Bool → List Bool
  | a :: r, b :: s => (a ^^ b) :: xorL r s
  | _, _ => []
theorem bv_xor (a b : Bool) : bv (a ^^ b) = bv a ^^^ bv b := by cases a <;> cases b <;> decide
theorem bitF_xor : ∀ (a b : List Bool) (n m : BitVec 32), a.length = b.length → bitF (n ^^^ m) (xorL a b) = bitF n a ^^^ bitF m b
  | [], [], _, _, _ => rfl
  | x :: r, y :: s, n, m, h => by
    rw [xorL, bitF, bitF, bitF, ← bitF_xor r s _ _ (by simpa using h), bv_xor, ← stp_xor]
    congr 2
    rw [BitVec.xor_assoc, BitVec.xor_assoc, ← BitVec.xor_assoc m, BitVec.xor_comm m, BitVec.xor_assoc]
  | [], _ :: _, _, _, h => by simp at h
  | _ :: _, [], _, _, h => by simp at h
theorem bitF_zeros : ∀ (k : Nat) (n : BitVec 32), bitF n (List.replicate k false) = stpN k n
  | 0, _ => rfl
  | k + 1, n => by
    rw [List.replicate_succ, bitF, bitF_zeros k]
    simp [bv, stpN]
/-- Bits as a number, the lowest first. -/
def packB : List Bool → BitVec 32
  | [] => 0#32
  | b :: r => bv b ^^^ (packB r <<< 1)
theorem pack_zero : ∀ (l : List Bool), l.length ≤ 32 → packB l = 0#32 → l = List.replicate l.length false
  | [], _, _ => rfl
  | b :: r, hl, h => by
    have h0 : (packB (b :: r)).getLsbD 0 = b := by
      rw [packB, BitVec.getLsbD_xor]; cases b <;> simp [bv]
    rw [h] at h0
    obtain rfl : b = false := by rw [← h0]; simp
    have hr : packB r <<< 1 = 0#32 := by rw [packB] at h; simpa [bv] using h
    have hb : ∀ (r : List Bool) (i : Nat), r.length ≤ i → (packB r).getLsbD i = false := by
      intro r
      induction r with
      | nil => intro i _; simp [packB]
      | cons c r ih =>
        intro i hi
        simp only [List.length_cons] at hi
        rw [packB, BitVec.getLsbD_xor, BitVec.getLsbD_shiftLeft]
        have : (bv c).getLsbD i = false := by cases c <;> simp [bv] <;> omega
        rw [this, ih (i - 1) (by omega)]; simp
    have hr0 : packB r = 0#32 := by
      apply BitVec.eq_of_getLsbD_eq
      intro i hi
      by_cases h31 : i < 31
      · have : (packB r <<< 1).getLsbD (i + 1) = false := by rw [hr]; simp
        rw [BitVec.getLsbD_shiftLeft] at this
        simp at this
        have := this (by omega)
        rw [this]; simp
      · have : r.length ≤ i := by simp only [List.length_cons] at hl; omega
        rw [hb r i this]; simp
    rw [List.length_cons, List.replicate_succ, ← pack_zero r (by simp only [List.length_cons] at hl; omega) hr0]
theorem bitF_pack : ∀ (l : List Bool) (n : BitVec 32), l.length ≤ 32 → bitF n l = stpN l.length (n ^^^ packB l)
  | [], n, _ => by simp [bitF, packB, stpN]
  | b :: r, n, hl => by
    simp only [List.length_cons] at hl
    rw [bitF, bitF_pack r _ (by omega), List.length_cons, stpN]
    congr 1
    rw [packB, ← BitVec.xor_assoc, stp_xor (n ^^^ bv b)]
    congr 1
    rw [stp_even _ (by simp)]
    apply BitVec.eq_of_getLsbD_eq
    intro i hi
    rw [BitVec.getLsbD_ushiftRight, BitVec.getLsbD_shiftLeft]
    by_cases h31 : i < 31
    · have : 1 + i < 32 := by omega
      simp [this]
    · have hz : (packB r).getLsbD i = false := by
        have hb : ∀ (r : List Bool) (i : Nat), r.length ≤ i → (packB r).getLsbD i = false := by
          intro r
          induction r with
          | nil => intro i _; simp [packB]
          | cons c r ih =>
            intro i hi
            simp only [List.length_cons] at hi
            rw [packB, BitVec.getLsbD_xor, BitVec.getLsbD_shiftLeft]
            have : (bv c).getLsbD i = false := by cases c <;> simp [bv] <;> omega
            rw [this, ih (i - 1) (by omega)]; simp
        exact hb r i (by omega)
      rw [hz]
      have : ¬ 1 + i < 32 := by omega
      simp [this]
/-- A run of at most 32 bits that is not all noughts leaves something. -/
theorem run_told (a m : Nat) (w : List Bool) (hw : w.length ≤ 32) (h : bitF 0#32 (List.replicate a false ++ (w ++ List.replicate m false)) = 0#32) : w = List.replicate w.length false := by
  rw [bitF_append, bitF_zeros, stpN_zero, bitF_append, bitF_zeros] at h
  have h1 := stpN_inj0 m _ h
  rw [bitF_pack w _ hw, BitVec.zero_xor] at h1
  exact pack_zero w hw (stpN_inj0 _ _ h1)

/-! ### Bytes as bits -/
def bitsOf (b : UInt8) : List Bool := (List.range 8).map fun i => (BitVec.ofNat 32 b.toNat).getLsbD i
theorem bitsOf_length (b : UInt8) : (bitsOf b).length = 8 := by simp [bitsOf]
theorem pack_range (n : BitVec 32) : ∀ (k : Nat), (∀ i, k ≤ i → n.getLsbD i = false) → ∀ (s : Nat), s ≤ k → packB ((List.range' s (k - s)).map fun i => n.getLsbD i) = n >>> s := by
  intro k hk s hs
  obtain ⟨d, hd⟩ : ∃ d, k - s = d := ⟨_, rfl⟩
  rw [hd]
  induction d generalizing s with
  | zero =>
    obtain rfl : s = k := by omega
    simp only [List.range'_zero, List.map_nil, packB]
    apply BitVec.eq_of_getLsbD_eq
    intro i hi
    rw [BitVec.getLsbD_ushiftRight, hk _ (by omega)]; simp
  | succ d ih =>
    rw [List.range'_succ, List.map_cons, packB, ih (s + 1) (by omega) (by omega)]
    apply BitVec.eq_of_getLsbD_eq
    intro i hi
    rw [BitVec.getLsbD_xor, BitVec.getLsbD_shiftLeft, BitVec.getLsbD_ushiftRight, BitVec.getLsbD_ushiftRight]
    cases i with
    | zero => cases n.getLsbD s <;> simp [bv]
    | succ i =>
      have hb : (bv (n.getLsbD s)).getLsbD (i + 1) = false := by cases n.getLsbD s <;> simp [bv]
      rw [hb]
      have e : s + 1 + (i + 1 - 1) = s + (i + 1) := by omega
      rw [e]; simp [hi]
theorem pack_byte (b : UInt8) : packB (bitsOf b) = BitVec.ofNat 32 b.toNat := by
  have := pack_range (BitVec.ofNat 32 b.toNat) 8 (fun i hi => by
    rw [BitVec.getLsbD_ofNat]
    have hb := b.toNat_lt
    have : b.toNat.testBit i = false := Nat.testBit_lt_two_pow (Nat.lt_of_lt_of_le hb (Nat.pow_le_pow_right (by omega) hi))
    rw [this, Bool.and_false]) 0 (by omega)
  rw [show (8 : Nat) - 0 = 8 from rfl, ← List.range_eq_range'] at this
  simpa [bitsOf] using this
theorem crcB_bits (n : BitVec 32) (b : UInt8) : crcB n b = bitF n (bitsOf b) := by
  rw [bitF_pack _ _ (by rw [bitsOf_length]; omega), bitsOf_length, pack_byte]; rfl
def allBits (l : List UInt8) : List Bool := l.flatMap bitsOf
theorem allBits_length (l : List UInt8) : (allBits l).length = l.length * 8 := by
  unfold allBits
  induction l with
  | nil => rfl
  | cons a r ih => rw [List.flatMap_cons, List.length_append, ih, bitsOf_length, List.length_cons]; omega
theorem crcF_bits : ∀ (l : List UInt8) (n : BitVec 32), crcF n l = bitF n (allBits l)
  | [], _ => rfl
  | a :: r, n => by
    rw [show allBits (a :: r) = bitsOf a ++ allBits r from rfl, bitF_append, ← crcB_bits]
    exact crcF_bits r _
end Go.Sl
