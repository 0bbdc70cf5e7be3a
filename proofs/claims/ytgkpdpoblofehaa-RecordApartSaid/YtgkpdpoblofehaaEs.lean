/- A run of at most 32 bits of a sector turned over: the plain law. -/
import Derived.Test.YtgkpdpoblofehaaEa
import Derived.Test.YtgkpdpoblofehaaSln
set_option maxRecDepth 8000
set_option linter.unusedVariables false
set_option linter.unusedSimpArgs false
set_option linter.unusedSectionVars false
namespace Go.Proofs.Ytgkpdpoblofehaa
open Go.RowKit Go.Sl

def bitL (l : List UInt8) (j : Nat) : Bool := (l.getD (j / 8) 0).toNat.testBit (j % 8)
theorem bitsOf_get (b : UInt8) (i : Nat) (h : i < 8) : (bitsOf b)[i]? = some (b.toNat.testBit i) := by
  simp [bitsOf, h, BitVec.getLsbD_ofNat]; omega
theorem allBits_get (l : List UInt8) (j : Nat) (h : j < l.length * 8) : (allBits l)[j]? = some (bitL l j) := by
  have h1 : j / 8 < l.length := by omega
  have := flat_at (g := bitsOf) (w := 8) l (j / 8) (j % 8) h1 (fun a _ => bitsOf_length a) (Nat.mod_lt _ (by decide))
  rw [show j / 8 * 8 + j % 8 = j by omega] at this
  unfold allBits
  rw [this, bitsOf_get _ _ (Nat.mod_lt _ (by decide))]
  unfold bitL
  simp [List.getD, h1]
theorem xorL_get : ∀ (u v : List Bool) (j : Nat) (a b : Bool), u[j]? = some a → v[j]? = some b → (xorL u v)[j]? = some (a ^^ b)
  | x :: u, y :: v, 0, a, b, h, k => by simp at h k; subst h; subst k; rfl
  | x :: u, y :: v, j + 1, a, b, h, k => by
    have := xorL_get u v j a b (by simpa using h) (by simpa using k)
    show (_ :: xorL u v)[j + 1]? = _
    simpa using this
theorem xorL_length : ∀ (u v : List Bool), u.length = v.length → (xorL u v).length = u.length
  | [], [], _ => rfl
  | x :: u, y :: v, h => by
    have := xorL_length u v (by simpa using h)
    show (_ :: xorL u v).length = _
    simp [this]
def flipB (b : UInt8) (r : Nat) : UInt8 := UInt8.ofNat (b.toNat ^^^ 2 ^ r)
theorem flipB_toNat (b : UInt8) (r : Nat) (h : r < 8) : (flipB b r).toNat = b.toNat ^^^ 2 ^ r := by
  unfold flipB
  have h1 : b.toNat < 2 ^ 8 := b.toNat_lt
  have h2 : 2 ^ r < 2 ^ 8 := Nat.pow_lt_pow_right (by decide) h
  have := Nat.xor_lt_two_pow h1 h2
  rw [UInt8.toNat_ofNat', Nat.mod_eq_of_lt this]
def turnS (x : List UInt8) (p : Nat) : List UInt8 := x.set (p / 8) (flipB (x.getD (p / 8) 0) (p % 8))
def turnM (a : List UInt8) (f ch : Nat) : Nat → List UInt8
  | 0 => a
  | i + 1 => if ch.testBit i = true ∧ f + i < 8 * a.length then turnS (turnM a f ch i) (f + i) else turnM a f ch i
theorem turnM_length (a : List UInt8) (f ch : Nat) : ∀ i, (turnM a f ch i).length = a.length
  | 0 => rfl
  | i + 1 => by
    have := turnM_length a f ch i
    unfold turnM; split
    · simp [turnS, this]
    · exact this
theorem bit_turnS (x : List UInt8) (p j : Nat) (hp : p < 8 * x.length) : bitL (turnS x p) j = (bitL x j ^^ decide (j = p)) := by
  have hq : p / 8 < x.length := by omega
  unfold bitL turnS
  by_cases h : j / 8 = p / 8
  · rw [h]
    have e : (x.set (p / 8) (flipB (x.getD (p / 8) 0) (p % 8))).getD (p / 8) 0 = flipB (x.getD (p / 8) 0) (p % 8) := by
      simp [List.getD, hq]
    rw [e, flipB_toNat _ _ (Nat.mod_lt _ (by decide)), Nat.testBit_xor, Nat.testBit_two_pow]
    congr 1
    rw [decide_eq_decide]; omega
  · have e : (x.set (p / 8) (flipB (x.getD (p / 8) 0) (p % 8))).getD (j / 8) 0 = x.getD (j / 8) 0 := by
      simp only [List.getD, List.getElem?_set_ne (Ne.symm h)]
    rw [e, decide_eq_false (fun h2 => h (by rw [h2]))]; simp
theorem bit_turnM (a : List UInt8) (f ch : Nat) : ∀ (i j : Nat), j < 8 * a.length → bitL (turnM a f ch i) j = (bitL a j ^^ (decide (f ≤ j ∧ j < f + i) && ch.testBit (j - f)))
  | 0, j, h => by
    rw [decide_eq_false (by omega)]; simp [turnM]
  | i + 1, j, h => by
    have ih := bit_turnM a f ch i j h
    unfold turnM; split
    · rename_i hc
      rw [bit_turnS _ _ _ (by rw [turnM_length]; exact hc.2), ih]
      by_cases e : j = f + i
      · subst e
        rw [decide_eq_false (p := f ≤ f + i ∧ f + i < f + i) (by omega), decide_eq_true (p := f ≤ f + i ∧ f + i < f + (i + 1)) (by omega), show f + i - f = i by omega, hc.1]
        simp
      · rw [decide_eq_false e, show decide (f ≤ j ∧ j < f + (i + 1)) = decide (f ≤ j ∧ j < f + i) by rw [decide_eq_decide]; omega]
        simp
    · rename_i hc
      rw [ih]
      by_cases e : j = f + i
      · subst e
        have hb : ch.testBit i = false := by
          cases hb : ch.testBit i with
          | false => rfl
          | true => exact absurd ⟨hb, h⟩ hc
        rw [show f + i - f = i by omega, hb]; simp
      · rw [show decide (f ≤ j ∧ j < f + (i + 1)) = decide (f ≤ j ∧ j < f + i) by rw [decide_eq_decide]; omega]
theorem byte_bits {b c : UInt8} (h : ∀ i, i < 8 → b.toNat.testBit i = c.toNat.testBit i) : b = c := by
  apply UInt8.toNat_inj.1
  apply Nat.eq_of_testBit_eq
  intro i
  by_cases hi : i < 8
  · exact h i hi
  · have hb : b.toNat < 2 ^ i := Nat.lt_of_lt_of_le b.toNat_lt (by rw [show (2 : Nat) ^ 8 = 2 ^ 8 from rfl]; exact Nat.pow_le_pow_right (by decide) (by omega))
    have hc : c.toNat < 2 ^ i := Nat.lt_of_lt_of_le c.toNat_lt (by rw [show (2 : Nat) ^ 8 = 2 ^ 8 from rfl]; exact Nat.pow_le_pow_right (by decide) (by omega))
    rw [Nat.testBit_lt_two_pow hb, Nat.testBit_lt_two_pow hc]
theorem bits_same {a x : List UInt8} (hl : a.length = x.length) (h : ∀ j, j < 8 * a.length → bitL a j = bitL x j) : a = x := by
  apply List.ext_getElem hl
  intro q h1 h2
  apply byte_bits
  intro i hi
  have := h (q * 8 + i) (by omega)
  unfold bitL at this
  rw [show (q * 8 + i) / 8 = q by omega, show (q * 8 + i) % 8 = i by omega] at this
  simpa [List.getD, h1, h2] using this
theorem list_parts {L : List Bool} {f : Nat} (h1 : ∀ (j : Nat) b, j < f → L[j]? = some b → b = false) (h2 : ∀ (j : Nat) b, f + 32 ≤ j → L[j]? = some b → b = false) :
    ∃ w : List Bool, w.length ≤ 32 ∧ (∃ p m, L = List.replicate p false ++ (w ++ List.replicate m false)) ∧ ∀ i, i < 32 → L[f + i]? = w[i]? := by
  refine ⟨(L.drop f).take 32, by rw [List.length_take]; exact Nat.min_le_left _ _, ⟨(L.take f).length, (L.drop (f + 32)).length, ?_⟩, fun i hi => by rw [List.getElem?_take, if_pos hi, List.getElem?_drop]⟩
  have e1 : L.take f = List.replicate (L.take f).length false := by
    apply List.eq_replicate_of_mem
    intro b hb
    obtain ⟨j, hj⟩ := List.mem_iff_getElem?.1 hb
    rw [List.getElem?_take] at hj
    split at hj
    · exact h1 j b (by assumption) hj
    · cases hj
  have e2 : L.drop (f + 32) = List.replicate (L.drop (f + 32)).length false := by
    apply List.eq_replicate_of_mem
    intro b hb
    obtain ⟨j, hj⟩ := List.mem_iff_getElem?.1 hb
    rw [List.getElem?_drop] at hj
    exact h2 (f + 32 + j) b (by omega) hj
  rw [← e1, ← e2, ← List.drop_drop, List.take_append_drop, List.take_append_drop]
/-- A sector with a right sum, a run of it turned over: if the sum is right again, nothing was turned. -/
theorem turned_told (a : List UInt8) (f ch : Nat) (ha : a.length = 128) (hs : numAt a 124 4 = (crcS (a.take 124)).toNat) (hk : numAt (turnM a f ch 32) 124 4 = (crcS ((turnM a f ch 32).take 124)).toNat) : turnM a f ch 32 = a := by
  have hx := turnM_length a f ch 32
  have hbit := bit_turnM a f ch 32
  generalize turnM a f ch 32 = x at *
  have hL : ∀ j, j < 1024 → (xorL (allBits a) (allBits x))[j]? = some (decide (f ≤ j ∧ j < f + 32) && ch.testBit (j - f)) := by
    intro j hj
    rw [xorL_get _ _ j _ _ (allBits_get a j (by omega)) (allBits_get x j (by omega)), hbit j (by omega)]
    cases bitL a j <;> simp
  have hlen : (xorL (allBits a) (allBits x)).length = 1024 := by rw [xorL_length _ _ (by rw [allBits_length, allBits_length, hx]), allBits_length, ha]
  have hlt : ∀ (j : Nat) b, (xorL (allBits a) (allBits x))[j]? = some b → j < 1024 := fun j b h => by rw [← hlen]; exact (List.getElem?_eq_some_iff.1 h).1
  obtain ⟨w, hw, ⟨p, m, hd⟩, hwi⟩ := list_parts (L := xorL (allBits a) (allBits x)) (f := f) (fun j b hj h => by
    rw [hL j (hlt j b h)] at h
    rw [decide_eq_false (by omega)] at h
    simpa using h.symm) (fun j b hj h => by
    rw [hL j (hlt j b h)] at h
    rw [decide_eq_false (by omega)] at h
    simpa using h.symm)
  have hz := sum_told a x ha (by omega) hs p m w hw hd hk
  symm
  apply bits_same hx.symm
  intro j hj
  rw [hbit j hj]
  by_cases hc : f ≤ j ∧ j < f + 32
  · have h1 := hwi (j - f) (by omega)
    rw [show f + (j - f) = j by omega, hL j (by omega), hz] at h1
    have h2 : (decide (f ≤ j ∧ j < f + 32) && ch.testBit (j - f)) = false := by
      have := List.getElem?_eq_some_iff.1 h1.symm
      obtain ⟨h3, h4⟩ := this
      simpa using h4.symm
    rw [h2]; simp
  · rw [decide_eq_false hc]; simp
end Go.Proofs.Ytgkpdpoblofehaa
