/- What the reader's functions do, over resources. -/
import Derived.Test.YtlflmnmkgaeabaaLe
set_option maxRecDepth 8000
set_option linter.unusedVariables false
set_option linter.unusedSimpArgs false
set_option linter.unusedSectionVars false
namespace Go.Proofs.Ytlflmnmkgaeabaa
open Go.RowKit Go.Sl

structure Rk where
  b : List UInt8
  at_ : Nat
  err : Int
  wh : Int

def Rk.ok (k : Rk) : Prop := k.at_ ≤ k.b.length ∧ k.b.length ≤ 1099511627776

/-- Is there so much? If not, it is short for good. -/
def Rk.short (k : Rk) (n : Nat) : Rk := if k.err = 0 ∧ k.b.length - k.at_ < n then { k with err := 11, wh := k.at_ } else k
/-- The next so many bytes; none where something is wrong. -/
def Rk.got (k : Rk) (n : Nat) : List UInt8 := if (k.short n).err = 0 then (k.b.drop k.at_).take n else []
theorem Rk.short_ok {k : Rk} {n : Nat} (h : k.ok) : (k.short n).ok := by
  unfold Rk.short; split <;> exact h
theorem Rk.short_b {k : Rk} {n : Nat} : (k.short n).b = k.b := by unfold Rk.short; split <;> rfl
theorem Rk.short_at {k : Rk} {n : Nat} : (k.short n).at_ = k.at_ := by unfold Rk.short; split <;> rfl
theorem Rk.short_zero {k : Rk} {n : Nat} (h : (k.short n).err = 0) : k.short n = k ∧ k.err = 0 ∧ n ≤ k.b.length - k.at_ := by
  unfold Rk.short at *
  split at h
  · cases h
  · rename_i hn
    rw [if_neg hn]
    exact ⟨rfl, h, by omega⟩
theorem Rk.got_length {k : Rk} {n : Nat} (h : (k.short n).err = 0) : (k.got n).length = n := by
  obtain ⟨_, _, h3⟩ := Rk.short_zero h
  unfold Rk.got
  rw [if_pos h]
  simp; omega

/-- What lies behind a slice that 'next' hands back. -/
theorem got_rds {W : World} {k : Rk} {n : Nat} {ao : Option Addr} {cap : Nat} {H : List SProp} (hk : k.ok) (hgood : (k.short n).err = 0) (hcap : k.b.length ≤ cap) (hn : ao = none → k.b.length = 0)
    (m : Own 5 1 (.slice ao k.b.length cap) k.b.length (bytes k.b) ∈ H) : Rds W H 1 (subA ao cap k.at_ 1) n (bytes (k.got n)) := by
  obtain ⟨hs, hb, hle⟩ := Rk.short_zero hgood
  have h1 := hk.1
  have r := Rds.own (W := W) (bytes_one k.b) m (by simp) hn
  have := r.sub (cap := cap) (l := k.at_) (h := k.at_ + n) (by omega) (by omega) hcap
  rw [Nat.add_sub_cancel_left] at this
  have e : ((bytes k.b).drop (k.at_ * 1)).take (n * 1) = bytes (k.got n) := by
    unfold Rk.got; rw [if_pos hgood]; simp [bytes]
  rw [e] at this
  exact this

/-- A number, its lowest byte first. -/
def leVal : List UInt8 → Nat
  | [] => 0
  | c :: r => c.toNat + 256 * leVal r
theorem leVal_lt : ∀ l : List UInt8, leVal l < 256 ^ l.length
  | [] => by decide
  | c :: r => by
    have := leVal_lt r
    have hc := c.toNat_lt
    simp only [leVal, List.length_cons, Nat.pow_succ]
    omega
theorem leVal_snoc : ∀ (l : List UInt8) (c : UInt8), leVal (l ++ [c]) = leVal l + c.toNat * 256 ^ l.length
  | [], c => by simp [leVal]
  | d :: r, c => by
    have := leVal_snoc r c
    simp only [List.cons_append, leVal, this, List.length_cons, Nat.pow_succ]
    rw [Nat.mul_add, Nat.add_assoc, Nat.mul_left_comm, Nat.mul_comm (256 ^ r.length)]

theorem or_shift (x y s : Nat) (hx : x < 2 ^ s) (hs : s ≤ 64) (hy : y * 2 ^ s < 2 ^ 64) :
    IntKind.u64.wrap ((BitVec.ofInt IntKind.u64.bits (x : Int) ||| BitVec.ofInt IntKind.u64.bits (IntKind.u64.wrap ((y : Int) * 2 ^ min s IntKind.u64.bits))).toNat : Int) = ((x + y * 2 ^ s : Nat) : Int) := by
  have hm : min s IntKind.u64.bits = s := by simp [IntKind.bits]; omega
  have hx64 : x < 2 ^ 64 := Nat.lt_of_lt_of_le hx (Nat.pow_le_pow_right (by decide) hs)
  rw [hm]
  have e1 : ((y : Int) * 2 ^ s) = ((y * 2 ^ s : Nat) : Int) := by simp
  rw [e1, wrap64_of hy]
  have e2 : (BitVec.ofInt IntKind.u64.bits (x : Int)).toNat = x := by
    simp [IntKind.bits]; omega
  have e3 : (BitVec.ofInt IntKind.u64.bits ((y * 2 ^ s : Nat) : Int)).toNat = y * 2 ^ s := by
    simp only [BitVec.toNat_ofInt, IntKind.bits]
    omega
  rw [BitVec.toNat_or, e2, e3]
  have e4 : x ||| y * 2 ^ s = x + y * 2 ^ s := by
    rw [Nat.or_comm, Nat.mul_comm, ← Nat.two_pow_add_eq_or_of_lt hx]; omega
  have e5 : x + y * 2 ^ s < 2 ^ 64 := by
    rw [← e4]; exact Nat.or_lt_two_pow hx64 hy
  rw [e4, wrap64_of e5]
theorem or_le (x c i : Nat) (hx : x < 256 ^ i) (hc : c < 256) (hi : i < 8) :
    IntKind.u64.wrap ((BitVec.ofInt IntKind.u64.bits (x : Int) ||| BitVec.ofInt IntKind.u64.bits (IntKind.u64.wrap ((c : Int) * 2 ^ min (8 * i) IntKind.u64.bits))).toNat : Int) = ((x + c * 256 ^ i : Nat) : Int) := by
  have e256 : (256 : Nat) ^ i = 2 ^ (8 * i) := by rw [Nat.pow_mul]
  rw [e256] at hx ⊢
  refine or_shift x c (8 * i) hx (by omega) ?_
  calc c * 2 ^ (8 * i) < 256 * 2 ^ (8 * i) := Nat.mul_lt_mul_of_pos_right hc (Nat.two_pow_pos _)
    _ = 2 ^ (8 + 8 * i) := by rw [Nat.pow_add]
    _ ≤ 2 ^ 64 := Nat.pow_le_pow_right (by decide) (by omega)

def Rk.number (k : Rk) (width : Nat) : Rk := if (k.short width).err = 0 then { k with at_ := k.at_ + width } else k.short width

theorem Rk.got_good {k : Rk} {n : Nat} (h1 : k.err = 0) (h2 : n ≤ k.b.length - k.at_) : k.got n = (k.b.drop k.at_).take n ∧ k.short n = k ∧ k.number n = { k with at_ := k.at_ + n } := by
  have e : k.short n = k := by unfold Rk.short; rw [if_neg]; omega
  refine ⟨?_, e, ?_⟩
  · unfold Rk.got; rw [e, if_pos h1]
  · unfold Rk.number; rw [e, if_pos h1]

theorem got_lt (k : Rk) (n : Nat) : leVal (k.got n) < 256 ^ n := by
  have h := leVal_lt (k.got n)
  refine Nat.lt_of_lt_of_le h (Nat.pow_le_pow_right (by decide) ?_)
  unfold Rk.got; split
  · simp; omega
  · simp

theorem Pk.number_good {k : Pk} {v w : Nat} (h1 : k.bad = 0) (h2 : k.had.length + w ≤ k.size) : k.number v w = { k with had := k.had ++ lowBytes v w } := by
  have e : k.room w = k := by unfold Pk.room; rw [if_neg]; omega
  unfold Pk.number; rw [e, if_pos h1]

end Go.Proofs.Ytlflmnmkgaeabaa
