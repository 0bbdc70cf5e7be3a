/- What the reader's functions do, over resources. -/
import Derived.Test.YtlojjlbngnaphaaLe
set_option maxRecDepth 8000
set_option linter.unusedVariables false
set_option linter.unusedSimpArgs false
set_option linter.unusedSectionVars false
namespace Go.Proofs.Ytlojjlbngnaphaa
open Go.RowKit Go.Sl

theorem clone_ok {W : World} {R : List SProp} {ao : Option Addr} {n cap : Nat} {xs : List Value} (ha : Rds W R 1 ao n xs) (hn : n ≤ 1099511627776) :
    Does W Try.prog 63 [.slice ao n cap] R (β := Option Addr × Nat) (fun _ => True) (fun x => .slice x.1 n x.2) (fun x => Own 5 1 (.slice x.1 n x.2) n xs :: R) := by
  (refine Does.enter Try.func63 Try.ntmps63 rfl rfl ?_)
  (refine w ?_; repeat ((first | refine VO.step rfl rfl ?_ | refine VD.end rfl rfl rfl ?_ | refine VD.mid rfl rfl rfl ?_); refine OpV.box rfl rfl rfl ?_; intro _; refine w ?_))
  cases ao with
  | none =>
    have h0 := ha.nil rfl
    subst h0
    have hx : xs = [] := List.eq_nil_of_length_eq_zero (by simpa using ha.len)
    subst hx
    (refine VC.condTe rfl rfl (rfl) ?_)
    (refine w ?_; repeat ((first | refine VO.step rfl rfl ?_ | refine VD.end rfl rfl rfl ?_ | refine VD.mid rfl rfl rfl ?_); refine OpV.box rfl rfl rfl ?_; intro _; refine w ?_))
    exact VE.done (none, 0) rfl trivial rfl fun w hw => hw.ownNil _ _
  | some a =>
    (refine VC.condFe rfl rfl (rfl) ?_)
    (refine w ?_; repeat ((first | refine VO.step rfl rfl ?_ | refine VD.end rfl rfl rfl ?_ | refine VD.mid rfl rfl rfl ?_); refine OpV.box rfl rfl rfl ?_; intro _; refine w ?_))
    ((first | refine VO.step rfl rfl ?_ | refine VD.end rfl rfl rfl ?_ | refine VD.mid rfl rfl rfl ?_); refine OpV.buildSlice1 st_55 rfl rfl (by first | (simp; done) | simp [Value.oneCell']) (by decide) rfl ?_; intro nb)
    refine VO.ent (H' := Own 5 1 (.slice (some ⟨nb, 0, none⟩) 0 0) 0 [] :: R) (fun w hw => Holds.ownShut rfl (Nat.le_refl _) (by decide) rfl hw) ?_
    (refine w ?_; repeat ((first | refine VO.step rfl rfl ?_ | refine VD.end rfl rfl rfl ?_ | refine VD.mid rfl rfl rfl ?_); refine OpV.box rfl rfl rfl ?_; intro _; refine w ?_))
    refine VO.step rfl rfl ?_
    refine OpV.append st_55 rfl rfl .head (fun w hw => (ha.sees (cap := cap) hw.tail).src st_55.und) (by simp only [maxLen]; omega) (by omega) rfl ?_
    intro ao' cap'
    simp only [Nat.zero_add, List.nil_append]
    (refine w ?_; repeat ((first | refine VO.step rfl rfl ?_ | refine VD.end rfl rfl rfl ?_ | refine VD.mid rfl rfl rfl ?_); refine OpV.box rfl rfl rfl ?_; intro _; refine w ?_))
    exact VE.done (ao', cap') rfl trivial rfl Ent.refl

structure Rk where
  b : List UInt8
  at_ : Nat
  err : Int
  wh : Int

def Rk.ok (k : Rk) : Prop := k.at_ ≤ k.b.length ∧ k.b.length ≤ 1099511627776

abbrev ReaderO (p : Nat) (k : Rk) (ao : Option Addr) (cap : Nat) (R : List SProp) : List SProp :=
  Row p 186 [.slice ao k.b.length cap, .int .i64 k.at_, .int .u16 k.err, .int .i64 k.wh] :: Own 5 1 (.slice ao k.b.length cap) k.b.length (bytes k.b) :: R
def ReaderR (p : Nat) (k : Rk) : SProp := ex fun ac : Option Addr × Nat => Sl.star (fact k.ok :: ReaderO p k ac.1 ac.2 [])

theorem ReaderR.open {W w : World} {p : Nat} {k : Rk} {R : List SProp} (hw : Holds W (ReaderR p k :: R) w) : ∃ x : { ac : Option Addr × Nat // k.ok }, Holds W (ReaderO p k x.1.1 x.1.2 R) w := by
  obtain ⟨ac, h⟩ := hw.exOpen
  have h := h.join
  exact ⟨⟨ac, h.factOpen⟩, h.tail⟩
theorem ReaderR.shut {W : World} {p : Nat} {k : Rk} {R : List SProp} (hk : k.ok) {ao : Option Addr} {cap : Nat} : Ent W (ReaderO p k ao cap R) (ReaderR p k :: R) := fun _ hw =>
  Holds.exShut (ao, cap) (Holds.nest (L := [_, _, _]) (hw.factShut hk))
theorem ReaderR.know {W w : World} {p : Nat} {k : Rk} {R : List SProp} (hw : Holds W (ReaderR p k :: R) w) : k.ok := by
  obtain ⟨⟨_, h⟩, _⟩ := ReaderR.open hw
  exact h

theorem read_ok {W : World} {R : List SProp} {ao : Option Addr} {n cap : Nat} {l : List UInt8} (ha : Rds W R 1 ao n (bytes l)) (hn : n ≤ 1099511627776) :
    Does W Try.prog 104 [.slice ao n cap] R (β := Nat) (fun _ => True) (fun b => .pointer (some ⟨b, 0, none⟩)) (fun b => ReaderR b ⟨l, 0, 0, 0⟩ :: R) := by
  have hl : l.length = n := by have := ha.len; simpa using this
  (refine Does.enter Try.func104 Try.ntmps104 rfl rfl ?_)
  (refine w ?_; repeat ((first | refine VO.step rfl rfl ?_ | refine VD.end rfl rfl rfl ?_ | refine VD.mid rfl rfl rfl ?_); refine OpV.box rfl rfl rfl ?_; intro _; refine w ?_))
  ((first | refine VO.step rfl rfl ?_ | refine VD.end rfl rfl rfl ?_ | refine VD.mid rfl rfl rfl ?_); refine OpV.call rfl rfl (fun _ _ => by simp) (clone_ok ha hn) Ent.re rfl ?_)
  rintro ⟨ao', cap'⟩ -
  (refine w ?_; repeat ((first | refine VO.step rfl rfl ?_ | refine VD.end rfl rfl rfl ?_ | refine VD.mid rfl rfl rfl ?_); refine OpV.box rfl rfl rfl ?_; intro _; refine w ?_))
  (apply VO.pure rfl rfl; apply PureAt.build sb_186 rfl; (simp [buildX, setL, Value.cells]; rfl); rfl)
  (refine w ?_; repeat ((first | refine VO.step rfl rfl ?_ | refine VD.end rfl rfl rfl ?_ | refine VD.mid rfl rfl rfl ?_); refine OpV.box rfl rfl rfl ?_; intro _; refine w ?_))
  subst hl
  exact VE.done _ rfl trivial rfl (ReaderR.shut (k := ⟨l, 0, 0, 0⟩) ⟨Nat.zero_le _, hn⟩)

theorem rleft_ok {W : World} {R : List SProp} (p : Nat) (k : Rk) :
    Does1 W Try.prog 112 [.pointer (some ⟨p, 0, none⟩)] (ReaderR p k :: R) (.int .i64 ((k.b.length : Int) - k.at_)) (ReaderR p k :: R) := by
  (refine Does.enter Try.func112 Try.ntmps112 rfl rfl ?_)
  refine VC.obtain (fun w => ReaderR.open) ?_
  rintro ⟨⟨ao, cap⟩, hk⟩
  have ⟨h1, h2⟩ := hk
  (refine w ?_; repeat ((first | refine VO.step rfl rfl ?_ | refine VD.end rfl rfl rfl ?_ | refine VD.mid rfl rfl rfl ?_); refine OpV.box rfl rfl rfl ?_; intro _; refine w ?_))
  ((refine VC.quiet rfl (by kernel_rfl) (by kernel_rfl) ?_); (refine w ?_; repeat ((first | refine VO.step rfl rfl ?_ | refine VD.end rfl rfl rfl ?_ | refine VD.mid rfl rfl rfl ?_); refine OpV.box rfl rfl rfl ?_; intro _; refine w ?_)))
  (refine VE.done1 rfl rfl ?_)
  exact ReaderR.shut hk
theorem rfail_ok {W : World} {R : List SProp} (p : Nat) (k : Rk) (e a : Int) :
    Does1 W Try.prog 113 [.pointer (some ⟨p, 0, none⟩), .int .u16 e, .int .i64 a] (ReaderR p k :: R) (.tuple #[]) (ReaderR p { k with err := e, wh := a } :: R) := by
  (refine Does.enter Try.func113 Try.ntmps113 rfl rfl ?_)
  refine VC.obtain (fun w => ReaderR.open) ?_
  rintro ⟨⟨ao, cap⟩, hk⟩
  (refine w ?_; repeat ((first | refine VO.step rfl rfl ?_ | refine VD.end rfl rfl rfl ?_ | refine VD.mid rfl rfl rfl ?_); refine OpV.box rfl rfl rfl ?_; intro _; refine w ?_))
  (refine VE.done1N rfl rfl ?_)
  exact ReaderR.shut (k := { k with err := e, wh := a }) hk

/-- Is there so much? If not, it is short for good. -/
def Rk.short (k : Rk) (n : Nat) : Rk := if k.err = 0 ∧ k.b.length - k.at_ < n then { k with err := 11, wh := k.at_ } else k
/-- The next so many bytes; none where something is wrong. -/
def Rk.got (k : Rk) (n : Nat) : List UInt8 := if (k.short n).err = 0 then (k.b.drop k.at_).take n else []
theorem Rk.short_ok {k : Rk} {n : Nat} (h : k.ok) : (k.short n).ok := by
  unfold Rk.short; split <;> exact h
theorem Rk.short_b {k : Rk} {n : Nat} : (k.short n).b = k.b := by unfold Rk.short; split <;> rfl
theorem Rk.short_at {k : Rk} {n : Nat} : (k.short n).at_ = k.at_ := by unfold Rk.short; split <;> rfl
theorem Rk.short_zero {k : Rk} {n : Nat} (h : (k.short n).err = 0) : k.short n = k ∧ k.err = 0 ∧ n ≤ k.b.length - k.at_ := by
  unfold Rk.short at *
  split at h
  · cases h
  · rename_i hn
    rw [if_neg hn]
    exact ⟨rfl, h, by omega⟩
theorem Rk.got_length {k : Rk} {n : Nat} (h : (k.short n).err = 0) : (k.got n).length = n := by
  obtain ⟨_, _, h3⟩ := Rk.short_zero h
  unfold Rk.got
  rw [if_pos h]
  simp; omega

theorem next_bad {W : World} {R : List SProp} (p : Nat) (k : Rk) (n : Nat) (hbad : (k.short n).err ≠ 0) :
    Does1 W Try.prog 111 [.pointer (some ⟨p, 0, none⟩), .int .i64 n] (ReaderR p k :: R) (.slice none 0 0) (ReaderR p (k.short n) :: R) := by
  (refine Does.enter Try.func111 Try.ntmps111 rfl rfl ?_)
  refine VC.obtain (fun w => ReaderR.open) ?_
  rintro ⟨⟨ao, cap⟩, hk⟩
  have ⟨h1, h2⟩ := hk
  (refine w ?_; repeat ((first | refine VO.step rfl rfl ?_ | refine VD.end rfl rfl rfl ?_ | refine VD.mid rfl rfl rfl ?_); refine OpV.box rfl rfl rfl ?_; intro _; refine w ?_))
  ((first | refine VO.split rfl rfl rfl ?_ ?_ | refine VD.split rfl rfl rfl ?_ ?_) <;> intro hb)
  · (refine w ?_; repeat ((first | refine VO.step rfl rfl ?_ | refine VD.end rfl rfl rfl ?_ | refine VD.mid rfl rfl rfl ?_); refine OpV.box rfl rfl rfl ?_; intro _; refine w ?_))
    (((first | refine VO.step rfl rfl ?_ | refine VD.end rfl rfl rfl ?_ | refine VD.mid rfl rfl rfl ?_); refine OpV.call rfl rfl (fun _ _ => by simp) (rleft_ok p k) (ReaderR.shut hk) rfl ?_); intro _ _)
    refine VO.obtain (fun w => ReaderR.open) ?_
    rintro ⟨⟨ao, cap⟩, -⟩
    have hb : k.err = 0 := by simpa using hb
    (refine w ?_; repeat ((first | refine VO.step rfl rfl ?_ | refine VD.end rfl rfl rfl ?_ | refine VD.mid rfl rfl rfl ?_); refine OpV.box rfl rfl rfl ?_; intro _; refine w ?_))
    (refine VC.cond rfl rfl ?_ ?_ <;> intro hc)
    · have hs : k.short n = { k with err := 11, wh := k.at_ } := by unfold Rk.short; rw [if_pos ⟨hb, by simp at hc; omega⟩]
      (refine w ?_; repeat ((first | refine VO.step rfl rfl ?_ | refine VD.end rfl rfl rfl ?_ | refine VD.mid rfl rfl rfl ?_); refine OpV.box rfl rfl rfl ?_; intro _; refine w ?_))
      (((first | refine VO.step rfl rfl ?_ | refine VD.end rfl rfl rfl ?_ | refine VD.mid rfl rfl rfl ?_); refine OpV.call rfl rfl (fun _ _ => by simp) (rfail_ok p k 11 k.at_) (ReaderR.shut hk) rfl ?_); intro _ _)
      refine VO.obtain (fun w => ReaderR.open) ?_
      rintro ⟨⟨ao, cap⟩, hk'⟩
      (refine w ?_; repeat ((first | refine VO.step rfl rfl ?_ | refine VD.end rfl rfl rfl ?_ | refine VD.mid rfl rfl rfl ?_); refine OpV.box rfl rfl rfl ?_; intro _; refine w ?_))
      rw [hs]
      (refine VE.done1 rfl rfl ?_)
      exact ReaderR.shut hk'
    · have hs : k.short n = k := by unfold Rk.short; rw [if_neg]; simp at hc; omega
      rw [hs] at hbad
      exact absurd hb hbad
  · have hb : k.err ≠ 0 := by simpa using hb
    have hs : k.short n = k := by unfold Rk.short; rw [if_neg]; omega
    (refine w ?_; repeat ((first | refine VO.step rfl rfl ?_ | refine VD.end rfl rfl rfl ?_ | refine VD.mid rfl rfl rfl ?_); refine OpV.box rfl rfl rfl ?_; intro _; refine w ?_))
    (refine VC.condTe rfl rfl (by simpa using hb) ?_)
    (refine w ?_; repeat ((first | refine VO.step rfl rfl ?_ | refine VD.end rfl rfl rfl ?_ | refine VD.mid rfl rfl rfl ?_); refine OpV.box rfl rfl rfl ?_; intro _; refine w ?_))
    rw [hs]
    (refine VE.done1 rfl rfl ?_)
    exact ReaderR.shut hk

theorem next_good {W : World} {R : List SProp} (p : Nat) (k : Rk) (n : Nat) (hgood : (k.short n).err = 0) :
    Does W Try.prog 111 [.pointer (some ⟨p, 0, none⟩), .int .i64 n] (ReaderR p k :: R) (β := Option Addr × Nat)
      (fun x => k.b.length ≤ x.2) (fun x => .slice (subA x.1 x.2 k.at_ 1) n (x.2 - k.at_)) (fun x => ReaderO p k x.1 x.2 R) := by
  (refine Does.enter Try.func111 Try.ntmps111 rfl rfl ?_)
  refine VC.obtain (fun w => ReaderR.open) ?_
  rintro ⟨⟨ao, cap⟩, hk⟩
  have ⟨h1, h2⟩ := hk
  obtain ⟨hs, hb, hle⟩ := Rk.short_zero hgood
  (refine w ?_; repeat ((first | refine VO.step rfl rfl ?_ | refine VD.end rfl rfl rfl ?_ | refine VD.mid rfl rfl rfl ?_); refine OpV.box rfl rfl rfl ?_; intro _; refine w ?_))
  (first | refine VO.gT rfl rfl rfl (by simpa using hb) ?_ | refine VD.gT rfl rfl rfl (by simpa using hb) ?_)
  (refine w ?_; repeat ((first | refine VO.step rfl rfl ?_ | refine VD.end rfl rfl rfl ?_ | refine VD.mid rfl rfl rfl ?_); refine OpV.box rfl rfl rfl ?_; intro _; refine w ?_))
  (((first | refine VO.step rfl rfl ?_ | refine VD.end rfl rfl rfl ?_ | refine VD.mid rfl rfl rfl ?_); refine OpV.call rfl rfl (fun _ _ => by simp) (rleft_ok p k) (ReaderR.shut hk) rfl ?_); intro _ _)
  refine VO.obtain (fun w => ReaderR.open) ?_
  rintro ⟨⟨ao, cap⟩, -⟩
  (refine w ?_; repeat ((first | refine VO.step rfl rfl ?_ | refine VD.end rfl rfl rfl ?_ | refine VD.mid rfl rfl rfl ?_); refine OpV.box rfl rfl rfl ?_; intro _; refine w ?_))
  (refine VC.condFe rfl rfl (by simp; omega) ?_)
  (refine w ?_; repeat ((first | refine VO.step rfl rfl ?_ | refine VD.end rfl rfl rfl ?_ | refine VD.mid rfl rfl rfl ?_); refine OpV.box rfl rfl rfl ?_; intro _; refine w ?_))
  (refine VC.condFe rfl rfl (by simp [hb]) ?_)
  refine VC.know (fun w hw => hw.ownCap (by (focus repeat first | exact .head _ | apply List.Mem.tail))) ?_
  intro hcap
  (refine w ?_; repeat ((first | refine VO.step rfl rfl ?_ | refine VD.end rfl rfl rfl ?_ | refine VD.mid rfl rfl rfl ?_); refine OpV.box rfl rfl rfl ?_; intro _; refine w ?_))
  ((refine VC.quiet rfl (by kernel_rfl) (by kernel_rfl) ?_); (refine w ?_; repeat ((first | refine VO.step rfl rfl ?_ | refine VD.end rfl rfl rfl ?_ | refine VD.mid rfl rfl rfl ?_); refine OpV.box rfl rfl rfl ?_; intro _; refine w ?_)))
  refine VE.done (ao, cap) rfl hcap ?_ Ent.refl
  show Value.slice _ (k.at_ + n - k.at_) _ = _
  rw [Nat.add_sub_cancel_left]

/-- What lies behind a slice that 'next' hands back. -/
theorem got_rds {W : World} {k : Rk} {n : Nat} {ao : Option Addr} {cap : Nat} {H : List SProp} (hk : k.ok) (hgood : (k.short n).err = 0) (hcap : k.b.length ≤ cap) (hn : ao = none → k.b.length = 0)
    (m : Own 5 1 (.slice ao k.b.length cap) k.b.length (bytes k.b) ∈ H) : Rds W H 1 (subA ao cap k.at_ 1) n (bytes (k.got n)) := by
  obtain ⟨hs, hb, hle⟩ := Rk.short_zero hgood
  have h1 := hk.1
  have r := Rds.own (W := W) (bytes_one k.b) m (by simp) hn
  have := r.sub (cap := cap) (l := k.at_) (h := k.at_ + n) (by omega) (by omega) hcap
  rw [Nat.add_sub_cancel_left] at this
  have e : ((bytes k.b).drop (k.at_ * 1)).take (n * 1) = bytes (k.got n) := by
    unfold Rk.got; rw [if_pos hgood]; simp [bytes]
  rw [e] at this
  exact this

/-- A number, its lowest byte first. -/
def leVal : List UInt8 → Nat
  | [] => 0
  | c :: r => c.toNat + 256 * leVal r
theorem leVal_lt : ∀ l : List UInt8, leVal l < 256 ^ l.length
  | [] => by decide
  | c :: r => by
    have := leVal_lt r
    have hc := c.toNat_lt
    simp only [leVal, List.length_cons, Nat.pow_succ]
    omega
theorem leVal_snoc : ∀ (l : List UInt8) (c : UInt8), leVal (l ++ [c]) = leVal l + c.toNat * 256 ^ l.length
  | [], c => by simp [leVal]
  | d :: r, c => by
    have := leVal_snoc r c
    simp only [List.cons_append, leVal, this, List.length_cons, Nat.pow_succ]
    rw [Nat.mul_add, Nat.add_assoc, Nat.mul_left_comm, Nat.mul_comm (256 ^ r.length)]

theorem or_shift (x y s : Nat) (hx : x < 2 ^ s) (hs : s ≤ 64) (hy : y * 2 ^ s < 2 ^ 64) :
    IntKind.u64.wrap ((BitVec.ofInt IntKind.u64.bits (x : Int) ||| BitVec.ofInt IntKind.u64.bits (IntKind.u64.wrap ((y : Int) * 2 ^ min s IntKind.u64.bits))).toNat : Int) = ((x + y * 2 ^ s : Nat) : Int) := by
  have hm : min s IntKind.u64.bits = s := by simp [IntKind.bits]; omega
  have hx64 : x < 2 ^ 64 := Nat.lt_of_lt_of_le hx (Nat.pow_le_pow_right (by decide) hs)
  rw [hm]
  have e1 : ((y : Int) * 2 ^ s) = ((y * 2 ^ s : Nat) : Int) := by simp
  rw [e1, wrap64_of hy]
  have e2 : (BitVec.ofInt IntKind.u64.bits (x : Int)).toNat = x := by
    simp [IntKind.bits]; omega
  have e3 : (BitVec.ofInt IntKind.u64.bits ((y * 2 ^ s : Nat) : Int)).toNat = y * 2 ^ s := by
    simp only [BitVec.toNat_ofInt, IntKind.bits]
    omega
  rw [BitVec.toNat_or, e2, e3]
  have e4 : x ||| y * 2 ^ s = x + y * 2 ^ s := by
    rw [Nat.or_comm, Nat.mul_comm, ← Nat.two_pow_add_eq_or_of_lt hx]; omega
  have e5 : x + y * 2 ^ s < 2 ^ 64 := by
    rw [← e4]; exact Nat.or_lt_two_pow hx64 hy
  rw [e4, wrap64_of e5]
theorem or_le (x c i : Nat) (hx : x < 256 ^ i) (hc : c < 256) (hi : i < 8) :
    IntKind.u64.wrap ((BitVec.ofInt IntKind.u64.bits (x : Int) ||| BitVec.ofInt IntKind.u64.bits (IntKind.u64.wrap ((c : Int) * 2 ^ min (8 * i) IntKind.u64.bits))).toNat : Int) = ((x + c * 256 ^ i : Nat) : Int) := by
  have e256 : (256 : Nat) ^ i = 2 ^ (8 * i) := by rw [Nat.pow_mul]
  rw [e256] at hx ⊢
  refine or_shift x c (8 * i) hx (by omega) ?_
  calc c * 2 ^ (8 * i) < 256 * 2 ^ (8 * i) := Nat.mul_lt_mul_of_pos_right hc (Nat.two_pow_pos _)
    _ = 2 ^ (8 + 8 * i) := by rw [Nat.pow_add]
    _ ≤ 2 ^ 64 := Nat.pow_le_pow_right (by decide) (by omega)

def Rk.number (k : Rk) (width : Nat) : Rk := if (k.short width).err = 0 then { k with at_ := k.at_ + width } else k.short width

theorem rnumber_ok {W : World} {R : List SProp} (p : Nat) (k : Rk) (width : Nat) (hw8 : width ≤ 8) :
    Does1 W Try.prog 108 [.pointer (some ⟨p, 0, none⟩), .int .i64 width] (ReaderR p k :: R) (.int .u64 (leVal (k.got width))) (ReaderR p (k.number width) :: R) := by
  (refine Does.enter Try.func108 Try.ntmps108 rfl rfl ?_)
  refine VC.know (fun w => ReaderR.know) ?_
  intro hk
  have ⟨h1, h2⟩ := hk
  (refine w ?_; repeat ((first | refine VO.step rfl rfl ?_ | refine VD.end rfl rfl rfl ?_ | refine VD.mid rfl rfl rfl ?_); refine OpV.box rfl rfl rfl ?_; intro _; refine w ?_))
  by_cases hg : (k.short width).err = 0
  · obtain ⟨hs, hb, hle⟩ := Rk.short_zero hg
    ((first | refine VO.step rfl rfl ?_ | refine VD.end rfl rfl rfl ?_ | refine VD.mid rfl rfl rfl ?_); refine OpV.call rfl rfl (fun _ _ => by simp) (next_good p k width hg) Ent.re rfl ?_)
    rintro ⟨ao, cap⟩ hcap
    refine VO.know (fun w hw => hw.ownNone (by (focus repeat first | exact .head _ | apply List.Mem.tail))) ?_
    intro hnone
    have hr := got_rds (W := W) (n := width) (H := ReaderO p k ao cap R) hk hg hcap hnone (by (focus repeat first | exact .head _ | apply List.Mem.tail))
    have hgl := Rk.got_length hg
    (refine w ?_; repeat ((first | refine VO.step rfl rfl ?_ | refine VD.end rfl rfl rfl ?_ | refine VD.mid rfl rfl rfl ?_); refine OpV.box rfl rfl rfl ?_; intro _; refine w ?_))
    refine VC.loop (α := Nat) (fun j => j ≤ width) (fun j => ReaderO p k ao cap R)
      (fun j => [(0, .pointer (some ⟨p, 0, none⟩)), (1, .int .i64 width), (5, .int .u64 ((leVal ((k.got width).take j) : Nat) : Int)), (10, .slice (subA ao cap k.at_ 1) width (cap - k.at_)), (11, .int .i64 width), (12, .int .i64 j)])
      (fun j => width - j) rfl 0 (Nat.zero_le _) Ent.refl ⟨rfl, rfl, rfl, rfl, rfl, rfl, trivial⟩ ?_
    intro j hj
    (refine w ?_; repeat ((first | refine VO.step rfl rfl ?_ | refine VD.end rfl rfl rfl ?_ | refine VD.mid rfl rfl rfl ?_); refine OpV.box rfl rfl rfl ?_; intro _; refine w ?_))
    (refine VC.cond rfl rfl ?_ ?_ <;> intro hc)
    · have hlt : j < width := by simpa using hc
      obtain ⟨a0, ha0⟩ : ∃ a0, subA ao cap k.at_ 1 = some a0 := by
        cases e : subA ao cap k.at_ 1 with
        | none => have := hr.nil e; omega
        | some a0 => exact ⟨a0, rfl⟩
      rw [ha0] at hr ⊢
      have hb1 := hr
      (refine w ?_; repeat ((first | refine VO.step rfl rfl ?_ | refine VD.end rfl rfl rfl ?_ | refine VD.mid rfl rfl rfl ?_); refine OpV.box rfl rfl rfl ?_; intro _; refine w ?_))
      have hc8 := ((k.got width)[j]'(by omega)).toNat_lt
      ((first | refine VO.step rfl rfl ?_ | refine VD.end rfl rfl rfl ?_ | refine VD.mid rfl rfl rfl ?_); refine OpV.pure (PureAt.shl rfl rfl (by omega)) rfl ?_)
      (refine w ?_; repeat ((first | refine VO.step rfl rfl ?_ | refine VD.end rfl rfl rfl ?_ | refine VD.mid rfl rfl rfl ?_); refine OpV.box rfl rfl rfl ?_; intro _; refine w ?_))
      have ht : (k.got width).take (j + 1) = (k.got width).take j ++ [(k.got width)[j]'(by omega)] := by rw [List.take_succ_eq_append_getElem (by omega)]
      have htl : ((k.got width).take j).length = j := by rw [List.length_take]; omega
      have hor := or_le (leVal ((k.got width).take j)) ((k.got width)[j]'(by omega)).toNat j (by have := leVal_lt ((k.got width).take j); rw [htl] at this; exact this) hc8 (by omega)
      refine VE.round (j + 1) (by omega) (by omega) ⟨rfl, rfl, asV rfl ?_, rfl, rfl, rfl, trivial⟩ Ent.refl
      rw [ht, leVal_snoc, htl, ← hor, wrap64_of (v := ((k.got width)[j]'(by omega)).toNat) (by omega), show (8 * (j : Int)).toNat = 8 * j by omega]
    · have hge : j = width := by have : ¬ j < width := by simpa using hc
                                 omega
      subst hge
      (refine w ?_; repeat ((first | refine VO.step rfl rfl ?_ | refine VD.end rfl rfl rfl ?_ | refine VD.mid rfl rfl rfl ?_); refine OpV.box rfl rfl rfl ?_; intro _; refine w ?_))
      (refine VC.condTe rfl rfl (by simp [hb]) ?_)
      (refine w ?_; repeat ((first | refine VO.step rfl rfl ?_ | refine VD.end rfl rfl rfl ?_ | refine VD.mid rfl rfl rfl ?_); refine OpV.box rfl rfl rfl ?_; intro _; refine w ?_))
      (refine VE.done1 rfl ?_ ?_)
      · rw [List.take_of_length_le (by omega)]
      · rw [show k.number j = { k with at_ := k.at_ + j } by unfold Rk.number; rw [if_pos hg]]
        exact ReaderR.shut (k := { k with at_ := k.at_ + j }) ⟨by simp only; omega, h2⟩
  · (((first | refine VO.step rfl rfl ?_ | refine VD.end rfl rfl rfl ?_ | refine VD.mid rfl rfl rfl ?_); refine OpV.call rfl rfl (fun _ _ => by simp) (next_bad p k width hg) Ent.re rfl ?_); intro _ _)
    have hgn : k.got width = [] := by unfold Rk.got; rw [if_neg hg]
    (refine w ?_; repeat ((first | refine VO.step rfl rfl ?_ | refine VD.end rfl rfl rfl ?_ | refine VD.mid rfl rfl rfl ?_); refine OpV.box rfl rfl rfl ?_; intro _; refine w ?_))
    refine VC.loop (α := Unit) (fun _ => True) (fun _ => ReaderR p (k.short width) :: R)
      (fun _ => [(0, .pointer (some ⟨p, 0, none⟩)), (1, .int .i64 width), (5, .int .u64 0), (11, .int .i64 0), (12, .int .i64 0)])
      (fun _ => 0) rfl () trivial Ent.refl ⟨rfl, rfl, rfl, rfl, rfl, trivial⟩ ?_
    intro _ _
    (refine w ?_; repeat ((first | refine VO.step rfl rfl ?_ | refine VD.end rfl rfl rfl ?_ | refine VD.mid rfl rfl rfl ?_); refine OpV.box rfl rfl rfl ?_; intro _; refine w ?_))
    refine VO.obtain (fun w => ReaderR.open) ?_
    rintro ⟨⟨ao, cap⟩, hk'⟩
    (refine w ?_; repeat ((first | refine VO.step rfl rfl ?_ | refine VD.end rfl rfl rfl ?_ | refine VD.mid rfl rfl rfl ?_); refine OpV.box rfl rfl rfl ?_; intro _; refine w ?_))
    (refine VC.condFe rfl rfl (by simpa using hg) ?_)
    (refine w ?_; repeat ((first | refine VO.step rfl rfl ?_ | refine VD.end rfl rfl rfl ?_ | refine VD.mid rfl rfl rfl ?_); refine OpV.box rfl rfl rfl ?_; intro _; refine w ?_))
    rw [hgn]
    (refine VE.done1 rfl ?_ ?_)
    · rfl
    · rw [show k.number width = k.short width by unfold Rk.number; rw [if_neg hg]]
      exact ReaderR.shut hk'

theorem Rk.got_good {k : Rk} {n : Nat} (h1 : k.err = 0) (h2 : n ≤ k.b.length - k.at_) : k.got n = (k.b.drop k.at_).take n ∧ k.short n = k ∧ k.number n = { k with at_ := k.at_ + n } := by
  have e : k.short n = k := by unfold Rk.short; rw [if_neg]; omega
  refine ⟨?_, e, ?_⟩
  · unfold Rk.got; rw [e, if_pos h1]
  · unfold Rk.number; rw [e, if_pos h1]

theorem got_lt (k : Rk) (n : Nat) : leVal (k.got n) < 256 ^ n := by
  have h := leVal_lt (k.got n)
  refine Nat.lt_of_lt_of_le h (Nat.pow_le_pow_right (by decide) ?_)
  unfold Rk.got; split
  · simp; omega
  · simp

theorem r64_ok {W : World} {R : List SProp} (p : Nat) (k : Rk) :
    Does1 W Try.prog 106 [.pointer (some ⟨p, 0, none⟩)] (ReaderR p k :: R) (.int .u64 (leVal (k.got 8))) (ReaderR p (k.number 8) :: R) := by
  (refine Does.enter Try.func106 Try.ntmps106 rfl rfl ?_)
  (refine w ?_; repeat ((first | refine VO.step rfl rfl ?_ | refine VD.end rfl rfl rfl ?_ | refine VD.mid rfl rfl rfl ?_); refine OpV.box rfl rfl rfl ?_; intro _; refine w ?_))
  (((first | refine VO.step rfl rfl ?_ | refine VD.end rfl rfl rfl ?_ | refine VD.mid rfl rfl rfl ?_); refine OpV.call rfl rfl (fun _ _ => by simp) (rnumber_ok p k 8 (by decide)) Ent.re rfl ?_); intro _ _)
  (refine w ?_; repeat ((first | refine VO.step rfl rfl ?_ | refine VD.end rfl rfl rfl ?_ | refine VD.mid rfl rfl rfl ?_); refine OpV.box rfl rfl rfl ?_; intro _; refine w ?_))
  (first | exact VE.done1 rfl rfl Ent.refl | exact VE.done1N rfl rfl Ent.refl)
theorem r32_ok {W : World} {R : List SProp} (p : Nat) (k : Rk) :
    Does1 W Try.prog 96 [.pointer (some ⟨p, 0, none⟩)] (ReaderR p k :: R) (.int .u32 (leVal (k.got 4))) (ReaderR p (k.number 4) :: R) := by
  (refine Does.enter Try.func96 Try.ntmps96 rfl rfl ?_)
  (refine w ?_; repeat ((first | refine VO.step rfl rfl ?_ | refine VD.end rfl rfl rfl ?_ | refine VD.mid rfl rfl rfl ?_); refine OpV.box rfl rfl rfl ?_; intro _; refine w ?_))
  (((first | refine VO.step rfl rfl ?_ | refine VD.end rfl rfl rfl ?_ | refine VD.mid rfl rfl rfl ?_); refine OpV.call rfl rfl (fun _ _ => by simp) (rnumber_ok p k 4 (by decide)) Ent.re rfl ?_); intro _ _)
  (refine w ?_; repeat ((first | refine VO.step rfl rfl ?_ | refine VD.end rfl rfl rfl ?_ | refine VD.mid rfl rfl rfl ?_); refine OpV.box rfl rfl rfl ?_; intro _; refine w ?_))
  (refine VE.done1 rfl ?_ ?_)
  · rw [wrap32_of, Nat.mod_eq_of_lt (by have := got_lt k 4; omega)]
  · exact Ent.refl
theorem Pk.number_good {k : Pk} {v w : Nat} (h1 : k.bad = 0) (h2 : k.had.length + w ≤ k.size) : k.number v w = { k with had := k.had ++ lowBytes v w } := by
  have e : k.room w = k := by unfold Pk.room; rw [if_neg]; omega
  unfold Pk.number; rw [e, if_pos h1]

end Go.Proofs.Ytlojjlbngnaphaa
