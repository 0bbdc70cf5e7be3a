/- The document's record: put, numbers, begun, ended; the program's counts, in. -/
import Derived.Test.YtlojjlbngnaphaaEb
set_option maxRecDepth 8000
set_option linter.unusedVariables false
set_option linter.unusedSimpArgs false
set_option linter.unusedSectionVars false
namespace Go.Proofs.Ytlojjlbngnaphaa
open Go.RowKit Go.Sl
attribute [local irreducible] Own

theorem cnt_iff (a b : Nat) : cntOk a b ↔ a ≤ 4611686018427387904 ∧ 1 ≤ b ∧ b ≤ 4611686018427387904 := Iff.rfl
theorem counts_ok {W : World} {R : List SProp} (a b : Nat) :
    Does1 W Try.prog 64 [.int .u64 a, .int .u64 b] R (.bool (decide (cntOk a b))) R := by
  (refine Does.enter Try.func64 Try.ntmps64 rfl rfl ?_)
  (refine w ?_; repeat ((first | refine VO.step rfl rfl ?_ | refine VD.end rfl rfl rfl ?_ | refine VD.mid rfl rfl rfl ?_); refine OpV.box rfl rfl rfl ?_; intro _; refine w ?_))
  iterate 2
    ((first | refine VO.split rfl rfl rfl ?_ ?_ | refine VD.split rfl rfl rfl ?_ ?_) <;> intro hb)
    rotate_left
    · replace hb := of_decide_eq_false hb
      (refine w ?_; repeat ((first | refine VO.step rfl rfl ?_ | refine VD.end rfl rfl rfl ?_ | refine VD.mid rfl rfl rfl ?_); refine OpV.box rfl rfl rfl ?_; intro _; refine w ?_))
      (refine VE.done1 rfl ?_ ?_)
      · rw [decide_eq_false (fun h => by have := (cnt_iff a b).1 h; omega)]
      · exact Ent.refl
    replace hb := of_decide_eq_true hb
    (refine w ?_; repeat ((first | refine VO.step rfl rfl ?_ | refine VD.end rfl rfl rfl ?_ | refine VD.mid rfl rfl rfl ?_); refine OpV.box rfl rfl rfl ?_; intro _; refine w ?_))
  (refine VE.done1 rfl ?_ ?_)
  · congr 1; rw [decide_eq_decide, cnt_iff]; omega
  · exact Ent.refl
theorem numbers_ok {W : World} {R : List SProp} (a b : Nat) :
    Does1 W Try.prog 71 [.int .u64 a, .int .u64 b] R (.bool (decide (cntOk a b))) R := by
  (refine Does.enter Try.func71 Try.ntmps71 rfl rfl ?_)
  (refine w ?_; repeat ((first | refine VO.step rfl rfl ?_ | refine VD.end rfl rfl rfl ?_ | refine VD.mid rfl rfl rfl ?_); refine OpV.box rfl rfl rfl ?_; intro _; refine w ?_))
  iterate 2
    ((first | refine VO.split rfl rfl rfl ?_ ?_ | refine VD.split rfl rfl rfl ?_ ?_) <;> intro hb)
    rotate_left
    · replace hb := of_decide_eq_false hb
      (refine w ?_; repeat ((first | refine VO.step rfl rfl ?_ | refine VD.end rfl rfl rfl ?_ | refine VD.mid rfl rfl rfl ?_); refine OpV.box rfl rfl rfl ?_; intro _; refine w ?_))
      (refine VE.done1 rfl ?_ ?_)
      · rw [decide_eq_false (fun h => by have := (cnt_iff a b).1 h; omega)]
      · exact Ent.refl
    replace hb := of_decide_eq_true hb
    (refine w ?_; repeat ((first | refine VO.step rfl rfl ?_ | refine VD.end rfl rfl rfl ?_ | refine VD.mid rfl rfl rfl ?_); refine OpV.box rfl rfl rfl ?_; intro _; refine w ?_))
  (refine VE.done1 rfl ?_ ?_)
  · congr 1; rw [decide_eq_decide, cnt_iff]; omega
  · exact Ent.refl
theorem in_ok {W : World} {R : List SProp} (n a b : Int) :
    Does1 W Try.prog 65 [.int .i64 n, .int .i64 a, .int .i64 b] R (.bool (decide (a ≤ n ∧ n ≤ b))) R := by
  (refine Does.enter Try.func65 Try.ntmps65 rfl rfl ?_)
  (refine w ?_; repeat ((first | refine VO.step rfl rfl ?_ | refine VD.end rfl rfl rfl ?_ | refine VD.mid rfl rfl rfl ?_); refine OpV.box rfl rfl rfl ?_; intro _; refine w ?_))
  ((first | refine VO.split rfl rfl rfl ?_ ?_ | refine VD.split rfl rfl rfl ?_ ?_) <;> intro hb)
  · have h : a ≤ n := of_decide_eq_true hb
    (refine w ?_; repeat ((first | refine VO.step rfl rfl ?_ | refine VD.end rfl rfl rfl ?_ | refine VD.mid rfl rfl rfl ?_); refine OpV.box rfl rfl rfl ?_; intro _; refine w ?_))
    (refine VE.done1 rfl ?_ ?_)
    · simp [h]
    · exact Ent.refl
  · have h : ¬ a ≤ n := of_decide_eq_false hb
    (refine w ?_; repeat ((first | refine VO.step rfl rfl ?_ | refine VD.end rfl rfl rfl ?_ | refine VD.mid rfl rfl rfl ?_); refine OpV.box rfl rfl rfl ?_; intro _; refine w ?_))
    (refine VE.done1 rfl ?_ ?_)
    · simp [h]
    · exact Ent.refl
theorem and_lowB (y j : Nat) (h : y < 2 ^ 64) (hj : j ≤ 64) : IntKind.u64.wrap ((BitVec.ofInt IntKind.u64.bits (y : Int) &&& BitVec.ofInt IntKind.u64.bits ((2 ^ j - 1 : Nat) : Int)).toNat : Int) = ((y % 2 ^ j : Nat) : Int) := by
  have e : (BitVec.ofInt 64 (y : Int) &&& BitVec.ofInt 64 ((2 ^ j - 1 : Nat) : Int)).toNat = y % 2 ^ j := by
    rw [BitVec.toNat_and, BitVec.ofInt_natCast, BitVec.ofInt_natCast, BitVec.toNat_ofNat, BitVec.toNat_ofNat, Nat.mod_eq_of_lt h, Nat.mod_eq_of_lt, Nat.and_two_pow_sub_one_eq_mod]
    have := Nat.pow_le_pow_right (show 0 < 2 by decide) hj
    have := Nat.two_pow_pos j
    omega
  show IntKind.u64.wrap ((BitVec.ofInt 64 (y : Int) &&& BitVec.ofInt 64 ((2 ^ j - 1 : Nat) : Int)).toNat : Int) = _
  rw [e]
  have h2 : y % 2 ^ j < 2 ^ 64 := Nat.lt_of_le_of_lt (Nat.mod_le _ _) h
  exact wrap64_of h2
/-- A list of bytes of one's own grows by a number. -/
theorem put_ok {W : World} {R : List SProp} {ao : Option Addr} {cap : Nat} (l : List UInt8) (v wd : Nat) (hl : l.length ≤ 100000) (hw : wd ≤ 8) (hv : v < 2 ^ 64) :
    Does W Try.prog 73 [.slice ao l.length cap, .int .u64 v, .int .i64 wd] (Own 5 1 (.slice ao l.length cap) l.length (bytes l) :: R) (β := Option Addr × Nat) (fun _ => True)
      (fun x => .slice x.1 (l ++ lowBytes v wd).length x.2) (fun x => Own 5 1 (.slice x.1 (l ++ lowBytes v wd).length x.2) (l ++ lowBytes v wd).length (bytes (l ++ lowBytes v wd)) :: R) := by
  (refine Does.enter Try.func73 Try.ntmps73 rfl rfl ?_)
  (refine w ?_; repeat ((first | refine VO.step rfl rfl ?_ | refine VD.end rfl rfl rfl ?_ | refine VD.mid rfl rfl rfl ?_); refine OpV.box rfl rfl rfl ?_; intro _; refine w ?_))
  refine VC.loop (α := Nat × Option Addr × Nat) (fun y => y.1 ≤ wd) (fun y => Own 5 1 (.slice y.2.1 (l ++ lowBytes v y.1).length y.2.2) (l ++ lowBytes v y.1).length (bytes (l ++ lowBytes v y.1)) :: R)
    (fun y => [(0, .slice y.2.1 (l ++ lowBytes v y.1).length y.2.2), (1, .int .u64 ((v / 256 ^ y.1 : Nat) : Int)), (2, .int .i64 wd), (7, .int .i64 y.1)]) (fun y => wd - y.1) rfl (0, ao, cap) (Nat.zero_le _) (by simp only [lowBytes, List.append_nil]; exact Ent.refl) ⟨asV rfl (by simp [lowBytes]), asV rfl (by simp), rfl, rfl, trivial⟩ ?_
  rintro ⟨i, so, sc⟩ hi
  dsimp only at hi ⊢
  have hlen : (l ++ lowBytes v i).length = l.length + i := by rw [List.length_append, lowBytes_length]
  (refine w ?_; repeat ((first | refine VO.step rfl rfl ?_ | refine VD.end rfl rfl rfl ?_ | refine VD.mid rfl rfl rfl ?_); refine OpV.box rfl rfl rfl ?_; intro _; refine w ?_))
  (refine VC.cond rfl rfl ?_ ?_ <;> intro hc)
  · have hlt : i < wd := by have := of_decide_eq_true hc; omega
    (refine w ?_; repeat ((first | refine VO.step rfl rfl ?_ | refine VD.end rfl rfl rfl ?_ | refine VD.mid rfl rfl rfl ?_); refine OpV.box rfl rfl rfl ?_; intro _; refine w ?_))
    refine VO.re 16 (.int .u8 ((UInt8.ofNat (v / 256 ^ i)).toNat : Int)) rfl ?_ ?_
    · rw [show (255 : Int) = ((2 ^ 8 - 1 : Nat) : Int) from rfl, and_lowB _ 8 (by exact Nat.lt_of_le_of_lt (Nat.div_le_self _ _) hv) (by omega), u8_of]
      congr 2
      simp
    ((first | refine VO.step rfl rfl ?_ | refine VD.end rfl rfl rfl ?_ | refine VD.mid rfl rfl rfl ?_); refine OpV.buildSlice1 st_55 rfl rfl (by first | (simp; done) | simp [Value.oneCell']) (by decide) rfl ?_; intro nb)
    ((first | refine VO.step rfl rfl ?_ | refine VD.end rfl rfl rfl ?_ | refine VD.mid rfl rfl rfl ?_); refine OpV.appendRow st_55 rfl rfl (by (repeat first | exact .head | apply Hole.tail)) (by (focus repeat first | exact .head _ | apply List.Mem.tail)) rfl (by first | (simp; done) | simp [Value.oneCell']) ?_ ?_ rfl ?_)
    · simp only [maxLen]; omega
    · omega
    intro so' sc'
    (refine w ?_; repeat ((first | refine VO.step rfl rfl ?_ | refine VD.end rfl rfl rfl ?_ | refine VD.mid rfl rfl rfl ?_); refine OpV.box rfl rfl rfl ?_; intro _; refine w ?_))
    refine VE.round (i + 1, so', sc') (by simp only; omega) (by simp only; omega) ⟨asV rfl ?_, asV rfl ?_, rfl, asV rfl (by congr 1), trivial⟩ ?_
    · simp only; congr 1; rw [List.length_append, List.length_append, lowBytes_length, lowBytes_length]; omega
    · simp only; rw [show (2 : Nat) ^ (8 : Int).toNat = 256 from rfl, Nat.div_div_eq_div_mul, Nat.pow_succ]
    · dsimp only
      rw [lowBytes, ← List.append_assoc]
      rw [show (l ++ lowBytes v i ++ [UInt8.ofNat (v / 256 ^ i)]).length = (l ++ lowBytes v i).length + 1 from by rw [List.length_append]; rfl, bytes_append (l ++ lowBytes v i)]
      exact Ent.re
  · have hge : i = wd := by have := of_decide_eq_false hc; omega
    subst hge
    (refine w ?_; repeat ((first | refine VO.step rfl rfl ?_ | refine VD.end rfl rfl rfl ?_ | refine VD.mid rfl rfl rfl ?_); refine OpV.box rfl rfl rfl ?_; intro _; refine w ?_))
    exact VE.done (so, sc) rfl trivial rfl Ent.refl
end Go.Proofs.Ytlojjlbngnaphaa
