/- Raw bytes, fills, and the law's own call of a packer. -/
import Derived.Test.YtgkpdpoblofehaaLr
set_option maxRecDepth 8000
set_option linter.unusedVariables false
set_option linter.unusedSimpArgs false
set_option linter.unusedSectionVars false
namespace Go.Proofs.Ytgkpdpoblofehaa
open Go.RowKit Go.Sl

theorem and_mask (y : Nat) (h : y < 2 ^ 64) : IntKind.u64.wrap ((BitVec.ofInt IntKind.u64.bits (y : Int) &&& BitVec.ofInt IntKind.u64.bits (4294967295 : Int)).toNat : Int) = ((y % 2 ^ 32 : Nat) : Int) := by
  have e2 : (BitVec.ofInt IntKind.u64.bits (y : Int)).toNat = y := by simp [IntKind.bits]; omega
  have e3 : (BitVec.ofInt IntKind.u64.bits (4294967295 : Int)).toNat = 2 ^ 32 - 1 := by decide
  rw [BitVec.toNat_and, e2, e3, Nat.and_two_pow_sub_one_eq_mod, wrap64_of (by omega)]

theorem mul64_ok {W : World} {R : List SProp} (n : Nat) (hn : n < 2 ^ 32) :
    Does1 W Try.prog 148 [.int .u64 1, .int .u64 n] R (.tuple #[.int .u64 0, .int .u64 n]) R := by
  (refine Does.enter Try.func148 Try.ntmps148 rfl rfl ?_)
  (refine w ?_; repeat ((first | refine VO.step rfl rfl ?_ | refine VD.end rfl rfl rfl ?_ | refine VD.mid rfl rfl rfl ?_); refine OpV.box rfl rfl rfl ?_; intro _; refine w ?_))
  refine VE.done1 rfl ?_ Ent.refl
  have h1 : (BitVec.ofInt IntKind.u64.bits (n : Int) &&& BitVec.ofInt IntKind.u64.bits 4294967295).toNat = n := by
    have e2 : (BitVec.ofInt IntKind.u64.bits (n : Int)).toNat = n := by simp [IntKind.bits]; omega
    have e3 : (BitVec.ofInt IntKind.u64.bits (4294967295 : Int)).toNat = 2 ^ 32 - 1 := by decide
    rw [BitVec.toNat_and, e2, e3, Nat.and_two_pow_sub_one_eq_mod, Nat.mod_eq_of_lt hn]
  have h2 : n / 2 ^ Int.toNat 32 = 0 := Nat.div_eq_of_lt hn
  have h3 : (BitVec.ofInt IntKind.u64.bits 1 &&& BitVec.ofInt IntKind.u64.bits 4294967295).toNat = 1 := by decide
  have h4 : 1 / 2 ^ Int.toNat 32 = 0 := by decide
  have h5 : ((2 : Int) ^ IntKind.u64.bits).natAbs = 2 ^ 64 := by decide
  have h6 : n % 2 ^ 64 = n := Nat.mod_eq_of_lt (by omega)
  have h7 : 1 % 2 ^ 64 = 1 := by decide
  have h8 : IntKind.u64.wrap 0 = 0 := by decide
  have h9 : (BitVec.ofInt IntKind.u64.bits 0 &&& BitVec.ofInt IntKind.u64.bits 4294967295).toNat = 0 := by decide
  simp only [h1, h2, h3, h4, h5, h6, h7, Nat.one_mul, Nat.zero_mul, Nat.mul_zero, Nat.zero_add, Nat.add_zero, Nat.zero_mod, Nat.zero_div, Int.natCast_zero, Int.zero_mul, Int.mul_zero, Int.zero_add, Int.add_zero, h8, h9, Int.one_mul, wrap64_of (show n < 2 ^ 64 by omega)]

theorem mul_ok {W : World} {R : List SProp} (n : Nat) (hn : n < 2 ^ 32) :
    Does1 W Try.prog 146 [.int .u64 1, .int .u64 n] R (.tuple #[.int .u64 0, .int .u64 n]) R := by
  (refine Does.enter Try.func146 Try.ntmps146 rfl rfl ?_)
  (refine w ?_; repeat ((first | refine VO.step rfl rfl ?_ | refine VD.end rfl rfl rfl ?_ | refine VD.mid rfl rfl rfl ?_); refine OpV.box rfl rfl rfl ?_; intro _; refine w ?_))
  (((first | refine VO.step rfl rfl ?_ | refine VD.end rfl rfl rfl ?_ | refine VD.mid rfl rfl rfl ?_); refine OpV.call rfl rfl (fun _ _ => by simp) (mul64_ok n hn) Ent.re rfl ?_); intro _ _)
  (refine w ?_; repeat ((first | refine VO.step rfl rfl ?_ | refine VD.end rfl rfl rfl ?_ | refine VD.mid rfl rfl rfl ?_); refine OpV.box rfl rfl rfl ?_; intro _; refine w ?_))
  (first | exact VE.done1 rfl rfl Ent.refl | exact VE.done1N rfl rfl Ent.refl)

theorem repeat_ok {W : World} {R : List SProp} (x : Nat) (c : UInt8) (n : Nat) (h1 : 1 ≤ n) (hn : n ≤ 1048576) :
    Does W Try.prog 131 [.slice (some ⟨x, 0, none⟩) 1 1, .int .i64 n] (Row x 5 [byteV c] :: R) (β := Nat) (fun _ => True) (fun b => .slice (some ⟨b, 0, none⟩) n n)
      (fun b => Own 5 1 (.slice (some ⟨b, 0, none⟩) n n) n (bytes (List.replicate n c)) :: Row x 5 [byteV c] :: R) := by
  (refine Does.enter Try.func131 Try.ntmps131 rfl rfl ?_)
  (refine w ?_; repeat ((first | refine VO.step rfl rfl ?_ | refine VD.end rfl rfl rfl ?_ | refine VD.mid rfl rfl rfl ?_); refine OpV.box rfl rfl rfl ?_; intro _; refine w ?_))
  refine VO.re 15 (.int .u64 ((1 : Nat) : Int)) rfl (by rw [wrap64_of (by omega)]) ?_
  refine VO.re 17 (.int .u64 n) rfl (by rw [wrap64_of (by omega)]) ?_
  (((first | refine VO.step rfl rfl ?_ | refine VD.end rfl rfl rfl ?_ | refine VD.mid rfl rfl rfl ?_); refine OpV.call rfl rfl (fun _ _ => by simp) (mul_ok n (by omega)) Ent.re rfl ?_); intro _ _)
  (refine w ?_; repeat ((first | refine VO.step rfl rfl ?_ | refine VD.end rfl rfl rfl ?_ | refine VD.mid rfl rfl rfl ?_); refine OpV.box rfl rfl rfl ?_; intro _; refine w ?_))
  (refine VC.condFe rfl rfl (by simp; omega) ?_)
  (refine w ?_; repeat ((first | refine VO.step rfl rfl ?_ | refine VD.end rfl rfl rfl ?_ | refine VD.mid rfl rfl rfl ?_); refine OpV.box rfl rfl rfl ?_; intro _; refine w ?_))
  refine VO.re 29 (.int .i64 n) rfl (by congr 1; exact IntWalk.i64_in _ (by omega)) ?_
  ((first | refine VO.step rfl rfl ?_ | refine VD.end rfl rfl rfl ?_ | refine VD.mid rfl rfl rfl ?_); refine OpV.makeSlice1 st_22 rfl rfl rfl ?_ ?_ rfl ?_)
  · omega
  · simp only [maxLen]; omega
  intro b
  (refine w ?_; repeat ((first | refine VO.step rfl rfl ?_ | refine VD.end rfl rfl rfl ?_ | refine VD.mid rfl rfl rfl ?_); refine OpV.box rfl rfl rfl ?_; intro _; refine w ?_))
  ((first | refine VO.step rfl rfl ?_ | refine VD.end rfl rfl rfl ?_ | refine VD.mid rfl rfl rfl ?_); refine OpV.copy st_22 rfl rfl (by (repeat first | exact .head | apply Hole.tail)) (fun w hw => Sees.row (ys := []) (xs := [byteV c]) (by simp) rfl hw (by simp only [List.append_nil]; (focus repeat first | exact .head _ | apply List.Mem.tail))) rfl ?_)
  (refine w ?_; repeat ((first | refine VO.step rfl rfl ?_ | refine VD.end rfl rfl rfl ?_ | refine VD.mid rfl rfl rfl ?_); refine OpV.box rfl rfl rfl ?_; intro _; refine w ?_))
  have e0 : (bytes [c]).take (1 * 1) ++ (List.replicate n (Value.int .u8 0)).drop (1 * 1) = bytes (List.replicate 1 c ++ List.replicate (n - 1) 0) := by
    rw [bytes_append, bytes_replicate]; simp [bytes]
  have e1 : min 1 n = 1 := by omega
  rw [e1]
  refine VC.loop (α := Nat) (fun j => 1 ≤ j ∧ j ≤ n) (fun j => Own 5 1 (.slice (some ⟨b, 0, none⟩) n n) n (bytes (List.replicate j c ++ List.replicate (n - j) 0)) :: Row x 5 [byteV c] :: R)
    (fun j => [(7, .slice (some ⟨b, 0, none⟩) n n), (8, .int .i64 j)]) (fun j => n - j) rfl 1 ⟨Nat.le_refl _, h1⟩ ?_ ⟨rfl, rfl, trivial⟩ ?_
  · rw [← e0]; exact Ent.refl
  · rintro j ⟨hj1, hj⟩
    (refine w ?_; repeat ((first | refine VO.step rfl rfl ?_ | refine VD.end rfl rfl rfl ?_ | refine VD.mid rfl rfl rfl ?_); refine OpV.box rfl rfl rfl ?_; intro _; refine w ?_))
    (refine VC.cond rfl rfl ?_ ?_ <;> intro hc)
    · have hlt : j < n := by simpa using hc
      (refine w ?_; repeat ((first | refine VO.step rfl rfl ?_ | refine VD.end rfl rfl rfl ?_ | refine VD.mid rfl rfl rfl ?_); refine OpV.box rfl rfl rfl ?_; intro _; refine w ?_))
      (refine VC.drawn [7] 8 [0, 1, 2, 3, 4, 5, 6, 7, 8, 9] [] rfl (by kernel_rfl) (by kernel_rfl) Ent.re ?_)
      (refine w ?_; repeat ((first | refine VO.step rfl rfl ?_ | refine VD.end rfl rfl rfl ?_ | refine VD.mid rfl rfl rfl ?_); refine OpV.box rfl rfl rfl ?_; intro _; refine w ?_))
      have hr : Rds W (Own 5 1 (.slice (some ⟨b, 0, none⟩) n n) n (bytes (List.replicate j c ++ List.replicate (n - j) 0)) :: Row x 5 [byteV c] :: R) 1 (some ⟨b, 0, none⟩) n (bytes (List.replicate j c ++ List.replicate (n - j) 0)) := Rds.own (bytes_one _) (by (focus repeat first | exact .head _ | apply List.Mem.tail)) (by simp; omega) (by simp)
      ((first | refine VO.step rfl rfl ?_ | refine VD.end rfl rfl rfl ?_ | refine VD.mid rfl rfl rfl ?_); refine OpV.copyOwn st_22 rfl rfl (by (repeat first | exact .head | apply Hole.tail)) (hlt) (fun w hw => (hr.take hj).sees hw) rfl ?_)
      (refine w ?_; repeat ((first | refine VO.step rfl rfl ?_ | refine VD.end rfl rfl rfl ?_ | refine VD.mid rfl rfl rfl ?_); refine OpV.box rfl rfl rfl ?_; intro _; refine w ?_))
      have e2 : (bytes (List.replicate j c ++ List.replicate (n - j) 0)).take (j * 1) ++ ((bytes (List.replicate j c ++ List.replicate (n - j) 0)).take (j * 1)).take (min j (n - j) * 1) ++ (bytes (List.replicate j c ++ List.replicate (n - j) 0)).drop (j * 1 + min j (n - j) * 1)
          = bytes (List.replicate (j + min j (n - j)) c ++ List.replicate (n - (j + min j (n - j))) 0) := by
        simp only [Nat.mul_one, bytes_append]
        have a1 : (bytes (List.replicate j c) ++ bytes (List.replicate (n - j) 0)).take j = bytes (List.replicate j c) := by
          rw [List.take_append_of_le_length (by simp), List.take_of_length_le (by simp)]
        rw [a1]
        have a2 : (bytes (List.replicate j c)).take (min j (n - j)) = bytes (List.replicate (min j (n - j)) c) := by simp [bytes, List.take_replicate]
        have a3 : (bytes (List.replicate j c) ++ bytes (List.replicate (n - j) 0)).drop (j + min j (n - j)) = bytes (List.replicate (n - (j + min j (n - j))) 0) := by
          rw [List.drop_append]; simp [bytes, List.drop_replicate]; omega
        rw [a2, a3, ← bytes_append, List.replicate_append_replicate]
      rw [e2]
      refine VE.round (j + min j (n - j)) ⟨by omega, by omega⟩ (by omega) ⟨rfl, asV rfl (by simp), trivial⟩ Ent.refl
    · have hge : j = n := by have : ¬ j < n := by simpa using hc
                             omega
      subst hge
      (refine w ?_; repeat ((first | refine VO.step rfl rfl ?_ | refine VD.end rfl rfl rfl ?_ | refine VD.mid rfl rfl rfl ?_); refine OpV.box rfl rfl rfl ?_; intro _; refine w ?_))
      refine VE.done b rfl trivial rfl ?_
      simp only [Nat.sub_self, List.replicate_zero, List.append_nil]
      exact Ent.refl

/-- What was put, and a few bytes behind it. -/
def Pk.raw (k : Pk) (l : List UInt8) : Pk := if (k.room l.length).bad = 0 then { k with had := k.had ++ l } else k.room l.length
def Pk.fill (k : Pk) (n : Int) (c : UInt8) : Pk := if n ≤ 0 then k else if (k.room n).bad = 0 then { k with had := k.had ++ List.replicate n.toNat c } else k.room n

theorem raw_ok {W : World} {R : List SProp} {ao : Option Addr} {cap n : Nat} {l : List UInt8} (p : Nat) (k : Pk) (hb : RdsA W 1 ao n (bytes l)) :
    Does1 W Try.prog 81 [.pointer (some ⟨p, 0, none⟩), .slice ao n cap] (PackerR p k :: R) (.tuple #[]) (PackerR p (k.raw l) :: R) := by
  have hl : l.length = n := by have := (hb []).len; simpa using this
  subst hl
  (refine Does.enter Try.func81 Try.ntmps81 rfl rfl ?_)
  refine VC.know (fun w => PackerR.know) ?_
  intro ⟨h1, h2, h3⟩
  (refine w ?_; repeat ((first | refine VO.step rfl rfl ?_ | refine VD.end rfl rfl rfl ?_ | refine VD.mid rfl rfl rfl ?_); refine OpV.box rfl rfl rfl ?_; intro _; refine w ?_))
  (((first | refine VO.step rfl rfl ?_ | refine VD.end rfl rfl rfl ?_ | refine VD.mid rfl rfl rfl ?_); refine OpV.call rfl rfl (fun _ _ => by simp) (room_ok p k l.length) Ent.re rfl ?_); intro _ _)
  (refine w ?_; repeat ((first | refine VO.step rfl rfl ?_ | refine VD.end rfl rfl rfl ?_ | refine VD.mid rfl rfl rfl ?_); refine OpV.box rfl rfl rfl ?_; intro _; refine w ?_))
  (refine VC.cond rfl rfl ?_ ?_ <;> intro hc)
  · have hr : (k.room l.length).bad = 0 := by simpa using hc
    obtain ⟨e1, e2, e3⟩ := Pk.room_zero hr
    rw [e1]
    refine VC.obtain (fun w => PackerR.open) ?_
    rintro ⟨⟨ao, cap⟩, -⟩
    (refine w ?_; repeat ((first | refine VO.step rfl rfl ?_ | refine VD.end rfl rfl rfl ?_ | refine VD.mid rfl rfl rfl ?_); refine OpV.box rfl rfl rfl ?_; intro _; refine w ?_))
    (first | refine VO.step rfl rfl ?_ | refine VD.end rfl rfl rfl ?_ | refine VD.mid rfl rfl rfl ?_)
    refine OpV.append st_22 rfl rfl (by (repeat first | exact .head | apply Hole.tail)) (fun w hw => ((hb _).sees hw).src st_22.und) (by simp only [maxLen]; omega) (by omega) rfl ?_
    intro ao' cap'
    (refine w ?_; repeat ((first | refine VO.step rfl rfl ?_ | refine VD.end rfl rfl rfl ?_ | refine VD.mid rfl rfl rfl ?_); refine OpV.box rfl rfl rfl ?_; intro _; refine w ?_))
    (refine VE.done1N rfl rfl ?_)
    rw [show k.raw l = { k with had := k.had ++ l } by unfold Pk.raw; rw [if_pos hr]]
    exact PackerR.shut' (k := { k with had := k.had ++ l }) ⟨by simp; omega, h2, h3⟩ (by simp) (by simp [bytes])
  · have hr : ¬ (k.room l.length).bad = 0 := by simpa using hc
    (refine w ?_; repeat ((first | refine VO.step rfl rfl ?_ | refine VD.end rfl rfl rfl ?_ | refine VD.mid rfl rfl rfl ?_); refine OpV.box rfl rfl rfl ?_; intro _; refine w ?_))
    (refine VE.done1N rfl rfl ?_)
    rw [show k.raw l = k.room l.length by unfold Pk.raw; rw [if_neg hr]]
    exact Ent.refl

theorem fill_ok {W : World} {R : List SProp} (p : Nat) (k : Pk) (n : Int) (c : UInt8) :
    Does1 W Try.prog 93 [.pointer (some ⟨p, 0, none⟩), .int .i64 n, byteV c] (PackerR p k :: R) (.tuple #[]) (PackerR p (k.fill n c) :: R) := by
  (refine Does.enter Try.func93 Try.ntmps93 rfl rfl ?_)
  refine VC.know (fun w => PackerR.know) ?_
  intro ⟨h1, h2, h3⟩
  (refine w ?_; repeat ((first | refine VO.step rfl rfl ?_ | refine VD.end rfl rfl rfl ?_ | refine VD.mid rfl rfl rfl ?_); refine OpV.box rfl rfl rfl ?_; intro _; refine w ?_))
  ((first | refine VO.split rfl rfl rfl ?_ ?_ | refine VD.split rfl rfl rfl ?_ ?_) <;> intro hb)
  · have hn : 0 < n := by simpa using hb
    (refine w ?_; repeat ((first | refine VO.step rfl rfl ?_ | refine VD.end rfl rfl rfl ?_ | refine VD.mid rfl rfl rfl ?_); refine OpV.box rfl rfl rfl ?_; intro _; refine w ?_))
    (((first | refine VO.step rfl rfl ?_ | refine VD.end rfl rfl rfl ?_ | refine VD.mid rfl rfl rfl ?_); refine OpV.call rfl rfl (fun _ _ => by simp) (room_ok p k n) Ent.re rfl ?_); intro _ _)
    (refine w ?_; repeat ((first | refine VO.step rfl rfl ?_ | refine VD.end rfl rfl rfl ?_ | refine VD.mid rfl rfl rfl ?_); refine OpV.box rfl rfl rfl ?_; intro _; refine w ?_))
    (refine VC.cond rfl rfl ?_ ?_ <;> intro hc)
    · have hr : (k.room n).bad = 0 := by simpa using hc
      obtain ⟨e1, e2, e3⟩ := Pk.room_zero hr
      rw [e1]
      obtain ⟨m, rfl⟩ : ∃ m : Nat, n = m := ⟨n.toNat, by omega⟩
      refine VC.obtain (fun w => PackerR.open) ?_
      rintro ⟨⟨ao, cap⟩, -⟩
      (refine w ?_; repeat ((first | refine VO.step rfl rfl ?_ | refine VD.end rfl rfl rfl ?_ | refine VD.mid rfl rfl rfl ?_); refine OpV.box rfl rfl rfl ?_; intro _; refine w ?_))
      (refine VC.drawn [6, 8, 9] 10 [0, 1, 2, 3, 4, 5, 7, 6, 8, 9, 10, 11, 12] [Row p 169 [.int .i64 k.size, .slice ao k.had.length cap, .int .u16 k.bad]] rfl (by kernel_rfl) (by kernel_rfl) Ent.re ?_)
      (refine w ?_; repeat ((first | refine VO.step rfl rfl ?_ | refine VD.end rfl rfl rfl ?_ | refine VD.mid rfl rfl rfl ?_); refine OpV.box rfl rfl rfl ?_; intro _; refine w ?_))
      ((first | refine VO.step rfl rfl ?_ | refine VD.end rfl rfl rfl ?_ | refine VD.mid rfl rfl rfl ?_); refine OpV.buildSlice1 st_22 rfl rfl (by first | (simp; done) | simp [Value.oneCell']) (by decide) rfl ?_; intro nb)
      (refine w ?_; repeat ((first | refine VO.step rfl rfl ?_ | refine VD.end rfl rfl rfl ?_ | refine VD.mid rfl rfl rfl ?_); refine OpV.box rfl rfl rfl ?_; intro _; refine w ?_))
      ((first | refine VO.step rfl rfl ?_ | refine VD.end rfl rfl rfl ?_ | refine VD.mid rfl rfl rfl ?_); refine OpV.call rfl rfl (fun _ _ => by simp) (repeat_ok nb c m (by omega) (by omega)) Ent.re rfl ?_)
      intro b _
      (refine w ?_; repeat ((first | refine VO.step rfl rfl ?_ | refine VD.end rfl rfl rfl ?_ | refine VD.mid rfl rfl rfl ?_); refine OpV.box rfl rfl rfl ?_; intro _; refine w ?_))
      (first | refine VO.step rfl rfl ?_ | refine VD.end rfl rfl rfl ?_ | refine VD.mid rfl rfl rfl ?_)
      refine OpV.append st_22 rfl rfl (by (repeat first | exact .head | apply Hole.tail)) (fun w hw => (Sees.own (bytes_one _) hw (by (focus repeat first | exact .head _ | apply List.Mem.tail))).src st_22.und) (by simp only [maxLen]; omega) (by omega) rfl ?_
      intro ao' cap'
      (refine w ?_; repeat ((first | refine VO.step rfl rfl ?_ | refine VD.end rfl rfl rfl ?_ | refine VD.mid rfl rfl rfl ?_); refine OpV.box rfl rfl rfl ?_; intro _; refine w ?_))
      (refine VE.done1N rfl rfl ?_)
      rw [show k.fill m c = { k with had := k.had ++ List.replicate m c } by unfold Pk.fill; rw [if_neg (by omega), if_pos hr]; simp]
      refine Ent.trans Ent.re (PackerR.shut' (k := { k with had := k.had ++ List.replicate m c }) ⟨by simp; omega, h2, h3⟩ (by simp) (by simp [bytes]))
    · have hr : ¬ (k.room n).bad = 0 := by simpa using hc
      (refine w ?_; repeat ((first | refine VO.step rfl rfl ?_ | refine VD.end rfl rfl rfl ?_ | refine VD.mid rfl rfl rfl ?_); refine OpV.box rfl rfl rfl ?_; intro _; refine w ?_))
      (refine VE.done1N rfl rfl ?_)
      rw [show k.fill n c = k.room n by unfold Pk.fill; rw [if_neg (by omega), if_neg hr]]
      exact Ent.refl
  · have hn : ¬ 0 < n := by simpa using hb
    (refine w ?_; repeat ((first | refine VO.step rfl rfl ?_ | refine VD.end rfl rfl rfl ?_ | refine VD.mid rfl rfl rfl ?_); refine OpV.box rfl rfl rfl ?_; intro _; refine w ?_))
    (refine VE.done1N rfl rfl ?_)
    rw [show k.fill n c = k by unfold Pk.fill; rw [if_pos (by omega)]]
    exact Ent.refl
end Go.Proofs.Ytgkpdpoblofehaa
