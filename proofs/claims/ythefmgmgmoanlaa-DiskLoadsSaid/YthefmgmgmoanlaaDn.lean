/- The statements of the disk: sector, SameInts, known. -/
import Derived.Test.YthefmgmgmoanlaaDm
set_option maxRecDepth 8000
set_option linter.unusedVariables false
set_option linter.unusedSimpArgs false
set_option linter.unusedSectionVars false
namespace Go.Proofs.Ythefmgmgmoanlaa
open Go.RowKit Go.Sl
attribute [local irreducible] Own

def fullSec (c : UInt8) : List UInt8 := List.replicate 128 c
@[simp] theorem fullSec_length (c : UInt8) : (fullSec c).length = 128 := List.length_replicate
abbrev SecO (b : Nat) (c : UInt8) : SProp := Own 5 1 (.slice (some ⟨b, 0, none⟩) 128 128) 128 (bytes (fullSec c))
theorem SecO.rds {W : World} {R : List SProp} {b : Nat} {c : UInt8} : Rds W (SecO b c :: R) 1 (some ⟨b, 0, none⟩) 128 (bytes (fullSec c)) := Rds.own (bytes_one _) (.head _) (by rw [bytes_length, fullSec_length]) (fun h => by cases h)
def partSec (c : UInt8) (i : Nat) : List Value := List.replicate i (byteV c) ++ List.replicate (128 - i) (.int .u8 0)
theorem partSec_set (c : UInt8) (i : Nat) (h : i < 128) : (partSec c i).set i (byteV c) = partSec c (i + 1) := by
  unfold partSec
  rw [List.set_append_right _ _ (by simp), List.length_replicate, Nat.sub_self, show 128 - i = (128 - (i + 1)) + 1 by omega, List.replicate_succ, List.set_cons_zero, List.replicate_succ', List.append_assoc]; rfl
theorem partSec_length (c : UInt8) (i : Nat) (h : i ≤ 128) : (partSec c i).length = 128 := by
  unfold partSec; rw [List.length_append, List.length_replicate, List.length_replicate]; omega
theorem partSec_all (c : UInt8) : partSec c 128 = bytes (fullSec c) := by
  unfold partSec fullSec bytes; rw [List.map_replicate]; simp only [Nat.sub_self, List.replicate_zero, List.append_nil]

theorem sector_ok {W : World} {R : List SProp} (c : UInt8) :
    Does W Try.prog 29 [.int .u8 (c.toNat : Int)] R (β := Nat) (fun _ => True) (fun b => .slice (some ⟨b, 0, none⟩) 128 128) (fun b => SecO b c :: R) := by
  (refine Does.enter Try.func29 Try.ntmps29 rfl rfl ?_)
  (refine w ?_; repeat ((first | refine VO.step rfl rfl ?_ | refine VD.end rfl rfl rfl ?_ | refine VD.mid rfl rfl rfl ?_); refine OpV.box rfl rfl rfl ?_; intro _; refine w ?_))
  (first | refine VO.step rfl rfl ?_ | refine VD.end rfl rfl rfl ?_ | refine VD.mid rfl rfl rfl ?_)
  refine OpV.makeSlice1 (m := 128) st_35 rfl rfl rfl (by decide) (by decide) rfl ?_
  intro nb
  (refine w ?_; repeat ((first | refine VO.step rfl rfl ?_ | refine VD.end rfl rfl rfl ?_ | refine VD.mid rfl rfl rfl ?_); refine OpV.box rfl rfl rfl ?_; intro _; refine w ?_))
  refine VC.loop (α := Nat) (fun i => i ≤ 128) (fun i => Own 5 1 (.slice (some ⟨nb, 0, none⟩) 128 128) 128 (partSec c i) :: R)
    (fun i => [(0, .int .u8 (c.toNat : Int)), (3, .slice (some ⟨nb, 0, none⟩) 128 128), (4, .int .i64 i)]) (fun i => 128 - i) rfl 0 (Nat.zero_le _) Ent.refl ⟨rfl, rfl, rfl, trivial⟩ ?_
  intro i hi
  (refine w ?_; repeat ((first | refine VO.step rfl rfl ?_ | refine VD.end rfl rfl rfl ?_ | refine VD.mid rfl rfl rfl ?_); refine OpV.box rfl rfl rfl ?_; intro _; refine w ?_))
  (refine VC.cond rfl rfl ?_ ?_ <;> intro hc)
  · have hlt : i < 128 := by have := of_decide_eq_true hc; omega
    (refine w ?_; repeat ((first | refine VO.step rfl rfl ?_ | refine VD.end rfl rfl rfl ?_ | refine VD.mid rfl rfl rfl ?_); refine OpV.box rfl rfl rfl ?_; intro _; refine w ?_))
    (first | refine VO.step rfl rfl ?_ | refine VD.end rfl rfl rfl ?_ | refine VD.mid rfl rfl rfl ?_)
    refine OpV.stO tab_ok rfl rfl rfl rfl .head (by rw [partSec_length c i hi]; exact hlt) ?_
    rw [show Value.int .u8 (c.toNat : Int) = byteV c from rfl, partSec_set c i hlt]
    (refine w ?_; repeat ((first | refine VO.step rfl rfl ?_ | refine VD.end rfl rfl rfl ?_ | refine VD.mid rfl rfl rfl ?_); refine OpV.box rfl rfl rfl ?_; intro _; refine w ?_))
    exact VE.round (i + 1) hlt (by omega) ⟨rfl, rfl, rfl, trivial⟩ Ent.refl
  · have hge : i = 128 := by have := of_decide_eq_false hc; omega
    subst hge
    (refine w ?_; repeat ((first | refine VO.step rfl rfl ?_ | refine VD.end rfl rfl rfl ?_ | refine VD.mid rfl rfl rfl ?_); refine OpV.box rfl rfl rfl ?_; intro _; refine w ?_))
    refine VE.done nb rfl trivial rfl ?_
    rw [partSec_all]
    exact Ent.refl
theorem sector_lit {W : World} {R : List SProp} (n : Nat) (h : n < 256) :
    Does W Try.prog 29 [.int .u8 (n : Int)] R (β := Nat) (fun _ => True) (fun b => .slice (some ⟨b, 0, none⟩) 128 128) (fun b => SecO b (UInt8.ofNat n) :: R) := by
  have := sector_ok (W := W) (R := R) (UInt8.ofNat n)
  rwa [show ((UInt8.ofNat n).toNat : Int) = (n : Int) by simp; omega] at this

theorem sameints_any {W : World} {R : List SProp} {ao ao' : Option Addr} {n n' cap cap' : Nat} {a b : List Nat} (ha : Rds W R 1 ao n (ints a)) (hb : Rds W R 1 ao' n' (ints b)) (hn : n ≤ maxLen) :
    Does1 W Try.prog 69 [.slice ao n cap, .slice ao' n' cap'] R (.bool (decide (a = b))) R := by
  have la : a.length = n := by have := ha.len; simpa using this
  have lb : b.length = n' := by have := hb.len; simpa using this
  unfold maxLen at hn
  (refine Does.enter Try.func69 Try.ntmps69 rfl rfl ?_)
  (refine w ?_; repeat ((first | refine VO.step rfl rfl ?_ | refine VD.end rfl rfl rfl ?_ | refine VD.mid rfl rfl rfl ?_); refine OpV.box rfl rfl rfl ?_; intro _; refine w ?_))
  by_cases hl : n = n'
  · subst hl
    (refine VC.condFe rfl rfl (by simp) ?_)
    (refine w ?_; repeat ((first | refine VO.step rfl rfl ?_ | refine VD.end rfl rfl rfl ?_ | refine VD.mid rfl rfl rfl ?_); refine OpV.box rfl rfl rfl ?_; intro _; refine w ?_))
    refine VC.loop (α := Nat) (fun j => j ≤ n ∧ ∀ i (h : i < a.length) (h' : i < b.length), i < j → a[i] = b[i]) (fun j => R)
      (fun j => [(0, .slice ao n cap), (1, .slice ao' n cap'), (5, .int .i64 j)]) (fun j => n - j) rfl 0 ⟨Nat.zero_le _, fun _ _ _ h => absurd h (by omega)⟩ Ent.refl ⟨rfl, rfl, rfl, trivial⟩ ?_
    rintro j ⟨hj, hi⟩
    (refine w ?_; repeat ((first | refine VO.step rfl rfl ?_ | refine VD.end rfl rfl rfl ?_ | refine VD.mid rfl rfl rfl ?_); refine OpV.box rfl rfl rfl ?_; intro _; refine w ?_))
    (refine VC.cond rfl rfl ?_ ?_ <;> intro hc)
    · have hlt : j < n := by simpa using hc
      obtain ⟨a0, rfl⟩ : ∃ a0, ao = some a0 := by cases ao with | none => have := ha.nil rfl; omega | some a0 => exact ⟨a0, rfl⟩
      obtain ⟨b0, rfl⟩ : ∃ b0, ao' = some b0 := by cases ao' with | none => have := hb.nil rfl; omega | some b0 => exact ⟨b0, rfl⟩
      (refine w ?_; repeat ((first | refine VO.step rfl rfl ?_ | refine VD.end rfl rfl rfl ?_ | refine VD.mid rfl rfl rfl ?_); refine OpV.box rfl rfl rfl ?_; intro _; refine w ?_))
      ((refine VC.quiet rfl (by kernel_rfl) (by kernel_rfl) ?_); (refine w ?_; repeat ((first | refine VO.step rfl rfl ?_ | refine VD.end rfl rfl rfl ?_ | refine VD.mid rfl rfl rfl ?_); refine OpV.box rfl rfl rfl ?_; intro _; refine w ?_)))
      (first | refine VO.pure rfl rfl (PureAt.ldR tab_ok rfl rfl ha (show (ints a)[j]? = some (.int .i64 ((a[j]'(by omega) : Nat) : Int)) by simp [ints, la, hlt])) rfl ?_ | refine VD.take rfl rfl rfl (PureAt.ldR tab_ok rfl rfl ha (show (ints a)[j]? = some (.int .i64 ((a[j]'(by omega) : Nat) : Int)) by simp [ints, la, hlt])) rfl ?_ | refine VQ.pure rfl rfl (PureAt.ldR tab_ok rfl rfl ha (show (ints a)[j]? = some (.int .i64 ((a[j]'(by omega) : Nat) : Int)) by simp [ints, la, hlt])) rfl ?_ | refine VD.end rfl rfl rfl (OpV.pure (PureAt.ldR tab_ok rfl rfl ha (show (ints a)[j]? = some (.int .i64 ((a[j]'(by omega) : Nat) : Int)) by simp [ints, la, hlt])) rfl ?_))
      (refine w ?_; repeat ((first | refine VO.step rfl rfl ?_ | refine VD.end rfl rfl rfl ?_ | refine VD.mid rfl rfl rfl ?_); refine OpV.box rfl rfl rfl ?_; intro _; refine w ?_))
      (first | refine VO.pure rfl rfl (PureAt.ldR tab_ok rfl rfl hb (show (ints b)[j]? = some (.int .i64 ((b[j]'(by omega) : Nat) : Int)) by simp [ints, lb, hlt])) rfl ?_ | refine VD.take rfl rfl rfl (PureAt.ldR tab_ok rfl rfl hb (show (ints b)[j]? = some (.int .i64 ((b[j]'(by omega) : Nat) : Int)) by simp [ints, lb, hlt])) rfl ?_ | refine VQ.pure rfl rfl (PureAt.ldR tab_ok rfl rfl hb (show (ints b)[j]? = some (.int .i64 ((b[j]'(by omega) : Nat) : Int)) by simp [ints, lb, hlt])) rfl ?_ | refine VD.end rfl rfl rfl (OpV.pure (PureAt.ldR tab_ok rfl rfl hb (show (ints b)[j]? = some (.int .i64 ((b[j]'(by omega) : Nat) : Int)) by simp [ints, lb, hlt])) rfl ?_))
      (refine w ?_; repeat ((first | refine VO.step rfl rfl ?_ | refine VD.end rfl rfl rfl ?_ | refine VD.mid rfl rfl rfl ?_); refine OpV.box rfl rfl rfl ?_; intro _; refine w ?_))
      (refine VC.cond rfl rfl ?_ ?_ <;> intro hc)
      · (refine w ?_; repeat ((first | refine VO.step rfl rfl ?_ | refine VD.end rfl rfl rfl ?_ | refine VD.mid rfl rfl rfl ?_); refine OpV.box rfl rfl rfl ?_; intro _; refine w ?_))
        (refine VE.done1 rfl ?_ ?_)
        · have hne : a[j]'(by omega) ≠ b[j]'(by omega) := by
            intro e; rw [e] at hc; simp at hc
          have : a ≠ b := fun e => hne (by subst e; rfl)
          simp [this]
        · exact Ent.refl
      · (refine w ?_; repeat ((first | refine VO.step rfl rfl ?_ | refine VD.end rfl rfl rfl ?_ | refine VD.mid rfl rfl rfl ?_); refine OpV.box rfl rfl rfl ?_; intro _; refine w ?_))
        have he : a[j]'(by omega) = b[j]'(by omega) := by
          have : ((a[j]'(by omega) : Nat) : Int) = ((b[j]'(by omega) : Nat) : Int) := by simpa using hc
          omega
        refine VE.round (j + 1) ⟨by omega, fun i h h' hij => ?_⟩ (by omega) ⟨rfl, rfl, rfl, trivial⟩ Ent.refl
        by_cases e : i = j
        · subst e; exact he
        · exact hi i h h' (by omega)
    · have hge : j = n := by have : ¬ j < n := by simpa using hc
                             omega
      (refine w ?_; repeat ((first | refine VO.step rfl rfl ?_ | refine VD.end rfl rfl rfl ?_ | refine VD.mid rfl rfl rfl ?_); refine OpV.box rfl rfl rfl ?_; intro _; refine w ?_))
      (refine VE.done1 rfl ?_ ?_)
      · have : a = b := List.ext_getElem (by omega) fun i h h' => hi i h h' (by omega)
        simp [this]
      · exact Ent.refl
  · (refine VC.condTe rfl rfl (by simp; omega) ?_)
    (refine w ?_; repeat ((first | refine VO.step rfl rfl ?_ | refine VD.end rfl rfl rfl ?_ | refine VD.mid rfl rfl rfl ?_); refine OpV.box rfl rfl rfl ?_; intro _; refine w ?_))
    (refine VE.done1 rfl ?_ ?_)
    · have : a ≠ b := fun e => hl (by subst e; omega)
      simp [this]
    · exact Ent.refl

def newDisk (n : Nat) : DiskD := ⟨List.replicate n zeroSec, [], false⟩

set_option maxHeartbeats 4000000 in
theorem dknown_ok {W : World} {R : List SProp} : Does1 W Try.prog 26 [] R (.bool true) R := by
  (refine Does.enter Try.func26 Try.ntmps26 rfl rfl ?_)
  (refine w ?_; repeat ((first | refine VO.step rfl rfl ?_ | refine VD.end rfl rfl rfl ?_ | refine VD.mid rfl rfl rfl ?_); refine OpV.box rfl rfl rfl ?_; intro _; refine w ?_))
  ((first | refine VO.step rfl rfl ?_ | refine VD.end rfl rfl rfl ?_ | refine VD.mid rfl rfl rfl ?_); refine OpV.call rfl rfl (fun _ _ => by simp) (disknew_ok 2 (by decide) (by decide)) Ent.re rfl ?_)
  intro d _
  (refine w ?_; repeat ((first | refine VO.step rfl rfl ?_ | refine VD.end rfl rfl rfl ?_ | refine VD.mid rfl rfl rfl ?_); refine OpV.box rfl rfl rfl ?_; intro _; refine w ?_))
  ((first | refine VO.step rfl rfl ?_ | refine VD.end rfl rfl rfl ?_ | refine VD.mid rfl rfl rfl ?_); refine OpV.call rfl rfl (fun _ _ => by simp) (sector_lit 97 (by decide)) Ent.re rfl ?_)
  intro s1 _
  (refine w ?_; repeat ((first | refine VO.step rfl rfl ?_ | refine VD.end rfl rfl rfl ?_ | refine VD.mid rfl rfl rfl ?_); refine OpV.box rfl rfl rfl ?_; intro _; refine w ?_))
  (((first | refine VO.step rfl rfl ?_ | refine VD.end rfl rfl rfl ?_ | refine VD.mid rfl rfl rfl ?_); refine OpV.call rfl rfl (fun _ _ => by simp) (write_ok d (newDisk 2) 0 (by decide) rfl (fullSec_length _) (by decide) SecO.rds) Ent.re rfl ?_); intro _ _)
  (refine w ?_; repeat ((first | refine VO.step rfl rfl ?_ | refine VD.end rfl rfl rfl ?_ | refine VD.mid rfl rfl rfl ?_); refine OpV.box rfl rfl rfl ?_; intro _; refine w ?_))
  ((first | refine VO.step rfl rfl ?_ | refine VD.end rfl rfl rfl ?_ | refine VD.mid rfl rfl rfl ?_); refine OpV.call rfl rfl (fun _ _ => by simp) (sector_lit 98 (by decide)) Ent.re rfl ?_)
  intro s2 _
  (refine w ?_; repeat ((first | refine VO.step rfl rfl ?_ | refine VD.end rfl rfl rfl ?_ | refine VD.mid rfl rfl rfl ?_); refine OpV.box rfl rfl rfl ?_; intro _; refine w ?_))
  (((first | refine VO.step rfl rfl ?_ | refine VD.end rfl rfl rfl ?_ | refine VD.mid rfl rfl rfl ?_); refine OpV.call rfl rfl (fun _ _ => by simp) (write_ok d ((newDisk 2).write 0 (fullSec 97)) 0 (by decide) rfl (fullSec_length _) (by decide) SecO.rds) Ent.re rfl ?_); intro _ _)
  (refine w ?_; repeat ((first | refine VO.step rfl rfl ?_ | refine VD.end rfl rfl rfl ?_ | refine VD.mid rfl rfl rfl ?_); refine OpV.box rfl rfl rfl ?_; intro _; refine w ?_))
  ((first | refine VO.step rfl rfl ?_ | refine VD.end rfl rfl rfl ?_ | refine VD.mid rfl rfl rfl ?_); refine OpV.call rfl rfl (fun _ _ => by simp) (sector_lit 99 (by decide)) Ent.re rfl ?_)
  intro s3 _
  (refine w ?_; repeat ((first | refine VO.step rfl rfl ?_ | refine VD.end rfl rfl rfl ?_ | refine VD.mid rfl rfl rfl ?_); refine OpV.box rfl rfl rfl ?_; intro _; refine w ?_))
  (((first | refine VO.step rfl rfl ?_ | refine VD.end rfl rfl rfl ?_ | refine VD.mid rfl rfl rfl ?_); refine OpV.call rfl rfl (fun _ _ => by simp) (write_ok d (((newDisk 2).write 0 (fullSec 97)).write 0 (fullSec 98)) 1 (by decide) rfl (fullSec_length _) (by decide) SecO.rds) Ent.re rfl ?_); intro _ _)
  generalize hk : (((newDisk 2).write 0 (fullSec 97)).write 0 (fullSec 98)).write 1 (fullSec (UInt8.ofNat 99)) = k
  have hl0 : k.look 0 = fullSec 98 := by subst hk; simp [DiskD.look_write]
  have hse : k.settle (keepOf [true, false, true]) = ⟨[fullSec 97, fullSec 99], [], false⟩ := by subst hk; rfl
  have hpe : k.cache.map (·.1) = [0, 0, 1] := by subst hk; rfl
  have hcl : k.cache.length = 3 := by subst hk; rfl
  (refine w ?_; repeat ((first | refine VO.step rfl rfl ?_ | refine VD.end rfl rfl rfl ?_ | refine VD.mid rfl rfl rfl ?_); refine OpV.box rfl rfl rfl ?_; intro _; refine w ?_))
  ((first | refine VO.step rfl rfl ?_ | refine VD.end rfl rfl rfl ?_ | refine VD.mid rfl rfl rfl ?_); refine OpV.call rfl rfl (fun _ _ => by simp) (dread_ok d k 0 (by subst hk; rfl) (by subst hk; decide)) Ent.re rfl ?_)
  rintro ⟨x, xc⟩ -
  rw [hl0]
  (refine w ?_; repeat ((first | refine VO.step rfl rfl ?_ | refine VD.end rfl rfl rfl ?_ | refine VD.mid rfl rfl rfl ?_); refine OpV.box rfl rfl rfl ?_; intro _; refine w ?_))
  ((first | refine VO.step rfl rfl ?_ | refine VD.end rfl rfl rfl ?_ | refine VD.mid rfl rfl rfl ?_); refine OpV.call rfl rfl (fun _ _ => by simp) (pending_ok d k (by omega)) Ent.re rfl ?_)
  rintro ⟨p, pc⟩ -
  rw [hpe, hcl]
  refine VO.know (fun w hw => hw.ownNone (show Own 3 1 (.slice p 3 pc) 3 (ints [0, 0, 1]) ∈ _ by (focus repeat first | exact .head _ | apply List.Mem.tail)) : ∀ w, _ → (p = none → 3 = 0)) ?_
  intro hp
  (refine w ?_; repeat ((first | refine VO.step rfl rfl ?_ | refine VD.end rfl rfl rfl ?_ | refine VD.mid rfl rfl rfl ?_); refine OpV.box rfl rfl rfl ?_; intro _; refine w ?_))
  ((first | refine VO.step rfl rfl ?_ | refine VD.end rfl rfl rfl ?_ | refine VD.mid rfl rfl rfl ?_); refine OpV.buildSlice1 st_51 rfl rfl (by first | (simp; done) | simp [Value.oneCell']) (by decide) rfl ?_; intro nb)
  (((first | refine VO.step rfl rfl ?_ | refine VD.end rfl rfl rfl ?_ | refine VD.mid rfl rfl rfl ?_); refine OpV.call rfl rfl (fun _ _ => by simp) (crash_ok (l := [true, false, true]) d k (Rds.row (bools_one _) (.head _) rfl)) Ent.re rfl ?_); intro _ _)
  rw [hse]
  (refine w ?_; repeat ((first | refine VO.step rfl rfl ?_ | refine VD.end rfl rfl rfl ?_ | refine VD.mid rfl rfl rfl ?_); refine OpV.box rfl rfl rfl ?_; intro _; refine w ?_))
  ((first | refine VO.step rfl rfl ?_ | refine VD.end rfl rfl rfl ?_ | refine VD.mid rfl rfl rfl ?_); refine OpV.call rfl rfl (fun _ _ => by simp) (dread_ok d ⟨[fullSec 97, fullSec 99], [], false⟩ 0 rfl (by simp)) Ent.re rfl ?_)
  rintro ⟨y, yc⟩ -
  rw [show DiskD.look ⟨[fullSec 97, fullSec 99], [], false⟩ 0 = fullSec 97 from rfl]
  (refine w ?_; repeat ((first | refine VO.step rfl rfl ?_ | refine VD.end rfl rfl rfl ?_ | refine VD.mid rfl rfl rfl ?_); refine OpV.box rfl rfl rfl ?_; intro _; refine w ?_))
  ((first | refine VO.step rfl rfl ?_ | refine VD.end rfl rfl rfl ?_ | refine VD.mid rfl rfl rfl ?_); refine OpV.call rfl rfl (fun _ _ => by simp) (dread_ok d ⟨[fullSec 97, fullSec 99], [], false⟩ 1 rfl (by simp)) Ent.re rfl ?_)
  rintro ⟨z, zc⟩ -
  rw [show DiskD.look ⟨[fullSec 97, fullSec 99], [], false⟩ 1 = fullSec 99 from rfl]
  (refine w ?_; repeat ((first | refine VO.step rfl rfl ?_ | refine VD.end rfl rfl rfl ?_ | refine VD.mid rfl rfl rfl ?_); refine OpV.box rfl rfl rfl ?_; intro _; refine w ?_))
  ((first | refine VO.step rfl rfl ?_ | refine VD.end rfl rfl rfl ?_ | refine VD.mid rfl rfl rfl ?_); refine OpV.buildSlice1 st_61 rfl rfl (by first | (simp; done) | simp [Value.oneCell']) (by decide) rfl ?_; intro nb)
  ((first | refine VO.step rfl rfl ?_ | refine VD.end rfl rfl rfl ?_ | refine VD.mid rfl rfl rfl ?_); refine OpV.call rfl rfl (fun _ _ => by simp) (sameints_any (a := [0, 0, 1]) (b := [0, 0, 1]) (Rds.own (ints_one _) (by (focus repeat first | exact .head _ | apply List.Mem.tail)) rfl hp) (Rds.row (ints_one _) (.head _) rfl) (by decide)) Ent.refl rfl ?_; intro _ _)
  (refine w ?_; repeat ((first | refine VO.step rfl rfl ?_ | refine VD.end rfl rfl rfl ?_ | refine VD.mid rfl rfl rfl ?_); refine OpV.box rfl rfl rfl ?_; intro _; refine w ?_))
  ((first | refine VO.step rfl rfl ?_ | refine VD.end rfl rfl rfl ?_ | refine VD.mid rfl rfl rfl ?_); refine OpV.call rfl rfl (fun _ _ => by simp) (sector_lit 98 (by decide)) Ent.re rfl ?_)
  intro q1 _
  (refine w ?_; repeat ((first | refine VO.step rfl rfl ?_ | refine VD.end rfl rfl rfl ?_ | refine VD.mid rfl rfl rfl ?_); refine OpV.box rfl rfl rfl ?_; intro _; refine w ?_))
  ((first | refine VO.step rfl rfl ?_ | refine VD.end rfl rfl rfl ?_ | refine VD.mid rfl rfl rfl ?_); refine OpV.call rfl rfl (fun _ _ => by simp) (same_any (a := fullSec 98) (b := fullSec 98) (Rds.own (bytes_one _) (show Own 5 1 (.slice (some x) 128 xc) 128 (bytes (fullSec 98)) ∈ _ by (focus repeat first | exact .head _ | apply List.Mem.tail)) (by simp) (fun h => by cases h)) SecO.rds (by decide)) Ent.refl rfl ?_; intro _ _)
  (refine w ?_; repeat ((first | refine VO.step rfl rfl ?_ | refine VD.end rfl rfl rfl ?_ | refine VD.mid rfl rfl rfl ?_); refine OpV.box rfl rfl rfl ?_; intro _; refine w ?_))
  ((first | refine VO.step rfl rfl ?_ | refine VD.end rfl rfl rfl ?_ | refine VD.mid rfl rfl rfl ?_); refine OpV.call rfl rfl (fun _ _ => by simp) (sector_lit 97 (by decide)) Ent.re rfl ?_)
  intro q2 _
  (refine w ?_; repeat ((first | refine VO.step rfl rfl ?_ | refine VD.end rfl rfl rfl ?_ | refine VD.mid rfl rfl rfl ?_); refine OpV.box rfl rfl rfl ?_; intro _; refine w ?_))
  ((first | refine VO.step rfl rfl ?_ | refine VD.end rfl rfl rfl ?_ | refine VD.mid rfl rfl rfl ?_); refine OpV.call rfl rfl (fun _ _ => by simp) (same_any (a := fullSec 97) (b := fullSec 97) (Rds.own (bytes_one _) (show Own 5 1 (.slice (some y) 128 yc) 128 (bytes (fullSec 97)) ∈ _ by (focus repeat first | exact .head _ | apply List.Mem.tail)) (by simp) (fun h => by cases h)) SecO.rds (by decide)) Ent.refl rfl ?_; intro _ _)
  (refine w ?_; repeat ((first | refine VO.step rfl rfl ?_ | refine VD.end rfl rfl rfl ?_ | refine VD.mid rfl rfl rfl ?_); refine OpV.box rfl rfl rfl ?_; intro _; refine w ?_))
  ((first | refine VO.step rfl rfl ?_ | refine VD.end rfl rfl rfl ?_ | refine VD.mid rfl rfl rfl ?_); refine OpV.call rfl rfl (fun _ _ => by simp) (sector_lit 99 (by decide)) Ent.re rfl ?_)
  intro q3 _
  (refine w ?_; repeat ((first | refine VO.step rfl rfl ?_ | refine VD.end rfl rfl rfl ?_ | refine VD.mid rfl rfl rfl ?_); refine OpV.box rfl rfl rfl ?_; intro _; refine w ?_))
  ((first | refine VO.step rfl rfl ?_ | refine VD.end rfl rfl rfl ?_ | refine VD.mid rfl rfl rfl ?_); refine OpV.call rfl rfl (fun _ _ => by simp) (same_any (a := fullSec 99) (b := fullSec 99) (Rds.own (bytes_one _) (show Own 5 1 (.slice (some z) 128 zc) 128 (bytes (fullSec 99)) ∈ _ by (focus repeat first | exact .head _ | apply List.Mem.tail)) (by simp) (fun h => by cases h)) SecO.rds (by decide)) Ent.refl rfl ?_; intro _ _)
  (refine w ?_; repeat ((first | refine VO.step rfl rfl ?_ | refine VD.end rfl rfl rfl ?_ | refine VD.mid rfl rfl rfl ?_); refine OpV.box rfl rfl rfl ?_; intro _; refine w ?_))
  (refine VE.done1 rfl ?_ ?_)
  · simp
  · exact Ent.re
end Go.Proofs.Ythefmgmgmoanlaa
