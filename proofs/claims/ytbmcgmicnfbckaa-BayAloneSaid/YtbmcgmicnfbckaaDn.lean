/- The statements of the disk: sector, SameInts, known. -/
import Derived.Test.YtbmcgmicnfbckaaDm
set_option maxRecDepth 8000
set_option linter.unusedVariables false
set_option linter.unusedSimpArgs false
set_option linter.unusedSectionVars false
namespace Go.Proofs.Ytbmcgmicnfbckaa
open Go.RowKit Go.Sl
attribute [local irreducible] Own

def fullSec (c : UInt8) : List UInt8 := List.replicate 128 c
@[simp] theorem fullSec_length (c : UInt8) : (fullSec c).length = 128 := List.length_replicate
abbrev SecO (b : Nat) (c : UInt8) : SProp := Own 5 1 (.slice (some ⟨b, 0, none⟩) 128 128) 128 (bytes (fullSec c))
theorem SecO.rds {W : World} {R : List SProp} {b : Nat} {c : UInt8} : Rds W (SecO b c :: R) 1 (some ⟨b, 0, none⟩) 128 (bytes (fullSec c)) := Rds.own (bytes_one _) (.head _) (by rw [bytes_length, fullSec_length]) (fun h => by cases h)
def partSec (c : UInt8) (i : Nat) : List Value := List.replicate i (byteV c) ++ List.replicate (128 - i) (.int .u8 0)
theorem partSec_set (c : UInt8) (i : Nat) (h : i < 128) : (partSec c i).set i (byteV c) = partSec c (i + 1) := by
  unfold partSec
  rw [List.set_append_right _ _ (by simp), List.length_replicate, Nat.sub_self, show 128 - i = (128 - (i + 1)) + 1 by omega, List.replicate_succ, List.set_cons_zero, List.replicate_succ', List.append_assoc]; rfl
theorem partSec_length (c : UInt8) (i : Nat) (h : i ≤ 128) : (partSec c i).length = 128 := by
  unfold partSec; rw [List.length_append, List.length_replicate, List.length_replicate]; omega
theorem partSec_all (c : UInt8) : partSec c 128 = bytes (fullSec c) := by
  unfold partSec fullSec bytes; rw [List.map_replicate]; simp only [Nat.sub_self, List.replicate_zero, List.append_nil]

theorem sameints_any {W : World} {R : List SProp} {ao ao' : Option Addr} {n n' cap cap' : Nat} {a b : List Nat} (ha : Rds W R 1 ao n (ints a)) (hb : Rds W R 1 ao' n' (ints b)) (hn : n ≤ maxLen) :
    Does1 W Try.prog 39 [.slice ao n cap, .slice ao' n' cap'] R (.bool (decide (a = b))) R := by
  have la : a.length = n := by have := ha.len; simpa using this
  have lb : b.length = n' := by have := hb.len; simpa using this
  unfold maxLen at hn
  (refine Does.enter Try.func39 Try.ntmps39 rfl rfl ?_)
  (refine w ?_; repeat ((first | refine VO.step rfl rfl ?_ | refine VD.end rfl rfl rfl ?_ | refine VD.mid rfl rfl rfl ?_); refine OpV.box rfl rfl rfl ?_; intro _; refine w ?_))
  by_cases hl : n = n'
  · subst hl
    (refine VC.condFe rfl rfl (by simp) ?_)
    (refine w ?_; repeat ((first | refine VO.step rfl rfl ?_ | refine VD.end rfl rfl rfl ?_ | refine VD.mid rfl rfl rfl ?_); refine OpV.box rfl rfl rfl ?_; intro _; refine w ?_))
    refine VC.loop (α := Nat) (fun j => j ≤ n ∧ ∀ i (h : i < a.length) (h' : i < b.length), i < j → a[i] = b[i]) (fun j => R)
      (fun j => [(0, .slice ao n cap), (1, .slice ao' n cap'), (5, .int .i64 j)]) (fun j => n - j) rfl 0 ⟨Nat.zero_le _, fun _ _ _ h => absurd h (by omega)⟩ Ent.refl ⟨rfl, rfl, rfl, trivial⟩ ?_
    rintro j ⟨hj, hi⟩
    (refine w ?_; repeat ((first | refine VO.step rfl rfl ?_ | refine VD.end rfl rfl rfl ?_ | refine VD.mid rfl rfl rfl ?_); refine OpV.box rfl rfl rfl ?_; intro _; refine w ?_))
    (refine VC.cond rfl rfl ?_ ?_ <;> intro hc)
    · have hlt : j < n := by simpa using hc
      obtain ⟨a0, rfl⟩ : ∃ a0, ao = some a0 := by cases ao with | none => have := ha.nil rfl; omega | some a0 => exact ⟨a0, rfl⟩
      obtain ⟨b0, rfl⟩ : ∃ b0, ao' = some b0 := by cases ao' with | none => have := hb.nil rfl; omega | some b0 => exact ⟨b0, rfl⟩
      (refine w ?_; repeat ((first | refine VO.step rfl rfl ?_ | refine VD.end rfl rfl rfl ?_ | refine VD.mid rfl rfl rfl ?_); refine OpV.box rfl rfl rfl ?_; intro _; refine w ?_))
      ((refine VC.quiet rfl (by kernel_rfl) (by kernel_rfl) ?_); (refine w ?_; repeat ((first | refine VO.step rfl rfl ?_ | refine VD.end rfl rfl rfl ?_ | refine VD.mid rfl rfl rfl ?_); refine OpV.box rfl rfl rfl ?_; intro _; refine w ?_)))
      (first | refine VO.pure rfl rfl (PureAt.ldR tab_ok rfl rfl ha (show (ints a)[j]? = some (.int .i64 ((a[j]'(by omega) : Nat) : Int)) by simp [ints, la, hlt])) rfl ?_ | refine VD.take rfl rfl rfl (PureAt.ldR tab_ok rfl rfl ha (show (ints a)[j]? = some (.int .i64 ((a[j]'(by omega) : Nat) : Int)) by simp [ints, la, hlt])) rfl ?_ | refine VQ.pure rfl rfl (PureAt.ldR tab_ok rfl rfl ha (show (ints a)[j]? = some (.int .i64 ((a[j]'(by omega) : Nat) : Int)) by simp [ints, la, hlt])) rfl ?_ | refine VD.end rfl rfl rfl (OpV.pure (PureAt.ldR tab_ok rfl rfl ha (show (ints a)[j]? = some (.int .i64 ((a[j]'(by omega) : Nat) : Int)) by simp [ints, la, hlt])) rfl ?_))
      (refine w ?_; repeat ((first | refine VO.step rfl rfl ?_ | refine VD.end rfl rfl rfl ?_ | refine VD.mid rfl rfl rfl ?_); refine OpV.box rfl rfl rfl ?_; intro _; refine w ?_))
      (first | refine VO.pure rfl rfl (PureAt.ldR tab_ok rfl rfl hb (show (ints b)[j]? = some (.int .i64 ((b[j]'(by omega) : Nat) : Int)) by simp [ints, lb, hlt])) rfl ?_ | refine VD.take rfl rfl rfl (PureAt.ldR tab_ok rfl rfl hb (show (ints b)[j]? = some (.int .i64 ((b[j]'(by omega) : Nat) : Int)) by simp [ints, lb, hlt])) rfl ?_ | refine VQ.pure rfl rfl (PureAt.ldR tab_ok rfl rfl hb (show (ints b)[j]? = some (.int .i64 ((b[j]'(by omega) : Nat) : Int)) by simp [ints, lb, hlt])) rfl ?_ | refine VD.end rfl rfl rfl (OpV.pure (PureAt.ldR tab_ok rfl rfl hb (show (ints b)[j]? = some (.int .i64 ((b[j]'(by omega) : Nat) : Int)) by simp [ints, lb, hlt])) rfl ?_))
      (refine w ?_; repeat ((first | refine VO.step rfl rfl ?_ | refine VD.end rfl rfl rfl ?_ | refine VD.mid rfl rfl rfl ?_); refine OpV.box rfl rfl rfl ?_; intro _; refine w ?_))
      (refine VC.cond rfl rfl ?_ ?_ <;> intro hc)
      · (refine w ?_; repeat ((first | refine VO.step rfl rfl ?_ | refine VD.end rfl rfl rfl ?_ | refine VD.mid rfl rfl rfl ?_); refine OpV.box rfl rfl rfl ?_; intro _; refine w ?_))
        (refine VE.done1 rfl ?_ ?_)
        · have hne : a[j]'(by omega) ≠ b[j]'(by omega) := by
            intro e; rw [e] at hc; simp at hc
          have : a ≠ b := fun e => hne (by subst e; rfl)
          simp [this]
        · exact Ent.refl
      · (refine w ?_; repeat ((first | refine VO.step rfl rfl ?_ | refine VD.end rfl rfl rfl ?_ | refine VD.mid rfl rfl rfl ?_); refine OpV.box rfl rfl rfl ?_; intro _; refine w ?_))
        have he : a[j]'(by omega) = b[j]'(by omega) := by
          have : ((a[j]'(by omega) : Nat) : Int) = ((b[j]'(by omega) : Nat) : Int) := by simpa using hc
          omega
        refine VE.round (j + 1) ⟨by omega, fun i h h' hij => ?_⟩ (by omega) ⟨rfl, rfl, rfl, trivial⟩ Ent.refl
        by_cases e : i = j
        · subst e; exact he
        · exact hi i h h' (by omega)
    · have hge : j = n := by have : ¬ j < n := by simpa using hc
                             omega
      (refine w ?_; repeat ((first | refine VO.step rfl rfl ?_ | refine VD.end rfl rfl rfl ?_ | refine VD.mid rfl rfl rfl ?_); refine OpV.box rfl rfl rfl ?_; intro _; refine w ?_))
      (refine VE.done1 rfl ?_ ?_)
      · have : a = b := List.ext_getElem (by omega) fun i h h' => hi i h h' (by omega)
        simp [this]
      · exact Ent.refl
  · (refine VC.condTe rfl rfl (by simp; omega) ?_)
    (refine w ?_; repeat ((first | refine VO.step rfl rfl ?_ | refine VD.end rfl rfl rfl ?_ | refine VD.mid rfl rfl rfl ?_); refine OpV.box rfl rfl rfl ?_; intro _; refine w ?_))
    (refine VE.done1 rfl ?_ ?_)
    · have : a ≠ b := fun e => hl (by subst e; omega)
      simp [this]
    · exact Ent.refl

def newDisk (n : Nat) : DiskD := ⟨List.replicate n zeroSec, [], false⟩

end Go.Proofs.Ytbmcgmicnfbckaa
