/- Package bay: a disk's calls in one form, a bay's memory. -/
import Derived.Test.YtbmcgmicnfbckaaLo
import Derived.Test.YtbmcgmicnfbckaaSlk
set_option maxRecDepth 8000
set_option linter.unusedVariables false
set_option linter.unusedSimpArgs false
set_option linter.unusedSectionVars false
namespace Go.Proofs.Ytbmcgmicnfbckaa
open Go.RowKit Go.Sl
attribute [local irreducible] Own

theorem img_len {k : DiskD} (hk : k.ok) : k.last.flatten.length = k.last.length * 128 := by
  have : ∀ l : List (List UInt8), (∀ b ∈ l, b.length = 128) → l.flatten.length = l.length * 128 := fun l => by
    induction l with
    | nil => intro _; rfl
    | cons a r ih => intro h; rw [List.flatten_cons, List.length_append, ih fun b hb => h b (.tail _ hb), h a (.head _), List.length_cons, Nat.add_mul]; omega
  exact this k.last hk.last

/-! ### A disk's calls, each in one form -/

def DiskD.rd (k : DiskD) (a : Int) : List UInt8 × Int := if k.may a = 0 then (k.look a.toNat, 0) else ([], k.may a)
def DiskD.wr (k : DiskD) (a : Int) (b : List UInt8) : Int × DiskD := if k.may a ≠ 0 then (k.may a, k) else if b.length ≠ 128 then (4, k) else (0, k.write a.toNat b)
def DiskD.fl (k : DiskD) : Int × DiskD := if k.failed then (2, k) else (0, k.settle fun _ => true)
def DiskD.fail (k : DiskD) : DiskD := (DiskD.mk k.last k.cache true).settle fun _ => false
def DiskD.img (k : DiskD) : List UInt8 := if k.failed then [] else k.last.flatten
def DiskD.blank (n : Nat) : DiskD := ⟨List.replicate n zeroSec, [], false⟩

abbrev OwnB (x : Option Addr × Nat) (l : List UInt8) : SProp := Own 5 1 (.slice x.1 l.length x.2) l.length (bytes l)
abbrev sliceB (x : Option Addr × Nat) (l : List UInt8) : Value := .slice x.1 l.length x.2

theorem DiskD.may_cases (k : DiskD) (a : Int) : k.may a = 0 ∨ k.may a = 2 ∨ k.may a = 3 := by
  unfold DiskD.may; split
  · exact .inr (.inl rfl)
  · split
    · exact .inr (.inr rfl)
    · exact .inl rfl

theorem drd_ok {W : World} {R : List SProp} (d : Nat) (k : DiskD) (a : Int) :
    Does W Try.prog 24 [.pointer (some ⟨d, 0, none⟩), .int .i64 a] (DiskR d k :: R) (β := Option Addr × Nat) (fun x => x.1 = none → (k.rd a).1.length = 0) (fun x => .tuple #[sliceB x (k.rd a).1, .int .u16 (k.rd a).2]) (fun x => OwnB x (k.rd a).1 :: DiskR d k :: R) := by
  by_cases h : k.may a = 0
  · obtain ⟨hf, h0, h1⟩ := may_zero h
    obtain ⟨n, rfl⟩ := Int.eq_ofNat_of_zero_le h0
    have hn : n < k.last.length := by omega
    have e : k.rd (n : Int) = (k.look n, 0) := by unfold DiskD.rd; rw [if_pos h]; rfl
    rw [e]
    refine DoesK (fun w => DiskR.know) fun hk => ?_
    have hl := DiskD.look_128 hk hn
    refine Does.mono (dread_ok d k n hf hn) (fun x => (some x.1, x.2)) (fun _ _ h => by cases h) (fun x _ => by simp only [sliceB, hl]) fun x _ => ?_
    simp only [OwnB, hl]; exact Ent.refl
  · have e : k.rd a = ([], k.may a) := by unfold DiskD.rd; rw [if_neg h]
    rw [e]
    exact Does1M (read_bad d k a h) (none, 0) (fun _ => rfl) rfl fun w hw => hw.ownNil 5 1
theorem dwr_ok {W : World} {R : List SProp} {ao : Option Addr} {cap : Nat} {b : List UInt8} (d : Nat) (k : DiskD) (a : Int) (hc : k.cache.length ≤ 1000000) (hr : Rds W R 1 ao b.length (bytes b)) :
    Does1 W Try.prog 25 [.pointer (some ⟨d, 0, none⟩), .int .i64 a, .slice ao b.length cap] (DiskR d k :: R) (.int .u16 (k.wr a b).1) (DiskR d (k.wr a b).2 :: R) := by
  unfold DiskD.wr
  by_cases h : k.may a = 0
  · rw [if_neg (by simpa using h)]
    by_cases hb : b.length = 128
    · rw [if_neg (by simpa using hb)]
      obtain ⟨hf, h0, h1⟩ := may_zero h
      obtain ⟨n, rfl⟩ := Int.eq_ofNat_of_zero_le h0
      rw [hb] at hr ⊢
      exact write_ok d k n (by omega) hf hb hc hr
    · rw [if_pos hb]; exact write_len d k a h hb
  · rw [if_pos h]; exact write_bad d k a h
theorem dfl_ok {W : World} {R : List SProp} (d : Nat) (k : DiskD) :
    Does1 W Try.prog 26 [.pointer (some ⟨d, 0, none⟩)] (DiskR d k :: R) (.int .u16 k.fl.1) (DiskR d k.fl.2 :: R) := by
  unfold DiskD.fl
  cases h : k.failed
  · exact flush_ok d k h
  · exact flush_bad d k h
theorem dimg_ok {W : World} {R : List SProp} (d : Nat) (k : DiskD) :
    Does W Try.prog 28 [.pointer (some ⟨d, 0, none⟩)] (DiskR d k :: R) (β := Option Addr × Nat) (fun x => x.1 = none → k.img.length = 0) (fun x => sliceB x k.img) (fun x => OwnB x k.img :: DiskR d k :: R) := by
  refine DoesA (A := fun _ => True) ?_ (fun x _ w hw => hw.ownNone (.head _))
  unfold DiskD.img
  cases h : k.failed
  · refine DoesK (fun w => DiskR.know) fun hk => ?_
    have hl := img_len hk
    refine Does.mono (image_ok d k h) id (fun _ _ => trivial) (fun x _ => by simp [sliceB, hl]) fun x _ => ?_
    simp only [OwnB, hl, Bool.false_eq_true, if_false, id]; exact Ent.refl
  · exact Does1M (image_bad d k h) (none, 0) trivial rfl fun w hw => hw.ownNil 5 1
end Go.Proofs.Ytbmcgmicnfbckaa
