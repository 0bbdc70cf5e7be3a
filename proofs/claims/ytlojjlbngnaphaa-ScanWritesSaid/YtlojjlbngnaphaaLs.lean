/- The reader's Raw, Noughts, End. -/
import Derived.Test.YtlojjlbngnaphaaLq
set_option maxRecDepth 8000
set_option linter.unusedVariables false
set_option linter.unusedSimpArgs false
set_option linter.unusedSectionVars false
namespace Go.Proofs.Ytlojjlbngnaphaa
open Go.RowKit Go.Sl

/-- The first byte that is no nought. -/
def firstOdd (l : List UInt8) : Int := match l.findIdx? (· != 0) with
  | some j => j
  | none => -1

theorem Rk.number_bad {k : Rk} {n : Nat} (h : (k.short n).err ≠ 0) : k.number n = k.short n := by unfold Rk.number; rw [if_neg h]
theorem Rk.number_good {k : Rk} {n : Nat} (h : (k.short n).err = 0) : k.number n = { k with at_ := k.at_ + n } := by unfold Rk.number; rw [if_pos h]
def Rk.raw (k : Rk) (n : Int) : Rk := if n ≤ 0 then k else k.number n.toNat
def Rk.rawGot (k : Rk) (n : Int) : List UInt8 := if n ≤ 0 then [] else k.got n.toNat

theorem rraw_ok {W : World} {R : List SProp} (p : Nat) (k : Rk) (n : Int) :
    Does W Try.prog 105 [.pointer (some ⟨p, 0, none⟩), .int .i64 n] (ReaderR p k :: R) (β := Option Addr × Nat) (fun _ => True) (fun x => .slice x.1 (k.rawGot n).length x.2)
      (fun x => Own 5 1 (.slice x.1 (k.rawGot n).length x.2) (k.rawGot n).length (bytes (k.rawGot n)) :: ReaderR p (k.raw n) :: R) := by
  (refine Does.enter Try.func105 Try.ntmps105 rfl rfl ?_)
  refine VC.know (fun w => ReaderR.know) ?_
  intro hk
  have ⟨h1, h2⟩ := hk
  (refine w ?_; repeat ((first | refine VO.step rfl rfl ?_ | refine VD.end rfl rfl rfl ?_ | refine VD.mid rfl rfl rfl ?_); refine OpV.box rfl rfl rfl ?_; intro _; refine w ?_))
  (refine VC.cond rfl rfl ?_ ?_ <;> intro hc)
  · have hn : n ≤ 0 := by simpa using hc
    (refine w ?_; repeat ((first | refine VO.step rfl rfl ?_ | refine VD.end rfl rfl rfl ?_ | refine VD.mid rfl rfl rfl ?_); refine OpV.box rfl rfl rfl ?_; intro _; refine w ?_))
    refine VE.done (none, 0) rfl trivial (by simp [Rk.rawGot, hn]) ?_
    simp only [Rk.rawGot, Rk.raw, hn, if_true]
    exact fun w hw => hw.ownNil _ _
  · have hn : ¬ n ≤ 0 := by simpa using hc
    obtain ⟨m, rfl⟩ : ∃ m : Nat, n = m := ⟨n.toNat, by omega⟩
    have e1 : k.rawGot m = k.got m := by unfold Rk.rawGot; rw [if_neg hn]; rfl
    have e2 : k.raw m = k.number m := by unfold Rk.raw; rw [if_neg hn]; rfl
    rw [e1, e2]
    (refine w ?_; repeat ((first | refine VO.step rfl rfl ?_ | refine VD.end rfl rfl rfl ?_ | refine VD.mid rfl rfl rfl ?_); refine OpV.box rfl rfl rfl ?_; intro _; refine w ?_))
    by_cases hg : (k.short m).err = 0
    · obtain ⟨hs, hb, hle⟩ := Rk.short_zero hg
      have hlen := Rk.got_length hg
      ((first | refine VO.step rfl rfl ?_ | refine VD.end rfl rfl rfl ?_ | refine VD.mid rfl rfl rfl ?_); refine OpV.call rfl rfl (fun _ _ => by simp) (next_good p k m hg) Ent.re rfl ?_)
      rintro ⟨ao, cap⟩ hcap
      refine VO.know (fun w hw => hw.ownNone (by (focus repeat first | exact .head _ | apply List.Mem.tail))) ?_
      intro hnone
      have hr := got_rds (W := W) (H := ReaderO p k ao cap R) hk hg hcap hnone (by (focus repeat first | exact .head _ | apply List.Mem.tail))
      ((first | refine VO.step rfl rfl ?_ | refine VD.end rfl rfl rfl ?_ | refine VD.mid rfl rfl rfl ?_); refine OpV.call rfl rfl (fun _ _ => by simp) (clone_ok hr (by omega)) Ent.re rfl ?_)
      rintro ⟨ao', cap'⟩ -
      (refine w ?_; repeat ((first | refine VO.step rfl rfl ?_ | refine VD.end rfl rfl rfl ?_ | refine VD.mid rfl rfl rfl ?_); refine OpV.box rfl rfl rfl ?_; intro _; refine w ?_))
      refine VE.done (ao', cap') rfl trivial (by rw [hlen]) ?_
      rw [hlen, Rk.number_good hg]
      exact fun w hw => (ReaderR.shut (k := { k with at_ := k.at_ + m }) ⟨by simp only; omega, h2⟩ w (hw.reord (L := Row p 186 [.slice ao k.b.length cap, .int .i64 ((k.at_ + m : Nat) : Int), .int .u16 k.err, .int .i64 k.wh] :: Own 5 1 (.slice ao k.b.length cap) k.b.length (bytes k.b) :: Own 5 1 (.slice ao' m cap') m (bytes (k.got m)) :: R) (by (repeat first | exact .refl | (apply Reord.cons; focus repeat first | exact .head | apply Del.tail) | exact .nil | apply Reord.drop)))).swap
    · have hgot : k.got m = [] := by unfold Rk.got; rw [if_neg hg]
      (((first | refine VO.step rfl rfl ?_ | refine VD.end rfl rfl rfl ?_ | refine VD.mid rfl rfl rfl ?_); refine OpV.call rfl rfl (fun _ _ => by simp) (next_bad p k m hg) Ent.re rfl ?_); intro _ _)
      (first | refine VO.step rfl rfl ?_ | refine VD.end rfl rfl rfl ?_ | refine VD.mid rfl rfl rfl ?_)
      have hr : Rds W (ReaderR p (k.short m) :: R) 1 none 0 (bytes []) := ⟨rfl, by simp [bytes], fun _ => rfl, fun _ _ _ h => by cases h⟩
      refine OpV.call rfl rfl (fun _ _ => by simp) (clone_ok hr (by decide)) Ent.refl rfl ?_
      rintro ⟨ao', cap'⟩ -
      refine VO.obtain (fun w hw => by
        obtain ⟨x, h⟩ := ReaderR.open hw.swap
        exact ⟨x, h⟩) ?_
      rintro ⟨⟨ao, cap⟩, hk'⟩
      have ⟨h1', h2'⟩ := hk'
      (refine w ?_; repeat ((first | refine VO.step rfl rfl ?_ | refine VD.end rfl rfl rfl ?_ | refine VD.mid rfl rfl rfl ?_); refine OpV.box rfl rfl rfl ?_; intro _; refine w ?_))
      refine VE.done (ao', cap') rfl trivial (by rw [hgot]; rfl) ?_
      rw [hgot, Rk.number_bad hg]
      exact fun w hw => (ReaderR.shut hk' w (hw.reord (by (repeat first | exact .refl | (apply Reord.cons; focus repeat first | exact .head | apply Del.tail) | exact .nil | apply Reord.drop)))).swap

def Rk.noughts (k : Rk) (n : Int) : Rk :=
  if n ≤ 0 then k else if (k.short n.toNat).err ≠ 0 then k.short n.toNat else
  if 0 ≤ firstOdd (k.got n.toNat) then { k with err := 12, wh := k.at_ + firstOdd (k.got n.toNat) } else { k with at_ := k.at_ + n.toNat }

theorem firstOdd_lt (l : List UInt8) : -1 ≤ firstOdd l ∧ firstOdd l ≤ l.length := by
  unfold firstOdd
  split
  · rename_i j h
    obtain ⟨h1, _⟩ := List.findIdx?_eq_some_iff_getElem.1 h
    omega
  · omega

/-- The law's call of a reader. -/
def Rk.reads (k : Rk) (o : OpD) : Rk :=
  if o.kind = 1 then k.number 1 else if o.kind = 2 then k.number 2 else if o.kind = 3 then k.number 4 else if o.kind = 4 then k.number 8 else
  if o.kind = 5 then k.raw o.n else if o.kind = 6 then k.noughts o.n else k
def Rk.readsV (k : Rk) (o : OpD) : Nat :=
  if o.kind = 1 then leVal (k.got 1) else if o.kind = 2 then leVal (k.got 2) else if o.kind = 3 then leVal (k.got 4) else if o.kind = 4 then leVal (k.got 8) else 0
def Rk.readsL (k : Rk) (o : OpD) : List UInt8 := if o.kind = 5 then k.rawGot o.n else []

end Go.Proofs.Ytlojjlbngnaphaa
