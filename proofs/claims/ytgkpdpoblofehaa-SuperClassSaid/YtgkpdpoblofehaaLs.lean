/- The reader's Raw, Noughts, End. -/
import Derived.Test.YtgkpdpoblofehaaLq
set_option maxRecDepth 8000
set_option linter.unusedVariables false
set_option linter.unusedSimpArgs false
set_option linter.unusedSectionVars false
namespace Go.Proofs.Ytgkpdpoblofehaa
open Go.RowKit Go.Sl

theorem notnought_ok {W : World} {R : List SProp} (c : UInt8) : Does1 W Try.prog 145 [.int .u8 (c.toNat : Int)] R (.bool (c != 0)) R := by
  (refine Does.enter Try.func145 Try.ntmps145 rfl rfl ?_)
  (refine w ?_; repeat ((first | refine VO.step rfl rfl ?_ | refine VD.end rfl rfl rfl ?_ | refine VD.mid rfl rfl rfl ?_); refine OpV.box rfl rfl rfl ?_; intro _; refine w ?_))
  (refine VE.done1 rfl ?_ ?_)
  · congr 1
    by_cases h : c = 0
    · subst h; rfl
    · have h1 : (c.toNat : Int) ≠ 0 := fun e => h (UInt8.toNat_inj.1 (by show c.toNat = 0; omega))
      rw [bne_iff_ne.2 h, bne_iff_ne.2 h1]
  · exact Ent.refl

/-- The first byte that is no nought. -/
def firstOdd (l : List UInt8) : Int := match l.findIdx? (· != 0) with
  | some j => j
  | none => -1

theorem index_ok {W : World} {R : List SProp} {ao : Option Addr} {n cap : Nat} {l : List UInt8} (ha : Rds W R 1 ao n (bytes l)) (hn : n ≤ 1099511627776) :
    Does1 W Try.prog 144 [.slice ao n cap, .func (.func 145) #[] #[]] R (.int .i64 (firstOdd l)) R := by
  have hl : l.length = n := by have := ha.len; simpa using this
  subst hl
  (refine Does.enter Try.func144 Try.ntmps144 rfl rfl ?_)
  (refine w ?_; repeat ((first | refine VO.step rfl rfl ?_ | refine VD.end rfl rfl rfl ?_ | refine VD.mid rfl rfl rfl ?_); refine OpV.box rfl rfl rfl ?_; intro _; refine w ?_))
  refine VC.loop (α := Nat) (fun j => j ≤ l.length ∧ ∀ i (h : i < l.length), i < j → l[i] = 0) (fun _ => R)
    (fun j => [(0, .slice ao l.length cap), (1, .func (.func 145) #[] #[]), (7, .int .i64 l.length), (8, .int .i64 j)]) (fun j => l.length - j) rfl 0 ⟨Nat.zero_le _, fun _ _ h => absurd h (by omega)⟩ Ent.refl ⟨rfl, rfl, rfl, rfl, trivial⟩ ?_
  rintro j ⟨hj, hi⟩
  (refine w ?_; repeat ((first | refine VO.step rfl rfl ?_ | refine VD.end rfl rfl rfl ?_ | refine VD.mid rfl rfl rfl ?_); refine OpV.box rfl rfl rfl ?_; intro _; refine w ?_))
  (refine VC.cond rfl rfl ?_ ?_ <;> intro hc)
  · have hlt : j < l.length := by simpa using hc
    obtain ⟨a, rfl⟩ : ∃ a, ao = some a := by cases ao with | none => have := ha.nil rfl; omega | some a => exact ⟨a, rfl⟩
    have hb1 := ha
    (refine w ?_; repeat ((first | refine VO.step rfl rfl ?_ | refine VD.end rfl rfl rfl ?_ | refine VD.mid rfl rfl rfl ?_); refine OpV.box rfl rfl rfl ?_; intro _; refine w ?_))
    ((first | refine VO.step rfl rfl ?_ | refine VD.end rfl rfl rfl ?_ | refine VD.mid rfl rfl rfl ?_); refine OpV.call rfl rfl (fun _ _ => by simp) (notnought_ok l[j]) Ent.refl rfl ?_)
    intro _ _
    (refine w ?_; repeat ((first | refine VO.step rfl rfl ?_ | refine VD.end rfl rfl rfl ?_ | refine VD.mid rfl rfl rfl ?_); refine OpV.box rfl rfl rfl ?_; intro _; refine w ?_))
    (refine VC.cond rfl rfl ?_ ?_ <;> intro hc)
    · (refine w ?_; repeat ((first | refine VO.step rfl rfl ?_ | refine VD.end rfl rfl rfl ?_ | refine VD.mid rfl rfl rfl ?_); refine OpV.box rfl rfl rfl ?_; intro _; refine w ?_))
      (refine VE.done1 rfl ?_ ?_)
      · have hne : l[j] ≠ 0 := by simpa using hc
        have : l.findIdx? (· != 0) = some j := by
          rw [List.findIdx?_eq_some_iff_getElem]
          exact ⟨hlt, by simpa using hne, fun i h => by simp [hi i (by omega) h]⟩
        simp only [firstOdd, this]
      · exact Ent.refl
    · have he : l[j] = 0 := by simpa using hc
      (refine w ?_; repeat ((first | refine VO.step rfl rfl ?_ | refine VD.end rfl rfl rfl ?_ | refine VD.mid rfl rfl rfl ?_); refine OpV.box rfl rfl rfl ?_; intro _; refine w ?_))
      refine VE.round (j + 1) ⟨hlt, fun i h hij => ?_⟩ (by omega) ⟨rfl, rfl, rfl, rfl, trivial⟩ Ent.refl
      by_cases e : i = j
      · subst e; exact he
      · exact hi i h (by omega)
  · have hge : j = l.length := by have : ¬ j < l.length := by simpa using hc
                                  omega
    (refine w ?_; repeat ((first | refine VO.step rfl rfl ?_ | refine VD.end rfl rfl rfl ?_ | refine VD.mid rfl rfl rfl ?_); refine OpV.box rfl rfl rfl ?_; intro _; refine w ?_))
    (refine VE.done1 rfl ?_ ?_)
    · have : l.findIdx? (· != 0) = none := by
        rw [List.findIdx?_eq_none_iff]
        intro x hx
        obtain ⟨i, h, rfl⟩ := List.mem_iff_getElem.1 hx
        simp [hi i h (by omega)]
      simp only [firstOdd, this]
    · exact Ent.refl

theorem Rk.number_bad {k : Rk} {n : Nat} (h : (k.short n).err ≠ 0) : k.number n = k.short n := by unfold Rk.number; rw [if_neg h]
theorem Rk.number_good {k : Rk} {n : Nat} (h : (k.short n).err = 0) : k.number n = { k with at_ := k.at_ + n } := by unfold Rk.number; rw [if_pos h]
def Rk.raw (k : Rk) (n : Int) : Rk := if n ≤ 0 then k else k.number n.toNat
def Rk.rawGot (k : Rk) (n : Int) : List UInt8 := if n ≤ 0 then [] else k.got n.toNat

theorem rraw_ok {W : World} {R : List SProp} (p : Nat) (k : Rk) (n : Int) :
    Does W Try.prog 88 [.pointer (some ⟨p, 0, none⟩), .int .i64 n] (ReaderR p k :: R) (β := Option Addr × Nat) (fun _ => True) (fun x => .slice x.1 (k.rawGot n).length x.2)
      (fun x => Own 5 1 (.slice x.1 (k.rawGot n).length x.2) (k.rawGot n).length (bytes (k.rawGot n)) :: ReaderR p (k.raw n) :: R) := by
  (refine Does.enter Try.func88 Try.ntmps88 rfl rfl ?_)
  refine VC.know (fun w => ReaderR.know) ?_
  intro hk
  have ⟨h1, h2⟩ := hk
  (refine w ?_; repeat ((first | refine VO.step rfl rfl ?_ | refine VD.end rfl rfl rfl ?_ | refine VD.mid rfl rfl rfl ?_); refine OpV.box rfl rfl rfl ?_; intro _; refine w ?_))
  (refine VC.cond rfl rfl ?_ ?_ <;> intro hc)
  · have hn : n ≤ 0 := by simpa using hc
    (refine w ?_; repeat ((first | refine VO.step rfl rfl ?_ | refine VD.end rfl rfl rfl ?_ | refine VD.mid rfl rfl rfl ?_); refine OpV.box rfl rfl rfl ?_; intro _; refine w ?_))
    refine VE.done (none, 0) rfl trivial (by simp [Rk.rawGot, hn]) ?_
    simp only [Rk.rawGot, Rk.raw, hn, if_true]
    exact fun w hw => hw.ownNil _ _
  · have hn : ¬ n ≤ 0 := by simpa using hc
    obtain ⟨m, rfl⟩ : ∃ m : Nat, n = m := ⟨n.toNat, by omega⟩
    have e1 : k.rawGot m = k.got m := by unfold Rk.rawGot; rw [if_neg hn]; rfl
    have e2 : k.raw m = k.number m := by unfold Rk.raw; rw [if_neg hn]; rfl
    rw [e1, e2]
    (refine w ?_; repeat ((first | refine VO.step rfl rfl ?_ | refine VD.end rfl rfl rfl ?_ | refine VD.mid rfl rfl rfl ?_); refine OpV.box rfl rfl rfl ?_; intro _; refine w ?_))
    by_cases hg : (k.short m).err = 0
    · obtain ⟨hs, hb, hle⟩ := Rk.short_zero hg
      have hlen := Rk.got_length hg
      ((first | refine VO.step rfl rfl ?_ | refine VD.end rfl rfl rfl ?_ | refine VD.mid rfl rfl rfl ?_); refine OpV.call rfl rfl (fun _ _ => by simp) (next_good p k m hg) Ent.re rfl ?_)
      rintro ⟨ao, cap⟩ hcap
      refine VO.know (fun w hw => hw.ownNone (by (focus repeat first | exact .head _ | apply List.Mem.tail))) ?_
      intro hnone
      have hr := got_rds (W := W) (H := ReaderO p k ao cap R) hk hg hcap hnone (by (focus repeat first | exact .head _ | apply List.Mem.tail))
      ((first | refine VO.step rfl rfl ?_ | refine VD.end rfl rfl rfl ?_ | refine VD.mid rfl rfl rfl ?_); refine OpV.call rfl rfl (fun _ _ => by simp) (clone_ok hr (by omega)) Ent.re rfl ?_)
      rintro ⟨ao', cap'⟩ -
      (refine w ?_; repeat ((first | refine VO.step rfl rfl ?_ | refine VD.end rfl rfl rfl ?_ | refine VD.mid rfl rfl rfl ?_); refine OpV.box rfl rfl rfl ?_; intro _; refine w ?_))
      refine VE.done (ao', cap') rfl trivial (by rw [hlen]) ?_
      rw [hlen, Rk.number_good hg]
      exact fun w hw => (ReaderR.shut (k := { k with at_ := k.at_ + m }) ⟨by simp only; omega, h2⟩ w (hw.reord (L := Row p 173 [.slice ao k.b.length cap, .int .i64 ((k.at_ + m : Nat) : Int), .int .u16 k.err, .int .i64 k.wh] :: Own 5 1 (.slice ao k.b.length cap) k.b.length (bytes k.b) :: Own 5 1 (.slice ao' m cap') m (bytes (k.got m)) :: R) (by (repeat first | exact .refl | (apply Reord.cons; focus repeat first | exact .head | apply Del.tail) | exact .nil | apply Reord.drop)))).swap
    · have hgot : k.got m = [] := by unfold Rk.got; rw [if_neg hg]
      (((first | refine VO.step rfl rfl ?_ | refine VD.end rfl rfl rfl ?_ | refine VD.mid rfl rfl rfl ?_); refine OpV.call rfl rfl (fun _ _ => by simp) (next_bad p k m hg) Ent.re rfl ?_); intro _ _)
      (first | refine VO.step rfl rfl ?_ | refine VD.end rfl rfl rfl ?_ | refine VD.mid rfl rfl rfl ?_)
      have hr : Rds W (ReaderR p (k.short m) :: R) 1 none 0 (bytes []) := ⟨rfl, by simp [bytes], fun _ => rfl, fun _ _ _ h => by cases h⟩
      refine OpV.call rfl rfl (fun _ _ => by simp) (clone_ok hr (by decide)) Ent.refl rfl ?_
      rintro ⟨ao', cap'⟩ -
      refine VO.obtain (fun w hw => by
        obtain ⟨x, h⟩ := ReaderR.open hw.swap
        exact ⟨x, h⟩) ?_
      rintro ⟨⟨ao, cap⟩, hk'⟩
      have ⟨h1', h2'⟩ := hk'
      (refine w ?_; repeat ((first | refine VO.step rfl rfl ?_ | refine VD.end rfl rfl rfl ?_ | refine VD.mid rfl rfl rfl ?_); refine OpV.box rfl rfl rfl ?_; intro _; refine w ?_))
      refine VE.done (ao', cap') rfl trivial (by rw [hgot]; rfl) ?_
      rw [hgot, Rk.number_bad hg]
      exact fun w hw => (ReaderR.shut hk' w (hw.reord (by (repeat first | exact .refl | (apply Reord.cons; focus repeat first | exact .head | apply Del.tail) | exact .nil | apply Reord.drop)))).swap

def Rk.noughts (k : Rk) (n : Int) : Rk :=
  if n ≤ 0 then k else if (k.short n.toNat).err ≠ 0 then k.short n.toNat else
  if 0 ≤ firstOdd (k.got n.toNat) then { k with err := 12, wh := k.at_ + firstOdd (k.got n.toNat) } else { k with at_ := k.at_ + n.toNat }

theorem firstOdd_lt (l : List UInt8) : -1 ≤ firstOdd l ∧ firstOdd l ≤ l.length := by
  unfold firstOdd
  split
  · rename_i j h
    obtain ⟨h1, _⟩ := List.findIdx?_eq_some_iff_getElem.1 h
    omega
  · omega

theorem rnoughts_ok {W : World} {R : List SProp} (p : Nat) (k : Rk) (n : Int) :
    Does1 W Try.prog 128 [.pointer (some ⟨p, 0, none⟩), .int .i64 n] (ReaderR p k :: R) (.tuple #[]) (ReaderR p (k.noughts n) :: R) := by
  (refine Does.enter Try.func128 Try.ntmps128 rfl rfl ?_)
  refine VC.know (fun w => ReaderR.know) ?_
  intro hk
  have ⟨h1, h2⟩ := hk
  (refine w ?_; repeat ((first | refine VO.step rfl rfl ?_ | refine VD.end rfl rfl rfl ?_ | refine VD.mid rfl rfl rfl ?_); refine OpV.box rfl rfl rfl ?_; intro _; refine w ?_))
  (refine VC.cond rfl rfl ?_ ?_ <;> intro hc)
  · have hn : n ≤ 0 := by simpa using hc
    (refine w ?_; repeat ((first | refine VO.step rfl rfl ?_ | refine VD.end rfl rfl rfl ?_ | refine VD.mid rfl rfl rfl ?_); refine OpV.box rfl rfl rfl ?_; intro _; refine w ?_))
    (refine VE.done1 rfl ?_ ?_)
    · rfl
    · unfold Rk.noughts; rw [if_pos hn]; exact Ent.refl
  · have hn : ¬ n ≤ 0 := by simpa using hc
    obtain ⟨m, rfl⟩ : ∃ m : Nat, n = m := ⟨n.toNat, by omega⟩
    (refine w ?_; repeat ((first | refine VO.step rfl rfl ?_ | refine VD.end rfl rfl rfl ?_ | refine VD.mid rfl rfl rfl ?_); refine OpV.box rfl rfl rfl ?_; intro _; refine w ?_))
    by_cases hg : (k.short m).err = 0
    · obtain ⟨hs, hb, hle⟩ := Rk.short_zero hg
      have hlen := Rk.got_length hg
      have hf := firstOdd_lt (k.got m)
      ((first | refine VO.step rfl rfl ?_ | refine VD.end rfl rfl rfl ?_ | refine VD.mid rfl rfl rfl ?_); refine OpV.call rfl rfl (fun _ _ => by simp) (next_good p k m hg) Ent.re rfl ?_)
      rintro ⟨ao, cap⟩ hcap
      refine VO.know (fun w hw => hw.ownNone (by (focus repeat first | exact .head _ | apply List.Mem.tail))) ?_
      intro hnone
      have hr := got_rds (W := W) (H := ReaderO p k ao cap R) hk hg hcap hnone (by (focus repeat first | exact .head _ | apply List.Mem.tail))
      (refine w ?_; repeat ((first | refine VO.step rfl rfl ?_ | refine VD.end rfl rfl rfl ?_ | refine VD.mid rfl rfl rfl ?_); refine OpV.box rfl rfl rfl ?_; intro _; refine w ?_))
      ((first | refine VO.step rfl rfl ?_ | refine VD.end rfl rfl rfl ?_ | refine VD.mid rfl rfl rfl ?_); refine OpV.call rfl rfl (fun _ _ => by simp) (index_ok hr (by omega)) Ent.refl rfl ?_; intro _ _)
      (refine w ?_; repeat ((first | refine VO.step rfl rfl ?_ | refine VD.end rfl rfl rfl ?_ | refine VD.mid rfl rfl rfl ?_); refine OpV.box rfl rfl rfl ?_; intro _; refine w ?_))
      (refine VC.cond rfl rfl ?_ ?_ <;> intro hc)
      · have hge : 0 ≤ firstOdd (k.got m) := by simpa using hc
        (refine w ?_; repeat ((first | refine VO.step rfl rfl ?_ | refine VD.end rfl rfl rfl ?_ | refine VD.mid rfl rfl rfl ?_); refine OpV.box rfl rfl rfl ?_; intro _; refine w ?_))
        (((first | refine VO.step rfl rfl ?_ | refine VD.end rfl rfl rfl ?_ | refine VD.mid rfl rfl rfl ?_); refine OpV.call rfl rfl (fun _ _ => by simp) (rfail_ok p k 12 (k.at_ + firstOdd (k.got m))) (ReaderR.shut hk) rfl ?_); intro _ _)
        (refine w ?_; repeat ((first | refine VO.step rfl rfl ?_ | refine VD.end rfl rfl rfl ?_ | refine VD.mid rfl rfl rfl ?_); refine OpV.box rfl rfl rfl ?_; intro _; refine w ?_))
        (refine VE.done1 rfl ?_ ?_)
        · rfl
        · unfold Rk.noughts
          rw [Int.toNat_natCast, if_neg hn, if_neg (by simpa using hg), if_pos hge]
          exact Ent.refl
      · have hge : ¬ 0 ≤ firstOdd (k.got m) := by simpa using hc
        (refine w ?_; repeat ((first | refine VO.step rfl rfl ?_ | refine VD.end rfl rfl rfl ?_ | refine VD.mid rfl rfl rfl ?_); refine OpV.box rfl rfl rfl ?_; intro _; refine w ?_))
        (refine VE.done1N rfl ?_ ?_)
        · rfl
        · unfold Rk.noughts
          rw [Int.toNat_natCast, if_neg hn, if_neg (by simpa using hg), if_neg hge]
          exact ReaderR.shut (k := { k with at_ := k.at_ + m }) ⟨by simp only; omega, h2⟩
    · (((first | refine VO.step rfl rfl ?_ | refine VD.end rfl rfl rfl ?_ | refine VD.mid rfl rfl rfl ?_); refine OpV.call rfl rfl (fun _ _ => by simp) (next_bad p k m hg) Ent.re rfl ?_); intro _ _)
      (refine w ?_; repeat ((first | refine VO.step rfl rfl ?_ | refine VD.end rfl rfl rfl ?_ | refine VD.mid rfl rfl rfl ?_); refine OpV.box rfl rfl rfl ?_; intro _; refine w ?_))
      have hr : Rds W (ReaderR p (k.short m) :: R) 1 none 0 (bytes []) := ⟨rfl, by simp [bytes], fun _ => rfl, fun _ _ _ h => by cases h⟩
      ((first | refine VO.step rfl rfl ?_ | refine VD.end rfl rfl rfl ?_ | refine VD.mid rfl rfl rfl ?_); refine OpV.call rfl rfl (fun _ _ => by simp) (index_ok hr (by decide)) Ent.refl rfl ?_; intro _ _)
      refine VO.obtain (fun w hw => ReaderR.open hw) ?_
      rintro ⟨⟨ao, cap⟩, hk'⟩
      have ⟨h1', h2'⟩ := hk'
      (refine w ?_; repeat ((first | refine VO.step rfl rfl ?_ | refine VD.end rfl rfl rfl ?_ | refine VD.mid rfl rfl rfl ?_); refine OpV.box rfl rfl rfl ?_; intro _; refine w ?_))
      (refine VE.done1N rfl ?_ ?_)
      · rfl
      · unfold Rk.noughts
        rw [Int.toNat_natCast, if_neg hn, if_pos (by simpa using hg)]
        exact ReaderR.shut hk'

/-- The law's call of a reader. -/
def Rk.reads (k : Rk) (o : OpD) : Rk :=
  if o.kind = 1 then k.number 1 else if o.kind = 2 then k.number 2 else if o.kind = 3 then k.number 4 else if o.kind = 4 then k.number 8 else
  if o.kind = 5 then k.raw o.n else if o.kind = 6 then k.noughts o.n else k
def Rk.readsV (k : Rk) (o : OpD) : Nat :=
  if o.kind = 1 then leVal (k.got 1) else if o.kind = 2 then leVal (k.got 2) else if o.kind = 3 then leVal (k.got 4) else if o.kind = 4 then leVal (k.got 8) else 0
def Rk.readsL (k : Rk) (o : OpD) : List UInt8 := if o.kind = 5 then k.rawGot o.n else []

end Go.Proofs.Ytgkpdpoblofehaa
