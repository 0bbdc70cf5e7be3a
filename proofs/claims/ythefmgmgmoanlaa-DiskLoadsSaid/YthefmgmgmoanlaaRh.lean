/- What is lent of bools; the book with lists of bytes and lists of ints. -/
import Derived.Test.YthefmgmgmoanlaaRg
import Derived.Test.YthefmgmgmoanlaaBi
set_option maxRecDepth 8000
set_option linter.unusedVariables false
set_option linter.unusedSimpArgs false
set_option linter.unusedSectionVars false
namespace Go.Proofs.Ythefmgmgmoanlaa
open Go.RowKit Go.Sl
attribute [local irreducible] Own

theorem samebools_same {W : World} {R : List SProp} {ao ao' : Option Addr} {n cap cap' : Nat} {a : List Bool} (ha : Rds W R 1 ao n (bools a)) (hb : Rds W R 1 ao' n (bools a)) (hn : n ≤ maxLen) :
    Does1 W Try.prog 123 [.slice ao n cap, .slice ao' n cap'] R (.bool true) R := by
  have la : a.length = n := by have := ha.len; simpa using this
  unfold maxLen at hn
  (refine Does.enter Try.func123 Try.ntmps123 rfl rfl ?_)
  (refine w ?_; repeat ((first | refine VO.step rfl rfl ?_ | refine VD.end rfl rfl rfl ?_ | refine VD.mid rfl rfl rfl ?_); refine OpV.box rfl rfl rfl ?_; intro _; refine w ?_))
  (refine VC.condFe rfl rfl (by simp) ?_)
  (refine w ?_; repeat ((first | refine VO.step rfl rfl ?_ | refine VD.end rfl rfl rfl ?_ | refine VD.mid rfl rfl rfl ?_); refine OpV.box rfl rfl rfl ?_; intro _; refine w ?_))
  refine VC.loop (α := Nat) (fun j => j ≤ n) (fun j => R)
    (fun j => [(0, .slice ao n cap), (1, .slice ao' n cap'), (5, .int .i64 j)]) (fun j => n - j) rfl 0 (Nat.zero_le _) Ent.refl ⟨rfl, rfl, rfl, trivial⟩ ?_
  intro j hj
  (refine w ?_; repeat ((first | refine VO.step rfl rfl ?_ | refine VD.end rfl rfl rfl ?_ | refine VD.mid rfl rfl rfl ?_); refine OpV.box rfl rfl rfl ?_; intro _; refine w ?_))
  (refine VC.cond rfl rfl ?_ ?_ <;> intro hc)
  · have hlt : j < n := by simpa using hc
    obtain ⟨a0, rfl⟩ : ∃ a0, ao = some a0 := by cases ao with | none => have := ha.nil rfl; omega | some a0 => exact ⟨a0, rfl⟩
    obtain ⟨b0, rfl⟩ : ∃ b0, ao' = some b0 := by cases ao' with | none => have := hb.nil rfl; omega | some b0 => exact ⟨b0, rfl⟩
    (refine w ?_; repeat ((first | refine VO.step rfl rfl ?_ | refine VD.end rfl rfl rfl ?_ | refine VD.mid rfl rfl rfl ?_); refine OpV.box rfl rfl rfl ?_; intro _; refine w ?_))
    ((refine VC.quiet rfl (by kernel_rfl) (by kernel_rfl) ?_); (refine w ?_; repeat ((first | refine VO.step rfl rfl ?_ | refine VD.end rfl rfl rfl ?_ | refine VD.mid rfl rfl rfl ?_); refine OpV.box rfl rfl rfl ?_; intro _; refine w ?_)))
    (first | refine VO.pure rfl rfl (PureAt.ldR tab_ok rfl rfl ha (show (bools a)[j]? = some (.bool (a[j]'(by omega))) by simp [bools, la, hlt])) rfl ?_ | refine VD.take rfl rfl rfl (PureAt.ldR tab_ok rfl rfl ha (show (bools a)[j]? = some (.bool (a[j]'(by omega))) by simp [bools, la, hlt])) rfl ?_ | refine VQ.pure rfl rfl (PureAt.ldR tab_ok rfl rfl ha (show (bools a)[j]? = some (.bool (a[j]'(by omega))) by simp [bools, la, hlt])) rfl ?_ | refine VD.end rfl rfl rfl (OpV.pure (PureAt.ldR tab_ok rfl rfl ha (show (bools a)[j]? = some (.bool (a[j]'(by omega))) by simp [bools, la, hlt])) rfl ?_))
    (refine w ?_; repeat ((first | refine VO.step rfl rfl ?_ | refine VD.end rfl rfl rfl ?_ | refine VD.mid rfl rfl rfl ?_); refine OpV.box rfl rfl rfl ?_; intro _; refine w ?_))
    (first | refine VO.pure rfl rfl (PureAt.ldR tab_ok rfl rfl hb (show (bools a)[j]? = some (.bool (a[j]'(by omega))) by simp [bools, la, hlt])) rfl ?_ | refine VD.take rfl rfl rfl (PureAt.ldR tab_ok rfl rfl hb (show (bools a)[j]? = some (.bool (a[j]'(by omega))) by simp [bools, la, hlt])) rfl ?_ | refine VQ.pure rfl rfl (PureAt.ldR tab_ok rfl rfl hb (show (bools a)[j]? = some (.bool (a[j]'(by omega))) by simp [bools, la, hlt])) rfl ?_ | refine VD.end rfl rfl rfl (OpV.pure (PureAt.ldR tab_ok rfl rfl hb (show (bools a)[j]? = some (.bool (a[j]'(by omega))) by simp [bools, la, hlt])) rfl ?_))
    (refine w ?_; repeat ((first | refine VO.step rfl rfl ?_ | refine VD.end rfl rfl rfl ?_ | refine VD.mid rfl rfl rfl ?_); refine OpV.box rfl rfl rfl ?_; intro _; refine w ?_))
    (refine VC.condFe rfl rfl (by simp) ?_)
    (refine w ?_; repeat ((first | refine VO.step rfl rfl ?_ | refine VD.end rfl rfl rfl ?_ | refine VD.mid rfl rfl rfl ?_); refine OpV.box rfl rfl rfl ?_; intro _; refine w ?_))
    exact VE.round (j + 1) hlt (by omega) ⟨rfl, rfl, rfl, trivial⟩ Ent.refl
  · (refine w ?_; repeat ((first | refine VO.step rfl rfl ?_ | refine VD.end rfl rfl rfl ?_ | refine VD.mid rfl rfl rfl ?_); refine OpV.box rfl rfl rfl ?_; intro _; refine w ?_))
    (first | exact VE.done1 rfl rfl Ent.refl | exact VE.done1N rfl rfl Ent.refl)

def lentVB (l : List Bool) : List Value := bools l ++ [.bool true, .bool false]
theorem lentVB_one (l : List Bool) : ∀ u ∈ lentVB l, u.oneCell' = true := by
  intro u hu
  rcases List.mem_append.1 hu with h | h
  · exact bools_one _ u h
  · simp only [List.mem_cons, List.not_mem_nil, or_false] at h; rcases h with h | h <;> subst h <;> rfl
@[simp] theorem lentVB_length (l : List Bool) : (lentVB l).length = l.length + 2 := by simp [lentVB]
abbrev LentB (a : Addr) (cap : Nat) (l : List Bool) : SProp := Own 4 1 (.slice (some a) (l.length + 2) cap) (l.length + 2) (lentVB l)
theorem LentB.rds {W : World} {R : List SProp} {a : Addr} {cap : Nat} {l : List Bool} : Rds W (LentB a cap l :: R) 1 (some a) l.length (bools l) := by
  have h := Rds.take (l := l.length) (Rds.own (W := W) (H := LentB a cap l :: R) (lentVB_one l) (.head _) (by rw [lentVB_length, Nat.mul_one]) (fun h => by cases h)) (by omega)
  rw [Nat.mul_one, lentVB, List.take_left' (by simp)] at h
  exact h

theorem lentb_ok {W : World} {R : List SProp} {ao : Option Addr} {cap : Nat} {l : List Bool} (hb : RdsA W 1 ao l.length (bools l)) (hl : l.length ≤ 1000000000) :
    Does W Try.prog 100 [.slice ao l.length cap] R (β := Addr × Nat) (fun _ => True) (fun x => .slice (some x.1) l.length x.2) (fun x => LentB x.1 x.2 l :: R) := by
  (refine Does.enter Try.func100 Try.ntmps100 rfl rfl ?_)
  (refine w ?_; repeat ((first | refine VO.step rfl rfl ?_ | refine VD.end rfl rfl rfl ?_ | refine VD.mid rfl rfl rfl ?_); refine OpV.box rfl rfl rfl ?_; intro _; refine w ?_))
  refine VO.re 7 (.int .i64 ((l.length + 2 : Nat) : Int)) rfl (by congr 1) ?_
  (first | refine VO.step rfl rfl ?_ | refine VD.end rfl rfl rfl ?_ | refine VD.mid rfl rfl rfl ?_)
  refine OpV.makeCap (m := l.length + 2) st_51 rfl rfl (by omega) (by simp only [maxLen]; omega) rfl ?_
  intro nb
  (refine w ?_; repeat ((first | refine VO.step rfl rfl ?_ | refine VD.end rfl rfl rfl ?_ | refine VD.mid rfl rfl rfl ?_); refine OpV.box rfl rfl rfl ?_; intro _; refine w ?_))
  (first | refine VO.step rfl rfl ?_ | refine VD.end rfl rfl rfl ?_ | refine VD.mid rfl rfl rfl ?_)
  refine OpV.append st_51 rfl rfl (by (repeat first | exact .head | apply Hole.tail)) (fun w hw => ((hb _).sees hw).src st_51.und) (by simp only [maxLen]; omega) (by omega) rfl ?_
  intro ao1 cap1
  simp only [Nat.zero_add, List.nil_append]
  (refine w ?_; repeat ((first | refine VO.step rfl rfl ?_ | refine VD.end rfl rfl rfl ?_ | refine VD.mid rfl rfl rfl ?_); refine OpV.box rfl rfl rfl ?_; intro _; refine w ?_))
  ((first | refine VO.step rfl rfl ?_ | refine VD.end rfl rfl rfl ?_ | refine VD.mid rfl rfl rfl ?_); refine OpV.buildSlice1 st_51 rfl rfl (by first | (simp; done) | simp [Value.oneCell']) (by decide) rfl ?_; intro nb)
  ((first | refine VO.step rfl rfl ?_ | refine VD.end rfl rfl rfl ?_ | refine VD.mid rfl rfl rfl ?_); refine OpV.appendRow st_51 rfl rfl (by (repeat first | exact .head | apply Hole.tail)) (by (focus repeat first | exact .head _ | apply List.Mem.tail)) rfl (by first | (simp; done) | simp [Value.oneCell']) ?_ ?_ rfl ?_)
  · simp only [maxLen]; omega
  · omega
  intro ao2 cap2
  refine VO.know (p := ao2 = none → l.length + 2 = 0) (fun w hw => Holds.ownNone hw (.tail _ (.head _))) ?_
  intro hnn
  refine VO.know (p := l.length + 2 ≤ cap2) (fun w hw => Holds.ownCap hw (.tail _ (.head _))) ?_
  intro hcc
  obtain ⟨a2, rfl⟩ : ∃ a, ao2 = some a := by cases ao2 with | none => have := hnn rfl; omega | some a => exact ⟨a, rfl⟩
  (refine w ?_; repeat ((first | refine VO.step rfl rfl ?_ | refine VD.end rfl rfl rfl ?_ | refine VD.mid rfl rfl rfl ?_); refine OpV.box rfl rfl rfl ?_; intro _; refine w ?_))
  refine VE.done (a2, cap2) rfl trivial rfl ?_
  exact Ent.re

theorem wholeb_ok {W : World} {R : List SProp} {ao : Option Addr} {a : Addr} {cap cap2 : Nat} {l : List Bool} (hb : RdsA W 1 ao l.length (bools l)) (hl : l.length ≤ 1000000000) :
    Does1 W Try.prog 102 [.slice (some a) l.length cap, .slice ao l.length cap2] (LentB a cap l :: R) (.bool true) (LentB a cap l :: R) := by
  have hr : Rds W (LentB a cap l :: R) 1 (some a) (l.length + 2) (lentVB l) := Rds.own (lentVB_one l) (.head _) (by rw [lentVB_length, Nat.mul_one]) (fun h => by cases h)
  (refine Does.enter Try.func102 Try.ntmps102 rfl rfl ?_)
  refine VC.know (p := l.length + 2 ≤ cap) (fun w hw => Holds.ownCap hw (.head _)) ?_
  intro hcc
  (refine w ?_; repeat ((first | refine VO.step rfl rfl ?_ | refine VD.end rfl rfl rfl ?_ | refine VD.mid rfl rfl rfl ?_); refine OpV.box rfl rfl rfl ?_; intro _; refine w ?_))
  (refine VC.condFe rfl rfl (by simp; omega) ?_)
  (refine w ?_; repeat ((first | refine VO.step rfl rfl ?_ | refine VD.end rfl rfl rfl ?_ | refine VD.mid rfl rfl rfl ?_); refine OpV.box rfl rfl rfl ?_; intro _; refine w ?_))
  refine VO.re 5 (.slice (some a) (l.length + 2) cap) rfl rfl ?_
  refine VO.re 17 (.slice (some a) (l.length + 2) cap) rfl rfl ?_
  (refine w ?_; repeat ((first | refine VO.step rfl rfl ?_ | refine VD.end rfl rfl rfl ?_ | refine VD.mid rfl rfl rfl ?_); refine OpV.box rfl rfl rfl ?_; intro _; refine w ?_))
  (first | refine VO.pure rfl rfl (PureAt.ldR tab_ok rfl rfl hr (show (lentVB l)[l.length]? = some (.bool true) by simp [lentVB, List.getElem?_append_right])) rfl ?_ | refine VD.take rfl rfl rfl (PureAt.ldR tab_ok rfl rfl hr (show (lentVB l)[l.length]? = some (.bool true) by simp [lentVB, List.getElem?_append_right])) rfl ?_ | refine VQ.pure rfl rfl (PureAt.ldR tab_ok rfl rfl hr (show (lentVB l)[l.length]? = some (.bool true) by simp [lentVB, List.getElem?_append_right])) rfl ?_ | refine VD.end rfl rfl rfl (OpV.pure (PureAt.ldR tab_ok rfl rfl hr (show (lentVB l)[l.length]? = some (.bool true) by simp [lentVB, List.getElem?_append_right])) rfl ?_))
  (refine w ?_; repeat ((first | refine VO.step rfl rfl ?_ | refine VD.end rfl rfl rfl ?_ | refine VD.mid rfl rfl rfl ?_); refine OpV.box rfl rfl rfl ?_; intro _; refine w ?_))
  refine VO.re 26 (.int .i64 ((l.length + 1 : Nat) : Int)) rfl rfl ?_
  (refine w ?_; repeat ((first | refine VO.step rfl rfl ?_ | refine VD.end rfl rfl rfl ?_ | refine VD.mid rfl rfl rfl ?_); refine OpV.box rfl rfl rfl ?_; intro _; refine w ?_))
  (first | refine VO.pure rfl rfl (PureAt.ldR tab_ok rfl rfl hr (show (lentVB l)[l.length + 1]? = some (.bool false) by simp [lentVB, List.getElem?_append_right])) rfl ?_ | refine VD.take rfl rfl rfl (PureAt.ldR tab_ok rfl rfl hr (show (lentVB l)[l.length + 1]? = some (.bool false) by simp [lentVB, List.getElem?_append_right])) rfl ?_ | refine VQ.pure rfl rfl (PureAt.ldR tab_ok rfl rfl hr (show (lentVB l)[l.length + 1]? = some (.bool false) by simp [lentVB, List.getElem?_append_right])) rfl ?_ | refine VD.end rfl rfl rfl (OpV.pure (PureAt.ldR tab_ok rfl rfl hr (show (lentVB l)[l.length + 1]? = some (.bool false) by simp [lentVB, List.getElem?_append_right])) rfl ?_))
  (refine w ?_; repeat ((first | refine VO.step rfl rfl ?_ | refine VD.end rfl rfl rfl ?_ | refine VD.mid rfl rfl rfl ?_); refine OpV.box rfl rfl rfl ?_; intro _; refine w ?_))
  ((first | refine VO.step rfl rfl ?_ | refine VD.end rfl rfl rfl ?_ | refine VD.mid rfl rfl rfl ?_); refine OpV.call rfl rfl (fun _ _ => by simp) (samebools_same LentB.rds (hb _) (by simp only [maxLen]; omega)) Ent.refl rfl ?_; intro _ _)
  (refine w ?_; repeat ((first | refine VO.step rfl rfl ?_ | refine VD.end rfl rfl rfl ?_ | refine VD.mid rfl rfl rfl ?_); refine OpV.box rfl rfl rfl ?_; intro _; refine w ?_))
  (refine VE.done1 rfl ?_ ?_)
  · rfl
  · exact Ent.refl

theorem spoilb_ok {W : World} {R : List SProp} {a : Addr} {n m cap : Nat} {xs : List Value} (hn : n ≤ cap) :
    Does1 W Try.prog 103 [.slice (some a) n cap] (Own 4 1 (.slice (some a) m cap) m xs :: R) (.tuple #[]) R := by
  (refine Does.enter Try.func103 Try.ntmps103 rfl rfl ?_)
  refine VC.obtain (fun w => Holds.ownFull) ?_
  rintro ⟨ys, hy, hcm⟩
  dsimp only
  simp only [maxLen] at hcm
  (refine w ?_; repeat ((first | refine VO.step rfl rfl ?_ | refine VD.end rfl rfl rfl ?_ | refine VD.mid rfl rfl rfl ?_); refine OpV.box rfl rfl rfl ?_; intro _; refine w ?_))
  refine VC.loop (α := Nat × List Value) (fun g => g.1 ≤ cap ∧ g.2.length = cap) (fun g => Own 4 1 (.slice (some a) cap cap) cap g.2 :: R)
    (fun g => [(2, .slice (some a) cap cap), (3, .int .i64 g.1)]) (fun g => cap - g.1) rfl (0, ys) ⟨Nat.zero_le _, hy⟩ Ent.refl ⟨rfl, rfl, trivial⟩ ?_
  rintro ⟨i, zs⟩ ⟨hi, hz⟩
  dsimp only at hi hz ⊢
  (refine w ?_; repeat ((first | refine VO.step rfl rfl ?_ | refine VD.end rfl rfl rfl ?_ | refine VD.mid rfl rfl rfl ?_); refine OpV.box rfl rfl rfl ?_; intro _; refine w ?_))
  (refine VC.cond rfl rfl ?_ ?_ <;> intro hc)
  · have hlt : i < cap := by have := of_decide_eq_true hc; omega
    (refine w ?_; repeat ((first | refine VO.step rfl rfl ?_ | refine VD.end rfl rfl rfl ?_ | refine VD.mid rfl rfl rfl ?_); refine OpV.box rfl rfl rfl ?_; intro _; refine w ?_))
    (first | refine VO.step rfl rfl ?_ | refine VD.end rfl rfl rfl ?_ | refine VD.mid rfl rfl rfl ?_)
    refine OpV.stO tab_ok rfl rfl rfl rfl .head (by omega) ?_
    (refine w ?_; repeat ((first | refine VO.step rfl rfl ?_ | refine VD.end rfl rfl rfl ?_ | refine VD.mid rfl rfl rfl ?_); refine OpV.box rfl rfl rfl ?_; intro _; refine w ?_))
    exact VE.round (i + 1, _) ⟨hlt, by rw [List.length_set]; exact hz⟩ (by simp only; omega) ⟨rfl, rfl, trivial⟩ Ent.refl
  · (refine w ?_; repeat ((first | refine VO.step rfl rfl ?_ | refine VD.end rfl rfl rfl ?_ | refine VD.mid rfl rfl rfl ?_); refine OpV.box rfl rfl rfl ?_; intro _; refine w ?_))
    (refine VE.done1N rfl ?_ ?_)
    · rfl
    · exact Ent.drop Ent.refl

/-! ### The book with lists of bytes and of ints -/

abbrev bookRow2 (lo : Option Addr) (n lc : Nat) (li : Option Addr) (m ic : Nat) : List Value := .slice lo n lc :: .slice none 0 0 :: .slice li m ic :: List.replicate 9 (.slice none 0 0)
abbrev BookO (b : Nat) (E : List ListE) (F : List ListI) (x : (Option Addr × Nat) × (Option Addr × Nat)) (R : List SProp) : List SProp :=
  Row b 82 (bookRow2 x.1.1 E.length x.1.2 x.2.1 F.length x.2.2) :: Own 35 1 (.slice x.1.1 E.length x.1.2) E.length (E.map ListE.hdr) :: Own 61 1 (.slice x.2.1 F.length x.2.2) F.length (F.map ListI.hdr) :: (E.map ListE.res ++ (F.map ListI.res ++ R))
def Book2 (b : Nat) (E : List ListE) (F : List ListI) : SProp := ex fun x : (Option Addr × Nat) × (Option Addr × Nat) => Sl.star (BookO b E F x [])
theorem Book2.open {W w : World} {b : Nat} {E : List ListE} {F : List ListI} {R : List SProp} (hw : Holds W (Book2 b E F :: R) w) : ∃ x, Holds W (BookO b E F x R) w := by
  obtain ⟨x, h⟩ := hw.exOpen
  refine ⟨x, ?_⟩
  have := h.join
  simpa [BookO] using this
theorem Book2.shut {W : World} {b : Nat} {E : List ListE} {F : List ListI} {R : List SProp} {x : (Option Addr × Nat) × (Option Addr × Nat)} : Ent W (BookO b E F x R) (Book2 b E F :: R) := fun w hw =>
  Holds.exShut x (Holds.nest (L := BookO b E F x []) (by simpa [BookO] using hw))
theorem Book2.fresh {W : World} {b : Nat} {R : List SProp} : Ent W (Row b 82 (List.replicate 12 (.slice none 0 0)) :: R) (Book2 b [] [] :: R) := fun w hw =>
  Book2.shut (x := ((none, 0), (none, 0))) w (((hw.ownNil 61 1).ownNil 35 1).reord (L := Row b 82 (List.replicate 12 (.slice none 0 0)) :: Own 35 1 (.slice none 0 0) 0 [] :: Own 61 1 (.slice none 0 0) 0 [] :: R) (by (repeat first | exact .refl | (apply Reord.cons; focus repeat first | exact .head | apply Del.tail) | exact .nil | apply Reord.drop)))

theorem book2bytes_ok {W : World} {R : List SProp} (b : Nat) (E : List ListE) (F : List ListI) (e : ListE) (hn : E.length ≤ 1000000000) :
    Does1 W Try.prog 56 [.pointer (some ⟨b, 0, none⟩), .slice e.ao e.xs.length e.cap] (Book2 b E F :: e.res :: R) (.tuple #[]) (Book2 b (E ++ [e]) F :: R) := by
  (refine Does.enter Try.func56 Try.ntmps56 rfl rfl ?_)
  refine VC.obtain (fun w => Book2.open) ?_
  rintro ⟨⟨lo, lc⟩, ⟨li, ic⟩⟩
  dsimp only [BookO]
  (refine w ?_; repeat ((first | refine VO.step rfl rfl ?_ | refine VD.end rfl rfl rfl ?_ | refine VD.mid rfl rfl rfl ?_); refine OpV.box rfl rfl rfl ?_; intro _; refine w ?_))
  ((first | refine VO.step rfl rfl ?_ | refine VD.end rfl rfl rfl ?_ | refine VD.mid rfl rfl rfl ?_); refine OpV.buildSlice1 st_57 rfl rfl (by first | (simp; done) | simp [Value.oneCell']) (by decide) rfl ?_; intro nb)
  ((first | refine VO.step rfl rfl ?_ | refine VD.end rfl rfl rfl ?_ | refine VD.mid rfl rfl rfl ?_); refine OpV.appendRow st_57 rfl rfl (by (repeat first | exact .head | apply Hole.tail)) (by (focus repeat first | exact .head _ | apply List.Mem.tail)) rfl (by first | (simp; done) | simp [Value.oneCell']) ?_ ?_ rfl ?_)
  · simp only [maxLen]; omega
  · omega
  intro lo' lc'
  (refine w ?_; repeat ((first | refine VO.step rfl rfl ?_ | refine VD.end rfl rfl rfl ?_ | refine VD.mid rfl rfl rfl ?_); refine OpV.box rfl rfl rfl ?_; intro _; refine w ?_))
  (refine VE.done1N rfl ?_ ?_)
  · rfl
  · intro w hw
    refine Book2.shut (x := ((lo', lc'), (li, ic))) w ?_
    simp only [BookO, List.length_append, List.length_singleton, List.map_append, List.map_singleton, List.append_assoc]
    have h1 := hw.tail
    refine Holds.perm ?_ h1
    refine List.Perm.cons _ (List.Perm.cons _ (List.Perm.cons _ (List.Perm.append_left _ ?_)))
    exact List.perm_middle (l₁ := F.map ListI.res)
theorem book2ints_ok {W : World} {R : List SProp} (b : Nat) (E : List ListE) (F : List ListI) (e : ListI) (hn : F.length ≤ 1000000000) :
    Does1 W Try.prog 104 [.pointer (some ⟨b, 0, none⟩), .slice e.ao e.xs.length e.cap] (Book2 b E F :: e.res :: R) (.tuple #[]) (Book2 b E (F ++ [e]) :: R) := by
  (refine Does.enter Try.func104 Try.ntmps104 rfl rfl ?_)
  refine VC.obtain (fun w => Book2.open) ?_
  rintro ⟨⟨lo, lc⟩, ⟨li, ic⟩⟩
  dsimp only [BookO]
  (refine w ?_; repeat ((first | refine VO.step rfl rfl ?_ | refine VD.end rfl rfl rfl ?_ | refine VD.mid rfl rfl rfl ?_); refine OpV.box rfl rfl rfl ?_; intro _; refine w ?_))
  ((first | refine VO.step rfl rfl ?_ | refine VD.end rfl rfl rfl ?_ | refine VD.mid rfl rfl rfl ?_); refine OpV.buildSlice1 st_71 rfl rfl (by first | (simp; done) | simp [Value.oneCell']) (by decide) rfl ?_; intro nb)
  ((first | refine VO.step rfl rfl ?_ | refine VD.end rfl rfl rfl ?_ | refine VD.mid rfl rfl rfl ?_); refine OpV.appendRow st_71 rfl rfl (by (repeat first | exact .head | apply Hole.tail)) (by (focus repeat first | exact .head _ | apply List.Mem.tail)) rfl (by first | (simp; done) | simp [Value.oneCell']) ?_ ?_ rfl ?_)
  · simp only [maxLen]; omega
  · omega
  intro lo' lc'
  (refine w ?_; repeat ((first | refine VO.step rfl rfl ?_ | refine VD.end rfl rfl rfl ?_ | refine VD.mid rfl rfl rfl ?_); refine OpV.box rfl rfl rfl ?_; intro _; refine w ?_))
  (refine VE.done1N rfl ?_ ?_)
  · rfl
  · intro w hw
    refine Book2.shut (x := ((lo, lc), (lo', lc'))) w ?_
    simp only [BookO, List.length_append, List.length_singleton, List.map_append, List.map_singleton, List.append_assoc]
    exact hw.tail

set_option maxHeartbeats 4000000 in
theorem book2own_ok {W : World} {R : List SProp} (b : Nat) (E : List ListE) (F : List ListI) (hn : E.length ≤ 1000000000) (hl : ∀ e ∈ E, e.xs.length ≤ 1000000000) (hn2 : F.length ≤ 1000000000) (hl2 : ∀ e ∈ F, e.xs.length ≤ 1000000000) :
    Does1 W Try.prog 47 [.pointer (some ⟨b, 0, none⟩)] (Book2 b E F :: R) (.bool true) R := by
  (refine Does.enter Try.func47 Try.ntmps47 rfl rfl ?_)
  refine VC.obtain (fun w => Book2.open) ?_
  rintro ⟨⟨lo, lc⟩, ⟨li, ic⟩⟩
  dsimp only [BookO]
  (refine w ?_; repeat ((first | refine VO.step rfl rfl ?_ | refine VD.end rfl rfl rfl ?_ | refine VD.mid rfl rfl rfl ?_); refine OpV.box rfl rfl rfl ?_; intro _; refine w ?_))
  (first | refine VO.step rfl rfl ?_ | refine VD.end rfl rfl rfl ?_ | refine VD.mid rfl rfl rfl ?_)
  refine OpV.call rfl rfl (fun _ _ => by simp) (ownbytes_ok (R := Row b 82 (bookRow2 lo E.length lc li F.length ic) :: Own 61 1 (.slice li F.length ic) F.length (F.map ListI.hdr) :: (F.map ListI.res ++ R)) hn hl) (fun w hw => hw.perm ?_) rfl ?_
  · exact (List.Perm.swap _ _ _).trans ((List.perm_append_comm_assoc [_, _] (E.map ListE.res) _).cons _)
  intro _ _
  (refine w ?_; repeat ((first | refine VO.step rfl rfl ?_ | refine VD.end rfl rfl rfl ?_ | refine VD.mid rfl rfl rfl ?_); refine OpV.box rfl rfl rfl ?_; intro _; refine w ?_))
  ((first | refine VO.step rfl rfl ?_ | refine VD.end rfl rfl rfl ?_ | refine VD.mid rfl rfl rfl ?_); refine OpV.call rfl rfl (fun _ _ => by simp) (ownTexts_nil) Ent.refl rfl ?_; intro _ _)
  (refine w ?_; repeat ((first | refine VO.step rfl rfl ?_ | refine VD.end rfl rfl rfl ?_ | refine VD.mid rfl rfl rfl ?_); refine OpV.box rfl rfl rfl ?_; intro _; refine w ?_))
  (first | refine VO.step rfl rfl ?_ | refine VD.end rfl rfl rfl ?_ | refine VD.mid rfl rfl rfl ?_)
  refine OpV.call rfl rfl (fun _ _ => by simp) (ownints_ok (R := Row b 82 (bookRow2 lo E.length lc li F.length ic) :: R) hn2 hl2) (fun w hw => hw.perm ?_) rfl ?_
  · exact (List.Perm.swap _ _ _).trans ((List.perm_middle (l₁ := F.map ListI.res)).symm.cons _)
  intro _ _
  (refine w ?_; repeat ((first | refine VO.step rfl rfl ?_ | refine VD.end rfl rfl rfl ?_ | refine VD.mid rfl rfl rfl ?_); refine OpV.box rfl rfl rfl ?_; intro _; refine w ?_))
  ((first | refine VO.step rfl rfl ?_ | refine VD.end rfl rfl rfl ?_ | refine VD.mid rfl rfl rfl ?_); refine OpV.call rfl rfl (fun _ _ => by simp) (ownNumbers_nil) Ent.refl rfl ?_; intro _ _)
  (refine w ?_; repeat ((first | refine VO.step rfl rfl ?_ | refine VD.end rfl rfl rfl ?_ | refine VD.mid rfl rfl rfl ?_); refine OpV.box rfl rfl rfl ?_; intro _; refine w ?_))
  ((first | refine VO.step rfl rfl ?_ | refine VD.end rfl rfl rfl ?_ | refine VD.mid rfl rfl rfl ?_); refine OpV.call rfl rfl (fun _ _ => by simp) (ownErrs_nil) Ent.refl rfl ?_; intro _ _)
  (refine w ?_; repeat ((first | refine VO.step rfl rfl ?_ | refine VD.end rfl rfl rfl ?_ | refine VD.mid rfl rfl rfl ?_); refine OpV.box rfl rfl rfl ?_; intro _; refine w ?_))
  ((first | refine VO.step rfl rfl ?_ | refine VD.end rfl rfl rfl ?_ | refine VD.mid rfl rfl rfl ?_); refine OpV.call rfl rfl (fun _ _ => by simp) (ownSpans_nil) Ent.refl rfl ?_; intro _ _)
  (refine w ?_; repeat ((first | refine VO.step rfl rfl ?_ | refine VD.end rfl rfl rfl ?_ | refine VD.mid rfl rfl rfl ?_); refine OpV.box rfl rfl rfl ?_; intro _; refine w ?_))
  ((first | refine VO.step rfl rfl ?_ | refine VD.end rfl rfl rfl ?_ | refine VD.mid rfl rfl rfl ?_); refine OpV.call rfl rfl (fun _ _ => by simp) (ownStates_nil) Ent.refl rfl ?_; intro _ _)
  (refine w ?_; repeat ((first | refine VO.step rfl rfl ?_ | refine VD.end rfl rfl rfl ?_ | refine VD.mid rfl rfl rfl ?_); refine OpV.box rfl rfl rfl ?_; intro _; refine w ?_))
  ((first | refine VO.step rfl rfl ?_ | refine VD.end rfl rfl rfl ?_ | refine VD.mid rfl rfl rfl ?_); refine OpV.call rfl rfl (fun _ _ => by simp) (ownBools_nil) Ent.refl rfl ?_; intro _ _)
  (refine w ?_; repeat ((first | refine VO.step rfl rfl ?_ | refine VD.end rfl rfl rfl ?_ | refine VD.mid rfl rfl rfl ?_); refine OpV.box rfl rfl rfl ?_; intro _; refine w ?_))
  ((first | refine VO.step rfl rfl ?_ | refine VD.end rfl rfl rfl ?_ | refine VD.mid rfl rfl rfl ?_); refine OpV.call rfl rfl (fun _ _ => by simp) (ownRows_nil) Ent.refl rfl ?_; intro _ _)
  (refine w ?_; repeat ((first | refine VO.step rfl rfl ?_ | refine VD.end rfl rfl rfl ?_ | refine VD.mid rfl rfl rfl ?_); refine OpV.box rfl rfl rfl ?_; intro _; refine w ?_))
  ((first | refine VO.step rfl rfl ?_ | refine VD.end rfl rfl rfl ?_ | refine VD.mid rfl rfl rfl ?_); refine OpV.call rfl rfl (fun _ _ => by simp) (ownPuts_nil) Ent.refl rfl ?_; intro _ _)
  (refine w ?_; repeat ((first | refine VO.step rfl rfl ?_ | refine VD.end rfl rfl rfl ?_ | refine VD.mid rfl rfl rfl ?_); refine OpV.box rfl rfl rfl ?_; intro _; refine w ?_))
  ((first | refine VO.step rfl rfl ?_ | refine VD.end rfl rfl rfl ?_ | refine VD.mid rfl rfl rfl ?_); refine OpV.call rfl rfl (fun _ _ => by simp) (ownPatches_nil) Ent.refl rfl ?_; intro _ _)
  (refine w ?_; repeat ((first | refine VO.step rfl rfl ?_ | refine VD.end rfl rfl rfl ?_ | refine VD.mid rfl rfl rfl ?_); refine OpV.box rfl rfl rfl ?_; intro _; refine w ?_))
  ((first | refine VO.step rfl rfl ?_ | refine VD.end rfl rfl rfl ?_ | refine VD.mid rfl rfl rfl ?_); refine OpV.call rfl rfl (fun _ _ => by simp) (ownTxns_nil) Ent.refl rfl ?_; intro _ _)
  (refine w ?_; repeat ((first | refine VO.step rfl rfl ?_ | refine VD.end rfl rfl rfl ?_ | refine VD.mid rfl rfl rfl ?_); refine OpV.box rfl rfl rfl ?_; intro _; refine w ?_))
  (refine VE.done1 rfl ?_ ?_)
  · rfl
  · exact Ent.drop Ent.refl
end Go.Proofs.Ythefmgmgmoanlaa
