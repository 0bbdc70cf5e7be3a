/- Package super: its fields: what each puts, what each gets. Written by program (wip/gen_super.py). -/
import Derived.Test.YtgkpdpoblofehaaPb
import Derived.Test.YtgkpdpoblofehaaPs
set_option maxRecDepth 8000
set_option linter.unusedVariables false
set_option linter.unusedSimpArgs false
set_option linter.unusedSectionVars false
namespace Go.Proofs.Ytgkpdpoblofehaa
open Go.RowKit Go.Sl
attribute [local irreducible] Own

/-! ### What the fields' functions hold -/
def boxes (x : Nat → Nat × Nat × Nat) : List SProp := [Row (x 0).1 175 [fnV 82], Row (x 0).2.1 176 [fnV 89], Row (x 0).2.2 178 [fnV 108], Row (x 1).1 175 [fnV 82], Row (x 1).2.1 176 [fnV 89], Row (x 1).2.2 178 [fnV 109], Row (x 2).1 175 [fnV 82], Row (x 2).2.1 176 [fnV 89], Row (x 2).2.2 178 [fnV 110], Row (x 3).1 180 [fnV 112], Row (x 3).2.1 182 [fnV 113], Row (x 3).2.2 184 [fnV 114], Row (x 4).1 180 [fnV 112], Row (x 4).2.1 182 [fnV 113], Row (x 4).2.2 184 [fnV 115], Row (x 5).1 180 [fnV 112], Row (x 5).2.1 182 [fnV 113], Row (x 5).2.2 184 [fnV 116], Row (x 6).1 187 [fnV 121], Row (x 6).2.1 189 [fnV 122], Row (x 6).2.2 184 [fnV 123], Row (x 7).1 187 [fnV 121], Row (x 7).2.1 189 [fnV 122], Row (x 7).2.2 184 [fnV 124], Row (x 8).1 187 [fnV 121], Row (x 8).2.1 189 [fnV 122], Row (x 8).2.2 184 [fnV 125]]
def pairs (x : Nat → Nat × Nat × Nat) : List (Value × Value) := [(fnV 105, fnV 106), (.func (.func 138) #[] #[.pointer (some ⟨(x 0).1, 0, none⟩), .pointer (some ⟨(x 0).2.2, 0, none⟩)], .func (.func 139) #[] #[.pointer (some ⟨(x 0).2.1, 0, none⟩), .pointer (some ⟨(x 0).2.2, 0, none⟩)]), (.func (.func 138) #[] #[.pointer (some ⟨(x 1).1, 0, none⟩), .pointer (some ⟨(x 1).2.2, 0, none⟩)], .func (.func 139) #[] #[.pointer (some ⟨(x 1).2.1, 0, none⟩), .pointer (some ⟨(x 1).2.2, 0, none⟩)]), (.func (.func 138) #[] #[.pointer (some ⟨(x 2).1, 0, none⟩), .pointer (some ⟨(x 2).2.2, 0, none⟩)], .func (.func 139) #[] #[.pointer (some ⟨(x 2).2.1, 0, none⟩), .pointer (some ⟨(x 2).2.2, 0, none⟩)]), (.func (.func 140) #[] #[.pointer (some ⟨(x 3).1, 0, none⟩), .pointer (some ⟨(x 3).2.2, 0, none⟩)], .func (.func 141) #[] #[.pointer (some ⟨(x 3).2.1, 0, none⟩), .pointer (some ⟨(x 3).2.2, 0, none⟩)]), (.func (.func 140) #[] #[.pointer (some ⟨(x 4).1, 0, none⟩), .pointer (some ⟨(x 4).2.2, 0, none⟩)], .func (.func 141) #[] #[.pointer (some ⟨(x 4).2.1, 0, none⟩), .pointer (some ⟨(x 4).2.2, 0, none⟩)]), (.func (.func 140) #[] #[.pointer (some ⟨(x 5).1, 0, none⟩), .pointer (some ⟨(x 5).2.2, 0, none⟩)], .func (.func 141) #[] #[.pointer (some ⟨(x 5).2.1, 0, none⟩), .pointer (some ⟨(x 5).2.2, 0, none⟩)]), (fnV 117, fnV 119), (.func (.func 142) #[] #[.pointer (some ⟨(x 6).1, 0, none⟩), .pointer (some ⟨(x 6).2.2, 0, none⟩)], .func (.func 143) #[] #[.pointer (some ⟨(x 6).2.1, 0, none⟩), .pointer (some ⟨(x 6).2.2, 0, none⟩)]), (.func (.func 142) #[] #[.pointer (some ⟨(x 7).1, 0, none⟩), .pointer (some ⟨(x 7).2.2, 0, none⟩)], .func (.func 143) #[] #[.pointer (some ⟨(x 7).2.1, 0, none⟩), .pointer (some ⟨(x 7).2.2, 0, none⟩)]), (.func (.func 142) #[] #[.pointer (some ⟨(x 8).1, 0, none⟩), .pointer (some ⟨(x 8).2.2, 0, none⟩)], .func (.func 143) #[] #[.pointer (some ⟨(x 8).2.1, 0, none⟩), .pointer (some ⟨(x 8).2.2, 0, none⟩)]), (fnV 126, fnV 127), (fnV 129, fnV 130)]
theorem pairs_length (x : Nat → Nat × Nat × Nat) : (pairs x).length = 13 := rfl
def fieldCells (x : Nat → Nat × Nat × Nat) : List Value := (pairs x).flatMap fun p => [p.1, p.2]
theorem fieldCells_one (x : Nat → Nat × Nat × Nat) : ∀ u ∈ fieldCells x, u.oneCell' = true := by
  intro u hu; simp [fieldCells, pairs] at hu; rcases hu with rfl | rfl | rfl | rfl | rfl | rfl | rfl | rfl | rfl | rfl | rfl | rfl | rfl | rfl | rfl | rfl | rfl | rfl | rfl | rfl | rfl | rfl | rfl | rfl | rfl | rfl <;> rfl
theorem fieldCells_at (x : Nat → Nat × Nat × Nat) (k : Nat) (hk : k < 13) : ((fieldCells x).drop (k * 2)).take 2 = [((pairs x)[k]'(by rw [pairs_length]; exact hk)).1, ((pairs x)[k]'(by rw [pairs_length]; exact hk)).2] :=
  flat_part (pairs x) k (by rw [pairs_length]; exact hk) (fun _ _ => rfl)
set_option maxHeartbeats 4000000 in
theorem fields_ok {W : World} {R : List SProp} :
    Does W Try.prog 92 [] R (β := (Nat → Nat × Nat × Nat) × Nat) (fun _ => True) (fun y => .slice (some ⟨y.2, 0, none⟩) 13 13) (fun y => Row y.2 160 (fieldCells y.1) :: (boxes y.1 ++ R)) := by
  (refine Does.enter Try.func92 Try.ntmps92 rfl rfl ?_)
  (refine w ?_; repeat ((first | refine VO.step rfl rfl ?_ | refine VD.end rfl rfl rfl ?_ | refine VD.mid rfl rfl rfl ?_); refine OpV.box rfl rfl rfl ?_; intro _; refine w ?_))
  (apply VO.pure rfl rfl; apply PureAt.build sbF rfl; (simp [buildX, setL, Value.cells]; rfl); rfl)
  (refine w ?_; repeat ((first | refine VO.step rfl rfl ?_ | refine VD.end rfl rfl rfl ?_ | refine VD.mid rfl rfl rfl ?_); refine OpV.box rfl rfl rfl ?_; intro _; refine w ?_))
  ((first | refine VO.step rfl rfl ?_ | refine VD.end rfl rfl rfl ?_ | refine VD.mid rfl rfl rfl ?_); refine OpV.call rfl rfl (fun _ _ => by simp) (number64_ok 82 89 108) Ent.refl rfl ?_)
  rintro ⟨p0, g0, a0⟩ -
  (refine w ?_; repeat ((first | refine VO.step rfl rfl ?_ | refine VD.end rfl rfl rfl ?_ | refine VD.mid rfl rfl rfl ?_); refine OpV.box rfl rfl rfl ?_; intro _; refine w ?_))
  ((first | refine VO.step rfl rfl ?_ | refine VD.end rfl rfl rfl ?_ | refine VD.mid rfl rfl rfl ?_); refine OpV.call rfl rfl (fun _ _ => by simp) (number64_ok 82 89 109) Ent.refl rfl ?_)
  rintro ⟨p1, g1, a1⟩ -
  (refine w ?_; repeat ((first | refine VO.step rfl rfl ?_ | refine VD.end rfl rfl rfl ?_ | refine VD.mid rfl rfl rfl ?_); refine OpV.box rfl rfl rfl ?_; intro _; refine w ?_))
  ((first | refine VO.step rfl rfl ?_ | refine VD.end rfl rfl rfl ?_ | refine VD.mid rfl rfl rfl ?_); refine OpV.call rfl rfl (fun _ _ => by simp) (number64_ok 82 89 110) Ent.refl rfl ?_)
  rintro ⟨p2, g2, a2⟩ -
  (refine w ?_; repeat ((first | refine VO.step rfl rfl ?_ | refine VD.end rfl rfl rfl ?_ | refine VD.mid rfl rfl rfl ?_); refine OpV.box rfl rfl rfl ?_; intro _; refine w ?_))
  ((first | refine VO.step rfl rfl ?_ | refine VD.end rfl rfl rfl ?_ | refine VD.mid rfl rfl rfl ?_); refine OpV.call rfl rfl (fun _ _ => by simp) (number8_ok 112 113 114) Ent.refl rfl ?_)
  rintro ⟨p3, g3, a3⟩ -
  (refine w ?_; repeat ((first | refine VO.step rfl rfl ?_ | refine VD.end rfl rfl rfl ?_ | refine VD.mid rfl rfl rfl ?_); refine OpV.box rfl rfl rfl ?_; intro _; refine w ?_))
  ((first | refine VO.step rfl rfl ?_ | refine VD.end rfl rfl rfl ?_ | refine VD.mid rfl rfl rfl ?_); refine OpV.call rfl rfl (fun _ _ => by simp) (number8_ok 112 113 115) Ent.refl rfl ?_)
  rintro ⟨p4, g4, a4⟩ -
  (refine w ?_; repeat ((first | refine VO.step rfl rfl ?_ | refine VD.end rfl rfl rfl ?_ | refine VD.mid rfl rfl rfl ?_); refine OpV.box rfl rfl rfl ?_; intro _; refine w ?_))
  ((first | refine VO.step rfl rfl ?_ | refine VD.end rfl rfl rfl ?_ | refine VD.mid rfl rfl rfl ?_); refine OpV.call rfl rfl (fun _ _ => by simp) (number8_ok 112 113 116) Ent.refl rfl ?_)
  rintro ⟨p5, g5, a5⟩ -
  (refine w ?_; repeat ((first | refine VO.step rfl rfl ?_ | refine VD.end rfl rfl rfl ?_ | refine VD.mid rfl rfl rfl ?_); refine OpV.box rfl rfl rfl ?_; intro _; refine w ?_))
  (apply VO.pure rfl rfl; apply PureAt.build sbF rfl; (simp [buildX, setL, Value.cells]; rfl); rfl)
  (refine w ?_; repeat ((first | refine VO.step rfl rfl ?_ | refine VD.end rfl rfl rfl ?_ | refine VD.mid rfl rfl rfl ?_); refine OpV.box rfl rfl rfl ?_; intro _; refine w ?_))
  ((first | refine VO.step rfl rfl ?_ | refine VD.end rfl rfl rfl ?_ | refine VD.mid rfl rfl rfl ?_); refine OpV.call rfl rfl (fun _ _ => by simp) (number16_ok 121 122 123) Ent.refl rfl ?_)
  rintro ⟨p6, g6, a6⟩ -
  (refine w ?_; repeat ((first | refine VO.step rfl rfl ?_ | refine VD.end rfl rfl rfl ?_ | refine VD.mid rfl rfl rfl ?_); refine OpV.box rfl rfl rfl ?_; intro _; refine w ?_))
  ((first | refine VO.step rfl rfl ?_ | refine VD.end rfl rfl rfl ?_ | refine VD.mid rfl rfl rfl ?_); refine OpV.call rfl rfl (fun _ _ => by simp) (number16_ok 121 122 124) Ent.refl rfl ?_)
  rintro ⟨p7, g7, a7⟩ -
  (refine w ?_; repeat ((first | refine VO.step rfl rfl ?_ | refine VD.end rfl rfl rfl ?_ | refine VD.mid rfl rfl rfl ?_); refine OpV.box rfl rfl rfl ?_; intro _; refine w ?_))
  ((first | refine VO.step rfl rfl ?_ | refine VD.end rfl rfl rfl ?_ | refine VD.mid rfl rfl rfl ?_); refine OpV.call rfl rfl (fun _ _ => by simp) (number16_ok 121 122 125) Ent.refl rfl ?_)
  rintro ⟨p8, g8, a8⟩ -
  (refine w ?_; repeat ((first | refine VO.step rfl rfl ?_ | refine VD.end rfl rfl rfl ?_ | refine VD.mid rfl rfl rfl ?_); refine OpV.box rfl rfl rfl ?_; intro _; refine w ?_))
  (apply VO.pure rfl rfl; apply PureAt.build sbF rfl; (simp [buildX, setL, Value.cells]; rfl); rfl)
  (refine w ?_; repeat ((first | refine VO.step rfl rfl ?_ | refine VD.end rfl rfl rfl ?_ | refine VD.mid rfl rfl rfl ?_); refine OpV.box rfl rfl rfl ?_; intro _; refine w ?_))
  (apply VO.pure rfl rfl; apply PureAt.build sbF rfl; (simp [buildX, setL, Value.cells]; rfl); rfl)
  (refine w ?_; repeat ((first | refine VO.step rfl rfl ?_ | refine VD.end rfl rfl rfl ?_ | refine VD.mid rfl rfl rfl ?_); refine OpV.box rfl rfl rfl ?_; intro _; refine w ?_))
  (first | refine VO.step rfl rfl ?_ | refine VD.end rfl rfl rfl ?_ | refine VD.mid rfl rfl rfl ?_)
  refine OpV.buildSlice (cs := fieldCells (fun i => [(p0, g0, a0), (p1, g1, a1), (p2, g2, a2), (p3, g3, a3), (p4, g4, a4), (p5, g5, a5), (p6, g6, a6), (p7, g7, a7), (p8, g8, a8)].getD i (0, 0, 0))) stF rfl rfl (by simp [Value.cells]) rfl (by decide) rfl ?_
  intro nb
  (refine w ?_; repeat ((first | refine VO.step rfl rfl ?_ | refine VD.end rfl rfl rfl ?_ | refine VD.mid rfl rfl rfl ?_); refine OpV.box rfl rfl rfl ?_; intro _; refine w ?_))
  refine VE.done (fun i => [(p0, g0, a0), (p1, g1, a1), (p2, g2, a2), (p3, g3, a3), (p4, g4, a4), (p5, g5, a5), (p6, g6, a6), (p7, g7, a7), (p8, g8, a8)].getD i (0, 0, 0), nb) rfl trivial rfl ?_
  show Ent W _ (Row nb 160 _ :: ([Row p0 175 [fnV 82], Row g0 176 [fnV 89], Row a0 178 [fnV 108], Row p1 175 [fnV 82], Row g1 176 [fnV 89], Row a1 178 [fnV 109], Row p2 175 [fnV 82], Row g2 176 [fnV 89], Row a2 178 [fnV 110], Row p3 180 [fnV 112], Row g3 182 [fnV 113], Row a3 184 [fnV 114], Row p4 180 [fnV 112], Row g4 182 [fnV 113], Row a4 184 [fnV 115], Row p5 180 [fnV 112], Row g5 182 [fnV 113], Row a5 184 [fnV 116], Row p6 187 [fnV 121], Row g6 189 [fnV 122], Row a6 184 [fnV 123], Row p7 187 [fnV 121], Row g7 189 [fnV 122], Row a7 184 [fnV 124], Row p8 187 [fnV 121], Row g8 189 [fnV 122], Row a8 184 [fnV 125]] ++ R))
  exact Ent.re

/-! ### What each puts -/
theorem magicS_ok {W : World} {R : List SProp} : Does W Try.prog 96 [] R (β := Nat) (fun _ => True) (fun b => .slice (some ⟨b, 0, none⟩) 8 8) (fun b => MRow b 5 (bytes magicS) :: R) := by
  (refine Does.enter Try.func96 Try.ntmps96 rfl rfl ?_)
  (refine w ?_; repeat ((first | refine VO.step rfl rfl ?_ | refine VD.end rfl rfl rfl ?_ | refine VD.mid rfl rfl rfl ?_); refine OpV.box rfl rfl rfl ?_; intro _; refine w ?_))
  ((first | refine VO.step rfl rfl ?_ | refine VD.end rfl rfl rfl ?_ | refine VD.mid rfl rfl rfl ?_); refine OpV.buildSlice1 st_22 rfl rfl (by first | (simp; done) | simp [Value.oneCell']) (by decide) rfl ?_; intro nb)
  (first | refine VO.step rfl rfl ?_ | refine VD.end rfl rfl rfl ?_ | refine VD.mid rfl rfl rfl ?_)
  refine OpV.markConst tab_ok rfl rfl rfl (by (repeat first | exact .head | apply Hole.tail)) rfl ?_
  (refine w ?_; repeat ((first | refine VO.step rfl rfl ?_ | refine VD.end rfl rfl rfl ?_ | refine VD.mid rfl rfl rfl ?_); refine OpV.box rfl rfl rfl ?_; intro _; refine w ?_))
  refine VE.done nb rfl trivial rfl ?_
  exact Ent.refl
theorem bits_ok {W : World} {R : List SProp} (s : SuperD) : Does1 W Try.prog 118 [.agg s.cells.toArray] R (.int .u8 s.flags) R := by
  (refine Does.enter Try.func118 Try.ntmps118 rfl rfl ?_)
  (refine w ?_; repeat ((first | refine VO.step rfl rfl ?_ | refine VD.end rfl rfl rfl ?_ | refine VD.mid rfl rfl rfl ?_); refine OpV.box rfl rfl rfl ?_; intro _; refine w ?_))
  rename_i b
  have hfl : s.flags = bitN s.lazy + 2 * bitN s.lost := rfl
  refine VC.joinH [(1, .pointer (some ⟨b, 0, none⟩)), (3, .int .u8 (bitN s.lazy))] (fun Q2 jn => ?_) ?_
  · (refine VC.cond rfl rfl ?_ ?_ <;> intro hc)
    · (refine w ?_; repeat ((first | refine VO.step rfl rfl ?_ | refine VD.end rfl rfl rfl ?_ | refine VD.mid rfl rfl rfl ?_); refine OpV.box rfl rfl rfl ?_; intro _; refine w ?_))
      refine jn.to () trivial ⟨rfl, asV rfl (by rw [hc]; rfl), trivial⟩ Ent.refl
    · (refine w ?_; repeat ((first | refine VO.step rfl rfl ?_ | refine VD.end rfl rfl rfl ?_ | refine VD.mid rfl rfl rfl ?_); refine OpV.box rfl rfl rfl ?_; intro _; refine w ?_))
      refine jn.to () trivial ⟨rfl, asV rfl (by rw [hc]; rfl), trivial⟩ Ent.refl
  (refine w ?_; repeat ((first | refine VO.step rfl rfl ?_ | refine VD.end rfl rfl rfl ?_ | refine VD.mid rfl rfl rfl ?_); refine OpV.box rfl rfl rfl ?_; intro _; refine w ?_))
  refine VC.joinH [(3, .int .u8 s.flags)] (fun Q2 jn => ?_) ?_
  · (refine VC.cond rfl rfl ?_ ?_ <;> intro hc)
    · (refine w ?_; repeat ((first | refine VO.step rfl rfl ?_ | refine VD.end rfl rfl rfl ?_ | refine VD.mid rfl rfl rfl ?_); refine OpV.box rfl rfl rfl ?_; intro _; refine w ?_))
      refine jn.to () trivial ⟨asV rfl (by rw [hfl, hc]; cases s.lazy <;> rfl), trivial⟩ Ent.refl
    · (refine w ?_; repeat ((first | refine VO.step rfl rfl ?_ | refine VD.end rfl rfl rfl ?_ | refine VD.mid rfl rfl rfl ?_); refine OpV.box rfl rfl rfl ?_; intro _; refine w ?_))
      refine jn.to () trivial ⟨asV rfl (by rw [hfl, hc]; cases s.lazy <;> rfl), trivial⟩ Ent.refl
  (refine w ?_; repeat ((first | refine VO.step rfl rfl ?_ | refine VD.end rfl rfl rfl ?_ | refine VD.mid rfl rfl rfl ?_); refine OpV.box rfl rfl rfl ?_; intro _; refine w ?_))
  (refine VE.done1 rfl ?_ ?_)
  · rfl
  · exact Ent.re
/-- What the k-th function of a superblock puts. -/
def PutS (W : World) (s : SuperD) (R : List SProp) (k : Nat) (v : Value) : Prop :=
  ∃ (g : FuncId) (cap : Array Value), v = .func (.func g) #[] cap ∧ (∀ a w, (callFunc g a).run Try.prog w = .ok (.enter g a) w) ∧
    ∀ p, Does1 W Try.prog g ([.pointer (some ⟨p, 0, none⟩), .agg s.cells.toArray] ++ cap.toList) (PackerR p ⟨128, s.had k, 0⟩ :: R) (.tuple #[]) (PackerR p ⟨128, s.had (k + 1), 0⟩ :: R)
theorem num_had {s : SuperD} (h : s.In) {k v w : Nat} (hk : k < 12) (hw : w ≤ 8) (hn : s.nums[k]? = some (v, w)) : (Pk.mk 128 (s.had k) 0).number v w = ⟨128, s.had (k + 1), 0⟩ := by
  rw [Pk.number_good rfl (by have := h.had_le k (by omega); simp only; omega), had_succ s hk hn]
theorem cell_nat {z : Int} (h : 0 ≤ z) : some (Value.int .i64 z) = some (Value.int .i64 ((z.toNat : Nat) : Int)) := by rw [Int.toNat_of_nonneg h]
section
variable {W : World} {s : SuperD} {R : List SProp} {x : Nat → Nat × Nat × Nat}
theorem puts_id (h : s.In) (hb : ∀ q ∈ boxes x, q ∈ R) : PutS W s R 1 ((pairs x)[1]'(by rw [pairs_length]; decide)).1 := by
  refine ⟨_, _, rfl, fun _ _ => by simp, fun p => ?_⟩
  have q := put64_ok (W := W) (R := R) (v := s.id) (p := p) (k := ⟨128, s.had 1, 0⟩) (cs := s.cells) (hb (Row (x 0).1 _ _) (by simp [boxes])) (hb (Row (x 0).2.2 _ _) (by simp [boxes])) at_id rfl
  rw [num_had h (by decide) (by decide) rfl] at q
  exact q
theorem puts_events (h : s.In) (hb : ∀ q ∈ boxes x, q ∈ R) : PutS W s R 2 ((pairs x)[2]'(by rw [pairs_length]; decide)).1 := by
  refine ⟨_, _, rfl, fun _ _ => by simp, fun p => ?_⟩
  have q := put64_ok (W := W) (R := R) (v := s.events) (p := p) (k := ⟨128, s.had 2, 0⟩) (cs := s.cells) (hb (Row (x 1).1 _ _) (by simp [boxes])) (hb (Row (x 1).2.2 _ _) (by simp [boxes])) at_events rfl
  rw [num_had h (by decide) (by decide) rfl] at q
  exact q
theorem puts_safe (h : s.In) (hb : ∀ q ∈ boxes x, q ∈ R) : PutS W s R 3 ((pairs x)[3]'(by rw [pairs_length]; decide)).1 := by
  refine ⟨_, _, rfl, fun _ _ => by simp, fun p => ?_⟩
  have q := put64_ok (W := W) (R := R) (v := s.safe) (p := p) (k := ⟨128, s.had 3, 0⟩) (cs := s.cells) (hb (Row (x 2).1 _ _) (by simp [boxes])) (hb (Row (x 2).2.2 _ _) (by simp [boxes])) at_safe rfl
  rw [num_had h (by decide) (by decide) rfl] at q
  exact q
theorem puts_role (h : s.In) (hb : ∀ q ∈ boxes x, q ∈ R) : PutS W s R 4 ((pairs x)[4]'(by rw [pairs_length]; decide)).1 := by
  refine ⟨_, _, rfl, fun _ _ => by simp, fun p => ?_⟩
  have q := put8_ok (W := W) (R := R) (v := s.role.toNat) (p := p) (k := ⟨128, s.had 4, 0⟩) (cs := s.cells) (hb (Row (x 3).1 _ _) (by simp [boxes])) (hb (Row (x 3).2.2 _ _) (by simp [boxes])) at_role (cell_nat (by have := h.role; omega)) (by have := h.role; omega)
  rw [num_had h (by decide) (by decide) rfl] at q
  exact q
theorem puts_members (h : s.In) (hb : ∀ q ∈ boxes x, q ∈ R) : PutS W s R 5 ((pairs x)[5]'(by rw [pairs_length]; decide)).1 := by
  refine ⟨_, _, rfl, fun _ _ => by simp, fun p => ?_⟩
  have q := put8_ok (W := W) (R := R) (v := s.members.toNat) (p := p) (k := ⟨128, s.had 5, 0⟩) (cs := s.cells) (hb (Row (x 4).1 _ _) (by simp [boxes])) (hb (Row (x 4).2.2 _ _) (by simp [boxes])) at_members (cell_nat (by have := h.members; omega)) (by have := h.members; omega)
  rw [num_had h (by decide) (by decide) rfl] at q
  exact q
theorem puts_chunk (h : s.In) (hb : ∀ q ∈ boxes x, q ∈ R) : PutS W s R 6 ((pairs x)[6]'(by rw [pairs_length]; decide)).1 := by
  refine ⟨_, _, rfl, fun _ _ => by simp, fun p => ?_⟩
  have q := put8_ok (W := W) (R := R) (v := s.chunk.toNat) (p := p) (k := ⟨128, s.had 6, 0⟩) (cs := s.cells) (hb (Row (x 5).1 _ _) (by simp [boxes])) (hb (Row (x 5).2.2 _ _) (by simp [boxes])) at_chunk (cell_nat (by have := h.chunk; omega)) (by have := h.chunk; omega)
  rw [num_had h (by decide) (by decide) rfl] at q
  exact q
theorem puts_stripes (h : s.In) (hb : ∀ q ∈ boxes x, q ∈ R) : PutS W s R 8 ((pairs x)[8]'(by rw [pairs_length]; decide)).1 := by
  refine ⟨_, _, rfl, fun _ _ => by simp, fun p => ?_⟩
  have q := put16_ok (W := W) (R := R) (v := s.stripes.toNat) (p := p) (k := ⟨128, s.had 8, 0⟩) (cs := s.cells) (hb (Row (x 6).1 _ _) (by simp [boxes])) (hb (Row (x 6).2.2 _ _) (by simp [boxes])) at_stripes (cell_nat (by have := h.stripes; omega)) (by have := h.stripes; omega)
  rw [num_had h (by decide) (by decide) rfl] at q
  exact q
theorem puts_ring (h : s.In) (hb : ∀ q ∈ boxes x, q ∈ R) : PutS W s R 9 ((pairs x)[9]'(by rw [pairs_length]; decide)).1 := by
  refine ⟨_, _, rfl, fun _ _ => by simp, fun p => ?_⟩
  have q := put16_ok (W := W) (R := R) (v := s.ring.toNat) (p := p) (k := ⟨128, s.had 9, 0⟩) (cs := s.cells) (hb (Row (x 7).1 _ _) (by simp [boxes])) (hb (Row (x 7).2.2 _ _) (by simp [boxes])) at_ring (cell_nat (by have := h.ring; omega)) (by have := h.ring; omega)
  rw [num_had h (by decide) (by decide) rfl] at q
  exact q
theorem puts_cursor (h : s.In) (hb : ∀ q ∈ boxes x, q ∈ R) : PutS W s R 10 ((pairs x)[10]'(by rw [pairs_length]; decide)).1 := by
  refine ⟨_, _, rfl, fun _ _ => by simp, fun p => ?_⟩
  have q := put16_ok (W := W) (R := R) (v := s.cursor.toNat) (p := p) (k := ⟨128, s.had 10, 0⟩) (cs := s.cells) (hb (Row (x 8).1 _ _) (by simp [boxes])) (hb (Row (x 8).2.2 _ _) (by simp [boxes])) at_cursor (cell_nat (by have := h.cursor; omega)) (by have := h.cursor; omega)
  rw [num_had h (by decide) (by decide) rfl] at q
  exact q
theorem puts_magic (h : s.In) : PutS W s R 0 ((pairs x)[0]'(by rw [pairs_length]; decide)).1 := by
  refine ⟨_, _, rfl, fun _ _ => by simp, fun p => ?_⟩
  (refine Does.enter Try.func105 Try.ntmps105 rfl rfl ?_)
  (refine w ?_; repeat ((first | refine VO.step rfl rfl ?_ | refine VD.end rfl rfl rfl ?_ | refine VD.mid rfl rfl rfl ?_); refine OpV.box rfl rfl rfl ?_; intro _; refine w ?_))
  ((first | refine VO.step rfl rfl ?_ | refine VD.end rfl rfl rfl ?_ | refine VD.mid rfl rfl rfl ?_); refine OpV.call rfl rfl (fun _ _ => by simp) (magicS_ok) Ent.re rfl ?_)
  intro b _
  (first | refine VO.step rfl rfl ?_ | refine VD.end rfl rfl rfl ?_ | refine VD.mid rfl rfl rfl ?_)
  refine OpV.call rfl rfl (fun _ _ => by simp) (rawR_ok (R := MRow b 5 (bytes magicS) :: R) (l := magicS) p ⟨128, s.had 0, 0⟩ (Rds.mrow (bytes_one _) (.head _) rfl)) Ent.re rfl ?_
  intro _ _
  rw [Pk.raw_good rfl (by rw [had_zero]; decide)]
  dsimp only
  rw [magicS_low, ← had_succ s (k := 0) (by decide) rfl]
  (refine w ?_; repeat ((first | refine VO.step rfl rfl ?_ | refine VD.end rfl rfl rfl ?_ | refine VD.mid rfl rfl rfl ?_); refine OpV.box rfl rfl rfl ?_; intro _; refine w ?_))
  (refine VE.done1N rfl rfl ?_)
  exact Ent.re
theorem puts_bits (h : s.In) : PutS W s R 7 ((pairs x)[7]'(by rw [pairs_length]; decide)).1 := by
  refine ⟨_, _, rfl, fun _ _ => by simp, fun p => ?_⟩
  have hf := flags_lt s
  (refine Does.enter Try.func117 Try.ntmps117 rfl rfl ?_)
  (refine w ?_; repeat ((first | refine VO.step rfl rfl ?_ | refine VD.end rfl rfl rfl ?_ | refine VD.mid rfl rfl rfl ?_); refine OpV.box rfl rfl rfl ?_; intro _; refine w ?_))
  ((first | refine VO.step rfl rfl ?_ | refine VD.end rfl rfl rfl ?_ | refine VD.mid rfl rfl rfl ?_); refine OpV.call rfl rfl (fun _ _ => by simp) (bits_ok s) Ent.refl rfl ?_)
  intro _ _
  (refine w ?_; repeat ((first | refine VO.step rfl rfl ?_ | refine VD.end rfl rfl rfl ?_ | refine VD.mid rfl rfl rfl ?_); refine OpV.box rfl rfl rfl ?_; intro _; refine w ?_))
  (((first | refine VO.step rfl rfl ?_ | refine VD.end rfl rfl rfl ?_ | refine VD.mid rfl rfl rfl ?_); refine OpV.call rfl rfl (fun _ _ => by simp) (u8_ok p ⟨128, s.had 7, 0⟩ s.flags (by omega)) Ent.re rfl ?_); intro _ _)
  rw [num_had h (by decide) (by decide) rfl]
  (refine w ?_; repeat ((first | refine VO.step rfl rfl ?_ | refine VD.end rfl rfl rfl ?_ | refine VD.mid rfl rfl rfl ?_); refine OpV.box rfl rfl rfl ?_; intro _; refine w ?_))
  (refine VE.done1N rfl rfl ?_)
  exact Ent.re
theorem puts_zero (h : s.In) : PutS W s R 11 ((pairs x)[11]'(by rw [pairs_length]; decide)).1 := by
  refine ⟨_, _, rfl, fun _ _ => by simp, fun p => ?_⟩
  (refine Does.enter Try.func126 Try.ntmps126 rfl rfl ?_)
  (refine w ?_; repeat ((first | refine VO.step rfl rfl ?_ | refine VD.end rfl rfl rfl ?_ | refine VD.mid rfl rfl rfl ?_); refine OpV.box rfl rfl rfl ?_; intro _; refine w ?_))
  (((first | refine VO.step rfl rfl ?_ | refine VD.end rfl rfl rfl ?_ | refine VD.mid rfl rfl rfl ?_); refine OpV.call rfl rfl (fun _ _ => by simp) (u16_ok p ⟨128, s.had 11, 0⟩ 0 (by omega)) Ent.re rfl ?_); intro _ _)
  rw [num_had h (by decide) (by decide) rfl]
  (refine w ?_; repeat ((first | refine VO.step rfl rfl ?_ | refine VD.end rfl rfl rfl ?_ | refine VD.mid rfl rfl rfl ?_); refine OpV.box rfl rfl rfl ?_; intro _; refine w ?_))
  (refine VE.done1N rfl rfl ?_)
  exact Ent.re
theorem low1 (c : UInt8) : lowBytes c.toNat 1 = [c] := by simp [lowBytes]
theorem puts_states (h : s.In) (hr : Rds W R 1 s.so s.states.length (bytes s.states)) : PutS W s R 12 ((pairs x)[12]'(by rw [pairs_length]; decide)).1 := by
  refine ⟨_, _, rfl, fun _ _ => by simp, fun p => ?_⟩
  have h16 := h.len16
  have h12 := had_length s 12 (by decide)
  rw [show offN 12 = 44 from rfl] at h12
  (refine Does.enter Try.func129 Try.ntmps129 rfl rfl ?_)
  (refine w ?_; repeat ((first | refine VO.step rfl rfl ?_ | refine VD.end rfl rfl rfl ?_ | refine VD.mid rfl rfl rfl ?_); refine OpV.box rfl rfl rfl ?_; intro _; refine w ?_))
  rename_i b
  refine VC.loop (α := Nat) (fun i => i ≤ s.states.length) (fun i => Row b 89 s.cells :: PackerR p ⟨128, s.had 12 ++ s.states.take i, 0⟩ :: R)
    (fun i => [(0, .pointer (some ⟨p, 0, none⟩)), (7, .slice s.so s.states.length s.sc), (8, .int .i64 s.states.length), (9, .int .i64 i)]) (fun i => s.states.length - i) rfl 0 (Nat.zero_le _) (by rw [List.take_zero, List.append_nil]; exact Ent.refl) ⟨rfl, rfl, rfl, rfl, trivial⟩ ?_
  intro i hi
  (refine w ?_; repeat ((first | refine VO.step rfl rfl ?_ | refine VD.end rfl rfl rfl ?_ | refine VD.mid rfl rfl rfl ?_); refine OpV.box rfl rfl rfl ?_; intro _; refine w ?_))
  (refine VC.cond rfl rfl ?_ ?_ <;> intro hc)
  · have hlt : i < s.states.length := by have := of_decide_eq_true hc; omega
    obtain ⟨a, ha⟩ : ∃ a, s.so = some a := by cases hs : s.so with | none => have := hr.nil hs; omega | some a => exact ⟨a, rfl⟩
    rw [ha] at hr
    have hb1 : Rds W (Row b 89 s.cells :: PackerR p ⟨128, s.had 12 ++ s.states.take i, 0⟩ :: R) 1 (some a) s.states.length (bytes s.states) := hr.ent (Ent.drop (Ent.drop Ent.refl))
    refine VC.re 7 (.slice (some a) s.states.length s.sc) rfl (by rw [ha]) ?_
    (refine w ?_; repeat ((first | refine VO.step rfl rfl ?_ | refine VD.end rfl rfl rfl ?_ | refine VD.mid rfl rfl rfl ?_); refine OpV.box rfl rfl rfl ?_; intro _; refine w ?_))
    (((first | refine VO.step rfl rfl ?_ | refine VD.end rfl rfl rfl ?_ | refine VD.mid rfl rfl rfl ?_); refine OpV.call rfl rfl (fun _ _ => by simp) (u8_ok p ⟨128, s.had 12 ++ s.states.take i, 0⟩ s.states[i].toNat (by have := s.states[i].toNat_lt; omega)) Ent.re rfl ?_); intro _ _)
    rw [Pk.number_good rfl (by simp only [List.length_append, List.length_take]; omega)]
    dsimp only
    rw [low1, List.append_assoc, ← List.take_succ_eq_append_getElem hlt]
    (refine w ?_; repeat ((first | refine VO.step rfl rfl ?_ | refine VD.end rfl rfl rfl ?_ | refine VD.mid rfl rfl rfl ?_); refine OpV.box rfl rfl rfl ?_; intro _; refine w ?_))
    refine VE.round (i + 1) (by omega) (by omega) ⟨rfl, asV rfl (by rw [ha]), rfl, asV rfl (by congr 1), trivial⟩ ?_
    exact Ent.re
  · have hge : i = s.states.length := by have := of_decide_eq_false hc; omega
    subst hge
    (refine w ?_; repeat ((first | refine VO.step rfl rfl ?_ | refine VD.end rfl rfl rfl ?_ | refine VD.mid rfl rfl rfl ?_); refine OpV.box rfl rfl rfl ?_; intro _; refine w ?_))
    (refine VE.done1N rfl rfl ?_)
    rw [List.take_length, ← had_last]
    exact Ent.re
theorem puts_all (h : s.In) (hb : ∀ q ∈ boxes x, q ∈ R) (hr : Rds W R 1 s.so s.states.length (bytes s.states)) : ∀ k (hk : k < 13), PutS W s R k ((pairs x)[k]'(by rw [pairs_length]; exact hk)).1
  | 0, _ => puts_magic h
  | 1, _ => puts_id h hb
  | 2, _ => puts_events h hb
  | 3, _ => puts_safe h hb
  | 4, _ => puts_role h hb
  | 5, _ => puts_members h hb
  | 6, _ => puts_chunk h hb
  | 7, _ => puts_bits h
  | 8, _ => puts_stripes h hb
  | 9, _ => puts_ring h hb
  | 10, _ => puts_cursor h hb
  | 11, _ => puts_zero h
  | 12, _ => puts_states h hr
end
end Go.Proofs.Ytgkpdpoblofehaa
