/- Package super: what its fields get. Written by program (wip/gen_super.py). -/
import Derived.Test.YtgkpdpoblofehaaPd
set_option maxRecDepth 8000
set_option linter.unusedVariables false
set_option linter.unusedSimpArgs false
set_option linter.unusedSectionVars false
namespace Go.Proofs.Ytgkpdpoblofehaa
open Go.RowKit Go.Sl
attribute [local irreducible] Own

theorem bit8 : ∀ v : Fin 256, ((IntKind.u8.wrap ((BitVec.ofInt IntKind.u8.bits (v.val : Int) &&& BitVec.ofInt IntKind.u8.bits 1).toNat : Int)) != 0) = decide (v.val % 2 = 1) ∧ ((IntKind.u8.wrap ((BitVec.ofInt IntKind.u8.bits (v.val : Int) &&& BitVec.ofInt IntKind.u8.bits 2).toNat : Int)) != 0) = decide (v.val / 2 % 2 = 1) := by decide +kernel
/-! ### What is read -/
def stepsR (k : Rk) : Nat → Rk
  | 0 => k
  | i + 1 => (stepsR k i).number 1
def stsOf (k : Rk) (n : Nat) : List UInt8 := (List.range n).map fun i => UInt8.ofNat (leVal ((stepsR k i).got 1))
theorem stsOf_length (k : Rk) (n : Nat) : (stsOf k n).length = n := by simp [stsOf]
theorem stsOf_succ (k : Rk) (n : Nat) : stsOf k (n + 1) = stsOf k n ++ [UInt8.ofNat (leVal ((stepsR k n).got 1))] := by simp [stsOf, List.range_succ]
/-- Where the reader stands, ahead of the k-th field. -/
def rkAt (l : List UInt8) (k : Nat) : Rk := if k ≤ 11 then ⟨l, offN k, 0, 0⟩ else (Rk.mk l 42 0 0).noughts 2
def manyS (l : List UInt8) : Nat := min (numAt l 33 1) 16
def SuperD.parse (l : List UInt8) : SuperD where
  id := numAt l 8 8
  events := numAt l 16 8
  safe := numAt l 24 8
  role := numAt l 32 1
  members := numAt l 33 1
  chunk := numAt l 34 1
  stripes := numAt l 36 2
  ring := numAt l 38 2
  lazy := decide (numAt l 35 1 % 2 = 1)
  lost := decide (numAt l 35 1 / 2 % 2 = 1)
  so := none
  sc := 0
  states := stsOf (rkAt l 12) (manyS l)
  cursor := numAt l 40 2
/-- With its first fields alone. -/
def SuperD.upto (p : SuperD) (k : Nat) : SuperD where
  id := if 1 < k then p.id else 0
  events := if 2 < k then p.events else 0
  safe := if 3 < k then p.safe else 0
  role := if 4 < k then p.role else 0
  members := if 5 < k then p.members else 0
  chunk := if 6 < k then p.chunk else 0
  stripes := if 8 < k then p.stripes else 0
  ring := if 9 < k then p.ring else 0
  lazy := if 7 < k then p.lazy else false
  lost := if 7 < k then p.lost else false
  so := none
  sc := 0
  states := []
  cursor := if 10 < k then p.cursor else 0
def SuperD.hold (p : SuperD) (x : Option Addr × Nat) (st : List UInt8) : SuperD := { p with so := x.1, sc := x.2, states := st }
theorem hold_set (p : SuperD) (x y : Option Addr × Nat) (X : List UInt8) (c : UInt8) : (p.hold y (X ++ [c])).cells = (p.hold x X).cells.set 10 (.slice y.1 (X.length + 1) y.2) := by
  simp [SuperD.hold]
abbrev OwnSt (x : Option Addr × Nat) (l : List UInt8) : SProp := Own 135 1 (.slice x.1 l.length x.2) l.length (bytes l)
/-- What the k-th function of a superblock gets. -/
def GetS (W : World) (l : List UInt8) (R : List SProp) (k : Nat) (v : Value) : Prop :=
  ∃ (g : FuncId) (cap : Array Value), v = .func (.func g) #[] cap ∧ (∀ a w, (callFunc g a).run Try.prog w = .ok (.enter g a) w) ∧
    ∀ r sb, Does1 W Try.prog g ([.pointer (some ⟨r, 0, none⟩), .pointer (some ⟨sb, 0, none⟩)] ++ cap.toList) (ReaderR r (rkAt l k) :: Row sb 89 ((SuperD.parse l).upto k).cells :: R) (.tuple #[])
      (ReaderR r (rkAt l (k + 1)) :: Row sb 89 ((SuperD.parse l).upto (k + 1)).cells :: R)
theorem rk_num {l : List UInt8} (hl : l.length = 128) {k w : Nat} (hk : k ≤ 10) (hw : offN k + w = offN (k + 1)) : (rkAt l k).number w = rkAt l (k + 1) ∧ leVal ((rkAt l k).got w) = numAt l (offN k) w := by
  have h44 := offN_le (k + 1) (by omega)
  unfold rkAt
  rw [if_pos (by omega), if_pos (by omega)]
  have hg := Rk.got_good (k := ⟨l, offN k, 0, 0⟩) (n := w) rfl (by simp only; omega)
  rw [hg.2.2, hg.1]
  exact ⟨by simp only [hw], rfl⟩
section
variable {W : World} {l : List UInt8} {R : List SProp} {x : Nat → Nat × Nat × Nat}
theorem gets_id (hl : l.length = 128) (hb : ∀ q ∈ boxes x, q ∈ R) : GetS W l R 1 ((pairs x)[1]'(by rw [pairs_length]; decide)).2 := by
  refine ⟨_, _, rfl, fun _ _ => by simp, fun r sb => ?_⟩
  have q := get64_ok (W := W) (R := R) (r := r) (sb := sb) (k := rkAt l 1) (cs := ((SuperD.parse l).upto 1).cells) (hb (Row (x 0).2.1 _ _) (by simp [boxes])) (hb (Row (x 0).2.2 _ _) (by simp [boxes])) at_id (by simp)
  rw [(rk_num hl (k := 1) (w := 8) (by decide) rfl).1, (rk_num hl (k := 1) (w := 8) (by decide) rfl).2] at q
  exact q
theorem gets_events (hl : l.length = 128) (hb : ∀ q ∈ boxes x, q ∈ R) : GetS W l R 2 ((pairs x)[2]'(by rw [pairs_length]; decide)).2 := by
  refine ⟨_, _, rfl, fun _ _ => by simp, fun r sb => ?_⟩
  have q := get64_ok (W := W) (R := R) (r := r) (sb := sb) (k := rkAt l 2) (cs := ((SuperD.parse l).upto 2).cells) (hb (Row (x 1).2.1 _ _) (by simp [boxes])) (hb (Row (x 1).2.2 _ _) (by simp [boxes])) at_events (by simp)
  rw [(rk_num hl (k := 2) (w := 8) (by decide) rfl).1, (rk_num hl (k := 2) (w := 8) (by decide) rfl).2] at q
  exact q
theorem gets_safe (hl : l.length = 128) (hb : ∀ q ∈ boxes x, q ∈ R) : GetS W l R 3 ((pairs x)[3]'(by rw [pairs_length]; decide)).2 := by
  refine ⟨_, _, rfl, fun _ _ => by simp, fun r sb => ?_⟩
  have q := get64_ok (W := W) (R := R) (r := r) (sb := sb) (k := rkAt l 3) (cs := ((SuperD.parse l).upto 3).cells) (hb (Row (x 2).2.1 _ _) (by simp [boxes])) (hb (Row (x 2).2.2 _ _) (by simp [boxes])) at_safe (by simp)
  rw [(rk_num hl (k := 3) (w := 8) (by decide) rfl).1, (rk_num hl (k := 3) (w := 8) (by decide) rfl).2] at q
  exact q
theorem gets_role (hl : l.length = 128) (hb : ∀ q ∈ boxes x, q ∈ R) : GetS W l R 4 ((pairs x)[4]'(by rw [pairs_length]; decide)).2 := by
  refine ⟨_, _, rfl, fun _ _ => by simp, fun r sb => ?_⟩
  have q := get8_ok (W := W) (R := R) (r := r) (sb := sb) (k := rkAt l 4) (cs := ((SuperD.parse l).upto 4).cells) (hb (Row (x 3).2.1 _ _) (by simp [boxes])) (hb (Row (x 3).2.2 _ _) (by simp [boxes])) at_role (by simp)
  rw [(rk_num hl (k := 4) (w := 1) (by decide) rfl).1, (rk_num hl (k := 4) (w := 1) (by decide) rfl).2] at q
  exact q
theorem gets_members (hl : l.length = 128) (hb : ∀ q ∈ boxes x, q ∈ R) : GetS W l R 5 ((pairs x)[5]'(by rw [pairs_length]; decide)).2 := by
  refine ⟨_, _, rfl, fun _ _ => by simp, fun r sb => ?_⟩
  have q := get8_ok (W := W) (R := R) (r := r) (sb := sb) (k := rkAt l 5) (cs := ((SuperD.parse l).upto 5).cells) (hb (Row (x 4).2.1 _ _) (by simp [boxes])) (hb (Row (x 4).2.2 _ _) (by simp [boxes])) at_members (by simp)
  rw [(rk_num hl (k := 5) (w := 1) (by decide) rfl).1, (rk_num hl (k := 5) (w := 1) (by decide) rfl).2] at q
  exact q
theorem gets_chunk (hl : l.length = 128) (hb : ∀ q ∈ boxes x, q ∈ R) : GetS W l R 6 ((pairs x)[6]'(by rw [pairs_length]; decide)).2 := by
  refine ⟨_, _, rfl, fun _ _ => by simp, fun r sb => ?_⟩
  have q := get8_ok (W := W) (R := R) (r := r) (sb := sb) (k := rkAt l 6) (cs := ((SuperD.parse l).upto 6).cells) (hb (Row (x 5).2.1 _ _) (by simp [boxes])) (hb (Row (x 5).2.2 _ _) (by simp [boxes])) at_chunk (by simp)
  rw [(rk_num hl (k := 6) (w := 1) (by decide) rfl).1, (rk_num hl (k := 6) (w := 1) (by decide) rfl).2] at q
  exact q
theorem gets_stripes (hl : l.length = 128) (hb : ∀ q ∈ boxes x, q ∈ R) : GetS W l R 8 ((pairs x)[8]'(by rw [pairs_length]; decide)).2 := by
  refine ⟨_, _, rfl, fun _ _ => by simp, fun r sb => ?_⟩
  have q := get16_ok (W := W) (R := R) (r := r) (sb := sb) (k := rkAt l 8) (cs := ((SuperD.parse l).upto 8).cells) (hb (Row (x 6).2.1 _ _) (by simp [boxes])) (hb (Row (x 6).2.2 _ _) (by simp [boxes])) at_stripes (by simp)
  rw [(rk_num hl (k := 8) (w := 2) (by decide) rfl).1, (rk_num hl (k := 8) (w := 2) (by decide) rfl).2] at q
  exact q
theorem gets_ring (hl : l.length = 128) (hb : ∀ q ∈ boxes x, q ∈ R) : GetS W l R 9 ((pairs x)[9]'(by rw [pairs_length]; decide)).2 := by
  refine ⟨_, _, rfl, fun _ _ => by simp, fun r sb => ?_⟩
  have q := get16_ok (W := W) (R := R) (r := r) (sb := sb) (k := rkAt l 9) (cs := ((SuperD.parse l).upto 9).cells) (hb (Row (x 7).2.1 _ _) (by simp [boxes])) (hb (Row (x 7).2.2 _ _) (by simp [boxes])) at_ring (by simp)
  rw [(rk_num hl (k := 9) (w := 2) (by decide) rfl).1, (rk_num hl (k := 9) (w := 2) (by decide) rfl).2] at q
  exact q
theorem gets_cursor (hl : l.length = 128) (hb : ∀ q ∈ boxes x, q ∈ R) : GetS W l R 10 ((pairs x)[10]'(by rw [pairs_length]; decide)).2 := by
  refine ⟨_, _, rfl, fun _ _ => by simp, fun r sb => ?_⟩
  have q := get16_ok (W := W) (R := R) (r := r) (sb := sb) (k := rkAt l 10) (cs := ((SuperD.parse l).upto 10).cells) (hb (Row (x 8).2.1 _ _) (by simp [boxes])) (hb (Row (x 8).2.2 _ _) (by simp [boxes])) at_cursor (by simp)
  rw [(rk_num hl (k := 10) (w := 2) (by decide) rfl).1, (rk_num hl (k := 10) (w := 2) (by decide) rfl).2] at q
  exact q
theorem gets_magic (hl : l.length = 128) : GetS W l R 0 ((pairs x)[0]'(by rw [pairs_length]; decide)).2 := by
  refine ⟨_, _, rfl, fun _ _ => by simp, fun r sb => ?_⟩
  (refine Does.enter Try.func106 Try.ntmps106 rfl rfl ?_)
  (refine w ?_; repeat ((first | refine VO.step rfl rfl ?_ | refine VD.end rfl rfl rfl ?_ | refine VD.mid rfl rfl rfl ?_); refine OpV.box rfl rfl rfl ?_; intro _; refine w ?_))
  ((first | refine VO.step rfl rfl ?_ | refine VD.end rfl rfl rfl ?_ | refine VD.mid rfl rfl rfl ?_); refine OpV.call rfl rfl (fun _ _ => by simp) (magicS_ok) Ent.re rfl ?_)
  intro b _
  (refine w ?_; repeat ((first | refine VO.step rfl rfl ?_ | refine VD.end rfl rfl rfl ?_ | refine VD.mid rfl rfl rfl ?_); refine OpV.box rfl rfl rfl ?_; intro _; refine w ?_))
  ((first | refine VO.step rfl rfl ?_ | refine VD.end rfl rfl rfl ?_ | refine VD.mid rfl rfl rfl ?_); refine OpV.call rfl rfl (fun _ _ => by simp) (rraw_ok r (rkAt l 0) 8) Ent.re rfl ?_)
  rintro ⟨ra, rc⟩ -
  rw [show (rkAt l 0).raw 8 = rkAt l 1 by unfold Rk.raw; rw [if_neg (by decide)]; exact (rk_num hl (k := 0) (w := 8) (by decide) rfl).1]
  (refine w ?_; repeat ((first | refine VO.step rfl rfl ?_ | refine VD.end rfl rfl rfl ?_ | refine VD.mid rfl rfl rfl ?_); refine OpV.box rfl rfl rfl ?_; intro _; refine w ?_))
  (refine VE.done1N rfl rfl ?_)
  show Ent W _ (ReaderR r (rkAt l 1) :: Row sb 89 ((SuperD.parse l).upto 0).cells :: R)
  exact Ent.re
theorem gets_bits (hl : l.length = 128) : GetS W l R 7 ((pairs x)[7]'(by rw [pairs_length]; decide)).2 := by
  refine ⟨_, _, rfl, fun _ _ => by simp, fun r sb => ?_⟩
  have hlt : numAt l 35 1 < 256 := numAt_lt l 35 1
  have hb := bit8 ⟨numAt l 35 1, hlt⟩
  dsimp only at hb
  (refine Does.enter Try.func119 Try.ntmps119 rfl rfl ?_)
  (refine w ?_; repeat ((first | refine VO.step rfl rfl ?_ | refine VD.end rfl rfl rfl ?_ | refine VD.mid rfl rfl rfl ?_); refine OpV.box rfl rfl rfl ?_; intro _; refine w ?_))
  (((first | refine VO.step rfl rfl ?_ | refine VD.end rfl rfl rfl ?_ | refine VD.mid rfl rfl rfl ?_); refine OpV.call rfl rfl (fun _ _ => by simp) (r8_ok r (rkAt l 7)) Ent.re rfl ?_); intro _ _)
  rw [(rk_num hl (k := 7) (w := 1) (by decide) rfl).1, (rk_num hl (k := 7) (w := 1) (by decide) rfl).2, show offN 7 = 35 from rfl]
  (refine w ?_; repeat ((first | refine VO.step rfl rfl ?_ | refine VD.end rfl rfl rfl ?_ | refine VD.mid rfl rfl rfl ?_); refine OpV.box rfl rfl rfl ?_; intro _; refine w ?_))
  (refine VE.done1N rfl rfl ?_)
  rw [hb.1, hb.2]
  exact Ent.refl
theorem gets_zero (hl : l.length = 128) : GetS W l R 11 ((pairs x)[11]'(by rw [pairs_length]; decide)).2 := by
  refine ⟨_, _, rfl, fun _ _ => by simp, fun r sb => ?_⟩
  (refine Does.enter Try.func127 Try.ntmps127 rfl rfl ?_)
  (refine w ?_; repeat ((first | refine VO.step rfl rfl ?_ | refine VD.end rfl rfl rfl ?_ | refine VD.mid rfl rfl rfl ?_); refine OpV.box rfl rfl rfl ?_; intro _; refine w ?_))
  (((first | refine VO.step rfl rfl ?_ | refine VD.end rfl rfl rfl ?_ | refine VD.mid rfl rfl rfl ?_); refine OpV.call rfl rfl (fun _ _ => by simp) (rnoughts_ok r (rkAt l 11) 2) Ent.re rfl ?_); intro _ _)
  (refine w ?_; repeat ((first | refine VO.step rfl rfl ?_ | refine VD.end rfl rfl rfl ?_ | refine VD.mid rfl rfl rfl ?_); refine OpV.box rfl rfl rfl ?_; intro _; refine w ?_))
  (refine VE.done1N rfl rfl ?_)
  exact Ent.refl
theorem gets_all (hl : l.length = 128) (hb : ∀ q ∈ boxes x, q ∈ R) : ∀ k (hk : k < 12), GetS W l R k ((pairs x)[k]'(by rw [pairs_length]; omega)).2
  | 0, _ => gets_magic hl
  | 1, _ => gets_id hl hb
  | 2, _ => gets_events hl hb
  | 3, _ => gets_safe hl hb
  | 4, _ => gets_role hl hb
  | 5, _ => gets_members hl hb
  | 6, _ => gets_chunk hl hb
  | 7, _ => gets_bits hl
  | 8, _ => gets_stripes hl hb
  | 9, _ => gets_ring hl hb
  | 10, _ => gets_cursor hl hb
  | 11, _ => gets_zero hl
theorem gets_states (hl : l.length = 128) (r sb : Nat) :
    Does W Try.prog 130 [.pointer (some ⟨r, 0, none⟩), .pointer (some ⟨sb, 0, none⟩)] (ReaderR r (rkAt l 12) :: Row sb 89 ((SuperD.parse l).upto 12).cells :: R) (β := Option Addr × Nat) (fun _ => True) (fun _ => .tuple #[])
      (fun y => OwnSt y (SuperD.parse l).states :: Row sb 89 ((SuperD.parse l).hold y (SuperD.parse l).states).cells :: R) := by
  have hlt : numAt l 33 1 < 256 := numAt_lt l 33 1
  have hm : manyS l ≤ 16 := Nat.min_le_right _ _
  (refine Does.enter Try.func130 Try.ntmps130 rfl rfl ?_)
  (refine w ?_; repeat ((first | refine VO.step rfl rfl ?_ | refine VD.end rfl rfl rfl ?_ | refine VD.mid rfl rfl rfl ?_); refine OpV.box rfl rfl rfl ?_; intro _; refine w ?_))
  refine VC.re 9 (.int .i64 (manyS l : Nat)) rfl (by show Value.int .i64 (min ((numAt l 33 1 : Nat) : Int) 16) = _; unfold manyS; congr 1; omega) ?_
  refine VC.loop (α := Nat × Option Addr × Nat) (fun y => y.1 ≤ manyS l) (fun y => OwnSt y.2 (stsOf (rkAt l 12) y.1) :: ReaderR r (stepsR (rkAt l 12) y.1) :: Row sb 89 ((SuperD.parse l).hold y.2 (stsOf (rkAt l 12) y.1)).cells :: R)
    (fun y => [(0, .pointer (some ⟨r, 0, none⟩)), (1, .pointer (some ⟨sb, 0, none⟩)), (9, .int .i64 (manyS l : Nat)), (10, .int .i64 y.1)]) (fun y => manyS l - y.1) rfl (0, none, 0) (Nat.zero_le _) (fun w hw => hw.ownNil _ _) ⟨rfl, rfl, rfl, rfl, trivial⟩ ?_
  rintro ⟨i, so, sc⟩ hi
  dsimp only at hi ⊢
  (refine w ?_; repeat ((first | refine VO.step rfl rfl ?_ | refine VD.end rfl rfl rfl ?_ | refine VD.mid rfl rfl rfl ?_); refine OpV.box rfl rfl rfl ?_; intro _; refine w ?_))
  (refine VC.cond rfl rfl ?_ ?_ <;> intro hc)
  · have hi2 : i < manyS l := by have := of_decide_eq_true hc; omega
    have hg := got_lt (stepsR (rkAt l 12) i) 1
    have hsl := stsOf_length (rkAt l 12) i
    (refine w ?_; repeat ((first | refine VO.step rfl rfl ?_ | refine VD.end rfl rfl rfl ?_ | refine VD.mid rfl rfl rfl ?_); refine OpV.box rfl rfl rfl ?_; intro _; refine w ?_))
    (refine VC.drawn [6, 7, 8] 9 [0, 1, 2, 3, 4, 5, 6, 7, 8, 9, 10, 11] (Row sb 89 ((SuperD.parse l).hold (so, sc) (stsOf (rkAt l 12) i)).cells :: R) rfl (by kernel_rfl) (by kernel_rfl) Ent.re ?_)
    (refine w ?_; repeat ((first | refine VO.step rfl rfl ?_ | refine VD.end rfl rfl rfl ?_ | refine VD.mid rfl rfl rfl ?_); refine OpV.box rfl rfl rfl ?_; intro _; refine w ?_))
    (((first | refine VO.step rfl rfl ?_ | refine VD.end rfl rfl rfl ?_ | refine VD.mid rfl rfl rfl ?_); refine OpV.call rfl rfl (fun _ _ => by simp) (r8_ok r (stepsR (rkAt l 12) i)) Ent.re rfl ?_); intro _ _)
    rw [show (stepsR (rkAt l 12) i).number 1 = stepsR (rkAt l 12) (i + 1) from rfl]
    (refine w ?_; repeat ((first | refine VO.step rfl rfl ?_ | refine VD.end rfl rfl rfl ?_ | refine VD.mid rfl rfl rfl ?_); refine OpV.box rfl rfl rfl ?_; intro _; refine w ?_))
    refine VD.re 18 (byteV (UInt8.ofNat (leVal ((stepsR (rkAt l 12) i).got 1)))) rfl (by unfold byteV; rw [UInt8.toNat_ofNat', Nat.mod_eq_of_lt (by omega)]) ?_
    ((first | refine VO.step rfl rfl ?_ | refine VD.end rfl rfl rfl ?_ | refine VD.mid rfl rfl rfl ?_); refine OpV.buildSlice1 st_87 rfl rfl (by first | (simp; done) | simp [Value.oneCell']) (by decide) rfl ?_; intro nb)
    (refine w ?_; repeat ((first | refine VO.step rfl rfl ?_ | refine VD.end rfl rfl rfl ?_ | refine VD.mid rfl rfl rfl ?_); refine OpV.box rfl rfl rfl ?_; intro _; refine w ?_))
    ((first | refine VO.step rfl rfl ?_ | refine VD.end rfl rfl rfl ?_ | refine VD.mid rfl rfl rfl ?_); refine OpV.appendRow st_87 rfl rfl (by (repeat first | exact .head | apply Hole.tail)) (by (focus repeat first | exact .head _ | apply List.Mem.tail)) rfl (by first | (simp; done) | simp [Value.oneCell']) ?_ ?_ rfl ?_)
    · simp only [maxLen]; omega
    · omega
    intro so' sc'
    (refine w ?_; repeat ((first | refine VO.step rfl rfl ?_ | refine VD.end rfl rfl rfl ?_ | refine VD.mid rfl rfl rfl ?_); refine OpV.box rfl rfl rfl ?_; intro _; refine w ?_))
    refine VE.round (i + 1, so', sc') hi2 (by simp only; omega) ⟨rfl, rfl, rfl, asV rfl (by congr 1), trivial⟩ ?_
    dsimp only
    have hs := stsOf_succ (rkAt l 12) i
    generalize stsOf (rkAt l 12) i = X at *
    generalize stsOf (rkAt l 12) (i + 1) = Y at *
    subst hs
    unfold OwnSt
    rw [bytes_append, List.length_append, List.length_singleton]
    rw [← hold_set _ (so, sc) (so', sc')]
    exact Ent.re
  · have hge : i = manyS l := by have := of_decide_eq_false hc; omega
    subst hge
    (refine w ?_; repeat ((first | refine VO.step rfl rfl ?_ | refine VD.end rfl rfl rfl ?_ | refine VD.mid rfl rfl rfl ?_); refine OpV.box rfl rfl rfl ?_; intro _; refine w ?_))
    refine VE.doneN (so, sc) rfl trivial rfl ?_
    show Ent W _ (OwnSt (so, sc) (stsOf (rkAt l 12) (manyS l)) :: Row sb 89 ((SuperD.parse l).hold (so, sc) (stsOf (rkAt l 12) (manyS l))).cells :: R)
    exact Ent.re
end
end Go.Proofs.Ytgkpdpoblofehaa
