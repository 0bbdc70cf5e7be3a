/- Package disk: a disk's memory, its calls. -/
import Derived.Test.YtbmcgmicnfbckaaLr
import Derived.Test.YtbmcgmicnfbckaaSlg
set_option maxRecDepth 8000
set_option linter.unusedVariables false
set_option linter.unusedSimpArgs false
set_option linter.unusedSectionVars false
namespace Go.Proofs.Ytbmcgmicnfbckaa
open Go.RowKit Go.Sl
attribute [local irreducible] Own

abbrev zb : Value := .int .u8 0
theorem st_sectors : SliceT Try.prog 79 85 (.agg (List.replicate 128 zb).toArray) 128 128 :=
  ⟨by kernel_rfl, by kernel_rfl, by simp [Value.cells], by intro u hu; simp only [Value.cells, List.toList_toArray] at hu; rw [List.eq_of_mem_replicate hu]; rfl⟩
theorem st_writes : SliceT Try.prog 81 88 (.agg (.int .i64 0 :: List.replicate 128 zb).toArray) 129 136 :=
  ⟨by kernel_rfl, by kernel_rfl, by simp [Value.cells], by
    intro u hu; simp only [Value.cells, List.toList_toArray, List.mem_cons] at hu
    rcases hu with hu | hu
    · subst hu; rfl
    · rw [List.eq_of_mem_replicate hu]; rfl⟩
theorem sb_write : StructT Try.prog 88 (.int .i64 0 :: List.replicate 128 zb) [(0, 1), (1, 128)] := by
  refine ⟨fun w => ?_, _, Try.underlying88, fun w => by simp⟩
  obtain ⟨i, hi, hz, hs, hb⟩ := info_parts st_writes.info
  simp [zeroValue, typeInfo, hi, hz]

theorem setL_mid : ∀ (vs a b : List Value), vs.length = b.length → setL (a ++ b) a.length vs = a ++ vs
  | [], a, b, h => by cases b with | nil => simp [setL] | cons _ _ => cases h
  | v :: r, a, [], h => by cases h
  | v :: r, a, x :: b, h => by
    have := setL_mid r (a ++ [v]) b (by simpa using h)
    rw [setL, List.set_append_right _ _ (Nat.le_refl _), Nat.sub_self, List.set_cons_zero]
    simpa using this

/-! ### A disk -/

structure DiskD where
  last : List (List UInt8)
  cache : List (Nat × List UInt8)
  failed : Bool
structure DiskD.ok (k : DiskD) : Prop where
  last : ∀ b ∈ k.last, b.length = 128
  cache : ∀ c ∈ k.cache, c.1 < k.last.length ∧ c.2.length = 128
  size : k.last.length ≤ 8192
def wCells (c : Nat × List UInt8) : List Value := .int .i64 (c.1 : Int) :: bytes c.2

/-- Which write is the last of a sector's (the list has the last one first). -/
def lastR : List (Nat × List UInt8) → Int → Option Int
  | [], _ => none
  | c :: r, a => if a = (c.1 : Int) then some (r.length : Int) else lastR r a
def seenOf (c : List (Nat × List UInt8)) : Int → Option Int := lastR c.reverse
theorem seenOf_nil : seenOf [] = fun _ => none := rfl
theorem seenOf_snoc (c : List (Nat × List UInt8)) (x : Nat × List UInt8) : seenOf (c ++ [x]) = updM (seenOf c) (x.1 : Int) (c.length : Int) := by
  funext a
  simp [seenOf, lastR, updM]

abbrev DiskO (d : Nat) (k : DiskD) (x : (Option Addr × Nat) × (Option Addr × Nat) × Nat) (R : List SProp) : List SProp :=
  Row d 83 [.slice x.1.1 k.last.length x.1.2, .slice x.2.1.1 k.cache.length x.2.1.2, .map (some x.2.2), .bool k.failed] :: Own 85 128 (.slice x.1.1 k.last.length x.1.2) k.last.length (k.last.flatMap bytes) ::
    Own 88 129 (.slice x.2.1.1 k.cache.length x.2.1.2) k.cache.length (k.cache.flatMap wCells) :: MapR x.2.2 (seenOf k.cache) :: R
def DiskR (d : Nat) (k : DiskD) : SProp := ex fun x : (Option Addr × Nat) × (Option Addr × Nat) × Nat => Sl.star (fact k.ok :: DiskO d k x [])
theorem DiskR.open {W w : World} {d : Nat} {k : DiskD} {R : List SProp} (hw : Holds W (DiskR d k :: R) w) : ∃ x : { x : (Option Addr × Nat) × (Option Addr × Nat) × Nat // k.ok }, Holds W (DiskO d k x.1 R) w := by
  obtain ⟨x, h⟩ := hw.exOpen
  have h := h.join
  exact ⟨⟨x, h.factOpen⟩, h.tail⟩
theorem DiskR.shut {W : World} {d : Nat} {k : DiskD} {R : List SProp} (hk : k.ok) {x : (Option Addr × Nat) × (Option Addr × Nat) × Nat} : Ent W (DiskO d k x R) (DiskR d k :: R) := fun _ hw =>
  Holds.exShut x (Holds.nest (L := [_, _, _, _, _]) (hw.factShut hk))
theorem DiskR.know {W w : World} {d : Nat} {k : DiskD} {R : List SProp} (hw : Holds W (DiskR d k :: R) w) : k.ok := by
  obtain ⟨⟨_, h⟩, _⟩ := DiskR.open hw
  exact h

def zeroSec : List UInt8 := List.replicate 128 0
theorem zeroSec_length : zeroSec.length = 128 := by simp [zeroSec]
theorem madeCells_same (z : Value) (s m : Nat) (hs : 0 < s) : (madeCells (List.replicate s z).toArray m).toList = List.replicate m z := by
  apply List.ext_getElem
  · simp [madeCells]
  · intro i h1 h2
    have : i % s < s := Nat.mod_lt _ hs
    simp [madeCells, this]
theorem zeros_flat : ∀ n : Nat, (List.replicate n zeroSec).flatMap bytes = List.replicate (n * 128) zb
  | 0 => by simp
  | n + 1 => by
    rw [List.replicate_succ, List.flatMap_cons, zeros_flat n, zeroSec, bytes_replicate, Nat.add_mul, Nat.one_mul, Nat.add_comm (n * 128), List.replicate_append_replicate]

theorem disknew_ok {W : World} {R : List SProp} (n : Nat) (h1 : 1 ≤ n) (h2 : n ≤ 8192) :
    Does W Try.prog 23 [.int .i64 n] R (β := Nat) (fun _ => True) (fun d => .tuple #[.pointer (some ⟨d, 0, none⟩), .int .u16 0]) (fun d => DiskR d ⟨List.replicate n zeroSec, [], false⟩ :: R) := by
  (refine Does.enter Try.func23 Try.ntmps23 rfl rfl ?_)
  (refine w ?_; repeat ((first | refine VO.step rfl rfl ?_ | refine VD.end rfl rfl rfl ?_ | refine VD.mid rfl rfl rfl ?_); refine OpV.box rfl rfl rfl ?_; intro _; refine w ?_))
  (first | refine VO.gF rfl rfl rfl (by simp; omega) ?_ | refine VD.gF rfl rfl rfl (by simp; omega) ?_)
  (refine w ?_; repeat ((first | refine VO.step rfl rfl ?_ | refine VD.end rfl rfl rfl ?_ | refine VD.mid rfl rfl rfl ?_); refine OpV.box rfl rfl rfl ?_; intro _; refine w ?_))
  (refine VC.condFe rfl rfl (by simp; omega) ?_)
  (refine w ?_; repeat ((first | refine VO.step rfl rfl ?_ | refine VD.end rfl rfl rfl ?_ | refine VD.mid rfl rfl rfl ?_); refine OpV.box rfl rfl rfl ?_; intro _; refine w ?_))
  (first | refine VO.step rfl rfl ?_ | refine VD.end rfl rfl rfl ?_ | refine VD.mid rfl rfl rfl ?_)
  refine OpV.makeSlice st_sectors rfl rfl ?_ ?_ rfl ?_
  · omega
  · simp only [maxLen]; omega
  intro nb
  have e : (madeCells (Value.agg (List.replicate 128 zb).toArray).cells (n * 128)).toList = (List.replicate n zeroSec).flatMap bytes := by
    rw [zeros_flat]; exact madeCells_same zb 128 (n * 128) (by decide)
  rw [e]
  (first | refine VO.step rfl rfl ?_ | refine VD.end rfl rfl rfl ?_ | refine VD.mid rfl rfl rfl ?_)
  refine OpV.makeMap rfl ?_
  intro mb
  (apply VO.pure rfl rfl; apply PureAt.build sb_83 rfl; (simp [buildX, setL, Value.cells]; rfl); rfl)
  (refine w ?_; repeat ((first | refine VO.step rfl rfl ?_ | refine VD.end rfl rfl rfl ?_ | refine VD.mid rfl rfl rfl ?_); refine OpV.box rfl rfl rfl ?_; intro _; refine w ?_))
  refine VE.done _ rfl trivial rfl ?_
  intro w hw
  have hw := hw.ownNil 88 129
  have hl : (List.replicate n zeroSec).length = n := List.length_replicate
  refine DiskR.shut (k := ⟨List.replicate n zeroSec, [], false⟩) (x := ((some ⟨nb, 0, none⟩, n), (none, 0), mb)) ⟨fun b hb => (by rw [List.eq_of_mem_replicate hb]; exact zeroSec_length), fun c hc => absurd hc (by simp), (by rw [hl]; exact h2)⟩ w (hw.reord ?_)
  simp only [DiskO, hl, List.length_nil, List.flatMap_nil, seenOf_nil]
  (repeat first | exact .refl | (apply Reord.cons; focus repeat first | exact .head | apply Del.tail) | exact .nil | apply Reord.drop)

theorem disknew_bad {W : World} {R : List SProp} (n : Int) (h : n < 1 ∨ 8192 < n) :
    Does1 W Try.prog 23 [.int .i64 n] R (.tuple #[.pointer none, .int .u16 40]) R := by
  (refine Does.enter Try.func23 Try.ntmps23 rfl rfl ?_)
  (refine w ?_; repeat ((first | refine VO.step rfl rfl ?_ | refine VD.end rfl rfl rfl ?_ | refine VD.mid rfl rfl rfl ?_); refine OpV.box rfl rfl rfl ?_; intro _; refine w ?_))
  ((first | refine VO.split rfl rfl rfl ?_ ?_ | refine VD.split rfl rfl rfl ?_ ?_) <;> intro hb)
  · (refine w ?_; repeat ((first | refine VO.step rfl rfl ?_ | refine VD.end rfl rfl rfl ?_ | refine VD.mid rfl rfl rfl ?_); refine OpV.box rfl rfl rfl ?_; intro _; refine w ?_))
    (first | exact VE.done1 rfl rfl Ent.refl | exact VE.done1N rfl rfl Ent.refl)
  · (refine w ?_; repeat ((first | refine VO.step rfl rfl ?_ | refine VD.end rfl rfl rfl ?_ | refine VD.mid rfl rfl rfl ?_); refine OpV.box rfl rfl rfl ?_; intro _; refine w ?_))
    (refine VC.condTe rfl rfl (by have := of_decide_eq_false hb; simp; omega) ?_)
    (refine w ?_; repeat ((first | refine VO.step rfl rfl ?_ | refine VD.end rfl rfl rfl ?_ | refine VD.mid rfl rfl rfl ?_); refine OpV.box rfl rfl rfl ?_; intro _; refine w ?_))
    (first | exact VE.done1 rfl rfl Ent.refl | exact VE.done1N rfl rfl Ent.refl)

def DiskD.may (k : DiskD) (at_ : Int) : Int := if k.failed then 2 else if at_ < 0 ∨ (k.last.length : Int) ≤ at_ then 3 else 0
theorem may_ok {W : World} {R : List SProp} (d : Nat) (k : DiskD) (at_ : Int) :
    Does1 W Try.prog 43 [.pointer (some ⟨d, 0, none⟩), .int .i64 at_] (DiskR d k :: R) (.int .u16 (k.may at_)) (DiskR d k :: R) := by
  (refine Does.enter Try.func43 Try.ntmps43 rfl rfl ?_)
  refine VC.obtain (fun w => DiskR.open) ?_
  rintro ⟨⟨⟨ao, cap⟩, ⟨ao', cap'⟩, m⟩, hk⟩
  (refine w ?_; repeat ((first | refine VO.step rfl rfl ?_ | refine VD.end rfl rfl rfl ?_ | refine VD.mid rfl rfl rfl ?_); refine OpV.box rfl rfl rfl ?_; intro _; refine w ?_))
  (refine VC.cond rfl rfl ?_ ?_ <;> intro hc)
  · (refine w ?_; repeat ((first | refine VO.step rfl rfl ?_ | refine VD.end rfl rfl rfl ?_ | refine VD.mid rfl rfl rfl ?_); refine OpV.box rfl rfl rfl ?_; intro _; refine w ?_))
    (refine VE.done1 rfl ?_ ?_)
    · simp [DiskD.may, hc]
    · exact DiskR.shut hk
  have hf : k.failed = false := hc
  (refine w ?_; repeat ((first | refine VO.step rfl rfl ?_ | refine VD.end rfl rfl rfl ?_ | refine VD.mid rfl rfl rfl ?_); refine OpV.box rfl rfl rfl ?_; intro _; refine w ?_))
  ((first | refine VO.split rfl rfl rfl ?_ ?_ | refine VD.split rfl rfl rfl ?_ ?_) <;> intro hb)
  · have : at_ < 0 := of_decide_eq_true hb
    (refine w ?_; repeat ((first | refine VO.step rfl rfl ?_ | refine VD.end rfl rfl rfl ?_ | refine VD.mid rfl rfl rfl ?_); refine OpV.box rfl rfl rfl ?_; intro _; refine w ?_))
    (refine VE.done1 rfl ?_ ?_)
    · simp [DiskD.may, hf, this]
    · exact DiskR.shut hk
  have h0 : ¬ at_ < 0 := of_decide_eq_false hb
  (refine w ?_; repeat ((first | refine VO.step rfl rfl ?_ | refine VD.end rfl rfl rfl ?_ | refine VD.mid rfl rfl rfl ?_); refine OpV.box rfl rfl rfl ?_; intro _; refine w ?_))
  (refine VC.cond rfl rfl ?_ ?_ <;> intro hc)
  · have : (k.last.length : Int) ≤ at_ := by simpa using hc
    (refine w ?_; repeat ((first | refine VO.step rfl rfl ?_ | refine VD.end rfl rfl rfl ?_ | refine VD.mid rfl rfl rfl ?_); refine OpV.box rfl rfl rfl ?_; intro _; refine w ?_))
    (refine VE.done1 rfl ?_ ?_)
    · simp [DiskD.may, hf, this]
    · exact DiskR.shut hk
  · have : ¬ (k.last.length : Int) ≤ at_ := by simpa using hc
    (refine w ?_; repeat ((first | refine VO.step rfl rfl ?_ | refine VD.end rfl rfl rfl ?_ | refine VD.mid rfl rfl rfl ?_); refine OpV.box rfl rfl rfl ?_; intro _; refine w ?_))
    (refine VE.done1 rfl ?_ ?_)
    · simp only [DiskD.may, hf]; rw [if_neg (by simp), if_neg (by omega)]
    · exact DiskR.shut hk

theorem sectors_ok {W : World} {R : List SProp} (d : Nat) (k : DiskD) :
    Does1 W Try.prog 56 [.pointer (some ⟨d, 0, none⟩)] (DiskR d k :: R) (.int .i64 k.last.length) (DiskR d k :: R) := by
  (refine Does.enter Try.func56 Try.ntmps56 rfl rfl ?_)
  refine VC.obtain (fun w => DiskR.open) ?_
  rintro ⟨⟨⟨ao, cap⟩, ⟨ao', cap'⟩, m⟩, hk⟩
  (refine w ?_; repeat ((first | refine VO.step rfl rfl ?_ | refine VD.end rfl rfl rfl ?_ | refine VD.mid rfl rfl rfl ?_); refine OpV.box rfl rfl rfl ?_; intro _; refine w ?_))
  (refine VE.done1 rfl ?_ ?_)
  · rfl
  · exact DiskR.shut hk
theorem failed_ok {W : World} {R : List SProp} (d : Nat) (k : DiskD) :
    Does1 W Try.prog 42 [.pointer (some ⟨d, 0, none⟩)] (DiskR d k :: R) (.bool k.failed) (DiskR d k :: R) := by
  (refine Does.enter Try.func42 Try.ntmps42 rfl rfl ?_)
  refine VC.obtain (fun w => DiskR.open) ?_
  rintro ⟨⟨⟨ao, cap⟩, ⟨ao', cap'⟩, m⟩, hk⟩
  (refine w ?_; repeat ((first | refine VO.step rfl rfl ?_ | refine VD.end rfl rfl rfl ?_ | refine VD.mid rfl rfl rfl ?_); refine OpV.box rfl rfl rfl ?_; intro _; refine w ?_))
  (refine VE.done1 rfl ?_ ?_)
  · rfl
  · exact DiskR.shut hk

def DiskD.write (k : DiskD) (a : Nat) (b : List UInt8) : DiskD := { k with cache := k.cache ++ [(a, b)] }
theorem write_bad {W : World} {R : List SProp} {ao : Option Addr} {cap nb : Nat} (d : Nat) (k : DiskD) (at_ : Int) (h : k.may at_ ≠ 0) :
    Does1 W Try.prog 25 [.pointer (some ⟨d, 0, none⟩), .int .i64 at_, .slice ao nb cap] (DiskR d k :: R) (.int .u16 (k.may at_)) (DiskR d k :: R) := by
  (refine Does.enter Try.func25 Try.ntmps25 rfl rfl ?_)
  (refine w ?_; repeat ((first | refine VO.step rfl rfl ?_ | refine VD.end rfl rfl rfl ?_ | refine VD.mid rfl rfl rfl ?_); refine OpV.box rfl rfl rfl ?_; intro _; refine w ?_))
  (((first | refine VO.step rfl rfl ?_ | refine VD.end rfl rfl rfl ?_ | refine VD.mid rfl rfl rfl ?_); refine OpV.call rfl rfl (fun _ _ => by simp) (may_ok d k at_) Ent.re rfl ?_); intro _ _)
  (refine w ?_; repeat ((first | refine VO.step rfl rfl ?_ | refine VD.end rfl rfl rfl ?_ | refine VD.mid rfl rfl rfl ?_); refine OpV.box rfl rfl rfl ?_; intro _; refine w ?_))
  (refine VC.condTe rfl rfl (by simpa using h) ?_)
  (refine w ?_; repeat ((first | refine VO.step rfl rfl ?_ | refine VD.end rfl rfl rfl ?_ | refine VD.mid rfl rfl rfl ?_); refine OpV.box rfl rfl rfl ?_; intro _; refine w ?_))
  (refine VE.done1 rfl ?_ ?_)
  · rfl
  · exact Ent.refl
theorem may_zero {k : DiskD} {a : Int} (h : k.may a = 0) : k.failed = false ∧ 0 ≤ a ∧ a < k.last.length := by
  unfold DiskD.may at h
  split at h
  · cases h
  · rename_i h1
    split at h
    · cases h
    · exact ⟨by simpa using h1, by omega, by omega⟩

theorem write_len {W : World} {R : List SProp} {ao : Option Addr} {cap nb : Nat} (d : Nat) (k : DiskD) (at_ : Int) (h : k.may at_ = 0) (hb : nb ≠ 128) :
    Does1 W Try.prog 25 [.pointer (some ⟨d, 0, none⟩), .int .i64 at_, .slice ao nb cap] (DiskR d k :: R) (.int .u16 4) (DiskR d k :: R) := by
  (refine Does.enter Try.func25 Try.ntmps25 rfl rfl ?_)
  (refine w ?_; repeat ((first | refine VO.step rfl rfl ?_ | refine VD.end rfl rfl rfl ?_ | refine VD.mid rfl rfl rfl ?_); refine OpV.box rfl rfl rfl ?_; intro _; refine w ?_))
  (((first | refine VO.step rfl rfl ?_ | refine VD.end rfl rfl rfl ?_ | refine VD.mid rfl rfl rfl ?_); refine OpV.call rfl rfl (fun _ _ => by simp) (may_ok d k at_) Ent.re rfl ?_); intro _ _)
  (refine w ?_; repeat ((first | refine VO.step rfl rfl ?_ | refine VD.end rfl rfl rfl ?_ | refine VD.mid rfl rfl rfl ?_); refine OpV.box rfl rfl rfl ?_; intro _; refine w ?_))
  (refine VC.condFe rfl rfl (by simp [h]) ?_)
  (refine w ?_; repeat ((first | refine VO.step rfl rfl ?_ | refine VD.end rfl rfl rfl ?_ | refine VD.mid rfl rfl rfl ?_); refine OpV.box rfl rfl rfl ?_; intro _; refine w ?_))
  (refine VC.condTe rfl rfl (by simp; omega) ?_)
  (refine w ?_; repeat ((first | refine VO.step rfl rfl ?_ | refine VD.end rfl rfl rfl ?_ | refine VD.mid rfl rfl rfl ?_); refine OpV.box rfl rfl rfl ?_; intro _; refine w ?_))
  (refine VE.done1 rfl ?_ ?_)
  · rfl
  · exact Ent.refl

theorem buildX_step {pls : List (Nat × Nat)} {cs : List Value} {i o : Nat} {v : Value} {r : List (Nat × Value)} (h : pls[i]? = some (o, v.cells.size)) (hl : o + v.cells.size ≤ cs.length) :
    buildX pls cs ((i, v) :: r) = buildX pls (setL cs o v.cells.toList) r := by
  rw [buildX, h]
  simp only [ne_eq, not_true_eq_false, decide_false, Bool.false_or]
  rw [if_neg (by simpa using hl)]
theorem build_write (a : Int) (vs : List Value) (h : vs.length = 128) : buildX [(0, 1), (1, 128)] (.int .i64 0 :: List.replicate 128 zb) [(0, .int .i64 a), (1, .agg vs.toArray)] = some (.int .i64 a :: vs) := by
  have e : setL (.int .i64 a :: List.replicate 128 zb) 1 vs = .int .i64 a :: vs := setL_mid vs [.int .i64 a] (List.replicate 128 zb) (by rw [h, List.length_replicate])
  rw [buildX_step (o := 0) (v := .int .i64 a) rfl (by show 0 + 1 ≤ _; rw [List.length_cons, List.length_replicate]; decide), buildX_step (o := 1) (v := .agg vs.toArray) (by show some (1, 128) = some (1, vs.toArray.size); rw [List.size_toArray, h]) (by show 1 + vs.toArray.size ≤ (setL _ 0 [_]).length; rw [setL_length, List.length_cons, List.length_replicate, List.size_toArray, h]; decide)]
  exact congrArg some e
theorem wCells_length {c : Nat × List UInt8} (h : c.2.length = 128) : (wCells c).length = 129 := by simp [wCells, h]
theorem wCells_one (c : Nat × List UInt8) : ∀ u ∈ wCells c, u.oneCell' = true := by
  intro u hu
  rcases List.mem_cons.1 hu with h | h
  · subst h; rfl
  · exact bytes_one _ u h
theorem Addr_add_zero (a : Addr) : a.add 0 = a := by simp [Addr.add]

theorem DiskD.write_okk {k : DiskD} {a : Nat} {b : List UInt8} (hk : k.ok) (ha : a < k.last.length) (hb : b.length = 128) : (k.write a b).ok :=
  ⟨hk.last, fun c hc => by
    rcases List.mem_append.1 hc with h | h
    · exact hk.cache c h
    · rw [List.mem_singleton] at h; subst h; exact ⟨ha, hb⟩, hk.size⟩

theorem write_ok {W : World} {R : List SProp} {ao : Option Addr} {cap : Nat} {b : List UInt8} (d : Nat) (k : DiskD) (a : Nat) (ha : a < k.last.length) (hf : k.failed = false) (hb : b.length = 128) (hc : k.cache.length ≤ 1000000)
    (hr : Rds W R 1 ao 128 (bytes b)) :
    Does1 W Try.prog 25 [.pointer (some ⟨d, 0, none⟩), .int .i64 a, .slice ao 128 cap] (DiskR d k :: R) (.int .u16 0) (DiskR d (k.write a b) :: R) := by
  have hm : k.may a = 0 := by unfold DiskD.may; rw [hf, if_neg (by simp), if_neg (by omega)]
  obtain ⟨ad, rfl⟩ : ∃ ad, ao = some ad := by cases ao with | none => have := hr.nil rfl; omega | some ad => exact ⟨ad, rfl⟩
  (refine Does.enter Try.func25 Try.ntmps25 rfl rfl ?_)
  (refine w ?_; repeat ((first | refine VO.step rfl rfl ?_ | refine VD.end rfl rfl rfl ?_ | refine VD.mid rfl rfl rfl ?_); refine OpV.box rfl rfl rfl ?_; intro _; refine w ?_))
  (((first | refine VO.step rfl rfl ?_ | refine VD.end rfl rfl rfl ?_ | refine VD.mid rfl rfl rfl ?_); refine OpV.call rfl rfl (fun _ _ => by simp) (may_ok d k a) Ent.re rfl ?_); intro _ _)
  (refine w ?_; repeat ((first | refine VO.step rfl rfl ?_ | refine VD.end rfl rfl rfl ?_ | refine VD.mid rfl rfl rfl ?_); refine OpV.box rfl rfl rfl ?_; intro _; refine w ?_))
  (refine VC.condFe rfl rfl (by simp [hm]) ?_)
  (refine w ?_; repeat ((first | refine VO.step rfl rfl ?_ | refine VD.end rfl rfl rfl ?_ | refine VD.mid rfl rfl rfl ?_); refine OpV.box rfl rfl rfl ?_; intro _; refine w ?_))
  refine VC.obtain (fun w => DiskR.open) ?_
  rintro ⟨⟨⟨lo, lc⟩, ⟨co, cc⟩, m⟩, hk⟩
  (refine VC.drawn [] 10 [0, 1, 2, 3, 4, 5, 6, 7, 8, 9, 10] _ rfl (by kernel_rfl) (by kernel_rfl) Ent.re ?_)
  dsimp only [DiskO]
  (refine w ?_; repeat ((first | refine VO.step rfl rfl ?_ | refine VD.end rfl rfl rfl ?_ | refine VD.mid rfl rfl rfl ?_); refine OpV.box rfl rfl rfl ?_; intro _; refine w ?_))
  (first | refine VO.step rfl rfl ?_ | refine VD.end rfl rfl rfl ?_ | refine VD.mid rfl rfl rfl ?_)
  refine OpV.mapUpdate Try.underlying80 Try.underlying3 rfl rfl rfl (by (repeat first | exact .head | apply Hole.tail)) ?_
  (refine w ?_; repeat ((first | refine VO.step rfl rfl ?_ | refine VD.end rfl rfl rfl ?_ | refine VD.mid rfl rfl rfl ?_); refine OpV.box rfl rfl rfl ?_; intro _; refine w ?_))
  (refine VC.drawn [10, 11] 12 [0, 1, 2, 3, 4, 5, 6, 7, 8, 9, 10, 11, 12, 13, 14] (Row d 83 [.slice lo k.last.length lc, .slice co k.cache.length cc, .map (some m), .bool k.failed] :: R) rfl (by kernel_rfl) (by kernel_rfl) Ent.re ?_)
  (refine w ?_; repeat ((first | refine VO.step rfl rfl ?_ | refine VD.end rfl rfl rfl ?_ | refine VD.mid rfl rfl rfl ?_); refine OpV.box rfl rfl rfl ?_; intro _; refine w ?_))
  (first | refine VO.pure rfl rfl (PureAt.toArray Try.underlying85 rfl (Nat.le_refl 128)) rfl ?_ | refine VD.take rfl rfl rfl (PureAt.toArray Try.underlying85 rfl (Nat.le_refl 128)) rfl ?_ | refine VQ.pure rfl rfl (PureAt.toArray Try.underlying85 rfl (Nat.le_refl 128)) rfl ?_ | refine VD.end rfl rfl rfl (OpV.pure (PureAt.toArray Try.underlying85 rfl (Nat.le_refl 128)) rfl ?_))
  refine VD.re 34 (.pointer (some (ad.add 0))) rfl (by rw [Addr_add_zero]) ?_
  (first | refine VO.pure rfl rfl (.ldRA tab_ok rfl rfl (hr.ent (Reord.ent (Reord.drop .refl))) (show ((bytes b).drop 0).take 128 = bytes b from List.take_of_length_le (by simp [hb])) (by simp [hb])) rfl ?_ | refine VD.take rfl rfl rfl (.ldRA tab_ok rfl rfl (hr.ent (Reord.ent (Reord.drop .refl))) (show ((bytes b).drop 0).take 128 = bytes b from List.take_of_length_le (by simp [hb])) (by simp [hb])) rfl ?_ | refine VQ.pure rfl rfl (.ldRA tab_ok rfl rfl (hr.ent (Reord.ent (Reord.drop .refl))) (show ((bytes b).drop 0).take 128 = bytes b from List.take_of_length_le (by simp [hb])) (by simp [hb])) rfl ?_ | refine VD.end rfl rfl rfl (OpV.pure (.ldRA tab_ok rfl rfl (hr.ent (Reord.ent (Reord.drop .refl))) (show ((bytes b).drop 0).take 128 = bytes b from List.take_of_length_le (by simp [hb])) (by simp [hb])) rfl ?_))
  (first | refine VO.pure rfl rfl (PureAt.build sb_write rfl (build_write a (bytes b) (by simp [hb]))) rfl ?_ | refine VD.take rfl rfl rfl (PureAt.build sb_write rfl (build_write a (bytes b) (by simp [hb]))) rfl ?_ | refine VQ.pure rfl rfl (PureAt.build sb_write rfl (build_write a (bytes b) (by simp [hb]))) rfl ?_ | refine VD.end rfl rfl rfl (OpV.pure (PureAt.build sb_write rfl (build_write a (bytes b) (by simp [hb]))) rfl ?_))
  (first | refine VO.step rfl rfl ?_ | refine VD.end rfl rfl rfl ?_ | refine VD.mid rfl rfl rfl ?_)
  refine OpV.buildSlice (vs := [.agg (wCells (a, b)).toArray]) (cs := wCells (a, b)) st_writes rfl rfl (by simp [Value.cells, wCells, hb]) (by simp [Value.cells]) (by decide) rfl ?_
  intro nb
  refine ⟨Ent.re, ?_⟩
  (first | refine VO.step rfl rfl ?_ | refine VD.end rfl rfl rfl ?_ | refine VD.mid rfl rfl rfl ?_)
  refine OpV.appendRow st_writes rfl rfl (by (repeat first | exact .head | apply Hole.tail)) (by (focus repeat first | exact .head _ | apply List.Mem.tail)) (by simp [wCells, hb]) (wCells_one (a, b)) ?_ ?_ rfl ?_
  · simp only [maxLen]; omega
  · omega
  intro co' cc'
  refine ⟨Ent.re, ?_⟩
  (refine w ?_; repeat ((first | refine VO.step rfl rfl ?_ | refine VD.end rfl rfl rfl ?_ | refine VD.mid rfl rfl rfl ?_); refine OpV.box rfl rfl rfl ?_; intro _; refine w ?_))
  (refine VE.done1 rfl ?_ ?_)
  · rfl
  · refine Ent.trans ?_ (DiskR.shut (x := ((lo, lc), (co', cc'), m)) (DiskD.write_okk hk ha hb))
    have e1 : (k.write a b).cache = k.cache ++ [(a, b)] := rfl
    have e2 : (k.write a b).last = k.last := rfl
    have e3 : (k.write a b).failed = k.failed := rfl
    simp only [DiskO, e1, e2, e3, seenOf_snoc, List.flatMap_append, List.flatMap_singleton, List.length_append, List.length_singleton, List.set_cons_zero, List.set_cons_succ]
    exact Ent.re

/-! ### settle -/

def sets (keep : Nat → Bool) : List (List UInt8) → Nat → List (Nat × List UInt8) → List (List UInt8)
  | last, _, [] => last
  | last, i, c :: r => sets keep (if keep i then last.set c.1 c.2 else last) (i + 1) r
theorem sets_snoc (keep : Nat → Bool) (c : Nat × List UInt8) : ∀ (l : List (Nat × List UInt8)) (last : List (List UInt8)) (i : Nat), sets keep last i (l ++ [c]) = if keep (i + l.length) then (sets keep last i l).set c.1 c.2 else sets keep last i l
  | [], last, i => by simp [sets]
  | x :: r, last, i => by
    rw [List.cons_append, sets, sets_snoc keep c r, sets, List.length_cons, show i + 1 + r.length = i + (r.length + 1) by omega]
theorem sets_length (keep : Nat → Bool) : ∀ (l : List (Nat × List UInt8)) (last : List (List UInt8)) (i : Nat), (sets keep last i l).length = last.length
  | [], _, _ => rfl
  | x :: r, last, i => by rw [sets, sets_length keep r]; split <;> simp
theorem sets_128 (keep : Nat → Bool) : ∀ (l : List (Nat × List UInt8)) (last : List (List UInt8)) (i : Nat), (∀ b ∈ last, b.length = 128) → (∀ c ∈ l, c.2.length = 128) → ∀ b ∈ sets keep last i l, b.length = 128
  | [], _, _, h, _, b, hb => h b hb
  | x :: r, last, i, h, hc, b, hb => by
    rw [sets] at hb
    refine sets_128 keep r _ _ (fun y hy => ?_) (fun c h => hc c (.tail _ h)) b hb
    split at hy
    · rcases List.mem_or_eq_of_mem_set hy with q | q
      · exact h y q
      · subst q; exact hc x (.head _)
    · exact h y hy
theorem store_all (zs vs : List Value) (n : Nat) (h : zs.length = n) : zs.take 0 ++ vs ++ zs.drop (0 + n) = vs := by simp [← h]
def DiskD.settle (k : DiskD) (keep : Nat → Bool) : DiskD := ⟨sets keep k.last 0 k.cache, [], k.failed⟩
theorem DiskD.settle_okk {k : DiskD} {keep : Nat → Bool} (hk : k.ok) : (k.settle keep).ok :=
  ⟨sets_128 keep _ _ _ hk.last (fun c h => (hk.cache c h).2), fun c h => absurd h (by simp [DiskD.settle]), by unfold DiskD.settle; rw [sets_length]; exact hk.size⟩

theorem caches_one (l : List (Nat × List UInt8)) : ∀ u ∈ l.flatMap wCells, u.oneCell' = true := by
  intro u hu; obtain ⟨c, _, h⟩ := List.mem_flatMap.1 hu; exact wCells_one c u h
theorem lasts_one (l : List (List UInt8)) : ∀ u ∈ l.flatMap bytes, u.oneCell' = true := by
  intro u hu; obtain ⟨c, _, h⟩ := List.mem_flatMap.1 hu; exact bytes_one c u h

set_option maxHeartbeats 2000000 in
theorem settle_ok {W : World} {R : List SProp} {g : FuncId} {cp : Array Value} {keep : Nat → Bool} (d : Nat) (k : DiskD) (hcf : ∀ a w, (callFunc g a).run Try.prog w = .ok (.enter g a) w)
    (hkeep : ∀ (i : Nat) (X : List SProp), Does1 W Try.prog g (.int .i64 i :: cp.toList) (X ++ R) (.bool (keep i)) (X ++ R)) :
    Does1 W Try.prog 45 [.pointer (some ⟨d, 0, none⟩), .func (.func g) #[] cp] (DiskR d k :: R) (.tuple #[]) (DiskR d (k.settle keep) :: R) := by
  (refine Does.enter Try.func45 Try.ntmps45 rfl rfl ?_)
  refine VC.obtain (fun w => DiskR.open) ?_
  rintro ⟨⟨⟨lo, lc⟩, ⟨co, cc⟩, m⟩, hk⟩
  dsimp only [DiskO]
  refine VC.know (fun w hw => hw.ownNone (by (focus repeat first | exact .head _ | apply List.Mem.tail)) : ∀ w, _ → (co = none → k.cache.length = 0)) ?_
  intro hcn
  refine VC.know (fun w hw => hw.ownNone (by (focus repeat first | exact .head _ | apply List.Mem.tail)) : ∀ w, _ → (lo = none → k.last.length = 0)) ?_
  intro hln
  refine VC.know (fun w hw => hw.ownMax (show Own 88 129 (.slice co k.cache.length cc) k.cache.length (k.cache.flatMap wCells) ∈ _ by (focus repeat first | exact .head _ | apply List.Mem.tail)) : ∀ w, _ → k.cache.length ≤ maxLen) ?_
  intro hmax
  simp only [maxLen] at hmax
  (refine w ?_; repeat ((first | refine VO.step rfl rfl ?_ | refine VD.end rfl rfl rfl ?_ | refine VD.mid rfl rfl rfl ?_); refine OpV.box rfl rfl rfl ?_; intro _; refine w ?_))
  refine VC.loop (α := Nat) (fun i => i ≤ k.cache.length)
    (fun i => Row d 83 [.slice lo k.last.length lc, .slice co k.cache.length cc, .map (some m), .bool k.failed] :: Own 85 128 (.slice lo k.last.length lc) k.last.length ((sets keep k.last 0 (k.cache.take i)).flatMap bytes) ::
      Own 88 129 (.slice co k.cache.length cc) k.cache.length (k.cache.flatMap wCells) :: MapR m (seenOf k.cache) :: R)
    (fun i => [(0, .pointer (some ⟨d, 0, none⟩)), (1, .func (.func g) #[] cp), (9, .slice co k.cache.length cc), (10, .int .i64 k.cache.length), (11, .int .i64 i)]) (fun i => k.cache.length - i) rfl 0 (Nat.zero_le _) Ent.refl ⟨rfl, rfl, rfl, rfl, rfl, trivial⟩ ?_
  intro i hi
  (refine w ?_; repeat ((first | refine VO.step rfl rfl ?_ | refine VD.end rfl rfl rfl ?_ | refine VD.mid rfl rfl rfl ?_); refine OpV.box rfl rfl rfl ?_; intro _; refine w ?_))
  (refine VC.cond rfl rfl ?_ ?_ <;> intro hc)
  · have hlt : i < k.cache.length := by have := of_decide_eq_true hc; omega
    obtain ⟨a, rfl⟩ : ∃ a, co = some a := by cases co with | none => have := hcn rfl; omega | some a => exact ⟨a, rfl⟩
    obtain ⟨hw1, hw2⟩ := hk.cache k.cache[i] (List.getElem_mem hlt)
    obtain ⟨b, rfl⟩ : ∃ b, lo = some b := by cases lo with | none => have := hln rfl; omega | some b => exact ⟨b, rfl⟩
    have hpart := flat_part (g := wCells) (w := 129) k.cache i hlt (fun c h => wCells_length (hk.cache c h).2)
    (refine w ?_; repeat ((first | refine VO.step rfl rfl ?_ | refine VD.end rfl rfl rfl ?_ | refine VD.mid rfl rfl rfl ?_); refine OpV.box rfl rfl rfl ?_; intro _; refine w ?_))
    (first | refine VO.pure rfl rfl (.ldRA tab_ok rfl rfl (Rds.own (caches_one _) (by (focus repeat first | exact .head _ | apply List.Mem.tail)) (flat_length _ (fun c h => wCells_length (hk.cache c h).2)) hcn) hpart (wCells_length hw2)) rfl ?_ | refine VD.take rfl rfl rfl (.ldRA tab_ok rfl rfl (Rds.own (caches_one _) (by (focus repeat first | exact .head _ | apply List.Mem.tail)) (flat_length _ (fun c h => wCells_length (hk.cache c h).2)) hcn) hpart (wCells_length hw2)) rfl ?_ | refine VQ.pure rfl rfl (.ldRA tab_ok rfl rfl (Rds.own (caches_one _) (by (focus repeat first | exact .head _ | apply List.Mem.tail)) (flat_length _ (fun c h => wCells_length (hk.cache c h).2)) hcn) hpart (wCells_length hw2)) rfl ?_ | refine VD.end rfl rfl rfl (OpV.pure (.ldRA tab_ok rfl rfl (Rds.own (caches_one _) (by (focus repeat first | exact .head _ | apply List.Mem.tail)) (flat_length _ (fun c h => wCells_length (hk.cache c h).2)) hcn) hpart (wCells_length hw2)) rfl ?_))
    generalize hcc : k.cache[i] = c at *
    have hsn : sets keep k.last 0 (k.cache.take (i + 1)) = if keep i then (sets keep k.last 0 (k.cache.take i)).set c.1 c.2 else sets keep k.last 0 (k.cache.take i) := by
      rw [List.take_succ_eq_append_getElem hlt, sets_snoc, List.length_take, Nat.min_eq_left hi, Nat.zero_add, hcc]
    have hsl : (sets keep k.last 0 (k.cache.take i)).length = k.last.length := sets_length _ _ _ _
    have hs8 := sets_128 keep (k.cache.take i) k.last 0 hk.last (fun c h => (hk.cache c (List.mem_of_mem_take h)).2)
    generalize sets keep k.last 0 (k.cache.take i) = la at *
    ((first | refine VO.step rfl rfl ?_ | refine VD.end rfl rfl rfl ?_ | refine VD.mid rfl rfl rfl ?_); refine OpV.allocS sb_write rfl ?_; intro na)
    (refine w ?_; repeat ((first | refine VO.step rfl rfl ?_ | refine VD.end rfl rfl rfl ?_ | refine VD.mid rfl rfl rfl ?_); refine OpV.box rfl rfl rfl ?_; intro _; refine w ?_))
    (first | refine VO.step rfl rfl ?_ | refine VD.end rfl rfl rfl ?_ | refine VD.mid rfl rfl rfl ?_)
    refine OpV.stA (vs := wCells c) tab_ok rfl rfl rfl (wCells_length hw2) (wCells_one _) (by (repeat first | exact .head | apply Hole.tail)) (by rw [List.length_cons, List.length_replicate]; decide) ?_
    rw [store_all _ _ 129 (by rw [List.length_cons, List.length_replicate])]
    (refine w ?_; repeat ((first | refine VO.step rfl rfl ?_ | refine VD.end rfl rfl rfl ?_ | refine VD.mid rfl rfl rfl ?_); refine OpV.box rfl rfl rfl ?_; intro _; refine w ?_))
    (first | refine VO.step rfl rfl ?_ | refine VD.end rfl rfl rfl ?_ | refine VD.mid rfl rfl rfl ?_)
    refine OpV.call rfl rfl hcf (hkeep i [Row na 88 (wCells c), Row d 83 [.slice (some b) k.last.length lc, .slice (some a) k.cache.length cc, .map (some m), .bool k.failed], Own 85 128 (.slice (some b) k.last.length lc) k.last.length (la.flatMap bytes),
      Own 88 129 (.slice (some a) k.cache.length cc) k.cache.length (k.cache.flatMap wCells), MapR m (seenOf k.cache)]) Ent.refl rfl ?_
    intro _ _
    dsimp only [List.cons_append, List.nil_append]
    (refine w ?_; repeat ((first | refine VO.step rfl rfl ?_ | refine VD.end rfl rfl rfl ?_ | refine VD.mid rfl rfl rfl ?_); refine OpV.box rfl rfl rfl ?_; intro _; refine w ?_))
    (refine VC.cond rfl rfl ?_ ?_ <;> intro hc)
    · have hkt : keep i = true := hc
      (refine w ?_; repeat ((first | refine VO.step rfl rfl ?_ | refine VD.end rfl rfl rfl ?_ | refine VD.mid rfl rfl rfl ?_); refine OpV.box rfl rfl rfl ?_; intro _; refine w ?_))
      (refine VC.drawn [] 8 [0, 1, 2, 3, 4, 5, 6, 7, 8, 9] _ rfl (by kernel_rfl) (by kernel_rfl) Ent.re ?_)
      (refine w ?_; repeat ((first | refine VO.step rfl rfl ?_ | refine VD.end rfl rfl rfl ?_ | refine VD.mid rfl rfl rfl ?_); refine OpV.box rfl rfl rfl ?_; intro _; refine w ?_))
      (first | refine VO.pure rfl rfl (PureAt.ldA tab_ok rfl rfl (.head _) (show ((wCells c).drop 1).take 128 = bytes c.2 from List.take_of_length_le (by rw [List.length_drop, wCells_length hw2]; decide)) (by simp [hw2])) rfl ?_ | refine VD.take rfl rfl rfl (PureAt.ldA tab_ok rfl rfl (.head _) (show ((wCells c).drop 1).take 128 = bytes c.2 from List.take_of_length_le (by rw [List.length_drop, wCells_length hw2]; decide)) (by simp [hw2])) rfl ?_ | refine VQ.pure rfl rfl (PureAt.ldA tab_ok rfl rfl (.head _) (show ((wCells c).drop 1).take 128 = bytes c.2 from List.take_of_length_le (by rw [List.length_drop, wCells_length hw2]; decide)) (by simp [hw2])) rfl ?_ | refine VD.end rfl rfl rfl (OpV.pure (PureAt.ldA tab_ok rfl rfl (.head _) (show ((wCells c).drop 1).take 128 = bytes c.2 from List.take_of_length_le (by rw [List.length_drop, wCells_length hw2]; decide)) (by simp [hw2])) rfl ?_))
      (refine w ?_; repeat ((first | refine VO.step rfl rfl ?_ | refine VD.end rfl rfl rfl ?_ | refine VD.mid rfl rfl rfl ?_); refine OpV.box rfl rfl rfl ?_; intro _; refine w ?_))
      (first | refine VO.step rfl rfl ?_ | refine VD.end rfl rfl rfl ?_ | refine VD.mid rfl rfl rfl ?_)
      refine OpV.stOA (vs := bytes c.2) tab_ok rfl rfl rfl (by simp [hw2]) (bytes_one _) (by (repeat first | exact .head | apply Hole.tail)) ?_ ?_
      · rw [flat_length (w := 128) _ (fun b h => by simp [hs8 b h]), hsl]; omega
      rw [flat_set (g := bytes) (w := 128) c.2 la c.1 (by omega) (fun b h => by simp [hs8 b h])]
      (refine w ?_; repeat ((first | refine VO.step rfl rfl ?_ | refine VD.end rfl rfl rfl ?_ | refine VD.mid rfl rfl rfl ?_); refine OpV.box rfl rfl rfl ?_; intro _; refine w ?_))
      refine VE.round (i + 1) hlt (by omega) ⟨rfl, rfl, rfl, rfl, rfl, trivial⟩ ?_
      rw [hsn, if_pos hkt]
      exact Ent.re
    · have hkt : ¬ keep i = true := by simpa using hc
      (refine w ?_; repeat ((first | refine VO.step rfl rfl ?_ | refine VD.end rfl rfl rfl ?_ | refine VD.mid rfl rfl rfl ?_); refine OpV.box rfl rfl rfl ?_; intro _; refine w ?_))
      refine VE.round (i + 1) hlt (by omega) ⟨rfl, rfl, rfl, rfl, rfl, trivial⟩ ?_
      rw [hsn, if_neg hkt]
      exact Ent.re
  · have hge : i = k.cache.length := by have := of_decide_eq_false hc; omega
    subst hge
    rw [List.take_of_length_le (Nat.le_refl k.cache.length)]
    (refine w ?_; repeat ((first | refine VO.step rfl rfl ?_ | refine VD.end rfl rfl rfl ?_ | refine VD.mid rfl rfl rfl ?_); refine OpV.box rfl rfl rfl ?_; intro _; refine w ?_))
    (first | refine VO.step rfl rfl ?_ | refine VD.end rfl rfl rfl ?_ | refine VD.mid rfl rfl rfl ?_)
    refine OpV.clearMap Try.underlying80 rfl (by (repeat first | exact .head | apply Hole.tail)) ?_
    (refine w ?_; repeat ((first | refine VO.step rfl rfl ?_ | refine VD.end rfl rfl rfl ?_ | refine VD.mid rfl rfl rfl ?_); refine OpV.box rfl rfl rfl ?_; intro _; refine w ?_))
    (refine VE.done1N rfl ?_ ?_)
    · rfl
    · intro w hw
      refine DiskR.shut (k := k.settle keep) (x := ((lo, lc), (none, 0), m)) (DiskD.settle_okk hk) w ((hw.ownNil 88 129).reord ?_)
      have e1 : (k.settle keep).cache = [] := rfl
      have e2 : (k.settle keep).last = sets keep k.last 0 k.cache := rfl
      have e3 : (k.settle keep).failed = k.failed := rfl
      simp only [DiskO, e1, e2, e3, seenOf_nil, sets_length, List.flatMap_nil, List.length_nil, List.set_cons_zero, List.set_cons_succ]
      (repeat first | exact .refl | (apply Reord.cons; focus repeat first | exact .head | apply Del.tail) | exact .nil | apply Reord.drop)
end Go.Proofs.Ytbmcgmicnfbckaa
