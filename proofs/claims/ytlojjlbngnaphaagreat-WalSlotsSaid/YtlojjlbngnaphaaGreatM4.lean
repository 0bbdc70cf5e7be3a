import Derived.Test.YtlojjlbngnaphaaGreatM3
/-! Text Dk. -/
/- Package disk: a disk's memory, its calls. -/
set_option maxRecDepth 8000
set_option linter.unusedVariables false
set_option linter.unusedSimpArgs false
set_option linter.unusedSectionVars false
namespace Go.Proofs.YtlojjlbngnaphaaGreat
open Go.RowKit Go.Sl
attribute [local irreducible] Own

abbrev zb : Value := .int .u8 0
theorem st_sectors : SliceT Tryz.prog 223 237 (.agg (List.replicate 128 zb).toArray) 128 128 :=
  ⟨by kernel_rfl, by kernel_rfl, by simp [Value.cells], by intro u hu; simp only [Value.cells, List.toList_toArray] at hu; rw [List.eq_of_mem_replicate hu]; rfl⟩
theorem st_writes : SliceT Tryz.prog 225 273 (.agg (.int .i64 0 :: List.replicate 128 zb).toArray) 129 136 :=
  ⟨by kernel_rfl, by kernel_rfl, by simp [Value.cells], by
    intro u hu; simp only [Value.cells, List.toList_toArray, List.mem_cons] at hu
    rcases hu with hu | hu
    · subst hu; rfl
    · rw [List.eq_of_mem_replicate hu]; rfl⟩
theorem sb_write : StructT Tryz.prog 273 (.int .i64 0 :: List.replicate 128 zb) [(0, 1), (1, 128)] := by
  refine ⟨fun w => ?_, _, Tryz.underlying273, fun w => by simp⟩
  obtain ⟨i, hi, hz, hs, hb⟩ := info_parts st_writes.info
  simp [zeroValue, typeInfo, hi, hz]

theorem setL_mid : ∀ (vs a b : List Value), vs.length = b.length → setL (a ++ b) a.length vs = a ++ vs
  | [], a, b, h => by cases b with | nil => simp [setL] | cons _ _ => cases h
  | v :: r, a, [], h => by cases h
  | v :: r, a, x :: b, h => by
    have := setL_mid r (a ++ [v]) b (by simpa using h)
    rw [setL, List.set_append_right _ _ (Nat.le_refl _), Nat.sub_self, List.set_cons_zero]
    simpa using this

/-! ### A disk -/

structure DiskD where
  last : List (List UInt8)
  cache : List (Nat × List UInt8)
  failed : Bool
structure DiskD.ok (k : DiskD) : Prop where
  last : ∀ b ∈ k.last, b.length = 128
  cache : ∀ c ∈ k.cache, c.1 < k.last.length ∧ c.2.length = 128
  size : k.last.length ≤ 8192
def wCells (c : Nat × List UInt8) : List Value := .int .i64 (c.1 : Int) :: bytes c.2

/-- Which write is the last of a sector's (the list has the last one first). -/
def lastR : List (Nat × List UInt8) → Int → Option Int
  | [], _ => none
  | c :: r, a => if a = (c.1 : Int) then some (r.length : Int) else lastR r a
def seenOf (c : List (Nat × List UInt8)) : Int → Option Int := lastR c.reverse
theorem seenOf_nil : seenOf [] = fun _ => none := rfl
theorem seenOf_snoc (c : List (Nat × List UInt8)) (x : Nat × List UInt8) : seenOf (c ++ [x]) = updM (seenOf c) (x.1 : Int) (c.length : Int) := by
  funext a
  simp [seenOf, lastR, updM]

abbrev DiskO (d : Nat) (k : DiskD) (x : (Option Addr × Nat) × (Option Addr × Nat) × Nat) (R : List SProp) : List SProp :=
  Row d 227 [.slice x.1.1 k.last.length x.1.2, .slice x.2.1.1 k.cache.length x.2.1.2, .map (some x.2.2), .bool k.failed] :: Own 237 128 (.slice x.1.1 k.last.length x.1.2) k.last.length (k.last.flatMap bytes) ::
    Own 273 129 (.slice x.2.1.1 k.cache.length x.2.1.2) k.cache.length (k.cache.flatMap wCells) :: MapR x.2.2 (seenOf k.cache) :: R
def DiskR (d : Nat) (k : DiskD) : SProp := ex fun x : (Option Addr × Nat) × (Option Addr × Nat) × Nat => Sl.star (fact k.ok :: DiskO d k x [])
theorem DiskR.open {W w : World} {d : Nat} {k : DiskD} {R : List SProp} (hw : Holds W (DiskR d k :: R) w) : ∃ x : { x : (Option Addr × Nat) × (Option Addr × Nat) × Nat // k.ok }, Holds W (DiskO d k x.1 R) w := by
  obtain ⟨x, h⟩ := hw.exOpen
  have h := h.join
  exact ⟨⟨x, h.factOpen⟩, h.tail⟩
theorem DiskR.shut {W : World} {d : Nat} {k : DiskD} {R : List SProp} (hk : k.ok) {x : (Option Addr × Nat) × (Option Addr × Nat) × Nat} : Ent W (DiskO d k x R) (DiskR d k :: R) := fun _ hw =>
  Holds.exShut x (Holds.nest (L := [_, _, _, _, _]) (hw.factShut hk))
theorem DiskR.know {W w : World} {d : Nat} {k : DiskD} {R : List SProp} (hw : Holds W (DiskR d k :: R) w) : k.ok := by
  obtain ⟨⟨_, h⟩, _⟩ := DiskR.open hw
  exact h

def zeroSec : List UInt8 := List.replicate 128 0
theorem zeroSec_length : zeroSec.length = 128 := by simp [zeroSec]
theorem madeCells_same (z : Value) (s m : Nat) (hs : 0 < s) : (madeCells (List.replicate s z).toArray m).toList = List.replicate m z := by
  apply List.ext_getElem
  · simp [madeCells]
  · intro i h1 h2
    have : i % s < s := Nat.mod_lt _ hs
    simp [madeCells, this]
theorem zeros_flat : ∀ n : Nat, (List.replicate n zeroSec).flatMap bytes = List.replicate (n * 128) zb
  | 0 => by simp
  | n + 1 => by
    rw [List.replicate_succ, List.flatMap_cons, zeros_flat n, zeroSec, bytes_replicate, Nat.add_mul, Nat.one_mul, Nat.add_comm (n * 128), List.replicate_append_replicate]

theorem disknew_ok {W : World} {R : List SProp} (n : Nat) (h1 : 1 ≤ n) (h2 : n ≤ 8192) :
    Does W Tryz.prog 63 [.int .i64 n] R (β := Nat) (fun _ => True) (fun d => .tuple #[.pointer (some ⟨d, 0, none⟩), .int .u16 0]) (fun d => DiskR d ⟨List.replicate n zeroSec, [], false⟩ :: R) := by
  (refine Does.enter Tryz.func63 Tryz.ntmps63 rfl rfl ?_)
  (refine w ?_; repeat ((first | refine VO.step rfl rfl ?_ | refine VD.end rfl rfl rfl ?_ | refine VD.mid rfl rfl rfl ?_); refine OpV.box rfl rfl rfl ?_; intro _; refine w ?_))
  (first | refine VO.gF rfl rfl rfl (by simp; omega) ?_ | refine VD.gF rfl rfl rfl (by simp; omega) ?_)
  (refine w ?_; repeat ((first | refine VO.step rfl rfl ?_ | refine VD.end rfl rfl rfl ?_ | refine VD.mid rfl rfl rfl ?_); refine OpV.box rfl rfl rfl ?_; intro _; refine w ?_))
  (refine VC.condFe rfl rfl (by simp; omega) ?_)
  (refine w ?_; repeat ((first | refine VO.step rfl rfl ?_ | refine VD.end rfl rfl rfl ?_ | refine VD.mid rfl rfl rfl ?_); refine OpV.box rfl rfl rfl ?_; intro _; refine w ?_))
  (first | refine VO.step rfl rfl ?_ | refine VD.end rfl rfl rfl ?_ | refine VD.mid rfl rfl rfl ?_)
  refine OpV.makeSlice st_sectors rfl rfl ?_ ?_ rfl ?_
  · omega
  · simp only [maxLen]; omega
  intro nb
  have e : (madeCells (Value.agg (List.replicate 128 zb).toArray).cells (n * 128)).toList = (List.replicate n zeroSec).flatMap bytes := by
    rw [zeros_flat]; exact madeCells_same zb 128 (n * 128) (by decide)
  rw [e]
  (first | refine VO.step rfl rfl ?_ | refine VD.end rfl rfl rfl ?_ | refine VD.mid rfl rfl rfl ?_)
  refine OpV.makeMap rfl ?_
  intro mb
  (apply VO.pure rfl rfl; apply PureAt.build sb_227 rfl; (simp [buildX, setL, Value.cells]; rfl); rfl)
  (refine w ?_; repeat ((first | refine VO.step rfl rfl ?_ | refine VD.end rfl rfl rfl ?_ | refine VD.mid rfl rfl rfl ?_); refine OpV.box rfl rfl rfl ?_; intro _; refine w ?_))
  refine VE.done _ rfl trivial rfl ?_
  intro w hw
  have hw := hw.ownNil 273 129
  have hl : (List.replicate n zeroSec).length = n := List.length_replicate
  refine DiskR.shut (k := ⟨List.replicate n zeroSec, [], false⟩) (x := ((some ⟨nb, 0, none⟩, n), (none, 0), mb)) ⟨fun b hb => (by rw [List.eq_of_mem_replicate hb]; exact zeroSec_length), fun c hc => absurd hc (by simp), (by rw [hl]; exact h2)⟩ w (hw.reord ?_)
  simp only [DiskO, hl, List.length_nil, List.flatMap_nil, seenOf_nil]
  (repeat first | exact .refl | (apply Reord.cons; focus repeat first | exact .head | apply Del.tail) | exact .nil | apply Reord.drop)

theorem disknew_bad {W : World} {R : List SProp} (n : Int) (h : n < 1 ∨ 8192 < n) :
    Does1 W Tryz.prog 63 [.int .i64 n] R (.tuple #[.pointer none, .int .u16 40]) R := by
  (refine Does.enter Tryz.func63 Tryz.ntmps63 rfl rfl ?_)
  (refine w ?_; repeat ((first | refine VO.step rfl rfl ?_ | refine VD.end rfl rfl rfl ?_ | refine VD.mid rfl rfl rfl ?_); refine OpV.box rfl rfl rfl ?_; intro _; refine w ?_))
  ((first | refine VO.split rfl rfl rfl ?_ ?_ | refine VD.split rfl rfl rfl ?_ ?_) <;> intro hb)
  · (refine w ?_; repeat ((first | refine VO.step rfl rfl ?_ | refine VD.end rfl rfl rfl ?_ | refine VD.mid rfl rfl rfl ?_); refine OpV.box rfl rfl rfl ?_; intro _; refine w ?_))
    (first | exact VE.done1 rfl rfl Ent.refl | exact VE.done1N rfl rfl Ent.refl)
  · (refine w ?_; repeat ((first | refine VO.step rfl rfl ?_ | refine VD.end rfl rfl rfl ?_ | refine VD.mid rfl rfl rfl ?_); refine OpV.box rfl rfl rfl ?_; intro _; refine w ?_))
    (refine VC.condTe rfl rfl (by have := of_decide_eq_false hb; simp; omega) ?_)
    (refine w ?_; repeat ((first | refine VO.step rfl rfl ?_ | refine VD.end rfl rfl rfl ?_ | refine VD.mid rfl rfl rfl ?_); refine OpV.box rfl rfl rfl ?_; intro _; refine w ?_))
    (first | exact VE.done1 rfl rfl Ent.refl | exact VE.done1N rfl rfl Ent.refl)

def DiskD.may (k : DiskD) (at_ : Int) : Int := if k.failed then 2 else if at_ < 0 ∨ (k.last.length : Int) ≤ at_ then 3 else 0
theorem may_ok {W : World} {R : List SProp} (d : Nat) (k : DiskD) (at_ : Int) :
    Does1 W Tryz.prog 172 [.pointer (some ⟨d, 0, none⟩), .int .i64 at_] (DiskR d k :: R) (.int .u16 (k.may at_)) (DiskR d k :: R) := by
  (refine Does.enter Tryz.func172 Tryz.ntmps172 rfl rfl ?_)
  refine VC.obtain (fun w => DiskR.open) ?_
  rintro ⟨⟨⟨ao, cap⟩, ⟨ao', cap'⟩, m⟩, hk⟩
  (refine w ?_; repeat ((first | refine VO.step rfl rfl ?_ | refine VD.end rfl rfl rfl ?_ | refine VD.mid rfl rfl rfl ?_); refine OpV.box rfl rfl rfl ?_; intro _; refine w ?_))
  (refine VC.cond rfl rfl ?_ ?_ <;> intro hc)
  · (refine w ?_; repeat ((first | refine VO.step rfl rfl ?_ | refine VD.end rfl rfl rfl ?_ | refine VD.mid rfl rfl rfl ?_); refine OpV.box rfl rfl rfl ?_; intro _; refine w ?_))
    (refine VE.done1 rfl ?_ ?_)
    · simp [DiskD.may, hc]
    · exact DiskR.shut hk
  have hf : k.failed = false := hc
  (refine w ?_; repeat ((first | refine VO.step rfl rfl ?_ | refine VD.end rfl rfl rfl ?_ | refine VD.mid rfl rfl rfl ?_); refine OpV.box rfl rfl rfl ?_; intro _; refine w ?_))
  ((first | refine VO.split rfl rfl rfl ?_ ?_ | refine VD.split rfl rfl rfl ?_ ?_) <;> intro hb)
  · have : at_ < 0 := of_decide_eq_true hb
    (refine w ?_; repeat ((first | refine VO.step rfl rfl ?_ | refine VD.end rfl rfl rfl ?_ | refine VD.mid rfl rfl rfl ?_); refine OpV.box rfl rfl rfl ?_; intro _; refine w ?_))
    (refine VE.done1 rfl ?_ ?_)
    · simp [DiskD.may, hf, this]
    · exact DiskR.shut hk
  have h0 : ¬ at_ < 0 := of_decide_eq_false hb
  (refine w ?_; repeat ((first | refine VO.step rfl rfl ?_ | refine VD.end rfl rfl rfl ?_ | refine VD.mid rfl rfl rfl ?_); refine OpV.box rfl rfl rfl ?_; intro _; refine w ?_))
  (refine VC.cond rfl rfl ?_ ?_ <;> intro hc)
  · have : (k.last.length : Int) ≤ at_ := by simpa using hc
    (refine w ?_; repeat ((first | refine VO.step rfl rfl ?_ | refine VD.end rfl rfl rfl ?_ | refine VD.mid rfl rfl rfl ?_); refine OpV.box rfl rfl rfl ?_; intro _; refine w ?_))
    (refine VE.done1 rfl ?_ ?_)
    · simp [DiskD.may, hf, this]
    · exact DiskR.shut hk
  · have : ¬ (k.last.length : Int) ≤ at_ := by simpa using hc
    (refine w ?_; repeat ((first | refine VO.step rfl rfl ?_ | refine VD.end rfl rfl rfl ?_ | refine VD.mid rfl rfl rfl ?_); refine OpV.box rfl rfl rfl ?_; intro _; refine w ?_))
    (refine VE.done1 rfl ?_ ?_)
    · simp only [DiskD.may, hf]; rw [if_neg (by simp), if_neg (by omega)]
    · exact DiskR.shut hk

def DiskD.write (k : DiskD) (a : Nat) (b : List UInt8) : DiskD := { k with cache := k.cache ++ [(a, b)] }
theorem write_bad {W : World} {R : List SProp} {ao : Option Addr} {cap nb : Nat} (d : Nat) (k : DiskD) (at_ : Int) (h : k.may at_ ≠ 0) :
    Does1 W Tryz.prog 198 [.pointer (some ⟨d, 0, none⟩), .int .i64 at_, .slice ao nb cap] (DiskR d k :: R) (.int .u16 (k.may at_)) (DiskR d k :: R) := by
  (refine Does.enter Tryz.func198 Tryz.ntmps198 rfl rfl ?_)
  (refine w ?_; repeat ((first | refine VO.step rfl rfl ?_ | refine VD.end rfl rfl rfl ?_ | refine VD.mid rfl rfl rfl ?_); refine OpV.box rfl rfl rfl ?_; intro _; refine w ?_))
  (((first | refine VO.step rfl rfl ?_ | refine VD.end rfl rfl rfl ?_ | refine VD.mid rfl rfl rfl ?_); refine OpV.call rfl rfl (fun _ _ => by simp) (may_ok d k at_) Ent.re rfl ?_); intro _ _)
  (refine w ?_; repeat ((first | refine VO.step rfl rfl ?_ | refine VD.end rfl rfl rfl ?_ | refine VD.mid rfl rfl rfl ?_); refine OpV.box rfl rfl rfl ?_; intro _; refine w ?_))
  (refine VC.condTe rfl rfl (by simpa using h) ?_)
  (refine w ?_; repeat ((first | refine VO.step rfl rfl ?_ | refine VD.end rfl rfl rfl ?_ | refine VD.mid rfl rfl rfl ?_); refine OpV.box rfl rfl rfl ?_; intro _; refine w ?_))
  (refine VE.done1 rfl ?_ ?_)
  · rfl
  · exact Ent.refl
theorem may_zero {k : DiskD} {a : Int} (h : k.may a = 0) : k.failed = false ∧ 0 ≤ a ∧ a < k.last.length := by
  unfold DiskD.may at h
  split at h
  · cases h
  · rename_i h1
    split at h
    · cases h
    · exact ⟨by simpa using h1, by omega, by omega⟩

theorem write_len {W : World} {R : List SProp} {ao : Option Addr} {cap nb : Nat} (d : Nat) (k : DiskD) (at_ : Int) (h : k.may at_ = 0) (hb : nb ≠ 128) :
    Does1 W Tryz.prog 198 [.pointer (some ⟨d, 0, none⟩), .int .i64 at_, .slice ao nb cap] (DiskR d k :: R) (.int .u16 4) (DiskR d k :: R) := by
  (refine Does.enter Tryz.func198 Tryz.ntmps198 rfl rfl ?_)
  (refine w ?_; repeat ((first | refine VO.step rfl rfl ?_ | refine VD.end rfl rfl rfl ?_ | refine VD.mid rfl rfl rfl ?_); refine OpV.box rfl rfl rfl ?_; intro _; refine w ?_))
  (((first | refine VO.step rfl rfl ?_ | refine VD.end rfl rfl rfl ?_ | refine VD.mid rfl rfl rfl ?_); refine OpV.call rfl rfl (fun _ _ => by simp) (may_ok d k at_) Ent.re rfl ?_); intro _ _)
  (refine w ?_; repeat ((first | refine VO.step rfl rfl ?_ | refine VD.end rfl rfl rfl ?_ | refine VD.mid rfl rfl rfl ?_); refine OpV.box rfl rfl rfl ?_; intro _; refine w ?_))
  (refine VC.condFe rfl rfl (by simp [h]) ?_)
  (refine w ?_; repeat ((first | refine VO.step rfl rfl ?_ | refine VD.end rfl rfl rfl ?_ | refine VD.mid rfl rfl rfl ?_); refine OpV.box rfl rfl rfl ?_; intro _; refine w ?_))
  (refine VC.condTe rfl rfl (by simp; omega) ?_)
  (refine w ?_; repeat ((first | refine VO.step rfl rfl ?_ | refine VD.end rfl rfl rfl ?_ | refine VD.mid rfl rfl rfl ?_); refine OpV.box rfl rfl rfl ?_; intro _; refine w ?_))
  (refine VE.done1 rfl ?_ ?_)
  · rfl
  · exact Ent.refl

theorem buildX_step {pls : List (Nat × Nat)} {cs : List Value} {i o : Nat} {v : Value} {r : List (Nat × Value)} (h : pls[i]? = some (o, v.cells.size)) (hl : o + v.cells.size ≤ cs.length) :
    buildX pls cs ((i, v) :: r) = buildX pls (setL cs o v.cells.toList) r := by
  rw [buildX, h]
  simp only [ne_eq, not_true_eq_false, decide_false, Bool.false_or]
  rw [if_neg (by simpa using hl)]
theorem build_write (a : Int) (vs : List Value) (h : vs.length = 128) : buildX [(0, 1), (1, 128)] (.int .i64 0 :: List.replicate 128 zb) [(0, .int .i64 a), (1, .agg vs.toArray)] = some (.int .i64 a :: vs) := by
  have e : setL (.int .i64 a :: List.replicate 128 zb) 1 vs = .int .i64 a :: vs := setL_mid vs [.int .i64 a] (List.replicate 128 zb) (by rw [h, List.length_replicate])
  rw [buildX_step (o := 0) (v := .int .i64 a) rfl (by show 0 + 1 ≤ _; rw [List.length_cons, List.length_replicate]; decide), buildX_step (o := 1) (v := .agg vs.toArray) (by show some (1, 128) = some (1, vs.toArray.size); rw [List.size_toArray, h]) (by show 1 + vs.toArray.size ≤ (setL _ 0 [_]).length; rw [setL_length, List.length_cons, List.length_replicate, List.size_toArray, h]; decide)]
  exact congrArg some e
theorem wCells_length {c : Nat × List UInt8} (h : c.2.length = 128) : (wCells c).length = 129 := by simp [wCells, h]
theorem wCells_one (c : Nat × List UInt8) : ∀ u ∈ wCells c, u.oneCell' = true := by
  intro u hu
  rcases List.mem_cons.1 hu with h | h
  · subst h; rfl
  · exact bytes_one _ u h
theorem Addr_add_zero (a : Addr) : a.add 0 = a := by simp [Addr.add]

theorem DiskD.write_okk {k : DiskD} {a : Nat} {b : List UInt8} (hk : k.ok) (ha : a < k.last.length) (hb : b.length = 128) : (k.write a b).ok :=
  ⟨hk.last, fun c hc => by
    rcases List.mem_append.1 hc with h | h
    · exact hk.cache c h
    · rw [List.mem_singleton] at h; subst h; exact ⟨ha, hb⟩, hk.size⟩

theorem write_ok {W : World} {R : List SProp} {ao : Option Addr} {cap : Nat} {b : List UInt8} (d : Nat) (k : DiskD) (a : Nat) (ha : a < k.last.length) (hf : k.failed = false) (hb : b.length = 128) (hc : k.cache.length ≤ 1000000000)
    (hr : Rds W R 1 ao 128 (bytes b)) :
    Does1 W Tryz.prog 198 [.pointer (some ⟨d, 0, none⟩), .int .i64 a, .slice ao 128 cap] (DiskR d k :: R) (.int .u16 0) (DiskR d (k.write a b) :: R) := by
  have hm : k.may a = 0 := by unfold DiskD.may; rw [hf, if_neg (by simp), if_neg (by omega)]
  obtain ⟨ad, rfl⟩ : ∃ ad, ao = some ad := by cases ao with | none => have := hr.nil rfl; omega | some ad => exact ⟨ad, rfl⟩
  (refine Does.enter Tryz.func198 Tryz.ntmps198 rfl rfl ?_)
  (refine w ?_; repeat ((first | refine VO.step rfl rfl ?_ | refine VD.end rfl rfl rfl ?_ | refine VD.mid rfl rfl rfl ?_); refine OpV.box rfl rfl rfl ?_; intro _; refine w ?_))
  (((first | refine VO.step rfl rfl ?_ | refine VD.end rfl rfl rfl ?_ | refine VD.mid rfl rfl rfl ?_); refine OpV.call rfl rfl (fun _ _ => by simp) (may_ok d k a) Ent.re rfl ?_); intro _ _)
  (refine w ?_; repeat ((first | refine VO.step rfl rfl ?_ | refine VD.end rfl rfl rfl ?_ | refine VD.mid rfl rfl rfl ?_); refine OpV.box rfl rfl rfl ?_; intro _; refine w ?_))
  (refine VC.condFe rfl rfl (by simp [hm]) ?_)
  (refine w ?_; repeat ((first | refine VO.step rfl rfl ?_ | refine VD.end rfl rfl rfl ?_ | refine VD.mid rfl rfl rfl ?_); refine OpV.box rfl rfl rfl ?_; intro _; refine w ?_))
  refine VC.obtain (fun w => DiskR.open) ?_
  rintro ⟨⟨⟨lo, lc⟩, ⟨co, cc⟩, m⟩, hk⟩
  (refine VC.drawn [] 10 [0, 1, 2, 3, 4, 5, 6, 7, 8, 9, 10] _ rfl (by kernel_rfl) (by kernel_rfl) Ent.re ?_)
  dsimp only [DiskO]
  (refine w ?_; repeat ((first | refine VO.step rfl rfl ?_ | refine VD.end rfl rfl rfl ?_ | refine VD.mid rfl rfl rfl ?_); refine OpV.box rfl rfl rfl ?_; intro _; refine w ?_))
  (first | refine VO.step rfl rfl ?_ | refine VD.end rfl rfl rfl ?_ | refine VD.mid rfl rfl rfl ?_)
  refine OpV.mapUpdate Tryz.underlying224 Tryz.underlying3 rfl rfl rfl (by (repeat first | exact .head | apply Hole.tail)) ?_
  (refine w ?_; repeat ((first | refine VO.step rfl rfl ?_ | refine VD.end rfl rfl rfl ?_ | refine VD.mid rfl rfl rfl ?_); refine OpV.box rfl rfl rfl ?_; intro _; refine w ?_))
  (refine VC.drawn [10, 11] 12 [0, 1, 2, 3, 4, 5, 6, 7, 8, 9, 10, 11, 12, 13, 14] (Row d 227 [.slice lo k.last.length lc, .slice co k.cache.length cc, .map (some m), .bool k.failed] :: R) rfl (by kernel_rfl) (by kernel_rfl) Ent.re ?_)
  (refine w ?_; repeat ((first | refine VO.step rfl rfl ?_ | refine VD.end rfl rfl rfl ?_ | refine VD.mid rfl rfl rfl ?_); refine OpV.box rfl rfl rfl ?_; intro _; refine w ?_))
  (first | refine VO.pure rfl rfl (PureAt.toArray Tryz.underlying237 rfl (Nat.le_refl 128)) rfl ?_ | refine VD.take rfl rfl rfl (PureAt.toArray Tryz.underlying237 rfl (Nat.le_refl 128)) rfl ?_ | refine VQ.pure rfl rfl (PureAt.toArray Tryz.underlying237 rfl (Nat.le_refl 128)) rfl ?_ | refine VD.end rfl rfl rfl (OpV.pure (PureAt.toArray Tryz.underlying237 rfl (Nat.le_refl 128)) rfl ?_))
  refine VD.re 34 (.pointer (some (ad.add 0))) rfl (by rw [Addr_add_zero]) ?_
  (first | refine VO.pure rfl rfl (.ldRA tab_ok rfl rfl (hr.ent (Reord.ent (Reord.drop .refl))) (show ((bytes b).drop 0).take 128 = bytes b from List.take_of_length_le (by simp [hb])) (by simp [hb])) rfl ?_ | refine VD.take rfl rfl rfl (.ldRA tab_ok rfl rfl (hr.ent (Reord.ent (Reord.drop .refl))) (show ((bytes b).drop 0).take 128 = bytes b from List.take_of_length_le (by simp [hb])) (by simp [hb])) rfl ?_ | refine VQ.pure rfl rfl (.ldRA tab_ok rfl rfl (hr.ent (Reord.ent (Reord.drop .refl))) (show ((bytes b).drop 0).take 128 = bytes b from List.take_of_length_le (by simp [hb])) (by simp [hb])) rfl ?_ | refine VD.end rfl rfl rfl (OpV.pure (.ldRA tab_ok rfl rfl (hr.ent (Reord.ent (Reord.drop .refl))) (show ((bytes b).drop 0).take 128 = bytes b from List.take_of_length_le (by simp [hb])) (by simp [hb])) rfl ?_))
  (first | refine VO.pure rfl rfl (PureAt.build sb_write rfl (build_write a (bytes b) (by simp [hb]))) rfl ?_ | refine VD.take rfl rfl rfl (PureAt.build sb_write rfl (build_write a (bytes b) (by simp [hb]))) rfl ?_ | refine VQ.pure rfl rfl (PureAt.build sb_write rfl (build_write a (bytes b) (by simp [hb]))) rfl ?_ | refine VD.end rfl rfl rfl (OpV.pure (PureAt.build sb_write rfl (build_write a (bytes b) (by simp [hb]))) rfl ?_))
  (first | refine VO.step rfl rfl ?_ | refine VD.end rfl rfl rfl ?_ | refine VD.mid rfl rfl rfl ?_)
  refine OpV.buildSlice (vs := [.agg (wCells (a, b)).toArray]) (cs := wCells (a, b)) st_writes rfl rfl (by simp [Value.cells, wCells, hb]) (by simp [Value.cells]) (by decide) rfl ?_
  intro nb
  refine ⟨Ent.re, ?_⟩
  (first | refine VO.step rfl rfl ?_ | refine VD.end rfl rfl rfl ?_ | refine VD.mid rfl rfl rfl ?_)
  refine OpV.appendRow st_writes rfl rfl (by (repeat first | exact .head | apply Hole.tail)) (by (focus repeat first | exact .head _ | apply List.Mem.tail)) (by simp [wCells, hb]) (wCells_one (a, b)) ?_ ?_ rfl ?_
  · simp only [maxLen]; omega
  · omega
  intro co' cc'
  refine ⟨Ent.re, ?_⟩
  (refine w ?_; repeat ((first | refine VO.step rfl rfl ?_ | refine VD.end rfl rfl rfl ?_ | refine VD.mid rfl rfl rfl ?_); refine OpV.box rfl rfl rfl ?_; intro _; refine w ?_))
  (refine VE.done1 rfl ?_ ?_)
  · rfl
  · refine Ent.trans ?_ (DiskR.shut (x := ((lo, lc), (co', cc'), m)) (DiskD.write_okk hk ha hb))
    have e1 : (k.write a b).cache = k.cache ++ [(a, b)] := rfl
    have e2 : (k.write a b).last = k.last := rfl
    have e3 : (k.write a b).failed = k.failed := rfl
    simp only [DiskO, e1, e2, e3, seenOf_snoc, List.flatMap_append, List.flatMap_singleton, List.length_append, List.length_singleton, List.set_cons_zero, List.set_cons_succ]
    exact Ent.re

/-! ### settle -/

def sets (keep : Nat → Bool) : List (List UInt8) → Nat → List (Nat × List UInt8) → List (List UInt8)
  | last, _, [] => last
  | last, i, c :: r => sets keep (if keep i then last.set c.1 c.2 else last) (i + 1) r
theorem sets_snoc (keep : Nat → Bool) (c : Nat × List UInt8) : ∀ (l : List (Nat × List UInt8)) (last : List (List UInt8)) (i : Nat), sets keep last i (l ++ [c]) = if keep (i + l.length) then (sets keep last i l).set c.1 c.2 else sets keep last i l
  | [], last, i => by simp [sets]
  | x :: r, last, i => by
    rw [List.cons_append, sets, sets_snoc keep c r, sets, List.length_cons, show i + 1 + r.length = i + (r.length + 1) by omega]
theorem sets_length (keep : Nat → Bool) : ∀ (l : List (Nat × List UInt8)) (last : List (List UInt8)) (i : Nat), (sets keep last i l).length = last.length
  | [], _, _ => rfl
  | x :: r, last, i => by rw [sets, sets_length keep r]; split <;> simp
theorem sets_128 (keep : Nat → Bool) : ∀ (l : List (Nat × List UInt8)) (last : List (List UInt8)) (i : Nat), (∀ b ∈ last, b.length = 128) → (∀ c ∈ l, c.2.length = 128) → ∀ b ∈ sets keep last i l, b.length = 128
  | [], _, _, h, _, b, hb => h b hb
  | x :: r, last, i, h, hc, b, hb => by
    rw [sets] at hb
    refine sets_128 keep r _ _ (fun y hy => ?_) (fun c h => hc c (.tail _ h)) b hb
    split at hy
    · rcases List.mem_or_eq_of_mem_set hy with q | q
      · exact h y q
      · subst q; exact hc x (.head _)
    · exact h y hy
theorem store_all (zs vs : List Value) (n : Nat) (h : zs.length = n) : zs.take 0 ++ vs ++ zs.drop (0 + n) = vs := by simp [← h]
def DiskD.settle (k : DiskD) (keep : Nat → Bool) : DiskD := ⟨sets keep k.last 0 k.cache, [], k.failed⟩
theorem DiskD.settle_okk {k : DiskD} {keep : Nat → Bool} (hk : k.ok) : (k.settle keep).ok :=
  ⟨sets_128 keep _ _ _ hk.last (fun c h => (hk.cache c h).2), fun c h => absurd h (by simp [DiskD.settle]), by unfold DiskD.settle; rw [sets_length]; exact hk.size⟩

theorem caches_one (l : List (Nat × List UInt8)) : ∀ u ∈ l.flatMap wCells, u.oneCell' = true := by
  intro u hu; obtain ⟨c, _, h⟩ := List.mem_flatMap.1 hu; exact wCells_one c u h
theorem lasts_one (l : List (List UInt8)) : ∀ u ∈ l.flatMap bytes, u.oneCell' = true := by
  intro u hu; obtain ⟨c, _, h⟩ := List.mem_flatMap.1 hu; exact bytes_one c u h

set_option maxHeartbeats 2000000 in
theorem settle_ok {W : World} {R : List SProp} {g : FuncId} {cp : Array Value} {keep : Nat → Bool} (d : Nat) (k : DiskD) (hcf : ∀ a w, (callFunc g a).run Tryz.prog w = .ok (.enter g a) w)
    (hkeep : ∀ (i : Nat) (X : List SProp), Does1 W Tryz.prog g (.int .i64 i :: cp.toList) (X ++ R) (.bool (keep i)) (X ++ R)) :
    Does1 W Tryz.prog 130 [.pointer (some ⟨d, 0, none⟩), .func (.func g) #[] cp] (DiskR d k :: R) (.tuple #[]) (DiskR d (k.settle keep) :: R) := by
  (refine Does.enter Tryz.func130 Tryz.ntmps130 rfl rfl ?_)
  refine VC.obtain (fun w => DiskR.open) ?_
  rintro ⟨⟨⟨lo, lc⟩, ⟨co, cc⟩, m⟩, hk⟩
  dsimp only [DiskO]
  refine VC.know (fun w hw => hw.ownNone (by (focus repeat first | exact .head _ | apply List.Mem.tail)) : ∀ w, _ → (co = none → k.cache.length = 0)) ?_
  intro hcn
  refine VC.know (fun w hw => hw.ownNone (by (focus repeat first | exact .head _ | apply List.Mem.tail)) : ∀ w, _ → (lo = none → k.last.length = 0)) ?_
  intro hln
  refine VC.know (fun w hw => hw.ownMax (show Own 273 129 (.slice co k.cache.length cc) k.cache.length (k.cache.flatMap wCells) ∈ _ by (focus repeat first | exact .head _ | apply List.Mem.tail)) : ∀ w, _ → k.cache.length ≤ maxLen) ?_
  intro hmax
  simp only [maxLen] at hmax
  (refine w ?_; repeat ((first | refine VO.step rfl rfl ?_ | refine VD.end rfl rfl rfl ?_ | refine VD.mid rfl rfl rfl ?_); refine OpV.box rfl rfl rfl ?_; intro _; refine w ?_))
  refine VC.loop (α := Nat) (fun i => i ≤ k.cache.length)
    (fun i => Row d 227 [.slice lo k.last.length lc, .slice co k.cache.length cc, .map (some m), .bool k.failed] :: Own 237 128 (.slice lo k.last.length lc) k.last.length ((sets keep k.last 0 (k.cache.take i)).flatMap bytes) ::
      Own 273 129 (.slice co k.cache.length cc) k.cache.length (k.cache.flatMap wCells) :: MapR m (seenOf k.cache) :: R)
    (fun i => [(0, .pointer (some ⟨d, 0, none⟩)), (1, .func (.func g) #[] cp), (9, .slice co k.cache.length cc), (10, .int .i64 k.cache.length), (11, .int .i64 i)]) (fun i => k.cache.length - i) rfl 0 (Nat.zero_le _) Ent.refl ⟨rfl, rfl, rfl, rfl, rfl, trivial⟩ ?_
  intro i hi
  (refine w ?_; repeat ((first | refine VO.step rfl rfl ?_ | refine VD.end rfl rfl rfl ?_ | refine VD.mid rfl rfl rfl ?_); refine OpV.box rfl rfl rfl ?_; intro _; refine w ?_))
  (refine VC.cond rfl rfl ?_ ?_ <;> intro hc)
  · have hlt : i < k.cache.length := by have := of_decide_eq_true hc; omega
    obtain ⟨a, rfl⟩ : ∃ a, co = some a := by cases co with | none => have := hcn rfl; omega | some a => exact ⟨a, rfl⟩
    obtain ⟨hw1, hw2⟩ := hk.cache k.cache[i] (List.getElem_mem hlt)
    obtain ⟨b, rfl⟩ : ∃ b, lo = some b := by cases lo with | none => have := hln rfl; omega | some b => exact ⟨b, rfl⟩
    have hpart := flat_part (g := wCells) (w := 129) k.cache i hlt (fun c h => wCells_length (hk.cache c h).2)
    (refine w ?_; repeat ((first | refine VO.step rfl rfl ?_ | refine VD.end rfl rfl rfl ?_ | refine VD.mid rfl rfl rfl ?_); refine OpV.box rfl rfl rfl ?_; intro _; refine w ?_))
    (first | refine VO.pure rfl rfl (.ldRA tab_ok rfl rfl (Rds.own (caches_one _) (by (focus repeat first | exact .head _ | apply List.Mem.tail)) (flat_length _ (fun c h => wCells_length (hk.cache c h).2)) hcn) hpart (wCells_length hw2)) rfl ?_ | refine VD.take rfl rfl rfl (.ldRA tab_ok rfl rfl (Rds.own (caches_one _) (by (focus repeat first | exact .head _ | apply List.Mem.tail)) (flat_length _ (fun c h => wCells_length (hk.cache c h).2)) hcn) hpart (wCells_length hw2)) rfl ?_ | refine VQ.pure rfl rfl (.ldRA tab_ok rfl rfl (Rds.own (caches_one _) (by (focus repeat first | exact .head _ | apply List.Mem.tail)) (flat_length _ (fun c h => wCells_length (hk.cache c h).2)) hcn) hpart (wCells_length hw2)) rfl ?_ | refine VD.end rfl rfl rfl (OpV.pure (.ldRA tab_ok rfl rfl (Rds.own (caches_one _) (by (focus repeat first | exact .head _ | apply List.Mem.tail)) (flat_length _ (fun c h => wCells_length (hk.cache c h).2)) hcn) hpart (wCells_length hw2)) rfl ?_))
    generalize hcc : k.cache[i] = c at *
    have hsn : sets keep k.last 0 (k.cache.take (i + 1)) = if keep i then (sets keep k.last 0 (k.cache.take i)).set c.1 c.2 else sets keep k.last 0 (k.cache.take i) := by
      rw [List.take_succ_eq_append_getElem hlt, sets_snoc, List.length_take, Nat.min_eq_left hi, Nat.zero_add, hcc]
    have hsl : (sets keep k.last 0 (k.cache.take i)).length = k.last.length := sets_length _ _ _ _
    have hs8 := sets_128 keep (k.cache.take i) k.last 0 hk.last (fun c h => (hk.cache c (List.mem_of_mem_take h)).2)
    generalize sets keep k.last 0 (k.cache.take i) = la at *
    ((first | refine VO.step rfl rfl ?_ | refine VD.end rfl rfl rfl ?_ | refine VD.mid rfl rfl rfl ?_); refine OpV.allocS sb_write rfl ?_; intro na)
    (refine w ?_; repeat ((first | refine VO.step rfl rfl ?_ | refine VD.end rfl rfl rfl ?_ | refine VD.mid rfl rfl rfl ?_); refine OpV.box rfl rfl rfl ?_; intro _; refine w ?_))
    (first | refine VO.step rfl rfl ?_ | refine VD.end rfl rfl rfl ?_ | refine VD.mid rfl rfl rfl ?_)
    refine OpV.stA (vs := wCells c) tab_ok rfl rfl rfl (wCells_length hw2) (wCells_one _) (by (repeat first | exact .head | apply Hole.tail)) (by rw [List.length_cons, List.length_replicate]; decide) ?_
    rw [store_all _ _ 129 (by rw [List.length_cons, List.length_replicate])]
    (refine w ?_; repeat ((first | refine VO.step rfl rfl ?_ | refine VD.end rfl rfl rfl ?_ | refine VD.mid rfl rfl rfl ?_); refine OpV.box rfl rfl rfl ?_; intro _; refine w ?_))
    (first | refine VO.step rfl rfl ?_ | refine VD.end rfl rfl rfl ?_ | refine VD.mid rfl rfl rfl ?_)
    refine OpV.call rfl rfl hcf (hkeep i [Row na 273 (wCells c), Row d 227 [.slice (some b) k.last.length lc, .slice (some a) k.cache.length cc, .map (some m), .bool k.failed], Own 237 128 (.slice (some b) k.last.length lc) k.last.length (la.flatMap bytes),
      Own 273 129 (.slice (some a) k.cache.length cc) k.cache.length (k.cache.flatMap wCells), MapR m (seenOf k.cache)]) Ent.refl rfl ?_
    intro _ _
    dsimp only [List.cons_append, List.nil_append]
    (refine w ?_; repeat ((first | refine VO.step rfl rfl ?_ | refine VD.end rfl rfl rfl ?_ | refine VD.mid rfl rfl rfl ?_); refine OpV.box rfl rfl rfl ?_; intro _; refine w ?_))
    (refine VC.cond rfl rfl ?_ ?_ <;> intro hc)
    · have hkt : keep i = true := hc
      (refine w ?_; repeat ((first | refine VO.step rfl rfl ?_ | refine VD.end rfl rfl rfl ?_ | refine VD.mid rfl rfl rfl ?_); refine OpV.box rfl rfl rfl ?_; intro _; refine w ?_))
      (refine VC.drawn [] 8 [0, 1, 2, 3, 4, 5, 6, 7, 8, 9] _ rfl (by kernel_rfl) (by kernel_rfl) Ent.re ?_)
      (refine w ?_; repeat ((first | refine VO.step rfl rfl ?_ | refine VD.end rfl rfl rfl ?_ | refine VD.mid rfl rfl rfl ?_); refine OpV.box rfl rfl rfl ?_; intro _; refine w ?_))
      (first | refine VO.pure rfl rfl (PureAt.ldA tab_ok rfl rfl (.head _) (show ((wCells c).drop 1).take 128 = bytes c.2 from List.take_of_length_le (by rw [List.length_drop, wCells_length hw2]; decide)) (by simp [hw2])) rfl ?_ | refine VD.take rfl rfl rfl (PureAt.ldA tab_ok rfl rfl (.head _) (show ((wCells c).drop 1).take 128 = bytes c.2 from List.take_of_length_le (by rw [List.length_drop, wCells_length hw2]; decide)) (by simp [hw2])) rfl ?_ | refine VQ.pure rfl rfl (PureAt.ldA tab_ok rfl rfl (.head _) (show ((wCells c).drop 1).take 128 = bytes c.2 from List.take_of_length_le (by rw [List.length_drop, wCells_length hw2]; decide)) (by simp [hw2])) rfl ?_ | refine VD.end rfl rfl rfl (OpV.pure (PureAt.ldA tab_ok rfl rfl (.head _) (show ((wCells c).drop 1).take 128 = bytes c.2 from List.take_of_length_le (by rw [List.length_drop, wCells_length hw2]; decide)) (by simp [hw2])) rfl ?_))
      (refine w ?_; repeat ((first | refine VO.step rfl rfl ?_ | refine VD.end rfl rfl rfl ?_ | refine VD.mid rfl rfl rfl ?_); refine OpV.box rfl rfl rfl ?_; intro _; refine w ?_))
      (first | refine VO.step rfl rfl ?_ | refine VD.end rfl rfl rfl ?_ | refine VD.mid rfl rfl rfl ?_)
      refine OpV.stOA (vs := bytes c.2) tab_ok rfl rfl rfl (by simp [hw2]) (bytes_one _) (by (repeat first | exact .head | apply Hole.tail)) ?_ ?_
      · rw [flat_length (w := 128) _ (fun b h => by simp [hs8 b h]), hsl]; omega
      rw [flat_set (g := bytes) (w := 128) c.2 la c.1 (by omega) (fun b h => by simp [hs8 b h])]
      (refine w ?_; repeat ((first | refine VO.step rfl rfl ?_ | refine VD.end rfl rfl rfl ?_ | refine VD.mid rfl rfl rfl ?_); refine OpV.box rfl rfl rfl ?_; intro _; refine w ?_))
      refine VE.round (i + 1) hlt (by omega) ⟨rfl, rfl, rfl, rfl, rfl, trivial⟩ ?_
      rw [hsn, if_pos hkt]
      exact Ent.re
    · have hkt : ¬ keep i = true := by simpa using hc
      (refine w ?_; repeat ((first | refine VO.step rfl rfl ?_ | refine VD.end rfl rfl rfl ?_ | refine VD.mid rfl rfl rfl ?_); refine OpV.box rfl rfl rfl ?_; intro _; refine w ?_))
      refine VE.round (i + 1) hlt (by omega) ⟨rfl, rfl, rfl, rfl, rfl, trivial⟩ ?_
      rw [hsn, if_neg hkt]
      exact Ent.re
  · have hge : i = k.cache.length := by have := of_decide_eq_false hc; omega
    subst hge
    rw [List.take_of_length_le (Nat.le_refl k.cache.length)]
    (refine w ?_; repeat ((first | refine VO.step rfl rfl ?_ | refine VD.end rfl rfl rfl ?_ | refine VD.mid rfl rfl rfl ?_); refine OpV.box rfl rfl rfl ?_; intro _; refine w ?_))
    (first | refine VO.step rfl rfl ?_ | refine VD.end rfl rfl rfl ?_ | refine VD.mid rfl rfl rfl ?_)
    refine OpV.clearMap Tryz.underlying224 rfl (by (repeat first | exact .head | apply Hole.tail)) ?_
    (refine w ?_; repeat ((first | refine VO.step rfl rfl ?_ | refine VD.end rfl rfl rfl ?_ | refine VD.mid rfl rfl rfl ?_); refine OpV.box rfl rfl rfl ?_; intro _; refine w ?_))
    (refine VE.done1N rfl ?_ ?_)
    · rfl
    · intro w hw
      refine DiskR.shut (k := k.settle keep) (x := ((lo, lc), (none, 0), m)) (DiskD.settle_okk hk) w ((hw.ownNil 273 129).reord ?_)
      have e1 : (k.settle keep).cache = [] := rfl
      have e2 : (k.settle keep).last = sets keep k.last 0 k.cache := rfl
      have e3 : (k.settle keep).failed = k.failed := rfl
      simp only [DiskO, e1, e2, e3, seenOf_nil, sets_length, List.flatMap_nil, List.length_nil, List.set_cons_zero, List.set_cons_succ]
      (repeat first | exact .refl | (apply Reord.cons; focus repeat first | exact .head | apply Del.tail) | exact .nil | apply Reord.drop)
end Go.Proofs.YtlojjlbngnaphaaGreat

/-! Text Dl. -/
/- Package disk: Flush, Fail, Crash, Read, Image, Pending. -/
set_option maxRecDepth 8000
set_option linter.unusedVariables false
set_option linter.unusedSimpArgs false
set_option linter.unusedSectionVars false
namespace Go.Proofs.YtlojjlbngnaphaaGreat
open Go.RowKit Go.Sl
attribute [local irreducible] Own

theorem Ent.dropAll {W : World} {R : List SProp} : ∀ X : List SProp, Ent W (X ++ R) R
  | [] => Ent.refl
  | _ :: r => Ent.drop (Ent.dropAll r)

theorem flushf_ok {W : World} {R : List SProp} (i : Nat) : Does1 W Tryz.prog 231 [.int .i64 i] R (.bool true) R := by
  (refine Does.enter Tryz.func231 Tryz.ntmps231 rfl rfl ?_)
  (refine w ?_; repeat ((first | refine VO.step rfl rfl ?_ | refine VD.end rfl rfl rfl ?_ | refine VD.mid rfl rfl rfl ?_); refine OpV.box rfl rfl rfl ?_; intro _; refine w ?_))
  (first | exact VE.done1 rfl rfl Ent.refl | exact VE.done1N rfl rfl Ent.refl)
theorem failf_ok {W : World} {R : List SProp} (i : Nat) : Does1 W Tryz.prog 206 [.int .i64 i] R (.bool false) R := by
  (refine Does.enter Tryz.func206 Tryz.ntmps206 rfl rfl ?_)
  (refine w ?_; repeat ((first | refine VO.step rfl rfl ?_ | refine VD.end rfl rfl rfl ?_ | refine VD.mid rfl rfl rfl ?_); refine OpV.box rfl rfl rfl ?_; intro _; refine w ?_))
  (first | exact VE.done1 rfl rfl Ent.refl | exact VE.done1N rfl rfl Ent.refl)

def bools (l : List Bool) : List Value := l.map .bool
@[simp] theorem bools_length (l : List Bool) : (bools l).length = l.length := by simp [bools]
def keepOf (l : List Bool) (i : Nat) : Bool := l.getD i false

theorem crashf_ok {W : World} {R : List SProp} {ao : Option Addr} {n cap bx : Nat} {l : List Bool} (i : Nat) (hm : Row bx 35 [.slice ao n cap] ∈ R) (hr : Rds W R 1 ao n (bools l)) :
    Does1 W Tryz.prog 131 [.int .i64 i, .pointer (some ⟨bx, 0, none⟩)] R (.bool (keepOf l i)) R := by
  have hl : l.length = n := by have := hr.len; simpa using this
  (refine Does.enter Tryz.func131 Tryz.ntmps131 rfl rfl ?_)
  (refine w ?_; repeat ((first | refine VO.step rfl rfl ?_ | refine VD.end rfl rfl rfl ?_ | refine VD.mid rfl rfl rfl ?_); refine OpV.box rfl rfl rfl ?_; intro _; refine w ?_))
  (first | refine VO.pure rfl rfl (PureAt.ld tab_ok rfl rfl hm rfl) rfl ?_ | refine VD.take rfl rfl rfl (PureAt.ld tab_ok rfl rfl hm rfl) rfl ?_ | refine VQ.pure rfl rfl (PureAt.ld tab_ok rfl rfl hm rfl) rfl ?_ | refine VD.end rfl rfl rfl (OpV.pure (PureAt.ld tab_ok rfl rfl hm rfl) rfl ?_))
  (refine w ?_; repeat ((first | refine VO.step rfl rfl ?_ | refine VD.end rfl rfl rfl ?_ | refine VD.mid rfl rfl rfl ?_); refine OpV.box rfl rfl rfl ?_; intro _; refine w ?_))
  ((first | refine VO.split rfl rfl rfl ?_ ?_ | refine VD.split rfl rfl rfl ?_ ?_) <;> intro hb)
  · have hlt : i < n := by have := of_decide_eq_true hb; omega
    obtain ⟨a, rfl⟩ : ∃ a, ao = some a := by cases ao with | none => have := hr.nil rfl; omega | some a => exact ⟨a, rfl⟩
    (first | refine VO.pure rfl rfl (PureAt.ld tab_ok rfl rfl hm rfl) rfl ?_ | refine VD.take rfl rfl rfl (PureAt.ld tab_ok rfl rfl hm rfl) rfl ?_ | refine VQ.pure rfl rfl (PureAt.ld tab_ok rfl rfl hm rfl) rfl ?_ | refine VD.end rfl rfl rfl (OpV.pure (PureAt.ld tab_ok rfl rfl hm rfl) rfl ?_))
    (refine w ?_; repeat ((first | refine VO.step rfl rfl ?_ | refine VD.end rfl rfl rfl ?_ | refine VD.mid rfl rfl rfl ?_); refine OpV.box rfl rfl rfl ?_; intro _; refine w ?_))
    (first | refine VO.pure rfl rfl (PureAt.ldR tab_ok rfl rfl hr (show (bools l)[i]? = some (.bool (keepOf l i)) by simp [bools, keepOf, hl, hlt])) rfl ?_ | refine VD.take rfl rfl rfl (PureAt.ldR tab_ok rfl rfl hr (show (bools l)[i]? = some (.bool (keepOf l i)) by simp [bools, keepOf, hl, hlt])) rfl ?_ | refine VQ.pure rfl rfl (PureAt.ldR tab_ok rfl rfl hr (show (bools l)[i]? = some (.bool (keepOf l i)) by simp [bools, keepOf, hl, hlt])) rfl ?_ | refine VD.end rfl rfl rfl (OpV.pure (PureAt.ldR tab_ok rfl rfl hr (show (bools l)[i]? = some (.bool (keepOf l i)) by simp [bools, keepOf, hl, hlt])) rfl ?_))
    (refine w ?_; repeat ((first | refine VO.step rfl rfl ?_ | refine VD.end rfl rfl rfl ?_ | refine VD.mid rfl rfl rfl ?_); refine OpV.box rfl rfl rfl ?_; intro _; refine w ?_))
    (first | exact VE.done1 rfl rfl Ent.refl | exact VE.done1N rfl rfl Ent.refl)
  · have hge : n ≤ i := by have := of_decide_eq_false hb; omega
    (refine w ?_; repeat ((first | refine VO.step rfl rfl ?_ | refine VD.end rfl rfl rfl ?_ | refine VD.mid rfl rfl rfl ?_); refine OpV.box rfl rfl rfl ?_; intro _; refine w ?_))
    (refine VE.done1 rfl ?_ ?_)
    · simp [keepOf, hl, hge]
    · exact Ent.refl

theorem flush_ok {W : World} {R : List SProp} (d : Nat) (k : DiskD) (hf : k.failed = false) :
    Does1 W Tryz.prog 191 [.pointer (some ⟨d, 0, none⟩)] (DiskR d k :: R) (.int .u16 0) (DiskR d (k.settle fun _ => true) :: R) := by
  (refine Does.enter Tryz.func191 Tryz.ntmps191 rfl rfl ?_)
  refine VC.obtain (fun w => DiskR.open) ?_
  rintro ⟨⟨⟨lo, lc⟩, ⟨co, cc⟩, m⟩, hk⟩
  (refine w ?_; repeat ((first | refine VO.step rfl rfl ?_ | refine VD.end rfl rfl rfl ?_ | refine VD.mid rfl rfl rfl ?_); refine OpV.box rfl rfl rfl ?_; intro _; refine w ?_))
  (refine VC.condFe rfl rfl (hf) ?_)
  refine VC.ent (DiskR.shut hk) ?_
  (refine w ?_; repeat ((first | refine VO.step rfl rfl ?_ | refine VD.end rfl rfl rfl ?_ | refine VD.mid rfl rfl rfl ?_); refine OpV.box rfl rfl rfl ?_; intro _; refine w ?_))
  (((first | refine VO.step rfl rfl ?_ | refine VD.end rfl rfl rfl ?_ | refine VD.mid rfl rfl rfl ?_); refine OpV.call rfl rfl (fun _ _ => by simp) (settle_ok (cp := #[]) d k (fun _ _ => by simp) (fun i X => flushf_ok i)) Ent.re rfl ?_); intro _ _)
  (refine w ?_; repeat ((first | refine VO.step rfl rfl ?_ | refine VD.end rfl rfl rfl ?_ | refine VD.mid rfl rfl rfl ?_); refine OpV.box rfl rfl rfl ?_; intro _; refine w ?_))
  (refine VE.done1 rfl ?_ ?_)
  · rfl
  · exact Ent.refl
theorem flush_bad {W : World} {R : List SProp} (d : Nat) (k : DiskD) (hf : k.failed = true) :
    Does1 W Tryz.prog 191 [.pointer (some ⟨d, 0, none⟩)] (DiskR d k :: R) (.int .u16 2) (DiskR d k :: R) := by
  (refine Does.enter Tryz.func191 Tryz.ntmps191 rfl rfl ?_)
  refine VC.obtain (fun w => DiskR.open) ?_
  rintro ⟨⟨⟨lo, lc⟩, ⟨co, cc⟩, m⟩, hk⟩
  (refine w ?_; repeat ((first | refine VO.step rfl rfl ?_ | refine VD.end rfl rfl rfl ?_ | refine VD.mid rfl rfl rfl ?_); refine OpV.box rfl rfl rfl ?_; intro _; refine w ?_))
  (refine VC.condTe rfl rfl (hf) ?_)
  (refine w ?_; repeat ((first | refine VO.step rfl rfl ?_ | refine VD.end rfl rfl rfl ?_ | refine VD.mid rfl rfl rfl ?_); refine OpV.box rfl rfl rfl ?_; intro _; refine w ?_))
  (refine VE.done1 rfl ?_ ?_)
  · rfl
  · exact DiskR.shut hk
theorem fail_ok {W : World} {R : List SProp} (d : Nat) (k : DiskD) :
    Does1 W Tryz.prog 152 [.pointer (some ⟨d, 0, none⟩)] (DiskR d k :: R) (.tuple #[]) (DiskR d ((DiskD.mk k.last k.cache true).settle fun _ => false) :: R) := by
  (refine Does.enter Tryz.func152 Tryz.ntmps152 rfl rfl ?_)
  refine VC.obtain (fun w => DiskR.open) ?_
  rintro ⟨⟨⟨lo, lc⟩, ⟨co, cc⟩, m⟩, hk⟩
  dsimp only [DiskO]
  (refine w ?_; repeat ((first | refine VO.step rfl rfl ?_ | refine VD.end rfl rfl rfl ?_ | refine VD.mid rfl rfl rfl ?_); refine OpV.box rfl rfl rfl ?_; intro _; refine w ?_))
  refine VO.ent (DiskR.shut (k := ⟨k.last, k.cache, true⟩) (x := ((lo, lc), (co, cc), m)) ⟨hk.last, hk.cache, hk.size⟩) ?_
  (((first | refine VO.step rfl rfl ?_ | refine VD.end rfl rfl rfl ?_ | refine VD.mid rfl rfl rfl ?_); refine OpV.call rfl rfl (fun _ _ => by simp) (settle_ok (cp := #[]) d ⟨k.last, k.cache, true⟩ (fun _ _ => by simp) (fun i X => failf_ok i)) Ent.re rfl ?_); intro _ _)
  (refine w ?_; repeat ((first | refine VO.step rfl rfl ?_ | refine VD.end rfl rfl rfl ?_ | refine VD.mid rfl rfl rfl ?_); refine OpV.box rfl rfl rfl ?_; intro _; refine w ?_))
  (refine VE.done1N rfl ?_ ?_)
  · rfl
  · exact Ent.refl
theorem crash_ok {W : World} {R : List SProp} {ao : Option Addr} {n cap : Nat} {l : List Bool} (d : Nat) (k : DiskD) (hr : Rds W R 1 ao n (bools l)) :
    Does1 W Tryz.prog 57 [.pointer (some ⟨d, 0, none⟩), .slice ao n cap] (DiskR d k :: R) (.tuple #[]) (DiskR d (k.settle (keepOf l)) :: R) := by
  (refine Does.enter Tryz.func57 Tryz.ntmps57 rfl rfl ?_)
  (refine w ?_; repeat ((first | refine VO.step rfl rfl ?_ | refine VD.end rfl rfl rfl ?_ | refine VD.mid rfl rfl rfl ?_); refine OpV.box rfl rfl rfl ?_; intro _; refine w ?_))
  rename_i bx
  (first | refine VO.pure rfl rfl (PureAt.makeFunc1 rfl) rfl ?_ | refine VD.take rfl rfl rfl (PureAt.makeFunc1 rfl) rfl ?_ | refine VQ.pure rfl rfl (PureAt.makeFunc1 rfl) rfl ?_ | refine VD.end rfl rfl rfl (OpV.pure (PureAt.makeFunc1 rfl) rfl ?_))
  (((first | refine VO.step rfl rfl ?_ | refine VD.end rfl rfl rfl ?_ | refine VD.mid rfl rfl rfl ?_); refine OpV.call rfl rfl (fun _ _ => by simp) (settle_ok (R := Row bx 35 [.slice ao n cap] :: R) (cp := #[.pointer (some ⟨bx, 0, none⟩)]) d k (fun _ _ => by simp) (fun i X => crashf_ok i (List.mem_append_right _ (.head _)) (hr.ent ((Ent.dropAll X).trans (Ent.drop Ent.refl))))) Ent.re rfl ?_); intro _ _)
  (refine w ?_; repeat ((first | refine VO.step rfl rfl ?_ | refine VD.end rfl rfl rfl ?_ | refine VD.mid rfl rfl rfl ?_); refine OpV.box rfl rfl rfl ?_; intro _; refine w ?_))
  (refine VE.done1N rfl ?_ ?_)
  · rfl
  · exact Ent.re
end Go.Proofs.YtlojjlbngnaphaaGreat

/-! Text Dm. -/
/- Package disk: Read, Image, Pending. -/
set_option maxRecDepth 8000
set_option linter.unusedVariables false
set_option linter.unusedSimpArgs false
set_option linter.unusedSectionVars false
namespace Go.Proofs.YtlojjlbngnaphaaGreat
open Go.RowKit Go.Sl
attribute [local irreducible] Own

theorem lastR_some : ∀ (r : List (Nat × List UInt8)) (a i : Int), lastR r a = some i → ∃ j c, i = ((j : Nat) : Int) ∧ j < r.length ∧ r.reverse[j]? = some c ∧ a = ((c.1 : Nat) : Int)
  | [], _, _, h => by cases h
  | c :: r, a, i, h => by
    unfold lastR at h
    split at h
    · rename_i e
      cases h
      exact ⟨r.length, c, rfl, by simp, by rw [List.reverse_cons, List.getElem?_append_right (by simp)]; simp, e⟩
    · obtain ⟨j, c', h1, h2, h3, h4⟩ := lastR_some r a i h
      exact ⟨j, c', h1, by simp; omega, by rw [List.reverse_cons, List.getElem?_append_left (by simpa using h2)]; exact h3, h4⟩
theorem seenOf_some {c : List (Nat × List UInt8)} {a i : Int} (h : seenOf c a = some i) : ∃ j x, i = ((j : Nat) : Int) ∧ j < c.length ∧ c[j]? = some x ∧ a = ((x.1 : Nat) : Int) := by
  obtain ⟨j, x, h1, h2, h3, h4⟩ := lastR_some _ a i h
  exact ⟨j, x, h1, by simpa using h2, by simpa using h3, h4⟩

/-- A sector, as it was written last. -/
def DiskD.look (k : DiskD) (a : Nat) : List UInt8 := match seenOf k.cache (a : Int) with
  | some i => ((k.cache[i.toNat]?).map (·.2)).getD []
  | none => (k.last[a]?).getD []
theorem DiskD.look_write (k : DiskD) (a : Nat) (b : List UInt8) (a' : Nat) : (k.write a b).look a' = if a' = a then b else k.look a' := by
  unfold DiskD.look
  have e1 : (k.write a b).cache = k.cache ++ [(a, b)] := rfl
  have e2 : (k.write a b).last = k.last := rfl
  rw [e1, e2, seenOf_snoc]
  by_cases h : a' = a
  · subst h; simp [updM]
  · rw [if_neg h]
    have h' : ¬ ((a' : Int) = ((a, b).1 : Nat)) := by simp only; omega
    unfold updM
    rw [if_neg h']
    cases hs : seenOf k.cache (a' : Int) with
    | none => rfl
    | some i =>
      obtain ⟨j, x, rfl, h2, h3, h4⟩ := seenOf_some hs
      simp only [Int.toNat_natCast]
      rw [List.getElem?_append_left h2]
theorem DiskD.look_clean {k : DiskD} (h : k.cache = []) (a : Nat) : k.look a = (k.last[a]?).getD [] := by
  unfold DiskD.look; rw [h]; rfl
theorem DiskD.look_128 {k : DiskD} (hk : k.ok) {a : Nat} (ha : a < k.last.length) : (k.look a).length = 128 := by
  unfold DiskD.look
  split
  · rename_i i h
    obtain ⟨j, x, rfl, h2, h3, h4⟩ := seenOf_some h
    rw [Int.toNat_natCast, h3]
    exact (hk.cache x (List.mem_of_getElem? h3)).2
  · rw [List.getElem?_eq_getElem ha]
    exact hk.last _ (List.getElem_mem ha)

theorem cache_part {l : List (Nat × List UInt8)} (j : Nat) (x : Nat × List UInt8) (h : l[j]? = some x) (hl : ∀ c ∈ l, c.2.length = 128) : ((l.flatMap wCells).drop (j * 129 + 1)).take 128 = bytes x.2 := by
  obtain ⟨hj, rfl⟩ := List.getElem?_eq_some_iff.1 h
  have := flat_part (g := wCells) (w := 129) l j hj (fun c h => wCells_length (hl c h))
  rw [← List.drop_drop, List.take_drop, show 1 + 128 = 129 from rfl, this]
  rfl

theorem dread_bad {W : World} {R : List SProp} (d : Nat) (k : DiskD) (at_ : Int) (h : k.may at_ ≠ 0) :
    Does1 W Tryz.prog 117 [.pointer (some ⟨d, 0, none⟩), .int .i64 at_] (DiskR d k :: R) (.tuple #[.slice none 0 0, .int .u16 (k.may at_)]) (DiskR d k :: R) := by
  (refine Does.enter Tryz.func117 Tryz.ntmps117 rfl rfl ?_)
  (refine w ?_; repeat ((first | refine VO.step rfl rfl ?_ | refine VD.end rfl rfl rfl ?_ | refine VD.mid rfl rfl rfl ?_); refine OpV.box rfl rfl rfl ?_; intro _; refine w ?_))
  (((first | refine VO.step rfl rfl ?_ | refine VD.end rfl rfl rfl ?_ | refine VD.mid rfl rfl rfl ?_); refine OpV.call rfl rfl (fun _ _ => by simp) (may_ok d k at_) Ent.re rfl ?_); intro _ _)
  (refine w ?_; repeat ((first | refine VO.step rfl rfl ?_ | refine VD.end rfl rfl rfl ?_ | refine VD.mid rfl rfl rfl ?_); refine OpV.box rfl rfl rfl ?_; intro _; refine w ?_))
  (refine VC.condTe rfl rfl (by simpa using h) ?_)
  (refine w ?_; repeat ((first | refine VO.step rfl rfl ?_ | refine VD.end rfl rfl rfl ?_ | refine VD.mid rfl rfl rfl ?_); refine OpV.box rfl rfl rfl ?_; intro _; refine w ?_))
  (refine VE.done1 rfl ?_ ?_)
  · rfl
  · exact Ent.refl

set_option maxHeartbeats 2000000 in
theorem dread_ok {W : World} {R : List SProp} (d : Nat) (k : DiskD) (a : Nat) (hf : k.failed = false) (ha : a < k.last.length) :
    Does W Tryz.prog 117 [.pointer (some ⟨d, 0, none⟩), .int .i64 a] (DiskR d k :: R) (β := Addr × Nat) (fun _ => True) (fun x => .tuple #[.slice (some x.1) 128 x.2, .int .u16 0])
      (fun x => Own 5 1 (.slice (some x.1) 128 x.2) 128 (bytes (k.look a)) :: DiskR d k :: R) := by
  have hm : k.may a = 0 := by unfold DiskD.may; rw [hf, if_neg (by simp), if_neg (by omega)]
  (refine Does.enter Tryz.func117 Tryz.ntmps117 rfl rfl ?_)
  (refine w ?_; repeat ((first | refine VO.step rfl rfl ?_ | refine VD.end rfl rfl rfl ?_ | refine VD.mid rfl rfl rfl ?_); refine OpV.box rfl rfl rfl ?_; intro _; refine w ?_))
  (((first | refine VO.step rfl rfl ?_ | refine VD.end rfl rfl rfl ?_ | refine VD.mid rfl rfl rfl ?_); refine OpV.call rfl rfl (fun _ _ => by simp) (may_ok d k a) Ent.re rfl ?_); intro _ _)
  (refine w ?_; repeat ((first | refine VO.step rfl rfl ?_ | refine VD.end rfl rfl rfl ?_ | refine VD.mid rfl rfl rfl ?_); refine OpV.box rfl rfl rfl ?_; intro _; refine w ?_))
  (refine VC.condFe rfl rfl (by simp [hm]) ?_)
  (refine w ?_; repeat ((first | refine VO.step rfl rfl ?_ | refine VD.end rfl rfl rfl ?_ | refine VD.mid rfl rfl rfl ?_); refine OpV.box rfl rfl rfl ?_; intro _; refine w ?_))
  refine VO.obtain (fun w => DiskR.open) ?_
  rintro ⟨⟨⟨lo, lc⟩, ⟨co, cc⟩, m⟩, hk⟩
  dsimp only [DiskO]
  refine VO.know (fun w hw => hw.ownNone (by (focus repeat first | exact .head _ | apply List.Mem.tail)) : ∀ w, _ → (co = none → k.cache.length = 0)) ?_
  intro hcn
  refine VO.know (fun w hw => hw.ownNone (by (focus repeat first | exact .head _ | apply List.Mem.tail)) : ∀ w, _ → (lo = none → k.last.length = 0)) ?_
  intro hln
  obtain ⟨b, rfl⟩ : ∃ b, lo = some b := by cases lo with | none => have := hln rfl; omega | some b => exact ⟨b, rfl⟩
  have h8 : ∀ x ∈ k.last, (bytes x).length = 128 := fun x h => by simp [hk.last x h]
  have hla : k.last[a].length = 128 := hk.last _ (List.getElem_mem ha)
  (refine w ?_; repeat ((first | refine VO.step rfl rfl ?_ | refine VD.end rfl rfl rfl ?_ | refine VD.mid rfl rfl rfl ?_); refine OpV.box rfl rfl rfl ?_; intro _; refine w ?_))
  (first | refine VO.pure rfl rfl (.ldRA tab_ok rfl rfl (Rds.own (lasts_one _) (by (focus repeat first | exact .head _ | apply List.Mem.tail)) (flat_length _ h8) hln) (flat_part (g := bytes) k.last a ha h8) (by simp [hla])) rfl ?_ | refine VD.take rfl rfl rfl (.ldRA tab_ok rfl rfl (Rds.own (lasts_one _) (by (focus repeat first | exact .head _ | apply List.Mem.tail)) (flat_length _ h8) hln) (flat_part (g := bytes) k.last a ha h8) (by simp [hla])) rfl ?_ | refine VQ.pure rfl rfl (.ldRA tab_ok rfl rfl (Rds.own (lasts_one _) (by (focus repeat first | exact .head _ | apply List.Mem.tail)) (flat_length _ h8) hln) (flat_part (g := bytes) k.last a ha h8) (by simp [hla])) rfl ?_ | refine VD.end rfl rfl rfl (OpV.pure (.ldRA tab_ok rfl rfl (Rds.own (lasts_one _) (by (focus repeat first | exact .head _ | apply List.Mem.tail)) (flat_length _ h8) hln) (flat_part (g := bytes) k.last a ha h8) (by simp [hla])) rfl ?_))
  (first | refine VO.step rfl rfl ?_ | refine VD.end rfl rfl rfl ?_ | refine VD.mid rfl rfl rfl ?_)
  refine OpV.allocE st_sectors (cs := List.replicate 128 zb) rfl rfl ?_
  intro na
  (first | refine VO.step rfl rfl ?_ | refine VD.end rfl rfl rfl ?_ | refine VD.mid rfl rfl rfl ?_)
  refine OpV.stA (vs := bytes k.last[a]) tab_ok rfl rfl rfl (by simp [hla]) (bytes_one _) (by (repeat first | exact .head | apply Hole.tail)) (by rw [List.length_replicate]; decide) ?_
  rw [store_all _ _ 128 (by rw [List.length_replicate])]
  (refine w ?_; repeat ((first | refine VO.step rfl rfl ?_ | refine VD.end rfl rfl rfl ?_ | refine VD.mid rfl rfl rfl ?_); refine OpV.box rfl rfl rfl ?_; intro _; refine w ?_))
  (first | refine VO.pure rfl rfl (PureAt.lookup Tryz.underlying224 Tryz.underlying3 (fun w => by simp) rfl rfl (by (focus repeat first | exact .head _ | apply List.Mem.tail))) rfl ?_ | refine VD.take rfl rfl rfl (PureAt.lookup Tryz.underlying224 Tryz.underlying3 (fun w => by simp) rfl rfl (by (focus repeat first | exact .head _ | apply List.Mem.tail))) rfl ?_ | refine VQ.pure rfl rfl (PureAt.lookup Tryz.underlying224 Tryz.underlying3 (fun w => by simp) rfl rfl (by (focus repeat first | exact .head _ | apply List.Mem.tail))) rfl ?_ | refine VD.end rfl rfl rfl (OpV.pure (PureAt.lookup Tryz.underlying224 Tryz.underlying3 (fun w => by simp) rfl rfl (by (focus repeat first | exact .head _ | apply List.Mem.tail))) rfl ?_))
  (refine w ?_; repeat ((first | refine VO.step rfl rfl ?_ | refine VD.end rfl rfl rfl ?_ | refine VD.mid rfl rfl rfl ?_); refine OpV.box rfl rfl rfl ?_; intro _; refine w ?_))
  (first | refine VO.join (α := Nat) (fun _ => True) (fun _ => Row na 237 (bytes (k.look a)) :: DiskO d k ((some b, lc), (co, cc), m) R) (fun _ => [(7, .pointer (some ⟨na, 0, none⟩))]) ?_ ?_ | refine VC.joinTB (α := Nat) (fun _ => True) (fun _ => Row na 237 (bytes (k.look a)) :: DiskO d k ((some b, lc), (co, cc), m) R) (fun _ => [(7, .pointer (some ⟨na, 0, none⟩))]) ?_ ?_ | refine VC.joinB (α := Nat) (fun _ => True) (fun _ => Row na 237 (bytes (k.look a)) :: DiskO d k ((some b, lc), (co, cc), m) R) (fun _ => [(7, .pointer (some ⟨na, 0, none⟩))]) ?_ ?_ | refine VC.join (α := Nat) (fun _ => True) (fun _ => Row na 237 (bytes (k.look a)) :: DiskO d k ((some b, lc), (co, cc), m) R) (fun _ => [(7, .pointer (some ⟨na, 0, none⟩))]) ?_ ?_)
  · intro Q2 jn
    cases hs : seenOf k.cache (a : Int) with
    | none =>
      (refine VC.condFe rfl rfl (rfl) ?_)
      have hlk : k.look a = k.last[a] := by unfold DiskD.look; rw [hs, List.getElem?_eq_getElem ha]; rfl
      rw [hlk] at jn
      (refine w ?_; repeat ((first | refine VO.step rfl rfl ?_ | refine VD.end rfl rfl rfl ?_ | refine VD.mid rfl rfl rfl ?_); refine OpV.box rfl rfl rfl ?_; intro _; refine w ?_))
      (refine jn.to 0 trivial ⟨rfl, trivial⟩ ?_; (try dsimp only); exact Ent.re)
    | some i =>
      obtain ⟨j, x, rfl, hj, hx, hax⟩ := seenOf_some hs
      obtain ⟨c, rfl⟩ : ∃ c, co = some c := by cases co with | none => have := hcn rfl; omega | some c => exact ⟨c, rfl⟩
      have hx2 : x.2.length = 128 := (hk.cache x (List.mem_of_getElem? hx)).2
      have hlk : k.look a = x.2 := by unfold DiskD.look; rw [hs]; simp [hx]
      rw [hlk] at jn
      (refine VC.condTe rfl rfl (rfl) ?_)
      (refine w ?_; repeat ((first | refine VO.step rfl rfl ?_ | refine VD.end rfl rfl rfl ?_ | refine VD.mid rfl rfl rfl ?_); refine OpV.box rfl rfl rfl ?_; intro _; refine w ?_))
      (first | refine VO.pure rfl rfl (.ldRA tab_ok rfl rfl (Rds.own (caches_one _) (by (focus repeat first | exact .head _ | apply List.Mem.tail)) (flat_length _ (fun c h => wCells_length (hk.cache c h).2)) hcn) (cache_part j x hx (fun c h => (hk.cache c h).2)) (by simp [hx2])) rfl ?_ | refine VD.take rfl rfl rfl (.ldRA tab_ok rfl rfl (Rds.own (caches_one _) (by (focus repeat first | exact .head _ | apply List.Mem.tail)) (flat_length _ (fun c h => wCells_length (hk.cache c h).2)) hcn) (cache_part j x hx (fun c h => (hk.cache c h).2)) (by simp [hx2])) rfl ?_ | refine VQ.pure rfl rfl (.ldRA tab_ok rfl rfl (Rds.own (caches_one _) (by (focus repeat first | exact .head _ | apply List.Mem.tail)) (flat_length _ (fun c h => wCells_length (hk.cache c h).2)) hcn) (cache_part j x hx (fun c h => (hk.cache c h).2)) (by simp [hx2])) rfl ?_ | refine VD.end rfl rfl rfl (OpV.pure (.ldRA tab_ok rfl rfl (Rds.own (caches_one _) (by (focus repeat first | exact .head _ | apply List.Mem.tail)) (flat_length _ (fun c h => wCells_length (hk.cache c h).2)) hcn) (cache_part j x hx (fun c h => (hk.cache c h).2)) (by simp [hx2])) rfl ?_))
      (first | refine VO.step rfl rfl ?_ | refine VD.end rfl rfl rfl ?_ | refine VD.mid rfl rfl rfl ?_)
      refine OpV.stA (vs := bytes x.2) tab_ok rfl rfl rfl (by simp [hx2]) (bytes_one _) (by (repeat first | exact .head | apply Hole.tail)) (by simp [hla]) ?_
      rw [store_all _ _ 128 (by simp [hla])]
      (refine w ?_; repeat ((first | refine VO.step rfl rfl ?_ | refine VD.end rfl rfl rfl ?_ | refine VD.mid rfl rfl rfl ?_); refine OpV.box rfl rfl rfl ?_; intro _; refine w ?_))
      (refine jn.to 0 trivial ⟨rfl, trivial⟩ ?_; (try dsimp only); exact Ent.re)
  · intro _ _
    have hl8 := DiskD.look_128 hk ha
    (refine w ?_; repeat ((first | refine VO.step rfl rfl ?_ | refine VD.end rfl rfl rfl ?_ | refine VD.mid rfl rfl rfl ?_); refine OpV.box rfl rfl rfl ?_; intro _; refine w ?_))
    (first | refine VO.pure rfl rfl (PureAt.sliceArr (sz := 1) Tryz.underlying237 (by decide) (fun w => by simp) rfl) rfl ?_ | refine VD.take rfl rfl rfl (PureAt.sliceArr (sz := 1) Tryz.underlying237 (by decide) (fun w => by simp) rfl) rfl ?_ | refine VQ.pure rfl rfl (PureAt.sliceArr (sz := 1) Tryz.underlying237 (by decide) (fun w => by simp) rfl) rfl ?_ | refine VD.end rfl rfl rfl (OpV.pure (PureAt.sliceArr (sz := 1) Tryz.underlying237 (by decide) (fun w => by simp) rfl) rfl ?_))
    refine VO.re 41 (.slice (some ⟨na, 0, none⟩) 128 128) rfl (by rw [Addr_add_zero]) ?_
    refine VO.ent (fun w hw => DiskR.shut hk w (hw.reord (L := DiskO d k ((some b, lc), (co, cc), m) (Row na 237 (bytes (k.look a)) :: R)) (by (repeat first | exact .refl | (apply Reord.cons; focus repeat first | exact .head | apply Del.tail) | exact .nil | apply Reord.drop)))) ?_
    ((first | refine VO.step rfl rfl ?_ | refine VD.end rfl rfl rfl ?_ | refine VD.mid rfl rfl rfl ?_); refine OpV.call rfl rfl (fun _ _ => by simp) (clone_ok (Rds.row (H := DiskR d k :: Row na 237 (bytes (k.look a)) :: R) (bytes_one _) (.tail _ (.head _)) (by simp [hl8])) (by decide)) Ent.re rfl ?_)
    rintro ⟨ao', cap'⟩ -
    refine VO.know (fun w hw => hw.ownNone (by (focus repeat first | exact .head _ | apply List.Mem.tail)) : ∀ w, _ → (ao' = none → 128 = 0)) ?_
    intro hn
    obtain ⟨a', rfl⟩ : ∃ a', ao' = some a' := by cases ao' with | none => have := hn rfl; omega | some a' => exact ⟨a', rfl⟩
    (refine w ?_; repeat ((first | refine VO.step rfl rfl ?_ | refine VD.end rfl rfl rfl ?_ | refine VD.mid rfl rfl rfl ?_); refine OpV.box rfl rfl rfl ?_; intro _; refine w ?_))
    exact VE.done (a', cap') rfl trivial rfl Ent.re

/-! ### Image, Pending -/

theorem Rds.part {W : World} {H : List SProp} {sz m j : Nat} {a : Addr} {xs : List Value} (r : Rds W H sz (some a) m xs) (hj : j < m) : Rds W H 1 (some (a.add (j * sz))) sz ((xs.drop (j * sz)).take sz) := by
  have hl := r.len
  have : j * sz + sz ≤ m * sz := by rw [← Nat.succ_mul]; exact Nat.mul_le_mul_right _ hj
  refine ⟨by rw [List.length_take, List.length_drop]; omega, fun u hu => r.one u (List.mem_of_mem_drop (List.mem_of_mem_take hu)), fun h => (by cases h), fun w hw a' ha i v hv => ?_⟩
  cases ha
  rw [Addr_add_add]
  refine r.cell w hw a rfl _ _ ?_
  rw [List.getElem?_take] at hv
  split at hv
  · rw [List.getElem?_drop] at hv; exact hv
  · cases hv
def ints (l : List Nat) : List Value := l.map fun (n : Nat) => Value.int .i64 (n : Int)
@[simp] theorem ints_length (l : List Nat) : (ints l).length = l.length := by simp [ints]

end Go.Proofs.YtlojjlbngnaphaaGreat

/-! Text Lo. -/
/- Package disk: Load. -/
set_option maxRecDepth 8000
set_option linter.unusedVariables false
set_option linter.unusedSimpArgs false
set_option linter.unusedSectionVars false
namespace Go.Proofs.YtlojjlbngnaphaaGreat
open Go.RowKit Go.Sl
attribute [local irreducible] Own

/-- Bytes, in sectors. -/
def chunks (l : List UInt8) (n : Nat) : List (List UInt8) := (List.range n).map fun i => (l.drop (i * 128)).take 128
/-- The first so many sectors laid in, noughts behind. -/
def laid (l : List UInt8) (n i : Nat) : List (List UInt8) := chunks l i ++ List.replicate (n - i) zeroSec
end Go.Proofs.YtlojjlbngnaphaaGreat

/-! Text Ba. -/
/- Package bay: a disk's calls in one form, a bay's memory. -/
set_option maxRecDepth 8000
set_option linter.unusedVariables false
set_option linter.unusedSimpArgs false
set_option linter.unusedSectionVars false
namespace Go.Proofs.YtlojjlbngnaphaaGreat
open Go.RowKit Go.Sl
attribute [local irreducible] Own

/-! ### A disk's calls, each in one form -/

def DiskD.rd (k : DiskD) (a : Int) : List UInt8 × Int := if k.may a = 0 then (k.look a.toNat, 0) else ([], k.may a)
def DiskD.wr (k : DiskD) (a : Int) (b : List UInt8) : Int × DiskD := if k.may a ≠ 0 then (k.may a, k) else if b.length ≠ 128 then (4, k) else (0, k.write a.toNat b)
def DiskD.fl (k : DiskD) : Int × DiskD := if k.failed then (2, k) else (0, k.settle fun _ => true)
def DiskD.fail (k : DiskD) : DiskD := (DiskD.mk k.last k.cache true).settle fun _ => false
def DiskD.img (k : DiskD) : List UInt8 := if k.failed then [] else k.last.flatten
def DiskD.blank (n : Nat) : DiskD := ⟨List.replicate n zeroSec, [], false⟩

abbrev sliceB (x : Option Addr × Nat) (l : List UInt8) : Value := .slice x.1 l.length x.2

theorem drd_ok {W : World} {R : List SProp} (d : Nat) (k : DiskD) (a : Int) :
    Does W Tryz.prog 117 [.pointer (some ⟨d, 0, none⟩), .int .i64 a] (DiskR d k :: R) (β := Option Addr × Nat) (fun x => x.1 = none → (k.rd a).1.length = 0) (fun x => .tuple #[sliceB x (k.rd a).1, .int .u16 (k.rd a).2]) (fun x => OwnB x (k.rd a).1 :: DiskR d k :: R) := by
  by_cases h : k.may a = 0
  · obtain ⟨hf, h0, h1⟩ := may_zero h
    obtain ⟨n, rfl⟩ := Int.eq_ofNat_of_zero_le h0
    have hn : n < k.last.length := by omega
    have e : k.rd (n : Int) = (k.look n, 0) := by unfold DiskD.rd; rw [if_pos h]; rfl
    rw [e]
    refine DoesK (fun w => DiskR.know) fun hk => ?_
    have hl := DiskD.look_128 hk hn
    refine Does.mono (dread_ok d k n hf hn) (fun x => (some x.1, x.2)) (fun _ _ h => by cases h) (fun x _ => by simp only [sliceB, hl]) fun x _ => ?_
    simp only [OwnB, hl]; exact Ent.refl
  · have e : k.rd a = ([], k.may a) := by unfold DiskD.rd; rw [if_neg h]
    rw [e]
    exact Does1M (dread_bad d k a h) (none, 0) (fun _ => rfl) rfl fun w hw => hw.ownNil 5 1
theorem dwr_ok {W : World} {R : List SProp} {ao : Option Addr} {cap : Nat} {b : List UInt8} (d : Nat) (k : DiskD) (a : Int) (hc : k.cache.length ≤ 1000000000) (hr : Rds W R 1 ao b.length (bytes b)) :
    Does1 W Tryz.prog 198 [.pointer (some ⟨d, 0, none⟩), .int .i64 a, .slice ao b.length cap] (DiskR d k :: R) (.int .u16 (k.wr a b).1) (DiskR d (k.wr a b).2 :: R) := by
  unfold DiskD.wr
  by_cases h : k.may a = 0
  · rw [if_neg (by simpa using h)]
    by_cases hb : b.length = 128
    · rw [if_neg (by simpa using hb)]
      obtain ⟨hf, h0, h1⟩ := may_zero h
      obtain ⟨n, rfl⟩ := Int.eq_ofNat_of_zero_le h0
      rw [hb] at hr ⊢
      exact write_ok d k n (by omega) hf hb hc hr
    · rw [if_pos hb]; exact write_len d k a h hb
  · rw [if_pos h]; exact write_bad d k a h
theorem dfl_ok {W : World} {R : List SProp} (d : Nat) (k : DiskD) :
    Does1 W Tryz.prog 191 [.pointer (some ⟨d, 0, none⟩)] (DiskR d k :: R) (.int .u16 k.fl.1) (DiskR d k.fl.2 :: R) := by
  unfold DiskD.fl
  cases h : k.failed
  · exact flush_ok d k h
  · exact flush_bad d k h
end Go.Proofs.YtlojjlbngnaphaaGreat

/-! Text Bb. -/
/- Package bay: a bay's memory; slots, what stands in them. -/
set_option maxRecDepth 8000
set_option linter.unusedVariables false
set_option linter.unusedSimpArgs false
set_option linter.unusedSectionVars false
namespace Go.Proofs.YtlojjlbngnaphaaGreat
open Go.RowKit Go.Sl
attribute [local irreducible] Own

/-! ### What a bay is -/

structure DevD where
  k : DiskD
  worn : Bool
  left : Int
structure SlotD where
  in_ : Option DevD
  aside : Option DevD
  coming : Option DevD
structure CntD where
  r : Int
  w : Int
  f : Int
structure BayD where
  slots : List SlotD
  dark : Bool
  trip : Int
  n : CntD

/-! ### A bay's memory -/

structure DevP where
  r : Nat
  d : Nat
  v : DevD
structure SlotP where
  in_ : Option DevP
  aside : Option DevP
  coming : Option DevP
def SlotP.D (s : SlotP) : SlotD := ⟨s.in_.map DevP.v, s.aside.map DevP.v, s.coming.map DevP.v⟩
abbrev devPtr (p : Option DevP) : Value := .pointer (p.map fun x => ⟨x.r, 0, none⟩)
def slotCells (s : SlotP) : List Value := [devPtr s.in_, devPtr s.aside, devPtr s.coming]
theorem slotCells_length (s : SlotP) : (slotCells s).length = 3 := rfl
theorem slotCells_one (l : List SlotP) : ∀ u ∈ l.flatMap slotCells, u.oneCell' = true := by
  intro u hu
  obtain ⟨s, _, h⟩ := List.mem_flatMap.1 hu
  simp only [slotCells, List.mem_cons, List.not_mem_nil, or_false] at h
  rcases h with h | h | h <;> subst h <;> rfl
abbrev devRow (p : DevP) : SProp := Row p.r 134 [.pointer (some ⟨p.d, 0, none⟩), .bool p.v.worn, .int .i64 p.v.left]
def devRes : Option DevP → SProp
  | none => fact True
  | some p => Sl.star [devRow p, DiskR p.d p.v.k]
def slotRes (s : SlotP) : SProp := Sl.star [devRes s.in_, devRes s.aside, devRes s.coming]
abbrev bayRow (b : Nat) (D : BayD) (a : Addr) (n : Nat) : SProp := Row b 126 [.slice (some a) n n, .bool D.dark, .int .i64 D.trip, .int .i64 D.n.r, .int .i64 D.n.w, .int .i64 D.n.f]
abbrev slotsOwn (a : Addr) (sp : List SlotP) : SProp := Own 130 3 (.slice (some a) sp.length sp.length) sp.length (sp.flatMap slotCells)
abbrev BayO (b : Nat) (D : BayD) (a : Addr) (sp : List SlotP) (R : List SProp) : List SProp := bayRow b D a sp.length :: slotsOwn a sp :: (sp.map slotRes ++ R)
def BayR (b : Nat) (D : BayD) : SProp := ex fun x : Addr × List SlotP => Sl.star (fact (D.slots = x.2.map SlotP.D ∧ x.2.length ≤ 17) :: BayO b D x.1 x.2 [])
theorem BayR.open {W w : World} {b : Nat} {D : BayD} {R : List SProp} (hw : Holds W (BayR b D :: R) w) : ∃ x : { x : Addr × List SlotP // D.slots = x.2.map SlotP.D ∧ x.2.length ≤ 17 }, Holds W (BayO b D x.1.1 x.1.2 R) w := by
  obtain ⟨x, h⟩ := hw.exOpen
  have h := h.join
  refine ⟨⟨x, h.factOpen⟩, ?_⟩
  have h := h.tail
  have e : BayO b D x.1 x.2 [] ++ R = BayO b D x.1 x.2 R := by simp only [BayO, List.cons_append, List.append_assoc, List.nil_append]
  rw [← e]; exact h
theorem BayR.shut {W : World} {b : Nat} {D : BayD} {R : List SProp} {a : Addr} {sp : List SlotP} (h1 : D.slots = sp.map SlotP.D) (h2 : sp.length ≤ 17) : Ent W (BayO b D a sp R) (BayR b D :: R) := fun w hw =>
  Holds.exShut (a, sp) (Holds.nest (L := fact _ :: BayO b D a sp []) (by
    have h : Holds W (fact (D.slots = sp.map SlotP.D ∧ sp.length ≤ 17) :: BayO b D a sp R) w := hw.factShut ⟨h1, h2⟩
    simpa only [BayO, List.cons_append, List.append_assoc, List.nil_append] using h))
theorem BayR.know {W w : World} {b : Nat} {D : BayD} {R : List SProp} (hw : Holds W (BayR b D :: R) w) : D.slots.length ≤ 17 := by
  obtain ⟨⟨x, h1, h2⟩, _⟩ := BayR.open hw
  rw [h1, List.length_map]; exact h2

/-- One slot's resources to the front, and back. -/
theorem slotOut {W : World} (l1 l2 : List SlotP) (s : SlotP) (R : List SProp) : Ent W ((l1 ++ s :: l2).map slotRes ++ R) (devRes s.in_ :: devRes s.aside :: devRes s.coming :: ((l1 ++ l2).map slotRes ++ R)) := fun w hw => by
  have p : ((l1 ++ s :: l2).map slotRes ++ R).Perm (slotRes s :: ((l1 ++ l2).map slotRes ++ R)) := by
    simp only [List.map_append, List.map_cons, List.append_assoc, List.cons_append]
    exact List.perm_middle
  exact (hw.perm p).join
theorem slotIn {W : World} (l1 l2 : List SlotP) (s : SlotP) (R : List SProp) : Ent W (devRes s.in_ :: devRes s.aside :: devRes s.coming :: ((l1 ++ l2).map slotRes ++ R)) ((l1 ++ s :: l2).map slotRes ++ R) := fun w hw => by
  have p : (slotRes s :: ((l1 ++ l2).map slotRes ++ R)).Perm ((l1 ++ s :: l2).map slotRes ++ R) := by
    simp only [List.map_append, List.map_cons, List.append_assoc, List.cons_append]
    exact List.perm_middle.symm
  exact (Holds.nest (L := [_, _, _]) hw).perm p
theorem devOut {W : World} (p : DevP) (R : List SProp) : Ent W (devRes (some p) :: R) (devRow p :: DiskR p.d p.v.k :: R) := fun w hw => Holds.join (L := [_, _]) hw
theorem devIn {W : World} (p : DevP) (R : List SProp) : Ent W (devRow p :: DiskR p.d p.v.k :: R) (devRes (some p) :: R) := fun w hw => Holds.nest (L := [_, _]) hw
theorem devNone {W : World} (R : List SProp) : Ent W R (devRes none :: R) := fun w hw => hw.factShut trivial
theorem devDrop {W : World} (p : Option DevP) (R : List SProp) : Ent W (devRes p :: R) R := fun w hw => hw.tail

/-! ### Where a slot lies, what is in it -/

def inRange (n : Nat) (k : Int) : Bool := decide (0 ≤ k ∧ k < (n : Int))
def slotAt (a : Addr) (n : Nat) (k : Int) : Option Addr := if inRange n k then some (a.add (k.toNat * 3)) else none
def inP (sp : List SlotP) (k : Int) : Option DevP := if 0 ≤ k then (sp[k.toNat]?).bind SlotP.in_ else none
def BayD.dev (D : BayD) (k : Int) : Option DevD := if 0 ≤ k then (D.slots[k.toNat]?).bind SlotD.in_ else none
theorem inP_D {D : BayD} {sp : List SlotP} (h : D.slots = sp.map SlotP.D) (k : Int) : D.dev k = (inP sp k).map DevP.v := by
  unfold BayD.dev inP
  split
  · rw [h, List.getElem?_map]
    cases sp[k.toNat]? with
    | none => rfl
    | some s => rfl
  · rfl
theorem inP_range {sp : List SlotP} {k : Int} (h : inRange sp.length k = false) : inP sp k = none := by
  unfold inRange at h
  have h := of_decide_eq_false h
  unfold inP
  split
  · rw [List.getElem?_eq_none (by omega)]; rfl
  · rfl

theorem bayat_ok {W : World} {R : List SProp} {D : BayD} {a : Addr} {n : Nat} (b : Nat) (k : Int) (hn : n ≤ 17) :
    Does1 W Tryz.prog 144 [.pointer (some ⟨b, 0, none⟩), .int .i64 k] (bayRow b D a n :: R) (.pointer (slotAt a n k)) (bayRow b D a n :: R) := by
  (refine Does.enter Tryz.func144 Tryz.ntmps144 rfl rfl ?_)
  (refine w ?_; repeat ((first | refine VO.step rfl rfl ?_ | refine VD.end rfl rfl rfl ?_ | refine VD.mid rfl rfl rfl ?_); refine OpV.box rfl rfl rfl ?_; intro _; refine w ?_))
  ((first | refine VO.split rfl rfl rfl ?_ ?_ | refine VD.split rfl rfl rfl ?_ ?_) <;> intro hb)
  · have h : k < 0 := of_decide_eq_true hb
    (refine w ?_; repeat ((first | refine VO.step rfl rfl ?_ | refine VD.end rfl rfl rfl ?_ | refine VD.mid rfl rfl rfl ?_); refine OpV.box rfl rfl rfl ?_; intro _; refine w ?_))
    (refine VE.done1 rfl ?_ ?_)
    · unfold slotAt inRange; rw [if_neg (by simp; omega)]
    · exact Ent.refl
  have h0 : ¬ k < 0 := of_decide_eq_false hb
  (refine w ?_; repeat ((first | refine VO.step rfl rfl ?_ | refine VD.end rfl rfl rfl ?_ | refine VD.mid rfl rfl rfl ?_); refine OpV.box rfl rfl rfl ?_; intro _; refine w ?_))
  (refine VC.cond rfl rfl ?_ ?_ <;> intro hc)
  · have h : (n : Int) ≤ k := by simpa using hc
    (refine w ?_; repeat ((first | refine VO.step rfl rfl ?_ | refine VD.end rfl rfl rfl ?_ | refine VD.mid rfl rfl rfl ?_); refine OpV.box rfl rfl rfl ?_; intro _; refine w ?_))
    (refine VE.done1 rfl ?_ ?_)
    · unfold slotAt inRange; rw [if_neg (by simp; omega)]
    · exact Ent.refl
  have h1 : ¬ (n : Int) ≤ k := by simpa using hc
  obtain ⟨i, rfl⟩ := Int.eq_ofNat_of_zero_le (show 0 ≤ k by omega)
  (refine w ?_; repeat ((first | refine VO.step rfl rfl ?_ | refine VD.end rfl rfl rfl ?_ | refine VD.mid rfl rfl rfl ?_); refine OpV.box rfl rfl rfl ?_; intro _; refine w ?_))
  (refine VE.done1 rfl ?_ ?_)
  · unfold slotAt inRange; rw [if_pos (by simp; omega)]; rfl
  · exact Ent.refl

theorem slots_rds {W : World} {H : List SProp} {a : Addr} {sp : List SlotP} (m : slotsOwn a sp ∈ H) : Rds W H 3 (some a) sp.length (sp.flatMap slotCells) :=
  Rds.own (slotCells_one _) m (flat_length _ fun _ _ => rfl) (fun h => by cases h)
theorem slots_get (sp : List SlotP) (i j : Nat) (h : i < sp.length) (hj : j < 3) : (sp.flatMap slotCells)[i * 3 + j]? = (slotCells sp[i])[j]? := by
  rw [← flat_part (g := slotCells) (w := 3) sp i h (fun _ _ => rfl), List.getElem?_take, if_pos hj, List.getElem?_drop]

theorem inP_at {sp : List SlotP} {i : Nat} (h : i < sp.length) : inP sp (i : Int) = sp[i].in_ := by
  unfold inP
  rw [if_pos (by omega), Int.toNat_natCast, List.getElem?_eq_getElem h]; rfl
theorem bayin_ok {W : World} {R : List SProp} {D : BayD} {a : Addr} {sp : List SlotP} (b : Nat) (k : Int) (hn : sp.length ≤ 17) :
    Does1 W Tryz.prog 143 [.pointer (some ⟨b, 0, none⟩), .int .i64 k] (bayRow b D a sp.length :: slotsOwn a sp :: R) (devPtr (inP sp k)) (bayRow b D a sp.length :: slotsOwn a sp :: R) := by
  (refine Does.enter Tryz.func143 Tryz.ntmps143 rfl rfl ?_)
  (refine w ?_; repeat ((first | refine VO.step rfl rfl ?_ | refine VD.end rfl rfl rfl ?_ | refine VD.mid rfl rfl rfl ?_); refine OpV.box rfl rfl rfl ?_; intro _; refine w ?_))
  (((first | refine VO.step rfl rfl ?_ | refine VD.end rfl rfl rfl ?_ | refine VD.mid rfl rfl rfl ?_); refine OpV.call rfl rfl (fun _ _ => by simp) (bayat_ok (D := D) (a := a) (n := sp.length) b k hn) Ent.re rfl ?_); intro _ _)
  (refine w ?_; repeat ((first | refine VO.step rfl rfl ?_ | refine VD.end rfl rfl rfl ?_ | refine VD.mid rfl rfl rfl ?_); refine OpV.box rfl rfl rfl ?_; intro _; refine w ?_))
  unfold slotAt
  cases hr : inRange sp.length k
  · (refine w ?_; repeat ((first | refine VO.step rfl rfl ?_ | refine VD.end rfl rfl rfl ?_ | refine VD.mid rfl rfl rfl ?_); refine OpV.box rfl rfl rfl ?_; intro _; refine w ?_))
    (refine VE.done1 rfl ?_ ?_)
    · rw [inP_range hr]; rfl
    · exact Ent.refl
  · obtain ⟨h0, h1⟩ : 0 ≤ k ∧ k < (sp.length : Int) := of_decide_eq_true hr
    obtain ⟨i, rfl⟩ := Int.eq_ofNat_of_zero_le h0
    have hi : i < sp.length := by omega
    (refine w ?_; repeat ((first | refine VO.step rfl rfl ?_ | refine VD.end rfl rfl rfl ?_ | refine VD.mid rfl rfl rfl ?_); refine OpV.box rfl rfl rfl ?_; intro _; refine w ?_))
    (first | refine VO.pure rfl rfl (.ldRc tab_ok rfl rfl (slots_rds (by (focus repeat first | exact .head _ | apply List.Mem.tail))) ((slots_get sp i 0 hi (by decide)).trans rfl)) rfl ?_ | refine VD.take rfl rfl rfl (.ldRc tab_ok rfl rfl (slots_rds (by (focus repeat first | exact .head _ | apply List.Mem.tail))) ((slots_get sp i 0 hi (by decide)).trans rfl)) rfl ?_ | refine VQ.pure rfl rfl (.ldRc tab_ok rfl rfl (slots_rds (by (focus repeat first | exact .head _ | apply List.Mem.tail))) ((slots_get sp i 0 hi (by decide)).trans rfl)) rfl ?_ | refine VD.end rfl rfl rfl (OpV.pure (.ldRc tab_ok rfl rfl (slots_rds (by (focus repeat first | exact .head _ | apply List.Mem.tail))) ((slots_get sp i 0 hi (by decide)).trans rfl)) rfl ?_))
    (refine w ?_; repeat ((first | refine VO.step rfl rfl ?_ | refine VD.end rfl rfl rfl ?_ | refine VD.mid rfl rfl rfl ?_); refine OpV.box rfl rfl rfl ?_; intro _; refine w ?_))
    (refine VE.done1 rfl ?_ ?_)
    · rw [inP_at hi]
    · exact Ent.refl

def thereE (n : Nat) (p : Bool) (k : Int) : Int := if inRange n k then (if p then 0 else 51) else 1
theorem baythere_ok {W : World} {R : List SProp} {D : BayD} {a : Addr} {sp : List SlotP} (b : Nat) (k : Int) (hn : sp.length ≤ 17) :
    Does1 W Tryz.prog 67 [.pointer (some ⟨b, 0, none⟩), .int .i64 k] (bayRow b D a sp.length :: slotsOwn a sp :: R) (.tuple #[devPtr (inP sp k), .int .u16 (thereE sp.length (inP sp k).isSome k)]) (bayRow b D a sp.length :: slotsOwn a sp :: R) := by
  (refine Does.enter Tryz.func67 Tryz.ntmps67 rfl rfl ?_)
  (refine w ?_; repeat ((first | refine VO.step rfl rfl ?_ | refine VD.end rfl rfl rfl ?_ | refine VD.mid rfl rfl rfl ?_); refine OpV.box rfl rfl rfl ?_; intro _; refine w ?_))
  (((first | refine VO.step rfl rfl ?_ | refine VD.end rfl rfl rfl ?_ | refine VD.mid rfl rfl rfl ?_); refine OpV.call rfl rfl (fun _ _ => by simp) (bayin_ok (D := D) (a := a) (sp := sp) b k hn) Ent.re rfl ?_); intro _ _)
  (refine w ?_; repeat ((first | refine VO.step rfl rfl ?_ | refine VD.end rfl rfl rfl ?_ | refine VD.mid rfl rfl rfl ?_); refine OpV.box rfl rfl rfl ?_; intro _; refine w ?_))
  (((first | refine VO.step rfl rfl ?_ | refine VD.end rfl rfl rfl ?_ | refine VD.mid rfl rfl rfl ?_); refine OpV.call rfl rfl (fun _ _ => by simp) (bayat_ok (D := D) (a := a) (n := sp.length) b k hn) Ent.re rfl ?_); intro _ _)
  (refine w ?_; repeat ((first | refine VO.step rfl rfl ?_ | refine VD.end rfl rfl rfl ?_ | refine VD.mid rfl rfl rfl ?_); refine OpV.box rfl rfl rfl ?_; intro _; refine w ?_))
  unfold slotAt thereE
  cases hr : inRange sp.length k
  · (refine w ?_; repeat ((first | refine VO.step rfl rfl ?_ | refine VD.end rfl rfl rfl ?_ | refine VD.mid rfl rfl rfl ?_); refine OpV.box rfl rfl rfl ?_; intro _; refine w ?_))
    (refine VE.done1 rfl ?_ ?_)
    · rw [inP_range hr]; rfl
    · exact Ent.refl
  · (refine w ?_; repeat ((first | refine VO.step rfl rfl ?_ | refine VD.end rfl rfl rfl ?_ | refine VD.mid rfl rfl rfl ?_); refine OpV.box rfl rfl rfl ?_; intro _; refine w ?_))
    cases hp : inP sp k
    · (refine w ?_; repeat ((first | refine VO.step rfl rfl ?_ | refine VD.end rfl rfl rfl ?_ | refine VD.mid rfl rfl rfl ?_); refine OpV.box rfl rfl rfl ?_; intro _; refine w ?_))
      (refine VE.done1 rfl ?_ ?_)
      · rfl
      · exact Ent.refl
    · (refine w ?_; repeat ((first | refine VO.step rfl rfl ?_ | refine VD.end rfl rfl rfl ?_ | refine VD.mid rfl rfl rfl ?_); refine OpV.box rfl rfl rfl ?_; intro _; refine w ?_))
      (refine VE.done1 rfl ?_ ?_)
      · rfl
      · exact Ent.refl

/-! ### The disk in a slot, taken out and put back -/

theorem inP_split {sp : List SlotP} {k : Int} {p : DevP} (h : inP sp k = some p) : ∃ (l1 : List SlotP) (s : SlotP) (l2 : List SlotP), sp = l1 ++ s :: l2 ∧ k = (l1.length : Int) ∧ s.in_ = some p := by
  unfold inP at h
  split at h
  · rename_i h0
    obtain ⟨i, rfl⟩ := Int.eq_ofNat_of_zero_le h0
    rw [Int.toNat_natCast] at h
    cases hg : sp[i]? with
    | none => rw [hg] at h; cases h
    | some s =>
      rw [hg] at h
      obtain ⟨hi, e⟩ := List.getElem?_eq_some_iff.1 hg
      refine ⟨sp.take i, s, sp.drop (i + 1), ?_, by rw [List.length_take, Nat.min_eq_left (by omega)], h⟩
      rw [← e, ← List.drop_eq_getElem_cons hi, List.take_append_drop]
  · cases h
/-- What stands behind one slot's disk. -/
abbrev BayX (b : Nat) (D : BayD) (a : Addr) (l1 : List SlotP) (s : SlotP) (l2 : List SlotP) (R : List SProp) : List SProp :=
  devRes s.aside :: devRes s.coming :: bayRow b D a (l1 ++ s :: l2).length :: slotsOwn a (l1 ++ s :: l2) :: ((l1 ++ l2).map slotRes ++ R)
theorem bayOut {W : World} {b : Nat} {D : BayD} {a : Addr} {l1 l2 : List SlotP} {s : SlotP} {R : List SProp} : Ent W (BayO b D a (l1 ++ s :: l2) R) (devRes s.in_ :: BayX b D a l1 s l2 R) := fun w hw => by
  have p1 : (BayO b D a (l1 ++ s :: l2) R).Perm ((l1 ++ s :: l2).map slotRes ++ (bayRow b D a (l1 ++ s :: l2).length :: slotsOwn a (l1 ++ s :: l2) :: R)) := by
    refine List.Perm.trans ?_ List.perm_middle.symm
    exact List.Perm.cons _ List.perm_middle.symm
  have h := slotOut l1 l2 s _ w (hw.perm p1)
  refine h.perm (List.Perm.cons _ (List.Perm.cons _ (List.Perm.cons _ ?_)))
  refine List.Perm.trans List.perm_middle ?_
  exact List.Perm.cons _ List.perm_middle
theorem bayIn {W : World} {b : Nat} {D : BayD} {a : Addr} {l1 l2 : List SlotP} {s : SlotP} {R : List SProp} : Ent W (devRes s.in_ :: BayX b D a l1 s l2 R) (BayO b D a (l1 ++ s :: l2) R) := fun w hw => by
  have p1 : (BayO b D a (l1 ++ s :: l2) R).Perm ((l1 ++ s :: l2).map slotRes ++ (bayRow b D a (l1 ++ s :: l2).length :: slotsOwn a (l1 ++ s :: l2) :: R)) := by
    refine List.Perm.trans ?_ List.perm_middle.symm
    exact List.Perm.cons _ List.perm_middle.symm
  have p2 : (devRes s.in_ :: devRes s.aside :: devRes s.coming :: ((l1 ++ l2).map slotRes ++ (bayRow b D a (l1 ++ s :: l2).length :: slotsOwn a (l1 ++ s :: l2) :: R))).Perm (devRes s.in_ :: BayX b D a l1 s l2 R) := by
    refine List.Perm.cons _ (List.Perm.cons _ (List.Perm.cons _ ?_))
    refine List.Perm.trans List.perm_middle ?_
    exact List.Perm.cons _ List.perm_middle
  exact (slotIn l1 l2 s _ w (hw.perm p2.symm)).perm p1.symm
theorem bayOutP {W : World} {b : Nat} {D : BayD} {a : Addr} {l1 l2 : List SlotP} {s : SlotP} {R : List SProp} {p : DevP} (hs : s.in_ = some p) : Ent W (BayO b D a (l1 ++ s :: l2) R) (devRow p :: DiskR p.d p.v.k :: BayX b D a l1 s l2 R) := fun w hw => by
  have h := bayOut w hw
  rw [hs] at h
  exact devOut p _ w h
/-- The disk has turned, in its place. -/
theorem bayInP {W : World} {b : Nat} {D D' : BayD} {a : Addr} {l1 l2 : List SlotP} {s : SlotP} {R : List SProp} {p : DevP} (hs : s.in_ = some p) (v : DevD) (h1 : D'.slots = (l1 ++ { s with in_ := some ⟨p.r, p.d, v⟩ } :: l2).map SlotP.D) (h2 : (l1 ++ s :: l2).length ≤ 17) :
    Ent W (devRow ⟨p.r, p.d, v⟩ :: DiskR p.d v.k :: BayX b D' a l1 s l2 R) (BayR b D' :: R) := fun w hw => by
  have e1 : (l1 ++ { s with in_ := some ⟨p.r, p.d, v⟩ } :: l2).length = (l1 ++ s :: l2).length := by simp
  have e2 : slotsOwn a (l1 ++ { s with in_ := some ⟨p.r, p.d, v⟩ } :: l2) = slotsOwn a (l1 ++ s :: l2) := by
    unfold slotsOwn
    rw [e1]
    congr 1
    simp only [List.flatMap_append, List.flatMap_cons]
    congr 2
    simp [slotCells, devPtr, hs]
  refine BayR.shut (a := a) h1 (by rw [e1]; exact h2) w ?_
  refine bayIn w ?_
  refine devIn ⟨p.r, p.d, v⟩ _ w ?_
  simp only [BayX, e1, e2]
  exact hw
def BayD.setIn (D : BayD) (i : Nat) (v : DevD) : BayD := { D with slots := D.slots.set i { (D.slots[i]?.getD ⟨none, none, none⟩) with in_ := some v } }
theorem setIn_slots {D : BayD} {l1 l2 : List SlotP} {s : SlotP} {p : DevP} (h : D.slots = (l1 ++ s :: l2).map SlotP.D) (v : DevD) : (D.setIn l1.length v).slots = (l1 ++ { s with in_ := some ⟨p.r, p.d, v⟩ } :: l2).map SlotP.D := by
  unfold BayD.setIn
  simp only [h, List.map_append, List.map_cons]
  rw [List.set_append_right _ _ (by simp), List.getElem?_append_right (by simp)]
  simp [SlotP.D]

/-! ### Calls that only look -/
def BayD.image (D : BayD) (k : Int) : List UInt8 × Int := match D.dev k with
  | some v => (v.k.img, 0)
  | none => ([], thereE D.slots.length false k)
abbrev cntV (c : CntD) : Value := .agg #[.int .i64 c.r, .int .i64 c.w, .int .i64 c.f]
theorem baycounts_ok {W : World} {R : List SProp} (b : Nat) (D : BayD) :
    Does1 W Tryz.prog 30 [.pointer (some ⟨b, 0, none⟩)] (BayR b D :: R) (cntV D.n) (BayR b D :: R) := by
  (refine Does.enter Tryz.func30 Tryz.ntmps30 rfl rfl ?_)
  refine VC.obtain (fun w => BayR.open) ?_
  rintro ⟨⟨a, sp⟩, h1, h2⟩
  dsimp only at h1 h2 ⊢
  (refine w ?_; repeat ((first | refine VO.step rfl rfl ?_ | refine VD.end rfl rfl rfl ?_ | refine VD.mid rfl rfl rfl ?_); refine OpV.box rfl rfl rfl ?_; intro _; refine w ?_))
  ((first | refine VO.step rfl rfl ?_ | refine VD.end rfl rfl rfl ?_ | refine VD.mid rfl rfl rfl ?_); refine OpV.allocS sb_63 rfl ?_; intro na)
  (refine w ?_; repeat ((first | refine VO.step rfl rfl ?_ | refine VD.end rfl rfl rfl ?_ | refine VD.mid rfl rfl rfl ?_); refine OpV.box rfl rfl rfl ?_; intro _; refine w ?_))
  (first | refine VO.step rfl rfl ?_ | refine VD.end rfl rfl rfl ?_ | refine VD.mid rfl rfl rfl ?_)
  refine OpV.stA (vs := [.int .i64 D.n.r, .int .i64 D.n.w, .int .i64 D.n.f]) tab_ok rfl rfl rfl rfl (by simp [Value.oneCell']) (by (repeat first | exact .head | apply Hole.tail)) (by simp) ?_
  (refine w ?_; repeat ((first | refine VO.step rfl rfl ?_ | refine VD.end rfl rfl rfl ?_ | refine VD.mid rfl rfl rfl ?_); refine OpV.box rfl rfl rfl ?_; intro _; refine w ?_))
  refine VE.results1 (.inl rfl) () rfl (ResIs.agg (vs := [.int .i64 D.n.r, .int .i64 D.n.w, .int .i64 D.n.f]) tab_ok rfl rfl (.head _) rfl rfl) trivial rfl ?_
  exact Ent.drop (BayR.shut h1 h2)
end Go.Proofs.YtlojjlbngnaphaaGreat

/-! Text Bc. -/
/- Package bay: operations. -/
set_option maxRecDepth 8000
set_option linter.unusedVariables false
set_option linter.unusedSimpArgs false
set_option linter.unusedSectionVars false
namespace Go.Proofs.YtlojjlbngnaphaaGreat
open Go.RowKit Go.Sl
attribute [local irreducible] Own

def DevD.use (v : DevD) : DevD := if v.worn = false then v else if v.left = 0 then ⟨v.k.fail, false, v.left⟩ else ⟨v.k, v.worn, IntKind.i64.wrap (v.left - 1)⟩
abbrev devCells (d : Nat) (v : DevD) : List Value := [.pointer (some ⟨d, 0, none⟩), .bool v.worn, .int .i64 v.left]
theorem use_ok {W : World} {R : List SProp} (r d : Nat) (v : DevD) :
    Does1 W Tryz.prog 171 [.pointer (some ⟨r, 0, none⟩)] (Row r 134 (devCells d v) :: DiskR d v.k :: R) (.tuple #[]) (Row r 134 (devCells d v.use) :: DiskR d v.use.k :: R) := by
  (refine Does.enter Tryz.func171 Tryz.ntmps171 rfl rfl ?_)
  unfold DevD.use
  (refine w ?_; repeat ((first | refine VO.step rfl rfl ?_ | refine VD.end rfl rfl rfl ?_ | refine VD.mid rfl rfl rfl ?_); refine OpV.box rfl rfl rfl ?_; intro _; refine w ?_))
  (refine VC.cond rfl rfl ?_ ?_ <;> intro hc)
  · have hw : v.worn = false := by simpa using hc
    (refine w ?_; repeat ((first | refine VO.step rfl rfl ?_ | refine VD.end rfl rfl rfl ?_ | refine VD.mid rfl rfl rfl ?_); refine OpV.box rfl rfl rfl ?_; intro _; refine w ?_))
    (refine VE.done1N rfl ?_ ?_)
    · rfl
    · rw [if_pos hw]; exact Ent.refl
  · have hw : v.worn ≠ false := by simpa using hc
    rw [if_neg hw]
    (refine w ?_; repeat ((first | refine VO.step rfl rfl ?_ | refine VD.end rfl rfl rfl ?_ | refine VD.mid rfl rfl rfl ?_); refine OpV.box rfl rfl rfl ?_; intro _; refine w ?_))
    (refine VC.cond rfl rfl ?_ ?_ <;> intro hc)
    · have h0 : v.left = 0 := by simpa using hc
      (refine w ?_; repeat ((first | refine VO.step rfl rfl ?_ | refine VD.end rfl rfl rfl ?_ | refine VD.mid rfl rfl rfl ?_); refine OpV.box rfl rfl rfl ?_; intro _; refine w ?_))
      (((first | refine VO.step rfl rfl ?_ | refine VD.end rfl rfl rfl ?_ | refine VD.mid rfl rfl rfl ?_); refine OpV.call rfl rfl (fun _ _ => by simp) (fail_ok d v.k) Ent.re rfl ?_); intro _ _)
      (refine w ?_; repeat ((first | refine VO.step rfl rfl ?_ | refine VD.end rfl rfl rfl ?_ | refine VD.mid rfl rfl rfl ?_); refine OpV.box rfl rfl rfl ?_; intro _; refine w ?_))
      (refine VE.done1N rfl ?_ ?_)
      · rfl
      · rw [if_pos h0]; exact Ent.re
    · have h0 : ¬ v.left = 0 := by simpa using hc
      (refine w ?_; repeat ((first | refine VO.step rfl rfl ?_ | refine VD.end rfl rfl rfl ?_ | refine VD.mid rfl rfl rfl ?_); refine OpV.box rfl rfl rfl ?_; intro _; refine w ?_))
      (refine VE.done1N rfl ?_ ?_)
      · rfl
      · rw [if_neg h0]; exact Ent.re

def BayD.pow (D : BayD) : BayD := if D.trip = 0 then { D with dark := true, trip := -1 } else D
def CntD.inc (c : CntD) : Nat → CntD
  | 0 => { c with r := IntKind.i64.wrap (c.r + 1) }
  | 1 => { c with w := IntKind.i64.wrap (c.w + 1) }
  | _ => { c with f := IntKind.i64.wrap (c.f + 1) }
def BayD.less (D : BayD) : BayD := { D with trip := if 0 < D.trip then IntKind.i64.wrap (D.trip - 1) else D.trip }
def BayD.step (D : BayD) (j : Nat) : BayD := { D with trip := if 0 < D.trip then IntKind.i64.wrap (D.trip - 1) else D.trip, n := D.n.inc j }
/-- Why an operation is not done; 0: it is. -/
def BayD.refuse (D : BayD) (k : Int) : Int := if inRange D.slots.length k = false then 1 else if D.pow.dark then 50 else thereE D.slots.length (D.dev k).isSome k
def BayD.ahead (D : BayD) (k : Int) (j : Nat) : BayD := if inRange D.slots.length k = false then D else if D.pow.dark then D.pow else D.pow.step j
theorem BayD.pow_slots (D : BayD) : D.pow.slots = D.slots := by unfold BayD.pow; split <;> rfl
theorem BayD.ahead_slots (D : BayD) (k : Int) (j : Nat) : (D.ahead k j).slots = D.slots := by
  unfold BayD.ahead; split
  · rfl
  · split
    · exact D.pow_slots
    · exact D.pow_slots

theorem breads_ok {W : World} {R : List SProp} (b : Nat) : Does1 W Tryz.prog 115 [.pointer (some ⟨b, 3, none⟩)] R (.pointer (some ⟨b, 3 + 0, none⟩)) R := by
  (refine Does.enter Tryz.func115 Tryz.ntmps115 rfl rfl ?_)
  (refine w ?_; repeat ((first | refine VO.step rfl rfl ?_ | refine VD.end rfl rfl rfl ?_ | refine VD.mid rfl rfl rfl ?_); refine OpV.box rfl rfl rfl ?_; intro _; refine w ?_))
  (first | exact VE.done1 rfl rfl Ent.refl | exact VE.done1N rfl rfl Ent.refl)
theorem writes_ok {W : World} {R : List SProp} (b : Nat) : Does1 W Tryz.prog 196 [.pointer (some ⟨b, 3, none⟩)] R (.pointer (some ⟨b, 3 + 1, none⟩)) R := by
  (refine Does.enter Tryz.func196 Tryz.ntmps196 rfl rfl ?_)
  (refine w ?_; repeat ((first | refine VO.step rfl rfl ?_ | refine VD.end rfl rfl rfl ?_ | refine VD.mid rfl rfl rfl ?_); refine OpV.box rfl rfl rfl ?_; intro _; refine w ?_))
  (first | exact VE.done1 rfl rfl Ent.refl | exact VE.done1N rfl rfl Ent.refl)
theorem flushes_ok {W : World} {R : List SProp} (b : Nat) : Does1 W Tryz.prog 189 [.pointer (some ⟨b, 3, none⟩)] R (.pointer (some ⟨b, 3 + 2, none⟩)) R := by
  (refine Does.enter Tryz.func189 Tryz.ntmps189 rfl rfl ?_)
  (refine w ?_; repeat ((first | refine VO.step rfl rfl ?_ | refine VD.end rfl rfl rfl ?_ | refine VD.mid rfl rfl rfl ?_); refine OpV.box rfl rfl rfl ?_; intro _; refine w ?_))
  (first | exact VE.done1 rfl rfl Ent.refl | exact VE.done1N rfl rfl Ent.refl)
def BayD.dv (D : BayD) (k : Int) : DevD := ((D.dev k).getD ⟨⟨[], [], false⟩, false, 0⟩).use
theorem inRange_at {l1 l2 : List SlotP} {s : SlotP} : inRange (l1 ++ s :: l2).length (l1.length : Int) = true := by unfold inRange; simp; omega
set_option maxHeartbeats 1000000 in
/-- An operation with the disk in a slot; none: it is refused. -/
theorem operate_ok {W : World} {R : List SProp} {gd gc : FuncId} {cp : Array Value} {γ : Type} {A : γ → Prop} {res : γ → Value} {G : γ → List SProp} {kf : DiskD → DiskD} (b : Nat) (D : BayD) (k : Int) (j : Nat) (hj : j < 3)
    (hcf : ∀ a w, (callFunc gc a).run Tryz.prog w = .ok (.enter gc a) w) (hdf : ∀ a w, (callFunc gd a).run Tryz.prog w = .ok (.enter gd a) w)
    (hcount : ∀ X : List SProp, Does1 W Tryz.prog gc [.pointer (some ⟨b, 3, none⟩)] X (.pointer (some ⟨b, 3 + j, none⟩)) X)
    (hdo : ∀ (r d : Nat), (D.dev k).isSome = true → D.refuse k = 0 → ∀ X : List SProp, Does W Tryz.prog gd (.pointer (some ⟨r, 0, none⟩) :: cp.toList) (Row r 134 (devCells d (D.dv k)) :: DiskR d (D.dv k).k :: (X ++ R)) A res (fun x => Row r 134 (devCells d (D.dv k)) :: DiskR d (kf (D.dv k).k) :: (X ++ G x))) :
    Does W Tryz.prog 114 [.pointer (some ⟨b, 0, none⟩), .int .i64 k, .func (.func gc) #[] #[], .func (.func gd) #[] cp] (BayR b D :: R) (β := Option γ)
      (fun x => x.elim (D.refuse k ≠ 0) fun y => D.refuse k = 0 ∧ A y) (fun x => x.elim (.int .u16 (D.refuse k)) res)
      (fun x => x.elim (BayR b (D.ahead k j) :: R) fun y => BayR b ((D.ahead k j).setIn k.toNat ⟨kf (D.dv k).k, (D.dv k).worn, (D.dv k).left⟩) :: G y) := by
  (refine Does.enter Tryz.func114 Tryz.ntmps114 rfl rfl ?_)
  refine VC.obtain (fun w => BayR.open) ?_
  rintro ⟨⟨a, sp⟩, h1, h2⟩
  dsimp only at h1 h2 ⊢
  have hl : D.slots.length = sp.length := by rw [h1, List.length_map]
  (refine w ?_; repeat ((first | refine VO.step rfl rfl ?_ | refine VD.end rfl rfl rfl ?_ | refine VD.mid rfl rfl rfl ?_); refine OpV.box rfl rfl rfl ?_; intro _; refine w ?_))
  (((first | refine VO.step rfl rfl ?_ | refine VD.end rfl rfl rfl ?_ | refine VD.mid rfl rfl rfl ?_); refine OpV.call rfl rfl (fun _ _ => by simp) (bayat_ok (D := D) (a := a) (n := sp.length) b k h2) Ent.re rfl ?_); intro _ _)
  unfold slotAt
  cases hin : inRange sp.length k
  · (refine w ?_; repeat ((first | refine VO.step rfl rfl ?_ | refine VD.end rfl rfl rfl ?_ | refine VD.mid rfl rfl rfl ?_); refine OpV.box rfl rfl rfl ?_; intro _; refine w ?_))
    have hr : D.refuse k = 1 := by unfold BayD.refuse; rw [hl, if_pos hin]
    refine VE.done none rfl (by rw [Option.elim_none, hr]; decide) (by rw [Option.elim_none, hr]) ?_
    unfold BayD.ahead; rw [Option.elim_none, hl, if_pos hin]; exact BayR.shut h1 h2
  (refine w ?_; repeat ((first | refine VO.step rfl rfl ?_ | refine VD.end rfl rfl rfl ?_ | refine VD.mid rfl rfl rfl ?_); refine OpV.box rfl rfl rfl ?_; intro _; refine w ?_))
  (first | refine VO.join (α := Unit) (fun _ => True) (fun _ => bayRow b D.pow a sp.length :: slotsOwn a sp :: (sp.map slotRes ++ R)) (fun _ => [(0, .pointer (some ⟨b, 0, none⟩)), (1, .int .i64 k), (2, .func (.func gc) #[] #[]), (3, .func (.func gd) #[] cp)]) ?_ ?_ | refine VC.joinTB (α := Unit) (fun _ => True) (fun _ => bayRow b D.pow a sp.length :: slotsOwn a sp :: (sp.map slotRes ++ R)) (fun _ => [(0, .pointer (some ⟨b, 0, none⟩)), (1, .int .i64 k), (2, .func (.func gc) #[] #[]), (3, .func (.func gd) #[] cp)]) ?_ ?_ | refine VC.joinB (α := Unit) (fun _ => True) (fun _ => bayRow b D.pow a sp.length :: slotsOwn a sp :: (sp.map slotRes ++ R)) (fun _ => [(0, .pointer (some ⟨b, 0, none⟩)), (1, .int .i64 k), (2, .func (.func gc) #[] #[]), (3, .func (.func gd) #[] cp)]) ?_ ?_ | refine VC.join (α := Unit) (fun _ => True) (fun _ => bayRow b D.pow a sp.length :: slotsOwn a sp :: (sp.map slotRes ++ R)) (fun _ => [(0, .pointer (some ⟨b, 0, none⟩)), (1, .int .i64 k), (2, .func (.func gc) #[] #[]), (3, .func (.func gd) #[] cp)]) ?_ ?_)
  · intro Q2 jn
    (refine VC.cond rfl rfl ?_ ?_ <;> intro hc)
    · have h0 : D.trip = 0 := by simpa using hc
      (refine w ?_; repeat ((first | refine VO.step rfl rfl ?_ | refine VD.end rfl rfl rfl ?_ | refine VD.mid rfl rfl rfl ?_); refine OpV.box rfl rfl rfl ?_; intro _; refine w ?_))
      refine jn.to () trivial ⟨rfl, rfl, rfl, rfl, trivial⟩ ?_
      unfold BayD.pow; rw [if_pos h0]; exact Ent.re
    · have h0 : ¬ D.trip = 0 := by simpa using hc
      (refine w ?_; repeat ((first | refine VO.step rfl rfl ?_ | refine VD.end rfl rfl rfl ?_ | refine VD.mid rfl rfl rfl ?_); refine OpV.box rfl rfl rfl ?_; intro _; refine w ?_))
      refine jn.to () trivial ⟨rfl, rfl, rfl, rfl, trivial⟩ ?_
      unfold BayD.pow; rw [if_neg h0]; exact Ent.re
  intro _ _
  (refine w ?_; repeat ((first | refine VO.step rfl rfl ?_ | refine VD.end rfl rfl rfl ?_ | refine VD.mid rfl rfl rfl ?_); refine OpV.box rfl rfl rfl ?_; intro _; refine w ?_))
  have h1p : D.pow.slots = sp.map SlotP.D := by rw [D.pow_slots, h1]
  (refine VC.cond rfl rfl ?_ ?_ <;> intro hc)
  · have hdk : D.pow.dark = true := hc
    (refine w ?_; repeat ((first | refine VO.step rfl rfl ?_ | refine VD.end rfl rfl rfl ?_ | refine VD.mid rfl rfl rfl ?_); refine OpV.box rfl rfl rfl ?_; intro _; refine w ?_))
    have hr : D.refuse k = 50 := by unfold BayD.refuse; rw [hl, if_neg (by simp [hin]), if_pos hdk]
    refine VE.done none rfl (by rw [Option.elim_none, hr]; decide) (by rw [Option.elim_none, hr]) ?_
    unfold BayD.ahead; rw [Option.elim_none, hl, if_neg (by simp [hin]), if_pos hdk]; exact BayR.shut h1p h2
  have hdk : ¬ D.pow.dark = true := by simpa using hc
  have hah : D.ahead k j = D.pow.step j := by unfold BayD.ahead; rw [hl, if_neg (by simp [hin]), if_neg hdk]
  rw [hah]
  generalize hP : D.pow = Pw at *
  (refine w ?_; repeat ((first | refine VO.step rfl rfl ?_ | refine VD.end rfl rfl rfl ?_ | refine VD.mid rfl rfl rfl ?_); refine OpV.box rfl rfl rfl ?_; intro _; refine w ?_))
  (refine VC.join (α := Unit) (fun _ => True) (fun _ => bayRow b Pw.less a sp.length :: slotsOwn a sp :: (sp.map slotRes ++ R)) (fun _ => [(0, .pointer (some ⟨b, 0, none⟩)), (1, .int .i64 k), (2, .func (.func gc) #[] #[]), (3, .func (.func gd) #[] cp)]) ?_ ?_)
  · intro Q2 jn
    (refine VC.cond rfl rfl ?_ ?_ <;> intro hc)
    · have h0 : 0 < Pw.trip := of_decide_eq_true hc
      (refine w ?_; repeat ((first | refine VO.step rfl rfl ?_ | refine VD.end rfl rfl rfl ?_ | refine VD.mid rfl rfl rfl ?_); refine OpV.box rfl rfl rfl ?_; intro _; refine w ?_))
      refine jn.to () trivial ⟨rfl, rfl, rfl, rfl, trivial⟩ ?_
      unfold BayD.less; rw [if_pos h0]; exact Ent.re
    · have h0 : ¬ 0 < Pw.trip := of_decide_eq_false hc
      (refine w ?_; repeat ((first | refine VO.step rfl rfl ?_ | refine VD.end rfl rfl rfl ?_ | refine VD.mid rfl rfl rfl ?_); refine OpV.box rfl rfl rfl ?_; intro _; refine w ?_))
      refine jn.to () trivial ⟨rfl, rfl, rfl, rfl, trivial⟩ ?_
      unfold BayD.less; rw [if_neg h0]; exact Ent.re
  intro _ _
  refine VC.seq rfl ?_
  refine VC.join (α := Unit) (fun _ => True) (fun _ => bayRow b (Pw.step j) a sp.length :: slotsOwn a sp :: (sp.map slotRes ++ R)) (fun _ => [(0, .pointer (some ⟨b, 0, none⟩)), (1, .int .i64 k), (3, .func (.func gd) #[] cp)]) ?_ ?_
  · intro Q2 jn
    rcases (show j = 0 ∨ j = 1 ∨ j = 2 by omega) with rfl | rfl | rfl
    · (refine w ?_; repeat ((first | refine VO.step rfl rfl ?_ | refine VD.end rfl rfl rfl ?_ | refine VD.mid rfl rfl rfl ?_); refine OpV.box rfl rfl rfl ?_; intro _; refine w ?_))
      (first | refine VO.step rfl rfl ?_ | refine VD.end rfl rfl rfl ?_ | refine VD.mid rfl rfl rfl ?_)
      refine OpV.call rfl rfl hcf (hcount _) Ent.refl rfl ?_
      intro _ _
      (refine w ?_; repeat ((first | refine VO.step rfl rfl ?_ | refine VD.end rfl rfl rfl ?_ | refine VD.mid rfl rfl rfl ?_); refine OpV.box rfl rfl rfl ?_; intro _; refine w ?_))
      exact jn.to () trivial ⟨rfl, rfl, rfl, trivial⟩ Ent.re
    · (refine w ?_; repeat ((first | refine VO.step rfl rfl ?_ | refine VD.end rfl rfl rfl ?_ | refine VD.mid rfl rfl rfl ?_); refine OpV.box rfl rfl rfl ?_; intro _; refine w ?_))
      (first | refine VO.step rfl rfl ?_ | refine VD.end rfl rfl rfl ?_ | refine VD.mid rfl rfl rfl ?_)
      refine OpV.call rfl rfl hcf (hcount _) Ent.refl rfl ?_
      intro _ _
      (refine w ?_; repeat ((first | refine VO.step rfl rfl ?_ | refine VD.end rfl rfl rfl ?_ | refine VD.mid rfl rfl rfl ?_); refine OpV.box rfl rfl rfl ?_; intro _; refine w ?_))
      exact jn.to () trivial ⟨rfl, rfl, rfl, trivial⟩ Ent.re
    · (refine w ?_; repeat ((first | refine VO.step rfl rfl ?_ | refine VD.end rfl rfl rfl ?_ | refine VD.mid rfl rfl rfl ?_); refine OpV.box rfl rfl rfl ?_; intro _; refine w ?_))
      (first | refine VO.step rfl rfl ?_ | refine VD.end rfl rfl rfl ?_ | refine VD.mid rfl rfl rfl ?_)
      refine OpV.call rfl rfl hcf (hcount _) Ent.refl rfl ?_
      intro _ _
      (refine w ?_; repeat ((first | refine VO.step rfl rfl ?_ | refine VD.end rfl rfl rfl ?_ | refine VD.mid rfl rfl rfl ?_); refine OpV.box rfl rfl rfl ?_; intro _; refine w ?_))
      exact jn.to () trivial ⟨rfl, rfl, rfl, trivial⟩ Ent.re
  intro _ _
  (refine w ?_; repeat ((first | refine VO.step rfl rfl ?_ | refine VD.end rfl rfl rfl ?_ | refine VD.mid rfl rfl rfl ?_); refine OpV.box rfl rfl rfl ?_; intro _; refine w ?_))
  have h1s : (Pw.step j).slots = sp.map SlotP.D := h1p
  (((first | refine VO.step rfl rfl ?_ | refine VD.end rfl rfl rfl ?_ | refine VD.mid rfl rfl rfl ?_); refine OpV.call rfl rfl (fun _ _ => by simp) (baythere_ok (D := Pw.step j) (a := a) (sp := sp) b k h2) Ent.re rfl ?_); intro _ _)
  have hrf : D.refuse k = thereE sp.length (inP sp k).isSome k := by unfold BayD.refuse; rw [hl, if_neg (by simp [hin]), hP, if_neg hdk, inP_D h1, Option.isSome_map]
  have hdv : D.dv k = (((inP sp k).map DevP.v).getD ⟨⟨[], [], false⟩, false, 0⟩).use := by unfold BayD.dv; rw [inP_D h1]
  rw [inP_D h1, hdv] at hdo
  rw [hdv]
  rw [hrf] at hdo ⊢
  cases hp : inP sp k with
  | none =>
    dsimp only [devPtr, Option.map_none, Option.isSome_none]
    have he : thereE sp.length false k ≠ 0 := by unfold thereE; split <;> simp
    (refine w ?_; repeat ((first | refine VO.step rfl rfl ?_ | refine VD.end rfl rfl rfl ?_ | refine VD.mid rfl rfl rfl ?_); refine OpV.box rfl rfl rfl ?_; intro _; refine w ?_))
    (refine VC.condTe rfl rfl (by simpa using he) ?_)
    (refine w ?_; repeat ((first | refine VO.step rfl rfl ?_ | refine VD.end rfl rfl rfl ?_ | refine VD.mid rfl rfl rfl ?_); refine OpV.box rfl rfl rfl ?_; intro _; refine w ?_))
    refine VE.done none rfl (by simpa using he) rfl ?_
    exact BayR.shut h1s h2
  | some p =>
    obtain ⟨l1, s, l2, rfl, rfl, hs⟩ := inP_split hp
    dsimp only [devPtr, Option.map_some, Option.isSome_some, Option.getD_some]
    have he : thereE (l1 ++ s :: l2).length true (l1.length : Int) = 0 := by unfold thereE; rw [inRange_at]; rfl
    rw [hp] at hdo
    dsimp only [Option.map_some, Option.isSome_some, Option.getD_some] at hdo
    rw [he] at hdo ⊢
    (refine w ?_; repeat ((first | refine VO.step rfl rfl ?_ | refine VD.end rfl rfl rfl ?_ | refine VD.mid rfl rfl rfl ?_); refine OpV.box rfl rfl rfl ?_; intro _; refine w ?_))
    refine VO.ent (bayOutP hs) ?_
    (refine w ?_; repeat ((first | refine VO.step rfl rfl ?_ | refine VD.end rfl rfl rfl ?_ | refine VD.mid rfl rfl rfl ?_); refine OpV.box rfl rfl rfl ?_; intro _; refine w ?_))
    (((first | refine VO.step rfl rfl ?_ | refine VD.end rfl rfl rfl ?_ | refine VD.mid rfl rfl rfl ?_); refine OpV.call rfl rfl (fun _ _ => by simp) (use_ok p.r p.d p.v) Ent.re rfl ?_); intro _ _)
    (refine w ?_; repeat ((first | refine VO.step rfl rfl ?_ | refine VD.end rfl rfl rfl ?_ | refine VD.mid rfl rfl rfl ?_); refine OpV.box rfl rfl rfl ?_; intro _; refine w ?_))
    (first | refine VO.step rfl rfl ?_ | refine VD.end rfl rfl rfl ?_ | refine VD.mid rfl rfl rfl ?_)
    refine OpV.call rfl rfl hdf (hdo p.r p.d rfl rfl (devRes s.aside :: devRes s.coming :: bayRow b (Pw.step j) a (l1 ++ s :: l2).length :: slotsOwn a (l1 ++ s :: l2) :: (l1 ++ l2).map slotRes)) ?_ rfl ?_
    · exact Ent.refl
    intro y hy
    (refine w ?_; repeat ((first | refine VO.step rfl rfl ?_ | refine VD.end rfl rfl rfl ?_ | refine VD.mid rfl rfl rfl ?_); refine OpV.box rfl rfl rfl ?_; intro _; refine w ?_))
    refine VE.done (some y) rfl ⟨rfl, hy⟩ rfl ?_
    exact bayInP (b := b) (a := a) (R := G y) (D := Pw.step j) (D' := (Pw.step j).setIn l1.length ⟨kf p.v.use.k, p.v.use.worn, p.v.use.left⟩) (p := p) hs ⟨kf p.v.use.k, p.v.use.worn, p.v.use.left⟩ (setIn_slots (p := p) (D := Pw.step j) h1s _) h2

/-! ### Read, Write, Flush -/
theorem push1 {W : World} {A B C : SProp} (X R : List SProp) : Ent W (C :: A :: B :: (X ++ R)) (A :: B :: (X ++ (C :: R))) := fun w hw => hw.perm (by
  refine List.Perm.symm (List.Perm.trans (List.Perm.cons _ (List.Perm.cons _ List.perm_middle)) ?_)
  exact List.Perm.trans (List.Perm.cons _ (List.Perm.swap _ _ _)) (List.Perm.swap _ _ _))
theorem push3 {W : World} {A B C D E : SProp} (X R : List SProp) : Ent W (C :: D :: E :: A :: B :: (X ++ R)) (A :: B :: (X ++ (C :: D :: E :: R))) := fun w hw => by
  have h1 := push1 (W := W) (A := A) (B := B) (C := E) X R
  have h2 := push1 (W := W) (A := A) (B := B) (C := D) X (E :: R)
  have h3 := push1 (W := W) (A := A) (B := B) (C := C) X (D :: E :: R)
  have k1 := Ent.ctx (X := [C, D]) (L := E :: A :: B :: X) (L' := A :: B :: (X ++ [E])) (R := R) (by
    have := push1 (W := W) (A := A) (B := B) (C := E) X ([C, D] ++ R)
    simpa using this)
  have k2 := Ent.ctx (X := [C]) (L := D :: A :: B :: X) (L' := A :: B :: (X ++ [D])) (R := E :: R) (by
    have := push1 (W := W) (A := A) (B := B) (C := D) X ([C] ++ (E :: R))
    simpa using this)
  exact h3 w (by simpa using k2 w (by simpa using k1 w hw))
theorem pull2 {W : World} {A B C D : SProp} (X R : List SProp) : Ent W (A :: B :: (X ++ (C :: D :: R))) (C :: D :: A :: B :: (X ++ R)) := fun w hw => hw.perm (by
  have p1 : (X ++ (C :: D :: R)).Perm (C :: D :: (X ++ R)) := List.Perm.trans List.perm_middle (List.Perm.cons _ List.perm_middle)
  refine List.Perm.trans (List.Perm.cons _ (List.Perm.cons _ p1)) ?_
  exact List.Perm.append_right (X ++ R) (show [A, B, C, D].Perm [C, D, A, B] from List.perm_append_comm (l₁ := [A, B]) (l₂ := [C, D])))
theorem push2 {W : World} {A B C D : SProp} (X R : List SProp) : Ent W (C :: D :: A :: B :: (X ++ R)) (A :: B :: (X ++ (C :: D :: R))) := fun w hw => hw.perm (by
  have p1 : (X ++ (C :: D :: R)).Perm (C :: D :: (X ++ R)) := List.Perm.trans List.perm_middle (List.Perm.cons _ List.perm_middle)
  refine List.Perm.symm (List.Perm.trans (List.Perm.cons _ (List.Perm.cons _ p1)) ?_)
  exact List.Perm.append_right (X ++ R) (show [A, B, C, D].Perm [C, D, A, B] from List.perm_append_comm (l₁ := [A, B]) (l₂ := [C, D])))

theorem readf_ok {W : World} {R : List SProp} (r d ba bd : Nat) (v : DevD) (k : DiskD) (a : Int) (X : List SProp) :
    Does W Tryz.prog 116 [.pointer (some ⟨r, 0, none⟩), .pointer (some ⟨ba, 0, none⟩), .pointer (some ⟨bd, 0, none⟩)] (Row r 134 (devCells d v) :: DiskR d k :: (X ++ (Row ba 3 [.int .i64 a] :: Row bd 68 [.slice none 0 0] :: R)))
      (β := Option Addr × Nat) (fun x => x.1 = none → (k.rd a).1.length = 0) (fun _ => .int .u16 (k.rd a).2)
      (fun x => Row r 134 (devCells d v) :: DiskR d k :: (X ++ (Row ba 3 [.int .i64 a] :: Row bd 68 [sliceB x (k.rd a).1] :: OwnB x (k.rd a).1 :: R))) := by
  (refine Does.enter Tryz.func116 Tryz.ntmps116 rfl rfl ?_)
  refine VC.ent (pull2 X R) ?_
  (refine w ?_; repeat ((first | refine VO.step rfl rfl ?_ | refine VD.end rfl rfl rfl ?_ | refine VD.mid rfl rfl rfl ?_); refine OpV.box rfl rfl rfl ?_; intro _; refine w ?_))
  (refine VC.drawn [5, 9] 10 [0, 1, 2, 3, 4, 5, 6, 7, 8, 9, 10] (DiskR d k :: Row ba 3 [.int .i64 a] :: Row r 134 (devCells d v) :: (X ++ R)) rfl (by kernel_rfl) (by kernel_rfl) Ent.re ?_)
  (refine w ?_; repeat ((first | refine VO.step rfl rfl ?_ | refine VD.end rfl rfl rfl ?_ | refine VD.mid rfl rfl rfl ?_); refine OpV.box rfl rfl rfl ?_; intro _; refine w ?_))
  ((first | refine VO.step rfl rfl ?_ | refine VD.end rfl rfl rfl ?_ | refine VD.mid rfl rfl rfl ?_); refine OpV.call rfl rfl (fun _ _ => by simp) (drd_ok d k a) Ent.re rfl ?_)
  intro x hx
  (refine w ?_; repeat ((first | refine VO.step rfl rfl ?_ | refine VD.end rfl rfl rfl ?_ | refine VD.mid rfl rfl rfl ?_); refine OpV.box rfl rfl rfl ?_; intro _; refine w ?_))
  exact VE.done x rfl hx rfl (Ent.trans Ent.re (push3 X R))

/-- What a read answers. -/
def BayD.read (D : BayD) (k a : Int) : (List UInt8 × Int) × BayD :=
  if D.refuse k = 0 then ((D.dv k).k.rd a, (D.ahead k 0).setIn k.toNat (D.dv k)) else (([], D.refuse k), D.ahead k 0)
def BayD.write (D : BayD) (k a : Int) (b : List UInt8) : Int × BayD :=
  if D.refuse k = 0 then (((D.dv k).k.wr a b).1, (D.ahead k 1).setIn k.toNat ⟨((D.dv k).k.wr a b).2, (D.dv k).worn, (D.dv k).left⟩) else (D.refuse k, D.ahead k 1)
def BayD.flush (D : BayD) (k : Int) : Int × BayD :=
  if D.refuse k = 0 then ((D.dv k).k.fl.1, (D.ahead k 2).setIn k.toNat ⟨(D.dv k).k.fl.2, (D.dv k).worn, (D.dv k).left⟩) else (D.refuse k, D.ahead k 2)

theorem bayread_ok {W : World} {R : List SProp} (b : Nat) (D : BayD) (k a : Int) :
    Does W Tryz.prog 50 [.pointer (some ⟨b, 0, none⟩), .int .i64 k, .int .i64 a] (BayR b D :: R) (β := Option Addr × Nat) (fun x => x.1 = none → (D.read k a).1.1.length = 0) (fun x => .tuple #[sliceB x (D.read k a).1.1, .int .u16 (D.read k a).1.2]) (fun x => OwnB x (D.read k a).1.1 :: BayR b (D.read k a).2 :: R) := by
  (refine Does.enter Tryz.func50 Tryz.ntmps50 rfl rfl ?_)
  (refine w ?_; repeat ((first | refine VO.step rfl rfl ?_ | refine VD.end rfl rfl rfl ?_ | refine VD.mid rfl rfl rfl ?_); refine OpV.box rfl rfl rfl ?_; intro _; refine w ?_))
  rename_i ba
  (first | refine VO.step rfl rfl ?_ | refine VD.end rfl rfl rfl ?_ | refine VD.mid rfl rfl rfl ?_)
  refine OpV.alloc ze_68 rfl rfl ?_
  intro bd
  (refine w ?_; repeat ((first | refine VO.step rfl rfl ?_ | refine VD.end rfl rfl rfl ?_ | refine VD.mid rfl rfl rfl ?_); refine OpV.box rfl rfl rfl ?_; intro _; refine w ?_))
  (first | refine VO.pure rfl rfl (PureAt.makeFuncN rfl) rfl ?_ | refine VD.take rfl rfl rfl (PureAt.makeFuncN rfl) rfl ?_ | refine VQ.pure rfl rfl (PureAt.makeFuncN rfl) rfl ?_ | refine VD.end rfl rfl rfl (OpV.pure (PureAt.makeFuncN rfl) rfl ?_))
  (refine w ?_; repeat ((first | refine VO.step rfl rfl ?_ | refine VD.end rfl rfl rfl ?_ | refine VD.mid rfl rfl rfl ?_); refine OpV.box rfl rfl rfl ?_; intro _; refine w ?_))
  refine VO.ent (Reord.ent (L := BayR b D :: Row ba 3 [.int .i64 a] :: Row bd 68 [.slice none 0 0] :: R) (by (repeat first | exact .refl | (apply Reord.cons; focus repeat first | exact .head | apply Del.tail) | exact .nil | apply Reord.drop))) ?_
  (first | refine VO.step rfl rfl ?_ | refine VD.end rfl rfl rfl ?_ | refine VD.mid rfl rfl rfl ?_)
  refine OpV.call rfl rfl (fun _ _ => by simp) (operate_ok (gd := 116) (gc := 115) (cp := #[.pointer (some ⟨ba, 0, none⟩), .pointer (some ⟨bd, 0, none⟩)]) (kf := id) (R := Row ba 3 [.int .i64 a] :: Row bd 68 [.slice none 0 0] :: R) b D k 0 (by decide) (fun _ _ => by simp) (fun _ _ => by simp) (fun X => breads_ok b) (fun r d hv hr X => readf_ok r d ba bd (D.dv k) (D.dv k).k a X)) Ent.refl rfl ?_
  intro y hy
  unfold BayD.read
  cases y with
  | none =>
    have hr : D.refuse k ≠ 0 := hy
    dsimp only [Option.elim_none]
    rw [if_neg hr]
    (refine w ?_; repeat ((first | refine VO.step rfl rfl ?_ | refine VD.end rfl rfl rfl ?_ | refine VD.mid rfl rfl rfl ?_); refine OpV.box rfl rfl rfl ?_; intro _; refine w ?_))
    refine VE.results2 (.inl rfl) (none, 0) rfl (ResIs.leaf tab_ok rfl rfl (by (focus repeat first | exact .head _ | apply List.Mem.tail)) rfl) (.tmp rfl) (fun _ => rfl) rfl ?_
    exact Ent.trans (Ent.re (L := BayR b (D.ahead k 0) :: R)) fun w hw => hw.ownNil 5 1
  | some x =>
    obtain ⟨hr, hx⟩ : D.refuse k = 0 ∧ (x.1 = none → ((D.dv k).k.rd a).1.length = 0) := hy
    dsimp only [Option.elim_some]
    rw [if_pos hr]
    (refine w ?_; repeat ((first | refine VO.step rfl rfl ?_ | refine VD.end rfl rfl rfl ?_ | refine VD.mid rfl rfl rfl ?_); refine OpV.box rfl rfl rfl ?_; intro _; refine w ?_))
    exact VE.results2 (.inl rfl) x rfl (ResIs.leaf tab_ok rfl rfl (by (focus repeat first | exact .head _ | apply List.Mem.tail)) rfl) (.tmp rfl) hx rfl Ent.re

theorem writef_ok {W : World} {R : List SProp} {ao : Option Addr} {cap : Nat} {l : List UInt8} (r d ba bd : Nat) (v : DevD) (k : DiskD) (a : Int) (hc : k.cache.length ≤ 1000000000) (hl : RdsA W 1 ao l.length (bytes l) ∨ Rds W R 1 ao l.length (bytes l)) (X : List SProp) :
    Does W Tryz.prog 197 [.pointer (some ⟨r, 0, none⟩), .pointer (some ⟨ba, 0, none⟩), .pointer (some ⟨bd, 0, none⟩)] (Row r 134 (devCells d v) :: DiskR d k :: (X ++ (Row ba 3 [.int .i64 a] :: Row bd 68 [.slice ao l.length cap] :: R)))
      (β := Unit) (fun _ => True) (fun _ => .int .u16 (k.wr a l).1)
      (fun _ => Row r 134 (devCells d v) :: DiskR d (k.wr a l).2 :: (X ++ (Row ba 3 [.int .i64 a] :: Row bd 68 [.slice ao l.length cap] :: R))) := by
  (refine Does.enter Tryz.func197 Tryz.ntmps197 rfl rfl ?_)
  refine VC.ent (pull2 X R) ?_
  (refine w ?_; repeat ((first | refine VO.step rfl rfl ?_ | refine VD.end rfl rfl rfl ?_ | refine VD.mid rfl rfl rfl ?_); refine OpV.box rfl rfl rfl ?_; intro _; refine w ?_))
  (refine VC.drawn [] 6 [0, 1, 2, 3, 4, 5, 6, 7] _ rfl (by kernel_rfl) (by kernel_rfl) Ent.re ?_)
  (refine w ?_; repeat ((first | refine VO.step rfl rfl ?_ | refine VD.end rfl rfl rfl ?_ | refine VD.mid rfl rfl rfl ?_); refine OpV.box rfl rfl rfl ?_; intro _; refine w ?_))
  have hr : Rds W (Row ba 3 [.int .i64 a] :: Row bd 68 [.slice ao l.length cap] :: Row r 134 (devCells d v) :: (X ++ R)) 1 ao l.length (bytes l) := by
    rcases hl with h | h
    · exact h _
    · exact h.ent (fun w hw => Ent.dropAll (_ :: _ :: _ :: X) w hw)
  refine VD.ent (Reord.ent (L := DiskR d k :: Row ba 3 [.int .i64 a] :: Row bd 68 [.slice ao l.length cap] :: Row r 134 (devCells d v) :: (X ++ R)) (by (repeat first | exact .refl | (apply Reord.cons; focus repeat first | exact .head | apply Del.tail) | exact .nil | apply Reord.drop))) ?_
  ((first | refine VO.step rfl rfl ?_ | refine VD.end rfl rfl rfl ?_ | refine VD.mid rfl rfl rfl ?_); refine OpV.call rfl rfl (fun _ _ => by simp) (dwr_ok (b := l) d k a hc hr) Ent.refl rfl ?_)
  intro _ _
  (refine w ?_; repeat ((first | refine VO.step rfl rfl ?_ | refine VD.end rfl rfl rfl ?_ | refine VD.mid rfl rfl rfl ?_); refine OpV.box rfl rfl rfl ?_; intro _; refine w ?_))
  exact VE.done () rfl trivial rfl (Ent.trans Ent.re (push2 X R))

theorem baywrite_ok {W : World} {R : List SProp} {ao : Option Addr} {cap : Nat} {l : List UInt8} (b : Nat) (D : BayD) (k a : Int) (hc : (D.dv k).k.cache.length ≤ 1000000000) (hl : RdsA W 1 ao l.length (bytes l) ∨ Rds W R 1 ao l.length (bytes l)) :
    Does1 W Tryz.prog 140 [.pointer (some ⟨b, 0, none⟩), .int .i64 k, .int .i64 a, .slice ao l.length cap] (BayR b D :: R) (.int .u16 (D.write k a l).1) (BayR b (D.write k a l).2 :: R) := by
  (refine Does.enter Tryz.func140 Tryz.ntmps140 rfl rfl ?_)
  (refine w ?_; repeat ((first | refine VO.step rfl rfl ?_ | refine VD.end rfl rfl rfl ?_ | refine VD.mid rfl rfl rfl ?_); refine OpV.box rfl rfl rfl ?_; intro _; refine w ?_))
  rename_i ba bd
  (first | refine VO.pure rfl rfl (PureAt.makeFuncN rfl) rfl ?_ | refine VD.take rfl rfl rfl (PureAt.makeFuncN rfl) rfl ?_ | refine VQ.pure rfl rfl (PureAt.makeFuncN rfl) rfl ?_ | refine VD.end rfl rfl rfl (OpV.pure (PureAt.makeFuncN rfl) rfl ?_))
  (refine w ?_; repeat ((first | refine VO.step rfl rfl ?_ | refine VD.end rfl rfl rfl ?_ | refine VD.mid rfl rfl rfl ?_); refine OpV.box rfl rfl rfl ?_; intro _; refine w ?_))
  refine VO.ent (Reord.ent (L := BayR b D :: Row ba 3 [.int .i64 a] :: Row bd 68 [.slice ao l.length cap] :: R) (by (repeat first | exact .refl | (apply Reord.cons; focus repeat first | exact .head | apply Del.tail) | exact .nil | apply Reord.drop))) ?_
  (first | refine VO.step rfl rfl ?_ | refine VD.end rfl rfl rfl ?_ | refine VD.mid rfl rfl rfl ?_)
  refine OpV.call rfl rfl (fun _ _ => by simp) (operate_ok (gd := 197) (gc := 196) (cp := #[.pointer (some ⟨ba, 0, none⟩), .pointer (some ⟨bd, 0, none⟩)]) (kf := fun k => (k.wr a l).2) (R := Row ba 3 [.int .i64 a] :: Row bd 68 [.slice ao l.length cap] :: R) b D k 1 (by decide) (fun _ _ => by simp) (fun _ _ => by simp) (fun X => writes_ok b) (fun r d hv hr X => writef_ok r d ba bd (D.dv k) (D.dv k).k a hc hl X)) Ent.refl rfl ?_
  intro y hy
  unfold BayD.write
  cases y with
  | none =>
    have hr : D.refuse k ≠ 0 := hy
    dsimp only [Option.elim_none]
    rw [if_neg hr]
    (refine w ?_; repeat ((first | refine VO.step rfl rfl ?_ | refine VD.end rfl rfl rfl ?_ | refine VD.mid rfl rfl rfl ?_); refine OpV.box rfl rfl rfl ?_; intro _; refine w ?_))
    (refine VE.done1 rfl ?_ ?_)
    · rfl
    · exact Ent.re
  | some x =>
    obtain ⟨hr, hx⟩ : D.refuse k = 0 ∧ True := hy
    dsimp only [Option.elim_some]
    rw [if_pos hr]
    (refine w ?_; repeat ((first | refine VO.step rfl rfl ?_ | refine VD.end rfl rfl rfl ?_ | refine VD.mid rfl rfl rfl ?_); refine OpV.box rfl rfl rfl ?_; intro _; refine w ?_))
    (refine VE.done1 rfl ?_ ?_)
    · rfl
    · exact Ent.re

theorem flushf2_ok {W : World} {R : List SProp} (r d : Nat) (v : DevD) (k : DiskD) (X : List SProp) :
    Does W Tryz.prog 190 [.pointer (some ⟨r, 0, none⟩)] (Row r 134 (devCells d v) :: DiskR d k :: (X ++ R))
      (β := Unit) (fun _ => True) (fun _ => .int .u16 k.fl.1) (fun _ => Row r 134 (devCells d v) :: DiskR d k.fl.2 :: (X ++ R)) := by
  (refine Does.enter Tryz.func190 Tryz.ntmps190 rfl rfl ?_)
  (refine w ?_; repeat ((first | refine VO.step rfl rfl ?_ | refine VD.end rfl rfl rfl ?_ | refine VD.mid rfl rfl rfl ?_); refine OpV.box rfl rfl rfl ?_; intro _; refine w ?_))
  (((first | refine VO.step rfl rfl ?_ | refine VD.end rfl rfl rfl ?_ | refine VD.mid rfl rfl rfl ?_); refine OpV.call rfl rfl (fun _ _ => by simp) (dfl_ok d k) Ent.re rfl ?_); intro _ _)
  (refine w ?_; repeat ((first | refine VO.step rfl rfl ?_ | refine VD.end rfl rfl rfl ?_ | refine VD.mid rfl rfl rfl ?_); refine OpV.box rfl rfl rfl ?_; intro _; refine w ?_))
  exact VE.done () rfl trivial rfl Ent.re
theorem bayflush_ok {W : World} {R : List SProp} (b : Nat) (D : BayD) (k : Int) :
    Does1 W Tryz.prog 127 [.pointer (some ⟨b, 0, none⟩), .int .i64 k] (BayR b D :: R) (.int .u16 (D.flush k).1) (BayR b (D.flush k).2 :: R) := by
  (refine Does.enter Tryz.func127 Tryz.ntmps127 rfl rfl ?_)
  (refine w ?_; repeat ((first | refine VO.step rfl rfl ?_ | refine VD.end rfl rfl rfl ?_ | refine VD.mid rfl rfl rfl ?_); refine OpV.box rfl rfl rfl ?_; intro _; refine w ?_))
  (first | refine VO.step rfl rfl ?_ | refine VD.end rfl rfl rfl ?_ | refine VD.mid rfl rfl rfl ?_)
  refine OpV.call rfl rfl (fun _ _ => by simp) (operate_ok (gd := 190) (gc := 189) (cp := #[]) (kf := fun k => k.fl.2) (R := R) b D k 2 (by decide) (fun _ _ => by simp) (fun _ _ => by simp) (fun X => flushes_ok b) (fun r d hv hr X => flushf2_ok r d (D.dv k) (D.dv k).k X)) Ent.refl rfl ?_
  intro y hy
  unfold BayD.flush
  cases y with
  | none =>
    have hr : D.refuse k ≠ 0 := hy
    dsimp only [Option.elim_none]
    rw [if_neg hr]
    (refine w ?_; repeat ((first | refine VO.step rfl rfl ?_ | refine VD.end rfl rfl rfl ?_ | refine VD.mid rfl rfl rfl ?_); refine OpV.box rfl rfl rfl ?_; intro _; refine w ?_))
    (refine VE.done1 rfl ?_ ?_)
    · rfl
    · exact Ent.re
  | some x =>
    obtain ⟨hr, hx⟩ : D.refuse k = 0 ∧ True := hy
    dsimp only [Option.elim_some]
    rw [if_pos hr]
    (refine w ?_; repeat ((first | refine VO.step rfl rfl ?_ | refine VD.end rfl rfl rfl ?_ | refine VD.mid rfl rfl rfl ?_); refine OpV.box rfl rfl rfl ?_; intro _; refine w ?_))
    (refine VE.done1 rfl ?_ ?_)
    · rfl
    · exact Ent.re
end Go.Proofs.YtlojjlbngnaphaaGreat

/-! Text Bd. -/
/- Package bay: Fail, Wear, Trip, Pull, Push, Swap, Load. -/
set_option maxRecDepth 8000
set_option linter.unusedVariables false
set_option linter.unusedSimpArgs false
set_option linter.unusedSectionVars false
namespace Go.Proofs.YtlojjlbngnaphaaGreat
open Go.RowKit Go.Sl
attribute [local irreducible] Own

/-- Of a call that asks for a slot's disk: the error, if there is none. -/
def BayD.tE (D : BayD) (k : Int) : Int := thereE D.slots.length (D.dev k).isSome k
def BayD.fail (D : BayD) (k : Int) : Int × BayD := match D.dev k with
  | some v => (0, D.setIn k.toNat ⟨v.k.fail, v.worn, v.left⟩)
  | none => (D.tE k, D)
def BayD.trips (D : BayD) (n : Int) : Int × BayD := if n < 0 then (1, D) else if D.dark then (50, D) else (0, { D with trip := n })

/-! ### A slot as it lies in its array -/
theorem slots_set1 {l1 l2 : List SlotP} {s : SlotP} (j : Nat) (hj : j < 3) (v : Value) : ((l1 ++ s :: l2).flatMap slotCells).set (l1.length * 3 + j) v = l1.flatMap slotCells ++ ((slotCells s).set j v ++ l2.flatMap slotCells) := by
  have e : (l1.flatMap slotCells).length = l1.length * 3 := flat_length l1 fun _ _ => rfl
  rw [List.flatMap_append, List.flatMap_cons, List.set_append_right _ _ (by rw [e]; omega), e, show l1.length * 3 + j - l1.length * 3 = j by omega, List.set_append_left _ _ (by rw [slotCells_length]; exact hj)]
theorem slots_in {l1 l2 : List SlotP} {s : SlotP} (x : Option DevP) : ((l1 ++ s :: l2).flatMap slotCells).set (l1.length * 3 + 0) (devPtr x) = (l1 ++ { s with in_ := x } :: l2).flatMap slotCells := by
  rw [slots_set1 0 (by decide), List.flatMap_append, List.flatMap_cons]; rfl
theorem slots_coming {l1 l2 : List SlotP} {s : SlotP} (x : Option DevP) : ((l1 ++ s :: l2).flatMap slotCells).set (l1.length * 3 + 2) (devPtr x) = (l1 ++ { s with coming := x } :: l2).flatMap slotCells := by
  rw [slots_set1 2 (by decide), List.flatMap_append, List.flatMap_cons]; rfl
theorem slots_len {l1 l2 : List SlotP} {s : SlotP} (j : Nat) (hj : j < 3) : l1.length * 3 + j < ((l1 ++ s :: l2).flatMap slotCells).length := by
  rw [flat_length (g := slotCells) (w := 3) _ fun _ _ => rfl]; simp; omega
def BayD.setSlot (D : BayD) (i : Nat) (s : SlotD) : BayD := { D with slots := D.slots.set i s }
def BayD.slot (D : BayD) (k : Int) : SlotD := (D.slots[k.toNat]?).getD ⟨none, none, none⟩
theorem nilBools {W : World} {R : List SProp} : Rds W R 1 none 0 (bools []) := by
  refine ⟨rfl, fun _ h => ?_, fun _ => rfl, fun _ _ _ h => ?_⟩
  · cases h
  · cases h

/-! ### Swap, Load, Push -/
def SlotD.taken (s : SlotD) : Bool := (s.in_.any fun v => !v.k.failed) || s.coming.isSome
/-- Why nothing is laid into a slot; 0: it is. -/
def BayD.layE (D : BayD) (k : Int) : Int := if inRange D.slots.length k = false then 1 else if (D.slot k).taken then 52 else 0
def BayD.lay (D : BayD) (k : Int) (e : Int) (kd : DiskD) : Int × BayD :=
  if D.layE k ≠ 0 then (D.layE k, D) else if e ≠ 0 then (e, D) else (0, D.setSlot k.toNat ⟨some ⟨kd, false, 0⟩, (D.slot k).aside, (D.slot k).coming⟩)
def newE (n : Int) : Int := if 1 ≤ n ∧ n ≤ 8192 then 0 else 40
def BayD.swap (D : BayD) (k n : Int) : Int × BayD := if n < 0 then (1, D) else D.lay k (newE n) (.blank n.toNat)
def loadE (n : Nat) : Int := if n % 128 = 0 ∧ 1 ≤ n / 128 ∧ n / 128 ≤ 8192 then 0 else 40
def BayD.load (D : BayD) (k : Int) (l : List UInt8) : Int × BayD := D.lay k (loadE l.length) ⟨chunks l (l.length / 128), [], false⟩

def BayD.push (D : BayD) (k : Int) : Int × BayD :=
  if inRange D.slots.length k = false then (1, D) else if (D.slot k).aside.isNone then (51, D) else if (D.slot k).taken then (52, D) else (0, D.setSlot k.toNat ⟨(D.slot k).in_, none, (D.slot k).aside⟩)
end Go.Proofs.YtlojjlbngnaphaaGreat

