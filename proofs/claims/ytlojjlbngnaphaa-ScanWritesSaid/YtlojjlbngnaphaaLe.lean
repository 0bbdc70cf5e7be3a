/- What the packer's and the reader's functions do, over resources. -/
import Derived.Test.YtlojjlbngnaphaaTab
set_option maxRecDepth 8000
set_option linter.unusedVariables false
set_option linter.unusedSimpArgs false
set_option linter.unusedSectionVars false
namespace Go.Proofs.Ytlojjlbngnaphaa
open Go.RowKit Go.Sl

def byteV (c : UInt8) : Value := .int .u8 (c.toNat : Int)
@[simp] theorem byteV_one (c : UInt8) : (byteV c).oneCell' = true := rfl
def bytes (l : List UInt8) : List Value := l.map byteV
@[simp] theorem bytes_one (l : List UInt8) : ∀ u ∈ bytes l, u.oneCell' = true := by
  intro u hu; obtain ⟨c, _, rfl⟩ := List.mem_map.1 hu; rfl
@[simp] theorem bytes_length (l : List UInt8) : (bytes l).length = l.length := by simp [bytes]
theorem bytes_append (a b : List UInt8) : bytes (a ++ b) = bytes a ++ bytes b := by simp [bytes]
theorem bytes_replicate (n : Nat) : bytes (List.replicate n 0) = List.replicate n (.int .u8 0) := by simp [bytes, byteV]

structure Pk where
  size : Nat
  had : List UInt8
  bad : Int

def Pk.ok (k : Pk) : Prop := k.had.length ≤ k.size ∧ k.size ≤ 4096 ∧ (k.bad = 0 ∨ k.bad = 10)

abbrev PackerO (p : Nat) (k : Pk) (ao : Option Addr) (cap : Nat) (R : List SProp) : List SProp :=
  Row p 178 [.int .i64 k.size, .slice ao k.had.length cap, .int .u16 k.bad] :: Own 5 1 (.slice ao k.had.length cap) k.had.length (bytes k.had) :: R
def PackerR (p : Nat) (k : Pk) : SProp := ex fun ac : Option Addr × Nat => Sl.star (fact k.ok :: PackerO p k ac.1 ac.2 [])

theorem PackerR.open {W w : World} {p : Nat} {k : Pk} {R : List SProp} (hw : Holds W (PackerR p k :: R) w) : ∃ x : { ac : Option Addr × Nat // k.ok }, Holds W (PackerO p k x.1.1 x.1.2 R) w := by
  obtain ⟨ac, h⟩ := hw.exOpen
  have h := h.join
  exact ⟨⟨ac, h.factOpen⟩, h.tail⟩

theorem PackerR.shut {W : World} {p : Nat} {k : Pk} {R : List SProp} (hk : k.ok) {ao : Option Addr} {cap : Nat} : Ent W (PackerO p k ao cap R) (PackerR p k :: R) := fun _ hw =>
  Holds.exShut (ao, cap) (Holds.nest (L := [_, _, _]) (hw.factShut hk))

theorem PackerR.shut' {W : World} {p : Nat} {k : Pk} {R : List SProp} (hk : k.ok) {ao : Option Addr} {cap n : Nat} {xs : List Value} (hn : n = k.had.length) (hx : xs = bytes k.had) :
    Ent W (Row p 178 [.int .i64 k.size, .slice ao n cap, .int .u16 k.bad] :: Own 5 1 (.slice ao n cap) n xs :: R) (PackerR p k :: R) := by
  subst hn hx; exact PackerR.shut hk

theorem PackerR.know {W w : World} {p : Nat} {k : Pk} {R : List SProp} (hw : Holds W (PackerR p k :: R) w) : k.ok := by
  obtain ⟨⟨_, h⟩, _⟩ := PackerR.open hw
  exact h

def Pk.room (k : Pk) (n : Int) : Pk := if k.bad = 0 ∧ (k.size : Int) - k.had.length < n then { k with bad := 10 } else k

theorem left_ok {W : World} {R : List SProp} (p : Nat) (k : Pk) :
    Does1 W Try.prog 110 [.pointer (some ⟨p, 0, none⟩)] (PackerR p k :: R) (.int .i64 ((k.size : Int) - k.had.length)) (PackerR p k :: R) := by
  (refine Does.enter Try.func110 Try.ntmps110 rfl rfl ?_)
  refine VC.obtain (fun w => PackerR.open) ?_
  rintro ⟨⟨ao, cap⟩, hk⟩
  have ⟨h1, h2, h3⟩ := hk
  (refine w ?_; repeat ((first | refine VO.step rfl rfl ?_ | refine VD.end rfl rfl rfl ?_ | refine VD.mid rfl rfl rfl ?_); refine OpV.box rfl rfl rfl ?_; intro _; refine w ?_))
  (refine VC.quiet rfl (by kernel_rfl) (by kernel_rfl) ?_)
  (refine w ?_; repeat ((first | refine VO.step rfl rfl ?_ | refine VD.end rfl rfl rfl ?_ | refine VD.mid rfl rfl rfl ?_); refine OpV.box rfl rfl rfl ?_; intro _; refine w ?_))
  (refine VE.done1 rfl rfl ?_)
  exact PackerR.shut hk

theorem Pk.room_ok {k : Pk} {n : Int} (h : k.ok) : (k.room n).ok := by
  unfold Pk.room
  split
  · exact ⟨h.1, h.2.1, .inr rfl⟩
  · exact h

theorem room_ok {W : World} {R : List SProp} (p : Nat) (k : Pk) (n : Int) :
    Does1 W Try.prog 102 [.pointer (some ⟨p, 0, none⟩), .int .i64 n] (PackerR p k :: R) (.bool ((k.room n).bad == 0)) (PackerR p (k.room n) :: R) := by
  (refine Does.enter Try.func102 Try.ntmps102 rfl rfl ?_)
  refine VC.obtain (fun w => PackerR.open) ?_
  rintro ⟨⟨ao, cap⟩, hk⟩
  have ⟨h1, h2, h3⟩ := hk
  (refine w ?_; repeat ((first | refine VO.step rfl rfl ?_ | refine VD.end rfl rfl rfl ?_ | refine VD.mid rfl rfl rfl ?_); refine OpV.box rfl rfl rfl ?_; intro _; refine w ?_))
  ((first | refine VO.split rfl rfl rfl ?_ ?_ | refine VD.split rfl rfl rfl ?_ ?_) <;> intro hb)
  · (refine w ?_; repeat ((first | refine VO.step rfl rfl ?_ | refine VD.end rfl rfl rfl ?_ | refine VD.mid rfl rfl rfl ?_); refine OpV.box rfl rfl rfl ?_; intro _; refine w ?_))
    (((first | refine VO.step rfl rfl ?_ | refine VD.end rfl rfl rfl ?_ | refine VD.mid rfl rfl rfl ?_); refine OpV.call rfl rfl (fun _ _ => by simp) (left_ok p k) (PackerR.shut hk) rfl ?_); intro _ _)
    refine VO.obtain (fun w => PackerR.open) ?_
    rintro ⟨⟨ao, cap⟩, -⟩
    (refine w ?_; repeat ((first | refine VO.step rfl rfl ?_ | refine VD.end rfl rfl rfl ?_ | refine VD.mid rfl rfl rfl ?_); refine OpV.box rfl rfl rfl ?_; intro _; refine w ?_))
    (refine VC.cond rfl rfl ?_ ?_ <;> intro hc)
    · (refine w ?_; repeat ((first | refine VO.step rfl rfl ?_ | refine VD.end rfl rfl rfl ?_ | refine VD.mid rfl rfl rfl ?_); refine OpV.box rfl rfl rfl ?_; intro _; refine w ?_))
      have e : k.room n = { k with bad := 10 } := by unfold Pk.room; rw [if_pos]; simp_all
      (refine VE.done1 rfl ?_ ?_)
      · rw [e]
      · rw [e]; exact PackerR.shut (k := { k with bad := 10 }) ⟨h1, h2, .inr rfl⟩
    · (refine w ?_; repeat ((first | refine VO.step rfl rfl ?_ | refine VD.end rfl rfl rfl ?_ | refine VD.mid rfl rfl rfl ?_); refine OpV.box rfl rfl rfl ?_; intro _; refine w ?_))
      have e : k.room n = k := by unfold Pk.room; rw [if_neg]; simp_all
      (refine VE.done1 rfl ?_ ?_)
      · rw [e]
      · rw [e]; exact PackerR.shut hk
  · (refine w ?_; repeat ((first | refine VO.step rfl rfl ?_ | refine VD.end rfl rfl rfl ?_ | refine VD.mid rfl rfl rfl ?_); refine OpV.box rfl rfl rfl ?_; intro _; refine w ?_))
    have e : k.room n = k := by unfold Pk.room; rw [if_neg]; simp_all
    (refine VE.done1 rfl ?_ ?_)
    · rw [e]
    · rw [e]; exact PackerR.shut hk

/-- The lowest j bytes of v. -/
def lowBytes (v : Nat) : Nat → List UInt8
  | 0 => []
  | j + 1 => lowBytes v j ++ [UInt8.ofNat (v / 256 ^ j)]
theorem lowBytes_length (v j : Nat) : (lowBytes v j).length = j := by induction j <;> simp [lowBytes, *]

def Pk.number (k : Pk) (v width : Nat) : Pk := if (k.room width).bad = 0 then { k with had := k.had ++ lowBytes v width } else k.room width

theorem Pk.room_had {k : Pk} {n : Int} : (k.room n).had = k.had := by unfold Pk.room; split <;> rfl
theorem Pk.room_size {k : Pk} {n : Int} : (k.room n).size = k.size := by unfold Pk.room; split <;> rfl
theorem Pk.room_zero {k : Pk} {n : Int} (h : (k.room n).bad = 0) : k.room n = k ∧ k.bad = 0 ∧ n ≤ (k.size : Int) - k.had.length := by
  unfold Pk.room at *
  split at h
  · cases h
  · rename_i hn
    rw [if_neg hn]
    exact ⟨rfl, h, by omega⟩

theorem u8_of (n : Nat) : IntKind.u8.wrap (n : Int) = ((UInt8.ofNat n).toNat : Int) := by
  simp only [IntKind.wrap, IntKind.bits, IntKind.signed, Bool.false_and, Bool.false_eq_true, if_false]
  simp

theorem number_ok {W : World} {R : List SProp} (p : Nat) (k : Pk) (v width : Nat) :
    Does1 W Try.prog 91 [.pointer (some ⟨p, 0, none⟩), .int .u64 v, .int .i64 width] (PackerR p k :: R) (.tuple #[]) (PackerR p (k.number v width) :: R) := by
  (refine Does.enter Try.func91 Try.ntmps91 rfl rfl ?_)
  refine VC.know (fun w => PackerR.know) ?_
  intro ⟨h1, h2, h3⟩
  (refine w ?_; repeat ((first | refine VO.step rfl rfl ?_ | refine VD.end rfl rfl rfl ?_ | refine VD.mid rfl rfl rfl ?_); refine OpV.box rfl rfl rfl ?_; intro _; refine w ?_))
  (((first | refine VO.step rfl rfl ?_ | refine VD.end rfl rfl rfl ?_ | refine VD.mid rfl rfl rfl ?_); refine OpV.call rfl rfl (fun _ _ => by simp) (room_ok p k width) Ent.re rfl ?_); intro _ _)
  (refine w ?_; repeat ((first | refine VO.step rfl rfl ?_ | refine VD.end rfl rfl rfl ?_ | refine VD.mid rfl rfl rfl ?_); refine OpV.box rfl rfl rfl ?_; intro _; refine w ?_))
  (refine VC.cond rfl rfl ?_ ?_ <;> intro hc)
  · (refine w ?_; repeat ((first | refine VO.step rfl rfl ?_ | refine VD.end rfl rfl rfl ?_ | refine VD.mid rfl rfl rfl ?_); refine OpV.box rfl rfl rfl ?_; intro _; refine w ?_))
    (refine VE.done1 rfl ?_ ?_)
    · rfl
    · have hr : ¬ (k.room width).bad = 0 := by simpa using hc
      rw [show k.number v width = k.room width by unfold Pk.number; rw [if_neg hr]]
      exact Ent.refl
  · (refine w ?_; repeat ((first | refine VO.step rfl rfl ?_ | refine VD.end rfl rfl rfl ?_ | refine VD.mid rfl rfl rfl ?_); refine OpV.box rfl rfl rfl ?_; intro _; refine w ?_))
    have hr : (k.room width).bad = 0 := by simpa using hc
    obtain ⟨e1, e2, e3⟩ := Pk.room_zero hr
    rw [e1]
    refine VC.loop (α := Nat) (fun j => j ≤ width) (fun j => PackerR p { k with had := k.had ++ lowBytes v j } :: R)
      (fun j => [(0, .pointer (some ⟨p, 0, none⟩)), (1, .int .u64 ((v / 256 ^ j : Nat) : Int)), (10, .int .i64 width), (11, .int .i64 j)]) (fun j => width - j) rfl 0 (Nat.zero_le _) ?_ ?_ ?_
    · simp only [lowBytes, List.append_nil]; exact Ent.refl
    · exact ⟨rfl, asV rfl (by simp), rfl, rfl, trivial⟩
    · intro j hj
      (refine w ?_; repeat ((first | refine VO.step rfl rfl ?_ | refine VD.end rfl rfl rfl ?_ | refine VD.mid rfl rfl rfl ?_); refine OpV.box rfl rfl rfl ?_; intro _; refine w ?_))
      (refine VC.cond rfl rfl ?_ ?_ <;> intro hc)
      · have hlt : j < width := by simpa using hc
        refine VC.obtain (fun w => PackerR.open) ?_
        rintro ⟨⟨ao, cap⟩, -⟩
        (refine w ?_; repeat ((first | refine VO.step rfl rfl ?_ | refine VD.end rfl rfl rfl ?_ | refine VD.mid rfl rfl rfl ?_); refine OpV.box rfl rfl rfl ?_; intro _; refine w ?_))
        refine VO.re 19 (byteV (UInt8.ofNat (v / 256 ^ j))) rfl (by rw [u8_of]; rfl) ?_
        ((first | refine VO.step rfl rfl ?_ | refine VD.end rfl rfl rfl ?_ | refine VD.mid rfl rfl rfl ?_); refine OpV.buildSlice1 st_55 rfl rfl (by first | (simp; done) | simp [Value.oneCell']) (by decide) rfl ?_; intro nb)
        have hl : (k.had ++ lowBytes v j).length = k.had.length + j := by simp [lowBytes_length]
        ((first | refine VO.step rfl rfl ?_ | refine VD.end rfl rfl rfl ?_ | refine VD.mid rfl rfl rfl ?_); refine OpV.appendRow st_55 rfl rfl (by (repeat first | exact .head | apply Hole.tail)) (by (focus repeat first | exact .head _ | apply List.Mem.tail)) rfl (by first | (simp; done) | simp [Value.oneCell']) ?_ ?_ rfl ?_)
        · simp only [hl, maxLen]; omega
        · simp only [hl]; omega
        intro ao cap
        (refine w ?_; repeat ((first | refine VO.step rfl rfl ?_ | refine VD.end rfl rfl rfl ?_ | refine VD.mid rfl rfl rfl ?_); refine OpV.box rfl rfl rfl ?_; intro _; refine w ?_))
        refine VE.round (j + 1) (by omega) (by omega) ⟨rfl, asV rfl (by rw [Nat.pow_succ, Nat.div_div_eq_div_mul]; rfl), rfl, rfl, trivial⟩ ?_
        have hl1 : (k.had ++ lowBytes v (j + 1)).length = k.had.length + j + 1 := by simp [lowBytes_length]; omega
        exact .drop (PackerR.shut' (k := { k with had := k.had ++ lowBytes v (j + 1) }) ⟨by simp only [hl1]; omega, h2, h3⟩ (by simp only [hl, hl1]) (by simp [bytes, lowBytes]))
      · have hge : j = width := by have : ¬ j < width := by simpa using hc
                                   omega
        subst hge
        (refine w ?_; repeat ((first | refine VO.step rfl rfl ?_ | refine VD.end rfl rfl rfl ?_ | refine VD.mid rfl rfl rfl ?_); refine OpV.box rfl rfl rfl ?_; intro _; refine w ?_))
        (refine VE.done1N rfl ?_ ?_)
        · rfl
        · rw [show k.number v j = { k with had := k.had ++ lowBytes v j } by unfold Pk.number; rw [if_pos hr]]
          exact Ent.refl

theorem ldB {W : World} {P : Program} {n : Nat} {H : List SProp} {f : Fr} {dst : Option Tmp} {ty_ : TypeId} {pos : String} {after : Array Edge} {guard : Option (Nat × Bool)} {T : TabData} {x : Operand} {s : TypeId} {a : Addr} {k j : Nat} {l : List UInt8} (hT : T.ok P = true) (hx : evalX f x = some (.pointer (some (a.add j)))) (hl : assoc T.leaf s = some ()) (hr : Rds W H 1 (some a) k (bytes l)) (hj : j < l.length) :
    PureAt W P n H f { dst, op := .load s x, type := ty_, pos, after, guard } (.int .u8 (l[j].toNat : Int)) :=
  PureAt.ldR hT hx hl hr (by simp [bytes, byteV, hj])

theorem new_ok {W : World} {R : List SProp} (size : Nat) (hs : size ≤ 4096) :
    Does W Try.prog 87 [.int .i64 size] R (β := Nat) (fun _ => True) (fun b => .tuple #[.pointer (some ⟨b, 0, none⟩), .int .u16 0]) (fun b => PackerR b ⟨size, [], 0⟩ :: R) := by
  (refine Does.enter Try.func87 Try.ntmps87 rfl rfl ?_)
  (refine w ?_; repeat ((first | refine VO.step rfl rfl ?_ | refine VD.end rfl rfl rfl ?_ | refine VD.mid rfl rfl rfl ?_); refine OpV.box rfl rfl rfl ?_; intro _; refine w ?_))
  (refine VC.condFe rfl rfl (by simp; omega) ?_)
  (refine w ?_; repeat ((first | refine VO.step rfl rfl ?_ | refine VD.end rfl rfl rfl ?_ | refine VD.mid rfl rfl rfl ?_); refine OpV.box rfl rfl rfl ?_; intro _; refine w ?_))
  (apply VO.pure rfl rfl; apply PureAt.build sb_178 rfl; (simp [buildX, setL, Value.cells]; rfl); rfl)
  (refine w ?_; repeat ((first | refine VO.step rfl rfl ?_ | refine VD.end rfl rfl rfl ?_ | refine VD.mid rfl rfl rfl ?_); refine OpV.box rfl rfl rfl ?_; intro _; refine w ?_))
  refine VE.done _ rfl trivial rfl ?_
  exact fun w hw => PackerR.shut' (k := ⟨size, [], 0⟩) ⟨Nat.zero_le _, hs, .inl rfl⟩ rfl rfl w (Holds.swap (hw.ownNil 5 1))

theorem new_bad {W : World} {R : List SProp} (size : Int) (hs : size < 0 ∨ 4096 < size) :
    Does1 W Try.prog 87 [.int .i64 size] R (.tuple #[.pointer none, .int .u16 1]) R := by
  (refine Does.enter Try.func87 Try.ntmps87 rfl rfl ?_)
  (refine w ?_; repeat ((first | refine VO.step rfl rfl ?_ | refine VD.end rfl rfl rfl ?_ | refine VD.mid rfl rfl rfl ?_); refine OpV.box rfl rfl rfl ?_; intro _; refine w ?_))
  ((first | refine VO.split rfl rfl rfl ?_ ?_ | refine VD.split rfl rfl rfl ?_ ?_) <;> intro hb)
  · (refine w ?_; repeat ((first | refine VO.step rfl rfl ?_ | refine VD.end rfl rfl rfl ?_ | refine VD.mid rfl rfl rfl ?_); refine OpV.box rfl rfl rfl ?_; intro _; refine w ?_))
    (first | exact VE.done1 rfl rfl Ent.refl | exact VE.done1N rfl rfl Ent.refl)
  · (refine w ?_; repeat ((first | refine VO.step rfl rfl ?_ | refine VD.end rfl rfl rfl ?_ | refine VD.mid rfl rfl rfl ?_); refine OpV.box rfl rfl rfl ?_; intro _; refine w ?_))
    (refine VC.condTe rfl rfl (by simp at hb; simp; omega) ?_)
    (refine w ?_; repeat ((first | refine VO.step rfl rfl ?_ | refine VD.end rfl rfl rfl ?_ | refine VD.mid rfl rfl rfl ?_); refine OpV.box rfl rfl rfl ?_; intro _; refine w ?_))
    (first | exact VE.done1 rfl rfl Ent.refl | exact VE.done1N rfl rfl Ent.refl)

theorem wrap64_of {v : Nat} (h : v < 2 ^ 64) : IntKind.u64.wrap (v : Int) = v := by
  simp only [IntKind.wrap, IntKind.bits, IntKind.signed, Bool.false_and, Bool.false_eq_true, if_false]
  omega
theorem wrap32_of (v : Nat) : IntKind.u32.wrap (v : Int) = ((v % 2 ^ 32 : Nat) : Int) := by
  simp only [IntKind.wrap, IntKind.bits, IntKind.signed, Bool.false_and, Bool.false_eq_true, if_false]
  omega
theorem wrap16_of (v : Nat) : IntKind.u16.wrap (v : Int) = ((v % 2 ^ 16 : Nat) : Int) := by
  simp only [IntKind.wrap, IntKind.bits, IntKind.signed, Bool.false_and, Bool.false_eq_true, if_false]
  omega
theorem wrap8_of (v : Nat) : IntKind.u8.wrap (v : Int) = ((v % 2 ^ 8 : Nat) : Int) := by
  simp only [IntKind.wrap, IntKind.bits, IntKind.signed, Bool.false_and, Bool.false_eq_true, if_false]
  omega

theorem u64_ok {W : World} {R : List SProp} (p : Nat) (k : Pk) (v : Nat) :
    Does1 W Try.prog 89 [.pointer (some ⟨p, 0, none⟩), .int .u64 v] (PackerR p k :: R) (.tuple #[]) (PackerR p (k.number v 8) :: R) := by
  (refine Does.enter Try.func89 Try.ntmps89 rfl rfl ?_)
  (refine w ?_; repeat ((first | refine VO.step rfl rfl ?_ | refine VD.end rfl rfl rfl ?_ | refine VD.mid rfl rfl rfl ?_); refine OpV.box rfl rfl rfl ?_; intro _; refine w ?_))
  (((first | refine VO.step rfl rfl ?_ | refine VD.end rfl rfl rfl ?_ | refine VD.mid rfl rfl rfl ?_); refine OpV.call rfl rfl (fun _ _ => by simp) (number_ok p k v 8) Ent.re rfl ?_); intro _ _)
  (refine w ?_; repeat ((first | refine VO.step rfl rfl ?_ | refine VD.end rfl rfl rfl ?_ | refine VD.mid rfl rfl rfl ?_); refine OpV.box rfl rfl rfl ?_; intro _; refine w ?_))
  (first | exact VE.done1 rfl rfl Ent.refl | exact VE.done1N rfl rfl Ent.refl)
theorem u32_ok {W : World} {R : List SProp} (p : Nat) (k : Pk) (v : Nat) (hv : v < 2 ^ 64) :
    Does1 W Try.prog 68 [.pointer (some ⟨p, 0, none⟩), .int .u32 v] (PackerR p k :: R) (.tuple #[]) (PackerR p (k.number v 4) :: R) := by
  (refine Does.enter Try.func68 Try.ntmps68 rfl rfl ?_)
  (refine w ?_; repeat ((first | refine VO.step rfl rfl ?_ | refine VD.end rfl rfl rfl ?_ | refine VD.mid rfl rfl rfl ?_); refine OpV.box rfl rfl rfl ?_; intro _; refine w ?_))
  refine VO.re 6 (.int .u64 v) rfl (by rw [wrap64_of hv]) ?_
  (((first | refine VO.step rfl rfl ?_ | refine VD.end rfl rfl rfl ?_ | refine VD.mid rfl rfl rfl ?_); refine OpV.call rfl rfl (fun _ _ => by simp) (number_ok p k v 4) Ent.re rfl ?_); intro _ _)
  (refine w ?_; repeat ((first | refine VO.step rfl rfl ?_ | refine VD.end rfl rfl rfl ?_ | refine VD.mid rfl rfl rfl ?_); refine OpV.box rfl rfl rfl ?_; intro _; refine w ?_))
  (first | exact VE.done1 rfl rfl Ent.refl | exact VE.done1N rfl rfl Ent.refl)
/-- All bytes of a packer, noughts behind what was put. -/
def Pk.image (k : Pk) : List UInt8 := k.had ++ List.replicate (k.size - k.had.length) 0

theorem bytes_bad {W : World} {R : List SProp} (p : Nat) (k : Pk) (hb : k.bad ≠ 0) :
    Does1 W Try.prog 90 [.pointer (some ⟨p, 0, none⟩)] (PackerR p k :: R) (.tuple #[.slice none 0 0, .int .u16 k.bad]) (PackerR p k :: R) := by
  (refine Does.enter Try.func90 Try.ntmps90 rfl rfl ?_)
  refine VC.obtain (fun w => PackerR.open) ?_
  rintro ⟨⟨ao, cap⟩, hk⟩
  (refine w ?_; repeat ((first | refine VO.step rfl rfl ?_ | refine VD.end rfl rfl rfl ?_ | refine VD.mid rfl rfl rfl ?_); refine OpV.box rfl rfl rfl ?_; intro _; refine w ?_))
  (refine VC.condTe rfl rfl (by simpa using hb) ?_)
  (refine w ?_; repeat ((first | refine VO.step rfl rfl ?_ | refine VD.end rfl rfl rfl ?_ | refine VD.mid rfl rfl rfl ?_); refine OpV.box rfl rfl rfl ?_; intro _; refine w ?_))
  ((refine VC.quiet rfl (by kernel_rfl) (by kernel_rfl) ?_); (refine w ?_; repeat ((first | refine VO.step rfl rfl ?_ | refine VD.end rfl rfl rfl ?_ | refine VD.mid rfl rfl rfl ?_); refine OpV.box rfl rfl rfl ?_; intro _; refine w ?_)))
  (refine VE.done1 rfl rfl ?_)
  exact PackerR.shut hk

theorem bytes_ok {W : World} {R : List SProp} (p : Nat) (k : Pk) (hb : k.bad = 0) :
    Does W Try.prog 90 [.pointer (some ⟨p, 0, none⟩)] (PackerR p k :: R) (β := Nat) (fun _ => True) (fun b => .tuple #[.slice (some ⟨b, 0, none⟩) k.size k.size, .int .u16 0])
      (fun b => Own 5 1 (.slice (some ⟨b, 0, none⟩) k.size k.size) k.size (bytes k.image) :: PackerR p k :: R) := by
  (refine Does.enter Try.func90 Try.ntmps90 rfl rfl ?_)
  refine VC.obtain (fun w => PackerR.open) ?_
  rintro ⟨⟨ao, cap⟩, hk⟩
  have ⟨h1, h2, h3⟩ := hk
  (refine w ?_; repeat ((first | refine VO.step rfl rfl ?_ | refine VD.end rfl rfl rfl ?_ | refine VD.mid rfl rfl rfl ?_); refine OpV.box rfl rfl rfl ?_; intro _; refine w ?_))
  (refine VC.condFe rfl rfl (by simpa using hb) ?_)
  (refine w ?_; repeat ((first | refine VO.step rfl rfl ?_ | refine VD.end rfl rfl rfl ?_ | refine VD.mid rfl rfl rfl ?_); refine OpV.box rfl rfl rfl ?_; intro _; refine w ?_))
  ((first | refine VO.step rfl rfl ?_ | refine VD.end rfl rfl rfl ?_ | refine VD.mid rfl rfl rfl ?_); refine OpV.makeSlice1 st_55 rfl rfl rfl ?_ ?_ rfl ?_)
  · omega
  · simp only [maxLen]; omega
  intro b
  (refine w ?_; repeat ((first | refine VO.step rfl rfl ?_ | refine VD.end rfl rfl rfl ?_ | refine VD.mid rfl rfl rfl ?_); refine OpV.box rfl rfl rfl ?_; intro _; refine w ?_))
  ((first | refine VO.step rfl rfl ?_ | refine VD.end rfl rfl rfl ?_ | refine VD.mid rfl rfl rfl ?_); refine OpV.copy st_55 rfl rfl (by (repeat first | exact .head | apply Hole.tail)) (fun w hw => Sees.own (bytes_one _) hw (by (focus repeat first | exact .head _ | apply List.Mem.tail))) rfl ?_)
  have e : min k.had.length k.size = k.had.length := by omega
  rw [e]
  (refine w ?_; repeat ((first | refine VO.step rfl rfl ?_ | refine VD.end rfl rfl rfl ?_ | refine VD.mid rfl rfl rfl ?_); refine OpV.box rfl rfl rfl ?_; intro _; refine w ?_))
  refine VE.done b rfl trivial rfl ?_
  have e2 : (bytes k.had).take (k.had.length * 1) ++ (List.replicate k.size (Value.int .u8 0)).drop (k.had.length * 1) = bytes k.image := by
    rw [Pk.image, bytes_append, bytes_replicate, Nat.mul_one, List.take_of_length_le (by simp)]; simp
  rw [e2]
  exact fun w hw => (PackerR.shut hk w (hw.reord (by (repeat first | exact .refl | (apply Reord.cons; focus repeat first | exact .head | apply Del.tail) | exact .nil | apply Reord.drop)))).swap

theorem same_any {W : World} {R : List SProp} {ao ao' : Option Addr} {n n' cap cap' : Nat} {a b : List UInt8} (ha : Rds W R 1 ao n (bytes a)) (hb : Rds W R 1 ao' n' (bytes b)) (hn : n ≤ maxLen) :
    Does1 W Try.prog 31 [.slice ao n cap, .slice ao' n' cap'] R (.bool (decide (a = b))) R := by
  have la : a.length = n := by have := ha.len; simpa using this
  have lb : b.length = n' := by have := hb.len; simpa using this
  unfold maxLen at hn
  (refine Does.enter Try.func31 Try.ntmps31 rfl rfl ?_)
  (refine w ?_; repeat ((first | refine VO.step rfl rfl ?_ | refine VD.end rfl rfl rfl ?_ | refine VD.mid rfl rfl rfl ?_); refine OpV.box rfl rfl rfl ?_; intro _; refine w ?_))
  by_cases hl : n = n'
  · subst hl
    (refine VC.condFe rfl rfl (by simp) ?_)
    (refine w ?_; repeat ((first | refine VO.step rfl rfl ?_ | refine VD.end rfl rfl rfl ?_ | refine VD.mid rfl rfl rfl ?_); refine OpV.box rfl rfl rfl ?_; intro _; refine w ?_))
    refine VC.loop (α := Nat) (fun j => j ≤ n ∧ ∀ i (h : i < a.length) (h' : i < b.length), i < j → a[i] = b[i]) (fun j => R)
      (fun j => [(0, .slice ao n cap), (1, .slice ao' n cap'), (5, .int .i64 j)]) (fun j => n - j) rfl 0 ⟨Nat.zero_le _, fun _ _ _ h => absurd h (by omega)⟩ Ent.refl ⟨rfl, rfl, rfl, trivial⟩ ?_
    rintro j ⟨hj, hi⟩
    (refine w ?_; repeat ((first | refine VO.step rfl rfl ?_ | refine VD.end rfl rfl rfl ?_ | refine VD.mid rfl rfl rfl ?_); refine OpV.box rfl rfl rfl ?_; intro _; refine w ?_))
    (refine VC.cond rfl rfl ?_ ?_ <;> intro hc)
    · have hlt : j < n := by simpa using hc
      obtain ⟨a0, rfl⟩ : ∃ a0, ao = some a0 := by cases ao with | none => have := ha.nil rfl; omega | some a0 => exact ⟨a0, rfl⟩
      obtain ⟨b0, rfl⟩ : ∃ b0, ao' = some b0 := by cases ao' with | none => have := hb.nil rfl; omega | some b0 => exact ⟨b0, rfl⟩
      have hb1 := ha
      have hb2 := hb
      (refine w ?_; repeat ((first | refine VO.step rfl rfl ?_ | refine VD.end rfl rfl rfl ?_ | refine VD.mid rfl rfl rfl ?_); refine OpV.box rfl rfl rfl ?_; intro _; refine w ?_))
      ((refine VC.quiet rfl (by kernel_rfl) (by kernel_rfl) ?_); (refine w ?_; repeat ((first | refine VO.step rfl rfl ?_ | refine VD.end rfl rfl rfl ?_ | refine VD.mid rfl rfl rfl ?_); refine OpV.box rfl rfl rfl ?_; intro _; refine w ?_)))
      (refine VC.cond rfl rfl ?_ ?_ <;> intro hc)
      · (refine w ?_; repeat ((first | refine VO.step rfl rfl ?_ | refine VD.end rfl rfl rfl ?_ | refine VD.mid rfl rfl rfl ?_); refine OpV.box rfl rfl rfl ?_; intro _; refine w ?_))
        (refine VE.done1 rfl ?_ ?_)
        · have hne : a[j]'(by omega) ≠ b[j]'(by omega) := by
            intro e; rw [e] at hc; simp at hc
          have : a ≠ b := fun e => hne (by subst e; rfl)
          simp [this]
        · exact Ent.refl
      · (refine w ?_; repeat ((first | refine VO.step rfl rfl ?_ | refine VD.end rfl rfl rfl ?_ | refine VD.mid rfl rfl rfl ?_); refine OpV.box rfl rfl rfl ?_; intro _; refine w ?_))
        have he : a[j]'(by omega) = b[j]'(by omega) := by
          have : ((a[j]'(by omega)).toNat : Int) = ((b[j]'(by omega)).toNat : Int) := by simpa using hc
          exact UInt8.toNat_inj.1 (by omega)
        refine VE.round (j + 1) ⟨by omega, fun i h h' hij => ?_⟩ (by omega) ⟨rfl, rfl, rfl, trivial⟩ Ent.refl
        by_cases e : i = j
        · subst e; exact he
        · exact hi i h h' (by omega)
    · have hge : j = n := by have : ¬ j < n := by simpa using hc
                             omega
      (refine w ?_; repeat ((first | refine VO.step rfl rfl ?_ | refine VD.end rfl rfl rfl ?_ | refine VD.mid rfl rfl rfl ?_); refine OpV.box rfl rfl rfl ?_; intro _; refine w ?_))
      (refine VE.done1 rfl ?_ ?_)
      · have : a = b := List.ext_getElem (by omega) fun i h h' => hi i h h' (by omega)
        simp [this]
      · exact Ent.refl
  · (refine VC.condTe rfl rfl (by simp; omega) ?_)
    (refine w ?_; repeat ((first | refine VO.step rfl rfl ?_ | refine VD.end rfl rfl rfl ?_ | refine VD.mid rfl rfl rfl ?_); refine OpV.box rfl rfl rfl ?_; intro _; refine w ?_))
    (refine VE.done1 rfl ?_ ?_)
    · have : a ≠ b := fun e => hl (by subst e; omega)
      simp [this]
    · exact Ent.refl

end Go.Proofs.Ytlojjlbngnaphaa
