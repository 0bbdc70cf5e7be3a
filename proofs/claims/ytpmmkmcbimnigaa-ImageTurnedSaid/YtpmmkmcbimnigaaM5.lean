import Derived.Test.YtpmmkmcbimnigaaM4
import Derived.WalkKit
import Derived.ProofKit
import Derived.OpenShut
/-! Text Ld. -/
/- What the law's arguments are: bytes, scripts of calls. -/
set_option maxRecDepth 8000
set_option linter.unusedVariables false
set_option linter.unusedSimpArgs false
set_option linter.unusedSectionVars false
namespace Go.Proofs.Ytpmmkmcbimnigaa
open Go.RowKit Go.Sl

theorem byte_of {n : Int} (h : (Lit.int .u8 n).wf = true) : ∃ c : UInt8, n = (c.toNat : Int) := by
  have hb : 0 ≤ n ∧ n ≤ 255 := by simpa [Lit.wf, IntKind.min, IntKind.max, IntKind.signed, IntKind.bits] using h
  refine ⟨UInt8.ofNat n.toNat, ?_⟩
  simp; omega

end Go.Proofs.Ytpmmkmcbimnigaa

/-! Text Eo. -/
/- The journal's sectors: what the chapter's example fixes; arguments; comparisons of structs. -/
set_option maxRecDepth 8000
set_option linter.unusedVariables false
set_option linter.unusedSimpArgs false
set_option linter.unusedSectionVars false
namespace Go.Proofs.Ytpmmkmcbimnigaa
open Go.RowKit Go.Sl
attribute [local irreducible] Own

theorem hdr_same (a b : HdrD) : a = b ↔ a.epoch = b.epoch ∧ a.seq = b.seq ∧ a.index = b.index ∧ a.count = b.count ∧ a.member = b.member ∧ a.row = b.row ∧ a.escaped = b.escaped ∧ a.sum = b.sum := by cases a; cases b; simp
theorem cmt_same (a b : CmtD) : a = b ↔ a.epoch = b.epoch ∧ a.seq = b.seq ∧ a.count = b.count ∧ a.sum = b.sum := by cases a; cases b; simp
theorem chk_same (a b : ChkD) : a = b ↔ a.epoch = b.epoch ∧ a.seq = b.seq ∧ a.tail = b.tail := by cases a; cases b; simp
instance : DecidableEq HdrD := fun a b => decidable_of_iff _ (hdr_same a b).symm
instance : DecidableEq CmtD := fun a b => decidable_of_iff _ (cmt_same a b).symm
instance : DecidableEq ChkD := fun a b => decidable_of_iff _ (chk_same a b).symm
section
variable {W : World} {n : Nat} {H : List SProp} {f : Fr} {dst : Option Tmp} {ty_ : TypeId} {pos : String} {after : Array Edge} {guard : Option (Nat × Bool)} {op : BinOp} {x y : Operand} {u : TypeId} {v : Value}
end
/-! ### Arguments -/
theorem i64_of {z : Int} (h : (Lit.int .i64 z).wf = true) : -9223372036854775808 ≤ z ∧ z ≤ 9223372036854775807 := by
  simp [Lit.wf, IntKind.min, IntKind.max, IntKind.signed, IntKind.bits] at h; omega
/-! ### What the example fixes -/
def h0 : HdrD := ⟨1, 2, 0, 2, 3, 5, false, 9⟩
end Go.Proofs.Ytpmmkmcbimnigaa

/-! Text Bk. -/
/- The document's book: lists that are its owner's own. -/
set_option maxRecDepth 8000
set_option linter.unusedVariables false
set_option linter.unusedSimpArgs false
set_option linter.unusedSectionVars false
namespace Go.Proofs.Ytpmmkmcbimnigaa
open Go.RowKit Go.Sl
attribute [local irreducible] Own

/-- A list of bytes that somebody owns. -/
structure ListE where
  ao : Option Addr
  cap : Nat
  xs : List Value
def ListE.hdr (e : ListE) : Value := .slice e.ao e.xs.length e.cap
def ListE.res (e : ListE) : SProp := Own 5 1 (.slice e.ao e.xs.length e.cap) e.xs.length e.xs
def mk (z : Int) : Value := .int .u8 (IntKind.u8.wrap z)
def marks (a m : Nat) : List Value := (List.range m).map fun (k : Nat) => mk ((a : Int) * 97 + (k : Int) * 13)
def marks2 (a m : Nat) : List Value := (List.range m).map fun (k : Nat) => mk ((-1 - (a : Int)) * 97 + (k : Int) * 13)
@[simp] theorem marks_length (a m : Nat) : (marks a m).length = m := by simp [marks]
@[simp] theorem marks2_length (a m : Nat) : (marks2 a m).length = m := by simp [marks2]
theorem TwinR.none {W w : World} {H : List SProp} {e sz k cap k' cap' : Nat} {ao ao' : Option Addr} {xs ys : List Value} (hw : Holds W H w) (m : TwinR e sz ao cap k xs ao' cap' k' ys ∈ H) : (ao = none → k = 0) ∧ (ao' = none → k' = 0) := by
  obtain ⟨R, p⟩ := mem_perm m
  rcases TwinR.open (hw.perm p) with ⟨⟨e1, e2, e3, e4⟩, h⟩ | h
  · have := h.ownNone (.head _)
    exact ⟨fun q => by have := this (by rw [e1]; exact q); omega, this⟩
  · exact ⟨h.ownNone (.head _), h.ownNone (.tail _ (.head _))⟩

end Go.Proofs.Ytpmmkmcbimnigaa

/-! Text Lk. -/
/- What is lent: LentBytes, WholeBytes, SpoilBytes; calls on packers with bytes of one's own. -/
set_option maxRecDepth 8000
set_option linter.unusedVariables false
set_option linter.unusedSimpArgs false
set_option linter.unusedSectionVars false
namespace Go.Proofs.Ytpmmkmcbimnigaa
open Go.RowKit Go.Sl
attribute [local irreducible] Own

/-! ### What is lent -/

def lentV (l : List UInt8) : List Value := bytes l ++ [.int .u8 91, .int .u8 92]
theorem lentV_one (l : List UInt8) : ∀ u ∈ lentV l, u.oneCell' = true := by
  intro u hu
  rcases List.mem_append.1 hu with h | h
  · exact bytes_one _ u h
  · simp only [List.mem_cons, List.not_mem_nil, or_false] at h; rcases h with h | h <;> subst h <;> rfl
@[simp] theorem lentV_length (l : List UInt8) : (lentV l).length = l.length + 2 := by simp [lentV]
abbrev LentO (a : Addr) (cap : Nat) (l : List UInt8) : SProp := Own 5 1 (.slice (some a) (l.length + 2) cap) (l.length + 2) (lentV l)
theorem LentO.rds {W : World} {R : List SProp} {a : Addr} {cap : Nat} {l : List UInt8} : Rds W (LentO a cap l :: R) 1 (some a) l.length (bytes l) := by
  have h := Rds.take (l := l.length) (Rds.own (W := W) (H := LentO a cap l :: R) (lentV_one l) (.head _) (by rw [lentV_length, Nat.mul_one]) (fun h => by cases h)) (by omega)
  rw [Nat.mul_one, lentV, List.take_left' (by simp)] at h
  exact h

end Go.Proofs.Ytpmmkmcbimnigaa

/-! Text Bo. -/
/- The document's book of lists of bytes: Bytes, Own. -/
set_option maxRecDepth 8000
set_option linter.unusedVariables false
set_option linter.unusedSimpArgs false
set_option linter.unusedSectionVars false
namespace Go.Proofs.Ytpmmkmcbimnigaa
open Go.RowKit Go.Sl
attribute [local irreducible] Own

abbrev bookRow (lo : Option Addr) (n lc : Nat) : List Value := .slice lo n lc :: List.replicate 11 (.slice none 0 0)
def BookR (b : Nat) (E : List ListE) : SProp := ex fun x : Option Addr × Nat => Sl.star (Row b 46 (bookRow x.1 E.length x.2) :: Own 47 1 (.slice x.1 E.length x.2) E.length (E.map ListE.hdr) :: E.map ListE.res)
theorem BookR.open {W w : World} {b : Nat} {E : List ListE} {R : List SProp} (hw : Holds W (BookR b E :: R) w) : ∃ x : Option Addr × Nat, Holds W (Row b 46 (bookRow x.1 E.length x.2) :: Own 47 1 (.slice x.1 E.length x.2) E.length (E.map ListE.hdr) :: (E.map ListE.res ++ R)) w := by
  obtain ⟨x, h⟩ := hw.exOpen
  exact ⟨x, h.join⟩
theorem BookR.shut {W w : World} {b lc : Nat} {lo : Option Addr} {E : List ListE} {R : List SProp} (hw : Holds W (Row b 46 (bookRow lo E.length lc) :: Own 47 1 (.slice lo E.length lc) E.length (E.map ListE.hdr) :: (E.map ListE.res ++ R)) w) : Holds W (BookR b E :: R) w :=
  Holds.exShut (lo, lc) (Holds.nest (L := _ :: _ :: E.map ListE.res) hw)

end Go.Proofs.Ytpmmkmcbimnigaa

/-! Text Ep. -/
/- RecordLogged, RecordReads: the walks of the laws. -/
set_option maxRecDepth 8000
set_option linter.unusedVariables false
set_option linter.unusedSimpArgs false
set_option linter.unusedSectionVars false
namespace Go.Proofs.Ytpmmkmcbimnigaa
open Go.RowKit Go.Sl
attribute [local irreducible] Own

theorem flatMap_byteV (l : List UInt8) : l.flatMap (fun c => [byteV c]) = bytes l := by
  induction l with
  | nil => rfl
  | cons a r ih => simp only [List.flatMap_cons, ih]; rfl
theorem bytesC_of {W : World} {ao : Option Addr} {n cap : Nat} (h : InT Try.prog W 47 [.slice ao n cap]) : ∃ l : List UInt8, l.length = n ∧ RdsA W 1 ao n (bytes l) ∧ n ≤ 140737488351232 ∧ n ≤ cap := by
  obtain ⟨l, h1, h2, -, h4, h5⟩ := h.list (fun c : UInt8 => [byteV c]) (fun _ => True) 0 Try.underlying47 (by kernel_rfl) (fun o _ u hu => by simp at hu; subst hu; rfl) (fun cs hc => by
    obtain ⟨m, rfl, hw⟩ := hc.int_inv Try.underlying5
    obtain ⟨c, rfl⟩ := byte_of hw
    exact ⟨c, rfl, trivial⟩)
  have b1 : Try.prog.bytesOf 5 = 1 := by kernel_rfl
  rw [b1] at h5
  rw [flatMap_byteV] at h2
  exact ⟨l, h1, h2, by simp only [reachBytes] at h5; omega, h4⟩
end Go.Proofs.Ytpmmkmcbimnigaa

