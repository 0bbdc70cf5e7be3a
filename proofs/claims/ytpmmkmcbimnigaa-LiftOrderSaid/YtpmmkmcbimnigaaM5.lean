import Derived.Test.YtpmmkmcbimnigaaM4
import Derived.WalkKit
import Derived.ProofKit
import Derived.OpenShut
/-! Text Ld. -/
/- What the law's arguments are: bytes, scripts of calls. -/
set_option maxRecDepth 8000
set_option linter.unusedVariables false
set_option linter.unusedSimpArgs false
set_option linter.unusedSectionVars false
namespace Go.Proofs.Ytpmmkmcbimnigaa
open Go.RowKit Go.Sl

theorem byte_of {n : Int} (h : (Lit.int .u8 n).wf = true) : ∃ c : UInt8, n = (c.toNat : Int) := by
  have hb : 0 ≤ n ∧ n ≤ 255 := by simpa [Lit.wf, IntKind.min, IntKind.max, IntKind.signed, IntKind.bits] using h
  refine ⟨UInt8.ofNat n.toNat, ?_⟩
  simp; omega

end Go.Proofs.Ytpmmkmcbimnigaa

/-! Text Eo. -/
/- The journal's sectors: what the chapter's example fixes; arguments; comparisons of structs. -/
set_option maxRecDepth 8000
set_option linter.unusedVariables false
set_option linter.unusedSimpArgs false
set_option linter.unusedSectionVars false
namespace Go.Proofs.Ytpmmkmcbimnigaa
open Go.RowKit Go.Sl
attribute [local irreducible] Own

theorem hdr_same (a b : HdrD) : a = b ↔ a.epoch = b.epoch ∧ a.seq = b.seq ∧ a.index = b.index ∧ a.count = b.count ∧ a.member = b.member ∧ a.row = b.row ∧ a.escaped = b.escaped ∧ a.sum = b.sum := by cases a; cases b; simp
theorem cmt_same (a b : CmtD) : a = b ↔ a.epoch = b.epoch ∧ a.seq = b.seq ∧ a.count = b.count ∧ a.sum = b.sum := by cases a; cases b; simp
theorem chk_same (a b : ChkD) : a = b ↔ a.epoch = b.epoch ∧ a.seq = b.seq ∧ a.tail = b.tail := by cases a; cases b; simp
instance : DecidableEq HdrD := fun a b => decidable_of_iff _ (hdr_same a b).symm
instance : DecidableEq CmtD := fun a b => decidable_of_iff _ (cmt_same a b).symm
instance : DecidableEq ChkD := fun a b => decidable_of_iff _ (chk_same a b).symm
section
variable {W : World} {n : Nat} {H : List SProp} {f : Fr} {dst : Option Tmp} {ty_ : TypeId} {pos : String} {after : Array Edge} {guard : Option (Nat × Bool)} {op : BinOp} {x y : Operand} {u : TypeId} {v : Value}
end
/-! ### Arguments -/
theorem i64_of {z : Int} (h : (Lit.int .i64 z).wf = true) : -9223372036854775808 ≤ z ∧ z ≤ 9223372036854775807 := by
  simp [Lit.wf, IntKind.min, IntKind.max, IntKind.signed, IntKind.bits] at h; omega
/-! ### What the example fixes -/
def h0 : HdrD := ⟨1, 2, 0, 2, 3, 5, false, 9⟩
end Go.Proofs.Ytpmmkmcbimnigaa

/-! Text Bk. -/
/- The document's book: lists that are its owner's own. -/
set_option maxRecDepth 8000
set_option linter.unusedVariables false
set_option linter.unusedSimpArgs false
set_option linter.unusedSectionVars false
namespace Go.Proofs.Ytpmmkmcbimnigaa
open Go.RowKit Go.Sl
attribute [local irreducible] Own

/-- A list of bytes that somebody owns. -/
structure ListE where
  ao : Option Addr
  cap : Nat
  xs : List Value
def ListE.hdr (e : ListE) : Value := .slice e.ao e.xs.length e.cap
def ListE.res (e : ListE) : SProp := Own 5 1 (.slice e.ao e.xs.length e.cap) e.xs.length e.xs
def mk (z : Int) : Value := .int .u8 (IntKind.u8.wrap z)
def marks (a m : Nat) : List Value := (List.range m).map fun (k : Nat) => mk ((a : Int) * 97 + (k : Int) * 13)
def marks2 (a m : Nat) : List Value := (List.range m).map fun (k : Nat) => mk ((-1 - (a : Int)) * 97 + (k : Int) * 13)
@[simp] theorem marks_length (a m : Nat) : (marks a m).length = m := by simp [marks]
@[simp] theorem marks2_length (a m : Nat) : (marks2 a m).length = m := by simp [marks2]
theorem TwinR.none {W w : World} {H : List SProp} {e sz k cap k' cap' : Nat} {ao ao' : Option Addr} {xs ys : List Value} (hw : Holds W H w) (m : TwinR e sz ao cap k xs ao' cap' k' ys ∈ H) : (ao = none → k = 0) ∧ (ao' = none → k' = 0) := by
  obtain ⟨R, p⟩ := mem_perm m
  rcases TwinR.open (hw.perm p) with ⟨⟨e1, e2, e3, e4⟩, h⟩ | h
  · have := h.ownNone (.head _)
    exact ⟨fun q => by have := this (by rw [e1]; exact q); omega, this⟩
  · exact ⟨h.ownNone (.head _), h.ownNone (.tail _ (.head _))⟩

end Go.Proofs.Ytpmmkmcbimnigaa

/-! Text Lk. -/
/- What is lent: LentBytes, WholeBytes, SpoilBytes; calls on packers with bytes of one's own. -/
set_option maxRecDepth 8000
set_option linter.unusedVariables false
set_option linter.unusedSimpArgs false
set_option linter.unusedSectionVars false
namespace Go.Proofs.Ytpmmkmcbimnigaa
open Go.RowKit Go.Sl
attribute [local irreducible] Own

/-! ### What is lent -/

def lentV (l : List UInt8) : List Value := bytes l ++ [.int .u8 91, .int .u8 92]
theorem lentV_one (l : List UInt8) : ∀ u ∈ lentV l, u.oneCell' = true := by
  intro u hu
  rcases List.mem_append.1 hu with h | h
  · exact bytes_one _ u h
  · simp only [List.mem_cons, List.not_mem_nil, or_false] at h; rcases h with h | h <;> subst h <;> rfl
@[simp] theorem lentV_length (l : List UInt8) : (lentV l).length = l.length + 2 := by simp [lentV]
abbrev LentO (a : Addr) (cap : Nat) (l : List UInt8) : SProp := Own 5 1 (.slice (some a) (l.length + 2) cap) (l.length + 2) (lentV l)
theorem LentO.rds {W : World} {R : List SProp} {a : Addr} {cap : Nat} {l : List UInt8} : Rds W (LentO a cap l :: R) 1 (some a) l.length (bytes l) := by
  have h := Rds.take (l := l.length) (Rds.own (W := W) (H := LentO a cap l :: R) (lentV_one l) (.head _) (by rw [lentV_length, Nat.mul_one]) (fun h => by cases h)) (by omega)
  rw [Nat.mul_one, lentV, List.take_left' (by simp)] at h
  exact h

end Go.Proofs.Ytpmmkmcbimnigaa

/-! Text Bo. -/
/- The document's book of lists of bytes: Bytes, Own. -/
set_option maxRecDepth 8000
set_option linter.unusedVariables false
set_option linter.unusedSimpArgs false
set_option linter.unusedSectionVars false
namespace Go.Proofs.Ytpmmkmcbimnigaa
open Go.RowKit Go.Sl
attribute [local irreducible] Own

abbrev bookRow (lo : Option Addr) (n lc : Nat) : List Value := .slice lo n lc :: List.replicate 11 (.slice none 0 0)
def BookR (b : Nat) (E : List ListE) : SProp := ex fun x : Option Addr × Nat => Sl.star (Row b 46 (bookRow x.1 E.length x.2) :: Own 47 1 (.slice x.1 E.length x.2) E.length (E.map ListE.hdr) :: E.map ListE.res)
theorem BookR.open {W w : World} {b : Nat} {E : List ListE} {R : List SProp} (hw : Holds W (BookR b E :: R) w) : ∃ x : Option Addr × Nat, Holds W (Row b 46 (bookRow x.1 E.length x.2) :: Own 47 1 (.slice x.1 E.length x.2) E.length (E.map ListE.hdr) :: (E.map ListE.res ++ R)) w := by
  obtain ⟨x, h⟩ := hw.exOpen
  exact ⟨x, h.join⟩
theorem BookR.shut {W w : World} {b lc : Nat} {lo : Option Addr} {E : List ListE} {R : List SProp} (hw : Holds W (Row b 46 (bookRow lo E.length lc) :: Own 47 1 (.slice lo E.length lc) E.length (E.map ListE.hdr) :: (E.map ListE.res ++ R)) w) : Holds W (BookR b E :: R) w :=
  Holds.exShut (lo, lc) (Holds.nest (L := _ :: _ :: E.map ListE.res) hw)

end Go.Proofs.Ytpmmkmcbimnigaa

/-! Text Ep. -/
/- RecordLogged, RecordReads: the walks of the laws. -/
set_option maxRecDepth 8000
set_option linter.unusedVariables false
set_option linter.unusedSimpArgs false
set_option linter.unusedSectionVars false
namespace Go.Proofs.Ytpmmkmcbimnigaa
open Go.RowKit Go.Sl
attribute [local irreducible] Own

theorem flatMap_byteV (l : List UInt8) : l.flatMap (fun c => [byteV c]) = bytes l := by
  induction l with
  | nil => rfl
  | cons a r ih => simp only [List.flatMap_cons, ih]; rfl
theorem bytesC_of {W : World} {ao : Option Addr} {n cap : Nat} (h : InT Try.prog W 47 [.slice ao n cap]) : ∃ l : List UInt8, l.length = n ∧ RdsA W 1 ao n (bytes l) ∧ n ≤ 140737488351232 ∧ n ≤ cap := by
  obtain ⟨l, h1, h2, -, h4, h5⟩ := h.list (fun c : UInt8 => [byteV c]) (fun _ => True) 0 Try.underlying47 (by kernel_rfl) (fun o _ u hu => by simp at hu; subst hu; rfl) (fun cs hc => by
    obtain ⟨m, rfl, hw⟩ := hc.int_inv Try.underlying5
    obtain ⟨c, rfl⟩ := byte_of hw
    exact ⟨c, rfl, trivial⟩)
  have b1 : Try.prog.bytesOf 5 = 1 := by kernel_rfl
  rw [b1] at h5
  rw [flatMap_byteV] at h2
  exact ⟨l, h1, h2, by simp only [reachBytes] at h5; omega, h4⟩
end Go.Proofs.Ytpmmkmcbimnigaa

/-! Text Sb. -/
/- The engine: a region that draws its order, where at one point several writes may come first. Generic: no program is named. -/
set_option maxRecDepth 8000
set_option linter.unusedVariables false
set_option linter.unusedSimpArgs false
set_option linter.unusedSectionVars false
namespace Go.Sl
open Go Go.RowKit
section
variable {P : Program} {ops : Array Oper} {Q : Exit → Act → World → Prop} {S : World → Prop}
/-- Each operation that may come now stands at the head of one of the schedules. -/
def brB (ops : Array Oper) (mv : List Nat) (tl : Nat) (bs : List (List Nat)) (k : Nat) (listed : Array Bool) : Bool :=
  !(Region.ready .any ops listed).isEmpty && (Region.ready .any ops listed).all fun i => bs.any fun r => match r with
    | [] => false
    | j :: t => Nat.beq i j && (mv.contains j && (Nat.blt j tl && (Nat.beq t.length k && headB ops mv tl t (listed.setIfInBounds j true))))
def preB (ops : Array Oper) (mv : List Nat) (tl : Nat) (bs : List (List Nat)) (k : Nat) : List Nat → Array Bool → Bool
  | [], listed => brB ops mv tl bs k listed
  | i :: r, listed => (!mvB mv tl i && Region.free .any ops listed i) && ((Region.ready .any ops listed).contains i && preB ops mv tl bs k r (listed.setIfInBounds i true))
def drawBrB (ops : Array Oper) (mv : List Nat) (tl : Nat) (pre : List Nat) (bs : List (List Nat)) : Bool :=
  Nat.beq (pre.length + (ops.size - pre.length - 1 + 1)) ops.size && Region.noSelect ops && (Nat.ble ops.size tl || (Region.sinkB .any ops tl && Region.chainB .any ops tl && Nat.blt tl ops.size)) && preB ops mv tl bs (ops.size - pre.length - 1) pre (Array.replicate ops.size false)
def BrQ (P : Program) (ops : Array Oper) (Q : Exit → Act → World → Prop) (S : World → Prop) (mv : List Nat) (tl : Nat) (bs : List (List Nat)) : Exit → Act → World → Prop :=
  fun _ a w => ∀ r ∈ bs, wpSched P ops Q S mv tl r a w
theorem sched_br {mv : List Nat} {tl : Nat} {bs : List (List Nat)} {k : Nat} (ht : TailOk .any ops tl) (hs : Region.noSelect ops = true) : ∀ (r : List Nat) (listed : Array Bool) (a : Act) (w : World), HeadInv .any ops tl listed → preB ops mv tl bs k r listed = true → S w →
    wpSched P ops (BrQ P ops Q S mv tl bs) S mv tl r a w → wpAnyT P .any ops (calmQ Q) S tl (r.length + (k + 1)) listed a w
  | [], listed, a, w, inv, h, hS, hw => by
    simp only [preB, brB, Bool.and_eq_true] at h
    rw [List.length_nil, Nat.zero_add]
    refine ⟨fun h0 => (by rw [h0] at h; simp at h), fun i hi => ?_⟩
    have h1 := List.all_eq_true.1 h.2 i hi
    obtain ⟨r, hr, h2⟩ := List.any_eq_true.1 h1
    cases r with
    | nil => cases h2
    | cons j t =>
      simp only [Bool.and_eq_true] at h2
      obtain ⟨e, hm, hlt, hk, hh⟩ := h2
      have e : i = j := by simpa using e
      subst e
      have hk : t.length = k := by simpa using hk
      have hin : i < tl := by simpa [Nat.blt_eq] using hlt
      rcases hw _ hr with ⟨_, hw⟩ | ⟨hm', _⟩
      · refine wpOp_mono (fun a' w' h' => ⟨h'.1, ?_⟩) hw
        rw [← hk]
        exact sched_head ht hs t _ a' w' (inv.set hi hin) hh (h'.1 hin) h'.2
      · simp only [mvB, hm, Bool.true_or] at hm'; cases hm'
  | i :: r, listed, a, w, inv, h, hS, hw => by
    simp only [preB, Bool.and_eq_true] at h
    obtain ⟨⟨h1, h2⟩, h3, h4⟩ := h
    have h1 : mvB mv tl i = false := by simpa using h1
    have hin : i < tl := by
      rcases Nat.lt_or_ge i tl with h' | h'
      · exact h'
      · rw [mvB_of_tail (Nat.ble_eq_true_of_le h')] at h1; cases h1
    have hr : i ∈ Region.ready .any ops listed := by simpa using h3
    rcases hw with ⟨hm, _⟩ | ⟨_, o, v, ho, hy, hw⟩
    · rw [h1] at hm; cases hm
    · rw [List.length_cons, Nat.add_right_comm]
      exact wpAnyT_first ht ho (Region.noSelect_spec hs) (fun c a w hc => by cases hc.1) hin _ listed a w inv (Region.free_spec ho h2) hr hy hS (sched_br ht hs r _ _ w (inv.set hr hin) h4 hS hw)
theorem wp_region_br {id : Nat} {mv : List Nat} {tl : Nat} {pre : List Nat} {bs : List (List Nat)} {a : Act} {w : World} (hm : P.follows .mixedOrders = true) (hB : drawBrB ops mv tl pre bs = true) (hS : S w.drew)
    (h : wpSched P ops (BrQ P ops Q S mv tl bs) S mv tl pre a w.drew) : (Code.region id ops true).wp P Q a w := by
  simp only [drawBrB, Bool.and_eq_true, Bool.or_eq_true] at hB
  obtain ⟨⟨⟨hl, hs⟩, ht⟩, hh⟩ := hB
  have hl' := Nat.eq_of_beq_eq_true hl
  have ht' : TailOk .any ops tl := by
    rcases ht with h | ⟨⟨h1, h2⟩, h3⟩
    · exact .inl (Nat.le_of_ble_eq_true h)
    · exact .inr ⟨h1, h2, by simpa [Nat.blt_eq] using h3⟩
  have h1 := sched_br (P := P) (Q := Q) (S := S) ht' hs pre _ a w.drew (HeadInv.start tl) hh hS h
  rw [hl'] at h1
  refine Code.wp_mono ?_ (wp_region_any (Q := calmQ Q) hm (wpAny_of_T _ _ _ _ h1))
  rintro e a w ⟨rfl, hq⟩
  exact hq
end
section
variable {W : World} {P : Program} {n : Nat} {c : Code} {Q : Exit → Act → World → Prop} {H R : List SProp} {f : Fr}
theorem VC.drawnBr (mv : List Nat) (tl : Nat) (pre : List Nat) (bs : List (List Nat)) (R : List SProp) (hc : regDraw c = some true) (hm : P.follows .mixedOrders = true) (hB : drawBrB (regOps c).toArray mv tl pre bs = true) (hR : Ent W H R)
    (h : VD W P n c R mv tl pre (BrQ P (regOps c).toArray Q (Holds W R) mv tl bs) H f) : VC W P n c Q H f := by
  unfold VC
  unfold VD at h
  cases c <;> simp [regDraw] at hc
  subst hc
  intro t w hk hw
  have h' := h t w.drew hk hw.drew
  simp only [regOps, Array.toArray_toList] at h' hB
  exact wp_region_br hm hB (hR _ hw.drew) h'
theorem VE.branch2 {mv r1 r2 : List Nat} {tl : Nat} (h1 : VD W P n c R mv tl r1 Q H f) (h2 : VD W P n c R mv tl r2 Q H f) : VE W n (BrQ P (regOps c).toArray Q (Holds W R) mv tl [r1, r2]) .normal H f := by
  unfold VE
  unfold VD at h1 h2
  intro t w hk hw r hr
  rcases List.mem_cons.1 hr with rfl | hr
  · exact h1 t w hk hw
  · rcases List.mem_cons.1 hr with rfl | hr
    · exact h2 t w hk hw
    · cases hr
end
end Go.Sl

