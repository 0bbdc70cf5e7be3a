import Derived.Test.YtlojjlbngnaphaaGreatM4
import Derived.WalkKit
import Derived.ProofKit
import Derived.OpenShut
/-! Text Ld. -/
/- What the law's arguments are: bytes, scripts of calls. -/
set_option maxRecDepth 8000
set_option linter.unusedVariables false
set_option linter.unusedSimpArgs false
set_option linter.unusedSectionVars false
namespace Go.Proofs.YtlojjlbngnaphaaGreat
open Go.RowKit Go.Sl

theorem byte_of {n : Int} (h : (Lit.int .u8 n).wf = true) : ∃ c : UInt8, n = (c.toNat : Int) := by
  have hb : 0 ≤ n ∧ n ≤ 255 := by simpa [Lit.wf, IntKind.min, IntKind.max, IntKind.signed, IntKind.bits] using h
  refine ⟨UInt8.ofNat n.toNat, ?_⟩
  simp; omega

end Go.Proofs.YtlojjlbngnaphaaGreat

/-! Text Eo. -/
/- The journal's sectors: what the chapter's example fixes; arguments; comparisons of structs. -/
set_option maxRecDepth 8000
set_option linter.unusedVariables false
set_option linter.unusedSimpArgs false
set_option linter.unusedSectionVars false
namespace Go.Proofs.YtlojjlbngnaphaaGreat
open Go.RowKit Go.Sl
attribute [local irreducible] Own

theorem hdr_same (a b : HdrD) : a = b ↔ a.epoch = b.epoch ∧ a.seq = b.seq ∧ a.index = b.index ∧ a.count = b.count ∧ a.member = b.member ∧ a.row = b.row ∧ a.escaped = b.escaped ∧ a.sum = b.sum := by cases a; cases b; simp
theorem cmt_same (a b : CmtD) : a = b ↔ a.epoch = b.epoch ∧ a.seq = b.seq ∧ a.count = b.count ∧ a.sum = b.sum := by cases a; cases b; simp
theorem chk_same (a b : ChkD) : a = b ↔ a.epoch = b.epoch ∧ a.seq = b.seq ∧ a.tail = b.tail := by cases a; cases b; simp
instance : DecidableEq HdrD := fun a b => decidable_of_iff _ (hdr_same a b).symm
instance : DecidableEq CmtD := fun a b => decidable_of_iff _ (cmt_same a b).symm
instance : DecidableEq ChkD := fun a b => decidable_of_iff _ (chk_same a b).symm
section
variable {W : World} {n : Nat} {H : List SProp} {f : Fr} {dst : Option Tmp} {ty_ : TypeId} {pos : String} {after : Array Edge} {guard : Option (Nat × Bool)} {op : BinOp} {x y : Operand} {u : TypeId} {v : Value}
end
/-! ### Arguments -/
theorem i64_of {z : Int} (h : (Lit.int .i64 z).wf = true) : -9223372036854775808 ≤ z ∧ z ≤ 9223372036854775807 := by
  simp [Lit.wf, IntKind.min, IntKind.max, IntKind.signed, IntKind.bits] at h; omega
/-! ### What the example fixes -/
def h0 : HdrD := ⟨1, 2, 0, 2, 3, 5, false, 9⟩
end Go.Proofs.YtlojjlbngnaphaaGreat

/-! Text Bk. -/
/- The document's book: lists that are its owner's own. -/
set_option maxRecDepth 8000
set_option linter.unusedVariables false
set_option linter.unusedSimpArgs false
set_option linter.unusedSectionVars false
namespace Go.Proofs.YtlojjlbngnaphaaGreat
open Go.RowKit Go.Sl
attribute [local irreducible] Own

/-- A list of bytes that somebody owns. -/
structure ListE where
  ao : Option Addr
  cap : Nat
  xs : List Value
def ListE.hdr (e : ListE) : Value := .slice e.ao e.xs.length e.cap
def ListE.res (e : ListE) : SProp := Own 5 1 (.slice e.ao e.xs.length e.cap) e.xs.length e.xs
def mk (z : Int) : Value := .int .u8 (IntKind.u8.wrap z)
def marks (a m : Nat) : List Value := (List.range m).map fun (k : Nat) => mk ((a : Int) * 97 + (k : Int) * 13)
def marks2 (a m : Nat) : List Value := (List.range m).map fun (k : Nat) => mk ((-1 - (a : Int)) * 97 + (k : Int) * 13)
@[simp] theorem marks_length (a m : Nat) : (marks a m).length = m := by simp [marks]
@[simp] theorem marks2_length (a m : Nat) : (marks2 a m).length = m := by simp [marks2]
theorem TwinR.none {W w : World} {H : List SProp} {e sz k cap k' cap' : Nat} {ao ao' : Option Addr} {xs ys : List Value} (hw : Holds W H w) (m : TwinR e sz ao cap k xs ao' cap' k' ys ∈ H) : (ao = none → k = 0) ∧ (ao' = none → k' = 0) := by
  obtain ⟨R, p⟩ := mem_perm m
  rcases TwinR.open (hw.perm p) with ⟨⟨e1, e2, e3, e4⟩, h⟩ | h
  · have := h.ownNone (.head _)
    exact ⟨fun q => by have := this (by rw [e1]; exact q); omega, this⟩
  · exact ⟨h.ownNone (.head _), h.ownNone (.tail _ (.head _))⟩

end Go.Proofs.YtlojjlbngnaphaaGreat

/-! Text Lk. -/
/- What is lent: LentBytes, WholeBytes, SpoilBytes; calls on packers with bytes of one's own. -/
set_option maxRecDepth 8000
set_option linter.unusedVariables false
set_option linter.unusedSimpArgs false
set_option linter.unusedSectionVars false
namespace Go.Proofs.YtlojjlbngnaphaaGreat
open Go.RowKit Go.Sl
attribute [local irreducible] Own

/-! ### What is lent -/

def lentV (l : List UInt8) : List Value := bytes l ++ [.int .u8 91, .int .u8 92]
theorem lentV_one (l : List UInt8) : ∀ u ∈ lentV l, u.oneCell' = true := by
  intro u hu
  rcases List.mem_append.1 hu with h | h
  · exact bytes_one _ u h
  · simp only [List.mem_cons, List.not_mem_nil, or_false] at h; rcases h with h | h <;> subst h <;> rfl
@[simp] theorem lentV_length (l : List UInt8) : (lentV l).length = l.length + 2 := by simp [lentV]
abbrev LentO (a : Addr) (cap : Nat) (l : List UInt8) : SProp := Own 5 1 (.slice (some a) (l.length + 2) cap) (l.length + 2) (lentV l)
theorem LentO.rds {W : World} {R : List SProp} {a : Addr} {cap : Nat} {l : List UInt8} : Rds W (LentO a cap l :: R) 1 (some a) l.length (bytes l) := by
  have h := Rds.take (l := l.length) (Rds.own (W := W) (H := LentO a cap l :: R) (lentV_one l) (.head _) (by rw [lentV_length, Nat.mul_one]) (fun h => by cases h)) (by omega)
  rw [Nat.mul_one, lentV, List.take_left' (by simp)] at h
  exact h

end Go.Proofs.YtlojjlbngnaphaaGreat

/-! Text Bo. -/
/- The document's book of lists of bytes: Bytes, Own. -/
set_option maxRecDepth 8000
set_option linter.unusedVariables false
set_option linter.unusedSimpArgs false
set_option linter.unusedSectionVars false
namespace Go.Proofs.YtlojjlbngnaphaaGreat
open Go.RowKit Go.Sl
attribute [local irreducible] Own

abbrev bookRow (lo : Option Addr) (n lc : Nat) : List Value := .slice lo n lc :: List.replicate 11 (.slice none 0 0)
def BookR (b : Nat) (E : List ListE) : SProp := ex fun x : Option Addr × Nat => Sl.star (Row b 97 (bookRow x.1 E.length x.2) :: Own 68 1 (.slice x.1 E.length x.2) E.length (E.map ListE.hdr) :: E.map ListE.res)
theorem BookR.open {W w : World} {b : Nat} {E : List ListE} {R : List SProp} (hw : Holds W (BookR b E :: R) w) : ∃ x : Option Addr × Nat, Holds W (Row b 97 (bookRow x.1 E.length x.2) :: Own 68 1 (.slice x.1 E.length x.2) E.length (E.map ListE.hdr) :: (E.map ListE.res ++ R)) w := by
  obtain ⟨x, h⟩ := hw.exOpen
  exact ⟨x, h.join⟩
theorem BookR.shut {W w : World} {b lc : Nat} {lo : Option Addr} {E : List ListE} {R : List SProp} (hw : Holds W (Row b 97 (bookRow lo E.length lc) :: Own 68 1 (.slice lo E.length lc) E.length (E.map ListE.hdr) :: (E.map ListE.res ++ R)) w) : Holds W (BookR b E :: R) w :=
  Holds.exShut (lo, lc) (Holds.nest (L := _ :: _ :: E.map ListE.res) hw)

end Go.Proofs.YtlojjlbngnaphaaGreat

/-! Text Ep. -/
/- RecordLogged, RecordReads: the walks of the laws. -/
set_option maxRecDepth 8000
set_option linter.unusedVariables false
set_option linter.unusedSimpArgs false
set_option linter.unusedSectionVars false
namespace Go.Proofs.YtlojjlbngnaphaaGreat
open Go.RowKit Go.Sl
attribute [local irreducible] Own

theorem flatMap_byteV (l : List UInt8) : l.flatMap (fun c => [byteV c]) = bytes l := by
  induction l with
  | nil => rfl
  | cons a r ih => simp only [List.flatMap_cons, ih]; rfl
theorem bytesC_of {W : World} {ao : Option Addr} {n cap : Nat} (h : InT Tryz.prog W 68 [.slice ao n cap]) : ∃ l : List UInt8, l.length = n ∧ RdsA W 1 ao n (bytes l) ∧ n ≤ 140737488351232 ∧ n ≤ cap := by
  obtain ⟨l, h1, h2, -, h4, h5⟩ := h.list (fun c : UInt8 => [byteV c]) (fun _ => True) 0 Tryz.underlying68 (by kernel_rfl) (fun o _ u hu => by simp at hu; subst hu; rfl) (fun cs hc => by
    obtain ⟨m, rfl, hw⟩ := hc.int_inv Tryz.underlying5
    obtain ⟨c, rfl⟩ := byte_of hw
    exact ⟨c, rfl, trivial⟩)
  have b1 : Tryz.prog.bytesOf 5 = 1 := by kernel_rfl
  rw [b1] at h5
  rw [flatMap_byteV] at h2
  exact ⟨l, h1, h2, by simp only [reachBytes] at h5; omega, h4⟩
end Go.Proofs.YtlojjlbngnaphaaGreat

/-! Text Be. -/
/- Package bay: Cut, New. -/
set_option maxRecDepth 8000
set_option linter.unusedVariables false
set_option linter.unusedSimpArgs false
set_option linter.unusedSectionVars false
namespace Go.Proofs.YtlojjlbngnaphaaGreat
open Go.RowKit Go.Sl
attribute [local irreducible] Own

/-! ### What is kept of each slot's disk -/
structure KeepD where
  ao : Option Addr
  cap : Nat
  l : List Bool
abbrev KeepD.hdr (x : KeepD) : Value := .slice x.ao x.l.length x.cap
/-- The slice of what is kept: its headers can be read, and so can what they lead to. -/
structure Keeps (W : World) (R : List SProp) (ao : Option Addr) (kl : List KeepD) : Prop where
  rds : Rds W R 1 ao kl.length (kl.map KeepD.hdr)
  wf : ∀ x ∈ kl, Rds W R 1 x.ao x.l.length (bools x.l)
theorem Keeps.ent {W : World} {H R : List SProp} {ao : Option Addr} {kl : List KeepD} (h : Keeps W R ao kl) (e : Ent W H R) : Keeps W H ao kl := ⟨h.rds.ent e, fun x hx => (h.wf x hx).ent e⟩

def SlotD.cut (s : SlotD) (l : List Bool) : SlotD :=
  if s.coming.isSome then ⟨s.coming, s.aside, none⟩ else ⟨s.in_.map fun v => ⟨v.k.settle (keepOf l), v.worn, v.left⟩, s.aside, none⟩
def BayD.cut (D : BayD) (kl : List (List Bool)) : BayD := { D with slots := D.slots.mapIdx fun i s => s.cut (kl.getD i []), dark := false, trip := -1 }

theorem cut_step (sl : List SlotD) (kl : List (List Bool)) (i : Nat) (h : i < sl.length) : (sl.mapIdx fun j s => s.cut (kl.getD j [])).take (i + 1) = (sl.mapIdx fun j s => s.cut (kl.getD j [])).take i ++ [sl[i].cut (kl.getD i [])] := by
  rw [List.take_succ_eq_append_getElem (by simpa using h)]
  simp

theorem bayInR {W : World} {b n : Nat} {D : BayD} {a : Addr} {l1 l2 : List SlotP} {R : List SProp} (s' : SlotP) (hn : (l1 ++ s' :: l2).length = n) :
    Ent W (devRes s'.in_ :: devRes s'.aside :: devRes s'.coming :: bayRow b D a n :: Own 130 3 (.slice (some a) n n) n ((l1 ++ s' :: l2).flatMap slotCells) :: ((l1 ++ l2).map slotRes ++ R))
      (bayRow b D a n :: Own 130 3 (.slice (some a) n n) n ((l1 ++ s' :: l2).flatMap slotCells) :: ((l1 ++ s' :: l2).map slotRes ++ R)) := by
  subst hn
  exact bayIn
set_option maxHeartbeats 1000000 in
theorem baycut_ok {W : World} {R : List SProp} {ao : Option Addr} {cap : Nat} {kl : List KeepD} (b : Nat) (D : BayD) (hk : Keeps W R ao kl) :
    Does1 W Tryz.prog 23 [.pointer (some ⟨b, 0, none⟩), .slice ao kl.length cap] (BayR b D :: R) (.tuple #[]) (BayR b (D.cut (kl.map KeepD.l)) :: R) := by
  (refine Does.enter Tryz.func23 Tryz.ntmps23 rfl rfl ?_)
  refine VC.obtain (fun w => BayR.open) ?_
  rintro ⟨⟨a, sp⟩, h1, h2⟩
  dsimp only at h1 h2 ⊢
  have hl : D.slots.length = sp.length := by rw [h1, List.length_map]
  (refine w ?_; repeat ((first | refine VO.step rfl rfl ?_ | refine VD.end rfl rfl rfl ?_ | refine VD.mid rfl rfl rfl ?_); refine OpV.box rfl rfl rfl ?_; intro _; refine w ?_))
  refine VC.loop (α := List SlotP) (fun dn => dn.length ≤ sp.length ∧ dn.map SlotP.D = (D.cut (kl.map KeepD.l)).slots.take dn.length)
    (fun dn => bayRow b D a sp.length :: Own 130 3 (.slice (some a) sp.length sp.length) sp.length ((dn ++ sp.drop dn.length).flatMap slotCells) :: ((dn ++ sp.drop dn.length).map slotRes ++ R))
    (fun dn => [(0, .pointer (some ⟨b, 0, none⟩)), (1, .slice ao kl.length cap), (11, .int .i64 sp.length), (12, .int .i64 dn.length)]) (fun dn => sp.length - dn.length) rfl [] ⟨Nat.zero_le _, rfl⟩ (by simp only [List.length_nil, List.drop_zero, List.nil_append]; exact Ent.re) ⟨rfl, rfl, rfl, rfl, trivial⟩ ?_
  rintro dn ⟨hdn, hdD⟩
  (refine w ?_; repeat ((first | refine VO.step rfl rfl ?_ | refine VD.end rfl rfl rfl ?_ | refine VD.mid rfl rfl rfl ?_); refine OpV.box rfl rfl rfl ?_; intro _; refine w ?_))
  (refine VC.cond rfl rfl ?_ ?_ <;> intro hc)
  · have hlt : dn.length < sp.length := by have := of_decide_eq_true hc; omega
    have hsp := List.drop_eq_getElem_cons hlt
    rw [hsp]
    generalize hs : sp[dn.length] = s at *
    generalize hl2 : sp.drop (dn.length + 1) = l2 at *
    have hn : (dn ++ s :: l2).length = sp.length := by rw [← hl2]; simp; omega
    have hsD : D.slots[dn.length]'(by omega) = s.D := by simp only [h1, List.getElem_map, hs]
    rw [← hn]
    have c0 := slots_get (dn ++ s :: l2) dn.length 0 (by simp) (by decide)
    have c2 := slots_get (dn ++ s :: l2) dn.length 2 (by simp) (by decide)
    simp only [List.getElem_append_right (Nat.le_refl _), Nat.sub_self, List.getElem_cons_zero] at c0 c2
    (refine w ?_; repeat ((first | refine VO.step rfl rfl ?_ | refine VD.end rfl rfl rfl ?_ | refine VD.mid rfl rfl rfl ?_); refine OpV.box rfl rfl rfl ?_; intro _; refine w ?_))
    refine VO.ent (bayOut (D := D)) ?_
    (refine w ?_; repeat ((first | refine VO.step rfl rfl ?_ | refine VD.end rfl rfl rfl ?_ | refine VD.mid rfl rfl rfl ?_); refine OpV.box rfl rfl rfl ?_; intro _; refine w ?_))
    (first | refine VO.pure rfl rfl (.ldRc tab_ok rfl rfl (slots_rds (by (focus repeat first | exact .head _ | apply List.Mem.tail))) (c0.trans rfl)) rfl ?_ | refine VD.take rfl rfl rfl (.ldRc tab_ok rfl rfl (slots_rds (by (focus repeat first | exact .head _ | apply List.Mem.tail))) (c0.trans rfl)) rfl ?_ | refine VQ.pure rfl rfl (.ldRc tab_ok rfl rfl (slots_rds (by (focus repeat first | exact .head _ | apply List.Mem.tail))) (c0.trans rfl)) rfl ?_ | refine VD.end rfl rfl rfl (OpV.pure (.ldRc tab_ok rfl rfl (slots_rds (by (focus repeat first | exact .head _ | apply List.Mem.tail))) (c0.trans rfl)) rfl ?_))
    (refine w ?_; repeat ((first | refine VO.step rfl rfl ?_ | refine VD.end rfl rfl rfl ?_ | refine VD.mid rfl rfl rfl ?_); refine OpV.box rfl rfl rfl ?_; intro _; refine w ?_))
    (refine VC.join (α := Option DevP) (fun x => devPtr x = devPtr s.in_ ∧ x.map DevP.v = s.D.in_.map fun v => ⟨v.k.settle (keepOf ((kl.map KeepD.l).getD dn.length [])), v.worn, v.left⟩) (fun x => devRes x :: BayX b D a dn s l2 R) (fun _ => [(0, .pointer (some ⟨b, 0, none⟩)), (1, .slice ao kl.length cap), (5, .pointer (some (a.add (dn.length * 3)))), (11, .int .i64 (dn ++ s :: l2).length), (12, .int .i64 dn.length)]) ?_ ?_)
    · intro Q2 jn
      cases hi : s.in_ with
      | none =>
        dsimp only [devPtr, Option.map_none, Option.isNone_none, Bool.not_true]
        (refine w ?_; repeat ((first | refine VO.step rfl rfl ?_ | refine VD.end rfl rfl rfl ?_ | refine VD.mid rfl rfl rfl ?_); refine OpV.box rfl rfl rfl ?_; intro _; refine w ?_))
        refine jn.to none ⟨by rw [hi], by rw [show s.D.in_ = s.in_.map DevP.v from rfl, hi]; rfl⟩ ⟨rfl, rfl, rfl, rfl, rfl, trivial⟩ Ent.refl
      | some p =>
        dsimp only [devPtr, Option.map_some, Option.isNone_some, Bool.not_false]
        (refine w ?_; repeat ((first | refine VO.step rfl rfl ?_ | refine VD.end rfl rfl rfl ?_ | refine VD.mid rfl rfl rfl ?_); refine OpV.box rfl rfl rfl ?_; intro _; refine w ?_))
        (refine VC.join (α := KeepD) (fun x => x.l = (kl.map KeepD.l).getD dn.length [] ∧ Rds W R 1 x.ao x.l.length (bools x.l)) (fun _ => devRes (some p) :: BayX b D a dn s l2 R) (fun x => [(0, .pointer (some ⟨b, 0, none⟩)), (1, .slice ao kl.length cap), (5, .pointer (some (a.add (dn.length * 3)))), (6, x.hdr), (11, .int .i64 (dn ++ s :: l2).length), (12, .int .i64 dn.length)]) ?_ ?_)
        · intro Q3 jn3
          (refine VC.cond rfl rfl ?_ ?_ <;> intro hc)
          · have hlk : dn.length < kl.length := by have := of_decide_eq_true hc; omega
            have hk2 := hk.ent (Ent.dropAll (W := W) (R := R) (devRes (some p) :: devRes s.aside :: devRes s.coming :: bayRow b D a (dn ++ s :: l2).length :: slotsOwn a (dn ++ s :: l2) :: (dn ++ l2).map slotRes))
            obtain ⟨ka, rfl⟩ : ∃ ka, ao = some ka := by cases ao with | none => have := hk.rds.nil rfl; omega | some ka => exact ⟨ka, rfl⟩
            (refine w ?_; repeat ((first | refine VO.step rfl rfl ?_ | refine VD.end rfl rfl rfl ?_ | refine VD.mid rfl rfl rfl ?_); refine OpV.box rfl rfl rfl ?_; intro _; refine w ?_))
            (first | refine VO.pure rfl rfl (.ldRc tab_ok rfl rfl hk2.rds (show (kl.map KeepD.hdr)[dn.length]? = some (kl[dn.length].hdr) by rw [List.getElem?_map, List.getElem?_eq_getElem hlk]; rfl)) rfl ?_ | refine VD.take rfl rfl rfl (.ldRc tab_ok rfl rfl hk2.rds (show (kl.map KeepD.hdr)[dn.length]? = some (kl[dn.length].hdr) by rw [List.getElem?_map, List.getElem?_eq_getElem hlk]; rfl)) rfl ?_ | refine VQ.pure rfl rfl (.ldRc tab_ok rfl rfl hk2.rds (show (kl.map KeepD.hdr)[dn.length]? = some (kl[dn.length].hdr) by rw [List.getElem?_map, List.getElem?_eq_getElem hlk]; rfl)) rfl ?_ | refine VD.end rfl rfl rfl (OpV.pure (.ldRc tab_ok rfl rfl hk2.rds (show (kl.map KeepD.hdr)[dn.length]? = some (kl[dn.length].hdr) by rw [List.getElem?_map, List.getElem?_eq_getElem hlk]; rfl)) rfl ?_))
            (refine w ?_; repeat ((first | refine VO.step rfl rfl ?_ | refine VD.end rfl rfl rfl ?_ | refine VD.mid rfl rfl rfl ?_); refine OpV.box rfl rfl rfl ?_; intro _; refine w ?_))
            refine jn3.to kl[dn.length] ⟨by simp [List.getD, hlk], hk.wf _ (List.getElem_mem hlk)⟩ ⟨rfl, rfl, rfl, rfl, rfl, rfl, trivial⟩ Ent.refl
          · have hlk : ¬ dn.length < kl.length := by have := of_decide_eq_false hc; omega
            (refine w ?_; repeat ((first | refine VO.step rfl rfl ?_ | refine VD.end rfl rfl rfl ?_ | refine VD.mid rfl rfl rfl ?_); refine OpV.box rfl rfl rfl ?_; intro _; refine w ?_))
            refine jn3.to ⟨none, 0, []⟩ ⟨by simp [List.getD, hlk], nilBools⟩ ⟨rfl, rfl, rfl, rfl, rfl, rfl, trivial⟩ Ent.refl
        · rintro x ⟨hx, hxr⟩
          (refine w ?_; repeat ((first | refine VO.step rfl rfl ?_ | refine VD.end rfl rfl rfl ?_ | refine VD.mid rfl rfl rfl ?_); refine OpV.box rfl rfl rfl ?_; intro _; refine w ?_))
          (first | refine VO.pure rfl rfl (.ldRc tab_ok rfl rfl (slots_rds (by (focus repeat first | exact .head _ | apply List.Mem.tail))) (c0.trans (by simp [slotCells, devPtr, hi]; rfl))) rfl ?_ | refine VD.take rfl rfl rfl (.ldRc tab_ok rfl rfl (slots_rds (by (focus repeat first | exact .head _ | apply List.Mem.tail))) (c0.trans (by simp [slotCells, devPtr, hi]; rfl))) rfl ?_ | refine VQ.pure rfl rfl (.ldRc tab_ok rfl rfl (slots_rds (by (focus repeat first | exact .head _ | apply List.Mem.tail))) (c0.trans (by simp [slotCells, devPtr, hi]; rfl))) rfl ?_ | refine VD.end rfl rfl rfl (OpV.pure (.ldRc tab_ok rfl rfl (slots_rds (by (focus repeat first | exact .head _ | apply List.Mem.tail))) (c0.trans (by simp [slotCells, devPtr, hi]; rfl))) rfl ?_))
          refine VO.ent (devOut p _) ?_
          (refine w ?_; repeat ((first | refine VO.step rfl rfl ?_ | refine VD.end rfl rfl rfl ?_ | refine VD.mid rfl rfl rfl ?_); refine OpV.box rfl rfl rfl ?_; intro _; refine w ?_))
          (((first | refine VO.step rfl rfl ?_ | refine VD.end rfl rfl rfl ?_ | refine VD.mid rfl rfl rfl ?_); refine OpV.call rfl rfl (fun _ _ => by simp) (crash_ok (l := x.l) p.d p.v.k (hxr.ent (Ent.dropAll (W := W) (R := R) (devRow p :: devRes s.aside :: devRes s.coming :: bayRow b D a (dn ++ s :: l2).length :: slotsOwn a (dn ++ s :: l2) :: (dn ++ l2).map slotRes)))) Ent.re rfl ?_); intro _ _)
          (refine w ?_; repeat ((first | refine VO.step rfl rfl ?_ | refine VD.end rfl rfl rfl ?_ | refine VD.mid rfl rfl rfl ?_); refine OpV.box rfl rfl rfl ?_; intro _; refine w ?_))
          refine jn.to (some ⟨p.r, p.d, ⟨p.v.k.settle (keepOf x.l), p.v.worn, p.v.left⟩⟩) ⟨by rw [hi]; rfl, ?_⟩ ⟨rfl, rfl, rfl, rfl, rfl, trivial⟩ ?_
          · rw [show s.D.in_ = s.in_.map DevP.v from rfl, hi, ← hx]; rfl
          · exact Ent.trans Ent.re (devIn ⟨p.r, p.d, ⟨p.v.k.settle (keepOf x.l), p.v.worn, p.v.left⟩⟩ _)
    · rintro x ⟨hx1, hx2⟩
      (refine w ?_; repeat ((first | refine VO.step rfl rfl ?_ | refine VD.end rfl rfl rfl ?_ | refine VD.mid rfl rfl rfl ?_); refine OpV.box rfl rfl rfl ?_; intro _; refine w ?_))
      (first | refine VO.pure rfl rfl (.ldRc tab_ok rfl rfl (slots_rds (by (focus repeat first | exact .head _ | apply List.Mem.tail))) (c2.trans rfl)) rfl ?_ | refine VD.take rfl rfl rfl (.ldRc tab_ok rfl rfl (slots_rds (by (focus repeat first | exact .head _ | apply List.Mem.tail))) (c2.trans rfl)) rfl ?_ | refine VQ.pure rfl rfl (.ldRc tab_ok rfl rfl (slots_rds (by (focus repeat first | exact .head _ | apply List.Mem.tail))) (c2.trans rfl)) rfl ?_ | refine VD.end rfl rfl rfl (OpV.pure (.ldRc tab_ok rfl rfl (slots_rds (by (focus repeat first | exact .head _ | apply List.Mem.tail))) (c2.trans rfl)) rfl ?_))
      (refine w ?_; repeat ((first | refine VO.step rfl rfl ?_ | refine VD.end rfl rfl rfl ?_ | refine VD.mid rfl rfl rfl ?_); refine OpV.box rfl rfl rfl ?_; intro _; refine w ?_))
      have hcut : ∀ s' : SlotP, s'.D = s.D.cut ((kl.map KeepD.l).getD dn.length []) → (dn ++ [s']).map SlotP.D = (D.cut (kl.map KeepD.l)).slots.take (dn ++ [s']).length := by
        intro s' hs'
        rw [List.length_append, List.length_singleton, List.map_append, hdD]
        unfold BayD.cut
        rw [cut_step _ _ _ (by omega), hsD, ← hs']; rfl
      have hdr : ∀ s' : SlotP, dn ++ [s'] ++ sp.drop (dn ++ [s']).length = dn ++ s' :: l2 := by intro s'; rw [List.length_append, List.length_singleton, hl2]; simp
      cases hco : s.coming with
      | none =>
        dsimp only [devPtr, Option.map_none, Option.isNone_none, Bool.not_true]
        (refine w ?_; repeat ((first | refine VO.step rfl rfl ?_ | refine VD.end rfl rfl rfl ?_ | refine VD.mid rfl rfl rfl ?_); refine OpV.box rfl rfl rfl ?_; intro _; refine w ?_))
        have e1 : slotCells s = slotCells ⟨x, s.aside, none⟩ := by unfold slotCells; rw [hx1, hco]
        refine VE.round (dn ++ [⟨x, s.aside, none⟩]) ⟨by rw [List.length_append, List.length_singleton]; omega, hcut _ ?_⟩ (by rw [hn, List.length_append, List.length_singleton]; omega) ⟨rfl, rfl, rfl, asV rfl (by simp), trivial⟩ ?_
        · unfold SlotD.cut
          rw [show s.D.coming = s.coming.map DevP.v from rfl, hco, if_neg (by simp), ← hx2]; rfl
        · rw [hdr]
          have e2 : (dn ++ s :: l2).flatMap slotCells = (dn ++ ⟨x, s.aside, none⟩ :: l2).flatMap slotCells := by simp only [List.flatMap_append, List.flatMap_cons, e1]
          simp only [BayX, slotsOwn]
          rw [e2, hco]
          exact bayInR ⟨x, s.aside, none⟩ (by simp)
      | some q =>
        dsimp only [devPtr, Option.map_some, Option.isNone_some, Bool.not_false]
        (refine w ?_; repeat ((first | refine VO.step rfl rfl ?_ | refine VD.end rfl rfl rfl ?_ | refine VD.mid rfl rfl rfl ?_); refine OpV.box rfl rfl rfl ?_; intro _; refine w ?_))
        (first | refine VO.pure rfl rfl (.ldRc tab_ok rfl rfl (slots_rds (by (focus repeat first | exact .head _ | apply List.Mem.tail))) (c2.trans (by simp [slotCells, devPtr, hco]; rfl))) rfl ?_ | refine VD.take rfl rfl rfl (.ldRc tab_ok rfl rfl (slots_rds (by (focus repeat first | exact .head _ | apply List.Mem.tail))) (c2.trans (by simp [slotCells, devPtr, hco]; rfl))) rfl ?_ | refine VQ.pure rfl rfl (.ldRc tab_ok rfl rfl (slots_rds (by (focus repeat first | exact .head _ | apply List.Mem.tail))) (c2.trans (by simp [slotCells, devPtr, hco]; rfl))) rfl ?_ | refine VD.end rfl rfl rfl (OpV.pure (.ldRc tab_ok rfl rfl (slots_rds (by (focus repeat first | exact .head _ | apply List.Mem.tail))) (c2.trans (by simp [slotCells, devPtr, hco]; rfl))) rfl ?_))
        (refine w ?_; repeat ((first | refine VO.step rfl rfl ?_ | refine VD.end rfl rfl rfl ?_ | refine VD.mid rfl rfl rfl ?_); refine OpV.box rfl rfl rfl ?_; intro _; refine w ?_))
        (first | refine VO.step rfl rfl ?_ | refine VD.end rfl rfl rfl ?_ | refine VD.mid rfl rfl rfl ?_)
        refine OpV.stO2 tab_ok rfl rfl rfl rfl (by (repeat first | exact .head | apply Hole.tail)) (slots_len 0 (by decide)) (slots_in (some q)) ?_
        (refine w ?_; repeat ((first | refine VO.step rfl rfl ?_ | refine VD.end rfl rfl rfl ?_ | refine VD.mid rfl rfl rfl ?_); refine OpV.box rfl rfl rfl ?_; intro _; refine w ?_))
        (first | refine VO.step rfl rfl ?_ | refine VD.end rfl rfl rfl ?_ | refine VD.mid rfl rfl rfl ?_)
        refine OpV.stO2 tab_ok rfl rfl rfl rfl (by (repeat first | exact .head | apply Hole.tail)) (by rw [← slots_in (s := s) (some q), List.length_set]; exact slots_len 2 (by decide)) (slots_coming none) ?_
        (refine w ?_; repeat ((first | refine VO.step rfl rfl ?_ | refine VD.end rfl rfl rfl ?_ | refine VD.mid rfl rfl rfl ?_); refine OpV.box rfl rfl rfl ?_; intro _; refine w ?_))
        refine VE.round (dn ++ [⟨some q, s.aside, none⟩]) ⟨by rw [List.length_append, List.length_singleton]; omega, hcut _ ?_⟩ (by rw [hn, List.length_append, List.length_singleton]; omega) ⟨rfl, rfl, rfl, asV rfl (by simp), trivial⟩ ?_
        · unfold SlotD.cut
          rw [show s.D.coming = s.coming.map DevP.v from rfl, hco, if_pos (by simp)]; rfl
        · rw [hdr]
          refine Ent.trans (devDrop x _) ?_
          rw [hco]
          refine Ent.trans (Ent.re (L := devRes (some q) :: devRes s.aside :: bayRow b D a (dn ++ s :: l2).length :: Own 130 3 (.slice (some a) (dn ++ s :: l2).length (dn ++ s :: l2).length) (dn ++ s :: l2).length ((dn ++ ⟨some q, s.aside, none⟩ :: l2).flatMap slotCells) :: ((dn ++ l2).map slotRes ++ R))) ?_
          refine Ent.trans (devNone _) ?_
          refine Ent.trans (Ent.re (L := devRes (some q) :: devRes s.aside :: devRes none :: bayRow b D a (dn ++ s :: l2).length :: Own 130 3 (.slice (some a) (dn ++ s :: l2).length (dn ++ s :: l2).length) (dn ++ s :: l2).length ((dn ++ ⟨some q, s.aside, none⟩ :: l2).flatMap slotCells) :: ((dn ++ l2).map slotRes ++ R))) ?_
          exact bayInR ⟨some q, s.aside, none⟩ (by simp)
  · (refine w ?_; repeat ((first | refine VO.step rfl rfl ?_ | refine VD.end rfl rfl rfl ?_ | refine VD.mid rfl rfl rfl ?_); refine OpV.box rfl rfl rfl ?_; intro _; refine w ?_))
    have hge : dn.length = sp.length := by have := of_decide_eq_false hc; omega
    (refine VE.done1N rfl ?_ ?_)
    · rfl
    · rw [List.drop_eq_nil_of_le (by omega), List.append_nil, ← hge]
      rw [hge, List.take_of_length_le (by unfold BayD.cut; simp [hl])] at hdD
      exact BayR.shut (D := D.cut (kl.map KeepD.l)) hdD.symm (by omega)
end Go.Proofs.YtlojjlbngnaphaaGreat

/-! Text Bf. -/
/- Package bay: New. -/
set_option maxRecDepth 8000
set_option linter.unusedVariables false
set_option linter.unusedSimpArgs false
set_option linter.unusedSectionVars false
namespace Go.Proofs.YtlojjlbngnaphaaGreat
open Go.RowKit Go.Sl
attribute [local irreducible] Own

def intsI (l : List Int) : List Value := l.map fun n => .int .i64 n
@[simp] theorem intsI_length (l : List Int) : (intsI l).length = l.length := by simp [intsI]
theorem intsI_one (l : List Int) : ∀ u ∈ intsI l, u.oneCell' = true := by
  intro u hu; obtain ⟨c, _, rfl⟩ := List.mem_map.1 hu; rfl
theorem intsI_get (l : List Int) (i : Nat) (h : i < l.length) : (intsI l)[i]? = some (.int .i64 l[i]) := by simp [intsI, h]

def sizeOk (n : Int) : Bool := decide (0 ≤ n ∧ n ≤ 8192)
def bayE (l : List Int) : Int := if l.length < 1 ∨ 17 < l.length then 1 else if l.all sizeOk then 0 else 40
def slotOf (n : Int) : SlotD := if n = 0 then ⟨none, none, none⟩ else ⟨some ⟨.blank n.toNat, false, 0⟩, none, none⟩
def BayD.new (l : List Int) : BayD := ⟨l.map slotOf, false, -1, ⟨0, 0, 0⟩⟩
def noneP : SlotP := ⟨none, none, none⟩

theorem st_slots : SliceT Tryz.prog 124 130 (.agg #[.pointer none, .pointer none, .pointer none]) 3 24 := ⟨by kernel_rfl, by kernel_rfl, rfl, by simp [Value.cells, Value.oneCell']⟩

theorem addSlot {W : World} {A B : SProp} (dn : List SlotP) (s : SlotP) (R : List SProp) : Ent W (devRes s.in_ :: devRes s.aside :: devRes s.coming :: A :: B :: (dn.map slotRes ++ R)) (A :: B :: ((dn ++ [s]).map slotRes ++ R)) := fun w hw => by
  have h := Holds.nest (L := [devRes s.in_, devRes s.aside, devRes s.coming]) hw
  refine Holds.perm ?_ h
  have p1 : (A :: B :: ((dn ++ [s]).map slotRes ++ R)).Perm (A :: B :: slotRes s :: (dn.map slotRes ++ R)) := by
    refine List.Perm.cons _ (List.Perm.cons _ ?_)
    rw [List.map_append, List.append_assoc]
    exact List.perm_middle
  refine List.Perm.trans ?_ p1.symm
  exact List.Perm.append_right (dn.map slotRes ++ R) (show [slotRes s, A, B].Perm [A, B, slotRes s] from List.perm_append_comm (l₁ := [slotRes s]) (l₂ := [A, B]))
theorem addNone {W : World} {A B : SProp} (dn : List SlotP) (R : List SProp) : Ent W (A :: B :: (dn.map slotRes ++ R)) (A :: B :: ((dn ++ [noneP]).map slotRes ++ R)) :=
  (((devNone _).trans (devNone _)).trans (devNone _)).trans (addSlot dn noneP R)

set_option maxHeartbeats 1000000 in
theorem baynew_ok {W : World} {R : List SProp} {ao : Option Addr} {cap : Nat} {l : List Int} (hr : Rds W R 1 ao l.length (intsI l)) (hlen : l.length ≤ 1000000000) :
    Does W Tryz.prog 28 [.slice ao l.length cap] R (β := Option Nat) (fun x => x.isSome = decide (bayE l = 0)) (fun x => .tuple #[.pointer (x.map fun b => ⟨b, 0, none⟩), .int .u16 (bayE l)]) (fun x => x.elim R fun b => BayR b (BayD.new l) :: R) := by
  (refine Does.enter Tryz.func28 Tryz.ntmps28 rfl rfl ?_)
  (refine w ?_; repeat ((first | refine VO.step rfl rfl ?_ | refine VD.end rfl rfl rfl ?_ | refine VD.mid rfl rfl rfl ?_); refine OpV.box rfl rfl rfl ?_; intro _; refine w ?_))
  unfold bayE
  ((first | refine VO.split rfl rfl rfl ?_ ?_ | refine VD.split rfl rfl rfl ?_ ?_) <;> intro hb)
  · have h : l.length < 1 := by have := of_decide_eq_true hb; omega
    (refine w ?_; repeat ((first | refine VO.step rfl rfl ?_ | refine VD.end rfl rfl rfl ?_ | refine VD.mid rfl rfl rfl ?_); refine OpV.box rfl rfl rfl ?_; intro _; refine w ?_))
    refine VE.done none rfl (by rw [if_pos (Or.inl h)]; rfl) (by rw [if_pos (Or.inl h)]; rfl) Ent.refl
  have h1 : ¬ l.length < 1 := by have := of_decide_eq_false hb; omega
  (refine w ?_; repeat ((first | refine VO.step rfl rfl ?_ | refine VD.end rfl rfl rfl ?_ | refine VD.mid rfl rfl rfl ?_); refine OpV.box rfl rfl rfl ?_; intro _; refine w ?_))
  (refine VC.cond rfl rfl ?_ ?_ <;> intro hc)
  · have h : 17 < l.length := by have : (17 : Int) < l.length := (by simpa using hc); omega
    (refine w ?_; repeat ((first | refine VO.step rfl rfl ?_ | refine VD.end rfl rfl rfl ?_ | refine VD.mid rfl rfl rfl ?_); refine OpV.box rfl rfl rfl ?_; intro _; refine w ?_))
    refine VE.done none rfl (by rw [if_pos (Or.inr h)]; rfl) (by rw [if_pos (Or.inr h)]; rfl) Ent.refl
  have h2 : ¬ 17 < l.length := by have : (l.length : Int) ≤ 17 := (by simpa using hc); omega
  rw [if_neg (by omega)]
  (refine w ?_; repeat ((first | refine VO.step rfl rfl ?_ | refine VD.end rfl rfl rfl ?_ | refine VD.mid rfl rfl rfl ?_); refine OpV.box rfl rfl rfl ?_; intro _; refine w ?_))
  (first | refine VO.step rfl rfl ?_ | refine VD.end rfl rfl rfl ?_ | refine VD.mid rfl rfl rfl ?_)
  refine OpV.makeSlice st_slots rfl rfl (by omega) (by simp only [maxLen]; omega) rfl ?_
  intro nb
  have e0 : (madeCells (Value.agg #[.pointer none, .pointer none, .pointer none]).cells (l.length * 3)).toList = (List.replicate l.length noneP).flatMap slotCells := by
    have := madeCells_same (.pointer none) 3 (l.length * 3) (by decide)
    have e : ∀ n : Nat, (List.replicate n noneP).flatMap slotCells = List.replicate (n * 3) (.pointer none) := by
      intro n
      induction n with
      | zero => rfl
      | succ n ih => rw [List.replicate_succ, List.flatMap_cons, ih, Nat.add_mul, Nat.one_mul, Nat.add_comm, ← List.replicate_append_replicate]; rfl
    rw [e]; exact this
  rw [e0]
  (apply VO.pure rfl rfl; apply PureAt.build sb_126 rfl; (simp [buildX, setL, Value.cells]; rfl); rfl)
  (refine w ?_; repeat ((first | refine VO.step rfl rfl ?_ | refine VD.end rfl rfl rfl ?_ | refine VD.mid rfl rfl rfl ?_); refine OpV.box rfl rfl rfl ?_; intro _; refine w ?_))
  rename_i b
  refine VC.loop (α := List SlotP) (fun dn => dn.length ≤ l.length ∧ dn.map SlotP.D = (l.map slotOf).take dn.length ∧ (l.take dn.length).all sizeOk = true)
    (fun dn => bayRow b (BayD.new l) ⟨nb, 0, none⟩ l.length :: Own 130 3 (.slice (some ⟨nb, 0, none⟩) l.length l.length) l.length ((dn ++ List.replicate (l.length - dn.length) noneP).flatMap slotCells) :: (dn.map slotRes ++ R))
    (fun dn => [(4, .pointer (some ⟨b, 0, none⟩)), (22, .slice ao l.length cap), (23, .int .i64 l.length), (24, .int .i64 dn.length)]) (fun dn => l.length - dn.length) rfl [] ⟨Nat.zero_le _, rfl, rfl⟩ (by simp only [List.length_nil, Nat.sub_zero, List.nil_append]; exact Ent.re) ⟨rfl, rfl, rfl, rfl, trivial⟩ ?_
  rintro dn ⟨hdn, hdD, hall⟩
  (refine w ?_; repeat ((first | refine VO.step rfl rfl ?_ | refine VD.end rfl rfl rfl ?_ | refine VD.mid rfl rfl rfl ?_); refine OpV.box rfl rfl rfl ?_; intro _; refine w ?_))
  (refine VC.cond rfl rfl ?_ ?_ <;> intro hc)
  · have hlt : dn.length < l.length := by have := of_decide_eq_true hc; omega
    obtain ⟨ka, rfl⟩ : ∃ ka, ao = some ka := by cases ao with | none => have := hr.nil rfl; omega | some ka => exact ⟨ka, rfl⟩
    have hr2 := fun A B => hr.ent (Ent.dropAll (W := W) (R := R) (A :: B :: dn.map slotRes))
    (refine w ?_; repeat ((first | refine VO.step rfl rfl ?_ | refine VD.end rfl rfl rfl ?_ | refine VD.mid rfl rfl rfl ?_); refine OpV.box rfl rfl rfl ?_; intro _; refine w ?_))
    (first | refine VO.pure rfl rfl (.ldRc tab_ok rfl rfl (hr2 _ _) (intsI_get l dn.length hlt)) rfl ?_ | refine VD.take rfl rfl rfl (.ldRc tab_ok rfl rfl (hr2 _ _) (intsI_get l dn.length hlt)) rfl ?_ | refine VQ.pure rfl rfl (.ldRc tab_ok rfl rfl (hr2 _ _) (intsI_get l dn.length hlt)) rfl ?_ | refine VD.end rfl rfl rfl (OpV.pure (.ldRc tab_ok rfl rfl (hr2 _ _) (intsI_get l dn.length hlt)) rfl ?_))
    (refine w ?_; repeat ((first | refine VO.step rfl rfl ?_ | refine VD.end rfl rfl rfl ?_ | refine VD.mid rfl rfl rfl ?_); refine OpV.box rfl rfl rfl ?_; intro _; refine w ?_))
    generalize hn : l[dn.length] = n at *
    have hrep : List.replicate (l.length - dn.length) noneP = noneP :: List.replicate (l.length - (dn.length + 1)) noneP := by rw [show l.length - dn.length = (l.length - (dn.length + 1)) + 1 by omega, List.replicate_succ]
    have hstep : ∀ s : SlotP, s.D = slotOf n → (dn ++ [s]).map SlotP.D = (l.map slotOf).take (dn ++ [s]).length := by
      intro s hs
      rw [List.length_append, List.length_singleton, List.map_append, hdD, List.take_succ_eq_append_getElem (by simpa using hlt)]
      simp [hs, hn]
    have hall2 : ∀ s : SlotP, sizeOk n = true → (l.take (dn ++ [s]).length).all sizeOk = true := by
      intro s hs
      rw [List.length_append, List.length_singleton, List.take_succ_eq_append_getElem hlt, List.all_append, hall, hn]; simp [hs]
    (refine VC.cond rfl rfl ?_ ?_ <;> intro hc)
    · have h0 : n = 0 := by simpa using hc
      (refine w ?_; repeat ((first | refine VO.step rfl rfl ?_ | refine VD.end rfl rfl rfl ?_ | refine VD.mid rfl rfl rfl ?_); refine OpV.box rfl rfl rfl ?_; intro _; refine w ?_))
      refine VE.round (dn ++ [noneP]) ⟨by rw [List.length_append, List.length_singleton]; omega, hstep _ (by rw [h0]; rfl), hall2 _ (by rw [h0]; rfl)⟩ (by rw [List.length_append, List.length_singleton]; omega) ⟨rfl, rfl, rfl, asV rfl (by simp), trivial⟩ ?_
      rw [hrep, List.length_append, List.length_singleton, List.append_assoc]
      exact addNone dn R
    · have h0 : ¬ n = 0 := by simpa using hc
      (refine w ?_; repeat ((first | refine VO.step rfl rfl ?_ | refine VD.end rfl rfl rfl ?_ | refine VD.mid rfl rfl rfl ?_); refine OpV.box rfl rfl rfl ?_; intro _; refine w ?_))
      by_cases hs : sizeOk n = true
      · obtain ⟨g1, g2⟩ : 0 ≤ n ∧ n ≤ 8192 := of_decide_eq_true hs
        obtain ⟨m, rfl⟩ := Int.eq_ofNat_of_zero_le g1
        ((first | refine VO.step rfl rfl ?_ | refine VD.end rfl rfl rfl ?_ | refine VD.mid rfl rfl rfl ?_); refine OpV.call rfl rfl (fun _ _ => by simp) (disknew_ok m (by omega) (by omega)) Ent.re rfl ?_)
        intro d _
        (refine w ?_; repeat ((first | refine VO.step rfl rfl ?_ | refine VD.end rfl rfl rfl ?_ | refine VD.mid rfl rfl rfl ?_); refine OpV.box rfl rfl rfl ?_; intro _; refine w ?_))
        (apply VO.pure rfl rfl; apply PureAt.build sb_134 rfl; (simp [buildX, setL, Value.cells]; rfl); rfl)
        (refine w ?_; repeat ((first | refine VO.step rfl rfl ?_ | refine VD.end rfl rfl rfl ?_ | refine VD.mid rfl rfl rfl ?_); refine OpV.box rfl rfl rfl ?_; intro _; refine w ?_))
        rename_i nr
        rw [hrep]
        (first | refine VO.step rfl rfl ?_ | refine VD.end rfl rfl rfl ?_ | refine VD.mid rfl rfl rfl ?_)
        refine OpV.stO2 tab_ok rfl rfl rfl rfl (by (repeat first | exact .head | apply Hole.tail)) (slots_len 0 (by decide)) (slots_in (some ⟨nr, d, ⟨⟨List.replicate m zeroSec, [], false⟩, false, 0⟩⟩)) ?_
        (refine w ?_; repeat ((first | refine VO.step rfl rfl ?_ | refine VD.end rfl rfl rfl ?_ | refine VD.mid rfl rfl rfl ?_); refine OpV.box rfl rfl rfl ?_; intro _; refine w ?_))
        refine VE.round (dn ++ [⟨some ⟨nr, d, ⟨⟨List.replicate m zeroSec, [], false⟩, false, 0⟩⟩, none, none⟩]) ⟨by rw [List.length_append, List.length_singleton]; omega, hstep _ ?_, hall2 _ hs⟩ (by rw [List.length_append, List.length_singleton]; omega) ⟨rfl, rfl, rfl, asV rfl (by simp), trivial⟩ ?_
        · unfold slotOf; rw [if_neg h0]; rfl
        · rw [List.length_append, List.length_singleton, List.append_assoc]
          refine Ent.trans (Ent.re (L := devRow ⟨nr, d, ⟨⟨List.replicate m zeroSec, [], false⟩, false, 0⟩⟩ :: DiskR d ⟨List.replicate m zeroSec, [], false⟩ :: bayRow b (BayD.new l) ⟨nb, 0, none⟩ l.length :: Own 130 3 (.slice (some ⟨nb, 0, none⟩) l.length l.length) l.length ((dn ++ ⟨some ⟨nr, d, ⟨⟨List.replicate m zeroSec, [], false⟩, false, 0⟩⟩, none, none⟩ :: List.replicate (l.length - (dn.length + 1)) noneP).flatMap slotCells) :: (dn.map slotRes ++ R))) ?_
          refine Ent.trans (devIn ⟨nr, d, ⟨⟨List.replicate m zeroSec, [], false⟩, false, 0⟩⟩ _) ?_
          refine Ent.trans (devNone _) ?_
          refine Ent.trans (devNone _) ?_
          refine Ent.trans (Ent.re (L := devRes (some ⟨nr, d, ⟨⟨List.replicate m zeroSec, [], false⟩, false, 0⟩⟩) :: devRes none :: devRes none :: bayRow b (BayD.new l) ⟨nb, 0, none⟩ l.length :: Own 130 3 (.slice (some ⟨nb, 0, none⟩) l.length l.length) l.length ((dn ++ ⟨some ⟨nr, d, ⟨⟨List.replicate m zeroSec, [], false⟩, false, 0⟩⟩, none, none⟩ :: List.replicate (l.length - (dn.length + 1)) noneP).flatMap slotCells) :: (dn.map slotRes ++ R))) ?_
          exact addSlot dn ⟨some ⟨nr, d, ⟨⟨List.replicate m zeroSec, [], false⟩, false, 0⟩⟩, none, none⟩ R
      · have hs2 : n < 1 ∨ 8192 < n := by
          have : ¬ (0 ≤ n ∧ n ≤ 8192) := fun h => hs (decide_eq_true h)
          omega
        (((first | refine VO.step rfl rfl ?_ | refine VD.end rfl rfl rfl ?_ | refine VD.mid rfl rfl rfl ?_); refine OpV.call rfl rfl (fun _ _ => by simp) (disknew_bad n hs2) Ent.re rfl ?_); intro _ _)
        (refine w ?_; repeat ((first | refine VO.step rfl rfl ?_ | refine VD.end rfl rfl rfl ?_ | refine VD.mid rfl rfl rfl ?_); refine OpV.box rfl rfl rfl ?_; intro _; refine w ?_))
        have hno : l.all sizeOk = false := by
          rw [Bool.eq_false_iff]
          intro h
          rw [List.all_eq_true] at h
          exact hs (h n (by rw [← hn]; exact List.getElem_mem hlt))
        refine VE.done none rfl (by simp [hno]) (by simp [hno]) ?_
        exact Ent.dropAll (_ :: _ :: dn.map slotRes)
  · have hge : dn.length = l.length := by have := of_decide_eq_false hc; omega
    (refine w ?_; repeat ((first | refine VO.step rfl rfl ?_ | refine VD.end rfl rfl rfl ?_ | refine VD.mid rfl rfl rfl ?_); refine OpV.box rfl rfl rfl ?_; intro _; refine w ?_))
    rw [hge, List.take_of_length_le (Nat.le_refl _)] at hall
    refine VE.done (some b) rfl (by simp [hall]) (by simp [hall]) ?_
    rw [hge, List.take_of_length_le (by simp)] at hdD
    rw [hge, Nat.sub_self, List.replicate_zero, List.append_nil, ← hge]
    exact BayR.shut (D := BayD.new l) hdD.symm (by omega)
end Go.Proofs.YtlojjlbngnaphaaGreat

/-! Text Dn. -/
/- The statements of the disk: sector, SameInts, known. -/
set_option maxRecDepth 8000
set_option linter.unusedVariables false
set_option linter.unusedSimpArgs false
set_option linter.unusedSectionVars false
namespace Go.Proofs.YtlojjlbngnaphaaGreat
open Go.RowKit Go.Sl
attribute [local irreducible] Own

def fullSec (c : UInt8) : List UInt8 := List.replicate 128 c
@[simp] theorem fullSec_length (c : UInt8) : (fullSec c).length = 128 := List.length_replicate
abbrev SecO (b : Nat) (c : UInt8) : SProp := Own 5 1 (.slice (some ⟨b, 0, none⟩) 128 128) 128 (bytes (fullSec c))
theorem SecO.rds {W : World} {R : List SProp} {b : Nat} {c : UInt8} : Rds W (SecO b c :: R) 1 (some ⟨b, 0, none⟩) 128 (bytes (fullSec c)) := Rds.own (bytes_one _) (.head _) (by rw [bytes_length, fullSec_length]) (fun h => by cases h)
end Go.Proofs.YtlojjlbngnaphaaGreat

/-! Text Do. -/
/- DiskFailed: the walk. -/
set_option maxRecDepth 8000
set_option linter.unusedVariables false
set_option linter.unusedSimpArgs false
set_option linter.unusedSectionVars false
namespace Go.Proofs.YtlojjlbngnaphaaGreat
open Go.RowKit Go.Sl
attribute [local irreducible] Own

theorem bools_of {W : World} {ao : Option Addr} {n cap : Nat} (h : InT Tryz.prog W 35 [.slice ao n cap]) : ∃ l : List Bool, l.length = n ∧ RdsA W 1 ao n (bools l) ∧ n ≤ 140737488351232 := by
  obtain ⟨ao', n', cap', row, he, h0, hn, hm, hr, hl, hc, hi⟩ := h.slice_inv Tryz.underlying35
  cases he
  have c1 : Tryz.prog.cellsOf 4 = 1 := by kernel_rfl
  have b1 : Tryz.prog.bytesOf 4 = 1 := by kernel_rfl
  rw [c1] at hl hc
  rw [b1] at hr
  have hb : ∀ i, ∃ c : Bool, i < cap → row i = [.bool c] := fun i => by
    by_cases h : i < cap
    · obtain ⟨b, hm1⟩ := (hi i h).bool_inv Tryz.underlying4
      exact ⟨b, fun _ => hm1⟩
    · exact ⟨false, fun h' => absurd h' h⟩
  obtain ⟨c, hcc⟩ := Classical.axiomOfChoice hb
  refine ⟨(List.range n).map c, by simp, fun R => ?_, by simp only [reachBytes] at hr; omega⟩
  have hs := sees_rows (R := R) h0 hn hl (fun i h u hu => by rw [hcc i h] at hu; simp at hu; subst hu; rfl) hc
  have e : (List.range n).flatMap row = bools ((List.range n).map c) := by
    rw [bools, List.map_map]
    have : ∀ k, k ≤ n → (List.range k).flatMap row = (List.range k).map (Value.bool ∘ c) := by
      intro k
      induction k with
      | zero => intro _; rfl
      | succ k ih =>
        intro hk
        rw [List.range_succ, List.flatMap_append, List.map_append, ih (by omega)]
        simp [hcc k (by omega)]
    exact this n (Nat.le_refl _)
  rw [e] at hs
  exact hs

end Go.Proofs.YtlojjlbngnaphaaGreat

/-! Text Bg. -/
/- The statements of the bay: what their arguments are; much, plain, total. -/
set_option maxRecDepth 8000
set_option linter.unusedVariables false
set_option linter.unusedSimpArgs false
set_option linter.unusedSectionVars false
namespace Go.Proofs.YtlojjlbngnaphaaGreat
open Go.RowKit Go.Sl
attribute [local irreducible] Own

/-! ### A list of lists of bools -/
/-! ### A script's calls -/
structure BopD where
  kind : Int
  slot : Int
  n : Int
  ao : Option Addr
  cap : Nat
  b : List UInt8
  ko : Option Addr
  kcap : Nat
  keeps : List KeepD
abbrev BopD.cells (o : BopD) : List Value := [.int .i64 o.kind, .int .i64 o.slot, .int .i64 o.n, .slice o.ao o.b.length o.cap, .slice o.ko o.keeps.length o.kcap]
structure BopD.wf (W : World) (o : BopD) : Prop where
  b : RdsA W 1 o.ao o.b.length (bytes o.b)
  bl : o.b.length ≤ 140737488351232
  bc : o.b.length ≤ o.cap
  ks : ∀ R, Keeps W R o.ko o.keeps
  kl : ∀ x ∈ o.keeps, x.l.length ≤ 140737488351232
  kn : o.keeps.length ≤ 140737488351232
  n1 : -9223372036854775808 ≤ o.n
  n2 : o.n ≤ 9223372036854775807
  s1 : -9223372036854775808 ≤ o.slot
  s2 : o.slot ≤ 9223372036854775807
def bopCells (l : List BopD) : List Value := l.flatMap BopD.cells
structure BScr (W : World) (R : List SProp) (ao : Option Addr) (l : List BopD) : Prop where
  rds : Rds W R 5 ao l.length (bopCells l)
  wf : ∀ o ∈ l, o.wf W
theorem BScr.ent {W : World} {H R : List SProp} {ao : Option Addr} {l : List BopD} (h : BScr W R ao l) (e : Ent W H R) : BScr W H ao l := ⟨h.rds.ent e, h.wf⟩
/-! ### much -/
end Go.Proofs.YtlojjlbngnaphaaGreat

/-! Text Bh. -/
/- The statements of the bay: plain, total, known. -/
set_option maxRecDepth 8000
set_option linter.unusedVariables false
set_option linter.unusedSimpArgs false
set_option linter.unusedSectionVars false
namespace Go.Proofs.YtlojjlbngnaphaaGreat
open Go.RowKit Go.Sl
attribute [local irreducible] Own

def BayD.plain (D : BayD) (kind slot n : Int) (b : List UInt8) : (List UInt8 × Int) × BayD :=
  if kind = 1 then D.read slot n else if kind = 2 then (([], (D.write slot n b).1), (D.write slot n b).2) else (([], (D.flush slot).1), (D.flush slot).2)
def CntD.total (c : CntD) : Int := IntKind.i64.wrap (IntKind.i64.wrap (c.r + c.w) + c.f)
/-- Counts, compared. -/
theorem cnt_eq {W : World} {n : Nat} {H : List SProp} {f : Fr} {dst : Option Tmp} {ty_ : TypeId} {pos : String} {after : Array Edge} {guard : Option (Nat × Bool)} {op : BinOp} {x y : Operand} {u : TypeId} {c d : CntD} {v : Value} (hx : evalX f x = some (cntV c)) (hy : evalX f y = some (cntV d))
    (hwc : (Lit.int .i64 c.r).wf = true ∧ (Lit.int .i64 c.w).wf = true ∧ (Lit.int .i64 c.f).wf = true) (hwd : (Lit.int .i64 d.r).wf = true ∧ (Lit.int .i64 d.w).wf = true ∧ (Lit.int .i64 d.f).wf = true)
    (hv : eqB op (decide (c.r = d.r ∧ c.w = d.w ∧ c.f = d.f)) = some v) : PureAt W Tryz.prog n H f { dst, op := .binOp op 63 x y u, type := ty_, pos, after, guard } v := by
  refine PureAt.eqFlat (ks := [some .i64, some .i64, some .i64]) (cs := [.int .i64 c.r, .int .i64 c.w, .int .i64 c.f]) (ds := [.int .i64 d.r, .int .i64 d.w, .int .i64 d.f]) (by kernel_rfl) hx hy rfl rfl rfl rfl ?_ ?_ ?_ hv
  · intro l hl; simp only [List.mem_cons, List.not_mem_nil, or_false] at hl; rcases hl with h | h | h
    · subst h; exact hwc.1
    · subst h; exact hwc.2.1
    · subst h; exact hwc.2.2
  · intro l hl; simp only [List.mem_cons, List.not_mem_nil, or_false] at hl; rcases hl with h | h | h
    · subst h; exact hwd.1
    · subst h; exact hwd.2.1
    · subst h; exact hwd.2.2
  · simp

def kx : List UInt8 := (List.replicate 128 0).set 5 9
def kD0 : BayD := BayD.new [2, 0]
def kD1 : BayD := (kD0.write 0 1 kx).2
def kD2 : BayD := (kD1.flush 0).2
def kD3 : BayD := (kD2.read 1 0).2
def kD4 : BayD := (kD3.trips 1).2
theorem k1 : (kD0.write 0 1 kx).1 = 0 := by kernel_rfl
theorem k2 : (kD1.flush 0).1 = 0 := by kernel_rfl
theorem k3 : (kD2.read 1 0).1 = ([], 51) := by kernel_rfl
theorem k4 : (kD3.trips 1).1 = 0 := by kernel_rfl
theorem k5 : (kD4.read 0 1).1 = (kx, 0) := by kernel_rfl
end Go.Proofs.YtlojjlbngnaphaaGreat

/-! Text Bm. -/
/- The bay's model: caches stay small, counts stay in range, what a new bay has. -/
set_option maxRecDepth 8000
set_option linter.unusedVariables false
set_option linter.unusedSimpArgs false
set_option linter.unusedSectionVars false
namespace Go.Proofs.YtlojjlbngnaphaaGreat
open Go.RowKit Go.Sl

def SlotD.capd (s : SlotD) (c : Nat) : Prop := ∀ v, (s.in_ = some v ∨ s.aside = some v ∨ s.coming = some v) → v.k.cache.length ≤ c
def BayD.capd (D : BayD) (c : Nat) : Prop := ∀ s ∈ D.slots, s.capd c
theorem BayD.capd.mono {D : BayD} {c c' : Nat} (h : D.capd c) (hc : c ≤ c') : D.capd c' := fun s hs v hv => Nat.le_trans (h s hs v hv) hc
theorem noneS_capd (c : Nat) : SlotD.capd ⟨none, none, none⟩ c := fun v hv => by rcases hv with h | h | h <;> cases h
theorem dev_mem {D : BayD} {k : Int} {v : DevD} (h : D.dev k = some v) : ∃ s ∈ D.slots, s.in_ = some v := by
  unfold BayD.dev at h
  split at h
  · obtain ⟨s, h1, h2⟩ := Option.bind_eq_some_iff.1 h
    exact ⟨s, List.mem_of_getElem? h1, h2⟩
  · cases h
theorem use_cap {v : DevD} {c : Nat} (h : v.k.cache.length ≤ c) : v.use.k.cache.length ≤ c := by
  unfold DevD.use; split
  · exact h
  · split
    · exact Nat.zero_le _
    · exact h
theorem dv_cap {D : BayD} {c : Nat} (h : D.capd c) (k : Int) : (D.dv k).k.cache.length ≤ c := by
  unfold BayD.dv
  refine use_cap ?_
  cases hd : D.dev k with
  | none => exact Nat.zero_le _
  | some v =>
    obtain ⟨s, hs, hi⟩ := dev_mem hd
    exact h s hs v (.inl hi)
theorem slot_capd {D : BayD} {c : Nat} (h : D.capd c) (i : Nat) : SlotD.capd ((D.slots[i]?).getD ⟨none, none, none⟩) c := by
  cases hg : D.slots[i]? with
  | none => exact noneS_capd c
  | some s => exact h s (List.mem_of_getElem? hg)
theorem set_capd {D : BayD} {c i : Nat} {s : SlotD} (h : D.capd c) (hs : s.capd c) : (D.setSlot i s).capd c := by
  intro x hx
  rcases List.mem_or_eq_of_mem_set hx with q | q
  · exact h x q
  · subst q; exact hs
theorem setIn_capd {D : BayD} {c i : Nat} {v : DevD} (h : D.capd c) (hv : v.k.cache.length ≤ c) : (D.setIn i v).capd c := by
  have hg := slot_capd h i
  refine set_capd (s := { (D.slots[i]?.getD ⟨none, none, none⟩) with in_ := some v }) h ?_
  intro x hx
  rcases hx with q | q | q
  · cases q; exact hv
  · exact hg x (.inr (.inl q))
  · exact hg x (.inr (.inr q))
theorem ahead_capd {D : BayD} {c : Nat} (h : D.capd c) (k : Int) (j : Nat) : (D.ahead k j).capd c := by intro s hs; rw [D.ahead_slots] at hs; exact h s hs
theorem wr_cap {k : DiskD} {a : Int} {b : List UInt8} {c : Nat} (h : k.cache.length ≤ c) : (k.wr a b).2.cache.length ≤ c + 1 := by
  unfold DiskD.wr; split
  · exact Nat.le_succ_of_le h
  · split
    · exact Nat.le_succ_of_le h
    · show (k.cache ++ [_]).length ≤ _
      rw [List.length_append, List.length_singleton]; omega
theorem fl_cap {k : DiskD} {c : Nat} (h : k.cache.length ≤ c) : k.fl.2.cache.length ≤ c := by
  unfold DiskD.fl; split
  · exact h
  · exact Nat.zero_le _
theorem plain_capd {D : BayD} {c : Nat} (h : D.capd c) (kind slot n : Int) (b : List UInt8) : (D.plain kind slot n b).2.capd (c + 1) := by
  have hd := dv_cap h slot
  unfold BayD.plain BayD.read BayD.write BayD.flush
  split
  · split
    · exact (setIn_capd (ahead_capd h _ _) hd).mono (Nat.le_succ _)
    · exact (ahead_capd h _ _).mono (Nat.le_succ _)
  · split
    · dsimp only; split
      · exact setIn_capd ((ahead_capd h _ _).mono (Nat.le_succ _)) (wr_cap hd)
      · exact (ahead_capd h _ _).mono (Nat.le_succ _)
    · dsimp only; split
      · exact (setIn_capd (ahead_capd h _ _) (fl_cap hd)).mono (Nat.le_succ _)
      · exact (ahead_capd h _ _).mono (Nat.le_succ _)
theorem new_capd (l : List Int) : (BayD.new l).capd 0 := by
  intro s hs
  obtain ⟨n, _, rfl⟩ := List.mem_map.1 hs
  intro v hv
  unfold slotOf at hv
  split at hv
  · rcases hv with q | q | q <;> cases q
  · rcases hv with q | q | q
    · cases q; exact Nat.le_refl _
    · cases q
    · cases q

/-! ### Counts in range -/
def CntD.ok (c : CntD) : Prop := (Lit.int .i64 c.r).wf = true ∧ (Lit.int .i64 c.w).wf = true ∧ (Lit.int .i64 c.f).wf = true
/-! ### A new bay -/
end Go.Proofs.YtlojjlbngnaphaaGreat

