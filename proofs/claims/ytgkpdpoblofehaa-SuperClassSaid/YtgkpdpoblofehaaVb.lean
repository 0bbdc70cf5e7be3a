/- Package super: within, Check, Akin. -/
import Derived.Test.YtgkpdpoblofehaaVa
set_option maxRecDepth 8000
set_option linter.unusedVariables false
set_option linter.unusedSimpArgs false
set_option linter.unusedSectionVars false
namespace Go.Proofs.Ytgkpdpoblofehaa
open Go.RowKit Go.Sl
attribute [local irreducible] Own

theorem within_ok {W : World} {R : List SProp} (n a b : Int) :
    Does1 W Try.prog 97 [.int .i64 n, .int .i64 a, .int .i64 b] R (.bool (decide (a ≤ n ∧ n ≤ b))) R := by
  (refine Does.enter Try.func97 Try.ntmps97 rfl rfl ?_)
  (refine w ?_; repeat ((first | refine VO.step rfl rfl ?_ | refine VD.end rfl rfl rfl ?_ | refine VD.mid rfl rfl rfl ?_); refine OpV.box rfl rfl rfl ?_; intro _; refine w ?_))
  ((first | refine VO.split rfl rfl rfl ?_ ?_ | refine VD.split rfl rfl rfl ?_ ?_) <;> intro hb)
  · have h : a ≤ n := of_decide_eq_true hb
    (refine w ?_; repeat ((first | refine VO.step rfl rfl ?_ | refine VD.end rfl rfl rfl ?_ | refine VD.mid rfl rfl rfl ?_); refine OpV.box rfl rfl rfl ?_; intro _; refine w ?_))
    (refine VE.done1 rfl ?_ ?_)
    · simp [h]
    · exact Ent.refl
  · have h : ¬ a ≤ n := of_decide_eq_false hb
    (refine w ?_; repeat ((first | refine VO.step rfl rfl ?_ | refine VD.end rfl rfl rfl ?_ | refine VD.mid rfl rfl rfl ?_); refine OpV.box rfl rfl rfl ?_; intro _; refine w ?_))
    (refine VE.done1 rfl ?_ ?_)
    · simp [h]
    · exact Ent.refl
theorem withinU_ok {W : World} {R : List SProp} (n a b : Int) :
    Does1 W Try.prog 98 [.int .u64 n, .int .u64 a, .int .u64 b] R (.bool (decide (a ≤ n ∧ n ≤ b))) R := by
  (refine Does.enter Try.func98 Try.ntmps98 rfl rfl ?_)
  (refine w ?_; repeat ((first | refine VO.step rfl rfl ?_ | refine VD.end rfl rfl rfl ?_ | refine VD.mid rfl rfl rfl ?_); refine OpV.box rfl rfl rfl ?_; intro _; refine w ?_))
  ((first | refine VO.split rfl rfl rfl ?_ ?_ | refine VD.split rfl rfl rfl ?_ ?_) <;> intro hb)
  · have h : a ≤ n := of_decide_eq_true hb
    (refine w ?_; repeat ((first | refine VO.step rfl rfl ?_ | refine VD.end rfl rfl rfl ?_ | refine VD.mid rfl rfl rfl ?_); refine OpV.box rfl rfl rfl ?_; intro _; refine w ?_))
    (refine VE.done1 rfl ?_ ?_)
    · simp [h]
    · exact Ent.refl
  · have h : ¬ a ≤ n := of_decide_eq_false hb
    (refine w ?_; repeat ((first | refine VO.step rfl rfl ?_ | refine VD.end rfl rfl rfl ?_ | refine VD.mid rfl rfl rfl ?_); refine OpV.box rfl rfl rfl ?_; intro _; refine w ?_))
    (refine VE.done1 rfl ?_ ?_)
    · simp [h]
    · exact Ent.refl

theorem vindex_ok {W : World} {R : List SProp} {ao : Option Addr} {cap : Nat} {l : List UInt8} (v : UInt8) (hr : Rds W R 1 ao l.length (bytes l)) (hl : l.length ≤ 140737488351232) :
    Does W Try.prog 132 [.slice ao l.length cap, .int .u8 (v.toNat : Int)] R (β := Int) (fun k => decide (0 ≤ k) = decide (v ∈ l)) (fun k => .int .i64 k) (fun _ => R) := by
  (refine Does.enter Try.func132 Try.ntmps132 rfl rfl ?_)
  (refine w ?_; repeat ((first | refine VO.step rfl rfl ?_ | refine VD.end rfl rfl rfl ?_ | refine VD.mid rfl rfl rfl ?_); refine OpV.box rfl rfl rfl ?_; intro _; refine w ?_))
  refine VC.loop (α := Nat) (fun i => i ≤ l.length ∧ v ∉ l.take i) (fun _ => R) (fun i => [(0, .slice ao l.length cap), (1, .int .u8 (v.toNat : Int)), (7, .int .i64 l.length), (8, .int .i64 i)]) (fun i => l.length - i) rfl 0 ⟨Nat.zero_le _, by simp⟩ Ent.refl ⟨rfl, rfl, rfl, rfl, trivial⟩ ?_
  rintro i ⟨hi, hno⟩
  (refine w ?_; repeat ((first | refine VO.step rfl rfl ?_ | refine VD.end rfl rfl rfl ?_ | refine VD.mid rfl rfl rfl ?_); refine OpV.box rfl rfl rfl ?_; intro _; refine w ?_))
  (refine VC.cond rfl rfl ?_ ?_ <;> intro hc)
  · have hlt : i < l.length := by have := of_decide_eq_true hc; omega
    obtain ⟨a, rfl⟩ : ∃ a, ao = some a := by cases ao with | none => have := hr.nil rfl; omega | some a => exact ⟨a, rfl⟩
    (refine w ?_; repeat ((first | refine VO.step rfl rfl ?_ | refine VD.end rfl rfl rfl ?_ | refine VD.mid rfl rfl rfl ?_); refine OpV.box rfl rfl rfl ?_; intro _; refine w ?_))
    (first | refine VO.pure rfl rfl (PureAt.ldR tab_ok rfl rfl hr (show (bytes l)[i]? = some (.int .u8 (l[i].toNat : Int)) by simp [bytes, hlt]; rfl)) rfl ?_ | refine VD.take rfl rfl rfl (PureAt.ldR tab_ok rfl rfl hr (show (bytes l)[i]? = some (.int .u8 (l[i].toNat : Int)) by simp [bytes, hlt]; rfl)) rfl ?_ | refine VQ.pure rfl rfl (PureAt.ldR tab_ok rfl rfl hr (show (bytes l)[i]? = some (.int .u8 (l[i].toNat : Int)) by simp [bytes, hlt]; rfl)) rfl ?_ | refine VD.end rfl rfl rfl (OpV.pure (PureAt.ldR tab_ok rfl rfl hr (show (bytes l)[i]? = some (.int .u8 (l[i].toNat : Int)) by simp [bytes, hlt]; rfl)) rfl ?_))
    (refine w ?_; repeat ((first | refine VO.step rfl rfl ?_ | refine VD.end rfl rfl rfl ?_ | refine VD.mid rfl rfl rfl ?_); refine OpV.box rfl rfl rfl ?_; intro _; refine w ?_))
    (refine VC.cond rfl rfl ?_ ?_ <;> intro hc)
    · have he : v = l[i] := by have h : (v.toNat : Int) = l[i].toNat := (by simpa using hc); exact UInt8.toNat_inj.1 (by omega)
      (refine w ?_; repeat ((first | refine VO.step rfl rfl ?_ | refine VD.end rfl rfl rfl ?_ | refine VD.mid rfl rfl rfl ?_); refine OpV.box rfl rfl rfl ?_; intro _; refine w ?_))
      refine VE.done (i : Int) rfl ?_ rfl Ent.refl
      rw [decide_eq_true (by omega), decide_eq_true (by rw [he]; exact List.getElem_mem hlt)]
    · have he : v ≠ l[i] := by
        intro h; subst h; simp at hc
      (refine w ?_; repeat ((first | refine VO.step rfl rfl ?_ | refine VD.end rfl rfl rfl ?_ | refine VD.mid rfl rfl rfl ?_); refine OpV.box rfl rfl rfl ?_; intro _; refine w ?_))
      refine VE.round (i + 1) ⟨hlt, ?_⟩ (by omega) ⟨rfl, rfl, rfl, asV rfl (by congr 1), trivial⟩ Ent.refl
      rw [List.take_succ_eq_append_getElem hlt, List.mem_append, List.mem_singleton]
      rintro (h | h)
      · exact hno h
      · exact he h
  · have hge : i = l.length := by have := of_decide_eq_false hc; omega
    subst hge
    rw [List.take_of_length_le (Nat.le_refl _)] at hno
    (refine w ?_; repeat ((first | refine VO.step rfl rfl ?_ | refine VD.end rfl rfl rfl ?_ | refine VD.mid rfl rfl rfl ?_); refine OpV.box rfl rfl rfl ?_; intro _; refine w ?_))
    refine VE.done (-1) rfl (by simp [hno]) rfl Ent.refl

def SuperD.akin (a b : SuperD) : Bool := decide (a.id = b.id ∧ (a.members = b.members ∧ a.chunk = b.chunk ∧ a.stripes = b.stripes) ∧ a.ring = b.ring ∧ a.lazy = b.lazy)
theorem geo_eq {W : World} {n : Nat} {H : List SProp} {f : Fr} {dst : Option Tmp} {ty_ : TypeId} {pos : String} {after : Array Edge} {guard : Option (Nat × Bool)} {op : BinOp} {x y : Operand} {u : TypeId} {a b : SuperD} {v : Value} (hx : evalX f x = some (.agg #[.int .i64 a.members, .int .i64 a.chunk, .int .i64 a.stripes])) (hy : evalX f y = some (.agg #[.int .i64 b.members, .int .i64 b.chunk, .int .i64 b.stripes]))
    (ha : a.fit) (hb : b.fit) (hv : eqB op (decide (a.members = b.members ∧ a.chunk = b.chunk ∧ a.stripes = b.stripes)) = some v) : PureAt W Try.prog n H f { dst, op := .binOp op 86 x y u, type := ty_, pos, after, guard } v := by
  have w : ∀ z : Int, -9223372036854775808 ≤ z ∧ z ≤ 9223372036854775807 → (Lit.int .i64 z).wf = true := fun z h => by simp [Lit.wf, IntKind.min, IntKind.max, IntKind.signed, IntKind.bits]; omega
  refine PureAt.eqFlat (ks := [some .i64, some .i64, some .i64]) (cs := [.int .i64 a.members, .int .i64 a.chunk, .int .i64 a.stripes]) (ds := [.int .i64 b.members, .int .i64 b.chunk, .int .i64 b.stripes]) (by kernel_rfl) hx hy rfl rfl rfl rfl ?_ ?_ ?_ hv
  · intro l hl; simp only [List.mem_cons, List.not_mem_nil, or_false] at hl; rcases hl with h | h | h
    · subst h; exact w _ ha.members
    · subst h; exact w _ ha.chunk
    · subst h; exact w _ ha.stripes
  · intro l hl; simp only [List.mem_cons, List.not_mem_nil, or_false] at hl; rcases hl with h | h | h
    · subst h; exact w _ hb.members
    · subst h; exact w _ hb.chunk
    · subst h; exact w _ hb.stripes
  · simp
theorem akin_ok {W : World} {R : List SProp} (a b : SuperD) (ha : a.fit) (hbf : b.fit) :
    Does1 W Try.prog 39 [.agg a.cells.toArray, .agg b.cells.toArray] R (.bool (a.akin b)) R := by
  (refine Does.enter Try.func39 Try.ntmps39 rfl rfl ?_)
  (refine w ?_; repeat ((first | refine VO.step rfl rfl ?_ | refine VD.end rfl rfl rfl ?_ | refine VD.mid rfl rfl rfl ?_); refine OpV.box rfl rfl rfl ?_; intro _; refine w ?_))
  unfold SuperD.akin
  ((first | refine VO.split rfl rfl rfl ?_ ?_ | refine VD.split rfl rfl rfl ?_ ?_) <;> intro hb)
  · have h1 : a.id = b.id := by have := hb; simp at this; omega
    (refine w ?_; repeat ((first | refine VO.step rfl rfl ?_ | refine VD.end rfl rfl rfl ?_ | refine VD.mid rfl rfl rfl ?_); refine OpV.box rfl rfl rfl ?_; intro _; refine w ?_))
    refine VO.pure rfl rfl (geo_eq (a := a) (b := b) rfl rfl ha hbf rfl) rfl ?_
    (refine w ?_; repeat ((first | refine VO.step rfl rfl ?_ | refine VD.end rfl rfl rfl ?_ | refine VD.mid rfl rfl rfl ?_); refine OpV.box rfl rfl rfl ?_; intro _; refine w ?_))
    ((first | refine VO.split rfl rfl rfl ?_ ?_ | refine VD.split rfl rfl rfl ?_ ?_) <;> intro hb)
    · have h2 : a.members = b.members ∧ a.chunk = b.chunk ∧ a.stripes = b.stripes := of_decide_eq_true hb
      (refine w ?_; repeat ((first | refine VO.step rfl rfl ?_ | refine VD.end rfl rfl rfl ?_ | refine VD.mid rfl rfl rfl ?_); refine OpV.box rfl rfl rfl ?_; intro _; refine w ?_))
      ((first | refine VO.split rfl rfl rfl ?_ ?_ | refine VD.split rfl rfl rfl ?_ ?_) <;> intro hb)
      · have h3 : a.ring = b.ring := by simpa using hb
        (refine w ?_; repeat ((first | refine VO.step rfl rfl ?_ | refine VD.end rfl rfl rfl ?_ | refine VD.mid rfl rfl rfl ?_); refine OpV.box rfl rfl rfl ?_; intro _; refine w ?_))
        (refine VE.done1 rfl ?_ ?_)
        · congr 1; rw [Bool.eq_iff_iff]; simp [h1, h2.1, h2.2.1, h2.2.2, h3]
        · exact Ent.re
      · have h3 : ¬ a.ring = b.ring := by simpa using hb
        (refine w ?_; repeat ((first | refine VO.step rfl rfl ?_ | refine VD.end rfl rfl rfl ?_ | refine VD.mid rfl rfl rfl ?_); refine OpV.box rfl rfl rfl ?_; intro _; refine w ?_))
        (refine VE.done1 rfl ?_ ?_)
        · simp [h3]
        · exact Ent.re
    · have h2 : ¬ (a.members = b.members ∧ a.chunk = b.chunk ∧ a.stripes = b.stripes) := of_decide_eq_false hb
      (refine w ?_; repeat ((first | refine VO.step rfl rfl ?_ | refine VD.end rfl rfl rfl ?_ | refine VD.mid rfl rfl rfl ?_); refine OpV.box rfl rfl rfl ?_; intro _; refine w ?_))
      (refine VE.done1 rfl ?_ ?_)
      · congr 1; symm; exact decide_eq_false (fun h => h2 h.2.1)
      · exact Ent.re
  · have h1 : ¬ a.id = b.id := by have := hb; simp at this; omega
    (refine w ?_; repeat ((first | refine VO.step rfl rfl ?_ | refine VD.end rfl rfl rfl ?_ | refine VD.mid rfl rfl rfl ?_); refine OpV.box rfl rfl rfl ?_; intro _; refine w ?_))
    (refine VE.done1 rfl ?_ ?_)
    · simp [h1]
    · exact Ent.re

theorem contains_ok {W : World} {R : List SProp} {ao : Option Addr} {cap : Nat} {l : List UInt8} (v : UInt8) (hr : Rds W R 1 ao l.length (bytes l)) (hl : l.length ≤ 140737488351232) :
    Does1 W Try.prog 99 [.slice ao l.length cap, .int .u8 (v.toNat : Int)] R (.bool (decide (v ∈ l))) R := by
  (refine Does.enter Try.func99 Try.ntmps99 rfl rfl ?_)
  (refine w ?_; repeat ((first | refine VO.step rfl rfl ?_ | refine VD.end rfl rfl rfl ?_ | refine VD.mid rfl rfl rfl ?_); refine OpV.box rfl rfl rfl ?_; intro _; refine w ?_))
  ((first | refine VO.step rfl rfl ?_ | refine VD.end rfl rfl rfl ?_ | refine VD.mid rfl rfl rfl ?_); refine OpV.call rfl rfl (fun _ _ => by simp) (vindex_ok v hr hl) Ent.refl rfl ?_)
  intro k hk
  (refine w ?_; repeat ((first | refine VO.step rfl rfl ?_ | refine VD.end rfl rfl rfl ?_ | refine VD.mid rfl rfl rfl ?_); refine OpV.box rfl rfl rfl ?_; intro _; refine w ?_))
  (refine VE.done1 rfl ?_ ?_)
  · rw [← hk]
  · exact Ent.refl

/-! ### Check -/
def SuperD.sizes (s : SuperD) : Bool := decide ((3 ≤ s.members ∧ s.members ≤ 16) ∧ (1 ≤ s.chunk ∧ s.chunk ≤ 16) ∧ 1 ≤ s.stripes ∧ s.stripes ≤ 256)
def SuperD.counts (s : SuperD) : Bool := decide ((1 ≤ (s.events : Int) ∧ (s.events : Int) ≤ 4611686018427387904) ∧ 1 ≤ (s.safe : Int) ∧ (s.safe : Int) ≤ s.events)
/-- Each state one of the three, the third but once. -/
def goodSt (l : List UInt8) (i : Nat) : Prop := ∀ j (h : j < l.length), j < i → 1 ≤ l[j].toNat ∧ l[j].toNat ≤ 3 ∧ (l[j] = 3 → (3 : UInt8) ∉ l.take j)
def SuperD.form (s : SuperD) : Prop := s.sizes = true ∧ s.counts = true ∧ (0 ≤ s.role ∧ s.role ≤ s.members) ∧ (5 ≤ s.ring ∧ s.ring ≤ 2048) ∧ (s.states.length : Int) = s.members
def SuperD.last (s : SuperD) (i : Nat) : Int := if (3 : UInt8) ∈ s.states.take i then s.stripes - 1 else 0
def SuperD.okP (s : SuperD) : Prop := s.form ∧ goodSt s.states s.states.length ∧ 0 ≤ s.cursor ∧ s.cursor ≤ s.last s.states.length
def goodB (l : List UInt8) : Nat → Bool
  | 0 => true
  | i + 1 => goodB l i && (match l[i]? with
    | some x => decide (1 ≤ x.toNat ∧ x.toNat ≤ 3 ∧ (x = 3 → (3 : UInt8) ∉ l.take i))
    | none => true)
theorem goodB_iff (l : List UInt8) : ∀ i, i ≤ l.length → (goodB l i = true ↔ goodSt l i)
  | 0, _ => ⟨fun _ j h hj => absurd hj (by omega), fun _ => rfl⟩
  | i + 1, hi => by
    have hlt : i < l.length := by omega
    rw [goodB, Bool.and_eq_true, goodB_iff l i (by omega), List.getElem?_eq_getElem hlt]
    simp only [decide_eq_true_eq]
    constructor
    · rintro ⟨h1, h2⟩ j hj hji
      by_cases e : j = i
      · subst e; exact h2
      · exact h1 j hj (by omega)
    · exact fun h => ⟨fun j hj hji => h j hj (by omega), h i hlt (by omega)⟩
instance decGood (l : List UInt8) : Decidable (goodSt l l.length) := decidable_of_iff _ (goodB_iff l l.length (Nat.le_refl _))
instance decForm (s : SuperD) : Decidable s.form := by unfold SuperD.form; exact inferInstance
instance decOk (s : SuperD) : Decidable s.okP := by unfold SuperD.okP; exact inferInstance
def SuperD.check (s : SuperD) : Int := if s.okP then 0 else 70

set_option maxHeartbeats 4000000 in
theorem scheck_ok {W : World} {R : List SProp} (s : SuperD) (hf : s.fit) (hr : Rds W R 1 s.so s.states.length (bytes s.states)) :
    Does1 W Try.prog 77 [.agg s.cells.toArray] R (.int .u16 s.check) R := by
  (refine Does.enter Try.func77 Try.ntmps77 rfl rfl ?_)
  (refine w ?_; repeat ((first | refine VO.step rfl rfl ?_ | refine VD.end rfl rfl rfl ?_ | refine VD.mid rfl rfl rfl ?_); refine OpV.box rfl rfl rfl ?_; intro _; refine w ?_))
  rename_i b
  ((first | refine VO.step rfl rfl ?_ | refine VD.end rfl rfl rfl ?_ | refine VD.mid rfl rfl rfl ?_); refine OpV.allocS sb_86 rfl ?_; intro na)
  (refine w ?_; repeat ((first | refine VO.step rfl rfl ?_ | refine VD.end rfl rfl rfl ?_ | refine VD.mid rfl rfl rfl ?_); refine OpV.box rfl rfl rfl ?_; intro _; refine w ?_))
  (first | refine VO.step rfl rfl ?_ | refine VD.end rfl rfl rfl ?_ | refine VD.mid rfl rfl rfl ?_)
  refine OpV.stA (vs := [.int .i64 s.members, .int .i64 s.chunk, .int .i64 s.stripes]) tab_ok rfl rfl rfl rfl (by simp [Value.oneCell']) (by (repeat first | exact .head | apply Hole.tail)) (by simp) ?_
  refine VO.ent (Reord.ent (L := Row na 86 [.int .i64 s.members, .int .i64 s.chunk, .int .i64 s.stripes] :: Row b 89 s.cells :: R) (by (repeat first | exact .refl | (apply Reord.cons; focus repeat first | exact .head | apply Del.tail) | exact .nil | apply Reord.drop))) ?_
  refine VO.nil rfl ?_
  refine VE.next ?_
  refine VC.seq rfl ?_
  refine VC.joinH [(1, .pointer (some ⟨b, 0, none⟩)), (3, .pointer (some ⟨na, 0, none⟩)), (4, .bool s.sizes)] ?_ ?_
  · intro Q2 jn
    (refine w ?_; repeat ((first | refine VO.step rfl rfl ?_ | refine VD.end rfl rfl rfl ?_ | refine VD.mid rfl rfl rfl ?_); refine OpV.box rfl rfl rfl ?_; intro _; refine w ?_))
    (((first | refine VO.step rfl rfl ?_ | refine VD.end rfl rfl rfl ?_ | refine VD.mid rfl rfl rfl ?_); refine OpV.call rfl rfl (fun _ _ => by simp) (within_ok s.members 3 16) Ent.re rfl ?_); intro _ _)
    (refine w ?_; repeat ((first | refine VO.step rfl rfl ?_ | refine VD.end rfl rfl rfl ?_ | refine VD.mid rfl rfl rfl ?_); refine OpV.box rfl rfl rfl ?_; intro _; refine w ?_))
    ((first | refine VO.split rfl rfl rfl ?_ ?_ | refine VD.split rfl rfl rfl ?_ ?_) <;> intro hb)
    · have h1 := of_decide_eq_true hb
      (refine w ?_; repeat ((first | refine VO.step rfl rfl ?_ | refine VD.end rfl rfl rfl ?_ | refine VD.mid rfl rfl rfl ?_); refine OpV.box rfl rfl rfl ?_; intro _; refine w ?_))
      (((first | refine VO.step rfl rfl ?_ | refine VD.end rfl rfl rfl ?_ | refine VD.mid rfl rfl rfl ?_); refine OpV.call rfl rfl (fun _ _ => by simp) (within_ok s.chunk 1 16) Ent.re rfl ?_); intro _ _)
      (refine w ?_; repeat ((first | refine VO.step rfl rfl ?_ | refine VD.end rfl rfl rfl ?_ | refine VD.mid rfl rfl rfl ?_); refine OpV.box rfl rfl rfl ?_; intro _; refine w ?_))
      ((first | refine VO.split rfl rfl rfl ?_ ?_ | refine VD.split rfl rfl rfl ?_ ?_) <;> intro hb)
      · have h2 := of_decide_eq_true hb
        (refine w ?_; repeat ((first | refine VO.step rfl rfl ?_ | refine VD.end rfl rfl rfl ?_ | refine VD.mid rfl rfl rfl ?_); refine OpV.box rfl rfl rfl ?_; intro _; refine w ?_))
        (((first | refine VO.step rfl rfl ?_ | refine VD.end rfl rfl rfl ?_ | refine VD.mid rfl rfl rfl ?_); refine OpV.call rfl rfl (fun _ _ => by simp) (within_ok s.stripes 1 256) Ent.re rfl ?_); intro _ _)
        (refine w ?_; repeat ((first | refine VO.step rfl rfl ?_ | refine VD.end rfl rfl rfl ?_ | refine VD.mid rfl rfl rfl ?_); refine OpV.box rfl rfl rfl ?_; intro _; refine w ?_))
        exact jn.to () trivial ⟨rfl, rfl, asV rfl (by congr 1; rw [Bool.eq_iff_iff]; simp [SuperD.sizes]; omega), trivial⟩ Ent.re
      · have h2 := of_decide_eq_false hb
        (refine w ?_; repeat ((first | refine VO.step rfl rfl ?_ | refine VD.end rfl rfl rfl ?_ | refine VD.mid rfl rfl rfl ?_); refine OpV.box rfl rfl rfl ?_; intro _; refine w ?_))
        exact jn.to () trivial ⟨rfl, rfl, asV rfl (by congr 1; rw [Bool.eq_iff_iff]; simp [SuperD.sizes]; omega), trivial⟩ Ent.re
    · have h1 := of_decide_eq_false hb
      (refine w ?_; repeat ((first | refine VO.step rfl rfl ?_ | refine VD.end rfl rfl rfl ?_ | refine VD.mid rfl rfl rfl ?_); refine OpV.box rfl rfl rfl ?_; intro _; refine w ?_))
      exact jn.to () trivial ⟨rfl, rfl, asV rfl (by congr 1; rw [Bool.eq_iff_iff]; simp [SuperD.sizes]; omega), trivial⟩ Ent.re
  refine VC.seq rfl ?_
  refine VC.joinH [(1, .pointer (some ⟨b, 0, none⟩)), (3, .pointer (some ⟨na, 0, none⟩)), (4, .bool s.sizes), (5, .bool s.counts)] ?_ ?_
  · intro Q2 jn
    (refine w ?_; repeat ((first | refine VO.step rfl rfl ?_ | refine VD.end rfl rfl rfl ?_ | refine VD.mid rfl rfl rfl ?_); refine OpV.box rfl rfl rfl ?_; intro _; refine w ?_))
    (((first | refine VO.step rfl rfl ?_ | refine VD.end rfl rfl rfl ?_ | refine VD.mid rfl rfl rfl ?_); refine OpV.call rfl rfl (fun _ _ => by simp) (withinU_ok s.events 1 4611686018427387904) Ent.re rfl ?_); intro _ _)
    (refine w ?_; repeat ((first | refine VO.step rfl rfl ?_ | refine VD.end rfl rfl rfl ?_ | refine VD.mid rfl rfl rfl ?_); refine OpV.box rfl rfl rfl ?_; intro _; refine w ?_))
    ((first | refine VO.split rfl rfl rfl ?_ ?_ | refine VD.split rfl rfl rfl ?_ ?_) <;> intro hb)
    · have h1 := of_decide_eq_true hb
      (refine w ?_; repeat ((first | refine VO.step rfl rfl ?_ | refine VD.end rfl rfl rfl ?_ | refine VD.mid rfl rfl rfl ?_); refine OpV.box rfl rfl rfl ?_; intro _; refine w ?_))
      (((first | refine VO.step rfl rfl ?_ | refine VD.end rfl rfl rfl ?_ | refine VD.mid rfl rfl rfl ?_); refine OpV.call rfl rfl (fun _ _ => by simp) (withinU_ok s.safe 1 s.events) Ent.re rfl ?_); intro _ _)
      (refine w ?_; repeat ((first | refine VO.step rfl rfl ?_ | refine VD.end rfl rfl rfl ?_ | refine VD.mid rfl rfl rfl ?_); refine OpV.box rfl rfl rfl ?_; intro _; refine w ?_))
      exact jn.to () trivial ⟨rfl, rfl, rfl, asV rfl (by congr 1; rw [Bool.eq_iff_iff]; simp [SuperD.counts]; omega), trivial⟩ Ent.re
    · have h1 := of_decide_eq_false hb
      (refine w ?_; repeat ((first | refine VO.step rfl rfl ?_ | refine VD.end rfl rfl rfl ?_ | refine VD.mid rfl rfl rfl ?_); refine OpV.box rfl rfl rfl ?_; intro _; refine w ?_))
      exact jn.to () trivial ⟨rfl, rfl, rfl, asV rfl (by congr 1; rw [Bool.eq_iff_iff]; simp [SuperD.counts]; omega), trivial⟩ Ent.re
  have bad : ¬ s.form → s.check = 70 := fun h => if_neg (fun h2 => h h2.1)
  cases hz : s.sizes
  · (refine w ?_; repeat ((first | refine VO.step rfl rfl ?_ | refine VD.end rfl rfl rfl ?_ | refine VD.mid rfl rfl rfl ?_); refine OpV.box rfl rfl rfl ?_; intro _; refine w ?_))
    (refine VE.done1 rfl ?_ ?_)
    · rw [bad (fun h => by rw [h.1] at hz; cases hz)]
    · exact Ent.re
  cases hcn : s.counts
  · (refine w ?_; repeat ((first | refine VO.step rfl rfl ?_ | refine VD.end rfl rfl rfl ?_ | refine VD.mid rfl rfl rfl ?_); refine OpV.box rfl rfl rfl ?_; intro _; refine w ?_))
    (refine VE.done1 rfl ?_ ?_)
    · rw [bad (fun h => by rw [h.2.1] at hcn; cases hcn)]
    · exact Ent.re
  (refine w ?_; repeat ((first | refine VO.step rfl rfl ?_ | refine VD.end rfl rfl rfl ?_ | refine VD.mid rfl rfl rfl ?_); refine OpV.box rfl rfl rfl ?_; intro _; refine w ?_))
  (((first | refine VO.step rfl rfl ?_ | refine VD.end rfl rfl rfl ?_ | refine VD.mid rfl rfl rfl ?_); refine OpV.call rfl rfl (fun _ _ => by simp) (within_ok s.role 0 s.members) Ent.re rfl ?_); intro _ _)
  (refine w ?_; repeat ((first | refine VO.step rfl rfl ?_ | refine VD.end rfl rfl rfl ?_ | refine VD.mid rfl rfl rfl ?_); refine OpV.box rfl rfl rfl ?_; intro _; refine w ?_))
  ((first | refine VO.split rfl rfl rfl ?_ ?_ | refine VD.split rfl rfl rfl ?_ ?_) <;> intro hb)
  · have h1 : ¬ (0 ≤ s.role ∧ s.role ≤ s.members) := of_decide_eq_false (by simpa only [Bool.not_eq_true'] using hb)
    (refine w ?_; repeat ((first | refine VO.step rfl rfl ?_ | refine VD.end rfl rfl rfl ?_ | refine VD.mid rfl rfl rfl ?_); refine OpV.box rfl rfl rfl ?_; intro _; refine w ?_))
    (refine VE.done1 rfl ?_ ?_)
    · rw [bad (fun h => h1 h.2.2.1)]
    · exact Ent.re
  have h1 : 0 ≤ s.role ∧ s.role ≤ s.members := of_decide_eq_true (by simpa only [Bool.not_eq_false'] using hb)
  (refine w ?_; repeat ((first | refine VO.step rfl rfl ?_ | refine VD.end rfl rfl rfl ?_ | refine VD.mid rfl rfl rfl ?_); refine OpV.box rfl rfl rfl ?_; intro _; refine w ?_))
  (((first | refine VO.step rfl rfl ?_ | refine VD.end rfl rfl rfl ?_ | refine VD.mid rfl rfl rfl ?_); refine OpV.call rfl rfl (fun _ _ => by simp) (within_ok s.ring 5 2048) Ent.re rfl ?_); intro _ _)
  (refine w ?_; repeat ((first | refine VO.step rfl rfl ?_ | refine VD.end rfl rfl rfl ?_ | refine VD.mid rfl rfl rfl ?_); refine OpV.box rfl rfl rfl ?_; intro _; refine w ?_))
  ((first | refine VO.split rfl rfl rfl ?_ ?_ | refine VD.split rfl rfl rfl ?_ ?_) <;> intro hb)
  · have h2 : ¬ (5 ≤ s.ring ∧ s.ring ≤ 2048) := of_decide_eq_false (by simpa only [Bool.not_eq_true'] using hb)
    (refine w ?_; repeat ((first | refine VO.step rfl rfl ?_ | refine VD.end rfl rfl rfl ?_ | refine VD.mid rfl rfl rfl ?_); refine OpV.box rfl rfl rfl ?_; intro _; refine w ?_))
    (refine VE.done1 rfl ?_ ?_)
    · rw [bad (fun h => h2 h.2.2.2.1)]
    · exact Ent.re
  have h2 : 5 ≤ s.ring ∧ s.ring ≤ 2048 := of_decide_eq_true (by simpa only [Bool.not_eq_false'] using hb)
  (refine w ?_; repeat ((first | refine VO.step rfl rfl ?_ | refine VD.end rfl rfl rfl ?_ | refine VD.mid rfl rfl rfl ?_); refine OpV.box rfl rfl rfl ?_; intro _; refine w ?_))
  (refine VC.cond rfl rfl ?_ ?_ <;> intro hc)
  · have h3 : ¬ (s.states.length : Int) = s.members := by simpa using hc
    (refine w ?_; repeat ((first | refine VO.step rfl rfl ?_ | refine VD.end rfl rfl rfl ?_ | refine VD.mid rfl rfl rfl ?_); refine OpV.box rfl rfl rfl ?_; intro _; refine w ?_))
    (refine VE.done1 rfl ?_ ?_)
    · rw [bad (fun h => h3 h.2.2.2.2)]
    · exact Ent.re
  have h3 : (s.states.length : Int) = s.members := by simpa using hc
  have hform : s.form := ⟨hz, hcn, h1, h2, h3⟩
  (refine w ?_; repeat ((first | refine VO.step rfl rfl ?_ | refine VD.end rfl rfl rfl ?_ | refine VD.mid rfl rfl rfl ?_); refine OpV.box rfl rfl rfl ?_; intro _; refine w ?_))
  refine VC.loop (α := Nat) (fun i => i ≤ s.states.length ∧ goodSt s.states i) (fun _ => Row na 86 [.int .i64 s.members, .int .i64 s.chunk, .int .i64 s.stripes] :: Row b 89 s.cells :: R)
    (fun i => [(1, .pointer (some ⟨b, 0, none⟩)), (3, .pointer (some ⟨na, 0, none⟩)), (6, .int .i64 (s.last i)), (64, .slice s.so s.states.length s.sc), (65, .int .i64 s.states.length), (66, .int .i64 i)]) (fun i => s.states.length - i) rfl 0 ⟨Nat.zero_le _, fun j h hj => absurd hj (by omega)⟩ Ent.refl ⟨rfl, rfl, asV rfl (by simp [SuperD.last]), rfl, rfl, rfl, trivial⟩ ?_
  rintro i ⟨hi, hgd⟩
  have hlen := hf.len
  have hcp := hf.cap
  (refine w ?_; repeat ((first | refine VO.step rfl rfl ?_ | refine VD.end rfl rfl rfl ?_ | refine VD.mid rfl rfl rfl ?_); refine OpV.box rfl rfl rfl ?_; intro _; refine w ?_))
  (refine VC.cond rfl rfl ?_ ?_ <;> intro hc)
  · have hlt : i < s.states.length := by have := of_decide_eq_true hc; omega
    obtain ⟨a, ha⟩ : ∃ a, s.so = some a := by cases ho : s.so with | none => have := hr.nil ho; omega | some a => exact ⟨a, rfl⟩
    have hr2 : ∀ A B, Rds W (A :: B :: R) 1 (some a) s.states.length (bytes s.states) := fun A B => by rw [← ha]; exact hr.ent (Ent.drop (Ent.drop Ent.refl))
    rw [ha]
    (refine w ?_; repeat ((first | refine VO.step rfl rfl ?_ | refine VD.end rfl rfl rfl ?_ | refine VD.mid rfl rfl rfl ?_); refine OpV.box rfl rfl rfl ?_; intro _; refine w ?_))
    (first | refine VO.pure rfl rfl (PureAt.ldR tab_ok rfl rfl (hr2 _ _) (show (bytes s.states)[i]? = some (.int .u8 (s.states[i].toNat : Int)) by simp [bytes, hlt]; rfl)) rfl ?_ | refine VD.take rfl rfl rfl (PureAt.ldR tab_ok rfl rfl (hr2 _ _) (show (bytes s.states)[i]? = some (.int .u8 (s.states[i].toNat : Int)) by simp [bytes, hlt]; rfl)) rfl ?_ | refine VQ.pure rfl rfl (PureAt.ldR tab_ok rfl rfl (hr2 _ _) (show (bytes s.states)[i]? = some (.int .u8 (s.states[i].toNat : Int)) by simp [bytes, hlt]; rfl)) rfl ?_ | refine VD.end rfl rfl rfl (OpV.pure (PureAt.ldR tab_ok rfl rfl (hr2 _ _) (show (bytes s.states)[i]? = some (.int .u8 (s.states[i].toNat : Int)) by simp [bytes, hlt]; rfl)) rfl ?_))
    (refine w ?_; repeat ((first | refine VO.step rfl rfl ?_ | refine VD.end rfl rfl rfl ?_ | refine VD.mid rfl rfl rfl ?_); refine OpV.box rfl rfl rfl ?_; intro _; refine w ?_))
    have htl : (s.states.take i).length = i := by rw [List.length_take, Nat.min_eq_left hi]
    have hrt : ∀ A B, Rds W (A :: B :: R) 1 s.so (s.states.take i).length (bytes (s.states.take i)) := fun A B => by
      have h := Rds.take (l := i) (hr.ent (Ent.drop (Ent.drop Ent.refl) : Ent W (A :: B :: R) R)) hi
      rw [Nat.mul_one, show (bytes s.states).take i = bytes (s.states.take i) by simp [bytes]] at h
      rw [htl]; exact h
    refine VO.re 74 (.slice s.so (s.states.take i).length s.sc) rfl (by rw [htl]) ?_
    ((first | refine VO.step rfl rfl ?_ | refine VD.end rfl rfl rfl ?_ | refine VD.mid rfl rfl rfl ?_); refine OpV.call rfl rfl (fun _ _ => by simp) (contains_ok (3 : UInt8) (hrt _ _) (by omega)) Ent.refl rfl ?_)
    intro _ _
    have hbadx : ¬ (1 ≤ s.states[i].toNat ∧ s.states[i].toNat ≤ 3 ∧ (s.states[i] = 3 → (3 : UInt8) ∉ s.states.take i)) → s.check = 70 := fun h => if_neg (fun h2 => h (h2.2.1 i hlt hlt))
    have hnext : (1 ≤ s.states[i].toNat ∧ s.states[i].toNat ≤ 3 ∧ (s.states[i] = 3 → (3 : UInt8) ∉ s.states.take i)) → goodSt s.states (i + 1) := fun h j hj hji => by
      by_cases e : j = i
      · subst e; exact h
      · exact hgd j hj (by omega)
    have hlast : s.last (i + 1) = if s.states[i] = 3 then s.stripes - 1 else s.last i := by
      unfold SuperD.last
      rw [List.take_succ_eq_append_getElem hlt]
      by_cases h3 : s.states[i] = 3
      · rw [if_pos h3, if_pos (List.mem_append_right _ (List.mem_singleton.2 h3.symm))]
      · have : ¬ (3 : UInt8) = s.states[i] := fun h => h3 h.symm
        simp only [List.mem_append, List.mem_singleton, this, or_false, if_neg h3]
    have h3i : ((s.states[i].toNat : Int) == 3) = decide (s.states[i] = 3) := by
      rw [Bool.eq_iff_iff]; simp only [beq_iff_eq, decide_eq_true_eq]
      constructor
      · intro h; exact UInt8.toNat_inj.1 (by show s.states[i].toNat = 3; omega)
      · intro h; rw [h]; rfl
    generalize s.states[i] = x at *
    (refine w ?_; repeat ((first | refine VO.step rfl rfl ?_ | refine VD.end rfl rfl rfl ?_ | refine VD.mid rfl rfl rfl ?_); refine OpV.box rfl rfl rfl ?_; intro _; refine w ?_))
    ((first | refine VO.split rfl rfl rfl ?_ ?_ | refine VD.split rfl rfl rfl ?_ ?_) <;> intro hb)
    · have g1 := of_decide_eq_true hb
      (refine w ?_; repeat ((first | refine VO.step rfl rfl ?_ | refine VD.end rfl rfl rfl ?_ | refine VD.mid rfl rfl rfl ?_); refine OpV.box rfl rfl rfl ?_; intro _; refine w ?_))
      (refine VE.done1 rfl ?_ ?_)
      · rw [hbadx (by omega)]
      · exact Ent.re
    have g1 := of_decide_eq_false hb
    (refine w ?_; repeat ((first | refine VO.step rfl rfl ?_ | refine VD.end rfl rfl rfl ?_ | refine VD.mid rfl rfl rfl ?_); refine OpV.box rfl rfl rfl ?_; intro _; refine w ?_))
    ((first | refine VO.split rfl rfl rfl ?_ ?_ | refine VD.split rfl rfl rfl ?_ ?_) <;> intro hb)
    · have g2 := of_decide_eq_true hb
      (refine w ?_; repeat ((first | refine VO.step rfl rfl ?_ | refine VD.end rfl rfl rfl ?_ | refine VD.mid rfl rfl rfl ?_); refine OpV.box rfl rfl rfl ?_; intro _; refine w ?_))
      (refine VE.done1 rfl ?_ ?_)
      · rw [hbadx (by omega)]
      · exact Ent.re
    have g2 := of_decide_eq_false hb
    (refine w ?_; repeat ((first | refine VO.step rfl rfl ?_ | refine VD.end rfl rfl rfl ?_ | refine VD.mid rfl rfl rfl ?_); refine OpV.box rfl rfl rfl ?_; intro _; refine w ?_))
    ((first | refine VO.split rfl rfl rfl ?_ ?_ | refine VD.split rfl rfl rfl ?_ ?_) <;> intro hb)
    · have g3 : x = 3 := of_decide_eq_true (by rw [← h3i]; exact hb)
      (refine w ?_; repeat ((first | refine VO.step rfl rfl ?_ | refine VD.end rfl rfl rfl ?_ | refine VD.mid rfl rfl rfl ?_); refine OpV.box rfl rfl rfl ?_; intro _; refine w ?_))
      (refine VC.cond rfl rfl ?_ ?_ <;> intro hc)
      · have g4 : (3 : UInt8) ∈ s.states.take i := of_decide_eq_true hc
        (refine w ?_; repeat ((first | refine VO.step rfl rfl ?_ | refine VD.end rfl rfl rfl ?_ | refine VD.mid rfl rfl rfl ?_); refine OpV.box rfl rfl rfl ?_; intro _; refine w ?_))
        (refine VE.done1 rfl ?_ ?_)
        · rw [hbadx (fun h => h.2.2 g3 g4)]
        · exact Ent.re
      · have g4 : ¬ (3 : UInt8) ∈ s.states.take i := of_decide_eq_false hc
        (refine w ?_; repeat ((first | refine VO.step rfl rfl ?_ | refine VD.end rfl rfl rfl ?_ | refine VD.mid rfl rfl rfl ?_); refine OpV.box rfl rfl rfl ?_; intro _; refine w ?_))
        (refine VC.condTe rfl rfl (by rw [h3i]; exact decide_eq_true g3) ?_)
        (refine w ?_; repeat ((first | refine VO.step rfl rfl ?_ | refine VD.end rfl rfl rfl ?_ | refine VD.mid rfl rfl rfl ?_); refine OpV.box rfl rfl rfl ?_; intro _; refine w ?_))
        have hst := (of_decide_eq_true hz).2.2
        refine VE.round (i + 1) ⟨hlt, hnext ⟨by omega, by omega, fun _ => g4⟩⟩ (by omega) ⟨rfl, rfl, asV rfl (by rw [hlast, if_pos g3, IntWalk.i64_in _ ⟨by omega, by omega⟩]), rfl, rfl, asV rfl (by congr 1), trivial⟩ Ent.re
    · have g3 : ¬ x = 3 := of_decide_eq_false (by rw [← h3i]; exact hb)
      (refine w ?_; repeat ((first | refine VO.step rfl rfl ?_ | refine VD.end rfl rfl rfl ?_ | refine VD.mid rfl rfl rfl ?_); refine OpV.box rfl rfl rfl ?_; intro _; refine w ?_))
      (refine VC.condFe rfl rfl (by rw [h3i]; exact decide_eq_false g3) ?_)
      (refine w ?_; repeat ((first | refine VO.step rfl rfl ?_ | refine VD.end rfl rfl rfl ?_ | refine VD.mid rfl rfl rfl ?_); refine OpV.box rfl rfl rfl ?_; intro _; refine w ?_))
      refine VE.round (i + 1) ⟨hlt, hnext ⟨by omega, by omega, fun h => absurd h g3⟩⟩ (by omega) ⟨rfl, rfl, asV rfl (by rw [hlast, if_neg g3]), rfl, rfl, asV rfl (by congr 1), trivial⟩ Ent.re
  · have hge : i = s.states.length := by have := of_decide_eq_false hc; omega
    subst hge
    (refine w ?_; repeat ((first | refine VO.step rfl rfl ?_ | refine VD.end rfl rfl rfl ?_ | refine VD.mid rfl rfl rfl ?_); refine OpV.box rfl rfl rfl ?_; intro _; refine w ?_))
    (((first | refine VO.step rfl rfl ?_ | refine VD.end rfl rfl rfl ?_ | refine VD.mid rfl rfl rfl ?_); refine OpV.call rfl rfl (fun _ _ => by simp) (within_ok s.cursor 0 (s.last s.states.length)) Ent.re rfl ?_); intro _ _)
    (refine w ?_; repeat ((first | refine VO.step rfl rfl ?_ | refine VD.end rfl rfl rfl ?_ | refine VD.mid rfl rfl rfl ?_); refine OpV.box rfl rfl rfl ?_; intro _; refine w ?_))
    (refine VC.cond rfl rfl ?_ ?_ <;> intro hc)
    · have h4 : ¬ (0 ≤ s.cursor ∧ s.cursor ≤ s.last s.states.length) := of_decide_eq_false (by simpa only [Bool.not_eq_true'] using hc)
      (refine w ?_; repeat ((first | refine VO.step rfl rfl ?_ | refine VD.end rfl rfl rfl ?_ | refine VD.mid rfl rfl rfl ?_); refine OpV.box rfl rfl rfl ?_; intro _; refine w ?_))
      (refine VE.done1 rfl ?_ ?_)
      · rw [show s.check = 70 from if_neg (fun h => h4 ⟨h.2.2.1, h.2.2.2⟩)]
      · exact Ent.re
    · have h4 : 0 ≤ s.cursor ∧ s.cursor ≤ s.last s.states.length := of_decide_eq_true (by simpa only [Bool.not_eq_false'] using hc)
      (refine w ?_; repeat ((first | refine VO.step rfl rfl ?_ | refine VD.end rfl rfl rfl ?_ | refine VD.mid rfl rfl rfl ?_); refine OpV.box rfl rfl rfl ?_; intro _; refine w ?_))
      (refine VE.done1 rfl ?_ ?_)
      · rw [show s.check = 0 from if_pos ⟨hform, hgd, h4.1, h4.2⟩]
      · exact Ent.re
end Go.Proofs.Ytgkpdpoblofehaa
