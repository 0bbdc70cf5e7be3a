/- Superblocks: SameStates, SameSuper, the document's Check. -/
import Derived.Test.YtgkpdpoblofehaaVb
set_option maxRecDepth 8000
set_option linter.unusedVariables false
set_option linter.unusedSimpArgs false
set_option linter.unusedSectionVars false
namespace Go.Proofs.Ytgkpdpoblofehaa
open Go.RowKit Go.Sl
attribute [local irreducible] Own

theorem samest_ok {W : World} {R : List SProp} {ao bo : Option Addr} {ac bc : Nat} {l m : List UInt8} (hl : Rds W R 1 ao l.length (bytes l)) (hm : Rds W R 1 bo m.length (bytes m)) (hn : l.length ≤ 140737488351232) :
    Does1 W Try.prog 100 [.slice ao l.length ac, .slice bo m.length bc] R (.bool (decide (l = m))) R := by
  (refine Does.enter Try.func100 Try.ntmps100 rfl rfl ?_)
  (refine w ?_; repeat ((first | refine VO.step rfl rfl ?_ | refine VD.end rfl rfl rfl ?_ | refine VD.mid rfl rfl rfl ?_); refine OpV.box rfl rfl rfl ?_; intro _; refine w ?_))
  (refine VC.cond rfl rfl ?_ ?_ <;> intro hc)
  · have h : ¬ l.length = m.length := by have : ¬ (l.length : Int) = m.length := (by simpa using hc); omega
    (refine w ?_; repeat ((first | refine VO.step rfl rfl ?_ | refine VD.end rfl rfl rfl ?_ | refine VD.mid rfl rfl rfl ?_); refine OpV.box rfl rfl rfl ?_; intro _; refine w ?_))
    (refine VE.done1 rfl ?_ ?_)
    · congr 1; symm; exact decide_eq_false (fun e => h (by rw [e]))
    · exact Ent.refl
  have h : l.length = m.length := by have : (l.length : Int) = m.length := (by simpa using hc); omega
  (refine w ?_; repeat ((first | refine VO.step rfl rfl ?_ | refine VD.end rfl rfl rfl ?_ | refine VD.mid rfl rfl rfl ?_); refine OpV.box rfl rfl rfl ?_; intro _; refine w ?_))
  refine VC.loop (α := Nat) (fun i => i ≤ l.length ∧ l.take i = m.take i) (fun _ => R) (fun i => [(0, .slice ao l.length ac), (1, .slice bo m.length bc), (5, .int .i64 i)]) (fun i => l.length - i) rfl 0 ⟨Nat.zero_le _, by simp⟩ Ent.refl ⟨rfl, rfl, rfl, trivial⟩ ?_
  rintro i ⟨hi, he⟩
  (refine w ?_; repeat ((first | refine VO.step rfl rfl ?_ | refine VD.end rfl rfl rfl ?_ | refine VD.mid rfl rfl rfl ?_); refine OpV.box rfl rfl rfl ?_; intro _; refine w ?_))
  (refine VC.cond rfl rfl ?_ ?_ <;> intro hc)
  · have hlt : i < l.length := by have := of_decide_eq_true hc; omega
    have hlt2 : i < m.length := by omega
    obtain ⟨a, rfl⟩ : ∃ a, ao = some a := by cases ao with | none => have := hl.nil rfl; omega | some a => exact ⟨a, rfl⟩
    obtain ⟨b, rfl⟩ : ∃ b, bo = some b := by cases bo with | none => have := hm.nil rfl; omega | some b => exact ⟨b, rfl⟩
    (refine w ?_; repeat ((first | refine VO.step rfl rfl ?_ | refine VD.end rfl rfl rfl ?_ | refine VD.mid rfl rfl rfl ?_); refine OpV.box rfl rfl rfl ?_; intro _; refine w ?_))
    ((refine VC.quiet rfl (by kernel_rfl) (by kernel_rfl) ?_); (refine w ?_; repeat ((first | refine VO.step rfl rfl ?_ | refine VD.end rfl rfl rfl ?_ | refine VD.mid rfl rfl rfl ?_); refine OpV.box rfl rfl rfl ?_; intro _; refine w ?_)))
    (first | refine VO.pure rfl rfl (PureAt.ldR tab_ok rfl rfl hl (show (bytes l)[i]? = some (.int .u8 (l[i].toNat : Int)) by simp [bytes, hlt]; rfl)) rfl ?_ | refine VD.take rfl rfl rfl (PureAt.ldR tab_ok rfl rfl hl (show (bytes l)[i]? = some (.int .u8 (l[i].toNat : Int)) by simp [bytes, hlt]; rfl)) rfl ?_ | refine VQ.pure rfl rfl (PureAt.ldR tab_ok rfl rfl hl (show (bytes l)[i]? = some (.int .u8 (l[i].toNat : Int)) by simp [bytes, hlt]; rfl)) rfl ?_ | refine VD.end rfl rfl rfl (OpV.pure (PureAt.ldR tab_ok rfl rfl hl (show (bytes l)[i]? = some (.int .u8 (l[i].toNat : Int)) by simp [bytes, hlt]; rfl)) rfl ?_))
    (refine w ?_; repeat ((first | refine VO.step rfl rfl ?_ | refine VD.end rfl rfl rfl ?_ | refine VD.mid rfl rfl rfl ?_); refine OpV.box rfl rfl rfl ?_; intro _; refine w ?_))
    (first | refine VO.pure rfl rfl (PureAt.ldR tab_ok rfl rfl hm (show (bytes m)[i]? = some (.int .u8 (m[i].toNat : Int)) by simp [bytes, hlt2]; rfl)) rfl ?_ | refine VD.take rfl rfl rfl (PureAt.ldR tab_ok rfl rfl hm (show (bytes m)[i]? = some (.int .u8 (m[i].toNat : Int)) by simp [bytes, hlt2]; rfl)) rfl ?_ | refine VQ.pure rfl rfl (PureAt.ldR tab_ok rfl rfl hm (show (bytes m)[i]? = some (.int .u8 (m[i].toNat : Int)) by simp [bytes, hlt2]; rfl)) rfl ?_ | refine VD.end rfl rfl rfl (OpV.pure (PureAt.ldR tab_ok rfl rfl hm (show (bytes m)[i]? = some (.int .u8 (m[i].toNat : Int)) by simp [bytes, hlt2]; rfl)) rfl ?_))
    (refine w ?_; repeat ((first | refine VO.step rfl rfl ?_ | refine VD.end rfl rfl rfl ?_ | refine VD.mid rfl rfl rfl ?_); refine OpV.box rfl rfl rfl ?_; intro _; refine w ?_))
    (refine VC.cond rfl rfl ?_ ?_ <;> intro hc)
    · have hx : l[i] ≠ m[i] := by intro h; rw [h] at hc; simp at hc
      (refine w ?_; repeat ((first | refine VO.step rfl rfl ?_ | refine VD.end rfl rfl rfl ?_ | refine VD.mid rfl rfl rfl ?_); refine OpV.box rfl rfl rfl ?_; intro _; refine w ?_))
      (refine VE.done1 rfl ?_ ?_)
      · congr 1; symm; exact decide_eq_false (fun e => hx (by subst e; rfl))
      · exact Ent.refl
    · have hx : l[i] = m[i] := by have h : (l[i].toNat : Int) = m[i].toNat := (by simpa using hc); exact UInt8.toNat_inj.1 (by omega)
      (refine w ?_; repeat ((first | refine VO.step rfl rfl ?_ | refine VD.end rfl rfl rfl ?_ | refine VD.mid rfl rfl rfl ?_); refine OpV.box rfl rfl rfl ?_; intro _; refine w ?_))
      refine VE.round (i + 1) ⟨hlt, by rw [List.take_succ_eq_append_getElem hlt, List.take_succ_eq_append_getElem hlt2, he, hx]⟩ (by omega) ⟨rfl, rfl, asV rfl (by congr 1), trivial⟩ Ent.refl
  · have hge : i = l.length := by have := of_decide_eq_false hc; omega
    subst hge
    rw [List.take_of_length_le (Nat.le_refl _), List.take_of_length_le (by omega)] at he
    (refine w ?_; repeat ((first | refine VO.step rfl rfl ?_ | refine VD.end rfl rfl rfl ?_ | refine VD.mid rfl rfl rfl ?_); refine OpV.box rfl rfl rfl ?_; intro _; refine w ?_))
    (refine VE.done1 rfl ?_ ?_)
    · rw [he]; simp
    · exact Ent.refl

def SuperD.same (a b : SuperD) : Bool := ((a.id : Int) == b.id) && (((a.events : Int) == b.events) && (((a.safe : Int) == b.safe) && ((a.role == b.role) && (decide (a.members = b.members ∧ a.chunk = b.chunk ∧ a.stripes = b.stripes) && ((a.ring == b.ring) && ((a.lazy == b.lazy) && ((a.lost == b.lost) && ((a.cursor == b.cursor) && decide (a.states = b.states)))))))))
theorem same_iff (a b : SuperD) : a.same b = true ↔ a.id = b.id ∧ a.events = b.events ∧ a.safe = b.safe ∧ a.role = b.role ∧ (a.members = b.members ∧ a.chunk = b.chunk ∧ a.stripes = b.stripes) ∧ a.ring = b.ring ∧ a.lazy = b.lazy ∧ a.lost = b.lost ∧ a.cursor = b.cursor ∧ a.states = b.states := by
  have c : ∀ x y : Nat, ((x : Int) = y) ↔ x = y := fun x y => by omega
  simp only [SuperD.same, Bool.and_eq_true, beq_iff_eq, decide_eq_true_eq, c]
set_option maxHeartbeats 2000000 in
theorem samesup_ok {W : World} {R : List SProp} (a b : SuperD) (ha : a.fit) (hbf : b.fit) (hra : Rds W R 1 a.so a.states.length (bytes a.states)) (hrb : Rds W R 1 b.so b.states.length (bytes b.states)) :
    Does1 W Try.prog 78 [.agg a.cells.toArray, .agg b.cells.toArray] R (.bool (a.same b)) R := by
  have hlen := ha.len
  have e2 : ∀ A B, Ent W (A :: B :: R) R := fun A B => Ent.drop (Ent.drop Ent.refl)
  (refine Does.enter Try.func78 Try.ntmps78 rfl rfl ?_)
  unfold SuperD.same
  (refine w ?_; repeat ((first | refine VO.step rfl rfl ?_ | refine VD.end rfl rfl rfl ?_ | refine VD.mid rfl rfl rfl ?_); refine OpV.box rfl rfl rfl ?_; intro _; refine w ?_))
  iterate 4
    ((first | refine VO.split rfl rfl rfl ?_ ?_ | refine VD.split rfl rfl rfl ?_ ?_) <;> intro hb)
    rotate_left
    · (refine w ?_; repeat ((first | refine VO.step rfl rfl ?_ | refine VD.end rfl rfl rfl ?_ | refine VD.mid rfl rfl rfl ?_); refine OpV.box rfl rfl rfl ?_; intro _; refine w ?_))
      (refine VE.done1 rfl ?_ ?_)
      · simp only [*, Bool.true_and, Bool.false_and]
      · exact Ent.re
    (refine w ?_; repeat ((first | refine VO.step rfl rfl ?_ | refine VD.end rfl rfl rfl ?_ | refine VD.mid rfl rfl rfl ?_); refine OpV.box rfl rfl rfl ?_; intro _; refine w ?_))
  refine VO.pure rfl rfl (geo_eq (a := a) (b := b) rfl rfl ha hbf rfl) rfl ?_
  (refine w ?_; repeat ((first | refine VO.step rfl rfl ?_ | refine VD.end rfl rfl rfl ?_ | refine VD.mid rfl rfl rfl ?_); refine OpV.box rfl rfl rfl ?_; intro _; refine w ?_))
  iterate 5
    ((first | refine VO.split rfl rfl rfl ?_ ?_ | refine VD.split rfl rfl rfl ?_ ?_) <;> intro hb)
    rotate_left
    · (refine w ?_; repeat ((first | refine VO.step rfl rfl ?_ | refine VD.end rfl rfl rfl ?_ | refine VD.mid rfl rfl rfl ?_); refine OpV.box rfl rfl rfl ?_; intro _; refine w ?_))
      (refine VE.done1 rfl ?_ ?_)
      · simp only [*, Bool.true_and, Bool.false_and]
      · exact Ent.re
    (refine w ?_; repeat ((first | refine VO.step rfl rfl ?_ | refine VD.end rfl rfl rfl ?_ | refine VD.mid rfl rfl rfl ?_); refine OpV.box rfl rfl rfl ?_; intro _; refine w ?_))
  ((first | refine VO.step rfl rfl ?_ | refine VD.end rfl rfl rfl ?_ | refine VD.mid rfl rfl rfl ?_); refine OpV.call rfl rfl (fun _ _ => by simp) (samest_ok (hra.ent (e2 _ _)) (hrb.ent (e2 _ _)) hlen) Ent.refl rfl ?_; intro _ _)
  (refine w ?_; repeat ((first | refine VO.step rfl rfl ?_ | refine VD.end rfl rfl rfl ?_ | refine VD.mid rfl rfl rfl ?_); refine OpV.box rfl rfl rfl ?_; intro _; refine w ?_))
  (refine VE.done1 rfl ?_ ?_)
  · simp only [*, Bool.true_and]
  · exact Ent.re

theorem form_iff (s : SuperD) : s.form ↔ (3 ≤ s.members ∧ s.members ≤ 16 ∧ 1 ≤ s.chunk ∧ s.chunk ≤ 16 ∧ 1 ≤ s.stripes ∧ s.stripes ≤ 256) ∧ 1 ≤ (s.events : Int) ∧ (s.events : Int) ≤ 4611686018427387904 ∧ 1 ≤ (s.safe : Int) ∧ (s.safe : Int) ≤ s.events ∧ 0 ≤ s.role ∧ s.role ≤ s.members ∧ 5 ≤ s.ring ∧ s.ring ≤ 2048 ∧ (s.states.length : Int) = s.members := by
  simp only [SuperD.form, SuperD.sizes, SuperD.counts, decide_eq_true_eq]
  constructor
  · rintro ⟨⟨⟨_, _⟩, ⟨_, _⟩, _, _⟩, ⟨⟨_, _⟩, _, _⟩, ⟨_, _⟩, ⟨_, _⟩, _⟩; refine ⟨⟨?_, ?_, ?_, ?_, ?_, ?_⟩, ?_, ?_, ?_, ?_, ?_, ?_, ?_, ?_, ?_⟩ <;> assumption
  · rintro ⟨⟨_, _, _, _, _, _⟩, _, _, _, _, _, _, _, _, _⟩; refine ⟨⟨⟨?_, ?_⟩, ⟨?_, ?_⟩, ?_, ?_⟩, ⟨⟨?_, ?_⟩, ?_, ?_⟩, ⟨?_, ?_⟩, ⟨?_, ?_⟩, ?_⟩ <;> assumption
theorem bad_form (s : SuperD) (h : ¬ s.form) : s.check = 70 := if_neg (fun h2 => h h2.1)
/-- States, each one of the three. -/
def in3 (l : List UInt8) : Prop := ∀ x ∈ l, 1 ≤ x.toNat ∧ x.toNat ≤ 3
theorem good_of (l : List UInt8) : ∀ i, i ≤ l.length → (goodSt l i ↔ in3 (l.take i) ∧ (l.take i).count 3 ≤ 1)
  | 0, _ => ⟨fun _ => ⟨by simp [in3], by simp⟩, fun _ j h hj => absurd hj (by omega)⟩
  | i + 1, hi => by
    have hlt : i < l.length := by omega
    have ih := good_of l i (by omega)
    have hs : goodSt l (i + 1) ↔ goodSt l i ∧ (1 ≤ l[i].toNat ∧ l[i].toNat ≤ 3 ∧ (l[i] = 3 → (3 : UInt8) ∉ l.take i)) := by
      constructor
      · exact fun h => ⟨fun j hj hji => h j hj (by omega), h i hlt (by omega)⟩
      · rintro ⟨h1, h2⟩ j hj hji
        by_cases e : j = i
        · subst e; exact h2
        · exact h1 j hj (by omega)
    rw [hs, ih, List.take_succ_eq_append_getElem hlt]
    have h3 : in3 (l.take i ++ [l[i]]) ↔ in3 (l.take i) ∧ (1 ≤ l[i].toNat ∧ l[i].toNat ≤ 3) := by
      simp only [in3, List.mem_append, List.mem_singleton]
      exact ⟨fun h => ⟨fun x hx => h x (.inl hx), h _ (.inr rfl)⟩, fun h x hx => hx.elim (h.1 x) (fun e => e ▸ h.2)⟩
    rw [h3, List.count_append, List.count_singleton]
    by_cases e : l[i] = 3
    · have hm : (3 : UInt8) ∉ l.take i ↔ (l.take i).count 3 = 0 := List.count_eq_zero.symm
      rw [e] at *
      simp only [beq_self_eq_true, if_true, true_implies, hm]
      constructor
      · rintro ⟨⟨a, b⟩, c, d, f⟩; exact ⟨⟨a, c, d⟩, by omega⟩
      · rintro ⟨⟨a, c, d⟩, b⟩; exact ⟨⟨a, by omega⟩, c, d, by omega⟩
    · have e2 : (l[i] == 3) = false := by simpa using e
      rw [e2]
      simp only [e, false_implies, and_true, Bool.false_eq_true, if_false, Nat.add_zero]
      constructor
      · rintro ⟨⟨a, b⟩, c, d⟩; exact ⟨⟨a, c, d⟩, b⟩
      · rintro ⟨⟨a, c, d⟩, b⟩; exact ⟨⟨a, b⟩, c, d⟩

end Go.Proofs.Ytgkpdpoblofehaa
