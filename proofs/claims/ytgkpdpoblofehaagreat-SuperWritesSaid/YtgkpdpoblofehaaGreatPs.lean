/- Superblocks: SameStates, SameSuper, the document's Check. -/
import Derived.Test.YtgkpdpoblofehaaGreatVb
set_option maxRecDepth 8000
set_option linter.unusedVariables false
set_option linter.unusedSimpArgs false
set_option linter.unusedSectionVars false
namespace Go.Proofs.YtgkpdpoblofehaaGreat
open Go.RowKit Go.Sl
attribute [local irreducible] Own

theorem samest_ok {W : World} {R : List SProp} {ao bo : Option Addr} {ac bc : Nat} {l m : List UInt8} (hl : Rds W R 1 ao l.length (bytes l)) (hm : Rds W R 1 bo m.length (bytes m)) (hn : l.length ≤ 140737488351232) :
    Does1 W Tryz.prog 82 [.slice ao l.length ac, .slice bo m.length bc] R (.bool (decide (l = m))) R := by
  (refine Does.enter Tryz.func82 Tryz.ntmps82 rfl rfl ?_)
  (refine w ?_; repeat ((first | refine VO.step rfl rfl ?_ | refine VD.end rfl rfl rfl ?_ | refine VD.mid rfl rfl rfl ?_); refine OpV.box rfl rfl rfl ?_; intro _; refine w ?_))
  (refine VC.cond rfl rfl ?_ ?_ <;> intro hc)
  · have h : ¬ l.length = m.length := by have : ¬ (l.length : Int) = m.length := (by simpa using hc); omega
    (refine w ?_; repeat ((first | refine VO.step rfl rfl ?_ | refine VD.end rfl rfl rfl ?_ | refine VD.mid rfl rfl rfl ?_); refine OpV.box rfl rfl rfl ?_; intro _; refine w ?_))
    (refine VE.done1 rfl ?_ ?_)
    · congr 1; symm; exact decide_eq_false (fun e => h (by rw [e]))
    · exact Ent.refl
  have h : l.length = m.length := by have : (l.length : Int) = m.length := (by simpa using hc); omega
  (refine w ?_; repeat ((first | refine VO.step rfl rfl ?_ | refine VD.end rfl rfl rfl ?_ | refine VD.mid rfl rfl rfl ?_); refine OpV.box rfl rfl rfl ?_; intro _; refine w ?_))
  refine VC.loop (α := Nat) (fun i => i ≤ l.length ∧ l.take i = m.take i) (fun _ => R) (fun i => [(0, .slice ao l.length ac), (1, .slice bo m.length bc), (5, .int .i64 i)]) (fun i => l.length - i) rfl 0 ⟨Nat.zero_le _, by simp⟩ Ent.refl ⟨rfl, rfl, rfl, trivial⟩ ?_
  rintro i ⟨hi, he⟩
  (refine w ?_; repeat ((first | refine VO.step rfl rfl ?_ | refine VD.end rfl rfl rfl ?_ | refine VD.mid rfl rfl rfl ?_); refine OpV.box rfl rfl rfl ?_; intro _; refine w ?_))
  (refine VC.cond rfl rfl ?_ ?_ <;> intro hc)
  · have hlt : i < l.length := by have := of_decide_eq_true hc; omega
    have hlt2 : i < m.length := by omega
    obtain ⟨a, rfl⟩ : ∃ a, ao = some a := by cases ao with | none => have := hl.nil rfl; omega | some a => exact ⟨a, rfl⟩
    obtain ⟨b, rfl⟩ : ∃ b, bo = some b := by cases bo with | none => have := hm.nil rfl; omega | some b => exact ⟨b, rfl⟩
    (refine w ?_; repeat ((first | refine VO.step rfl rfl ?_ | refine VD.end rfl rfl rfl ?_ | refine VD.mid rfl rfl rfl ?_); refine OpV.box rfl rfl rfl ?_; intro _; refine w ?_))
    ((refine VC.quiet rfl (by kernel_rfl) (by kernel_rfl) ?_); (refine w ?_; repeat ((first | refine VO.step rfl rfl ?_ | refine VD.end rfl rfl rfl ?_ | refine VD.mid rfl rfl rfl ?_); refine OpV.box rfl rfl rfl ?_; intro _; refine w ?_)))
    (first | refine VO.pure rfl rfl (PureAt.ldR tab_ok rfl rfl hl (show (bytes l)[i]? = some (.int .u8 (l[i].toNat : Int)) by simp [bytes, hlt]; rfl)) rfl ?_ | refine VD.take rfl rfl rfl (PureAt.ldR tab_ok rfl rfl hl (show (bytes l)[i]? = some (.int .u8 (l[i].toNat : Int)) by simp [bytes, hlt]; rfl)) rfl ?_ | refine VQ.pure rfl rfl (PureAt.ldR tab_ok rfl rfl hl (show (bytes l)[i]? = some (.int .u8 (l[i].toNat : Int)) by simp [bytes, hlt]; rfl)) rfl ?_ | refine VD.end rfl rfl rfl (OpV.pure (PureAt.ldR tab_ok rfl rfl hl (show (bytes l)[i]? = some (.int .u8 (l[i].toNat : Int)) by simp [bytes, hlt]; rfl)) rfl ?_))
    (refine w ?_; repeat ((first | refine VO.step rfl rfl ?_ | refine VD.end rfl rfl rfl ?_ | refine VD.mid rfl rfl rfl ?_); refine OpV.box rfl rfl rfl ?_; intro _; refine w ?_))
    (first | refine VO.pure rfl rfl (PureAt.ldR tab_ok rfl rfl hm (show (bytes m)[i]? = some (.int .u8 (m[i].toNat : Int)) by simp [bytes, hlt2]; rfl)) rfl ?_ | refine VD.take rfl rfl rfl (PureAt.ldR tab_ok rfl rfl hm (show (bytes m)[i]? = some (.int .u8 (m[i].toNat : Int)) by simp [bytes, hlt2]; rfl)) rfl ?_ | refine VQ.pure rfl rfl (PureAt.ldR tab_ok rfl rfl hm (show (bytes m)[i]? = some (.int .u8 (m[i].toNat : Int)) by simp [bytes, hlt2]; rfl)) rfl ?_ | refine VD.end rfl rfl rfl (OpV.pure (PureAt.ldR tab_ok rfl rfl hm (show (bytes m)[i]? = some (.int .u8 (m[i].toNat : Int)) by simp [bytes, hlt2]; rfl)) rfl ?_))
    (refine w ?_; repeat ((first | refine VO.step rfl rfl ?_ | refine VD.end rfl rfl rfl ?_ | refine VD.mid rfl rfl rfl ?_); refine OpV.box rfl rfl rfl ?_; intro _; refine w ?_))
    (refine VC.cond rfl rfl ?_ ?_ <;> intro hc)
    · have hx : l[i] ≠ m[i] := by intro h; rw [h] at hc; simp at hc
      (refine w ?_; repeat ((first | refine VO.step rfl rfl ?_ | refine VD.end rfl rfl rfl ?_ | refine VD.mid rfl rfl rfl ?_); refine OpV.box rfl rfl rfl ?_; intro _; refine w ?_))
      (refine VE.done1 rfl ?_ ?_)
      · congr 1; symm; exact decide_eq_false (fun e => hx (by subst e; rfl))
      · exact Ent.refl
    · have hx : l[i] = m[i] := by have h : (l[i].toNat : Int) = m[i].toNat := (by simpa using hc); exact UInt8.toNat_inj.1 (by omega)
      (refine w ?_; repeat ((first | refine VO.step rfl rfl ?_ | refine VD.end rfl rfl rfl ?_ | refine VD.mid rfl rfl rfl ?_); refine OpV.box rfl rfl rfl ?_; intro _; refine w ?_))
      refine VE.round (i + 1) ⟨hlt, by rw [List.take_succ_eq_append_getElem hlt, List.take_succ_eq_append_getElem hlt2, he, hx]⟩ (by omega) ⟨rfl, rfl, asV rfl (by congr 1), trivial⟩ Ent.refl
  · have hge : i = l.length := by have := of_decide_eq_false hc; omega
    subst hge
    rw [List.take_of_length_le (Nat.le_refl _), List.take_of_length_le (by omega)] at he
    (refine w ?_; repeat ((first | refine VO.step rfl rfl ?_ | refine VD.end rfl rfl rfl ?_ | refine VD.mid rfl rfl rfl ?_); refine OpV.box rfl rfl rfl ?_; intro _; refine w ?_))
    (refine VE.done1 rfl ?_ ?_)
    · rw [he]; simp
    · exact Ent.refl

def SuperD.same (a b : SuperD) : Bool := ((a.id : Int) == b.id) && (((a.events : Int) == b.events) && (((a.safe : Int) == b.safe) && ((a.role == b.role) && (decide (a.members = b.members ∧ a.chunk = b.chunk ∧ a.stripes = b.stripes) && ((a.ring == b.ring) && ((a.lazy == b.lazy) && ((a.lost == b.lost) && ((a.cursor == b.cursor) && decide (a.states = b.states)))))))))
theorem same_iff (a b : SuperD) : a.same b = true ↔ a.id = b.id ∧ a.events = b.events ∧ a.safe = b.safe ∧ a.role = b.role ∧ (a.members = b.members ∧ a.chunk = b.chunk ∧ a.stripes = b.stripes) ∧ a.ring = b.ring ∧ a.lazy = b.lazy ∧ a.lost = b.lost ∧ a.cursor = b.cursor ∧ a.states = b.states := by
  have c : ∀ x y : Nat, ((x : Int) = y) ↔ x = y := fun x y => by omega
  simp only [SuperD.same, Bool.and_eq_true, beq_iff_eq, decide_eq_true_eq, c]
set_option maxHeartbeats 2000000 in
theorem samesup_ok {W : World} {R : List SProp} (a b : SuperD) (ha : a.fit) (hbf : b.fit) (hra : Rds W R 1 a.so a.states.length (bytes a.states)) (hrb : Rds W R 1 b.so b.states.length (bytes b.states)) :
    Does1 W Tryz.prog 26 [.agg a.cells.toArray, .agg b.cells.toArray] R (.bool (a.same b)) R := by
  have hlen := ha.len
  have e2 : ∀ A B, Ent W (A :: B :: R) R := fun A B => Ent.drop (Ent.drop Ent.refl)
  (refine Does.enter Tryz.func26 Tryz.ntmps26 rfl rfl ?_)
  unfold SuperD.same
  (refine w ?_; repeat ((first | refine VO.step rfl rfl ?_ | refine VD.end rfl rfl rfl ?_ | refine VD.mid rfl rfl rfl ?_); refine OpV.box rfl rfl rfl ?_; intro _; refine w ?_))
  iterate 4
    ((first | refine VO.split rfl rfl rfl ?_ ?_ | refine VD.split rfl rfl rfl ?_ ?_) <;> intro hb)
    rotate_left
    · (refine w ?_; repeat ((first | refine VO.step rfl rfl ?_ | refine VD.end rfl rfl rfl ?_ | refine VD.mid rfl rfl rfl ?_); refine OpV.box rfl rfl rfl ?_; intro _; refine w ?_))
      (refine VE.done1 rfl ?_ ?_)
      · simp only [*, Bool.true_and, Bool.false_and]
      · exact Ent.re
    (refine w ?_; repeat ((first | refine VO.step rfl rfl ?_ | refine VD.end rfl rfl rfl ?_ | refine VD.mid rfl rfl rfl ?_); refine OpV.box rfl rfl rfl ?_; intro _; refine w ?_))
  refine VO.pure rfl rfl (geo_eq (a := a) (b := b) rfl rfl ha hbf rfl) rfl ?_
  (refine w ?_; repeat ((first | refine VO.step rfl rfl ?_ | refine VD.end rfl rfl rfl ?_ | refine VD.mid rfl rfl rfl ?_); refine OpV.box rfl rfl rfl ?_; intro _; refine w ?_))
  iterate 5
    ((first | refine VO.split rfl rfl rfl ?_ ?_ | refine VD.split rfl rfl rfl ?_ ?_) <;> intro hb)
    rotate_left
    · (refine w ?_; repeat ((first | refine VO.step rfl rfl ?_ | refine VD.end rfl rfl rfl ?_ | refine VD.mid rfl rfl rfl ?_); refine OpV.box rfl rfl rfl ?_; intro _; refine w ?_))
      (refine VE.done1 rfl ?_ ?_)
      · simp only [*, Bool.true_and, Bool.false_and]
      · exact Ent.re
    (refine w ?_; repeat ((first | refine VO.step rfl rfl ?_ | refine VD.end rfl rfl rfl ?_ | refine VD.mid rfl rfl rfl ?_); refine OpV.box rfl rfl rfl ?_; intro _; refine w ?_))
  ((first | refine VO.step rfl rfl ?_ | refine VD.end rfl rfl rfl ?_ | refine VD.mid rfl rfl rfl ?_); refine OpV.call rfl rfl (fun _ _ => by simp) (samest_ok (hra.ent (e2 _ _)) (hrb.ent (e2 _ _)) hlen) Ent.refl rfl ?_; intro _ _)
  (refine w ?_; repeat ((first | refine VO.step rfl rfl ?_ | refine VD.end rfl rfl rfl ?_ | refine VD.mid rfl rfl rfl ?_); refine OpV.box rfl rfl rfl ?_; intro _; refine w ?_))
  (refine VE.done1 rfl ?_ ?_)
  · simp only [*, Bool.true_and]
  · exact Ent.re

theorem form_iff (s : SuperD) : s.form ↔ (3 ≤ s.members ∧ s.members ≤ 16 ∧ 1 ≤ s.chunk ∧ s.chunk ≤ 16 ∧ 1 ≤ s.stripes ∧ s.stripes ≤ 256) ∧ 1 ≤ (s.events : Int) ∧ (s.events : Int) ≤ 4611686018427387904 ∧ 1 ≤ (s.safe : Int) ∧ (s.safe : Int) ≤ s.events ∧ 0 ≤ s.role ∧ s.role ≤ s.members ∧ 5 ≤ s.ring ∧ s.ring ≤ 2048 ∧ (s.states.length : Int) = s.members := by
  simp only [SuperD.form, SuperD.sizes, SuperD.counts, decide_eq_true_eq]
  constructor
  · rintro ⟨⟨⟨_, _⟩, ⟨_, _⟩, _, _⟩, ⟨⟨_, _⟩, _, _⟩, ⟨_, _⟩, ⟨_, _⟩, _⟩; refine ⟨⟨?_, ?_, ?_, ?_, ?_, ?_⟩, ?_, ?_, ?_, ?_, ?_, ?_, ?_, ?_, ?_⟩ <;> assumption
  · rintro ⟨⟨_, _, _, _, _, _⟩, _, _, _, _, _, _, _, _, _⟩; refine ⟨⟨⟨?_, ?_⟩, ⟨?_, ?_⟩, ?_, ?_⟩, ⟨⟨?_, ?_⟩, ?_, ?_⟩, ⟨?_, ?_⟩, ⟨?_, ?_⟩, ?_⟩ <;> assumption
theorem bad_form (s : SuperD) (h : ¬ s.form) : s.check = 70 := if_neg (fun h2 => h h2.1)
/-- States, each one of the three. -/
def in3 (l : List UInt8) : Prop := ∀ x ∈ l, 1 ≤ x.toNat ∧ x.toNat ≤ 3
theorem good_of (l : List UInt8) : ∀ i, i ≤ l.length → (goodSt l i ↔ in3 (l.take i) ∧ (l.take i).count 3 ≤ 1)
  | 0, _ => ⟨fun _ => ⟨by simp [in3], by simp⟩, fun _ j h hj => absurd hj (by omega)⟩
  | i + 1, hi => by
    have hlt : i < l.length := by omega
    have ih := good_of l i (by omega)
    have hs : goodSt l (i + 1) ↔ goodSt l i ∧ (1 ≤ l[i].toNat ∧ l[i].toNat ≤ 3 ∧ (l[i] = 3 → (3 : UInt8) ∉ l.take i)) := by
      constructor
      · exact fun h => ⟨fun j hj hji => h j hj (by omega), h i hlt (by omega)⟩
      · rintro ⟨h1, h2⟩ j hj hji
        by_cases e : j = i
        · subst e; exact h2
        · exact h1 j hj (by omega)
    rw [hs, ih, List.take_succ_eq_append_getElem hlt]
    have h3 : in3 (l.take i ++ [l[i]]) ↔ in3 (l.take i) ∧ (1 ≤ l[i].toNat ∧ l[i].toNat ≤ 3) := by
      simp only [in3, List.mem_append, List.mem_singleton]
      exact ⟨fun h => ⟨fun x hx => h x (.inl hx), h _ (.inr rfl)⟩, fun h x hx => hx.elim (h.1 x) (fun e => e ▸ h.2)⟩
    rw [h3, List.count_append, List.count_singleton]
    by_cases e : l[i] = 3
    · have hm : (3 : UInt8) ∉ l.take i ↔ (l.take i).count 3 = 0 := List.count_eq_zero.symm
      rw [e] at *
      simp only [beq_self_eq_true, if_true, true_implies, hm]
      constructor
      · rintro ⟨⟨a, b⟩, c, d, f⟩; exact ⟨⟨a, c, d⟩, by omega⟩
      · rintro ⟨⟨a, c, d⟩, b⟩; exact ⟨⟨a, by omega⟩, c, d, by omega⟩
    · have e2 : (l[i] == 3) = false := by simpa using e
      rw [e2]
      simp only [e, false_implies, and_true, Bool.false_eq_true, if_false, Nat.add_zero]
      constructor
      · rintro ⟨⟨a, b⟩, c, d⟩; exact ⟨⟨a, c, d⟩, b⟩
      · rintro ⟨⟨a, c, d⟩, b⟩; exact ⟨⟨a, b⟩, c, d⟩

set_option maxHeartbeats 4000000 in
theorem rcheck_ok {W : World} {R : List SProp} (s : SuperD) (hf : s.fit) (hr : Rds W R 1 s.so s.states.length (bytes s.states)) :
    Does1 W Tryz.prog 12 [.agg s.cells.toArray] R (.int .i64 s.check) R := by
  (refine Does.enter Tryz.func12 Tryz.ntmps12 rfl rfl ?_)
  (refine w ?_; repeat ((first | refine VO.step rfl rfl ?_ | refine VD.end rfl rfl rfl ?_ | refine VD.mid rfl rfl rfl ?_); refine OpV.box rfl rfl rfl ?_; intro _; refine w ?_))
  rename_i b
  have hlen := hf.len
  ((first | refine VO.step rfl rfl ?_ | refine VD.end rfl rfl rfl ?_ | refine VD.mid rfl rfl rfl ?_); refine OpV.allocS sb_24 rfl ?_; intro na)
  (refine w ?_; repeat ((first | refine VO.step rfl rfl ?_ | refine VD.end rfl rfl rfl ?_ | refine VD.mid rfl rfl rfl ?_); refine OpV.box rfl rfl rfl ?_; intro _; refine w ?_))
  (first | refine VO.step rfl rfl ?_ | refine VD.end rfl rfl rfl ?_ | refine VD.mid rfl rfl rfl ?_)
  refine OpV.stA (vs := [.int .i64 s.members, .int .i64 s.chunk, .int .i64 s.stripes]) tab_ok rfl rfl rfl rfl (by simp [Value.oneCell']) (by (repeat first | exact .head | apply Hole.tail)) (by simp) ?_
  refine VO.ent (Reord.ent (L := Row na 24 [.int .i64 s.members, .int .i64 s.chunk, .int .i64 s.stripes] :: Row b 27 s.cells :: R) (by (repeat first | exact .refl | (apply Reord.cons; focus repeat first | exact .head | apply Del.tail) | exact .nil | apply Reord.drop))) ?_
  (refine w ?_; repeat ((first | refine VO.step rfl rfl ?_ | refine VD.end rfl rfl rfl ?_ | refine VD.mid rfl rfl rfl ?_); refine OpV.box rfl rfl rfl ?_; intro _; refine w ?_))
  iterate 5
    ((first | refine VO.split rfl rfl rfl ?_ ?_ | refine VD.split rfl rfl rfl ?_ ?_) <;> intro hb)
    · (refine w ?_; repeat ((first | refine VO.step rfl rfl ?_ | refine VD.end rfl rfl rfl ?_ | refine VD.mid rfl rfl rfl ?_); refine OpV.box rfl rfl rfl ?_; intro _; refine w ?_))
      replace hb := of_decide_eq_true hb
      (refine VE.done1 rfl ?_ ?_)
      · rw [bad_form s (fun h => by have := (form_iff s).1 h; omega)]
      · exact Ent.re
    replace hb := of_decide_eq_false hb
    (refine w ?_; repeat ((first | refine VO.step rfl rfl ?_ | refine VD.end rfl rfl rfl ?_ | refine VD.mid rfl rfl rfl ?_); refine OpV.box rfl rfl rfl ?_; intro _; refine w ?_))
  (refine VC.cond rfl rfl ?_ ?_ <;> intro hc)
  · (refine w ?_; repeat ((first | refine VO.step rfl rfl ?_ | refine VD.end rfl rfl rfl ?_ | refine VD.mid rfl rfl rfl ?_); refine OpV.box rfl rfl rfl ?_; intro _; refine w ?_))
    replace hc := of_decide_eq_true hc
    (refine VE.done1 rfl ?_ ?_)
    · rw [bad_form s (fun h => by have := (form_iff s).1 h; omega)]
    · exact Ent.re
  replace hc := of_decide_eq_false hc
  (refine w ?_; repeat ((first | refine VO.step rfl rfl ?_ | refine VD.end rfl rfl rfl ?_ | refine VD.mid rfl rfl rfl ?_); refine OpV.box rfl rfl rfl ?_; intro _; refine w ?_))
  iterate 8
    ((first | refine VO.split rfl rfl rfl ?_ ?_ | refine VD.split rfl rfl rfl ?_ ?_) <;> intro hb)
    · (refine w ?_; repeat ((first | refine VO.step rfl rfl ?_ | refine VD.end rfl rfl rfl ?_ | refine VD.mid rfl rfl rfl ?_); refine OpV.box rfl rfl rfl ?_; intro _; refine w ?_))
      replace hb := of_decide_eq_true hb
      (refine VE.done1 rfl ?_ ?_)
      · rw [bad_form s (fun h => by have := (form_iff s).1 h; omega)]
      · exact Ent.re
    replace hb := of_decide_eq_false hb
    (refine w ?_; repeat ((first | refine VO.step rfl rfl ?_ | refine VD.end rfl rfl rfl ?_ | refine VD.mid rfl rfl rfl ?_); refine OpV.box rfl rfl rfl ?_; intro _; refine w ?_))
  (refine VC.cond rfl rfl ?_ ?_ <;> intro hc)
  · (refine w ?_; repeat ((first | refine VO.step rfl rfl ?_ | refine VD.end rfl rfl rfl ?_ | refine VD.mid rfl rfl rfl ?_); refine OpV.box rfl rfl rfl ?_; intro _; refine w ?_))
    have hc2 : ¬ (s.states.length : Int) = s.members := by simpa using hc
    (refine VE.done1 rfl ?_ ?_)
    · rw [bad_form s (fun h => by have := (form_iff s).1 h; omega)]
    · exact Ent.re
  have hc2 : (s.states.length : Int) = s.members := by simpa using hc
  have hform : s.form := (form_iff s).2 (by refine ⟨⟨?_, ?_, ?_, ?_, ?_, ?_⟩, ?_, ?_, ?_, ?_, ?_, ?_, ?_, ?_, ?_⟩ <;> omega)
  (refine w ?_; repeat ((first | refine VO.step rfl rfl ?_ | refine VD.end rfl rfl rfl ?_ | refine VD.mid rfl rfl rfl ?_); refine OpV.box rfl rfl rfl ?_; intro _; refine w ?_))
  refine VC.loop (α := Nat) (fun i => i ≤ s.states.length ∧ in3 (s.states.take i)) (fun _ => Row na 24 [.int .i64 s.members, .int .i64 s.chunk, .int .i64 s.stripes] :: Row b 27 s.cells :: R)
    (fun i => [(1, .pointer (some ⟨b, 0, none⟩)), (3, .pointer (some ⟨na, 0, none⟩)), (4, .int .i64 ((s.states.take i).count 3)), (5, .int .i64 i)]) (fun i => s.states.length - i) rfl 0 ⟨Nat.zero_le _, by simp [in3]⟩ Ent.refl ⟨rfl, rfl, rfl, rfl, trivial⟩ ?_
  rintro i ⟨hi, hin⟩
  have hct : (s.states.take i).count 3 ≤ i := Nat.le_trans List.count_le_length (by rw [List.length_take]; omega)
  (refine w ?_; repeat ((first | refine VO.step rfl rfl ?_ | refine VD.end rfl rfl rfl ?_ | refine VD.mid rfl rfl rfl ?_); refine OpV.box rfl rfl rfl ?_; intro _; refine w ?_))
  (refine VC.cond rfl rfl ?_ ?_ <;> intro hc)
  · have hlt : i < s.states.length := by have := of_decide_eq_true hc; omega
    obtain ⟨a, ha⟩ : ∃ a, s.so = some a := by cases ho : s.so with | none => have := hr.nil ho; omega | some a => exact ⟨a, rfl⟩
    have hr2 : ∀ A B, Rds W (A :: B :: R) 1 (some a) s.states.length (bytes s.states) := fun A B => by rw [← ha]; exact hr.ent (Ent.drop (Ent.drop Ent.refl))
    have hget : (bytes s.states)[i]? = some (.int .u8 (s.states[i].toNat : Int)) := by simp [bytes, hlt]; rfl
    have hcs := List.take_succ_eq_append_getElem hlt
    have hin2 : 1 ≤ s.states[i].toNat ∧ s.states[i].toNat ≤ 3 → in3 (s.states.take (i + 1)) := fun h x hx => by
      rw [hcs, List.mem_append, List.mem_singleton] at hx
      rcases hx with h' | h'
      · exact hin x h'
      · rw [h']; exact h
    have hcnt : (s.states.take (i + 1)).count 3 = (s.states.take i).count 3 + if s.states[i] = 3 then 1 else 0 := by rw [hcs, List.count_append, List.count_singleton]; simp
    have hbadx : ¬ (1 ≤ s.states[i].toNat ∧ s.states[i].toNat ≤ 3) → s.check = 70 := fun h => if_neg (fun h2 => h (by have := h2.2.1 i hlt hlt; exact ⟨this.1, this.2.1⟩))
    have h3i : ((s.states[i].toNat : Int) == 3) = decide (s.states[i] = 3) := by
      rw [Bool.eq_iff_iff]; simp only [beq_iff_eq, decide_eq_true_eq]
      constructor
      · intro h; exact UInt8.toNat_inj.1 (by show s.states[i].toNat = 3; omega)
      · intro h; rw [h]; rfl
    generalize s.states[i] = x at *
    (refine w ?_; repeat ((first | refine VO.step rfl rfl ?_ | refine VD.end rfl rfl rfl ?_ | refine VD.mid rfl rfl rfl ?_); refine OpV.box rfl rfl rfl ?_; intro _; refine w ?_))
    refine VO.re 94 (.slice (some a) s.states.length s.sc) rfl (by rw [ha]) ?_
    (refine w ?_; repeat ((first | refine VO.step rfl rfl ?_ | refine VD.end rfl rfl rfl ?_ | refine VD.mid rfl rfl rfl ?_); refine OpV.box rfl rfl rfl ?_; intro _; refine w ?_))
    (first | refine VO.pure rfl rfl (PureAt.ldR tab_ok rfl rfl (hr2 _ _) hget) rfl ?_ | refine VD.take rfl rfl rfl (PureAt.ldR tab_ok rfl rfl (hr2 _ _) hget) rfl ?_ | refine VQ.pure rfl rfl (PureAt.ldR tab_ok rfl rfl (hr2 _ _) hget) rfl ?_ | refine VD.end rfl rfl rfl (OpV.pure (PureAt.ldR tab_ok rfl rfl (hr2 _ _) hget) rfl ?_))
    (refine w ?_; repeat ((first | refine VO.step rfl rfl ?_ | refine VD.end rfl rfl rfl ?_ | refine VD.mid rfl rfl rfl ?_); refine OpV.box rfl rfl rfl ?_; intro _; refine w ?_))
    ((first | refine VO.split rfl rfl rfl ?_ ?_ | refine VD.split rfl rfl rfl ?_ ?_) <;> intro hb)
    · replace hb := of_decide_eq_true hb
      (refine w ?_; repeat ((first | refine VO.step rfl rfl ?_ | refine VD.end rfl rfl rfl ?_ | refine VD.mid rfl rfl rfl ?_); refine OpV.box rfl rfl rfl ?_; intro _; refine w ?_))
      (refine VE.done1 rfl ?_ ?_)
      · rw [hbadx (by omega)]
      · exact Ent.re
    replace hb := of_decide_eq_false hb
    (refine w ?_; repeat ((first | refine VO.step rfl rfl ?_ | refine VD.end rfl rfl rfl ?_ | refine VD.mid rfl rfl rfl ?_); refine OpV.box rfl rfl rfl ?_; intro _; refine w ?_))
    refine VO.re 101 (.slice (some a) s.states.length s.sc) rfl (by rw [ha]) ?_
    (refine w ?_; repeat ((first | refine VO.step rfl rfl ?_ | refine VD.end rfl rfl rfl ?_ | refine VD.mid rfl rfl rfl ?_); refine OpV.box rfl rfl rfl ?_; intro _; refine w ?_))
    (first | refine VO.pure rfl rfl (PureAt.ldR tab_ok rfl rfl (hr2 _ _) hget) rfl ?_ | refine VD.take rfl rfl rfl (PureAt.ldR tab_ok rfl rfl (hr2 _ _) hget) rfl ?_ | refine VQ.pure rfl rfl (PureAt.ldR tab_ok rfl rfl (hr2 _ _) hget) rfl ?_ | refine VD.end rfl rfl rfl (OpV.pure (PureAt.ldR tab_ok rfl rfl (hr2 _ _) hget) rfl ?_))
    (refine w ?_; repeat ((first | refine VO.step rfl rfl ?_ | refine VD.end rfl rfl rfl ?_ | refine VD.mid rfl rfl rfl ?_); refine OpV.box rfl rfl rfl ?_; intro _; refine w ?_))
    (refine VC.cond rfl rfl ?_ ?_ <;> intro hc)
    · replace hc := of_decide_eq_true hc
      (refine w ?_; repeat ((first | refine VO.step rfl rfl ?_ | refine VD.end rfl rfl rfl ?_ | refine VD.mid rfl rfl rfl ?_); refine OpV.box rfl rfl rfl ?_; intro _; refine w ?_))
      (refine VE.done1 rfl ?_ ?_)
      · rw [hbadx (by omega)]
      · exact Ent.re
    replace hc := of_decide_eq_false hc
    (refine w ?_; repeat ((first | refine VO.step rfl rfl ?_ | refine VD.end rfl rfl rfl ?_ | refine VD.mid rfl rfl rfl ?_); refine OpV.box rfl rfl rfl ?_; intro _; refine w ?_))
    refine VO.re 108 (.slice (some a) s.states.length s.sc) rfl (by rw [ha]) ?_
    (refine w ?_; repeat ((first | refine VO.step rfl rfl ?_ | refine VD.end rfl rfl rfl ?_ | refine VD.mid rfl rfl rfl ?_); refine OpV.box rfl rfl rfl ?_; intro _; refine w ?_))
    (first | refine VO.pure rfl rfl (PureAt.ldR tab_ok rfl rfl (hr2 _ _) hget) rfl ?_ | refine VD.take rfl rfl rfl (PureAt.ldR tab_ok rfl rfl (hr2 _ _) hget) rfl ?_ | refine VQ.pure rfl rfl (PureAt.ldR tab_ok rfl rfl (hr2 _ _) hget) rfl ?_ | refine VD.end rfl rfl rfl (OpV.pure (PureAt.ldR tab_ok rfl rfl (hr2 _ _) hget) rfl ?_))
    (refine w ?_; repeat ((first | refine VO.step rfl rfl ?_ | refine VD.end rfl rfl rfl ?_ | refine VD.mid rfl rfl rfl ?_); refine OpV.box rfl rfl rfl ?_; intro _; refine w ?_))
    (refine VC.cond rfl rfl ?_ ?_ <;> intro hc)
    · have h3 : x = 3 := of_decide_eq_true (by rw [← h3i]; exact hc)
      (refine w ?_; repeat ((first | refine VO.step rfl rfl ?_ | refine VD.end rfl rfl rfl ?_ | refine VD.mid rfl rfl rfl ?_); refine OpV.box rfl rfl rfl ?_; intro _; refine w ?_))
      refine VE.round (i + 1) ⟨hlt, hin2 (by omega)⟩ (by omega) ⟨rfl, rfl, asV rfl (by rw [hcnt, if_pos h3]; congr 1), asV rfl (by congr 1), trivial⟩ ?_
      exact Ent.re
    · have h3 : ¬ x = 3 := of_decide_eq_false (by rw [← h3i]; exact hc)
      (refine w ?_; repeat ((first | refine VO.step rfl rfl ?_ | refine VD.end rfl rfl rfl ?_ | refine VD.mid rfl rfl rfl ?_); refine OpV.box rfl rfl rfl ?_; intro _; refine w ?_))
      refine VE.round (i + 1) ⟨hlt, hin2 (by omega)⟩ (by omega) ⟨rfl, rfl, asV rfl (by rw [hcnt, if_neg h3]; congr 1), asV rfl (by congr 1), trivial⟩ ?_
      exact Ent.re
  · have hge : i = s.states.length := by have := of_decide_eq_false hc; omega
    subst hge
    have hgo := good_of s.states s.states.length (Nat.le_refl _)
    rw [List.take_of_length_le (Nat.le_refl _)] at hin hgo hct ⊢
    have hlast : s.last s.states.length = if s.states.count 3 = 0 then 0 else s.stripes - 1 := by
      unfold SuperD.last
      rw [List.take_of_length_le (Nat.le_refl _)]
      by_cases h : (3 : UInt8) ∈ s.states
      · rw [if_pos h, if_neg (fun e => List.count_eq_zero.1 e h)]
      · rw [if_neg h, if_pos (List.count_eq_zero.2 h)]
    have hck : s.check = if s.states.count 3 ≤ 1 ∧ 0 ≤ s.cursor ∧ s.cursor ≤ s.last s.states.length then 0 else 70 := by
      unfold SuperD.check
      by_cases h : s.okP
      · rw [if_pos h, if_pos ⟨(hgo.1 h.2.1).2, h.2.2.1, h.2.2.2⟩]
      · rw [if_neg h, if_neg (fun h2 => h ⟨hform, hgo.2 ⟨hin, h2.1⟩, h2.2.1, h2.2.2⟩)]
    have hfs := ((form_iff s).1 hform).1
    rw [hck, hlast]
    generalize s.states.count 3 = c3 at *
    clear hck hlast hgo hc
    (refine w ?_; repeat ((first | refine VO.step rfl rfl ?_ | refine VD.end rfl rfl rfl ?_ | refine VD.mid rfl rfl rfl ?_); refine OpV.box rfl rfl rfl ?_; intro _; refine w ?_))
    ((first | refine VO.split rfl rfl rfl ?_ ?_ | refine VD.split rfl rfl rfl ?_ ?_) <;> intro hb)
    · replace hb := of_decide_eq_true hb
      (refine w ?_; repeat ((first | refine VO.step rfl rfl ?_ | refine VD.end rfl rfl rfl ?_ | refine VD.mid rfl rfl rfl ?_); refine OpV.box rfl rfl rfl ?_; intro _; refine w ?_))
      (refine VE.done1 rfl ?_ ?_)
      · rw [if_neg (by omega)]
      · exact Ent.re
    replace hb := of_decide_eq_false hb
    (refine w ?_; repeat ((first | refine VO.step rfl rfl ?_ | refine VD.end rfl rfl rfl ?_ | refine VD.mid rfl rfl rfl ?_); refine OpV.box rfl rfl rfl ?_; intro _; refine w ?_))
    ((first | refine VO.split rfl rfl rfl ?_ ?_ | refine VD.split rfl rfl rfl ?_ ?_) <;> intro hb)
    · replace hb := of_decide_eq_true hb
      (refine w ?_; repeat ((first | refine VO.step rfl rfl ?_ | refine VD.end rfl rfl rfl ?_ | refine VD.mid rfl rfl rfl ?_); refine OpV.box rfl rfl rfl ?_; intro _; refine w ?_))
      (refine VE.done1 rfl ?_ ?_)
      · rw [if_neg (by omega)]
      · exact Ent.re
    replace hb := of_decide_eq_false hb
    (refine w ?_; repeat ((first | refine VO.step rfl rfl ?_ | refine VD.end rfl rfl rfl ?_ | refine VD.mid rfl rfl rfl ?_); refine OpV.box rfl rfl rfl ?_; intro _; refine w ?_))
    ((first | refine VO.split rfl rfl rfl ?_ ?_ | refine VD.split rfl rfl rfl ?_ ?_) <;> intro hb)
    · replace hb := of_decide_eq_true hb
      (refine w ?_; repeat ((first | refine VO.step rfl rfl ?_ | refine VD.end rfl rfl rfl ?_ | refine VD.mid rfl rfl rfl ?_); refine OpV.box rfl rfl rfl ?_; intro _; refine w ?_))
      (refine VE.done1 rfl ?_ ?_)
      · rw [if_neg (by split <;> omega)]
      · exact Ent.re
    replace hb := of_decide_eq_false hb
    (refine w ?_; repeat ((first | refine VO.step rfl rfl ?_ | refine VD.end rfl rfl rfl ?_ | refine VD.mid rfl rfl rfl ?_); refine OpV.box rfl rfl rfl ?_; intro _; refine w ?_))
    ((first | refine VO.split rfl rfl rfl ?_ ?_ | refine VD.split rfl rfl rfl ?_ ?_) <;> intro hb)
    · have h0 : c3 = 0 := by have : (c3 : Int) = 0 := (by simpa using hb); omega
      (refine w ?_; repeat ((first | refine VO.step rfl rfl ?_ | refine VD.end rfl rfl rfl ?_ | refine VD.mid rfl rfl rfl ?_); refine OpV.box rfl rfl rfl ?_; intro _; refine w ?_))
      (refine VC.cond rfl rfl ?_ ?_ <;> intro hc)
      · have hn : ¬ s.cursor = 0 := by simpa using hc
        (refine w ?_; repeat ((first | refine VO.step rfl rfl ?_ | refine VD.end rfl rfl rfl ?_ | refine VD.mid rfl rfl rfl ?_); refine OpV.box rfl rfl rfl ?_; intro _; refine w ?_))
        (refine VE.done1 rfl ?_ ?_)
        · rw [if_pos h0, if_neg (by omega)]
        · exact Ent.re
      · have hn : s.cursor = 0 := by simpa using hc
        (refine w ?_; repeat ((first | refine VO.step rfl rfl ?_ | refine VD.end rfl rfl rfl ?_ | refine VD.mid rfl rfl rfl ?_); refine OpV.box rfl rfl rfl ?_; intro _; refine w ?_))
        (refine VE.done1 rfl ?_ ?_)
        · rw [if_pos h0, if_pos (by omega)]
        · exact Ent.re
    · have h0 : ¬ c3 = 0 := by intro e; rw [e] at hb; simp at hb
      (refine w ?_; repeat ((first | refine VO.step rfl rfl ?_ | refine VD.end rfl rfl rfl ?_ | refine VD.mid rfl rfl rfl ?_); refine OpV.box rfl rfl rfl ?_; intro _; refine w ?_))
      (refine VE.done1 rfl ?_ ?_)
      · rw [if_neg h0, if_pos (by omega)]
      · exact Ent.re
end Go.Proofs.YtgkpdpoblofehaaGreat
