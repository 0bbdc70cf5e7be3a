/- What the laws of votes share: much, SameStates, SameSuper, SameVerdict, the document's Check. -/
import Derived.Test.YtlflmnmkgaeabaaVk
set_option maxRecDepth 8000
set_option linter.unusedVariables false
set_option linter.unusedSimpArgs false
set_option linter.unusedSectionVars false
namespace Go.Proofs.Ytlflmnmkgaeabaa
open Go.RowKit Go.Sl
attribute [local irreducible] Own

theorem samest_ok {W : World} {R : List SProp} {ao bo : Option Addr} {ac bc : Nat} {l m : List UInt8} (hl : Rds W R 1 ao l.length (bytes l)) (hm : Rds W R 1 bo m.length (bytes m)) (hn : l.length ≤ 140737488351232) :
    Does1 W Try.prog 59 [.slice ao l.length ac, .slice bo m.length bc] R (.bool (decide (l = m))) R := by
  (refine Does.enter Try.func59 Try.ntmps59 rfl rfl ?_)
  (refine w ?_; repeat ((first | refine VO.step rfl rfl ?_ | refine VD.end rfl rfl rfl ?_ | refine VD.mid rfl rfl rfl ?_); refine OpV.box rfl rfl rfl ?_; intro _; refine w ?_))
  (refine VC.cond rfl rfl ?_ ?_ <;> intro hc)
  · have h : ¬ l.length = m.length := by have : ¬ (l.length : Int) = m.length := (by simpa using hc); omega
    (refine w ?_; repeat ((first | refine VO.step rfl rfl ?_ | refine VD.end rfl rfl rfl ?_ | refine VD.mid rfl rfl rfl ?_); refine OpV.box rfl rfl rfl ?_; intro _; refine w ?_))
    (refine VE.done1 rfl ?_ ?_)
    · congr 1; symm; exact decide_eq_false (fun e => h (by rw [e]))
    · exact Ent.refl
  have h : l.length = m.length := by have : (l.length : Int) = m.length := (by simpa using hc); omega
  (refine w ?_; repeat ((first | refine VO.step rfl rfl ?_ | refine VD.end rfl rfl rfl ?_ | refine VD.mid rfl rfl rfl ?_); refine OpV.box rfl rfl rfl ?_; intro _; refine w ?_))
  refine VC.loop (α := Nat) (fun i => i ≤ l.length ∧ l.take i = m.take i) (fun _ => R) (fun i => [(0, .slice ao l.length ac), (1, .slice bo m.length bc), (5, .int .i64 i)]) (fun i => l.length - i) rfl 0 ⟨Nat.zero_le _, by simp⟩ Ent.refl ⟨rfl, rfl, rfl, trivial⟩ ?_
  rintro i ⟨hi, he⟩
  (refine w ?_; repeat ((first | refine VO.step rfl rfl ?_ | refine VD.end rfl rfl rfl ?_ | refine VD.mid rfl rfl rfl ?_); refine OpV.box rfl rfl rfl ?_; intro _; refine w ?_))
  (refine VC.cond rfl rfl ?_ ?_ <;> intro hc)
  · have hlt : i < l.length := by have := of_decide_eq_true hc; omega
    have hlt2 : i < m.length := by omega
    obtain ⟨a, rfl⟩ : ∃ a, ao = some a := by cases ao with | none => have := hl.nil rfl; omega | some a => exact ⟨a, rfl⟩
    obtain ⟨b, rfl⟩ : ∃ b, bo = some b := by cases bo with | none => have := hm.nil rfl; omega | some b => exact ⟨b, rfl⟩
    (refine w ?_; repeat ((first | refine VO.step rfl rfl ?_ | refine VD.end rfl rfl rfl ?_ | refine VD.mid rfl rfl rfl ?_); refine OpV.box rfl rfl rfl ?_; intro _; refine w ?_))
    ((refine VC.quiet rfl (by kernel_rfl) (by kernel_rfl) ?_); (refine w ?_; repeat ((first | refine VO.step rfl rfl ?_ | refine VD.end rfl rfl rfl ?_ | refine VD.mid rfl rfl rfl ?_); refine OpV.box rfl rfl rfl ?_; intro _; refine w ?_)))
    (first | refine VO.pure rfl rfl (PureAt.ldR tab_ok rfl rfl hl (show (bytes l)[i]? = some (.int .u8 (l[i].toNat : Int)) by simp [bytes, hlt]; rfl)) rfl ?_ | refine VD.take rfl rfl rfl (PureAt.ldR tab_ok rfl rfl hl (show (bytes l)[i]? = some (.int .u8 (l[i].toNat : Int)) by simp [bytes, hlt]; rfl)) rfl ?_ | refine VQ.pure rfl rfl (PureAt.ldR tab_ok rfl rfl hl (show (bytes l)[i]? = some (.int .u8 (l[i].toNat : Int)) by simp [bytes, hlt]; rfl)) rfl ?_ | refine VD.end rfl rfl rfl (OpV.pure (PureAt.ldR tab_ok rfl rfl hl (show (bytes l)[i]? = some (.int .u8 (l[i].toNat : Int)) by simp [bytes, hlt]; rfl)) rfl ?_))
    (refine w ?_; repeat ((first | refine VO.step rfl rfl ?_ | refine VD.end rfl rfl rfl ?_ | refine VD.mid rfl rfl rfl ?_); refine OpV.box rfl rfl rfl ?_; intro _; refine w ?_))
    (first | refine VO.pure rfl rfl (PureAt.ldR tab_ok rfl rfl hm (show (bytes m)[i]? = some (.int .u8 (m[i].toNat : Int)) by simp [bytes, hlt2]; rfl)) rfl ?_ | refine VD.take rfl rfl rfl (PureAt.ldR tab_ok rfl rfl hm (show (bytes m)[i]? = some (.int .u8 (m[i].toNat : Int)) by simp [bytes, hlt2]; rfl)) rfl ?_ | refine VQ.pure rfl rfl (PureAt.ldR tab_ok rfl rfl hm (show (bytes m)[i]? = some (.int .u8 (m[i].toNat : Int)) by simp [bytes, hlt2]; rfl)) rfl ?_ | refine VD.end rfl rfl rfl (OpV.pure (PureAt.ldR tab_ok rfl rfl hm (show (bytes m)[i]? = some (.int .u8 (m[i].toNat : Int)) by simp [bytes, hlt2]; rfl)) rfl ?_))
    (refine w ?_; repeat ((first | refine VO.step rfl rfl ?_ | refine VD.end rfl rfl rfl ?_ | refine VD.mid rfl rfl rfl ?_); refine OpV.box rfl rfl rfl ?_; intro _; refine w ?_))
    (refine VC.cond rfl rfl ?_ ?_ <;> intro hc)
    · have hx : l[i] ≠ m[i] := by intro h; rw [h] at hc; simp at hc
      (refine w ?_; repeat ((first | refine VO.step rfl rfl ?_ | refine VD.end rfl rfl rfl ?_ | refine VD.mid rfl rfl rfl ?_); refine OpV.box rfl rfl rfl ?_; intro _; refine w ?_))
      (refine VE.done1 rfl ?_ ?_)
      · congr 1; symm; exact decide_eq_false (fun e => hx (by subst e; rfl))
      · exact Ent.refl
    · have hx : l[i] = m[i] := by have h : (l[i].toNat : Int) = m[i].toNat := (by simpa using hc); exact UInt8.toNat_inj.1 (by omega)
      (refine w ?_; repeat ((first | refine VO.step rfl rfl ?_ | refine VD.end rfl rfl rfl ?_ | refine VD.mid rfl rfl rfl ?_); refine OpV.box rfl rfl rfl ?_; intro _; refine w ?_))
      refine VE.round (i + 1) ⟨hlt, by rw [List.take_succ_eq_append_getElem hlt, List.take_succ_eq_append_getElem hlt2, he, hx]⟩ (by omega) ⟨rfl, rfl, asV rfl (by congr 1), trivial⟩ Ent.refl
  · have hge : i = l.length := by have := of_decide_eq_false hc; omega
    subst hge
    rw [List.take_of_length_le (Nat.le_refl _), List.take_of_length_le (by omega)] at he
    (refine w ?_; repeat ((first | refine VO.step rfl rfl ?_ | refine VD.end rfl rfl rfl ?_ | refine VD.mid rfl rfl rfl ?_); refine OpV.box rfl rfl rfl ?_; intro _; refine w ?_))
    (refine VE.done1 rfl ?_ ?_)
    · rw [he]; simp
    · exact Ent.refl

def SuperD.same (a b : SuperD) : Bool := ((a.id : Int) == b.id) && (((a.events : Int) == b.events) && (((a.safe : Int) == b.safe) && ((a.role == b.role) && (decide (a.members = b.members ∧ a.chunk = b.chunk ∧ a.stripes = b.stripes) && ((a.ring == b.ring) && ((a.lazy == b.lazy) && ((a.lost == b.lost) && ((a.cursor == b.cursor) && decide (a.states = b.states)))))))))
theorem same_iff (a b : SuperD) : a.same b = true ↔ a.id = b.id ∧ a.events = b.events ∧ a.safe = b.safe ∧ a.role = b.role ∧ (a.members = b.members ∧ a.chunk = b.chunk ∧ a.stripes = b.stripes) ∧ a.ring = b.ring ∧ a.lazy = b.lazy ∧ a.lost = b.lost ∧ a.cursor = b.cursor ∧ a.states = b.states := by
  have c : ∀ x y : Nat, ((x : Int) = y) ↔ x = y := fun x y => by omega
  simp only [SuperD.same, Bool.and_eq_true, beq_iff_eq, decide_eq_true_eq, c]
set_option maxHeartbeats 2000000 in
theorem samesup_ok {W : World} {R : List SProp} (a b : SuperD) (ha : a.fit) (hbf : b.fit) (hra : Rds W R 1 a.so a.states.length (bytes a.states)) (hrb : Rds W R 1 b.so b.states.length (bytes b.states)) :
    Does1 W Try.prog 36 [.agg a.cells.toArray, .agg b.cells.toArray] R (.bool (a.same b)) R := by
  have hlen := ha.len
  have e2 : ∀ A B, Ent W (A :: B :: R) R := fun A B => Ent.drop (Ent.drop Ent.refl)
  (refine Does.enter Try.func36 Try.ntmps36 rfl rfl ?_)
  unfold SuperD.same
  (refine w ?_; repeat ((first | refine VO.step rfl rfl ?_ | refine VD.end rfl rfl rfl ?_ | refine VD.mid rfl rfl rfl ?_); refine OpV.box rfl rfl rfl ?_; intro _; refine w ?_))
  iterate 4
    ((first | refine VO.split rfl rfl rfl ?_ ?_ | refine VD.split rfl rfl rfl ?_ ?_) <;> intro hb)
    rotate_left
    · (refine w ?_; repeat ((first | refine VO.step rfl rfl ?_ | refine VD.end rfl rfl rfl ?_ | refine VD.mid rfl rfl rfl ?_); refine OpV.box rfl rfl rfl ?_; intro _; refine w ?_))
      (refine VE.done1 rfl ?_ ?_)
      · simp only [*, Bool.true_and, Bool.false_and]
      · exact Ent.re
    (refine w ?_; repeat ((first | refine VO.step rfl rfl ?_ | refine VD.end rfl rfl rfl ?_ | refine VD.mid rfl rfl rfl ?_); refine OpV.box rfl rfl rfl ?_; intro _; refine w ?_))
  refine VO.pure rfl rfl (geo_eq (a := a) (b := b) rfl rfl ha hbf rfl) rfl ?_
  (refine w ?_; repeat ((first | refine VO.step rfl rfl ?_ | refine VD.end rfl rfl rfl ?_ | refine VD.mid rfl rfl rfl ?_); refine OpV.box rfl rfl rfl ?_; intro _; refine w ?_))
  iterate 5
    ((first | refine VO.split rfl rfl rfl ?_ ?_ | refine VD.split rfl rfl rfl ?_ ?_) <;> intro hb)
    rotate_left
    · (refine w ?_; repeat ((first | refine VO.step rfl rfl ?_ | refine VD.end rfl rfl rfl ?_ | refine VD.mid rfl rfl rfl ?_); refine OpV.box rfl rfl rfl ?_; intro _; refine w ?_))
      (refine VE.done1 rfl ?_ ?_)
      · simp only [*, Bool.true_and, Bool.false_and]
      · exact Ent.re
    (refine w ?_; repeat ((first | refine VO.step rfl rfl ?_ | refine VD.end rfl rfl rfl ?_ | refine VD.mid rfl rfl rfl ?_); refine OpV.box rfl rfl rfl ?_; intro _; refine w ?_))
  ((first | refine VO.step rfl rfl ?_ | refine VD.end rfl rfl rfl ?_ | refine VD.mid rfl rfl rfl ?_); refine OpV.call rfl rfl (fun _ _ => by simp) (samest_ok (hra.ent (e2 _ _)) (hrb.ent (e2 _ _)) hlen) Ent.refl rfl ?_; intro _ _)
  (refine w ?_; repeat ((first | refine VO.step rfl rfl ?_ | refine VD.end rfl rfl rfl ?_ | refine VD.mid rfl rfl rfl ?_); refine OpV.box rfl rfl rfl ?_; intro _; refine w ?_))
  (refine VE.done1 rfl ?_ ?_)
  · simp only [*, Bool.true_and]
  · exact Ent.re

def VerD.sup (v : VerD) (x : Option Addr × Nat) : SuperD := { v.s with so := x.1, sc := x.2, states := v.st, cursor := v.cur }
def VerD.same (v u : VerD) : Bool := (v.ch == u.ch) && ((v.jr == u.jr) && (v.sup (none, 0)).same (u.sup (none, 0)))
theorem same_sup (v u : VerD) (x y : Option Addr × Nat) : (v.sup x).same (u.sup y) = (v.sup (none, 0)).same (u.sup (none, 0)) := rfl
set_option maxHeartbeats 2000000 in
theorem samever_ok {W : World} {R : List SProp} (v u : VerD) (x y : Option Addr × Nat) (ha : (v.sup x).fit) (hbf : (u.sup y).fit) (hra : Rds W R 1 x.1 v.st.length (bytes v.st)) (hrb : Rds W R 1 y.1 u.st.length (bytes u.st)) :
    Does1 W Try.prog 17 [.agg (v.cells x).toArray, .agg (u.cells y).toArray] R (.bool (v.same u)) R := by
  have e2 : ∀ A B, Ent W (A :: B :: R) R := fun A B => Ent.drop (Ent.drop Ent.refl)
  (refine Does.enter Try.func17 Try.ntmps17 rfl rfl ?_)
  unfold VerD.same VerD.cells vCells
  (refine w ?_; repeat ((first | refine VO.step rfl rfl ?_ | refine VD.end rfl rfl rfl ?_ | refine VD.mid rfl rfl rfl ?_); refine OpV.box rfl rfl rfl ?_; intro _; refine w ?_))
  iterate 2
    ((first | refine VO.split rfl rfl rfl ?_ ?_ | refine VD.split rfl rfl rfl ?_ ?_) <;> intro hb)
    rotate_left
    · (refine w ?_; repeat ((first | refine VO.step rfl rfl ?_ | refine VD.end rfl rfl rfl ?_ | refine VD.mid rfl rfl rfl ?_); refine OpV.box rfl rfl rfl ?_; intro _; refine w ?_))
      (refine VE.done1 rfl ?_ ?_)
      · simp only [*, Bool.true_and, Bool.false_and]
      · exact Ent.re
    (refine w ?_; repeat ((first | refine VO.step rfl rfl ?_ | refine VD.end rfl rfl rfl ?_ | refine VD.mid rfl rfl rfl ?_); refine OpV.box rfl rfl rfl ?_; intro _; refine w ?_))
  ((first | refine VO.step rfl rfl ?_ | refine VD.end rfl rfl rfl ?_ | refine VD.mid rfl rfl rfl ?_); refine OpV.call rfl rfl (fun _ _ => by simp) (samesup_ok (v.sup x) (u.sup y) ha hbf (hra.ent (e2 _ _)) (hrb.ent (e2 _ _))) Ent.refl rfl ?_; intro _ _)
  (refine w ?_; repeat ((first | refine VO.step rfl rfl ?_ | refine VD.end rfl rfl rfl ?_ | refine VD.mid rfl rfl rfl ?_); refine OpV.box rfl rfl rfl ?_; intro _; refine w ?_))
  (refine VE.done1 rfl ?_ ?_)
  · rw [same_sup]; simp only [*, Bool.true_and]
  · exact Ent.re

theorem vmuch_ok {W : World} {R : List SProp} {ao : Option Addr} {cap : Nat} {l : List BalD} (hl : l.length ≤ 140737488351232) (hbs : Bals W R ao l) :
    Does W Try.prog 9 [.slice ao l.length cap] R (β := Bool) (fun b => b = false → l.length ≤ 10000 ∧ ∀ x ∈ l, x.s.states.length ≤ 10000) (fun b => .bool b) (fun _ => R) := by
  (refine Does.enter Try.func9 Try.ntmps9 rfl rfl ?_)
  (refine w ?_; repeat ((first | refine VO.step rfl rfl ?_ | refine VD.end rfl rfl rfl ?_ | refine VD.mid rfl rfl rfl ?_); refine OpV.box rfl rfl rfl ?_; intro _; refine w ?_))
  refine VC.loop (α := Nat × Nat) (fun y => y.1 ≤ l.length ∧ l.length ≤ y.2 ∧ y.2 ≤ 140737488361232 ∧ ∀ x ∈ l.take y.1, x.s.states.length ≤ y.2) (fun _ => R) (fun y => [(0, .slice ao l.length cap), (3, .int .i64 y.2), (4, .int .i64 y.1)]) (fun y => l.length - y.1) rfl (0, l.length) ⟨Nat.zero_le _, Nat.le_refl _, by simp only; omega, by simp⟩ Ent.refl ⟨rfl, rfl, rfl, trivial⟩ ?_
  rintro ⟨i, n⟩ ⟨hi, h1, h2, h3⟩
  dsimp only at hi h1 h2 h3 ⊢
  (refine w ?_; repeat ((first | refine VO.step rfl rfl ?_ | refine VD.end rfl rfl rfl ?_ | refine VD.mid rfl rfl rfl ?_); refine OpV.box rfl rfl rfl ?_; intro _; refine w ?_))
  ((first | refine VO.split rfl rfl rfl ?_ ?_ | refine VD.split rfl rfl rfl ?_ ?_) <;> intro hb)
  · have hlt : i < l.length := by have := of_decide_eq_true hb; omega
    obtain ⟨a, rfl⟩ : ∃ a, ao = some a := by cases ao with | none => have := hbs.rds.nil rfl; omega | some a => exact ⟨a, rfl⟩
    have hfl := (hbs.fit _ (List.getElem_mem hlt)).len
    (refine w ?_; repeat ((first | refine VO.step rfl rfl ?_ | refine VD.end rfl rfl rfl ?_ | refine VD.mid rfl rfl rfl ?_); refine OpV.box rfl rfl rfl ?_; intro _; refine w ?_))
    (refine VC.cond rfl rfl ?_ ?_ <;> intro hc)
    · have hle : n ≤ 10000 := by have := of_decide_eq_true hc; omega
      (refine w ?_; repeat ((first | refine VO.step rfl rfl ?_ | refine VD.end rfl rfl rfl ?_ | refine VD.mid rfl rfl rfl ?_); refine OpV.box rfl rfl rfl ?_; intro _; refine w ?_))
      (first | refine VO.pure rfl rfl (PureAt.ldRc tab_ok rfl rfl hbs.rds (bal_get l i 11 hlt (by decide))) rfl ?_ | refine VD.take rfl rfl rfl (PureAt.ldRc tab_ok rfl rfl hbs.rds (bal_get l i 11 hlt (by decide))) rfl ?_ | refine VQ.pure rfl rfl (PureAt.ldRc tab_ok rfl rfl hbs.rds (bal_get l i 11 hlt (by decide))) rfl ?_ | refine VD.end rfl rfl rfl (OpV.pure (PureAt.ldRc tab_ok rfl rfl hbs.rds (bal_get l i 11 hlt (by decide))) rfl ?_))
      (refine w ?_; repeat ((first | refine VO.step rfl rfl ?_ | refine VD.end rfl rfl rfl ?_ | refine VD.mid rfl rfl rfl ?_); refine OpV.box rfl rfl rfl ?_; intro _; refine w ?_))
      refine VE.round (i + 1, n + l[i].s.states.length) ⟨hlt, by simp only; omega, by simp only; omega, ?_⟩ (by simp only; omega) ⟨rfl, asV rfl (by congr 1), asV rfl (by congr 1), trivial⟩ Ent.refl
      intro x hx
      rw [List.take_succ_eq_append_getElem hlt, List.mem_append, List.mem_singleton] at hx
      rcases hx with h | h
      · have := h3 x h; simp only; omega
      · subst h; simp only; omega
    · have hgt : 10000 < n := by have := of_decide_eq_false hc; omega
      (refine w ?_; repeat ((first | refine VO.step rfl rfl ?_ | refine VD.end rfl rfl rfl ?_ | refine VD.mid rfl rfl rfl ?_); refine OpV.box rfl rfl rfl ?_; intro _; refine w ?_))
      refine VE.done true rfl (by simp) (by congr 1; simp; omega) Ent.refl
  · have hge : i = l.length := by have := of_decide_eq_false hb; omega
    subst hge
    rw [List.take_of_length_le (Nat.le_refl _)] at h3
    (refine w ?_; repeat ((first | refine VO.step rfl rfl ?_ | refine VD.end rfl rfl rfl ?_ | refine VD.mid rfl rfl rfl ?_); refine OpV.box rfl rfl rfl ?_; intro _; refine w ?_))
    refine VE.done (decide (10000 < n)) rfl ?_ (by congr 1; rw [Bool.eq_iff_iff]; simp; omega) Ent.refl
    intro h
    have hle : n ≤ 10000 := by have := of_decide_eq_false h; omega
    exact ⟨by omega, fun x hx => by have := h3 x hx; omega⟩
end Go.Proofs.Ytlflmnmkgaeabaa
