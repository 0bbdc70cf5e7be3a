/- The document's vote: counts, alike, greatest, guide. -/
import Derived.Test.YtlflmnmkgaeabaaVv
set_option maxRecDepth 8000
set_option linter.unusedVariables false
set_option linter.unusedSimpArgs false
set_option linter.unusedSectionVars false
namespace Go.Proofs.Ytlflmnmkgaeabaa
open Go.RowKit Go.Sl
attribute [local irreducible] Own

theorem rcounts_ok {W : World} {R : List SProp} {ao : Option Addr} {cap : Nat} {l : List BalD} (hB : ∀ R, Bals W R ao l) (i : Nat) (hi : i < l.length) (hlen : l.length ≤ 140737488351232) :
    Does1 W Try.prog 31 [.slice ao l.length cap, .int .i64 i] R (.bool (countsB l i)) R := by
  obtain ⟨la, rfl⟩ : ∃ x, ao = some x := by cases ao with | none => have := (hB []).rds.nil rfl; omega | some x => exact ⟨x, rfl⟩
  have hft := (hB []).fit _ (List.getElem_mem hi)
  have hst := fun R => (hB R).st _ (List.getElem_mem hi)
  (refine Does.enter Try.func31 Try.ntmps31 rfl rfl ?_)
  unfold countsB
  rw [List.getElem?_eq_getElem hi]
  dsimp only
  (refine w ?_; repeat ((first | refine VO.step rfl rfl ?_ | refine VD.end rfl rfl rfl ?_ | refine VD.mid rfl rfl rfl ?_); refine OpV.box rfl rfl rfl ?_; intro _; refine w ?_))
  (first | refine VO.pure rfl rfl (.ldRA tab_ok rfl rfl (hB _).rds (flat_part l i hi (fun _ _ => rfl)) rfl) rfl ?_ | refine VD.take rfl rfl rfl (.ldRA tab_ok rfl rfl (hB _).rds (flat_part l i hi (fun _ _ => rfl)) rfl) rfl ?_ | refine VQ.pure rfl rfl (.ldRA tab_ok rfl rfl (hB _).rds (flat_part l i hi (fun _ _ => rfl)) rfl) rfl ?_ | refine VD.end rfl rfl rfl (OpV.pure (.ldRA tab_ok rfl rfl (hB _).rds (flat_part l i hi (fun _ _ => rfl)) rfl) rfl ?_))
  generalize l[i] = b at *
  have hck : (b.s.check == 0) = decide b.s.okP := by
    unfold SuperD.check; split
    · rename_i h; simp [h]
    · rename_i h; simp [h]
  ((first | refine VO.step rfl rfl ?_ | refine VD.end rfl rfl rfl ?_ | refine VD.mid rfl rfl rfl ?_); refine OpV.allocS sb_61 rfl ?_; intro n5)
  (first | refine VO.step rfl rfl ?_ | refine VD.end rfl rfl rfl ?_ | refine VD.mid rfl rfl rfl ?_)
  refine OpV.stA (vs := b.cells) tab_ok rfl rfl rfl rfl (bal_one _) (by (repeat first | exact .head | apply Hole.tail)) (by simp) ?_
  refine VO.ent (Reord.ent (L := Row n5 61 b.cells :: R) (by (repeat first | exact .refl | (apply Reord.cons; focus repeat first | exact .head | apply Del.tail) | exact .nil | apply Reord.drop))) ?_
  (refine w ?_; repeat ((first | refine VO.step rfl rfl ?_ | refine VD.end rfl rfl rfl ?_ | refine VD.mid rfl rfl rfl ?_); refine OpV.box rfl rfl rfl ?_; intro _; refine w ?_))
  cases hh : b.has
  · (refine w ?_; repeat ((first | refine VO.step rfl rfl ?_ | refine VD.end rfl rfl rfl ?_ | refine VD.mid rfl rfl rfl ?_); refine OpV.box rfl rfl rfl ?_; intro _; refine w ?_))
    (refine VE.done1 rfl ?_ ?_)
    · rfl
    · exact Ent.drop Ent.refl
  (refine w ?_; repeat ((first | refine VO.step rfl rfl ?_ | refine VD.end rfl rfl rfl ?_ | refine VD.mid rfl rfl rfl ?_); refine OpV.box rfl rfl rfl ?_; intro _; refine w ?_))
  ((first | refine VO.step rfl rfl ?_ | refine VD.end rfl rfl rfl ?_ | refine VD.mid rfl rfl rfl ?_); refine OpV.call rfl rfl (fun _ _ => by simp) (rcheck_ok b.s hft (hst _)) Ent.refl rfl ?_)
  intro _ _
  (refine w ?_; repeat ((first | refine VO.step rfl rfl ?_ | refine VD.end rfl rfl rfl ?_ | refine VD.mid rfl rfl rfl ?_); refine OpV.box rfl rfl rfl ?_; intro _; refine w ?_))
  ((first | refine VO.split rfl rfl rfl ?_ ?_ | refine VD.split rfl rfl rfl ?_ ?_) <;> intro hb)
  · have h1 : b.s.okP := of_decide_eq_true (by rw [← hck]; exact hb)
    (refine w ?_; repeat ((first | refine VO.step rfl rfl ?_ | refine VD.end rfl rfl rfl ?_ | refine VD.mid rfl rfl rfl ?_); refine OpV.box rfl rfl rfl ?_; intro _; refine w ?_))
    ((first | refine VO.split rfl rfl rfl ?_ ?_ | refine VD.split rfl rfl rfl ?_ ?_) <;> intro hb)
    · have h2 : b.s.members = (l.length : Int) - 1 := by simpa using hb
      (refine w ?_; repeat ((first | refine VO.step rfl rfl ?_ | refine VD.end rfl rfl rfl ?_ | refine VD.mid rfl rfl rfl ?_); refine OpV.box rfl rfl rfl ?_; intro _; refine w ?_))
      (refine VE.done1 rfl ?_ ?_)
      · congr 1; rw [Bool.eq_iff_iff]; simp [h1, h2]
      · exact Ent.drop Ent.refl
    · have h2 : ¬ b.s.members = (l.length : Int) - 1 := by simpa using hb
      (refine w ?_; repeat ((first | refine VO.step rfl rfl ?_ | refine VD.end rfl rfl rfl ?_ | refine VD.mid rfl rfl rfl ?_); refine OpV.box rfl rfl rfl ?_; intro _; refine w ?_))
      (refine VE.done1 rfl ?_ ?_)
      · simp [h2]
      · exact Ent.drop Ent.refl
  · have h1 : ¬ b.s.okP := of_decide_eq_false (by rw [← hck]; exact hb)
    (refine w ?_; repeat ((first | refine VO.step rfl rfl ?_ | refine VD.end rfl rfl rfl ?_ | refine VD.mid rfl rfl rfl ?_); refine OpV.box rfl rfl rfl ?_; intro _; refine w ?_))
    (refine VE.done1 rfl ?_ ?_)
    · simp [h1]
    · exact Ent.drop Ent.refl

theorem alike_iff (a b : SuperD) : a.alike b = true ↔ (a.id = b.id ∧ (a.members = b.members ∧ a.chunk = b.chunk ∧ a.stripes = b.stripes) ∧ a.ring = b.ring ∧ a.lazy = b.lazy) ∧ a.states = b.states ∧ a.events = b.events ∧ a.safe = b.safe ∧ a.lost = b.lost ∧ a.cursor = b.cursor := by
  unfold SuperD.alike; rw [Bool.and_eq_true, akin_iff, decide_eq_true_eq]
theorem natne {x y : Nat} (h : ((x : Int) != (y : Int)) = false) : x = y := by have : (x : Int) = y := (by simpa using h); omega
theorem not_alike {a b : SuperD} (h : ¬ (a.alike b = true)) : a.alike b = false := by simpa using h

set_option maxHeartbeats 4000000 in
theorem ralike_ok {W : World} {R : List SProp} (a b : SuperD) (ha : a.fit) (hbf : b.fit) (hra : ∀ R, Rds W R 1 a.so a.states.length (bytes a.states)) (hrb : ∀ R, Rds W R 1 b.so b.states.length (bytes b.states)) :
    Does1 W Try.prog 58 [.agg a.cells.toArray, .agg b.cells.toArray] R (.bool (a.alike b)) R := by
  have hlen := ha.len
  (refine Does.enter Try.func58 Try.ntmps58 rfl rfl ?_)
  (refine w ?_; repeat ((first | refine VO.step rfl rfl ?_ | refine VD.end rfl rfl rfl ?_ | refine VD.mid rfl rfl rfl ?_); refine OpV.box rfl rfl rfl ?_; intro _; refine w ?_))
  iterate 3
    ((first | refine VO.split rfl rfl rfl ?_ ?_ | refine VD.split rfl rfl rfl ?_ ?_) <;> intro hb)
    · (refine w ?_; repeat ((first | refine VO.step rfl rfl ?_ | refine VD.end rfl rfl rfl ?_ | refine VD.mid rfl rfl rfl ?_); refine OpV.box rfl rfl rfl ?_; intro _; refine w ?_))
      (refine VE.done1 rfl ?_ ?_)
      · rw [not_alike (fun h => by have := (alike_iff a b).1 h; simp at hb; omega)]
      · exact Ent.re
    (refine w ?_; repeat ((first | refine VO.step rfl rfl ?_ | refine VD.end rfl rfl rfl ?_ | refine VD.mid rfl rfl rfl ?_); refine OpV.box rfl rfl rfl ?_; intro _; refine w ?_))
  refine VO.pure rfl rfl (geo_eq (a := a) (b := b) rfl rfl ha hbf rfl) rfl ?_
  (refine w ?_; repeat ((first | refine VO.step rfl rfl ?_ | refine VD.end rfl rfl rfl ?_ | refine VD.mid rfl rfl rfl ?_); refine OpV.box rfl rfl rfl ?_; intro _; refine w ?_))
  ((first | refine VO.split rfl rfl rfl ?_ ?_ | refine VD.split rfl rfl rfl ?_ ?_) <;> intro hb)
  · (refine w ?_; repeat ((first | refine VO.step rfl rfl ?_ | refine VD.end rfl rfl rfl ?_ | refine VD.mid rfl rfl rfl ?_); refine OpV.box rfl rfl rfl ?_; intro _; refine w ?_))
    (refine VE.done1 rfl ?_ ?_)
    · rw [not_alike (fun h => by have := ((alike_iff a b).1 h).1.2.1; rw [decide_eq_true this] at hb; cases hb)]
    · exact Ent.re
  have hgeo : a.members = b.members ∧ a.chunk = b.chunk ∧ a.stripes = b.stripes := by
    cases h : decide (a.members = b.members ∧ a.chunk = b.chunk ∧ a.stripes = b.stripes) with
    | true => exact of_decide_eq_true h
    | false => rw [h] at hb; cases hb
  (refine w ?_; repeat ((first | refine VO.step rfl rfl ?_ | refine VD.end rfl rfl rfl ?_ | refine VD.mid rfl rfl rfl ?_); refine OpV.box rfl rfl rfl ?_; intro _; refine w ?_))
  iterate 4
    ((first | refine VO.split rfl rfl rfl ?_ ?_ | refine VD.split rfl rfl rfl ?_ ?_) <;> intro hb)
    · (refine w ?_; repeat ((first | refine VO.step rfl rfl ?_ | refine VD.end rfl rfl rfl ?_ | refine VD.mid rfl rfl rfl ?_); refine OpV.box rfl rfl rfl ?_; intro _; refine w ?_))
      (refine VE.done1 rfl ?_ ?_)
      · rw [not_alike (fun h => by have := (alike_iff a b).1 h; simp_all)]
      · exact Ent.re
    (refine w ?_; repeat ((first | refine VO.step rfl rfl ?_ | refine VD.end rfl rfl rfl ?_ | refine VD.mid rfl rfl rfl ?_); refine OpV.box rfl rfl rfl ?_; intro _; refine w ?_))
  (refine VC.cond rfl rfl ?_ ?_ <;> intro hc)
  · (refine w ?_; repeat ((first | refine VO.step rfl rfl ?_ | refine VD.end rfl rfl rfl ?_ | refine VD.mid rfl rfl rfl ?_); refine OpV.box rfl rfl rfl ?_; intro _; refine w ?_))
    (refine VE.done1 rfl ?_ ?_)
    · rw [not_alike (fun h => by have := ((alike_iff a b).1 h).2.1; rw [this] at hc; simp at hc)]
    · exact Ent.re
  have hll : a.states.length = b.states.length := by have : (a.states.length : Int) = b.states.length := (by simpa using hc); omega
  rename_i n2 n3 _ _ _ _ _ _ _
  (refine w ?_; repeat ((first | refine VO.step rfl rfl ?_ | refine VD.end rfl rfl rfl ?_ | refine VD.mid rfl rfl rfl ?_); refine OpV.box rfl rfl rfl ?_; intro _; refine w ?_))
  refine VC.loop (α := Nat) (fun i => i ≤ a.states.length ∧ a.states.take i = b.states.take i) (fun _ => Row n3 30 b.cells :: Row n2 30 a.cells :: R) (fun i => [(2, .pointer (some ⟨n2, 0, none⟩)), (3, .pointer (some ⟨n3, 0, none⟩)), (5, .int .i64 i)]) (fun i => a.states.length - i) rfl 0 ⟨Nat.zero_le _, by simp⟩ Ent.refl ⟨rfl, rfl, rfl, trivial⟩ ?_
  rintro i ⟨hi, he⟩
  (refine w ?_; repeat ((first | refine VO.step rfl rfl ?_ | refine VD.end rfl rfl rfl ?_ | refine VD.mid rfl rfl rfl ?_); refine OpV.box rfl rfl rfl ?_; intro _; refine w ?_))
  (refine VC.cond rfl rfl ?_ ?_ <;> intro hc)
  · have hlt : i < a.states.length := by have := of_decide_eq_true hc; omega
    have hlt2 : i < b.states.length := by omega
    obtain ⟨aa, hla⟩ : ∃ x, a.so = some x := by cases h : a.so with | none => have := (hra []).nil h; omega | some x => exact ⟨x, rfl⟩
    obtain ⟨ba, hba⟩ : ∃ x, b.so = some x := by cases h : b.so with | none => have := (hrb []).nil h; omega | some x => exact ⟨x, rfl⟩
    (refine w ?_; repeat ((first | refine VO.step rfl rfl ?_ | refine VD.end rfl rfl rfl ?_ | refine VD.mid rfl rfl rfl ?_); refine OpV.box rfl rfl rfl ?_; intro _; refine w ?_))
    ((refine VC.quiet rfl (by kernel_rfl) (by kernel_rfl) ?_); (refine w ?_; repeat ((first | refine VO.step rfl rfl ?_ | refine VD.end rfl rfl rfl ?_ | refine VD.mid rfl rfl rfl ?_); refine OpV.box rfl rfl rfl ?_; intro _; refine w ?_)))
    refine VQ.re 77 (.slice (some aa) a.states.length a.sc) rfl (by rw [hla]) ?_
    (refine w ?_; repeat ((first | refine VO.step rfl rfl ?_ | refine VD.end rfl rfl rfl ?_ | refine VD.mid rfl rfl rfl ?_); refine OpV.box rfl rfl rfl ?_; intro _; refine w ?_))
    (first | refine VO.pure rfl rfl (PureAt.ldR tab_ok rfl rfl (show Rds W _ 1 (some aa) _ _ by rw [← hla]; exact hra _) (show (bytes a.states)[i]? = some (.int .u8 (a.states[i].toNat : Int)) by simp [bytes, hlt]; rfl)) rfl ?_ | refine VD.take rfl rfl rfl (PureAt.ldR tab_ok rfl rfl (show Rds W _ 1 (some aa) _ _ by rw [← hla]; exact hra _) (show (bytes a.states)[i]? = some (.int .u8 (a.states[i].toNat : Int)) by simp [bytes, hlt]; rfl)) rfl ?_ | refine VQ.pure rfl rfl (PureAt.ldR tab_ok rfl rfl (show Rds W _ 1 (some aa) _ _ by rw [← hla]; exact hra _) (show (bytes a.states)[i]? = some (.int .u8 (a.states[i].toNat : Int)) by simp [bytes, hlt]; rfl)) rfl ?_ | refine VD.end rfl rfl rfl (OpV.pure (PureAt.ldR tab_ok rfl rfl (show Rds W _ 1 (some aa) _ _ by rw [← hla]; exact hra _) (show (bytes a.states)[i]? = some (.int .u8 (a.states[i].toNat : Int)) by simp [bytes, hlt]; rfl)) rfl ?_))
    (refine w ?_; repeat ((first | refine VO.step rfl rfl ?_ | refine VD.end rfl rfl rfl ?_ | refine VD.mid rfl rfl rfl ?_); refine OpV.box rfl rfl rfl ?_; intro _; refine w ?_))
    refine VQ.re 82 (.slice (some ba) b.states.length b.sc) rfl (by rw [hba]) ?_
    (refine w ?_; repeat ((first | refine VO.step rfl rfl ?_ | refine VD.end rfl rfl rfl ?_ | refine VD.mid rfl rfl rfl ?_); refine OpV.box rfl rfl rfl ?_; intro _; refine w ?_))
    (first | refine VO.pure rfl rfl (PureAt.ldR tab_ok rfl rfl (show Rds W _ 1 (some ba) _ _ by rw [← hba]; exact hrb _) (show (bytes b.states)[i]? = some (.int .u8 (b.states[i].toNat : Int)) by simp [bytes, hlt2]; rfl)) rfl ?_ | refine VD.take rfl rfl rfl (PureAt.ldR tab_ok rfl rfl (show Rds W _ 1 (some ba) _ _ by rw [← hba]; exact hrb _) (show (bytes b.states)[i]? = some (.int .u8 (b.states[i].toNat : Int)) by simp [bytes, hlt2]; rfl)) rfl ?_ | refine VQ.pure rfl rfl (PureAt.ldR tab_ok rfl rfl (show Rds W _ 1 (some ba) _ _ by rw [← hba]; exact hrb _) (show (bytes b.states)[i]? = some (.int .u8 (b.states[i].toNat : Int)) by simp [bytes, hlt2]; rfl)) rfl ?_ | refine VD.end rfl rfl rfl (OpV.pure (PureAt.ldR tab_ok rfl rfl (show Rds W _ 1 (some ba) _ _ by rw [← hba]; exact hrb _) (show (bytes b.states)[i]? = some (.int .u8 (b.states[i].toNat : Int)) by simp [bytes, hlt2]; rfl)) rfl ?_))
    (refine w ?_; repeat ((first | refine VO.step rfl rfl ?_ | refine VD.end rfl rfl rfl ?_ | refine VD.mid rfl rfl rfl ?_); refine OpV.box rfl rfl rfl ?_; intro _; refine w ?_))
    (refine VC.cond rfl rfl ?_ ?_ <;> intro hc)
    · have hx : a.states[i] ≠ b.states[i] := by intro h; rw [h] at hc; simp at hc
      (refine w ?_; repeat ((first | refine VO.step rfl rfl ?_ | refine VD.end rfl rfl rfl ?_ | refine VD.mid rfl rfl rfl ?_); refine OpV.box rfl rfl rfl ?_; intro _; refine w ?_))
      (refine VE.done1 rfl ?_ ?_)
      · rw [not_alike (fun h => hx (by have h2 := ((alike_iff a b).1 h).2.1; rw [List.getElem_of_eq h2]))]
      · exact Ent.re
    · have hx : a.states[i] = b.states[i] := by have h : (a.states[i].toNat : Int) = b.states[i].toNat := (by simpa using hc); exact UInt8.toNat_inj.1 (by omega)
      (refine w ?_; repeat ((first | refine VO.step rfl rfl ?_ | refine VD.end rfl rfl rfl ?_ | refine VD.mid rfl rfl rfl ?_); refine OpV.box rfl rfl rfl ?_; intro _; refine w ?_))
      refine VE.round (i + 1) ⟨hlt, by rw [List.take_succ_eq_append_getElem hlt, List.take_succ_eq_append_getElem hlt2, he, hx]⟩ (by omega) ⟨rfl, rfl, asV rfl (by congr 1), trivial⟩ Ent.refl
  · have hge : i = a.states.length := by have := of_decide_eq_false hc; omega
    subst hge
    rw [List.take_of_length_le (Nat.le_refl _), List.take_of_length_le (by omega)] at he
    (refine w ?_; repeat ((first | refine VO.step rfl rfl ?_ | refine VD.end rfl rfl rfl ?_ | refine VD.mid rfl rfl rfl ?_); refine OpV.box rfl rfl rfl ?_; intro _; refine w ?_))
    (refine VE.done1 rfl ?_ ?_)
    · congr 1
      symm
      refine (alike_iff a b).2 ⟨⟨?_, hgeo, ?_, ?_⟩, he, ?_, ?_, ?_, ?_⟩
      all_goals first | exact natne (by assumption) | (clear hc; simp_all; done)
    · exact Ent.re
end Go.Proofs.Ytlflmnmkgaeabaa
