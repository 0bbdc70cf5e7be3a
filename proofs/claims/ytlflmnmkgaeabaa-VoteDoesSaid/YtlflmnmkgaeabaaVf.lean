/- Package vote: slices.DeleteFunc of superblocks. -/
import Derived.Test.YtlflmnmkgaeabaaVe
set_option maxRecDepth 8000
set_option linter.unusedVariables false
set_option linter.unusedSimpArgs false
set_option linter.unusedSectionVars false
namespace Go.Proofs.Ytlflmnmkgaeabaa
open Go.RowKit Go.Sl
attribute [local irreducible] Own

theorem supCells_take (l : List SuperD) (i : Nat) : (supCells l).take (i * 12) = supCells (l.take i) := by
  have h := sup_len (l.take i)
  by_cases hi : i ≤ l.length
  · conv => lhs; rw [← List.take_append_drop i l]
    rw [supCells, List.flatMap_append, List.take_append_of_le_length (by show _ ≤ (supCells _).length; rw [h, List.length_take]; omega)]
    rw [List.take_of_length_le (by show (supCells _).length ≤ _; rw [h, List.length_take]; omega)]; rfl
  · rw [List.take_of_length_le (by rw [sup_len]; omega), List.take_of_length_le (by omega)]
theorem supCells_set (l : List SuperD) (i : Nat) (s : SuperD) (h : i < l.length) : (supCells l).take (i * 12) ++ s.cells ++ (supCells l).drop (i * 12 + 12) = supCells (l.set i s) := by
  have hd : (supCells l).drop (i * 12 + 12) = supCells (l.drop (i + 1)) := by
    have e : supCells l = supCells (l.take (i + 1)) ++ supCells (l.drop (i + 1)) := by
      simp only [supCells]; rw [← List.flatMap_append, List.take_append_drop]
    rw [e, ← show (supCells (l.take (i + 1))).length = i * 12 + 12 by rw [sup_len, List.length_take]; omega, List.drop_left]
  rw [supCells_take, hd, List.set_eq_take_append_cons_drop, if_pos h]
  simp [supCells]

theorem Holds.ownCut {W w : World} {e sz k k' cap : Nat} {ao : Option Addr} {ys : List Value} {R : List SProp} (hw : Holds W (Own e sz (.slice ao k' cap) k' ys :: R) w) (hk : k ≤ k') : Holds W (Own e sz (.slice ao k cap) k (ys.take (k * sz)) :: R) w := Holds.ownShort hw hk
def keptN (p : SuperD → Bool) (l : List SuperD) (j : Nat) : List SuperD := (l.take j).filter fun s => !p s
theorem keptN_le (p : SuperD → Bool) (l : List SuperD) (j : Nat) : (keptN p l j).length ≤ j := by
  unfold keptN; exact Nat.le_trans (List.length_filter_le _ _) (by rw [List.length_take]; omega)
theorem keptN_succ (p : SuperD → Bool) (l : List SuperD) (j : Nat) (h : j < l.length) : keptN p l (j + 1) = keptN p l j ++ (if p l[j] then [] else [l[j]]) := by
  unfold keptN
  rw [List.take_succ_eq_append_getElem h, List.filter_append]
  congr 1
  cases hp : p l[j] <;> simp [hp]
theorem deletefunc_ok {W : World} {R : List SProp} {ao : Option Addr} {cap : Nat} {l : List SuperD} {g : FuncId} {cp : Array Value} (p : SuperD → Bool) (hl : l.length ≤ 1000000) (hcf : ∀ a w, (callFunc g a).run Try.prog w = .ok (.enter g a) w)
    (hp : ∀ s ∈ l, ∀ H : List SProp, (∀ x ∈ R, x ∈ H) → Does1 W Try.prog g (.agg s.cells.toArray :: cp.toList) H (.bool (p s)) H) (hn : ao = none → l.length = 0) (hcap : l.length ≤ cap) :
    Does1 W Try.prog 53 [.slice ao l.length cap, .func (.func g) #[] cp] (Own 30 12 (.slice ao l.length cap) l.length (supCells l) :: R)
      (.slice ao (l.filter fun s => !p s).length cap) (Own 30 12 (.slice ao (l.filter fun s => !p s).length cap) (l.filter fun s => !p s).length (supCells (l.filter fun s => !p s)) :: R) := by
  (refine Does.enter Try.func53 Try.ntmps53 rfl rfl ?_)
  (refine w ?_; repeat ((first | refine VO.step rfl rfl ?_ | refine VD.end rfl rfl rfl ?_ | refine VD.mid rfl rfl rfl ?_); refine OpV.box rfl rfl rfl ?_; intro _; refine w ?_))
  ((first | refine VO.step rfl rfl ?_ | refine VD.end rfl rfl rfl ?_ | refine VD.mid rfl rfl rfl ?_); refine OpV.call rfl rfl (fun _ _ => by simp) (indexfunc_ok p hl (Rds.own (sup_one l) (.head _) (sup_len l) hn) hcf (fun s hs => hp s hs _ fun x hx => .tail _ hx)) Ent.refl rfl ?_)
  intro k hk
  (refine w ?_; repeat ((first | refine VO.step rfl rfl ?_ | refine VD.end rfl rfl rfl ?_ | refine VD.mid rfl rfl rfl ?_); refine OpV.box rfl rfl rfl ?_; intro _; refine w ?_))
  rcases hk with ⟨rfl, hno⟩ | ⟨i0, hi0, rfl, hp0, hno⟩
  · have hf : (l.filter fun s => !p s) = l := List.filter_eq_self.2 fun s hs => by simp [hno s hs]
    (refine w ?_; repeat ((first | refine VO.step rfl rfl ?_ | refine VD.end rfl rfl rfl ?_ | refine VD.mid rfl rfl rfl ?_); refine OpV.box rfl rfl rfl ?_; intro _; refine w ?_))
    (refine VE.done1 rfl ?_ ?_)
    · rw [hf]
    · rw [hf]; exact Ent.refl
  (refine w ?_; repeat ((first | refine VO.step rfl rfl ?_ | refine VD.end rfl rfl rfl ?_ | refine VD.mid rfl rfl rfl ?_); refine OpV.box rfl rfl rfl ?_; intro _; refine w ?_))
  have hkeep0 : keptN p l (i0 + 1) = l.take i0 := by
    rw [keptN_succ p l i0 hi0, hp0, if_pos rfl, List.append_nil]
    exact List.filter_eq_self.2 fun s hs => by simp [hno s hs]
  have hkl0 : (keptN p l (i0 + 1)).length = i0 := by rw [hkeep0, List.length_take]; omega
  obtain ⟨a, rfl⟩ : ∃ a, ao = some a := by cases ao with | none => have := hn rfl; omega | some a => exact ⟨a, rfl⟩
  refine VC.loop (α := List SuperD × Nat) (fun y => y.2 ≤ l.length ∧ y.1.length = l.length ∧ y.1.take (keptN p l y.2).length = keptN p l y.2 ∧ y.1.drop y.2 = l.drop y.2 ∧ (keptN p l y.2).length < y.2)
    (fun y => Own 30 12 (.slice (some a) l.length cap) l.length (supCells y.1) :: R)
    (fun y => [(0, .slice (some a) l.length cap), (1, .func (.func g) #[] cp), (5, .int .i64 (keptN p l y.2).length), (6, .int .i64 y.2)]) (fun y => l.length - y.2) rfl (l, i0 + 1) ⟨hi0, rfl, by rw [hkl0, hkeep0], rfl, by rw [hkl0]; omega⟩ Ent.refl ⟨rfl, rfl, asV rfl (by congr 1; simp [hkl0]), asV rfl (by congr 1), trivial⟩ ?_
  rintro ⟨M, j⟩ ⟨h1, h2, h3, h4, h5⟩
  dsimp only at h1 h2 h3 h4 h5 ⊢
  (refine w ?_; repeat ((first | refine VO.step rfl rfl ?_ | refine VD.end rfl rfl rfl ?_ | refine VD.mid rfl rfl rfl ?_); refine OpV.box rfl rfl rfl ?_; intro _; refine w ?_))
  (refine VC.cond rfl rfl ?_ ?_ <;> intro hc)
  · have hlt : j < l.length := by have := of_decide_eq_true hc; omega
    have hMj : M[j]'(by omega) = l[j] := by
      have e := congrArg (fun x => x[0]?) h4
      simpa [hlt, h2] using e
    have hrM : Rds W (Own 30 12 (.slice (some a) l.length cap) l.length (supCells M) :: R) 12 (some a) l.length (supCells M) := Rds.own (sup_one M) (.head _) (by rw [sup_len, h2]) (by simp)
    (refine w ?_; repeat ((first | refine VO.step rfl rfl ?_ | refine VD.end rfl rfl rfl ?_ | refine VD.mid rfl rfl rfl ?_); refine OpV.box rfl rfl rfl ?_; intro _; refine w ?_))
    (first | refine VO.pure rfl rfl (.ldRA tab_ok rfl rfl hrM (sup_part M j (by omega)) rfl) rfl ?_ | refine VD.take rfl rfl rfl (.ldRA tab_ok rfl rfl hrM (sup_part M j (by omega)) rfl) rfl ?_ | refine VQ.pure rfl rfl (.ldRA tab_ok rfl rfl hrM (sup_part M j (by omega)) rfl) rfl ?_ | refine VD.end rfl rfl rfl (OpV.pure (.ldRA tab_ok rfl rfl hrM (sup_part M j (by omega)) rfl) rfl ?_))
    (refine w ?_; repeat ((first | refine VO.step rfl rfl ?_ | refine VD.end rfl rfl rfl ?_ | refine VD.mid rfl rfl rfl ?_); refine OpV.box rfl rfl rfl ?_; intro _; refine w ?_))
    ((first | refine VO.step rfl rfl ?_ | refine VD.end rfl rfl rfl ?_ | refine VD.mid rfl rfl rfl ?_); refine OpV.allocS sb_30 rfl ?_; intro na)
    (refine w ?_; repeat ((first | refine VO.step rfl rfl ?_ | refine VD.end rfl rfl rfl ?_ | refine VD.mid rfl rfl rfl ?_); refine OpV.box rfl rfl rfl ?_; intro _; refine w ?_))
    (first | refine VO.step rfl rfl ?_ | refine VD.end rfl rfl rfl ?_ | refine VD.mid rfl rfl rfl ?_)
    refine OpV.stA (vs := M[j].cells) tab_ok rfl rfl rfl rfl (super_one _) (by (repeat first | exact .head | apply Hole.tail)) (by simp) ?_
    rw [hMj]
    refine VO.ent (Reord.ent (L := Row na 30 l[j].cells :: Own 30 12 (.slice (some a) l.length cap) l.length (supCells M) :: R) (by (repeat first | exact .refl | (apply Reord.cons; focus repeat first | exact .head | apply Del.tail) | exact .nil | apply Reord.drop))) ?_
    (refine w ?_; repeat ((first | refine VO.step rfl rfl ?_ | refine VD.end rfl rfl rfl ?_ | refine VD.mid rfl rfl rfl ?_); refine OpV.box rfl rfl rfl ?_; intro _; refine w ?_))
    (first | refine VO.step rfl rfl ?_ | refine VD.end rfl rfl rfl ?_ | refine VD.mid rfl rfl rfl ?_)
    refine OpV.call rfl rfl hcf (hp l[j] (List.getElem_mem hlt) _ fun x hx => .tail _ (.tail _ hx)) Ent.refl rfl ?_
    intro _ _
    have hks := keptN_succ p l j hlt
    have hkle := keptN_le p l j
    have hM1 : M.drop (j + 1) = l.drop (j + 1) := by rw [← List.drop_drop, ← List.drop_drop, h4]
    (refine w ?_; repeat ((first | refine VO.step rfl rfl ?_ | refine VD.end rfl rfl rfl ?_ | refine VD.mid rfl rfl rfl ?_); refine OpV.box rfl rfl rfl ?_; intro _; refine w ?_))
    cases hpj : p l[j]
    · rw [hpj] at hks
      simp only [Bool.false_eq_true, if_false] at hks
      (refine w ?_; repeat ((first | refine VO.step rfl rfl ?_ | refine VD.end rfl rfl rfl ?_ | refine VD.mid rfl rfl rfl ?_); refine OpV.box rfl rfl rfl ?_; intro _; refine w ?_))
      (first | refine VO.step rfl rfl ?_ | refine VD.end rfl rfl rfl ?_ | refine VD.mid rfl rfl rfl ?_)
      refine OpV.stOA (vs := l[j].cells) tab_ok rfl rfl rfl rfl (super_one _) (by (repeat first | exact .head | apply Hole.tail)) (by rw [sup_len]; omega) ?_
      rw [supCells_set M _ _ (by omega)]
      (refine w ?_; repeat ((first | refine VO.step rfl rfl ?_ | refine VD.end rfl rfl rfl ?_ | refine VD.mid rfl rfl rfl ?_); refine OpV.box rfl rfl rfl ?_; intro _; refine w ?_))
      refine VE.round (M.set (keptN p l j).length l[j], j + 1) ⟨by simp only; omega, by simp only [List.length_set]; exact h2, ?_, ?_, ?_⟩ (by simp only; omega) ⟨rfl, rfl, asV rfl (by congr 1; rw [hks]; simp), asV rfl (by congr 1), trivial⟩ ?_
      · simp only
        rw [hks, List.length_append, List.length_singleton, List.take_succ_eq_append_getElem (by rw [List.length_set]; omega), List.take_set_of_le (Nat.le_refl _), h3, List.getElem_set_self]
      · simp only
        rw [List.drop_set_of_lt (by omega), hM1]
      · simp only
        rw [hks, List.length_append, List.length_singleton]; omega
      · exact Ent.re
    · rw [hpj] at hks
      simp only [if_true, List.append_nil] at hks
      (refine w ?_; repeat ((first | refine VO.step rfl rfl ?_ | refine VD.end rfl rfl rfl ?_ | refine VD.mid rfl rfl rfl ?_); refine OpV.box rfl rfl rfl ?_; intro _; refine w ?_))
      refine VE.round (M, j + 1) ⟨by simp only; omega, h2, by simp only; rw [hks]; exact h3, hM1, by simp only; rw [hks]; omega⟩ (by simp only; omega) ⟨rfl, rfl, asV rfl (by rw [hks]), asV rfl (by congr 1), trivial⟩ Ent.re
  · have hge : j = l.length := by have := of_decide_eq_false hc; omega
    subst hge
    have hfin : keptN p l l.length = l.filter fun s => !p s := by unfold keptN; rw [List.take_of_length_le (Nat.le_refl _)]
    rw [hfin] at h3 h5 ⊢
    have hcm : (l.filter fun s => !p s).length ≤ l.length := by omega
    (refine w ?_; repeat ((first | refine VO.step rfl rfl ?_ | refine VD.end rfl rfl rfl ?_ | refine VD.mid rfl rfl rfl ?_); refine OpV.box rfl rfl rfl ?_; intro _; refine w ?_))
    (first | refine VO.step rfl rfl ?_ | refine VD.end rfl rfl rfl ?_ | refine VD.mid rfl rfl rfl ?_)
    refine OpV.clearOwn st_69 rfl (by (repeat first | exact .head | apply Hole.tail)) hcm ?_
    intro ys hys
    (refine w ?_; repeat ((first | refine VO.step rfl rfl ?_ | refine VD.end rfl rfl rfl ?_ | refine VD.mid rfl rfl rfl ?_); refine OpV.box rfl rfl rfl ?_; intro _; refine w ?_))
    (refine VE.done1 rfl ?_ ?_)
    · rfl
    · refine Ent.trans (fun w hw => Holds.ownCut (k := (l.filter fun s => !p s).length) hw hcm) ?_
      rw [supCells_take, h3, List.take_left' (by rw [sup_len])]
      exact Ent.refl
end Go.Proofs.Ytlflmnmkgaeabaa
