/- The vote laws' known. -/
import Derived.Test.YtlflmnmkgaeabaaVn
set_option maxRecDepth 8000
set_option linter.unusedVariables false
set_option linter.unusedSimpArgs false
set_option linter.unusedSectionVars false
namespace Go.Proofs.Ytlflmnmkgaeabaa
open Go.RowKit Go.Sl
attribute [local irreducible] Own

def awayB (b : BalD) : BalD := { b with has := false }
theorem k1 (a b c d : Nat) : (chooseM (balsOf 5 [a, b, c, d])).1 = 0 ∧ (chooseM (balsOf 5 [a, b, c, d])).2.jr = true ∧ (chooseM (balsOf 5 [a, b, c, d])).2.ch = false ∧ (chooseM (balsOf 5 [a, b, c, d])).2.st = [1, 1, 1] ∧ (chooseM (balsOf 5 [a, b, c, d])).2.s.events = 5 := by
  refine ⟨?_, ?_, ?_, ?_, ?_⟩ <;> kernel_rfl
theorem k2 (a b c d : Nat) : (chooseM [balOf 5 0 a, awayB (balOf 5 1 b), balOf 5 2 c, balOf 5 3 d]).1 = 0 ∧ (chooseM [balOf 5 0 a, awayB (balOf 5 1 b), balOf 5 2 c, balOf 5 3 d]).2.jr = true ∧ (chooseM [balOf 5 0 a, awayB (balOf 5 1 b), balOf 5 2 c, balOf 5 3 d]).2.ch = true ∧ (chooseM [balOf 5 0 a, awayB (balOf 5 1 b), balOf 5 2 c, balOf 5 3 d]).2.st = [1, 2, 1] := by
  refine ⟨?_, ?_, ?_, ?_⟩ <;> kernel_rfl
theorem k3 (a b c d : Nat) : (chooseM [balOf 5 0 a, awayB (balOf 5 1 b), balOf 5 2 c, awayB (balOf 5 3 d)]).1 = 153 := by kernel_rfl

theorem away_cells (l : List BalD) (j : Nat) (h : j < l.length) : (balCells l).set (j * 13) (.bool false) = balCells (l.set j (awayB l[j])) := by
  have h1 := flat_set (g := BalD.cells) (w := 13) (awayB l[j]) l j h (fun _ _ => rfl)
  rw [show balCells (l.set j (awayB l[j])) = (l.set j (awayB l[j])).flatMap BalD.cells from rfl, ← h1]
  have hlen : (balCells l).length = l.length * 13 := flat_length l fun _ _ => rfl
  have hj : j * 13 < (balCells l).length := by omega
  have h2 : ((balCells l).drop (j * 13)).take 13 = l[j].cells := flat_part l j h (fun _ _ => rfl)
  have e : (awayB l[j]).cells = .bool false :: l[j].s.cells := rfl
  have h3 : ((balCells l).drop (j * 13 + 1)).take 12 = l[j].s.cells := bal_sup l j h
  rw [List.set_eq_take_append_cons_drop, if_pos hj, e, ← h3]
  rw [show l.flatMap BalD.cells = balCells l from rfl]
  have h4 : (balCells l).drop (j * 13 + 1) = ((balCells l).drop (j * 13 + 1)).take 12 ++ (balCells l).drop (j * 13 + 13) := by
    conv => lhs; rw [← List.take_append_drop 12 ((balCells l).drop (j * 13 + 1))]
    rw [List.drop_drop]
  conv => lhs; rw [h4]
  simp

theorem four_bals {W : World} {H : List SProp} {ao : Option Addr} {cap : Nat} (l : List BalD) (m : Own 61 13 (.slice ao 4 cap) 4 (balCells l) ∈ H) (hn : ao = none → 4 = 0) (e a b c d : Nat) (he : e < 18446744073709551616)
    (hl : l.length = 4) (hs : ∀ x ∈ l, ∃ i n, i < 4 ∧ (n = a ∨ n = b ∨ n = c ∨ n = d) ∧ x.s = (balOf e i n).s) (ha : upR a ∈ H) (hb : upR b ∈ H) (hc : upR c ∈ H) (hd : upR d ∈ H) : Bals W H ao l := by
  rw [← hl] at m hn
  refine bals_own l m hn ?_ ?_
  · intro x hx
    obtain ⟨i, n, hi, h, hx2⟩ := hs x hx
    rw [hx2]
    refine ⟨n, rfl, ?_⟩
    rcases h with rfl | rfl | rfl | rfl <;> assumption
  · intro x hx
    obtain ⟨i, n, hi, h, hx2⟩ := hs x hx
    rw [hx2]
    exact balOf_fit _ _ _ he (by omega)

set_option maxHeartbeats 4000000 in
theorem vknown_ok {W : World} {R : List SProp} : Does1 W Try.prog 16 [] R (.bool true) R := by
  (refine Does.enter Try.func16 Try.ntmps16 rfl rfl ?_)
  (refine w ?_; repeat ((first | refine VO.step rfl rfl ?_ | refine VD.end rfl rfl rfl ?_ | refine VD.mid rfl rfl rfl ?_); refine OpV.box rfl rfl rfl ?_; intro _; refine w ?_))
  ((first | refine VO.step rfl rfl ?_ | refine VD.end rfl rfl rfl ?_ | refine VD.mid rfl rfl rfl ?_); refine OpV.call rfl rfl (fun _ _ => by simp) (ballots_ok 5) Ent.refl rfl ?_)
  rintro ⟨bs, ao, cap⟩ hbs
  dsimp only at hbs ⊢
  obtain ⟨a, b, c, d, rfl⟩ := four hbs
  refine VO.know (p := ao = none → 4 = 0) (fun w hw => Holds.ownNone hw (.head _)) ?_
  intro hn
  obtain ⟨la, rfl⟩ : ∃ x, ao = some x := by cases ao with | none => exact absurd (hn rfl) (by decide) | some x => exact ⟨x, rfl⟩
  refine VO.ent (H' := Own 61 13 (.slice (some la) 4 cap) 4 (balCells (balsOf 5 [a, b, c, d])) :: upR a :: upR b :: upR c :: upR d :: R) Ent.refl ?_
  have hL : ∀ (f g : BalD → BalD) (H : List SProp), (∀ x, (f x).s = x.s) → (∀ x, (g x).s = x.s) → Own 61 13 (.slice (some la) 4 cap) 4 (balCells [balOf 5 0 a, f (balOf 5 1 b), balOf 5 2 c, g (balOf 5 3 d)]) ∈ H → upR a ∈ H → upR b ∈ H → upR c ∈ H → upR d ∈ H → Bals W H (some la) [balOf 5 0 a, f (balOf 5 1 b), balOf 5 2 c, g (balOf 5 3 d)] := fun f g H hf hg m ma mb mc md => by
    refine four_bals _ m (by simp) 5 a b c d (by omega) rfl ?_ ma mb mc md
    intro x hx
    simp only [List.mem_cons, List.not_mem_nil, or_false] at hx
    rcases hx with rfl | rfl | rfl | rfl
    · exact ⟨0, a, by omega, by simp, rfl⟩
    · exact ⟨1, b, by omega, by simp, hf _⟩
    · exact ⟨2, c, by omega, by simp, rfl⟩
    · exact ⟨3, d, by omega, by simp, hg _⟩
  (refine w ?_; repeat ((first | refine VO.step rfl rfl ?_ | refine VD.end rfl rfl rfl ?_ | refine VD.mid rfl rfl rfl ?_); refine OpV.box rfl rfl rfl ?_; intro _; refine w ?_))
  ((first | refine VO.step rfl rfl ?_ | refine VD.end rfl rfl rfl ?_ | refine VD.mid rfl rfl rfl ?_); refine OpV.call rfl rfl (fun _ _ => by simp) (choose_ok (l := balsOf 5 [a, b, c, d]) (by simp) (hL id id _ (fun _ => rfl) (fun _ => rfl) (by (focus repeat first | exact .head _ | apply List.Mem.tail)) (by (focus repeat first | exact .head _ | apply List.Mem.tail)) (by (focus repeat first | exact .head _ | apply List.Mem.tail)) (by (focus repeat first | exact .head _ | apply List.Mem.tail)) (by (focus repeat first | exact .head _ | apply List.Mem.tail)))) Ent.refl rfl ?_)
  rintro ⟨so, sc⟩ _
  obtain ⟨h1, h2, h3, h4, h5⟩ := k1 a b c d
  generalize chooseM (balsOf 5 [a, b, c, d]) = X at *
  obtain ⟨e, s, st, cur, ch, jr⟩ := X
  dsimp only at h1 h2 h3 h4 h5 ⊢
  subst h1 h2 h3 h4
  (refine w ?_; repeat ((first | refine VO.step rfl rfl ?_ | refine VD.end rfl rfl rfl ?_ | refine VD.mid rfl rfl rfl ?_); refine OpV.box rfl rfl rfl ?_; intro _; refine w ?_))
  ((first | refine VO.step rfl rfl ?_ | refine VD.end rfl rfl rfl ?_ | refine VD.mid rfl rfl rfl ?_); refine OpV.allocS sb_32 rfl ?_; intro n2)
  (refine w ?_; repeat ((first | refine VO.step rfl rfl ?_ | refine VD.end rfl rfl rfl ?_ | refine VD.mid rfl rfl rfl ?_); refine OpV.box rfl rfl rfl ?_; intro _; refine w ?_))
  (first | refine VO.step rfl rfl ?_ | refine VD.end rfl rfl rfl ?_ | refine VD.mid rfl rfl rfl ?_)
  refine OpV.stA (vs := vCells s so 3 sc cur false true) tab_ok rfl rfl rfl rfl (vCells_one _ _ _ _ _ _ _) (by (repeat first | exact .head | apply Hole.tail)) (by simp) ?_
  refine VO.ent (Reord.ent (L := Row n2 32 (vCells s so 3 sc cur false true) :: Own 61 13 (.slice (some la) 4 cap) 4 (balCells (balsOf 5 [a, b, c, d])) :: upR a :: upR b :: upR c :: upR d :: R) (by (repeat first | exact .refl | (apply Reord.cons; focus repeat first | exact .head | apply Del.tail) | exact .nil | apply Reord.drop))) ?_
  (refine w ?_; repeat ((first | refine VO.step rfl rfl ?_ | refine VD.end rfl rfl rfl ?_ | refine VD.mid rfl rfl rfl ?_); refine OpV.box rfl rfl rfl ?_; intro _; refine w ?_))
  (first | refine VO.pure rfl rfl (.indexAddrN (j := 1) tab_ok rfl rfl rfl rfl (by decide)) rfl ?_ | refine VD.take rfl rfl rfl (.indexAddrN (j := 1) tab_ok rfl rfl rfl rfl (by decide)) rfl ?_ | refine VQ.pure rfl rfl (.indexAddrN (j := 1) tab_ok rfl rfl rfl rfl (by decide)) rfl ?_ | refine VD.end rfl rfl rfl (OpV.pure (.indexAddrN (j := 1) tab_ok rfl rfl rfl rfl (by decide)) rfl ?_))
  (refine w ?_; repeat ((first | refine VO.step rfl rfl ?_ | refine VD.end rfl rfl rfl ?_ | refine VD.mid rfl rfl rfl ?_); refine OpV.box rfl rfl rfl ?_; intro _; refine w ?_))
  (first | refine VO.step rfl rfl ?_ | refine VD.end rfl rfl rfl ?_ | refine VD.mid rfl rfl rfl ?_)
  refine OpV.stO (j := 13) tab_ok rfl rfl rfl rfl (.tail .head) (by rw [show (balCells (balsOf 5 [a, b, c, d])).length = 4 * 13 from rfl]; decide) ?_
  rw [show (balCells (balsOf 5 [a, b, c, d])).set _ _ = _ from away_cells (balsOf 5 [a, b, c, d]) 1 (by simp)]
  refine VO.ent (H' := Row n2 32 (vCells s so 3 sc cur false true) :: Own 61 13 (.slice (some la) 4 cap) 4 (balCells [balOf 5 0 a, awayB (balOf 5 1 b), balOf 5 2 c, balOf 5 3 d]) :: upR a :: upR b :: upR c :: upR d :: R) Ent.refl ?_
  (refine w ?_; repeat ((first | refine VO.step rfl rfl ?_ | refine VD.end rfl rfl rfl ?_ | refine VD.mid rfl rfl rfl ?_); refine OpV.box rfl rfl rfl ?_; intro _; refine w ?_))
  ((first | refine VO.step rfl rfl ?_ | refine VD.end rfl rfl rfl ?_ | refine VD.mid rfl rfl rfl ?_); refine OpV.call rfl rfl (fun _ _ => by simp) (choose_ok (l := [balOf 5 0 a, awayB (balOf 5 1 b), balOf 5 2 c, balOf 5 3 d]) (by simp) (hL awayB id _ (fun _ => rfl) (fun _ => rfl) (by (focus repeat first | exact .head _ | apply List.Mem.tail)) (by (focus repeat first | exact .head _ | apply List.Mem.tail)) (by (focus repeat first | exact .head _ | apply List.Mem.tail)) (by (focus repeat first | exact .head _ | apply List.Mem.tail)) (by (focus repeat first | exact .head _ | apply List.Mem.tail)))) Ent.refl rfl ?_)
  rintro ⟨so2, sc2⟩ _
  obtain ⟨g1, g2, g3, g4⟩ := k2 a b c d
  generalize chooseM [balOf 5 0 a, awayB (balOf 5 1 b), balOf 5 2 c, balOf 5 3 d] = X at *
  obtain ⟨e2, s2, st2, cur2, ch2, jr2⟩ := X
  dsimp only at g1 g2 g3 g4 ⊢
  subst g1 g2 g3 g4
  (refine w ?_; repeat ((first | refine VO.step rfl rfl ?_ | refine VD.end rfl rfl rfl ?_ | refine VD.mid rfl rfl rfl ?_); refine OpV.box rfl rfl rfl ?_; intro _; refine w ?_))
  ((first | refine VO.step rfl rfl ?_ | refine VD.end rfl rfl rfl ?_ | refine VD.mid rfl rfl rfl ?_); refine OpV.allocS sb_32 rfl ?_; intro n4)
  (refine w ?_; repeat ((first | refine VO.step rfl rfl ?_ | refine VD.end rfl rfl rfl ?_ | refine VD.mid rfl rfl rfl ?_); refine OpV.box rfl rfl rfl ?_; intro _; refine w ?_))
  (first | refine VO.step rfl rfl ?_ | refine VD.end rfl rfl rfl ?_ | refine VD.mid rfl rfl rfl ?_)
  refine OpV.stA (vs := vCells s2 so2 3 sc2 cur2 true true) tab_ok rfl rfl rfl rfl (vCells_one _ _ _ _ _ _ _) (by (repeat first | exact .head | apply Hole.tail)) (by simp) ?_
  refine VO.ent (Reord.ent (L := Row n4 32 (vCells s2 so2 3 sc2 cur2 true true) :: Own 59 1 (.slice so2 3 sc2) 3 (bytes [1, 2, 1]) :: Row n2 32 (vCells s so 3 sc cur false true) :: Own 61 13 (.slice (some la) 4 cap) 4 (balCells [balOf 5 0 a, awayB (balOf 5 1 b), balOf 5 2 c, balOf 5 3 d]) :: upR a :: upR b :: upR c :: upR d :: R) (by (repeat first | exact .refl | (apply Reord.cons; focus repeat first | exact .head | apply Del.tail) | exact .nil | apply Reord.drop))) ?_
  (refine w ?_; repeat ((first | refine VO.step rfl rfl ?_ | refine VD.end rfl rfl rfl ?_ | refine VD.mid rfl rfl rfl ?_); refine OpV.box rfl rfl rfl ?_; intro _; refine w ?_))
  (first | refine VO.pure rfl rfl (.indexAddrN (j := 3) tab_ok rfl rfl rfl rfl (by decide)) rfl ?_ | refine VD.take rfl rfl rfl (.indexAddrN (j := 3) tab_ok rfl rfl rfl rfl (by decide)) rfl ?_ | refine VQ.pure rfl rfl (.indexAddrN (j := 3) tab_ok rfl rfl rfl rfl (by decide)) rfl ?_ | refine VD.end rfl rfl rfl (OpV.pure (.indexAddrN (j := 3) tab_ok rfl rfl rfl rfl (by decide)) rfl ?_))
  (refine w ?_; repeat ((first | refine VO.step rfl rfl ?_ | refine VD.end rfl rfl rfl ?_ | refine VD.mid rfl rfl rfl ?_); refine OpV.box rfl rfl rfl ?_; intro _; refine w ?_))
  (first | refine VO.step rfl rfl ?_ | refine VD.end rfl rfl rfl ?_ | refine VD.mid rfl rfl rfl ?_)
  refine OpV.stO (j := 39) tab_ok rfl rfl rfl rfl (.tail (.tail (.tail .head))) (by rw [show (balCells [balOf 5 0 a, awayB (balOf 5 1 b), balOf 5 2 c, balOf 5 3 d]).length = 4 * 13 from rfl]; decide) ?_
  rw [show (balCells [balOf 5 0 a, awayB (balOf 5 1 b), balOf 5 2 c, balOf 5 3 d]).set _ _ = _ from away_cells [balOf 5 0 a, awayB (balOf 5 1 b), balOf 5 2 c, balOf 5 3 d] 3 (by simp)]
  refine VO.ent (H' := Row n4 32 (vCells s2 so2 3 sc2 cur2 true true) :: Own 59 1 (.slice so2 3 sc2) 3 (bytes [1, 2, 1]) :: Row n2 32 (vCells s so 3 sc cur false true) :: Own 61 13 (.slice (some la) 4 cap) 4 (balCells [balOf 5 0 a, awayB (balOf 5 1 b), balOf 5 2 c, awayB (balOf 5 3 d)]) :: upR a :: upR b :: upR c :: upR d :: R) Ent.refl ?_
  (refine w ?_; repeat ((first | refine VO.step rfl rfl ?_ | refine VD.end rfl rfl rfl ?_ | refine VD.mid rfl rfl rfl ?_); refine OpV.box rfl rfl rfl ?_; intro _; refine w ?_))
  ((first | refine VO.step rfl rfl ?_ | refine VD.end rfl rfl rfl ?_ | refine VD.mid rfl rfl rfl ?_); refine OpV.call rfl rfl (fun _ _ => by simp) (choose_ok (l := [balOf 5 0 a, awayB (balOf 5 1 b), balOf 5 2 c, awayB (balOf 5 3 d)]) (by simp) (hL awayB awayB _ (fun _ => rfl) (fun _ => rfl) (by (focus repeat first | exact .head _ | apply List.Mem.tail)) (by (focus repeat first | exact .head _ | apply List.Mem.tail)) (by (focus repeat first | exact .head _ | apply List.Mem.tail)) (by (focus repeat first | exact .head _ | apply List.Mem.tail)) (by (focus repeat first | exact .head _ | apply List.Mem.tail)))) Ent.refl rfl ?_)
  rintro ⟨so3, sc3⟩ _
  have f1 := k3 a b c d
  generalize chooseM [balOf 5 0 a, awayB (balOf 5 1 b), balOf 5 2 c, awayB (balOf 5 3 d)] = X at *
  obtain ⟨e3, v3⟩ := X
  dsimp only at f1 ⊢
  subst f1
  (refine w ?_; repeat ((first | refine VO.step rfl rfl ?_ | refine VD.end rfl rfl rfl ?_ | refine VD.mid rfl rfl rfl ?_); refine OpV.box rfl rfl rfl ?_; intro _; refine w ?_))
  ((first | refine VO.step rfl rfl ?_ | refine VD.end rfl rfl rfl ?_ | refine VD.mid rfl rfl rfl ?_); refine OpV.allocS sb_32 rfl ?_; intro n6)
  (refine w ?_; repeat ((first | refine VO.step rfl rfl ?_ | refine VD.end rfl rfl rfl ?_ | refine VD.mid rfl rfl rfl ?_); refine OpV.box rfl rfl rfl ?_; intro _; refine w ?_))
  (first | refine VO.step rfl rfl ?_ | refine VD.end rfl rfl rfl ?_ | refine VD.mid rfl rfl rfl ?_)
  refine OpV.stA (vs := v3.cells (so3, sc3)) tab_ok rfl rfl rfl rfl (vCells_one _ _ _ _ _ _ _) (by (repeat first | exact .head | apply Hole.tail)) (by simp) ?_
  refine VO.ent (Reord.ent (L := Row n4 32 (vCells s2 so2 3 sc2 cur2 true true) :: Own 59 1 (.slice so2 3 sc2) 3 (bytes [1, 2, 1]) :: Row n2 32 (vCells s so 3 sc cur false true) :: R) (by (repeat first | exact .refl | (apply Reord.cons; focus repeat first | exact .head | apply Del.tail) | exact .nil | apply Reord.drop))) ?_
  refine VO.know (p := so2 = none → 3 = 0) (fun w hw => Holds.ownNone hw (.tail _ (.head _))) ?_
  intro hn2
  obtain ⟨sa, rfl⟩ : ∃ x, so2 = some x := by cases so2 with | none => exact absurd (hn2 rfl) (by decide) | some x => exact ⟨x, rfl⟩
  (refine w ?_; repeat ((first | refine VO.step rfl rfl ?_ | refine VD.end rfl rfl rfl ?_ | refine VD.mid rfl rfl rfl ?_); refine OpV.box rfl rfl rfl ?_; intro _; refine w ?_))
  (first | refine VO.gT rfl rfl rfl (by rw [h5]; rfl) ?_ | refine VD.gT rfl rfl rfl (by rw [h5]; rfl) ?_)
  have hr4 : ∀ A B C : SProp, Rds W (A :: Own 59 1 (.slice (some sa) 3 sc2) 3 (bytes [1, 2, 1]) :: B :: R) 1 (some sa) 3 (bytes [1, 2, 1]) := fun _ _ _ => Rds.own (bytes_one _) (by (focus repeat first | exact .head _ | apply List.Mem.tail)) (by simp) (by simp)
  (refine w ?_; repeat ((first | refine VO.step rfl rfl ?_ | refine VD.end rfl rfl rfl ?_ | refine VD.mid rfl rfl rfl ?_); refine OpV.box rfl rfl rfl ?_; intro _; refine w ?_))
  (first | refine VO.pure rfl rfl (.indexAddr (j := 1) tab_ok rfl rfl rfl rfl (by decide)) rfl ?_ | refine VD.take rfl rfl rfl (.indexAddr (j := 1) tab_ok rfl rfl rfl rfl (by decide)) rfl ?_ | refine VQ.pure rfl rfl (.indexAddr (j := 1) tab_ok rfl rfl rfl rfl (by decide)) rfl ?_ | refine VD.end rfl rfl rfl (OpV.pure (.indexAddr (j := 1) tab_ok rfl rfl rfl rfl (by decide)) rfl ?_))
  (refine w ?_; repeat ((first | refine VO.step rfl rfl ?_ | refine VD.end rfl rfl rfl ?_ | refine VD.mid rfl rfl rfl ?_); refine OpV.box rfl rfl rfl ?_; intro _; refine w ?_))
  (first | refine VO.pure rfl rfl (.ldR tab_ok rfl rfl (hr4 _ _ (fact True)) (show (bytes [1, 2, 1])[1]? = some (.int .u8 2) from rfl)) rfl ?_ | refine VD.take rfl rfl rfl (.ldR tab_ok rfl rfl (hr4 _ _ (fact True)) (show (bytes [1, 2, 1])[1]? = some (.int .u8 2) from rfl)) rfl ?_ | refine VQ.pure rfl rfl (.ldR tab_ok rfl rfl (hr4 _ _ (fact True)) (show (bytes [1, 2, 1])[1]? = some (.int .u8 2) from rfl)) rfl ?_ | refine VD.end rfl rfl rfl (OpV.pure (.ldR tab_ok rfl rfl (hr4 _ _ (fact True)) (show (bytes [1, 2, 1])[1]? = some (.int .u8 2) from rfl)) rfl ?_))
  (refine w ?_; repeat ((first | refine VO.step rfl rfl ?_ | refine VD.end rfl rfl rfl ?_ | refine VD.mid rfl rfl rfl ?_); refine OpV.box rfl rfl rfl ?_; intro _; refine w ?_))
  (first | refine VO.pure rfl rfl (.indexAddr (j := 0) tab_ok rfl rfl rfl rfl (by decide)) rfl ?_ | refine VD.take rfl rfl rfl (.indexAddr (j := 0) tab_ok rfl rfl rfl rfl (by decide)) rfl ?_ | refine VQ.pure rfl rfl (.indexAddr (j := 0) tab_ok rfl rfl rfl rfl (by decide)) rfl ?_ | refine VD.end rfl rfl rfl (OpV.pure (.indexAddr (j := 0) tab_ok rfl rfl rfl rfl (by decide)) rfl ?_))
  (refine w ?_; repeat ((first | refine VO.step rfl rfl ?_ | refine VD.end rfl rfl rfl ?_ | refine VD.mid rfl rfl rfl ?_); refine OpV.box rfl rfl rfl ?_; intro _; refine w ?_))
  (first | refine VO.pure rfl rfl (.ldR tab_ok rfl rfl (hr4 _ _ (fact True)) (show (bytes [1, 2, 1])[0]? = some (.int .u8 1) from rfl)) rfl ?_ | refine VD.take rfl rfl rfl (.ldR tab_ok rfl rfl (hr4 _ _ (fact True)) (show (bytes [1, 2, 1])[0]? = some (.int .u8 1) from rfl)) rfl ?_ | refine VQ.pure rfl rfl (.ldR tab_ok rfl rfl (hr4 _ _ (fact True)) (show (bytes [1, 2, 1])[0]? = some (.int .u8 1) from rfl)) rfl ?_ | refine VD.end rfl rfl rfl (OpV.pure (.ldR tab_ok rfl rfl (hr4 _ _ (fact True)) (show (bytes [1, 2, 1])[0]? = some (.int .u8 1) from rfl)) rfl ?_))
  (refine w ?_; repeat ((first | refine VO.step rfl rfl ?_ | refine VD.end rfl rfl rfl ?_ | refine VD.mid rfl rfl rfl ?_); refine OpV.box rfl rfl rfl ?_; intro _; refine w ?_))
  (refine VE.done1 rfl ?_ ?_)
  · rfl
  · exact Ent.re
end Go.Proofs.Ytlflmnmkgaeabaa
