/- Scan: the document's Sectors. -/
import Derived.Test.YtlojjlbngnaphaaNm
set_option maxRecDepth 8000
set_option linter.unusedVariables false
set_option linter.unusedSimpArgs false
set_option linter.unusedSectionVars false
namespace Go.Proofs.Ytlojjlbngnaphaa
open Go.RowKit Go.Sl
attribute [local irreducible] Own

theorem far_or (p : PatD) : p.far ↔ ((p.member < 0 ∨ 15 < p.member) ∨ p.row < 0) ∨ 4095 < p.row := by unfold PatD.far; omega
theorem some_step {α : Type} {q : α → Prop} {l : List α} {i : Nat} (h : i < l.length) : (∃ p ∈ l.take (i + 1), q p) ↔ (∃ p ∈ l.take i, q p) ∨ q l[i] := by
  rw [List.take_succ_eq_append_getElem h]
  constructor
  · rintro ⟨p, hp, hq⟩
    rw [List.mem_append, List.mem_singleton] at hp
    rcases hp with hp | rfl
    · exact .inl ⟨p, hp, hq⟩
    · exact .inr hq
  · rintro (⟨p, hp, hq⟩ | hq)
    · exact ⟨p, List.mem_append_left _ hp, hq⟩
    · exact ⟨l[i], List.mem_append_right _ (List.mem_singleton.2 rfl), hq⟩
def farTo (e s : Nat) (l : List PatE) (i : Nat) : Bool := decide (¬ cntOk e s ∨ ∃ p ∈ l.take i, p.D.far)
def shortTo (l : List PatE) (i : Nat) : Bool := decide (∃ p ∈ l.take i, p.d.data.length ≠ 128)
theorem farTo_iff (e s : Nat) (l : List PatE) (i : Nat) : farTo e s l i = true ↔ (¬ cntOk e s ∨ ∃ p ∈ l.take i, p.D.far) := decide_eq_true_iff
theorem shortTo_iff (l : List PatE) (i : Nat) : shortTo l i = true ↔ ∃ p ∈ l.take i, p.d.data.length ≠ 128 := decide_eq_true_iff
theorem farTo_step (e s : Nat) {l : List PatE} {i : Nat} (h : i < l.length) : farTo e s l (i + 1) = true ↔ farTo e s l i = true ∨ l[i].D.far := by
  rw [farTo_iff, farTo_iff, some_step (q := fun p : PatE => p.D.far) h, or_assoc]
theorem shortTo_step {l : List PatE} {i : Nat} (h : i < l.length) : shortTo l (i + 1) = true ↔ shortTo l i = true ∨ l[i].d.data.length ≠ 128 := by
  rw [shortTo_iff, shortTo_iff, some_step (q := fun p : PatE => p.d.data.length ≠ 128) h]
theorem VO.joinRB {W : World} {P : Program} {n : Nat} {c c2 : Code} {Q : Exit → Act → World → Prop} {H : List SProp} {f : Fr} {α : Type} {k i : Nat} (A : α → Prop) (G : α → List SProp) (F : α → Fr) (h1 : ∀ Q2, Met W n Q Q2 A G F → VO W P n c k (blockC i Q2) H f) (h2 : ∀ x, A x → VC W P n c2 Q (G x) (F x)) :
    VO W P n c k (blockC i (thenC P c2 Q)) H f := h1 _ (Met.of h2)
set_option maxHeartbeats 4000000 in
theorem rsecs_ok {W : World} {R : List SProp} {ao : Option Addr} {cap : Nat} {l : List PatE} (e s : Nat) (he : e < 2 ^ 64) (hs : s < 2 ^ 64) (hp : RdPats W R ao l) (hfit : ∀ p ∈ l, p.fit) (hlen : l.length ≤ 140737488351232) :
    Does W Try.prog 15 [.int .u64 e, .agg #[.int .u64 s, .slice ao l.length cap]] R (β := (Option Addr × Nat) × List RowE) (fun y => y.2.map RowE.data = (secsM e s (l.map PatE.D)).2) (fun y => .tuple #[.slice y.1.1 y.2.length y.1.2, .int .i64 (secsM e s (l.map PatE.D)).1]) (fun y => RowsO y.1 y.2 :: PilR y.2 :: R) := by
  have hll : (l.map PatE.D).length = l.length := List.length_map ..
  (refine Does.enter Try.func15 Try.ntmps15 rfl rfl ?_)
  (refine w ?_; repeat ((first | refine VO.step rfl rfl ?_ | refine VD.end rfl rfl rfl ?_ | refine VD.mid rfl rfl rfl ?_); refine OpV.box rfl rfl rfl ?_; intro _; refine w ?_))
  rename_i bx
  refine VO.joinR (α := Unit) (fun _ => True) (fun _ => Row bx 25 [.int .u64 s, .slice ao l.length cap] :: R) (fun _ => [(0, .int .u64 e), (3, .pointer (some ⟨bx, 0, none⟩)), (6, .int .i64 l.length), (32, .bool (decide (l.length < 1 ∨ 1023 < l.length)))]) (fun Q2 jn => ?_) ?_
  · ((first | refine VO.split rfl rfl rfl ?_ ?_ | refine VD.split rfl rfl rfl ?_ ?_) <;> intro hb)
    · (refine w ?_; repeat ((first | refine VO.step rfl rfl ?_ | refine VD.end rfl rfl rfl ?_ | refine VD.mid rfl rfl rfl ?_); refine OpV.box rfl rfl rfl ?_; intro _; refine w ?_))
      exact jn.to () trivial ⟨rfl, rfl, rfl, asV rfl (by congr 1; symm; apply decide_eq_true; have := of_decide_eq_true hb; omega), trivial⟩ Ent.refl
    · (refine w ?_; repeat ((first | refine VO.step rfl rfl ?_ | refine VD.end rfl rfl rfl ?_ | refine VD.mid rfl rfl rfl ?_); refine OpV.box rfl rfl rfl ?_; intro _; refine w ?_))
      exact jn.to () trivial ⟨rfl, rfl, rfl, asV rfl (by congr 1; rw [decide_eq_decide]; have := of_decide_eq_false hb; omega), trivial⟩ Ent.refl
  rintro ⟨⟩ -
  (refine VC.cond rfl rfl ?_ ?_ <;> intro hc)
  · have hz : secsM e s (l.map PatE.D) = (1, []) := if_pos (by rw [hll]; exact of_decide_eq_true hc)
    (refine w ?_; repeat ((first | refine VO.step rfl rfl ?_ | refine VD.end rfl rfl rfl ?_ | refine VD.mid rfl rfl rfl ?_); refine OpV.box rfl rfl rfl ?_; intro _; refine w ?_))
    refine VE.done ((none, 0), []) rfl (by rw [hz]; rfl) (by rw [hz]; rfl) ?_
    exact Ent.trans (Ent.re (L := R)) (fun w hw => (pile_nil (res := RowE.res) hw).ownNil _ _)
  have hn : 1 ≤ l.length ∧ l.length ≤ 1023 := by have := of_decide_eq_false hc; omega
  clear hc
  obtain ⟨la, rfl⟩ := some_of_pos hp.rds.nil (by omega)
  (refine w ?_; repeat ((first | refine VO.step rfl rfl ?_ | refine VD.end rfl rfl rfl ?_ | refine VD.mid rfl rfl rfl ?_); refine OpV.box rfl rfl rfl ?_; intro _; refine w ?_))
  refine VO.joinR (α := Unit) (fun _ => True) (fun _ => Row bx 25 [.int .u64 s, .slice (some la) l.length cap] :: R) (fun _ => [(0, .int .u64 e), (3, .pointer (some ⟨bx, 0, none⟩)), (6, .int .i64 l.length), (7, .bool (decide (¬ cntOk e s)))]) (fun Q2 jn => ?_) ?_
  · ((first | refine VO.split rfl rfl rfl ?_ ?_ | refine VD.split rfl rfl rfl ?_ ?_) <;> intro hb)
    · (refine w ?_; repeat ((first | refine VO.step rfl rfl ?_ | refine VD.end rfl rfl rfl ?_ | refine VD.mid rfl rfl rfl ?_); refine OpV.box rfl rfl rfl ?_; intro _; refine w ?_))
      exact jn.to () trivial ⟨rfl, rfl, rfl, asV rfl (by congr 1; symm; apply decide_eq_true; have := of_decide_eq_true hb; unfold cntOk; omega), trivial⟩ Ent.refl
    have q1 := of_decide_eq_false hb
    clear hb
    (refine w ?_; repeat ((first | refine VO.step rfl rfl ?_ | refine VD.end rfl rfl rfl ?_ | refine VD.mid rfl rfl rfl ?_); refine OpV.box rfl rfl rfl ?_; intro _; refine w ?_))
    ((first | refine VO.split rfl rfl rfl ?_ ?_ | refine VD.split rfl rfl rfl ?_ ?_) <;> intro hb)
    · (refine w ?_; repeat ((first | refine VO.step rfl rfl ?_ | refine VD.end rfl rfl rfl ?_ | refine VD.mid rfl rfl rfl ?_); refine OpV.box rfl rfl rfl ?_; intro _; refine w ?_))
      exact jn.to () trivial ⟨rfl, rfl, rfl, asV rfl (by congr 1; symm; apply decide_eq_true; have := of_decide_eq_true hb; unfold cntOk; omega), trivial⟩ Ent.refl
    have q2 := of_decide_eq_false hb
    clear hb
    (refine w ?_; repeat ((first | refine VO.step rfl rfl ?_ | refine VD.end rfl rfl rfl ?_ | refine VD.mid rfl rfl rfl ?_); refine OpV.box rfl rfl rfl ?_; intro _; refine w ?_))
    exact jn.to () trivial ⟨rfl, rfl, rfl, asV rfl (by congr 1; rw [decide_eq_decide]; unfold cntOk; omega), trivial⟩ Ent.refl
  rintro ⟨⟩ -
  (refine w ?_; repeat ((first | refine VO.step rfl rfl ?_ | refine VD.end rfl rfl rfl ?_ | refine VD.mid rfl rfl rfl ?_); refine OpV.box rfl rfl rfl ?_; intro _; refine w ?_))
  refine VC.loop (α := Nat) (fun i => i ≤ l.length) (fun i => Row bx 25 [.int .u64 s, .slice (some la) l.length cap] :: R)
    (fun i => [(0, .int .u64 e), (3, .pointer (some ⟨bx, 0, none⟩)), (6, .int .i64 l.length), (7, .bool (farTo e s l i)), (8, .bool (shortTo l i)), (9, .int .i64 i)]) (fun i => l.length - i) rfl 0 (Nat.zero_le _) Ent.refl ⟨rfl, rfl, rfl, asV rfl (by unfold farTo; congr 1; rw [decide_eq_decide]; simp), asV rfl (by unfold shortTo; simp), rfl, trivial⟩ ?_
  intro i hi
  (refine w ?_; repeat ((first | refine VO.step rfl rfl ?_ | refine VD.end rfl rfl rfl ?_ | refine VD.mid rfl rfl rfl ?_); refine OpV.box rfl rfl rfl ?_; intro _; refine w ?_))
  (refine VC.cond rfl rfl ?_ ?_ <;> intro hc)
  · have hlt : i < l.length := by have := of_decide_eq_true hc; omega
    clear hc
    have hfi := hfit _ (List.getElem_mem hlt)
    (refine w ?_; repeat ((first | refine VO.step rfl rfl ?_ | refine VD.end rfl rfl rfl ?_ | refine VD.mid rfl rfl rfl ?_); refine OpV.box rfl rfl rfl ?_; intro _; refine w ?_))
    (first | refine VO.pure rfl rfl (.ldRA tab_ok rfl rfl (hp.rds.ent (Ent.drop Ent.refl)) (pat_at l i hlt) rfl) rfl ?_ | refine VD.take rfl rfl rfl (.ldRA tab_ok rfl rfl (hp.rds.ent (Ent.drop Ent.refl)) (pat_at l i hlt) rfl) rfl ?_ | refine VQ.pure rfl rfl (.ldRA tab_ok rfl rfl (hp.rds.ent (Ent.drop Ent.refl)) (pat_at l i hlt) rfl) rfl ?_ | refine VD.end rfl rfl rfl (OpV.pure (.ldRA tab_ok rfl rfl (hp.rds.ent (Ent.drop Ent.refl)) (pat_at l i hlt) rfl) rfl ?_))
    ((first | refine VO.step rfl rfl ?_ | refine VD.end rfl rfl rfl ?_ | refine VD.mid rfl rfl rfl ?_); refine OpV.allocS sb_78 rfl ?_; intro n9)
    (refine w ?_; repeat ((first | refine VO.step rfl rfl ?_ | refine VD.end rfl rfl rfl ?_ | refine VD.mid rfl rfl rfl ?_); refine OpV.box rfl rfl rfl ?_; intro _; refine w ?_))
    (first | refine VO.step rfl rfl ?_ | refine VD.end rfl rfl rfl ?_ | refine VD.mid rfl rfl rfl ?_)
    refine OpV.stA (vs := l[i].cells) tab_ok rfl rfl rfl rfl (pat_one _) (by (repeat first | exact .head | apply Hole.tail)) (by simp) ?_
    refine VO.ent (Reord.ent (L := Row n9 78 l[i].cells :: Row bx 25 [.int .u64 s, .slice (some la) l.length cap] :: R) (by (repeat first | exact .refl | (apply Reord.cons; focus repeat first | exact .head | apply Del.tail) | exact .nil | apply Reord.drop))) ?_
    (refine w ?_; repeat ((first | refine VO.step rfl rfl ?_ | refine VD.end rfl rfl rfl ?_ | refine VD.mid rfl rfl rfl ?_); refine OpV.box rfl rfl rfl ?_; intro _; refine w ?_))
    have hfarS := farTo_step e s hlt
    have hfo := far_or l[i].D
    refine VO.joinR (α := Bool) (fun b => b = farTo e s l (i + 1)) (fun _ => Row n9 78 l[i].cells :: Row bx 25 [.int .u64 s, .slice (some la) l.length cap] :: R)
      (fun b => [(0, .int .u64 e), (3, .pointer (some ⟨bx, 0, none⟩)), (6, .int .i64 l.length), (7, .bool b), (8, .bool (shortTo l i)), (9, .int .i64 i), (10, .pointer (some ⟨n9, 0, none⟩))]) (fun Q2 jn => ?_) ?_
    · ((first | refine VO.split rfl rfl rfl ?_ ?_ | refine VD.split rfl rfl rfl ?_ ?_) <;> intro hb)
      · (refine w ?_; repeat ((first | refine VO.step rfl rfl ?_ | refine VD.end rfl rfl rfl ?_ | refine VD.mid rfl rfl rfl ?_); refine OpV.box rfl rfl rfl ?_; intro _; refine w ?_))
        (refine jn.to true (by symm; rw [hfarS]; exact .inl hb) ⟨rfl, rfl, rfl, rfl, rfl, rfl, rfl, trivial⟩ ?_; (try dsimp only); exact Ent.re)
      have q0 := hb
      clear hb
      iterate 3
        (refine w ?_; repeat ((first | refine VO.step rfl rfl ?_ | refine VD.end rfl rfl rfl ?_ | refine VD.mid rfl rfl rfl ?_); refine OpV.box rfl rfl rfl ?_; intro _; refine w ?_))
        ((first | refine VO.split rfl rfl rfl ?_ ?_ | refine VD.split rfl rfl rfl ?_ ?_) <;> intro hb)
        · (refine w ?_; repeat ((first | refine VO.step rfl rfl ?_ | refine VD.end rfl rfl rfl ?_ | refine VD.mid rfl rfl rfl ?_); refine OpV.box rfl rfl rfl ?_; intro _; refine w ?_))
          (refine jn.to true (by symm; rw [hfarS, hfo]; have h9 := of_decide_eq_true hb; dsimp only [PatE.D]; right; omega) ⟨rfl, rfl, rfl, rfl, rfl, rfl, rfl, trivial⟩ ?_; (try dsimp only); exact Ent.re)
      (refine w ?_; repeat ((first | refine VO.step rfl rfl ?_ | refine VD.end rfl rfl rfl ?_ | refine VD.mid rfl rfl rfl ?_); refine OpV.box rfl rfl rfl ?_; intro _; refine w ?_))
      (refine jn.to (decide (4095 < l[i].row)) (by
        rw [Bool.eq_iff_iff, decide_eq_true_iff, hfarS, hfo]
        have r1 := of_decide_eq_false ‹decide (l[i].member < 0) = false›
        have r2 := of_decide_eq_false ‹decide (15 < l[i].member) = false›
        have r3 := of_decide_eq_false ‹decide (l[i].row < 0) = false›
        dsimp only [PatE.D]
        constructor
        · intro h; exact .inr (.inr h)
        · rintro (h | h)
          · rw [q0] at h; cases h
          · rcases h with ((h | h) | h) | h
            · exact absurd h r1
            · exact absurd h r2
            · exact absurd h r3
            · exact h) ⟨rfl, rfl, rfl, rfl, rfl, rfl, rfl, trivial⟩ ?_; (try dsimp only); exact Ent.re)
    rintro b7 rfl
    have hshS := shortTo_step hlt
    (refine w ?_; repeat ((first | refine VO.step rfl rfl ?_ | refine VD.end rfl rfl rfl ?_ | refine VD.mid rfl rfl rfl ?_); refine OpV.box rfl rfl rfl ?_; intro _; refine w ?_))
    refine VO.joinRB (α := Bool) (fun b => b = shortTo l (i + 1)) (fun _ => Row n9 78 l[i].cells :: Row bx 25 [.int .u64 s, .slice (some la) l.length cap] :: R)
      (fun b => [(0, .int .u64 e), (3, .pointer (some ⟨bx, 0, none⟩)), (6, .int .i64 l.length), (7, .bool (farTo e s l (i + 1))), (8, .bool b), (9, .int .i64 i)]) (fun Q2 jn => ?_) ?_
    · ((first | refine VO.split rfl rfl rfl ?_ ?_ | refine VD.split rfl rfl rfl ?_ ?_) <;> intro hb)
      · (refine w ?_; repeat ((first | refine VO.step rfl rfl ?_ | refine VD.end rfl rfl rfl ?_ | refine VD.mid rfl rfl rfl ?_); refine OpV.box rfl rfl rfl ?_; intro _; refine w ?_))
        (refine jn.to true (by symm; rw [hshS]; exact .inl hb) ⟨rfl, rfl, rfl, rfl, rfl, rfl, trivial⟩ ?_; (try dsimp only); exact Ent.re)
      have q0 := hb
      clear hb
      (refine w ?_; repeat ((first | refine VO.step rfl rfl ?_ | refine VD.end rfl rfl rfl ?_ | refine VD.mid rfl rfl rfl ?_); refine OpV.box rfl rfl rfl ?_; intro _; refine w ?_))
      (refine jn.to ((l[i].d.data.length : Int) != 128) (by
        rw [Bool.eq_iff_iff, hshS]
        simp only [bne_iff_ne, ne_eq]
        constructor
        · intro h; exact .inr (by omega)
        · rintro (h | h)
          · rw [q0] at h; cases h
          · omega) ⟨rfl, rfl, rfl, rfl, rfl, rfl, trivial⟩ ?_; (try dsimp only); exact Ent.re)
    rintro b8 rfl
    (refine w ?_; repeat ((first | refine VO.step rfl rfl ?_ | refine VD.end rfl rfl rfl ?_ | refine VD.mid rfl rfl rfl ?_); refine OpV.box rfl rfl rfl ?_; intro _; refine w ?_))
    exact VE.round (i + 1) hlt (by omega) ⟨rfl, rfl, rfl, rfl, rfl, asV rfl (by congr 1), trivial⟩ Ent.re
  have hie : i = l.length := by have := of_decide_eq_false hc; omega
  subst hie
  clear hc hi
  have hft := farTo_iff e s l l.length
  have hst := shortTo_iff l l.length
  rw [List.take_length] at hft hst
  have hsecs : secsM e s (l.map PatE.D) = if ¬ cntOk e s ∨ ∃ p ∈ l.map PatE.D, p.far then (3, []) else if ∃ p ∈ l.map PatE.D, p.data.length ≠ 128 then (4, []) else (0, pairsP e s (l.map PatE.D).length (l.map PatE.D) 0 ++ [(cmtP e s (l.map PatE.D)).enc.2]) := by
    unfold secsM
    rw [if_neg (by rw [hll]; omega)]
  have hfm : (∃ p ∈ l.map PatE.D, p.far) ↔ ∃ p ∈ l, p.D.far := ⟨fun ⟨p, h1, h2⟩ => by obtain ⟨q, h3, rfl⟩ := List.mem_map.1 h1; exact ⟨q, h3, h2⟩, fun ⟨p, h1, h2⟩ => ⟨_, List.mem_map_of_mem h1, h2⟩⟩
  have hsm : (∃ p ∈ l.map PatE.D, p.data.length ≠ 128) ↔ ∃ p ∈ l, p.d.data.length ≠ 128 := ⟨fun ⟨p, h1, h2⟩ => by obtain ⟨q, h3, rfl⟩ := List.mem_map.1 h1; exact ⟨q, h3, h2⟩, fun ⟨p, h1, h2⟩ => ⟨_, List.mem_map_of_mem h1, h2⟩⟩
  (refine w ?_; repeat ((first | refine VO.step rfl rfl ?_ | refine VD.end rfl rfl rfl ?_ | refine VD.mid rfl rfl rfl ?_); refine OpV.box rfl rfl rfl ?_; intro _; refine w ?_))
  (refine VC.cond rfl rfl ?_ ?_ <;> intro hc)
  · have hz : secsM e s (l.map PatE.D) = (3, []) := by rw [hsecs, if_pos (by rw [hfm]; exact hft.1 hc)]
    (refine w ?_; repeat ((first | refine VO.step rfl rfl ?_ | refine VD.end rfl rfl rfl ?_ | refine VD.mid rfl rfl rfl ?_); refine OpV.box rfl rfl rfl ?_; intro _; refine w ?_))
    refine VE.done ((none, 0), []) rfl (by rw [hz]; rfl) (by rw [hz]; rfl) ?_
    exact Ent.trans (Ent.re (L := R)) (fun w hw => (pile_nil (res := RowE.res) hw).ownNil _ _)
  have hnf := fun q => Bool.false_ne_true (hc.symm.trans (hft.2 q))
  clear hc
  (refine w ?_; repeat ((first | refine VO.step rfl rfl ?_ | refine VD.end rfl rfl rfl ?_ | refine VD.mid rfl rfl rfl ?_); refine OpV.box rfl rfl rfl ?_; intro _; refine w ?_))
  (refine VC.cond rfl rfl ?_ ?_ <;> intro hc)
  · have hz : secsM e s (l.map PatE.D) = (4, []) := by rw [hsecs, if_neg (by rw [hfm]; exact hnf), if_pos (by rw [hsm]; exact hst.1 hc)]
    (refine w ?_; repeat ((first | refine VO.step rfl rfl ?_ | refine VD.end rfl rfl rfl ?_ | refine VD.mid rfl rfl rfl ?_); refine OpV.box rfl rfl rfl ?_; intro _; refine w ?_))
    refine VE.done ((none, 0), []) rfl (by rw [hz]; rfl) (by rw [hz]; rfl) ?_
    exact Ent.trans (Ent.re (L := R)) (fun w hw => (pile_nil (res := RowE.res) hw).ownNil _ _)
  have hns := fun q => Bool.false_ne_true (hc.symm.trans (hst.2 q))
  clear hc
  have h0 : (secsM e s (l.map PatE.D)).1 = 0 := by rw [hsecs, if_neg (by rw [hfm]; exact hnf), if_neg (by rw [hsm]; exact hns)]
  have hF : Fine e s (l.map PatE.D) := secs_ok h0
  have hsec := secs_fine hF
  rw [hsec]
  clear hsecs hfm hsm hnf hns h0 hsec hft hst
  (refine w ?_; repeat ((first | refine VO.step rfl rfl ?_ | refine VD.end rfl rfl rfl ?_ | refine VD.mid rfl rfl rfl ?_); refine OpV.box rfl rfl rfl ?_; intro _; refine w ?_))
  refine VC.loop (α := Nat × List RowE × (Option Addr × Nat) × (Option Addr × Nat)) (fun y => y.1 ≤ l.length ∧ y.2.1.map RowE.data = pairsP e s l.length ((l.map PatE.D).take y.1) 0)
    (fun y => OwnB y.2.2.2 (headsP e s l.length ((l.map PatE.D).take y.1) 0) :: RowsO y.2.2.1 y.2.1 :: PilR y.2.1 :: Row bx 25 [.int .u64 s, .slice (some la) l.length cap] :: R)
    (fun y => [(0, .int .u64 e), (3, .pointer (some ⟨bx, 0, none⟩)), (6, .int .i64 l.length), (11, .slice y.2.2.1.1 y.2.1.length y.2.2.1.2), (12, .slice y.2.2.2.1 (headsP e s l.length ((l.map PatE.D).take y.1) 0).length y.2.2.2.2), (13, .int .i64 y.1)]) (fun y => l.length - y.1) rfl (0, [], (none, 0), (none, 0)) ⟨Nat.zero_le _, rfl⟩
    (fun w hw => by
      have a1 := pile_nil (res := RowE.res) hw
      have a2 := a1.ownNil 55 1
      exact a2.ownNil 5 1) ⟨rfl, rfl, rfl, rfl, rfl, rfl, trivial⟩ ?_
  rintro ⟨i, y, x, hx⟩ ⟨hi, hy⟩
  dsimp only at hi hy ⊢
  have hhl : (headsP e s l.length ((l.map PatE.D).take i) 0).length ≤ 1048576 := by
    have h9 : ∀ (L : List PatD) (k : Nat), (headsP e s l.length L k).length ≤ 1024 * L.length := by
      intro L
      induction L with
      | nil => intro k; simp [headsP]
      | cons p L ih =>
        intro k
        have := ih (k + 1)
        have h8 : (headP e s l.length k p).length ≤ 1024 := by
          unfold headP
          by_cases g : (hdrP e s l.length k p).good
          · rw [hdr_ok g, sectF_length _ _ _ _ (hdr_sum _)]; omega
          · rw [hdr_bad g]; decide
        rw [headsP, List.length_append, List.length_cons]; omega
    have := h9 ((l.map PatE.D).take i) 0
    rw [List.length_take, hll] at this; omega
  (refine w ?_; repeat ((first | refine VO.step rfl rfl ?_ | refine VD.end rfl rfl rfl ?_ | refine VD.mid rfl rfl rfl ?_); refine OpV.box rfl rfl rfl ?_; intro _; refine w ?_))
  (refine VC.cond rfl rfl ?_ ?_ <;> intro hc)
  · have hlt : i < l.length := by have := of_decide_eq_true hc; omega
    clear hc
    have hfi := hfit _ (List.getElem_mem hlt)
    have hDi : i < (l.map PatE.D).length := by rw [hll]; exact hlt
    have hDg : (l.map PatE.D)[i] = l[i].D := List.getElem_map ..
    have hpf := hF.pat _ (List.getElem_mem hDi)
    rw [hDg] at hpf
    have h128 : l[i].d.data.length = 128 := hpf.2.2
    have hesc : escD l[i].d.data = ⟨escM l[i].d.data, isEsc l[i].d.data, 0⟩ := if_pos h128
    have hel : (escM l[i].d.data).length = 128 := escN_length h128
    have hgood := hdrP_good hF hDi
    rw [hDg, hll] at hgood
    have henc : (hdrP e s l.length i l[i].D).enc.1 = 0 := by rw [hdr_ok hgood]
    have hcap := (hp.ok _ (List.getElem_mem hlt)).cap
    (refine w ?_; repeat ((first | refine VO.step rfl rfl ?_ | refine VD.end rfl rfl rfl ?_ | refine VD.mid rfl rfl rfl ?_); refine OpV.box rfl rfl rfl ?_; intro _; refine w ?_))
    (first | refine VO.pure rfl rfl (.ldRA tab_ok rfl rfl (hp.rds.ent (Ent.drop (Ent.drop (Ent.drop (Ent.drop Ent.refl))))) (pat_at l i hlt) rfl) rfl ?_ | refine VD.take rfl rfl rfl (.ldRA tab_ok rfl rfl (hp.rds.ent (Ent.drop (Ent.drop (Ent.drop (Ent.drop Ent.refl))))) (pat_at l i hlt) rfl) rfl ?_ | refine VQ.pure rfl rfl (.ldRA tab_ok rfl rfl (hp.rds.ent (Ent.drop (Ent.drop (Ent.drop (Ent.drop Ent.refl))))) (pat_at l i hlt) rfl) rfl ?_ | refine VD.end rfl rfl rfl (OpV.pure (.ldRA tab_ok rfl rfl (hp.rds.ent (Ent.drop (Ent.drop (Ent.drop (Ent.drop Ent.refl))))) (pat_at l i hlt) rfl) rfl ?_))
    ((first | refine VO.step rfl rfl ?_ | refine VD.end rfl rfl rfl ?_ | refine VD.mid rfl rfl rfl ?_); refine OpV.allocS sb_78 rfl ?_; intro n9)
    (refine w ?_; repeat ((first | refine VO.step rfl rfl ?_ | refine VD.end rfl rfl rfl ?_ | refine VD.mid rfl rfl rfl ?_); refine OpV.box rfl rfl rfl ?_; intro _; refine w ?_))
    (first | refine VO.step rfl rfl ?_ | refine VD.end rfl rfl rfl ?_ | refine VD.mid rfl rfl rfl ?_)
    refine OpV.stA (vs := l[i].cells) tab_ok rfl rfl rfl rfl (pat_one _) (by (repeat first | exact .head | apply Hole.tail)) (by simp) ?_
    refine VO.ent (Reord.ent (L := Row n9 78 l[i].cells :: OwnB hx (headsP e s l.length ((l.map PatE.D).take i) 0) :: RowsO x y :: PilR y :: Row bx 25 [.int .u64 s, .slice (some la) l.length cap] :: R) (by (repeat first | exact .refl | (apply Reord.cons; focus repeat first | exact .head | apply Del.tail) | exact .nil | apply Reord.drop))) ?_
    (refine w ?_; repeat ((first | refine VO.step rfl rfl ?_ | refine VD.end rfl rfl rfl ?_ | refine VD.mid rfl rfl rfl ?_); refine OpV.box rfl rfl rfl ?_; intro _; refine w ?_))
    have hE := resc_ok (R := Row n9 78 l[i].cells :: OwnB hx (headsP e s l.length ((l.map PatE.D).take i) 0) :: RowsO x y :: PilR y :: Row bx 25 [.int .u64 s, .slice (some la) l.length cap] :: R) ((hp.each _ (List.getElem_mem hlt)).ent (Ent.drop (Ent.drop (Ent.drop (Ent.drop (Ent.drop Ent.refl)))))) hcap
    rw [hesc] at hE
    dsimp only at hE
    ((first | refine VO.step rfl rfl ?_ | refine VD.end rfl rfl rfl ?_ | refine VD.mid rfl rfl rfl ?_); refine OpV.call rfl rfl (fun _ _ => by simp) (hE) Ent.refl rfl ?_)
    rintro ⟨ba, bc⟩ -
    refine VO.know (p := ba = none → (escM l[i].d.data).length = 0) (fun w hw => hw.ownNone (.head _)) ?_
    intro hbn
    (refine w ?_; repeat ((first | refine VO.step rfl rfl ?_ | refine VD.end rfl rfl rfl ?_ | refine VD.mid rfl rfl rfl ?_); refine OpV.box rfl rfl rfl ?_; intro _; refine w ?_))
    ((first | refine VO.step rfl rfl ?_ | refine VD.end rfl rfl rfl ?_ | refine VD.mid rfl rfl rfl ?_); refine OpV.call rfl rfl (fun _ _ => by simp) (rsum_ok (Rds.own (bytes_one _) (.head _) (by simp) hbn) (by omega)) Ent.refl rfl ?_)
    intro _ _
    (refine w ?_; repeat ((first | refine VO.step rfl rfl ?_ | refine VD.end rfl rfl rfl ?_ | refine VD.mid rfl rfl rfl ?_); refine OpV.box rfl rfl rfl ?_; intro _; refine w ?_))
    have hfh : (hdrP e s l.length i l[i].D).fit := ⟨he, hs, by simp only [hdrP]; omega, by simp only [hdrP]; omega, hfi.member, hfi.row, (crcS (escM l[i].d.data)).isLt⟩
    ((first | apply VO.pure rfl rfl | apply VD.take rfl rfl rfl | (refine VD.end rfl rfl rfl ?_; apply OpV.pure)); apply PureAt.build sb_90 rfl; (simp [buildX, setL, Value.cells]; rfl); rfl)
    (refine w ?_; repeat ((first | refine VO.step rfl rfl ?_ | refine VD.end rfl rfl rfl ?_ | refine VD.mid rfl rfl rfl ?_); refine OpV.box rfl rfl rfl ?_; intro _; refine w ?_))
    have hE2 := rench_ok (W := W) (R := OwnB (ba, bc) (escM l[i].d.data) :: Row n9 78 l[i].cells :: OwnB hx (headsP e s l.length ((l.map PatE.D).take i) 0) :: RowsO x y :: PilR y :: Row bx 25 [.int .u64 s, .slice (some la) l.length cap] :: R) (hdrP e s l.length i l[i].D) hfh
    rw [henc] at hE2
    ((first | refine VO.step rfl rfl ?_ | refine VD.end rfl rfl rfl ?_ | refine VD.mid rfl rfl rfl ?_); refine OpV.call rfl rfl (fun _ _ => by simp) (hE2) Ent.refl rfl ?_)
    rintro ⟨ha, hc⟩ -
    refine VO.know (p := ha = none → (headP e s l.length i l[i].D).length = 0) (fun w hw => hw.ownNone (.head _)) ?_
    intro hhn
    have hlen2 : (headP e s l.length i l[i].D).length = 128 := by
      show (hdrP e s l.length i l[i].D).enc.2.length = _
      rw [hdr_ok hgood, sectF_length _ _ _ _ (hdr_sum _)]
    (refine w ?_; repeat ((first | refine VO.step rfl rfl ?_ | refine VD.end rfl rfl rfl ?_ | refine VD.mid rfl rfl rfl ?_); refine OpV.box rfl rfl rfl ?_; intro _; refine w ?_))
    refine VO.ent (Reord.ent (L := OwnB hx (headsP e s l.length ((l.map PatE.D).take i) 0) :: OwnB (ha, hc) (headP e s l.length i l[i].D) :: OwnB (ba, bc) (escM l[i].d.data) :: RowsO x y :: PilR y :: Row bx 25 [.int .u64 s, .slice (some la) l.length cap] :: R) (by (repeat first | exact .refl | (apply Reord.cons; focus repeat first | exact .head | apply Del.tail) | exact .nil | apply Reord.drop))) ?_
    (first | refine VO.step rfl rfl ?_ | refine VD.end rfl rfl rfl ?_ | refine VD.mid rfl rfl rfl ?_)
    refine OpV.append (m := (headP e s l.length i l[i].D).length) (news := bytes (headP e s l.length i l[i].D)) st_55 rfl rfl (by (repeat first | exact .head | apply Hole.tail)) (fun w hw => (show Sees w 1 (.slice ha (headP e s l.length i l[i].D).length hc) (headP e s l.length i l[i].D).length (bytes (headP e s l.length i l[i].D)) from Sees.own (e := 5) (bytes_one _) hw (by (focus repeat first | exact .head _ | apply List.Mem.tail))).src st_55.und) (by simp only [maxLen]; omega) (by omega) rfl ?_
    intro so9 sc9
    (refine w ?_; repeat ((first | refine VO.step rfl rfl ?_ | refine VD.end rfl rfl rfl ?_ | refine VD.mid rfl rfl rfl ?_); refine OpV.box rfl rfl rfl ?_; intro _; refine w ?_))
    have hyl : y.length = 2 * i := by
      have := congrArg List.length hy
      rw [List.length_map, pairsP_length, List.length_take, Nat.min_eq_left (by omega)] at this
      exact this
    ((first | refine VO.step rfl rfl ?_ | refine VD.end rfl rfl rfl ?_ | refine VD.mid rfl rfl rfl ?_); refine OpV.buildSlice1 st_28 rfl rfl (by first | (simp; done) | simp [Value.oneCell']) (by decide) rfl ?_; intro nb)
    ((first | refine VO.step rfl rfl ?_ | refine VD.end rfl rfl rfl ?_ | refine VD.mid rfl rfl rfl ?_); refine OpV.appendRow st_28 rfl rfl (by (repeat first | exact .head | apply Hole.tail)) (by (focus repeat first | exact .head _ | apply List.Mem.tail)) rfl (by first | (simp; done) | simp [Value.oneCell']) ?_ ?_ rfl ?_)
    · simp only [maxLen]; omega
    · omega
    intro so sc
    (refine w ?_; repeat ((first | refine VO.step rfl rfl ?_ | refine VD.end rfl rfl rfl ?_ | refine VD.mid rfl rfl rfl ?_); refine OpV.box rfl rfl rfl ?_; intro _; refine w ?_))
    have hst := headsP_step (e := e) (s := s) (n := l.length) hDi
    have hsp := pairsP_step (e := e) (s := s) (n := l.length) hDi
    rw [hDg] at hst hsp
    refine VE.round (i + 1, y ++ [⟨ha, hc, headP e s l.length i l[i].D⟩, ⟨ba, bc, escM l[i].d.data⟩], (so, sc), (so9, sc9)) ⟨by simp only; omega, by simp only; rw [List.map_append, hy, hsp]; rfl⟩ (by simp only; omega) ⟨rfl, rfl, rfl, asV rfl (by simp), asV rfl (by rw [hst, List.length_append]), asV rfl (by congr 1), trivial⟩ ?_
    dsimp only
    rw [rowsO_two, hst, show OwnB (so9, sc9) (headsP e s l.length ((l.map PatE.D).take i) 0 ++ headP e s l.length i l[i].D) = Sl.Own 5 1 (.slice so9 ((headsP e s l.length ((l.map PatE.D).take i) 0).length + (headP e s l.length i l[i].D).length) sc9) ((headsP e s l.length ((l.map PatE.D).take i) 0).length + (headP e s l.length i l[i].D).length) (bytes (headsP e s l.length ((l.map PatE.D).take i) 0) ++ bytes (headP e s l.length i l[i].D)) by
      show Sl.Own _ _ (.slice so9 (_ ++ _ : List UInt8).length sc9) (_ ++ _ : List UInt8).length (bytes (_ ++ _)) = _
      rw [List.length_append]; unfold bytes; rw [List.map_append]]
    refine Ent.trans (Ent.re (L := OwnB (ha, hc) (headP e s l.length i l[i].D) :: PilR y :: OwnB (ba, bc) (escM l[i].d.data) :: Sl.Own 5 1 (.slice so9 ((headsP e s l.length ((l.map PatE.D).take i) 0).length + (headP e s l.length i l[i].D).length) sc9) ((headsP e s l.length ((l.map PatE.D).take i) 0).length + (headP e s l.length i l[i].D).length) (bytes (headsP e s l.length ((l.map PatE.D).take i) 0) ++ bytes (headP e s l.length i l[i].D)) :: Sl.Own 55 1 (.slice so (y.length + 2) sc) (y.length + 2) (y.map RowE.hdr ++ [RowE.hdr ⟨ha, hc, headP e s l.length i l[i].D⟩, RowE.hdr ⟨ba, bc, escM l[i].d.data⟩]) :: Row bx 25 [.int .u64 s, .slice (some la) l.length cap] :: R)) ?_
    refine Ent.trans (pile_two ⟨ha, hc, headP e s l.length i l[i].D⟩ ⟨ba, bc, escM l[i].d.data⟩) ?_
    exact Ent.re
  have hend : i = l.length := by have := of_decide_eq_false hc; omega
  subst hend
  clear hc
  have hDt : (l.map PatE.D).take l.length = l.map PatE.D := by rw [← hll, List.take_length]
  rw [hDt] at hy hhl ⊢
  have hyl : y.length = 2 * l.length := by
    have := congrArg List.length hy
    rw [List.length_map, pairsP_length, hll] at this
    exact this
  have hC : cmtP e s (l.map PatE.D) = ⟨e, s, l.length, (crcS (headsP e s l.length (l.map PatE.D) 0)).toNat⟩ := by unfold cmtP; rw [hll]
  have hrows : rowsP e s (l.map PatE.D) = pairsP e s l.length (l.map PatE.D) 0 ++ [(cmtP e s (l.map PatE.D)).enc.2] := by unfold rowsP; rw [hll]
  have hcg : (cmtP e s (l.map PatE.D)).good := ⟨hF.cnt, by simp only [cmtP]; omega⟩
  have hce : (cmtP e s (l.map PatE.D)).enc.1 = 0 := by rw [cmt_ok hcg]
  have hcf : (cmtP e s (l.map PatE.D)).fit := ⟨he, hs, by simp only [cmtP]; omega, (crcS _).isLt⟩
  refine VC.know (p := hx.1 = none → (headsP e s l.length (l.map PatE.D) 0).length = 0) (fun w hw => hw.ownNone (.head _)) ?_
  intro hxn
  (refine w ?_; repeat ((first | refine VO.step rfl rfl ?_ | refine VD.end rfl rfl rfl ?_ | refine VD.mid rfl rfl rfl ?_); refine OpV.box rfl rfl rfl ?_; intro _; refine w ?_))
  ((first | refine VO.step rfl rfl ?_ | refine VD.end rfl rfl rfl ?_ | refine VD.mid rfl rfl rfl ?_); refine OpV.call rfl rfl (fun _ _ => by simp) (rsum_ok (Rds.own (bytes_one _) (.head _) (by simp) hxn) (by omega)) Ent.refl rfl ?_)
  intro _ _
  (refine w ?_; repeat ((first | refine VO.step rfl rfl ?_ | refine VD.end rfl rfl rfl ?_ | refine VD.mid rfl rfl rfl ?_); refine OpV.box rfl rfl rfl ?_; intro _; refine w ?_))
  ((first | apply VO.pure rfl rfl | apply VD.take rfl rfl rfl | (refine VD.end rfl rfl rfl ?_; apply OpV.pure)); apply PureAt.build sb_95 rfl; (simp [buildX, setL, Value.cells]; rfl); rfl)
  (refine w ?_; repeat ((first | refine VO.step rfl rfl ?_ | refine VD.end rfl rfl rfl ?_ | refine VD.mid rfl rfl rfl ?_); refine OpV.box rfl rfl rfl ?_; intro _; refine w ?_))
  have hE3 := rencc_ok (W := W) (R := OwnB hx (headsP e s l.length (l.map PatE.D) 0) :: RowsO x y :: PilR y :: Row bx 25 [.int .u64 s, .slice (some la) l.length cap] :: R) (cmtP e s (l.map PatE.D)) hcf
  rw [hce, show (cmtP e s (l.map PatE.D)).cells = [.int .u64 e, .int .u64 s, .int .i64 l.length, .int .u32 ((crcS (headsP e s l.length (l.map PatE.D) 0)).toNat : Int)] by rw [hC]] at hE3
  ((first | refine VO.step rfl rfl ?_ | refine VD.end rfl rfl rfl ?_ | refine VD.mid rfl rfl rfl ?_); refine OpV.call rfl rfl (fun _ _ => by simp) (hE3) Ent.refl rfl ?_)
  rintro ⟨ca, cc⟩ -
  (refine w ?_; repeat ((first | refine VO.step rfl rfl ?_ | refine VD.end rfl rfl rfl ?_ | refine VD.mid rfl rfl rfl ?_); refine OpV.box rfl rfl rfl ?_; intro _; refine w ?_))
  ((first | refine VO.step rfl rfl ?_ | refine VD.end rfl rfl rfl ?_ | refine VD.mid rfl rfl rfl ?_); refine OpV.buildSlice1 st_28 rfl rfl (by first | (simp; done) | simp [Value.oneCell']) (by decide) rfl ?_; intro nb)
  ((first | refine VO.step rfl rfl ?_ | refine VD.end rfl rfl rfl ?_ | refine VD.mid rfl rfl rfl ?_); refine OpV.appendRow st_28 rfl rfl (by (repeat first | exact .head | apply Hole.tail)) (by (focus repeat first | exact .head _ | apply List.Mem.tail)) rfl (by first | (simp; done) | simp [Value.oneCell']) ?_ ?_ rfl ?_)
  · simp only [maxLen]; omega
  · omega
  intro so sc
  (refine w ?_; repeat ((first | refine VO.step rfl rfl ?_ | refine VD.end rfl rfl rfl ?_ | refine VD.mid rfl rfl rfl ?_); refine OpV.box rfl rfl rfl ?_; intro _; refine w ?_))
  refine VE.done ((so, sc), y ++ [⟨ca, cc, (cmtP e s (l.map PatE.D)).enc.2⟩]) rfl ?_ (by simp) ?_
  · simp only
    rw [List.map_append, hy, hrows]; rfl
  dsimp only
  rw [rowsO_one]
  refine Ent.trans (Ent.re (L := OwnB (ca, cc) (cmtP e s (l.map PatE.D)).enc.2 :: PilR y :: Sl.Own 55 1 (.slice so (y.length + 1) sc) (y.length + 1) (y.map RowE.hdr ++ [RowE.hdr ⟨ca, cc, (cmtP e s (l.map PatE.D)).enc.2⟩]) :: R)) ?_
  refine Ent.trans (fun w hw => pile_push (res := RowE.res) (a := (⟨ca, cc, (cmtP e s (l.map PatE.D)).enc.2⟩ : RowE)) hw) ?_
  exact Ent.re
end Go.Proofs.Ytlojjlbngnaphaa
