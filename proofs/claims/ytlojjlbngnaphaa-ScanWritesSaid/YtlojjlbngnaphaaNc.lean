/- Scan: Sectors. -/
import Derived.Test.YtlojjlbngnaphaaNb
set_option maxRecDepth 8000
set_option linter.unusedVariables false
set_option linter.unusedSimpArgs false
set_option linter.unusedSectionVars false
namespace Go.Proofs.Ytlojjlbngnaphaa
open Go.RowKit Go.Sl
attribute [local irreducible] Own

theorem errP_step {l : List PatE} {i : Nat} (h : i < l.length) : errP l (i + 1) = if l[i].D.far then 3 else if errP l i = 0 ∧ l[i].d.data.length ≠ 128 then 4 else errP l i := by
  show (match l[i]? with | none => errP l i | some p => if p.D.far then 3 else if errP l i = 0 ∧ p.d.data.length ≠ 128 then 4 else errP l i) = _
  rw [List.getElem?_eq_getElem h]
theorem errP_far {l : List PatE} {i : Nat} (h : i < l.length) (hf : l[i].D.far) : errP l (i + 1) = 3 := by rw [errP_step h, if_pos hf]
theorem errP_long {l : List PatE} {i : Nat} (h : i < l.length) (hf : ¬ l[i].D.far) (he : errP l i = 0) (hn : l[i].d.data.length ≠ 128) : errP l (i + 1) = 4 := by rw [errP_step h, if_neg hf, if_pos ⟨he, hn⟩]
theorem errP_same {l : List PatE} {i : Nat} (h : i < l.length) (hf : ¬ l[i].D.far) (he : ¬ (errP l i = 0 ∧ l[i].d.data.length ≠ 128)) : errP l (i + 1) = errP l i := by rw [errP_step h, if_neg hf, if_neg he]

theorem headsP_step {e s n i : Nat} {D : List PatD} (h : i < D.length) : headsP e s n (D.take (i + 1)) 0 = headsP e s n (D.take i) 0 ++ headP e s n i D[i] := by
  rw [List.take_succ_eq_append_getElem h, headsP_append, List.length_take, Nat.min_eq_left (by omega), Nat.zero_add]
  simp [headsP]
theorem pairsP_step {e s n i : Nat} {D : List PatD} (h : i < D.length) : pairsP e s n (D.take (i + 1)) 0 = pairsP e s n (D.take i) 0 ++ [headP e s n i D[i], escM D[i].data] := by
  rw [List.take_succ_eq_append_getElem h, pairsP_append, List.length_take, Nat.min_eq_left (by omega), Nat.zero_add]
  simp [pairsP]
/-- Two rows more. -/
theorem pile_two {W : World} {R : List SProp} {y : List RowE} (a b : RowE) : Ent W (a.res :: PilR y :: b.res :: R) (PilR (y ++ [a, b]) :: R) := fun w hw => by
  have h1 := pile_push (res := RowE.res) hw
  have h2 := pile_push (res := RowE.res) h1.swap
  rw [List.append_assoc] at h2
  exact h2
theorem rowsO_two {y : List RowE} (a b : RowE) (so : Option Addr) (sc : Nat) : RowsO (so, sc) (y ++ [a, b]) = Sl.Own 55 1 (.slice so (y.length + 2) sc) (y.length + 2) (y.map RowE.hdr ++ [a.hdr, b.hdr]) := by
  show Sl.Own 55 1 (.slice so (y ++ [a, b]).length sc) (y ++ [a, b]).length ((y ++ [a, b]).map RowE.hdr) = _
  rw [List.length_append, List.map_append]; rfl
theorem rowsO_one {y : List RowE} (a : RowE) (so : Option Addr) (sc : Nat) : RowsO (so, sc) (y ++ [a]) = Sl.Own 55 1 (.slice so (y.length + 1) sc) (y.length + 1) (y.map RowE.hdr ++ [a.hdr]) := by
  show Sl.Own 55 1 (.slice so (y ++ [a]).length sc) (y ++ [a]).length ((y ++ [a]).map RowE.hdr) = _
  rw [List.length_append, List.map_append]; rfl

set_option maxHeartbeats 1000000 in
theorem sectors_ok {W : World} {R : List SProp} {ao : Option Addr} {cap : Nat} {l : List PatE} (e s : Nat) (he : e < 2 ^ 64) (hs : s < 2 ^ 64) (hp : RdPats W R ao l) (hfit : ∀ p ∈ l, p.fit) (hlen : l.length ≤ 140737488351232) :
    Does W Try.prog 12 [.int .u64 e, .agg #[.int .u64 s, .slice ao l.length cap]] R (β := (Option Addr × Nat) × List RowE) (fun y => y.2.map RowE.data = (secsM e s (l.map PatE.D)).2) (fun y => .tuple #[.slice y.1.1 y.2.length y.1.2, .int .u16 (secsM e s (l.map PatE.D)).1]) (fun y => RowsO y.1 y.2 :: PilR y.2 :: R) := by
  have hll : (l.map PatE.D).length = l.length := List.length_map ..
  (refine Does.enter Try.func12 Try.ntmps12 rfl rfl ?_)
  (refine w ?_; repeat ((first | refine VO.step rfl rfl ?_ | refine VD.end rfl rfl rfl ?_ | refine VD.mid rfl rfl rfl ?_); refine OpV.box rfl rfl rfl ?_; intro _; refine w ?_))
  rename_i bx
  have hnil : ∀ k : Int, secsM e s (l.map PatE.D) = (k, []) → Ent W (Row bx 25 [.int .u64 s, .slice ao l.length cap] :: R) (RowsO (none, 0) [] :: PilR [] :: R) := fun _ _ =>
    Ent.trans (Ent.re (L := R)) (fun w hw => (pile_nil (res := RowE.res) hw).ownNil _ _)
  ((first | refine VO.split rfl rfl rfl ?_ ?_ | refine VD.split rfl rfl rfl ?_ ?_) <;> intro hb)
  · have h1 : l.length < 1 := by have := hb; simp at this; omega
    have hz : secsM e s (l.map PatE.D) = (1, []) := by unfold secsM; rw [if_pos (.inl (by rw [hll]; exact h1))]
    (refine w ?_; repeat ((first | refine VO.step rfl rfl ?_ | refine VD.end rfl rfl rfl ?_ | refine VD.mid rfl rfl rfl ?_); refine OpV.box rfl rfl rfl ?_; intro _; refine w ?_))
    refine VE.done ((none, 0), []) rfl (by rw [hz]; rfl) (by rw [hz]; rfl) (hnil _ hz)
  have hn1 : 1 ≤ l.length := by have := hb; simp at this; omega
  (refine w ?_; repeat ((first | refine VO.step rfl rfl ?_ | refine VD.end rfl rfl rfl ?_ | refine VD.mid rfl rfl rfl ?_); refine OpV.box rfl rfl rfl ?_; intro _; refine w ?_))
  (refine VC.cond rfl rfl ?_ ?_ <;> intro hc)
  · have h2 : 1023 < l.length := by have := hc; simp at this; omega
    have hz : secsM e s (l.map PatE.D) = (1, []) := by unfold secsM; rw [if_pos (.inr (by rw [hll]; exact h2))]
    (refine w ?_; repeat ((first | refine VO.step rfl rfl ?_ | refine VD.end rfl rfl rfl ?_ | refine VD.mid rfl rfl rfl ?_); refine OpV.box rfl rfl rfl ?_; intro _; refine w ?_))
    refine VE.done ((none, 0), []) rfl (by rw [hz]; rfl) (by rw [hz]; rfl) (hnil _ hz)
  have hn2 : l.length ≤ 1023 := by have := hc; simp at this; omega
  obtain ⟨la, rfl⟩ : ∃ a, ao = some a := by cases ao with | none => have := hp.rds.nil rfl; omega | some a => exact ⟨a, rfl⟩
  (refine w ?_; repeat ((first | refine VO.step rfl rfl ?_ | refine VD.end rfl rfl rfl ?_ | refine VD.mid rfl rfl rfl ?_); refine OpV.box rfl rfl rfl ?_; intro _; refine w ?_))
  refine VC.loop (α := Nat) (fun i => i ≤ l.length) (fun i => Row bx 25 [.int .u64 s, .slice (some la) l.length cap] :: R)
    (fun i => [(0, .int .u64 e), (3, .pointer (some ⟨bx, 0, none⟩)), (6, .int .i64 l.length), (7, .int .u16 (errP l i)), (30, .slice (some la) l.length cap), (31, .int .i64 l.length), (32, .int .i64 i)]) (fun i => l.length - i) rfl 0 (Nat.zero_le _) Ent.re ⟨rfl, rfl, rfl, rfl, rfl, rfl, rfl, trivial⟩ ?_
  intro i hi
  (refine w ?_; repeat ((first | refine VO.step rfl rfl ?_ | refine VD.end rfl rfl rfl ?_ | refine VD.mid rfl rfl rfl ?_); refine OpV.box rfl rfl rfl ?_; intro _; refine w ?_))
  (refine VC.cond rfl rfl ?_ ?_ <;> intro hc)
  · have hlt : i < l.length := by have := of_decide_eq_true hc; omega
    have hfi := hfit _ (List.getElem_mem hlt)
    have hm := hfi.member
    have hr := hfi.row
    have hlen' := hfi.len
    (refine w ?_; repeat ((first | refine VO.step rfl rfl ?_ | refine VD.end rfl rfl rfl ?_ | refine VD.mid rfl rfl rfl ?_); refine OpV.box rfl rfl rfl ?_; intro _; refine w ?_))
    (first | refine VO.pure rfl rfl (.ldRA tab_ok rfl rfl (hp.rds.ent Ent.re) (pat_at l i hlt) rfl) rfl ?_ | refine VD.take rfl rfl rfl (.ldRA tab_ok rfl rfl (hp.rds.ent Ent.re) (pat_at l i hlt) rfl) rfl ?_ | refine VQ.pure rfl rfl (.ldRA tab_ok rfl rfl (hp.rds.ent Ent.re) (pat_at l i hlt) rfl) rfl ?_ | refine VD.end rfl rfl rfl (OpV.pure (.ldRA tab_ok rfl rfl (hp.rds.ent Ent.re) (pat_at l i hlt) rfl) rfl ?_))
    ((first | refine VO.step rfl rfl ?_ | refine VD.end rfl rfl rfl ?_ | refine VD.mid rfl rfl rfl ?_); refine OpV.allocS sb_78 rfl ?_; intro n9)
    (refine w ?_; repeat ((first | refine VO.step rfl rfl ?_ | refine VD.end rfl rfl rfl ?_ | refine VD.mid rfl rfl rfl ?_); refine OpV.box rfl rfl rfl ?_; intro _; refine w ?_))
    (first | refine VO.step rfl rfl ?_ | refine VD.end rfl rfl rfl ?_ | refine VD.mid rfl rfl rfl ?_)
    refine OpV.stA (vs := l[i].cells) tab_ok rfl rfl rfl rfl (pat_one _) (by (repeat first | exact .head | apply Hole.tail)) (by simp) ?_
    refine VO.ent (Reord.ent (L := Row n9 78 l[i].cells :: Row bx 25 [.int .u64 s, .slice (some la) l.length cap] :: R) (by (repeat first | exact .refl | (apply Reord.cons; focus repeat first | exact .head | apply Del.tail) | exact .nil | apply Reord.drop))) ?_
    refine VO.nil rfl ?_
    refine VE.next ?_
    refine VC.joinB (α := Unit) (fun _ => True) (fun _ => Row n9 78 l[i].cells :: Row bx 25 [.int .u64 s, .slice (some la) l.length cap] :: R) (fun _ => [(0, .int .u64 e), (3, .pointer (some ⟨bx, 0, none⟩)), (6, .int .i64 l.length), (7, .int .u16 (errP l (i + 1))), (30, .slice (some la) l.length cap), (31, .int .i64 l.length), (32, .int .i64 i)]) ?_ (fun _ _ => ?_)
    · intro Q2 jn
      (refine w ?_; repeat ((first | refine VO.step rfl rfl ?_ | refine VD.end rfl rfl rfl ?_ | refine VD.mid rfl rfl rfl ?_); refine OpV.box rfl rfl rfl ?_; intro _; refine w ?_))
      iterate 3
        ((first | refine VO.split rfl rfl rfl ?_ ?_ | refine VD.split rfl rfl rfl ?_ ?_) <;> intro hb)
        · have hf : l[i].D.far := by have := hb; simp at this; unfold PatD.far PatE.D; dsimp only; omega
          (refine w ?_; repeat ((first | refine VO.step rfl rfl ?_ | refine VD.end rfl rfl rfl ?_ | refine VD.mid rfl rfl rfl ?_); refine OpV.box rfl rfl rfl ?_; intro _; refine w ?_))
          exact jn.to () trivial ⟨rfl, rfl, rfl, asV rfl (by rw [errP_far hlt hf]), rfl, rfl, rfl, trivial⟩ Ent.re
        (refine w ?_; repeat ((first | refine VO.step rfl rfl ?_ | refine VD.end rfl rfl rfl ?_ | refine VD.mid rfl rfl rfl ?_); refine OpV.box rfl rfl rfl ?_; intro _; refine w ?_))
      (refine VC.cond rfl rfl ?_ ?_ <;> intro hc)
      · have hf : l[i].D.far := by have := hc; simp at this; unfold PatD.far PatE.D; dsimp only; omega
        (refine w ?_; repeat ((first | refine VO.step rfl rfl ?_ | refine VD.end rfl rfl rfl ?_ | refine VD.mid rfl rfl rfl ?_); refine OpV.box rfl rfl rfl ?_; intro _; refine w ?_))
        exact jn.to () trivial ⟨rfl, rfl, rfl, asV rfl (by rw [errP_far hlt hf]), rfl, rfl, rfl, trivial⟩ Ent.re
      have hf : ¬ l[i].D.far := by simp at *; unfold PatD.far PatE.D; dsimp only; omega
      (refine w ?_; repeat ((first | refine VO.step rfl rfl ?_ | refine VD.end rfl rfl rfl ?_ | refine VD.mid rfl rfl rfl ?_); refine OpV.box rfl rfl rfl ?_; intro _; refine w ?_))
      ((first | refine VO.split rfl rfl rfl ?_ ?_ | refine VD.split rfl rfl rfl ?_ ?_) <;> intro hb)
      · have h0 : errP l i = 0 := by simpa using hb
        (refine w ?_; repeat ((first | refine VO.step rfl rfl ?_ | refine VD.end rfl rfl rfl ?_ | refine VD.mid rfl rfl rfl ?_); refine OpV.box rfl rfl rfl ?_; intro _; refine w ?_))
        (refine VC.cond rfl rfl ?_ ?_ <;> intro hc)
        · have hn : l[i].d.data.length ≠ 128 := by have := hc; simp at this; omega
          (refine w ?_; repeat ((first | refine VO.step rfl rfl ?_ | refine VD.end rfl rfl rfl ?_ | refine VD.mid rfl rfl rfl ?_); refine OpV.box rfl rfl rfl ?_; intro _; refine w ?_))
          exact jn.to () trivial ⟨rfl, rfl, rfl, asV rfl (by rw [errP_long hlt hf h0 hn]), rfl, rfl, rfl, trivial⟩ Ent.re
        · have hn : ¬ (errP l i = 0 ∧ l[i].d.data.length ≠ 128) := by have := hc; simp at this; omega
          (refine w ?_; repeat ((first | refine VO.step rfl rfl ?_ | refine VD.end rfl rfl rfl ?_ | refine VD.mid rfl rfl rfl ?_); refine OpV.box rfl rfl rfl ?_; intro _; refine w ?_))
          exact jn.to () trivial ⟨rfl, rfl, rfl, asV rfl (by rw [errP_same hlt hf hn]), rfl, rfl, rfl, trivial⟩ Ent.re
      · have hn : ¬ (errP l i = 0 ∧ l[i].d.data.length ≠ 128) := by have := hb; simp at this; exact fun q => this q.1
        (refine w ?_; repeat ((first | refine VO.step rfl rfl ?_ | refine VD.end rfl rfl rfl ?_ | refine VD.mid rfl rfl rfl ?_); refine OpV.box rfl rfl rfl ?_; intro _; refine w ?_))
        exact jn.to () trivial ⟨rfl, rfl, rfl, asV rfl (by rw [errP_same hlt hf hn]), rfl, rfl, rfl, trivial⟩ Ent.re
    (refine w ?_; repeat ((first | refine VO.step rfl rfl ?_ | refine VD.end rfl rfl rfl ?_ | refine VD.mid rfl rfl rfl ?_); refine OpV.box rfl rfl rfl ?_; intro _; refine w ?_))
    refine VE.round (i + 1) (by omega) (by omega) ⟨rfl, rfl, rfl, rfl, rfl, rfl, asV rfl (by congr 1), trivial⟩ Ent.re
  have hend : i = l.length := by have := of_decide_eq_false hc; omega
  subst hend
  have hall := errP_all (e := e) (s := s) (l := l) ⟨hn1, hn2⟩
  have herr : ∀ k : Int, k ≠ 0 → (secsM e s (l.map PatE.D)).1 = k → secsM e s (l.map PatE.D) = (k, []) := by
    intro k hk h
    unfold secsM at h ⊢
    split at h
    · rename_i h1; rw [if_pos h1]; simp at h; rw [h]
    · rename_i h1
      rw [if_neg h1]
      split at h
      · rename_i h2; rw [if_pos h2]; simp at h; rw [h]
      · rename_i h2
        rw [if_neg h2]
        split at h
        · rename_i h3; rw [if_pos h3]; simp at h; rw [h]
        · exact absurd h.symm hk
  have hbad : ¬ cntOk e s → secsM e s (l.map PatE.D) = (3, []) := fun h => herr 3 (by decide) (by rw [← hall, if_neg h])
  (refine w ?_; repeat ((first | refine VO.step rfl rfl ?_ | refine VD.end rfl rfl rfl ?_ | refine VD.mid rfl rfl rfl ?_); refine OpV.box rfl rfl rfl ?_; intro _; refine w ?_))
  ((first | refine VO.split rfl rfl rfl ?_ ?_ | refine VD.split rfl rfl rfl ?_ ?_) <;> intro hb)
  · have hz := hbad (by have := hb; simp at this; unfold cntOk; omega)
    (refine w ?_; repeat ((first | refine VO.step rfl rfl ?_ | refine VD.end rfl rfl rfl ?_ | refine VD.mid rfl rfl rfl ?_); refine OpV.box rfl rfl rfl ?_; intro _; refine w ?_))
    refine VE.done ((none, 0), []) rfl (by rw [hz]; rfl) (by rw [hz]; rfl) (hnil _ hz)
  (refine w ?_; repeat ((first | refine VO.step rfl rfl ?_ | refine VD.end rfl rfl rfl ?_ | refine VD.mid rfl rfl rfl ?_); refine OpV.box rfl rfl rfl ?_; intro _; refine w ?_))
  ((first | refine VO.split rfl rfl rfl ?_ ?_ | refine VD.split rfl rfl rfl ?_ ?_) <;> intro hb)
  · have hz := hbad (by have := hb; simp at this; unfold cntOk; omega)
    (refine w ?_; repeat ((first | refine VO.step rfl rfl ?_ | refine VD.end rfl rfl rfl ?_ | refine VD.mid rfl rfl rfl ?_); refine OpV.box rfl rfl rfl ?_; intro _; refine w ?_))
    refine VE.done ((none, 0), []) rfl (by rw [hz]; rfl) (by rw [hz]; rfl) (hnil _ hz)
  (refine w ?_; repeat ((first | refine VO.step rfl rfl ?_ | refine VD.end rfl rfl rfl ?_ | refine VD.mid rfl rfl rfl ?_); refine OpV.box rfl rfl rfl ?_; intro _; refine w ?_))
  (refine VC.cond rfl rfl ?_ ?_ <;> intro hc)
  · have hz := hbad (by have := hc; simp at this; unfold cntOk; omega)
    (refine w ?_; repeat ((first | refine VO.step rfl rfl ?_ | refine VD.end rfl rfl rfl ?_ | refine VD.mid rfl rfl rfl ?_); refine OpV.box rfl rfl rfl ?_; intro _; refine w ?_))
    refine VE.done ((none, 0), []) rfl (by rw [hz]; rfl) (by rw [hz]; rfl) (hnil _ hz)
  have hcnt : cntOk e s := by simp at *; unfold cntOk; omega
  rw [if_pos hcnt] at hall
  (refine w ?_; repeat ((first | refine VO.step rfl rfl ?_ | refine VD.end rfl rfl rfl ?_ | refine VD.mid rfl rfl rfl ?_); refine OpV.box rfl rfl rfl ?_; intro _; refine w ?_))
  (refine VC.cond rfl rfl ?_ ?_ <;> intro hc)
  · have hz := herr _ (by have := hc; simpa using this) hall.symm
    (refine w ?_; repeat ((first | refine VO.step rfl rfl ?_ | refine VD.end rfl rfl rfl ?_ | refine VD.mid rfl rfl rfl ?_); refine OpV.box rfl rfl rfl ?_; intro _; refine w ?_))
    refine VE.done ((none, 0), []) rfl (by rw [hz]; rfl) (by rw [hz]; rfl) (hnil _ hz)
  have h0 : (secsM e s (l.map PatE.D)).1 = 0 := by rw [← hall]; have := hc; simpa using this
  (refine w ?_; repeat ((first | refine VO.step rfl rfl ?_ | refine VD.end rfl rfl rfl ?_ | refine VD.mid rfl rfl rfl ?_); refine OpV.box rfl rfl rfl ?_; intro _; refine w ?_))
  have hF : Fine e s (l.map PatE.D) := secs_ok h0
  have hsec := secs_fine hF
  rw [hsec]
  rw [hsec] at h0
  (first | refine VO.step rfl rfl ?_ | refine VD.end rfl rfl rfl ?_ | refine VD.mid rfl rfl rfl ?_)
  refine OpV.makeCap (m := 2 * l.length + 1) st_28 rfl (by rfl) (by omega) (by simp only [maxLen]; omega) rfl ?_
  intro no
  (refine w ?_; repeat ((first | refine VO.step rfl rfl ?_ | refine VD.end rfl rfl rfl ?_ | refine VD.mid rfl rfl rfl ?_); refine OpV.box rfl rfl rfl ?_; intro _; refine w ?_))
  ((first | refine VO.step rfl rfl ?_ | refine VD.end rfl rfl rfl ?_ | refine VD.mid rfl rfl rfl ?_); refine OpV.call rfl rfl (fun _ _ => by simp) (dignew_ok) Ent.refl rfl ?_)
  intro d _
  (refine w ?_; repeat ((first | refine VO.step rfl rfl ?_ | refine VD.end rfl rfl rfl ?_ | refine VD.mid rfl rfl rfl ?_); refine OpV.box rfl rfl rfl ?_; intro _; refine w ?_))
  refine VC.loop (α := Nat × List RowE × (Option Addr × Nat)) (fun y => y.1 ≤ l.length ∧ y.2.1.map RowE.data = pairsP e s l.length ((l.map PatE.D).take y.1) 0) (fun y => DigR d (crcS (headsP e s l.length ((l.map PatE.D).take y.1) 0)) :: RowsO y.2.2 y.2.1 :: PilR y.2.1 :: Row bx 25 [.int .u64 s, .slice (some la) l.length cap] :: R)
    (fun y => [(0, .int .u64 e), (3, .pointer (some ⟨bx, 0, none⟩)), (6, .int .i64 l.length), (10, .slice y.2.2.1 y.2.1.length y.2.2.2), (11, .pointer (some ⟨d, 0, none⟩)), (84, .slice (some la) l.length cap), (85, .int .i64 l.length), (86, .int .i64 y.1)]) (fun y => l.length - y.1) rfl (0, [], (some ⟨no, 0, none⟩, 2 * l.length + 1)) ⟨Nat.zero_le _, rfl⟩ ?_ ⟨rfl, rfl, rfl, rfl, rfl, rfl, rfl, rfl, trivial⟩ ?_
  · dsimp only
    rw [List.take_zero, show crcS (headsP e s l.length [] 0) = 0#32 from crcM_nil _]
    exact Ent.trans (fun w hw => pile_nil (res := RowE.res) hw) Ent.re
  rintro ⟨i, y, x⟩ ⟨hi, hy⟩
  dsimp only at hi hy ⊢
  (refine w ?_; repeat ((first | refine VO.step rfl rfl ?_ | refine VD.end rfl rfl rfl ?_ | refine VD.mid rfl rfl rfl ?_); refine OpV.box rfl rfl rfl ?_; intro _; refine w ?_))
  (refine VC.cond rfl rfl ?_ ?_ <;> intro hc)
  · have hlt : i < l.length := by have := of_decide_eq_true hc; omega
    (refine w ?_; repeat ((first | refine VO.step rfl rfl ?_ | refine VD.end rfl rfl rfl ?_ | refine VD.mid rfl rfl rfl ?_); refine OpV.box rfl rfl rfl ?_; intro _; refine w ?_))
    have hfi := hfit _ (List.getElem_mem hlt)
    have hDi : i < (l.map PatE.D).length := by rw [hll]; exact hlt
    have hDg : (l.map PatE.D)[i] = l[i].D := List.getElem_map ..
    have hpf := hF.pat _ (List.getElem_mem hDi)
    rw [hDg] at hpf
    have h128 : l[i].d.data.length = 128 := hpf.2.2
    have hesc : escD l[i].d.data = ⟨escM l[i].d.data, isEsc l[i].d.data, 0⟩ := if_pos h128
    have hel : (escM l[i].d.data).length = 128 := escN_length h128
    have hgood := hdrP_good hF hDi
    rw [hDg, hll] at hgood
    have henc : (hdrP e s l.length i l[i].D).enc.1 = 0 := by rw [hdr_ok hgood]
    have hcap := (hp.ok _ (List.getElem_mem hlt)).cap
    (first | refine VO.pure rfl rfl (.ldRA tab_ok rfl rfl (hp.rds.ent (Ent.drop (Ent.drop (Ent.drop (Ent.drop Ent.refl))))) (pat_at l i hlt) rfl) rfl ?_ | refine VD.take rfl rfl rfl (.ldRA tab_ok rfl rfl (hp.rds.ent (Ent.drop (Ent.drop (Ent.drop (Ent.drop Ent.refl))))) (pat_at l i hlt) rfl) rfl ?_ | refine VQ.pure rfl rfl (.ldRA tab_ok rfl rfl (hp.rds.ent (Ent.drop (Ent.drop (Ent.drop (Ent.drop Ent.refl))))) (pat_at l i hlt) rfl) rfl ?_ | refine VD.end rfl rfl rfl (OpV.pure (.ldRA tab_ok rfl rfl (hp.rds.ent (Ent.drop (Ent.drop (Ent.drop (Ent.drop Ent.refl))))) (pat_at l i hlt) rfl) rfl ?_))
    ((first | refine VO.step rfl rfl ?_ | refine VD.end rfl rfl rfl ?_ | refine VD.mid rfl rfl rfl ?_); refine OpV.allocS sb_78 rfl ?_; intro n9)
    (refine w ?_; repeat ((first | refine VO.step rfl rfl ?_ | refine VD.end rfl rfl rfl ?_ | refine VD.mid rfl rfl rfl ?_); refine OpV.box rfl rfl rfl ?_; intro _; refine w ?_))
    (first | refine VO.step rfl rfl ?_ | refine VD.end rfl rfl rfl ?_ | refine VD.mid rfl rfl rfl ?_)
    refine OpV.stA (vs := l[i].cells) tab_ok rfl rfl rfl rfl (pat_one _) (by (repeat first | exact .head | apply Hole.tail)) (by simp) ?_
    refine VO.ent (Reord.ent (L := Row n9 78 l[i].cells :: DigR d (crcS (headsP e s l.length ((l.map PatE.D).take i) 0)) :: RowsO x y :: PilR y :: Row bx 25 [.int .u64 s, .slice (some la) l.length cap] :: R) (by (repeat first | exact .refl | (apply Reord.cons; focus repeat first | exact .head | apply Del.tail) | exact .nil | apply Reord.drop))) ?_
    (refine w ?_; repeat ((first | refine VO.step rfl rfl ?_ | refine VD.end rfl rfl rfl ?_ | refine VD.mid rfl rfl rfl ?_); refine OpV.box rfl rfl rfl ?_; intro _; refine w ?_))
    have hE := esc_ok (R := Row n9 78 l[i].cells :: DigR d (crcS (headsP e s l.length ((l.map PatE.D).take i) 0)) :: RowsO x y :: PilR y :: Row bx 25 [.int .u64 s, .slice (some la) l.length cap] :: R) ((hp.each _ (List.getElem_mem hlt)).ent (Ent.drop (Ent.drop (Ent.drop (Ent.drop (Ent.drop Ent.refl)))))) hcap
    rw [hesc] at hE
    dsimp only at hE
    ((first | refine VO.step rfl rfl ?_ | refine VD.end rfl rfl rfl ?_ | refine VD.mid rfl rfl rfl ?_); refine OpV.call rfl rfl (fun _ _ => by simp) (hE) Ent.refl rfl ?_)
    rintro ⟨ba, bc⟩ -
    refine VO.know (p := ba = none → (escM l[i].d.data).length = 0) (fun w hw => hw.ownNone (.head _)) ?_
    intro hbn
    (refine w ?_; repeat ((first | refine VO.step rfl rfl ?_ | refine VD.end rfl rfl rfl ?_ | refine VD.mid rfl rfl rfl ?_); refine OpV.box rfl rfl rfl ?_; intro _; refine w ?_))
    (refine VC.drawn [11, 13] 18 [0, 1, 2, 3, 4, 5, 6, 7, 8, 9, 10, 11, 12, 13, 14, 15, 16, 17, 18] _ rfl (by kernel_rfl) (by kernel_rfl) Ent.re ?_)
    (refine w ?_; repeat ((first | refine VO.step rfl rfl ?_ | refine VD.end rfl rfl rfl ?_ | refine VD.mid rfl rfl rfl ?_); refine OpV.box rfl rfl rfl ?_; intro _; refine w ?_))
    ((first | refine VO.step rfl rfl ?_ | refine VD.end rfl rfl rfl ?_ | refine VD.mid rfl rfl rfl ?_); refine OpV.call rfl rfl (fun _ _ => by simp) (sum_ok (Rds.own (bytes_one _) (.head _) (by simp) hbn) (by omega)) Ent.refl rfl ?_)
    intro _ _
    refine ⟨Ent.re, ?_⟩
    (refine w ?_; repeat ((first | refine VO.step rfl rfl ?_ | refine VD.end rfl rfl rfl ?_ | refine VD.mid rfl rfl rfl ?_); refine OpV.box rfl rfl rfl ?_; intro _; refine w ?_))
    have hfh : (hdrP e s l.length i l[i].D).fit := ⟨he, hs, by simp only [hdrP]; omega, by simp only [hdrP]; omega, hfi.member, hfi.row, (crcS (escM l[i].d.data)).isLt⟩
    refine VD.re 108 (.bool (isEsc l[i].d.data)) rfl rfl ?_
    ((first | apply VO.pure rfl rfl | apply VD.take rfl rfl rfl | (refine VD.end rfl rfl rfl ?_; apply OpV.pure)); apply PureAt.build sb_90 rfl; (simp [buildX, setL, Value.cells]; rfl); rfl)
    (refine w ?_; repeat ((first | refine VO.step rfl rfl ?_ | refine VD.end rfl rfl rfl ?_ | refine VD.mid rfl rfl rfl ?_); refine OpV.box rfl rfl rfl ?_; intro _; refine w ?_))
    have hE2 := ench_ok (W := W) (R := OwnB (ba, bc) (escM l[i].d.data) :: Row n9 78 l[i].cells :: DigR d (crcS (headsP e s l.length ((l.map PatE.D).take i) 0)) :: RowsO x y :: PilR y :: Row bx 25 [.int .u64 s, .slice (some la) l.length cap] :: R) (hdrP e s l.length i l[i].D) hfh
    rw [henc] at hE2
    ((first | refine VO.step rfl rfl ?_ | refine VD.end rfl rfl rfl ?_ | refine VD.mid rfl rfl rfl ?_); refine OpV.call rfl rfl (fun _ _ => by simp) (hE2) Ent.refl rfl ?_)
    rintro ⟨ha, hc⟩ -
    refine ⟨Ent.re, ?_⟩
    refine VD.know (p := ha = none → (headP e s l.length i l[i].D).length = 0) (fun w hw => hw.ownNone (.head _)) ?_
    intro hhn
    (refine w ?_; repeat ((first | refine VO.step rfl rfl ?_ | refine VD.end rfl rfl rfl ?_ | refine VD.mid rfl rfl rfl ?_); refine OpV.box rfl rfl rfl ?_; intro _; refine w ?_))
    have hlen2 : (headP e s l.length i l[i].D).length ≤ 1099511627776 := by
      show (hdrP e s l.length i l[i].D).enc.2.length ≤ _
      rw [hdr_ok hgood, sectF_length _ _ _ _ (hdr_sum _)]; omega
    refine VO.ent (Reord.ent (L := DigR d (crcS (headsP e s l.length ((l.map PatE.D).take i) 0)) :: OwnB (ha, hc) (headP e s l.length i l[i].D) :: OwnB (ba, bc) (escM l[i].d.data) :: RowsO x y :: PilR y :: Row bx 25 [.int .u64 s, .slice (some la) l.length cap] :: R) (by (repeat first | exact .refl | (apply Reord.cons; focus repeat first | exact .head | apply Del.tail) | exact .nil | apply Reord.drop))) ?_
    ((first | refine VO.step rfl rfl ?_ | refine VD.end rfl rfl rfl ?_ | refine VD.mid rfl rfl rfl ?_); refine OpV.call rfl rfl (fun _ _ => by simp) (digadd_ok d (crcS (headsP e s l.length ((l.map PatE.D).take i) 0)) (Rds.own (bytes_one _) (.head _) (by simp) hhn) hlen2) Ent.refl rfl ?_)
    intro _ _
    (refine w ?_; repeat ((first | refine VO.step rfl rfl ?_ | refine VD.end rfl rfl rfl ?_ | refine VD.mid rfl rfl rfl ?_); refine OpV.box rfl rfl rfl ?_; intro _; refine w ?_))
    have hyl : y.length = 2 * i := by
      have := congrArg List.length hy
      rw [List.length_map, pairsP_length, List.length_take, Nat.min_eq_left (by omega)] at this
      exact this
    ((first | refine VO.step rfl rfl ?_ | refine VD.end rfl rfl rfl ?_ | refine VD.mid rfl rfl rfl ?_); refine OpV.buildSlice1 st_28 rfl rfl (by first | (simp; done) | simp [Value.oneCell']) (by decide) rfl ?_; intro nb)
    ((first | refine VO.step rfl rfl ?_ | refine VD.end rfl rfl rfl ?_ | refine VD.mid rfl rfl rfl ?_); refine OpV.appendRow st_28 rfl rfl (by (repeat first | exact .head | apply Hole.tail)) (by (focus repeat first | exact .head _ | apply List.Mem.tail)) rfl (by first | (simp; done) | simp [Value.oneCell']) ?_ ?_ rfl ?_)
    · simp only [maxLen]; omega
    · omega
    intro so sc
    (refine w ?_; repeat ((first | refine VO.step rfl rfl ?_ | refine VD.end rfl rfl rfl ?_ | refine VD.mid rfl rfl rfl ?_); refine OpV.box rfl rfl rfl ?_; intro _; refine w ?_))
    have hst := headsP_step (e := e) (s := s) (n := l.length) hDi
    have hsp := pairsP_step (e := e) (s := s) (n := l.length) hDi
    rw [hDg] at hst hsp
    refine VE.round (i + 1, y ++ [⟨ha, hc, headP e s l.length i l[i].D⟩, ⟨ba, bc, escM l[i].d.data⟩], (so, sc)) ⟨by simp only; omega, by simp only; rw [List.map_append, hy, hsp]; rfl⟩ (by simp only; omega) ⟨rfl, rfl, rfl, asV rfl (by simp), rfl, rfl, rfl, asV rfl (by congr 1), trivial⟩ ?_
    dsimp only
    rw [rowsO_two, hst]
    refine Ent.trans (Ent.re (L := OwnB (ha, hc) (headP e s l.length i l[i].D) :: PilR y :: OwnB (ba, bc) (escM l[i].d.data) :: DigR d (crcM (crcS (headsP e s l.length ((l.map PatE.D).take i) 0)) (headP e s l.length i l[i].D)) :: Sl.Own 55 1 (.slice so (y.length + 2) sc) (y.length + 2) (y.map RowE.hdr ++ [RowE.hdr ⟨ha, hc, headP e s l.length i l[i].D⟩, RowE.hdr ⟨ba, bc, escM l[i].d.data⟩]) :: Row bx 25 [.int .u64 s, .slice (some la) l.length cap] :: R)) ?_
    refine Ent.trans (pile_two ⟨ha, hc, headP e s l.length i l[i].D⟩ ⟨ba, bc, escM l[i].d.data⟩) ?_
    rw [show crcM (crcS (headsP e s l.length ((l.map PatE.D).take i) 0)) (headP e s l.length i l[i].D) = crcS (headsP e s l.length ((l.map PatE.D).take i) 0 ++ headP e s l.length i l[i].D) from (crcM_append _ _ _).symm]
    exact Ent.re
  have hend : i = l.length := by have := of_decide_eq_false hc; omega
  subst hend
  have hDt : (l.map PatE.D).take l.length = l.map PatE.D := by rw [← hll, List.take_length]
  rw [hDt] at hy ⊢
  have hyl : y.length = 2 * l.length := by
    have := congrArg List.length hy
    rw [List.length_map, pairsP_length, hll] at this
    exact this
  have hC : cmtP e s (l.map PatE.D) = ⟨e, s, l.length, (crcS (headsP e s l.length (l.map PatE.D) 0)).toNat⟩ := by unfold cmtP; rw [hll]
  have hrows : rowsP e s (l.map PatE.D) = pairsP e s l.length (l.map PatE.D) 0 ++ [(cmtP e s (l.map PatE.D)).enc.2] := by unfold rowsP; rw [hll]
  have hcg : (cmtP e s (l.map PatE.D)).good := ⟨hcnt, by simp only [cmtP]; omega⟩
  have hce : (cmtP e s (l.map PatE.D)).enc.1 = 0 := by rw [cmt_ok hcg]
  have hcf : (cmtP e s (l.map PatE.D)).fit := ⟨he, hs, by simp only [cmtP]; omega, (crcS _).isLt⟩
  (refine w ?_; repeat ((first | refine VO.step rfl rfl ?_ | refine VD.end rfl rfl rfl ?_ | refine VD.mid rfl rfl rfl ?_); refine OpV.box rfl rfl rfl ?_; intro _; refine w ?_))
  (refine VC.drawn [5, 7] 12 [0, 1, 2, 3, 4, 5, 6, 7, 8, 9, 10, 11, 12] _ rfl (by kernel_rfl) (by kernel_rfl) Ent.re ?_)
  (refine w ?_; repeat ((first | refine VO.step rfl rfl ?_ | refine VD.end rfl rfl rfl ?_ | refine VD.mid rfl rfl rfl ?_); refine OpV.box rfl rfl rfl ?_; intro _; refine w ?_))
  ((first | refine VO.step rfl rfl ?_ | refine VD.end rfl rfl rfl ?_ | refine VD.mid rfl rfl rfl ?_); refine OpV.call rfl rfl (fun _ _ => by simp) (digsum_ok d _) Ent.refl rfl ?_)
  intro _ _
  refine ⟨Ent.re, ?_⟩
  (refine w ?_; repeat ((first | refine VO.step rfl rfl ?_ | refine VD.end rfl rfl rfl ?_ | refine VD.mid rfl rfl rfl ?_); refine OpV.box rfl rfl rfl ?_; intro _; refine w ?_))
  ((first | apply VO.pure rfl rfl | apply VD.take rfl rfl rfl | (refine VD.end rfl rfl rfl ?_; apply OpV.pure)); apply PureAt.build sb_95 rfl; (simp [buildX, setL, Value.cells]; rfl); rfl)
  (refine w ?_; repeat ((first | refine VO.step rfl rfl ?_ | refine VD.end rfl rfl rfl ?_ | refine VD.mid rfl rfl rfl ?_); refine OpV.box rfl rfl rfl ?_; intro _; refine w ?_))
  have hE3 := encc_ok (W := W) (R := DigR d (crcS (headsP e s l.length (l.map PatE.D) 0)) :: RowsO x y :: PilR y :: Row bx 25 [.int .u64 s, .slice (some la) l.length cap] :: R) (cmtP e s (l.map PatE.D)) hcf
  rw [hce, show (cmtP e s (l.map PatE.D)).cells = [.int .u64 e, .int .u64 s, .int .i64 l.length, .int .u32 ((crcS (headsP e s l.length (l.map PatE.D) 0)).toNat : Int)] by rw [hC]] at hE3
  ((first | refine VO.step rfl rfl ?_ | refine VD.end rfl rfl rfl ?_ | refine VD.mid rfl rfl rfl ?_); refine OpV.call rfl rfl (fun _ _ => by simp) (hE3) Ent.refl rfl ?_)
  rintro ⟨ca, cc⟩ -
  refine ⟨Ent.re, ?_⟩
  (refine w ?_; repeat ((first | refine VO.step rfl rfl ?_ | refine VD.end rfl rfl rfl ?_ | refine VD.mid rfl rfl rfl ?_); refine OpV.box rfl rfl rfl ?_; intro _; refine w ?_))
  ((first | refine VO.step rfl rfl ?_ | refine VD.end rfl rfl rfl ?_ | refine VD.mid rfl rfl rfl ?_); refine OpV.buildSlice1 st_28 rfl rfl (by first | (simp; done) | simp [Value.oneCell']) (by decide) rfl ?_; intro nb)
  ((first | refine VO.step rfl rfl ?_ | refine VD.end rfl rfl rfl ?_ | refine VD.mid rfl rfl rfl ?_); refine OpV.appendRow st_28 rfl rfl (by (repeat first | exact .head | apply Hole.tail)) (by (focus repeat first | exact .head _ | apply List.Mem.tail)) rfl (by first | (simp; done) | simp [Value.oneCell']) ?_ ?_ rfl ?_)
  · simp only [maxLen]; omega
  · omega
  intro so sc
  (refine w ?_; repeat ((first | refine VO.step rfl rfl ?_ | refine VD.end rfl rfl rfl ?_ | refine VD.mid rfl rfl rfl ?_); refine OpV.box rfl rfl rfl ?_; intro _; refine w ?_))
  refine VE.done ((so, sc), y ++ [⟨ca, cc, (cmtP e s (l.map PatE.D)).enc.2⟩]) rfl ?_ (by simp) ?_
  · simp only
    rw [List.map_append, hy, hrows]; rfl
  dsimp only
  rw [rowsO_one]
  refine Ent.trans (Ent.re (L := OwnB (ca, cc) (cmtP e s (l.map PatE.D)).enc.2 :: PilR y :: Sl.Own 55 1 (.slice so (y.length + 1) sc) (y.length + 1) (y.map RowE.hdr ++ [RowE.hdr ⟨ca, cc, (cmtP e s (l.map PatE.D)).enc.2⟩]) :: R)) ?_
  refine Ent.trans (fun w hw => pile_push (res := RowE.res) (a := (⟨ca, cc, (cmtP e s (l.map PatE.D)).enc.2⟩ : RowE)) hw) ?_
  exact Ent.re
end Go.Proofs.Ytlojjlbngnaphaa
