/- The law ScanWrites: walked. -/
import Derived.Test.YtlojjlbngnaphaaQa
import Derived.Test.YtlojjlbngnaphaaQe
import Derived.Test.YtlojjlbngnaphaaNx
import Derived.Test.YtlojjlbngnaphaaNi
set_option maxRecDepth 8000
set_option linter.unusedVariables false
set_option linter.unusedSimpArgs false
set_option linter.unusedSectionVars false
namespace Go.Proofs.Ytlojjlbngnaphaa
open Go.RowKit Go.Sl
attribute [local irreducible] Sl.Own

theorem u64n_of {z : Int} (h : (Lit.int .u64 z).wf = true) : ∃ m : Nat, z = m ∧ m < 2 ^ 64 := by
  simp [Lit.wf, IntKind.min, IntKind.max, IntKind.signed, IntKind.bits] at h
  exact ⟨z.toNat, by omega, by omega⟩
theorem txn_of {W : World} {cs : List Value} (h : InT Try.prog W 25 cs) : ∃ (s : Nat) (ao : Option Addr) (cap : Nat) (l : List PatE), cs = [.int .u64 s, .slice ao l.length cap] ∧ s < 2 ^ 64 ∧ (∀ R, RdPats W R ao l) ∧ (∀ p ∈ l, p.fit) ∧ l.length ≤ 140737488351232 := by
  have hl := (h.struct_inv Try.underlying25).1
  have c2 : Try.prog.cellsOf 25 = 2 := by kernel_rfl
  rw [c2] at hl
  match cs, hl with
  | [v0, v1], _ =>
    have ki : Try.prog.cellsOf 22 = 1 := by kernel_rfl
    have ks : Try.prog.cellsOf 23 = 1 := by kernel_rfl
    have g0 : InT Try.prog W 22 [v0] := h.field (i := 0) (off := 0) Try.underlying25 rfl rfl rfl ki
    have g1 : InT Try.prog W 23 [v1] := h.field (i := 1) (off := 1) Try.underlying25 rfl rfl rfl ks
    obtain ⟨z0, e0, w0⟩ := g0.int_inv Try.underlying22
    obtain ⟨ao, n, cap, _, e1, _⟩ := g1.slice_inv Try.underlying23
    rw [e1] at g1
    obtain ⟨l, rfl, q1, q2, q3, q4⟩ := pats_of g1
    obtain ⟨m, rfl, hm⟩ := u64n_of w0
    cases e0; cases e1
    exact ⟨m, ao, cap, l, rfl, hm, q1, q2, q3⟩
theorem rowsP_few {e s : Nat} {l : List PatD} {rows : List RowE} (h : rows.map RowE.data = (secsM e s l).2) : rows.length ≤ 2047 ∧ ∀ r ∈ rows, r.data.length ≤ 1000000 := by
  have hl : rows.length = (secsM e s l).2.length := by rw [← h, List.length_map]
  have key : (secsM e s l).2.length ≤ 2047 ∧ ∀ x ∈ (secsM e s l).2, x.length ≤ 1000000 := by
    rcases secs_cases e s l with ⟨hf, h⟩ | ⟨-, -, h⟩
    · have h1 := hf.n1; have h2 := hf.n2
      rw [h]
      refine ⟨by show (rowsP e s l).length ≤ 2047; rw [rowsP, List.length_append, pairsP_length, List.length_singleton]; omega, fun x hx => by rw [rowsP_128 hf x hx]; decide⟩
    · rw [h]
      exact ⟨Nat.zero_le _, fun x hx => by cases hx⟩
  refine ⟨by omega, fun r hr => ?_⟩
  have : r.data ∈ rows.map RowE.data := List.mem_map_of_mem hr
  rw [h] at this
  exact key.2 _ this
set_option maxHeartbeats 4000000 in
theorem scanwrites_law {W : World} {R : List SProp} {ao : Option Addr} {cap e s : Nat} {l : List PatE} (he : e < 2 ^ 64) (hs : s < 2 ^ 64) (hp : ∀ R, RdPats W R ao l) (hfit : ∀ p ∈ l, p.fit) (hlen : l.length ≤ 140737488351232) :
    Does1 W Try.prog 3 [.int .u64 e, .agg #[.int .u64 s, .slice ao l.length cap]] R (.bool true) R := by
  (refine Does.enter Try.func3 Try.ntmps3 rfl rfl ?_)
  (refine w ?_; repeat ((first | refine VO.step rfl rfl ?_ | refine VD.end rfl rfl rfl ?_ | refine VD.mid rfl rfl rfl ?_); refine OpV.box rfl rfl rfl ?_; intro _; refine w ?_))
  rename_i n3
  (refine w ?_; repeat ((first | refine VO.step rfl rfl ?_ | refine VD.end rfl rfl rfl ?_ | refine VD.mid rfl rfl rfl ?_); refine OpV.box rfl rfl rfl ?_; intro _; refine w ?_))
  refine VO.ent (H' := Row n3 25 [.int .u64 s, .slice ao l.length cap] :: R) Ent.refl ?_
  ((first | refine VO.step rfl rfl ?_ | refine VD.end rfl rfl rfl ?_ | refine VD.mid rfl rfl rfl ?_); refine OpV.call rfl rfl (fun _ _ => by simp) (nmuch_ok hlen hfit (hp _)) Ent.refl rfl ?_)
  intro mu hmu
  cases mu with
  | true =>
    (refine w ?_; repeat ((first | refine VO.step rfl rfl ?_ | refine VD.end rfl rfl rfl ?_ | refine VD.mid rfl rfl rfl ?_); refine OpV.box rfl rfl rfl ?_; intro _; refine w ?_))
    exact VE.done1 rfl rfl Ent.re
  | false =>
  have hf := hmu rfl
  have hPA : PatsA W ao l := ⟨hp, Nat.le_trans hf.len (by decide), fun p hp => Nat.le_trans (hf.each p hp) (by decide)⟩
  (refine w ?_; repeat ((first | refine VO.step rfl rfl ?_ | refine VD.end rfl rfl rfl ?_ | refine VD.mid rfl rfl rfl ?_); refine OpV.box rfl rfl rfl ?_; intro _; refine w ?_))
  refine VC.drawnX [4, 6] 7 6 [0, 1, 2, 3, 4, 5, 6, 7] _ 5 (fun b => Row b 25 [.int .u64 0, .slice none 0 0]) (fun b => .pointer (some ⟨b, 0, none⟩)) rfl (by kernel_rfl) (by kernel_rfl) Ent.refl ?_
  (repeat (apply VX.take rfl rfl rfl rfl; (first | (apply PureAt.ar64 rfl rfl rfl; omega) | exact .eval tab_ok rfl | (apply PureAt.ld tab_ok rfl rfl; (focus repeat first | exact .head _ | apply List.Mem.tail); rfl) | (apply PureAt.shr rfl rfl (by decide) (by decide)) | (apply PureAt.shr rfl rfl (by omega) (by simp only [IntKind.bits]; omega)) | exact .fieldAddrA tab_ok rfl rfl | exact .sliceLH tab_ok rfl rfl rfl rfl (by omega) (by omega) | exact .sliceH tab_ok rfl rfl rfl (by omega) | exact .sliceL tab_ok rfl rfl rfl (by omega) | (first | exact .indexAddr tab_ok rfl rfl rfl rfl (by omega) | exact .indexAddrN tab_ok rfl rfl rfl rfl (by omega) | exact .indexAddrI tab_ok rfl rfl rfl rfl (toNatLit _) (by decide) (by omega) | exact .indexAddrNI tab_ok rfl rfl rfl rfl (toNatLit _) (by decide) (by omega) | exact .ldR tab_ok rfl rfl hr1 (List.getElem?_eq_getElem (by omega)) | exact .ldR tab_ok rfl rfl hr2 (List.getElem?_eq_getElem (by omega)) | exact ldB tab_ok rfl rfl hb1 (by omega) | exact ldB tab_ok rfl rfl hb2 (by omega)) | exact .sliceHI tab_ok rfl rfl rfl (toNatLit _) (by decide) (by omega) | exact .sliceLI tab_ok rfl rfl rfl (toNatLit _) (by decide) (by omega) | (apply PureAt.ldA tab_ok rfl rfl; (focus repeat first | exact .head _ | apply List.Mem.tail); rfl; rfl) | exact .ldro tab_ok rfl rfl (by assumption)); rfl; rfl; rfl))
  refine VX.callD (S := fun y : List (Addr × Nat) × Addr × Nat => [LentA l y.1 y.2.1 y.2.2]) rfl rfl rfl rfl rfl rfl (fun _ _ => by simp)
      (fun L hL => lentpatsA_ok (R := L) (cap := cap) hPA) rfl (FloatX.alloc sb_25 rfl) Ent.refl rfl rfl rfl ?_
  rintro ⟨es, a, c⟩ hes
  dsimp only at hes ⊢
  (repeat (apply VX.take rfl rfl rfl rfl; (first | (apply PureAt.ar64 rfl rfl rfl; omega) | exact .eval tab_ok rfl | (apply PureAt.ld tab_ok rfl rfl; (focus repeat first | exact .head _ | apply List.Mem.tail); rfl) | (apply PureAt.shr rfl rfl (by decide) (by decide)) | (apply PureAt.shr rfl rfl (by omega) (by simp only [IntKind.bits]; omega)) | exact .fieldAddrA tab_ok rfl rfl | exact .sliceLH tab_ok rfl rfl rfl rfl (by omega) (by omega) | exact .sliceH tab_ok rfl rfl rfl (by omega) | exact .sliceL tab_ok rfl rfl rfl (by omega) | (first | exact .indexAddr tab_ok rfl rfl rfl rfl (by omega) | exact .indexAddrN tab_ok rfl rfl rfl rfl (by omega) | exact .indexAddrI tab_ok rfl rfl rfl rfl (toNatLit _) (by decide) (by omega) | exact .indexAddrNI tab_ok rfl rfl rfl rfl (toNatLit _) (by decide) (by omega) | exact .ldR tab_ok rfl rfl hr1 (List.getElem?_eq_getElem (by omega)) | exact .ldR tab_ok rfl rfl hr2 (List.getElem?_eq_getElem (by omega)) | exact ldB tab_ok rfl rfl hb1 (by omega) | exact ldB tab_ok rfl rfl hb2 (by omega)) | exact .sliceHI tab_ok rfl rfl rfl (toNatLit _) (by decide) (by omega) | exact .sliceLI tab_ok rfl rfl rfl (toNatLit _) (by decide) (by omega) | (apply PureAt.ldA tab_ok rfl rfl; (focus repeat first | exact .head _ | apply List.Mem.tail); rfl; rfl) | exact .ldro tab_ok rfl rfl (by assumption)); rfl; rfl; rfl))
  (apply VX.take rfl rfl rfl rfl; apply PureAt.build sb_25 rfl; (simp [buildX, setL, Value.cells]; rfl); rfl; rfl; rfl)
  refine VX.float rfl rfl (FloatX.alloc sb_25 rfl) Ent.re ?_
  intro n5
  (first | refine VO.step rfl rfl ?_ | refine VD.end rfl rfl rfl ?_ | refine VD.mid rfl rfl rfl ?_)
  refine OpV.stA (vs := [.int .u64 s, .slice (some a) l.length c]) tab_ok rfl rfl rfl rfl (by simp [Value.oneCell']) (by (repeat first | exact .head | apply Hole.tail)) (by simp) ?_
  (refine w ?_; repeat ((first | refine VO.step rfl rfl ?_ | refine VD.end rfl rfl rfl ?_ | refine VD.mid rfl rfl rfl ?_); refine OpV.box rfl rfl rfl ?_; intro _; refine w ?_))
  refine VO.ent (H' := Row n5 25 [.int .u64 s, .slice (some a) l.length c] :: LentA l es a c :: Row n3 25 [.int .u64 s, .slice ao l.length cap] :: R) Ent.re ?_
  have hS1 := sectors_ok (W := W) (R := Row n5 25 [.int .u64 s, .slice (some a) l.length c] :: LentA l es a c :: Row n3 25 [.int .u64 s, .slice ao l.length cap] :: R) (cap := c) e s he hs (hes.rd (.tail _ (.head _))) (hes.fit hfit) (by rw [lentP_length hes.len]; exact hlen)
  rw [lentP_length hes.len, lentP_D hes.len] at hS1
  ((first | refine VO.step rfl rfl ?_ | refine VD.end rfl rfl rfl ?_ | refine VD.mid rfl rfl rfl ?_); refine OpV.call rfl rfl (fun _ _ => by simp) (hS1) Ent.refl rfl ?_)
  rintro ⟨⟨xo, xc⟩, rows⟩ hrows
  dsimp only at hrows ⊢
  (refine w ?_; repeat ((first | refine VO.step rfl rfl ?_ | refine VD.end rfl rfl rfl ?_ | refine VD.mid rfl rfl rfl ?_); refine OpV.box rfl rfl rfl ?_; intro _; refine w ?_))
  refine VO.ent (Ent.re (L := LentA l es a c :: RowsO (xo, xc) rows :: PilR rows :: Row n3 25 [.int .u64 s, .slice ao l.length cap] :: Row n5 25 [.int .u64 s, .slice (some a) l.length c] :: R)) ?_
  ((first | refine VO.step rfl rfl ?_ | refine VD.end rfl rfl rfl ?_ | refine VD.mid rfl rfl rfl ?_); refine OpV.call rfl rfl (fun _ _ => by simp) (wholepatsA_ok hes hPA) Ent.refl rfl ?_)
  intro _ _
  (refine w ?_; repeat ((first | refine VO.step rfl rfl ?_ | refine VD.end rfl rfl rfl ?_ | refine VD.mid rfl rfl rfl ?_); refine OpV.box rfl rfl rfl ?_; intro _; refine w ?_))
  ((first | refine VO.step rfl rfl ?_ | refine VD.end rfl rfl rfl ?_ | refine VD.mid rfl rfl rfl ?_); refine OpV.call rfl rfl (fun _ _ => by simp) (spoilpatsA_ok hes hPA.len) Ent.refl rfl ?_)
  intro _ _
  (refine w ?_; repeat ((first | refine VO.step rfl rfl ?_ | refine VD.end rfl rfl rfl ?_ | refine VD.mid rfl rfl rfl ?_); refine OpV.box rfl rfl rfl ?_; intro _; refine w ?_))
  ((first | refine VO.step rfl rfl ?_ | refine VD.end rfl rfl rfl ?_ | refine VD.mid rfl rfl rfl ?_); refine OpV.call rfl rfl (fun _ _ => by simp) (sectors_ok e s he hs (hp _) hfit hlen) Ent.refl rfl ?_)
  rintro ⟨⟨yo, yc⟩, rows2⟩ hrows2
  dsimp only at hrows2 ⊢
  (refine w ?_; repeat ((first | refine VO.step rfl rfl ?_ | refine VD.end rfl rfl rfl ?_ | refine VD.mid rfl rfl rfl ?_); refine OpV.box rfl rfl rfl ?_; intro _; refine w ?_))
  ((first | refine VO.step rfl rfl ?_ | refine VD.end rfl rfl rfl ?_ | refine VD.mid rfl rfl rfl ?_); refine OpV.call rfl rfl (fun _ _ => by simp) (rsecs_ok e s he hs (hp _) hfit hlen) Ent.refl rfl ?_)
  rintro ⟨⟨zo, zc⟩, rows3⟩ hrows3
  dsimp only at hrows3 ⊢
  (refine w ?_; repeat ((first | refine VO.step rfl rfl ?_ | refine VD.end rfl rfl rfl ?_ | refine VD.mid rfl rfl rfl ?_); refine OpV.box rfl rfl rfl ?_; intro _; refine w ?_))
  ((first | apply VO.pure rfl rfl | apply VD.take rfl rfl rfl | (refine VD.end rfl rfl rfl ?_; apply OpV.pure)); apply PureAt.build sb_50 rfl; (simp [buildX, setL, Value.cells]; rfl); rfl)
  (refine w ?_; repeat ((first | refine VO.step rfl rfl ?_ | refine VD.end rfl rfl rfl ?_ | refine VD.mid rfl rfl rfl ?_); refine OpV.box rfl rfl rfl ?_; intro _; refine w ?_))
  rename_i bk
  obtain ⟨f1, g1⟩ := rowsP_few hrows
  obtain ⟨f2, g2⟩ := rowsP_few hrows2
  obtain ⟨f3, g3⟩ := rowsP_few hrows3
  have hc0 : (secsM e s (l.map PatE.D)).1 = 0 ∨ (secsM e s (l.map PatE.D)).1 = 1 ∨ (secsM e s (l.map PatE.D)).1 = 3 ∨ (secsM e s (l.map PatE.D)).1 = 4 := by
    unfold secsM; split; exact .inr (.inl rfl); split; exact .inr (.inr (.inl rfl)); split; exact .inr (.inr (.inr rfl)); exact .inl rfl
  refine VO.ent (Ent.trans (Ent.re (L := Row bk 50 (bkCells nilS nilS nilS nilS) :: RowsO (xo, xc) rows :: PilR rows :: RowsO (yo, yc) rows2 :: PilR rows2 :: RowsO (zo, zc) rows3 :: PilR rows3 :: R)) BookQ.start) ?_
  refine VO.know (p := xo = none → rows.length = 0) (fun w hw => hw.tail.ownNone (.head _)) ?_
  intro hxo
  refine VO.know (p := ∀ e ∈ rows, e.ok) (fun w hw => PilR.know hw.tail.tail) ?_
  intro hxk
  refine VO.know (p := yo = none → rows2.length = 0) (fun w hw => hw.tail.tail.tail.ownNone (.head _)) ?_
  intro hyo
  refine VO.know (p := ∀ e ∈ rows2, e.ok) (fun w hw => PilR.know hw.tail.tail.tail.tail) ?_
  intro hyk
  refine VO.know (p := zo = none → rows3.length = 0) (fun w hw => hw.tail.tail.tail.tail.tail.ownNone (.head _)) ?_
  intro hzo
  refine VO.know (p := ∀ e ∈ rows3, e.ok) (fun w hw => PilR.know hw.tail.tail.tail.tail.tail.tail) ?_
  intro hzk
  ((first | refine VO.step rfl rfl ?_ | refine VD.end rfl rfl rfl ?_ | refine VD.mid rfl rfl rfl ?_); refine OpV.call rfl rfl (fun _ _ => by simp) (bkrows_ok bk ⟨[], [], [], []⟩ (xo, xc) rows hxo (by show 0 + rows.length ≤ _; omega) (Nat.zero_le _)) Ent.refl rfl ?_)
  intro _ _
  (refine w ?_; repeat ((first | refine VO.step rfl rfl ?_ | refine VD.end rfl rfl rfl ?_ | refine VD.mid rfl rfl rfl ?_); refine OpV.box rfl rfl rfl ?_; intro _; refine w ?_))
  ((first | refine VO.step rfl rfl ?_ | refine VD.end rfl rfl rfl ?_ | refine VD.mid rfl rfl rfl ?_); refine OpV.call rfl rfl (fun _ _ => by simp) (bkrows_ok bk ⟨[] ++ rows.map eR, [] ++ [rowsN (xo, xc) rows], [], []⟩ (yo, yc) rows2 hyo (by simp only [List.nil_append, List.length_map]; omega) (by simp)) Ent.refl rfl ?_)
  intro _ _
  dsimp only [List.nil_append]
  generalize hB : (Bk.mk (rows.map eR ++ rows2.map eR) ([rowsN (xo, xc) rows] ++ [rowsN (yo, yc) rows2]) [] []) = B
  have hBok : B.ok := by
    subst hB
    refine ⟨by simp only [List.length_append, List.length_map]; omega, by simp, by simp, by simp, fun e he => ?_, fun e he => ?_, fun e he => (by cases he), fun e he => (by cases he)⟩
    · rcases List.mem_append.1 he with h | h <;> obtain ⟨r, hr, rfl⟩ := List.mem_map.1 h <;> rw [eR_len]
      · exact Nat.le_trans (g1 r hr) (by decide)
      · exact Nat.le_trans (g2 r hr) (by decide)
    · simp only [List.mem_append, List.mem_singleton] at he
      rcases he with h | h <;> subst h
      · show rows.length ≤ _; omega
      · show rows2.length ≤ _; omega
  (refine w ?_; repeat ((first | refine VO.step rfl rfl ?_ | refine VD.end rfl rfl rfl ?_ | refine VD.mid rfl rfl rfl ?_); refine OpV.box rfl rfl rfl ?_; intro _; refine w ?_))
  have hcw := IntWalk.i64_in (secsM e s (l.map PatE.D)).1 (by omega)
  ((first | refine VO.step rfl rfl ?_ | refine VD.end rfl rfl rfl ?_ | refine VD.mid rfl rfl rfl ?_); refine OpV.call rfl rfl (fun _ _ => by simp) (nknown_ok) Ent.refl rfl ?_)
  intro _ _
  (refine w ?_; repeat ((first | refine VO.step rfl rfl ?_ | refine VD.end rfl rfl rfl ?_ | refine VD.mid rfl rfl rfl ?_); refine OpV.box rfl rfl rfl ?_; intro _; refine w ?_))
  (first | refine VO.gT rfl rfl rfl (by simp [hcw]) ?_ | refine VD.gT rfl rfl rfl (by simp [hcw]) ?_)
  (refine w ?_; repeat ((first | refine VO.step rfl rfl ?_ | refine VD.end rfl rfl rfl ?_ | refine VD.mid rfl rfl rfl ?_); refine OpV.box rfl rfl rfl ?_; intro _; refine w ?_))
  (first | refine VO.gT rfl rfl rfl (by simp) ?_ | refine VD.gT rfl rfl rfl (by simp) ?_)
  (refine w ?_; repeat ((first | refine VO.step rfl rfl ?_ | refine VD.end rfl rfl rfl ?_ | refine VD.mid rfl rfl rfl ?_); refine OpV.box rfl rfl rfl ?_; intro _; refine w ?_))
  have hRx : ∀ X : List SProp, BookQ bk B ∈ X → RdRows W X xo rows := fun X m => BookQ.rows (z := (xo, xc)) m (fun e he => by subst hB; exact List.mem_append_left _ (List.mem_map_of_mem he)) (by subst hB; simp) hxo hxk
  have hRy : ∀ X : List SProp, BookQ bk B ∈ X → RdRows W X yo rows2 := fun X m => BookQ.rows (z := (yo, yc)) m (fun e he => by subst hB; exact List.mem_append_right _ (List.mem_map_of_mem he)) (by subst hB; simp) hyo hyk
  have hRz : ∀ X : List SProp, RowsO (zo, zc) rows3 ∈ X → PilR rows3 ∈ X → RdRows W X zo rows3 := fun X m1 m2 => RdRows.own (x := (zo, zc)) hzo hzk m1 m2
  ((first | refine VO.step rfl rfl ?_ | refine VD.end rfl rfl rfl ?_ | refine VD.mid rfl rfl rfl ?_); refine OpV.call rfl rfl (fun _ _ => by simp) (samerows_ok (hRx _ (.head _)) (hRz _ (.tail _ (.head _)) (.tail _ (.tail _ (.head _)))) (by omega) (fun p hp => Nat.le_trans (g1 p hp) (by decide))) Ent.refl rfl ?_)
  intro _ _
  rw [decide_eq_true (hrows.trans hrows3.symm)]
  (refine w ?_; repeat ((first | refine VO.step rfl rfl ?_ | refine VD.end rfl rfl rfl ?_ | refine VD.mid rfl rfl rfl ?_); refine OpV.box rfl rfl rfl ?_; intro _; refine w ?_))
  ((first | refine VO.step rfl rfl ?_ | refine VD.end rfl rfl rfl ?_ | refine VD.mid rfl rfl rfl ?_); refine OpV.call rfl rfl (fun _ _ => by simp) (samerows_ok (hRy _ (.head _)) (hRz _ (.tail _ (.head _)) (.tail _ (.tail _ (.head _)))) (by omega) (fun p hp => Nat.le_trans (g2 p hp) (by decide))) Ent.refl rfl ?_)
  intro _ _
  rw [decide_eq_true (hrows2.trans hrows3.symm)]
  (refine w ?_; repeat ((first | refine VO.step rfl rfl ?_ | refine VD.end rfl rfl rfl ?_ | refine VD.mid rfl rfl rfl ?_); refine OpV.box rfl rfl rfl ?_; intro _; refine w ?_))
  ((first | refine VO.step rfl rfl ?_ | refine VD.end rfl rfl rfl ?_ | refine VD.mid rfl rfl rfl ?_); refine OpV.call rfl rfl (fun _ _ => by simp) (bkown_ok bk B hBok) Ent.refl rfl ?_)
  intro _ _
  (refine w ?_; repeat ((first | refine VO.step rfl rfl ?_ | refine VD.end rfl rfl rfl ?_ | refine VD.mid rfl rfl rfl ?_); refine OpV.box rfl rfl rfl ?_; intro _; refine w ?_))
  exact VE.done1 rfl rfl Ent.re
end Go.Proofs.Ytlojjlbngnaphaa
