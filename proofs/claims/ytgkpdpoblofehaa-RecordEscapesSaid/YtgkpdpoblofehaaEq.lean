/- RecordWrites: the walk of the law. -/
import Derived.Test.YtgkpdpoblofehaaEp
import Derived.Test.YtgkpdpoblofehaaSlk
set_option maxRecDepth 8000
set_option linter.unusedVariables false
set_option linter.unusedSimpArgs false
set_option linter.unusedSectionVars false
namespace Go.Proofs.Ytgkpdpoblofehaa
open Go.RowKit Go.Sl
attribute [local irreducible] Own

abbrev entB (x : Option Addr × Nat) (X : List UInt8) : ListE := ⟨x.1, x.2, bytes X⟩
theorem bookB_new {W : World} {R : List SProp} (b : Nat) : Ent W (Row b 51 (bookRow none 0 0) :: R) (BookR b [] :: R) := fun w hw =>
  BookR.shut (lo := none) (lc := 0) (E := []) (R := R) ((hw.ownNil 22 1).swap)
theorem bookB_ok {W : World} {R : List SProp} (b : Nat) (E : List ListE) (x : Option Addr × Nat) (X : List UInt8) (hn : E.length ≤ 1000000000) :
    Does1 W Try.prog 20 [.pointer (some ⟨b, 0, none⟩), .slice x.1 X.length x.2] (BookR b E :: OwnB x X :: R) (.tuple #[]) (BookR b (E ++ [entB x X]) :: R) := by
  have h := bookbytes_ok (W := W) (R := R) b E (entB x X) hn
  unfold ListE.res at h
  simp only [bytes_length] at h
  exact h
theorem bookB_rds {W : World} {H : List SProp} {b : Nat} {E : List ListE} {x : Option Addr × Nat} {X : List UInt8} (m : BookR b E ∈ H) (he : entB x X ∈ E) (hn : x.1 = none → X.length = 0) : Rds W H 1 x.1 X.length (bytes X) := by
  refine ⟨by simp, bytes_one _, hn, fun w hw => ?_⟩
  obtain ⟨R, p⟩ := mem_perm m
  obtain ⟨y, h3⟩ := BookR.open (hw.perm p)
  have hm : ListE.res (entB x X) ∈ Row b 51 (bookRow y.1 E.length y.2) :: Own 22 1 (.slice y.1 E.length y.2) E.length (E.map ListE.hdr) :: (E.map ListE.res ++ R) := .tail _ (.tail _ (List.mem_append_left _ (List.mem_map_of_mem he)))
  exact (Rds.own (W := W) (H := _) (bytes_one X) hm (by simp) (by simpa using hn)).cell w h3
theorem enc_cases (h : HdrD) : (h.good ∧ h.enc.1 = 0 ∧ h.enc.2.length = 128) ∨ (¬ h.good ∧ h.enc = (80, [])) := by
  by_cases g : h.good
  · left; rw [hdr_ok g]; exact ⟨g, rfl, sectF_length _ _ _ _ (hdr_sum h)⟩
  · right; exact ⟨g, hdr_bad g⟩
theorem encc_cases (h : CmtD) : (h.good ∧ h.enc.1 = 0 ∧ h.enc.2.length = 128) ∨ (¬ h.good ∧ h.enc = (80, [])) := by
  by_cases g : h.good
  · left; rw [cmt_ok g]; exact ⟨g, rfl, sectF_length _ _ _ _ (cmt_sum h)⟩
  · right; exact ⟨g, cmt_bad g⟩
theorem encs_cases (h : ChkD) : (h.good ∧ h.enc.1 = 0 ∧ h.enc.2.length = 128) ∨ (¬ h.good ∧ h.enc = (80, [])) := by
  by_cases g : h.good
  · left; rw [chk_ok g]; exact ⟨g, rfl, sectF_length _ _ _ _ (chk_sum h)⟩
  · right; exact ⟨g, chk_bad g⟩
/-- What is needed of what was encoded. -/
theorem hdr_encF (h : HdrD) (hf : h.fit) : ∃ (e : Int) (A : List UInt8), h.enc = (e, A) ∧ (e = 0 ∨ e = 80) ∧ A.length ≤ 128 ∧ (e = 0 → HdrD.dec A = (0, h)) := by
  rcases enc_cases h with ⟨g, h1, h2⟩ | ⟨g, h1⟩
  · exact ⟨h.enc.1, h.enc.2, rfl, .inl h1, by omega, fun _ => hdr_back h g hf.sum⟩
  · exact ⟨80, [], h1, .inr rfl, by simp, fun h => by cases h⟩
theorem cmt_encF (h : CmtD) (hf : h.fit) : ∃ (e : Int) (A : List UInt8), h.enc = (e, A) ∧ (e = 0 ∨ e = 80) ∧ A.length ≤ 128 ∧ (e = 0 → CmtD.dec A = (0, h)) := by
  rcases encc_cases h with ⟨g, h1, h2⟩ | ⟨g, h1⟩
  · exact ⟨h.enc.1, h.enc.2, rfl, .inl h1, by omega, fun _ => cmt_back h g hf.sum⟩
  · exact ⟨80, [], h1, .inr rfl, by simp, fun h => by cases h⟩
theorem chk_encF (h : ChkD) (hf : h.fit) : ∃ (e : Int) (A : List UInt8), h.enc = (e, A) ∧ (e = 0 ∨ e = 80) ∧ A.length ≤ 128 ∧ (e = 0 → ChkD.dec A = (0, h)) := by
  rcases encs_cases h with ⟨g, h1, h2⟩ | ⟨g, h1⟩
  · exact ⟨h.enc.1, h.enc.2, rfl, .inl h1, by omega, fun _ => chk_back h g⟩
  · exact ⟨80, [], h1, .inr rfl, by simp, fun h => by cases h⟩
set_option maxHeartbeats 4000000 in
theorem recwrites_ok {W : World} (h : HdrD) (c : CmtD) (k : ChkD) (hf : h.fit) (cf : c.fit) (kf : k.fit) :
    Does1 W Try.prog 5 [.agg h.cells.toArray, .agg c.cells.toArray, .agg k.cells.toArray] [] (.bool true) [] := by
  obtain ⟨e1, A, he1, hE1, hA, hb1'⟩ := hdr_encF h hf
  obtain ⟨e2, B, he2, hE2, hB, hb2'⟩ := cmt_encF c cf
  obtain ⟨e3, D, he3, hE3, hD, hb3'⟩ := chk_encF k kf
  (refine Does.enter Try.func5 Try.ntmps5 rfl rfl ?_)
  (refine w ?_; repeat ((first | refine VO.step rfl rfl ?_ | refine VD.end rfl rfl rfl ?_ | refine VD.mid rfl rfl rfl ?_); refine OpV.box rfl rfl rfl ?_; intro _; refine w ?_))
  rename_i b3 b4 b5
  ((first | refine VO.step rfl rfl ?_ | refine VD.end rfl rfl rfl ?_ | refine VD.mid rfl rfl rfl ?_); refine OpV.call rfl rfl (fun _ _ => by simp) (ench_ok h hf) Ent.re rfl ?_)
  rw [he1]; dsimp only
  rintro ⟨a1, c1⟩ -
  (refine VO.know (p := a1 = none → (A).length = 0) (fun w hw => hw.ownNone (.head _)) ?_; intro hn1; refine VO.know (p := (A).length ≤ c1) (fun w hw => hw.ownCap (.head _)) ?_; intro hc1)
  (refine w ?_; repeat ((first | refine VO.step rfl rfl ?_ | refine VD.end rfl rfl rfl ?_ | refine VD.mid rfl rfl rfl ?_); refine OpV.box rfl rfl rfl ?_; intro _; refine w ?_))
  ((first | refine VO.step rfl rfl ?_ | refine VD.end rfl rfl rfl ?_ | refine VD.mid rfl rfl rfl ?_); refine OpV.call rfl rfl (fun _ _ => by simp) (encc_ok c cf) Ent.re rfl ?_)
  rw [he2]; dsimp only
  rintro ⟨a2, c2⟩ -
  (refine VO.know (p := a2 = none → (B).length = 0) (fun w hw => hw.ownNone (.head _)) ?_; intro hn2; refine VO.know (p := (B).length ≤ c2) (fun w hw => hw.ownCap (.head _)) ?_; intro hc2)
  (refine w ?_; repeat ((first | refine VO.step rfl rfl ?_ | refine VD.end rfl rfl rfl ?_ | refine VD.mid rfl rfl rfl ?_); refine OpV.box rfl rfl rfl ?_; intro _; refine w ?_))
  ((first | refine VO.step rfl rfl ?_ | refine VD.end rfl rfl rfl ?_ | refine VD.mid rfl rfl rfl ?_); refine OpV.call rfl rfl (fun _ _ => by simp) (encs_ok k kf) Ent.re rfl ?_)
  rw [he3]; dsimp only
  rintro ⟨a3, c3⟩ -
  (refine VO.know (p := a3 = none → (D).length = 0) (fun w hw => hw.ownNone (.head _)) ?_; intro hn3; refine VO.know (p := (D).length ≤ c3) (fun w hw => hw.ownCap (.head _)) ?_; intro hc3)
  (refine w ?_; repeat ((first | refine VO.step rfl rfl ?_ | refine VD.end rfl rfl rfl ?_ | refine VD.mid rfl rfl rfl ?_); refine OpV.box rfl rfl rfl ?_; intro _; refine w ?_))
  ((first | refine VO.step rfl rfl ?_ | refine VD.end rfl rfl rfl ?_ | refine VD.mid rfl rfl rfl ?_); refine OpV.call rfl rfl (fun _ _ => by simp) (ench_ok h hf) Ent.re rfl ?_)
  rw [he1]; dsimp only
  rintro ⟨a4, c4⟩ -
  (refine VO.know (p := a4 = none → (A).length = 0) (fun w hw => hw.ownNone (.head _)) ?_; intro hn4; refine VO.know (p := (A).length ≤ c4) (fun w hw => hw.ownCap (.head _)) ?_; intro hc4)
  (refine w ?_; repeat ((first | refine VO.step rfl rfl ?_ | refine VD.end rfl rfl rfl ?_ | refine VD.mid rfl rfl rfl ?_); refine OpV.box rfl rfl rfl ?_; intro _; refine w ?_))
  ((first | refine VO.step rfl rfl ?_ | refine VD.end rfl rfl rfl ?_ | refine VD.mid rfl rfl rfl ?_); refine OpV.call rfl rfl (fun _ _ => by simp) (rench_ok h hf) Ent.re rfl ?_)
  rw [he1]; dsimp only
  rintro ⟨a5, c5⟩ -
  (refine VO.know (p := a5 = none → (A).length = 0) (fun w hw => hw.ownNone (.head _)) ?_; intro hn5; refine VO.know (p := (A).length ≤ c5) (fun w hw => hw.ownCap (.head _)) ?_; intro hc5)
  (refine w ?_; repeat ((first | refine VO.step rfl rfl ?_ | refine VD.end rfl rfl rfl ?_ | refine VD.mid rfl rfl rfl ?_); refine OpV.box rfl rfl rfl ?_; intro _; refine w ?_))
  ((first | refine VO.step rfl rfl ?_ | refine VD.end rfl rfl rfl ?_ | refine VD.mid rfl rfl rfl ?_); refine OpV.call rfl rfl (fun _ _ => by simp) (rencc_ok c cf) Ent.re rfl ?_)
  rw [he2]; dsimp only
  rintro ⟨a6, c6⟩ -
  (refine VO.know (p := a6 = none → (B).length = 0) (fun w hw => hw.ownNone (.head _)) ?_; intro hn6; refine VO.know (p := (B).length ≤ c6) (fun w hw => hw.ownCap (.head _)) ?_; intro hc6)
  (refine w ?_; repeat ((first | refine VO.step rfl rfl ?_ | refine VD.end rfl rfl rfl ?_ | refine VD.mid rfl rfl rfl ?_); refine OpV.box rfl rfl rfl ?_; intro _; refine w ?_))
  ((first | refine VO.step rfl rfl ?_ | refine VD.end rfl rfl rfl ?_ | refine VD.mid rfl rfl rfl ?_); refine OpV.call rfl rfl (fun _ _ => by simp) (rencs_ok k kf) Ent.re rfl ?_)
  rw [he3]; dsimp only
  rintro ⟨a7, c7⟩ -
  (refine VO.know (p := a7 = none → (D).length = 0) (fun w hw => hw.ownNone (.head _)) ?_; intro hn7; refine VO.know (p := (D).length ≤ c7) (fun w hw => hw.ownCap (.head _)) ?_; intro hc7)
  (refine w ?_; repeat ((first | refine VO.step rfl rfl ?_ | refine VD.end rfl rfl rfl ?_ | refine VD.mid rfl rfl rfl ?_); refine OpV.box rfl rfl rfl ?_; intro _; refine w ?_))
  (apply VO.pure rfl rfl; apply PureAt.build sb_51 rfl; (simp [buildX, setL, Value.cells]; rfl); rfl)
  (refine w ?_; repeat ((first | refine VO.step rfl rfl ?_ | refine VD.end rfl rfl rfl ?_ | refine VD.mid rfl rfl rfl ?_); refine OpV.box rfl rfl rfl ?_; intro _; refine w ?_))
  rename_i bk
  refine VO.ent (Ent.trans (Ent.re (L := Row bk 51 (bookRow none 0 0) :: OwnB (a1, c1) A :: OwnB (a2, c2) B :: OwnB (a3, c3) D :: OwnB (a4, c4) A :: OwnB (a5, c5) A :: OwnB (a6, c6) B :: OwnB (a7, c7) D :: Row b3 57 h.cells :: Row b4 59 c.cells :: Row b5 61 k.cells :: [])) (bookB_new bk)) ?_
  (refine w ?_; repeat ((first | refine VO.step rfl rfl ?_ | refine VD.end rfl rfl rfl ?_ | refine VD.mid rfl rfl rfl ?_); refine OpV.box rfl rfl rfl ?_; intro _; refine w ?_))
  ((first | refine VO.step rfl rfl ?_ | refine VD.end rfl rfl rfl ?_ | refine VD.mid rfl rfl rfl ?_); refine OpV.call rfl rfl (fun _ _ => by simp) (bookB_ok bk [] (a1, c1) A (by simp)) Ent.refl rfl ?_)
  intro _ _
  (refine w ?_; repeat ((first | refine VO.step rfl rfl ?_ | refine VD.end rfl rfl rfl ?_ | refine VD.mid rfl rfl rfl ?_); refine OpV.box rfl rfl rfl ?_; intro _; refine w ?_))
  ((first | refine VO.step rfl rfl ?_ | refine VD.end rfl rfl rfl ?_ | refine VD.mid rfl rfl rfl ?_); refine OpV.call rfl rfl (fun _ _ => by simp) (bookB_ok bk _ (a2, c2) B (by simp)) Ent.refl rfl ?_)
  intro _ _
  (refine w ?_; repeat ((first | refine VO.step rfl rfl ?_ | refine VD.end rfl rfl rfl ?_ | refine VD.mid rfl rfl rfl ?_); refine OpV.box rfl rfl rfl ?_; intro _; refine w ?_))
  ((first | refine VO.step rfl rfl ?_ | refine VD.end rfl rfl rfl ?_ | refine VD.mid rfl rfl rfl ?_); refine OpV.call rfl rfl (fun _ _ => by simp) (bookB_ok bk _ (a3, c3) D (by simp)) Ent.refl rfl ?_)
  intro _ _
  (refine w ?_; repeat ((first | refine VO.step rfl rfl ?_ | refine VD.end rfl rfl rfl ?_ | refine VD.mid rfl rfl rfl ?_); refine OpV.box rfl rfl rfl ?_; intro _; refine w ?_))
  ((first | refine VO.step rfl rfl ?_ | refine VD.end rfl rfl rfl ?_ | refine VD.mid rfl rfl rfl ?_); refine OpV.call rfl rfl (fun _ _ => by simp) (bookB_ok bk _ (a4, c4) A (by simp)) Ent.refl rfl ?_)
  intro _ _
  have m1 : entB (a1, c1) A ∈ ([] : List ListE) ++ [entB (a1, c1) A] ++ [entB (a2, c2) B] ++ [entB (a3, c3) D] ++ [entB (a4, c4) A] := by simp
  have m2 : entB (a2, c2) B ∈ ([] : List ListE) ++ [entB (a1, c1) A] ++ [entB (a2, c2) B] ++ [entB (a3, c3) D] ++ [entB (a4, c4) A] := by simp
  have m3 : entB (a3, c3) D ∈ ([] : List ListE) ++ [entB (a1, c1) A] ++ [entB (a2, c2) B] ++ [entB (a3, c3) D] ++ [entB (a4, c4) A] := by simp
  have m4 : entB (a4, c4) A ∈ ([] : List ListE) ++ [entB (a1, c1) A] ++ [entB (a2, c2) B] ++ [entB (a3, c3) D] ++ [entB (a4, c4) A] := by simp
  have hEl : (([] : List ListE) ++ [entB (a1, c1) A] ++ [entB (a2, c2) B] ++ [entB (a3, c3) D] ++ [entB (a4, c4) A]).length ≤ 1000000000 := by simp
  have hEx : ∀ e ∈ ([] : List ListE) ++ [entB (a1, c1) A] ++ [entB (a2, c2) B] ++ [entB (a3, c3) D] ++ [entB (a4, c4) A], e.xs.length ≤ 1000000000 := by
    intro e he
    simp only [List.nil_append, List.cons_append, List.mem_cons, List.not_mem_nil, or_false] at he
    rcases he with rfl | rfl | rfl | rfl <;> · simp; omega
  generalize ([] : List ListE) ++ [entB (a1, c1) A] ++ [entB (a2, c2) B] ++ [entB (a3, c3) D] ++ [entB (a4, c4) A] = E at *
  (refine w ?_; repeat ((first | refine VO.step rfl rfl ?_ | refine VD.end rfl rfl rfl ?_ | refine VD.mid rfl rfl rfl ?_); refine OpV.box rfl rfl rfl ?_; intro _; refine w ?_))
  ((first | refine VO.step rfl rfl ?_ | refine VD.end rfl rfl rfl ?_ | refine VD.mid rfl rfl rfl ?_); refine OpV.call rfl rfl (fun _ _ => by simp) (same_any (bookB_rds (x := (a1, c1)) (.head _) m1 hn1) (own_rds (x := (a5, c5)) hn5 (by (focus repeat first | exact .head _ | apply List.Mem.tail))) (by simp only [maxLen]; omega)) Ent.refl rfl ?_)
  intro _ _
  rw [decide_eq_true (rfl : A = A)]
  (refine w ?_; repeat ((first | refine VO.step rfl rfl ?_ | refine VD.end rfl rfl rfl ?_ | refine VD.mid rfl rfl rfl ?_); refine OpV.box rfl rfl rfl ?_; intro _; refine w ?_))
  ((first | refine VO.step rfl rfl ?_ | refine VD.end rfl rfl rfl ?_ | refine VD.mid rfl rfl rfl ?_); refine OpV.call rfl rfl (fun _ _ => by simp) (same_any (bookB_rds (x := (a2, c2)) (.head _) m2 hn2) (own_rds (x := (a6, c6)) hn6 (by (focus repeat first | exact .head _ | apply List.Mem.tail))) (by simp only [maxLen]; omega)) Ent.refl rfl ?_)
  intro _ _
  rw [decide_eq_true (rfl : B = B)]
  (refine w ?_; repeat ((first | refine VO.step rfl rfl ?_ | refine VD.end rfl rfl rfl ?_ | refine VD.mid rfl rfl rfl ?_); refine OpV.box rfl rfl rfl ?_; intro _; refine w ?_))
  ((first | refine VO.step rfl rfl ?_ | refine VD.end rfl rfl rfl ?_ | refine VD.mid rfl rfl rfl ?_); refine OpV.call rfl rfl (fun _ _ => by simp) (same_any (bookB_rds (x := (a3, c3)) (.head _) m3 hn3) (own_rds (x := (a7, c7)) hn7 (by (focus repeat first | exact .head _ | apply List.Mem.tail))) (by simp only [maxLen]; omega)) Ent.refl rfl ?_)
  intro _ _
  rw [decide_eq_true (rfl : D = D)]
  (refine w ?_; repeat ((first | refine VO.step rfl rfl ?_ | refine VD.end rfl rfl rfl ?_ | refine VD.mid rfl rfl rfl ?_); refine OpV.box rfl rfl rfl ?_; intro _; refine w ?_))
  ((first | refine VO.step rfl rfl ?_ | refine VD.end rfl rfl rfl ?_ | refine VD.mid rfl rfl rfl ?_); refine OpV.call rfl rfl (fun _ _ => by simp) (same_any (bookB_rds (x := (a4, c4)) (.head _) m4 hn4) (own_rds (x := (a5, c5)) hn5 (by (focus repeat first | exact .head _ | apply List.Mem.tail))) (by simp only [maxLen]; omega)) Ent.refl rfl ?_)
  intro _ _
  rw [decide_eq_true (rfl : A = A)]
  (refine w ?_; repeat ((first | refine VO.step rfl rfl ?_ | refine VD.end rfl rfl rfl ?_ | refine VD.mid rfl rfl rfl ?_); refine OpV.box rfl rfl rfl ?_; intro _; refine w ?_))
  ((first | refine VO.step rfl rfl ?_ | refine VD.end rfl rfl rfl ?_ | refine VD.mid rfl rfl rfl ?_); refine OpV.call rfl rfl (fun _ _ => by simp) (recknown_ok) Ent.refl rfl ?_)
  intro _ _
  (refine w ?_; repeat ((first | refine VO.step rfl rfl ?_ | refine VD.end rfl rfl rfl ?_ | refine VD.mid rfl rfl rfl ?_); refine OpV.box rfl rfl rfl ?_; intro _; refine w ?_))
  (first | refine VO.gF rfl rfl rfl (by rw [IntWalk.i64_in _ ⟨by omega, by omega⟩]; simp) ?_ | refine VD.gF rfl rfl rfl (by rw [IntWalk.i64_in _ ⟨by omega, by omega⟩]; simp) ?_)
  (refine w ?_; repeat ((first | refine VO.step rfl rfl ?_ | refine VD.end rfl rfl rfl ?_ | refine VD.mid rfl rfl rfl ?_); refine OpV.box rfl rfl rfl ?_; intro _; refine w ?_))
  (first | refine VO.gF rfl rfl rfl (by rw [IntWalk.i64_in _ ⟨by omega, by omega⟩]; simp) ?_ | refine VD.gF rfl rfl rfl (by rw [IntWalk.i64_in _ ⟨by omega, by omega⟩]; simp) ?_)
  (refine w ?_; repeat ((first | refine VO.step rfl rfl ?_ | refine VD.end rfl rfl rfl ?_ | refine VD.mid rfl rfl rfl ?_); refine OpV.box rfl rfl rfl ?_; intro _; refine w ?_))
  (first | refine VO.gF rfl rfl rfl (by rw [IntWalk.i64_in _ ⟨by omega, by omega⟩]; simp) ?_ | refine VD.gF rfl rfl rfl (by rw [IntWalk.i64_in _ ⟨by omega, by omega⟩]; simp) ?_)
  (refine w ?_; repeat ((first | refine VO.step rfl rfl ?_ | refine VD.end rfl rfl rfl ?_ | refine VD.mid rfl rfl rfl ?_); refine OpV.box rfl rfl rfl ?_; intro _; refine w ?_))
  refine VC.ent (Ent.re (L := BookR bk E :: Row b3 57 h.cells :: Row b4 59 c.cells :: Row b5 61 k.cells :: [])) ?_
  refine VC.joinH [(4, .pointer (some ⟨b4, 0, none⟩)), (5, .pointer (some ⟨b5, 0, none⟩)), (9, .slice a2 B.length c2), (10, .int .u16 e2), (11, .slice a3 D.length c3), (12, .int .u16 e3), (21, .pointer (some ⟨bk, 0, none⟩))] (fun Q2 jn => ?_) ?_
  · rcases hE1 with rfl | rfl
    · (refine w ?_; repeat ((first | refine VO.step rfl rfl ?_ | refine VD.end rfl rfl rfl ?_ | refine VD.mid rfl rfl rfl ?_); refine OpV.box rfl rfl rfl ?_; intro _; refine w ?_))
      ((first | refine VO.step rfl rfl ?_ | refine VD.end rfl rfl rfl ?_ | refine VD.mid rfl rfl rfl ?_); refine OpV.call rfl rfl (fun _ _ => by simp) (dech_ok (bookB_rds (x := (a1, c1)) (.head _) m1 hn1) hc1) Ent.refl rfl ?_)
      intro _ _
      rw [hb1' rfl]
      (refine w ?_; repeat ((first | refine VO.step rfl rfl ?_ | refine VD.end rfl rfl rfl ?_ | refine VD.mid rfl rfl rfl ?_); refine OpV.box rfl rfl rfl ?_; intro _; refine w ?_))
      ((first | refine VO.step rfl rfl ?_ | refine VD.end rfl rfl rfl ?_ | refine VD.mid rfl rfl rfl ?_); refine OpV.allocS sb_57 rfl ?_; intro n23)
      (first | refine VO.step rfl rfl ?_ | refine VD.end rfl rfl rfl ?_ | refine VD.mid rfl rfl rfl ?_)
      refine OpV.stA (vs := h.cells) tab_ok rfl rfl rfl rfl (hdr_one _) (by (repeat first | exact .head | apply Hole.tail)) (by simp) ?_
      refine VO.ent (Ent.re (L := Row n23 57 h.cells :: BookR bk E :: Row b3 57 h.cells :: Row b4 59 c.cells :: Row b5 61 k.cells :: [])) ?_
      (refine w ?_; repeat ((first | refine VO.step rfl rfl ?_ | refine VD.end rfl rfl rfl ?_ | refine VD.mid rfl rfl rfl ?_); refine OpV.box rfl rfl rfl ?_; intro _; refine w ?_))
      (first | refine VO.pure rfl rfl (hdr_eq (a := h) (b := h) rfl rfl hf hf rfl) rfl ?_ | refine VD.take rfl rfl rfl (hdr_eq (a := h) (b := h) rfl rfl hf hf rfl) rfl ?_ | refine VQ.pure rfl rfl (hdr_eq (a := h) (b := h) rfl rfl hf hf rfl) rfl ?_ | refine VD.end rfl rfl rfl (OpV.pure (hdr_eq (a := h) (b := h) rfl rfl hf hf rfl) rfl ?_))
      (refine w ?_; repeat ((first | refine VO.step rfl rfl ?_ | refine VD.end rfl rfl rfl ?_ | refine VD.mid rfl rfl rfl ?_); refine OpV.box rfl rfl rfl ?_; intro _; refine w ?_))
      (refine VC.condFe rfl rfl (by simp) ?_)
      (refine w ?_; repeat ((first | refine VO.step rfl rfl ?_ | refine VD.end rfl rfl rfl ?_ | refine VD.mid rfl rfl rfl ?_); refine OpV.box rfl rfl rfl ?_; intro _; refine w ?_))
      refine jn.to () trivial ⟨rfl, rfl, rfl, rfl, rfl, rfl, rfl, trivial⟩ ?_; exact Ent.re
    · (refine w ?_; repeat ((first | refine VO.step rfl rfl ?_ | refine VD.end rfl rfl rfl ?_ | refine VD.mid rfl rfl rfl ?_); refine OpV.box rfl rfl rfl ?_; intro _; refine w ?_))
      refine jn.to () trivial ⟨rfl, rfl, rfl, rfl, rfl, rfl, rfl, trivial⟩ ?_; exact Ent.re
  (refine w ?_; repeat ((first | refine VO.step rfl rfl ?_ | refine VD.end rfl rfl rfl ?_ | refine VD.mid rfl rfl rfl ?_); refine OpV.box rfl rfl rfl ?_; intro _; refine w ?_))
  refine VC.joinH [(5, .pointer (some ⟨b5, 0, none⟩)), (11, .slice a3 D.length c3), (12, .int .u16 e3), (21, .pointer (some ⟨bk, 0, none⟩))] (fun Q2 jn => ?_) ?_
  · rcases hE2 with rfl | rfl
    · (refine w ?_; repeat ((first | refine VO.step rfl rfl ?_ | refine VD.end rfl rfl rfl ?_ | refine VD.mid rfl rfl rfl ?_); refine OpV.box rfl rfl rfl ?_; intro _; refine w ?_))
      ((first | refine VO.step rfl rfl ?_ | refine VD.end rfl rfl rfl ?_ | refine VD.mid rfl rfl rfl ?_); refine OpV.call rfl rfl (fun _ _ => by simp) (decc_ok (bookB_rds (x := (a2, c2)) (.head _) m2 hn2) hc2) Ent.refl rfl ?_)
      intro _ _
      rw [hb2' rfl]
      (refine w ?_; repeat ((first | refine VO.step rfl rfl ?_ | refine VD.end rfl rfl rfl ?_ | refine VD.mid rfl rfl rfl ?_); refine OpV.box rfl rfl rfl ?_; intro _; refine w ?_))
      ((first | refine VO.step rfl rfl ?_ | refine VD.end rfl rfl rfl ?_ | refine VD.mid rfl rfl rfl ?_); refine OpV.allocS sb_59 rfl ?_; intro n25)
      (first | refine VO.step rfl rfl ?_ | refine VD.end rfl rfl rfl ?_ | refine VD.mid rfl rfl rfl ?_)
      refine OpV.stA (vs := c.cells) tab_ok rfl rfl rfl rfl (cmt_one _) (by (repeat first | exact .head | apply Hole.tail)) (by simp) ?_
      refine VO.ent (Ent.re (L := Row n25 59 c.cells :: BookR bk E :: Row b3 57 h.cells :: Row b4 59 c.cells :: Row b5 61 k.cells :: [])) ?_
      (refine w ?_; repeat ((first | refine VO.step rfl rfl ?_ | refine VD.end rfl rfl rfl ?_ | refine VD.mid rfl rfl rfl ?_); refine OpV.box rfl rfl rfl ?_; intro _; refine w ?_))
      (first | refine VO.pure rfl rfl (cmt_eq (a := c) (b := c) rfl rfl cf cf rfl) rfl ?_ | refine VD.take rfl rfl rfl (cmt_eq (a := c) (b := c) rfl rfl cf cf rfl) rfl ?_ | refine VQ.pure rfl rfl (cmt_eq (a := c) (b := c) rfl rfl cf cf rfl) rfl ?_ | refine VD.end rfl rfl rfl (OpV.pure (cmt_eq (a := c) (b := c) rfl rfl cf cf rfl) rfl ?_))
      (refine w ?_; repeat ((first | refine VO.step rfl rfl ?_ | refine VD.end rfl rfl rfl ?_ | refine VD.mid rfl rfl rfl ?_); refine OpV.box rfl rfl rfl ?_; intro _; refine w ?_))
      (refine VC.condFe rfl rfl (by simp) ?_)
      (refine w ?_; repeat ((first | refine VO.step rfl rfl ?_ | refine VD.end rfl rfl rfl ?_ | refine VD.mid rfl rfl rfl ?_); refine OpV.box rfl rfl rfl ?_; intro _; refine w ?_))
      refine jn.to () trivial ⟨rfl, rfl, rfl, rfl, trivial⟩ ?_; exact Ent.re
    · (refine w ?_; repeat ((first | refine VO.step rfl rfl ?_ | refine VD.end rfl rfl rfl ?_ | refine VD.mid rfl rfl rfl ?_); refine OpV.box rfl rfl rfl ?_; intro _; refine w ?_))
      refine jn.to () trivial ⟨rfl, rfl, rfl, rfl, trivial⟩ ?_; exact Ent.re
  (refine w ?_; repeat ((first | refine VO.step rfl rfl ?_ | refine VD.end rfl rfl rfl ?_ | refine VD.mid rfl rfl rfl ?_); refine OpV.box rfl rfl rfl ?_; intro _; refine w ?_))
  refine VC.joinH [(21, .pointer (some ⟨bk, 0, none⟩))] (fun Q2 jn => ?_) ?_
  · rcases hE3 with rfl | rfl
    · (refine w ?_; repeat ((first | refine VO.step rfl rfl ?_ | refine VD.end rfl rfl rfl ?_ | refine VD.mid rfl rfl rfl ?_); refine OpV.box rfl rfl rfl ?_; intro _; refine w ?_))
      ((first | refine VO.step rfl rfl ?_ | refine VD.end rfl rfl rfl ?_ | refine VD.mid rfl rfl rfl ?_); refine OpV.call rfl rfl (fun _ _ => by simp) (decs_ok (bookB_rds (x := (a3, c3)) (.head _) m3 hn3) hc3) Ent.refl rfl ?_)
      intro _ _
      rw [hb3' rfl]
      (refine w ?_; repeat ((first | refine VO.step rfl rfl ?_ | refine VD.end rfl rfl rfl ?_ | refine VD.mid rfl rfl rfl ?_); refine OpV.box rfl rfl rfl ?_; intro _; refine w ?_))
      ((first | refine VO.step rfl rfl ?_ | refine VD.end rfl rfl rfl ?_ | refine VD.mid rfl rfl rfl ?_); refine OpV.allocS sb_61 rfl ?_; intro n27)
      (first | refine VO.step rfl rfl ?_ | refine VD.end rfl rfl rfl ?_ | refine VD.mid rfl rfl rfl ?_)
      refine OpV.stA (vs := k.cells) tab_ok rfl rfl rfl rfl (chk_one _) (by (repeat first | exact .head | apply Hole.tail)) (by simp) ?_
      refine VO.ent (Ent.re (L := Row n27 61 k.cells :: BookR bk E :: Row b3 57 h.cells :: Row b4 59 c.cells :: Row b5 61 k.cells :: [])) ?_
      (refine w ?_; repeat ((first | refine VO.step rfl rfl ?_ | refine VD.end rfl rfl rfl ?_ | refine VD.mid rfl rfl rfl ?_); refine OpV.box rfl rfl rfl ?_; intro _; refine w ?_))
      (first | refine VO.pure rfl rfl (chk_eq (a := k) (b := k) rfl rfl kf kf rfl) rfl ?_ | refine VD.take rfl rfl rfl (chk_eq (a := k) (b := k) rfl rfl kf kf rfl) rfl ?_ | refine VQ.pure rfl rfl (chk_eq (a := k) (b := k) rfl rfl kf kf rfl) rfl ?_ | refine VD.end rfl rfl rfl (OpV.pure (chk_eq (a := k) (b := k) rfl rfl kf kf rfl) rfl ?_))
      (refine w ?_; repeat ((first | refine VO.step rfl rfl ?_ | refine VD.end rfl rfl rfl ?_ | refine VD.mid rfl rfl rfl ?_); refine OpV.box rfl rfl rfl ?_; intro _; refine w ?_))
      (refine VC.condFe rfl rfl (by simp) ?_)
      (refine w ?_; repeat ((first | refine VO.step rfl rfl ?_ | refine VD.end rfl rfl rfl ?_ | refine VD.mid rfl rfl rfl ?_); refine OpV.box rfl rfl rfl ?_; intro _; refine w ?_))
      refine jn.to () trivial ⟨rfl, trivial⟩ ?_; exact Ent.re
    · (refine w ?_; repeat ((first | refine VO.step rfl rfl ?_ | refine VD.end rfl rfl rfl ?_ | refine VD.mid rfl rfl rfl ?_); refine OpV.box rfl rfl rfl ?_; intro _; refine w ?_))
      refine jn.to () trivial ⟨rfl, trivial⟩ ?_; exact Ent.re
  (refine w ?_; repeat ((first | refine VO.step rfl rfl ?_ | refine VD.end rfl rfl rfl ?_ | refine VD.mid rfl rfl rfl ?_); refine OpV.box rfl rfl rfl ?_; intro _; refine w ?_))
  ((first | refine VO.step rfl rfl ?_ | refine VD.end rfl rfl rfl ?_ | refine VD.mid rfl rfl rfl ?_); refine OpV.call rfl rfl (fun _ _ => by simp) (bookown_ok bk E hEl hEx) Ent.refl rfl ?_)
  intro _ _
  (refine w ?_; repeat ((first | refine VO.step rfl rfl ?_ | refine VD.end rfl rfl rfl ?_ | refine VD.mid rfl rfl rfl ?_); refine OpV.box rfl rfl rfl ?_; intro _; refine w ?_))
  (refine VE.done1 rfl ?_ ?_)
  · rfl
  · exact Ent.re
end Go.Proofs.Ytgkpdpoblofehaa
