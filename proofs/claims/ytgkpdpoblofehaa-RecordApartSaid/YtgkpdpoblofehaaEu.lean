/- RecordApart: the walk of the law. -/
import Derived.Test.YtgkpdpoblofehaaEt
set_option maxRecDepth 8000
set_option linter.unusedVariables false
set_option linter.unusedSimpArgs false
set_option linter.unusedSectionVars false
namespace Go.Proofs.Ytgkpdpoblofehaa
open Go.RowKit Go.Sl
attribute [local irreducible] Own

theorem looks_kind {b : List UInt8} {k : UInt8} (h : looksM b k = 0) : kindB b = k := by
  have h128 := looks_len h
  unfold looksM at h; rw [if_neg (by omega)] at h; split at h
  · cases h
  · rename_i h3; exact Decidable.of_not_not h3
theorem looks_other {b : List UInt8} {k j : UInt8} (h : looksM b k = 0) (hj : k ≠ j) : looksM b j = 80 := by
  have h128 := looks_len h
  have hk := looks_kind h
  unfold looksM; rw [if_neg (by omega), if_pos (by rw [hk]; exact hj)]
/-- What a sector of the n-th kind is, asked as all three. -/
structure ApartF (L : List UInt8) (n : Nat) : Prop where
  one : (HdrD.dec L).1 = 0 ↔ n = 0
  two : (CmtD.dec L).1 = 0 ↔ n = 1
  three : (ChkD.dec L).1 = 0 ↔ n = 2
  kind : (kindB L).toNat = n + 1
theorem apart_hdr {L : List UInt8} {h : HdrD} (hd : HdrD.dec L = (0, h)) : ApartF L 0 := by
  have h1 := hdr_look (b := L) (by rw [hd])
  refine ⟨by rw [hd]; simp, ?_, ?_, by rw [looks_kind h1]; rfl⟩
  · have := looks_other (j := 2) h1 (by decide); rw [cmt_decB (by rw [this]; decide), this]; decide
  · have := looks_other (j := 3) h1 (by decide); rw [chk_decB (by rw [this]; decide), this]; decide
theorem apart_cmt {L : List UInt8} {h : CmtD} (hd : CmtD.dec L = (0, h)) : ApartF L 1 := by
  have h1 := cmt_look (b := L) (by rw [hd])
  refine ⟨?_, by rw [hd]; simp, ?_, by rw [looks_kind h1]; rfl⟩
  · have := looks_other (j := 1) h1 (by decide); rw [hdr_decB (by rw [this]; decide), this]; decide
  · have := looks_other (j := 3) h1 (by decide); rw [chk_decB (by rw [this]; decide), this]; decide
theorem apart_chk {L : List UInt8} {h : ChkD} (hd : ChkD.dec L = (0, h)) : ApartF L 2 := by
  have h1 := chk_look (b := L) (by rw [hd])
  refine ⟨?_, ?_, by rw [hd]; simp, by rw [looks_kind h1]; rfl⟩
  · have := looks_other (j := 1) h1 (by decide); rw [hdr_decB (by rw [this]; decide), this]; decide
  · have := looks_other (j := 2) h1 (by decide); rw [cmt_decB (by rw [this]; decide), this]; decide
theorem hdr_encL (h : HdrD) : h.enc.1 ≠ 0 → h.enc.2 = [] := by intro q; rw [hdr_bad (enc_bad.1 q)]
theorem cmt_encL (h : CmtD) : h.enc.1 ≠ 0 → h.enc.2 = [] := by intro q; rw [cmt_bad (encc_bad.1 q)]
theorem chk_encL (h : ChkD) : h.enc.1 ≠ 0 → h.enc.2 = [] := by intro q; rw [chk_bad (encs_bad.1 q)]
theorem eqz_of {l : Int} {n m : Nat} (h : l = 0 ↔ n = m) : ((l == 0) != ((n : Int) == (m : Int))) = false := by
  have : (l == 0) = ((n : Int) == (m : Int)) := by rw [Bool.eq_iff_iff, beq_iff_eq, beq_iff_eq, h]; omega
  rw [this]; simp
set_option maxHeartbeats 4000000 in
theorem recapart_ok {W : World} (h k : HdrD) (c : CmtD) (x : ChkD) (hf : h.fit) (kf : k.fit) (cf : c.fit) (xf : x.fit) :
    Does1 W Try.prog 8 [.agg h.cells.toArray, .agg k.cells.toArray, .agg c.cells.toArray, .agg x.cells.toArray] [] (.bool true) [] := by
  have z1 := hdr_encL h
  have z2 := hdr_encL k
  have z3 := cmt_encL c
  have z4 := chk_encL x
  obtain ⟨e1, A, he1, hE1, hA, hb1'⟩ := hdr_encF h hf
  obtain ⟨e2, B, he2, hE2, hB, hb2'⟩ := hdr_encF k kf
  obtain ⟨e3, D, he3, hE3, hD, hb3'⟩ := cmt_encF c cf
  obtain ⟨e4, Y, he4, hE4, hY, hb4'⟩ := chk_encF x xf
  rw [he1] at z1; rw [he2] at z2; rw [he3] at z3; rw [he4] at z4
  dsimp only at z1 z2 z3 z4
  have hAB : e1 = 0 → e2 = 0 → (h = k ↔ A = B) := by
    intro q1 q2
    constructor
    · rintro rfl; rw [he1] at he2; cases he2; rfl
    · intro e; have d1 := hb1' q1; have d2 := hb2' q2; rw [e, d2] at d1; injection d1 with _ d1; exact d1.symm
  (refine Does.enter Try.func8 Try.ntmps8 rfl rfl ?_)
  (refine w ?_; repeat ((first | refine VO.step rfl rfl ?_ | refine VD.end rfl rfl rfl ?_ | refine VD.mid rfl rfl rfl ?_); refine OpV.box rfl rfl rfl ?_; intro _; refine w ?_))
  rename_i b4 b5 b6 b7
  ((first | refine VO.step rfl rfl ?_ | refine VD.end rfl rfl rfl ?_ | refine VD.mid rfl rfl rfl ?_); refine OpV.call rfl rfl (fun _ _ => by simp) (ench_ok h hf) Ent.re rfl ?_)
  rw [he1]; dsimp only
  rintro ⟨a1, c1⟩ -
  (refine VO.know (p := a1 = none → (A).length = 0) (fun w hw => hw.ownNone (.head _)) ?_; intro hn1; refine VO.know (p := (A).length ≤ c1) (fun w hw => hw.ownCap (.head _)) ?_; intro hc1)
  (refine w ?_; repeat ((first | refine VO.step rfl rfl ?_ | refine VD.end rfl rfl rfl ?_ | refine VD.mid rfl rfl rfl ?_); refine OpV.box rfl rfl rfl ?_; intro _; refine w ?_))
  ((first | refine VO.step rfl rfl ?_ | refine VD.end rfl rfl rfl ?_ | refine VD.mid rfl rfl rfl ?_); refine OpV.call rfl rfl (fun _ _ => by simp) (ench_ok k kf) Ent.re rfl ?_)
  rw [he2]; dsimp only
  rintro ⟨a2, c2⟩ -
  (refine VO.know (p := a2 = none → (B).length = 0) (fun w hw => hw.ownNone (.head _)) ?_; intro hn2; refine VO.know (p := (B).length ≤ c2) (fun w hw => hw.ownCap (.head _)) ?_; intro hc2)
  (refine w ?_; repeat ((first | refine VO.step rfl rfl ?_ | refine VD.end rfl rfl rfl ?_ | refine VD.mid rfl rfl rfl ?_); refine OpV.box rfl rfl rfl ?_; intro _; refine w ?_))
  ((first | refine VO.step rfl rfl ?_ | refine VD.end rfl rfl rfl ?_ | refine VD.mid rfl rfl rfl ?_); refine OpV.call rfl rfl (fun _ _ => by simp) (encc_ok c cf) Ent.re rfl ?_)
  rw [he3]; dsimp only
  rintro ⟨a3, c3⟩ -
  (refine VO.know (p := a3 = none → (D).length = 0) (fun w hw => hw.ownNone (.head _)) ?_; intro hn3; refine VO.know (p := (D).length ≤ c3) (fun w hw => hw.ownCap (.head _)) ?_; intro hc3)
  (refine w ?_; repeat ((first | refine VO.step rfl rfl ?_ | refine VD.end rfl rfl rfl ?_ | refine VD.mid rfl rfl rfl ?_); refine OpV.box rfl rfl rfl ?_; intro _; refine w ?_))
  ((first | refine VO.step rfl rfl ?_ | refine VD.end rfl rfl rfl ?_ | refine VD.mid rfl rfl rfl ?_); refine OpV.call rfl rfl (fun _ _ => by simp) (encs_ok x xf) Ent.re rfl ?_)
  rw [he4]; dsimp only
  rintro ⟨a4, c4⟩ -
  (refine VO.know (p := a4 = none → (Y).length = 0) (fun w hw => hw.ownNone (.head _)) ?_; intro hn4; refine VO.know (p := (Y).length ≤ c4) (fun w hw => hw.ownCap (.head _)) ?_; intro hc4)
  (refine w ?_; repeat ((first | refine VO.step rfl rfl ?_ | refine VD.end rfl rfl rfl ?_ | refine VD.mid rfl rfl rfl ?_); refine OpV.box rfl rfl rfl ?_; intro _; refine w ?_))
  refine VC.ent (Ent.re (L := OwnB (a4, c4) Y :: OwnB (a3, c3) D :: OwnB (a2, c2) B :: OwnB (a1, c1) A :: Row b4 57 h.cells :: Row b5 57 k.cells :: [])) ?_
  refine VC.joinH [(9, .slice a1 A.length c1), (13, .slice a3 D.length c3), (14, .int .u16 e3), (15, .slice a4 Y.length c4), (16, .int .u16 e4), (59, .bool false)] (fun Q2 jn => ?_) ?_
  · rcases hE1 with rfl | rfl
    · rcases hE2 with rfl | rfl
      · ((refine VC.quiet rfl (by kernel_rfl) (by kernel_rfl) ?_); (refine w ?_; repeat ((first | refine VO.step rfl rfl ?_ | refine VD.end rfl rfl rfl ?_ | refine VD.mid rfl rfl rfl ?_); refine OpV.box rfl rfl rfl ?_; intro _; refine w ?_)))
        (first | refine VO.pure rfl rfl (hdr_eq (a := h) (b := k) rfl rfl hf kf rfl) rfl ?_ | refine VD.take rfl rfl rfl (hdr_eq (a := h) (b := k) rfl rfl hf kf rfl) rfl ?_ | refine VQ.pure rfl rfl (hdr_eq (a := h) (b := k) rfl rfl hf kf rfl) rfl ?_ | refine VD.end rfl rfl rfl (OpV.pure (hdr_eq (a := h) (b := k) rfl rfl hf kf rfl) rfl ?_))
        (refine w ?_; repeat ((first | refine VO.step rfl rfl ?_ | refine VD.end rfl rfl rfl ?_ | refine VD.mid rfl rfl rfl ?_); refine OpV.box rfl rfl rfl ?_; intro _; refine w ?_))
        (refine VQ.call rfl rfl rfl rfl (fun _ _ => by simp) (same_any (own_rds (x := (a1, c1)) hn1 (by (focus repeat first | exact .head _ | apply List.Mem.tail))) (own_rds (x := (a2, c2)) hn2 (by (focus repeat first | exact .head _ | apply List.Mem.tail))) (by simp only [maxLen]; omega)) Ent.refl Ent.refl rfl ?_)
        (refine w ?_; repeat ((first | refine VO.step rfl rfl ?_ | refine VD.end rfl rfl rfl ?_ | refine VD.mid rfl rfl rfl ?_); refine OpV.box rfl rfl rfl ?_; intro _; refine w ?_))
        refine jn.to () trivial ⟨rfl, rfl, rfl, rfl, rfl, asV rfl ?_, trivial⟩ Ent.refl
        have q := hAB rfl rfl
        by_cases e : A = B
        · rw [decide_eq_true e, decide_eq_true (q.2 e)]; rfl
        · rw [decide_eq_false e, decide_eq_false (fun z => e (q.1 z))]; rfl
      · ((refine VC.quiet rfl (by kernel_rfl) (by kernel_rfl) ?_); (refine w ?_; repeat ((first | refine VO.step rfl rfl ?_ | refine VD.end rfl rfl rfl ?_ | refine VD.mid rfl rfl rfl ?_); refine OpV.box rfl rfl rfl ?_; intro _; refine w ?_)))
        refine jn.to () trivial ⟨rfl, rfl, rfl, rfl, rfl, rfl, trivial⟩ Ent.refl
    · ((refine VC.quiet rfl (by kernel_rfl) (by kernel_rfl) ?_); (refine w ?_; repeat ((first | refine VO.step rfl rfl ?_ | refine VD.end rfl rfl rfl ?_ | refine VD.mid rfl rfl rfl ?_); refine OpV.box rfl rfl rfl ?_; intro _; refine w ?_)))
      refine jn.to () trivial ⟨rfl, rfl, rfl, rfl, rfl, rfl, trivial⟩ Ent.refl
  (refine w ?_; repeat ((first | refine VO.step rfl rfl ?_ | refine VD.end rfl rfl rfl ?_ | refine VD.mid rfl rfl rfl ?_); refine OpV.box rfl rfl rfl ?_; intro _; refine w ?_))
  ((first | refine VO.step rfl rfl ?_ | refine VD.end rfl rfl rfl ?_ | refine VD.mid rfl rfl rfl ?_); refine OpV.buildSlice1 st_38 rfl rfl (by first | (simp; done) | simp [Value.oneCell']) (by decide) rfl ?_; intro nb)
  generalize hxs : [Value.slice a1 A.length c1, Value.slice a3 D.length c3, Value.slice a4 Y.length c4] = xs at *
  refine VO.ent (Ent.re (L := Row nb 22 xs :: OwnB (a4, c4) Y :: OwnB (a3, c3) D :: OwnB (a1, c1) A :: [])) ?_
  have hrow : ∀ n, n < 3 → ∃ (ao : Option Addr) (cap : Nat) (L : List UInt8), xs[n]? = some (.slice ao L.length cap) ∧ L.length ≤ 128 ∧ L.length ≤ cap ∧ (∀ H, (∀ p, p ∈ OwnB (a4, c4) Y :: OwnB (a3, c3) D :: OwnB (a1, c1) A :: [] → p ∈ H) → Rds W H 1 ao L.length (bytes L)) ∧ (L.length ≠ 0 → ApartF L n) := by
    intro n hn
    rw [← hxs]
    match n, hn with
    | 0, _ => exact ⟨a1, c1, A, rfl, hA, hc1, fun H hh => own_rds (x := (a1, c1)) hn1 (hh _ (by simp)), fun q => apart_hdr (hb1' (Decidable.of_not_not fun e => q (by rw [z1 e]; rfl)))⟩
    | 1, _ => exact ⟨a3, c3, D, rfl, hD, hc3, fun H hh => own_rds (x := (a3, c3)) hn3 (hh _ (by simp)), fun q => apart_cmt (hb3' (Decidable.of_not_not fun e => q (by rw [z3 e]; rfl)))⟩
    | 2, _ => exact ⟨a4, c4, Y, rfl, hY, hc4, fun H hh => own_rds (x := (a4, c4)) hn4 (hh _ (by simp)), fun q => apart_chk (hb4' (Decidable.of_not_not fun e => q (by rw [z4 e]; rfl)))⟩
  have hxl : xs.length = 3 := by rw [← hxs]; rfl
  have hx1 : ∀ u ∈ xs, u.oneCell' = true := by rw [← hxs]; simp [Value.oneCell']
  clear hxs
  (refine w ?_; repeat ((first | refine VO.step rfl rfl ?_ | refine VD.end rfl rfl rfl ?_ | refine VD.mid rfl rfl rfl ?_); refine OpV.box rfl rfl rfl ?_; intro _; refine w ?_))
  refine VC.loop (α := Nat) (fun n => n ≤ 3) (fun _ => Row nb 22 xs :: OwnB (a4, c4) Y :: OwnB (a3, c3) D :: OwnB (a1, c1) A :: []) (fun n => [(13, .slice a3 D.length c3), (14, .int .u16 e3), (15, .slice a4 Y.length c4), (16, .int .u16 e4), (17, .slice (some ⟨nb, 0, none⟩) 3 3), (18, .int .i64 n)]) (fun n => 3 - n) rfl 0 (by omega) Ent.refl ⟨rfl, rfl, rfl, rfl, rfl, rfl, trivial⟩ ?_
  intro n hn
  (refine w ?_; repeat ((first | refine VO.step rfl rfl ?_ | refine VD.end rfl rfl rfl ?_ | refine VD.mid rfl rfl rfl ?_); refine OpV.box rfl rfl rfl ?_; intro _; refine w ?_))
  (refine VC.cond rfl rfl ?_ ?_ <;> intro hc)
  · have hlt : n < 3 := by have := of_decide_eq_true hc; omega
    obtain ⟨ao, cap, L, hxn, hL, hLc, hLr, hLa⟩ := hrow n hlt
    have hr1 : ∀ H, Row nb 22 xs ∈ H → Rds W H 1 (some ⟨nb, 0, none⟩) 3 xs := fun H hm => Rds.row hx1 hm (by rw [hxl])
    (refine w ?_; repeat ((first | refine VO.step rfl rfl ?_ | refine VD.end rfl rfl rfl ?_ | refine VD.mid rfl rfl rfl ?_); refine OpV.box rfl rfl rfl ?_; intro _; refine w ?_))
    (first | refine VO.pure rfl rfl (PureAt.ldR tab_ok rfl rfl (hr1 _ (by (focus repeat first | exact .head _ | apply List.Mem.tail))) hxn) rfl ?_ | refine VD.take rfl rfl rfl (PureAt.ldR tab_ok rfl rfl (hr1 _ (by (focus repeat first | exact .head _ | apply List.Mem.tail))) hxn) rfl ?_ | refine VQ.pure rfl rfl (PureAt.ldR tab_ok rfl rfl (hr1 _ (by (focus repeat first | exact .head _ | apply List.Mem.tail))) hxn) rfl ?_ | refine VD.end rfl rfl rfl (OpV.pure (PureAt.ldR tab_ok rfl rfl (hr1 _ (by (focus repeat first | exact .head _ | apply List.Mem.tail))) hxn) rfl ?_))
    (refine w ?_; repeat ((first | refine VO.step rfl rfl ?_ | refine VD.end rfl rfl rfl ?_ | refine VD.mid rfl rfl rfl ?_); refine OpV.box rfl rfl rfl ?_; intro _; refine w ?_))
    (refine VC.cond rfl rfl ?_ ?_ <;> intro hc)
    · (refine w ?_; repeat ((first | refine VO.step rfl rfl ?_ | refine VD.end rfl rfl rfl ?_ | refine VD.mid rfl rfl rfl ?_); refine OpV.box rfl rfl rfl ?_; intro _; refine w ?_))
      refine VE.round (n + 1) (by omega) (by omega) ⟨rfl, rfl, rfl, rfl, rfl, asV rfl (by congr 1), trivial⟩ Ent.refl
    have hL0 : L.length ≠ 0 := by have h := hc; simp at h; intro q; exact h (List.eq_nil_of_length_eq_zero q)
    obtain ⟨p1, p2, p3, p4⟩ := hLa hL0
    (refine w ?_; repeat ((first | refine VO.step rfl rfl ?_ | refine VD.end rfl rfl rfl ?_ | refine VD.mid rfl rfl rfl ?_); refine OpV.box rfl rfl rfl ?_; intro _; refine w ?_))
    (first | refine VO.pure rfl rfl (PureAt.ldR tab_ok rfl rfl (hr1 _ (by (focus repeat first | exact .head _ | apply List.Mem.tail))) hxn) rfl ?_ | refine VD.take rfl rfl rfl (PureAt.ldR tab_ok rfl rfl (hr1 _ (by (focus repeat first | exact .head _ | apply List.Mem.tail))) hxn) rfl ?_ | refine VQ.pure rfl rfl (PureAt.ldR tab_ok rfl rfl (hr1 _ (by (focus repeat first | exact .head _ | apply List.Mem.tail))) hxn) rfl ?_ | refine VD.end rfl rfl rfl (OpV.pure (PureAt.ldR tab_ok rfl rfl (hr1 _ (by (focus repeat first | exact .head _ | apply List.Mem.tail))) hxn) rfl ?_))
    ((first | refine VO.step rfl rfl ?_ | refine VD.end rfl rfl rfl ?_ | refine VD.mid rfl rfl rfl ?_); refine OpV.call rfl rfl (fun _ _ => by simp) (dech_ok (hLr _ (by intro p hp; simp only [List.mem_cons, List.not_mem_nil, or_false] at hp ⊢; rcases hp with e | e | e <;> simp [e])) hLc) Ent.refl rfl ?_)
    intro _ _
    obtain ⟨DX, hDX⟩ : ∃ DX, DX = HdrD.dec L := ⟨_, rfl⟩
    rw [← hDX] at p1 ⊢
    obtain ⟨l1, dx⟩ := DX
    dsimp only at p1 ⊢
    (refine w ?_; repeat ((first | refine VO.step rfl rfl ?_ | refine VD.end rfl rfl rfl ?_ | refine VD.mid rfl rfl rfl ?_); refine OpV.box rfl rfl rfl ?_; intro _; refine w ?_))
    ((first | refine VO.step rfl rfl ?_ | refine VD.end rfl rfl rfl ?_ | refine VD.mid rfl rfl rfl ?_); refine OpV.allocS sb_57 rfl ?_; intro n19)
    (first | refine VO.step rfl rfl ?_ | refine VD.end rfl rfl rfl ?_ | refine VD.mid rfl rfl rfl ?_)
    refine OpV.stA (vs := dx.cells) tab_ok rfl rfl rfl rfl (hdr_one _) (by (repeat first | exact .head | apply Hole.tail)) (by simp) ?_
    refine VO.ent (Ent.re (L := Row nb 22 xs :: OwnB (a4, c4) Y :: OwnB (a3, c3) D :: OwnB (a1, c1) A :: [])) ?_
    (refine w ?_; repeat ((first | refine VO.step rfl rfl ?_ | refine VD.end rfl rfl rfl ?_ | refine VD.mid rfl rfl rfl ?_); refine OpV.box rfl rfl rfl ?_; intro _; refine w ?_))
    (first | refine VO.pure rfl rfl (PureAt.ldR tab_ok rfl rfl (hr1 _ (by (focus repeat first | exact .head _ | apply List.Mem.tail))) hxn) rfl ?_ | refine VD.take rfl rfl rfl (PureAt.ldR tab_ok rfl rfl (hr1 _ (by (focus repeat first | exact .head _ | apply List.Mem.tail))) hxn) rfl ?_ | refine VQ.pure rfl rfl (PureAt.ldR tab_ok rfl rfl (hr1 _ (by (focus repeat first | exact .head _ | apply List.Mem.tail))) hxn) rfl ?_ | refine VD.end rfl rfl rfl (OpV.pure (PureAt.ldR tab_ok rfl rfl (hr1 _ (by (focus repeat first | exact .head _ | apply List.Mem.tail))) hxn) rfl ?_))
    ((first | refine VO.step rfl rfl ?_ | refine VD.end rfl rfl rfl ?_ | refine VD.mid rfl rfl rfl ?_); refine OpV.call rfl rfl (fun _ _ => by simp) (decc_ok (hLr _ (by intro p hp; simp only [List.mem_cons, List.not_mem_nil, or_false] at hp ⊢; rcases hp with e | e | e <;> simp [e])) hLc) Ent.refl rfl ?_)
    intro _ _
    obtain ⟨DY, hDY⟩ : ∃ DY, DY = CmtD.dec L := ⟨_, rfl⟩
    rw [← hDY] at p2 ⊢
    obtain ⟨l2, dy⟩ := DY
    dsimp only at p2 ⊢
    (refine w ?_; repeat ((first | refine VO.step rfl rfl ?_ | refine VD.end rfl rfl rfl ?_ | refine VD.mid rfl rfl rfl ?_); refine OpV.box rfl rfl rfl ?_; intro _; refine w ?_))
    ((first | refine VO.step rfl rfl ?_ | refine VD.end rfl rfl rfl ?_ | refine VD.mid rfl rfl rfl ?_); refine OpV.allocS sb_59 rfl ?_; intro n21)
    (first | refine VO.step rfl rfl ?_ | refine VD.end rfl rfl rfl ?_ | refine VD.mid rfl rfl rfl ?_)
    refine OpV.stA (vs := dy.cells) tab_ok rfl rfl rfl rfl (cmt_one _) (by (repeat first | exact .head | apply Hole.tail)) (by simp) ?_
    refine VO.ent (Ent.re (L := Row nb 22 xs :: OwnB (a4, c4) Y :: OwnB (a3, c3) D :: OwnB (a1, c1) A :: [])) ?_
    (refine w ?_; repeat ((first | refine VO.step rfl rfl ?_ | refine VD.end rfl rfl rfl ?_ | refine VD.mid rfl rfl rfl ?_); refine OpV.box rfl rfl rfl ?_; intro _; refine w ?_))
    (first | refine VO.pure rfl rfl (PureAt.ldR tab_ok rfl rfl (hr1 _ (by (focus repeat first | exact .head _ | apply List.Mem.tail))) hxn) rfl ?_ | refine VD.take rfl rfl rfl (PureAt.ldR tab_ok rfl rfl (hr1 _ (by (focus repeat first | exact .head _ | apply List.Mem.tail))) hxn) rfl ?_ | refine VQ.pure rfl rfl (PureAt.ldR tab_ok rfl rfl (hr1 _ (by (focus repeat first | exact .head _ | apply List.Mem.tail))) hxn) rfl ?_ | refine VD.end rfl rfl rfl (OpV.pure (PureAt.ldR tab_ok rfl rfl (hr1 _ (by (focus repeat first | exact .head _ | apply List.Mem.tail))) hxn) rfl ?_))
    ((first | refine VO.step rfl rfl ?_ | refine VD.end rfl rfl rfl ?_ | refine VD.mid rfl rfl rfl ?_); refine OpV.call rfl rfl (fun _ _ => by simp) (decs_ok (hLr _ (by intro p hp; simp only [List.mem_cons, List.not_mem_nil, or_false] at hp ⊢; rcases hp with e | e | e <;> simp [e])) hLc) Ent.refl rfl ?_)
    intro _ _
    obtain ⟨DZ, hDZ⟩ : ∃ DZ, DZ = ChkD.dec L := ⟨_, rfl⟩
    rw [← hDZ] at p3 ⊢
    obtain ⟨l3, dz⟩ := DZ
    dsimp only at p3 ⊢
    (refine w ?_; repeat ((first | refine VO.step rfl rfl ?_ | refine VD.end rfl rfl rfl ?_ | refine VD.mid rfl rfl rfl ?_); refine OpV.box rfl rfl rfl ?_; intro _; refine w ?_))
    ((first | refine VO.step rfl rfl ?_ | refine VD.end rfl rfl rfl ?_ | refine VD.mid rfl rfl rfl ?_); refine OpV.allocS sb_61 rfl ?_; intro n23)
    (first | refine VO.step rfl rfl ?_ | refine VD.end rfl rfl rfl ?_ | refine VD.mid rfl rfl rfl ?_)
    refine OpV.stA (vs := dz.cells) tab_ok rfl rfl rfl rfl (chk_one _) (by (repeat first | exact .head | apply Hole.tail)) (by simp) ?_
    refine VO.ent (Ent.re (L := Row nb 22 xs :: OwnB (a4, c4) Y :: OwnB (a3, c3) D :: OwnB (a1, c1) A :: [])) ?_
    (refine w ?_; repeat ((first | refine VO.step rfl rfl ?_ | refine VD.end rfl rfl rfl ?_ | refine VD.mid rfl rfl rfl ?_); refine OpV.box rfl rfl rfl ?_; intro _; refine w ?_))
    (first | refine VO.gF rfl rfl rfl (eqz_of p1) ?_ | refine VD.gF rfl rfl rfl (eqz_of p1) ?_)
    (refine w ?_; repeat ((first | refine VO.step rfl rfl ?_ | refine VD.end rfl rfl rfl ?_ | refine VD.mid rfl rfl rfl ?_); refine OpV.box rfl rfl rfl ?_; intro _; refine w ?_))
    (first | refine VO.gF rfl rfl rfl (eqz_of p2) ?_ | refine VD.gF rfl rfl rfl (eqz_of p2) ?_)
    (refine w ?_; repeat ((first | refine VO.step rfl rfl ?_ | refine VD.end rfl rfl rfl ?_ | refine VD.mid rfl rfl rfl ?_); refine OpV.box rfl rfl rfl ?_; intro _; refine w ?_))
    (first | refine VO.gF rfl rfl rfl (eqz_of p3) ?_ | refine VD.gF rfl rfl rfl (eqz_of p3) ?_)
    (refine w ?_; repeat ((first | refine VO.step rfl rfl ?_ | refine VD.end rfl rfl rfl ?_ | refine VD.mid rfl rfl rfl ?_); refine OpV.box rfl rfl rfl ?_; intro _; refine w ?_))
    (first | refine VO.pure rfl rfl (PureAt.ldR tab_ok rfl rfl (hr1 _ (by (focus repeat first | exact .head _ | apply List.Mem.tail))) hxn) rfl ?_ | refine VD.take rfl rfl rfl (PureAt.ldR tab_ok rfl rfl (hr1 _ (by (focus repeat first | exact .head _ | apply List.Mem.tail))) hxn) rfl ?_ | refine VQ.pure rfl rfl (PureAt.ldR tab_ok rfl rfl (hr1 _ (by (focus repeat first | exact .head _ | apply List.Mem.tail))) hxn) rfl ?_ | refine VD.end rfl rfl rfl (OpV.pure (PureAt.ldR tab_ok rfl rfl (hr1 _ (by (focus repeat first | exact .head _ | apply List.Mem.tail))) hxn) rfl ?_))
    ((first | refine VO.step rfl rfl ?_ | refine VD.end rfl rfl rfl ?_ | refine VD.mid rfl rfl rfl ?_); refine OpV.call rfl rfl (fun _ _ => by simp) (kind_ok (hLr _ (by intro p hp; simp only [List.mem_cons, List.not_mem_nil, or_false] at hp ⊢; rcases hp with e | e | e <;> simp [e])) hLc) Ent.refl rfl ?_)
    intro _ _
    rw [p4]
    (refine w ?_; repeat ((first | refine VO.step rfl rfl ?_ | refine VD.end rfl rfl rfl ?_ | refine VD.mid rfl rfl rfl ?_); refine OpV.box rfl rfl rfl ?_; intro _; refine w ?_))
    (refine VC.condFe rfl rfl (by rw [IntWalk.i64_in _ ⟨by omega, by omega⟩]; simp) ?_)
    (refine w ?_; repeat ((first | refine VO.step rfl rfl ?_ | refine VD.end rfl rfl rfl ?_ | refine VD.mid rfl rfl rfl ?_); refine OpV.box rfl rfl rfl ?_; intro _; refine w ?_))
    refine VE.round (n + 1) (by omega) (by omega) ⟨rfl, rfl, rfl, rfl, rfl, asV rfl (by congr 1), trivial⟩ Ent.refl
  · (refine w ?_; repeat ((first | refine VO.step rfl rfl ?_ | refine VD.end rfl rfl rfl ?_ | refine VD.mid rfl rfl rfl ?_); refine OpV.box rfl rfl rfl ?_; intro _; refine w ?_))
    ((first | refine VO.step rfl rfl ?_ | refine VD.end rfl rfl rfl ?_ | refine VD.mid rfl rfl rfl ?_); refine OpV.call rfl rfl (fun _ _ => by simp) (recknown_ok) Ent.refl rfl ?_)
    intro _ _
    have hlD : e3 = 0 → D.length = 128 := fun q => looks_len (cmt_look (b := D) (by rw [hb3' q]))
    have hlY : e4 = 0 → Y.length = 128 := fun q => looks_len (chk_look (b := Y) (by rw [hb4' q]))
    rcases hE3 with rfl | rfl
    · rcases hE4 with rfl | rfl
      · (refine w ?_; repeat ((first | refine VO.step rfl rfl ?_ | refine VD.end rfl rfl rfl ?_ | refine VD.mid rfl rfl rfl ?_); refine OpV.box rfl rfl rfl ?_; intro _; refine w ?_))
        (first | refine VO.gT rfl rfl rfl (by rw [hlD rfl]; rfl) ?_ | refine VD.gT rfl rfl rfl (by rw [hlD rfl]; rfl) ?_)
        (refine w ?_; repeat ((first | refine VO.step rfl rfl ?_ | refine VD.end rfl rfl rfl ?_ | refine VD.mid rfl rfl rfl ?_); refine OpV.box rfl rfl rfl ?_; intro _; refine w ?_))
        (refine VE.done1 rfl ?_ ?_)
        · rw [hlY rfl]; rfl
        · exact Ent.re
      · (refine w ?_; repeat ((first | refine VO.step rfl rfl ?_ | refine VD.end rfl rfl rfl ?_ | refine VD.mid rfl rfl rfl ?_); refine OpV.box rfl rfl rfl ?_; intro _; refine w ?_))
        (first | refine VO.gT rfl rfl rfl (by rw [hlD rfl]; rfl) ?_ | refine VD.gT rfl rfl rfl (by rw [hlD rfl]; rfl) ?_)
        (refine w ?_; repeat ((first | refine VO.step rfl rfl ?_ | refine VD.end rfl rfl rfl ?_ | refine VD.mid rfl rfl rfl ?_); refine OpV.box rfl rfl rfl ?_; intro _; refine w ?_))
        (refine VE.done1 rfl ?_ ?_)
        · rfl
        · exact Ent.re
    · rcases hE4 with rfl | rfl
      · (refine w ?_; repeat ((first | refine VO.step rfl rfl ?_ | refine VD.end rfl rfl rfl ?_ | refine VD.mid rfl rfl rfl ?_); refine OpV.box rfl rfl rfl ?_; intro _; refine w ?_))
        (refine VE.done1 rfl ?_ ?_)
        · rw [hlY rfl]; rfl
        · exact Ent.re
      · (refine w ?_; repeat ((first | refine VO.step rfl rfl ?_ | refine VD.end rfl rfl rfl ?_ | refine VD.mid rfl rfl rfl ?_); refine OpV.box rfl rfl rfl ?_; intro _; refine w ?_))
        (refine VE.done1 rfl ?_ ?_)
        · rfl
        · exact Ent.re
end Go.Proofs.Ytgkpdpoblofehaa
