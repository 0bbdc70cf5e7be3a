/- Package super: Decode. -/
import Derived.Test.YtgkpdpoblofehaaPe
set_option maxRecDepth 8000
set_option linter.unusedVariables false
set_option linter.unusedSimpArgs false
set_option linter.unusedSectionVars false
namespace Go.Proofs.Ytgkpdpoblofehaa
open Go.RowKit Go.Sl
attribute [local irreducible] Own

def noSup : SuperD := ⟨0, 0, 0, 0, 0, 0, 0, 0, false, false, none, 0, [], 0⟩
instance decEnc (l : List UInt8) (s : SuperD) : Decidable (s.enc = (0, l)) := inferInstance
def sdec (l : List UInt8) : Int × SuperD :=
  if l.length ≠ 128 then (4, noSup) else if l.take 8 ≠ magicS then (70, noSup) else if numAt l 124 4 ≠ (crcS (l.take 124)).toNat then (71, noSup) else
  if (SuperD.parse l).enc = (0, l) then (0, SuperD.parse l) else (70, noSup)
theorem hold_enc (s : SuperD) (x : Option Addr × Nat) : (s.hold x s.states).enc = s.enc := by
  have h : (s.hold x s.states).okP ↔ s.okP := Iff.rfl
  unfold SuperD.enc
  by_cases hk : s.okP
  · rw [if_pos hk, if_pos (h.2 hk)]; rfl
  · rw [if_neg hk, if_neg (fun q => hk (h.1 q))]
theorem parse_fit (l : List UInt8) (x : Option Addr × Nat) (hx : (SuperD.parse l).states.length ≤ x.2) : ((SuperD.parse l).hold x (SuperD.parse l).states).fit := by
  have h := numAt_lt l
  have hm : (SuperD.parse l).states.length ≤ 16 := by
    show (stsOf _ _).length ≤ 16
    rw [stsOf_length]; exact Nat.min_le_right _ _
  have h1 := h 8 8; have h2 := h 16 8; have h3 := h 24 8; have h4 := h 32 1; have h5 := h 33 1; have h6 := h 34 1; have h7 := h 36 2; have h8 := h 38 2; have h9 := h 40 2
  refine ⟨h1, h2, h3, ?_, ?_, ?_, ?_, ?_, ?_, by show (SuperD.parse l).states.length ≤ _; omega, hx⟩ <;> (simp only [SuperD.hold, SuperD.parse]; omega)
theorem hasprefix_ok {W : World} {R : List SProp} {ao ao' : Option Addr} {cap cap' : Nat} {a m : List UInt8} (ha : Rds W R 1 ao a.length (bytes a)) (hm : Rds W R 1 ao' m.length (bytes m)) (hle : m.length ≤ a.length) (hcap : a.length ≤ cap) :
    Does1 W Try.prog 95 [.slice ao a.length cap, .slice ao' m.length cap'] R (.bool (decide (a.take m.length = m))) R := by
  have hh := rds_head ha m.length hle
  have e : (a.take m.length).length = m.length := by rw [List.length_take]; omega
  (refine Does.enter Try.func95 Try.ntmps95 rfl rfl ?_)
  (refine w ?_; repeat ((first | refine VO.step rfl rfl ?_ | refine VD.end rfl rfl rfl ?_ | refine VD.mid rfl rfl rfl ?_); refine OpV.box rfl rfl rfl ?_; intro _; refine w ?_))
  (first | refine VO.gT rfl rfl rfl (by simpa using hle) ?_ | refine VD.gT rfl rfl rfl (by simpa using hle) ?_)
  (refine w ?_; repeat ((first | refine VO.step rfl rfl ?_ | refine VD.end rfl rfl rfl ?_ | refine VD.mid rfl rfl rfl ?_); refine OpV.box rfl rfl rfl ?_; intro _; refine w ?_))
  have q := equal_ok (W := W) (R := R) (cap := cap) (cap' := cap') (by rw [e]; exact hh) hm
  rw [e] at q
  ((first | refine VO.step rfl rfl ?_ | refine VD.end rfl rfl rfl ?_ | refine VD.mid rfl rfl rfl ?_); refine OpV.call rfl rfl (fun _ _ => by simp) (q) Ent.refl rfl ?_)
  intro _ _
  (refine w ?_; repeat ((first | refine VO.step rfl rfl ?_ | refine VD.end rfl rfl rfl ?_ | refine VD.mid rfl rfl rfl ?_); refine OpV.box rfl rfl rfl ?_; intro _; refine w ?_))
  (refine VE.done1 rfl ?_ ?_)
  · rfl
  · exact Ent.refl
/-- What Decode leaves: its states are its caller's. -/
abbrev sdecG (l : List UInt8) (R : List SProp) (x : Option Addr × Nat) : List SProp := OwnSt x (sdec l).2.states :: R
set_option maxHeartbeats 4000000 in
theorem sdecode_ok {W : World} {R : List SProp} {ao : Option Addr} {cap : Nat} {l : List UInt8} (hr : Rds W R 1 ao l.length (bytes l)) (hcap : l.length ≤ cap) :
    Does W Try.prog 76 [.slice ao l.length cap] R (β := Option Addr × Nat) (fun _ => True) (fun x => .tuple #[.agg ((sdec l).2.hold x (sdec l).2.states).cells.toArray, .int .u16 (sdec l).1]) (sdecG l R) := by
  (refine Does.enter Try.func76 Try.ntmps76 rfl rfl ?_)
  (refine w ?_; repeat ((first | refine VO.step rfl rfl ?_ | refine VD.end rfl rfl rfl ?_ | refine VD.mid rfl rfl rfl ?_); refine OpV.box rfl rfl rfl ?_; intro _; refine w ?_))
  ((first | refine VO.step rfl rfl ?_ | refine VD.end rfl rfl rfl ?_ | refine VD.mid rfl rfl rfl ?_); refine OpV.allocS sb_89 rfl ?_; intro nz)
  (refine w ?_; repeat ((first | refine VO.step rfl rfl ?_ | refine VD.end rfl rfl rfl ?_ | refine VD.mid rfl rfl rfl ?_); refine OpV.box rfl rfl rfl ?_; intro _; refine w ?_))
  (refine VC.cond rfl rfl ?_ ?_ <;> intro hc)
  · have hb : l.length ≠ 128 := by have := hc; simp at this; omega
    have e : sdec l = (4, noSup) := if_pos hb
    (refine w ?_; repeat ((first | refine VO.step rfl rfl ?_ | refine VD.end rfl rfl rfl ?_ | refine VD.mid rfl rfl rfl ?_); refine OpV.box rfl rfl rfl ?_; intro _; refine w ?_))
    (apply VO.pure rfl rfl; apply PureAt.build sb_89 (pv := []) rfl; rfl; rfl)
    (first | refine VO.step rfl rfl ?_ | refine VD.end rfl rfl rfl ?_ | refine VD.mid rfl rfl rfl ?_)
    refine OpV.stA tab_ok rfl rfl rfl rfl (super_one noSup) (by (repeat first | exact .head | apply Hole.tail)) (by simp) ?_
    (refine w ?_; repeat ((first | refine VO.step rfl rfl ?_ | refine VD.end rfl rfl rfl ?_ | refine VD.mid rfl rfl rfl ?_); refine OpV.box rfl rfl rfl ?_; intro _; refine w ?_))
    refine VE.results2 (.inl rfl) (none, 0) rfl (ResIs.agg (vs := noSup.cells) tab_ok rfl rfl (by (focus repeat first | exact .head _ | apply List.Mem.tail)) rfl rfl) (.tmp rfl) trivial (by rw [e]; rfl) ?_
    unfold sdecG; rw [e]
    exact Ent.trans (Ent.re (L := R)) (fun w hw => hw.ownNil _ _)
  have h128 : l.length = 128 := by have := hc; simp at this; omega
  obtain ⟨a, rfl⟩ : ∃ a, ao = some a := by cases ao with | none => have := hr.nil rfl; omega | some a => exact ⟨a, rfl⟩
  (refine w ?_; repeat ((first | refine VO.step rfl rfl ?_ | refine VD.end rfl rfl rfl ?_ | refine VD.mid rfl rfl rfl ?_); refine OpV.box rfl rfl rfl ?_; intro _; refine w ?_))
  ((first | refine VO.step rfl rfl ?_ | refine VD.end rfl rfl rfl ?_ | refine VD.mid rfl rfl rfl ?_); refine OpV.call rfl rfl (fun _ _ => by simp) (magicS_ok) Ent.re rfl ?_)
  intro mb _
  (refine w ?_; repeat ((first | refine VO.step rfl rfl ?_ | refine VD.end rfl rfl rfl ?_ | refine VD.mid rfl rfl rfl ?_); refine OpV.box rfl rfl rfl ?_; intro _; refine w ?_))
  have hr0 : Rds W (MRow mb 5 (bytes magicS) :: Row nz 89 noSup.cells :: R) 1 (some a) l.length (bytes l) := hr.ent (Ent.drop (Ent.drop Ent.refl))
  (first | refine VO.step rfl rfl ?_ | refine VD.end rfl rfl rfl ?_ | refine VD.mid rfl rfl rfl ?_)
  refine OpV.call rfl rfl (fun _ _ => by simp) (hasprefix_ok (m := magicS) hr0 (Rds.mrow (bytes_one _) (.head _) rfl) (by rw [h128]; decide) hcap) Ent.refl rfl ?_
  intro _ _
  rw [show magicS.length = 8 from rfl]
  (refine w ?_; repeat ((first | refine VO.step rfl rfl ?_ | refine VD.end rfl rfl rfl ?_ | refine VD.mid rfl rfl rfl ?_); refine OpV.box rfl rfl rfl ?_; intro _; refine w ?_))
  (refine VC.cond rfl rfl ?_ ?_ <;> intro hc)
  · have hb : l.take 8 ≠ magicS := by simpa using hc
    have e : sdec l = (70, noSup) := by unfold sdec; rw [if_neg (by omega), if_pos hb]
    (refine w ?_; repeat ((first | refine VO.step rfl rfl ?_ | refine VD.end rfl rfl rfl ?_ | refine VD.mid rfl rfl rfl ?_); refine OpV.box rfl rfl rfl ?_; intro _; refine w ?_))
    (apply VO.pure rfl rfl; apply PureAt.build sb_89 (pv := []) rfl; rfl; rfl)
    (first | refine VO.step rfl rfl ?_ | refine VD.end rfl rfl rfl ?_ | refine VD.mid rfl rfl rfl ?_)
    refine OpV.stA tab_ok rfl rfl rfl rfl (super_one noSup) (by (repeat first | exact .head | apply Hole.tail)) (by simp) ?_
    (refine w ?_; repeat ((first | refine VO.step rfl rfl ?_ | refine VD.end rfl rfl rfl ?_ | refine VD.mid rfl rfl rfl ?_); refine OpV.box rfl rfl rfl ?_; intro _; refine w ?_))
    refine VE.results2 (.inl rfl) (none, 0) rfl (ResIs.agg (vs := noSup.cells) tab_ok rfl rfl (by (focus repeat first | exact .head _ | apply List.Mem.tail)) rfl rfl) (.tmp rfl) trivial (by rw [e]; rfl) ?_
    unfold sdecG; rw [e]
    exact Ent.trans (Ent.re (L := R)) (fun w hw => hw.ownNil _ _)
  have hmag : l.take 8 = magicS := by simpa using hc
  have hp := rds_part hr 124 128 (by omega) (by omega) hcap
  rw [show 128 - 124 = 4 from rfl] at hp
  have hlt := numAt_lt l 124 4
  have h124 : (l.take 124).length = 124 := by rw [List.length_take]; omega
  refine VC.ent (Ent.re (L := Row nz 89 noSup.cells :: R)) ?_
  (refine w ?_; repeat ((first | refine VO.step rfl rfl ?_ | refine VD.end rfl rfl rfl ?_ | refine VD.mid rfl rfl rfl ?_); refine OpV.box rfl rfl rfl ?_; intro _; refine w ?_))
  have hg := Rk.got_good (k := ⟨(l.drop 124).take 4, 0, 0, 0⟩) (n := 4) rfl (by simp; omega)
  have hsum : ∀ q, Does1 W Try.prog 84 [.slice (some a) 124 cap] (ReaderR q ⟨(l.drop 124).take 4, 4, 0, 0⟩ :: Row nz 89 noSup.cells :: R) (.int .u32 ((crcS (l.take 124)).toNat : Int)) (ReaderR q ⟨(l.drop 124).take 4, 4, 0, 0⟩ :: Row nz 89 noSup.cells :: R) := by
    intro q
    have := sum_ok (cap := cap) (l := l.take 124) (W := W) (R := ReaderR q ⟨(l.drop 124).take 4, 4, 0, 0⟩ :: Row nz 89 noSup.cells :: R) (ao := some a) (by rw [h124]; exact rds_head (hr.ent (Ent.drop (Ent.drop Ent.refl))) 124 (by omega)) (by omega)
    rwa [h124] at this
  (refine VC.drawn [2, 3] 6 [0, 1, 4, 5, 2, 3, 6, 7] (Row nz 89 noSup.cells :: R) rfl (by kernel_rfl) (by kernel_rfl) Ent.re ?_)
  (refine w ?_; repeat ((first | refine VO.step rfl rfl ?_ | refine VD.end rfl rfl rfl ?_ | refine VD.mid rfl rfl rfl ?_); refine OpV.box rfl rfl rfl ?_; intro _; refine w ?_))
  refine VD.re 20 (.slice (subA (some a) cap 124 1) 4 (cap - 124)) rfl (by rw [h128]) ?_
  (first | refine VO.step rfl rfl ?_ | refine VD.end rfl rfl rfl ?_ | refine VD.mid rfl rfl rfl ?_)
  refine OpV.call rfl rfl (fun _ _ => by simp) (read_ok (R := Row nz 89 noSup.cells :: R) (hp.ent (Ent.drop Ent.refl)) (by omega)) Ent.re rfl ?_
  intro q _
  (refine w ?_; repeat ((first | refine VO.step rfl rfl ?_ | refine VD.end rfl rfl rfl ?_ | refine VD.mid rfl rfl rfl ?_); refine OpV.box rfl rfl rfl ?_; intro _; refine w ?_))
  (((first | refine VO.step rfl rfl ?_ | refine VD.end rfl rfl rfl ?_ | refine VD.mid rfl rfl rfl ?_); refine OpV.call rfl rfl (fun _ _ => by simp) (r32_ok q ⟨(l.drop 124).take 4, 0, 0, 0⟩) Ent.re rfl ?_); intro _ _)
  rw [hg.1, hg.2.2]
  dsimp only
  rw [show leVal (List.take 4 (List.drop 0 (List.take 4 (List.drop 124 l)))) = numAt l 124 4 by unfold numAt; rw [List.drop_zero, List.take_take]; rfl, Nat.zero_add]
  (refine w ?_; repeat ((first | refine VO.step rfl rfl ?_ | refine VD.end rfl rfl rfl ?_ | refine VD.mid rfl rfl rfl ?_); refine OpV.box rfl rfl rfl ?_; intro _; refine w ?_))
  ((first | refine VO.step rfl rfl ?_ | refine VD.end rfl rfl rfl ?_ | refine VD.mid rfl rfl rfl ?_); refine OpV.call rfl rfl (fun _ _ => by simp) (hsum q) Ent.refl rfl ?_)
  intro _ _
  (refine w ?_; repeat ((first | refine VO.step rfl rfl ?_ | refine VD.end rfl rfl rfl ?_ | refine VD.mid rfl rfl rfl ?_); refine OpV.box rfl rfl rfl ?_; intro _; refine w ?_))
  (refine VC.cond rfl rfl ?_ ?_ <;> intro hc)
  · have hb : numAt l 124 4 ≠ (crcS (l.take 124)).toNat := by have := hc; simp at this; omega
    have e : sdec l = (71, noSup) := by unfold sdec; rw [if_neg (by omega), if_neg (fun h => h hmag), if_pos hb]
    (refine w ?_; repeat ((first | refine VO.step rfl rfl ?_ | refine VD.end rfl rfl rfl ?_ | refine VD.mid rfl rfl rfl ?_); refine OpV.box rfl rfl rfl ?_; intro _; refine w ?_))
    (apply VO.pure rfl rfl; apply PureAt.build sb_89 (pv := []) rfl; rfl; rfl)
    (first | refine VO.step rfl rfl ?_ | refine VD.end rfl rfl rfl ?_ | refine VD.mid rfl rfl rfl ?_)
    refine OpV.stA tab_ok rfl rfl rfl rfl (super_one noSup) (by (repeat first | exact .head | apply Hole.tail)) (by simp) ?_
    (refine w ?_; repeat ((first | refine VO.step rfl rfl ?_ | refine VD.end rfl rfl rfl ?_ | refine VD.mid rfl rfl rfl ?_); refine OpV.box rfl rfl rfl ?_; intro _; refine w ?_))
    refine VE.results2 (.inl rfl) (none, 0) rfl (ResIs.agg (vs := noSup.cells) tab_ok rfl rfl (by (focus repeat first | exact .head _ | apply List.Mem.tail)) rfl rfl) (.tmp rfl) trivial (by rw [e]; rfl) ?_
    unfold sdecG; rw [e]
    exact Ent.trans (Ent.re (L := R)) (fun w hw => hw.ownNil _ _)
  have hcrc : numAt l 124 4 = (crcS (l.take 124)).toNat := by have := hc; simp at this; omega
  have hdecT : (SuperD.parse l).enc = (0, l) → sdec l = (0, SuperD.parse l) := by
    intro h; unfold sdec; rw [if_neg (by omega), if_neg (fun h => h hmag), if_neg (fun h => h hcrc), if_pos h]
  have hdecF : (SuperD.parse l).enc ≠ (0, l) → sdec l = (70, noSup) := by
    intro h; unfold sdec; rw [if_neg (by omega), if_neg (fun h => h hmag), if_neg (fun h => h hcrc), if_neg h]
  refine VC.ent (Ent.re (L := Row nz 89 noSup.cells :: R)) ?_
  (refine w ?_; repeat ((first | refine VO.step rfl rfl ?_ | refine VD.end rfl rfl rfl ?_ | refine VD.mid rfl rfl rfl ?_); refine OpV.box rfl rfl rfl ?_; intro _; refine w ?_))
  ((first | refine VO.step rfl rfl ?_ | refine VD.end rfl rfl rfl ?_ | refine VD.mid rfl rfl rfl ?_); refine OpV.allocS sb_89 rfl ?_; intro ns)
  (refine w ?_; repeat ((first | refine VO.step rfl rfl ?_ | refine VD.end rfl rfl rfl ?_ | refine VD.mid rfl rfl rfl ?_); refine OpV.box rfl rfl rfl ?_; intro _; refine w ?_))
  refine VO.ent (Ent.re (L := Row ns 89 noSup.cells :: Row nz 89 noSup.cells :: R)) ?_
  ((first | refine VO.step rfl rfl ?_ | refine VD.end rfl rfl rfl ?_ | refine VD.mid rfl rfl rfl ?_); refine OpV.call rfl rfl (fun _ _ => by simp) (read_ok (hr.ent (Ent.drop (Ent.drop Ent.refl))) (by omega)) Ent.refl rfl ?_)
  intro r _
  (refine w ?_; repeat ((first | refine VO.step rfl rfl ?_ | refine VD.end rfl rfl rfl ?_ | refine VD.mid rfl rfl rfl ?_); refine OpV.box rfl rfl rfl ?_; intro _; refine w ?_))
  ((first | refine VO.step rfl rfl ?_ | refine VD.end rfl rfl rfl ?_ | refine VD.mid rfl rfl rfl ?_); refine OpV.call rfl rfl (fun _ _ => by simp) (fields_ok) Ent.refl rfl ?_)
  rintro ⟨bx, fb⟩ -
  dsimp only
  (refine w ?_; repeat ((first | refine VO.step rfl rfl ?_ | refine VD.end rfl rfl rfl ?_ | refine VD.mid rfl rfl rfl ?_); refine OpV.box rfl rfl rfl ?_; intro _; refine w ?_))
  refine VC.loop (α := Nat × Option Addr × Nat) (fun y => y.1 ≤ 13) (fun y => if y.1 = 13 then OwnSt y.2 (SuperD.parse l).states :: Row ns 89 ((SuperD.parse l).hold y.2 (SuperD.parse l).states).cells :: Row nz 89 noSup.cells :: R
      else ReaderR r (rkAt l y.1) :: Row ns 89 ((SuperD.parse l).upto y.1).cells :: Row fb 160 (fieldCells bx) :: Row nz 89 noSup.cells :: (boxes bx ++ R))
    (fun y => [(0, .slice (some a) l.length cap), (2, .pointer (some ⟨nz, 0, none⟩)), (4, .pointer (some ⟨ns, 0, none⟩)), (5, .pointer (some ⟨r, 0, none⟩)), (30, .slice (some ⟨fb, 0, none⟩) 13 13), (31, .int .i64 13), (32, .int .i64 y.1)]) (fun y => 13 - y.1) rfl (0, none, 0) (by decide) ?_ ⟨rfl, rfl, rfl, rfl, rfl, rfl, rfl, trivial⟩ ?_
  · dsimp only
    rw [if_neg (by decide)]
    refine Ent.trans (H' := Row fb 160 (fieldCells bx) :: (ReaderR r ⟨l, 0, 0, 0⟩ :: Row ns 89 noSup.cells :: Row nz 89 noSup.cells :: (boxes bx ++ R))) (fun w hw => hw.perm (List.Perm.cons _ ?_)) ?_
    · exact (List.perm_append_comm (l₁ := boxes bx) (l₂ := [ReaderR r ⟨l, 0, 0, 0⟩, Row ns 89 noSup.cells, Row nz 89 noSup.cells] ++ R)).trans (by simp only [List.cons_append, List.nil_append]; exact List.Perm.cons _ (List.Perm.cons _ (List.Perm.cons _ List.perm_append_comm)))
    · show Ent W _ (ReaderR r ⟨l, 0, 0, 0⟩ :: Row ns 89 noSup.cells :: Row fb 160 (fieldCells bx) :: Row nz 89 noSup.cells :: (boxes bx ++ R))
      exact Ent.re
  rintro ⟨k, x⟩ hk
  dsimp only at hk ⊢
  by_cases h13 : k = 13
  · subst h13
    rw [if_pos rfl]
    (refine w ?_; repeat ((first | refine VO.step rfl rfl ?_ | refine VD.end rfl rfl rfl ?_ | refine VD.mid rfl rfl rfl ?_); refine OpV.box rfl rfl rfl ?_; intro _; refine w ?_))
    refine VO.know (p := x.1 = none → (SuperD.parse l).states.length = 0) (fun w hw => hw.ownNone (.head _)) ?_
    intro hn
    refine VO.know (p := (SuperD.parse l).states.length ≤ x.2) (fun w hw => hw.ownCap (.head _)) ?_
    intro hcx
    have hfit := parse_fit l x hcx
    ((first | refine VO.step rfl rfl ?_ | refine VD.end rfl rfl rfl ?_ | refine VD.mid rfl rfl rfl ?_); refine OpV.call rfl rfl (fun _ _ => by simp) (sencode_ok _ hfit (Rds.own (bytes_one _) (.head _) (by simp [SuperD.hold]) (by simpa [SuperD.hold] using hn))) Ent.refl rfl ?_)
    rw [hold_enc]
    rintro ⟨ea, ec⟩ -
    generalize hE : (SuperD.parse l).enc = E at *
    obtain ⟨e1, e2⟩ := E
    dsimp only
    refine VO.know (p := ea = none → e2.length = 0) (fun w hw => hw.ownNone (.head _)) ?_
    intro hne
    (refine w ?_; repeat ((first | refine VO.step rfl rfl ?_ | refine VD.end rfl rfl rfl ?_ | refine VD.mid rfl rfl rfl ?_); refine OpV.box rfl rfl rfl ?_; intro _; refine w ?_))
    by_cases hgood : (e1, e2) = (0, l)
    · cases hgood
      have hdec := hdecT rfl
      (refine w ?_; repeat ((first | refine VO.step rfl rfl ?_ | refine VD.end rfl rfl rfl ?_ | refine VD.mid rfl rfl rfl ?_); refine OpV.box rfl rfl rfl ?_; intro _; refine w ?_))
      ((first | refine VO.step rfl rfl ?_ | refine VD.end rfl rfl rfl ?_ | refine VD.mid rfl rfl rfl ?_); refine OpV.call rfl rfl (fun _ _ => by simp) (equal_ok (own_rds (x := (ea, ec)) hne (by (focus repeat first | exact .head _ | apply List.Mem.tail))) (hr.ent (Ent.drop (Ent.drop (Ent.drop (Ent.drop Ent.refl)))))) Ent.refl rfl ?_)
      intro _ _
      rw [decide_eq_true (rfl : l = l)]
      (refine w ?_; repeat ((first | refine VO.step rfl rfl ?_ | refine VD.end rfl rfl rfl ?_ | refine VD.mid rfl rfl rfl ?_); refine OpV.box rfl rfl rfl ?_; intro _; refine w ?_))
      (first | refine VO.step rfl rfl ?_ | refine VD.end rfl rfl rfl ?_ | refine VD.mid rfl rfl rfl ?_)
      refine OpV.stA (vs := ((SuperD.parse l).hold x (SuperD.parse l).states).cells) tab_ok rfl rfl rfl rfl (super_one _) (by (repeat first | exact .head | apply Hole.tail)) (by simp) ?_
      (refine w ?_; repeat ((first | refine VO.step rfl rfl ?_ | refine VD.end rfl rfl rfl ?_ | refine VD.mid rfl rfl rfl ?_); refine OpV.box rfl rfl rfl ?_; intro _; refine w ?_))
      refine VE.results2 (.inl rfl) x rfl (ResIs.agg (vs := ((SuperD.parse l).hold x (SuperD.parse l).states).cells) tab_ok rfl rfl (by (focus repeat first | exact .head _ | apply List.Mem.tail)) rfl rfl) (.tmp rfl) trivial (by rw [hdec]) ?_
      unfold sdecG; rw [hdec]
      exact Ent.re
    · have hdec := hdecF hgood
      ((first | refine VO.split rfl rfl rfl ?_ ?_ | refine VD.split rfl rfl rfl ?_ ?_) <;> intro hb)
      · (refine w ?_; repeat ((first | refine VO.step rfl rfl ?_ | refine VD.end rfl rfl rfl ?_ | refine VD.mid rfl rfl rfl ?_); refine OpV.box rfl rfl rfl ?_; intro _; refine w ?_))
        (apply VO.pure rfl rfl; apply PureAt.build sb_89 (pv := []) rfl; rfl; rfl)
        (first | refine VO.step rfl rfl ?_ | refine VD.end rfl rfl rfl ?_ | refine VD.mid rfl rfl rfl ?_)
        refine OpV.stA tab_ok rfl rfl rfl rfl (super_one noSup) (by (repeat first | exact .head | apply Hole.tail)) (by simp) ?_
        (refine w ?_; repeat ((first | refine VO.step rfl rfl ?_ | refine VD.end rfl rfl rfl ?_ | refine VD.mid rfl rfl rfl ?_); refine OpV.box rfl rfl rfl ?_; intro _; refine w ?_))
        refine VE.results2 (.inl rfl) (none, 0) rfl (ResIs.agg (vs := noSup.cells) tab_ok rfl rfl (by (focus repeat first | exact .head _ | apply List.Mem.tail)) rfl rfl) (.tmp rfl) trivial (by rw [hdec]; rfl) ?_
        unfold sdecG; rw [hdec]
        exact Ent.trans (Ent.re (L := R)) (fun w hw => hw.ownNil _ _)
      · have he1 : e1 = 0 := by simpa using hb
        have hne2 : e2 ≠ l := fun h => hgood (by rw [he1, h])
        (refine w ?_; repeat ((first | refine VO.step rfl rfl ?_ | refine VD.end rfl rfl rfl ?_ | refine VD.mid rfl rfl rfl ?_); refine OpV.box rfl rfl rfl ?_; intro _; refine w ?_))
        ((first | refine VO.step rfl rfl ?_ | refine VD.end rfl rfl rfl ?_ | refine VD.mid rfl rfl rfl ?_); refine OpV.call rfl rfl (fun _ _ => by simp) (equal_ok (own_rds (x := (ea, ec)) hne (by (focus repeat first | exact .head _ | apply List.Mem.tail))) (hr.ent (Ent.drop (Ent.drop (Ent.drop (Ent.drop Ent.refl)))))) Ent.refl rfl ?_)
        intro _ _
        rw [decide_eq_false hne2]
        (refine w ?_; repeat ((first | refine VO.step rfl rfl ?_ | refine VD.end rfl rfl rfl ?_ | refine VD.mid rfl rfl rfl ?_); refine OpV.box rfl rfl rfl ?_; intro _; refine w ?_))
        (apply VO.pure rfl rfl; apply PureAt.build sb_89 (pv := []) rfl; rfl; rfl)
        (first | refine VO.step rfl rfl ?_ | refine VD.end rfl rfl rfl ?_ | refine VD.mid rfl rfl rfl ?_)
        refine OpV.stA tab_ok rfl rfl rfl rfl (super_one noSup) (by (repeat first | exact .head | apply Hole.tail)) (by simp) ?_
        (refine w ?_; repeat ((first | refine VO.step rfl rfl ?_ | refine VD.end rfl rfl rfl ?_ | refine VD.mid rfl rfl rfl ?_); refine OpV.box rfl rfl rfl ?_; intro _; refine w ?_))
        refine VE.results2 (.inl rfl) (none, 0) rfl (ResIs.agg (vs := noSup.cells) tab_ok rfl rfl (by (focus repeat first | exact .head _ | apply List.Mem.tail)) rfl rfl) (.tmp rfl) trivial (by rw [hdec]; rfl) ?_
        unfold sdecG; rw [hdec]
        exact Ent.trans (Ent.re (L := R)) (fun w hw => hw.ownNil _ _)
  · have hlt13 : k < 13 := by omega
    rw [if_neg h13]
    (refine w ?_; repeat ((first | refine VO.step rfl rfl ?_ | refine VD.end rfl rfl rfl ?_ | refine VD.mid rfl rfl rfl ?_); refine OpV.box rfl rfl rfl ?_; intro _; refine w ?_))
    (refine VC.condTe rfl rfl (decide_eq_true (by omega)) ?_)
    have hat := fieldCells_at bx k hlt13
    have hone : ∀ u ∈ [((pairs bx)[k]'(by rw [pairs_length]; exact hlt13)).1, ((pairs bx)[k]'(by rw [pairs_length]; exact hlt13)).2], u.oneCell' = true := fun u hu => fieldCells_one bx u (List.drop_subset _ _ (List.take_subset _ _ (by rw [hat]; exact hu)))
    have hrow : Rds W (ReaderR r (rkAt l k) :: Row ns 89 ((SuperD.parse l).upto k).cells :: Row fb 160 (fieldCells bx) :: Row nz 89 noSup.cells :: (boxes bx ++ R)) 2 (some ⟨fb, 0, none⟩) 13 (fieldCells bx) := Rds.row (fieldCells_one bx) (by (focus repeat first | exact .head _ | apply List.Mem.tail)) rfl
    by_cases h12 : k = 12
    · (refine w ?_; repeat ((first | refine VO.step rfl rfl ?_ | refine VD.end rfl rfl rfl ?_ | refine VD.mid rfl rfl rfl ?_); refine OpV.box rfl rfl rfl ?_; intro _; refine w ?_))
      (first | refine VO.pure rfl rfl (PureAt.ldRA tab_ok rfl rfl hrow hat rfl) rfl ?_ | refine VD.take rfl rfl rfl (PureAt.ldRA tab_ok rfl rfl hrow hat rfl) rfl ?_ | refine VQ.pure rfl rfl (PureAt.ldRA tab_ok rfl rfl hrow hat rfl) rfl ?_ | refine VD.end rfl rfl rfl (OpV.pure (PureAt.ldRA tab_ok rfl rfl hrow hat rfl) rfl ?_))
      (refine w ?_; repeat ((first | refine VO.step rfl rfl ?_ | refine VD.end rfl rfl rfl ?_ | refine VD.mid rfl rfl rfl ?_); refine OpV.box rfl rfl rfl ?_; intro _; refine w ?_))
      ((first | refine VO.step rfl rfl ?_ | refine VD.end rfl rfl rfl ?_ | refine VD.mid rfl rfl rfl ?_); refine OpV.allocS sbF rfl ?_; intro n7)
      (first | refine VO.step rfl rfl ?_ | refine VD.end rfl rfl rfl ?_ | refine VD.mid rfl rfl rfl ?_)
      refine OpV.stA tab_ok rfl rfl rfl rfl hone (by (repeat first | exact .head | apply Hole.tail)) (by simp) ?_
      subst h12
      (refine w ?_; repeat ((first | refine VO.step rfl rfl ?_ | refine VD.end rfl rfl rfl ?_ | refine VD.mid rfl rfl rfl ?_); refine OpV.box rfl rfl rfl ?_; intro _; refine w ?_))
      ((first | refine VO.step rfl rfl ?_ | refine VD.end rfl rfl rfl ?_ | refine VD.mid rfl rfl rfl ?_); refine OpV.call rfl rfl (fun _ _ => by simp) (gets_states h128 r ns) Ent.re rfl ?_)
      intro y _
      (refine w ?_; repeat ((first | refine VO.step rfl rfl ?_ | refine VD.end rfl rfl rfl ?_ | refine VD.mid rfl rfl rfl ?_); refine OpV.box rfl rfl rfl ?_; intro _; refine w ?_))
      refine VE.round (13, y) (Nat.le_refl _) (by show 13 - 13 < 13 - 12; omega) ⟨rfl, rfl, rfl, rfl, rfl, rfl, rfl, trivial⟩ ?_
      dsimp only
      rw [if_pos rfl]
      refine Ent.trans (Ent.re (L := OwnSt y (SuperD.parse l).states :: Row ns 89 ((SuperD.parse l).hold y (SuperD.parse l).states).cells :: Row nz 89 noSup.cells :: (boxes bx ++ R))) (fun w hw => hw.reord (Reord.cons .head (Reord.cons .head (Reord.cons .head (append_drop _)))))
    · have hlt12 : k < 12 := by omega
      have hget := gets_all (W := W) (R := Row fb 160 (fieldCells bx) :: Row nz 89 noSup.cells :: (boxes bx ++ R)) (x := bx) h128 (fun q hq => .tail _ (.tail _ (List.mem_append_left _ hq))) k hlt12
      generalize hpq : (pairs bx)[k]'(by rw [pairs_length]; exact hlt13) = pq at hget hat hone
      obtain ⟨vp, vg⟩ := pq
      dsimp only at hget hat hone
      obtain ⟨g, gcap, rfl, hc1, spec⟩ := hget
      (refine w ?_; repeat ((first | refine VO.step rfl rfl ?_ | refine VD.end rfl rfl rfl ?_ | refine VD.mid rfl rfl rfl ?_); refine OpV.box rfl rfl rfl ?_; intro _; refine w ?_))
      (first | refine VO.pure rfl rfl (PureAt.ldRA tab_ok rfl rfl hrow hat rfl) rfl ?_ | refine VD.take rfl rfl rfl (PureAt.ldRA tab_ok rfl rfl hrow hat rfl) rfl ?_ | refine VQ.pure rfl rfl (PureAt.ldRA tab_ok rfl rfl hrow hat rfl) rfl ?_ | refine VD.end rfl rfl rfl (OpV.pure (PureAt.ldRA tab_ok rfl rfl hrow hat rfl) rfl ?_))
      (refine w ?_; repeat ((first | refine VO.step rfl rfl ?_ | refine VD.end rfl rfl rfl ?_ | refine VD.mid rfl rfl rfl ?_); refine OpV.box rfl rfl rfl ?_; intro _; refine w ?_))
      ((first | refine VO.step rfl rfl ?_ | refine VD.end rfl rfl rfl ?_ | refine VD.mid rfl rfl rfl ?_); refine OpV.allocS sbF rfl ?_; intro n7)
      (first | refine VO.step rfl rfl ?_ | refine VD.end rfl rfl rfl ?_ | refine VD.mid rfl rfl rfl ?_)
      refine OpV.stA tab_ok rfl rfl rfl rfl hone (by (repeat first | exact .head | apply Hole.tail)) (by simp) ?_
      (refine w ?_; repeat ((first | refine VO.step rfl rfl ?_ | refine VD.end rfl rfl rfl ?_ | refine VD.mid rfl rfl rfl ?_); refine OpV.box rfl rfl rfl ?_; intro _; refine w ?_))
      (first | refine VO.step rfl rfl ?_ | refine VD.end rfl rfl rfl ?_ | refine VD.mid rfl rfl rfl ?_)
      refine OpV.call rfl rfl hc1 (spec r ns) Ent.re rfl ?_
      intro _ _
      (refine w ?_; repeat ((first | refine VO.step rfl rfl ?_ | refine VD.end rfl rfl rfl ?_ | refine VD.mid rfl rfl rfl ?_); refine OpV.box rfl rfl rfl ?_; intro _; refine w ?_))
      refine VE.round (k + 1, x) (by omega) (by simp only; omega) ⟨rfl, rfl, rfl, rfl, rfl, rfl, asV rfl (by congr 1), trivial⟩ ?_
      dsimp only
      rw [if_neg (by omega)]
      exact Ent.re
end Go.Proofs.Ytgkpdpoblofehaa
