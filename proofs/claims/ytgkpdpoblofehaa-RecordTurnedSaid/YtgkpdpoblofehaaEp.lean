/- RecordLogged, RecordReads: the walks of the laws. -/
import Derived.Test.YtgkpdpoblofehaaEo
import Derived.Test.YtgkpdpoblofehaaBo
import Derived.Test.YtgkpdpoblofehaaSln
set_option maxRecDepth 8000
set_option linter.unusedVariables false
set_option linter.unusedSimpArgs false
set_option linter.unusedSectionVars false
namespace Go.Proofs.Ytgkpdpoblofehaa
open Go.RowKit Go.Sl
attribute [local irreducible] Own

theorem flatMap_byteV (l : List UInt8) : l.flatMap (fun c => [byteV c]) = bytes l := by
  induction l with
  | nil => rfl
  | cons a r ih => simp only [List.flatMap_cons, ih]; rfl
theorem bytesC_of {W : World} {ao : Option Addr} {n cap : Nat} (h : InT Try.prog W 22 [.slice ao n cap]) : ∃ l : List UInt8, l.length = n ∧ RdsA W 1 ao n (bytes l) ∧ n ≤ 140737488351232 ∧ n ≤ cap := by
  obtain ⟨l, h1, h2, -, h4, h5⟩ := h.list (fun c : UInt8 => [byteV c]) (fun _ => True) 0 Try.underlying22 (by kernel_rfl) (fun o _ u hu => by simp at hu; subst hu; rfl) (fun cs hc => by
    obtain ⟨m, rfl, hw⟩ := hc.int_inv Try.underlying5
    obtain ⟨c, rfl⟩ := byte_of hw
    exact ⟨c, rfl, trivial⟩)
  have b1 : Try.prog.bytesOf 5 = 1 := by kernel_rfl
  rw [b1] at h5
  rw [flatMap_byteV] at h2
  exact ⟨l, h1, h2, by simp only [reachBytes] at h5; omega, h4⟩
theorem escM_length {b : List UInt8} (h : b.length = 128) : (escM b).length = 128 := by
  unfold escM; split
  · simp [nought4]; omega
  · exact h
theorem escD_of {b : List UInt8} (h : b.length = 128) : escD b = ⟨escM b, isEsc b, 0⟩ := if_pos h
theorem escM_inj {a b : List UInt8} : (escM a = escM b ∧ isEsc a = isEsc b) ↔ a = b := by
  constructor
  · rintro ⟨h1, h2⟩
    unfold escM at h1
    unfold isEsc at h2
    rw [decide_eq_decide] at h2
    by_cases h : a.take 4 = magicL
    · have h' := h2.1 h
      rw [if_pos h, if_pos h'] at h1
      have h3 := List.append_cancel_left h1
      rw [← List.take_append_drop 4 a, ← List.take_append_drop 4 b, h, h', h3]
    · have h' := fun q => h (h2.2 q)
      rw [if_neg h, if_neg h'] at h1
      exact h1
  · rintro rfl; exact ⟨rfl, rfl⟩
theorem logged_ok {W : World} {ao bo : Option Addr} {capa capb : Nat} {a b : List UInt8} (ha : RdsA W 1 ao a.length (bytes a)) (hB : RdsA W 1 bo b.length (bytes b)) (hca : a.length ≤ capa) (hcb : b.length ≤ capb) :
    Does1 W Try.prog 3 [.slice ao a.length capa, .slice bo b.length capb] [] (.bool true) [] := by
  have hinj := escM_inj (a := a) (b := b)
  (refine Does.enter Try.func3 Try.ntmps3 rfl rfl ?_)
  (refine w ?_; repeat ((first | refine VO.step rfl rfl ?_ | refine VD.end rfl rfl rfl ?_ | refine VD.mid rfl rfl rfl ?_); refine OpV.box rfl rfl rfl ?_; intro _; refine w ?_))


  ((first | refine VO.split rfl rfl rfl ?_ ?_ | refine VD.split rfl rfl rfl ?_ ?_) <;> intro hb)
  · (refine w ?_; repeat ((first | refine VO.step rfl rfl ?_ | refine VD.end rfl rfl rfl ?_ | refine VD.mid rfl rfl rfl ?_); refine OpV.box rfl rfl rfl ?_; intro _; refine w ?_))
    ((first | refine VO.step rfl rfl ?_ | refine VD.end rfl rfl rfl ?_ | refine VD.mid rfl rfl rfl ?_); refine OpV.call rfl rfl (fun _ _ => by simp) (recknown_ok) Ent.refl rfl ?_)
    intro _ _
    (refine w ?_; repeat ((first | refine VO.step rfl rfl ?_ | refine VD.end rfl rfl rfl ?_ | refine VD.mid rfl rfl rfl ?_); refine OpV.box rfl rfl rfl ?_; intro _; refine w ?_))
    (first | exact VE.done1 rfl rfl Ent.refl | exact VE.done1N rfl rfl Ent.refl)
  have h1 : a.length = 128 := by have h := hb; simp at h; omega
  (refine w ?_; repeat ((first | refine VO.step rfl rfl ?_ | refine VD.end rfl rfl rfl ?_ | refine VD.mid rfl rfl rfl ?_); refine OpV.box rfl rfl rfl ?_; intro _; refine w ?_))
  (refine VC.cond rfl rfl ?_ ?_ <;> intro hc)
  · (refine w ?_; repeat ((first | refine VO.step rfl rfl ?_ | refine VD.end rfl rfl rfl ?_ | refine VD.mid rfl rfl rfl ?_); refine OpV.box rfl rfl rfl ?_; intro _; refine w ?_))
    ((first | refine VO.step rfl rfl ?_ | refine VD.end rfl rfl rfl ?_ | refine VD.mid rfl rfl rfl ?_); refine OpV.call rfl rfl (fun _ _ => by simp) (recknown_ok) Ent.refl rfl ?_)
    intro _ _
    (refine w ?_; repeat ((first | refine VO.step rfl rfl ?_ | refine VD.end rfl rfl rfl ?_ | refine VD.mid rfl rfl rfl ?_); refine OpV.box rfl rfl rfl ?_; intro _; refine w ?_))
    (first | exact VE.done1 rfl rfl Ent.refl | exact VE.done1N rfl rfl Ent.refl)
  have h2 : b.length = 128 := by have h := hc; simp at h; omega
  have hlx := escM_length h1
  have hly := escM_length h2
  (refine w ?_; repeat ((first | refine VO.step rfl rfl ?_ | refine VD.end rfl rfl rfl ?_ | refine VD.mid rfl rfl rfl ?_); refine OpV.box rfl rfl rfl ?_; intro _; refine w ?_))
  ((first | refine VO.step rfl rfl ?_ | refine VD.end rfl rfl rfl ?_ | refine VD.mid rfl rfl rfl ?_); refine OpV.call rfl rfl (fun _ _ => by simp) (esc_ok (ha _) hca) Ent.re rfl ?_)
  rw [escD_of h1]
  dsimp only
  rintro ⟨xa, xc⟩ -
  refine VO.know (p := xa = none → (escM a).length = 0) (fun w hw => hw.ownNone (.head _)) ?_
  intro hxn
  (refine w ?_; repeat ((first | refine VO.step rfl rfl ?_ | refine VD.end rfl rfl rfl ?_ | refine VD.mid rfl rfl rfl ?_); refine OpV.box rfl rfl rfl ?_; intro _; refine w ?_))
  ((first | refine VO.step rfl rfl ?_ | refine VD.end rfl rfl rfl ?_ | refine VD.mid rfl rfl rfl ?_); refine OpV.call rfl rfl (fun _ _ => by simp) (esc_ok (hB _) hcb) Ent.re rfl ?_)
  rw [escD_of h2]
  dsimp only
  rintro ⟨ya, yc⟩ -
  refine VO.know (p := ya = none → (escM b).length = 0) (fun w hw => hw.ownNone (.head _)) ?_
  intro hyn
  generalize isEsc a = ia at *
  generalize isEsc b = ib at *
  generalize escM a = ea at *
  generalize escM b = eb at *
  (refine w ?_; repeat ((first | refine VO.step rfl rfl ?_ | refine VD.end rfl rfl rfl ?_ | refine VD.mid rfl rfl rfl ?_); refine OpV.box rfl rfl rfl ?_; intro _; refine w ?_))
  ((first | refine VO.step rfl rfl ?_ | refine VD.end rfl rfl rfl ?_ | refine VD.mid rfl rfl rfl ?_); refine OpV.call rfl rfl (fun _ _ => by simp) (recknown_ok) Ent.refl rfl ?_)
  intro _ _
  (refine w ?_; repeat ((first | refine VO.step rfl rfl ?_ | refine VD.end rfl rfl rfl ?_ | refine VD.mid rfl rfl rfl ?_); refine OpV.box rfl rfl rfl ?_; intro _; refine w ?_))
  ((first | refine VO.step rfl rfl ?_ | refine VD.end rfl rfl rfl ?_ | refine VD.mid rfl rfl rfl ?_); refine OpV.call rfl rfl (fun _ _ => by simp) (same_any (own_rds (x := (xa, xc)) hxn (by (focus repeat first | exact .head _ | apply List.Mem.tail))) (own_rds (x := (ya, yc)) hyn (by (focus repeat first | exact .head _ | apply List.Mem.tail))) (by simp only [maxLen]; omega)) Ent.refl rfl ?_)
  intro _ _
  (refine w ?_; repeat ((first | refine VO.step rfl rfl ?_ | refine VD.end rfl rfl rfl ?_ | refine VD.mid rfl rfl rfl ?_); refine OpV.box rfl rfl rfl ?_; intro _; refine w ?_))
  ((first | refine VO.split rfl rfl rfl ?_ ?_ | refine VD.split rfl rfl rfl ?_ ?_) <;> intro hb)
  · have he : ea = eb := by simpa using hb
    (refine w ?_; repeat ((first | refine VO.step rfl rfl ?_ | refine VD.end rfl rfl rfl ?_ | refine VD.mid rfl rfl rfl ?_); refine OpV.box rfl rfl rfl ?_; intro _; refine w ?_))
    ((first | refine VO.step rfl rfl ?_ | refine VD.end rfl rfl rfl ?_ | refine VD.mid rfl rfl rfl ?_); refine OpV.call rfl rfl (fun _ _ => by simp) (same_any (ha _) (hB _) (by simp only [maxLen]; omega)) Ent.refl rfl ?_)
    intro _ _
    (refine w ?_; repeat ((first | refine VO.step rfl rfl ?_ | refine VD.end rfl rfl rfl ?_ | refine VD.mid rfl rfl rfl ?_); refine OpV.box rfl rfl rfl ?_; intro _; refine w ?_))
    (refine VE.done1 rfl ?_ ?_)
    · have : decide (a = b) = (ia == ib) := by
        rw [Bool.eq_iff_iff, decide_eq_true_iff, beq_iff_eq, ← hinj]; simp [he]
      rw [this]; simp
    · exact Ent.re
  · have he : ¬ ea = eb := by simpa using hb
    (refine w ?_; repeat ((first | refine VO.step rfl rfl ?_ | refine VD.end rfl rfl rfl ?_ | refine VD.mid rfl rfl rfl ?_); refine OpV.box rfl rfl rfl ?_; intro _; refine w ?_))
    ((first | refine VO.step rfl rfl ?_ | refine VD.end rfl rfl rfl ?_ | refine VD.mid rfl rfl rfl ?_); refine OpV.call rfl rfl (fun _ _ => by simp) (same_any (ha _) (hB _) (by simp only [maxLen]; omega)) Ent.refl rfl ?_)
    intro _ _
    (refine w ?_; repeat ((first | refine VO.step rfl rfl ?_ | refine VD.end rfl rfl rfl ?_ | refine VD.mid rfl rfl rfl ?_); refine OpV.box rfl rfl rfl ?_; intro _; refine w ?_))
    (refine VE.done1 rfl ?_ ?_)
    · have : decide (a = b) = false := decide_eq_false (fun h => he (hinj.2 h).1)
      rw [this]; rfl
    · exact Ent.re
theorem looks_err (b : List UInt8) (k : UInt8) : 0 ≤ looksM b k ∧ looksM b k ≤ 81 := by unfold looksM; split; decide; split; decide; split <;> decide
theorem hdr_err (b : List UInt8) : 0 ≤ (HdrD.dec b).1 ∧ (HdrD.dec b).1 ≤ 81 := by
  have := looks_err b 1; unfold HdrD.dec; split
  · exact this
  · split <;> simp
theorem cmt_err (b : List UInt8) : 0 ≤ (CmtD.dec b).1 ∧ (CmtD.dec b).1 ≤ 81 := by
  have := looks_err b 2; unfold CmtD.dec; split
  · exact this
  · split <;> simp
theorem chk_err (b : List UInt8) : 0 ≤ (ChkD.dec b).1 ∧ (ChkD.dec b).1 ≤ 81 := by
  have := looks_err b 3; unfold ChkD.dec; split
  · exact this
  · split <;> simp
theorem zeroH_fit : zeroH.fit := by constructor <;> decide
theorem zeroC_fit : zeroC.fit := by constructor <;> decide
theorem zeroK_fit : zeroK.fit := by constructor <;> decide
theorem hdr_dfit (b : List UInt8) : (HdrD.dec b).2.fit := by
  unfold HdrD.dec; split
  · exact zeroH_fit
  · split
    · exact hdr_fit b
    · exact zeroH_fit
theorem cmt_dfit (b : List UInt8) : (CmtD.dec b).2.fit := by
  unfold CmtD.dec; split
  · exact zeroC_fit
  · split
    · exact cmt_fit b
    · exact zeroC_fit
theorem chk_dfit (b : List UInt8) : (ChkD.dec b).2.fit := by
  unfold ChkD.dec; split
  · exact zeroK_fit
  · split
    · exact chk_fit b
    · exact zeroK_fit
set_option maxHeartbeats 2000000 in
theorem recreads_ok {W : World} {ao : Option Addr} {cap : Nat} {l : List UInt8} (hA : RdsA W 1 ao l.length (bytes l)) (hcap : l.length ≤ cap) :
    Does1 W Try.prog 6 [.slice ao l.length cap] [] (.bool true) [] := by
  obtain ⟨D, hD⟩ : ∃ D, D = HdrD.dec l := ⟨_, rfl⟩
  obtain ⟨C, hC⟩ : ∃ C, C = CmtD.dec l := ⟨_, rfl⟩
  obtain ⟨K, hK⟩ : ∃ K, K = ChkD.dec l := ⟨_, rfl⟩
  have eD := hdr_err l
  have eC := cmt_err l
  have eK := chk_err l
  have fD := hdr_dfit l
  have fC := cmt_dfit l
  have fK := chk_dfit l
  rw [← hD] at eD fD
  rw [← hC] at eC fC
  rw [← hK] at eK fK
  obtain ⟨De, D⟩ := D
  obtain ⟨Ce, C⟩ := C
  obtain ⟨Ke, K⟩ := K
  dsimp only at *
  (refine Does.enter Try.func6 Try.ntmps6 rfl rfl ?_)
  (refine w ?_; repeat ((first | refine VO.step rfl rfl ?_ | refine VD.end rfl rfl rfl ?_ | refine VD.mid rfl rfl rfl ?_); refine OpV.box rfl rfl rfl ?_; intro _; refine w ?_))
  (refine VC.cond rfl rfl ?_ ?_ <;> intro hc)
  · (refine w ?_; repeat ((first | refine VO.step rfl rfl ?_ | refine VD.end rfl rfl rfl ?_ | refine VD.mid rfl rfl rfl ?_); refine OpV.box rfl rfl rfl ?_; intro _; refine w ?_))
    (first | exact VE.done1 rfl rfl Ent.refl | exact VE.done1N rfl rfl Ent.refl)
  have hlen : l.length ≤ 100000 := by have := of_decide_eq_false hc; omega
  (refine w ?_; repeat ((first | refine VO.step rfl rfl ?_ | refine VD.end rfl rfl rfl ?_ | refine VD.mid rfl rfl rfl ?_); refine OpV.box rfl rfl rfl ?_; intro _; refine w ?_))
  ((first | refine VO.step rfl rfl ?_ | refine VD.end rfl rfl rfl ?_ | refine VD.mid rfl rfl rfl ?_); refine OpV.call rfl rfl (fun _ _ => by simp) (lent_ok hA (by omega)) Ent.re rfl ?_)
  rintro ⟨x, xc⟩ -
  refine VO.know (p := l.length + 2 ≤ xc) (fun w hw => Holds.ownCap hw (.head _)) ?_
  intro hxc
  (refine w ?_; repeat ((first | refine VO.step rfl rfl ?_ | refine VD.end rfl rfl rfl ?_ | refine VD.mid rfl rfl rfl ?_); refine OpV.box rfl rfl rfl ?_; intro _; refine w ?_))
  ((first | refine VO.step rfl rfl ?_ | refine VD.end rfl rfl rfl ?_ | refine VD.mid rfl rfl rfl ?_); refine OpV.call rfl rfl (fun _ _ => by simp) (dech_ok LentO.rds (by omega)) Ent.refl rfl ?_)
  intro _ _
  rw [← hD]
  (refine w ?_; repeat ((first | refine VO.step rfl rfl ?_ | refine VD.end rfl rfl rfl ?_ | refine VD.mid rfl rfl rfl ?_); refine OpV.box rfl rfl rfl ?_; intro _; refine w ?_))
  ((first | refine VO.step rfl rfl ?_ | refine VD.end rfl rfl rfl ?_ | refine VD.mid rfl rfl rfl ?_); refine OpV.allocS sb_57 rfl ?_; intro n4)
  (first | refine VO.step rfl rfl ?_ | refine VD.end rfl rfl rfl ?_ | refine VD.mid rfl rfl rfl ?_)
  refine OpV.stA (vs := D.cells) tab_ok rfl rfl rfl rfl (hdr_one _) (by (repeat first | exact .head | apply Hole.tail)) (by simp) ?_
  refine VO.ent (Ent.re (L := LentO x xc l :: Row n4 57 D.cells :: [])) ?_
  (refine w ?_; repeat ((first | refine VO.step rfl rfl ?_ | refine VD.end rfl rfl rfl ?_ | refine VD.mid rfl rfl rfl ?_); refine OpV.box rfl rfl rfl ?_; intro _; refine w ?_))
  ((first | refine VO.step rfl rfl ?_ | refine VD.end rfl rfl rfl ?_ | refine VD.mid rfl rfl rfl ?_); refine OpV.call rfl rfl (fun _ _ => by simp) (decc_ok LentO.rds (by omega)) Ent.refl rfl ?_)
  intro _ _
  rw [← hC]
  (refine w ?_; repeat ((first | refine VO.step rfl rfl ?_ | refine VD.end rfl rfl rfl ?_ | refine VD.mid rfl rfl rfl ?_); refine OpV.box rfl rfl rfl ?_; intro _; refine w ?_))
  ((first | refine VO.step rfl rfl ?_ | refine VD.end rfl rfl rfl ?_ | refine VD.mid rfl rfl rfl ?_); refine OpV.allocS sb_59 rfl ?_; intro n6)
  (first | refine VO.step rfl rfl ?_ | refine VD.end rfl rfl rfl ?_ | refine VD.mid rfl rfl rfl ?_)
  refine OpV.stA (vs := C.cells) tab_ok rfl rfl rfl rfl (cmt_one _) (by (repeat first | exact .head | apply Hole.tail)) (by simp) ?_
  refine VO.ent (Ent.re (L := LentO x xc l :: Row n6 59 C.cells :: Row n4 57 D.cells :: [])) ?_
  (refine w ?_; repeat ((first | refine VO.step rfl rfl ?_ | refine VD.end rfl rfl rfl ?_ | refine VD.mid rfl rfl rfl ?_); refine OpV.box rfl rfl rfl ?_; intro _; refine w ?_))
  ((first | refine VO.step rfl rfl ?_ | refine VD.end rfl rfl rfl ?_ | refine VD.mid rfl rfl rfl ?_); refine OpV.call rfl rfl (fun _ _ => by simp) (decs_ok LentO.rds (by omega)) Ent.refl rfl ?_)
  intro _ _
  rw [← hK]
  (refine w ?_; repeat ((first | refine VO.step rfl rfl ?_ | refine VD.end rfl rfl rfl ?_ | refine VD.mid rfl rfl rfl ?_); refine OpV.box rfl rfl rfl ?_; intro _; refine w ?_))
  ((first | refine VO.step rfl rfl ?_ | refine VD.end rfl rfl rfl ?_ | refine VD.mid rfl rfl rfl ?_); refine OpV.allocS sb_61 rfl ?_; intro n8)
  (first | refine VO.step rfl rfl ?_ | refine VD.end rfl rfl rfl ?_ | refine VD.mid rfl rfl rfl ?_)
  refine OpV.stA (vs := K.cells) tab_ok rfl rfl rfl rfl (chk_one _) (by (repeat first | exact .head | apply Hole.tail)) (by simp) ?_
  refine VO.ent (Ent.re (L := LentO x xc l :: Row n8 61 K.cells :: Row n6 59 C.cells :: Row n4 57 D.cells :: [])) ?_
  (refine w ?_; repeat ((first | refine VO.step rfl rfl ?_ | refine VD.end rfl rfl rfl ?_ | refine VD.mid rfl rfl rfl ?_); refine OpV.box rfl rfl rfl ?_; intro _; refine w ?_))
  ((first | refine VO.step rfl rfl ?_ | refine VD.end rfl rfl rfl ?_ | refine VD.mid rfl rfl rfl ?_); refine OpV.call rfl rfl (fun _ _ => by simp) (kind_ok LentO.rds (by omega)) Ent.refl rfl ?_)
  intro _ _
  (refine w ?_; repeat ((first | refine VO.step rfl rfl ?_ | refine VD.end rfl rfl rfl ?_ | refine VD.mid rfl rfl rfl ?_); refine OpV.box rfl rfl rfl ?_; intro _; refine w ?_))
  (((first | refine VO.step rfl rfl ?_ | refine VD.end rfl rfl rfl ?_ | refine VD.mid rfl rfl rfl ?_); refine OpV.call rfl rfl (fun _ _ => by simp) (whole_ok hA (by omega)) Ent.re rfl ?_); intro _ _)
  (refine w ?_; repeat ((first | refine VO.step rfl rfl ?_ | refine VD.end rfl rfl rfl ?_ | refine VD.mid rfl rfl rfl ?_); refine OpV.box rfl rfl rfl ?_; intro _; refine w ?_))
  ((first | refine VO.step rfl rfl ?_ | refine VD.end rfl rfl rfl ?_ | refine VD.mid rfl rfl rfl ?_); refine OpV.call rfl rfl (fun _ _ => by simp) (rdech_ok (hA _) hcap) Ent.refl rfl ?_)
  intro _ _
  rw [← hD]
  (refine w ?_; repeat ((first | refine VO.step rfl rfl ?_ | refine VD.end rfl rfl rfl ?_ | refine VD.mid rfl rfl rfl ?_); refine OpV.box rfl rfl rfl ?_; intro _; refine w ?_))
  ((first | refine VO.step rfl rfl ?_ | refine VD.end rfl rfl rfl ?_ | refine VD.mid rfl rfl rfl ?_); refine OpV.allocS sb_57 rfl ?_; intro n12)
  (first | refine VO.step rfl rfl ?_ | refine VD.end rfl rfl rfl ?_ | refine VD.mid rfl rfl rfl ?_)
  refine OpV.stA (vs := D.cells) tab_ok rfl rfl rfl rfl (hdr_one _) (by (repeat first | exact .head | apply Hole.tail)) (by simp) ?_
  refine VO.ent (Ent.re (L := Row n12 57 D.cells :: Row n8 61 K.cells :: Row n6 59 C.cells :: Row n4 57 D.cells :: [])) ?_
  (refine w ?_; repeat ((first | refine VO.step rfl rfl ?_ | refine VD.end rfl rfl rfl ?_ | refine VD.mid rfl rfl rfl ?_); refine OpV.box rfl rfl rfl ?_; intro _; refine w ?_))
  ((first | refine VO.step rfl rfl ?_ | refine VD.end rfl rfl rfl ?_ | refine VD.mid rfl rfl rfl ?_); refine OpV.call rfl rfl (fun _ _ => by simp) (rdecc_ok (hA _) hcap) Ent.refl rfl ?_)
  intro _ _
  rw [← hC]
  (refine w ?_; repeat ((first | refine VO.step rfl rfl ?_ | refine VD.end rfl rfl rfl ?_ | refine VD.mid rfl rfl rfl ?_); refine OpV.box rfl rfl rfl ?_; intro _; refine w ?_))
  ((first | refine VO.step rfl rfl ?_ | refine VD.end rfl rfl rfl ?_ | refine VD.mid rfl rfl rfl ?_); refine OpV.allocS sb_59 rfl ?_; intro n14)
  (first | refine VO.step rfl rfl ?_ | refine VD.end rfl rfl rfl ?_ | refine VD.mid rfl rfl rfl ?_)
  refine OpV.stA (vs := C.cells) tab_ok rfl rfl rfl rfl (cmt_one _) (by (repeat first | exact .head | apply Hole.tail)) (by simp) ?_
  refine VO.ent (Ent.re (L := Row n14 59 C.cells :: Row n12 57 D.cells :: Row n8 61 K.cells :: Row n6 59 C.cells :: Row n4 57 D.cells :: [])) ?_
  (refine w ?_; repeat ((first | refine VO.step rfl rfl ?_ | refine VD.end rfl rfl rfl ?_ | refine VD.mid rfl rfl rfl ?_); refine OpV.box rfl rfl rfl ?_; intro _; refine w ?_))
  ((first | refine VO.step rfl rfl ?_ | refine VD.end rfl rfl rfl ?_ | refine VD.mid rfl rfl rfl ?_); refine OpV.call rfl rfl (fun _ _ => by simp) (rdecs_ok (hA _) hcap) Ent.refl rfl ?_)
  intro _ _
  rw [← hK]
  (refine w ?_; repeat ((first | refine VO.step rfl rfl ?_ | refine VD.end rfl rfl rfl ?_ | refine VD.mid rfl rfl rfl ?_); refine OpV.box rfl rfl rfl ?_; intro _; refine w ?_))
  ((first | refine VO.step rfl rfl ?_ | refine VD.end rfl rfl rfl ?_ | refine VD.mid rfl rfl rfl ?_); refine OpV.allocS sb_61 rfl ?_; intro n16)
  (first | refine VO.step rfl rfl ?_ | refine VD.end rfl rfl rfl ?_ | refine VD.mid rfl rfl rfl ?_)
  refine OpV.stA (vs := K.cells) tab_ok rfl rfl rfl rfl (chk_one _) (by (repeat first | exact .head | apply Hole.tail)) (by simp) ?_
  refine VO.ent (Ent.re (L := Row n16 61 K.cells :: Row n14 59 C.cells :: Row n12 57 D.cells :: Row n8 61 K.cells :: Row n6 59 C.cells :: Row n4 57 D.cells :: [])) ?_
  (refine w ?_; repeat ((first | refine VO.step rfl rfl ?_ | refine VD.end rfl rfl rfl ?_ | refine VD.mid rfl rfl rfl ?_); refine OpV.box rfl rfl rfl ?_; intro _; refine w ?_))
  ((first | refine VO.step rfl rfl ?_ | refine VD.end rfl rfl rfl ?_ | refine VD.mid rfl rfl rfl ?_); refine OpV.call rfl rfl (fun _ _ => by simp) (recknown_ok) Ent.refl rfl ?_)
  intro _ _
  (refine w ?_; repeat ((first | refine VO.step rfl rfl ?_ | refine VD.end rfl rfl rfl ?_ | refine VD.mid rfl rfl rfl ?_); refine OpV.box rfl rfl rfl ?_; intro _; refine w ?_))
  ((first | refine VO.step rfl rfl ?_ | refine VD.end rfl rfl rfl ?_ | refine VD.mid rfl rfl rfl ?_); refine OpV.call rfl rfl (fun _ _ => by simp) (rkind_ok (hA _) hcap) Ent.refl rfl ?_)
  intro _ _
  (refine w ?_; repeat ((first | refine VO.step rfl rfl ?_ | refine VD.end rfl rfl rfl ?_ | refine VD.mid rfl rfl rfl ?_); refine OpV.box rfl rfl rfl ?_; intro _; refine w ?_))
  (first | refine VO.gT rfl rfl rfl (by simp) ?_ | refine VD.gT rfl rfl rfl (by simp) ?_)
  (refine w ?_; repeat ((first | refine VO.step rfl rfl ?_ | refine VD.end rfl rfl rfl ?_ | refine VD.mid rfl rfl rfl ?_); refine OpV.box rfl rfl rfl ?_; intro _; refine w ?_))
  (first | refine VO.gT rfl rfl rfl (by rw [IntWalk.i64_in _ ⟨by omega, by omega⟩]; simp) ?_ | refine VD.gT rfl rfl rfl (by rw [IntWalk.i64_in _ ⟨by omega, by omega⟩]; simp) ?_)
  (refine w ?_; repeat ((first | refine VO.step rfl rfl ?_ | refine VD.end rfl rfl rfl ?_ | refine VD.mid rfl rfl rfl ?_); refine OpV.box rfl rfl rfl ?_; intro _; refine w ?_))
  (first | refine VO.gT rfl rfl rfl (by rw [IntWalk.i64_in _ ⟨by omega, by omega⟩]; simp) ?_ | refine VD.gT rfl rfl rfl (by rw [IntWalk.i64_in _ ⟨by omega, by omega⟩]; simp) ?_)
  (refine w ?_; repeat ((first | refine VO.step rfl rfl ?_ | refine VD.end rfl rfl rfl ?_ | refine VD.mid rfl rfl rfl ?_); refine OpV.box rfl rfl rfl ?_; intro _; refine w ?_))
  (first | refine VO.gT rfl rfl rfl (by rw [IntWalk.i64_in _ ⟨by omega, by omega⟩]; simp) ?_ | refine VD.gT rfl rfl rfl (by rw [IntWalk.i64_in _ ⟨by omega, by omega⟩]; simp) ?_)
  (refine w ?_; repeat ((first | refine VO.step rfl rfl ?_ | refine VD.end rfl rfl rfl ?_ | refine VD.mid rfl rfl rfl ?_); refine OpV.box rfl rfl rfl ?_; intro _; refine w ?_))
  (first | refine VO.pure rfl rfl (hdr_eq (a := D) (b := D) rfl rfl fD fD rfl) rfl ?_ | refine VD.take rfl rfl rfl (hdr_eq (a := D) (b := D) rfl rfl fD fD rfl) rfl ?_ | refine VQ.pure rfl rfl (hdr_eq (a := D) (b := D) rfl rfl fD fD rfl) rfl ?_ | refine VD.end rfl rfl rfl (OpV.pure (hdr_eq (a := D) (b := D) rfl rfl fD fD rfl) rfl ?_))
  (refine w ?_; repeat ((first | refine VO.step rfl rfl ?_ | refine VD.end rfl rfl rfl ?_ | refine VD.mid rfl rfl rfl ?_); refine OpV.box rfl rfl rfl ?_; intro _; refine w ?_))
  (first | refine VO.gT rfl rfl rfl (by simp) ?_ | refine VD.gT rfl rfl rfl (by simp) ?_)
  (refine w ?_; repeat ((first | refine VO.step rfl rfl ?_ | refine VD.end rfl rfl rfl ?_ | refine VD.mid rfl rfl rfl ?_); refine OpV.box rfl rfl rfl ?_; intro _; refine w ?_))
  (first | refine VO.pure rfl rfl (cmt_eq (a := C) (b := C) rfl rfl fC fC rfl) rfl ?_ | refine VD.take rfl rfl rfl (cmt_eq (a := C) (b := C) rfl rfl fC fC rfl) rfl ?_ | refine VQ.pure rfl rfl (cmt_eq (a := C) (b := C) rfl rfl fC fC rfl) rfl ?_ | refine VD.end rfl rfl rfl (OpV.pure (cmt_eq (a := C) (b := C) rfl rfl fC fC rfl) rfl ?_))
  (refine w ?_; repeat ((first | refine VO.step rfl rfl ?_ | refine VD.end rfl rfl rfl ?_ | refine VD.mid rfl rfl rfl ?_); refine OpV.box rfl rfl rfl ?_; intro _; refine w ?_))
  (first | refine VO.gT rfl rfl rfl (by simp) ?_ | refine VD.gT rfl rfl rfl (by simp) ?_)
  (refine w ?_; repeat ((first | refine VO.step rfl rfl ?_ | refine VD.end rfl rfl rfl ?_ | refine VD.mid rfl rfl rfl ?_); refine OpV.box rfl rfl rfl ?_; intro _; refine w ?_))
  (first | refine VO.pure rfl rfl (chk_eq (a := K) (b := K) rfl rfl fK fK rfl) rfl ?_ | refine VD.take rfl rfl rfl (chk_eq (a := K) (b := K) rfl rfl fK fK rfl) rfl ?_ | refine VQ.pure rfl rfl (chk_eq (a := K) (b := K) rfl rfl fK fK rfl) rfl ?_ | refine VD.end rfl rfl rfl (OpV.pure (chk_eq (a := K) (b := K) rfl rfl fK fK rfl) rfl ?_))
  (refine w ?_; repeat ((first | refine VO.step rfl rfl ?_ | refine VD.end rfl rfl rfl ?_ | refine VD.mid rfl rfl rfl ?_); refine OpV.box rfl rfl rfl ?_; intro _; refine w ?_))
  (refine VE.done1 rfl ?_ ?_)
  · simp
  · exact Ent.re
end Go.Proofs.Ytgkpdpoblofehaa
