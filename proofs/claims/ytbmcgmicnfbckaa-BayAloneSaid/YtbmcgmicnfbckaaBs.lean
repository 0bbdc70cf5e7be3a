/- The statements of the bay: BayAway. -/
import Derived.Test.YtbmcgmicnfbckaaBr
set_option maxRecDepth 8000
set_option linter.unusedVariables false
set_option linter.unusedSimpArgs false
set_option linter.unusedSectionVars false
namespace Go.Proofs.Ytbmcgmicnfbckaa
open Go.RowKit Go.Sl
attribute [local irreducible] Own

/-- The disk is aside; it is coming. -/
def awayD (k : DiskD) (v1 : DevD) (c : CntD) : BayD := ⟨[⟨none, some ⟨k, false, 0⟩, none⟩, ⟨some v1, none, none⟩], false, -1, c⟩
def comesD (k : DiskD) (v1 : DevD) (c : CntD) : BayD := ⟨[⟨none, none, some ⟨k, false, 0⟩⟩, ⟨some v1, none, none⟩], false, -1, c⟩
theorem mk2_pull (k : DiskD) (v1 : DevD) (c : CntD) : (mk2 ⟨k, false, 0⟩ v1 c).pull 0 = (0, awayD (k.settle (keepOf [])) v1 c) := rfl
theorem away_push (k : DiskD) (v1 : DevD) (c : CntD) : (awayD k v1 c).push 0 = (0, comesD k v1 c) := rfl
theorem comes_read (k : DiskD) (v1 : DevD) (c : CntD) : (comesD k v1 c).read 0 0 = (([], 51), comesD k v1 (c.inc 0)) := rfl
theorem comes_push (k : DiskD) (v1 : DevD) (c : CntD) : (comesD k v1 c).push 0 = (51, comesD k v1 c) := rfl
theorem comes_cut (k : DiskD) (v1 : DevD) (c : CntD) (l : List (List Bool)) : (comesD k v1 c).cut l = mk2 ⟨k, false, 0⟩ ⟨v1.k.settle (keepOf (l.getD 1 [])), v1.worn, v1.left⟩ c := rfl
theorem mk2_image (v0 v1 : DevD) (c : CntD) : (mk2 v0 v1 c).image 0 = (v0.k.img, 0) := rfl
theorem mk2_write (k : DiskD) (v1 : DevD) (c : CntD) (n : Int) (b : List UInt8) : (mk2 ⟨k, false, 0⟩ v1 c).write 0 n b = ((k.wr n b).1, mk2 ⟨(k.wr n b).2, false, 0⟩ v1 (c.inc 1)) := rfl
theorem mk2_flush (k : DiskD) (v1 : DevD) (c : CntD) : (mk2 ⟨k, false, 0⟩ v1 c).flush 0 = (k.fl.1, mk2 ⟨k.fl.2, false, 0⟩ v1 (c.inc 2)) := rfl
theorem keepOf_nil (i : Nat) : keepOf [] i = false := rfl
theorem sets_off (keep : Nat → Bool) (hk : ∀ i, keep i = false) : ∀ (l : List (Nat × List UInt8)) (last : List (List UInt8)) (i : Nat), sets keep last i l = last
  | [], _, _ => rfl
  | c :: r, last, i => by rw [sets, hk i, if_neg (by simp)]; exact sets_off keep hk r last (i + 1)
theorem settle_nil (k : DiskD) (h : k.failed = false) : (k.settle (keepOf [])).img = k.img := by
  unfold DiskD.img DiskD.settle
  rw [sets_off _ keepOf_nil]
theorem wr_img (k : DiskD) (n : Int) (b : List UInt8) : (k.wr n b).2.img = k.img := by
  unfold DiskD.wr; split
  · rfl
  · split <;> rfl
theorem wr_failed (k : DiskD) (n : Int) (b : List UInt8) : (k.wr n b).2.failed = k.failed := by
  unfold DiskD.wr; split
  · rfl
  · split <;> rfl
theorem fl_failed (k : DiskD) : k.fl.2.failed = k.failed := by
  unfold DiskD.fl; split <;> rfl

set_option maxHeartbeats 16000000 in
theorem baway_ok {W : World} {ao ko : Option Addr} {cap kcap : Nat} {lb : List BopD} {lk : List Bool} (sec at_ : Int) (hb0 : ∀ R, BScr W R ao lb) (hlb : lb.length ≤ 140737488351232) (hk : RdsA W 1 ko lk.length (bools lk)) :
    Does1 W Try.prog 8 [.int .i64 sec, .slice ao lb.length cap, .int .i64 at_, .slice ko lk.length kcap] [] (.bool true) [] := by
  (refine Does.enter Try.func8 Try.ntmps8 rfl rfl ?_)
  (refine w ?_; repeat ((first | refine VO.step rfl rfl ?_ | refine VD.end rfl rfl rfl ?_ | refine VD.mid rfl rfl rfl ?_); refine OpV.box rfl rfl rfl ?_; intro _; refine w ?_))
  ((first | refine VO.step rfl rfl ?_ | refine VD.end rfl rfl rfl ?_ | refine VD.mid rfl rfl rfl ?_); refine OpV.call rfl rfl (fun _ _ => by simp) (bmuch_ok (so := none) (n := 0) (scap := 0) (hb0 _) (by omega) hlb) Ent.re rfl ?_)
  intro mb hmb
  (refine w ?_; repeat ((first | refine VO.step rfl rfl ?_ | refine VD.end rfl rfl rfl ?_ | refine VD.mid rfl rfl rfl ?_); refine OpV.box rfl rfl rfl ?_; intro _; refine w ?_))
  ((first | refine VO.split rfl rfl rfl ?_ ?_ | refine VD.split rfl rfl rfl ?_ ?_) <;> intro hb)
  · (refine w ?_; repeat ((first | refine VO.step rfl rfl ?_ | refine VD.end rfl rfl rfl ?_ | refine VD.mid rfl rfl rfl ?_); refine OpV.box rfl rfl rfl ?_; intro _; refine w ?_))
    (refine VE.done1 rfl ?_ ?_)
    · rfl
    · exact Ent.refl
  obtain ⟨hm1, hm2⟩ := hmb hb
  (refine w ?_; repeat ((first | refine VO.step rfl rfl ?_ | refine VD.end rfl rfl rfl ?_ | refine VD.mid rfl rfl rfl ?_); refine OpV.box rfl rfl rfl ?_; intro _; refine w ?_))
  (refine VC.cond rfl rfl ?_ ?_ <;> intro hc)
  · (refine w ?_; repeat ((first | refine VO.step rfl rfl ?_ | refine VD.end rfl rfl rfl ?_ | refine VD.mid rfl rfl rfl ?_); refine OpV.box rfl rfl rfl ?_; intro _; refine w ?_))
    (refine VE.done1 rfl ?_ ?_)
    · rfl
    · exact Ent.refl
  (refine w ?_; repeat ((first | refine VO.step rfl rfl ?_ | refine VD.end rfl rfl rfl ?_ | refine VD.mid rfl rfl rfl ?_); refine OpV.box rfl rfl rfl ?_; intro _; refine w ?_))
  ((first | refine VO.step rfl rfl ?_ | refine VD.end rfl rfl rfl ?_ | refine VD.mid rfl rfl rfl ?_); refine OpV.buildSlice1 st_43 rfl rfl (by first | (simp; done) | simp [Value.oneCell']) (by decide) rfl ?_; intro nb)
  (refine w ?_; repeat ((first | refine VO.step rfl rfl ?_ | refine VD.end rfl rfl rfl ?_ | refine VD.mid rfl rfl rfl ?_); refine OpV.box rfl rfl rfl ?_; intro _; refine w ?_))
  have hr : ∀ X : List SProp, Rds W (Row nb 3 [.int .i64 sec, .int .i64 1] :: X) 1 (some ⟨nb, 0, none⟩) 2 (intsI [sec, 1]) := fun X => Rds.row (intsI_one _) (.head _) rfl
  ((first | refine VO.step rfl rfl ?_ | refine VD.end rfl rfl rfl ?_ | refine VD.mid rfl rfl rfl ?_); refine OpV.call rfl rfl (fun _ _ => by simp) (baynew_ok (l := [sec, 1]) (hr _) (by simp)) Ent.refl rfl ?_)
  intro x hx
  by_cases hE : bayE [sec, 1] = 0
  · rw [hE] at hx ⊢
    obtain ⟨a, rfl⟩ : ∃ a, x = some a := by cases x with | none => cases hx | some a => exact ⟨a, rfl⟩
    dsimp only [Option.elim_some]
    (refine w ?_; repeat ((first | refine VO.step rfl rfl ?_ | refine VD.end rfl rfl rfl ?_ | refine VD.mid rfl rfl rfl ?_); refine OpV.box rfl rfl rfl ?_; intro _; refine w ?_))
    ((first | refine VO.step rfl rfl ?_ | refine VD.end rfl rfl rfl ?_ | refine VD.mid rfl rfl rfl ?_); refine OpV.call rfl rfl (fun _ _ => by simp) (bknown_ok) Ent.refl rfl ?_; intro _ _)
    (refine w ?_; repeat ((first | refine VO.step rfl rfl ?_ | refine VD.end rfl rfl rfl ?_ | refine VD.mid rfl rfl rfl ?_); refine OpV.box rfl rfl rfl ?_; intro _; refine w ?_))
    (refine VC.cond rfl rfl ?_ ?_ <;> intro hc)
    · (refine w ?_; repeat ((first | refine VO.step rfl rfl ?_ | refine VD.end rfl rfl rfl ?_ | refine VD.mid rfl rfl rfl ?_); refine OpV.box rfl rfl rfl ?_; intro _; refine w ?_))
      (refine VE.done1 rfl ?_ ?_)
      · rfl
      · exact Reord.ent .nil
    have hs0 : sec ≠ 0 := by simpa using hc
    have enew : BayD.new [sec, 1] = mk2 ⟨.blank sec.toNat, false, 0⟩ ⟨.blank 1, false, 0⟩ ⟨0, 0, 0⟩ := by unfold BayD.new mk2; simp [slotOf, hs0]
    rw [enew]
    (refine w ?_; repeat ((first | refine VO.step rfl rfl ?_ | refine VD.end rfl rfl rfl ?_ | refine VD.mid rfl rfl rfl ?_); refine OpV.box rfl rfl rfl ?_; intro _; refine w ?_))
    ((first | refine VO.step rfl rfl ?_ | refine VD.end rfl rfl rfl ?_ | refine VD.mid rfl rfl rfl ?_); refine OpV.call rfl rfl (fun _ _ => by simp) (bayimage_ok a (mk2 ⟨.blank sec.toNat, false, 0⟩ ⟨.blank 1, false, 0⟩ ⟨0, 0, 0⟩) 0) Ent.re rfl ?_)
    intro x hx
    rw [mk2_image] at hx ⊢
    (refine w ?_; repeat ((first | refine VO.step rfl rfl ?_ | refine VD.end rfl rfl rfl ?_ | refine VD.mid rfl rfl rfl ?_); refine OpV.box rfl rfl rfl ?_; intro _; refine w ?_))
    refine VC.loop (α := Nat × DiskD × CntD × (Option Addr × Nat)) (fun g => g.1 ≤ lb.length ∧ g.2.1.failed = false ∧ g.2.1.cache.length ≤ g.1 ∧ (g.2.2.2.1 = none → g.2.1.img.length = 0))
      (fun g => [OwnB g.2.2.2 g.2.1.img, BayR a (mk2 ⟨g.2.1, false, 0⟩ ⟨.blank 1, false, 0⟩ g.2.2.1)])
      (fun g => [(1, .slice ao lb.length cap), (2, .int .i64 at_), (3, .slice ko lk.length kcap), (9, .pointer (some ⟨a, 0, none⟩)), (11, sliceB g.2.2.2 g.2.1.img), (12, .int .u16 0), (13, .int .i64 g.1)]) (fun g => lb.length - g.1) rfl
      (0, .blank sec.toNat, ⟨0, 0, 0⟩, x) ⟨Nat.zero_le _, rfl, Nat.le_refl _, hx⟩ Ent.re ⟨rfl, rfl, rfl, rfl, rfl, rfl, rfl, trivial⟩ ?_
    rintro ⟨i, k, c, x⟩ ⟨hi, hkf, hkc, hx⟩
    dsimp only at hi hkf hkc hx ⊢
    (refine w ?_; repeat ((first | refine VO.step rfl rfl ?_ | refine VD.end rfl rfl rfl ?_ | refine VD.mid rfl rfl rfl ?_); refine OpV.box rfl rfl rfl ?_; intro _; refine w ?_))
    (refine VC.cond rfl rfl ?_ ?_ <;> intro hc)
    · have hlt : i < lb.length := by have := of_decide_eq_true hc; omega
      obtain ⟨oa, rfl⟩ : ∃ oa, ao = some oa := by cases ao with | none => have := (hb0 []).rds.nil rfl; omega | some oa => exact ⟨oa, rfl⟩
      have hw := (hb0 []).wf lb[i] (List.getElem_mem hlt)
      have g0 := bop_get lb i 0 hlt (by decide)
      have g2 := bop_get lb i 2 hlt (by decide)
      have g3 := bop_get lb i 3 hlt (by decide)
      generalize ho : lb[i] = o at *
      (refine w ?_; repeat ((first | refine VO.step rfl rfl ?_ | refine VD.end rfl rfl rfl ?_ | refine VD.mid rfl rfl rfl ?_); refine OpV.box rfl rfl rfl ?_; intro _; refine w ?_))
      (first | refine VO.pure rfl rfl (.ldRc tab_ok rfl rfl (hb0 _).rds (g0.trans rfl)) rfl ?_ | refine VD.take rfl rfl rfl (.ldRc tab_ok rfl rfl (hb0 _).rds (g0.trans rfl)) rfl ?_ | refine VQ.pure rfl rfl (.ldRc tab_ok rfl rfl (hb0 _).rds (g0.trans rfl)) rfl ?_ | refine VD.end rfl rfl rfl (OpV.pure (.ldRc tab_ok rfl rfl (hb0 _).rds (g0.trans rfl)) rfl ?_))
      (refine w ?_; repeat ((first | refine VO.step rfl rfl ?_ | refine VD.end rfl rfl rfl ?_ | refine VD.mid rfl rfl rfl ?_); refine OpV.box rfl rfl rfl ?_; intro _; refine w ?_))
      (refine VC.cond rfl rfl ?_ ?_ <;> intro hc)
      · (refine w ?_; repeat ((first | refine VO.step rfl rfl ?_ | refine VD.end rfl rfl rfl ?_ | refine VD.mid rfl rfl rfl ?_); refine OpV.box rfl rfl rfl ?_; intro _; refine w ?_))
        refine VE.round (i + 1, k, c, x) ⟨hlt, hkf, Nat.le_succ_of_le hkc, hx⟩ (by dsimp only; omega) ⟨rfl, rfl, rfl, rfl, rfl, rfl, asV rfl (by congr 1), trivial⟩ Ent.re
      (refine w ?_; repeat ((first | refine VO.step rfl rfl ?_ | refine VD.end rfl rfl rfl ?_ | refine VD.mid rfl rfl rfl ?_); refine OpV.box rfl rfl rfl ?_; intro _; refine w ?_))
      (refine VC.drawn [] 11 [0, 1, 2, 3, 4, 5, 6, 7, 8, 9, 10, 11] _ rfl (by kernel_rfl) (by kernel_rfl) Ent.re ?_)
      (refine w ?_; repeat ((first | refine VO.step rfl rfl ?_ | refine VD.end rfl rfl rfl ?_ | refine VD.mid rfl rfl rfl ?_); refine OpV.box rfl rfl rfl ?_; intro _; refine w ?_))
      (first | refine VO.pure rfl rfl (.ldRc tab_ok rfl rfl (hb0 _).rds (g2.trans rfl)) rfl ?_ | refine VD.take rfl rfl rfl (.ldRc tab_ok rfl rfl (hb0 _).rds (g2.trans rfl)) rfl ?_ | refine VQ.pure rfl rfl (.ldRc tab_ok rfl rfl (hb0 _).rds (g2.trans rfl)) rfl ?_ | refine VD.end rfl rfl rfl (OpV.pure (.ldRc tab_ok rfl rfl (hb0 _).rds (g2.trans rfl)) rfl ?_))
      (refine w ?_; repeat ((first | refine VO.step rfl rfl ?_ | refine VD.end rfl rfl rfl ?_ | refine VD.mid rfl rfl rfl ?_); refine OpV.box rfl rfl rfl ?_; intro _; refine w ?_))
      (first | refine VO.pure rfl rfl (.ldRc tab_ok rfl rfl (hb0 _).rds (g3.trans rfl)) rfl ?_ | refine VD.take rfl rfl rfl (.ldRc tab_ok rfl rfl (hb0 _).rds (g3.trans rfl)) rfl ?_ | refine VQ.pure rfl rfl (.ldRc tab_ok rfl rfl (hb0 _).rds (g3.trans rfl)) rfl ?_ | refine VD.end rfl rfl rfl (OpV.pure (.ldRc tab_ok rfl rfl (hb0 _).rds (g3.trans rfl)) rfl ?_))
      (refine w ?_; repeat ((first | refine VO.step rfl rfl ?_ | refine VD.end rfl rfl rfl ?_ | refine VD.mid rfl rfl rfl ?_); refine OpV.box rfl rfl rfl ?_; intro _; refine w ?_))
      have hwr : (k.wr o.n o.b).2.failed = false := by rw [wr_failed]; exact hkf
      have hwc : (k.wr o.n o.b).2.cache.length ≤ i + 1 := wr_cap hkc
      have hwi := wr_img k o.n o.b
      (((first | refine VO.step rfl rfl ?_ | refine VD.end rfl rfl rfl ?_ | refine VD.mid rfl rfl rfl ?_); refine OpV.call rfl rfl (fun _ _ => by simp) (baywrite_ok (l := o.b) a (mk2 ⟨k, false, 0⟩ ⟨.blank 1, false, 0⟩ c) 0 o.n (by rw [dv_mk2_0, use_calm rfl]; dsimp only; omega) (.inl hw.b)) Ent.re rfl ?_); intro _ _)
      rw [mk2_write]
      (refine w ?_; repeat ((first | refine VO.step rfl rfl ?_ | refine VD.end rfl rfl rfl ?_ | refine VD.mid rfl rfl rfl ?_); refine OpV.box rfl rfl rfl ?_; intro _; refine w ?_))
      generalize hk' : (k.wr o.n o.b).2 = k' at *
      rw [← hwi] at hx ⊢
      (refine VC.cond rfl rfl ?_ ?_ <;> intro hc)
      · (refine w ?_; repeat ((first | refine VO.step rfl rfl ?_ | refine VD.end rfl rfl rfl ?_ | refine VD.mid rfl rfl rfl ?_); refine OpV.box rfl rfl rfl ?_; intro _; refine w ?_))
        (((first | refine VO.step rfl rfl ?_ | refine VD.end rfl rfl rfl ?_ | refine VD.mid rfl rfl rfl ?_); refine OpV.call rfl rfl (fun _ _ => by simp) (bayflush_ok a (mk2 ⟨k', false, 0⟩ ⟨.blank 1, false, 0⟩ (c.inc 1)) 0) Ent.re rfl ?_); intro _ _)
        rw [mk2_flush]
        have hff : k'.fl.2.failed = false := by rw [fl_failed]; exact hwr
        (refine w ?_; repeat ((first | refine VO.step rfl rfl ?_ | refine VD.end rfl rfl rfl ?_ | refine VD.mid rfl rfl rfl ?_); refine OpV.box rfl rfl rfl ?_; intro _; refine w ?_))
        ((first | refine VO.step rfl rfl ?_ | refine VD.end rfl rfl rfl ?_ | refine VD.mid rfl rfl rfl ?_); refine OpV.call rfl rfl (fun _ _ => by simp) (bayimage_ok a (mk2 ⟨k'.fl.2, false, 0⟩ ⟨.blank 1, false, 0⟩ ((c.inc 1).inc 2)) 0) Ent.re rfl ?_)
        intro y hy
        rw [mk2_image] at hy ⊢
        (refine w ?_; repeat ((first | refine VO.step rfl rfl ?_ | refine VD.end rfl rfl rfl ?_ | refine VD.mid rfl rfl rfl ?_); refine OpV.box rfl rfl rfl ?_; intro _; refine w ?_))
        refine VE.round (i + 1, k'.fl.2, (c.inc 1).inc 2, y) ⟨hlt, hff, fl_cap hwc, hy⟩ (by dsimp only; omega) ⟨rfl, rfl, rfl, rfl, rfl, rfl, asV rfl (by congr 1), trivial⟩ Ent.re
      · (refine w ?_; repeat ((first | refine VO.step rfl rfl ?_ | refine VD.end rfl rfl rfl ?_ | refine VD.mid rfl rfl rfl ?_); refine OpV.box rfl rfl rfl ?_; intro _; refine w ?_))
        refine VE.round (i + 1, k', c.inc 1, x) ⟨hlt, hwr, hwc, hx⟩ (by dsimp only; omega) ⟨rfl, rfl, rfl, rfl, rfl, rfl, asV rfl (by congr 1), trivial⟩ Ent.re
    · (refine w ?_; repeat ((first | refine VO.step rfl rfl ?_ | refine VD.end rfl rfl rfl ?_ | refine VD.mid rfl rfl rfl ?_); refine OpV.box rfl rfl rfl ?_; intro _; refine w ?_))
      generalize DiskD.blank 1 = k1
      (((first | refine VO.step rfl rfl ?_ | refine VD.end rfl rfl rfl ?_ | refine VD.mid rfl rfl rfl ?_); refine OpV.call rfl rfl (fun _ _ => by simp) (baypull_ok a (mk2 ⟨k, false, 0⟩ ⟨k1, false, 0⟩ c) 0) Ent.re rfl ?_); intro _ _)
      rw [mk2_pull]
      have hsi := settle_nil k hkf
      have hsf : (k.settle (keepOf [])).failed = false := hkf
      have hsc : (k.settle (keepOf [])).cache = [] := rfl
      generalize k.settle (keepOf []) = ks at *
      rw [← hsi] at hx ⊢
      (refine w ?_; repeat ((first | refine VO.step rfl rfl ?_ | refine VD.end rfl rfl rfl ?_ | refine VD.mid rfl rfl rfl ?_); refine OpV.box rfl rfl rfl ?_; intro _; refine w ?_))
      (((first | refine VO.step rfl rfl ?_ | refine VD.end rfl rfl rfl ?_ | refine VD.mid rfl rfl rfl ?_); refine OpV.call rfl rfl (fun _ _ => by simp) (bayhas_ok a (awayD ks ⟨k1, false, 0⟩ c) 0) Ent.re rfl ?_); intro _ _)
      (refine w ?_; repeat ((first | refine VO.step rfl rfl ?_ | refine VD.end rfl rfl rfl ?_ | refine VD.mid rfl rfl rfl ?_); refine OpV.box rfl rfl rfl ?_; intro _; refine w ?_))
      (((first | refine VO.step rfl rfl ?_ | refine VD.end rfl rfl rfl ?_ | refine VD.mid rfl rfl rfl ?_); refine OpV.call rfl rfl (fun _ _ => by simp) (baysectors_ok a (awayD ks ⟨k1, false, 0⟩ c) 0) Ent.re rfl ?_); intro _ _)
      (refine w ?_; repeat ((first | refine VO.step rfl rfl ?_ | refine VD.end rfl rfl rfl ?_ | refine VD.mid rfl rfl rfl ?_); refine OpV.box rfl rfl rfl ?_; intro _; refine w ?_))
      (((first | refine VO.step rfl rfl ?_ | refine VD.end rfl rfl rfl ?_ | refine VD.mid rfl rfl rfl ?_); refine OpV.call rfl rfl (fun _ _ => by simp) (baypush_ok a (awayD ks ⟨k1, false, 0⟩ c) 0) Ent.re rfl ?_); intro _ _)
      rw [away_push]
      (refine w ?_; repeat ((first | refine VO.step rfl rfl ?_ | refine VD.end rfl rfl rfl ?_ | refine VD.mid rfl rfl rfl ?_); refine OpV.box rfl rfl rfl ?_; intro _; refine w ?_))
      ((first | refine VO.step rfl rfl ?_ | refine VD.end rfl rfl rfl ?_ | refine VD.mid rfl rfl rfl ?_); refine OpV.call rfl rfl (fun _ _ => by simp) (bayread_ok a (comesD ks ⟨k1, false, 0⟩ c) 0 0) Ent.re rfl ?_)
      intro y _
      rw [comes_read]
      (refine w ?_; repeat ((first | refine VO.step rfl rfl ?_ | refine VD.end rfl rfl rfl ?_ | refine VD.mid rfl rfl rfl ?_); refine OpV.box rfl rfl rfl ?_; intro _; refine w ?_))
      (((first | refine VO.step rfl rfl ?_ | refine VD.end rfl rfl rfl ?_ | refine VD.mid rfl rfl rfl ?_); refine OpV.call rfl rfl (fun _ _ => by simp) (bayhas_ok a (comesD ks ⟨k1, false, 0⟩ (c.inc 0)) 0) Ent.re rfl ?_); intro _ _)
      (refine w ?_; repeat ((first | refine VO.step rfl rfl ?_ | refine VD.end rfl rfl rfl ?_ | refine VD.mid rfl rfl rfl ?_); refine OpV.box rfl rfl rfl ?_; intro _; refine w ?_))
      (((first | refine VO.step rfl rfl ?_ | refine VD.end rfl rfl rfl ?_ | refine VD.mid rfl rfl rfl ?_); refine OpV.call rfl rfl (fun _ _ => by simp) (baypush_ok a (comesD ks ⟨k1, false, 0⟩ (c.inc 0)) 0) Ent.re rfl ?_); intro _ _)
      rw [comes_push]
      (refine w ?_; repeat ((first | refine VO.step rfl rfl ?_ | refine VD.end rfl rfl rfl ?_ | refine VD.mid rfl rfl rfl ?_); refine OpV.box rfl rfl rfl ?_; intro _; refine w ?_))
      ((first | refine VO.step rfl rfl ?_ | refine VD.end rfl rfl rfl ?_ | refine VD.mid rfl rfl rfl ?_); refine OpV.buildSlice1 st_33 rfl rfl (by first | (simp; done) | simp [Value.oneCell']) (by decide) rfl ?_; intro nb)
      (refine w ?_; repeat ((first | refine VO.step rfl rfl ?_ | refine VD.end rfl rfl rfl ?_ | refine VD.mid rfl rfl rfl ?_); refine OpV.box rfl rfl rfl ?_; intro _; refine w ?_))
      have hkd : ∀ X : List SProp, Keeps W (Row nb 56 [(KeepD.mk ko kcap lk).hdr, (KeepD.mk ko kcap lk).hdr] :: X) (some ⟨nb, 0, none⟩) [⟨ko, kcap, lk⟩, ⟨ko, kcap, lk⟩] := fun X =>
        ⟨Rds.row (fun u hu => by simp only [List.map_cons, List.map_nil, List.mem_cons, List.not_mem_nil, or_false] at hu; rcases hu with h | h <;> subst h <;> rfl) (.head _) rfl, fun x hx => by simp only [List.mem_cons, List.not_mem_nil, or_false] at hx; rcases hx with h | h <;> subst h <;> exact hk⟩
      refine VO.ent (Reord.ent (L := [BayR a (comesD ks ⟨k1, false, 0⟩ (c.inc 0)), Row nb 56 [(KeepD.mk ko kcap lk).hdr, (KeepD.mk ko kcap lk).hdr], OwnB x ks.img]) (by (repeat first | exact .refl | (apply Reord.cons; focus repeat first | exact .head | apply Del.tail) | exact .nil | apply Reord.drop))) ?_
      ((first | refine VO.step rfl rfl ?_ | refine VD.end rfl rfl rfl ?_ | refine VD.mid rfl rfl rfl ?_); refine OpV.call rfl rfl (fun _ _ => by simp) (baycut_ok (kl := [⟨ko, kcap, lk⟩, ⟨ko, kcap, lk⟩]) a (comesD ks ⟨k1, false, 0⟩ (c.inc 0)) (hkd _)) Ent.refl rfl ?_)
      intro _ _
      rw [comes_cut]
      dsimp only
      generalize hk2 : k1.settle (keepOf _) = k2
      (refine w ?_; repeat ((first | refine VO.step rfl rfl ?_ | refine VD.end rfl rfl rfl ?_ | refine VD.mid rfl rfl rfl ?_); refine OpV.box rfl rfl rfl ?_; intro _; refine w ?_))
      ((first | refine VO.step rfl rfl ?_ | refine VD.end rfl rfl rfl ?_ | refine VD.mid rfl rfl rfl ?_); refine OpV.call rfl rfl (fun _ _ => by simp) (bayimage_ok a (mk2 ⟨ks, false, 0⟩ ⟨k2, false, 0⟩ (c.inc 0)) 0) Ent.re rfl ?_)
      intro z hz
      rw [mk2_image] at hz ⊢
      (refine w ?_; repeat ((first | refine VO.step rfl rfl ?_ | refine VD.end rfl rfl rfl ?_ | refine VD.mid rfl rfl rfl ?_); refine OpV.box rfl rfl rfl ?_; intro _; refine w ?_))
      (((first | refine VO.step rfl rfl ?_ | refine VD.end rfl rfl rfl ?_ | refine VD.mid rfl rfl rfl ?_); refine OpV.call rfl rfl (fun _ _ => by simp) (bayhas_ok a (mk2 ⟨ks, false, 0⟩ ⟨k2, false, 0⟩ (c.inc 0)) 0) Ent.re rfl ?_); intro _ _)
      rw [has_mk2_0, hsf]
      (refine w ?_; repeat ((first | refine VO.step rfl rfl ?_ | refine VD.end rfl rfl rfl ?_ | refine VD.mid rfl rfl rfl ?_); refine OpV.box rfl rfl rfl ?_; intro _; refine w ?_))
      refine VO.know (fun w hw => hw.ownMax (show OwnB x ks.img ∈ _ by (focus repeat first | exact .head _ | apply List.Mem.tail)) : ∀ w, _ → ks.img.length ≤ maxLen) ?_
      intro hml
      dsimp only at hz
      refine VO.ent (Reord.ent (L := [OwnB z ks.img, OwnB x ks.img, BayR a (mk2 ⟨ks, false, 0⟩ ⟨k2, false, 0⟩ (c.inc 0))]) (by (repeat first | exact .refl | (apply Reord.cons; focus repeat first | exact .head | apply Del.tail) | exact .nil | apply Reord.drop))) ?_
      ((first | refine VO.step rfl rfl ?_ | refine VD.end rfl rfl rfl ?_ | refine VD.mid rfl rfl rfl ?_); refine OpV.call rfl rfl (fun _ _ => by simp) (same_any (a := ks.img) (b := ks.img) (Rds.own (bytes_one _) (.head _) (by simp) hz) (Rds.own (bytes_one _) (.tail _ (.head _)) (by simp) hx) hml) Ent.refl rfl ?_; intro _ _)
      (refine w ?_; repeat ((first | refine VO.step rfl rfl ?_ | refine VD.end rfl rfl rfl ?_ | refine VD.mid rfl rfl rfl ?_); refine OpV.box rfl rfl rfl ?_; intro _; refine w ?_))
      (first | refine VO.gT rfl rfl rfl (by simp) ?_ | refine VD.gT rfl rfl rfl (by simp) ?_)
      (refine w ?_; repeat ((first | refine VO.step rfl rfl ?_ | refine VD.end rfl rfl rfl ?_ | refine VD.mid rfl rfl rfl ?_); refine OpV.box rfl rfl rfl ?_; intro _; refine w ?_))
      ((first | refine VO.step rfl rfl ?_ | refine VD.end rfl rfl rfl ?_ | refine VD.mid rfl rfl rfl ?_); refine OpV.call rfl rfl (fun _ _ => by simp) (baypending_ok a (mk2 ⟨ks, false, 0⟩ ⟨k2, false, 0⟩ (c.inc 0)) 0 (fun v hv => by cases hv; show ks.cache.length ≤ _; rw [hsc]; simp)) Ent.re rfl ?_)
      intro u _
      rw [show ((mk2 ⟨ks, false, 0⟩ ⟨k2, false, 0⟩ (c.inc 0)).dev 0).elim ([] : List Nat) (fun v => v.k.cache.map (·.1)) = [] by show ks.cache.map (·.1) = []; rw [hsc]; rfl]
      (refine w ?_; repeat ((first | refine VO.step rfl rfl ?_ | refine VD.end rfl rfl rfl ?_ | refine VD.mid rfl rfl rfl ?_); refine OpV.box rfl rfl rfl ?_; intro _; refine w ?_))
      (refine VE.done1 rfl ?_ ?_)
      · rfl
      · exact Reord.ent .nil
  · obtain rfl : x = none := by cases x with | none => rfl | some b => simp [hE] at hx
    dsimp only [Option.elim_none]
    (refine w ?_; repeat ((first | refine VO.step rfl rfl ?_ | refine VD.end rfl rfl rfl ?_ | refine VD.mid rfl rfl rfl ?_); refine OpV.box rfl rfl rfl ?_; intro _; refine w ?_))
    ((first | refine VO.step rfl rfl ?_ | refine VD.end rfl rfl rfl ?_ | refine VD.mid rfl rfl rfl ?_); refine OpV.call rfl rfl (fun _ _ => by simp) (bknown_ok) Ent.refl rfl ?_; intro _ _)
    (refine w ?_; repeat ((first | refine VO.step rfl rfl ?_ | refine VD.end rfl rfl rfl ?_ | refine VD.mid rfl rfl rfl ?_); refine OpV.box rfl rfl rfl ?_; intro _; refine w ?_))
    (first | refine VO.gT rfl rfl rfl (by simpa using hE) ?_ | refine VD.gT rfl rfl rfl (by simpa using hE) ?_)
    (refine w ?_; repeat ((first | refine VO.step rfl rfl ?_ | refine VD.end rfl rfl rfl ?_ | refine VD.mid rfl rfl rfl ?_); refine OpV.box rfl rfl rfl ?_; intro _; refine w ?_))
    (refine VE.done1 rfl ?_ ?_)
    · rfl
    · exact Reord.ent .nil
end Go.Proofs.Ytbmcgmicnfbckaa
