/- The statements of the bay: BayTwo. -/
import Derived.Test.YtbmcgmicnfbckaaBm
set_option maxRecDepth 8000
set_option linter.unusedVariables false
set_option linter.unusedSimpArgs false
set_option linter.unusedSectionVars false
namespace Go.Proofs.Ytbmcgmicnfbckaa
open Go.RowKit Go.Sl
attribute [local irreducible] Own

theorem all_sizes {l : List Int} (h : bayE l = 0) : 1 ≤ l.length ∧ l.length ≤ 17 ∧ ∀ n ∈ l, 0 ≤ n ∧ n ≤ 8192 := by
  unfold bayE at h
  split at h
  · cases h
  · rename_i h1
    split at h
    · rename_i h2
      refine ⟨by omega, by omega, fun n hn => ?_⟩
      have := (List.all_eq_true.1 h2) n hn
      exact of_decide_eq_true this
    · cases h

set_option maxHeartbeats 8000000 in
theorem btwo_ok {W : World} {so ao : Option Addr} {scap cap : Nat} {l : List Int} {lb : List BopD} (hs : RdsA W 1 so l.length (intsI l)) (hsl : l.length ≤ 140737488351232) (hb0 : ∀ R, BScr W R ao lb) (hlb : lb.length ≤ 140737488351232) :
    Does1 W Try.prog 7 [.slice so l.length scap, .slice ao lb.length cap] [] (.bool true) [] := by
  (refine Does.enter Try.func7 Try.ntmps7 rfl rfl ?_)
  (refine w ?_; repeat ((first | refine VO.step rfl rfl ?_ | refine VD.end rfl rfl rfl ?_ | refine VD.mid rfl rfl rfl ?_); refine OpV.box rfl rfl rfl ?_; intro _; refine w ?_))
  ((first | refine VO.step rfl rfl ?_ | refine VD.end rfl rfl rfl ?_ | refine VD.mid rfl rfl rfl ?_); refine OpV.call rfl rfl (fun _ _ => by simp) (bmuch_ok (hb0 _) hsl hlb) Ent.re rfl ?_)
  intro mb hmb
  (refine w ?_; repeat ((first | refine VO.step rfl rfl ?_ | refine VD.end rfl rfl rfl ?_ | refine VD.mid rfl rfl rfl ?_); refine OpV.box rfl rfl rfl ?_; intro _; refine w ?_))
  (refine VC.cond rfl rfl ?_ ?_ <;> intro hc)
  · (refine w ?_; repeat ((first | refine VO.step rfl rfl ?_ | refine VD.end rfl rfl rfl ?_ | refine VD.mid rfl rfl rfl ?_); refine OpV.box rfl rfl rfl ?_; intro _; refine w ?_))
    (refine VE.done1 rfl ?_ ?_)
    · rfl
    · exact Ent.refl
  obtain ⟨hm1, hm2⟩ := hmb hc
  (refine w ?_; repeat ((first | refine VO.step rfl rfl ?_ | refine VD.end rfl rfl rfl ?_ | refine VD.mid rfl rfl rfl ?_); refine OpV.box rfl rfl rfl ?_; intro _; refine w ?_))
  ((first | refine VO.step rfl rfl ?_ | refine VD.end rfl rfl rfl ?_ | refine VD.mid rfl rfl rfl ?_); refine OpV.call rfl rfl (fun _ _ => by simp) (baynew_ok (hs _) (by omega)) Ent.refl rfl ?_)
  intro x hx
  (refine w ?_; repeat ((first | refine VO.step rfl rfl ?_ | refine VD.end rfl rfl rfl ?_ | refine VD.mid rfl rfl rfl ?_); refine OpV.box rfl rfl rfl ?_; intro _; refine w ?_))
  by_cases hE : bayE l = 0
  · rw [hE] at hx ⊢
    obtain ⟨h1, h17, hsz⟩ := all_sizes hE
    obtain ⟨sa, rfl⟩ : ∃ sa, so = some sa := by cases so with | none => have := (hs []).nil rfl; omega | some sa => exact ⟨sa, rfl⟩
    obtain ⟨a, rfl⟩ : ∃ a, x = some a := by cases x with | none => cases hx | some a => exact ⟨a, rfl⟩
    dsimp only [Option.elim_some]
    (refine w ?_; repeat ((first | refine VO.step rfl rfl ?_ | refine VD.end rfl rfl rfl ?_ | refine VD.mid rfl rfl rfl ?_); refine OpV.box rfl rfl rfl ?_; intro _; refine w ?_))
    ((first | refine VO.step rfl rfl ?_ | refine VD.end rfl rfl rfl ?_ | refine VD.mid rfl rfl rfl ?_); refine OpV.call rfl rfl (fun _ _ => by simp) (baynew_ok (hs _) (by omega)) Ent.refl rfl ?_)
    intro y hy
    rw [hE] at hy ⊢
    obtain ⟨b, rfl⟩ : ∃ b, y = some b := by cases y with | none => cases hy | some b => exact ⟨b, rfl⟩
    dsimp only [Option.elim_some]
    (refine w ?_; repeat ((first | refine VO.step rfl rfl ?_ | refine VD.end rfl rfl rfl ?_ | refine VD.mid rfl rfl rfl ?_); refine OpV.box rfl rfl rfl ?_; intro _; refine w ?_))
    ((first | refine VO.step rfl rfl ?_ | refine VD.end rfl rfl rfl ?_ | refine VD.mid rfl rfl rfl ?_); refine OpV.call rfl rfl (fun _ _ => by simp) (bknown_ok) Ent.refl rfl ?_; intro _ _)
    (refine w ?_; repeat ((first | refine VO.step rfl rfl ?_ | refine VD.end rfl rfl rfl ?_ | refine VD.mid rfl rfl rfl ?_); refine OpV.box rfl rfl rfl ?_; intro _; refine w ?_))
    refine VC.loop (α := Nat × BayD) (fun g => g.1 ≤ lb.length ∧ g.2.capd g.1) (fun g => [BayR a g.2, BayR b (BayD.new l)])
      (fun g => [(0, .slice (some sa) l.length scap), (1, .slice ao lb.length cap), (5, .pointer (some ⟨a, 0, none⟩)), (7, .pointer (some ⟨b, 0, none⟩)), (9, .int .i64 g.1)]) (fun g => lb.length - g.1) rfl (0, BayD.new l) ⟨Nat.zero_le _, new_capd l⟩ Ent.re ⟨rfl, rfl, rfl, rfl, rfl, trivial⟩ ?_
    rintro ⟨i, A⟩ ⟨hi, hA⟩
    dsimp only at hi hA ⊢
    (refine w ?_; repeat ((first | refine VO.step rfl rfl ?_ | refine VD.end rfl rfl rfl ?_ | refine VD.mid rfl rfl rfl ?_); refine OpV.box rfl rfl rfl ?_; intro _; refine w ?_))
    (refine VC.cond rfl rfl ?_ ?_ <;> intro hc)
    · have hlt : i < lb.length := by have := of_decide_eq_true hc; omega
      obtain ⟨oa, rfl⟩ : ∃ oa, ao = some oa := by cases ao with | none => have := (hb0 []).rds.nil rfl; omega | some oa => exact ⟨oa, rfl⟩
      have hw := (hb0 []).wf lb[i] (List.getElem_mem hlt)
      (refine w ?_; repeat ((first | refine VO.step rfl rfl ?_ | refine VD.end rfl rfl rfl ?_ | refine VD.mid rfl rfl rfl ?_); refine OpV.box rfl rfl rfl ?_; intro _; refine w ?_))
      (first | refine VO.pure rfl rfl (.ldRA tab_ok rfl rfl (hb0 _).rds (flat_part lb i hlt (fun _ _ => rfl)) rfl) rfl ?_ | refine VD.take rfl rfl rfl (.ldRA tab_ok rfl rfl (hb0 _).rds (flat_part lb i hlt (fun _ _ => rfl)) rfl) rfl ?_ | refine VQ.pure rfl rfl (.ldRA tab_ok rfl rfl (hb0 _).rds (flat_part lb i hlt (fun _ _ => rfl)) rfl) rfl ?_ | refine VD.end rfl rfl rfl (OpV.pure (.ldRA tab_ok rfl rfl (hb0 _).rds (flat_part lb i hlt (fun _ _ => rfl)) rfl) rfl ?_))
      (refine w ?_; repeat ((first | refine VO.step rfl rfl ?_ | refine VD.end rfl rfl rfl ?_ | refine VD.mid rfl rfl rfl ?_); refine OpV.box rfl rfl rfl ?_; intro _; refine w ?_))
      ((first | refine VO.step rfl rfl ?_ | refine VD.end rfl rfl rfl ?_ | refine VD.mid rfl rfl rfl ?_); refine OpV.allocS sb_35 rfl ?_; intro na)
      (refine w ?_; repeat ((first | refine VO.step rfl rfl ?_ | refine VD.end rfl rfl rfl ?_ | refine VD.mid rfl rfl rfl ?_); refine OpV.box rfl rfl rfl ?_; intro _; refine w ?_))
      (first | refine VO.step rfl rfl ?_ | refine VD.end rfl rfl rfl ?_ | refine VD.mid rfl rfl rfl ?_)
      refine OpV.stA (vs := lb[i].cells) tab_ok rfl rfl rfl rfl (bop_one _) (by (repeat first | exact .head | apply Hole.tail)) (by simp) ?_
      generalize ho : lb[i] = o at *
      (refine w ?_; repeat ((first | refine VO.step rfl rfl ?_ | refine VD.end rfl rfl rfl ?_ | refine VD.mid rfl rfl rfl ?_); refine OpV.box rfl rfl rfl ?_; intro _; refine w ?_))
      refine VC.ent (Reord.ent (L := [Row na 35 o.cells, BayR a A, BayR b (BayD.new l)]) (by (repeat first | exact .refl | (apply Reord.cons; focus repeat first | exact .head | apply Del.tail) | exact .nil | apply Reord.drop))) ?_
      refine VC.joinH [(0, .slice (some sa) l.length scap), (1, .slice (some oa) lb.length cap), (5, .pointer (some ⟨a, 0, none⟩)), (7, .pointer (some ⟨b, 0, none⟩)), (9, .int .i64 i), (10, .pointer (some ⟨na, 0, none⟩)), (54, .int .i64 o.kind), (55, .bool (decide (o.kind = 1 ∨ o.kind = 2 ∨ o.kind = 3)))] ?_ ?_
      · intro Q2 jn
        (refine VC.cond rfl rfl ?_ ?_ <;> intro hc)
        · have h1 : o.kind = 1 := by simpa using hc
          (refine w ?_; repeat ((first | refine VO.step rfl rfl ?_ | refine VD.end rfl rfl rfl ?_ | refine VD.mid rfl rfl rfl ?_); refine OpV.box rfl rfl rfl ?_; intro _; refine w ?_))
          exact jn.to () trivial ⟨rfl, rfl, rfl, rfl, rfl, rfl, rfl, asV rfl (by simp [h1]), trivial⟩ Ent.re
        have h1 : ¬ o.kind = 1 := by simpa using hc
        (refine w ?_; repeat ((first | refine VO.step rfl rfl ?_ | refine VD.end rfl rfl rfl ?_ | refine VD.mid rfl rfl rfl ?_); refine OpV.box rfl rfl rfl ?_; intro _; refine w ?_))
        (refine VC.cond rfl rfl ?_ ?_ <;> intro hc)
        · have h2 : o.kind = 2 := by simpa using hc
          (refine w ?_; repeat ((first | refine VO.step rfl rfl ?_ | refine VD.end rfl rfl rfl ?_ | refine VD.mid rfl rfl rfl ?_); refine OpV.box rfl rfl rfl ?_; intro _; refine w ?_))
          exact jn.to () trivial ⟨rfl, rfl, rfl, rfl, rfl, rfl, rfl, asV rfl (by simp [h2]), trivial⟩ Ent.re
        have h2 : ¬ o.kind = 2 := by simpa using hc
        (refine w ?_; repeat ((first | refine VO.step rfl rfl ?_ | refine VD.end rfl rfl rfl ?_ | refine VD.mid rfl rfl rfl ?_); refine OpV.box rfl rfl rfl ?_; intro _; refine w ?_))
        exact jn.to () trivial ⟨rfl, rfl, rfl, rfl, rfl, rfl, rfl, asV rfl (by congr 1; rw [Bool.eq_iff_iff]; simp [h1, h2]), trivial⟩ Ent.re
      (refine VC.cond rfl rfl ?_ ?_ <;> intro hc)
      · (refine w ?_; repeat ((first | refine VO.step rfl rfl ?_ | refine VD.end rfl rfl rfl ?_ | refine VD.mid rfl rfl rfl ?_); refine OpV.box rfl rfl rfl ?_; intro _; refine w ?_))
        ((first | refine VO.step rfl rfl ?_ | refine VD.end rfl rfl rfl ?_ | refine VD.mid rfl rfl rfl ?_); refine OpV.call rfl rfl (fun _ _ => by simp) (plain_ok a A o hw (Nat.le_trans (dv_cap hA _) (by omega))) Ent.re rfl ?_)
        intro x hx
        (refine w ?_; repeat ((first | refine VO.step rfl rfl ?_ | refine VD.end rfl rfl rfl ?_ | refine VD.mid rfl rfl rfl ?_); refine OpV.box rfl rfl rfl ?_; intro _; refine w ?_))
        refine VE.round (i + 1, (A.plain o.kind o.slot o.n o.b).2) ⟨hlt, plain_capd hA _ _ _ _⟩ (by dsimp only; omega) ⟨rfl, rfl, rfl, rfl, asV rfl (by congr 1), trivial⟩ Ent.re
      (refine w ?_; repeat ((first | refine VO.step rfl rfl ?_ | refine VD.end rfl rfl rfl ?_ | refine VD.mid rfl rfl rfl ?_); refine OpV.box rfl rfl rfl ?_; intro _; refine w ?_))
      (refine VC.cond rfl rfl ?_ ?_ <;> intro hc)
      · (refine w ?_; repeat ((first | refine VO.step rfl rfl ?_ | refine VD.end rfl rfl rfl ?_ | refine VD.mid rfl rfl rfl ?_); refine OpV.box rfl rfl rfl ?_; intro _; refine w ?_))
        (((first | refine VO.step rfl rfl ?_ | refine VD.end rfl rfl rfl ?_ | refine VD.mid rfl rfl rfl ?_); refine OpV.call rfl rfl (fun _ _ => by simp) (bayfail_ok a A o.slot) Ent.re rfl ?_); intro _ _)
        (refine w ?_; repeat ((first | refine VO.step rfl rfl ?_ | refine VD.end rfl rfl rfl ?_ | refine VD.mid rfl rfl rfl ?_); refine OpV.box rfl rfl rfl ?_; intro _; refine w ?_))
        refine VE.round (i + 1, (A.fail o.slot).2) ⟨hlt, (fail_capd hA _).mono (Nat.le_succ _)⟩ (by dsimp only; omega) ⟨rfl, rfl, rfl, rfl, asV rfl (by congr 1), trivial⟩ Ent.re
      (refine w ?_; repeat ((first | refine VO.step rfl rfl ?_ | refine VD.end rfl rfl rfl ?_ | refine VD.mid rfl rfl rfl ?_); refine OpV.box rfl rfl rfl ?_; intro _; refine w ?_))
      (refine VC.cond rfl rfl ?_ ?_ <;> intro hc)
      · (refine w ?_; repeat ((first | refine VO.step rfl rfl ?_ | refine VD.end rfl rfl rfl ?_ | refine VD.mid rfl rfl rfl ?_); refine OpV.box rfl rfl rfl ?_; intro _; refine w ?_))
        (((first | refine VO.step rfl rfl ?_ | refine VD.end rfl rfl rfl ?_ | refine VD.mid rfl rfl rfl ?_); refine OpV.call rfl rfl (fun _ _ => by simp) (baypull_ok a A o.slot) Ent.re rfl ?_); intro _ _)
        (refine w ?_; repeat ((first | refine VO.step rfl rfl ?_ | refine VD.end rfl rfl rfl ?_ | refine VD.mid rfl rfl rfl ?_); refine OpV.box rfl rfl rfl ?_; intro _; refine w ?_))
        refine VE.round (i + 1, (A.pull o.slot).2) ⟨hlt, (pull_capd hA _).mono (Nat.le_succ _)⟩ (by dsimp only; omega) ⟨rfl, rfl, rfl, rfl, asV rfl (by congr 1), trivial⟩ Ent.re
      (refine w ?_; repeat ((first | refine VO.step rfl rfl ?_ | refine VD.end rfl rfl rfl ?_ | refine VD.mid rfl rfl rfl ?_); refine OpV.box rfl rfl rfl ?_; intro _; refine w ?_))
      (refine VC.cond rfl rfl ?_ ?_ <;> intro hc)
      · (refine w ?_; repeat ((first | refine VO.step rfl rfl ?_ | refine VD.end rfl rfl rfl ?_ | refine VD.mid rfl rfl rfl ?_); refine OpV.box rfl rfl rfl ?_; intro _; refine w ?_))
        (((first | refine VO.step rfl rfl ?_ | refine VD.end rfl rfl rfl ?_ | refine VD.mid rfl rfl rfl ?_); refine OpV.call rfl rfl (fun _ _ => by simp) (baytrip_ok a A o.n) Ent.re rfl ?_); intro _ _)
        (refine w ?_; repeat ((first | refine VO.step rfl rfl ?_ | refine VD.end rfl rfl rfl ?_ | refine VD.mid rfl rfl rfl ?_); refine OpV.box rfl rfl rfl ?_; intro _; refine w ?_))
        refine VE.round (i + 1, (A.trips o.n).2) ⟨hlt, (trips_capd hA _).mono (Nat.le_succ _)⟩ (by dsimp only; omega) ⟨rfl, rfl, rfl, rfl, asV rfl (by congr 1), trivial⟩ Ent.re
      (refine w ?_; repeat ((first | refine VO.step rfl rfl ?_ | refine VD.end rfl rfl rfl ?_ | refine VD.mid rfl rfl rfl ?_); refine OpV.box rfl rfl rfl ?_; intro _; refine w ?_))
      (refine VC.cond rfl rfl ?_ ?_ <;> intro hc)
      · (refine w ?_; repeat ((first | refine VO.step rfl rfl ?_ | refine VD.end rfl rfl rfl ?_ | refine VD.mid rfl rfl rfl ?_); refine OpV.box rfl rfl rfl ?_; intro _; refine w ?_))
        (((first | refine VO.step rfl rfl ?_ | refine VD.end rfl rfl rfl ?_ | refine VD.mid rfl rfl rfl ?_); refine OpV.call rfl rfl (fun _ _ => by simp) (baycut_ok a A (hw.ks _)) Ent.re rfl ?_); intro _ _)
        (refine w ?_; repeat ((first | refine VO.step rfl rfl ?_ | refine VD.end rfl rfl rfl ?_ | refine VD.mid rfl rfl rfl ?_); refine OpV.box rfl rfl rfl ?_; intro _; refine w ?_))
        refine VE.round (i + 1, A.cut (o.keeps.map KeepD.l)) ⟨hlt, (cut_capd hA _).mono (Nat.le_succ _)⟩ (by dsimp only; omega) ⟨rfl, rfl, rfl, rfl, asV rfl (by congr 1), trivial⟩ Ent.re
      · (refine w ?_; repeat ((first | refine VO.step rfl rfl ?_ | refine VD.end rfl rfl rfl ?_ | refine VD.mid rfl rfl rfl ?_); refine OpV.box rfl rfl rfl ?_; intro _; refine w ?_))
        refine VE.round (i + 1, A) ⟨hlt, hA.mono (Nat.le_succ _)⟩ (by dsimp only; omega) ⟨rfl, rfl, rfl, rfl, asV rfl (by congr 1), trivial⟩ Ent.re
    · (refine w ?_; repeat ((first | refine VO.step rfl rfl ?_ | refine VD.end rfl rfl rfl ?_ | refine VD.mid rfl rfl rfl ?_); refine OpV.box rfl rfl rfl ?_; intro _; refine w ?_))
      refine VO.ent (Reord.ent (L := [BayR b (BayD.new l)]) (by (repeat first | exact .refl | (apply Reord.cons; focus repeat first | exact .head | apply Del.tail) | exact .nil | apply Reord.drop))) ?_
      (((first | refine VO.step rfl rfl ?_ | refine VD.end rfl rfl rfl ?_ | refine VD.mid rfl rfl rfl ?_); refine OpV.call rfl rfl (fun _ _ => by simp) (baycounts_ok b (BayD.new l)) Ent.re rfl ?_); intro _ _)
      (refine w ?_; repeat ((first | refine VO.step rfl rfl ?_ | refine VD.end rfl rfl rfl ?_ | refine VD.mid rfl rfl rfl ?_); refine OpV.box rfl rfl rfl ?_; intro _; refine w ?_))
      (apply VO.pure rfl rfl; apply PureAt.build sb_40 rfl; (simp [buildX, setL, Value.cells]; rfl); rfl)
      refine VO.pure rfl rfl (cnt_eq (c := ⟨0, 0, 0⟩) (d := ⟨0, 0, 0⟩) rfl rfl (by decide) (by decide) rfl) rfl ?_
      (refine w ?_; repeat ((first | refine VO.step rfl rfl ?_ | refine VD.end rfl rfl rfl ?_ | refine VD.mid rfl rfl rfl ?_); refine OpV.box rfl rfl rfl ?_; intro _; refine w ?_))
      (((first | refine VO.step rfl rfl ?_ | refine VD.end rfl rfl rfl ?_ | refine VD.mid rfl rfl rfl ?_); refine OpV.call rfl rfl (fun _ _ => by simp) (baydark_ok b (BayD.new l)) Ent.re rfl ?_); intro _ _)
      (refine w ?_; repeat ((first | refine VO.step rfl rfl ?_ | refine VD.end rfl rfl rfl ?_ | refine VD.mid rfl rfl rfl ?_); refine OpV.box rfl rfl rfl ?_; intro _; refine w ?_))
      refine VC.loop (α := Nat) (fun i => i ≤ l.length) (fun _ => [BayR b (BayD.new l)])
        (fun i => [(0, .slice (some sa) l.length scap), (7, .pointer (some ⟨b, 0, none⟩)), (11, .int .i64 i)]) (fun i => l.length - i) rfl 0 (Nat.zero_le _) Ent.re ⟨rfl, rfl, rfl, trivial⟩ ?_
      intro i hi
      (refine w ?_; repeat ((first | refine VO.step rfl rfl ?_ | refine VD.end rfl rfl rfl ?_ | refine VD.mid rfl rfl rfl ?_); refine OpV.box rfl rfl rfl ?_; intro _; refine w ?_))
      (refine VC.cond rfl rfl ?_ ?_ <;> intro hc)
      · have hlt : i < l.length := by have := of_decide_eq_true hc; omega
        (refine w ?_; repeat ((first | refine VO.step rfl rfl ?_ | refine VD.end rfl rfl rfl ?_ | refine VD.mid rfl rfl rfl ?_); refine OpV.box rfl rfl rfl ?_; intro _; refine w ?_))
        ((first | refine VO.step rfl rfl ?_ | refine VD.end rfl rfl rfl ?_ | refine VD.mid rfl rfl rfl ?_); refine OpV.call rfl rfl (fun _ _ => by simp) (bayimage_ok b (BayD.new l) i) Ent.re rfl ?_)
        intro x hx
        have hni := hsz l[i] (List.getElem_mem hlt)
        have eim : (BayD.new l).image i = (List.replicate (l[i].toNat * 128) 0, if l[i] = 0 then 51 else 0) := by
          rw [new_image l i hlt]; split
          · rename_i h0; rw [h0]; rfl
          · rfl
        have hhas : ((BayD.new l).dev i).any (fun v => !v.k.failed) = !decide (l[i] = 0) := by
          rw [new_dev l i hlt]; split
          · rename_i h0; simp [h0]
          · rename_i h0; simp [h0]; rfl
        rw [eim] at hx ⊢
        dsimp only at hx ⊢
        generalize hn : l[i] = n at *
        generalize hm : n.toNat * 128 = m at *
        have hxn : x.1 = none → m = 0 := fun h => by have := hx h; simpa using this
        have ezl : (List.replicate m (0 : UInt8)).length = m := List.length_replicate
        (refine w ?_; repeat ((first | refine VO.step rfl rfl ?_ | refine VD.end rfl rfl rfl ?_ | refine VD.mid rfl rfl rfl ?_); refine OpV.box rfl rfl rfl ?_; intro _; refine w ?_))
        refine VC.loop (α := Nat) (fun k => k ≤ m) (fun _ => [OwnB x (List.replicate m 0), BayR b (BayD.new l)])
          (fun k => [(0, .slice (some sa) l.length scap), (7, .pointer (some ⟨b, 0, none⟩)), (11, .int .i64 i), (12, .slice x.1 m x.2), (13, .int .u16 (if n = 0 then 51 else 0)), (14, .int .i64 k)]) (fun k => m - k) rfl 0 (Nat.zero_le _) Ent.refl ⟨rfl, rfl, rfl, asV rfl (by show Value.slice x.1 (List.replicate m (0 : UInt8)).length x.2 = _; rw [ezl]), rfl, rfl, trivial⟩ ?_
        intro k hk
        (refine w ?_; repeat ((first | refine VO.step rfl rfl ?_ | refine VD.end rfl rfl rfl ?_ | refine VD.mid rfl rfl rfl ?_); refine OpV.box rfl rfl rfl ?_; intro _; refine w ?_))
        (refine VC.cond rfl rfl ?_ ?_ <;> intro hc)
        · have hkl : k < m := by have := of_decide_eq_true hc; omega
          obtain ⟨xa, hxa⟩ : ∃ xa, x.1 = some xa := by cases hx1 : x.1 with | none => have := hxn hx1; omega | some xa => exact ⟨xa, rfl⟩
          rw [hxa]
          (refine w ?_; repeat ((first | refine VO.step rfl rfl ?_ | refine VD.end rfl rfl rfl ?_ | refine VD.mid rfl rfl rfl ?_); refine OpV.box rfl rfl rfl ?_; intro _; refine w ?_))
          (first | refine VO.pure rfl rfl (PureAt.ldR tab_ok rfl rfl (Rds.own (cap := x.2) (e := 5) (bytes_one (List.replicate m 0)) (by rw [← hxa]; simp only [OwnB, ezl]; exact .head _) (by simp) (fun h => by cases h)) (show (bytes (List.replicate m 0))[k]? = some (.int .u8 0) by simp [bytes, hkl]; rfl)) rfl ?_ | refine VD.take rfl rfl rfl (PureAt.ldR tab_ok rfl rfl (Rds.own (cap := x.2) (e := 5) (bytes_one (List.replicate m 0)) (by rw [← hxa]; simp only [OwnB, ezl]; exact .head _) (by simp) (fun h => by cases h)) (show (bytes (List.replicate m 0))[k]? = some (.int .u8 0) by simp [bytes, hkl]; rfl)) rfl ?_ | refine VQ.pure rfl rfl (PureAt.ldR tab_ok rfl rfl (Rds.own (cap := x.2) (e := 5) (bytes_one (List.replicate m 0)) (by rw [← hxa]; simp only [OwnB, ezl]; exact .head _) (by simp) (fun h => by cases h)) (show (bytes (List.replicate m 0))[k]? = some (.int .u8 0) by simp [bytes, hkl]; rfl)) rfl ?_ | refine VD.end rfl rfl rfl (OpV.pure (PureAt.ldR tab_ok rfl rfl (Rds.own (cap := x.2) (e := 5) (bytes_one (List.replicate m 0)) (by rw [← hxa]; simp only [OwnB, ezl]; exact .head _) (by simp) (fun h => by cases h)) (show (bytes (List.replicate m 0))[k]? = some (.int .u8 0) by simp [bytes, hkl]; rfl)) rfl ?_))
          (refine w ?_; repeat ((first | refine VO.step rfl rfl ?_ | refine VD.end rfl rfl rfl ?_ | refine VD.mid rfl rfl rfl ?_); refine OpV.box rfl rfl rfl ?_; intro _; refine w ?_))
          refine VE.round (k + 1) hkl (by omega) ⟨rfl, rfl, rfl, rfl, rfl, asV rfl (by congr 1), trivial⟩ Ent.re
        · (refine w ?_; repeat ((first | refine VO.step rfl rfl ?_ | refine VD.end rfl rfl rfl ?_ | refine VD.mid rfl rfl rfl ?_); refine OpV.box rfl rfl rfl ?_; intro _; refine w ?_))
          (refine VC.drawn [11] 27 [0, 1, 2, 3, 4, 5, 6, 7, 8, 9, 10, 12, 13, 14, 15, 16, 11, 17, 18, 19, 20, 21, 22, 23, 24, 25, 26, 27, 28] _ rfl (by kernel_rfl) (by kernel_rfl) Ent.re ?_)
          (refine w ?_; repeat ((first | refine VO.step rfl rfl ?_ | refine VD.end rfl rfl rfl ?_ | refine VD.mid rfl rfl rfl ?_); refine OpV.box rfl rfl rfl ?_; intro _; refine w ?_))
          have sg : (intsI l)[i]? = some (.int .i64 n) := by rw [intsI_get l i hlt, hn]
          (first | refine VO.pure rfl rfl (.ldRc tab_ok rfl rfl (hs _) sg) rfl ?_ | refine VD.take rfl rfl rfl (.ldRc tab_ok rfl rfl (hs _) sg) rfl ?_ | refine VQ.pure rfl rfl (.ldRc tab_ok rfl rfl (hs _) sg) rfl ?_ | refine VD.end rfl rfl rfl (OpV.pure (.ldRc tab_ok rfl rfl (hs _) sg) rfl ?_))
          (refine w ?_; repeat ((first | refine VO.step rfl rfl ?_ | refine VD.end rfl rfl rfl ?_ | refine VD.mid rfl rfl rfl ?_); refine OpV.box rfl rfl rfl ?_; intro _; refine w ?_))
          (first | refine VO.gF rfl rfl rfl (by by_cases h0 : n = 0 <;> simp [h0]; omega) ?_ | refine VD.gF rfl rfl rfl (by by_cases h0 : n = 0 <;> simp [h0]; omega) ?_)
          (refine w ?_; repeat ((first | refine VO.step rfl rfl ?_ | refine VD.end rfl rfl rfl ?_ | refine VD.mid rfl rfl rfl ?_); refine OpV.box rfl rfl rfl ?_; intro _; refine w ?_))
          (first | refine VO.pure rfl rfl (.ldRc tab_ok rfl rfl (hs _) sg) rfl ?_ | refine VD.take rfl rfl rfl (.ldRc tab_ok rfl rfl (hs _) sg) rfl ?_ | refine VQ.pure rfl rfl (.ldRc tab_ok rfl rfl (hs _) sg) rfl ?_ | refine VD.end rfl rfl rfl (OpV.pure (.ldRc tab_ok rfl rfl (hs _) sg) rfl ?_))
          (refine w ?_; repeat ((first | refine VO.step rfl rfl ?_ | refine VD.end rfl rfl rfl ?_ | refine VD.mid rfl rfl rfl ?_); refine OpV.box rfl rfl rfl ?_; intro _; refine w ?_))
          (((first | refine VO.step rfl rfl ?_ | refine VD.end rfl rfl rfl ?_ | refine VD.mid rfl rfl rfl ?_); refine OpV.call rfl rfl (fun _ _ => by simp) (bayhas_ok b (BayD.new l) i) Ent.re rfl ?_); intro _ _)
          rw [hhas]
          (refine w ?_; repeat ((first | refine VO.step rfl rfl ?_ | refine VD.end rfl rfl rfl ?_ | refine VD.mid rfl rfl rfl ?_); refine OpV.box rfl rfl rfl ?_; intro _; refine w ?_))
          (first | refine VO.gF rfl rfl rfl (by by_cases h0 : n = 0 <;> simp [h0]; omega) ?_ | refine VD.gF rfl rfl rfl (by by_cases h0 : n = 0 <;> simp [h0]; omega) ?_)
          (refine w ?_; repeat ((first | refine VO.step rfl rfl ?_ | refine VD.end rfl rfl rfl ?_ | refine VD.mid rfl rfl rfl ?_); refine OpV.box rfl rfl rfl ?_; intro _; refine w ?_))
          (first | refine VO.pure rfl rfl (.ldRc tab_ok rfl rfl (hs _) sg) rfl ?_ | refine VD.take rfl rfl rfl (.ldRc tab_ok rfl rfl (hs _) sg) rfl ?_ | refine VQ.pure rfl rfl (.ldRc tab_ok rfl rfl (hs _) sg) rfl ?_ | refine VD.end rfl rfl rfl (OpV.pure (.ldRc tab_ok rfl rfl (hs _) sg) rfl ?_))
          (refine w ?_; repeat ((first | refine VO.step rfl rfl ?_ | refine VD.end rfl rfl rfl ?_ | refine VD.mid rfl rfl rfl ?_); refine OpV.box rfl rfl rfl ?_; intro _; refine w ?_))
          (refine VC.condFe rfl rfl (by simp; omega) ?_)
          (refine w ?_; repeat ((first | refine VO.step rfl rfl ?_ | refine VD.end rfl rfl rfl ?_ | refine VD.mid rfl rfl rfl ?_); refine OpV.box rfl rfl rfl ?_; intro _; refine w ?_))
          refine VE.round (i + 1) hlt (by omega) ⟨rfl, rfl, asV rfl (by congr 1), trivial⟩ Ent.re
      · (refine w ?_; repeat ((first | refine VO.step rfl rfl ?_ | refine VD.end rfl rfl rfl ?_ | refine VD.mid rfl rfl rfl ?_); refine OpV.box rfl rfl rfl ?_; intro _; refine w ?_))
        (refine VE.done1 rfl ?_ ?_)
        · rfl
        · exact Reord.ent .nil
  · obtain rfl : x = none := by cases x with | none => rfl | some b => simp [hE] at hx
    dsimp only [Option.elim_none]
    (refine w ?_; repeat ((first | refine VO.step rfl rfl ?_ | refine VD.end rfl rfl rfl ?_ | refine VD.mid rfl rfl rfl ?_); refine OpV.box rfl rfl rfl ?_; intro _; refine w ?_))
    ((first | refine VO.step rfl rfl ?_ | refine VD.end rfl rfl rfl ?_ | refine VD.mid rfl rfl rfl ?_); refine OpV.call rfl rfl (fun _ _ => by simp) (baynew_ok (hs _) (by omega)) Ent.refl rfl ?_)
    intro y hy
    obtain rfl : y = none := by cases y with | none => rfl | some b => simp [hE] at hy
    dsimp only [Option.elim_none]
    (refine w ?_; repeat ((first | refine VO.step rfl rfl ?_ | refine VD.end rfl rfl rfl ?_ | refine VD.mid rfl rfl rfl ?_); refine OpV.box rfl rfl rfl ?_; intro _; refine w ?_))
    ((first | refine VO.step rfl rfl ?_ | refine VD.end rfl rfl rfl ?_ | refine VD.mid rfl rfl rfl ?_); refine OpV.call rfl rfl (fun _ _ => by simp) (bknown_ok) Ent.refl rfl ?_; intro _ _)
    (refine w ?_; repeat ((first | refine VO.step rfl rfl ?_ | refine VD.end rfl rfl rfl ?_ | refine VD.mid rfl rfl rfl ?_); refine OpV.box rfl rfl rfl ?_; intro _; refine w ?_))
    (refine VC.condFe rfl rfl (by simp) ?_)
    (refine w ?_; repeat ((first | refine VO.step rfl rfl ?_ | refine VD.end rfl rfl rfl ?_ | refine VD.mid rfl rfl rfl ?_); refine OpV.box rfl rfl rfl ?_; intro _; refine w ?_))
    (refine VC.condTe rfl rfl (by simpa using hE) ?_)
    (refine w ?_; repeat ((first | refine VO.step rfl rfl ?_ | refine VD.end rfl rfl rfl ?_ | refine VD.mid rfl rfl rfl ?_); refine OpV.box rfl rfl rfl ?_; intro _; refine w ?_))
    (refine VE.done1 rfl ?_ ?_)
    · rfl
    · exact Ent.refl
end Go.Proofs.Ytbmcgmicnfbckaa
