/- The statements of the bay: BayTrips. -/
import Derived.Test.YtbmcgmicnfbckaaBq
set_option maxRecDepth 8000
set_option linter.unusedVariables false
set_option linter.unusedSimpArgs false
set_option linter.unusedSectionVars false
namespace Go.Proofs.Ytbmcgmicnfbckaa
open Go.RowKit Go.Sl
attribute [local irreducible] Own

theorem CntD.is.ok {c : CntD} {m : Nat} (h : c.is m) (hm : m ≤ 1000000) : c.ok := by
  obtain ⟨h1, h2, h3, h4⟩ := h
  refine ⟨?_, ?_, ?_⟩ <;> (simp [Lit.wf, IntKind.min, IntKind.max, IntKind.signed, IntKind.bits]; omega)
/-- The call that has what is kept, alone. -/
abbrev kop (ko : Option Addr) (kcap : Nat) (kl : List KeepD) : BopD := ⟨0, 0, 0, none, 0, [], ko, kcap, kl⟩
theorem rdsNil2 {W : World} {R : List SProp} : Rds W R 1 none 0 (bytes []) := by
  refine ⟨rfl, fun _ h => ?_, fun _ => rfl, fun _ _ _ h => ?_⟩
  · cases h
  · cases h
theorem kop_wf {W : World} {ko : Option Addr} {kcap : Nat} {kl : List KeepD} (hk : ∀ R, Keeps W R ko kl) (hl : ∀ x ∈ kl, x.l.length ≤ 140737488351232) (hn : kl.length ≤ 140737488351232) : (kop ko kcap kl).wf W :=
  ⟨fun _ => rdsNil2, by simp, Nat.le_refl _, hk, hl, hn, by simp, by simp, by simp, by simp⟩
theorem kop_scr {W : World} {R : List SProp} {nb : Nat} {ko : Option Addr} {kcap : Nat} {kl : List KeepD} (h : (kop ko kcap kl).wf W) : BScr W (Row nb 35 (kop ko kcap kl).cells :: R) (some ⟨nb, 0, none⟩) [kop ko kcap kl] :=
  ⟨by
    have e : bopCells [kop ko kcap kl] = (kop ko kcap kl).cells := by simp [bopCells]
    rw [e]; exact Rds.row (bop_one _) (.head _) rfl, fun o ho => by rw [List.mem_singleton] at ho; subst ho; exact h⟩

def twinT (n : Int) (A : BayD) (m : Nat) (dk : Bool) : BayD := if dk then A.night else A.withT (n - m)

set_option maxHeartbeats 16000000 in
theorem btrips_ok {W : World} {so ao ko : Option Addr} {scap cap kcap : Nat} {l : List Int} {lb : List BopD} {kl : List KeepD} (n : Int) (hn1 : n ≤ 9223372036854775807) (hs : RdsA W 1 so l.length (intsI l)) (hsl : l.length ≤ 140737488351232) (hb0 : ∀ R, BScr W R ao lb) (hlb : lb.length ≤ 140737488351232)
    (hk : ∀ R, Keeps W R ko kl) (hkl : ∀ x ∈ kl, x.l.length ≤ 140737488351232) (hkn : kl.length ≤ 140737488351232) :
    Does1 W Try.prog 4 [.slice so l.length scap, .slice ao lb.length cap, .int .i64 n, .slice ko kl.length kcap] [] (.bool true) [] := by
  (refine Does.enter Try.func4 Try.ntmps4 rfl rfl ?_)
  (refine w ?_; repeat ((first | refine VO.step rfl rfl ?_ | refine VD.end rfl rfl rfl ?_ | refine VD.mid rfl rfl rfl ?_); refine OpV.box rfl rfl rfl ?_; intro _; refine w ?_))
  ((first | refine VO.step rfl rfl ?_ | refine VD.end rfl rfl rfl ?_ | refine VD.mid rfl rfl rfl ?_); refine OpV.call rfl rfl (fun _ _ => by simp) (bmuch_ok (hb0 _) hsl hlb) Ent.re rfl ?_)
  intro mb hmb
  (refine w ?_; repeat ((first | refine VO.step rfl rfl ?_ | refine VD.end rfl rfl rfl ?_ | refine VD.mid rfl rfl rfl ?_); refine OpV.box rfl rfl rfl ?_; intro _; refine w ?_))
  ((first | refine VO.split rfl rfl rfl ?_ ?_ | refine VD.split rfl rfl rfl ?_ ?_) <;> intro hb)
  · (refine w ?_; repeat ((first | refine VO.step rfl rfl ?_ | refine VD.end rfl rfl rfl ?_ | refine VD.mid rfl rfl rfl ?_); refine OpV.box rfl rfl rfl ?_; intro _; refine w ?_))
    (refine VE.done1 rfl ?_ ?_)
    · rfl
    · exact Ent.refl
  obtain ⟨hm1, hm2⟩ := hmb hb
  (refine w ?_; repeat ((first | refine VO.step rfl rfl ?_ | refine VD.end rfl rfl rfl ?_ | refine VD.mid rfl rfl rfl ?_); refine OpV.box rfl rfl rfl ?_; intro _; refine w ?_))
  (apply VO.pure rfl rfl; apply PureAt.build sb_35 rfl; (simp [buildX, setL, Value.cells]; rfl); rfl)
  (first | refine VO.step rfl rfl ?_ | refine VD.end rfl rfl rfl ?_ | refine VD.mid rfl rfl rfl ?_)
  refine OpV.buildSlice (vs := [.agg (kop ko kcap kl).cells.toArray]) (cs := (kop ko kcap kl).cells) st_22 rfl rfl (by simp [Value.cells]) (by simp [Value.cells]) (by decide) rfl ?_
  intro nb
  ((first | refine VO.step rfl rfl ?_ | refine VD.end rfl rfl rfl ?_ | refine VD.mid rfl rfl rfl ?_); refine OpV.call rfl rfl (fun _ _ => by simp) (bmuch_ok (l := [kop ko kcap kl]) (n := l.length) (kop_scr (kop_wf hk hkl hkn)) hsl (by simp)) Ent.refl rfl ?_)
  intro mb2 _
  (refine w ?_; repeat ((first | refine VO.step rfl rfl ?_ | refine VD.end rfl rfl rfl ?_ | refine VD.mid rfl rfl rfl ?_); refine OpV.box rfl rfl rfl ?_; intro _; refine w ?_))
  (refine VC.cond rfl rfl ?_ ?_ <;> intro hc)
  · (refine w ?_; repeat ((first | refine VO.step rfl rfl ?_ | refine VD.end rfl rfl rfl ?_ | refine VD.mid rfl rfl rfl ?_); refine OpV.box rfl rfl rfl ?_; intro _; refine w ?_))
    (refine VE.done1 rfl ?_ ?_)
    · rfl
    · exact Reord.ent .nil
  (refine w ?_; repeat ((first | refine VO.step rfl rfl ?_ | refine VD.end rfl rfl rfl ?_ | refine VD.mid rfl rfl rfl ?_); refine OpV.box rfl rfl rfl ?_; intro _; refine w ?_))
  refine VO.ent (Reord.ent (L := []) .nil) ?_
  ((first | refine VO.step rfl rfl ?_ | refine VD.end rfl rfl rfl ?_ | refine VD.mid rfl rfl rfl ?_); refine OpV.call rfl rfl (fun _ _ => by simp) (baynew_ok (hs _) (by omega)) Ent.refl rfl ?_)
  intro x hx
  by_cases hE : bayE l = 0
  · rw [hE] at hx ⊢
    obtain ⟨h1, h17, hsz⟩ := all_sizes hE
    obtain ⟨a, rfl⟩ : ∃ a, x = some a := by cases x with | none => cases hx | some a => exact ⟨a, rfl⟩
    dsimp only [Option.elim_some]
    (refine w ?_; repeat ((first | refine VO.step rfl rfl ?_ | refine VD.end rfl rfl rfl ?_ | refine VD.mid rfl rfl rfl ?_); refine OpV.box rfl rfl rfl ?_; intro _; refine w ?_))
    ((first | refine VO.step rfl rfl ?_ | refine VD.end rfl rfl rfl ?_ | refine VD.mid rfl rfl rfl ?_); refine OpV.call rfl rfl (fun _ _ => by simp) (baynew_ok (hs _) (by omega)) Ent.refl rfl ?_)
    intro y hy
    rw [hE] at hy ⊢
    obtain ⟨b, rfl⟩ : ∃ b, y = some b := by cases y with | none => cases hy | some b => exact ⟨b, rfl⟩
    dsimp only [Option.elim_some]
    (refine w ?_; repeat ((first | refine VO.step rfl rfl ?_ | refine VD.end rfl rfl rfl ?_ | refine VD.mid rfl rfl rfl ?_); refine OpV.box rfl rfl rfl ?_; intro _; refine w ?_))
    ((first | refine VO.step rfl rfl ?_ | refine VD.end rfl rfl rfl ?_ | refine VD.mid rfl rfl rfl ?_); refine OpV.call rfl rfl (fun _ _ => by simp) (bknown_ok) Ent.refl rfl ?_; intro _ _)
    (refine w ?_; repeat ((first | refine VO.step rfl rfl ?_ | refine VD.end rfl rfl rfl ?_ | refine VD.mid rfl rfl rfl ?_); refine OpV.box rfl rfl rfl ?_; intro _; refine w ?_))
    (((first | refine VO.step rfl rfl ?_ | refine VD.end rfl rfl rfl ?_ | refine VD.mid rfl rfl rfl ?_); refine OpV.call rfl rfl (fun _ _ => by simp) (baytrip_ok b (BayD.new l) n) Ent.re rfl ?_); intro _ _)
    have etr : (BayD.new l).trips n = if n < 0 then (1, BayD.new l) else (0, (BayD.new l).withT n) := by unfold BayD.trips; split <;> rfl
    rw [etr]
    (refine w ?_; repeat ((first | refine VO.step rfl rfl ?_ | refine VD.end rfl rfl rfl ?_ | refine VD.mid rfl rfl rfl ?_); refine OpV.box rfl rfl rfl ?_; intro _; refine w ?_))
    (refine VC.cond rfl rfl ?_ ?_ <;> intro hc)
    · have h : n < 0 := of_decide_eq_true hc
      rw [if_pos h]
      (refine w ?_; repeat ((first | refine VO.step rfl rfl ?_ | refine VD.end rfl rfl rfl ?_ | refine VD.mid rfl rfl rfl ?_); refine OpV.box rfl rfl rfl ?_; intro _; refine w ?_))
      (((first | refine VO.step rfl rfl ?_ | refine VD.end rfl rfl rfl ?_ | refine VD.mid rfl rfl rfl ?_); refine OpV.call rfl rfl (fun _ _ => by simp) (baydark_ok b (BayD.new l)) Ent.re rfl ?_); intro _ _)
      (refine w ?_; repeat ((first | refine VO.step rfl rfl ?_ | refine VD.end rfl rfl rfl ?_ | refine VD.mid rfl rfl rfl ?_); refine OpV.box rfl rfl rfl ?_; intro _; refine w ?_))
      (refine VE.done1 rfl ?_ ?_)
      · rfl
      · exact Reord.ent .nil
    have hn0 : ¬ n < 0 := of_decide_eq_false hc
    rw [if_neg hn0]
    (refine w ?_; repeat ((first | refine VO.step rfl rfl ?_ | refine VD.end rfl rfl rfl ?_ | refine VD.mid rfl rfl rfl ?_); refine OpV.box rfl rfl rfl ?_; intro _; refine w ?_))
    refine VC.loop (α := Nat × Nat × BayD × Bool) (fun g => g.1 ≤ lb.length ∧ g.2.1 ≤ g.1 ∧ g.2.2.1.dark = false ∧ g.2.2.1.trip = -1 ∧ g.2.2.1.n.is g.2.1 ∧ g.2.2.1.capd g.1 ∧ g.2.2.1.slots.length = l.length ∧ (g.2.2.2 = false → (g.2.1 : Int) ≤ n))
      (fun g => [BayR a g.2.2.1, BayR b (twinT n g.2.2.1 g.2.1 g.2.2.2)])
      (fun g => [(0, .slice so l.length scap), (1, .slice ao lb.length cap), (2, .int .i64 n), (3, .slice ko kl.length kcap), (9, .pointer (some ⟨a, 0, none⟩)), (11, .pointer (some ⟨b, 0, none⟩)), (13, .int .u16 0), (14, .bool g.2.2.2), (15, .int .i64 g.1)]) (fun g => lb.length - g.1) rfl
      (0, 0, BayD.new l, false) ⟨Nat.zero_le _, Nat.le_refl _, rfl, rfl, (show (CntD.mk 0 0 0).is 0 from ⟨by decide, by decide, by decide, rfl⟩), new_capd l, by simp [BayD.new], fun _ => by dsimp only; omega⟩
      (by rw [show twinT n (BayD.new l) 0 false = (BayD.new l).withT n by unfold twinT; simp]; exact Ent.re) ⟨rfl, rfl, rfl, rfl, rfl, rfl, rfl, rfl, rfl, trivial⟩ ?_
    rintro ⟨i, m, A, dk⟩ ⟨hi, hmi, hd, ht, hcn, hcap, hsl2, hdk⟩
    dsimp only at hi hmi hd ht hcn hcap hsl2 hdk ⊢
    (refine w ?_; repeat ((first | refine VO.step rfl rfl ?_ | refine VD.end rfl rfl rfl ?_ | refine VD.mid rfl rfl rfl ?_); refine OpV.box rfl rfl rfl ?_; intro _; refine w ?_))
    (refine VC.cond rfl rfl ?_ ?_ <;> intro hc)
    · have hlt : i < lb.length := by have := of_decide_eq_true hc; omega
      obtain ⟨oa, rfl⟩ : ∃ oa, ao = some oa := by cases ao with | none => have := (hb0 []).rds.nil rfl; omega | some oa => exact ⟨oa, rfl⟩
      have hw := (hb0 []).wf lb[i] (List.getElem_mem hlt)
      (refine w ?_; repeat ((first | refine VO.step rfl rfl ?_ | refine VD.end rfl rfl rfl ?_ | refine VD.mid rfl rfl rfl ?_); refine OpV.box rfl rfl rfl ?_; intro _; refine w ?_))
      (first | refine VO.pure rfl rfl (.ldRA tab_ok rfl rfl (hb0 _).rds (flat_part lb i hlt (fun _ _ => rfl)) rfl) rfl ?_ | refine VD.take rfl rfl rfl (.ldRA tab_ok rfl rfl (hb0 _).rds (flat_part lb i hlt (fun _ _ => rfl)) rfl) rfl ?_ | refine VQ.pure rfl rfl (.ldRA tab_ok rfl rfl (hb0 _).rds (flat_part lb i hlt (fun _ _ => rfl)) rfl) rfl ?_ | refine VD.end rfl rfl rfl (OpV.pure (.ldRA tab_ok rfl rfl (hb0 _).rds (flat_part lb i hlt (fun _ _ => rfl)) rfl) rfl ?_))
      (refine w ?_; repeat ((first | refine VO.step rfl rfl ?_ | refine VD.end rfl rfl rfl ?_ | refine VD.mid rfl rfl rfl ?_); refine OpV.box rfl rfl rfl ?_; intro _; refine w ?_))
      ((first | refine VO.step rfl rfl ?_ | refine VD.end rfl rfl rfl ?_ | refine VD.mid rfl rfl rfl ?_); refine OpV.allocS sb_35 rfl ?_; intro na)
      (refine w ?_; repeat ((first | refine VO.step rfl rfl ?_ | refine VD.end rfl rfl rfl ?_ | refine VD.mid rfl rfl rfl ?_); refine OpV.box rfl rfl rfl ?_; intro _; refine w ?_))
      (first | refine VO.step rfl rfl ?_ | refine VD.end rfl rfl rfl ?_ | refine VD.mid rfl rfl rfl ?_)
      refine OpV.stA (vs := lb[i].cells) tab_ok rfl rfl rfl rfl (bop_one _) (by (repeat first | exact .head | apply Hole.tail)) (by simp) ?_
      generalize ho : lb[i] = o at *
      refine VO.ent (Reord.ent (L := [Row na 35 o.cells, BayR a A, BayR b (twinT n A m dk)]) (by (repeat first | exact .refl | (apply Reord.cons; focus repeat first | exact .head | apply Del.tail) | exact .nil | apply Reord.drop))) ?_
      (refine w ?_; repeat ((first | refine VO.step rfl rfl ?_ | refine VD.end rfl rfl rfl ?_ | refine VD.mid rfl rfl rfl ?_); refine OpV.box rfl rfl rfl ?_; intro _; refine w ?_))
      ((first | refine VO.split rfl rfl rfl ?_ ?_ | refine VD.split rfl rfl rfl ?_ ?_) <;> intro hb)
      · (refine w ?_; repeat ((first | refine VO.step rfl rfl ?_ | refine VD.end rfl rfl rfl ?_ | refine VD.mid rfl rfl rfl ?_); refine OpV.box rfl rfl rfl ?_; intro _; refine w ?_))
        refine VE.round (i + 1, m, A, dk) ⟨hlt, by dsimp only; omega, hd, ht, hcn, hcap.mono (Nat.le_succ _), hsl2, hdk⟩ (by dsimp only; omega) ⟨rfl, rfl, rfl, rfl, rfl, rfl, rfl, rfl, asV rfl (by congr 1), trivial⟩ Ent.re
      (refine w ?_; repeat ((first | refine VO.step rfl rfl ?_ | refine VD.end rfl rfl rfl ?_ | refine VD.mid rfl rfl rfl ?_); refine OpV.box rfl rfl rfl ?_; intro _; refine w ?_))
      ((first | refine VO.split rfl rfl rfl ?_ ?_ | refine VD.split rfl rfl rfl ?_ ?_) <;> intro hb)
      · (refine w ?_; repeat ((first | refine VO.step rfl rfl ?_ | refine VD.end rfl rfl rfl ?_ | refine VD.mid rfl rfl rfl ?_); refine OpV.box rfl rfl rfl ?_; intro _; refine w ?_))
        refine VE.round (i + 1, m, A, dk) ⟨hlt, by dsimp only; omega, hd, ht, hcn, hcap.mono (Nat.le_succ _), hsl2, hdk⟩ (by dsimp only; omega) ⟨rfl, rfl, rfl, rfl, rfl, rfl, rfl, rfl, asV rfl (by congr 1), trivial⟩ Ent.re
      (refine w ?_; repeat ((first | refine VO.step rfl rfl ?_ | refine VD.end rfl rfl rfl ?_ | refine VD.mid rfl rfl rfl ?_); refine OpV.box rfl rfl rfl ?_; intro _; refine w ?_))
      ((first | refine VO.split rfl rfl rfl ?_ ?_ | refine VD.split rfl rfl rfl ?_ ?_) <;> intro hb)
      · (refine w ?_; repeat ((first | refine VO.step rfl rfl ?_ | refine VD.end rfl rfl rfl ?_ | refine VD.mid rfl rfl rfl ?_); refine OpV.box rfl rfl rfl ?_; intro _; refine w ?_))
        refine VE.round (i + 1, m, A, dk) ⟨hlt, by dsimp only; omega, hd, ht, hcn, hcap.mono (Nat.le_succ _), hsl2, hdk⟩ (by dsimp only; omega) ⟨rfl, rfl, rfl, rfl, rfl, rfl, rfl, rfl, asV rfl (by congr 1), trivial⟩ Ent.re
      have hsl0 : ¬ o.slot < 0 := of_decide_eq_false hb
      (refine w ?_; repeat ((first | refine VO.step rfl rfl ?_ | refine VD.end rfl rfl rfl ?_ | refine VD.mid rfl rfl rfl ?_); refine OpV.box rfl rfl rfl ?_; intro _; refine w ?_))
      (refine VC.cond rfl rfl ?_ ?_ <;> intro hc)
      · (refine w ?_; repeat ((first | refine VO.step rfl rfl ?_ | refine VD.end rfl rfl rfl ?_ | refine VD.mid rfl rfl rfl ?_); refine OpV.box rfl rfl rfl ?_; intro _; refine w ?_))
        refine VE.round (i + 1, m, A, dk) ⟨hlt, by dsimp only; omega, hd, ht, hcn, hcap.mono (Nat.le_succ _), hsl2, hdk⟩ (by dsimp only; omega) ⟨rfl, rfl, rfl, rfl, rfl, rfl, rfl, rfl, asV rfl (by congr 1), trivial⟩ Ent.re
      have hsl1 : o.slot < (l.length : Int) := by have : ¬ (l.length : Int) ≤ o.slot := (by simpa using hc); omega
      have hr : inRange A.slots.length o.slot = true := by rw [hsl2]; unfold inRange; simp; omega
      have hdv : ∀ B : BayD, B.slots = A.slots → (B.dv o.slot).k.cache.length ≤ 1000000 := fun B hB => by
        have := dv_cap (D := B) (c := i) (fun s hs => by rw [hB] at hs; exact hcap s hs) o.slot
        omega
      (refine w ?_; repeat ((first | refine VO.step rfl rfl ?_ | refine VD.end rfl rfl rfl ?_ | refine VD.mid rfl rfl rfl ?_); refine OpV.box rfl rfl rfl ?_; intro _; refine w ?_))
      cases dk with
      | true =>
        have etw : twinT n A m true = A.night := rfl
        rw [etw]
        (refine w ?_; repeat ((first | refine VO.step rfl rfl ?_ | refine VD.end rfl rfl rfl ?_ | refine VD.mid rfl rfl rfl ?_); refine OpV.box rfl rfl rfl ?_; intro _; refine w ?_))
        ((first | refine VO.step rfl rfl ?_ | refine VD.end rfl rfl rfl ?_ | refine VD.mid rfl rfl rfl ?_); refine OpV.call rfl rfl (fun _ _ => by simp) (plain_ok b A.night o hw (hdv _ rfl)) Ent.re rfl ?_)
        intro x hx
        rw [plain_dark (D := A.night) hr rfl (show (-1 : Int) ≠ 0 by decide)]
        (refine w ?_; repeat ((first | refine VO.step rfl rfl ?_ | refine VD.end rfl rfl rfl ?_ | refine VD.mid rfl rfl rfl ?_); refine OpV.box rfl rfl rfl ?_; intro _; refine w ?_))
        (((first | refine VO.step rfl rfl ?_ | refine VD.end rfl rfl rfl ?_ | refine VD.mid rfl rfl rfl ?_); refine OpV.call rfl rfl (fun _ _ => by simp) (baydark_ok b A.night) Ent.re rfl ?_); intro _ _)
        (refine w ?_; repeat ((first | refine VO.step rfl rfl ?_ | refine VD.end rfl rfl rfl ?_ | refine VD.mid rfl rfl rfl ?_); refine OpV.box rfl rfl rfl ?_; intro _; refine w ?_))
        refine VE.round (i + 1, m, A, true) ⟨hlt, by dsimp only; omega, hd, ht, hcn, hcap.mono (Nat.le_succ _), hsl2, hdk⟩ (by dsimp only; omega) ⟨rfl, rfl, rfl, rfl, rfl, rfl, rfl, rfl, asV rfl (by congr 1), trivial⟩ Ent.re
      | false =>
        have hmn := hdk rfl
        have etw : twinT n A m false = A.withT (n - m) := rfl
        rw [etw]
        (refine w ?_; repeat ((first | refine VO.step rfl rfl ?_ | refine VD.end rfl rfl rfl ?_ | refine VD.mid rfl rfl rfl ?_); refine OpV.box rfl rfl rfl ?_; intro _; refine w ?_))
        (((first | refine VO.step rfl rfl ?_ | refine VD.end rfl rfl rfl ?_ | refine VD.mid rfl rfl rfl ?_); refine OpV.call rfl rfl (fun _ _ => by simp) (total_ok b (A.withT (n - m))) Ent.re rfl ?_); intro _ _)
        rw [show (A.withT (n - m)).n.total = m from hcn.total (by omega)]
        (refine w ?_; repeat ((first | refine VO.step rfl rfl ?_ | refine VD.end rfl rfl rfl ?_ | refine VD.mid rfl rfl rfl ?_); refine OpV.box rfl rfl rfl ?_; intro _; refine w ?_))
        by_cases hmn2 : (m : Int) = n
        · ((first | refine VO.step rfl rfl ?_ | refine VD.end rfl rfl rfl ?_ | refine VD.mid rfl rfl rfl ?_); refine OpV.call rfl rfl (fun _ _ => by simp) (plain_ok b (A.withT (n - m)) o hw (hdv _ rfl)) Ent.re rfl ?_)
          intro x hx
          rw [plain_zero (D := A.withT (n - m)) hr (by show n - m = 0; omega), show (A.withT (n - m)).night = A.night from rfl]
          (refine w ?_; repeat ((first | refine VO.step rfl rfl ?_ | refine VD.end rfl rfl rfl ?_ | refine VD.mid rfl rfl rfl ?_); refine OpV.box rfl rfl rfl ?_; intro _; refine w ?_))
          (refine VC.condTe rfl rfl (by simp [hmn2]) ?_)
          (refine w ?_; repeat ((first | refine VO.step rfl rfl ?_ | refine VD.end rfl rfl rfl ?_ | refine VD.mid rfl rfl rfl ?_); refine OpV.box rfl rfl rfl ?_; intro _; refine w ?_))
          (((first | refine VO.step rfl rfl ?_ | refine VD.end rfl rfl rfl ?_ | refine VD.mid rfl rfl rfl ?_); refine OpV.call rfl rfl (fun _ _ => by simp) (baydark_ok b A.night) Ent.re rfl ?_); intro _ _)
          (refine w ?_; repeat ((first | refine VO.step rfl rfl ?_ | refine VD.end rfl rfl rfl ?_ | refine VD.mid rfl rfl rfl ?_); refine OpV.box rfl rfl rfl ?_; intro _; refine w ?_))
          refine VE.round (i + 1, m, A, true) ⟨hlt, by dsimp only; omega, hd, ht, hcn, hcap.mono (Nat.le_succ _), hsl2, fun h => by cases h⟩ (by dsimp only; omega) ⟨rfl, rfl, rfl, rfl, rfl, rfl, rfl, asV rfl (by simp [hmn2]), asV rfl (by congr 1), trivial⟩ Ent.re
        · have ept := plain_trip (D := A) (k := o.slot) (t := n - m) hr hd ht (by omega) (by omega) o.kind o.n o.b
          obtain ⟨s1, s2, s3, s4⟩ := plain_still hr hd ht o.kind o.n o.b
          have hcap2 := plain_capd hcap o.kind o.slot o.n o.b
          ((first | refine VO.step rfl rfl ?_ | refine VD.end rfl rfl rfl ?_ | refine VD.mid rfl rfl rfl ?_); refine OpV.call rfl rfl (fun _ _ => by simp) (plain_ok b (A.withT (n - m)) o hw (hdv _ rfl)) Ent.re rfl ?_)
          intro x hx
          rw [ept] at hx ⊢
          (refine w ?_; repeat ((first | refine VO.step rfl rfl ?_ | refine VD.end rfl rfl rfl ?_ | refine VD.mid rfl rfl rfl ?_); refine OpV.box rfl rfl rfl ?_; intro _; refine w ?_))
          (refine VC.condFe rfl rfl (by simp [hmn2]) ?_)
          (refine w ?_; repeat ((first | refine VO.step rfl rfl ?_ | refine VD.end rfl rfl rfl ?_ | refine VD.mid rfl rfl rfl ?_); refine OpV.box rfl rfl rfl ?_; intro _; refine w ?_))
          ((first | refine VO.step rfl rfl ?_ | refine VD.end rfl rfl rfl ?_ | refine VD.mid rfl rfl rfl ?_); refine OpV.call rfl rfl (fun _ _ => by simp) (plain_ok a A o hw (hdv _ rfl)) Ent.re rfl ?_)
          intro y hy
          dsimp only at hx hy ⊢
          (refine w ?_; repeat ((first | refine VO.step rfl rfl ?_ | refine VD.end rfl rfl rfl ?_ | refine VD.mid rfl rfl rfl ?_); refine OpV.box rfl rfl rfl ?_; intro _; refine w ?_))
          (first | refine VO.gF rfl rfl rfl (by simp) ?_ | refine VD.gF rfl rfl rfl (by simp) ?_)
          (refine w ?_; repeat ((first | refine VO.step rfl rfl ?_ | refine VD.end rfl rfl rfl ?_ | refine VD.mid rfl rfl rfl ?_); refine OpV.box rfl rfl rfl ?_; intro _; refine w ?_))
          generalize hz : A.plain o.kind o.slot o.n o.b = z at *
          refine VO.know (fun w hw => hw.ownMax (show OwnB x z.1.1 ∈ _ by (focus repeat first | exact .head _ | apply List.Mem.tail)) : ∀ w, _ → z.1.1.length ≤ maxLen) ?_
          intro hml
          refine VO.ent (Reord.ent (L := [OwnB x z.1.1, OwnB y z.1.1, BayR a z.2, BayR b (z.2.withT (n - m - 1)), Row na 35 o.cells]) (by (repeat first | exact .refl | (apply Reord.cons; focus repeat first | exact .head | apply Del.tail) | exact .nil | apply Reord.drop))) ?_
          ((first | refine VO.step rfl rfl ?_ | refine VD.end rfl rfl rfl ?_ | refine VD.mid rfl rfl rfl ?_); refine OpV.call rfl rfl (fun _ _ => by simp) (same_any (a := z.1.1) (b := z.1.1) (Rds.own (bytes_one _) (.head _) (by simp) hx) (Rds.own (bytes_one _) (.tail _ (.head _)) (by simp) hy) hml) Ent.refl rfl ?_; intro _ _)
          (refine w ?_; repeat ((first | refine VO.step rfl rfl ?_ | refine VD.end rfl rfl rfl ?_ | refine VD.mid rfl rfl rfl ?_); refine OpV.box rfl rfl rfl ?_; intro _; refine w ?_))
          (refine VC.condFe rfl rfl (by simp) ?_)
          (refine w ?_; repeat ((first | refine VO.step rfl rfl ?_ | refine VD.end rfl rfl rfl ?_ | refine VD.mid rfl rfl rfl ?_); refine OpV.box rfl rfl rfl ?_; intro _; refine w ?_))
          refine VE.round (i + 1, m + 1, z.2, false) ⟨hlt, by dsimp only; omega, s1, s2, by dsimp only; rw [s3]; exact hcn.inc (by omega) _, hcap2, by dsimp only; rw [s4, hsl2], fun _ => by dsimp only; omega⟩ (by dsimp only; omega) ⟨rfl, rfl, rfl, rfl, rfl, rfl, rfl, asV rfl (by simp [hmn2]), asV rfl (by congr 1), trivial⟩ ?_
          rw [show twinT n z.2 (m + 1) false = z.2.withT (n - m - 1) by unfold twinT; rw [if_neg (by simp)]; congr 1; omega]
          exact Ent.re
    · (refine w ?_; repeat ((first | refine VO.step rfl rfl ?_ | refine VD.end rfl rfl rfl ?_ | refine VD.mid rfl rfl rfl ?_); refine OpV.box rfl rfl rfl ?_; intro _; refine w ?_))
      have hcok := hcn.ok (by omega)
      have htd : (twinT n A m dk).dark = dk := by cases dk; exact hd; rfl
      have htn : (twinT n A m dk).n = A.n := by cases dk <;> rfl
      have htc : ∀ k, (twinT n A m dk).cut k = A.cut k := fun k => by cases dk <;> rfl
      (((first | refine VO.step rfl rfl ?_ | refine VD.end rfl rfl rfl ?_ | refine VD.mid rfl rfl rfl ?_); refine OpV.call rfl rfl (fun _ _ => by simp) (baydark_ok b (twinT n A m dk)) Ent.re rfl ?_); intro _ _)
      rw [htd]
      (refine w ?_; repeat ((first | refine VO.step rfl rfl ?_ | refine VD.end rfl rfl rfl ?_ | refine VD.mid rfl rfl rfl ?_); refine OpV.box rfl rfl rfl ?_; intro _; refine w ?_))
      (first | refine VO.gF rfl rfl rfl (by cases dk <;> rfl) ?_ | refine VD.gF rfl rfl rfl (by cases dk <;> rfl) ?_)
      (refine w ?_; repeat ((first | refine VO.step rfl rfl ?_ | refine VD.end rfl rfl rfl ?_ | refine VD.mid rfl rfl rfl ?_); refine OpV.box rfl rfl rfl ?_; intro _; refine w ?_))
      (((first | refine VO.step rfl rfl ?_ | refine VD.end rfl rfl rfl ?_ | refine VD.mid rfl rfl rfl ?_); refine OpV.call rfl rfl (fun _ _ => by simp) (baycounts_ok a A) Ent.re rfl ?_); intro _ _)
      (refine w ?_; repeat ((first | refine VO.step rfl rfl ?_ | refine VD.end rfl rfl rfl ?_ | refine VD.mid rfl rfl rfl ?_); refine OpV.box rfl rfl rfl ?_; intro _; refine w ?_))
      (((first | refine VO.step rfl rfl ?_ | refine VD.end rfl rfl rfl ?_ | refine VD.mid rfl rfl rfl ?_); refine OpV.call rfl rfl (fun _ _ => by simp) (baycounts_ok b (twinT n A m dk)) Ent.re rfl ?_); intro _ _)
      rw [htn]
      (refine w ?_; repeat ((first | refine VO.step rfl rfl ?_ | refine VD.end rfl rfl rfl ?_ | refine VD.mid rfl rfl rfl ?_); refine OpV.box rfl rfl rfl ?_; intro _; refine w ?_))
      refine VO.pure rfl rfl (cnt_eq (c := A.n) (d := A.n) rfl rfl hcok hcok (by rw [decide_eq_true ⟨rfl, rfl, rfl⟩]; rfl)) rfl ?_
      (refine w ?_; repeat ((first | refine VO.step rfl rfl ?_ | refine VD.end rfl rfl rfl ?_ | refine VD.mid rfl rfl rfl ?_); refine OpV.box rfl rfl rfl ?_; intro _; refine w ?_))
      refine VO.join (α := Unit) (fun _ => True) (fun _ => [BayR a A, BayR b (twinT n A m dk)]) (fun _ => [(0, .slice so l.length scap), (3, .slice ko kl.length kcap), (9, .pointer (some ⟨a, 0, none⟩)), (11, .pointer (some ⟨b, 0, none⟩))]) ?_ ?_
      · intro Q2 jn
        cases dk with
        | true =>
          have e3 : (twinT n A m true).trips 3 = (50, twinT n A m true) := rfl
          (refine w ?_; repeat ((first | refine VO.step rfl rfl ?_ | refine VD.end rfl rfl rfl ?_ | refine VD.mid rfl rfl rfl ?_); refine OpV.box rfl rfl rfl ?_; intro _; refine w ?_))
          (((first | refine VO.step rfl rfl ?_ | refine VD.end rfl rfl rfl ?_ | refine VD.mid rfl rfl rfl ?_); refine OpV.call rfl rfl (fun _ _ => by simp) (baytrip_ok b (twinT n A m true) 3) Ent.re rfl ?_); intro _ _)
          rw [e3]
          (refine w ?_; repeat ((first | refine VO.step rfl rfl ?_ | refine VD.end rfl rfl rfl ?_ | refine VD.mid rfl rfl rfl ?_); refine OpV.box rfl rfl rfl ?_; intro _; refine w ?_))
          exact jn.to () trivial ⟨rfl, rfl, rfl, rfl, trivial⟩ Ent.re
        | false =>
          (refine w ?_; repeat ((first | refine VO.step rfl rfl ?_ | refine VD.end rfl rfl rfl ?_ | refine VD.mid rfl rfl rfl ?_); refine OpV.box rfl rfl rfl ?_; intro _; refine w ?_))
          exact jn.to () trivial ⟨rfl, rfl, rfl, rfl, trivial⟩ Ent.re
      intro _ _
      (refine w ?_; repeat ((first | refine VO.step rfl rfl ?_ | refine VD.end rfl rfl rfl ?_ | refine VD.mid rfl rfl rfl ?_); refine OpV.box rfl rfl rfl ?_; intro _; refine w ?_))
      (((first | refine VO.step rfl rfl ?_ | refine VD.end rfl rfl rfl ?_ | refine VD.mid rfl rfl rfl ?_); refine OpV.call rfl rfl (fun _ _ => by simp) (baycut_ok a A (hk _)) Ent.re rfl ?_); intro _ _)
      (refine w ?_; repeat ((first | refine VO.step rfl rfl ?_ | refine VD.end rfl rfl rfl ?_ | refine VD.mid rfl rfl rfl ?_); refine OpV.box rfl rfl rfl ?_; intro _; refine w ?_))
      (((first | refine VO.step rfl rfl ?_ | refine VD.end rfl rfl rfl ?_ | refine VD.mid rfl rfl rfl ?_); refine OpV.call rfl rfl (fun _ _ => by simp) (baycut_ok b (twinT n A m dk) (hk _)) Ent.re rfl ?_); intro _ _)
      rw [htc]
      generalize hC : A.cut (kl.map KeepD.l) = C
      have hCd : C.dark = false := by subst hC; rfl
      (refine w ?_; repeat ((first | refine VO.step rfl rfl ?_ | refine VD.end rfl rfl rfl ?_ | refine VD.mid rfl rfl rfl ?_); refine OpV.box rfl rfl rfl ?_; intro _; refine w ?_))
      refine VC.loop (α := Nat) (fun i => i ≤ l.length) (fun _ => [BayR a C, BayR b C])
        (fun i => [(0, .slice so l.length scap), (9, .pointer (some ⟨a, 0, none⟩)), (11, .pointer (some ⟨b, 0, none⟩)), (21, .int .i64 i)]) (fun i => l.length - i) rfl 0 (Nat.zero_le _) Ent.re ⟨rfl, rfl, rfl, rfl, trivial⟩ ?_
      intro i hi
      (refine w ?_; repeat ((first | refine VO.step rfl rfl ?_ | refine VD.end rfl rfl rfl ?_ | refine VD.mid rfl rfl rfl ?_); refine OpV.box rfl rfl rfl ?_; intro _; refine w ?_))
      (refine VC.cond rfl rfl ?_ ?_ <;> intro hc)
      · have hlt : i < l.length := by have := of_decide_eq_true hc; omega
        (refine w ?_; repeat ((first | refine VO.step rfl rfl ?_ | refine VD.end rfl rfl rfl ?_ | refine VD.mid rfl rfl rfl ?_); refine OpV.box rfl rfl rfl ?_; intro _; refine w ?_))
        ((first | refine VO.step rfl rfl ?_ | refine VD.end rfl rfl rfl ?_ | refine VD.mid rfl rfl rfl ?_); refine OpV.call rfl rfl (fun _ _ => by simp) (bayimage_ok a C i) Ent.re rfl ?_)
        intro x hx
        (refine w ?_; repeat ((first | refine VO.step rfl rfl ?_ | refine VD.end rfl rfl rfl ?_ | refine VD.mid rfl rfl rfl ?_); refine OpV.box rfl rfl rfl ?_; intro _; refine w ?_))
        ((first | refine VO.step rfl rfl ?_ | refine VD.end rfl rfl rfl ?_ | refine VD.mid rfl rfl rfl ?_); refine OpV.call rfl rfl (fun _ _ => by simp) (bayimage_ok b C i) Ent.re rfl ?_)
        intro y hy
        generalize hz : C.image i = z at *
        (refine w ?_; repeat ((first | refine VO.step rfl rfl ?_ | refine VD.end rfl rfl rfl ?_ | refine VD.mid rfl rfl rfl ?_); refine OpV.box rfl rfl rfl ?_; intro _; refine w ?_))
        (first | refine VO.gF rfl rfl rfl (by simp) ?_ | refine VD.gF rfl rfl rfl (by simp) ?_)
        (refine w ?_; repeat ((first | refine VO.step rfl rfl ?_ | refine VD.end rfl rfl rfl ?_ | refine VD.mid rfl rfl rfl ?_); refine OpV.box rfl rfl rfl ?_; intro _; refine w ?_))
        refine VO.know (fun w hw => hw.ownMax (show OwnB x z.1 ∈ _ by (focus repeat first | exact .head _ | apply List.Mem.tail)) : ∀ w, _ → z.1.length ≤ maxLen) ?_
        intro hml
        refine VO.ent (Reord.ent (L := [OwnB x z.1, OwnB y z.1, BayR a C, BayR b C]) (by (repeat first | exact .refl | (apply Reord.cons; focus repeat first | exact .head | apply Del.tail) | exact .nil | apply Reord.drop))) ?_
        ((first | refine VO.step rfl rfl ?_ | refine VD.end rfl rfl rfl ?_ | refine VD.mid rfl rfl rfl ?_); refine OpV.call rfl rfl (fun _ _ => by simp) (same_any (a := z.1) (b := z.1) (Rds.own (bytes_one _) (.head _) (by simp) hx) (Rds.own (bytes_one _) (.tail _ (.head _)) (by simp) hy) hml) Ent.refl rfl ?_; intro _ _)
        (refine w ?_; repeat ((first | refine VO.step rfl rfl ?_ | refine VD.end rfl rfl rfl ?_ | refine VD.mid rfl rfl rfl ?_); refine OpV.box rfl rfl rfl ?_; intro _; refine w ?_))
        (refine VC.condFe rfl rfl (by simp) ?_)
        (refine w ?_; repeat ((first | refine VO.step rfl rfl ?_ | refine VD.end rfl rfl rfl ?_ | refine VD.mid rfl rfl rfl ?_); refine OpV.box rfl rfl rfl ?_; intro _; refine w ?_))
        refine VE.round (i + 1) hlt (by omega) ⟨rfl, rfl, rfl, asV rfl (by congr 1), trivial⟩ Ent.re
      · (refine w ?_; repeat ((first | refine VO.step rfl rfl ?_ | refine VD.end rfl rfl rfl ?_ | refine VD.mid rfl rfl rfl ?_); refine OpV.box rfl rfl rfl ?_; intro _; refine w ?_))
        (((first | refine VO.step rfl rfl ?_ | refine VD.end rfl rfl rfl ?_ | refine VD.mid rfl rfl rfl ?_); refine OpV.call rfl rfl (fun _ _ => by simp) (baydark_ok b C) Ent.re rfl ?_); intro _ _)
        rw [hCd]
        (refine w ?_; repeat ((first | refine VO.step rfl rfl ?_ | refine VD.end rfl rfl rfl ?_ | refine VD.mid rfl rfl rfl ?_); refine OpV.box rfl rfl rfl ?_; intro _; refine w ?_))
        (refine VE.done1 rfl ?_ ?_)
        · rfl
        · exact Reord.ent .nil
  · obtain rfl : x = none := by cases x with | none => rfl | some b => simp [hE] at hx
    dsimp only [Option.elim_none]
    (refine w ?_; repeat ((first | refine VO.step rfl rfl ?_ | refine VD.end rfl rfl rfl ?_ | refine VD.mid rfl rfl rfl ?_); refine OpV.box rfl rfl rfl ?_; intro _; refine w ?_))
    ((first | refine VO.step rfl rfl ?_ | refine VD.end rfl rfl rfl ?_ | refine VD.mid rfl rfl rfl ?_); refine OpV.call rfl rfl (fun _ _ => by simp) (baynew_ok (hs _) (by omega)) Ent.refl rfl ?_)
    intro y hy
    obtain rfl : y = none := by cases y with | none => rfl | some b => simp [hE] at hy
    dsimp only [Option.elim_none]
    (refine w ?_; repeat ((first | refine VO.step rfl rfl ?_ | refine VD.end rfl rfl rfl ?_ | refine VD.mid rfl rfl rfl ?_); refine OpV.box rfl rfl rfl ?_; intro _; refine w ?_))
    ((first | refine VO.step rfl rfl ?_ | refine VD.end rfl rfl rfl ?_ | refine VD.mid rfl rfl rfl ?_); refine OpV.call rfl rfl (fun _ _ => by simp) (bknown_ok) Ent.refl rfl ?_; intro _ _)
    (refine w ?_; repeat ((first | refine VO.step rfl rfl ?_ | refine VD.end rfl rfl rfl ?_ | refine VD.mid rfl rfl rfl ?_); refine OpV.box rfl rfl rfl ?_; intro _; refine w ?_))
    (first | refine VO.gT rfl rfl rfl (by simpa using hE) ?_ | refine VD.gT rfl rfl rfl (by simpa using hE) ?_)
    (refine w ?_; repeat ((first | refine VO.step rfl rfl ?_ | refine VD.end rfl rfl rfl ?_ | refine VD.mid rfl rfl rfl ?_); refine OpV.box rfl rfl rfl ?_; intro _; refine w ?_))
    (first | refine VO.gT rfl rfl rfl (by simp) ?_ | refine VD.gT rfl rfl rfl (by simp) ?_)
    (refine w ?_; repeat ((first | refine VO.step rfl rfl ?_ | refine VD.end rfl rfl rfl ?_ | refine VD.mid rfl rfl rfl ?_); refine OpV.box rfl rfl rfl ?_; intro _; refine w ?_))
    (refine VE.done1 rfl ?_ ?_)
    · rfl
    · exact Ent.refl
end Go.Proofs.Ytbmcgmicnfbckaa
