/- The statements of the bay: BayWears. -/
import Derived.Test.YtbmcgmicnfbckaaBn
set_option maxRecDepth 8000
set_option linter.unusedVariables false
set_option linter.unusedSimpArgs false
set_option linter.unusedSectionVars false
namespace Go.Proofs.Ytbmcgmicnfbckaa
open Go.RowKit Go.Sl
attribute [local irreducible] Own

abbrev BopD.at0 (o : BopD) : BopD := { o with slot := 0 }
/-- What a call of a disk answers, and what it leaves. -/
def devOp (k : DiskD) (kind n : Int) (b : List UInt8) : (List UInt8 × Int) × DiskD :=
  if kind = 1 then (k.rd n, k) else if kind = 2 then (([], (k.wr n b).1), (k.wr n b).2) else (([], k.fl.1), k.fl.2)
def opJ (kind : Int) : Nat := if kind = 1 then 0 else if kind = 2 then 1 else 2
theorem devOp_failed {k : DiskD} (h : k.failed = true) (kind n : Int) (b : List UInt8) : devOp k kind n b = (([], 2), k) := by
  have hm : ∀ a, k.may a = 2 := fun a => by unfold DiskD.may; rw [h]; rfl
  unfold devOp DiskD.rd DiskD.wr DiskD.fl
  simp [hm, h]
theorem devOp_alive {k : DiskD} (h : k.failed = false) (kind n : Int) (b : List UInt8) : (devOp k kind n b).2.failed = false := by
  unfold devOp DiskD.wr DiskD.fl
  split
  · exact h
  · split
    · dsimp only; split
      · exact h
      · split
        · exact h
        · exact h
    · rw [h]; exact h
theorem devOp_cap {k : DiskD} {c : Nat} (h : k.cache.length ≤ c) (kind n : Int) (b : List UInt8) : (devOp k kind n b).2.cache.length ≤ c + 1 := by
  unfold devOp; split
  · exact Nat.le_succ_of_le h
  · split
    · exact wr_cap h
    · exact Nat.le_succ_of_le (fl_cap h)
theorem use_calm {v : DevD} (h : v.worn = false) : v.use = v := by unfold DevD.use; rw [if_pos h]

def mk2 (v0 v1 : DevD) (c : CntD) : BayD := ⟨[⟨some v0, none, none⟩, ⟨some v1, none, none⟩], false, -1, c⟩
theorem plain_mk2_0 (v0 v1 : DevD) (c : CntD) (kind n : Int) (b : List UInt8) : (mk2 v0 v1 c).plain kind 0 n b = ((devOp v0.use.k kind n b).1, mk2 ⟨(devOp v0.use.k kind n b).2, v0.use.worn, v0.use.left⟩ v1 (c.inc (opJ kind))) := by
  unfold BayD.plain BayD.read BayD.write BayD.flush devOp opJ
  split
  · rfl
  · split
    · rfl
    · rfl
theorem plain_mk2_1 (v0 v1 : DevD) (c : CntD) (kind n : Int) (b : List UInt8) : (mk2 v0 v1 c).plain kind 1 n b = ((devOp v1.use.k kind n b).1, mk2 v0 ⟨(devOp v1.use.k kind n b).2, v1.use.worn, v1.use.left⟩ (c.inc (opJ kind))) := by
  unfold BayD.plain BayD.read BayD.write BayD.flush devOp opJ
  split
  · rfl
  · split
    · rfl
    · rfl
theorem mk2_new {n : Int} (h : n ≠ 0) : BayD.new [n, 2] = mk2 ⟨.blank n.toNat, false, 0⟩ ⟨.blank 2, false, 0⟩ ⟨0, 0, 0⟩ := by
  unfold BayD.new mk2
  simp [slotOf, h]
theorem mk2_capd {v0 v1 : DevD} {c : CntD} {m : Nat} (h0 : v0.k.cache.length ≤ m) (h1 : v1.k.cache.length ≤ m) : (mk2 v0 v1 c).capd m := by
  intro s hs v hv
  simp only [mk2, List.mem_cons, List.not_mem_nil, or_false] at hs
  rcases hs with q | q <;> subst q <;> rcases hv with q | q | q <;> cases q
  · exact h0
  · exact h1

/-- The two bays' states: how many operations the worn disk was asked for. -/
structure Worn (n : Int) (many : Nat) (ka : DiskD) (vb : DevD) : Prop where
  alive : ka.failed = false
  eq : (many : Int) ≤ n → vb = ⟨ka, true, n - many⟩
  gone : n < (many : Int) → vb.worn = false ∧ vb.k.failed = true
theorem Worn.next {n : Int} {many : Nat} {ka : DiskD} {vb : DevD} (h : Worn n many ka vb) (hn0 : 0 ≤ n) (hn : n ≤ 9223372036854775807) (kind a : Int) (b : List UInt8) :
    Worn n (many + 1) (devOp ka kind a b).2 ⟨(devOp vb.use.k kind a b).2, vb.use.worn, vb.use.left⟩ ∧ ((many : Int) + 1 ≤ n → (devOp vb.use.k kind a b).1 = (devOp ka kind a b).1) ∧ (n < (many : Int) + 1 → (devOp vb.use.k kind a b) = (([], 2), vb.use.k) ∧ vb.use.k.failed = true) := by
  by_cases h1 : (many : Int) ≤ n
  · have e := h.eq h1
    subst e
    by_cases h2 : (many : Int) = n
    · have hu : (DevD.mk ka true (n - many)).use = ⟨ka.fail, false, n - many⟩ := by unfold DevD.use; rw [if_neg (by simp), if_pos (by dsimp only; omega)]
      rw [hu]
      have hf : ka.fail.failed = true := rfl
      refine ⟨⟨devOp_alive h.alive _ _ _, fun h3 => by omega, fun _ => ⟨rfl, by rw [devOp_failed hf]; rfl⟩⟩, fun h3 => by omega, fun _ => ⟨devOp_failed hf _ _ _, hf⟩⟩
    · have hu : (DevD.mk ka true (n - many)).use = ⟨ka, true, n - many - 1⟩ := by
        unfold DevD.use; rw [if_neg (by simp), if_neg (by dsimp only; omega)]
        dsimp only; congr 1; exact IntWalk.i64_in _ ⟨by omega, by omega⟩
      rw [hu]
      refine ⟨⟨devOp_alive h.alive _ _ _, fun h3 => by dsimp only; congr 1; omega, fun h3 => by omega⟩, fun _ => rfl, fun h3 => by omega⟩
  · obtain ⟨g1, g2⟩ := h.gone (by omega)
    rw [use_calm g1]
    have hd := devOp_failed g2 kind a b
    refine ⟨⟨devOp_alive h.alive _ _ _, fun h3 => by omega, fun _ => ⟨g1, by rw [hd]; exact g2⟩⟩, fun h3 => by omega, fun _ => ⟨hd, g2⟩⟩

theorem wear_mk2 (v0 v1 : DevD) (c : CntD) (n : Int) : (mk2 v0 v1 c).wear 0 n = if n < 0 then (1, mk2 v0 v1 c) else (0, mk2 ⟨v0.k, true, n⟩ v1 c) := by
  unfold BayD.wear; split
  · rfl
  · rfl
theorem has_mk2_0 (v0 v1 : DevD) (c : CntD) : ((mk2 v0 v1 c).dev 0).any (fun v => !v.k.failed) = !v0.k.failed := rfl
theorem has_mk2_1 (v0 v1 : DevD) (c : CntD) : ((mk2 v0 v1 c).dev 1).any (fun v => !v.k.failed) = !v1.k.failed := rfl
theorem dv_mk2_0 (v0 v1 : DevD) (c : CntD) : (mk2 v0 v1 c).dv 0 = v0.use := rfl
theorem dv_mk2_1 (v0 v1 : DevD) (c : CntD) : (mk2 v0 v1 c).dv 1 = v1.use := rfl

set_option maxHeartbeats 16000000 in
theorem bwears_ok {W : World} {ao : Option Addr} {cap : Nat} {lb : List BopD} (sec n : Int) (hn1 : n ≤ 9223372036854775807) (hb0 : ∀ R, BScr W R ao lb) (hlb : lb.length ≤ 140737488351232) :
    Does1 W Try.prog 3 [.int .i64 sec, .slice ao lb.length cap, .int .i64 n] [] (.bool true) [] := by
  (refine Does.enter Try.func3 Try.ntmps3 rfl rfl ?_)
  (refine w ?_; repeat ((first | refine VO.step rfl rfl ?_ | refine VD.end rfl rfl rfl ?_ | refine VD.mid rfl rfl rfl ?_); refine OpV.box rfl rfl rfl ?_; intro _; refine w ?_))
  ((first | refine VO.step rfl rfl ?_ | refine VD.end rfl rfl rfl ?_ | refine VD.mid rfl rfl rfl ?_); refine OpV.call rfl rfl (fun _ _ => by simp) (bmuch_ok (so := none) (n := 0) (scap := 0) (hb0 _) (by omega) hlb) Ent.re rfl ?_)
  intro mb hmb
  (refine w ?_; repeat ((first | refine VO.step rfl rfl ?_ | refine VD.end rfl rfl rfl ?_ | refine VD.mid rfl rfl rfl ?_); refine OpV.box rfl rfl rfl ?_; intro _; refine w ?_))
  (refine VC.cond rfl rfl ?_ ?_ <;> intro hc)
  · (refine w ?_; repeat ((first | refine VO.step rfl rfl ?_ | refine VD.end rfl rfl rfl ?_ | refine VD.mid rfl rfl rfl ?_); refine OpV.box rfl rfl rfl ?_; intro _; refine w ?_))
    (refine VE.done1 rfl ?_ ?_)
    · rfl
    · exact Ent.refl
  obtain ⟨hm1, hm2⟩ := hmb hc
  (refine w ?_; repeat ((first | refine VO.step rfl rfl ?_ | refine VD.end rfl rfl rfl ?_ | refine VD.mid rfl rfl rfl ?_); refine OpV.box rfl rfl rfl ?_; intro _; refine w ?_))
  ((first | refine VO.step rfl rfl ?_ | refine VD.end rfl rfl rfl ?_ | refine VD.mid rfl rfl rfl ?_); refine OpV.buildSlice1 st_43 rfl rfl (by first | (simp; done) | simp [Value.oneCell']) (by decide) rfl ?_; intro nb)
  (refine w ?_; repeat ((first | refine VO.step rfl rfl ?_ | refine VD.end rfl rfl rfl ?_ | refine VD.mid rfl rfl rfl ?_); refine OpV.box rfl rfl rfl ?_; intro _; refine w ?_))
  have hr : ∀ X : List SProp, Rds W (Row nb 3 [.int .i64 sec, .int .i64 2] :: X) 1 (some ⟨nb, 0, none⟩) 2 (intsI [sec, 2]) := fun X => Rds.row (intsI_one _) (.head _) rfl
  ((first | refine VO.step rfl rfl ?_ | refine VD.end rfl rfl rfl ?_ | refine VD.mid rfl rfl rfl ?_); refine OpV.call rfl rfl (fun _ _ => by simp) (baynew_ok (l := [sec, 2]) (hr _) (by simp)) Ent.refl rfl ?_)
  intro x hx
  by_cases hE : bayE [sec, 2] = 0
  · rw [hE] at hx ⊢
    obtain ⟨a, rfl⟩ : ∃ a, x = some a := by cases x with | none => cases hx | some a => exact ⟨a, rfl⟩
    dsimp only [Option.elim_some]
    (refine w ?_; repeat ((first | refine VO.step rfl rfl ?_ | refine VD.end rfl rfl rfl ?_ | refine VD.mid rfl rfl rfl ?_); refine OpV.box rfl rfl rfl ?_; intro _; refine w ?_))
    clear hr
    ((first | refine VO.step rfl rfl ?_ | refine VD.end rfl rfl rfl ?_ | refine VD.mid rfl rfl rfl ?_); refine OpV.buildSlice1 st_43 rfl rfl (by first | (simp; done) | simp [Value.oneCell']) (by decide) rfl ?_; intro nb)
    (refine w ?_; repeat ((first | refine VO.step rfl rfl ?_ | refine VD.end rfl rfl rfl ?_ | refine VD.mid rfl rfl rfl ?_); refine OpV.box rfl rfl rfl ?_; intro _; refine w ?_))
    have hr : ∀ X : List SProp, Rds W (Row nb 3 [.int .i64 sec, .int .i64 2] :: X) 1 (some ⟨nb, 0, none⟩) 2 (intsI [sec, 2]) := fun X => Rds.row (intsI_one _) (.head _) rfl
    ((first | refine VO.step rfl rfl ?_ | refine VD.end rfl rfl rfl ?_ | refine VD.mid rfl rfl rfl ?_); refine OpV.call rfl rfl (fun _ _ => by simp) (baynew_ok (l := [sec, 2]) (hr _) (by simp)) Ent.refl rfl ?_)
    intro y hy
    rw [hE] at hy ⊢
    obtain ⟨b, rfl⟩ : ∃ b, y = some b := by cases y with | none => cases hy | some b => exact ⟨b, rfl⟩
    dsimp only [Option.elim_some]
    (refine w ?_; repeat ((first | refine VO.step rfl rfl ?_ | refine VD.end rfl rfl rfl ?_ | refine VD.mid rfl rfl rfl ?_); refine OpV.box rfl rfl rfl ?_; intro _; refine w ?_))
    ((first | refine VO.step rfl rfl ?_ | refine VD.end rfl rfl rfl ?_ | refine VD.mid rfl rfl rfl ?_); refine OpV.call rfl rfl (fun _ _ => by simp) (bknown_ok) Ent.refl rfl ?_; intro _ _)
    (refine w ?_; repeat ((first | refine VO.step rfl rfl ?_ | refine VD.end rfl rfl rfl ?_ | refine VD.mid rfl rfl rfl ?_); refine OpV.box rfl rfl rfl ?_; intro _; refine w ?_))
    (refine VC.cond rfl rfl ?_ ?_ <;> intro hc)
    · (refine w ?_; repeat ((first | refine VO.step rfl rfl ?_ | refine VD.end rfl rfl rfl ?_ | refine VD.mid rfl rfl rfl ?_); refine OpV.box rfl rfl rfl ?_; intro _; refine w ?_))
      (refine VE.done1 rfl ?_ ?_)
      · rfl
      · exact Reord.ent .nil
    have hs0 : sec ≠ 0 := by simpa using hc
    rw [mk2_new hs0]
    (refine w ?_; repeat ((first | refine VO.step rfl rfl ?_ | refine VD.end rfl rfl rfl ?_ | refine VD.mid rfl rfl rfl ?_); refine OpV.box rfl rfl rfl ?_; intro _; refine w ?_))
    (((first | refine VO.step rfl rfl ?_ | refine VD.end rfl rfl rfl ?_ | refine VD.mid rfl rfl rfl ?_); refine OpV.call rfl rfl (fun _ _ => by simp) (baywear_ok b (mk2 ⟨.blank sec.toNat, false, 0⟩ ⟨.blank 2, false, 0⟩ ⟨0, 0, 0⟩) 0 n) Ent.re rfl ?_); intro _ _)
    rw [wear_mk2]
    (refine w ?_; repeat ((first | refine VO.step rfl rfl ?_ | refine VD.end rfl rfl rfl ?_ | refine VD.mid rfl rfl rfl ?_); refine OpV.box rfl rfl rfl ?_; intro _; refine w ?_))
    (refine VC.cond rfl rfl ?_ ?_ <;> intro hc)
    · have h : n < 0 := of_decide_eq_true hc
      rw [if_pos h]
      (refine w ?_; repeat ((first | refine VO.step rfl rfl ?_ | refine VD.end rfl rfl rfl ?_ | refine VD.mid rfl rfl rfl ?_); refine OpV.box rfl rfl rfl ?_; intro _; refine w ?_))
      (((first | refine VO.step rfl rfl ?_ | refine VD.end rfl rfl rfl ?_ | refine VD.mid rfl rfl rfl ?_); refine OpV.call rfl rfl (fun _ _ => by simp) (bayhas_ok b (mk2 ⟨.blank sec.toNat, false, 0⟩ ⟨.blank 2, false, 0⟩ ⟨0, 0, 0⟩) 0) Ent.re rfl ?_); intro _ _)
      rw [has_mk2_0]
      (refine w ?_; repeat ((first | refine VO.step rfl rfl ?_ | refine VD.end rfl rfl rfl ?_ | refine VD.mid rfl rfl rfl ?_); refine OpV.box rfl rfl rfl ?_; intro _; refine w ?_))
      (refine VE.done1 rfl ?_ ?_)
      · rfl
      · exact Reord.ent .nil
    have hn0 : ¬ n < 0 := of_decide_eq_false hc
    rw [if_neg hn0]
    (refine w ?_; repeat ((first | refine VO.step rfl rfl ?_ | refine VD.end rfl rfl rfl ?_ | refine VD.mid rfl rfl rfl ?_); refine OpV.box rfl rfl rfl ?_; intro _; refine w ?_))
    refine VC.loop (α := Nat × Nat × DiskD × DevD × DiskD × CntD) (fun g => g.1 ≤ lb.length ∧ g.2.1 ≤ g.1 ∧ Worn n g.2.1 g.2.2.1 g.2.2.2.1 ∧ g.2.2.2.2.1.failed = false ∧ g.2.2.1.cache.length ≤ g.1 ∧ g.2.2.2.1.k.cache.length ≤ g.1 ∧ g.2.2.2.2.1.cache.length ≤ g.1 ∧ g.2.2.2.2.2.ok)
      (fun g => [BayR a (mk2 ⟨g.2.2.1, false, 0⟩ ⟨g.2.2.2.2.1, false, 0⟩ g.2.2.2.2.2), BayR b (mk2 g.2.2.2.1 ⟨g.2.2.2.2.1, false, 0⟩ g.2.2.2.2.2)])
      (fun g => [(1, .slice ao lb.length cap), (2, .int .i64 n), (7, .pointer (some ⟨a, 0, none⟩)), (9, .pointer (some ⟨b, 0, none⟩)), (11, .int .u16 0), (12, .int .i64 g.2.1), (13, .int .i64 g.1)]) (fun g => lb.length - g.1) rfl
      (0, 0, .blank sec.toNat, ⟨.blank sec.toNat, true, n⟩, .blank 2, ⟨0, 0, 0⟩) ⟨Nat.zero_le _, Nat.le_refl _, ⟨rfl, fun _ => by simp, fun h => by simp at h; omega⟩, rfl, Nat.le_refl _, Nat.le_refl _, Nat.le_refl _, (show CntD.ok ⟨0, 0, 0⟩ from ⟨by decide, by decide, by decide⟩)⟩ Ent.re ⟨rfl, rfl, rfl, rfl, rfl, rfl, rfl, trivial⟩ ?_
    rintro ⟨i, many, ka, vb, k1, c⟩ ⟨hi, hmi, hwn, hk1, ca, cb, c1, hcok⟩
    dsimp only at hi hmi hwn hk1 ca cb c1 hcok ⊢
    (refine w ?_; repeat ((first | refine VO.step rfl rfl ?_ | refine VD.end rfl rfl rfl ?_ | refine VD.mid rfl rfl rfl ?_); refine OpV.box rfl rfl rfl ?_; intro _; refine w ?_))
    (refine VC.cond rfl rfl ?_ ?_ <;> intro hc)
    · have hlt : i < lb.length := by have := of_decide_eq_true hc; omega
      obtain ⟨oa, rfl⟩ : ∃ oa, ao = some oa := by cases ao with | none => have := (hb0 []).rds.nil rfl; omega | some oa => exact ⟨oa, rfl⟩
      have hw := (hb0 []).wf lb[i] (List.getElem_mem hlt)
      (refine w ?_; repeat ((first | refine VO.step rfl rfl ?_ | refine VD.end rfl rfl rfl ?_ | refine VD.mid rfl rfl rfl ?_); refine OpV.box rfl rfl rfl ?_; intro _; refine w ?_))
      (first | refine VO.pure rfl rfl (.ldRA tab_ok rfl rfl (hb0 _).rds (flat_part lb i hlt (fun _ _ => rfl)) rfl) rfl ?_ | refine VD.take rfl rfl rfl (.ldRA tab_ok rfl rfl (hb0 _).rds (flat_part lb i hlt (fun _ _ => rfl)) rfl) rfl ?_ | refine VQ.pure rfl rfl (.ldRA tab_ok rfl rfl (hb0 _).rds (flat_part lb i hlt (fun _ _ => rfl)) rfl) rfl ?_ | refine VD.end rfl rfl rfl (OpV.pure (.ldRA tab_ok rfl rfl (hb0 _).rds (flat_part lb i hlt (fun _ _ => rfl)) rfl) rfl ?_))
      (refine w ?_; repeat ((first | refine VO.step rfl rfl ?_ | refine VD.end rfl rfl rfl ?_ | refine VD.mid rfl rfl rfl ?_); refine OpV.box rfl rfl rfl ?_; intro _; refine w ?_))
      ((first | refine VO.step rfl rfl ?_ | refine VD.end rfl rfl rfl ?_ | refine VD.mid rfl rfl rfl ?_); refine OpV.allocS sb_35 rfl ?_; intro na)
      (refine w ?_; repeat ((first | refine VO.step rfl rfl ?_ | refine VD.end rfl rfl rfl ?_ | refine VD.mid rfl rfl rfl ?_); refine OpV.box rfl rfl rfl ?_; intro _; refine w ?_))
      (first | refine VO.step rfl rfl ?_ | refine VD.end rfl rfl rfl ?_ | refine VD.mid rfl rfl rfl ?_)
      refine OpV.stA (vs := lb[i].cells) tab_ok rfl rfl rfl rfl (bop_one _) (by (repeat first | exact .head | apply Hole.tail)) (by simp) ?_
      generalize ho : lb[i] = o at *
      refine VO.ent (Reord.ent (L := [Row na 35 o.cells, BayR a (mk2 ⟨ka, false, 0⟩ ⟨k1, false, 0⟩ c), BayR b (mk2 vb ⟨k1, false, 0⟩ c)]) (by (repeat first | exact .refl | (apply Reord.cons; focus repeat first | exact .head | apply Del.tail) | exact .nil | apply Reord.drop))) ?_
      (refine w ?_; repeat ((first | refine VO.step rfl rfl ?_ | refine VD.end rfl rfl rfl ?_ | refine VD.mid rfl rfl rfl ?_); refine OpV.box rfl rfl rfl ?_; intro _; refine w ?_))
      ((first | refine VO.split rfl rfl rfl ?_ ?_ | refine VD.split rfl rfl rfl ?_ ?_) <;> intro hb)
      · (refine w ?_; repeat ((first | refine VO.step rfl rfl ?_ | refine VD.end rfl rfl rfl ?_ | refine VD.mid rfl rfl rfl ?_); refine OpV.box rfl rfl rfl ?_; intro _; refine w ?_))
        refine VE.round (i + 1, many, ka, vb, k1, c) ⟨hlt, by dsimp only; omega, hwn, hk1, by dsimp only; omega, by dsimp only; omega, by dsimp only; omega, hcok⟩ (by dsimp only; omega) ⟨rfl, rfl, rfl, rfl, rfl, rfl, asV rfl (by congr 1), trivial⟩ Ent.re
      (refine w ?_; repeat ((first | refine VO.step rfl rfl ?_ | refine VD.end rfl rfl rfl ?_ | refine VD.mid rfl rfl rfl ?_); refine OpV.box rfl rfl rfl ?_; intro _; refine w ?_))
      (refine VC.cond rfl rfl ?_ ?_ <;> intro hc)
      · (refine w ?_; repeat ((first | refine VO.step rfl rfl ?_ | refine VD.end rfl rfl rfl ?_ | refine VD.mid rfl rfl rfl ?_); refine OpV.box rfl rfl rfl ?_; intro _; refine w ?_))
        refine VE.round (i + 1, many, ka, vb, k1, c) ⟨hlt, by dsimp only; omega, hwn, hk1, by dsimp only; omega, by dsimp only; omega, by dsimp only; omega, hcok⟩ (by dsimp only; omega) ⟨rfl, rfl, rfl, rfl, rfl, rfl, asV rfl (by congr 1), trivial⟩ Ent.re
      (refine w ?_; repeat ((first | refine VO.step rfl rfl ?_ | refine VD.end rfl rfl rfl ?_ | refine VD.mid rfl rfl rfl ?_); refine OpV.box rfl rfl rfl ?_; intro _; refine w ?_))
      by_cases hs1 : o.slot = 1
      · -- the other disk
        have ka1 : (mk2 ⟨ka, false, 0⟩ ⟨k1, false, 0⟩ c).plain o.kind o.slot o.n o.b = ((devOp k1 o.kind o.n o.b).1, mk2 ⟨ka, false, 0⟩ ⟨(devOp k1 o.kind o.n o.b).2, false, 0⟩ (c.inc (opJ o.kind))) := by rw [hs1]; exact plain_mk2_1 _ _ _ _ _ _
        have kb1 : (mk2 vb ⟨k1, false, 0⟩ c).plain o.kind o.slot o.n o.b = ((devOp k1 o.kind o.n o.b).1, mk2 vb ⟨(devOp k1 o.kind o.n o.b).2, false, 0⟩ (c.inc (opJ o.kind))) := by rw [hs1]; exact plain_mk2_1 _ _ _ _ _ _
        have cap1 : ∀ v0, ((mk2 v0 ⟨k1, false, 0⟩ c).dv o.slot).k.cache.length ≤ 1000000 := fun v0 => by rw [hs1, dv_mk2_1, use_calm rfl]; dsimp only; omega
        (refine VC.condFe rfl rfl (by simp [hs1]) ?_)
        (refine w ?_; repeat ((first | refine VO.step rfl rfl ?_ | refine VD.end rfl rfl rfl ?_ | refine VD.mid rfl rfl rfl ?_); refine OpV.box rfl rfl rfl ?_; intro _; refine w ?_))
        ((first | refine VO.step rfl rfl ?_ | refine VD.end rfl rfl rfl ?_ | refine VD.mid rfl rfl rfl ?_); refine OpV.call rfl rfl (fun _ _ => by simp) (plain_ok a (mk2 ⟨ka, false, 0⟩ ⟨k1, false, 0⟩ c) o hw (cap1 _)) Ent.re rfl ?_)
        intro x hx
        rw [ka1] at hx ⊢
        (refine w ?_; repeat ((first | refine VO.step rfl rfl ?_ | refine VD.end rfl rfl rfl ?_ | refine VD.mid rfl rfl rfl ?_); refine OpV.box rfl rfl rfl ?_; intro _; refine w ?_))
        ((first | refine VO.step rfl rfl ?_ | refine VD.end rfl rfl rfl ?_ | refine VD.mid rfl rfl rfl ?_); refine OpV.call rfl rfl (fun _ _ => by simp) (plain_ok b (mk2 vb ⟨k1, false, 0⟩ c) o hw (cap1 _)) Ent.re rfl ?_)
        intro y hy
        rw [kb1] at hy ⊢
        dsimp only at hx hy ⊢
        (refine w ?_; repeat ((first | refine VO.step rfl rfl ?_ | refine VD.end rfl rfl rfl ?_ | refine VD.mid rfl rfl rfl ?_); refine OpV.box rfl rfl rfl ?_; intro _; refine w ?_))
        (first | refine VO.gF rfl rfl rfl (by simp [hs1]) ?_ | refine VD.gF rfl rfl rfl (by simp [hs1]) ?_)
        (refine w ?_; repeat ((first | refine VO.step rfl rfl ?_ | refine VD.end rfl rfl rfl ?_ | refine VD.mid rfl rfl rfl ?_); refine OpV.box rfl rfl rfl ?_; intro _; refine w ?_))
        (first | refine VO.gF rfl rfl rfl (by simp) ?_ | refine VD.gF rfl rfl rfl (by simp) ?_)
        (refine w ?_; repeat ((first | refine VO.step rfl rfl ?_ | refine VD.end rfl rfl rfl ?_ | refine VD.mid rfl rfl rfl ?_); refine OpV.box rfl rfl rfl ?_; intro _; refine w ?_))
        refine VO.know (fun w hw => hw.ownMax (show OwnB x (devOp k1 o.kind o.n o.b).1.1 ∈ _ by (focus repeat first | exact .head _ | apply List.Mem.tail)) : ∀ w, _ → (devOp k1 o.kind o.n o.b).1.1.length ≤ maxLen) ?_
        intro hml
        refine VO.ent (Reord.ent (L := [OwnB x (devOp k1 o.kind o.n o.b).1.1, OwnB y (devOp k1 o.kind o.n o.b).1.1, BayR a (mk2 ⟨ka, false, 0⟩ ⟨(devOp k1 o.kind o.n o.b).2, false, 0⟩ (c.inc (opJ o.kind))), BayR b (mk2 vb ⟨(devOp k1 o.kind o.n o.b).2, false, 0⟩ (c.inc (opJ o.kind))), Row na 35 o.cells]) (by (repeat first | exact .refl | (apply Reord.cons; focus repeat first | exact .head | apply Del.tail) | exact .nil | apply Reord.drop))) ?_
        ((first | refine VO.step rfl rfl ?_ | refine VD.end rfl rfl rfl ?_ | refine VD.mid rfl rfl rfl ?_); refine OpV.call rfl rfl (fun _ _ => by simp) (same_any (a := (devOp k1 o.kind o.n o.b).1.1) (b := (devOp k1 o.kind o.n o.b).1.1) (Rds.own (bytes_one _) (.head _) (by simp) hx) (Rds.own (bytes_one _) (.tail _ (.head _)) (by simp) hy) hml) Ent.refl rfl ?_; intro _ _)
        (refine w ?_; repeat ((first | refine VO.step rfl rfl ?_ | refine VD.end rfl rfl rfl ?_ | refine VD.mid rfl rfl rfl ?_); refine OpV.box rfl rfl rfl ?_; intro _; refine w ?_))
        (first | refine VO.gF rfl rfl rfl (by simp) ?_ | refine VD.gF rfl rfl rfl (by simp) ?_)
        (refine w ?_; repeat ((first | refine VO.step rfl rfl ?_ | refine VD.end rfl rfl rfl ?_ | refine VD.mid rfl rfl rfl ?_); refine OpV.box rfl rfl rfl ?_; intro _; refine w ?_))
        (first | refine VO.gF rfl rfl rfl (by simp [hs1]) ?_ | refine VD.gF rfl rfl rfl (by simp [hs1]) ?_)
        (refine w ?_; repeat ((first | refine VO.step rfl rfl ?_ | refine VD.end rfl rfl rfl ?_ | refine VD.mid rfl rfl rfl ?_); refine OpV.box rfl rfl rfl ?_; intro _; refine w ?_))
        refine VE.round (i + 1, many, ka, vb, (devOp k1 o.kind o.n o.b).2, c.inc (opJ o.kind)) ⟨hlt, by dsimp only; omega, hwn, devOp_alive hk1 _ _ _, by dsimp only; omega, by dsimp only; omega, devOp_cap c1 _ _ _, inc_ok hcok _⟩ (by dsimp only; omega) ⟨rfl, rfl, rfl, rfl, rfl, rfl, asV rfl (by congr 1), trivial⟩ Ent.re
      · (refine VC.condTe rfl rfl (by simp [hs1]) ?_)
        (refine w ?_; repeat ((first | refine VO.step rfl rfl ?_ | refine VD.end rfl rfl rfl ?_ | refine VD.mid rfl rfl rfl ?_); refine OpV.box rfl rfl rfl ?_; intro _; refine w ?_))
        have ka1 : (mk2 ⟨ka, false, 0⟩ ⟨k1, false, 0⟩ c).plain o.kind 0 o.n o.b = ((devOp ka o.kind o.n o.b).1, mk2 ⟨(devOp ka o.kind o.n o.b).2, false, 0⟩ ⟨k1, false, 0⟩ (c.inc (opJ o.kind))) := plain_mk2_0 _ _ _ _ _ _
        have kb1 : (mk2 vb ⟨k1, false, 0⟩ c).plain o.kind 0 o.n o.b = ((devOp vb.use.k o.kind o.n o.b).1, mk2 ⟨(devOp vb.use.k o.kind o.n o.b).2, vb.use.worn, vb.use.left⟩ ⟨k1, false, 0⟩ (c.inc (opJ o.kind))) := plain_mk2_0 _ _ _ _ _ _
        obtain ⟨hwn2, hgood, hgone⟩ := hwn.next (by omega) hn1 o.kind o.n o.b
        have hw0 : o.at0.wf W := ⟨hw.b, hw.bl, hw.bc, hw.ks, hw.kl, hw.kn, hw.n1, hw.n2, by simp, by simp⟩
        ((first | refine VO.step rfl rfl ?_ | refine VD.end rfl rfl rfl ?_ | refine VD.mid rfl rfl rfl ?_); refine OpV.call rfl rfl (fun _ _ => by simp) (plain_ok a (mk2 ⟨ka, false, 0⟩ ⟨k1, false, 0⟩ c) o.at0 hw0 (by show ((mk2 _ _ _).dv 0).k.cache.length ≤ _; rw [dv_mk2_0, use_calm rfl]; dsimp only; omega)) Ent.re rfl ?_)
        intro x hx
        rw [ka1] at hx ⊢
        (refine w ?_; repeat ((first | refine VO.step rfl rfl ?_ | refine VD.end rfl rfl rfl ?_ | refine VD.mid rfl rfl rfl ?_); refine OpV.box rfl rfl rfl ?_; intro _; refine w ?_))
        ((first | refine VO.step rfl rfl ?_ | refine VD.end rfl rfl rfl ?_ | refine VD.mid rfl rfl rfl ?_); refine OpV.call rfl rfl (fun _ _ => by simp) (plain_ok b (mk2 vb ⟨k1, false, 0⟩ c) o.at0 hw0 (by show ((mk2 _ _ _).dv 0).k.cache.length ≤ _; rw [dv_mk2_0]; have := use_cap cb; omega)) Ent.re rfl ?_)
        intro y hy
        rw [kb1] at hy ⊢
        dsimp only at hx hy ⊢
        (refine w ?_; repeat ((first | refine VO.step rfl rfl ?_ | refine VD.end rfl rfl rfl ?_ | refine VD.mid rfl rfl rfl ?_); refine OpV.box rfl rfl rfl ?_; intro _; refine w ?_))
        (refine VC.cond rfl rfl ?_ ?_ <;> intro hc)
        · have hgt : n < (many : Int) + 1 := of_decide_eq_true hc
          obtain ⟨g1, g2⟩ := hgone hgt
          rw [g1] at hy hwn2 ⊢
          dsimp only at hy ⊢
          (refine w ?_; repeat ((first | refine VO.step rfl rfl ?_ | refine VD.end rfl rfl rfl ?_ | refine VD.mid rfl rfl rfl ?_); refine OpV.box rfl rfl rfl ?_; intro _; refine w ?_))
          (((first | refine VO.step rfl rfl ?_ | refine VD.end rfl rfl rfl ?_ | refine VD.mid rfl rfl rfl ?_); refine OpV.call rfl rfl (fun _ _ => by simp) (bayhas_ok b (mk2 ⟨vb.use.k, vb.use.worn, vb.use.left⟩ ⟨k1, false, 0⟩ (c.inc (opJ o.kind))) 0) Ent.re rfl ?_); intro _ _)
          rw [has_mk2_0, g2]
          (refine w ?_; repeat ((first | refine VO.step rfl rfl ?_ | refine VD.end rfl rfl rfl ?_ | refine VD.mid rfl rfl rfl ?_); refine OpV.box rfl rfl rfl ?_; intro _; refine w ?_))
          refine VE.round (i + 1, many + 1, (devOp ka o.kind o.n o.b).2, ⟨vb.use.k, vb.use.worn, vb.use.left⟩, k1, c.inc (opJ o.kind)) ⟨hlt, by dsimp only; omega, hwn2, hk1, devOp_cap ca _ _ _, Nat.le_succ_of_le (use_cap cb), by dsimp only; omega, inc_ok hcok _⟩ (by dsimp only; omega) ⟨rfl, rfl, rfl, rfl, rfl, asV rfl (by congr 1), asV rfl (by congr 1), trivial⟩ Ent.re
        · have hle : (many : Int) + 1 ≤ n := by have := of_decide_eq_false hc; omega
          have g1 := hgood hle
          have g3 := hwn2.eq (by omega)
          rw [g1] at hy ⊢
          (refine w ?_; repeat ((first | refine VO.step rfl rfl ?_ | refine VD.end rfl rfl rfl ?_ | refine VD.mid rfl rfl rfl ?_); refine OpV.box rfl rfl rfl ?_; intro _; refine w ?_))
          (first | refine VO.gF rfl rfl rfl (by simp) ?_ | refine VD.gF rfl rfl rfl (by simp) ?_)
          (refine w ?_; repeat ((first | refine VO.step rfl rfl ?_ | refine VD.end rfl rfl rfl ?_ | refine VD.mid rfl rfl rfl ?_); refine OpV.box rfl rfl rfl ?_; intro _; refine w ?_))
          refine VO.know (fun w hw => hw.ownMax (show OwnB x (devOp ka o.kind o.n o.b).1.1 ∈ _ by (focus repeat first | exact .head _ | apply List.Mem.tail)) : ∀ w, _ → (devOp ka o.kind o.n o.b).1.1.length ≤ maxLen) ?_
          intro hml
          refine VO.ent (Reord.ent (L := [OwnB x (devOp ka o.kind o.n o.b).1.1, OwnB y (devOp ka o.kind o.n o.b).1.1, BayR a (mk2 ⟨(devOp ka o.kind o.n o.b).2, false, 0⟩ ⟨k1, false, 0⟩ (c.inc (opJ o.kind))), BayR b (mk2 ⟨(devOp vb.use.k o.kind o.n o.b).2, vb.use.worn, vb.use.left⟩ ⟨k1, false, 0⟩ (c.inc (opJ o.kind))), Row na 35 o.at0.cells]) (by (repeat first | exact .refl | (apply Reord.cons; focus repeat first | exact .head | apply Del.tail) | exact .nil | apply Reord.drop))) ?_
          ((first | refine VO.step rfl rfl ?_ | refine VD.end rfl rfl rfl ?_ | refine VD.mid rfl rfl rfl ?_); refine OpV.call rfl rfl (fun _ _ => by simp) (same_any (a := (devOp ka o.kind o.n o.b).1.1) (b := (devOp ka o.kind o.n o.b).1.1) (Rds.own (bytes_one _) (.head _) (by simp) hx) (Rds.own (bytes_one _) (.tail _ (.head _)) (by simp) hy) hml) Ent.refl rfl ?_; intro _ _)
          (refine w ?_; repeat ((first | refine VO.step rfl rfl ?_ | refine VD.end rfl rfl rfl ?_ | refine VD.mid rfl rfl rfl ?_); refine OpV.box rfl rfl rfl ?_; intro _; refine w ?_))
          (first | refine VO.gF rfl rfl rfl (by simp) ?_ | refine VD.gF rfl rfl rfl (by simp) ?_)
          (refine w ?_; repeat ((first | refine VO.step rfl rfl ?_ | refine VD.end rfl rfl rfl ?_ | refine VD.mid rfl rfl rfl ?_); refine OpV.box rfl rfl rfl ?_; intro _; refine w ?_))
          (((first | refine VO.step rfl rfl ?_ | refine VD.end rfl rfl rfl ?_ | refine VD.mid rfl rfl rfl ?_); refine OpV.call rfl rfl (fun _ _ => by simp) (bayhas_ok b (mk2 ⟨(devOp vb.use.k o.kind o.n o.b).2, vb.use.worn, vb.use.left⟩ ⟨k1, false, 0⟩ (c.inc (opJ o.kind))) 0) Ent.re rfl ?_); intro _ _)
          have g4 : (devOp vb.use.k o.kind o.n o.b).2.failed = false := by
            have := congrArg (fun v : DevD => v.k.failed) g3
            rw [show (devOp vb.use.k o.kind o.n o.b).2.failed = (devOp ka o.kind o.n o.b).2.failed from this]
            exact devOp_alive hwn.alive _ _ _
          rw [has_mk2_0, g4]
          (refine w ?_; repeat ((first | refine VO.step rfl rfl ?_ | refine VD.end rfl rfl rfl ?_ | refine VD.mid rfl rfl rfl ?_); refine OpV.box rfl rfl rfl ?_; intro _; refine w ?_))
          have hcb2 : (devOp vb.use.k o.kind o.n o.b).2.cache.length ≤ i + 1 := devOp_cap (use_cap cb) _ _ _
          refine VE.round (i + 1, many + 1, (devOp ka o.kind o.n o.b).2, ⟨(devOp vb.use.k o.kind o.n o.b).2, vb.use.worn, vb.use.left⟩, k1, c.inc (opJ o.kind)) ⟨hlt, by dsimp only; omega, hwn2, hk1, devOp_cap ca _ _ _, hcb2, by dsimp only; omega, inc_ok hcok _⟩ (by dsimp only; omega) ⟨rfl, rfl, rfl, rfl, rfl, asV rfl (by congr 1), asV rfl (by congr 1), trivial⟩ Ent.re
    · (refine w ?_; repeat ((first | refine VO.step rfl rfl ?_ | refine VD.end rfl rfl rfl ?_ | refine VD.mid rfl rfl rfl ?_); refine OpV.box rfl rfl rfl ?_; intro _; refine w ?_))
      (((first | refine VO.step rfl rfl ?_ | refine VD.end rfl rfl rfl ?_ | refine VD.mid rfl rfl rfl ?_); refine OpV.call rfl rfl (fun _ _ => by simp) (baycounts_ok a (mk2 ⟨ka, false, 0⟩ ⟨k1, false, 0⟩ c)) Ent.re rfl ?_); intro _ _)
      (refine w ?_; repeat ((first | refine VO.step rfl rfl ?_ | refine VD.end rfl rfl rfl ?_ | refine VD.mid rfl rfl rfl ?_); refine OpV.box rfl rfl rfl ?_; intro _; refine w ?_))
      (((first | refine VO.step rfl rfl ?_ | refine VD.end rfl rfl rfl ?_ | refine VD.mid rfl rfl rfl ?_); refine OpV.call rfl rfl (fun _ _ => by simp) (baycounts_ok b (mk2 vb ⟨k1, false, 0⟩ c)) Ent.re rfl ?_); intro _ _)
      (refine w ?_; repeat ((first | refine VO.step rfl rfl ?_ | refine VD.end rfl rfl rfl ?_ | refine VD.mid rfl rfl rfl ?_); refine OpV.box rfl rfl rfl ?_; intro _; refine w ?_))
      refine VO.pure rfl rfl (cnt_eq (c := c) (d := c) rfl rfl hcok hcok (by rw [decide_eq_true ⟨rfl, rfl, rfl⟩]; rfl)) rfl ?_
      (refine w ?_; repeat ((first | refine VO.step rfl rfl ?_ | refine VD.end rfl rfl rfl ?_ | refine VD.mid rfl rfl rfl ?_); refine OpV.box rfl rfl rfl ?_; intro _; refine w ?_))
      (((first | refine VO.step rfl rfl ?_ | refine VD.end rfl rfl rfl ?_ | refine VD.mid rfl rfl rfl ?_); refine OpV.call rfl rfl (fun _ _ => by simp) (bayhas_ok b (mk2 vb ⟨k1, false, 0⟩ c) 1) Ent.re rfl ?_); intro _ _)
      rw [has_mk2_1, hk1]
      (refine w ?_; repeat ((first | refine VO.step rfl rfl ?_ | refine VD.end rfl rfl rfl ?_ | refine VD.mid rfl rfl rfl ?_); refine OpV.box rfl rfl rfl ?_; intro _; refine w ?_))
      (refine VE.done1 rfl ?_ ?_)
      · rfl
      · exact Reord.ent .nil
  · obtain rfl : x = none := by cases x with | none => rfl | some b => simp [hE] at hx
    dsimp only [Option.elim_none]
    (refine w ?_; repeat ((first | refine VO.step rfl rfl ?_ | refine VD.end rfl rfl rfl ?_ | refine VD.mid rfl rfl rfl ?_); refine OpV.box rfl rfl rfl ?_; intro _; refine w ?_))
    ((first | refine VO.step rfl rfl ?_ | refine VD.end rfl rfl rfl ?_ | refine VD.mid rfl rfl rfl ?_); refine OpV.buildSlice1 st_43 rfl rfl (by first | (simp; done) | simp [Value.oneCell']) (by decide) rfl ?_; intro nb)
    (refine w ?_; repeat ((first | refine VO.step rfl rfl ?_ | refine VD.end rfl rfl rfl ?_ | refine VD.mid rfl rfl rfl ?_); refine OpV.box rfl rfl rfl ?_; intro _; refine w ?_))
    have hr : ∀ X : List SProp, Rds W (Row nb 3 [.int .i64 sec, .int .i64 2] :: X) 1 (some ⟨nb, 0, none⟩) 2 (intsI [sec, 2]) := fun X => Rds.row (intsI_one _) (.head _) rfl
    ((first | refine VO.step rfl rfl ?_ | refine VD.end rfl rfl rfl ?_ | refine VD.mid rfl rfl rfl ?_); refine OpV.call rfl rfl (fun _ _ => by simp) (baynew_ok (l := [sec, 2]) (hr _) (by simp)) Ent.refl rfl ?_)
    intro y hy
    obtain rfl : y = none := by cases y with | none => rfl | some b => simp [hE] at hy
    dsimp only [Option.elim_none]
    (refine w ?_; repeat ((first | refine VO.step rfl rfl ?_ | refine VD.end rfl rfl rfl ?_ | refine VD.mid rfl rfl rfl ?_); refine OpV.box rfl rfl rfl ?_; intro _; refine w ?_))
    ((first | refine VO.step rfl rfl ?_ | refine VD.end rfl rfl rfl ?_ | refine VD.mid rfl rfl rfl ?_); refine OpV.call rfl rfl (fun _ _ => by simp) (bknown_ok) Ent.refl rfl ?_; intro _ _)
    (refine w ?_; repeat ((first | refine VO.step rfl rfl ?_ | refine VD.end rfl rfl rfl ?_ | refine VD.mid rfl rfl rfl ?_); refine OpV.box rfl rfl rfl ?_; intro _; refine w ?_))
    (refine VC.condFe rfl rfl (by simp) ?_)
    (refine w ?_; repeat ((first | refine VO.step rfl rfl ?_ | refine VD.end rfl rfl rfl ?_ | refine VD.mid rfl rfl rfl ?_); refine OpV.box rfl rfl rfl ?_; intro _; refine w ?_))
    (first | refine VO.gT rfl rfl rfl (by simpa using hE) ?_ | refine VD.gT rfl rfl rfl (by simpa using hE) ?_)
    (refine w ?_; repeat ((first | refine VO.step rfl rfl ?_ | refine VD.end rfl rfl rfl ?_ | refine VD.mid rfl rfl rfl ?_); refine OpV.box rfl rfl rfl ?_; intro _; refine w ?_))
    (refine VE.done1 rfl ?_ ?_)
    · simp [hE]
    · exact Reord.ent .nil
end Go.Proofs.Ytbmcgmicnfbckaa
