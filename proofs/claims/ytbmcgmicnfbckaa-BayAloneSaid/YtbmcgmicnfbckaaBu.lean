/- The statements of the bay: BayCuts. -/
import Derived.Test.YtbmcgmicnfbckaaBt
set_option maxRecDepth 8000
set_option linter.unusedVariables false
set_option linter.unusedSimpArgs false
set_option linter.unusedSectionVars false
namespace Go.Proofs.Ytbmcgmicnfbckaa
open Go.RowKit Go.Sl
attribute [local irreducible] Own

def mk1 (v : DevD) (c : CntD) : BayD := ⟨[⟨some v, none, none⟩], false, -1, c⟩
theorem mk1_image (v : DevD) (c : CntD) : (mk1 v c).image 0 = (v.k.img, 0) := rfl
theorem mk1_write (k : DiskD) (c : CntD) (n : Int) (b : List UInt8) : (mk1 ⟨k, false, 0⟩ c).write 0 n b = ((k.wr n b).1, mk1 ⟨(k.wr n b).2, false, 0⟩ (c.inc 1)) := rfl
theorem mk1_flush (k : DiskD) (c : CntD) : (mk1 ⟨k, false, 0⟩ c).flush 0 = (k.fl.1, mk1 ⟨k.fl.2, false, 0⟩ (c.inc 2)) := rfl
theorem mk1_cut (k : DiskD) (c : CntD) (l : List (List Bool)) : (mk1 ⟨k, false, 0⟩ c).cut l = mk1 ⟨k.settle (keepOf (l.getD 0 [])), false, 0⟩ c := rfl
theorem dv_mk1 (v : DevD) (c : CntD) : (mk1 v c).dv 0 = v.use := rfl
theorem blank_ok (n : Nat) (h : n ≤ 8192) : (DiskD.blank n).ok := ⟨fun b hb => (by rw [List.eq_of_mem_replicate hb]; exact zeroSec_length), fun c hc => absurd hc (by simp [DiskD.blank]), by simpa [DiskD.blank] using h⟩
theorem wr_ok {k : DiskD} (hk : k.ok) (n : Int) (b : List UInt8) : (k.wr n b).2.ok := by
  unfold DiskD.wr; split
  · exact hk
  · split
    · exact hk
    · rename_i h1 h2
      obtain ⟨_, h3, h4⟩ := may_zero (by simpa using h1)
      exact DiskD.write_okk hk (by omega) (by simpa using h2)
theorem fl_ok {k : DiskD} (hk : k.ok) : k.fl.2.ok := by
  unfold DiskD.fl; split
  · exact hk
  · exact DiskD.settle_okk hk
theorem wr_mem {k : DiskD} {n : Int} {b : List UInt8} {x : Nat × List UInt8} (h : x ∈ (k.wr n b).2.cache) : x ∈ k.cache ∨ (n = (x.1 : Int) ∧ b = x.2) := by
  unfold DiskD.wr at h; split at h
  · exact .inl h
  · split at h
    · exact .inl h
    · rename_i h1 h2
      obtain ⟨_, h3, h4⟩ := may_zero (by simpa using h1)
      rcases List.mem_append.1 h with q | q
      · exact .inl q
      · rw [List.mem_singleton] at q; subst q; exact .inr ⟨by dsimp only; omega, rfl⟩
theorem fl_alive {k : DiskD} (h : k.failed = false) : k.fl.2 = k.settle fun _ => true := by unfold DiskD.fl; rw [h]; rfl
theorem fl_len (k : DiskD) : k.fl.2.last.length = k.last.length := by
  unfold DiskD.fl; split
  · rfl
  · exact sets_length _ _ _ _
/-- What settling leaves in a sector. -/
theorem sets_get (keep : Nat → Bool) (s : Nat) : ∀ (l : List (Nat × List UInt8)) (last : List (List UInt8)) (i : Nat), s < last.length → (sets keep last i l)[s]? = last[s]? ∨ ∃ c ∈ l, c.1 = s ∧ (sets keep last i l)[s]? = some c.2
  | [], _, _, _ => .inl rfl
  | c :: r, last, i, h => by
    rw [sets]
    have hlen : ∀ x : List (List UInt8), x = (if keep i then last.set c.1 c.2 else last) → s < x.length := fun x hx => by subst hx; split <;> simpa using h
    rcases sets_get keep s r _ (i + 1) (hlen _ rfl) with q | ⟨d, hd, h1, h2⟩
    · split at q
      · rename_i hk
        rw [hk] at *
        simp only [if_true] at *
        by_cases hc : c.1 = s
        · right
          refine ⟨c, .head _, hc, ?_⟩
          rw [q, hc]; simp [h]
        · left
          rw [q, List.getElem?_set_ne hc]
      · rename_i hk
        rw [if_neg hk]
        exact .inl q
    · exact .inr ⟨d, .tail _ hd, h1, h2⟩
theorem sec_part {l : List (List UInt8)} (h8 : ∀ b ∈ l, b.length = 128) (a : Nat) (ha : a < l.length) : ((bytes l.flatten).drop (a * 128)).take 128 = bytes l[a] := by
  rw [bytes_flatten]
  exact flat_part (g := bytes) l a ha (fun b h => by simp [h8 b h])
theorem img_alive {k : DiskD} (h : k.failed = false) : k.img = k.last.flatten := by unfold DiskD.img; rw [h]; rfl

/-- The writes that stand in the cache were made behind the flush. -/
def Made (lb : List BopD) (flush : Int) (i : Nat) (k : DiskD) : Prop := flush < (i : Int) → ∀ c ∈ k.cache, ∃ (j : Nat) (h : j < lb.length), j < i ∧ flush < (j : Int) ∧ lb[j].kind = 2 ∧ lb[j].n = (c.1 : Int) ∧ lb[j].b = c.2
theorem Made.write {lb : List BopD} {flush : Int} {i : Nat} {k : DiskD} (h : Made lb flush i k) (hlt : i < lb.length) (hk : lb[i].kind = 2) (hne : (i : Int) ≠ flush) : Made lb flush (i + 1) (k.wr lb[i].n lb[i].b).2 := by
  intro hf c hc
  rcases wr_mem hc with q | ⟨q1, q2⟩
  · obtain ⟨j, hj, h1, h2⟩ := h (by omega) c q
    exact ⟨j, hj, by omega, h2⟩
  · exact ⟨i, hlt, by omega, by omega, hk, q1, q2⟩
theorem Made.next {lb : List BopD} {flush : Int} {i : Nat} {k : DiskD} (h : Made lb flush i k) (hne : (i : Int) ≠ flush) : Made lb flush (i + 1) k := by
  intro hf c hc
  obtain ⟨j, hj, h1, h2⟩ := h (by omega) c hc
  exact ⟨j, hj, by omega, h2⟩
theorem Made.none {lb : List BopD} {flush : Int} {i : Nat} {k : DiskD} (h : k.cache = []) : Made lb flush i k := fun _ c hc => by rw [h] at hc; cases hc
def matchB (lb : List BopD) (flush : Int) (s : Nat) (x : List UInt8) (j : Nat) : Prop := ∃ h : j < lb.length, lb[j].kind = 2 ∧ flush < (j : Int) ∧ lb[j].n = (s : Int) ∧ x = lb[j].b

set_option maxHeartbeats 16000000 in
theorem bcuts_ok {W : World} {ao ko mo : Option Addr} {cap kcap mcap : Nat} {lb : List BopD} {lk lm : List Bool} (sec flush : Int) (hb0 : ∀ R, BScr W R ao lb) (hlb : lb.length ≤ 140737488351232) (hk : RdsA W 1 ko lk.length (bools lk)) (hkm : RdsA W 1 mo lm.length (bools lm)) :
    Does1 W Try.prog 6 [.int .i64 sec, .slice ao lb.length cap, .int .i64 flush, .slice ko lk.length kcap, .slice mo lm.length mcap] [] (.bool true) [] := by
  (refine Does.enter Try.func6 Try.ntmps6 rfl rfl ?_)
  (refine w ?_; repeat ((first | refine VO.step rfl rfl ?_ | refine VD.end rfl rfl rfl ?_ | refine VD.mid rfl rfl rfl ?_); refine OpV.box rfl rfl rfl ?_; intro _; refine w ?_))
  ((first | refine VO.step rfl rfl ?_ | refine VD.end rfl rfl rfl ?_ | refine VD.mid rfl rfl rfl ?_); refine OpV.call rfl rfl (fun _ _ => by simp) (bmuch_ok (so := none) (n := 0) (scap := 0) (hb0 _) (by omega) hlb) Ent.re rfl ?_)
  intro mb hmb
  (refine w ?_; repeat ((first | refine VO.step rfl rfl ?_ | refine VD.end rfl rfl rfl ?_ | refine VD.mid rfl rfl rfl ?_); refine OpV.box rfl rfl rfl ?_; intro _; refine w ?_))
  ((first | refine VO.split rfl rfl rfl ?_ ?_ | refine VD.split rfl rfl rfl ?_ ?_) <;> intro hb)
  · (refine w ?_; repeat ((first | refine VO.step rfl rfl ?_ | refine VD.end rfl rfl rfl ?_ | refine VD.mid rfl rfl rfl ?_); refine OpV.box rfl rfl rfl ?_; intro _; refine w ?_))
    (refine VE.done1 rfl ?_ ?_)
    · rfl
    · exact Ent.refl
  obtain ⟨hm1, hm2⟩ := hmb hb
  (refine w ?_; repeat ((first | refine VO.step rfl rfl ?_ | refine VD.end rfl rfl rfl ?_ | refine VD.mid rfl rfl rfl ?_); refine OpV.box rfl rfl rfl ?_; intro _; refine w ?_))
  ((first | refine VO.split rfl rfl rfl ?_ ?_ | refine VD.split rfl rfl rfl ?_ ?_) <;> intro hb)
  · (refine w ?_; repeat ((first | refine VO.step rfl rfl ?_ | refine VD.end rfl rfl rfl ?_ | refine VD.mid rfl rfl rfl ?_); refine OpV.box rfl rfl rfl ?_; intro _; refine w ?_))
    (refine VE.done1 rfl ?_ ?_)
    · rfl
    · exact Ent.refl
  (refine w ?_; repeat ((first | refine VO.step rfl rfl ?_ | refine VD.end rfl rfl rfl ?_ | refine VD.mid rfl rfl rfl ?_); refine OpV.box rfl rfl rfl ?_; intro _; refine w ?_))
  (refine VC.cond rfl rfl ?_ ?_ <;> intro hc)
  · (refine w ?_; repeat ((first | refine VO.step rfl rfl ?_ | refine VD.end rfl rfl rfl ?_ | refine VD.mid rfl rfl rfl ?_); refine OpV.box rfl rfl rfl ?_; intro _; refine w ?_))
    (refine VE.done1 rfl ?_ ?_)
    · rfl
    · exact Ent.refl
  (refine w ?_; repeat ((first | refine VO.step rfl rfl ?_ | refine VD.end rfl rfl rfl ?_ | refine VD.mid rfl rfl rfl ?_); refine OpV.box rfl rfl rfl ?_; intro _; refine w ?_))
  ((first | refine VO.step rfl rfl ?_ | refine VD.end rfl rfl rfl ?_ | refine VD.mid rfl rfl rfl ?_); refine OpV.buildSlice1 st_43 rfl rfl (by first | (simp; done) | simp [Value.oneCell']) (by decide) rfl ?_; intro nb)
  (refine w ?_; repeat ((first | refine VO.step rfl rfl ?_ | refine VD.end rfl rfl rfl ?_ | refine VD.mid rfl rfl rfl ?_); refine OpV.box rfl rfl rfl ?_; intro _; refine w ?_))
  have hr : ∀ X : List SProp, Rds W (Row nb 3 [.int .i64 sec] :: X) 1 (some ⟨nb, 0, none⟩) 1 (intsI [sec]) := fun X => Rds.row (intsI_one _) (.head _) rfl
  ((first | refine VO.step rfl rfl ?_ | refine VD.end rfl rfl rfl ?_ | refine VD.mid rfl rfl rfl ?_); refine OpV.call rfl rfl (fun _ _ => by simp) (baynew_ok (l := [sec]) (hr _) (by simp)) Ent.refl rfl ?_)
  intro x hx
  by_cases hE : bayE [sec] = 0
  · rw [hE] at hx ⊢
    obtain ⟨-, -, hsz⟩ := all_sizes hE
    have hsz := hsz sec (.head _)
    obtain ⟨a, rfl⟩ : ∃ a, x = some a := by cases x with | none => cases hx | some a => exact ⟨a, rfl⟩
    dsimp only [Option.elim_some]
    (refine w ?_; repeat ((first | refine VO.step rfl rfl ?_ | refine VD.end rfl rfl rfl ?_ | refine VD.mid rfl rfl rfl ?_); refine OpV.box rfl rfl rfl ?_; intro _; refine w ?_))
    ((first | refine VO.step rfl rfl ?_ | refine VD.end rfl rfl rfl ?_ | refine VD.mid rfl rfl rfl ?_); refine OpV.call rfl rfl (fun _ _ => by simp) (bknown_ok) Ent.refl rfl ?_; intro _ _)
    (refine w ?_; repeat ((first | refine VO.step rfl rfl ?_ | refine VD.end rfl rfl rfl ?_ | refine VD.mid rfl rfl rfl ?_); refine OpV.box rfl rfl rfl ?_; intro _; refine w ?_))
    (refine VC.cond rfl rfl ?_ ?_ <;> intro hc)
    · (refine w ?_; repeat ((first | refine VO.step rfl rfl ?_ | refine VD.end rfl rfl rfl ?_ | refine VD.mid rfl rfl rfl ?_); refine OpV.box rfl rfl rfl ?_; intro _; refine w ?_))
      (refine VE.done1 rfl ?_ ?_)
      · rfl
      · exact Reord.ent .nil
    have hs0 : sec ≠ 0 := by simpa using hc
    have enew : BayD.new [sec] = mk1 ⟨.blank sec.toNat, false, 0⟩ ⟨0, 0, 0⟩ := by unfold BayD.new mk1; simp [slotOf, hs0]
    rw [enew]
    (refine w ?_; repeat ((first | refine VO.step rfl rfl ?_ | refine VD.end rfl rfl rfl ?_ | refine VD.mid rfl rfl rfl ?_); refine OpV.box rfl rfl rfl ?_; intro _; refine w ?_))
    refine VC.loop (α := Nat × DiskD × CntD) (fun g => g.1 ≤ lb.length ∧ g.2.1.failed = false ∧ g.2.1.cache.length ≤ g.1 ∧ g.2.1.ok ∧ g.2.1.last.length = sec.toNat ∧ Made lb flush g.1 g.2.1)
      (fun g => [BayR a (mk1 ⟨g.2.1, false, 0⟩ g.2.2)])
      (fun g => [(0, .int .i64 sec), (1, .slice ao lb.length cap), (2, .int .i64 flush), (3, .slice ko lk.length kcap), (4, .slice mo lm.length mcap), (11, .pointer (some ⟨a, 0, none⟩)), (13, .int .i64 g.1)]) (fun g => lb.length - g.1) rfl
      (0, .blank sec.toNat, ⟨0, 0, 0⟩) ⟨Nat.zero_le _, rfl, Nat.le_refl _, blank_ok _ (by omega), by simp [DiskD.blank], Made.none rfl⟩ Ent.re ⟨rfl, rfl, rfl, rfl, rfl, rfl, rfl, trivial⟩ ?_
    rintro ⟨i, k, c⟩ ⟨hi, hkf, hkc, hko, hkl, hmd⟩
    dsimp only at hi hkf hkc hko hkl hmd ⊢
    (refine w ?_; repeat ((first | refine VO.step rfl rfl ?_ | refine VD.end rfl rfl rfl ?_ | refine VD.mid rfl rfl rfl ?_); refine OpV.box rfl rfl rfl ?_; intro _; refine w ?_))
    (refine VC.cond rfl rfl ?_ ?_ <;> intro hc)
    · have hlt : i < lb.length := by have := of_decide_eq_true hc; omega
      obtain ⟨oa, rfl⟩ : ∃ oa, ao = some oa := by cases ao with | none => have := (hb0 []).rds.nil rfl; omega | some oa => exact ⟨oa, rfl⟩
      have hw := (hb0 []).wf lb[i] (List.getElem_mem hlt)
      have g0 := bop_get lb i 0 hlt (by decide)
      have g2 := bop_get lb i 2 hlt (by decide)
      have g3 := bop_get lb i 3 hlt (by decide)
      (refine w ?_; repeat ((first | refine VO.step rfl rfl ?_ | refine VD.end rfl rfl rfl ?_ | refine VD.mid rfl rfl rfl ?_); refine OpV.box rfl rfl rfl ?_; intro _; refine w ?_))
      (first | refine VO.pure rfl rfl (.ldRc tab_ok rfl rfl (hb0 _).rds (g0.trans rfl)) rfl ?_ | refine VD.take rfl rfl rfl (.ldRc tab_ok rfl rfl (hb0 _).rds (g0.trans rfl)) rfl ?_ | refine VQ.pure rfl rfl (.ldRc tab_ok rfl rfl (hb0 _).rds (g0.trans rfl)) rfl ?_ | refine VD.end rfl rfl rfl (OpV.pure (.ldRc tab_ok rfl rfl (hb0 _).rds (g0.trans rfl)) rfl ?_))
      (refine w ?_; repeat ((first | refine VO.step rfl rfl ?_ | refine VD.end rfl rfl rfl ?_ | refine VD.mid rfl rfl rfl ?_); refine OpV.box rfl rfl rfl ?_; intro _; refine w ?_))
      (refine VC.join (α := DiskD × CntD) (fun z => z.1.failed = false ∧ z.1.cache.length ≤ i + 1 ∧ z.1.ok ∧ z.1.last.length = sec.toNat ∧ ((i : Int) ≠ flush → Made lb flush (i + 1) z.1)) (fun z => [BayR a (mk1 ⟨z.1, false, 0⟩ z.2)]) (fun _ => [(0, .int .i64 sec), (1, .slice (some oa) lb.length cap), (2, .int .i64 flush), (3, .slice ko lk.length kcap), (4, .slice mo lm.length mcap), (11, .pointer (some ⟨a, 0, none⟩)), (13, .int .i64 i)]) ?_ ?_)
      · intro Q2 jn
        (refine VC.cond rfl rfl ?_ ?_ <;> intro hc)
        · have hk2 : lb[i].kind = 2 := by simpa using hc
          (refine w ?_; repeat ((first | refine VO.step rfl rfl ?_ | refine VD.end rfl rfl rfl ?_ | refine VD.mid rfl rfl rfl ?_); refine OpV.box rfl rfl rfl ?_; intro _; refine w ?_))
          (refine VC.drawn [] 11 [0, 1, 2, 3, 4, 5, 6, 7, 8, 9, 10, 11] _ rfl (by kernel_rfl) (by kernel_rfl) Ent.re ?_)
          (refine w ?_; repeat ((first | refine VO.step rfl rfl ?_ | refine VD.end rfl rfl rfl ?_ | refine VD.mid rfl rfl rfl ?_); refine OpV.box rfl rfl rfl ?_; intro _; refine w ?_))
          (first | refine VO.pure rfl rfl (.ldRc tab_ok rfl rfl (hb0 _).rds (g2.trans rfl)) rfl ?_ | refine VD.take rfl rfl rfl (.ldRc tab_ok rfl rfl (hb0 _).rds (g2.trans rfl)) rfl ?_ | refine VQ.pure rfl rfl (.ldRc tab_ok rfl rfl (hb0 _).rds (g2.trans rfl)) rfl ?_ | refine VD.end rfl rfl rfl (OpV.pure (.ldRc tab_ok rfl rfl (hb0 _).rds (g2.trans rfl)) rfl ?_))
          (refine w ?_; repeat ((first | refine VO.step rfl rfl ?_ | refine VD.end rfl rfl rfl ?_ | refine VD.mid rfl rfl rfl ?_); refine OpV.box rfl rfl rfl ?_; intro _; refine w ?_))
          (first | refine VO.pure rfl rfl (.ldRc tab_ok rfl rfl (hb0 _).rds (g3.trans rfl)) rfl ?_ | refine VD.take rfl rfl rfl (.ldRc tab_ok rfl rfl (hb0 _).rds (g3.trans rfl)) rfl ?_ | refine VQ.pure rfl rfl (.ldRc tab_ok rfl rfl (hb0 _).rds (g3.trans rfl)) rfl ?_ | refine VD.end rfl rfl rfl (OpV.pure (.ldRc tab_ok rfl rfl (hb0 _).rds (g3.trans rfl)) rfl ?_))
          (refine w ?_; repeat ((first | refine VO.step rfl rfl ?_ | refine VD.end rfl rfl rfl ?_ | refine VD.mid rfl rfl rfl ?_); refine OpV.box rfl rfl rfl ?_; intro _; refine w ?_))
          (((first | refine VO.step rfl rfl ?_ | refine VD.end rfl rfl rfl ?_ | refine VD.mid rfl rfl rfl ?_); refine OpV.call rfl rfl (fun _ _ => by simp) (baywrite_ok (l := lb[i].b) a (mk1 ⟨k, false, 0⟩ c) 0 lb[i].n (by rw [dv_mk1, use_calm rfl]; dsimp only; omega) (.inl hw.b)) Ent.re rfl ?_); intro _ _)
          rw [mk1_write]
          (refine w ?_; repeat ((first | refine VO.step rfl rfl ?_ | refine VD.end rfl rfl rfl ?_ | refine VD.mid rfl rfl rfl ?_); refine OpV.box rfl rfl rfl ?_; intro _; refine w ?_))
          refine jn.to ((k.wr lb[i].n lb[i].b).2, c.inc 1) ⟨by rw [wr_failed]; exact hkf, wr_cap hkc, wr_ok hko _ _, by rw [wr_last]; exact hkl, fun h => hmd.write hlt hk2 h⟩ ⟨rfl, rfl, rfl, rfl, rfl, rfl, rfl, trivial⟩ Ent.re
        · (refine w ?_; repeat ((first | refine VO.step rfl rfl ?_ | refine VD.end rfl rfl rfl ?_ | refine VD.mid rfl rfl rfl ?_); refine OpV.box rfl rfl rfl ?_; intro _; refine w ?_))
          refine jn.to (k, c) ⟨hkf, Nat.le_succ_of_le hkc, hko, hkl, fun h => hmd.next h⟩ ⟨rfl, rfl, rfl, rfl, rfl, rfl, rfl, trivial⟩ Ent.re
      · rintro ⟨k', c'⟩ ⟨hkf, hkc, hko, hkl, hmd⟩
        dsimp only at hkf hkc hko hkl hmd ⊢
        (refine w ?_; repeat ((first | refine VO.step rfl rfl ?_ | refine VD.end rfl rfl rfl ?_ | refine VD.mid rfl rfl rfl ?_); refine OpV.box rfl rfl rfl ?_; intro _; refine w ?_))
        (refine VC.cond rfl rfl ?_ ?_ <;> intro hc)
        · (refine w ?_; repeat ((first | refine VO.step rfl rfl ?_ | refine VD.end rfl rfl rfl ?_ | refine VD.mid rfl rfl rfl ?_); refine OpV.box rfl rfl rfl ?_; intro _; refine w ?_))
          (((first | refine VO.step rfl rfl ?_ | refine VD.end rfl rfl rfl ?_ | refine VD.mid rfl rfl rfl ?_); refine OpV.call rfl rfl (fun _ _ => by simp) (bayflush_ok a (mk1 ⟨k', false, 0⟩ c') 0) Ent.re rfl ?_); intro _ _)
          rw [mk1_flush]
          (refine w ?_; repeat ((first | refine VO.step rfl rfl ?_ | refine VD.end rfl rfl rfl ?_ | refine VD.mid rfl rfl rfl ?_); refine OpV.box rfl rfl rfl ?_; intro _; refine w ?_))
          refine VE.round (i + 1, k'.fl.2, c'.inc 2) ⟨hlt, by dsimp only; rw [fl_failed]; exact hkf, fl_cap hkc, fl_ok hko, by dsimp only; rw [fl_len]; exact hkl, Made.none (by dsimp only; rw [fl_alive hkf]; rfl)⟩ (by dsimp only; omega) ⟨rfl, rfl, rfl, rfl, rfl, rfl, asV rfl (by congr 1), trivial⟩ Ent.re
        · have hne : (i : Int) ≠ flush := by simpa using hc
          (refine w ?_; repeat ((first | refine VO.step rfl rfl ?_ | refine VD.end rfl rfl rfl ?_ | refine VD.mid rfl rfl rfl ?_); refine OpV.box rfl rfl rfl ?_; intro _; refine w ?_))
          refine VE.round (i + 1, k', c') ⟨hlt, hkf, hkc, hko, hkl, hmd hne⟩ (by dsimp only; omega) ⟨rfl, rfl, rfl, rfl, rfl, rfl, asV rfl (by congr 1), trivial⟩ Ent.re
    · have hge : i = lb.length := by have := of_decide_eq_false hc; omega
      subst hge
      (refine w ?_; repeat ((first | refine VO.step rfl rfl ?_ | refine VD.end rfl rfl rfl ?_ | refine VD.mid rfl rfl rfl ?_); refine OpV.box rfl rfl rfl ?_; intro _; refine w ?_))
      (refine VC.join (α := DiskD × CntD) (fun z => z.1.failed = false ∧ z.1.cache.length ≤ lb.length ∧ z.1.ok ∧ z.1.last.length = sec.toNat ∧ ((lb.length : Int) ≤ flush → z.1.cache = []) ∧ (flush < lb.length → Made lb flush lb.length z.1)) (fun z => [BayR a (mk1 ⟨z.1, false, 0⟩ z.2)]) (fun _ => [(0, .int .i64 sec), (1, .slice ao lb.length cap), (2, .int .i64 flush), (3, .slice ko lk.length kcap), (4, .slice mo lm.length mcap), (11, .pointer (some ⟨a, 0, none⟩))]) ?_ ?_)
      · intro Q2 jn
        (refine VC.cond rfl rfl ?_ ?_ <;> intro hc)
        · (refine w ?_; repeat ((first | refine VO.step rfl rfl ?_ | refine VD.end rfl rfl rfl ?_ | refine VD.mid rfl rfl rfl ?_); refine OpV.box rfl rfl rfl ?_; intro _; refine w ?_))
          (((first | refine VO.step rfl rfl ?_ | refine VD.end rfl rfl rfl ?_ | refine VD.mid rfl rfl rfl ?_); refine OpV.call rfl rfl (fun _ _ => by simp) (bayflush_ok a (mk1 ⟨k, false, 0⟩ c) 0) Ent.re rfl ?_); intro _ _)
          rw [mk1_flush]
          (refine w ?_; repeat ((first | refine VO.step rfl rfl ?_ | refine VD.end rfl rfl rfl ?_ | refine VD.mid rfl rfl rfl ?_); refine OpV.box rfl rfl rfl ?_; intro _; refine w ?_))
          refine jn.to (k.fl.2, c.inc 2) ⟨by dsimp only; rw [fl_failed]; exact hkf, fl_cap hkc, fl_ok hko, by dsimp only; rw [fl_len]; exact hkl, fun _ => by dsimp only; rw [fl_alive hkf]; rfl, fun _ => Made.none (by dsimp only; rw [fl_alive hkf]; rfl)⟩ ⟨rfl, rfl, rfl, rfl, rfl, rfl, trivial⟩ Ent.re
        · have h : ¬ (lb.length : Int) ≤ flush := of_decide_eq_false hc
          (refine w ?_; repeat ((first | refine VO.step rfl rfl ?_ | refine VD.end rfl rfl rfl ?_ | refine VD.mid rfl rfl rfl ?_); refine OpV.box rfl rfl rfl ?_; intro _; refine w ?_))
          refine jn.to (k, c) ⟨hkf, hkc, hko, hkl, fun h2 => absurd h2 h, fun _ => hmd⟩ ⟨rfl, rfl, rfl, rfl, rfl, rfl, trivial⟩ Ent.re
      rintro ⟨k2, c2⟩ ⟨h2f, h2c, h2o, h2l, h2e, h2m⟩
      dsimp only at h2f h2c h2o h2l h2e h2m ⊢
      (refine w ?_; repeat ((first | refine VO.step rfl rfl ?_ | refine VD.end rfl rfl rfl ?_ | refine VD.mid rfl rfl rfl ?_); refine OpV.box rfl rfl rfl ?_; intro _; refine w ?_))
      ((first | refine VO.step rfl rfl ?_ | refine VD.end rfl rfl rfl ?_ | refine VD.mid rfl rfl rfl ?_); refine OpV.call rfl rfl (fun _ _ => by simp) (bayimage_ok a (mk1 ⟨k2, false, 0⟩ c2) 0) Ent.re rfl ?_)
      intro y hy
      rw [mk1_image] at hy ⊢
      dsimp only at hy ⊢
      (refine w ?_; repeat ((first | refine VO.step rfl rfl ?_ | refine VD.end rfl rfl rfl ?_ | refine VD.mid rfl rfl rfl ?_); refine OpV.box rfl rfl rfl ?_; intro _; refine w ?_))
      ((first | refine VO.step rfl rfl ?_ | refine VD.end rfl rfl rfl ?_ | refine VD.mid rfl rfl rfl ?_); refine OpV.buildSlice1 st_33 rfl rfl (by first | (simp; done) | simp [Value.oneCell']) (by decide) rfl ?_; intro nb)
      rename_i nb1
      (refine w ?_; repeat ((first | refine VO.step rfl rfl ?_ | refine VD.end rfl rfl rfl ?_ | refine VD.mid rfl rfl rfl ?_); refine OpV.box rfl rfl rfl ?_; intro _; refine w ?_))
      have hk1 : ∀ X : List SProp, Keeps W (Row nb 56 [(KeepD.mk ko kcap lk).hdr] :: X) (some ⟨nb, 0, none⟩) [⟨ko, kcap, lk⟩] := fun X =>
        ⟨Rds.row (fun u hu => by simp only [List.map_cons, List.map_nil, List.mem_cons, List.not_mem_nil, or_false] at hu; subst hu; rfl) (.head _) rfl, fun x hx => by simp only [List.mem_cons, List.not_mem_nil, or_false] at hx; subst hx; exact hk⟩
      refine VO.ent (Reord.ent (L := [BayR a (mk1 ⟨k2, false, 0⟩ c2), Row nb 56 [(KeepD.mk ko kcap lk).hdr], OwnB y k2.img]) (by (repeat first | exact .refl | (apply Reord.cons; focus repeat first | exact .head | apply Del.tail) | exact .nil | apply Reord.drop))) ?_
      ((first | refine VO.step rfl rfl ?_ | refine VD.end rfl rfl rfl ?_ | refine VD.mid rfl rfl rfl ?_); refine OpV.call rfl rfl (fun _ _ => by simp) (baycut_ok (kl := [⟨ko, kcap, lk⟩]) a (mk1 ⟨k2, false, 0⟩ c2) (hk1 _)) Ent.refl rfl ?_)
      intro _ _
      rw [mk1_cut]
      have h3f : (k2.settle (keepOf lk)).failed = false := h2f
      have h3e : (k2.settle (keepOf lk)).cache = [] := rfl
      have h3o : (k2.settle (keepOf lk)).ok := DiskD.settle_okk h2o
      have h3l : (k2.settle (keepOf lk)).last = sets (keepOf lk) k2.last 0 k2.cache := rfl
      rw [show ([⟨ko, kcap, lk⟩] : List KeepD).map KeepD.l = [lk] from rfl, show ([lk] : List (List Bool)).getD 0 [] = lk from rfl]
      generalize k2.settle (keepOf lk) = k3 at *
      (refine w ?_; repeat ((first | refine VO.step rfl rfl ?_ | refine VD.end rfl rfl rfl ?_ | refine VD.mid rfl rfl rfl ?_); refine OpV.box rfl rfl rfl ?_; intro _; refine w ?_))
      ((first | refine VO.step rfl rfl ?_ | refine VD.end rfl rfl rfl ?_ | refine VD.mid rfl rfl rfl ?_); refine OpV.call rfl rfl (fun _ _ => by simp) (bayimage_ok a (mk1 ⟨k3, false, 0⟩ c2) 0) Ent.re rfl ?_)
      intro z hz
      rw [mk1_image] at hz ⊢
      dsimp only at hz ⊢
      (refine w ?_; repeat ((first | refine VO.step rfl rfl ?_ | refine VD.end rfl rfl rfl ?_ | refine VD.mid rfl rfl rfl ?_); refine OpV.box rfl rfl rfl ?_; intro _; refine w ?_))
      clear hk1
      ((first | refine VO.step rfl rfl ?_ | refine VD.end rfl rfl rfl ?_ | refine VD.mid rfl rfl rfl ?_); refine OpV.buildSlice1 st_33 rfl rfl (by first | (simp; done) | simp [Value.oneCell']) (by decide) rfl ?_; intro nb)
      (refine w ?_; repeat ((first | refine VO.step rfl rfl ?_ | refine VD.end rfl rfl rfl ?_ | refine VD.mid rfl rfl rfl ?_); refine OpV.box rfl rfl rfl ?_; intro _; refine w ?_))
      have hk1 : ∀ X : List SProp, Keeps W (Row nb 56 [(KeepD.mk mo mcap lm).hdr, (KeepD.mk ko kcap lk).hdr] :: X) (some ⟨nb, 0, none⟩) [⟨mo, mcap, lm⟩, ⟨ko, kcap, lk⟩] := fun X =>
        ⟨Rds.row (fun u hu => by simp only [List.map_cons, List.map_nil, List.mem_cons, List.not_mem_nil, or_false] at hu; rcases hu with h | h <;> subst h <;> rfl) (.head _) rfl, fun x hx => by simp only [List.mem_cons, List.not_mem_nil, or_false] at hx; rcases hx with h | h <;> subst h; exact hkm; exact hk⟩
      refine VO.ent (Reord.ent (L := [BayR a (mk1 ⟨k3, false, 0⟩ c2), Row nb 56 [(KeepD.mk mo mcap lm).hdr, (KeepD.mk ko kcap lk).hdr], OwnB z k3.img, OwnB y k2.img]) (by (repeat first | exact .refl | (apply Reord.cons; focus repeat first | exact .head | apply Del.tail) | exact .nil | apply Reord.drop))) ?_
      ((first | refine VO.step rfl rfl ?_ | refine VD.end rfl rfl rfl ?_ | refine VD.mid rfl rfl rfl ?_); refine OpV.call rfl rfl (fun _ _ => by simp) (baycut_ok (kl := [⟨mo, mcap, lm⟩, ⟨ko, kcap, lk⟩]) a (mk1 ⟨k3, false, 0⟩ c2) (hk1 _)) Ent.refl rfl ?_)
      intro _ _
      rw [mk1_cut]
      rw [show k3.settle (keepOf (([⟨mo, mcap, lm⟩, ⟨ko, kcap, lk⟩] : List KeepD).map KeepD.l |>.getD 0 [])) = k3 by
        obtain ⟨a1, a2, a3⟩ := k3
        dsimp only at h3e; subst h3e; rfl]
      (refine w ?_; repeat ((first | refine VO.step rfl rfl ?_ | refine VD.end rfl rfl rfl ?_ | refine VD.mid rfl rfl rfl ?_); refine OpV.box rfl rfl rfl ?_; intro _; refine w ?_))
      ((first | refine VO.step rfl rfl ?_ | refine VD.end rfl rfl rfl ?_ | refine VD.mid rfl rfl rfl ?_); refine OpV.call rfl rfl (fun _ _ => by simp) (bayimage_ok a (mk1 ⟨k3, false, 0⟩ c2) 0) Ent.re rfl ?_)
      intro u hu
      rw [mk1_image] at hu ⊢
      dsimp only at hu ⊢
      (refine w ?_; repeat ((first | refine VO.step rfl rfl ?_ | refine VD.end rfl rfl rfl ?_ | refine VD.mid rfl rfl rfl ?_); refine OpV.box rfl rfl rfl ?_; intro _; refine w ?_))
      refine VO.ent (Reord.ent (L := [OwnB u k3.img, OwnB z k3.img, OwnB y k2.img, BayR a (mk1 ⟨k3, false, 0⟩ c2)]) (by (repeat first | exact .refl | (apply Reord.cons; focus repeat first | exact .head | apply Del.tail) | exact .nil | apply Reord.drop))) ?_
      have e2 := img_alive h2f
      have e3 := img_alive h3f
      have l2 := img_len h2o
      have l3 := img_len h3o
      have h3n : k3.last.length = k2.last.length := by rw [h3l, sets_length]
      ((first | refine VO.step rfl rfl ?_ | refine VD.end rfl rfl rfl ?_ | refine VD.mid rfl rfl rfl ?_); refine OpV.call rfl rfl (fun _ _ => by simp) (same_any (a := k3.img) (b := k3.img) (Rds.own (bytes_one _) (.tail _ (.head _)) (by simp) hz) (Rds.own (bytes_one _) (.head _) (by simp) hu) (by rw [e3, l3]; simp only [maxLen]; omega)) Ent.refl rfl ?_; intro _ _)
      (refine w ?_; repeat ((first | refine VO.step rfl rfl ?_ | refine VD.end rfl rfl rfl ?_ | refine VD.mid rfl rfl rfl ?_); refine OpV.box rfl rfl rfl ?_; intro _; refine w ?_))
      (first | refine VO.gF rfl rfl rfl (by simp) ?_ | refine VD.gF rfl rfl rfl (by simp) ?_)
      (refine w ?_; repeat ((first | refine VO.step rfl rfl ?_ | refine VD.end rfl rfl rfl ?_ | refine VD.mid rfl rfl rfl ?_); refine OpV.box rfl rfl rfl ?_; intro _; refine w ?_))
      (first | refine VO.gF rfl rfl rfl (by rw [e2, e3, l2, l3, h3n]; simp) ?_ | refine VD.gF rfl rfl rfl (by rw [e2, e3, l2, l3, h3n]; simp) ?_)
      (refine w ?_; repeat ((first | refine VO.step rfl rfl ?_ | refine VD.end rfl rfl rfl ?_ | refine VD.mid rfl rfl rfl ?_); refine OpV.box rfl rfl rfl ?_; intro _; refine w ?_))
      ((first | refine VO.step rfl rfl ?_ | refine VD.end rfl rfl rfl ?_ | refine VD.mid rfl rfl rfl ?_); refine OpV.call rfl rfl (fun _ _ => by simp) (baypending_ok a (mk1 ⟨k3, false, 0⟩ c2) 0 (fun v hv => by cases hv; show k3.cache.length ≤ _; rw [h3e]; simp)) Ent.re rfl ?_)
      intro q _
      rw [show ((mk1 ⟨k3, false, 0⟩ c2).dev 0).elim ([] : List Nat) (fun v => v.k.cache.map (·.1)) = [] by show k3.cache.map (·.1) = []; rw [h3e]; rfl]
      (refine w ?_; repeat ((first | refine VO.step rfl rfl ?_ | refine VD.end rfl rfl rfl ?_ | refine VD.mid rfl rfl rfl ?_); refine OpV.box rfl rfl rfl ?_; intro _; refine w ?_))
      obtain ⟨m, hm⟩ := Int.eq_ofNat_of_zero_le hsz.1
      have h2n : k2.last.length = m := by rw [h2l, hm]; rfl
      have h3n2 : k3.last.length = m := by rw [h3n, h2n]
      have hy8 : k2.img.length = m * 128 := by rw [e2, l2, h2n]
      have hz8 : k3.img.length = m * 128 := by rw [e3, l3, h3n2]
      have hrz : ∀ X, Rds W (OwnB z k3.img :: OwnB y k2.img :: X) 1 z.1 (m * 128) (bytes k3.img) := fun X => by
        have := Rds.own (W := W) (H := OwnB z k3.img :: OwnB y k2.img :: X) (bytes_one k3.img) (.head _) (by simp) hz
        rw [hz8] at this; exact this
      have hry : ∀ X, Rds W (OwnB z k3.img :: OwnB y k2.img :: X) 1 y.1 (m * 128) (bytes k2.img) := fun X => by
        have := Rds.own (W := W) (H := OwnB z k3.img :: OwnB y k2.img :: X) (bytes_one k2.img) (.tail _ (.head _)) (by simp) hy
        rw [hy8] at this; exact this
      refine VC.know (fun w hw => hw.ownCap (show Own 5 1 (.slice z.1 k3.img.length z.2) k3.img.length (bytes k3.img) ∈ _ by (focus repeat first | exact .head _ | apply List.Mem.tail)) : ∀ w, _ → k3.img.length ≤ z.2) ?_
      intro hzc
      refine VC.know (fun w hw => hw.ownCap (show Own 5 1 (.slice y.1 k2.img.length y.2) k2.img.length (bytes k2.img) ∈ _ by (focus repeat first | exact .head _ | apply List.Mem.tail)) : ∀ w, _ → k2.img.length ≤ y.2) ?_
      intro hyc
      rw [hz8] at hzc
      rw [hy8] at hyc
      refine VC.loop (α := Nat) (fun s => s ≤ m) (fun _ => [OwnB z k3.img, OwnB y k2.img, BayR a (mk1 ⟨k3, false, 0⟩ c2)])
        (fun s => [(0, .int .i64 m), (1, .slice ao lb.length cap), (2, .int .i64 flush), (14, .slice y.1 (m * 128) y.2), (16, .slice z.1 (m * 128) z.2), (20, .int .i64 s)]) (fun s => m - s) rfl 0 (Nat.zero_le _) Ent.re ⟨asV rfl (by rw [hm]), rfl, rfl, asV rfl (by show Value.slice y.1 k2.img.length y.2 = _; rw [hy8]), asV rfl (by show Value.slice z.1 k3.img.length z.2 = _; rw [hz8]), rfl, trivial⟩ ?_
      intro s hs
      (refine w ?_; repeat ((first | refine VO.step rfl rfl ?_ | refine VD.end rfl rfl rfl ?_ | refine VD.mid rfl rfl rfl ?_); refine OpV.box rfl rfl rfl ?_; intro _; refine w ?_))
      (refine VC.cond rfl rfl ?_ ?_ <;> intro hc)
      · have hlt_s : s < m := by have := of_decide_eq_true hc; omega
        (refine w ?_; repeat ((first | refine VO.step rfl rfl ?_ | refine VD.end rfl rfl rfl ?_ | refine VD.mid rfl rfl rfl ?_); refine OpV.box rfl rfl rfl ?_; intro _; refine w ?_))
        refine VO.re 150 (.int .i64 ((s * 128 : Nat) : Int)) rfl (by congr 1; omega) ?_
        refine VO.re 153 (.int .i64 (((s + 1) * 128 : Nat) : Int)) rfl (by congr 1; omega) ?_
        (refine w ?_; repeat ((first | refine VO.step rfl rfl ?_ | refine VD.end rfl rfl rfl ?_ | refine VD.mid rfl rfl rfl ?_); refine OpV.box rfl rfl rfl ?_; intro _; refine w ?_))
        refine VO.re 158 (.int .i64 ((s * 128 : Nat) : Int)) rfl (by congr 1; omega) ?_
        refine VO.re 161 (.int .i64 (((s + 1) * 128 : Nat) : Int)) rfl (by congr 1; omega) ?_
        (refine w ?_; repeat ((first | refine VO.step rfl rfl ?_ | refine VD.end rfl rfl rfl ?_ | refine VD.mid rfl rfl rfl ?_); refine OpV.box rfl rfl rfl ?_; intro _; refine w ?_))
        have w1 : (s + 1) * 128 - s * 128 = 128 := by omega
        have pz : ∀ X, Rds W (OwnB z k3.img :: OwnB y k2.img :: X) 1 (subA z.1 z.2 (s * 128) 1) ((s + 1) * 128 - s * 128) (bytes (k3.last[s]'(by omega))) := fun X => by
          have h := (hrz X).sub (l := s * 128) (h := (s + 1) * 128) (by omega) (by omega) hzc
          rw [Nat.mul_one, Nat.mul_one, w1, e3, sec_part h3o.last s (by omega)] at h
          rw [w1]; rw [e3]; exact h
        have py : ∀ X, Rds W (OwnB z k3.img :: OwnB y k2.img :: X) 1 (subA y.1 y.2 (s * 128) 1) ((s + 1) * 128 - s * 128) (bytes (k2.last[s]'(by omega))) := fun X => by
          have h := (hry X).sub (l := s * 128) (h := (s + 1) * 128) (by omega) (by omega) hyc
          rw [Nat.mul_one, Nat.mul_one, w1, e2, sec_part h2o.last s (by omega)] at h
          rw [w1]; rw [e2]; exact h
        have hcase : k3.last[s]'(by omega) = k2.last[s]'(by omega) ∨ ∃ c ∈ k2.cache, c.1 = s ∧ k3.last[s]'(by omega) = c.2 := by
          have g := sets_get (keepOf lk) s k2.cache k2.last 0 (by omega)
          rw [← h3l, List.getElem?_eq_getElem (by omega), List.getElem?_eq_getElem (by omega)] at g
          rcases g with g | ⟨c, g1, g2, g3⟩
          · exact .inl (Option.some.inj g)
          · exact .inr ⟨c, g1, g2, Option.some.inj g3⟩
        ((first | refine VO.step rfl rfl ?_ | refine VD.end rfl rfl rfl ?_ | refine VD.mid rfl rfl rfl ?_); refine OpV.call rfl rfl (fun _ _ => by simp) (same_any (a := k3.last[s]'(by omega)) (b := k2.last[s]'(by omega)) (pz _) (py _) (by simp only [maxLen]; omega)) Ent.refl rfl ?_; intro _ _)
        generalize k3.last[s]'(by omega) = wx at *
        generalize k2.last[s]'(by omega) = ax at *
        (refine w ?_; repeat ((first | refine VO.step rfl rfl ?_ | refine VD.end rfl rfl rfl ?_ | refine VD.mid rfl rfl rfl ?_); refine OpV.box rfl rfl rfl ?_; intro _; refine w ?_))
        refine VC.loop (α := Nat × Bool) (fun g => g.1 ≤ lb.length ∧ (wx = ax → g.2 = true) ∧ ∀ j, j < g.1 → matchB lb flush s wx j → g.2 = true) (fun _ => [OwnB z k3.img, OwnB y k2.img, BayR a (mk1 ⟨k3, false, 0⟩ c2)])
          (fun g => [(0, .int .i64 m), (1, .slice ao lb.length cap), (2, .int .i64 flush), (14, .slice y.1 (m * 128) y.2), (16, .slice z.1 (m * 128) z.2), (20, .int .i64 s), (21, .slice (subA z.1 z.2 (s * 128) 1) ((s + 1) * 128 - s * 128) (z.2 - s * 128)), (22, .bool g.2), (23, .int .i64 g.1)]) (fun g => lb.length - g.1) rfl (0, decide (wx = ax)) ⟨Nat.zero_le _, fun h => by simp [h], fun j hj => absurd hj (by simp)⟩ Ent.refl ⟨rfl, rfl, rfl, rfl, rfl, rfl, rfl, rfl, rfl, trivial⟩ ?_
        rintro ⟨i, is⟩ ⟨hi, hi1, hi2⟩
        dsimp only at hi hi1 hi2 ⊢
        have hfin : (i = lb.length ∨ (lb.length : Int) ≤ flush) → is = true := by
          intro h
          by_cases hfl : (lb.length : Int) ≤ flush
          · rcases hcase with g | ⟨c, g1, -⟩
            · exact hi1 g
            · rw [h2e hfl] at g1; cases g1
          · obtain rfl : i = lb.length := by rcases h with h | h; exact h; exact absurd h hfl
            rcases hcase with g | ⟨c, g1, g2, g3⟩
            · exact hi1 g
            · obtain ⟨j, hj, j1, j2, j3, j4, j5⟩ := h2m (by omega) (by omega) c g1
              exact hi2 j j1 ⟨hj, j3, j2, by rw [j4, g2], by rw [g3, j5]⟩
        (refine w ?_; repeat ((first | refine VO.step rfl rfl ?_ | refine VD.end rfl rfl rfl ?_ | refine VD.mid rfl rfl rfl ?_); refine OpV.box rfl rfl rfl ?_; intro _; refine w ?_))
        ((first | refine VO.split rfl rfl rfl ?_ ?_ | refine VD.split rfl rfl rfl ?_ ?_) <;> intro hb)
        · have hlt : i < lb.length := by simpa using hb
          (refine w ?_; repeat ((first | refine VO.step rfl rfl ?_ | refine VD.end rfl rfl rfl ?_ | refine VD.mid rfl rfl rfl ?_); refine OpV.box rfl rfl rfl ?_; intro _; refine w ?_))
          (refine VC.cond rfl rfl ?_ ?_ <;> intro hc)
          · have hfl : flush < (lb.length : Int) := of_decide_eq_true hc
            obtain ⟨oa, rfl⟩ : ∃ oa, ao = some oa := by cases ao with | none => have := (hb0 []).rds.nil rfl; omega | some oa => exact ⟨oa, rfl⟩
            have hw := (hb0 []).wf lb[i] (List.getElem_mem hlt)
            have g0 := bop_get lb i 0 hlt (by decide)
            have g2 := bop_get lb i 2 hlt (by decide)
            have g3 := bop_get lb i 3 hlt (by decide)
            have hmiss : ∀ b : Bool, (matchB lb flush s wx i → b = true) → (is = true → b = true) → ∀ j, j < i + 1 → matchB lb flush s wx j → b = true := fun b h1 h2 j hj hm => by
              by_cases hji : j = i
              · subst hji; exact h1 hm
              · exact h2 (hi2 j (by omega) hm)
            (refine w ?_; repeat ((first | refine VO.step rfl rfl ?_ | refine VD.end rfl rfl rfl ?_ | refine VD.mid rfl rfl rfl ?_); refine OpV.box rfl rfl rfl ?_; intro _; refine w ?_))
            cases is with
            | true =>
              (refine w ?_; repeat ((first | refine VO.step rfl rfl ?_ | refine VD.end rfl rfl rfl ?_ | refine VD.mid rfl rfl rfl ?_); refine OpV.box rfl rfl rfl ?_; intro _; refine w ?_))
              refine VE.round (i + 1, true) ⟨hlt, fun _ => rfl, fun _ _ _ => rfl⟩ (by dsimp only; omega) ⟨rfl, rfl, rfl, rfl, rfl, rfl, rfl, rfl, asV rfl (by congr 1), trivial⟩ Ent.re
            | false =>
              (refine w ?_; repeat ((first | refine VO.step rfl rfl ?_ | refine VD.end rfl rfl rfl ?_ | refine VD.mid rfl rfl rfl ?_); refine OpV.box rfl rfl rfl ?_; intro _; refine w ?_))
              (first | refine VO.pure rfl rfl (.ldRc tab_ok rfl rfl (hb0 _).rds (g0.trans rfl)) rfl ?_ | refine VD.take rfl rfl rfl (.ldRc tab_ok rfl rfl (hb0 _).rds (g0.trans rfl)) rfl ?_ | refine VQ.pure rfl rfl (.ldRc tab_ok rfl rfl (hb0 _).rds (g0.trans rfl)) rfl ?_ | refine VD.end rfl rfl rfl (OpV.pure (.ldRc tab_ok rfl rfl (hb0 _).rds (g0.trans rfl)) rfl ?_))
              (refine w ?_; repeat ((first | refine VO.step rfl rfl ?_ | refine VD.end rfl rfl rfl ?_ | refine VD.mid rfl rfl rfl ?_); refine OpV.box rfl rfl rfl ?_; intro _; refine w ?_))
              ((first | refine VO.split rfl rfl rfl ?_ ?_ | refine VD.split rfl rfl rfl ?_ ?_) <;> intro hb)
              · have hk2 : lb[i].kind = 2 := by simpa using hb
                (refine w ?_; repeat ((first | refine VO.step rfl rfl ?_ | refine VD.end rfl rfl rfl ?_ | refine VD.mid rfl rfl rfl ?_); refine OpV.box rfl rfl rfl ?_; intro _; refine w ?_))
                ((first | refine VO.split rfl rfl rfl ?_ ?_ | refine VD.split rfl rfl rfl ?_ ?_) <;> intro hb)
                · have hfi : flush < (i : Int) := of_decide_eq_true hb
                  (refine w ?_; repeat ((first | refine VO.step rfl rfl ?_ | refine VD.end rfl rfl rfl ?_ | refine VD.mid rfl rfl rfl ?_); refine OpV.box rfl rfl rfl ?_; intro _; refine w ?_))
                  (first | refine VO.pure rfl rfl (.ldRc tab_ok rfl rfl (hb0 _).rds (g2.trans rfl)) rfl ?_ | refine VD.take rfl rfl rfl (.ldRc tab_ok rfl rfl (hb0 _).rds (g2.trans rfl)) rfl ?_ | refine VQ.pure rfl rfl (.ldRc tab_ok rfl rfl (hb0 _).rds (g2.trans rfl)) rfl ?_ | refine VD.end rfl rfl rfl (OpV.pure (.ldRc tab_ok rfl rfl (hb0 _).rds (g2.trans rfl)) rfl ?_))
                  (refine w ?_; repeat ((first | refine VO.step rfl rfl ?_ | refine VD.end rfl rfl rfl ?_ | refine VD.mid rfl rfl rfl ?_); refine OpV.box rfl rfl rfl ?_; intro _; refine w ?_))
                  ((first | refine VO.split rfl rfl rfl ?_ ?_ | refine VD.split rfl rfl rfl ?_ ?_) <;> intro hb)
                  · have hns : lb[i].n = (s : Int) := by simpa using hb
                    (refine w ?_; repeat ((first | refine VO.step rfl rfl ?_ | refine VD.end rfl rfl rfl ?_ | refine VD.mid rfl rfl rfl ?_); refine OpV.box rfl rfl rfl ?_; intro _; refine w ?_))
                    (first | refine VO.pure rfl rfl (.ldRc tab_ok rfl rfl (hb0 _).rds (g3.trans rfl)) rfl ?_ | refine VD.take rfl rfl rfl (.ldRc tab_ok rfl rfl (hb0 _).rds (g3.trans rfl)) rfl ?_ | refine VQ.pure rfl rfl (.ldRc tab_ok rfl rfl (hb0 _).rds (g3.trans rfl)) rfl ?_ | refine VD.end rfl rfl rfl (OpV.pure (.ldRc tab_ok rfl rfl (hb0 _).rds (g3.trans rfl)) rfl ?_))
                    (refine w ?_; repeat ((first | refine VO.step rfl rfl ?_ | refine VD.end rfl rfl rfl ?_ | refine VD.mid rfl rfl rfl ?_); refine OpV.box rfl rfl rfl ?_; intro _; refine w ?_))
                    ((first | refine VO.step rfl rfl ?_ | refine VD.end rfl rfl rfl ?_ | refine VD.mid rfl rfl rfl ?_); refine OpV.call rfl rfl (fun _ _ => by simp) (same_any (a := wx) (b := lb[i].b) (pz _) (hw.b _) (by simp only [maxLen]; omega)) Ent.refl rfl ?_; intro _ _)
                    (refine w ?_; repeat ((first | refine VO.step rfl rfl ?_ | refine VD.end rfl rfl rfl ?_ | refine VD.mid rfl rfl rfl ?_); refine OpV.box rfl rfl rfl ?_; intro _; refine w ?_))
                    refine VE.round (i + 1, decide (wx = lb[i].b)) ⟨hlt, fun h => (by have := hi1 h; cases this), hmiss (decide (wx = lb[i].b)) (fun hm => by obtain ⟨_, _, _, _, h⟩ := hm; exact decide_eq_true h) (fun h => by cases h)⟩ (by dsimp only; omega) ⟨rfl, rfl, rfl, rfl, rfl, rfl, rfl, rfl, asV rfl (by congr 1), trivial⟩ Ent.re
                  · have hns : ¬ lb[i].n = (s : Int) := by simpa using hb
                    (refine w ?_; repeat ((first | refine VO.step rfl rfl ?_ | refine VD.end rfl rfl rfl ?_ | refine VD.mid rfl rfl rfl ?_); refine OpV.box rfl rfl rfl ?_; intro _; refine w ?_))
                    refine VE.round (i + 1, false) ⟨hlt, hi1, hmiss _ (fun ⟨_, _, _, h, _⟩ => absurd h hns) (fun h => h)⟩ (by dsimp only; omega) ⟨rfl, rfl, rfl, rfl, rfl, rfl, rfl, rfl, asV rfl (by congr 1), trivial⟩ Ent.re
                · have hfi : ¬ flush < (i : Int) := of_decide_eq_false hb
                  (refine w ?_; repeat ((first | refine VO.step rfl rfl ?_ | refine VD.end rfl rfl rfl ?_ | refine VD.mid rfl rfl rfl ?_); refine OpV.box rfl rfl rfl ?_; intro _; refine w ?_))
                  refine VE.round (i + 1, false) ⟨hlt, hi1, hmiss _ (fun ⟨_, _, h, _, _⟩ => absurd h hfi) (fun h => h)⟩ (by dsimp only; omega) ⟨rfl, rfl, rfl, rfl, rfl, rfl, rfl, rfl, asV rfl (by congr 1), trivial⟩ Ent.re
              · have hk2 : ¬ lb[i].kind = 2 := by simpa using hb
                (refine w ?_; repeat ((first | refine VO.step rfl rfl ?_ | refine VD.end rfl rfl rfl ?_ | refine VD.mid rfl rfl rfl ?_); refine OpV.box rfl rfl rfl ?_; intro _; refine w ?_))
                refine VE.round (i + 1, false) ⟨hlt, hi1, hmiss _ (fun ⟨_, h, _, _, _⟩ => absurd h hk2) (fun h => h)⟩ (by dsimp only; omega) ⟨rfl, rfl, rfl, rfl, rfl, rfl, rfl, rfl, asV rfl (by congr 1), trivial⟩ Ent.re
          · have hfl : ¬ flush < (lb.length : Int) := of_decide_eq_false hc
            obtain rfl := hfin (.inr (by omega))
            (refine w ?_; repeat ((first | refine VO.step rfl rfl ?_ | refine VD.end rfl rfl rfl ?_ | refine VD.mid rfl rfl rfl ?_); refine OpV.box rfl rfl rfl ?_; intro _; refine w ?_))
            refine VE.round (s + 1) hlt_s (by omega) ⟨rfl, rfl, rfl, rfl, rfl, asV rfl (by congr 1), trivial⟩ Ent.re
        · have hge : i = lb.length := by have : ¬ i < lb.length := (by simpa using hb); omega
          obtain rfl := hfin (.inl hge)
          (refine w ?_; repeat ((first | refine VO.step rfl rfl ?_ | refine VD.end rfl rfl rfl ?_ | refine VD.mid rfl rfl rfl ?_); refine OpV.box rfl rfl rfl ?_; intro _; refine w ?_))
          refine VE.round (s + 1) hlt_s (by omega) ⟨rfl, rfl, rfl, rfl, rfl, asV rfl (by congr 1), trivial⟩ Ent.re
      · (refine w ?_; repeat ((first | refine VO.step rfl rfl ?_ | refine VD.end rfl rfl rfl ?_ | refine VD.mid rfl rfl rfl ?_); refine OpV.box rfl rfl rfl ?_; intro _; refine w ?_))
        (refine VE.done1 rfl ?_ ?_)
        · rfl
        · exact Reord.ent .nil
  · obtain rfl : x = none := by cases x with | none => rfl | some b => simp [hE] at hx
    dsimp only [Option.elim_none]
    (refine w ?_; repeat ((first | refine VO.step rfl rfl ?_ | refine VD.end rfl rfl rfl ?_ | refine VD.mid rfl rfl rfl ?_); refine OpV.box rfl rfl rfl ?_; intro _; refine w ?_))
    ((first | refine VO.step rfl rfl ?_ | refine VD.end rfl rfl rfl ?_ | refine VD.mid rfl rfl rfl ?_); refine OpV.call rfl rfl (fun _ _ => by simp) (bknown_ok) Ent.refl rfl ?_; intro _ _)
    (refine w ?_; repeat ((first | refine VO.step rfl rfl ?_ | refine VD.end rfl rfl rfl ?_ | refine VD.mid rfl rfl rfl ?_); refine OpV.box rfl rfl rfl ?_; intro _; refine w ?_))
    (first | refine VO.gT rfl rfl rfl (by simpa using hE) ?_ | refine VD.gT rfl rfl rfl (by simpa using hE) ?_)
    (refine w ?_; repeat ((first | refine VO.step rfl rfl ?_ | refine VD.end rfl rfl rfl ?_ | refine VD.mid rfl rfl rfl ?_); refine OpV.box rfl rfl rfl ?_; intro _; refine w ?_))
    (refine VE.done1 rfl ?_ ?_)
    · simp [hE]
    · exact Reord.ent .nil
end Go.Proofs.Ytbmcgmicnfbckaa
