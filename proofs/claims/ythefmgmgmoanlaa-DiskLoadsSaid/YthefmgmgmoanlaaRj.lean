/- The statements of the disk: DiskLoads. -/
import Derived.Test.YthefmgmgmoanlaaRi
set_option maxRecDepth 8000
set_option linter.unusedVariables false
set_option linter.unusedSimpArgs false
set_option linter.unusedSectionVars false
namespace Go.Proofs.Ythefmgmgmoanlaa
open Go.RowKit Go.Sl
attribute [local irreducible] Own

theorem dmuch_ok {W : World} {R : List SProp} {ao : Option Addr} {cap : Nat} {l : List ActD} (s : Nat) (hsn : s ≤ 100000) (hs : Acts W ao l) (hlen : l.length ≤ 140737488355328) :
    Does W Try.prog 55 [.int .i64 s, .slice ao l.length cap] R (β := Bool) (fun b => b = false → ∀ o ∈ l, o.data.length ≤ 4000000 ∧ o.keep.length ≤ 4000000) (fun b => .bool b) (fun _ => R) := by
  (refine Does.enter Try.func55 Try.ntmps55 rfl rfl ?_)
  (refine w ?_; repeat ((first | refine VO.step rfl rfl ?_ | refine VD.end rfl rfl rfl ?_ | refine VD.mid rfl rfl rfl ?_); refine OpV.box rfl rfl rfl ?_; intro _; refine w ?_))
  refine VC.loop (α := Nat × Nat) (fun g => g.1 ≤ l.length ∧ g.2 ≤ 1000000000000000 ∧ ∀ o ∈ l.take g.1, o.data.length ≤ g.2 ∧ o.keep.length ≤ g.2) (fun _ => R)
    (fun g => [(0, .int .i64 s), (1, .slice ao l.length cap), (5, .int .i64 g.2), (6, .int .i64 g.1)]) (fun g => l.length - g.1) rfl (0, 0) ⟨Nat.zero_le _, Nat.zero_le _, fun o h => by simp at h⟩ Ent.refl ⟨rfl, rfl, rfl, rfl, trivial⟩ ?_
  rintro ⟨i, n⟩ ⟨hi, hn, hall⟩
  dsimp only at hi hn hall ⊢
  (refine w ?_; repeat ((first | refine VO.step rfl rfl ?_ | refine VD.end rfl rfl rfl ?_ | refine VD.mid rfl rfl rfl ?_); refine OpV.box rfl rfl rfl ?_; intro _; refine w ?_))
  ((first | refine VO.split rfl rfl rfl ?_ ?_ | refine VD.split rfl rfl rfl ?_ ?_) <;> intro hb)
  · have hlt : i < l.length := by simpa using hb
    (refine w ?_; repeat ((first | refine VO.step rfl rfl ?_ | refine VD.end rfl rfl rfl ?_ | refine VD.mid rfl rfl rfl ?_); refine OpV.box rfl rfl rfl ?_; intro _; refine w ?_))
    (refine VC.cond rfl rfl ?_ ?_ <;> intro hc)
    · have hle : n ≤ 4000000 := by simp at hc; omega
      obtain ⟨a, rfl⟩ : ∃ a, ao = some a := by cases ao with | none => have := (hs.rds []).nil rfl; omega | some a => exact ⟨a, rfl⟩
      have hw := hs.wf l[i] (List.getElem_mem hlt)
      have hdl := hw.dl
      have hkl := hw.kl
      (refine w ?_; repeat ((first | refine VO.step rfl rfl ?_ | refine VD.end rfl rfl rfl ?_ | refine VD.mid rfl rfl rfl ?_); refine OpV.box rfl rfl rfl ?_; intro _; refine w ?_))
      ((refine VC.quiet rfl (by kernel_rfl) (by kernel_rfl) ?_); (refine w ?_; repeat ((first | refine VO.step rfl rfl ?_ | refine VD.end rfl rfl rfl ?_ | refine VD.mid rfl rfl rfl ?_); refine OpV.box rfl rfl rfl ?_; intro _; refine w ?_)))
      (first | refine VO.pure rfl rfl (.ldRc tab_ok rfl rfl (hs.rds _) ((actCells_get l i 2 hlt (by decide)).trans rfl)) rfl ?_ | refine VD.take rfl rfl rfl (.ldRc tab_ok rfl rfl (hs.rds _) ((actCells_get l i 2 hlt (by decide)).trans rfl)) rfl ?_ | refine VQ.pure rfl rfl (.ldRc tab_ok rfl rfl (hs.rds _) ((actCells_get l i 2 hlt (by decide)).trans rfl)) rfl ?_ | refine VD.end rfl rfl rfl (OpV.pure (.ldRc tab_ok rfl rfl (hs.rds _) ((actCells_get l i 2 hlt (by decide)).trans rfl)) rfl ?_))
      (refine w ?_; repeat ((first | refine VO.step rfl rfl ?_ | refine VD.end rfl rfl rfl ?_ | refine VD.mid rfl rfl rfl ?_); refine OpV.box rfl rfl rfl ?_; intro _; refine w ?_))
      (first | refine VO.pure rfl rfl (.ldRc tab_ok rfl rfl (hs.rds _) ((actCells_get l i 3 hlt (by decide)).trans rfl)) rfl ?_ | refine VD.take rfl rfl rfl (.ldRc tab_ok rfl rfl (hs.rds _) ((actCells_get l i 3 hlt (by decide)).trans rfl)) rfl ?_ | refine VQ.pure rfl rfl (.ldRc tab_ok rfl rfl (hs.rds _) ((actCells_get l i 3 hlt (by decide)).trans rfl)) rfl ?_ | refine VD.end rfl rfl rfl (OpV.pure (.ldRc tab_ok rfl rfl (hs.rds _) ((actCells_get l i 3 hlt (by decide)).trans rfl)) rfl ?_))
      (refine w ?_; repeat ((first | refine VO.step rfl rfl ?_ | refine VD.end rfl rfl rfl ?_ | refine VD.mid rfl rfl rfl ?_); refine OpV.box rfl rfl rfl ?_; intro _; refine w ?_))
      (first | refine VO.pure rfl rfl (.ldRc tab_ok rfl rfl (hs.rds _) ((actCells_get l i 0 hlt (by decide)).trans rfl)) rfl ?_ | refine VD.take rfl rfl rfl (.ldRc tab_ok rfl rfl (hs.rds _) ((actCells_get l i 0 hlt (by decide)).trans rfl)) rfl ?_ | refine VQ.pure rfl rfl (.ldRc tab_ok rfl rfl (hs.rds _) ((actCells_get l i 0 hlt (by decide)).trans rfl)) rfl ?_ | refine VD.end rfl rfl rfl (OpV.pure (.ldRc tab_ok rfl rfl (hs.rds _) ((actCells_get l i 0 hlt (by decide)).trans rfl)) rfl ?_))
      (first | refine VO.pure rfl rfl (PureAt.rem (b := 9) rfl rfl (by decide)) rfl ?_ | refine VD.take rfl rfl rfl (PureAt.rem (b := 9) rfl rfl (by decide)) rfl ?_ | refine VQ.pure rfl rfl (PureAt.rem (b := 9) rfl rfl (by decide)) rfl ?_ | refine VD.end rfl rfl rfl (OpV.pure (PureAt.rem (b := 9) rfl rfl (by decide)) rfl ?_))
      (refine w ?_; repeat ((first | refine VO.step rfl rfl ?_ | refine VD.end rfl rfl rfl ?_ | refine VD.mid rfl rfl rfl ?_); refine OpV.box rfl rfl rfl ?_; intro _; refine w ?_))
      have hnew : ∀ n', n + l[i].data.length + l[i].keep.length ≤ n' → ∀ o ∈ l.take (i + 1), o.data.length ≤ n' ∧ o.keep.length ≤ n' := by
        intro n' h o ho
        rw [List.take_succ_eq_append_getElem hlt] at ho
        rcases List.mem_append.1 ho with q | q
        · have := hall o q; omega
        · rw [List.mem_singleton] at q; subst q; omega
      (refine VC.cond rfl rfl ?_ ?_ <;> intro hc)
      · (refine w ?_; repeat ((first | refine VO.step rfl rfl ?_ | refine VD.end rfl rfl rfl ?_ | refine VD.mid rfl rfl rfl ?_); refine OpV.box rfl rfl rfl ?_; intro _; refine w ?_))
        refine VE.round (i + 1, n + (l[i].data.length + l[i].keep.length + 1) + s * 128) ⟨hlt, by dsimp only; omega, hnew _ (by omega)⟩ (by dsimp only; omega) ⟨rfl, rfl, asV rfl (by congr 1), rfl, trivial⟩ Ent.refl
      · (refine w ?_; repeat ((first | refine VO.step rfl rfl ?_ | refine VD.end rfl rfl rfl ?_ | refine VD.mid rfl rfl rfl ?_); refine OpV.box rfl rfl rfl ?_; intro _; refine w ?_))
        refine VE.round (i + 1, n + (l[i].data.length + l[i].keep.length + 1)) ⟨hlt, by dsimp only; omega, hnew _ (by omega)⟩ (by dsimp only; omega) ⟨rfl, rfl, asV rfl (by congr 1), rfl, trivial⟩ Ent.refl
    · have hgt : ¬ n ≤ 4000000 := by simp at hc; omega
      (refine w ?_; repeat ((first | refine VO.step rfl rfl ?_ | refine VD.end rfl rfl rfl ?_ | refine VD.mid rfl rfl rfl ?_); refine OpV.box rfl rfl rfl ?_; intro _; refine w ?_))
      refine VE.done true rfl (fun h => by cases h) (by congr 1; simp; omega) Ent.refl
  · have hge : i = l.length := by have : ¬ i < l.length := by simpa using hb
                                  omega
    subst hge
    rw [List.take_of_length_le (Nat.le_refl _)] at hall
    (refine w ?_; repeat ((first | refine VO.step rfl rfl ?_ | refine VD.end rfl rfl rfl ?_ | refine VD.mid rfl rfl rfl ?_); refine OpV.box rfl rfl rfl ?_; intro _; refine w ?_))
    refine VE.done (decide (4000000 < n)) rfl (fun h => ?_) (by congr 1; simp; omega) Ent.refl
    have h : n ≤ 4000000 := by simpa using h
    intro o ho; have := hall o ho; omega

set_option maxHeartbeats 4000000 in
theorem dloads_ok {W : World} {ao bo : Option Addr} {ca cb : Nat} {l : List UInt8} {la : List ActD} (hl : RdsA W 1 ao l.length (bytes l)) (hs : Acts W bo la) (hlen : la.length ≤ 140737488355328) :
    Does1 W Try.prog 11 [.slice ao l.length ca, .slice bo la.length cb] [] (.bool true) [] := by
  (refine Does.enter Try.func11 Try.ntmps11 rfl rfl ?_)
  (refine w ?_; repeat ((first | refine VO.step rfl rfl ?_ | refine VD.end rfl rfl rfl ?_ | refine VD.mid rfl rfl rfl ?_); refine OpV.box rfl rfl rfl ?_; intro _; refine w ?_))
  (refine VC.cond rfl rfl ?_ ?_ <;> intro hc)
  · (refine w ?_; repeat ((first | refine VO.step rfl rfl ?_ | refine VD.end rfl rfl rfl ?_ | refine VD.mid rfl rfl rfl ?_); refine OpV.box rfl rfl rfl ?_; intro _; refine w ?_))
    (refine VE.done1 rfl ?_ ?_)
    · rfl
    · exact Ent.refl
  have hlb : l.length ≤ 4000000 := by simp at hc; omega
  (refine w ?_; repeat ((first | refine VO.step rfl rfl ?_ | refine VD.end rfl rfl rfl ?_ | refine VD.mid rfl rfl rfl ?_); refine OpV.box rfl rfl rfl ?_; intro _; refine w ?_))
  ((first | refine VO.step rfl rfl ?_ | refine VD.end rfl rfl rfl ?_ | refine VD.mid rfl rfl rfl ?_); refine OpV.call rfl rfl (fun _ _ => by simp) (lent_ok (l := l) hl (by omega)) Ent.re rfl ?_)
  rintro ⟨xa, xc⟩ _
  (refine w ?_; repeat ((first | refine VO.step rfl rfl ?_ | refine VD.end rfl rfl rfl ?_ | refine VD.mid rfl rfl rfl ?_); refine OpV.box rfl rfl rfl ?_; intro _; refine w ?_))
  by_cases good : l.length % 128 = 0 ∧ 1 ≤ l.length / 128 ∧ l.length / 128 ≤ 8192
  · obtain ⟨g1, g2, g3⟩ := good
    have hm : l.length = l.length / 128 * 128 := by omega
    refine VO.know (fun w hw => Holds.ownCap hw (show LentO xa xc l ∈ _ by (focus repeat first | exact .head _ | apply List.Mem.tail)) : ∀ w, _ → l.length + 2 ≤ xc) ?_
    intro hxc
    have hr : Rds W [LentO xa xc l] 1 (some xa) (l.length / 128 * 128) (bytes l) := by rw [← hm]; exact LentO.rds
    refine VO.re 21 (.slice (some xa) (l.length / 128 * 128) xc) rfl (by rw [← hm]) ?_
    ((first | refine VO.step rfl rfl ?_ | refine VD.end rfl rfl rfl ?_ | refine VD.mid rfl rfl rfl ?_); refine OpV.call rfl rfl (fun _ _ => by simp) (load_ok hr g2 g3 (by omega)) Ent.refl rfl ?_)
    intro d _
    (refine w ?_; repeat ((first | refine VO.step rfl rfl ?_ | refine VD.end rfl rfl rfl ?_ | refine VD.mid rfl rfl rfl ?_); refine OpV.box rfl rfl rfl ?_; intro _; refine w ?_))
    have hr2 : RdsA W 1 ao (l.length / 128 * 128) (bytes l) := by rw [← hm]; exact hl
    refine VO.re 26 (.slice ao (l.length / 128 * 128) ca) rfl (by rw [← hm]) ?_
    ((first | refine VO.step rfl rfl ?_ | refine VD.end rfl rfl rfl ?_ | refine VD.mid rfl rfl rfl ?_); refine OpV.call rfl rfl (fun _ _ => by simp) (docload_ok hr2 g2 g3) Ent.re rfl ?_)
    intro r _
    (refine w ?_; repeat ((first | refine VO.step rfl rfl ?_ | refine VD.end rfl rfl rfl ?_ | refine VD.mid rfl rfl rfl ?_); refine OpV.box rfl rfl rfl ?_; intro _; refine w ?_))
    (((first | refine VO.step rfl rfl ?_ | refine VD.end rfl rfl rfl ?_ | refine VD.mid rfl rfl rfl ?_); refine OpV.call rfl rfl (fun _ _ => by simp) (whole_ok (a := xa) (cap := xc) (l := l) hl (by omega)) Ent.re rfl ?_); intro _ _)
    (refine w ?_; repeat ((first | refine VO.step rfl rfl ?_ | refine VD.end rfl rfl rfl ?_ | refine VD.mid rfl rfl rfl ?_); refine OpV.box rfl rfl rfl ?_; intro _; refine w ?_))
    (((first | refine VO.step rfl rfl ?_ | refine VD.end rfl rfl rfl ?_ | refine VD.mid rfl rfl rfl ?_); refine OpV.call rfl rfl (fun _ _ => by simp) (spoil_ok (n := l.length) (show l.length ≤ xc by omega)) Ent.re rfl ?_); intro _ _)
    (refine w ?_; repeat ((first | refine VO.step rfl rfl ?_ | refine VD.end rfl rfl rfl ?_ | refine VD.mid rfl rfl rfl ?_); refine OpV.box rfl rfl rfl ?_; intro _; refine w ?_))
    ((first | refine VO.step rfl rfl ?_ | refine VD.end rfl rfl rfl ?_ | refine VD.mid rfl rfl rfl ?_); refine OpV.call rfl rfl (fun _ _ => by simp) (dknown_ok) Ent.refl rfl ?_; intro _ _)
    (refine w ?_; repeat ((first | refine VO.step rfl rfl ?_ | refine VD.end rfl rfl rfl ?_ | refine VD.mid rfl rfl rfl ?_); refine OpV.box rfl rfl rfl ?_; intro _; refine w ?_))
    ((first | refine VO.split rfl rfl rfl ?_ ?_ | refine VD.split rfl rfl rfl ?_ ?_) <;> intro hb)
    · (refine w ?_; repeat ((first | refine VO.step rfl rfl ?_ | refine VD.end rfl rfl rfl ?_ | refine VD.mid rfl rfl rfl ?_); refine OpV.box rfl rfl rfl ?_; intro _; refine w ?_))
      (refine VE.done1 rfl ?_ ?_)
      · rfl
      · exact Reord.ent .nil
    have hla : la.length ≤ 40 := by have := of_decide_eq_false hb; omega
    (refine w ?_; repeat ((first | refine VO.step rfl rfl ?_ | refine VD.end rfl rfl rfl ?_ | refine VD.mid rfl rfl rfl ?_); refine OpV.box rfl rfl rfl ?_; intro _; refine w ?_))
    (first | refine VO.pure rfl rfl (PureAt.quo (a := l.length) (b := 128) rfl rfl (by decide) (IntWalk.i64_in _ ⟨by omega, by omega⟩)) rfl ?_ | refine VD.take rfl rfl rfl (PureAt.quo (a := l.length) (b := 128) rfl rfl (by decide) (IntWalk.i64_in _ ⟨by omega, by omega⟩)) rfl ?_ | refine VQ.pure rfl rfl (PureAt.quo (a := l.length) (b := 128) rfl rfl (by decide) (IntWalk.i64_in _ ⟨by omega, by omega⟩)) rfl ?_ | refine VD.end rfl rfl rfl (OpV.pure (PureAt.quo (a := l.length) (b := 128) rfl rfl (by decide) (IntWalk.i64_in _ ⟨by omega, by omega⟩)) rfl ?_))
    (refine w ?_; repeat ((first | refine VO.step rfl rfl ?_ | refine VD.end rfl rfl rfl ?_ | refine VD.mid rfl rfl rfl ?_); refine OpV.box rfl rfl rfl ?_; intro _; refine w ?_))
    ((first | refine VO.step rfl rfl ?_ | refine VD.end rfl rfl rfl ?_ | refine VD.mid rfl rfl rfl ?_); refine OpV.call rfl rfl (fun _ _ => by simp) (dmuch_ok (l.length / 128) (by omega) hs hlen) Ent.re rfl ?_)
    intro mb hmb
    (refine w ?_; repeat ((first | refine VO.step rfl rfl ?_ | refine VD.end rfl rfl rfl ?_ | refine VD.mid rfl rfl rfl ?_); refine OpV.box rfl rfl rfl ?_; intro _; refine w ?_))
    (refine VC.cond rfl rfl ?_ ?_ <;> intro hc)
    · (refine w ?_; repeat ((first | refine VO.step rfl rfl ?_ | refine VD.end rfl rfl rfl ?_ | refine VD.mid rfl rfl rfl ?_); refine OpV.box rfl rfl rfl ?_; intro _; refine w ?_))
      (refine VE.done1 rfl ?_ ?_)
      · rfl
      · exact Reord.ent .nil
    have hall := hmb hc
    (refine w ?_; repeat ((first | refine VO.step rfl rfl ?_ | refine VD.end rfl rfl rfl ?_ | refine VD.mid rfl rfl rfl ?_); refine OpV.box rfl rfl rfl ?_; intro _; refine w ?_))
    generalize hk : DiskD.mk (chunks l (l.length / 128)) [] false = k
    have hki : k.img = l := by subst hk; exact chunks_flatten _ l hm
    have hkl : k.cache.length = 0 := by subst hk; rfl
    refine VO.ent (Reord.ent (L := [DiskR d k, DocR r k]) (by (repeat first | exact .refl | (apply Reord.cons; focus repeat first | exact .head | apply Del.tail) | exact .nil | apply Reord.drop))) ?_
    ((first | refine VO.step rfl rfl ?_ | refine VD.end rfl rfl rfl ?_ | refine VD.mid rfl rfl rfl ?_); refine OpV.call rfl rfl (fun _ _ => by simp) (dimg_ok d k) Ent.re rfl ?_)
    intro x hx
    rw [hki] at hx ⊢
    (refine w ?_; repeat ((first | refine VO.step rfl rfl ?_ | refine VD.end rfl rfl rfl ?_ | refine VD.mid rfl rfl rfl ?_); refine OpV.box rfl rfl rfl ?_; intro _; refine w ?_))
    ((first | refine VO.step rfl rfl ?_ | refine VD.end rfl rfl rfl ?_ | refine VD.mid rfl rfl rfl ?_); refine OpV.call rfl rfl (fun _ _ => by simp) (same_any (a := l) (b := l) (Rds.own (bytes_one _) (.head _) (by rw [bytes_length, Nat.mul_one]) hx) (hl _) (by simp only [maxLen]; omega)) Ent.refl rfl ?_; intro _ _)
    (refine w ?_; repeat ((first | refine VO.step rfl rfl ?_ | refine VD.end rfl rfl rfl ?_ | refine VD.mid rfl rfl rfl ?_); refine OpV.box rfl rfl rfl ?_; intro _; refine w ?_))
    (refine VC.condFe rfl rfl (by simp) ?_)
    (refine w ?_; repeat ((first | refine VO.step rfl rfl ?_ | refine VD.end rfl rfl rfl ?_ | refine VD.mid rfl rfl rfl ?_); refine OpV.box rfl rfl rfl ?_; intro _; refine w ?_))
    (apply VO.pure rfl rfl; apply PureAt.build sb_82 rfl; (simp [buildX, setL, Value.cells]; rfl); rfl)
    (refine w ?_; repeat ((first | refine VO.step rfl rfl ?_ | refine VD.end rfl rfl rfl ?_ | refine VD.mid rfl rfl rfl ?_); refine OpV.box rfl rfl rfl ?_; intro _; refine w ?_))
    rename_i bb
    (apply VO.pure rfl rfl; apply PureAt.build sb_104 rfl; (simp [buildX, setL, Value.cells]; rfl); rfl)
    (refine w ?_; repeat ((first | refine VO.step rfl rfl ?_ | refine VD.end rfl rfl rfl ?_ | refine VD.mid rfl rfl rfl ?_); refine OpV.box rfl rfl rfl ?_; intro _; refine w ?_))
    rename_i pp
    refine VO.ent (Reord.ent (L := [Row bb 82 (List.replicate 12 (.slice none 0 0)), Row pp 104 [.pointer (some ⟨d, 0, none⟩), .pointer (some ⟨r, 0, none⟩), .pointer (some ⟨bb, 0, none⟩)], OwnB x l, DiskR d k, DocR r k]) (by (repeat first | exact .refl | (apply Reord.cons; focus repeat first | exact .head | apply Del.tail) | exact .nil | apply Reord.drop))) ?_
    refine VO.ent Book2.fresh ?_
    (refine w ?_; repeat ((first | refine VO.step rfl rfl ?_ | refine VD.end rfl rfl rfl ?_ | refine VD.mid rfl rfl rfl ?_); refine OpV.box rfl rfl rfl ?_; intro _; refine w ?_))
    rw [resE_eq x]
    refine VO.re 88 (.slice x.1 (bytes l).length x.2) rfl (by rw [bytes_length]) ?_
    (((first | refine VO.step rfl rfl ?_ | refine VD.end rfl rfl rfl ?_ | refine VD.mid rfl rfl rfl ?_); refine OpV.call rfl rfl (fun _ _ => by simp) (book2bytes_ok bb [] [] ⟨x.1, x.2, bytes l⟩ (Nat.zero_le _)) Ent.re rfl ?_); intro _ _)
    (refine w ?_; repeat ((first | refine VO.step rfl rfl ?_ | refine VD.end rfl rfl rfl ?_ | refine VD.mid rfl rfl rfl ?_); refine OpV.box rfl rfl rfl ?_; intro _; refine w ?_))
    refine VC.loop (α := Nat × DiskD × List ListE × List ListI) (fun g => g.1 ≤ la.length ∧ Inv (g.1 + 1) g.2.1 g.2.2.1 g.2.2.2) (fun g => PairO pp d r bb g.2.1 g.2.2.1 g.2.2.2 [])
      (fun g => [(1, .slice bo la.length cb), (12, .pointer (some ⟨pp, 0, none⟩)), (13, .int .i64 g.1)]) (fun g => la.length - g.1) rfl (0, k, [⟨x.1, x.2, bytes l⟩], []) ⟨Nat.zero_le _, by dsimp only; omega, by simp, by simp, (fun e he => by simp only [List.mem_singleton] at he; subst he; simp only [bytes_length]; omega), fun e he => by cases he⟩ Ent.re ⟨rfl, rfl, rfl, trivial⟩ ?_
    rintro ⟨i, k', E, F⟩ ⟨hi, hinv⟩
    dsimp only at hi hinv ⊢
    (refine w ?_; repeat ((first | refine VO.step rfl rfl ?_ | refine VD.end rfl rfl rfl ?_ | refine VD.mid rfl rfl rfl ?_); refine OpV.box rfl rfl rfl ?_; intro _; refine w ?_))
    (refine VC.cond rfl rfl ?_ ?_ <;> intro hc)
    · have hlt : i < la.length := by have := of_decide_eq_true hc; omega
      obtain ⟨a, rfl⟩ : ∃ a, bo = some a := by cases bo with | none => have := (hs.rds []).nil rfl; omega | some a => exact ⟨a, rfl⟩
      have hw := hs.wf la[i] (List.getElem_mem hlt)
      have ha := hall la[i] (List.getElem_mem hlt)
      (refine w ?_; repeat ((first | refine VO.step rfl rfl ?_ | refine VD.end rfl rfl rfl ?_ | refine VD.mid rfl rfl rfl ?_); refine OpV.box rfl rfl rfl ?_; intro _; refine w ?_))
      (first | refine VO.pure rfl rfl (.ldRA tab_ok rfl rfl (hs.rds _) (flat_part la i hlt (fun _ _ => rfl)) rfl) rfl ?_ | refine VD.take rfl rfl rfl (.ldRA tab_ok rfl rfl (hs.rds _) (flat_part la i hlt (fun _ _ => rfl)) rfl) rfl ?_ | refine VQ.pure rfl rfl (.ldRA tab_ok rfl rfl (hs.rds _) (flat_part la i hlt (fun _ _ => rfl)) rfl) rfl ?_ | refine VD.end rfl rfl rfl (OpV.pure (.ldRA tab_ok rfl rfl (hs.rds _) (flat_part la i hlt (fun _ _ => rfl)) rfl) rfl ?_))
      ((first | refine VO.step rfl rfl ?_ | refine VD.end rfl rfl rfl ?_ | refine VD.mid rfl rfl rfl ?_); refine OpV.call rfl rfl (fun _ _ => by simp) (does_ok (R := []) pp d r bb k' E F hw ha.1 ha.2 (by omega) hinv) Ent.refl rfl ?_)
      rintro ⟨k2, E2, F2⟩ ⟨-, hinv2⟩
      (refine w ?_; repeat ((first | refine VO.step rfl rfl ?_ | refine VD.end rfl rfl rfl ?_ | refine VD.mid rfl rfl rfl ?_); refine OpV.box rfl rfl rfl ?_; intro _; refine w ?_))
      refine VE.round (i + 1, k2, E2, F2) ⟨hlt, hinv2⟩ (by dsimp only; omega) ⟨rfl, rfl, asV rfl (by congr 1), trivial⟩ Ent.refl
    · obtain ⟨j1, j2, j3, j4, j5⟩ := hinv
      (refine w ?_; repeat ((first | refine VO.step rfl rfl ?_ | refine VD.end rfl rfl rfl ?_ | refine VD.mid rfl rfl rfl ?_); refine OpV.box rfl rfl rfl ?_; intro _; refine w ?_))
      refine VO.ent (Reord.ent (L := [Book2 bb E F]) (by (repeat first | exact .refl | (apply Reord.cons; focus repeat first | exact .head | apply Del.tail) | exact .nil | apply Reord.drop))) ?_
      ((first | refine VO.step rfl rfl ?_ | refine VD.end rfl rfl rfl ?_ | refine VD.mid rfl rfl rfl ?_); refine OpV.call rfl rfl (fun _ _ => by simp) (book2own_ok (R := []) bb E F (by omega) j4 (by omega) j5) Ent.refl rfl ?_)
      intro _ _
      (refine w ?_; repeat ((first | refine VO.step rfl rfl ?_ | refine VD.end rfl rfl rfl ?_ | refine VD.mid rfl rfl rfl ?_); refine OpV.box rfl rfl rfl ?_; intro _; refine w ?_))
      (refine VE.done1 rfl ?_ ?_)
      · rfl
      · exact Ent.refl
  · have hbad : l.length = 0 ∨ l.length % 128 ≠ 0 ∨ 1048576 < l.length := by omega
    have lb : ∀ {X : List SProp}, Does1 W Try.prog 53 [.slice (some xa) l.length xc] X (.tuple #[.pointer none, .int .u16 40]) X := by
      intro X
      by_cases h : l.length % 128 = 0
      · exact load_big h (by omega) (by omega)
      · exact load_odd h
    ((first | refine VO.step rfl rfl ?_ | refine VD.end rfl rfl rfl ?_ | refine VD.mid rfl rfl rfl ?_); refine OpV.call rfl rfl (fun _ _ => by simp) (lb) Ent.refl rfl ?_; intro _ _)
    (refine w ?_; repeat ((first | refine VO.step rfl rfl ?_ | refine VD.end rfl rfl rfl ?_ | refine VD.mid rfl rfl rfl ?_); refine OpV.box rfl rfl rfl ?_; intro _; refine w ?_))
    ((first | refine VO.step rfl rfl ?_ | refine VD.end rfl rfl rfl ?_ | refine VD.mid rfl rfl rfl ?_); refine OpV.call rfl rfl (fun _ _ => by simp) (docload_bad hbad) Ent.refl rfl ?_; intro _ _)
    (refine w ?_; repeat ((first | refine VO.step rfl rfl ?_ | refine VD.end rfl rfl rfl ?_ | refine VD.mid rfl rfl rfl ?_); refine OpV.box rfl rfl rfl ?_; intro _; refine w ?_))
    (((first | refine VO.step rfl rfl ?_ | refine VD.end rfl rfl rfl ?_ | refine VD.mid rfl rfl rfl ?_); refine OpV.call rfl rfl (fun _ _ => by simp) (whole_ok (a := xa) (cap := xc) (l := l) hl (by omega)) Ent.re rfl ?_); intro _ _)
    (refine w ?_; repeat ((first | refine VO.step rfl rfl ?_ | refine VD.end rfl rfl rfl ?_ | refine VD.mid rfl rfl rfl ?_); refine OpV.box rfl rfl rfl ?_; intro _; refine w ?_))
    refine VO.know (fun w hw => Holds.ownCap hw (show LentO xa xc l ∈ _ by (focus repeat first | exact .head _ | apply List.Mem.tail)) : ∀ w, _ → l.length + 2 ≤ xc) ?_
    intro hxc
    (((first | refine VO.step rfl rfl ?_ | refine VD.end rfl rfl rfl ?_ | refine VD.mid rfl rfl rfl ?_); refine OpV.call rfl rfl (fun _ _ => by simp) (spoil_ok (n := l.length) (show l.length ≤ xc by omega)) Ent.re rfl ?_); intro _ _)
    (refine w ?_; repeat ((first | refine VO.step rfl rfl ?_ | refine VD.end rfl rfl rfl ?_ | refine VD.mid rfl rfl rfl ?_); refine OpV.box rfl rfl rfl ?_; intro _; refine w ?_))
    ((first | refine VO.step rfl rfl ?_ | refine VD.end rfl rfl rfl ?_ | refine VD.mid rfl rfl rfl ?_); refine OpV.call rfl rfl (fun _ _ => by simp) (dknown_ok) Ent.refl rfl ?_; intro _ _)
    (refine w ?_; repeat ((first | refine VO.step rfl rfl ?_ | refine VD.end rfl rfl rfl ?_ | refine VD.mid rfl rfl rfl ?_); refine OpV.box rfl rfl rfl ?_; intro _; refine w ?_))
    (refine VE.done1 rfl ?_ ?_)
    · rfl
    · exact Ent.refl
end Go.Proofs.Ythefmgmgmoanlaa
