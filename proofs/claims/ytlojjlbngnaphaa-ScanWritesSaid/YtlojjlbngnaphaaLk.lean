/- What is lent: LentBytes, WholeBytes, SpoilBytes; calls on packers with bytes of one's own. -/
import Derived.Test.YtlojjlbngnaphaaLq
import Derived.Test.YtlojjlbngnaphaaBk
set_option maxRecDepth 8000
set_option linter.unusedVariables false
set_option linter.unusedSimpArgs false
set_option linter.unusedSectionVars false
namespace Go.Proofs.Ytlojjlbngnaphaa
open Go.RowKit Go.Sl
attribute [local irreducible] Own

theorem raw2_ok {W : World} {R : List SProp} {ao : Option Addr} {cap n : Nat} {l : List UInt8} (p : Nat) (k : Pk) (hb : Rds W R 1 ao n (bytes l)) :
    Does1 W Try.prog 88 [.pointer (some ⟨p, 0, none⟩), .slice ao n cap] (PackerR p k :: R) (.tuple #[]) (PackerR p (k.raw l) :: R) := by
  have hl : l.length = n := by have := hb.len; simpa using this
  subst hl
  (refine Does.enter Try.func88 Try.ntmps88 rfl rfl ?_)
  refine VC.know (fun w => PackerR.know) ?_
  intro ⟨h1, h2, h3⟩
  (refine w ?_; repeat ((first | refine VO.step rfl rfl ?_ | refine VD.end rfl rfl rfl ?_ | refine VD.mid rfl rfl rfl ?_); refine OpV.box rfl rfl rfl ?_; intro _; refine w ?_))
  (((first | refine VO.step rfl rfl ?_ | refine VD.end rfl rfl rfl ?_ | refine VD.mid rfl rfl rfl ?_); refine OpV.call rfl rfl (fun _ _ => by simp) (room_ok p k l.length) Ent.re rfl ?_); intro _ _)
  (refine w ?_; repeat ((first | refine VO.step rfl rfl ?_ | refine VD.end rfl rfl rfl ?_ | refine VD.mid rfl rfl rfl ?_); refine OpV.box rfl rfl rfl ?_; intro _; refine w ?_))
  (refine VC.cond rfl rfl ?_ ?_ <;> intro hc)
  · have hr : (k.room l.length).bad = 0 := by simpa using hc
    obtain ⟨e1, e2, e3⟩ := Pk.room_zero hr
    rw [e1]
    refine VC.obtain (fun w => PackerR.open) ?_
    rintro ⟨⟨ao, cap⟩, -⟩
    (refine w ?_; repeat ((first | refine VO.step rfl rfl ?_ | refine VD.end rfl rfl rfl ?_ | refine VD.mid rfl rfl rfl ?_); refine OpV.box rfl rfl rfl ?_; intro _; refine w ?_))
    (first | refine VO.step rfl rfl ?_ | refine VD.end rfl rfl rfl ?_ | refine VD.mid rfl rfl rfl ?_)
    refine OpV.append st_55 rfl rfl (by (repeat first | exact .head | apply Hole.tail)) (fun w hw => ((hb.ent (Ent.drop (Ent.drop Ent.refl))).sees hw).src st_55.und) (by simp only [maxLen]; omega) (by omega) rfl ?_
    intro ao' cap'
    (refine w ?_; repeat ((first | refine VO.step rfl rfl ?_ | refine VD.end rfl rfl rfl ?_ | refine VD.mid rfl rfl rfl ?_); refine OpV.box rfl rfl rfl ?_; intro _; refine w ?_))
    (refine VE.done1N rfl rfl ?_)
    rw [show k.raw l = { k with had := k.had ++ l } by unfold Pk.raw; rw [if_pos hr]]
    exact PackerR.shut' (k := { k with had := k.had ++ l }) ⟨by simp; omega, h2, h3⟩ (by simp) (by simp [bytes])
  · have hr : ¬ (k.room l.length).bad = 0 := by simpa using hc
    (refine w ?_; repeat ((first | refine VO.step rfl rfl ?_ | refine VD.end rfl rfl rfl ?_ | refine VD.mid rfl rfl rfl ?_); refine OpV.box rfl rfl rfl ?_; intro _; refine w ?_))
    (refine VE.done1N rfl rfl ?_)
    rw [show k.raw l = k.room l.length by unfold Pk.raw; rw [if_neg hr]]
    exact Ent.refl

/-! ### What is lent -/

def lentV (l : List UInt8) : List Value := bytes l ++ [.int .u8 91, .int .u8 92]
theorem lentV_one (l : List UInt8) : ∀ u ∈ lentV l, u.oneCell' = true := by
  intro u hu
  rcases List.mem_append.1 hu with h | h
  · exact bytes_one _ u h
  · simp only [List.mem_cons, List.not_mem_nil, or_false] at h; rcases h with h | h <;> subst h <;> rfl
@[simp] theorem lentV_length (l : List UInt8) : (lentV l).length = l.length + 2 := by simp [lentV]
abbrev LentO (a : Addr) (cap : Nat) (l : List UInt8) : SProp := Own 5 1 (.slice (some a) (l.length + 2) cap) (l.length + 2) (lentV l)
theorem LentO.rds {W : World} {R : List SProp} {a : Addr} {cap : Nat} {l : List UInt8} : Rds W (LentO a cap l :: R) 1 (some a) l.length (bytes l) := by
  have h := Rds.take (l := l.length) (Rds.own (W := W) (H := LentO a cap l :: R) (lentV_one l) (.head _) (by rw [lentV_length, Nat.mul_one]) (fun h => by cases h)) (by omega)
  rw [Nat.mul_one, lentV, List.take_left' (by simp)] at h
  exact h

theorem lent_ok {W : World} {R : List SProp} {ao : Option Addr} {cap : Nat} {l : List UInt8} (hb : RdsA W 1 ao l.length (bytes l)) (hl : l.length ≤ 1000000000) :
    Does W Try.prog 20 [.slice ao l.length cap] R (β := Addr × Nat) (fun _ => True) (fun x => .slice (some x.1) l.length x.2) (fun x => LentO x.1 x.2 l :: R) := by
  (refine Does.enter Try.func20 Try.ntmps20 rfl rfl ?_)
  (refine w ?_; repeat ((first | refine VO.step rfl rfl ?_ | refine VD.end rfl rfl rfl ?_ | refine VD.mid rfl rfl rfl ?_); refine OpV.box rfl rfl rfl ?_; intro _; refine w ?_))
  refine VO.re 7 (.int .i64 ((l.length + 2 : Nat) : Int)) rfl (by congr 1) ?_
  (first | refine VO.step rfl rfl ?_ | refine VD.end rfl rfl rfl ?_ | refine VD.mid rfl rfl rfl ?_)
  refine OpV.makeCap (m := l.length + 2) st_55 rfl rfl (by omega) (by simp only [maxLen]; omega) rfl ?_
  intro nb
  (refine w ?_; repeat ((first | refine VO.step rfl rfl ?_ | refine VD.end rfl rfl rfl ?_ | refine VD.mid rfl rfl rfl ?_); refine OpV.box rfl rfl rfl ?_; intro _; refine w ?_))
  (first | refine VO.step rfl rfl ?_ | refine VD.end rfl rfl rfl ?_ | refine VD.mid rfl rfl rfl ?_)
  refine OpV.append st_55 rfl rfl (by (repeat first | exact .head | apply Hole.tail)) (fun w hw => ((hb _).sees hw).src st_55.und) (by simp only [maxLen]; omega) (by omega) rfl ?_
  intro ao1 cap1
  simp only [Nat.zero_add, List.nil_append]
  (refine w ?_; repeat ((first | refine VO.step rfl rfl ?_ | refine VD.end rfl rfl rfl ?_ | refine VD.mid rfl rfl rfl ?_); refine OpV.box rfl rfl rfl ?_; intro _; refine w ?_))
  ((first | refine VO.step rfl rfl ?_ | refine VD.end rfl rfl rfl ?_ | refine VD.mid rfl rfl rfl ?_); refine OpV.buildSlice1 st_55 rfl rfl (by first | (simp; done) | simp [Value.oneCell']) (by decide) rfl ?_; intro nb)
  ((first | refine VO.step rfl rfl ?_ | refine VD.end rfl rfl rfl ?_ | refine VD.mid rfl rfl rfl ?_); refine OpV.appendRow st_55 rfl rfl (by (repeat first | exact .head | apply Hole.tail)) (by (focus repeat first | exact .head _ | apply List.Mem.tail)) rfl (by first | (simp; done) | simp [Value.oneCell']) ?_ ?_ rfl ?_)
  · simp only [maxLen]; omega
  · omega
  intro ao2 cap2
  refine VO.know (p := ao2 = none → l.length + 2 = 0) (fun w hw => Holds.ownNone hw (.tail _ (.head _))) ?_
  intro hnn
  refine VO.know (p := l.length + 2 ≤ cap2) (fun w hw => Holds.ownCap hw (.tail _ (.head _))) ?_
  intro hcc
  obtain ⟨a2, rfl⟩ : ∃ a, ao2 = some a := by cases ao2 with | none => have := hnn rfl; omega | some a => exact ⟨a, rfl⟩
  (refine w ?_; repeat ((first | refine VO.step rfl rfl ?_ | refine VD.end rfl rfl rfl ?_ | refine VD.mid rfl rfl rfl ?_); refine OpV.box rfl rfl rfl ?_; intro _; refine w ?_))
  refine VE.done (a2, cap2) rfl trivial rfl ?_
  exact Ent.re

theorem whole_ok {W : World} {R : List SProp} {ao : Option Addr} {a : Addr} {cap cap2 : Nat} {l : List UInt8} (hb : RdsA W 1 ao l.length (bytes l)) (hl : l.length ≤ 1000000000) :
    Does1 W Try.prog 22 [.slice (some a) l.length cap, .slice ao l.length cap2] (LentO a cap l :: R) (.bool true) (LentO a cap l :: R) := by
  have hr : Rds W (LentO a cap l :: R) 1 (some a) (l.length + 2) (lentV l) := Rds.own (lentV_one l) (.head _) (by rw [lentV_length, Nat.mul_one]) (fun h => by cases h)
  (refine Does.enter Try.func22 Try.ntmps22 rfl rfl ?_)
  refine VC.know (p := l.length + 2 ≤ cap) (fun w hw => Holds.ownCap hw (.head _)) ?_
  intro hcc
  (refine w ?_; repeat ((first | refine VO.step rfl rfl ?_ | refine VD.end rfl rfl rfl ?_ | refine VD.mid rfl rfl rfl ?_); refine OpV.box rfl rfl rfl ?_; intro _; refine w ?_))
  (refine VC.condFe rfl rfl (by simp; omega) ?_)
  (refine w ?_; repeat ((first | refine VO.step rfl rfl ?_ | refine VD.end rfl rfl rfl ?_ | refine VD.mid rfl rfl rfl ?_); refine OpV.box rfl rfl rfl ?_; intro _; refine w ?_))
  refine VO.re 5 (.slice (some a) (l.length + 2) cap) rfl rfl ?_
  refine VO.re 17 (.slice (some a) (l.length + 2) cap) rfl rfl ?_
  (refine w ?_; repeat ((first | refine VO.step rfl rfl ?_ | refine VD.end rfl rfl rfl ?_ | refine VD.mid rfl rfl rfl ?_); refine OpV.box rfl rfl rfl ?_; intro _; refine w ?_))
  (first | refine VO.pure rfl rfl (PureAt.ldR tab_ok rfl rfl hr (show (lentV l)[l.length]? = some (.int .u8 91) by simp [lentV, List.getElem?_append_right])) rfl ?_ | refine VD.take rfl rfl rfl (PureAt.ldR tab_ok rfl rfl hr (show (lentV l)[l.length]? = some (.int .u8 91) by simp [lentV, List.getElem?_append_right])) rfl ?_ | refine VQ.pure rfl rfl (PureAt.ldR tab_ok rfl rfl hr (show (lentV l)[l.length]? = some (.int .u8 91) by simp [lentV, List.getElem?_append_right])) rfl ?_ | refine VD.end rfl rfl rfl (OpV.pure (PureAt.ldR tab_ok rfl rfl hr (show (lentV l)[l.length]? = some (.int .u8 91) by simp [lentV, List.getElem?_append_right])) rfl ?_))
  (refine w ?_; repeat ((first | refine VO.step rfl rfl ?_ | refine VD.end rfl rfl rfl ?_ | refine VD.mid rfl rfl rfl ?_); refine OpV.box rfl rfl rfl ?_; intro _; refine w ?_))
  refine VO.re 27 (.int .i64 ((l.length + 1 : Nat) : Int)) rfl rfl ?_
  (refine w ?_; repeat ((first | refine VO.step rfl rfl ?_ | refine VD.end rfl rfl rfl ?_ | refine VD.mid rfl rfl rfl ?_); refine OpV.box rfl rfl rfl ?_; intro _; refine w ?_))
  (first | refine VO.pure rfl rfl (PureAt.ldR tab_ok rfl rfl hr (show (lentV l)[l.length + 1]? = some (.int .u8 92) by simp [lentV, List.getElem?_append_right])) rfl ?_ | refine VD.take rfl rfl rfl (PureAt.ldR tab_ok rfl rfl hr (show (lentV l)[l.length + 1]? = some (.int .u8 92) by simp [lentV, List.getElem?_append_right])) rfl ?_ | refine VQ.pure rfl rfl (PureAt.ldR tab_ok rfl rfl hr (show (lentV l)[l.length + 1]? = some (.int .u8 92) by simp [lentV, List.getElem?_append_right])) rfl ?_ | refine VD.end rfl rfl rfl (OpV.pure (PureAt.ldR tab_ok rfl rfl hr (show (lentV l)[l.length + 1]? = some (.int .u8 92) by simp [lentV, List.getElem?_append_right])) rfl ?_))
  (refine w ?_; repeat ((first | refine VO.step rfl rfl ?_ | refine VD.end rfl rfl rfl ?_ | refine VD.mid rfl rfl rfl ?_); refine OpV.box rfl rfl rfl ?_; intro _; refine w ?_))
  ((first | refine VO.step rfl rfl ?_ | refine VD.end rfl rfl rfl ?_ | refine VD.mid rfl rfl rfl ?_); refine OpV.call rfl rfl (fun _ _ => by simp) (same_any (a := l) (b := l) LentO.rds (hb _) (by simp only [maxLen]; omega)) Ent.refl rfl ?_; intro _ _)
  (refine w ?_; repeat ((first | refine VO.step rfl rfl ?_ | refine VD.end rfl rfl rfl ?_ | refine VD.mid rfl rfl rfl ?_); refine OpV.box rfl rfl rfl ?_; intro _; refine w ?_))
  (refine VE.done1 rfl ?_ ?_)
  · simp
  · exact Ent.refl

theorem Holds.ownFull {W w : World} {R : List SProp} {e m cap : Nat} {a : Addr} {xs : List Value} (hw : Holds W (Own e 1 (.slice (some a) m cap) m xs :: R) w) : ∃ ys : { ys : List Value // ys.length = cap ∧ cap ≤ maxLen }, Holds W (Own e 1 (.slice (some a) cap cap) cap ys.1 :: R) w := by
  obtain ⟨hl, hv⟩ := hw.ownOpen
  rcases hv with ⟨he, rfl, hR⟩ | ⟨b, cap0, spare, he, hn, hm, hc, hR⟩
  · cases he
  · cases he
    refine ⟨⟨xs ++ spare, by rw [hc, Nat.mul_one], hm⟩, ?_⟩
    exact Holds.ownShut (spare := []) hc (Nat.le_refl _) hm (by rw [List.append_nil]; exact hc) (by rw [List.append_nil]; exact hR)

theorem spoil_ok {W : World} {R : List SProp} {a : Addr} {n m cap : Nat} {xs : List Value} (hn : n ≤ cap) :
    Does1 W Try.prog 23 [.slice (some a) n cap] (Own 5 1 (.slice (some a) m cap) m xs :: R) (.tuple #[]) R := by
  (refine Does.enter Try.func23 Try.ntmps23 rfl rfl ?_)
  refine VC.obtain (fun w => Holds.ownFull) ?_
  rintro ⟨ys, hy, hcm⟩
  dsimp only
  simp only [maxLen] at hcm
  (refine w ?_; repeat ((first | refine VO.step rfl rfl ?_ | refine VD.end rfl rfl rfl ?_ | refine VD.mid rfl rfl rfl ?_); refine OpV.box rfl rfl rfl ?_; intro _; refine w ?_))
  refine VC.loop (α := Nat × List Value) (fun g => g.1 ≤ cap ∧ g.2.length = cap) (fun g => Own 5 1 (.slice (some a) cap cap) cap g.2 :: R)
    (fun g => [(2, .slice (some a) cap cap), (3, .int .i64 g.1)]) (fun g => cap - g.1) rfl (0, ys) ⟨Nat.zero_le _, hy⟩ Ent.refl ⟨rfl, rfl, trivial⟩ ?_
  rintro ⟨i, zs⟩ ⟨hi, hz⟩
  dsimp only at hi hz ⊢
  (refine w ?_; repeat ((first | refine VO.step rfl rfl ?_ | refine VD.end rfl rfl rfl ?_ | refine VD.mid rfl rfl rfl ?_); refine OpV.box rfl rfl rfl ?_; intro _; refine w ?_))
  (refine VC.cond rfl rfl ?_ ?_ <;> intro hc)
  · have hlt : i < cap := by have := of_decide_eq_true hc; omega
    (refine w ?_; repeat ((first | refine VO.step rfl rfl ?_ | refine VD.end rfl rfl rfl ?_ | refine VD.mid rfl rfl rfl ?_); refine OpV.box rfl rfl rfl ?_; intro _; refine w ?_))
    (first | refine VO.step rfl rfl ?_ | refine VD.end rfl rfl rfl ?_ | refine VD.mid rfl rfl rfl ?_)
    refine OpV.stO tab_ok rfl rfl rfl rfl .head (by omega) ?_
    (refine w ?_; repeat ((first | refine VO.step rfl rfl ?_ | refine VD.end rfl rfl rfl ?_ | refine VD.mid rfl rfl rfl ?_); refine OpV.box rfl rfl rfl ?_; intro _; refine w ?_))
    exact VE.round (i + 1, _) ⟨hlt, by rw [List.length_set]; exact hz⟩ (by simp only; omega) ⟨rfl, rfl, trivial⟩ Ent.refl
  · (refine w ?_; repeat ((first | refine VO.step rfl rfl ?_ | refine VD.end rfl rfl rfl ?_ | refine VD.mid rfl rfl rfl ?_); refine OpV.box rfl rfl rfl ?_; intro _; refine w ?_))
    (refine VE.done1N rfl ?_ ?_)
    · rfl
    · exact Ent.drop Ent.refl
end Go.Proofs.Ytlojjlbngnaphaa
