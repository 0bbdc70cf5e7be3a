/- Package disk: Flush, Fail, Crash, Read, Image, Pending. -/
import Derived.Test.YtbmcgmicnfbckaaDk
set_option maxRecDepth 8000
set_option linter.unusedVariables false
set_option linter.unusedSimpArgs false
set_option linter.unusedSectionVars false
namespace Go.Proofs.Ytbmcgmicnfbckaa
open Go.RowKit Go.Sl
attribute [local irreducible] Own

theorem Ent.dropAll {W : World} {R : List SProp} : ∀ X : List SProp, Ent W (X ++ R) R
  | [] => Ent.refl
  | _ :: r => Ent.drop (Ent.dropAll r)

theorem flushf_ok {W : World} {R : List SProp} (i : Nat) : Does1 W Try.prog 46 [.int .i64 i] R (.bool true) R := by
  (refine Does.enter Try.func46 Try.ntmps46 rfl rfl ?_)
  (refine w ?_; repeat ((first | refine VO.step rfl rfl ?_ | refine VD.end rfl rfl rfl ?_ | refine VD.mid rfl rfl rfl ?_); refine OpV.box rfl rfl rfl ?_; intro _; refine w ?_))
  (first | exact VE.done1 rfl rfl Ent.refl | exact VE.done1N rfl rfl Ent.refl)
theorem failf_ok {W : World} {R : List SProp} (i : Nat) : Does1 W Try.prog 65 [.int .i64 i] R (.bool false) R := by
  (refine Does.enter Try.func65 Try.ntmps65 rfl rfl ?_)
  (refine w ?_; repeat ((first | refine VO.step rfl rfl ?_ | refine VD.end rfl rfl rfl ?_ | refine VD.mid rfl rfl rfl ?_); refine OpV.box rfl rfl rfl ?_; intro _; refine w ?_))
  (first | exact VE.done1 rfl rfl Ent.refl | exact VE.done1N rfl rfl Ent.refl)

def bools (l : List Bool) : List Value := l.map .bool
@[simp] theorem bools_length (l : List Bool) : (bools l).length = l.length := by simp [bools]
theorem bools_one (l : List Bool) : ∀ u ∈ bools l, u.oneCell' = true := by
  intro u hu; obtain ⟨c, _, rfl⟩ := List.mem_map.1 hu; rfl
def keepOf (l : List Bool) (i : Nat) : Bool := l.getD i false

theorem crashf_ok {W : World} {R : List SProp} {ao : Option Addr} {n cap bx : Nat} {l : List Bool} (i : Nat) (hm : Row bx 56 [.slice ao n cap] ∈ R) (hr : Rds W R 1 ao n (bools l)) :
    Does1 W Try.prog 47 [.int .i64 i, .pointer (some ⟨bx, 0, none⟩)] R (.bool (keepOf l i)) R := by
  have hl : l.length = n := by have := hr.len; simpa using this
  (refine Does.enter Try.func47 Try.ntmps47 rfl rfl ?_)
  (refine w ?_; repeat ((first | refine VO.step rfl rfl ?_ | refine VD.end rfl rfl rfl ?_ | refine VD.mid rfl rfl rfl ?_); refine OpV.box rfl rfl rfl ?_; intro _; refine w ?_))
  (first | refine VO.pure rfl rfl (PureAt.ld tab_ok rfl rfl hm rfl) rfl ?_ | refine VD.take rfl rfl rfl (PureAt.ld tab_ok rfl rfl hm rfl) rfl ?_ | refine VQ.pure rfl rfl (PureAt.ld tab_ok rfl rfl hm rfl) rfl ?_ | refine VD.end rfl rfl rfl (OpV.pure (PureAt.ld tab_ok rfl rfl hm rfl) rfl ?_))
  (refine w ?_; repeat ((first | refine VO.step rfl rfl ?_ | refine VD.end rfl rfl rfl ?_ | refine VD.mid rfl rfl rfl ?_); refine OpV.box rfl rfl rfl ?_; intro _; refine w ?_))
  ((first | refine VO.split rfl rfl rfl ?_ ?_ | refine VD.split rfl rfl rfl ?_ ?_) <;> intro hb)
  · have hlt : i < n := by have := of_decide_eq_true hb; omega
    obtain ⟨a, rfl⟩ : ∃ a, ao = some a := by cases ao with | none => have := hr.nil rfl; omega | some a => exact ⟨a, rfl⟩
    (first | refine VO.pure rfl rfl (PureAt.ld tab_ok rfl rfl hm rfl) rfl ?_ | refine VD.take rfl rfl rfl (PureAt.ld tab_ok rfl rfl hm rfl) rfl ?_ | refine VQ.pure rfl rfl (PureAt.ld tab_ok rfl rfl hm rfl) rfl ?_ | refine VD.end rfl rfl rfl (OpV.pure (PureAt.ld tab_ok rfl rfl hm rfl) rfl ?_))
    (refine w ?_; repeat ((first | refine VO.step rfl rfl ?_ | refine VD.end rfl rfl rfl ?_ | refine VD.mid rfl rfl rfl ?_); refine OpV.box rfl rfl rfl ?_; intro _; refine w ?_))
    (first | refine VO.pure rfl rfl (PureAt.ldR tab_ok rfl rfl hr (show (bools l)[i]? = some (.bool (keepOf l i)) by simp [bools, keepOf, hl, hlt])) rfl ?_ | refine VD.take rfl rfl rfl (PureAt.ldR tab_ok rfl rfl hr (show (bools l)[i]? = some (.bool (keepOf l i)) by simp [bools, keepOf, hl, hlt])) rfl ?_ | refine VQ.pure rfl rfl (PureAt.ldR tab_ok rfl rfl hr (show (bools l)[i]? = some (.bool (keepOf l i)) by simp [bools, keepOf, hl, hlt])) rfl ?_ | refine VD.end rfl rfl rfl (OpV.pure (PureAt.ldR tab_ok rfl rfl hr (show (bools l)[i]? = some (.bool (keepOf l i)) by simp [bools, keepOf, hl, hlt])) rfl ?_))
    (refine w ?_; repeat ((first | refine VO.step rfl rfl ?_ | refine VD.end rfl rfl rfl ?_ | refine VD.mid rfl rfl rfl ?_); refine OpV.box rfl rfl rfl ?_; intro _; refine w ?_))
    (first | exact VE.done1 rfl rfl Ent.refl | exact VE.done1N rfl rfl Ent.refl)
  · have hge : n ≤ i := by have := of_decide_eq_false hb; omega
    (refine w ?_; repeat ((first | refine VO.step rfl rfl ?_ | refine VD.end rfl rfl rfl ?_ | refine VD.mid rfl rfl rfl ?_); refine OpV.box rfl rfl rfl ?_; intro _; refine w ?_))
    (refine VE.done1 rfl ?_ ?_)
    · simp [keepOf, hl, hge]
    · exact Ent.refl

theorem flush_ok {W : World} {R : List SProp} (d : Nat) (k : DiskD) (hf : k.failed = false) :
    Does1 W Try.prog 26 [.pointer (some ⟨d, 0, none⟩)] (DiskR d k :: R) (.int .u16 0) (DiskR d (k.settle fun _ => true) :: R) := by
  (refine Does.enter Try.func26 Try.ntmps26 rfl rfl ?_)
  refine VC.obtain (fun w => DiskR.open) ?_
  rintro ⟨⟨⟨lo, lc⟩, ⟨co, cc⟩, m⟩, hk⟩
  (refine w ?_; repeat ((first | refine VO.step rfl rfl ?_ | refine VD.end rfl rfl rfl ?_ | refine VD.mid rfl rfl rfl ?_); refine OpV.box rfl rfl rfl ?_; intro _; refine w ?_))
  (refine VC.condFe rfl rfl (hf) ?_)
  refine VC.ent (DiskR.shut hk) ?_
  (refine w ?_; repeat ((first | refine VO.step rfl rfl ?_ | refine VD.end rfl rfl rfl ?_ | refine VD.mid rfl rfl rfl ?_); refine OpV.box rfl rfl rfl ?_; intro _; refine w ?_))
  (((first | refine VO.step rfl rfl ?_ | refine VD.end rfl rfl rfl ?_ | refine VD.mid rfl rfl rfl ?_); refine OpV.call rfl rfl (fun _ _ => by simp) (settle_ok (cp := #[]) d k (fun _ _ => by simp) (fun i X => flushf_ok i)) Ent.re rfl ?_); intro _ _)
  (refine w ?_; repeat ((first | refine VO.step rfl rfl ?_ | refine VD.end rfl rfl rfl ?_ | refine VD.mid rfl rfl rfl ?_); refine OpV.box rfl rfl rfl ?_; intro _; refine w ?_))
  (refine VE.done1 rfl ?_ ?_)
  · rfl
  · exact Ent.refl
theorem flush_bad {W : World} {R : List SProp} (d : Nat) (k : DiskD) (hf : k.failed = true) :
    Does1 W Try.prog 26 [.pointer (some ⟨d, 0, none⟩)] (DiskR d k :: R) (.int .u16 2) (DiskR d k :: R) := by
  (refine Does.enter Try.func26 Try.ntmps26 rfl rfl ?_)
  refine VC.obtain (fun w => DiskR.open) ?_
  rintro ⟨⟨⟨lo, lc⟩, ⟨co, cc⟩, m⟩, hk⟩
  (refine w ?_; repeat ((first | refine VO.step rfl rfl ?_ | refine VD.end rfl rfl rfl ?_ | refine VD.mid rfl rfl rfl ?_); refine OpV.box rfl rfl rfl ?_; intro _; refine w ?_))
  (refine VC.condTe rfl rfl (hf) ?_)
  (refine w ?_; repeat ((first | refine VO.step rfl rfl ?_ | refine VD.end rfl rfl rfl ?_ | refine VD.mid rfl rfl rfl ?_); refine OpV.box rfl rfl rfl ?_; intro _; refine w ?_))
  (refine VE.done1 rfl ?_ ?_)
  · rfl
  · exact DiskR.shut hk
theorem fail_ok {W : World} {R : List SProp} (d : Nat) (k : DiskD) :
    Does1 W Try.prog 54 [.pointer (some ⟨d, 0, none⟩)] (DiskR d k :: R) (.tuple #[]) (DiskR d ((DiskD.mk k.last k.cache true).settle fun _ => false) :: R) := by
  (refine Does.enter Try.func54 Try.ntmps54 rfl rfl ?_)
  refine VC.obtain (fun w => DiskR.open) ?_
  rintro ⟨⟨⟨lo, lc⟩, ⟨co, cc⟩, m⟩, hk⟩
  dsimp only [DiskO]
  (refine w ?_; repeat ((first | refine VO.step rfl rfl ?_ | refine VD.end rfl rfl rfl ?_ | refine VD.mid rfl rfl rfl ?_); refine OpV.box rfl rfl rfl ?_; intro _; refine w ?_))
  refine VO.ent (DiskR.shut (k := ⟨k.last, k.cache, true⟩) (x := ((lo, lc), (co, cc), m)) ⟨hk.last, hk.cache, hk.size⟩) ?_
  (((first | refine VO.step rfl rfl ?_ | refine VD.end rfl rfl rfl ?_ | refine VD.mid rfl rfl rfl ?_); refine OpV.call rfl rfl (fun _ _ => by simp) (settle_ok (cp := #[]) d ⟨k.last, k.cache, true⟩ (fun _ _ => by simp) (fun i X => failf_ok i)) Ent.re rfl ?_); intro _ _)
  (refine w ?_; repeat ((first | refine VO.step rfl rfl ?_ | refine VD.end rfl rfl rfl ?_ | refine VD.mid rfl rfl rfl ?_); refine OpV.box rfl rfl rfl ?_; intro _; refine w ?_))
  (refine VE.done1N rfl ?_ ?_)
  · rfl
  · exact Ent.refl
theorem crash_ok {W : World} {R : List SProp} {ao : Option Addr} {n cap : Nat} {l : List Bool} (d : Nat) (k : DiskD) (hr : Rds W R 1 ao n (bools l)) :
    Does1 W Try.prog 27 [.pointer (some ⟨d, 0, none⟩), .slice ao n cap] (DiskR d k :: R) (.tuple #[]) (DiskR d (k.settle (keepOf l)) :: R) := by
  (refine Does.enter Try.func27 Try.ntmps27 rfl rfl ?_)
  (refine w ?_; repeat ((first | refine VO.step rfl rfl ?_ | refine VD.end rfl rfl rfl ?_ | refine VD.mid rfl rfl rfl ?_); refine OpV.box rfl rfl rfl ?_; intro _; refine w ?_))
  rename_i bx
  (first | refine VO.pure rfl rfl (PureAt.makeFunc1 rfl) rfl ?_ | refine VD.take rfl rfl rfl (PureAt.makeFunc1 rfl) rfl ?_ | refine VQ.pure rfl rfl (PureAt.makeFunc1 rfl) rfl ?_ | refine VD.end rfl rfl rfl (OpV.pure (PureAt.makeFunc1 rfl) rfl ?_))
  (((first | refine VO.step rfl rfl ?_ | refine VD.end rfl rfl rfl ?_ | refine VD.mid rfl rfl rfl ?_); refine OpV.call rfl rfl (fun _ _ => by simp) (settle_ok (R := Row bx 56 [.slice ao n cap] :: R) (cp := #[.pointer (some ⟨bx, 0, none⟩)]) d k (fun _ _ => by simp) (fun i X => crashf_ok i (List.mem_append_right _ (.head _)) (hr.ent ((Ent.dropAll X).trans (Ent.drop Ent.refl))))) Ent.re rfl ?_); intro _ _)
  (refine w ?_; repeat ((first | refine VO.step rfl rfl ?_ | refine VD.end rfl rfl rfl ?_ | refine VD.mid rfl rfl rfl ?_); refine OpV.box rfl rfl rfl ?_; intro _; refine w ?_))
  (refine VE.done1N rfl ?_ ?_)
  · rfl
  · exact Ent.re
end Go.Proofs.Ytbmcgmicnfbckaa
