/- Package super: where its fields lie, number, the fields' functions. Written by program (wip/gen_super.py). -/
import Derived.Test.YtgkpdpoblofehaaPa
import Derived.Test.YtgkpdpoblofehaaEk
set_option maxRecDepth 8000
set_option linter.unusedVariables false
set_option linter.unusedSimpArgs false
set_option linter.unusedSectionVars false
namespace Go.Proofs.Ytgkpdpoblofehaa
open Go.RowKit Go.Sl
attribute [local irreducible] Own

abbrev fnV (g : FuncId) : Value := .func (.func g) #[] #[]
def AtOk (g : FuncId) (off : Nat) : Prop := (∀ a w, (callFunc g a).run Try.prog w = .ok (.enter g a) w) ∧ ∀ (W : World) (H : List SProp) (b : Nat), Does1 W Try.prog g [.pointer (some ⟨b, 0, none⟩)] H (.pointer (some ⟨b, off, none⟩)) H
theorem sbF : StructT Try.prog 160 [.nilFunc, .nilFunc] [(0, 1), (1, 1)] := ⟨fun w => by simp, _, Try.underlying160, fun w => by simp⟩
theorem stF : SliceT Try.prog 155 160 (.agg #[.nilFunc, .nilFunc]) 2 16 := ⟨by kernel_rfl, by kernel_rfl, rfl, by simp [Value.cells, Value.oneCell']⟩
theorem at_id : AtOk 108 0 := by
  refine ⟨fun _ _ => by simp, fun W H b => ?_⟩
  (refine Does.enter Try.func108 Try.ntmps108 rfl rfl ?_)
  (refine w ?_; repeat ((first | refine VO.step rfl rfl ?_ | refine VD.end rfl rfl rfl ?_ | refine VD.mid rfl rfl rfl ?_); refine OpV.box rfl rfl rfl ?_; intro _; refine w ?_))
  (refine VE.done1 rfl ?_ ?_)
  · rfl
  · exact Ent.refl
theorem at_events : AtOk 109 1 := by
  refine ⟨fun _ _ => by simp, fun W H b => ?_⟩
  (refine Does.enter Try.func109 Try.ntmps109 rfl rfl ?_)
  (refine w ?_; repeat ((first | refine VO.step rfl rfl ?_ | refine VD.end rfl rfl rfl ?_ | refine VD.mid rfl rfl rfl ?_); refine OpV.box rfl rfl rfl ?_; intro _; refine w ?_))
  (refine VE.done1 rfl ?_ ?_)
  · rfl
  · exact Ent.refl
theorem at_safe : AtOk 110 2 := by
  refine ⟨fun _ _ => by simp, fun W H b => ?_⟩
  (refine Does.enter Try.func110 Try.ntmps110 rfl rfl ?_)
  (refine w ?_; repeat ((first | refine VO.step rfl rfl ?_ | refine VD.end rfl rfl rfl ?_ | refine VD.mid rfl rfl rfl ?_); refine OpV.box rfl rfl rfl ?_; intro _; refine w ?_))
  (refine VE.done1 rfl ?_ ?_)
  · rfl
  · exact Ent.refl
theorem at_role : AtOk 114 3 := by
  refine ⟨fun _ _ => by simp, fun W H b => ?_⟩
  (refine Does.enter Try.func114 Try.ntmps114 rfl rfl ?_)
  (refine w ?_; repeat ((first | refine VO.step rfl rfl ?_ | refine VD.end rfl rfl rfl ?_ | refine VD.mid rfl rfl rfl ?_); refine OpV.box rfl rfl rfl ?_; intro _; refine w ?_))
  (refine VE.done1 rfl ?_ ?_)
  · rfl
  · exact Ent.refl
theorem at_members : AtOk 115 4 := by
  refine ⟨fun _ _ => by simp, fun W H b => ?_⟩
  (refine Does.enter Try.func115 Try.ntmps115 rfl rfl ?_)
  (refine w ?_; repeat ((first | refine VO.step rfl rfl ?_ | refine VD.end rfl rfl rfl ?_ | refine VD.mid rfl rfl rfl ?_); refine OpV.box rfl rfl rfl ?_; intro _; refine w ?_))
  (refine VE.done1 rfl ?_ ?_)
  · rfl
  · exact Ent.refl
theorem at_chunk : AtOk 116 5 := by
  refine ⟨fun _ _ => by simp, fun W H b => ?_⟩
  (refine Does.enter Try.func116 Try.ntmps116 rfl rfl ?_)
  (refine w ?_; repeat ((first | refine VO.step rfl rfl ?_ | refine VD.end rfl rfl rfl ?_ | refine VD.mid rfl rfl rfl ?_); refine OpV.box rfl rfl rfl ?_; intro _; refine w ?_))
  (refine VE.done1 rfl ?_ ?_)
  · rfl
  · exact Ent.refl
theorem at_stripes : AtOk 123 6 := by
  refine ⟨fun _ _ => by simp, fun W H b => ?_⟩
  (refine Does.enter Try.func123 Try.ntmps123 rfl rfl ?_)
  (refine w ?_; repeat ((first | refine VO.step rfl rfl ?_ | refine VD.end rfl rfl rfl ?_ | refine VD.mid rfl rfl rfl ?_); refine OpV.box rfl rfl rfl ?_; intro _; refine w ?_))
  (refine VE.done1 rfl ?_ ?_)
  · rfl
  · exact Ent.refl
theorem at_ring : AtOk 124 7 := by
  refine ⟨fun _ _ => by simp, fun W H b => ?_⟩
  (refine Does.enter Try.func124 Try.ntmps124 rfl rfl ?_)
  (refine w ?_; repeat ((first | refine VO.step rfl rfl ?_ | refine VD.end rfl rfl rfl ?_ | refine VD.mid rfl rfl rfl ?_); refine OpV.box rfl rfl rfl ?_; intro _; refine w ?_))
  (refine VE.done1 rfl ?_ ?_)
  · rfl
  · exact Ent.refl
theorem at_cursor : AtOk 125 11 := by
  refine ⟨fun _ _ => by simp, fun W H b => ?_⟩
  (refine Does.enter Try.func125 Try.ntmps125 rfl rfl ?_)
  (refine w ?_; repeat ((first | refine VO.step rfl rfl ?_ | refine VD.end rfl rfl rfl ?_ | refine VD.mid rfl rfl rfl ?_); refine OpV.box rfl rfl rfl ?_; intro _; refine w ?_))
  (refine VE.done1 rfl ?_ ?_)
  · rfl
  · exact Ent.refl
theorem number64_ok {W : World} {R : List SProp} (p g a : FuncId) :
    Does W Try.prog 107 [fnV p, fnV g, fnV a] R (β := Nat × Nat × Nat) (fun _ => True)
      (fun x => .agg #[.func (.func 138) #[] #[.pointer (some ⟨x.1, 0, none⟩), .pointer (some ⟨x.2.2, 0, none⟩)], .func (.func 139) #[] #[.pointer (some ⟨x.2.1, 0, none⟩), .pointer (some ⟨x.2.2, 0, none⟩)]])
      (fun x => Row x.2.2 178 [fnV a] :: Row x.2.1 176 [fnV g] :: Row x.1 175 [fnV p] :: R) := by
  (refine Does.enter Try.func107 Try.ntmps107 rfl rfl ?_)
  (refine w ?_; repeat ((first | refine VO.step rfl rfl ?_ | refine VD.end rfl rfl rfl ?_ | refine VD.mid rfl rfl rfl ?_); refine OpV.box rfl rfl rfl ?_; intro _; refine w ?_))
  rename_i b1 b2 b3
  ((first | refine VO.step rfl rfl ?_ | refine VD.end rfl rfl rfl ?_ | refine VD.mid rfl rfl rfl ?_); refine OpV.allocS sbF rfl ?_; intro nz)
  (refine w ?_; repeat ((first | refine VO.step rfl rfl ?_ | refine VD.end rfl rfl rfl ?_ | refine VD.mid rfl rfl rfl ?_); refine OpV.box rfl rfl rfl ?_; intro _; refine w ?_))
  (first | refine VO.pure rfl rfl (PureAt.makeFuncN rfl) rfl ?_ | refine VD.take rfl rfl rfl (PureAt.makeFuncN rfl) rfl ?_ | refine VQ.pure rfl rfl (PureAt.makeFuncN rfl) rfl ?_ | refine VD.end rfl rfl rfl (OpV.pure (PureAt.makeFuncN rfl) rfl ?_))
  (refine w ?_; repeat ((first | refine VO.step rfl rfl ?_ | refine VD.end rfl rfl rfl ?_ | refine VD.mid rfl rfl rfl ?_); refine OpV.box rfl rfl rfl ?_; intro _; refine w ?_))
  (first | refine VO.pure rfl rfl (PureAt.makeFuncN rfl) rfl ?_ | refine VD.take rfl rfl rfl (PureAt.makeFuncN rfl) rfl ?_ | refine VQ.pure rfl rfl (PureAt.makeFuncN rfl) rfl ?_ | refine VD.end rfl rfl rfl (OpV.pure (PureAt.makeFuncN rfl) rfl ?_))
  (refine w ?_; repeat ((first | refine VO.step rfl rfl ?_ | refine VD.end rfl rfl rfl ?_ | refine VD.mid rfl rfl rfl ?_); refine OpV.box rfl rfl rfl ?_; intro _; refine w ?_))
  (apply VO.pure rfl rfl; apply PureAt.build sbF rfl; (simp [buildX, setL, Value.cells]; rfl); rfl)
  (first | refine VO.step rfl rfl ?_ | refine VD.end rfl rfl rfl ?_ | refine VD.mid rfl rfl rfl ?_)
  refine OpV.stA tab_ok rfl rfl rfl rfl (by simp [Value.oneCell']) (by (repeat first | exact .head | apply Hole.tail)) (by simp) ?_
  (refine w ?_; repeat ((first | refine VO.step rfl rfl ?_ | refine VD.end rfl rfl rfl ?_ | refine VD.mid rfl rfl rfl ?_); refine OpV.box rfl rfl rfl ?_; intro _; refine w ?_))
  refine VE.results1 (.inl rfl) (b1, b2, b3) rfl (ResIs.agg tab_ok rfl rfl (by (focus repeat first | exact .head _ | apply List.Mem.tail)) rfl rfl) trivial rfl Ent.re
theorem put64_ok {W : World} {R : List SProp} {pb cb : Nat} {ga : FuncId} {off v p : Nat} {k : Pk} {cs : List Value} (hp : Row pb 175 [fnV 82] ∈ R) (hc : Row cb 178 [fnV ga] ∈ R) (hat : AtOk ga off) (hcs : cs[off]? = some (.int .u64 v)) :
    Does1 W Try.prog 138 [.pointer (some ⟨p, 0, none⟩), .agg cs.toArray, .pointer (some ⟨pb, 0, none⟩), .pointer (some ⟨cb, 0, none⟩)] (PackerR p k :: R) (.tuple #[]) (PackerR p (k.number v 8) :: R) := by
  (refine Does.enter Try.func138 Try.ntmps138 rfl rfl ?_)
  (refine w ?_; repeat ((first | refine VO.step rfl rfl ?_ | refine VD.end rfl rfl rfl ?_ | refine VD.mid rfl rfl rfl ?_); refine OpV.box rfl rfl rfl ?_; intro _; refine w ?_))
  rename_i sb
  (refine VC.drawn [3] 6 [0, 1, 2, 3, 4, 5, 6] _ rfl (by kernel_rfl) (by kernel_rfl) Ent.re ?_)
  (first | refine VO.pure rfl rfl (PureAt.ld tab_ok rfl rfl (.tail _ (.tail _ hp)) rfl) rfl ?_ | refine VD.take rfl rfl rfl (PureAt.ld tab_ok rfl rfl (.tail _ (.tail _ hp)) rfl) rfl ?_ | refine VQ.pure rfl rfl (PureAt.ld tab_ok rfl rfl (.tail _ (.tail _ hp)) rfl) rfl ?_ | refine VD.end rfl rfl rfl (OpV.pure (PureAt.ld tab_ok rfl rfl (.tail _ (.tail _ hp)) rfl) rfl ?_))
  (refine w ?_; repeat ((first | refine VO.step rfl rfl ?_ | refine VD.end rfl rfl rfl ?_ | refine VD.mid rfl rfl rfl ?_); refine OpV.box rfl rfl rfl ?_; intro _; refine w ?_))
  (first | refine VO.pure rfl rfl (PureAt.ld tab_ok rfl rfl (.tail _ (.tail _ hc)) rfl) rfl ?_ | refine VD.take rfl rfl rfl (PureAt.ld tab_ok rfl rfl (.tail _ (.tail _ hc)) rfl) rfl ?_ | refine VQ.pure rfl rfl (PureAt.ld tab_ok rfl rfl (.tail _ (.tail _ hc)) rfl) rfl ?_ | refine VD.end rfl rfl rfl (OpV.pure (PureAt.ld tab_ok rfl rfl (.tail _ (.tail _ hc)) rfl) rfl ?_))
  (first | refine VO.step rfl rfl ?_ | refine VD.end rfl rfl rfl ?_ | refine VD.mid rfl rfl rfl ?_)
  refine OpV.call rfl rfl hat.1 (hat.2 W _ sb) Ent.refl rfl ?_
  intro _ _
  (refine w ?_; repeat ((first | refine VO.step rfl rfl ?_ | refine VD.end rfl rfl rfl ?_ | refine VD.mid rfl rfl rfl ?_); refine OpV.box rfl rfl rfl ?_; intro _; refine w ?_))
  (first | refine VO.pure rfl rfl (PureAt.ld tab_ok rfl rfl (.head _) hcs) rfl ?_ | refine VD.take rfl rfl rfl (PureAt.ld tab_ok rfl rfl (.head _) hcs) rfl ?_ | refine VQ.pure rfl rfl (PureAt.ld tab_ok rfl rfl (.head _) hcs) rfl ?_ | refine VD.end rfl rfl rfl (OpV.pure (PureAt.ld tab_ok rfl rfl (.head _) hcs) rfl ?_))
  (refine w ?_; repeat ((first | refine VO.step rfl rfl ?_ | refine VD.end rfl rfl rfl ?_ | refine VD.mid rfl rfl rfl ?_); refine OpV.box rfl rfl rfl ?_; intro _; refine w ?_))
  (((first | refine VO.step rfl rfl ?_ | refine VD.end rfl rfl rfl ?_ | refine VD.mid rfl rfl rfl ?_); refine OpV.call rfl rfl (fun _ _ => by simp) (u64_ok p k v) Ent.re rfl ?_); intro _ _)
  (refine w ?_; repeat ((first | refine VO.step rfl rfl ?_ | refine VD.end rfl rfl rfl ?_ | refine VD.mid rfl rfl rfl ?_); refine OpV.box rfl rfl rfl ?_; intro _; refine w ?_))
  (refine VE.done1N rfl rfl ?_)
  exact Ent.re
theorem get64_ok {W : World} {R : List SProp} {gb cb : Nat} {ga : FuncId} {off r sb : Nat} {k : Rk} {cs : List Value} (hg : Row gb 176 [fnV 89] ∈ R) (hc : Row cb 178 [fnV ga] ∈ R) (hat : AtOk ga off) (hoff : off < cs.length) :
    Does1 W Try.prog 139 [.pointer (some ⟨r, 0, none⟩), .pointer (some ⟨sb, 0, none⟩), .pointer (some ⟨gb, 0, none⟩), .pointer (some ⟨cb, 0, none⟩)] (ReaderR r k :: Row sb 89 cs :: R) (.tuple #[])
      (ReaderR r (k.number 8) :: Row sb 89 (cs.set off (.int .u64 (leVal (k.got 8)))) :: R) := by
  (refine Does.enter Try.func139 Try.ntmps139 rfl rfl ?_)
  (refine VC.drawn [2] 5 [0, 1, 3, 4, 2, 5, 6, 7] _ rfl (by kernel_rfl) (by kernel_rfl) Ent.re ?_)
  (first | refine VO.pure rfl rfl (PureAt.ld tab_ok rfl rfl (.tail _ (.tail _ hc)) rfl) rfl ?_ | refine VD.take rfl rfl rfl (PureAt.ld tab_ok rfl rfl (.tail _ (.tail _ hc)) rfl) rfl ?_ | refine VQ.pure rfl rfl (PureAt.ld tab_ok rfl rfl (.tail _ (.tail _ hc)) rfl) rfl ?_ | refine VD.end rfl rfl rfl (OpV.pure (PureAt.ld tab_ok rfl rfl (.tail _ (.tail _ hc)) rfl) rfl ?_))
  (refine w ?_; repeat ((first | refine VO.step rfl rfl ?_ | refine VD.end rfl rfl rfl ?_ | refine VD.mid rfl rfl rfl ?_); refine OpV.box rfl rfl rfl ?_; intro _; refine w ?_))
  (first | refine VO.pure rfl rfl (PureAt.ld tab_ok rfl rfl (.tail _ (.tail _ hg)) rfl) rfl ?_ | refine VD.take rfl rfl rfl (PureAt.ld tab_ok rfl rfl (.tail _ (.tail _ hg)) rfl) rfl ?_ | refine VQ.pure rfl rfl (PureAt.ld tab_ok rfl rfl (.tail _ (.tail _ hg)) rfl) rfl ?_ | refine VD.end rfl rfl rfl (OpV.pure (PureAt.ld tab_ok rfl rfl (.tail _ (.tail _ hg)) rfl) rfl ?_))
  (refine w ?_; repeat ((first | refine VO.step rfl rfl ?_ | refine VD.end rfl rfl rfl ?_ | refine VD.mid rfl rfl rfl ?_); refine OpV.box rfl rfl rfl ?_; intro _; refine w ?_))
  (first | refine VO.step rfl rfl ?_ | refine VD.end rfl rfl rfl ?_ | refine VD.mid rfl rfl rfl ?_)
  refine OpV.call rfl rfl hat.1 (hat.2 W _ sb) Ent.refl rfl ?_
  intro _ _
  (refine w ?_; repeat ((first | refine VO.step rfl rfl ?_ | refine VD.end rfl rfl rfl ?_ | refine VD.mid rfl rfl rfl ?_); refine OpV.box rfl rfl rfl ?_; intro _; refine w ?_))
  (((first | refine VO.step rfl rfl ?_ | refine VD.end rfl rfl rfl ?_ | refine VD.mid rfl rfl rfl ?_); refine OpV.call rfl rfl (fun _ _ => by simp) (r64_ok r k) Ent.re rfl ?_); intro _ _)
  (refine w ?_; repeat ((first | refine VO.step rfl rfl ?_ | refine VD.end rfl rfl rfl ?_ | refine VD.mid rfl rfl rfl ?_); refine OpV.box rfl rfl rfl ?_; intro _; refine w ?_))
  (refine w ?_; repeat ((first | refine VO.step rfl rfl ?_ | refine VD.end rfl rfl rfl ?_ | refine VD.mid rfl rfl rfl ?_); refine OpV.box rfl rfl rfl ?_; intro _; refine w ?_))
  (first | refine VO.step rfl rfl ?_ | refine VD.end rfl rfl rfl ?_ | refine VD.mid rfl rfl rfl ?_)
  refine OpV.st tab_ok rfl rfl rfl rfl (by (repeat first | exact .head | apply Hole.tail)) (by simpa using hoff) ?_
  (refine w ?_; repeat ((first | refine VO.step rfl rfl ?_ | refine VD.end rfl rfl rfl ?_ | refine VD.mid rfl rfl rfl ?_); refine OpV.box rfl rfl rfl ?_; intro _; refine w ?_))
  (refine VE.done1N rfl rfl ?_)
  exact Ent.re
theorem number8_ok {W : World} {R : List SProp} (p g a : FuncId) :
    Does W Try.prog 111 [fnV p, fnV g, fnV a] R (β := Nat × Nat × Nat) (fun _ => True)
      (fun x => .agg #[.func (.func 140) #[] #[.pointer (some ⟨x.1, 0, none⟩), .pointer (some ⟨x.2.2, 0, none⟩)], .func (.func 141) #[] #[.pointer (some ⟨x.2.1, 0, none⟩), .pointer (some ⟨x.2.2, 0, none⟩)]])
      (fun x => Row x.2.2 184 [fnV a] :: Row x.2.1 182 [fnV g] :: Row x.1 180 [fnV p] :: R) := by
  (refine Does.enter Try.func111 Try.ntmps111 rfl rfl ?_)
  (refine w ?_; repeat ((first | refine VO.step rfl rfl ?_ | refine VD.end rfl rfl rfl ?_ | refine VD.mid rfl rfl rfl ?_); refine OpV.box rfl rfl rfl ?_; intro _; refine w ?_))
  rename_i b1 b2 b3
  ((first | refine VO.step rfl rfl ?_ | refine VD.end rfl rfl rfl ?_ | refine VD.mid rfl rfl rfl ?_); refine OpV.allocS sbF rfl ?_; intro nz)
  (refine w ?_; repeat ((first | refine VO.step rfl rfl ?_ | refine VD.end rfl rfl rfl ?_ | refine VD.mid rfl rfl rfl ?_); refine OpV.box rfl rfl rfl ?_; intro _; refine w ?_))
  (first | refine VO.pure rfl rfl (PureAt.makeFuncN rfl) rfl ?_ | refine VD.take rfl rfl rfl (PureAt.makeFuncN rfl) rfl ?_ | refine VQ.pure rfl rfl (PureAt.makeFuncN rfl) rfl ?_ | refine VD.end rfl rfl rfl (OpV.pure (PureAt.makeFuncN rfl) rfl ?_))
  (refine w ?_; repeat ((first | refine VO.step rfl rfl ?_ | refine VD.end rfl rfl rfl ?_ | refine VD.mid rfl rfl rfl ?_); refine OpV.box rfl rfl rfl ?_; intro _; refine w ?_))
  (first | refine VO.pure rfl rfl (PureAt.makeFuncN rfl) rfl ?_ | refine VD.take rfl rfl rfl (PureAt.makeFuncN rfl) rfl ?_ | refine VQ.pure rfl rfl (PureAt.makeFuncN rfl) rfl ?_ | refine VD.end rfl rfl rfl (OpV.pure (PureAt.makeFuncN rfl) rfl ?_))
  (refine w ?_; repeat ((first | refine VO.step rfl rfl ?_ | refine VD.end rfl rfl rfl ?_ | refine VD.mid rfl rfl rfl ?_); refine OpV.box rfl rfl rfl ?_; intro _; refine w ?_))
  (apply VO.pure rfl rfl; apply PureAt.build sbF rfl; (simp [buildX, setL, Value.cells]; rfl); rfl)
  (first | refine VO.step rfl rfl ?_ | refine VD.end rfl rfl rfl ?_ | refine VD.mid rfl rfl rfl ?_)
  refine OpV.stA tab_ok rfl rfl rfl rfl (by simp [Value.oneCell']) (by (repeat first | exact .head | apply Hole.tail)) (by simp) ?_
  (refine w ?_; repeat ((first | refine VO.step rfl rfl ?_ | refine VD.end rfl rfl rfl ?_ | refine VD.mid rfl rfl rfl ?_); refine OpV.box rfl rfl rfl ?_; intro _; refine w ?_))
  refine VE.results1 (.inl rfl) (b1, b2, b3) rfl (ResIs.agg tab_ok rfl rfl (by (focus repeat first | exact .head _ | apply List.Mem.tail)) rfl rfl) trivial rfl Ent.re
theorem put8_ok {W : World} {R : List SProp} {pb cb : Nat} {ga : FuncId} {off v p : Nat} {k : Pk} {cs : List Value} (hp : Row pb 180 [fnV 112] ∈ R) (hc : Row cb 184 [fnV ga] ∈ R) (hat : AtOk ga off) (hcs : cs[off]? = some (.int .i64 v)) (hv : v < 2 ^ 8) :
    Does1 W Try.prog 140 [.pointer (some ⟨p, 0, none⟩), .agg cs.toArray, .pointer (some ⟨pb, 0, none⟩), .pointer (some ⟨cb, 0, none⟩)] (PackerR p k :: R) (.tuple #[]) (PackerR p (k.number v 1) :: R) := by
  (refine Does.enter Try.func140 Try.ntmps140 rfl rfl ?_)
  (refine w ?_; repeat ((first | refine VO.step rfl rfl ?_ | refine VD.end rfl rfl rfl ?_ | refine VD.mid rfl rfl rfl ?_); refine OpV.box rfl rfl rfl ?_; intro _; refine w ?_))
  rename_i sb
  (refine VC.drawn [3] 7 [0, 1, 2, 3, 4, 5, 6, 7] _ rfl (by kernel_rfl) (by kernel_rfl) Ent.re ?_)
  (first | refine VO.pure rfl rfl (PureAt.ld tab_ok rfl rfl (.tail _ (.tail _ hp)) rfl) rfl ?_ | refine VD.take rfl rfl rfl (PureAt.ld tab_ok rfl rfl (.tail _ (.tail _ hp)) rfl) rfl ?_ | refine VQ.pure rfl rfl (PureAt.ld tab_ok rfl rfl (.tail _ (.tail _ hp)) rfl) rfl ?_ | refine VD.end rfl rfl rfl (OpV.pure (PureAt.ld tab_ok rfl rfl (.tail _ (.tail _ hp)) rfl) rfl ?_))
  (refine w ?_; repeat ((first | refine VO.step rfl rfl ?_ | refine VD.end rfl rfl rfl ?_ | refine VD.mid rfl rfl rfl ?_); refine OpV.box rfl rfl rfl ?_; intro _; refine w ?_))
  (first | refine VO.pure rfl rfl (PureAt.ld tab_ok rfl rfl (.tail _ (.tail _ hc)) rfl) rfl ?_ | refine VD.take rfl rfl rfl (PureAt.ld tab_ok rfl rfl (.tail _ (.tail _ hc)) rfl) rfl ?_ | refine VQ.pure rfl rfl (PureAt.ld tab_ok rfl rfl (.tail _ (.tail _ hc)) rfl) rfl ?_ | refine VD.end rfl rfl rfl (OpV.pure (PureAt.ld tab_ok rfl rfl (.tail _ (.tail _ hc)) rfl) rfl ?_))
  (first | refine VO.step rfl rfl ?_ | refine VD.end rfl rfl rfl ?_ | refine VD.mid rfl rfl rfl ?_)
  refine OpV.call rfl rfl hat.1 (hat.2 W _ sb) Ent.refl rfl ?_
  intro _ _
  (refine w ?_; repeat ((first | refine VO.step rfl rfl ?_ | refine VD.end rfl rfl rfl ?_ | refine VD.mid rfl rfl rfl ?_); refine OpV.box rfl rfl rfl ?_; intro _; refine w ?_))
  (first | refine VO.pure rfl rfl (PureAt.ld tab_ok rfl rfl (.head _) hcs) rfl ?_ | refine VD.take rfl rfl rfl (PureAt.ld tab_ok rfl rfl (.head _) hcs) rfl ?_ | refine VQ.pure rfl rfl (PureAt.ld tab_ok rfl rfl (.head _) hcs) rfl ?_ | refine VD.end rfl rfl rfl (OpV.pure (PureAt.ld tab_ok rfl rfl (.head _) hcs) rfl ?_))
  (refine w ?_; repeat ((first | refine VO.step rfl rfl ?_ | refine VD.end rfl rfl rfl ?_ | refine VD.mid rfl rfl rfl ?_); refine OpV.box rfl rfl rfl ?_; intro _; refine w ?_))
  refine VD.re 12 (.int .u8 v) rfl (by rw [wrap8_of, Nat.mod_eq_of_lt hv]) ?_
  (((first | refine VO.step rfl rfl ?_ | refine VD.end rfl rfl rfl ?_ | refine VD.mid rfl rfl rfl ?_); refine OpV.call rfl rfl (fun _ _ => by simp) (u8_ok p k v (by omega)) Ent.re rfl ?_); intro _ _)
  (refine w ?_; repeat ((first | refine VO.step rfl rfl ?_ | refine VD.end rfl rfl rfl ?_ | refine VD.mid rfl rfl rfl ?_); refine OpV.box rfl rfl rfl ?_; intro _; refine w ?_))
  (refine VE.done1N rfl rfl ?_)
  exact Ent.re
theorem get8_ok {W : World} {R : List SProp} {gb cb : Nat} {ga : FuncId} {off r sb : Nat} {k : Rk} {cs : List Value} (hg : Row gb 182 [fnV 113] ∈ R) (hc : Row cb 184 [fnV ga] ∈ R) (hat : AtOk ga off) (hoff : off < cs.length) :
    Does1 W Try.prog 141 [.pointer (some ⟨r, 0, none⟩), .pointer (some ⟨sb, 0, none⟩), .pointer (some ⟨gb, 0, none⟩), .pointer (some ⟨cb, 0, none⟩)] (ReaderR r k :: Row sb 89 cs :: R) (.tuple #[])
      (ReaderR r (k.number 1) :: Row sb 89 (cs.set off (.int .i64 (leVal (k.got 1)))) :: R) := by
  (refine Does.enter Try.func141 Try.ntmps141 rfl rfl ?_)
  (refine VC.drawn [2] 5 [0, 1, 3, 4, 2, 5, 6, 7, 8] _ rfl (by kernel_rfl) (by kernel_rfl) Ent.re ?_)
  (first | refine VO.pure rfl rfl (PureAt.ld tab_ok rfl rfl (.tail _ (.tail _ hc)) rfl) rfl ?_ | refine VD.take rfl rfl rfl (PureAt.ld tab_ok rfl rfl (.tail _ (.tail _ hc)) rfl) rfl ?_ | refine VQ.pure rfl rfl (PureAt.ld tab_ok rfl rfl (.tail _ (.tail _ hc)) rfl) rfl ?_ | refine VD.end rfl rfl rfl (OpV.pure (PureAt.ld tab_ok rfl rfl (.tail _ (.tail _ hc)) rfl) rfl ?_))
  (refine w ?_; repeat ((first | refine VO.step rfl rfl ?_ | refine VD.end rfl rfl rfl ?_ | refine VD.mid rfl rfl rfl ?_); refine OpV.box rfl rfl rfl ?_; intro _; refine w ?_))
  (first | refine VO.pure rfl rfl (PureAt.ld tab_ok rfl rfl (.tail _ (.tail _ hg)) rfl) rfl ?_ | refine VD.take rfl rfl rfl (PureAt.ld tab_ok rfl rfl (.tail _ (.tail _ hg)) rfl) rfl ?_ | refine VQ.pure rfl rfl (PureAt.ld tab_ok rfl rfl (.tail _ (.tail _ hg)) rfl) rfl ?_ | refine VD.end rfl rfl rfl (OpV.pure (PureAt.ld tab_ok rfl rfl (.tail _ (.tail _ hg)) rfl) rfl ?_))
  (refine w ?_; repeat ((first | refine VO.step rfl rfl ?_ | refine VD.end rfl rfl rfl ?_ | refine VD.mid rfl rfl rfl ?_); refine OpV.box rfl rfl rfl ?_; intro _; refine w ?_))
  (first | refine VO.step rfl rfl ?_ | refine VD.end rfl rfl rfl ?_ | refine VD.mid rfl rfl rfl ?_)
  refine OpV.call rfl rfl hat.1 (hat.2 W _ sb) Ent.refl rfl ?_
  intro _ _
  (refine w ?_; repeat ((first | refine VO.step rfl rfl ?_ | refine VD.end rfl rfl rfl ?_ | refine VD.mid rfl rfl rfl ?_); refine OpV.box rfl rfl rfl ?_; intro _; refine w ?_))
  (((first | refine VO.step rfl rfl ?_ | refine VD.end rfl rfl rfl ?_ | refine VD.mid rfl rfl rfl ?_); refine OpV.call rfl rfl (fun _ _ => by simp) (r8_ok r k) Ent.re rfl ?_); intro _ _)
  (refine w ?_; repeat ((first | refine VO.step rfl rfl ?_ | refine VD.end rfl rfl rfl ?_ | refine VD.mid rfl rfl rfl ?_); refine OpV.box rfl rfl rfl ?_; intro _; refine w ?_))
  refine VD.re 12 (.int .i64 (leVal (k.got 1))) rfl (by rw [IntWalk.i64_in _ ⟨by omega, by have := got_lt k 1; omega⟩]) ?_
  (refine w ?_; repeat ((first | refine VO.step rfl rfl ?_ | refine VD.end rfl rfl rfl ?_ | refine VD.mid rfl rfl rfl ?_); refine OpV.box rfl rfl rfl ?_; intro _; refine w ?_))
  (first | refine VO.step rfl rfl ?_ | refine VD.end rfl rfl rfl ?_ | refine VD.mid rfl rfl rfl ?_)
  refine OpV.st tab_ok rfl rfl rfl rfl (by (repeat first | exact .head | apply Hole.tail)) (by simpa using hoff) ?_
  (refine w ?_; repeat ((first | refine VO.step rfl rfl ?_ | refine VD.end rfl rfl rfl ?_ | refine VD.mid rfl rfl rfl ?_); refine OpV.box rfl rfl rfl ?_; intro _; refine w ?_))
  (refine VE.done1N rfl rfl ?_)
  exact Ent.re
theorem number16_ok {W : World} {R : List SProp} (p g a : FuncId) :
    Does W Try.prog 120 [fnV p, fnV g, fnV a] R (β := Nat × Nat × Nat) (fun _ => True)
      (fun x => .agg #[.func (.func 142) #[] #[.pointer (some ⟨x.1, 0, none⟩), .pointer (some ⟨x.2.2, 0, none⟩)], .func (.func 143) #[] #[.pointer (some ⟨x.2.1, 0, none⟩), .pointer (some ⟨x.2.2, 0, none⟩)]])
      (fun x => Row x.2.2 184 [fnV a] :: Row x.2.1 189 [fnV g] :: Row x.1 187 [fnV p] :: R) := by
  (refine Does.enter Try.func120 Try.ntmps120 rfl rfl ?_)
  (refine w ?_; repeat ((first | refine VO.step rfl rfl ?_ | refine VD.end rfl rfl rfl ?_ | refine VD.mid rfl rfl rfl ?_); refine OpV.box rfl rfl rfl ?_; intro _; refine w ?_))
  rename_i b1 b2 b3
  ((first | refine VO.step rfl rfl ?_ | refine VD.end rfl rfl rfl ?_ | refine VD.mid rfl rfl rfl ?_); refine OpV.allocS sbF rfl ?_; intro nz)
  (refine w ?_; repeat ((first | refine VO.step rfl rfl ?_ | refine VD.end rfl rfl rfl ?_ | refine VD.mid rfl rfl rfl ?_); refine OpV.box rfl rfl rfl ?_; intro _; refine w ?_))
  (first | refine VO.pure rfl rfl (PureAt.makeFuncN rfl) rfl ?_ | refine VD.take rfl rfl rfl (PureAt.makeFuncN rfl) rfl ?_ | refine VQ.pure rfl rfl (PureAt.makeFuncN rfl) rfl ?_ | refine VD.end rfl rfl rfl (OpV.pure (PureAt.makeFuncN rfl) rfl ?_))
  (refine w ?_; repeat ((first | refine VO.step rfl rfl ?_ | refine VD.end rfl rfl rfl ?_ | refine VD.mid rfl rfl rfl ?_); refine OpV.box rfl rfl rfl ?_; intro _; refine w ?_))
  (first | refine VO.pure rfl rfl (PureAt.makeFuncN rfl) rfl ?_ | refine VD.take rfl rfl rfl (PureAt.makeFuncN rfl) rfl ?_ | refine VQ.pure rfl rfl (PureAt.makeFuncN rfl) rfl ?_ | refine VD.end rfl rfl rfl (OpV.pure (PureAt.makeFuncN rfl) rfl ?_))
  (refine w ?_; repeat ((first | refine VO.step rfl rfl ?_ | refine VD.end rfl rfl rfl ?_ | refine VD.mid rfl rfl rfl ?_); refine OpV.box rfl rfl rfl ?_; intro _; refine w ?_))
  (apply VO.pure rfl rfl; apply PureAt.build sbF rfl; (simp [buildX, setL, Value.cells]; rfl); rfl)
  (first | refine VO.step rfl rfl ?_ | refine VD.end rfl rfl rfl ?_ | refine VD.mid rfl rfl rfl ?_)
  refine OpV.stA tab_ok rfl rfl rfl rfl (by simp [Value.oneCell']) (by (repeat first | exact .head | apply Hole.tail)) (by simp) ?_
  (refine w ?_; repeat ((first | refine VO.step rfl rfl ?_ | refine VD.end rfl rfl rfl ?_ | refine VD.mid rfl rfl rfl ?_); refine OpV.box rfl rfl rfl ?_; intro _; refine w ?_))
  refine VE.results1 (.inl rfl) (b1, b2, b3) rfl (ResIs.agg tab_ok rfl rfl (by (focus repeat first | exact .head _ | apply List.Mem.tail)) rfl rfl) trivial rfl Ent.re
theorem put16_ok {W : World} {R : List SProp} {pb cb : Nat} {ga : FuncId} {off v p : Nat} {k : Pk} {cs : List Value} (hp : Row pb 187 [fnV 121] ∈ R) (hc : Row cb 184 [fnV ga] ∈ R) (hat : AtOk ga off) (hcs : cs[off]? = some (.int .i64 v)) (hv : v < 2 ^ 16) :
    Does1 W Try.prog 142 [.pointer (some ⟨p, 0, none⟩), .agg cs.toArray, .pointer (some ⟨pb, 0, none⟩), .pointer (some ⟨cb, 0, none⟩)] (PackerR p k :: R) (.tuple #[]) (PackerR p (k.number v 2) :: R) := by
  (refine Does.enter Try.func142 Try.ntmps142 rfl rfl ?_)
  (refine w ?_; repeat ((first | refine VO.step rfl rfl ?_ | refine VD.end rfl rfl rfl ?_ | refine VD.mid rfl rfl rfl ?_); refine OpV.box rfl rfl rfl ?_; intro _; refine w ?_))
  rename_i sb
  (refine VC.drawn [3] 7 [0, 1, 2, 3, 4, 5, 6, 7] _ rfl (by kernel_rfl) (by kernel_rfl) Ent.re ?_)
  (first | refine VO.pure rfl rfl (PureAt.ld tab_ok rfl rfl (.tail _ (.tail _ hp)) rfl) rfl ?_ | refine VD.take rfl rfl rfl (PureAt.ld tab_ok rfl rfl (.tail _ (.tail _ hp)) rfl) rfl ?_ | refine VQ.pure rfl rfl (PureAt.ld tab_ok rfl rfl (.tail _ (.tail _ hp)) rfl) rfl ?_ | refine VD.end rfl rfl rfl (OpV.pure (PureAt.ld tab_ok rfl rfl (.tail _ (.tail _ hp)) rfl) rfl ?_))
  (refine w ?_; repeat ((first | refine VO.step rfl rfl ?_ | refine VD.end rfl rfl rfl ?_ | refine VD.mid rfl rfl rfl ?_); refine OpV.box rfl rfl rfl ?_; intro _; refine w ?_))
  (first | refine VO.pure rfl rfl (PureAt.ld tab_ok rfl rfl (.tail _ (.tail _ hc)) rfl) rfl ?_ | refine VD.take rfl rfl rfl (PureAt.ld tab_ok rfl rfl (.tail _ (.tail _ hc)) rfl) rfl ?_ | refine VQ.pure rfl rfl (PureAt.ld tab_ok rfl rfl (.tail _ (.tail _ hc)) rfl) rfl ?_ | refine VD.end rfl rfl rfl (OpV.pure (PureAt.ld tab_ok rfl rfl (.tail _ (.tail _ hc)) rfl) rfl ?_))
  (first | refine VO.step rfl rfl ?_ | refine VD.end rfl rfl rfl ?_ | refine VD.mid rfl rfl rfl ?_)
  refine OpV.call rfl rfl hat.1 (hat.2 W _ sb) Ent.refl rfl ?_
  intro _ _
  (refine w ?_; repeat ((first | refine VO.step rfl rfl ?_ | refine VD.end rfl rfl rfl ?_ | refine VD.mid rfl rfl rfl ?_); refine OpV.box rfl rfl rfl ?_; intro _; refine w ?_))
  (first | refine VO.pure rfl rfl (PureAt.ld tab_ok rfl rfl (.head _) hcs) rfl ?_ | refine VD.take rfl rfl rfl (PureAt.ld tab_ok rfl rfl (.head _) hcs) rfl ?_ | refine VQ.pure rfl rfl (PureAt.ld tab_ok rfl rfl (.head _) hcs) rfl ?_ | refine VD.end rfl rfl rfl (OpV.pure (PureAt.ld tab_ok rfl rfl (.head _) hcs) rfl ?_))
  (refine w ?_; repeat ((first | refine VO.step rfl rfl ?_ | refine VD.end rfl rfl rfl ?_ | refine VD.mid rfl rfl rfl ?_); refine OpV.box rfl rfl rfl ?_; intro _; refine w ?_))
  refine VD.re 12 (.int .u16 v) rfl (by rw [wrap16_of, Nat.mod_eq_of_lt hv]) ?_
  (((first | refine VO.step rfl rfl ?_ | refine VD.end rfl rfl rfl ?_ | refine VD.mid rfl rfl rfl ?_); refine OpV.call rfl rfl (fun _ _ => by simp) (u16_ok p k v (by omega)) Ent.re rfl ?_); intro _ _)
  (refine w ?_; repeat ((first | refine VO.step rfl rfl ?_ | refine VD.end rfl rfl rfl ?_ | refine VD.mid rfl rfl rfl ?_); refine OpV.box rfl rfl rfl ?_; intro _; refine w ?_))
  (refine VE.done1N rfl rfl ?_)
  exact Ent.re
theorem get16_ok {W : World} {R : List SProp} {gb cb : Nat} {ga : FuncId} {off r sb : Nat} {k : Rk} {cs : List Value} (hg : Row gb 189 [fnV 122] ∈ R) (hc : Row cb 184 [fnV ga] ∈ R) (hat : AtOk ga off) (hoff : off < cs.length) :
    Does1 W Try.prog 143 [.pointer (some ⟨r, 0, none⟩), .pointer (some ⟨sb, 0, none⟩), .pointer (some ⟨gb, 0, none⟩), .pointer (some ⟨cb, 0, none⟩)] (ReaderR r k :: Row sb 89 cs :: R) (.tuple #[])
      (ReaderR r (k.number 2) :: Row sb 89 (cs.set off (.int .i64 (leVal (k.got 2)))) :: R) := by
  (refine Does.enter Try.func143 Try.ntmps143 rfl rfl ?_)
  (refine VC.drawn [2] 5 [0, 1, 3, 4, 2, 5, 6, 7, 8] _ rfl (by kernel_rfl) (by kernel_rfl) Ent.re ?_)
  (first | refine VO.pure rfl rfl (PureAt.ld tab_ok rfl rfl (.tail _ (.tail _ hc)) rfl) rfl ?_ | refine VD.take rfl rfl rfl (PureAt.ld tab_ok rfl rfl (.tail _ (.tail _ hc)) rfl) rfl ?_ | refine VQ.pure rfl rfl (PureAt.ld tab_ok rfl rfl (.tail _ (.tail _ hc)) rfl) rfl ?_ | refine VD.end rfl rfl rfl (OpV.pure (PureAt.ld tab_ok rfl rfl (.tail _ (.tail _ hc)) rfl) rfl ?_))
  (refine w ?_; repeat ((first | refine VO.step rfl rfl ?_ | refine VD.end rfl rfl rfl ?_ | refine VD.mid rfl rfl rfl ?_); refine OpV.box rfl rfl rfl ?_; intro _; refine w ?_))
  (first | refine VO.pure rfl rfl (PureAt.ld tab_ok rfl rfl (.tail _ (.tail _ hg)) rfl) rfl ?_ | refine VD.take rfl rfl rfl (PureAt.ld tab_ok rfl rfl (.tail _ (.tail _ hg)) rfl) rfl ?_ | refine VQ.pure rfl rfl (PureAt.ld tab_ok rfl rfl (.tail _ (.tail _ hg)) rfl) rfl ?_ | refine VD.end rfl rfl rfl (OpV.pure (PureAt.ld tab_ok rfl rfl (.tail _ (.tail _ hg)) rfl) rfl ?_))
  (refine w ?_; repeat ((first | refine VO.step rfl rfl ?_ | refine VD.end rfl rfl rfl ?_ | refine VD.mid rfl rfl rfl ?_); refine OpV.box rfl rfl rfl ?_; intro _; refine w ?_))
  (first | refine VO.step rfl rfl ?_ | refine VD.end rfl rfl rfl ?_ | refine VD.mid rfl rfl rfl ?_)
  refine OpV.call rfl rfl hat.1 (hat.2 W _ sb) Ent.refl rfl ?_
  intro _ _
  (refine w ?_; repeat ((first | refine VO.step rfl rfl ?_ | refine VD.end rfl rfl rfl ?_ | refine VD.mid rfl rfl rfl ?_); refine OpV.box rfl rfl rfl ?_; intro _; refine w ?_))
  (((first | refine VO.step rfl rfl ?_ | refine VD.end rfl rfl rfl ?_ | refine VD.mid rfl rfl rfl ?_); refine OpV.call rfl rfl (fun _ _ => by simp) (r16_ok r k) Ent.re rfl ?_); intro _ _)
  (refine w ?_; repeat ((first | refine VO.step rfl rfl ?_ | refine VD.end rfl rfl rfl ?_ | refine VD.mid rfl rfl rfl ?_); refine OpV.box rfl rfl rfl ?_; intro _; refine w ?_))
  refine VD.re 12 (.int .i64 (leVal (k.got 2))) rfl (by rw [IntWalk.i64_in _ ⟨by omega, by have := got_lt k 2; omega⟩]) ?_
  (refine w ?_; repeat ((first | refine VO.step rfl rfl ?_ | refine VD.end rfl rfl rfl ?_ | refine VD.mid rfl rfl rfl ?_); refine OpV.box rfl rfl rfl ?_; intro _; refine w ?_))
  (first | refine VO.step rfl rfl ?_ | refine VD.end rfl rfl rfl ?_ | refine VD.mid rfl rfl rfl ?_)
  refine OpV.st tab_ok rfl rfl rfl rfl (by (repeat first | exact .head | apply Hole.tail)) (by simpa using hoff) ?_
  (refine w ?_; repeat ((first | refine VO.step rfl rfl ?_ | refine VD.end rfl rfl rfl ?_ | refine VD.mid rfl rfl rfl ?_); refine OpV.box rfl rfl rfl ?_; intro _; refine w ?_))
  (refine VE.done1N rfl rfl ?_)
  exact Ent.re
end Go.Proofs.Ytgkpdpoblofehaa
