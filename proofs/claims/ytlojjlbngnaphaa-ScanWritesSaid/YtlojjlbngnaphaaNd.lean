/- Scan: the ring's size, its sectors from a place on: an iterator. -/
import Derived.Test.YtlojjlbngnaphaaNc
set_option maxRecDepth 8000
set_option linter.unusedVariables false
set_option linter.unusedSimpArgs false
set_option linter.unusedSectionVars false
namespace Go.Proofs.Ytlojjlbngnaphaa
open Go.RowKit Go.Sl
attribute [local irreducible] Own

theorem size_ok {W : World} {R : List SProp} {ao : Option Addr} {k cap n : Nat} (hk : k = n * 128) (hn : n ≤ 1099511627776) : Does1 W Try.prog 56 [.slice ao k cap] R (.int .i64 (n : Int)) R := by
  subst hk
  (refine Does.enter Try.func56 Try.ntmps56 rfl rfl ?_)
  (refine w ?_; repeat ((first | refine VO.step rfl rfl ?_ | refine VD.end rfl rfl rfl ?_ | refine VD.mid rfl rfl rfl ?_); refine OpV.box rfl rfl rfl ?_; intro _; refine w ?_))
  (first | refine VO.pure rfl rfl (PureAt.quo rfl rfl (by decide) (by rw [Nat.mul_div_cancel n (by decide)]; exact IntWalk.i64_in _ ⟨by omega, by omega⟩)) rfl ?_ | refine VD.take rfl rfl rfl (PureAt.quo rfl rfl (by decide) (by rw [Nat.mul_div_cancel n (by decide)]; exact IntWalk.i64_in _ ⟨by omega, by omega⟩)) rfl ?_ | refine VQ.pure rfl rfl (PureAt.quo rfl rfl (by decide) (by rw [Nat.mul_div_cancel n (by decide)]; exact IntWalk.i64_in _ ⟨by omega, by omega⟩)) rfl ?_ | refine VD.end rfl rfl rfl (OpV.pure (PureAt.quo rfl rfl (by decide) (by rw [Nat.mul_div_cancel n (by decide)]; exact IntWalk.i64_in _ ⟨by omega, by omega⟩)) rfl ?_))
  (refine w ?_; repeat ((first | refine VO.step rfl rfl ?_ | refine VD.end rfl rfl rfl ?_ | refine VD.mid rfl rfl rfl ?_); refine OpV.box rfl rfl rfl ?_; intro _; refine w ?_))
  refine VE.done1 rfl (by rw [Nat.mul_div_cancel n (by decide)]) Ent.re
theorem from_ok {W : World} {R : List SProp} {ao : Option Addr} {k cap : Nat} (at_ : Int) : Does W Try.prog 77 [.slice ao k cap, .int .i64 at_] R (β := Nat × Nat) (fun _ => True) (fun x => .func (.func 93) #[] #[.pointer (some ⟨x.1, 0, none⟩), .pointer (some ⟨x.2, 0, none⟩)]) (fun x => Row x.1 113 [.slice ao k cap] :: Row x.2 3 [.int .i64 at_] :: R) := by
  (refine Does.enter Try.func77 Try.ntmps77 rfl rfl ?_)
  (refine w ?_; repeat ((first | refine VO.step rfl rfl ?_ | refine VD.end rfl rfl rfl ?_ | refine VD.mid rfl rfl rfl ?_); refine OpV.box rfl rfl rfl ?_; intro _; refine w ?_))
  rename_i b1 b2
  (first | refine VO.pure rfl rfl (PureAt.makeFuncN rfl) rfl ?_ | refine VD.take rfl rfl rfl (PureAt.makeFuncN rfl) rfl ?_ | refine VQ.pure rfl rfl (PureAt.makeFuncN rfl) rfl ?_ | refine VD.end rfl rfl rfl (OpV.pure (PureAt.makeFuncN rfl) rfl ?_))
  (refine w ?_; repeat ((first | refine VO.step rfl rfl ?_ | refine VD.end rfl rfl rfl ?_ | refine VD.mid rfl rfl rfl ?_); refine OpV.box rfl rfl rfl ?_; intro _; refine w ?_))
  exact VE.done (b1, b2) rfl trivial rfl Ent.re
set_option maxHeartbeats 1000000 in
/-- THE ITERATOR, from what each call of yield comes to. -/
theorem from1_ok {W : World} {τ : Type} {la : Addr} {cap n : Nat} (hn : n ≤ 2048) (hcap : n * 128 ≤ cap) (at_ : Nat) (ha : at_ < n) (l b1 b2 : Nat) (b : Loop) (A2 : τ → Prop) (G : Nat → List SProp) (G2 : τ → List SProp)
    (yld : ∀ i, i < n → DoesR W Try.prog l [.int .i64 i, .slice (some (la.add ((at_ + i) % n * 128))) 128 (cap - (at_ + i) % n * 128)]
      (LoopR l b :: Row b1 113 [.slice (some la) (n * 128) cap] :: Row b2 3 [.int .i64 at_] :: G i) (LoopR l b :: Row b1 113 [.slice (some la) (n * 128) cap] :: Row b2 3 [.int .i64 at_] :: G (i + 1)) A2 (fun x => LoopR l (Loop.done b) :: G2 x)) :
    Does W Try.prog 93 [.func (.yield l) #[] #[], .pointer (some ⟨b1, 0, none⟩), .pointer (some ⟨b2, 0, none⟩)] (LoopR l b :: Row b1 113 [.slice (some la) (n * 128) cap] :: Row b2 3 [.int .i64 at_] :: G 0) (β := Option τ) (fun o => o.elim True A2) (fun _ => .tuple #[])
      (fun o => o.elim (LoopR l b :: Row b1 113 [.slice (some la) (n * 128) cap] :: Row b2 3 [.int .i64 at_] :: G n) fun x => LoopR l (Loop.done b) :: G2 x) := by
  (refine Does.enterI Try.func93 Try.ntmps93 rfl rfl ?_)
  (refine wr ?_; repeat ((first | refine VO.step rfl rfl ?_ | refine VD.end rfl rfl rfl ?_ | refine VD.mid rfl rfl rfl ?_); refine OpV.box rfl rfl rfl ?_; intro _; refine wr ?_))
  ((first | refine VO.step rfl rfl ?_ | refine VD.end rfl rfl rfl ?_ | refine VD.mid rfl rfl rfl ?_); refine OpV.call rfl rfl (fun _ _ => by simp) (size_ok rfl (by omega)) Ent.refl rfl ?_)
  intro _ _
  (refine wr ?_; repeat ((first | refine VO.step rfl rfl ?_ | refine VD.end rfl rfl rfl ?_ | refine VD.mid rfl rfl rfl ?_); refine OpV.box rfl rfl rfl ?_; intro _; refine wr ?_))
  refine VR.loop (α := Nat) (fun i => i ≤ n) (fun i => LoopR l b :: Row b1 113 [.slice (some la) (n * 128) cap] :: Row b2 3 [.int .i64 at_] :: G i)
    (fun i => [(0, .func (.yield l) #[] #[]), (1, .pointer (some ⟨b1, 0, none⟩)), (2, .pointer (some ⟨b2, 0, none⟩)), (7, .int .i64 n), (8, .int .i64 i)]) (fun i => n - i) rfl 0 (Nat.zero_le _) Ent.re ⟨rfl, rfl, rfl, rfl, rfl, trivial⟩ ?_
  intro i hi
  (refine wr ?_; repeat ((first | refine VO.step rfl rfl ?_ | refine VD.end rfl rfl rfl ?_ | refine VD.mid rfl rfl rfl ?_); refine OpV.box rfl rfl rfl ?_; intro _; refine wr ?_))
  (refine VR.cond rfl rfl ?_ ?_ <;> intro hc)
  · have hlt : i < n := by have := of_decide_eq_true hc; omega
    (refine wr ?_; repeat ((first | refine VO.step rfl rfl ?_ | refine VD.end rfl rfl rfl ?_ | refine VD.mid rfl rfl rfl ?_); refine OpV.box rfl rfl rfl ?_; intro _; refine wr ?_))
    (refine VR.quiet rfl (by kernel_rfl) (by kernel_rfl) ?_)
    (refine wr ?_; repeat ((first | refine VO.step rfl rfl ?_ | refine VD.end rfl rfl rfl ?_ | refine VD.mid rfl rfl rfl ?_); refine OpV.box rfl rfl rfl ?_; intro _; refine wr ?_))
    (refine VQ.call rfl rfl rfl rfl (fun _ _ => by simp) (size_ok rfl (by omega)) Ent.refl Ent.refl rfl ?_)
    apply VQ.pure rfl rfl
    · exact PureAt.rem (a := at_ + i) (b := n) rfl rfl (by omega)
    · rfl
    have hr : (at_ + i) % n < n := Nat.mod_lt _ (by omega)
    (first | refine VO.nil rfl ?_ | refine VQ.nil rfl ?_ | refine VD.nil ?_ | ((first | apply VO.pure rfl rfl | apply VQ.pure rfl rfl | apply VD.take rfl rfl rfl | (refine VD.end rfl rfl rfl ?_; apply OpV.pure)); (first | (apply PureAt.ar64 rfl rfl rfl; omega) | exact .eval tab_ok rfl | (apply PureAt.ld tab_ok rfl rfl; (focus repeat first | exact .head _ | apply List.Mem.tail); rfl) | (apply PureAt.shr rfl rfl (by decide) (by decide)) | (apply PureAt.shr rfl rfl (by omega) (by simp only [IntKind.bits]; omega)) | exact .fieldAddrA tab_ok rfl rfl | exact .sliceLH tab_ok rfl rfl rfl rfl (by omega) (by omega) | exact .sliceH tab_ok rfl rfl rfl (by omega) | exact .sliceL tab_ok rfl rfl rfl (by omega) | (first | exact .indexAddr tab_ok rfl rfl rfl rfl (by omega) | exact .indexAddrN tab_ok rfl rfl rfl rfl (by omega) | exact .indexAddrI tab_ok rfl rfl rfl rfl (toNatLit _) (by decide) (by omega) | exact .indexAddrNI tab_ok rfl rfl rfl rfl (toNatLit _) (by decide) (by omega) | exact .ldR tab_ok rfl rfl hr1 (List.getElem?_eq_getElem (by omega)) | exact .ldR tab_ok rfl rfl hr2 (List.getElem?_eq_getElem (by omega)) | exact ldB tab_ok rfl rfl hb1 (by omega) | exact ldB tab_ok rfl rfl hb2 (by omega)) | exact .sliceHI tab_ok rfl rfl rfl (toNatLit _) (by decide) (by omega) | exact .sliceLI tab_ok rfl rfl rfl (toNatLit _) (by decide) (by omega) | (apply PureAt.ldA tab_ok rfl rfl; (focus repeat first | exact .head _ | apply List.Mem.tail); rfl; rfl) | exact .ldro tab_ok rfl rfl (by assumption)); rfl) | refine VO.skip rfl rfl rfl rfl ?_ | refine VQ.skip rfl rfl rfl rfl ?_ | refine VD.skip rfl rfl rfl rfl rfl ?_ | refine VD.skipM rfl rfl Ent.refl rfl rfl rfl ?_ | ((first | refine VO.step rfl rfl ?_ | refine VD.end rfl rfl rfl ?_ | refine VD.mid rfl rfl rfl ?_); (first | (apply OpV.st tab_ok rfl rfl rfl rfl (by (repeat first | exact .head | apply Hole.tail); first | done | fail) (by first | (simp; done) | fail)) | (refine OpV.box rfl rfl rfl ?_; intro _))) | refine ⟨Ent.re, ?_⟩)
    (first | refine VO.nil rfl ?_ | refine VQ.nil rfl ?_ | refine VD.nil ?_ | ((first | apply VO.pure rfl rfl | apply VQ.pure rfl rfl | apply VD.take rfl rfl rfl | (refine VD.end rfl rfl rfl ?_; apply OpV.pure)); (first | (apply PureAt.ar64 rfl rfl rfl; omega) | exact .eval tab_ok rfl | (apply PureAt.ld tab_ok rfl rfl; (focus repeat first | exact .head _ | apply List.Mem.tail); rfl) | (apply PureAt.shr rfl rfl (by decide) (by decide)) | (apply PureAt.shr rfl rfl (by omega) (by simp only [IntKind.bits]; omega)) | exact .fieldAddrA tab_ok rfl rfl | exact .sliceLH tab_ok rfl rfl rfl rfl (by omega) (by omega) | exact .sliceH tab_ok rfl rfl rfl (by omega) | exact .sliceL tab_ok rfl rfl rfl (by omega) | (first | exact .indexAddr tab_ok rfl rfl rfl rfl (by omega) | exact .indexAddrN tab_ok rfl rfl rfl rfl (by omega) | exact .indexAddrI tab_ok rfl rfl rfl rfl (toNatLit _) (by decide) (by omega) | exact .indexAddrNI tab_ok rfl rfl rfl rfl (toNatLit _) (by decide) (by omega) | exact .ldR tab_ok rfl rfl hr1 (List.getElem?_eq_getElem (by omega)) | exact .ldR tab_ok rfl rfl hr2 (List.getElem?_eq_getElem (by omega)) | exact ldB tab_ok rfl rfl hb1 (by omega) | exact ldB tab_ok rfl rfl hb2 (by omega)) | exact .sliceHI tab_ok rfl rfl rfl (toNatLit _) (by decide) (by omega) | exact .sliceLI tab_ok rfl rfl rfl (toNatLit _) (by decide) (by omega) | (apply PureAt.ldA tab_ok rfl rfl; (focus repeat first | exact .head _ | apply List.Mem.tail); rfl; rfl) | exact .ldro tab_ok rfl rfl (by assumption)); rfl) | refine VO.skip rfl rfl rfl rfl ?_ | refine VQ.skip rfl rfl rfl rfl ?_ | refine VD.skip rfl rfl rfl rfl rfl ?_ | refine VD.skipM rfl rfl Ent.refl rfl rfl rfl ?_ | ((first | refine VO.step rfl rfl ?_ | refine VD.end rfl rfl rfl ?_ | refine VD.mid rfl rfl rfl ?_); (first | (apply OpV.st tab_ok rfl rfl rfl rfl (by (repeat first | exact .head | apply Hole.tail); first | done | fail) (by first | (simp; done) | fail)) | (refine OpV.box rfl rfl rfl ?_; intro _))) | refine ⟨Ent.re, ?_⟩)
    refine VQ.re 5 (.int .i64 (((at_ + i) % n * 128 : Nat) : Int)) rfl (by congr 1) ?_
    refine VQ.nil rfl ?_
    refine VE.sh ?_
    refine VF.next ?_
    refine VR.seq rfl ?_
    refine VR.regionI rfl ?_
    iterate 6 (first | (apply VI.pure rfl rfl; (first | (apply PureAt.ar64 rfl rfl rfl; omega) | exact .eval tab_ok rfl | (apply PureAt.ld tab_ok rfl rfl; (focus repeat first | exact .head _ | apply List.Mem.tail); rfl) | (apply PureAt.shr rfl rfl (by decide) (by decide)) | (apply PureAt.shr rfl rfl (by omega) (by simp only [IntKind.bits]; omega)) | exact .fieldAddrA tab_ok rfl rfl | exact .sliceLH tab_ok rfl rfl rfl rfl (by omega) (by omega) | exact .sliceH tab_ok rfl rfl rfl (by omega) | exact .sliceL tab_ok rfl rfl rfl (by omega) | (first | exact .indexAddr tab_ok rfl rfl rfl rfl (by omega) | exact .indexAddrN tab_ok rfl rfl rfl rfl (by omega) | exact .indexAddrI tab_ok rfl rfl rfl rfl (toNatLit _) (by decide) (by omega) | exact .indexAddrNI tab_ok rfl rfl rfl rfl (toNatLit _) (by decide) (by omega) | exact .ldR tab_ok rfl rfl hr1 (List.getElem?_eq_getElem (by omega)) | exact .ldR tab_ok rfl rfl hr2 (List.getElem?_eq_getElem (by omega)) | exact ldB tab_ok rfl rfl hb1 (by omega) | exact ldB tab_ok rfl rfl hb2 (by omega)) | exact .sliceHI tab_ok rfl rfl rfl (toNatLit _) (by decide) (by omega) | exact .sliceLI tab_ok rfl rfl rfl (toNatLit _) (by decide) (by omega) | (apply PureAt.ldA tab_ok rfl rfl; (focus repeat first | exact .head _ | apply List.Mem.tail); rfl; rfl) | exact .ldro tab_ok rfl rfl (by assumption)); rfl))
    have hk : (at_ + i) % n * 128 + 128 ≤ cap := by omega
    have hsl : ∀ {f : Fr} {H : List SProp} {m : Nat} {x y z : Operand} {dst : Option Tmp} {ty_ : TypeId} {pos : String} {after : Array Edge} {guard : Option (Nat × Bool)} {k k' : IntKind} {t : TypeId}, evalX f x = some (.slice (some la) m cap) → evalX f y = some (.int k (((at_ + i) % n * 128 : Nat) : Int)) → evalX f z = some (.int k' (((at_ + i) % n * 128 + 128 : Nat) : Int)) → TabData.esz tab t = some 1 →
        PureAt W Try.prog 28 H f { dst, op := .slice t x (some y) (some z) none, type := ty_, pos, after, guard } (.slice (some (la.add ((at_ + i) % n * 128))) 128 (cap - (at_ + i) % n * 128)) := by
      intro f H m x y z dst ty_ pos after guard k k' t h1 h2 h3 h4
      have h5 := PureAt.sliceLH (W := W) (n := 28) (H := H) (dst := dst) (ty_ := ty_) (pos := pos) (after := after) (guard := guard) tab_ok h1 h2 h3 h4 (by omega) hk
      rw [subA_some (by omega), Nat.mul_one, Nat.add_sub_cancel_left] at h5
      exact h5
    apply VI.pure rfl rfl
    · exact hsl rfl rfl rfl rfl
    · rfl
    refine VI.yield rfl rfl rfl rfl (yld i hlt) Ent.refl rfl ?_ (fun x hx => ?_)
    · (first | (apply VI.pure rfl rfl; (first | (apply PureAt.ar64 rfl rfl rfl; omega) | exact .eval tab_ok rfl | (apply PureAt.ld tab_ok rfl rfl; (focus repeat first | exact .head _ | apply List.Mem.tail); rfl) | (apply PureAt.shr rfl rfl (by decide) (by decide)) | (apply PureAt.shr rfl rfl (by omega) (by simp only [IntKind.bits]; omega)) | exact .fieldAddrA tab_ok rfl rfl | exact .sliceLH tab_ok rfl rfl rfl rfl (by omega) (by omega) | exact .sliceH tab_ok rfl rfl rfl (by omega) | exact .sliceL tab_ok rfl rfl rfl (by omega) | (first | exact .indexAddr tab_ok rfl rfl rfl rfl (by omega) | exact .indexAddrN tab_ok rfl rfl rfl rfl (by omega) | exact .indexAddrI tab_ok rfl rfl rfl rfl (toNatLit _) (by decide) (by omega) | exact .indexAddrNI tab_ok rfl rfl rfl rfl (toNatLit _) (by decide) (by omega) | exact .ldR tab_ok rfl rfl hr1 (List.getElem?_eq_getElem (by omega)) | exact .ldR tab_ok rfl rfl hr2 (List.getElem?_eq_getElem (by omega)) | exact ldB tab_ok rfl rfl hb1 (by omega) | exact ldB tab_ok rfl rfl hb2 (by omega)) | exact .sliceHI tab_ok rfl rfl rfl (toNatLit _) (by decide) (by omega) | exact .sliceLI tab_ok rfl rfl rfl (toNatLit _) (by decide) (by omega) | (apply PureAt.ldA tab_ok rfl rfl; (focus repeat first | exact .head _ | apply List.Mem.tail); rfl; rfl) | exact .ldro tab_ok rfl rfl (by assumption)); rfl))
      refine VI.nil rfl ?_
      (refine wr ?_; repeat ((first | refine VO.step rfl rfl ?_ | refine VD.end rfl rfl rfl ?_ | refine VD.mid rfl rfl rfl ?_); refine OpV.box rfl rfl rfl ?_; intro _; refine wr ?_))
      exact VF.round (i + 1) (by omega) (by omega) ⟨rfl, rfl, rfl, rfl, asV rfl (by congr 1), trivial⟩ Ent.re
    · (first | (apply VI.pure rfl rfl; (first | (apply PureAt.ar64 rfl rfl rfl; omega) | exact .eval tab_ok rfl | (apply PureAt.ld tab_ok rfl rfl; (focus repeat first | exact .head _ | apply List.Mem.tail); rfl) | (apply PureAt.shr rfl rfl (by decide) (by decide)) | (apply PureAt.shr rfl rfl (by omega) (by simp only [IntKind.bits]; omega)) | exact .fieldAddrA tab_ok rfl rfl | exact .sliceLH tab_ok rfl rfl rfl rfl (by omega) (by omega) | exact .sliceH tab_ok rfl rfl rfl (by omega) | exact .sliceL tab_ok rfl rfl rfl (by omega) | (first | exact .indexAddr tab_ok rfl rfl rfl rfl (by omega) | exact .indexAddrN tab_ok rfl rfl rfl rfl (by omega) | exact .indexAddrI tab_ok rfl rfl rfl rfl (toNatLit _) (by decide) (by omega) | exact .indexAddrNI tab_ok rfl rfl rfl rfl (toNatLit _) (by decide) (by omega) | exact .ldR tab_ok rfl rfl hr1 (List.getElem?_eq_getElem (by omega)) | exact .ldR tab_ok rfl rfl hr2 (List.getElem?_eq_getElem (by omega)) | exact ldB tab_ok rfl rfl hb1 (by omega) | exact ldB tab_ok rfl rfl hb2 (by omega)) | exact .sliceHI tab_ok rfl rfl rfl (toNatLit _) (by decide) (by omega) | exact .sliceLI tab_ok rfl rfl rfl (toNatLit _) (by decide) (by omega) | (apply PureAt.ldA tab_ok rfl rfl; (focus repeat first | exact .head _ | apply List.Mem.tail); rfl; rfl) | exact .ldro tab_ok rfl rfl (by assumption)); rfl))
      refine VI.nil rfl ?_
      (refine wr ?_; repeat ((first | refine VO.step rfl rfl ?_ | refine VD.end rfl rfl rfl ?_ | refine VD.mid rfl rfl rfl ?_); refine OpV.box rfl rfl rfl ?_; intro _; refine wr ?_))
      exact VF.done (.inl rfl) (some x) resOf_none hx rfl Ent.refl
  have hend : i = n := by have := of_decide_eq_false hc; omega
  subst hend
  (refine wr ?_; repeat ((first | refine VO.step rfl rfl ?_ | refine VD.end rfl rfl rfl ?_ | refine VD.mid rfl rfl rfl ?_); refine OpV.box rfl rfl rfl ?_; intro _; refine wr ?_))
  exact VF.done (.inr rfl) none resOf_none trivial rfl Ent.re
end Go.Proofs.Ytlojjlbngnaphaa
