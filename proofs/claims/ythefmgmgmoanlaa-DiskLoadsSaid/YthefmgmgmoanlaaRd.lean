/- The document's disk. -/
import Derived.Test.YthefmgmgmoanlaaLo
import Derived.Test.YthefmgmgmoanlaaBo
set_option maxRecDepth 8000
set_option linter.unusedVariables false
set_option linter.unusedSimpArgs false
set_option linter.unusedSectionVars false
namespace Go.Proofs.Ythefmgmgmoanlaa
open Go.RowKit Go.Sl
attribute [local irreducible] Own

def wcs (C : List (Nat × ListE)) : List Value := C.flatMap fun c => [.int .i64 (c.1 : Int), c.2.hdr]
/-- What the document's cache holds, against the disk's. -/
def Fits (k : DiskD) (C : List (Nat × ListE)) : Prop := C.map (fun c => (c.1, c.2.xs)) = k.cache.map (fun c => (c.1, bytes c.2))
abbrev DocO (d : Nat) (k : DiskD) (lo : Option Addr) (lc : Nat) (co : Option Addr) (cc : Nat) (C : List (Nat × ListE)) (R : List SProp) : List SProp :=
  Row d 157 [.slice lo k.last.flatten.length lc, .slice co C.length cc, .bool k.failed] :: Own 5 1 (.slice lo k.last.flatten.length lc) k.last.flatten.length (bytes k.last.flatten) ::
    Own 189 2 (.slice co C.length cc) C.length (wcs C) :: (C.map (fun c => c.2.res) ++ R)
def DocR (d : Nat) (k : DiskD) : SProp := ex fun x : (Option Addr × Nat) × (Option Addr × Nat) × List (Nat × ListE) => Sl.star (fact (k.ok ∧ Fits k x.2.2) :: DocO d k x.1.1 x.1.2 x.2.1.1 x.2.1.2 x.2.2 [])
theorem DocR.open {W w : World} {d : Nat} {k : DiskD} {R : List SProp} (hw : Holds W (DocR d k :: R) w) : ∃ x : { x : (Option Addr × Nat) × (Option Addr × Nat) × List (Nat × ListE) // k.ok ∧ Fits k x.2.2 }, Holds W (DocO d k x.1.1.1 x.1.1.2 x.1.2.1.1 x.1.2.1.2 x.1.2.2 R) w := by
  obtain ⟨x, h⟩ := hw.exOpen
  have h := h.join
  refine ⟨⟨x, h.factOpen⟩, ?_⟩
  have := h.tail
  simpa [DocO] using this
theorem DocR.shut {W : World} {d : Nat} {k : DiskD} {R : List SProp} {lo co : Option Addr} {lc cc : Nat} {C : List (Nat × ListE)} (hk : k.ok) (hf : Fits k C) : Ent W (DocO d k lo lc co cc C R) (DocR d k :: R) := fun w hw =>
  Holds.exShut ((lo, lc), (co, cc), C) (Holds.nest (L := _ :: _ :: _ :: _ :: (C.map (fun c => c.2.res) ++ [])) (by
    rw [List.append_nil]
    exact hw.factShut ⟨hk, hf⟩))

theorem docload_bad {W : World} {R : List SProp} {ao : Option Addr} {cap n : Nat} (h : n = 0 ∨ n % 128 ≠ 0 ∨ 1048576 < n) :
    Does1 W Try.prog 54 [.slice ao n cap] R (.tuple #[.pointer none, .int .i64 40]) R := by
  (refine Does.enter Try.func54 Try.ntmps54 rfl rfl ?_)
  (refine w ?_; repeat ((first | refine VO.step rfl rfl ?_ | refine VD.end rfl rfl rfl ?_ | refine VD.mid rfl rfl rfl ?_); refine OpV.box rfl rfl rfl ?_; intro _; refine w ?_))
  ((first | refine VO.split rfl rfl rfl ?_ ?_ | refine VD.split rfl rfl rfl ?_ ?_) <;> intro hb)
  · (refine w ?_; repeat ((first | refine VO.step rfl rfl ?_ | refine VD.end rfl rfl rfl ?_ | refine VD.mid rfl rfl rfl ?_); refine OpV.box rfl rfl rfl ?_; intro _; refine w ?_))
    (first | exact VE.done1 rfl rfl Ent.refl | exact VE.done1N rfl rfl Ent.refl)
  (refine w ?_; repeat ((first | refine VO.step rfl rfl ?_ | refine VD.end rfl rfl rfl ?_ | refine VD.mid rfl rfl rfl ?_); refine OpV.box rfl rfl rfl ?_; intro _; refine w ?_))
  (first | refine VO.pure rfl rfl (PureAt.rem (b := 128) rfl rfl (by decide)) rfl ?_ | refine VD.take rfl rfl rfl (PureAt.rem (b := 128) rfl rfl (by decide)) rfl ?_ | refine VQ.pure rfl rfl (PureAt.rem (b := 128) rfl rfl (by decide)) rfl ?_ | refine VD.end rfl rfl rfl (OpV.pure (PureAt.rem (b := 128) rfl rfl (by decide)) rfl ?_))
  (refine w ?_; repeat ((first | refine VO.step rfl rfl ?_ | refine VD.end rfl rfl rfl ?_ | refine VD.mid rfl rfl rfl ?_); refine OpV.box rfl rfl rfl ?_; intro _; refine w ?_))
  ((first | refine VO.split rfl rfl rfl ?_ ?_ | refine VD.split rfl rfl rfl ?_ ?_) <;> intro hb)
  · (refine w ?_; repeat ((first | refine VO.step rfl rfl ?_ | refine VD.end rfl rfl rfl ?_ | refine VD.mid rfl rfl rfl ?_); refine OpV.box rfl rfl rfl ?_; intro _; refine w ?_))
    (first | exact VE.done1 rfl rfl Ent.refl | exact VE.done1N rfl rfl Ent.refl)
  have n1 : ¬ n = 0 := by simpa using ‹((n : Int) == 0) = false›
  have n2 : n % 128 = 0 := by have := ‹(((n % 128 : Nat) : Int) != 0) = false›; simp at this; omega
  (refine w ?_; repeat ((first | refine VO.step rfl rfl ?_ | refine VD.end rfl rfl rfl ?_ | refine VD.mid rfl rfl rfl ?_); refine OpV.box rfl rfl rfl ?_; intro _; refine w ?_))
  (refine VC.condTe rfl rfl (by simp; omega) ?_)
  (refine w ?_; repeat ((first | refine VO.step rfl rfl ?_ | refine VD.end rfl rfl rfl ?_ | refine VD.mid rfl rfl rfl ?_); refine OpV.box rfl rfl rfl ?_; intro _; refine w ?_))
  (first | exact VE.done1 rfl rfl Ent.refl | exact VE.done1N rfl rfl Ent.refl)

theorem docload_ok {W : World} {R : List SProp} {ao : Option Addr} {cap m : Nat} {l : List UInt8} (hr : RdsA W 1 ao (m * 128) (bytes l)) (h1 : 1 ≤ m) (h2 : m ≤ 8192) :
    Does W Try.prog 54 [.slice ao (m * 128) cap] R (β := Nat) (fun _ => True) (fun d => .tuple #[.pointer (some ⟨d, 0, none⟩), .int .i64 0]) (fun d => DocR d ⟨chunks l m, [], false⟩ :: R) := by
  have hl : l.length = m * 128 := by have := (hr []).len; simpa using this
  (refine Does.enter Try.func54 Try.ntmps54 rfl rfl ?_)
  (refine w ?_; repeat ((first | refine VO.step rfl rfl ?_ | refine VD.end rfl rfl rfl ?_ | refine VD.mid rfl rfl rfl ?_); refine OpV.box rfl rfl rfl ?_; intro _; refine w ?_))
  (first | refine VO.gF rfl rfl rfl (by simp; omega) ?_ | refine VD.gF rfl rfl rfl (by simp; omega) ?_)
  (refine w ?_; repeat ((first | refine VO.step rfl rfl ?_ | refine VD.end rfl rfl rfl ?_ | refine VD.mid rfl rfl rfl ?_); refine OpV.box rfl rfl rfl ?_; intro _; refine w ?_))
  (first | refine VO.pure rfl rfl (PureAt.rem (b := 128) rfl rfl (by decide)) rfl ?_ | refine VD.take rfl rfl rfl (PureAt.rem (b := 128) rfl rfl (by decide)) rfl ?_ | refine VQ.pure rfl rfl (PureAt.rem (b := 128) rfl rfl (by decide)) rfl ?_ | refine VD.end rfl rfl rfl (OpV.pure (PureAt.rem (b := 128) rfl rfl (by decide)) rfl ?_))
  (refine w ?_; repeat ((first | refine VO.step rfl rfl ?_ | refine VD.end rfl rfl rfl ?_ | refine VD.mid rfl rfl rfl ?_); refine OpV.box rfl rfl rfl ?_; intro _; refine w ?_))
  (first | refine VO.gF rfl rfl rfl (by simp) ?_ | refine VD.gF rfl rfl rfl (by simp) ?_)
  (refine w ?_; repeat ((first | refine VO.step rfl rfl ?_ | refine VD.end rfl rfl rfl ?_ | refine VD.mid rfl rfl rfl ?_); refine OpV.box rfl rfl rfl ?_; intro _; refine w ?_))
  (refine VC.condFe rfl rfl (by simp; omega) ?_)
  (refine w ?_; repeat ((first | refine VO.step rfl rfl ?_ | refine VD.end rfl rfl rfl ?_ | refine VD.mid rfl rfl rfl ?_); refine OpV.box rfl rfl rfl ?_; intro _; refine w ?_))
  refine VO.ent (H' := Own 5 1 (.slice none 0 0) 0 [] :: R) (fun w hw => hw.ownNil _ _) ?_
  (first | refine VO.step rfl rfl ?_ | refine VD.end rfl rfl rfl ?_ | refine VD.mid rfl rfl rfl ?_)
  refine OpV.append st_35 rfl rfl .head (fun w hw => ((hr _).sees hw).src st_35.und) (by simp only [maxLen]; omega) (by omega) rfl ?_
  intro ao' cap'
  simp only [Nat.zero_add, List.nil_append]
  (refine w ?_; repeat ((first | refine VO.step rfl rfl ?_ | refine VD.end rfl rfl rfl ?_ | refine VD.mid rfl rfl rfl ?_); refine OpV.box rfl rfl rfl ?_; intro _; refine w ?_))
  (apply VO.pure rfl rfl; apply PureAt.build sb_157 rfl; (simp [buildX, setL, Value.cells]; rfl); rfl)
  (refine w ?_; repeat ((first | refine VO.step rfl rfl ?_ | refine VD.end rfl rfl rfl ?_ | refine VD.mid rfl rfl rfl ?_); refine OpV.box rfl rfl rfl ?_; intro _; refine w ?_))
  rename_i d
  refine VE.done d rfl trivial rfl ?_
  have hfl : (chunks l m).flatten = l := chunks_flatten m l hl
  have := DocR.shut (W := W) (R := R) (d := d) (k := ⟨chunks l m, [], false⟩) (lo := ao') (lc := cap') (co := none) (cc := 0) (C := []) ⟨chunks_128 hl, fun c hc => absurd hc (by simp), by simp only [chunks_length]; exact h2⟩ rfl
  simp only [DocO, hfl, hl, wcs, List.flatMap_nil, List.map_nil, List.nil_append, List.length_nil] at this
  exact fun w hw => this w ((hw.ownNil 189 2).reord (by (repeat first | exact .refl | (apply Reord.cons; focus repeat first | exact .head | apply Del.tail) | exact .nil | apply Reord.drop)))

theorem flat_len {k : DiskD} (hk : k.ok) : k.last.flatten.length = k.last.length * 128 := by
  have : ∀ l : List (List UInt8), (∀ b ∈ l, b.length = 128) → l.flatten.length = l.length * 128 := fun l => by
    induction l with
    | nil => intro _; rfl
    | cons a r ih => intro h; rw [List.flatten_cons, List.length_append, ih (fun b hb => h b (.tail _ hb)), h a (.head _), List.length_cons, Nat.add_mul]; omega
  exact this _ hk.last

theorem docsectors_ok {W : World} {R : List SProp} (d : Nat) (k : DiskD) :
    Does1 W Try.prog 108 [.pointer (some ⟨d, 0, none⟩)] (DocR d k :: R) (.int .i64 k.last.length) (DocR d k :: R) := by
  (refine Does.enter Try.func108 Try.ntmps108 rfl rfl ?_)
  refine VC.obtain (fun w => DocR.open) ?_
  rintro ⟨⟨⟨lo, lc⟩, ⟨co, cc⟩, C⟩, hk, hf⟩
  have hfl := flat_len hk
  have hs := hk.size
  dsimp only [DocO]
  (refine w ?_; repeat ((first | refine VO.step rfl rfl ?_ | refine VD.end rfl rfl rfl ?_ | refine VD.mid rfl rfl rfl ?_); refine OpV.box rfl rfl rfl ?_; intro _; refine w ?_))
  (first | refine VO.pure rfl rfl (PureAt.quo (b := 128) rfl rfl (by decide) (IntWalk.i64_in _ ⟨by omega, by omega⟩)) rfl ?_ | refine VD.take rfl rfl rfl (PureAt.quo (b := 128) rfl rfl (by decide) (IntWalk.i64_in _ ⟨by omega, by omega⟩)) rfl ?_ | refine VQ.pure rfl rfl (PureAt.quo (b := 128) rfl rfl (by decide) (IntWalk.i64_in _ ⟨by omega, by omega⟩)) rfl ?_ | refine VD.end rfl rfl rfl (OpV.pure (PureAt.quo (b := 128) rfl rfl (by decide) (IntWalk.i64_in _ ⟨by omega, by omega⟩)) rfl ?_))
  (refine w ?_; repeat ((first | refine VO.step rfl rfl ?_ | refine VD.end rfl rfl rfl ?_ | refine VD.mid rfl rfl rfl ?_); refine OpV.box rfl rfl rfl ?_; intro _; refine w ?_))
  (refine VE.done1 rfl ?_ ?_)
  · rw [hfl, Nat.mul_div_cancel _ (by decide)]
  · exact DocR.shut hk hf

/-- The tests ahead of a Read or a Write of the document's. -/
theorem docwrite_bad {W : World} {R : List SProp} {ao : Option Addr} {cap nb : Nat} (d : Nat) (k : DiskD) (at_ : Int) (h : k.may at_ ≠ 0) :
    Does1 W Try.prog 98 [.pointer (some ⟨d, 0, none⟩), .int .i64 at_, .slice ao nb cap] (DocR d k :: R) (.int .i64 (k.may at_)) (DocR d k :: R) := by
  (refine Does.enter Try.func98 Try.ntmps98 rfl rfl ?_)
  refine VC.obtain (fun w => DocR.open) ?_
  rintro ⟨⟨⟨lo, lc⟩, ⟨co, cc⟩, C⟩, hk, hf⟩
  have hfl := flat_len hk
  have hs := hk.size
  dsimp only [DocO]
  (refine w ?_; repeat ((first | refine VO.step rfl rfl ?_ | refine VD.end rfl rfl rfl ?_ | refine VD.mid rfl rfl rfl ?_); refine OpV.box rfl rfl rfl ?_; intro _; refine w ?_))
  (refine VC.cond rfl rfl ?_ ?_ <;> intro hc)
  · have hfa : k.failed = true := hc
    (refine w ?_; repeat ((first | refine VO.step rfl rfl ?_ | refine VD.end rfl rfl rfl ?_ | refine VD.mid rfl rfl rfl ?_); refine OpV.box rfl rfl rfl ?_; intro _; refine w ?_))
    (refine VE.done1 rfl ?_ ?_)
    · simp [DiskD.may, hfa]
    · exact DocR.shut hk hf
  have hfa : k.failed = false := hc
  (refine w ?_; repeat ((first | refine VO.step rfl rfl ?_ | refine VD.end rfl rfl rfl ?_ | refine VD.mid rfl rfl rfl ?_); refine OpV.box rfl rfl rfl ?_; intro _; refine w ?_))
  ((first | refine VO.split rfl rfl rfl ?_ ?_ | refine VD.split rfl rfl rfl ?_ ?_) <;> intro hb)
  · have h0 : at_ < 0 := by have := ‹decide (at_ < 0) = true›; exact of_decide_eq_true this
    (refine w ?_; repeat ((first | refine VO.step rfl rfl ?_ | refine VD.end rfl rfl rfl ?_ | refine VD.mid rfl rfl rfl ?_); refine OpV.box rfl rfl rfl ?_; intro _; refine w ?_))
    (refine VE.done1 rfl ?_ ?_)
    · simp [DiskD.may, hfa, h0]
    · exact DocR.shut hk hf
  have h0 : ¬ at_ < 0 := by have := ‹decide (at_ < 0) = false›; exact of_decide_eq_false this
  (refine w ?_; repeat ((first | refine VO.step rfl rfl ?_ | refine VD.end rfl rfl rfl ?_ | refine VD.mid rfl rfl rfl ?_); refine OpV.box rfl rfl rfl ?_; intro _; refine w ?_))
  (first | refine VO.pure rfl rfl (PureAt.quo (b := 128) rfl rfl (by decide) (IntWalk.i64_in _ ⟨by omega, by omega⟩)) rfl ?_ | refine VD.take rfl rfl rfl (PureAt.quo (b := 128) rfl rfl (by decide) (IntWalk.i64_in _ ⟨by omega, by omega⟩)) rfl ?_ | refine VQ.pure rfl rfl (PureAt.quo (b := 128) rfl rfl (by decide) (IntWalk.i64_in _ ⟨by omega, by omega⟩)) rfl ?_ | refine VD.end rfl rfl rfl (OpV.pure (PureAt.quo (b := 128) rfl rfl (by decide) (IntWalk.i64_in _ ⟨by omega, by omega⟩)) rfl ?_))
  (refine w ?_; repeat ((first | refine VO.step rfl rfl ?_ | refine VD.end rfl rfl rfl ?_ | refine VD.mid rfl rfl rfl ?_); refine OpV.box rfl rfl rfl ?_; intro _; refine w ?_))
  have hge : (k.last.length : Int) ≤ at_ := by
    unfold DiskD.may at h
    rw [hfa, if_neg (by simp)] at h
    split at h
    · rename_i q; omega
    · exact absurd rfl h
  (refine VC.condTe rfl rfl (by rw [hfl, Nat.mul_div_cancel _ (by decide)]; simpa using hge) ?_)
  (refine w ?_; repeat ((first | refine VO.step rfl rfl ?_ | refine VD.end rfl rfl rfl ?_ | refine VD.mid rfl rfl rfl ?_); refine OpV.box rfl rfl rfl ?_; intro _; refine w ?_))
  (refine VE.done1 rfl ?_ ?_)
  · simp [DiskD.may, hfa, hge]
  · exact DocR.shut hk hf

theorem docwrite_len {W : World} {R : List SProp} {ao : Option Addr} {cap nb : Nat} (d : Nat) (k : DiskD) (at_ : Int) (h : k.may at_ = 0) (hn : nb ≠ 128) :
    Does1 W Try.prog 98 [.pointer (some ⟨d, 0, none⟩), .int .i64 at_, .slice ao nb cap] (DocR d k :: R) (.int .i64 4) (DocR d k :: R) := by
  obtain ⟨hfa, h0, h1⟩ := may_zero h
  (refine Does.enter Try.func98 Try.ntmps98 rfl rfl ?_)
  refine VC.obtain (fun w => DocR.open) ?_
  rintro ⟨⟨⟨lo, lc⟩, ⟨co, cc⟩, C⟩, hk, hf⟩
  have hfl := flat_len hk
  have hs := hk.size
  dsimp only [DocO]
  (refine w ?_; repeat ((first | refine VO.step rfl rfl ?_ | refine VD.end rfl rfl rfl ?_ | refine VD.mid rfl rfl rfl ?_); refine OpV.box rfl rfl rfl ?_; intro _; refine w ?_))
  (refine VC.condFe rfl rfl (hfa) ?_)
  (refine w ?_; repeat ((first | refine VO.step rfl rfl ?_ | refine VD.end rfl rfl rfl ?_ | refine VD.mid rfl rfl rfl ?_); refine OpV.box rfl rfl rfl ?_; intro _; refine w ?_))
  (first | refine VO.gF rfl rfl rfl (by simp; omega) ?_ | refine VD.gF rfl rfl rfl (by simp; omega) ?_)
  (refine w ?_; repeat ((first | refine VO.step rfl rfl ?_ | refine VD.end rfl rfl rfl ?_ | refine VD.mid rfl rfl rfl ?_); refine OpV.box rfl rfl rfl ?_; intro _; refine w ?_))
  (first | refine VO.pure rfl rfl (PureAt.quo (b := 128) rfl rfl (by decide) (IntWalk.i64_in _ ⟨by omega, by omega⟩)) rfl ?_ | refine VD.take rfl rfl rfl (PureAt.quo (b := 128) rfl rfl (by decide) (IntWalk.i64_in _ ⟨by omega, by omega⟩)) rfl ?_ | refine VQ.pure rfl rfl (PureAt.quo (b := 128) rfl rfl (by decide) (IntWalk.i64_in _ ⟨by omega, by omega⟩)) rfl ?_ | refine VD.end rfl rfl rfl (OpV.pure (PureAt.quo (b := 128) rfl rfl (by decide) (IntWalk.i64_in _ ⟨by omega, by omega⟩)) rfl ?_))
  (refine w ?_; repeat ((first | refine VO.step rfl rfl ?_ | refine VD.end rfl rfl rfl ?_ | refine VD.mid rfl rfl rfl ?_); refine OpV.box rfl rfl rfl ?_; intro _; refine w ?_))
  (refine VC.condFe rfl rfl (by rw [hfl, Nat.mul_div_cancel _ (by decide)]; simp; omega) ?_)
  (refine w ?_; repeat ((first | refine VO.step rfl rfl ?_ | refine VD.end rfl rfl rfl ?_ | refine VD.mid rfl rfl rfl ?_); refine OpV.box rfl rfl rfl ?_; intro _; refine w ?_))
  (refine VC.condTe rfl rfl (by simp; omega) ?_)
  (refine w ?_; repeat ((first | refine VO.step rfl rfl ?_ | refine VD.end rfl rfl rfl ?_ | refine VD.mid rfl rfl rfl ?_); refine OpV.box rfl rfl rfl ?_; intro _; refine w ?_))
  (refine VE.done1 rfl ?_ ?_)
  · rfl
  · exact DocR.shut hk hf

set_option maxHeartbeats 1000000 in
theorem docwrite_ok {W : World} {R : List SProp} {ao : Option Addr} {cap : Nat} {b : List UInt8} (d : Nat) (k : DiskD) (a : Nat) (ha : a < k.last.length) (hfa : k.failed = false) (hb8 : b.length = 128) (hcl : k.cache.length ≤ 1000000) (hr : RdsA W 1 ao 128 (bytes b)) :
    Does1 W Try.prog 98 [.pointer (some ⟨d, 0, none⟩), .int .i64 a, .slice ao 128 cap] (DocR d k :: R) (.int .i64 0) (DocR d (k.write a b) :: R) := by
  (refine Does.enter Try.func98 Try.ntmps98 rfl rfl ?_)
  refine VC.obtain (fun w => DocR.open) ?_
  rintro ⟨⟨⟨lo, lc⟩, ⟨co, cc⟩, C⟩, hk, hf⟩
  have hfl := flat_len hk
  have hs := hk.size
  have hCl : C.length = k.cache.length := by have := congrArg List.length hf; simpa using this
  dsimp only [DocO]
  (refine w ?_; repeat ((first | refine VO.step rfl rfl ?_ | refine VD.end rfl rfl rfl ?_ | refine VD.mid rfl rfl rfl ?_); refine OpV.box rfl rfl rfl ?_; intro _; refine w ?_))
  (refine VC.condFe rfl rfl (hfa) ?_)
  (refine w ?_; repeat ((first | refine VO.step rfl rfl ?_ | refine VD.end rfl rfl rfl ?_ | refine VD.mid rfl rfl rfl ?_); refine OpV.box rfl rfl rfl ?_; intro _; refine w ?_))
  (first | refine VO.pure rfl rfl (PureAt.quo (b := 128) rfl rfl (by decide) (IntWalk.i64_in _ ⟨by omega, by omega⟩)) rfl ?_ | refine VD.take rfl rfl rfl (PureAt.quo (b := 128) rfl rfl (by decide) (IntWalk.i64_in _ ⟨by omega, by omega⟩)) rfl ?_ | refine VQ.pure rfl rfl (PureAt.quo (b := 128) rfl rfl (by decide) (IntWalk.i64_in _ ⟨by omega, by omega⟩)) rfl ?_ | refine VD.end rfl rfl rfl (OpV.pure (PureAt.quo (b := 128) rfl rfl (by decide) (IntWalk.i64_in _ ⟨by omega, by omega⟩)) rfl ?_))
  (refine w ?_; repeat ((first | refine VO.step rfl rfl ?_ | refine VD.end rfl rfl rfl ?_ | refine VD.mid rfl rfl rfl ?_); refine OpV.box rfl rfl rfl ?_; intro _; refine w ?_))
  (refine VC.condFe rfl rfl (by rw [hfl, Nat.mul_div_cancel _ (by decide)]; simp; omega) ?_)
  (refine w ?_; repeat ((first | refine VO.step rfl rfl ?_ | refine VD.end rfl rfl rfl ?_ | refine VD.mid rfl rfl rfl ?_); refine OpV.box rfl rfl rfl ?_; intro _; refine w ?_))
  refine VO.ent (H' := Own 5 1 (.slice none 0 0) 0 [] :: DocO d k lo lc co cc C R) (fun w hw => hw.ownNil _ _) ?_
  dsimp only [DocO]
  (first | refine VO.step rfl rfl ?_ | refine VD.end rfl rfl rfl ?_ | refine VD.mid rfl rfl rfl ?_)
  refine OpV.append st_35 rfl rfl .head (fun w hw => ((hr _).sees hw).src st_35.und) (by decide) (by decide) rfl ?_
  intro ao' cap'
  simp only [Nat.zero_add, List.nil_append]
  (refine w ?_; repeat ((first | refine VO.step rfl rfl ?_ | refine VD.end rfl rfl rfl ?_ | refine VD.mid rfl rfl rfl ?_); refine OpV.box rfl rfl rfl ?_; intro _; refine w ?_))
  (apply VO.pure rfl rfl; apply PureAt.build sb_189 rfl; (simp [buildX, setL, Value.cells]; rfl); rfl)
  (first | refine VO.step rfl rfl ?_ | refine VD.end rfl rfl rfl ?_ | refine VD.mid rfl rfl rfl ?_)
  refine OpV.buildSlice (vs := [.agg #[.int .i64 (a : Int), .slice ao' 128 cap']]) (cs := [.int .i64 (a : Int), .slice ao' 128 cap']) st_155 rfl rfl (by simp [Value.cells]) (by simp [Value.cells]) (by decide) rfl ?_
  intro nb
  (first | refine VO.step rfl rfl ?_ | refine VD.end rfl rfl rfl ?_ | refine VD.mid rfl rfl rfl ?_)
  refine OpV.appendRow st_155 rfl rfl (by (repeat first | exact .head | apply Hole.tail)) (by (focus repeat first | exact .head _ | apply List.Mem.tail)) rfl (by simp [Value.oneCell']) ?_ ?_ rfl ?_
  · simp only [maxLen]; omega
  · omega
  intro co' cc'
  (refine w ?_; repeat ((first | refine VO.step rfl rfl ?_ | refine VD.end rfl rfl rfl ?_ | refine VD.mid rfl rfl rfl ?_); refine OpV.box rfl rfl rfl ?_; intro _; refine w ?_))
  (refine VE.done1 rfl ?_ ?_)
  · rfl
  · have er : Own 5 1 (.slice ao' 128 cap') 128 (bytes b) = ListE.res ⟨ao', cap', bytes b⟩ := by unfold ListE.res; simp only [bytes_length, hb8]
    have hb9 : (bytes b).length = 128 := by rw [bytes_length, hb8]
    have := DocR.shut (W := W) (R := R) (d := d) (k := k.write a b) (lo := lo) (lc := lc) (co := co') (cc := cc') (C := C ++ [(a, ⟨ao', cap', bytes b⟩)]) (DiskD.write_okk hk ha hb8) (by
      unfold Fits at hf ⊢
      rw [List.map_append, hf]
      show _ = (k.cache ++ [(a, b)]).map _
      rw [List.map_append]; rfl)
    refine Ent.trans ?_ this
    have e2 : (k.write a b).last = k.last := rfl
    have e3 : (k.write a b).failed = k.failed := rfl
    have e4 : wcs (C ++ [(a, (⟨ao', cap', bytes b⟩ : ListE))]) = wcs C ++ [.int .i64 (a : Int), .slice ao' 128 cap'] := by
      unfold wcs; rw [List.flatMap_append]; simp [ListE.hdr, hb8]
    simp only [DocO, e2, e3, e4, List.length_append, List.length_singleton, List.map_append, List.map_cons, List.map_nil, List.append_assoc, List.cons_append, List.nil_append]
    rw [er]
    intro w hw
    refine Holds.perm ?_ (hw.tail)
    exact (List.perm_middle (l₁ := _ :: _ :: _ :: C.map (fun c => c.2.res))).symm
end Go.Proofs.Ythefmgmgmoanlaa
