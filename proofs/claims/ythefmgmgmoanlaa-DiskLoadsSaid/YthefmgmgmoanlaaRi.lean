/- DiskLoads: much, pair.does. -/
import Derived.Test.YthefmgmgmoanlaaRh
import Derived.Test.YthefmgmgmoanlaaDp
import Derived.Test.YthefmgmgmoanlaaBa
set_option maxRecDepth 8000
set_option linter.unusedVariables false
set_option linter.unusedSimpArgs false
set_option linter.unusedSectionVars false
namespace Go.Proofs.Ythefmgmgmoanlaa
open Go.RowKit Go.Sl
attribute [local irreducible] Own

theorem Book2.rdsE {W : World} {b : Nat} {E : List ListE} {F : List ListI} {R : List SProp} {e : ListE} {n : Nat} {xs : List Value} (he : e ∈ E) (hx : e.xs = xs) (hn : xs.length = n) (h1 : ∀ u ∈ xs, u.oneCell' = true) (h0 : e.ao = none → n = 0) : Rds W (Book2 b E F :: R) 1 e.ao n xs := by
  subst hx; subst hn
  exact ⟨by rw [Nat.mul_one], h1, h0, fun w hw a ha j v hv => by
    obtain ⟨x, h⟩ := Book2.open hw
    have hm : e.res ∈ BookO b E F x R := .tail _ (.tail _ (.tail _ (List.mem_append_left _ (List.mem_map.2 ⟨e, he, rfl⟩))))
    exact (Rds.own h1 hm (by rw [Nat.mul_one]) h0).cell w h a ha j v hv⟩
theorem Book2.rdsI {W : World} {b : Nat} {E : List ListE} {F : List ListI} {R : List SProp} {e : ListI} {n : Nat} {xs : List Value} (he : e ∈ F) (hx : e.xs = xs) (hn : xs.length = n) (h1 : ∀ u ∈ xs, u.oneCell' = true) (h0 : e.ao = none → n = 0) : Rds W (Book2 b E F :: R) 1 e.ao n xs := by
  subst hx; subst hn
  exact ⟨by rw [Nat.mul_one], h1, h0, fun w hw a ha j v hv => by
    obtain ⟨x, h⟩ := Book2.open hw
    have hm : e.res ∈ BookO b E F x R := .tail _ (.tail _ (.tail _ (List.mem_append_right _ (List.mem_append_left _ (List.mem_map.2 ⟨e, he, rfl⟩)))))
    exact (Rds.own h1 hm (by rw [Nat.mul_one]) h0).cell w h a ha j v hv⟩

def Inv (c : Nat) (k : DiskD) (E : List ListE) (F : List ListI) : Prop := k.cache.length ≤ c ∧ E.length ≤ c ∧ F.length ≤ c ∧ (∀ e ∈ E, e.xs.length ≤ 1000000000) ∧ ∀ e ∈ F, e.xs.length ≤ 1000000000
theorem Inv.up {c : Nat} {k : DiskD} {E : List ListE} {F : List ListI} (h : Inv c k E F) : Inv (c + 1) k E F := by
  obtain ⟨h1, h2, h3, h4, h5⟩ := h; exact ⟨by omega, by omega, by omega, h4, h5⟩
theorem Inv.disk {c : Nat} {k k' : DiskD} {E : List ListE} {F : List ListI} (h : Inv c k E F) (hk : k'.cache.length ≤ c + 1) : Inv (c + 1) k' E F := by
  obtain ⟨h1, h2, h3, h4, h5⟩ := h; exact ⟨hk, by omega, by omega, h4, h5⟩
theorem Inv.bytes {c : Nat} {k : DiskD} {E : List ListE} {F : List ListI} {e : ListE} (h : Inv c k E F) (he : e.xs.length ≤ 1000000000) : Inv (c + 1) k (E ++ [e]) F := by
  obtain ⟨h1, h2, h3, h4, h5⟩ := h
  refine ⟨by omega, by rw [List.length_append, List.length_singleton]; omega, by omega, fun x hx => ?_, h5⟩
  rcases List.mem_append.1 hx with q | q
  · exact h4 x q
  · rw [List.mem_singleton] at q; subst q; exact he
theorem Inv.ints {c : Nat} {k : DiskD} {E : List ListE} {F : List ListI} {e : ListI} (h : Inv c k E F) (he : e.xs.length ≤ 1000000000) : Inv (c + 1) k E (F ++ [e]) := by
  obtain ⟨h1, h2, h3, h4, h5⟩ := h
  refine ⟨by omega, by omega, by rw [List.length_append, List.length_singleton]; omega, h4, fun x hx => ?_⟩
  rcases List.mem_append.1 hx with q | q
  · exact h5 x q
  · rw [List.mem_singleton] at q; subst q; exact he
theorem may_wrap (k : DiskD) (a : Int) : IntKind.i64.wrap (k.may a) = k.may a := by
  unfold DiskD.may; split
  · rfl
  · split <;> rfl

abbrev PairO (p d r b : Nat) (k : DiskD) (E : List ListE) (F : List ListI) (R : List SProp) : List SProp :=
  Row p 104 [.pointer (some ⟨d, 0, none⟩), .pointer (some ⟨r, 0, none⟩), .pointer (some ⟨b, 0, none⟩)] :: DiskR d k :: DocR r k :: Book2 b E F :: R

theorem rdsNil {W : World} {R : List SProp} : Rds W R 1 none 0 (bytes []) := by
  refine ⟨rfl, fun _ h => ?_, fun _ => rfl, fun _ _ _ h => ?_⟩
  · cases h
  · cases h
theorem resE_of {W : World} {R : List SProp} {a : Option Addr} {n cap : Nat} {l : List UInt8} (h : l.length = n) : Ent W (Own 5 1 (.slice a n cap) n (bytes l) :: R) (ListE.res ⟨a, cap, bytes l⟩ :: R) := by
  have : ListE.res ⟨a, cap, bytes l⟩ = Own 5 1 (.slice a n cap) n (bytes l) := by unfold ListE.res; simp only [bytes_length, h]
  rw [this]; exact Ent.refl
theorem resI_of {W : World} {R : List SProp} {a : Option Addr} {n cap : Nat} {l : List Nat} (h : l.length = n) : Ent W (Own 3 1 (.slice a n cap) n (ints l) :: R) (ListI.res ⟨a, cap, ints l⟩ :: R) := by
  have : ListI.res ⟨a, cap, ints l⟩ = Own 3 1 (.slice a n cap) n (ints l) := by unfold ListI.res; simp only [ints_length, h]
  rw [this]; exact Ent.refl

/-! The document's calls, each in one form -/
theorem docrd_ok {W : World} {R : List SProp} (d : Nat) (k : DiskD) (a : Int) (hcl : k.cache.length ≤ 1000000) :
    Does W Try.prog 97 [.pointer (some ⟨d, 0, none⟩), .int .i64 a] (DocR d k :: R) (β := Option Addr × Nat) (fun x => x.1 = none → (k.rd a).1.length = 0) (fun x => .tuple #[sliceB x (k.rd a).1, .int .i64 (k.rd a).2]) (fun x => OwnB x (k.rd a).1 :: DocR d k :: R) := by
  refine DoesA (A := fun _ => True) ?_ (fun x _ w hw => hw.ownNone (.head _))
  by_cases h : k.may a = 0
  · obtain ⟨hf, h0, h1⟩ := may_zero h
    obtain ⟨n, rfl⟩ := Int.eq_ofNat_of_zero_le h0
    have hn : n < k.last.length := by omega
    have e : k.rd (n : Int) = (k.look n, 0) := by unfold DiskD.rd; rw [if_pos h]; rfl
    rw [e]
    refine DoesO (fun w => DocR.open) fun ⟨x, hx⟩ => ?_
    refine DoesE (DocR.shut hx.1 hx.2) ?_
    have hl := DiskD.look_128 hx.1 hn
    refine Does.mono (docread_ok d k n hf hn hcl) id (fun _ _ => trivial) (fun x _ => by simp only [sliceB, hl]; rfl) fun x _ => ?_
    simp only [OwnB, hl, id]; exact Ent.refl
  · have e : k.rd a = ([], k.may a) := by unfold DiskD.rd; rw [if_neg h]
    rw [e]
    exact Does1M (docread_bad d k a h) (none, 0) trivial rfl fun w hw => hw.ownNil 5 1
theorem docwr_ok {W : World} {R : List SProp} {ao : Option Addr} {cap : Nat} {b : List UInt8} (d : Nat) (k : DiskD) (a : Int) (hc : k.cache.length ≤ 1000000) (hr : RdsA W 1 ao b.length (bytes b)) :
    Does1 W Try.prog 98 [.pointer (some ⟨d, 0, none⟩), .int .i64 a, .slice ao b.length cap] (DocR d k :: R) (.int .i64 (k.wr a b).1) (DocR d (k.wr a b).2 :: R) := by
  unfold DiskD.wr
  by_cases h : k.may a = 0
  · rw [if_neg (by simpa using h)]
    by_cases hb : b.length = 128
    · rw [if_neg (by simpa using hb)]
      obtain ⟨hf, h0, h1⟩ := may_zero h
      obtain ⟨n, rfl⟩ := Int.eq_ofNat_of_zero_le h0
      rw [hb] at hr ⊢
      exact docwrite_ok d k n (by omega) hf hb hc hr
    · rw [if_pos hb]; exact docwrite_len d k a h hb
  · rw [if_pos h]; exact docwrite_bad d k a h
theorem docfl_ok {W : World} {R : List SProp} (d : Nat) (k : DiskD) (hc : k.cache.length ≤ 1000000) :
    Does1 W Try.prog 99 [.pointer (some ⟨d, 0, none⟩)] (DocR d k :: R) (.int .i64 k.fl.1) (DocR d k.fl.2 :: R) := by
  unfold DiskD.fl
  cases h : k.failed
  · exact docflush_ok d k h hc
  · exact docflush_bad d k h
theorem docimg_ok {W : World} {R : List SProp} (d : Nat) (k : DiskD) :
    Does W Try.prog 106 [.pointer (some ⟨d, 0, none⟩)] (DocR d k :: R) (β := Option Addr × Nat) (fun x => x.1 = none → k.img.length = 0) (fun x => sliceB x k.img) (fun x => OwnB x k.img :: DocR d k :: R) := by
  refine DoesA (A := fun _ => True) ?_ (fun x _ w hw => hw.ownNone (.head _))
  unfold DiskD.img
  cases h : k.failed
  · exact docimage_ok d k h
  · exact Does1M (docimage_bad d k h) (none, 0) trivial rfl fun w hw => hw.ownNil 5 1
theorem DiskD.img_len {k : DiskD} (hk : k.ok) : k.img.length ≤ 1048576 := by
  unfold DiskD.img; split
  · simp
  · have := Go.Proofs.Ythefmgmgmoanlaa.img_len hk; have := hk.size; omega
theorem DiskD.rd_len {k : DiskD} (hk : k.ok) (a : Int) : (k.rd a).1.length ≤ 128 := by
  unfold DiskD.rd; split
  · rename_i h
    obtain ⟨_, h0, h1⟩ := may_zero h
    have := DiskD.look_128 hk (a := a.toNat) (by omega)
    dsimp only; omega
  · simp
theorem i64_small {n : Int} (h0 : 0 ≤ n) (h1 : n ≤ 100) : IntKind.i64.wrap n = n := IntWalk.i64_in _ ⟨by omega, by omega⟩
theorem may_small (k : DiskD) (a : Int) : 0 ≤ k.may a ∧ k.may a ≤ 3 := by rcases k.may_cases a with h | h | h <;> rw [h] <;> decide
theorem rd_small (k : DiskD) (a : Int) : 0 ≤ (k.rd a).2 ∧ (k.rd a).2 ≤ 100 := by
  have := may_small k a
  unfold DiskD.rd; split <;> dsimp only <;> omega
theorem wr_small (k : DiskD) (a : Int) (b : List UInt8) : 0 ≤ (k.wr a b).1 ∧ (k.wr a b).1 ≤ 100 := by
  have := may_small k a
  unfold DiskD.wr; split
  · dsimp only; omega
  · split <;> simp
theorem fl_small (k : DiskD) : 0 ≤ k.fl.1 ∧ k.fl.1 ≤ 100 := by unfold DiskD.fl; split <;> simp
theorem DocR.failedCell {W : World} {H : List SProp} {d : Nat} {k : DiskD} (m : DocR d k ∈ H) : ∀ w, Holds W H w → w.cell? ⟨d, 2, none⟩ = some (.bool k.failed) := by
  intro w hw
  obtain ⟨R, p⟩ := mem_perm m
  obtain ⟨x, h⟩ := DocR.open (hw.perm p)
  exact h.cell (.head _) rfl
theorem sets_never : ∀ (l : List (Nat × List UInt8)) (last : List (List UInt8)) (i : Nat), sets (fun _ => false) last i l = last
  | [], _, _ => rfl
  | x :: r, last, i => by rw [sets, if_neg (by simp), sets_never r]
theorem sets_false (k : DiskD) : (DiskD.mk k.last k.cache true).settle (fun _ => false) = ⟨k.last, [], true⟩ := by unfold DiskD.settle; rw [sets_never]
theorem resE_eq (x : Option Addr × Nat) (l : List UInt8) : OwnB x l = ListE.res ⟨x.1, x.2, bytes l⟩ := by unfold ListE.res; simp only [bytes_length]

set_option maxHeartbeats 8000000 in
theorem does_ok {W : World} {R : List SProp} {c : Nat} {o : ActD} (p d r b : Nat) (k : DiskD) (E : List ListE) (F : List ListI) (hwf : o.wf W) (hdl : o.data.length ≤ 4000000) (hkl : o.keep.length ≤ 4000000) (hc5 : c ≤ 1000) (hi : Inv c k E F) :
    Does W Try.prog 57 [.pointer (some ⟨p, 0, none⟩), .agg o.cells.toArray] (PairO p d r b k E F R) (β := DiskD × List ListE × List ListI)
      (fun x => x.1.last.length = k.last.length ∧ Inv (c + 1) x.1 x.2.1 x.2.2) (fun _ => .bool true) (fun x => PairO p d r b x.1 x.2.1 x.2.2 R) := by
  obtain ⟨i1, i2, i3, i4, i5⟩ := id hi
  obtain ⟨kind, at_, dao, dcap, data, kao, kcap, keep⟩ := o
  dsimp only at hdl hkl
  have wfd : RdsA W 1 dao data.length (bytes data) := hwf.data
  have wfk : RdsA W 1 kao keep.length (bools keep) := hwf.keep
  (refine Does.enter Try.func57 Try.ntmps57 rfl rfl ?_)
  refine VC.know (fun w hw => DiskR.know hw.tail : ∀ w, _ → k.ok) ?_
  intro hk
  dsimp only [PairO]
  (refine w ?_; repeat ((first | refine VO.step rfl rfl ?_ | refine VD.end rfl rfl rfl ?_ | refine VD.mid rfl rfl rfl ?_); refine OpV.box rfl rfl rfl ?_; intro _; refine w ?_))
  rename_i ab
  (first | refine VO.pure rfl rfl (PureAt.rem (b := 9) rfl rfl (by decide)) rfl ?_ | refine VD.take rfl rfl rfl (PureAt.rem (b := 9) rfl rfl (by decide)) rfl ?_ | refine VQ.pure rfl rfl (PureAt.rem (b := 9) rfl rfl (by decide)) rfl ?_ | refine VD.end rfl rfl rfl (OpV.pure (PureAt.rem (b := 9) rfl rfl (by decide)) rfl ?_))
  (refine w ?_; repeat ((first | refine VO.step rfl rfl ?_ | refine VD.end rfl rfl rfl ?_ | refine VD.mid rfl rfl rfl ?_); refine OpV.box rfl rfl rfl ?_; intro _; refine w ?_))
  have hm9 : kind.toNat % 9 < 9 := Nat.mod_lt _ (by decide)
  generalize kind.toNat % 9 = m at *
  (refine VC.cond rfl rfl ?_ ?_ <;> intro hc)
  · -- Read
    (refine w ?_; repeat ((first | refine VO.step rfl rfl ?_ | refine VD.end rfl rfl rfl ?_ | refine VD.mid rfl rfl rfl ?_); refine OpV.box rfl rfl rfl ?_; intro _; refine w ?_))
    (refine VC.drawn [6] 11 [0, 1, 2, 3, 4, 5, 6, 7, 8, 9, 10, 11] _ rfl (by kernel_rfl) (by kernel_rfl) Ent.re ?_)
    (refine w ?_; repeat ((first | refine VO.step rfl rfl ?_ | refine VD.end rfl rfl rfl ?_ | refine VD.mid rfl rfl rfl ?_); refine OpV.box rfl rfl rfl ?_; intro _; refine w ?_))
    ((first | refine VO.step rfl rfl ?_ | refine VD.end rfl rfl rfl ?_ | refine VD.mid rfl rfl rfl ?_); refine OpV.call rfl rfl (fun _ _ => by simp) (drd_ok d k at_) Ent.re rfl ?_)
    intro x hx
    (refine w ?_; repeat ((first | refine VO.step rfl rfl ?_ | refine VD.end rfl rfl rfl ?_ | refine VD.mid rfl rfl rfl ?_); refine OpV.box rfl rfl rfl ?_; intro _; refine w ?_))
    (refine VC.drawn [6] 11 [0, 1, 2, 3, 4, 5, 6, 7, 8, 9, 10, 11] _ rfl (by kernel_rfl) (by kernel_rfl) Ent.re ?_)
    (refine w ?_; repeat ((first | refine VO.step rfl rfl ?_ | refine VD.end rfl rfl rfl ?_ | refine VD.mid rfl rfl rfl ?_); refine OpV.box rfl rfl rfl ?_; intro _; refine w ?_))
    ((first | refine VO.step rfl rfl ?_ | refine VD.end rfl rfl rfl ?_ | refine VD.mid rfl rfl rfl ?_); refine OpV.call rfl rfl (fun _ _ => by simp) (docrd_ok r k at_ (by omega)) Ent.re rfl ?_)
    intro y hy
    have hrl := DiskD.rd_len hk at_
    (refine w ?_; repeat ((first | refine VO.step rfl rfl ?_ | refine VD.end rfl rfl rfl ?_ | refine VD.mid rfl rfl rfl ?_); refine OpV.box rfl rfl rfl ?_; intro _; refine w ?_))
    refine VO.re 48 (.slice x.1 (bytes (k.rd at_).1).length x.2) rfl (by rw [bytes_length]; rfl) ?_
    rw [resE_eq x]
    (((first | refine VO.step rfl rfl ?_ | refine VD.end rfl rfl rfl ?_ | refine VD.mid rfl rfl rfl ?_); refine OpV.call rfl rfl (fun _ _ => by simp) (book2bytes_ok b E F ⟨x.1, x.2, bytes (k.rd at_).1⟩ (by omega)) Ent.re rfl ?_); intro _ _)
    (refine w ?_; repeat ((first | refine VO.step rfl rfl ?_ | refine VD.end rfl rfl rfl ?_ | refine VD.mid rfl rfl rfl ?_); refine OpV.box rfl rfl rfl ?_; intro _; refine w ?_))
    (first | refine VO.gT rfl rfl rfl (by rw [i64_small (rd_small k at_).1 (rd_small k at_).2]; simp) ?_ | refine VD.gT rfl rfl rfl (by rw [i64_small (rd_small k at_).1 (rd_small k at_).2]; simp) ?_)
    (refine w ?_; repeat ((first | refine VO.step rfl rfl ?_ | refine VD.end rfl rfl rfl ?_ | refine VD.mid rfl rfl rfl ?_); refine OpV.box rfl rfl rfl ?_; intro _; refine w ?_))
    have g1 : ∀ X : List SProp, Rds W (Book2 b (E ++ [⟨x.1, x.2, bytes (k.rd at_).1⟩]) F :: X) 1 x.1 (k.rd at_).1.length (bytes (k.rd at_).1) := fun X => Book2.rdsE (e := ⟨x.1, x.2, bytes (k.rd at_).1⟩) (List.mem_append_right _ (List.mem_singleton.2 rfl)) rfl (bytes_length _) (bytes_one _) hx
    ((first | refine VO.step rfl rfl ?_ | refine VD.end rfl rfl rfl ?_ | refine VD.mid rfl rfl rfl ?_); refine OpV.call rfl rfl (fun _ _ => by simp) (same_any (a := (k.rd at_).1) (b := (k.rd at_).1) (g1 _) (Rds.own (bytes_one _) (by (focus repeat first | exact .head _ | apply List.Mem.tail)) (by rw [bytes_length, Nat.mul_one]) hy) (by simp only [maxLen]; omega)) Ent.refl rfl ?_; intro _ _)
    (refine w ?_; repeat ((first | refine VO.step rfl rfl ?_ | refine VD.end rfl rfl rfl ?_ | refine VD.mid rfl rfl rfl ?_); refine OpV.box rfl rfl rfl ?_; intro _; refine w ?_))
    refine VE.done (k, E ++ [⟨x.1, x.2, bytes (k.rd at_).1⟩], F) rfl ⟨rfl, hi.bytes (by simp only [bytes_length]; omega)⟩ (by simp) Ent.re
  (refine w ?_; repeat ((first | refine VO.step rfl rfl ?_ | refine VD.end rfl rfl rfl ?_ | refine VD.mid rfl rfl rfl ?_); refine OpV.box rfl rfl rfl ?_; intro _; refine w ?_))
  refine VC.joinH [(0, .pointer (some ⟨p, 0, none⟩)), (3, .pointer (some ⟨ab, 0, none⟩)), (21, .int .u8 (m : Int)), (59, .bool (decide (m = 1 ∨ m = 2)))] ?_ ?_
  · intro Q2 jn
    (refine VC.cond rfl rfl ?_ ?_ <;> intro hc)
    · have h1 : m = 1 := by have q : (m : Int) = 1 := (by simpa using hc); omega
      (refine w ?_; repeat ((first | refine VO.step rfl rfl ?_ | refine VD.end rfl rfl rfl ?_ | refine VD.mid rfl rfl rfl ?_); refine OpV.box rfl rfl rfl ?_; intro _; refine w ?_))
      exact jn.to () trivial ⟨rfl, rfl, rfl, asV rfl (by simp [h1]), trivial⟩ Ent.re
    · have h1 : m ≠ 1 := by have q : ¬ (m : Int) = 1 := (by simpa using hc); omega
      (refine w ?_; repeat ((first | refine VO.step rfl rfl ?_ | refine VD.end rfl rfl rfl ?_ | refine VD.mid rfl rfl rfl ?_); refine OpV.box rfl rfl rfl ?_; intro _; refine w ?_))
      exact jn.to () trivial ⟨rfl, rfl, rfl, asV rfl (by congr 1; rw [Bool.eq_iff_iff]; simp; omega), trivial⟩ Ent.re
  (refine VC.cond rfl rfl ?_ ?_ <;> intro hc)
  · -- Write
    (refine w ?_; repeat ((first | refine VO.step rfl rfl ?_ | refine VD.end rfl rfl rfl ?_ | refine VD.mid rfl rfl rfl ?_); refine OpV.box rfl rfl rfl ?_; intro _; refine w ?_))
    ((first | refine VO.step rfl rfl ?_ | refine VD.end rfl rfl rfl ?_ | refine VD.mid rfl rfl rfl ?_); refine OpV.call rfl rfl (fun _ _ => by simp) (lent_ok (l := data) wfd (by omega)) Ent.re rfl ?_)
    rintro ⟨la, lc⟩ _
    (refine w ?_; repeat ((first | refine VO.step rfl rfl ?_ | refine VD.end rfl rfl rfl ?_ | refine VD.mid rfl rfl rfl ?_); refine OpV.box rfl rfl rfl ?_; intro _; refine w ?_))
    (refine VC.drawn [] 7 [0, 1, 2, 3, 4, 5, 6, 7, 8] _ rfl (by kernel_rfl) (by kernel_rfl) Ent.re ?_)
    (refine w ?_; repeat ((first | refine VO.step rfl rfl ?_ | refine VD.end rfl rfl rfl ?_ | refine VD.mid rfl rfl rfl ?_); refine OpV.box rfl rfl rfl ?_; intro _; refine w ?_))
    refine VD.ent (Reord.ent (L := DiskR d k :: LentO la lc data :: Row ab 53 (ActD.cells ⟨kind, at_, dao, dcap, data, kao, kcap, keep⟩) :: Row p 104 [.pointer (some ⟨d, 0, none⟩), .pointer (some ⟨r, 0, none⟩), .pointer (some ⟨b, 0, none⟩)] :: DocR r k :: Book2 b E F :: R) (by (repeat first | exact .refl | (apply Reord.cons; focus repeat first | exact .head | apply Del.tail) | exact .nil | apply Reord.drop))) ?_
    ((first | refine VO.step rfl rfl ?_ | refine VD.end rfl rfl rfl ?_ | refine VD.mid rfl rfl rfl ?_); refine OpV.call rfl rfl (fun _ _ => by simp) (dwr_ok (b := data) d k at_ (by omega) LentO.rds) Ent.refl rfl ?_)
    intro _ _
    (refine w ?_; repeat ((first | refine VO.step rfl rfl ?_ | refine VD.end rfl rfl rfl ?_ | refine VD.mid rfl rfl rfl ?_); refine OpV.box rfl rfl rfl ?_; intro _; refine w ?_))
    (refine VC.drawn [] 8 [0, 1, 2, 3, 4, 5, 6, 7, 8, 9] _ rfl (by kernel_rfl) (by kernel_rfl) Ent.re ?_)
    (refine w ?_; repeat ((first | refine VO.step rfl rfl ?_ | refine VD.end rfl rfl rfl ?_ | refine VD.mid rfl rfl rfl ?_); refine OpV.box rfl rfl rfl ?_; intro _; refine w ?_))
    (((first | refine VO.step rfl rfl ?_ | refine VD.end rfl rfl rfl ?_ | refine VD.mid rfl rfl rfl ?_); refine OpV.call rfl rfl (fun _ _ => by simp) (docwr_ok (b := data) r k at_ (by omega) wfd) Ent.re rfl ?_); intro _ _)
    (refine w ?_; repeat ((first | refine VO.step rfl rfl ?_ | refine VD.end rfl rfl rfl ?_ | refine VD.mid rfl rfl rfl ?_); refine OpV.box rfl rfl rfl ?_; intro _; refine w ?_))
    (((first | refine VO.step rfl rfl ?_ | refine VD.end rfl rfl rfl ?_ | refine VD.mid rfl rfl rfl ?_); refine OpV.call rfl rfl (fun _ _ => by simp) (whole_ok (a := la) (cap := lc) (l := data) wfd (by omega)) Ent.re rfl ?_); intro _ _)
    (refine w ?_; repeat ((first | refine VO.step rfl rfl ?_ | refine VD.end rfl rfl rfl ?_ | refine VD.mid rfl rfl rfl ?_); refine OpV.box rfl rfl rfl ?_; intro _; refine w ?_))
    refine VO.know (fun w hw => Holds.ownCap hw (show LentO la lc data ∈ _ by (focus repeat first | exact .head _ | apply List.Mem.tail)) : ∀ w, _ → data.length + 2 ≤ lc) ?_
    intro hlc
    (((first | refine VO.step rfl rfl ?_ | refine VD.end rfl rfl rfl ?_ | refine VD.mid rfl rfl rfl ?_); refine OpV.call rfl rfl (fun _ _ => by simp) (spoil_ok (n := data.length) (show data.length ≤ lc by omega)) Ent.re rfl ?_); intro _ _)
    (refine w ?_; repeat ((first | refine VO.step rfl rfl ?_ | refine VD.end rfl rfl rfl ?_ | refine VD.mid rfl rfl rfl ?_); refine OpV.box rfl rfl rfl ?_; intro _; refine w ?_))
    (first | refine VO.gT rfl rfl rfl (by rw [i64_small (wr_small k at_ data).1 (wr_small k at_ data).2]; simp) ?_ | refine VD.gT rfl rfl rfl (by rw [i64_small (wr_small k at_ data).1 (wr_small k at_ data).2]; simp) ?_)
    (refine w ?_; repeat ((first | refine VO.step rfl rfl ?_ | refine VD.end rfl rfl rfl ?_ | refine VD.mid rfl rfl rfl ?_); refine OpV.box rfl rfl rfl ?_; intro _; refine w ?_))
    refine VE.done ((k.wr at_ data).2, E, F) rfl ⟨?_, hi.disk ?_⟩ (by simp) Ent.re
    · unfold DiskD.wr; split; rfl; split <;> rfl
    · unfold DiskD.wr; split
      · dsimp only; omega
      · split
        · dsimp only; omega
        · show (k.cache ++ [_]).length ≤ _
          rw [List.length_append, List.length_singleton]; omega
  (refine w ?_; repeat ((first | refine VO.step rfl rfl ?_ | refine VD.end rfl rfl rfl ?_ | refine VD.mid rfl rfl rfl ?_); refine OpV.box rfl rfl rfl ?_; intro _; refine w ?_))
  (refine VC.cond rfl rfl ?_ ?_ <;> intro hc)
  · -- Flush
    (refine w ?_; repeat ((first | refine VO.step rfl rfl ?_ | refine VD.end rfl rfl rfl ?_ | refine VD.mid rfl rfl rfl ?_); refine OpV.box rfl rfl rfl ?_; intro _; refine w ?_))
    (((first | refine VO.step rfl rfl ?_ | refine VD.end rfl rfl rfl ?_ | refine VD.mid rfl rfl rfl ?_); refine OpV.call rfl rfl (fun _ _ => by simp) (dfl_ok d k) Ent.re rfl ?_); intro _ _)
    (refine w ?_; repeat ((first | refine VO.step rfl rfl ?_ | refine VD.end rfl rfl rfl ?_ | refine VD.mid rfl rfl rfl ?_); refine OpV.box rfl rfl rfl ?_; intro _; refine w ?_))
    (((first | refine VO.step rfl rfl ?_ | refine VD.end rfl rfl rfl ?_ | refine VD.mid rfl rfl rfl ?_); refine OpV.call rfl rfl (fun _ _ => by simp) (docfl_ok r k (by omega)) Ent.re rfl ?_); intro _ _)
    (refine w ?_; repeat ((first | refine VO.step rfl rfl ?_ | refine VD.end rfl rfl rfl ?_ | refine VD.mid rfl rfl rfl ?_); refine OpV.box rfl rfl rfl ?_; intro _; refine w ?_))
    refine VE.done (k.fl.2, E, F) rfl ⟨?_, hi.disk ?_⟩ (by rw [i64_small (fl_small k).1 (fl_small k).2]; simp) Ent.re
    · unfold DiskD.fl; split; rfl; exact sets_length _ _ _ _
    · unfold DiskD.fl; split
      · dsimp only; omega
      · exact Nat.zero_le _
  (refine w ?_; repeat ((first | refine VO.step rfl rfl ?_ | refine VD.end rfl rfl rfl ?_ | refine VD.mid rfl rfl rfl ?_); refine OpV.box rfl rfl rfl ?_; intro _; refine w ?_))
  (refine VC.cond rfl rfl ?_ ?_ <;> intro hc)
  · -- Crash
    (refine w ?_; repeat ((first | refine VO.step rfl rfl ?_ | refine VD.end rfl rfl rfl ?_ | refine VD.mid rfl rfl rfl ?_); refine OpV.box rfl rfl rfl ?_; intro _; refine w ?_))
    ((first | refine VO.step rfl rfl ?_ | refine VD.end rfl rfl rfl ?_ | refine VD.mid rfl rfl rfl ?_); refine OpV.call rfl rfl (fun _ _ => by simp) (lentb_ok (l := keep) wfk (by omega)) Ent.re rfl ?_)
    rintro ⟨la, lc⟩ _
    (refine w ?_; repeat ((first | refine VO.step rfl rfl ?_ | refine VD.end rfl rfl rfl ?_ | refine VD.mid rfl rfl rfl ?_); refine OpV.box rfl rfl rfl ?_; intro _; refine w ?_))
    refine VO.ent (Reord.ent (L := DiskR d k :: LentB la lc keep :: Row ab 53 (ActD.cells ⟨kind, at_, dao, dcap, data, kao, kcap, keep⟩) :: Row p 104 [.pointer (some ⟨d, 0, none⟩), .pointer (some ⟨r, 0, none⟩), .pointer (some ⟨b, 0, none⟩)] :: DocR r k :: Book2 b E F :: R) (by (repeat first | exact .refl | (apply Reord.cons; focus repeat first | exact .head | apply Del.tail) | exact .nil | apply Reord.drop))) ?_
    ((first | refine VO.step rfl rfl ?_ | refine VD.end rfl rfl rfl ?_ | refine VD.mid rfl rfl rfl ?_); refine OpV.call rfl rfl (fun _ _ => by simp) (crash_ok (l := keep) d k LentB.rds) Ent.refl rfl ?_)
    intro _ _
    (refine w ?_; repeat ((first | refine VO.step rfl rfl ?_ | refine VD.end rfl rfl rfl ?_ | refine VD.mid rfl rfl rfl ?_); refine OpV.box rfl rfl rfl ?_; intro _; refine w ?_))
    (refine VC.drawn [] 6 [0, 1, 2, 3, 4, 5, 6] _ rfl (by kernel_rfl) (by kernel_rfl) Ent.re ?_)
    (refine w ?_; repeat ((first | refine VO.step rfl rfl ?_ | refine VD.end rfl rfl rfl ?_ | refine VD.mid rfl rfl rfl ?_); refine OpV.box rfl rfl rfl ?_; intro _; refine w ?_))
    (((first | refine VO.step rfl rfl ?_ | refine VD.end rfl rfl rfl ?_ | refine VD.mid rfl rfl rfl ?_); refine OpV.call rfl rfl (fun _ _ => by simp) (doccrash_ok (lk := keep) r k (by omega) wfk) Ent.re rfl ?_); intro _ _)
    (refine w ?_; repeat ((first | refine VO.step rfl rfl ?_ | refine VD.end rfl rfl rfl ?_ | refine VD.mid rfl rfl rfl ?_); refine OpV.box rfl rfl rfl ?_; intro _; refine w ?_))
    (((first | refine VO.step rfl rfl ?_ | refine VD.end rfl rfl rfl ?_ | refine VD.mid rfl rfl rfl ?_); refine OpV.call rfl rfl (fun _ _ => by simp) (wholeb_ok (a := la) (cap := lc) (l := keep) wfk (by omega)) Ent.re rfl ?_); intro _ _)
    (refine w ?_; repeat ((first | refine VO.step rfl rfl ?_ | refine VD.end rfl rfl rfl ?_ | refine VD.mid rfl rfl rfl ?_); refine OpV.box rfl rfl rfl ?_; intro _; refine w ?_))
    refine VO.know (fun w hw => Holds.ownCap hw (show LentB la lc keep ∈ _ by (focus repeat first | exact .head _ | apply List.Mem.tail)) : ∀ w, _ → keep.length + 2 ≤ lc) ?_
    intro hlc
    (((first | refine VO.step rfl rfl ?_ | refine VD.end rfl rfl rfl ?_ | refine VD.mid rfl rfl rfl ?_); refine OpV.call rfl rfl (fun _ _ => by simp) (spoilb_ok (n := keep.length) (show keep.length ≤ lc by omega)) Ent.re rfl ?_); intro _ _)
    (refine w ?_; repeat ((first | refine VO.step rfl rfl ?_ | refine VD.end rfl rfl rfl ?_ | refine VD.mid rfl rfl rfl ?_); refine OpV.box rfl rfl rfl ?_; intro _; refine w ?_))
    refine VE.done (k.settle (keepOf keep), E, F) rfl ⟨sets_length _ _ _ _, hi.disk (Nat.zero_le _)⟩ (by simp) Ent.re
  (refine w ?_; repeat ((first | refine VO.step rfl rfl ?_ | refine VD.end rfl rfl rfl ?_ | refine VD.mid rfl rfl rfl ?_); refine OpV.box rfl rfl rfl ?_; intro _; refine w ?_))
  (refine VC.cond rfl rfl ?_ ?_ <;> intro hc)
  · -- Pending
    (refine w ?_; repeat ((first | refine VO.step rfl rfl ?_ | refine VD.end rfl rfl rfl ?_ | refine VD.mid rfl rfl rfl ?_); refine OpV.box rfl rfl rfl ?_; intro _; refine w ?_))
    ((first | refine VO.step rfl rfl ?_ | refine VD.end rfl rfl rfl ?_ | refine VD.mid rfl rfl rfl ?_); refine OpV.call rfl rfl (fun _ _ => by simp) (pending_ok d k (by omega)) Ent.re rfl ?_)
    intro x _
    (refine w ?_; repeat ((first | refine VO.step rfl rfl ?_ | refine VD.end rfl rfl rfl ?_ | refine VD.mid rfl rfl rfl ?_); refine OpV.box rfl rfl rfl ?_; intro _; refine w ?_))
    have hil : (ints (k.cache.map (·.1))).length = k.cache.length := by simp
    refine VO.know (fun w hw => hw.ownNone (show Own 3 1 (.slice x.1 k.cache.length x.2) k.cache.length (ints (k.cache.map (·.1))) ∈ _ by (focus repeat first | exact .head _ | apply List.Mem.tail)) : ∀ w, _ → (x.1 = none → k.cache.length = 0)) ?_
    intro hxn
    refine VO.re 147 (.slice x.1 (ints (k.cache.map (·.1))).length x.2) rfl (by rw [hil]) ?_
    refine VO.ent (Reord.ent (L := Own 3 1 (.slice x.1 k.cache.length x.2) k.cache.length (ints (k.cache.map (·.1))) :: Book2 b E F :: DiskR d k :: Row ab 53 (ActD.cells ⟨kind, at_, dao, dcap, data, kao, kcap, keep⟩) :: Row p 104 [.pointer (some ⟨d, 0, none⟩), .pointer (some ⟨r, 0, none⟩), .pointer (some ⟨b, 0, none⟩)] :: DocR r k :: R) (by (repeat first | exact .refl | (apply Reord.cons; focus repeat first | exact .head | apply Del.tail) | exact .nil | apply Reord.drop))) ?_
    refine VO.ent (resI_of (by simp)) ?_
    (((first | refine VO.step rfl rfl ?_ | refine VD.end rfl rfl rfl ?_ | refine VD.mid rfl rfl rfl ?_); refine OpV.call rfl rfl (fun _ _ => by simp) (book2ints_ok b E F ⟨x.1, x.2, ints (k.cache.map (·.1))⟩ (by omega)) Ent.re rfl ?_); intro _ _)
    (refine w ?_; repeat ((first | refine VO.step rfl rfl ?_ | refine VD.end rfl rfl rfl ?_ | refine VD.mid rfl rfl rfl ?_); refine OpV.box rfl rfl rfl ?_; intro _; refine w ?_))
    ((first | refine VO.step rfl rfl ?_ | refine VD.end rfl rfl rfl ?_ | refine VD.mid rfl rfl rfl ?_); refine OpV.call rfl rfl (fun _ _ => by simp) (docpending_ok r k (by omega)) Ent.re rfl ?_)
    intro y _
    (refine w ?_; repeat ((first | refine VO.step rfl rfl ?_ | refine VD.end rfl rfl rfl ?_ | refine VD.mid rfl rfl rfl ?_); refine OpV.box rfl rfl rfl ?_; intro _; refine w ?_))
    refine VO.know (fun w hw => hw.ownNone (show Own 3 1 (.slice y.1 k.cache.length y.2) k.cache.length (ints (k.cache.map (·.1))) ∈ _ by (focus repeat first | exact .head _ | apply List.Mem.tail)) : ∀ w, _ → (y.1 = none → k.cache.length = 0)) ?_
    intro hyn
    have g1 : ∀ X : List SProp, Rds W (Book2 b E (F ++ [⟨x.1, x.2, ints (k.cache.map (·.1))⟩]) :: X) 1 x.1 k.cache.length (ints (k.cache.map (·.1))) := fun X => Book2.rdsI (e := ⟨x.1, x.2, ints (k.cache.map (·.1))⟩) (List.mem_append_right _ (List.mem_singleton.2 rfl)) rfl hil (ints_one _) hxn
    refine VO.ent (Reord.ent (L := Book2 b E (F ++ [⟨x.1, x.2, ints (k.cache.map (·.1))⟩]) :: Own 3 1 (.slice y.1 k.cache.length y.2) k.cache.length (ints (k.cache.map (·.1))) :: DiskR d k :: Row ab 53 (ActD.cells ⟨kind, at_, dao, dcap, data, kao, kcap, keep⟩) :: Row p 104 [.pointer (some ⟨d, 0, none⟩), .pointer (some ⟨r, 0, none⟩), .pointer (some ⟨b, 0, none⟩)] :: DocR r k :: R) (by (repeat first | exact .refl | (apply Reord.cons; focus repeat first | exact .head | apply Del.tail) | exact .nil | apply Reord.drop))) ?_
    ((first | refine VO.step rfl rfl ?_ | refine VD.end rfl rfl rfl ?_ | refine VD.mid rfl rfl rfl ?_); refine OpV.call rfl rfl (fun _ _ => by simp) (sameints_any (a := k.cache.map (·.1)) (b := k.cache.map (·.1)) (g1 _) (Rds.own (ints_one _) (.tail _ (.head _)) (by rw [hil, Nat.mul_one]) hyn) (by simp only [maxLen]; omega)) Ent.refl rfl ?_; intro _ _)
    (refine w ?_; repeat ((first | refine VO.step rfl rfl ?_ | refine VD.end rfl rfl rfl ?_ | refine VD.mid rfl rfl rfl ?_); refine OpV.box rfl rfl rfl ?_; intro _; refine w ?_))
    refine VE.done (k, E, F ++ [⟨x.1, x.2, ints (k.cache.map (·.1))⟩]) rfl ⟨rfl, hi.ints (by simp only [hil]; omega)⟩ (by simp) Ent.re
  (refine w ?_; repeat ((first | refine VO.step rfl rfl ?_ | refine VD.end rfl rfl rfl ?_ | refine VD.mid rfl rfl rfl ?_); refine OpV.box rfl rfl rfl ?_; intro _; refine w ?_))
  (refine VC.cond rfl rfl ?_ ?_ <;> intro hc)
  · -- Image
    have hil := DiskD.img_len hk
    (refine w ?_; repeat ((first | refine VO.step rfl rfl ?_ | refine VD.end rfl rfl rfl ?_ | refine VD.mid rfl rfl rfl ?_); refine OpV.box rfl rfl rfl ?_; intro _; refine w ?_))
    ((first | refine VO.step rfl rfl ?_ | refine VD.end rfl rfl rfl ?_ | refine VD.mid rfl rfl rfl ?_); refine OpV.call rfl rfl (fun _ _ => by simp) (dimg_ok d k) Ent.re rfl ?_)
    intro x hx
    (refine w ?_; repeat ((first | refine VO.step rfl rfl ?_ | refine VD.end rfl rfl rfl ?_ | refine VD.mid rfl rfl rfl ?_); refine OpV.box rfl rfl rfl ?_; intro _; refine w ?_))
    refine VO.re 167 (.slice x.1 (bytes k.img).length x.2) rfl (by rw [bytes_length]) ?_
    rw [resE_eq x]
    (((first | refine VO.step rfl rfl ?_ | refine VD.end rfl rfl rfl ?_ | refine VD.mid rfl rfl rfl ?_); refine OpV.call rfl rfl (fun _ _ => by simp) (book2bytes_ok b E F ⟨x.1, x.2, bytes k.img⟩ (by omega)) Ent.re rfl ?_); intro _ _)
    (refine w ?_; repeat ((first | refine VO.step rfl rfl ?_ | refine VD.end rfl rfl rfl ?_ | refine VD.mid rfl rfl rfl ?_); refine OpV.box rfl rfl rfl ?_; intro _; refine w ?_))
    ((first | refine VO.step rfl rfl ?_ | refine VD.end rfl rfl rfl ?_ | refine VD.mid rfl rfl rfl ?_); refine OpV.call rfl rfl (fun _ _ => by simp) (docimg_ok r k) Ent.re rfl ?_)
    intro y hy
    (refine w ?_; repeat ((first | refine VO.step rfl rfl ?_ | refine VD.end rfl rfl rfl ?_ | refine VD.mid rfl rfl rfl ?_); refine OpV.box rfl rfl rfl ?_; intro _; refine w ?_))
    refine VO.ent (Reord.ent (L := Book2 b (E ++ [⟨x.1, x.2, bytes k.img⟩]) F :: OwnB y k.img :: DiskR d k :: Row ab 53 (ActD.cells ⟨kind, at_, dao, dcap, data, kao, kcap, keep⟩) :: Row p 104 [.pointer (some ⟨d, 0, none⟩), .pointer (some ⟨r, 0, none⟩), .pointer (some ⟨b, 0, none⟩)] :: DocR r k :: R) (by (repeat first | exact .refl | (apply Reord.cons; focus repeat first | exact .head | apply Del.tail) | exact .nil | apply Reord.drop))) ?_
    have g1 : ∀ X : List SProp, Rds W (Book2 b (E ++ [⟨x.1, x.2, bytes k.img⟩]) F :: X) 1 x.1 k.img.length (bytes k.img) := fun X => Book2.rdsE (e := ⟨x.1, x.2, bytes k.img⟩) (List.mem_append_right _ (List.mem_singleton.2 rfl)) rfl (bytes_length _) (bytes_one _) hx
    ((first | refine VO.step rfl rfl ?_ | refine VD.end rfl rfl rfl ?_ | refine VD.mid rfl rfl rfl ?_); refine OpV.call rfl rfl (fun _ _ => by simp) (same_any (a := k.img) (b := k.img) (g1 _) (Rds.own (bytes_one _) (.tail _ (.head _)) (by rw [bytes_length, Nat.mul_one]) hy) (by simp only [maxLen]; omega)) Ent.refl rfl ?_; intro _ _)
    (refine w ?_; repeat ((first | refine VO.step rfl rfl ?_ | refine VD.end rfl rfl rfl ?_ | refine VD.mid rfl rfl rfl ?_); refine OpV.box rfl rfl rfl ?_; intro _; refine w ?_))
    refine VE.done (k, E ++ [⟨x.1, x.2, bytes k.img⟩], F) rfl ⟨rfl, hi.bytes (by simp only [bytes_length]; omega)⟩ (by simp) Ent.re
  (refine w ?_; repeat ((first | refine VO.step rfl rfl ?_ | refine VD.end rfl rfl rfl ?_ | refine VD.mid rfl rfl rfl ?_); refine OpV.box rfl rfl rfl ?_; intro _; refine w ?_))
  (first | refine VO.join (α := DiskD) (fun k' => k'.last.length = k.last.length ∧ k'.cache.length ≤ k.cache.length) (fun k' => Row p 104 [.pointer (some ⟨d, 0, none⟩), .pointer (some ⟨r, 0, none⟩), .pointer (some ⟨b, 0, none⟩)] :: DiskR d k' :: DocR r k' :: Book2 b E F :: R) (fun _ => [(0, .pointer (some ⟨p, 0, none⟩))]) ?_ ?_ | refine VC.joinTB (α := DiskD) (fun k' => k'.last.length = k.last.length ∧ k'.cache.length ≤ k.cache.length) (fun k' => Row p 104 [.pointer (some ⟨d, 0, none⟩), .pointer (some ⟨r, 0, none⟩), .pointer (some ⟨b, 0, none⟩)] :: DiskR d k' :: DocR r k' :: Book2 b E F :: R) (fun _ => [(0, .pointer (some ⟨p, 0, none⟩))]) ?_ ?_ | refine VC.joinB (α := DiskD) (fun k' => k'.last.length = k.last.length ∧ k'.cache.length ≤ k.cache.length) (fun k' => Row p 104 [.pointer (some ⟨d, 0, none⟩), .pointer (some ⟨r, 0, none⟩), .pointer (some ⟨b, 0, none⟩)] :: DiskR d k' :: DocR r k' :: Book2 b E F :: R) (fun _ => [(0, .pointer (some ⟨p, 0, none⟩))]) ?_ ?_ | refine VC.join (α := DiskD) (fun k' => k'.last.length = k.last.length ∧ k'.cache.length ≤ k.cache.length) (fun k' => Row p 104 [.pointer (some ⟨d, 0, none⟩), .pointer (some ⟨r, 0, none⟩), .pointer (some ⟨b, 0, none⟩)] :: DiskR d k' :: DocR r k' :: Book2 b E F :: R) (fun _ => [(0, .pointer (some ⟨p, 0, none⟩))]) ?_ ?_)
  · intro Q2 jn
    (refine VC.cond rfl rfl ?_ ?_ <;> intro hc)
    · (refine w ?_; repeat ((first | refine VO.step rfl rfl ?_ | refine VD.end rfl rfl rfl ?_ | refine VD.mid rfl rfl rfl ?_); refine OpV.box rfl rfl rfl ?_; intro _; refine w ?_))
      (refine VC.cond rfl rfl ?_ ?_ <;> intro hc)
      · (refine w ?_; repeat ((first | refine VO.step rfl rfl ?_ | refine VD.end rfl rfl rfl ?_ | refine VD.mid rfl rfl rfl ?_); refine OpV.box rfl rfl rfl ?_; intro _; refine w ?_))
        (((first | refine VO.step rfl rfl ?_ | refine VD.end rfl rfl rfl ?_ | refine VD.mid rfl rfl rfl ?_); refine OpV.call rfl rfl (fun _ _ => by simp) (fail_ok d k) Ent.re rfl ?_); intro _ _)
        (refine w ?_; repeat ((first | refine VO.step rfl rfl ?_ | refine VD.end rfl rfl rfl ?_ | refine VD.mid rfl rfl rfl ?_); refine OpV.box rfl rfl rfl ?_; intro _; refine w ?_))
        (((first | refine VO.step rfl rfl ?_ | refine VD.end rfl rfl rfl ?_ | refine VD.mid rfl rfl rfl ?_); refine OpV.call rfl rfl (fun _ _ => by simp) (docfail_ok r k) Ent.re rfl ?_); intro _ _)
        rw [sets_false k]
        (refine w ?_; repeat ((first | refine VO.step rfl rfl ?_ | refine VD.end rfl rfl rfl ?_ | refine VD.mid rfl rfl rfl ?_); refine OpV.box rfl rfl rfl ?_; intro _; refine w ?_))
        exact jn.to ⟨k.last, [], true⟩ ⟨rfl, Nat.zero_le _⟩ ⟨rfl, trivial⟩ Ent.re
      · (refine w ?_; repeat ((first | refine VO.step rfl rfl ?_ | refine VD.end rfl rfl rfl ?_ | refine VD.mid rfl rfl rfl ?_); refine OpV.box rfl rfl rfl ?_; intro _; refine w ?_))
        exact jn.to k ⟨rfl, Nat.le_refl _⟩ ⟨rfl, trivial⟩ Ent.re
    · (refine w ?_; repeat ((first | refine VO.step rfl rfl ?_ | refine VD.end rfl rfl rfl ?_ | refine VD.mid rfl rfl rfl ?_); refine OpV.box rfl rfl rfl ?_; intro _; refine w ?_))
      exact jn.to k ⟨rfl, Nat.le_refl _⟩ ⟨rfl, trivial⟩ Ent.re
  · rintro k' ⟨hk1, hk2⟩
    (refine w ?_; repeat ((first | refine VO.step rfl rfl ?_ | refine VD.end rfl rfl rfl ?_ | refine VD.mid rfl rfl rfl ?_); refine OpV.box rfl rfl rfl ?_; intro _; refine w ?_))
    (refine VC.drawn [4, 9, 16] 24 [0, 1, 2, 3, 5, 6, 7, 8, 4, 9, 10, 11, 12, 13, 14, 15, 17, 18, 19, 20, 21, 22, 23, 16, 24, 25, 26] _ rfl (by kernel_rfl) (by kernel_rfl) Ent.re ?_)
    (refine w ?_; repeat ((first | refine VO.step rfl rfl ?_ | refine VD.end rfl rfl rfl ?_ | refine VD.mid rfl rfl rfl ?_); refine OpV.box rfl rfl rfl ?_; intro _; refine w ?_))
    (((first | refine VO.step rfl rfl ?_ | refine VD.end rfl rfl rfl ?_ | refine VD.mid rfl rfl rfl ?_); refine OpV.call rfl rfl (fun _ _ => by simp) (sectors_ok d k') Ent.re rfl ?_); intro _ _)
    (refine w ?_; repeat ((first | refine VO.step rfl rfl ?_ | refine VD.end rfl rfl rfl ?_ | refine VD.mid rfl rfl rfl ?_); refine OpV.box rfl rfl rfl ?_; intro _; refine w ?_))
    (((first | refine VO.step rfl rfl ?_ | refine VD.end rfl rfl rfl ?_ | refine VD.mid rfl rfl rfl ?_); refine OpV.call rfl rfl (fun _ _ => by simp) (docsectors_ok r k') Ent.re rfl ?_); intro _ _)
    (refine w ?_; repeat ((first | refine VO.step rfl rfl ?_ | refine VD.end rfl rfl rfl ?_ | refine VD.mid rfl rfl rfl ?_); refine OpV.box rfl rfl rfl ?_; intro _; refine w ?_))
    (first | refine VO.gT rfl rfl rfl (by simp) ?_ | refine VD.gT rfl rfl rfl (by simp) ?_)
    (refine w ?_; repeat ((first | refine VO.step rfl rfl ?_ | refine VD.end rfl rfl rfl ?_ | refine VD.mid rfl rfl rfl ?_); refine OpV.box rfl rfl rfl ?_; intro _; refine w ?_))
    (first | refine VO.pure rfl rfl (PureAt.ldc tab_ok rfl rfl (DocR.failedCell (show DocR r k' ∈ _ by (focus repeat first | exact .head _ | apply List.Mem.tail)))) rfl ?_ | refine VD.take rfl rfl rfl (PureAt.ldc tab_ok rfl rfl (DocR.failedCell (show DocR r k' ∈ _ by (focus repeat first | exact .head _ | apply List.Mem.tail)))) rfl ?_ | refine VQ.pure rfl rfl (PureAt.ldc tab_ok rfl rfl (DocR.failedCell (show DocR r k' ∈ _ by (focus repeat first | exact .head _ | apply List.Mem.tail)))) rfl ?_ | refine VD.end rfl rfl rfl (OpV.pure (PureAt.ldc tab_ok rfl rfl (DocR.failedCell (show DocR r k' ∈ _ by (focus repeat first | exact .head _ | apply List.Mem.tail)))) rfl ?_))
    (refine w ?_; repeat ((first | refine VO.step rfl rfl ?_ | refine VD.end rfl rfl rfl ?_ | refine VD.mid rfl rfl rfl ?_); refine OpV.box rfl rfl rfl ?_; intro _; refine w ?_))
    (((first | refine VO.step rfl rfl ?_ | refine VD.end rfl rfl rfl ?_ | refine VD.mid rfl rfl rfl ?_); refine OpV.call rfl rfl (fun _ _ => by simp) (failed_ok d k') Ent.re rfl ?_); intro _ _)
    (refine w ?_; repeat ((first | refine VO.step rfl rfl ?_ | refine VD.end rfl rfl rfl ?_ | refine VD.mid rfl rfl rfl ?_); refine OpV.box rfl rfl rfl ?_; intro _; refine w ?_))
    refine VE.done (k', E, F) rfl ⟨hk1, hi.disk (by dsimp only; omega)⟩ (by simp) Ent.re
end Go.Proofs.Ythefmgmgmoanlaa
