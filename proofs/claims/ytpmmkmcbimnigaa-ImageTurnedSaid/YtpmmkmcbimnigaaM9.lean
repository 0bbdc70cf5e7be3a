import Derived.Test.YtpmmkmcbimnigaaM8
import Derived.WideLaws
/-! Text Ib. -/
/- Package image: Load's deferred closure. -/
set_option maxRecDepth 8000
set_option linter.unusedVariables false
set_option linter.unusedSimpArgs false
set_option linter.unusedSectionVars false
namespace Go.Sl
open Go Go.RowKit
section
variable {W : World} {P : Program} {n : Nat} {H : List SProp} {f : Fr} {dst : Option Tmp} {ty_ : TypeId} {pos : String} {after : Array Edge} {guard : Option (Nat × Bool)}
theorem PureAt.ifaceHeld {op : BinOp} {x y : Operand} {s u t : TypeId} {v0 v : Value} (hs : P.underlying s = some (.interface (P.methodsAt s))) (hx : evalX f x = some (.iface t v0)) (hy : evalX f y = some .nilIface) (hv : eqB op false = some v) :
    PureAt W P n H f { dst, op := .binOp op s x y u, type := ty_, pos, after, guard } v := by
  unfold PureAt
  intro tm w hk _
  exact eqOp_run hk hx hy hv (by rintro o (rfl | rfl) <;> rfl) rfl rfl (run_equal_held_nil w s t v0 hs)
theorem PureAt.ifaceNil {op : BinOp} {x : Operand} {c : Value} {s u : TypeId} {v : Value} (hs : P.underlying s = some (.interface (P.methodsAt s))) (hx : evalX f x = some .nilIface) (hy : evalX f (.const c) = some .nilIface) (hv : eqB op true = some v) :
    PureAt W P n H f { dst, op := .binOp op s x (.const c) u, type := ty_, pos, after, guard } v := by
  unfold PureAt
  intro tm w hk _
  exact eqOp_run hk hx hy hv (by rintro o (rfl | rfl) <;> cases x <;> rfl) rfl rfl (run_equal_nil_nil w s hs)
end
end Go.Sl
namespace Go.Proofs.Ytpmmkmcbimnigaa
open Go.RowKit Go.Sl
attribute [local irreducible] Sl.Own

theorem anyU : Try.prog.underlying 20 = some (.interface (Try.prog.methodsAt 20)) := by kernel_rfl
theorem loadD_pan {W : World} {R : List SProp} {nb ne : Nat} {v u : Value} (e : Nat) :
    DoesD W Try.prog 57 [.pointer (some ⟨nb, 0, none⟩), .pointer (some ⟨ne, 0, none⟩)] (Row nb 72 [v] :: Row ne 26 [u] :: R) (.panicking (pan (errI e))) (.panicking (panR (errI e))) (Row nb 72 [.pointer none] :: Row ne 26 [.int .u16 e] :: R) := by
  refine DoesD.enterS Try.func57 Try.ntmps57 rfl rfl rfl rfl rfl rfl rfl (.inl ⟨_, rfl, rfl, rfl⟩) ?_
  (refine w ?_; repeat ((first | refine VO.step rfl rfl ?_ | refine VD.end rfl rfl rfl ?_ | refine VD.mid rfl rfl rfl ?_); refine OpV.box rfl rfl rfl ?_; intro _; refine w ?_))
  (first | refine VO.pure rfl rfl (PureAt.ifaceHeld anyU rfl rfl rfl) rfl ?_ | refine VD.take rfl rfl rfl (PureAt.ifaceHeld anyU rfl rfl rfl) rfl ?_ | refine VQ.pure rfl rfl (PureAt.ifaceHeld anyU rfl rfl rfl) rfl ?_ | refine VD.end rfl rfl rfl (OpV.pure (PureAt.ifaceHeld anyU rfl rfl rfl) rfl ?_))
  (refine w ?_; repeat ((first | refine VO.step rfl rfl ?_ | refine VD.end rfl rfl rfl ?_ | refine VD.mid rfl rfl rfl ?_); refine OpV.box rfl rfl rfl ?_; intro _; refine w ?_))
  obtain ⟨dsc, hu⟩ : ∃ k, Try.prog.underlying 26 = some (.int k) := ⟨_, rfl⟩
  (refine VC.drawn [2] 3 [0, 1, 2, 3] (Row ne 26 [u] :: R) rfl (by kernel_rfl) (by kernel_rfl) Ent.re ?_)
  (refine w ?_; repeat ((first | refine VO.step rfl rfl ?_ | refine VD.end rfl rfl rfl ?_ | refine VD.mid rfl rfl rfl ?_); refine OpV.box rfl rfl rfl ?_; intro _; refine w ?_))
  (first | refine VO.pure rfl rfl (PureAt.assertIface hu (fun ms h => by cases h) rfl) rfl ?_ | refine VD.take rfl rfl rfl (PureAt.assertIface hu (fun ms h => by cases h) rfl) rfl ?_ | refine VQ.pure rfl rfl (PureAt.assertIface hu (fun ms h => by cases h) rfl) rfl ?_ | refine VD.end rfl rfl rfl (OpV.pure (PureAt.assertIface hu (fun ms h => by cases h) rfl) rfl ?_))
  (refine w ?_; repeat ((first | refine VO.step rfl rfl ?_ | refine VD.end rfl rfl rfl ?_ | refine VD.mid rfl rfl rfl ?_); refine OpV.box rfl rfl rfl ?_; intro _; refine w ?_))
  exact VE.result (.inr rfl) rfl fun w hw => ⟨⟨_, rfl⟩, hw⟩
theorem loadD_ret {W : World} {R : List SProp} {nb ne : Nat} {v u : Value} :
    DoesD W Try.prog 57 [.pointer (some ⟨nb, 0, none⟩), .pointer (some ⟨ne, 0, none⟩)] (Row nb 72 [v] :: Row ne 26 [u] :: R) .returning .returning (Row nb 72 [v] :: Row ne 26 [u] :: R) := by
  refine DoesD.enterS Try.func57 Try.ntmps57 rfl rfl rfl rfl rfl rfl rfl (.inr ⟨rfl, rfl, rfl⟩) ?_
  (refine w ?_; repeat ((first | refine VO.step rfl rfl ?_ | refine VD.end rfl rfl rfl ?_ | refine VD.mid rfl rfl rfl ?_); refine OpV.box rfl rfl rfl ?_; intro _; refine w ?_))
  (first | refine VO.pure rfl rfl (PureAt.ifaceNil anyU rfl rfl rfl) rfl ?_ | refine VD.take rfl rfl rfl (PureAt.ifaceNil anyU rfl rfl rfl) rfl ?_ | refine VQ.pure rfl rfl (PureAt.ifaceNil anyU rfl rfl rfl) rfl ?_ | refine VD.end rfl rfl rfl (OpV.pure (PureAt.ifaceNil anyU rfl rfl rfl) rfl ?_))
  (refine w ?_; repeat ((first | refine VO.step rfl rfl ?_ | refine VD.end rfl rfl rfl ?_ | refine VD.mid rfl rfl rfl ?_); refine OpV.box rfl rfl rfl ?_; intro _; refine w ?_))
  exact VE.result (.inr rfl) rfl fun w hw => ⟨⟨_, rfl⟩, hw⟩
end Go.Proofs.Ytpmmkmcbimnigaa

/-! Text Ic. -/
/- Package image: the closure that reads the next disk. -/
set_option maxRecDepth 8000
set_option linter.unusedVariables false
set_option linter.unusedSimpArgs false
set_option linter.unusedSectionVars false
namespace Go.Proofs.Ytpmmkmcbimnigaa
open Go.RowKit Go.Sl
attribute [local irreducible] Sl.Own

theorem setNext {α : Type} (xs : List α) (z v : α) (m : Nat) (h : 0 < m) : (xs ++ List.replicate m z).set xs.length v = (xs ++ [v]) ++ List.replicate (m - 1) z := by
  obtain ⟨m, rfl⟩ : ∃ k, m = k + 1 := ⟨m - 1, by omega⟩
  rw [List.set_append_right _ _ (Nat.le_refl _), Nat.sub_self, List.replicate_succ, List.set_cons_zero, List.append_assoc]; rfl
structure NxX where
  n5 : Nat
  n6 : Nat
  n7 : Nat
  rd : Nat
  sa : Addr
  da : Addr
  n : Nat
abbrev szC (n : Nat) (S : List Nat) : List Value := ints S ++ List.replicate (n - S.length) (.int .i64 0)
abbrev dsC (n : Nat) (Ds : List RowE) : List Value := Ds.map RowE.hdr ++ List.replicate (n - Ds.length) (.slice none 0 0)
abbrev nxF (x : NxX) (S : List Nat) (Ds : List RowE) (R : List SProp) : List SProp :=
  Row x.n5 115 [.pointer (some ⟨x.rd, 0, none⟩)] :: Row x.n6 120 [.slice (some x.sa) x.n x.n] :: Row x.n7 33 [.slice (some x.da) x.n x.n] :: Sl.Own 3 1 (.slice (some x.sa) x.n x.n) x.n (szC x.n S) :: Sl.Own 47 1 (.slice (some x.da) x.n x.n) x.n (dsC x.n Ds) :: PilR Ds :: R
abbrev nxO (x : NxX) (k : Rk) (S : List Nat) (Ds : List RowE) (R : List SProp) : List SProp := ReaderR x.rd k :: nxF x S Ds R
abbrev nxS (k : Rk) : Nat := leVal (k.got 2)
abbrev nxD (k : Rk) : List UInt8 := (k.number 2).rawGot ((nxS k * 128 : Nat) : Int)
abbrev nxK (k : Rk) : Rk := (k.number 2).raw ((nxS k * 128 : Nat) : Int)
theorem szC_one (n : Nat) (S : List Nat) : ∀ u ∈ szC n S, u.oneCell' = true := by
  intro u hu
  rcases List.mem_append.1 hu with h | h
  · exact ints_one S u h
  · rw [List.mem_replicate] at h; rw [h.2]; rfl
theorem dsC_one (n : Nat) (Ds : List RowE) : ∀ u ∈ dsC n Ds, u.oneCell' = true := by
  intro u hu
  rcases List.mem_append.1 hu with h | h
  · exact rowhdr_one Ds u h
  · rw [List.mem_replicate] at h; rw [h.2]; rfl
theorem szC_len {n : Nat} {S : List Nat} (h : S.length ≤ n) : (szC n S).length = n := by unfold szC ints; rw [List.length_append, List.length_map, List.length_replicate]; omega
theorem dsC_len {n : Nat} {Ds : List RowE} (h : Ds.length ≤ n) : (dsC n Ds).length = n := by unfold dsC; rw [List.length_append, List.length_map, List.length_replicate]; omega
theorem szC_set {n : Nat} {S : List Nat} (s : Nat) (h : S.length < n) : (szC n S).set S.length (.int .i64 (s : Int)) = szC n (S ++ [s]) := by
  have h1 := setNext (ints S) (.int .i64 0) (.int .i64 (s : Int)) (n - S.length) (by omega)
  rw [show (ints S).length = S.length by unfold ints; rw [List.length_map]] at h1
  unfold szC
  rw [h1, List.length_append, List.length_singleton, show n - (S.length + 1) = n - S.length - 1 by omega]
  unfold ints
  rw [List.map_append]; rfl
theorem dsC_set {n : Nat} {Ds : List RowE} (d : RowE) (h : Ds.length < n) : (dsC n Ds).set Ds.length d.hdr = dsC n (Ds ++ [d]) := by
  have h1 := setNext (Ds.map RowE.hdr) (.slice none 0 0) d.hdr (n - Ds.length) (by omega)
  rw [List.length_map] at h1
  unfold dsC
  rw [h1, List.length_append, List.length_singleton, show n - (Ds.length + 1) = n - Ds.length - 1 by omega, List.map_append]; rfl
theorem nxS_lt (k : Rk) : nxS k < 65536 := got_lt k 2
set_option maxHeartbeats 4000000 in
theorem imgnext_ok {W : World} {R : List SProp} (x : NxX) (k : Rk) (S : List Nat) (Ds : List RowE) (i : Nat) (hS : S.length = i) (hD : Ds.length = i) (hi : i < x.n) (hn : x.n ≤ 17) (h8 : nxS k ≤ 8192) :
    Does W Try.prog 64 [.int .i64 (i : Int), .pointer (some ⟨x.n5, 0, none⟩), .pointer (some ⟨x.n6, 0, none⟩), .pointer (some ⟨x.n7, 0, none⟩)] (nxO x k S Ds R) (β := Option Addr × Nat) (fun _ => True) (fun _ => .tuple #[]) (fun y => nxO x (nxK k) (S ++ [nxS k]) (Ds ++ [⟨y.1, y.2, nxD k⟩]) R) := by
  have hs := nxS_lt k
  subst hS
  have hsl := szC_len (n := x.n) (S := S) (by omega)
  (refine Does.enter Try.func64 Try.ntmps64 rfl rfl ?_)
  (refine w ?_; repeat ((first | refine VO.step rfl rfl ?_ | refine VD.end rfl rfl rfl ?_ | refine VD.mid rfl rfl rfl ?_); refine OpV.box rfl rfl rfl ?_; intro _; refine w ?_))
  (refine VC.drawn [3] 5 [0, 1, 2, 3, 4, 5, 6] (nxF x S Ds R) rfl (by kernel_rfl) (by kernel_rfl) Ent.re ?_)
  (refine w ?_; repeat ((first | refine VO.step rfl rfl ?_ | refine VD.end rfl rfl rfl ?_ | refine VD.mid rfl rfl rfl ?_); refine OpV.box rfl rfl rfl ?_; intro _; refine w ?_))
  ((first | refine VO.step rfl rfl ?_ | refine VD.end rfl rfl rfl ?_ | refine VD.mid rfl rfl rfl ?_); refine OpV.call rfl rfl (fun _ _ => by simp) (r16_ok x.rd k) Ent.refl rfl ?_)
  intro _ _
  refine ⟨Ent.re, ?_⟩
  refine VD.re 8 (.int .u16 ((nxS k : Nat) : Int)) rfl rfl ?_
  (refine w ?_; repeat ((first | refine VO.step rfl rfl ?_ | refine VD.end rfl rfl rfl ?_ | refine VD.mid rfl rfl rfl ?_); refine OpV.box rfl rfl rfl ?_; intro _; refine w ?_))
  refine VD.re 9 (.int .i64 ((nxS k : Nat) : Int)) rfl (by rw [IntWalk.i64_in _ ⟨by omega, by omega⟩]) ?_
  (first | refine VO.step rfl rfl ?_ | refine VD.end rfl rfl rfl ?_ | refine VD.mid rfl rfl rfl ?_)
  refine OpV.stO tab_ok rfl rfl rfl rfl (by (repeat first | exact .head | apply Hole.tail)) (by rw [hsl]; exact hi) ?_
  rw [szC_set (nxS k) hi]
  (refine w ?_; repeat ((first | refine VO.step rfl rfl ?_ | refine VD.end rfl rfl rfl ?_ | refine VD.mid rfl rfl rfl ?_); refine OpV.box rfl rfl rfl ?_; intro _; refine w ?_))
  have hR1 : Rds W (ReaderR x.rd (k.number 2) :: nxF x (S ++ [nxS k]) Ds R) 1 (some x.sa) x.n (szC x.n (S ++ [nxS k])) := Rds.own (szC_one _ _) (.tail _ (.tail _ (.tail _ (.tail _ (.head _))))) (by rw [szC_len (by simp; omega), Nat.mul_one]) (fun h => by cases h)
  have hget : (szC x.n (S ++ [nxS k]))[S.length]? = some (.int .i64 (nxS k : Int)) := by
    unfold szC ints
    rw [List.map_append, List.append_assoc, List.getElem?_append_right (by simp)]
    simp
  (first | refine VO.pure rfl rfl (PureAt.ldR tab_ok rfl rfl hR1 hget) rfl ?_ | refine VD.take rfl rfl rfl (PureAt.ldR tab_ok rfl rfl hR1 hget) rfl ?_ | refine VQ.pure rfl rfl (PureAt.ldR tab_ok rfl rfl hR1 hget) rfl ?_ | refine VD.end rfl rfl rfl (OpV.pure (PureAt.ldR tab_ok rfl rfl hR1 hget) rfl ?_))
  (refine w ?_; repeat ((first | refine VO.step rfl rfl ?_ | refine VD.end rfl rfl rfl ?_ | refine VD.mid rfl rfl rfl ?_); refine OpV.box rfl rfl rfl ?_; intro _; refine w ?_))
  refine VO.re 15 (.bool true) rfl (by rw [decide_eq_true (by omega)]) ?_
  ((first | refine VO.step rfl rfl ?_ | refine VD.end rfl rfl rfl ?_ | refine VD.mid rfl rfl rfl ?_); refine OpV.call rfl rfl (fun _ _ => by simp) (need_ok (.int .u16 210) rfl) Ent.refl rfl ?_)
  intro _ _
  (refine w ?_; repeat ((first | refine VO.step rfl rfl ?_ | refine VD.end rfl rfl rfl ?_ | refine VD.mid rfl rfl rfl ?_); refine OpV.box rfl rfl rfl ?_; intro _; refine w ?_))
  (refine VC.drawn [8] 9 [0, 1, 2, 3, 4, 5, 6, 7, 8, 9, 10] (nxF x (S ++ [nxS k]) Ds R) rfl (by kernel_rfl) (by kernel_rfl) Ent.re ?_)
  (refine w ?_; repeat ((first | refine VO.step rfl rfl ?_ | refine VD.end rfl rfl rfl ?_ | refine VD.mid rfl rfl rfl ?_); refine OpV.box rfl rfl rfl ?_; intro _; refine w ?_))
  have hR2 : Rds W (nxF x (S ++ [nxS k]) Ds R) 1 (some x.sa) x.n (szC x.n (S ++ [nxS k])) := Rds.own (szC_one _ _) (.tail _ (.tail _ (.tail _ (.head _)))) (by rw [szC_len (by simp; omega), Nat.mul_one]) (fun h => by cases h)
  (first | refine VO.pure rfl rfl (PureAt.ldR tab_ok rfl rfl hR2 hget) rfl ?_ | refine VD.take rfl rfl rfl (PureAt.ldR tab_ok rfl rfl hR2 hget) rfl ?_ | refine VQ.pure rfl rfl (PureAt.ldR tab_ok rfl rfl hR2 hget) rfl ?_ | refine VD.end rfl rfl rfl (OpV.pure (PureAt.ldR tab_ok rfl rfl hR2 hget) rfl ?_))
  (refine w ?_; repeat ((first | refine VO.step rfl rfl ?_ | refine VD.end rfl rfl rfl ?_ | refine VD.mid rfl rfl rfl ?_); refine OpV.box rfl rfl rfl ?_; intro _; refine w ?_))
  refine VD.re 24 (.int .i64 ((nxS k * 128 : Nat) : Int)) rfl (by congr 1) ?_
  ((first | refine VO.step rfl rfl ?_ | refine VD.end rfl rfl rfl ?_ | refine VD.mid rfl rfl rfl ?_); refine OpV.call rfl rfl (fun _ _ => by simp) (rraw_ok x.rd (k.number 2) ((nxS k * 128 : Nat) : Int)) Ent.refl rfl ?_)
  rintro ⟨yo, yc⟩ _
  dsimp only
  refine ⟨Ent.re, ?_⟩
  (refine w ?_; repeat ((first | refine VO.step rfl rfl ?_ | refine VD.end rfl rfl rfl ?_ | refine VD.mid rfl rfl rfl ?_); refine OpV.box rfl rfl rfl ?_; intro _; refine w ?_))
  (first | refine VO.step rfl rfl ?_ | refine VD.end rfl rfl rfl ?_ | refine VD.mid rfl rfl rfl ?_)
  refine OpV.stO tab_ok rfl rfl rfl rfl (by (repeat first | exact .head | apply Hole.tail)) (by rw [dsC_len (by omega)]; exact hi) ?_
  rw [show (Value.slice yo ((k.number 2).rawGot ((nxS k * 128 : Nat) : Int)).length yc) = RowE.hdr ⟨yo, yc, nxD k⟩ from rfl, ← hD, dsC_set _ (by omega)]
  (refine w ?_; repeat ((first | refine VO.step rfl rfl ?_ | refine VD.end rfl rfl rfl ?_ | refine VD.mid rfl rfl rfl ?_); refine OpV.box rfl rfl rfl ?_; intro _; refine w ?_))
  refine VE.doneN (yo, yc) rfl trivial rfl ?_
  refine Ent.trans (Ent.re (L := RowE.res ⟨yo, yc, nxD k⟩ :: PilR Ds :: ReaderR x.rd (nxK k) :: Row x.n5 115 [.pointer (some ⟨x.rd, 0, none⟩)] :: Row x.n6 120 [.slice (some x.sa) x.n x.n] :: Row x.n7 33 [.slice (some x.da) x.n x.n] :: Sl.Own 3 1 (.slice (some x.sa) x.n x.n) x.n (szC x.n (S ++ [nxS k])) :: Sl.Own 47 1 (.slice (some x.da) x.n x.n) x.n (dsC x.n (Ds ++ [⟨yo, yc, nxD k⟩])) :: R)) fun w hw => ?_
  exact (show Ent W (PilR (Ds ++ [⟨yo, yc, nxD k⟩]) :: ReaderR x.rd (nxK k) :: Row x.n5 115 [.pointer (some ⟨x.rd, 0, none⟩)] :: Row x.n6 120 [.slice (some x.sa) x.n x.n] :: Row x.n7 33 [.slice (some x.da) x.n x.n] :: Sl.Own 3 1 (.slice (some x.sa) x.n x.n) x.n (szC x.n (S ++ [nxS k])) :: Sl.Own 47 1 (.slice (some x.da) x.n x.n) x.n (dsC x.n (Ds ++ [⟨yo, yc, nxD k⟩])) :: R) _ from Ent.re) w (pile_push hw)
set_option maxHeartbeats 4000000 in
theorem imgnext_dies {W : World} {R : List SProp} (x : NxX) (k : Rk) (S : List Nat) (Ds : List RowE) (i : Nat) (hS : S.length = i) (hD : Ds.length = i) (hi : i < x.n) (hn : x.n ≤ 17) (h8 : 8192 < nxS k) :
    Dies W Try.prog 64 [.int .i64 (i : Int), .pointer (some ⟨x.n5, 0, none⟩), .pointer (some ⟨x.n6, 0, none⟩), .pointer (some ⟨x.n7, 0, none⟩)] (nxO x k S Ds R) (errI 210) R := by
  have hs := nxS_lt k
  subst hS
  have hsl := szC_len (n := x.n) (S := S) (by omega)
  refine Dies.enter Try.func64 Try.ntmps64 rfl rfl ?_
  (refine w ?_; repeat ((first | refine VO.step rfl rfl ?_ | refine VD.end rfl rfl rfl ?_ | refine VD.mid rfl rfl rfl ?_); refine OpV.box rfl rfl rfl ?_; intro _; refine w ?_))
  (refine VC.drawn [3] 5 [0, 1, 2, 3, 4, 5, 6] (nxF x S Ds R) rfl (by kernel_rfl) (by kernel_rfl) Ent.re ?_)
  (refine w ?_; repeat ((first | refine VO.step rfl rfl ?_ | refine VD.end rfl rfl rfl ?_ | refine VD.mid rfl rfl rfl ?_); refine OpV.box rfl rfl rfl ?_; intro _; refine w ?_))
  ((first | refine VO.step rfl rfl ?_ | refine VD.end rfl rfl rfl ?_ | refine VD.mid rfl rfl rfl ?_); refine OpV.call rfl rfl (fun _ _ => by simp) (r16_ok x.rd k) Ent.refl rfl ?_)
  intro _ _
  refine ⟨Ent.re, ?_⟩
  refine VD.re 8 (.int .u16 ((nxS k : Nat) : Int)) rfl rfl ?_
  (refine w ?_; repeat ((first | refine VO.step rfl rfl ?_ | refine VD.end rfl rfl rfl ?_ | refine VD.mid rfl rfl rfl ?_); refine OpV.box rfl rfl rfl ?_; intro _; refine w ?_))
  refine VD.re 9 (.int .i64 ((nxS k : Nat) : Int)) rfl (by rw [IntWalk.i64_in _ ⟨by omega, by omega⟩]) ?_
  (first | refine VO.step rfl rfl ?_ | refine VD.end rfl rfl rfl ?_ | refine VD.mid rfl rfl rfl ?_)
  refine OpV.stO tab_ok rfl rfl rfl rfl (by (repeat first | exact .head | apply Hole.tail)) (by rw [hsl]; exact hi) ?_
  rw [szC_set (nxS k) hi]
  (refine w ?_; repeat ((first | refine VO.step rfl rfl ?_ | refine VD.end rfl rfl rfl ?_ | refine VD.mid rfl rfl rfl ?_); refine OpV.box rfl rfl rfl ?_; intro _; refine w ?_))
  have hR1 : Rds W (ReaderR x.rd (k.number 2) :: nxF x (S ++ [nxS k]) Ds R) 1 (some x.sa) x.n (szC x.n (S ++ [nxS k])) := Rds.own (szC_one _ _) (.tail _ (.tail _ (.tail _ (.tail _ (.head _))))) (by rw [szC_len (by simp; omega), Nat.mul_one]) (fun h => by cases h)
  have hget : (szC x.n (S ++ [nxS k]))[S.length]? = some (.int .i64 (nxS k : Int)) := by
    unfold szC ints
    rw [List.map_append, List.append_assoc, List.getElem?_append_right (by simp)]
    simp
  (first | refine VO.pure rfl rfl (PureAt.ldR tab_ok rfl rfl hR1 hget) rfl ?_ | refine VD.take rfl rfl rfl (PureAt.ldR tab_ok rfl rfl hR1 hget) rfl ?_ | refine VQ.pure rfl rfl (PureAt.ldR tab_ok rfl rfl hR1 hget) rfl ?_ | refine VD.end rfl rfl rfl (OpV.pure (PureAt.ldR tab_ok rfl rfl hR1 hget) rfl ?_))
  (refine w ?_; repeat ((first | refine VO.step rfl rfl ?_ | refine VD.end rfl rfl rfl ?_ | refine VD.mid rfl rfl rfl ?_); refine OpV.box rfl rfl rfl ?_; intro _; refine w ?_))
  refine VO.re 15 (.bool false) rfl (by rw [decide_eq_false (by omega)]) ?_
  (first | refine VO.step rfl rfl ?_ | refine VD.end rfl rfl rfl ?_ | refine VD.mid rfl rfl rfl ?_)
  refine OpV.callDies rfl rfl (fun _ _ => by simp) (need_dies (R := R) 210) ?_ ?_
  · intro w hw
    exact hw.tail.tail.tail.tail.tail.tail.tail
  refine VE.passPanic ?_
  exact VE.dies Ent.refl
end Go.Proofs.Ytpmmkmcbimnigaa

/-! Text Id. -/
/- Package image, plainly: what bytes tell. -/
set_option maxRecDepth 8000
set_option linter.unusedVariables false
set_option linter.unusedSimpArgs false
set_option linter.unusedSectionVars false
namespace Go.Proofs.Ytpmmkmcbimnigaa
open Go.RowKit Go.Sl

/-- So many disks out of bytes, none left over. -/
def imgParse : Nat → List UInt8 → Option (List (List UInt8))
  | 0, l => if l = [] then some [] else none
  | m + 1, l => if l.length < 2 ∨ 8192 < leVal (l.take 2) ∨ l.length - 2 < leVal (l.take 2) * 128 then none else
    (imgParse m (l.drop (2 + leVal (l.take 2) * 128))).map (((l.drop 2).take (leVal (l.take 2) * 128)) :: ·)
def slotI (d : List UInt8) : SlotD := if d = [] then ⟨none, none, none⟩ else ⟨some ⟨⟨chunks d (d.length / 128), [], false⟩, false, 0⟩, none, none⟩
def imgBay (ds : List (List UInt8)) : BayD := ⟨ds.map slotI, false, -1, ⟨0, 0, 0⟩⟩
def imgForm (l : List UInt8) : Bool := decide (l.length ≤ 33554432) && decide (10 ≤ l.length) && decide (l.take 5 = magicI)
abbrev imgB (l : List UInt8) : List UInt8 := l.take (l.length - 4)
abbrev imgC (l : List UInt8) : Nat := ((imgB l).getD 5 0).toNat
def imgSum (l : List UInt8) : Bool := decide (leVal (l.drop (l.length - 4)) = (crcS (imgB l)).toNat)
def imgOf : Option (List (List UInt8)) → Nat × Option (List (List UInt8))
  | none => (210, none)
  | some ds => (0, some ds)
/-- The error, or the disks. -/
def imgLoad (l : List UInt8) : Nat × Option (List (List UInt8)) :=
  if imgForm l = false then (210, none) else if imgSum l = false then (211, none) else if imgC l < 1 ∨ 17 < imgC l then (210, none) else imgOf (imgParse (imgC l) ((imgB l).drop 6))
/-- How far Load has read. -/
def LdI (body : List UInt8) (c i : Nat) (k : Rk) (S : List Nat) (Ds : List (List UInt8)) : Prop :=
  k.b = body ∧ S.length = i ∧ Ds.length = i ∧ ((k.err = 0 ∧ k.at_ ≤ body.length ∧ (∀ (j : Nat) (h : j < i) (h1 : j < S.length) (h2 : j < Ds.length), Ds[j].length = S[j] * 128 ∧ S[j] ≤ 8192) ∧ imgParse c (body.drop 6) = (imgParse (c - i) (body.drop k.at_)).map (Ds ++ ·)) ∨
    (k.err ≠ 0 ∧ imgParse c (body.drop 6) = none))
theorem rk_bad {k : Rk} (h : k.err ≠ 0) (n : Nat) : k.short n = k ∧ k.got n = [] ∧ k.number n = k := by
  have h1 : k.short n = k := by unfold Rk.short; rw [if_neg (fun q => h q.1)]
  refine ⟨h1, ?_, ?_⟩
  · unfold Rk.got; rw [h1, if_neg h]
  · unfold Rk.number; rw [h1, if_neg h]
theorem rk_short {k : Rk} (h : k.err = 0) {n : Nat} (hn : k.b.length - k.at_ < n) : (k.short n).err = 11 ∧ k.got n = [] ∧ (k.number n).err = 11 ∧ (k.number n).b = k.b := by
  have h1 : k.short n = { k with err := 11, wh := k.at_ } := by unfold Rk.short; rw [if_pos ⟨h, hn⟩]
  refine ⟨by rw [h1], ?_, ?_, ?_⟩
  · unfold Rk.got; rw [h1, if_neg (by simp)]
  · unfold Rk.number; rw [h1, if_neg (by simp)]
  · unfold Rk.number; rw [h1, if_neg (by simp)]
theorem nx_bad {k : Rk} (h : k.err ≠ 0) : nxS k = 0 ∧ nxD k = [] ∧ nxK k = k := by
  obtain ⟨h1, h2, h3⟩ := rk_bad h 2
  have e : nxS k = 0 := by unfold nxS; rw [h2]; rfl
  refine ⟨e, ?_, ?_⟩
  · unfold nxD; rw [e, h3]; rfl
  · unfold nxK; rw [e, h3]; rfl
theorem LdI.dies {body : List UInt8} {c i : Nat} {k : Rk} {S : List Nat} {Ds : List (List UInt8)} (h : LdI body c i k S Ds) (hi : i < c) (h8 : 8192 < nxS k) : imgParse c (body.drop 6) = none := by
  obtain ⟨hb, _, _, ⟨h1, h2, h3, h4⟩ | ⟨h1, h2⟩⟩ := h
  · rw [h4]
    obtain ⟨m, hm⟩ : ∃ m, c - i = m + 1 := ⟨c - i - 1, by omega⟩
    rw [hm, imgParse]
    have hc : (body.drop k.at_).length < 2 ∨ 8192 < leVal ((body.drop k.at_).take 2) ∨ (body.drop k.at_).length - 2 < leVal ((body.drop k.at_).take 2) * 128 := by
      by_cases hs : k.b.length - k.at_ < 2
      · left; rw [List.length_drop, ← hb]; exact hs
      · right; left
        have hg := (Rk.got_good h1 (n := 2) (by omega)).1
        unfold nxS at h8
        rw [hg, hb] at h8
        exact h8
    rw [if_pos hc]; rfl
  · exact h2
theorem LdI.next {body : List UInt8} {c i : Nat} {k : Rk} {S : List Nat} {Ds : List (List UInt8)} (h : LdI body c i k S Ds) (hi : i < c) (h8 : nxS k ≤ 8192) : LdI body c (i + 1) (nxK k) (S ++ [nxS k]) (Ds ++ [nxD k]) := by
  obtain ⟨hb, hS, hD, ⟨h1, h2, h3, h4⟩ | ⟨h1, h2⟩⟩ := h
  · obtain ⟨m, hm⟩ : ∃ m, c - i = m + 1 := ⟨c - i - 1, by omega⟩
    rw [hm, imgParse] at h4
    by_cases hs : k.b.length - k.at_ < 2
    · obtain ⟨q1, q2, q3, q4⟩ := rk_short h1 hs
      have e : nxS k = 0 := by unfold nxS; rw [q2]; rfl
      have eD : nxD k = [] := by unfold nxD; rw [e]; rfl
      have eK : nxK k = k.number 2 := by unfold nxK; rw [e]; rfl
      refine ⟨by rw [eK, q4, hb], by rw [List.length_append, hS]; rfl, by rw [List.length_append, hD]; rfl, .inr ⟨by rw [eK, q3]; decide, ?_⟩⟩
      rw [h4, if_pos (.inl (by rw [List.length_drop, ← hb]; exact hs))]; rfl
    · obtain ⟨g1, g2, g3⟩ := Rk.got_good h1 (n := 2) (by omega)
      have e : nxS k = leVal ((body.drop k.at_).take 2) := by unfold nxS; rw [g1, hb]
      rw [← e, List.length_drop] at h4
      have hl : ¬ body.length - k.at_ < 2 := by rw [← hb]; exact hs
      by_cases h0 : body.length - k.at_ - 2 < nxS k * 128
      · have hk1 : (k.number 2).err = 0 := by rw [g3]; exact h1
        have hsh := rk_short (k := k.number 2) hk1 (n := nxS k * 128) (by rw [g3]; dsimp only; rw [hb]; omega)
        have hp : 0 < nxS k := by omega
        have hz : ¬ ((nxS k * 128 : Nat) : Int) ≤ 0 := by omega
        have eK : nxK k = (k.number 2).number (nxS k * 128) := by unfold nxK Rk.raw; rw [if_neg hz]; rfl
        refine ⟨by rw [eK, hsh.2.2.2, g3]; exact hb, by rw [List.length_append, hS]; rfl, by rw [List.length_append, hD]; rfl, .inr ⟨by rw [eK, hsh.2.2.1]; decide, ?_⟩⟩
        rw [h4, if_pos (.inr (.inr h0))]; rfl
      · rw [if_neg (by omega)] at h4
        have hk : nxK k = { k with at_ := k.at_ + 2 + nxS k * 128 } ∧ nxD k = (body.drop (k.at_ + 2)).take (nxS k * 128) := by
          unfold nxK nxD Rk.raw Rk.rawGot
          by_cases hz : ((nxS k * 128 : Nat) : Int) ≤ 0
          · have hz0 : nxS k = 0 := by omega
            rw [if_pos hz, if_pos hz, hz0, g3]
            exact ⟨rfl, by simp⟩
          · rw [if_neg hz, if_neg hz, g3]
            obtain ⟨g4, g5, g6⟩ := Rk.got_good (k := { k with at_ := k.at_ + 2 }) h1 (n := nxS k * 128) (by dsimp only; rw [hb]; omega)
            refine ⟨g6, ?_⟩
            rw [show ((nxS k * 128 : Nat) : Int).toNat = nxS k * 128 from rfl, g4]
            dsimp only
            rw [hb]
        obtain ⟨k1, k2⟩ := hk
        have hdl : (nxD k).length = nxS k * 128 := by rw [k2, List.length_take, List.length_drop]; omega
        refine ⟨by rw [k1]; exact hb, by rw [List.length_append, hS]; rfl, by rw [List.length_append, hD]; rfl, .inl ⟨by rw [k1]; exact h1, by rw [k1]; dsimp only; omega, ?_, ?_⟩⟩
        · intro j hj j1 j2
          by_cases hji : j < i
          · rw [List.getElem_append_left (by omega), List.getElem_append_left (by omega)]
            exact h3 j hji (by omega) (by omega)
          · have : j = i := by omega
            subst this
            rw [List.getElem_append_right (by omega), List.getElem_append_right (by omega)]
            simp only [hS, hD, Nat.sub_self, List.getElem_singleton]
            exact ⟨hdl, h8⟩
        · rw [h4, k1]
          dsimp only
          have e1 : (body.drop k.at_).drop (2 + nxS k * 128) = body.drop (k.at_ + 2 + nxS k * 128) := by rw [List.drop_drop]; congr 1; omega
          have e2 : ((body.drop k.at_).drop 2).take (nxS k * 128) = nxD k := by rw [k2, List.drop_drop]
          rw [e1, e2, show c - (i + 1) = m by omega, Option.map_map]
          congr 1
          funext t
          simp only [Function.comp]
          rw [List.append_assoc]; rfl
  · obtain ⟨q1, q2, q3⟩ := nx_bad h1
    exact ⟨by rw [q3]; exact hb, by rw [List.length_append, hS]; rfl, by rw [List.length_append, hD]; rfl, .inr ⟨by rw [q3]; exact h1, h2⟩⟩
theorem LdI.bad {body : List UInt8} {c : Nat} {k : Rk} {S : List Nat} {Ds : List (List UInt8)} (h : LdI body c c k S Ds) (hb : k.err ≠ 0 ∨ k.at_ < k.b.length) : imgParse c (body.drop 6) = none := by
  obtain ⟨e, _, _, ⟨h1, h2, h3, h4⟩ | ⟨h1, h2⟩⟩ := h
  · rw [h4, Nat.sub_self, imgParse, if_neg]
    · rfl
    · intro q
      have := congrArg List.length q
      rw [List.length_drop, List.length_nil, ← e] at this
      rcases hb with hb | hb
      · exact hb h1
      · omega
  · exact h2
theorem LdI.good {body : List UInt8} {c : Nat} {k : Rk} {S : List Nat} {Ds : List (List UInt8)} (h : LdI body c c k S Ds) (h0 : k.err = 0) (hb : ¬ k.at_ < k.b.length) : imgParse c (body.drop 6) = some Ds ∧ ∀ (j : Nat) (h1 : j < S.length) (h2 : j < Ds.length), Ds[j].length = S[j] * 128 ∧ S[j] ≤ 8192 := by
  obtain ⟨e, hS, hD, ⟨h1, h2, h3, h4⟩ | ⟨h1, h2⟩⟩ := h
  · refine ⟨?_, fun j q1 q2 => h3 j (by omega) q1 q2⟩
    rw [h4, Nat.sub_self, imgParse, if_pos (by apply List.drop_of_length_le; rw [← e]; omega)]
    simp
  · exact absurd h0 h1
end Go.Proofs.Ytpmmkmcbimnigaa

/-! Text Ie. -/
/- Package image: Load. -/
set_option maxRecDepth 8000
set_option linter.unusedVariables false
set_option linter.unusedSimpArgs false
set_option linter.unusedSectionVars false
namespace Go.Proofs.Ytpmmkmcbimnigaa
open Go.RowKit Go.Sl
attribute [local irreducible] Sl.Own

abbrev noSlot : SlotD := ⟨none, none, none⟩
/-- The bay when so many slots have been filled. -/
def bayI (ds : List (List UInt8)) (c i : Nat) : BayD := ⟨(ds.take i).map slotI ++ List.replicate (c - i) noSlot, false, -1, ⟨0, 0, 0⟩⟩
theorem bayI_all {ds : List (List UInt8)} {c : Nat} (h : ds.length = c) : bayI ds c c = imgBay ds := by
  unfold bayI imgBay
  rw [List.take_of_length_le (by omega), Nat.sub_self, List.replicate_zero, List.append_nil]
theorem bayI_zero (ds : List (List UInt8)) (c : Nat) : BayD.new (List.replicate c 0) = bayI ds c 0 := by
  unfold bayI BayD.new
  rw [List.map_replicate]; rfl
theorem bayI_step {ds : List (List UInt8)} {c i : Nat} (h : i < c) (hd : i < ds.length) : (bayI ds c (i + 1)).slots = ((ds.take i).map slotI ++ [slotI ds[i]]) ++ List.replicate (c - i - 1) noSlot := by
  unfold bayI
  dsimp only
  rw [List.take_succ_eq_append_getElem hd, List.map_append, show c - (i + 1) = c - i - 1 by omega]; rfl
theorem bayI_skip {ds : List (List UInt8)} {c i : Nat} (h : i < c) (hd : i < ds.length) (he : ds[i] = []) : bayI ds c (i + 1) = bayI ds c i := by
  have h1 := bayI_step h hd
  have h2 : (bayI ds c (i + 1)).slots = (bayI ds c i).slots := by
    rw [h1, he]
    obtain ⟨m, hm⟩ : ∃ m, c - i = m + 1 := ⟨c - i - 1, by omega⟩
    unfold bayI
    dsimp only
    rw [hm, List.append_assoc, Nat.add_sub_cancel]; rfl
  unfold bayI at h2 ⊢
  dsimp only at h2
  rw [h2]
theorem bayI_len {ds : List (List UInt8)} {c i : Nat} (h : i ≤ c) (hd : ds.length = c) : (bayI ds c i).slots.length = c := by
  unfold bayI
  simp only [List.length_append, List.length_map, List.length_take, List.length_replicate]
  omega
theorem bayI_load {ds : List (List UInt8)} {c i s : Nat} (h : i < c) (hd : ds.length = c) (h1 : (ds[i]'(by omega)).length = s * 128) (h2 : 0 < s) (h3 : s ≤ 8192) : (bayI ds c i).load (i : Int) (ds[i]'(by omega)) = (0, bayI ds c (i + 1)) := by
  have hl := bayI_len (ds := ds) (c := c) (i := i) (by omega) hd
  have hslot : (bayI ds c i).slot (i : Int) = noSlot := by
    unfold BayD.slot bayI
    dsimp only
    rw [Int.toNat_natCast, List.getElem?_append_right (by simp; omega)]
    simp only [List.length_map, List.length_take, Nat.min_eq_left (show i ≤ ds.length by omega), Nat.sub_self]
    rw [List.getElem?_replicate, if_pos (by omega)]; rfl
  have hin : inRange (bayI ds c i).slots.length (i : Int) = true := by unfold inRange; rw [hl]; exact decide_eq_true (by omega)
  have hle : loadE (ds[i]'(by omega)).length = 0 := by unfold loadE; rw [h1, if_pos (by omega)]
  have hlay : (bayI ds c i).layE (i : Int) = 0 := by
    unfold BayD.layE
    rw [hin, if_neg (by decide), hslot]; rfl
  unfold BayD.load BayD.lay
  rw [hlay, if_neg (by decide), hle, if_neg (by decide), hslot]
  have hst := bayI_step (ds := ds) h (by omega)
  have hne : ds[i]'(by omega) ≠ [] := by intro e; rw [e] at h1; simp at h1; omega
  have hsl : slotI (ds[i]'(by omega)) = ⟨some ⟨⟨chunks (ds[i]'(by omega)) ((ds[i]'(by omega)).length / 128), [], false⟩, false, 0⟩, none, none⟩ := by unfold slotI; rw [if_neg hne]
  have hset := setNext ((ds.take i).map slotI) noSlot (slotI (ds[i]'(by omega))) (c - i) (by omega)
  rw [show ((ds.take i).map slotI).length = i by rw [List.length_map, List.length_take]; omega] at hset
  rw [← hst, hsl] at hset
  refine Prod.ext rfl ?_
  show (bayI ds c i).setSlot (i : Int).toNat _ = _
  unfold BayD.setSlot
  rw [Int.toNat_natCast]
  have h5 : (bayI ds c i).slots = (ds.take i).map slotI ++ List.replicate (c - i) noSlot := rfl
  rw [h5, hset]
  rfl
theorem szC_get {n : Nat} {S : List Nat} (i : Nat) (h : i < S.length) : (szC n S)[i]? = some (.int .i64 (S[i] : Int)) := by
  unfold szC ints
  rw [List.getElem?_append_left (by rw [List.length_map]; exact h), List.getElem?_map, List.getElem?_eq_getElem h]; rfl
theorem dsC_get {n : Nat} {Ds : List RowE} (i : Nat) (h : i < Ds.length) : (dsC n Ds)[i]? = some (Ds[i].hdr) := by
  unfold dsC
  rw [List.getElem?_append_left (by rw [List.length_map]; exact h), List.getElem?_map, List.getElem?_eq_getElem h]; rfl
set_option maxHeartbeats 8000000 in
theorem imgload_ok {W : World} {R : List SProp} {ao : Option Addr} {cap : Nat} {l : List UInt8} (hr : Rds W R 1 ao l.length (bytes l)) (hcap : l.length ≤ cap) (hlen : l.length ≤ 140737488351232) :
    Does W Try.prog 29 [.slice ao l.length cap] R (β := Nat) (fun _ => True) (fun b => .tuple #[.pointer ((imgLoad l).2.map fun _ => ⟨b, 0, none⟩), .int .u16 (((imgLoad l).1 : Nat) : Int)]) (fun b => (imgLoad l).2.elim R fun ds => BayR b (imgBay ds) :: R) := by
  (refine Does.enterD Try.func29 Try.ntmps29 rfl rfl ?_)
  (refine wr ?_; repeat ((first | refine VO.step rfl rfl ?_ | refine VD.end rfl rfl rfl ?_ | refine VD.mid rfl rfl rfl ?_); refine OpV.box rfl rfl rfl ?_; intro _; refine wr ?_))
  ((first | refine VO.step rfl rfl ?_ | refine VD.end rfl rfl rfl ?_ | refine VD.mid rfl rfl rfl ?_); refine OpV.alloc (z := (.pointer none)) (fun w => by simp) rfl rfl ?_; intro n2)
  (refine wr ?_; repeat ((first | refine VO.step rfl rfl ?_ | refine VD.end rfl rfl rfl ?_ | refine VD.mid rfl rfl rfl ?_); refine OpV.box rfl rfl rfl ?_; intro _; refine wr ?_))
  ((first | refine VO.step rfl rfl ?_ | refine VD.end rfl rfl rfl ?_ | refine VD.mid rfl rfl rfl ?_); refine OpV.alloc (z := (.int .u16 0)) (fun w => by simp) rfl rfl ?_; intro n3)
  (refine wr ?_; repeat ((first | refine VO.step rfl rfl ?_ | refine VD.end rfl rfl rfl ?_ | refine VD.mid rfl rfl rfl ?_); refine OpV.box rfl rfl rfl ?_; intro _; refine wr ?_))
  refine VR.regionD rfl ?_
  (first | refine VO.pure rfl rfl (PureAt.makeFuncN rfl) rfl ?_ | refine VD.take rfl rfl rfl (PureAt.makeFuncN rfl) rfl ?_ | refine VQ.pure rfl rfl (PureAt.makeFuncN rfl) rfl ?_ | refine VD.end rfl rfl rfl (OpV.pure (PureAt.makeFuncN rfl) rfl ?_))
  refine VO.deferLast rfl rfl rfl ?_
  (refine wr ?_; repeat ((first | refine VO.step rfl rfl ?_ | refine VD.end rfl rfl rfl ?_ | refine VD.mid rfl rfl rfl ?_); refine OpV.box rfl rfl rfl ?_; intro _; refine wr ?_))
  have bad : imgForm l = false → imgLoad l = (210, none) := fun h => by unfold imgLoad; rw [if_pos h]
  ((first | refine VO.split rfl rfl rfl ?_ ?_ | refine VD.split rfl rfl rfl ?_ ?_) <;> intro hb)
  rotate_left
  · have h0 : imgForm l = false := by unfold imgForm; rw [decide_eq_false (by have := of_decide_eq_false hb; omega)]; rfl
    have hL := bad h0
    (refine wr ?_; repeat ((first | refine VO.step rfl rfl ?_ | refine VD.end rfl rfl rfl ?_ | refine VD.mid rfl rfl rfl ?_); refine OpV.box rfl rfl rfl ?_; intro _; refine wr ?_))
    ((first | refine VO.step rfl rfl ?_ | refine VD.end rfl rfl rfl ?_ | refine VD.mid rfl rfl rfl ?_); refine OpV.callDies rfl rfl (fun _ _ => by simp) (need_dies 210) Ent.refl ?_; refine VE.sh ?_; (repeat (first | refine VF.passPanic ?_ | refine VF.blockPanic ?_ | refine VF.loopPanic ?_)); refine VF.ent (H' := Row n2 72 [.pointer none] :: Row n3 26 [.int .u16 0] :: R) Ent.re ?_; refine VF.leavePanic (fun _ _ => by simp) (loadD_pan 210) 0 rfl (ResIs.leaf tab_ok rfl rfl (.head _) rfl) (ResIs.leaf tab_ok rfl rfl (.tail _ (.head _)) rfl) trivial ?_ ?_)
    · rw [hL]; rfl
    · rw [hL]; exact Ent.drop (Ent.drop Ent.refl)
  have f1 : l.length ≤ 33554432 := by have := of_decide_eq_true hb; omega
  clear hb
  (refine wr ?_; repeat ((first | refine VO.step rfl rfl ?_ | refine VD.end rfl rfl rfl ?_ | refine VD.mid rfl rfl rfl ?_); refine OpV.box rfl rfl rfl ?_; intro _; refine wr ?_))
  ((first | refine VO.split rfl rfl rfl ?_ ?_ | refine VD.split rfl rfl rfl ?_ ?_) <;> intro hb)
  rotate_left
  · have h0 : imgForm l = false := by unfold imgForm; rw [decide_eq_false (show ¬ 10 ≤ l.length by have := of_decide_eq_false hb; omega), Bool.and_false]; rfl
    have hL := bad h0
    (refine wr ?_; repeat ((first | refine VO.step rfl rfl ?_ | refine VD.end rfl rfl rfl ?_ | refine VD.mid rfl rfl rfl ?_); refine OpV.box rfl rfl rfl ?_; intro _; refine wr ?_))
    ((first | refine VO.step rfl rfl ?_ | refine VD.end rfl rfl rfl ?_ | refine VD.mid rfl rfl rfl ?_); refine OpV.callDies rfl rfl (fun _ _ => by simp) (need_dies 210) Ent.refl ?_; refine VE.sh ?_; (repeat (first | refine VF.passPanic ?_ | refine VF.blockPanic ?_ | refine VF.loopPanic ?_)); refine VF.ent (H' := Row n2 72 [.pointer none] :: Row n3 26 [.int .u16 0] :: R) Ent.re ?_; refine VF.leavePanic (fun _ _ => by simp) (loadD_pan 210) 0 rfl (ResIs.leaf tab_ok rfl rfl (.head _) rfl) (ResIs.leaf tab_ok rfl rfl (.tail _ (.head _)) rfl) trivial ?_ ?_)
    · rw [hL]; rfl
    · rw [hL]; exact Ent.drop (Ent.drop Ent.refl)
  have f2 : 10 ≤ l.length := by have := of_decide_eq_true hb; omega
  clear hb
  obtain ⟨la, rfl⟩ : ∃ x, ao = some x := by cases ao with | none => have := hr.nil rfl; omega | some x => exact ⟨x, rfl⟩
  have hform : imgForm l = decide (l.take 5 = magicI) := by unfold imgForm; rw [decide_eq_true f1, decide_eq_true f2]; rfl
  have hR : Rds W (Row n3 26 [.int .u16 0] :: Row n2 72 [.pointer none] :: R) 1 (some la) l.length (bytes l) := hr.ent (Ent.drop (Ent.drop Ent.refl))
  (refine wr ?_; repeat ((first | refine VO.step rfl rfl ?_ | refine VD.end rfl rfl rfl ?_ | refine VD.mid rfl rfl rfl ?_); refine OpV.box rfl rfl rfl ?_; intro _; refine wr ?_))
  (first | refine VO.pure rfl rfl (PureAt.toStr (l := l.take 5) tab_ok rfl rfl rfl rfl (rds_head hR 5 (by omega)) rfl) rfl ?_ | refine VD.take rfl rfl rfl (PureAt.toStr (l := l.take 5) tab_ok rfl rfl rfl rfl (rds_head hR 5 (by omega)) rfl) rfl ?_ | refine VQ.pure rfl rfl (PureAt.toStr (l := l.take 5) tab_ok rfl rfl rfl rfl (rds_head hR 5 (by omega)) rfl) rfl ?_ | refine VD.end rfl rfl rfl (OpV.pure (PureAt.toStr (l := l.take 5) tab_ok rfl rfl rfl rfl (rds_head hR 5 (by omega)) rfl) rfl ?_))
  (refine wr ?_; repeat ((first | refine VO.step rfl rfl ?_ | refine VD.end rfl rfl rfl ?_ | refine VD.mid rfl rfl rfl ?_); refine OpV.box rfl rfl rfl ?_; intro _; refine wr ?_))
  (first | refine VO.pure rfl rfl (PureAt.strEq (a := l.take 5) (b := magicI) tab_ok rfl rfl rfl rfl) rfl ?_ | refine VD.take rfl rfl rfl (PureAt.strEq (a := l.take 5) (b := magicI) tab_ok rfl rfl rfl rfl) rfl ?_ | refine VQ.pure rfl rfl (PureAt.strEq (a := l.take 5) (b := magicI) tab_ok rfl rfl rfl rfl) rfl ?_ | refine VD.end rfl rfl rfl (OpV.pure (PureAt.strEq (a := l.take 5) (b := magicI) tab_ok rfl rfl rfl rfl) rfl ?_))
  (refine wr ?_; repeat ((first | refine VO.step rfl rfl ?_ | refine VD.end rfl rfl rfl ?_ | refine VD.mid rfl rfl rfl ?_); refine OpV.box rfl rfl rfl ?_; intro _; refine wr ?_))
  by_cases h5 : l.take 5 = magicI
  rotate_left
  · have hL := bad (by rw [hform, decide_eq_false h5])
    refine VO.re 28 (.bool false) rfl (by rw [decide_eq_false h5]) ?_
    ((first | refine VO.step rfl rfl ?_ | refine VD.end rfl rfl rfl ?_ | refine VD.mid rfl rfl rfl ?_); refine OpV.callDies rfl rfl (fun _ _ => by simp) (need_dies 210) Ent.refl ?_; refine VE.sh ?_; (repeat (first | refine VF.passPanic ?_ | refine VF.blockPanic ?_ | refine VF.loopPanic ?_)); refine VF.ent (H' := Row n2 72 [.pointer none] :: Row n3 26 [.int .u16 0] :: R) Ent.re ?_; refine VF.leavePanic (fun _ _ => by simp) (loadD_pan 210) 0 rfl (ResIs.leaf tab_ok rfl rfl (.head _) rfl) (ResIs.leaf tab_ok rfl rfl (.tail _ (.head _)) rfl) trivial ?_ ?_)
    · rw [hL]; rfl
    · rw [hL]; exact Ent.drop (Ent.drop Ent.refl)
  rw [decide_eq_true h5] at hform
  refine VO.re 28 (.bool true) rfl (by rw [decide_eq_true h5]) ?_
  ((first | refine VO.step rfl rfl ?_ | refine VD.end rfl rfl rfl ?_ | refine VD.mid rfl rfl rfl ?_); refine OpV.call rfl rfl (fun _ _ => by simp) (need_ok (.int .u16 210) rfl) Ent.refl rfl ?_)
  intro _ _
  (refine wr ?_; repeat ((first | refine VO.step rfl rfl ?_ | refine VD.end rfl rfl rfl ?_ | refine VD.mid rfl rfl rfl ?_); refine OpV.box rfl rfl rfl ?_; intro _; refine wr ?_))
  refine VO.re 33 (.int .i64 ((l.length - 4 : Nat) : Int)) rfl (by congr 1; omega) ?_
  (refine wr ?_; repeat ((first | refine VO.step rfl rfl ?_ | refine VD.end rfl rfl rfl ?_ | refine VD.mid rfl rfl rfl ?_); refine OpV.box rfl rfl rfl ?_; intro _; refine wr ?_))
  have hsub : ∀ H : List SProp, Rds W H 1 (some la) l.length (bytes l) → Rds W H 1 (subA (some la) cap (l.length - 4) 1) (l.length - (l.length - 4)) (bytes (l.drop (l.length - 4))) := fun H h => by
    have h1 := rds_part h (l.length - 4) l.length (by omega) (Nat.le_refl _) hcap
    rwa [List.take_of_length_le (by rw [List.length_drop]; omega)] at h1
  ((first | refine VO.step rfl rfl ?_ | refine VD.end rfl rfl rfl ?_ | refine VD.mid rfl rfl rfl ?_); refine OpV.call rfl rfl (fun _ _ => by simp) (read_ok (hsub _ hR) (by omega)) Ent.refl rfl ?_)
  intro r1 _
  (refine wr ?_; repeat ((first | refine VO.step rfl rfl ?_ | refine VD.end rfl rfl rfl ?_ | refine VD.mid rfl rfl rfl ?_); refine OpV.box rfl rfl rfl ?_; intro _; refine wr ?_))
  ((first | refine VO.step rfl rfl ?_ | refine VD.end rfl rfl rfl ?_ | refine VD.mid rfl rfl rfl ?_); refine OpV.call rfl rfl (fun _ _ => by simp) (r32_ok r1 ⟨l.drop (l.length - 4), 0, 0, 0⟩) Ent.refl rfl ?_)
  intro _ _
  have hg4 : (Rk.mk (l.drop (l.length - 4)) 0 0 0).got 4 = l.drop (l.length - 4) := by
    have h1 := (Rk.got_good (k := ⟨l.drop (l.length - 4), 0, 0, 0⟩) rfl (n := 4) (by dsimp only; rw [List.length_drop]; omega)).1
    rw [h1, List.drop_zero, List.take_of_length_le (by rw [List.length_drop]; omega)]
  rw [hg4]
  refine VO.ent (H' := Row n3 26 [.int .u16 0] :: Row n2 72 [.pointer none] :: R) Ent.re ?_
  (refine wr ?_; repeat ((first | refine VO.step rfl rfl ?_ | refine VD.end rfl rfl rfl ?_ | refine VD.mid rfl rfl rfl ?_); refine OpV.box rfl rfl rfl ?_; intro _; refine wr ?_))
  have hBl : (imgB l).length = l.length - 4 := by rw [List.length_take]; omega
  have hRb : ∀ H : List SProp, Rds W H 1 (some la) l.length (bytes l) → Rds W H 1 (some la) (imgB l).length (bytes (imgB l)) := fun H h => by rw [hBl]; exact rds_head h (l.length - 4) (by omega)
  have hsum := sum_ok (W := W) (cap := cap) (l := imgB l) (hRb _ hR) (by omega)
  rw [hBl] at hsum
  ((first | refine VO.step rfl rfl ?_ | refine VD.end rfl rfl rfl ?_ | refine VD.mid rfl rfl rfl ?_); refine OpV.call rfl rfl (fun _ _ => by simp) (hsum) Ent.refl rfl ?_)
  intro _ _
  (refine wr ?_; repeat ((first | refine VO.step rfl rfl ?_ | refine VD.end rfl rfl rfl ?_ | refine VD.mid rfl rfl rfl ?_); refine OpV.box rfl rfl rfl ?_; intro _; refine wr ?_))
  have hseq : (((leVal (l.drop (l.length - 4)) : Nat) : Int) == (((crcS (imgB l)).toNat : Nat) : Int)) = imgSum l := by
    unfold imgSum
    rw [Bool.eq_iff_iff, beq_iff_eq, decide_eq_true_iff]
    omega
  refine VO.re 43 (.bool (imgSum l)) rfl (by rw [hseq]) ?_
  cases hsm : imgSum l with
  | false =>
    have hL : imgLoad l = (211, none) := by unfold imgLoad; rw [hform, if_neg (by decide), if_pos hsm]
    ((first | refine VO.step rfl rfl ?_ | refine VD.end rfl rfl rfl ?_ | refine VD.mid rfl rfl rfl ?_); refine OpV.callDies rfl rfl (fun _ _ => by simp) (need_dies 211) Ent.refl ?_; refine VE.sh ?_; (repeat (first | refine VF.passPanic ?_ | refine VF.blockPanic ?_ | refine VF.loopPanic ?_)); refine VF.ent (H' := Row n2 72 [.pointer none] :: Row n3 26 [.int .u16 0] :: R) Ent.re ?_; refine VF.leavePanic (fun _ _ => by simp) (loadD_pan 211) 0 rfl (ResIs.leaf tab_ok rfl rfl (.head _) rfl) (ResIs.leaf tab_ok rfl rfl (.tail _ (.head _)) rfl) trivial ?_ ?_)
    · rw [hL]; rfl
    · rw [hL]; exact Ent.drop (Ent.drop Ent.refl)
  | true =>
  ((first | refine VO.step rfl rfl ?_ | refine VD.end rfl rfl rfl ?_ | refine VD.mid rfl rfl rfl ?_); refine OpV.call rfl rfl (fun _ _ => by simp) (need_ok (.int .u16 211) rfl) Ent.refl rfl ?_)
  intro _ _
  (refine wr ?_; repeat ((first | refine VO.step rfl rfl ?_ | refine VD.end rfl rfl rfl ?_ | refine VD.mid rfl rfl rfl ?_); refine OpV.box rfl rfl rfl ?_; intro _; refine wr ?_))
  have hread := read_ok (W := W) (cap := cap) (hRb _ hR) (by omega)
  rw [hBl] at hread
  ((first | refine VO.step rfl rfl ?_ | refine VD.end rfl rfl rfl ?_ | refine VD.mid rfl rfl rfl ?_); refine OpV.call rfl rfl (fun _ _ => by simp) (hread) Ent.refl rfl ?_)
  intro r5 _
  (refine wr ?_; repeat ((first | refine VO.step rfl rfl ?_ | refine VD.end rfl rfl rfl ?_ | refine VD.mid rfl rfl rfl ?_); refine OpV.box rfl rfl rfl ?_; intro _; refine wr ?_))
  ((first | refine VO.step rfl rfl ?_ | refine VD.end rfl rfl rfl ?_ | refine VD.mid rfl rfl rfl ?_); refine OpV.alloc (z := (.pointer none)) (fun w => by simp) rfl rfl ?_; intro n5)
  (refine wr ?_; repeat ((first | refine VO.step rfl rfl ?_ | refine VD.end rfl rfl rfl ?_ | refine VD.mid rfl rfl rfl ?_); refine OpV.box rfl rfl rfl ?_; intro _; refine wr ?_))
  refine VO.ent (H' := ReaderR r5 ⟨imgB l, 0, 0, 0⟩ :: Row n5 115 [.pointer (some ⟨r5, 0, none⟩)] :: Row n3 26 [.int .u16 0] :: Row n2 72 [.pointer none] :: R) Ent.re ?_
  ((first | refine VO.step rfl rfl ?_ | refine VD.end rfl rfl rfl ?_ | refine VD.mid rfl rfl rfl ?_); refine OpV.call rfl rfl (fun _ _ => by simp) (rraw_ok r5 ⟨imgB l, 0, 0, 0⟩ 5) Ent.refl rfl ?_)
  rintro ⟨yo, yc⟩ _
  have hk5 : (Rk.mk (imgB l) 0 0 0).raw 5 = ⟨imgB l, 5, 0, 0⟩ := by
    have h1 := (Rk.got_good (k := ⟨imgB l, 0, 0, 0⟩) rfl (n := 5) (by dsimp only; rw [hBl]; omega)).2.2
    exact h1
  rw [hk5]
  refine VO.ent (H' := ReaderR r5 ⟨imgB l, 5, 0, 0⟩ :: Row n5 115 [.pointer (some ⟨r5, 0, none⟩)] :: Row n3 26 [.int .u16 0] :: Row n2 72 [.pointer none] :: R) Ent.re ?_
  (refine wr ?_; repeat ((first | refine VO.step rfl rfl ?_ | refine VD.end rfl rfl rfl ?_ | refine VD.mid rfl rfl rfl ?_); refine OpV.box rfl rfl rfl ?_; intro _; refine wr ?_))
  ((first | refine VO.step rfl rfl ?_ | refine VD.end rfl rfl rfl ?_ | refine VD.mid rfl rfl rfl ?_); refine OpV.call rfl rfl (fun _ _ => by simp) (r8_ok r5 ⟨imgB l, 5, 0, 0⟩) Ent.refl rfl ?_)
  intro _ _
  have hg1 := Rk.got_good (k := ⟨imgB l, 5, 0, 0⟩) rfl (n := 1) (by dsimp only; rw [hBl]; omega)
  have hk6 : (Rk.mk (imgB l) 5 0 0).number 1 = ⟨imgB l, 6, 0, 0⟩ := hg1.2.2
  have hcv : leVal ((Rk.mk (imgB l) 5 0 0).got 1) = imgC l := by
    rw [hg1.1]
    have h6 : 5 < (imgB l).length := by rw [hBl]; omega
    dsimp only
    rw [List.drop_eq_getElem_cons h6]
    simp [leVal, imgC, List.getD, List.getElem?_eq_getElem h6]
  rw [hcv, hk6]
  have hc255 : imgC l < 256 := UInt8.toNat_lt _
  generalize hcc : imgC l = c at *
  (first | refine VO.step rfl rfl ?_ | refine VD.end rfl rfl rfl ?_ | refine VD.mid rfl rfl rfl ?_)
  refine OpV.makeSlice1 (m := c) st_120 rfl rfl rfl (by omega) (by simp only [maxLen]; omega) rfl ?_
  intro sa0
  (refine wr ?_; repeat ((first | refine VO.step rfl rfl ?_ | refine VD.end rfl rfl rfl ?_ | refine VD.mid rfl rfl rfl ?_); refine OpV.box rfl rfl rfl ?_; intro _; refine wr ?_))
  ((first | refine VO.step rfl rfl ?_ | refine VD.end rfl rfl rfl ?_ | refine VD.mid rfl rfl rfl ?_); refine OpV.alloc (z := (.slice none 0 0)) (fun w => by simp) rfl rfl ?_; intro n6)
  (refine wr ?_; repeat ((first | refine VO.step rfl rfl ?_ | refine VD.end rfl rfl rfl ?_ | refine VD.mid rfl rfl rfl ?_); refine OpV.box rfl rfl rfl ?_; intro _; refine wr ?_))
  have hLd : imgLoad l = if c < 1 ∨ 17 < c then (210, none) else imgOf (imgParse c ((imgB l).drop 6)) := by
    unfold imgLoad
    rw [hform, if_neg (by decide), hsm, if_neg (by decide), hcc]
  ((first | refine VO.split rfl rfl rfl ?_ ?_ | refine VD.split rfl rfl rfl ?_ ?_) <;> intro hb)
  rotate_left
  · have hL : imgLoad l = (210, none) := by rw [hLd, if_pos (.inl (by have := of_decide_eq_false hb; omega))]
    (refine wr ?_; repeat ((first | refine VO.step rfl rfl ?_ | refine VD.end rfl rfl rfl ?_ | refine VD.mid rfl rfl rfl ?_); refine OpV.box rfl rfl rfl ?_; intro _; refine wr ?_))
    ((first | refine VO.step rfl rfl ?_ | refine VD.end rfl rfl rfl ?_ | refine VD.mid rfl rfl rfl ?_); refine OpV.callDies rfl rfl (fun _ _ => by simp) (need_dies 210) Ent.refl ?_; refine VE.sh ?_; (repeat (first | refine VF.passPanic ?_ | refine VF.blockPanic ?_ | refine VF.loopPanic ?_)); refine VF.ent (H' := Row n2 72 [.pointer none] :: Row n3 26 [.int .u16 0] :: R) Ent.re ?_; refine VF.leavePanic (fun _ _ => by simp) (loadD_pan 210) 0 rfl (ResIs.leaf tab_ok rfl rfl (.head _) rfl) (ResIs.leaf tab_ok rfl rfl (.tail _ (.head _)) rfl) trivial ?_ ?_)
    · rw [hL]; rfl
    · rw [hL]; exact Ent.drop (Ent.drop Ent.refl)
  have c1 : 1 ≤ c := by have := of_decide_eq_true hb; omega
  clear hb
  (refine wr ?_; repeat ((first | refine VO.step rfl rfl ?_ | refine VD.end rfl rfl rfl ?_ | refine VD.mid rfl rfl rfl ?_); refine OpV.box rfl rfl rfl ?_; intro _; refine wr ?_))
  by_cases c17 : c ≤ 17
  rotate_left
  · have hL : imgLoad l = (210, none) := by rw [hLd, if_pos (.inr (by omega))]
    refine VO.re 59 (.bool false) rfl (by rw [decide_eq_false (by omega)]) ?_
    ((first | refine VO.step rfl rfl ?_ | refine VD.end rfl rfl rfl ?_ | refine VD.mid rfl rfl rfl ?_); refine OpV.callDies rfl rfl (fun _ _ => by simp) (need_dies 210) Ent.refl ?_; refine VE.sh ?_; (repeat (first | refine VF.passPanic ?_ | refine VF.blockPanic ?_ | refine VF.loopPanic ?_)); refine VF.ent (H' := Row n2 72 [.pointer none] :: Row n3 26 [.int .u16 0] :: R) Ent.re ?_; refine VF.leavePanic (fun _ _ => by simp) (loadD_pan 210) 0 rfl (ResIs.leaf tab_ok rfl rfl (.head _) rfl) (ResIs.leaf tab_ok rfl rfl (.tail _ (.head _)) rfl) trivial ?_ ?_)
    · rw [hL]; rfl
    · rw [hL]; exact Ent.drop (Ent.drop Ent.refl)
  rw [if_neg (by omega)] at hLd
  refine VO.re 59 (.bool true) rfl (by rw [decide_eq_true (by omega)]) ?_
  ((first | refine VO.step rfl rfl ?_ | refine VD.end rfl rfl rfl ?_ | refine VD.mid rfl rfl rfl ?_); refine OpV.call rfl rfl (fun _ _ => by simp) (need_ok (.int .u16 210) rfl) Ent.refl rfl ?_)
  intro _ _
  (refine wr ?_; repeat ((first | refine VO.step rfl rfl ?_ | refine VD.end rfl rfl rfl ?_ | refine VD.mid rfl rfl rfl ?_); refine OpV.box rfl rfl rfl ?_; intro _; refine wr ?_))
  (first | refine VO.step rfl rfl ?_ | refine VD.end rfl rfl rfl ?_ | refine VD.mid rfl rfl rfl ?_)
  refine OpV.makeSlice1 (m := c) st_33 rfl rfl rfl (by omega) (by simp only [maxLen]; omega) rfl ?_
  intro da0
  (refine wr ?_; repeat ((first | refine VO.step rfl rfl ?_ | refine VD.end rfl rfl rfl ?_ | refine VD.mid rfl rfl rfl ?_); refine OpV.box rfl rfl rfl ?_; intro _; refine wr ?_))
  ((first | refine VO.step rfl rfl ?_ | refine VD.end rfl rfl rfl ?_ | refine VD.mid rfl rfl rfl ?_); refine OpV.alloc (z := (.slice none 0 0)) (fun w => by simp) rfl rfl ?_; intro n7)
  (refine wr ?_; repeat ((first | refine VO.step rfl rfl ?_ | refine VD.end rfl rfl rfl ?_ | refine VD.mid rfl rfl rfl ?_); refine OpV.box rfl rfl rfl ?_; intro _; refine wr ?_))
  (first | refine VO.pure rfl rfl (PureAt.makeFuncN rfl) rfl ?_ | refine VD.take rfl rfl rfl (PureAt.makeFuncN rfl) rfl ?_ | refine VQ.pure rfl rfl (PureAt.makeFuncN rfl) rfl ?_ | refine VD.end rfl rfl rfl (OpV.pure (PureAt.makeFuncN rfl) rfl ?_))
  (refine wr ?_; repeat ((first | refine VO.step rfl rfl ?_ | refine VD.end rfl rfl rfl ?_ | refine VD.mid rfl rfl rfl ?_); refine OpV.box rfl rfl rfl ?_; intro _; refine wr ?_))
  obtain ⟨X, hX⟩ : ∃ X : NxX, X = ⟨n5, n6, n7, r5, ⟨sa0, 0, none⟩, ⟨da0, 0, none⟩, c⟩ := ⟨_, rfl⟩
  refine VR.ent (H' := nxO ⟨n5, n6, n7, r5, ⟨sa0, 0, none⟩, ⟨da0, 0, none⟩, c⟩ ⟨imgB l, 6, 0, 0⟩ [] [] (Row n3 26 [.int .u16 0] :: Row n2 72 [.pointer none] :: R)) (Ent.trans (fun w hw => pile_nil (res := RowE.res) hw) Ent.re) ?_
  refine VR.loop (α := Nat × Rk × List Nat × List RowE) (fun y => y.1 ≤ c ∧ LdI (imgB l) c y.1 y.2.1 y.2.2.1 (y.2.2.2.map RowE.data)) (fun y => nxO ⟨n5, n6, n7, r5, ⟨sa0, 0, none⟩, ⟨da0, 0, none⟩, c⟩ y.2.1 y.2.2.1 y.2.2.2 (Row n3 26 [.int .u16 0] :: Row n2 72 [.pointer none] :: R))
    (fun y => [(2, .pointer (some ⟨n2, 0, none⟩)), (3, .pointer (some ⟨n3, 0, none⟩)), (5, .pointer (some ⟨n5, 0, none⟩)), (6, .pointer (some ⟨n6, 0, none⟩)), (7, .pointer (some ⟨n7, 0, none⟩)), (8, .func (.func 64) #[] #[.pointer (some ⟨n5, 0, none⟩), .pointer (some ⟨n6, 0, none⟩), .pointer (some ⟨n7, 0, none⟩)]), (66, .int .i64 c), (67, .int .i64 y.1)]) (fun y => c - y.1) rfl
    (0, ⟨imgB l, 6, 0, 0⟩, [], []) ⟨Nat.zero_le _, rfl, rfl, rfl, .inl ⟨rfl, by dsimp only; rw [hBl]; omega, fun j h => absurd h (by omega), by simp⟩⟩ Ent.refl ⟨rfl, rfl, rfl, rfl, rfl, rfl, rfl, rfl, trivial⟩ ?_
  rintro ⟨i, k, S, Ds⟩ ⟨hi, hI⟩
  dsimp only at hi hI ⊢
  (refine wr ?_; repeat ((first | refine VO.step rfl rfl ?_ | refine VD.end rfl rfl rfl ?_ | refine VD.mid rfl rfl rfl ?_); refine OpV.box rfl rfl rfl ?_; intro _; refine wr ?_))
  (refine VR.cond rfl rfl ?_ ?_ <;> intro hc)
  · have hlt : i < c := by have := of_decide_eq_true hc; omega
    clear hc
    have hSl := hI.2.1
    have hDl := hI.2.2.1
    rw [List.length_map] at hDl
    (refine wr ?_; repeat ((first | refine VO.step rfl rfl ?_ | refine VD.end rfl rfl rfl ?_ | refine VD.mid rfl rfl rfl ?_); refine OpV.box rfl rfl rfl ?_; intro _; refine wr ?_))
    by_cases h8 : nxS k ≤ 8192
    · ((first | refine VO.step rfl rfl ?_ | refine VD.end rfl rfl rfl ?_ | refine VD.mid rfl rfl rfl ?_); refine OpV.call rfl rfl (fun _ _ => by simp) (imgnext_ok ⟨n5, n6, n7, r5, ⟨sa0, 0, none⟩, ⟨da0, 0, none⟩, c⟩ k S Ds i hSl hDl hlt c17 h8) Ent.refl rfl ?_)
      rintro ⟨yo2, yc2⟩ _
      (refine wr ?_; repeat ((first | refine VO.step rfl rfl ?_ | refine VD.end rfl rfl rfl ?_ | refine VD.mid rfl rfl rfl ?_); refine OpV.box rfl rfl rfl ?_; intro _; refine wr ?_))
      refine VF.round (i + 1, nxK k, S ++ [nxS k], Ds ++ [⟨yo2, yc2, nxD k⟩]) ⟨hlt, ?_⟩ (by dsimp only; omega) ⟨rfl, rfl, rfl, rfl, rfl, rfl, rfl, asV rfl (by congr 1), trivial⟩ Ent.refl
      dsimp only
      rw [List.map_append]
      exact hI.next hlt h8
    · have hL : imgLoad l = (210, none) := by rw [hLd, hI.dies hlt (by omega)]; rfl
      (first | refine VO.step rfl rfl ?_ | refine VD.end rfl rfl rfl ?_ | refine VD.mid rfl rfl rfl ?_)
      refine OpV.callDies rfl rfl (fun _ _ => by simp) (imgnext_dies ⟨n5, n6, n7, r5, ⟨sa0, 0, none⟩, ⟨da0, 0, none⟩, c⟩ k S Ds i hSl hDl hlt c17 (by omega)) Ent.refl ?_
      refine VE.sh ?_
      (repeat (first | refine VF.passPanic ?_ | refine VF.blockPanic ?_ | refine VF.loopPanic ?_))
      refine VF.ent (H' := Row n2 72 [.pointer none] :: Row n3 26 [.int .u16 0] :: R) Ent.re ?_
      refine VF.leavePanic (fun _ _ => by simp) (loadD_pan 210) 0 rfl (ResIs.leaf tab_ok rfl rfl (.head _) rfl) (ResIs.leaf tab_ok rfl rfl (.tail _ (.head _)) rfl) trivial ?_ ?_
      · rw [hL]; rfl
      · rw [hL]; exact Ent.drop (Ent.drop Ent.refl)
  have hge : i = c := by have := of_decide_eq_false hc; omega
  clear hc
  subst hge
  (refine wr ?_; repeat ((first | refine VO.step rfl rfl ?_ | refine VD.end rfl rfl rfl ?_ | refine VD.mid rfl rfl rfl ?_); refine OpV.box rfl rfl rfl ?_; intro _; refine wr ?_))
  refine VO.know (p := k.ok) (fun w hw => ReaderR.know hw) ?_
  intro hkok
  ((first | refine VO.step rfl rfl ?_ | refine VD.end rfl rfl rfl ?_ | refine VD.mid rfl rfl rfl ?_); refine OpV.call rfl rfl (fun _ _ => by simp) (rend_ok r5 k) Ent.refl rfl ?_)
  intro _ _
  have hbadL : k.err ≠ 0 ∨ k.at_ < k.b.length → imgLoad l = (210, none) := fun h => by rw [hLd, hI.bad h]; rfl
  by_cases hend : k.err = 0 ∧ k.at_ < k.b.length
  · have hL := hbadL (.inr hend.2)
    rw [if_pos hend]
    (refine wr ?_; repeat ((first | refine VO.step rfl rfl ?_ | refine VD.end rfl rfl rfl ?_ | refine VD.mid rfl rfl rfl ?_); refine OpV.box rfl rfl rfl ?_; intro _; refine wr ?_))
    ((first | refine VO.step rfl rfl ?_ | refine VD.end rfl rfl rfl ?_ | refine VD.mid rfl rfl rfl ?_); refine OpV.callDies rfl rfl (fun _ _ => by simp) (need_dies 210) Ent.refl ?_; refine VE.sh ?_; (repeat (first | refine VF.passPanic ?_ | refine VF.blockPanic ?_ | refine VF.loopPanic ?_)); refine VF.ent (H' := Row n2 72 [.pointer none] :: Row n3 26 [.int .u16 0] :: R) Ent.re ?_; refine VF.leavePanic (fun _ _ => by simp) (loadD_pan 210) 0 rfl (ResIs.leaf tab_ok rfl rfl (.head _) rfl) (ResIs.leaf tab_ok rfl rfl (.tail _ (.head _)) rfl) trivial ?_ ?_)
    · rw [hL]; rfl
    · rw [hL]; exact Ent.drop (Ent.drop Ent.refl)
  rw [if_neg hend]
  by_cases herr : k.err = 0
  rotate_left
  · have hL := hbadL (.inl herr)
    (refine wr ?_; repeat ((first | refine VO.step rfl rfl ?_ | refine VD.end rfl rfl rfl ?_ | refine VD.mid rfl rfl rfl ?_); refine OpV.box rfl rfl rfl ?_; intro _; refine wr ?_))
    refine VO.re 80 (.bool false) rfl (by rw [beq_eq_false_iff_ne.2 herr]) ?_
    ((first | refine VO.step rfl rfl ?_ | refine VD.end rfl rfl rfl ?_ | refine VD.mid rfl rfl rfl ?_); refine OpV.callDies rfl rfl (fun _ _ => by simp) (need_dies 210) Ent.refl ?_; refine VE.sh ?_; (repeat (first | refine VF.passPanic ?_ | refine VF.blockPanic ?_ | refine VF.loopPanic ?_)); refine VF.ent (H' := Row n2 72 [.pointer none] :: Row n3 26 [.int .u16 0] :: R) Ent.re ?_; refine VF.leavePanic (fun _ _ => by simp) (loadD_pan 210) 0 rfl (ResIs.leaf tab_ok rfl rfl (.head _) rfl) (ResIs.leaf tab_ok rfl rfl (.tail _ (.head _)) rfl) trivial ?_ ?_)
    · rw [hL]; rfl
    · rw [hL]; exact Ent.drop (Ent.drop Ent.refl)
  obtain ⟨hparse, hsz⟩ := hI.good herr (fun h => hend ⟨herr, h⟩)
  have hL : imgLoad l = (0, some (Ds.map RowE.data)) := by rw [hLd, hparse]; rfl
  have hSl := hI.2.1
  have hDl := hI.2.2.1
  rw [List.length_map] at hDl
  (refine wr ?_; repeat ((first | refine VO.step rfl rfl ?_ | refine VD.end rfl rfl rfl ?_ | refine VD.mid rfl rfl rfl ?_); refine OpV.box rfl rfl rfl ?_; intro _; refine wr ?_))
  refine VO.re 80 (.bool true) rfl (by rw [herr]; rfl) ?_
  ((first | refine VO.step rfl rfl ?_ | refine VD.end rfl rfl rfl ?_ | refine VD.mid rfl rfl rfl ?_); refine OpV.call rfl rfl (fun _ _ => by simp) (need_ok (.int .u16 210) rfl) Ent.refl rfl ?_)
  intro _ _
  (refine wr ?_; repeat ((first | refine VO.step rfl rfl ?_ | refine VD.end rfl rfl rfl ?_ | refine VD.mid rfl rfl rfl ?_); refine OpV.box rfl rfl rfl ?_; intro _; refine wr ?_))
  (first | refine VO.step rfl rfl ?_ | refine VD.end rfl rfl rfl ?_ | refine VD.mid rfl rfl rfl ?_)
  refine OpV.makeSlice1 (m := i) st_120 rfl rfl rfl (by omega) (by simp only [maxLen]; omega) rfl ?_
  intro zb
  (refine wr ?_; repeat ((first | refine VO.step rfl rfl ?_ | refine VD.end rfl rfl rfl ?_ | refine VD.mid rfl rfl rfl ?_); refine OpV.box rfl rfl rfl ?_; intro _; refine wr ?_))
  have hz : Rds W (Sl.Own 3 1 (.slice (some ⟨zb, 0, none⟩) i i) i (List.replicate i (.int .i64 0)) :: ReaderR r5 k :: nxF ⟨n5, n6, n7, r5, ⟨sa0, 0, none⟩, ⟨da0, 0, none⟩, i⟩ S Ds (Row n3 26 [.int .u16 0] :: Row n2 72 [.pointer none] :: R)) 1 (some ⟨zb, 0, none⟩) (List.replicate i (0 : Int)).length (intsI (List.replicate i 0)) := by
    rw [List.length_replicate, show intsI (List.replicate i 0) = List.replicate i (.int .i64 0) by unfold intsI; rw [List.map_replicate]]
    exact Rds.own (fun u hu => by rw [List.mem_replicate] at hu; rw [hu.2]; rfl) (.head _) (by rw [List.length_replicate, Nat.mul_one]) (fun h => by cases h)
  have hnew := baynew_ok (cap := i) hz (by rw [List.length_replicate]; omega)
  have hE0 : bayE (List.replicate i (0 : Int)) = 0 := by
    unfold bayE
    rw [List.length_replicate, if_neg (by omega), if_pos]
    rw [List.all_eq_true]
    intro u hu
    rw [List.mem_replicate] at hu
    rw [hu.2]; decide
  rw [List.length_replicate, hE0] at hnew
  ((first | refine VO.step rfl rfl ?_ | refine VD.end rfl rfl rfl ?_ | refine VD.mid rfl rfl rfl ?_); refine OpV.call rfl rfl (fun _ _ => by simp) (hnew) Ent.refl rfl ?_)
  intro xb hxb
  obtain ⟨b, rfl⟩ : ∃ b, xb = some b := by cases xb with | none => simp at hxb | some b => exact ⟨b, rfl⟩
  rw [Option.elim_some, bayI_zero (Ds.map RowE.data) i]
  (refine wr ?_; repeat ((first | refine VO.step rfl rfl ?_ | refine VD.end rfl rfl rfl ?_ | refine VD.mid rfl rfl rfl ?_); refine OpV.box rfl rfl rfl ?_; intro _; refine wr ?_))
  refine VR.ent (H' := BayR b (bayI (Ds.map RowE.data) i 0) :: Row n2 72 [.pointer (some ⟨b, 0, none⟩)] :: Row n6 120 [.slice (some ⟨sa0, 0, none⟩) i i] :: Sl.Own 3 1 (.slice (some ⟨sa0, 0, none⟩) i i) i (szC i S) :: Sl.Own 47 1 (.slice (some ⟨da0, 0, none⟩) i i) i (dsC i Ds) :: PilR Ds :: Row n3 26 [.int .u16 0] :: R) Ent.re ?_
  refine VR.loop (α := Nat) (fun j => j ≤ i) (fun j => BayR b (bayI (Ds.map RowE.data) i j) :: Row n2 72 [.pointer (some ⟨b, 0, none⟩)] :: Row n6 120 [.slice (some ⟨sa0, 0, none⟩) i i] :: Sl.Own 3 1 (.slice (some ⟨sa0, 0, none⟩) i i) i (szC i S) :: Sl.Own 47 1 (.slice (some ⟨da0, 0, none⟩) i i) i (dsC i Ds) :: PilR Ds :: Row n3 26 [.int .u16 0] :: R)
    (fun j => [(2, .pointer (some ⟨n2, 0, none⟩)), (3, .pointer (some ⟨n3, 0, none⟩)), (6, .pointer (some ⟨n6, 0, none⟩)), (89, .slice (some ⟨da0, 0, none⟩) i i), (90, .int .i64 i), (91, .int .i64 j)]) (fun j => i - j) rfl 0 (Nat.zero_le _) Ent.refl ⟨rfl, rfl, rfl, rfl, rfl, rfl, trivial⟩ ?_
  intro j hj
  refine VR.know (p := ∀ d ∈ Ds, d.ok) (fun w hw => PilR.know hw.tail.tail.tail.tail.tail) ?_
  intro hokD
  (refine wr ?_; repeat ((first | refine VO.step rfl rfl ?_ | refine VD.end rfl rfl rfl ?_ | refine VD.mid rfl rfl rfl ?_); refine OpV.box rfl rfl rfl ?_; intro _; refine wr ?_))
  (refine VR.cond rfl rfl ?_ ?_ <;> intro hc)
  · have hlt : j < i := by have := of_decide_eq_true hc; omega
    clear hc
    have hjD : j < Ds.length := by omega
    have hjS : j < S.length := by omega
    have hs1 := hsz j hjS (by rw [List.length_map]; exact hjD)
    rw [List.getElem_map] at hs1
    have hdR : ∀ H : List SProp, Sl.Own 47 1 (.slice (some ⟨da0, 0, none⟩) i i) i (dsC i Ds) ∈ H → Rds W H 1 (some ⟨da0, 0, none⟩) i (dsC i Ds) := fun H m => Rds.own (dsC_one _ _) m (by rw [dsC_len (by omega), Nat.mul_one]) (fun h => by cases h)
    have hsR : ∀ H : List SProp, Sl.Own 3 1 (.slice (some ⟨sa0, 0, none⟩) i i) i (szC i S) ∈ H → Rds W H 1 (some ⟨sa0, 0, none⟩) i (szC i S) := fun H m => Rds.own (szC_one _ _) m (by rw [szC_len (by omega), Nat.mul_one]) (fun h => by cases h)
    (refine wr ?_; repeat ((first | refine VO.step rfl rfl ?_ | refine VD.end rfl rfl rfl ?_ | refine VD.mid rfl rfl rfl ?_); refine OpV.box rfl rfl rfl ?_; intro _; refine wr ?_))
    (first | refine VO.pure rfl rfl (PureAt.ldR tab_ok rfl rfl (hdR _ (by (focus repeat first | exact .head _ | apply List.Mem.tail))) (dsC_get j hjD)) rfl ?_ | refine VD.take rfl rfl rfl (PureAt.ldR tab_ok rfl rfl (hdR _ (by (focus repeat first | exact .head _ | apply List.Mem.tail))) (dsC_get j hjD)) rfl ?_ | refine VQ.pure rfl rfl (PureAt.ldR tab_ok rfl rfl (hdR _ (by (focus repeat first | exact .head _ | apply List.Mem.tail))) (dsC_get j hjD)) rfl ?_ | refine VD.end rfl rfl rfl (OpV.pure (PureAt.ldR tab_ok rfl rfl (hdR _ (by (focus repeat first | exact .head _ | apply List.Mem.tail))) (dsC_get j hjD)) rfl ?_))
    (refine wr ?_; repeat ((first | refine VO.step rfl rfl ?_ | refine VD.end rfl rfl rfl ?_ | refine VD.mid rfl rfl rfl ?_); refine OpV.box rfl rfl rfl ?_; intro _; refine wr ?_))
    (first | refine VO.pure rfl rfl (PureAt.ldR tab_ok rfl rfl (hsR _ (by (focus repeat first | exact .head _ | apply List.Mem.tail))) (szC_get j hjS)) rfl ?_ | refine VD.take rfl rfl rfl (PureAt.ldR tab_ok rfl rfl (hsR _ (by (focus repeat first | exact .head _ | apply List.Mem.tail))) (szC_get j hjS)) rfl ?_ | refine VQ.pure rfl rfl (PureAt.ldR tab_ok rfl rfl (hsR _ (by (focus repeat first | exact .head _ | apply List.Mem.tail))) (szC_get j hjS)) rfl ?_ | refine VD.end rfl rfl rfl (OpV.pure (PureAt.ldR tab_ok rfl rfl (hsR _ (by (focus repeat first | exact .head _ | apply List.Mem.tail))) (szC_get j hjS)) rfl ?_))
    (refine wr ?_; repeat ((first | refine VO.step rfl rfl ?_ | refine VD.end rfl rfl rfl ?_ | refine VD.mid rfl rfl rfl ?_); refine OpV.box rfl rfl rfl ?_; intro _; refine wr ?_))
    (refine VR.cond rfl rfl ?_ ?_ <;> intro hc)
    · have hp : 0 < S[j] := by have := of_decide_eq_true hc; omega
      clear hc
      (refine wr ?_; repeat ((first | refine VO.step rfl rfl ?_ | refine VD.end rfl rfl rfl ?_ | refine VD.mid rfl rfl rfl ?_); refine OpV.box rfl rfl rfl ?_; intro _; refine wr ?_))
      have hok := hokD _ (List.getElem_mem hjD)
      have hds : ∀ H : List SProp, PilR Ds ∈ H → Rds W H 1 (Ds[j]).ao (Ds[j]).data.length (bytes (Ds[j]).data) := fun H m => Rds.pile m (List.getElem_mem hjD) (fun R hR => RowE.rds hok hR)
      ((first | refine VO.step rfl rfl ?_ | refine VD.end rfl rfl rfl ?_ | refine VD.mid rfl rfl rfl ?_); refine OpV.call rfl rfl (fun _ _ => by simp) (bayloadR_ok (cap := (Ds[j]).cap) b (bayI (Ds.map RowE.data) i j) (j : Int) (hds _ (by (focus repeat first | exact .head _ | apply List.Mem.tail))) (by omega) hok.cap) Ent.refl rfl ?_)
      intro _ _
      have hld := bayI_load (ds := Ds.map RowE.data) (c := i) (i := j) (s := S[j]) hlt (by rw [List.length_map]; exact hDl) (by rw [List.getElem_map]; exact hs1.1) hp hs1.2
      rw [List.getElem_map] at hld
      rw [hld]
      (refine wr ?_; repeat ((first | refine VO.step rfl rfl ?_ | refine VD.end rfl rfl rfl ?_ | refine VD.mid rfl rfl rfl ?_); refine OpV.box rfl rfl rfl ?_; intro _; refine wr ?_))
      refine VO.re 105 (.bool true) rfl rfl ?_
      ((first | refine VO.step rfl rfl ?_ | refine VD.end rfl rfl rfl ?_ | refine VD.mid rfl rfl rfl ?_); refine OpV.call rfl rfl (fun _ _ => by simp) (need_ok (.int .u16 210) rfl) Ent.refl rfl ?_)
      intro _ _
      (refine wr ?_; repeat ((first | refine VO.step rfl rfl ?_ | refine VD.end rfl rfl rfl ?_ | refine VD.mid rfl rfl rfl ?_); refine OpV.box rfl rfl rfl ?_; intro _; refine wr ?_))
      refine VF.round (j + 1) hlt (by omega) ⟨rfl, rfl, rfl, rfl, rfl, asV rfl (by congr 1), trivial⟩ Ent.refl
    · have hz : S[j] = 0 := by have := of_decide_eq_false hc; omega
      clear hc
      have hemp : (Ds[j]).data = [] := List.length_eq_zero_iff.1 (by rw [hs1.1, hz])
      (refine wr ?_; repeat ((first | refine VO.step rfl rfl ?_ | refine VD.end rfl rfl rfl ?_ | refine VD.mid rfl rfl rfl ?_); refine OpV.box rfl rfl rfl ?_; intro _; refine wr ?_))
      refine VF.round (j + 1) hlt (by omega) ⟨rfl, rfl, rfl, rfl, rfl, asV rfl (by congr 1), trivial⟩ ?_
      rw [bayI_skip hlt (by rw [List.length_map]; exact hjD) (by rw [List.getElem_map]; exact hemp)]
      exact Ent.refl
  · have hge2 : j = i := by have := of_decide_eq_false hc; omega
    clear hc
    subst hge2
    rw [bayI_all (by rw [List.length_map]; exact hDl)]
    (refine wr ?_; repeat ((first | refine VO.step rfl rfl ?_ | refine VD.end rfl rfl rfl ?_ | refine VD.mid rfl rfl rfl ?_); refine OpV.box rfl rfl rfl ?_; intro _; refine wr ?_))
    refine VF.ent (H' := Row n2 72 [.pointer (some ⟨b, 0, none⟩)] :: Row n3 26 [.int .u16 0] :: BayR b (imgBay (Ds.map RowE.data)) :: R) Ent.re ?_
    refine VF.leaveRet (.inl rfl) (fun _ _ => by simp) loadD_ret b rfl (ResIs.leaf tab_ok rfl rfl (.head _) rfl) (ResIs.leaf tab_ok rfl rfl (.tail _ (.head _)) rfl) trivial ?_ ?_
    · rw [hL]; rfl
    · rw [hL]; exact Ent.drop (Ent.drop Ent.refl)
end Go.Proofs.Ytpmmkmcbimnigaa

/-! Text If. -/
/- Package image: what Save gives is loaded; the laws' known. -/
set_option maxRecDepth 8000
set_option linter.unusedVariables false
set_option linter.unusedSimpArgs false
set_option linter.unusedSectionVars false
namespace Go.Proofs.Ytpmmkmcbimnigaa
open Go.RowKit Go.Sl
attribute [local irreducible] Sl.Own

def encD (d : List UInt8) : List UInt8 := lowBytes (d.length / 128) 2 ++ d
def goodD (d : List UInt8) : Prop := d.length % 128 = 0 ∧ d.length / 128 ≤ 8192
theorem imgParse_enc : ∀ (ds : List (List UInt8)), (∀ d ∈ ds, goodD d) → imgParse ds.length (ds.flatMap encD) = some ds
  | [], _ => rfl
  | d :: t, h => by
    have hd := h d (.head _)
    have ih := imgParse_enc t fun x hx => h x (.tail _ hx)
    have e : (d :: t).flatMap encD = lowBytes (d.length / 128) 2 ++ (d ++ t.flatMap encD) := by rw [List.flatMap_cons, encD, List.append_assoc]
    have h2 : (lowBytes (d.length / 128) 2).length = 2 := lowBytes_length _ _
    have ht : ((d :: t).flatMap encD).take 2 = lowBytes (d.length / 128) 2 := by rw [e, List.take_left' h2]
    have hv : leVal (((d :: t).flatMap encD).take 2) = d.length / 128 := by rw [ht]; exact leVal_low 2 _ (by have := hd.2; omega)
    have hm : d.length / 128 * 128 = d.length := by have := hd.1; omega
    rw [List.length_cons, imgParse, hv, hm]
    rw [if_neg]
    · have e1 : ((d :: t).flatMap encD).drop (2 + d.length) = t.flatMap encD := by
        rw [e, ← List.append_assoc]
        exact List.drop_left' (by rw [List.length_append, h2])
      have e2 : (((d :: t).flatMap encD).drop 2).take d.length = d := by
        rw [e, List.drop_left' h2]
        exact List.take_left' rfl
      rw [e1, e2, ih]; rfl
    · rw [e]
      simp only [List.length_append, h2]
      have := hd.2
      omega
def bodyOfD (ds : List (List UInt8)) : List UInt8 := magicI ++ [UInt8.ofNat ds.length] ++ ds.flatMap encD
theorem bodyOfD_len : ∀ (ds : List (List UInt8)), (∀ d ∈ ds, goodD d) → (ds.flatMap encD).length ≤ ds.length * 1048578
  | [], _ => by simp
  | d :: t, h => by
    have ih := bodyOfD_len t fun x hx => h x (.tail _ hx)
    have hd := h d (.head _)
    rw [List.flatMap_cons, List.length_append, encD, List.length_append, lowBytes_length, List.length_cons]
    have := hd.1; have := hd.2
    omega
theorem imgLoad_seal (ds : List (List UInt8)) (h1 : 1 ≤ ds.length) (h17 : ds.length ≤ 17) (hg : ∀ d ∈ ds, goodD d) : imgLoad (sealI (bodyOfD ds)) = (0, some ds) := by
  have hbl : (bodyOfD ds).length = 6 + (ds.flatMap encD).length := by unfold bodyOfD; rw [List.length_append]; rfl
  have hmx := bodyOfD_len ds hg
  have h3 : ds.length * 1048578 ≤ 17 * 1048578 := Nat.mul_le_mul_right _ h17
  have hlow : (lowBytes (crcS (bodyOfD ds)).toNat 4).length = 4 := lowBytes_length _ _
  have hsl : (sealI (bodyOfD ds)).length = (bodyOfD ds).length + 4 := by unfold sealI; rw [List.length_append, hlow]
  have hB : imgB (sealI (bodyOfD ds)) = bodyOfD ds := by
    unfold imgB
    rw [hsl, Nat.add_sub_cancel]
    unfold sealI
    exact List.take_left' rfl
  have hT : (sealI (bodyOfD ds)).drop ((sealI (bodyOfD ds)).length - 4) = lowBytes (crcS (bodyOfD ds)).toNat 4 := by
    rw [hsl, Nat.add_sub_cancel]
    unfold sealI
    exact List.drop_left' rfl
  have hform : imgForm (sealI (bodyOfD ds)) = true := by
    have ht : (sealI (bodyOfD ds)).take 5 = magicI := by
      unfold sealI bodyOfD
      rw [List.append_assoc, List.append_assoc]
      exact List.take_left' rfl
    have hpos : 1 ≤ (ds.flatMap encD).length := by
      cases ds with
      | nil => simp at h1
      | cons d t => rw [List.flatMap_cons, List.length_append, encD, List.length_append, lowBytes_length]; omega
    unfold imgForm
    rw [ht, decide_eq_true (show (sealI (bodyOfD ds)).length ≤ 33554432 by omega), decide_eq_true (show 10 ≤ (sealI (bodyOfD ds)).length by omega)]
    rfl
  have hsum : imgSum (sealI (bodyOfD ds)) = true := by
    unfold imgSum
    rw [hB, hT]
    exact decide_eq_true (leVal_low 4 _ (crcS_lt _))
  have hc : imgC (sealI (bodyOfD ds)) = ds.length := by
    unfold imgC
    rw [hB]
    have : (bodyOfD ds).getD 5 0 = UInt8.ofNat ds.length := by
      unfold bodyOfD
      rw [List.append_assoc]
      simp [magicI, List.getD]
    rw [this]
    simp
    omega
  have hd6 : (bodyOfD ds).drop 6 = ds.flatMap encD := by
    unfold bodyOfD
    exact List.drop_left' rfl
  unfold imgLoad
  rw [hform, if_neg (by decide), hsum, if_neg (by decide), hc, if_neg (by omega), hB, hd6, imgParse_enc ds hg]
  rfl
def disksOf (D : BayD) : List (List UInt8) := (List.range D.slots.length).map (diskB D)
theorem imgBody_disks (D : BayD) : imgBody D = bodyOfD (disksOf D) := by
  unfold imgBody bodyOfD disksOf
  rw [List.length_map, List.length_range, List.flatMap_map]
  rfl
theorem goodD_nil : goodD [] := by constructor <;> decide
theorem imgLoad_cases (l : List UInt8) : (∃ e : Nat, imgLoad l = (e, none) ∧ (e = 210 ∨ e = 211)) ∨ ∃ ds, imgLoad l = (0, some ds) := by
  unfold imgLoad
  split
  · exact .inl ⟨210, rfl, .inl rfl⟩
  · split
    · exact .inl ⟨211, rfl, .inr rfl⟩
    · split
      · exact .inl ⟨210, rfl, .inl rfl⟩
      · cases imgParse (imgC l) ((imgB l).drop 6) with
        | none => exact .inl ⟨210, rfl, .inl rfl⟩
        | some ds => exact .inr ⟨ds, rfl⟩
/-! ### known -/
def knD : BayD := BayD.new [0, 1]
theorem knD_disks : disksOf knD = [[], List.replicate 128 0] := by kernel_rfl
theorem knD_len : (imgS knD).length = 142 ∧ (imgS knD).take 10 = [83, 80, 73, 77, 1, 2, 0, 0, 1, 0] := by
  have h : imgBody knD = bodyOfD (disksOf knD) := imgBody_disks knD
  rw [knD_disks] at h
  unfold imgS sealI
  rw [h]
  constructor
  · rw [List.length_append, lowBytes_length]; rfl
  · rw [List.take_append_of_le_length (by decide)]; rfl
theorem knD_load : imgLoad (imgS knD) = (0, some [[], List.replicate 128 0]) := by
  have h1 : bodyOfD (disksOf knD) = bodyOfD [[], List.replicate 128 0] := by rw [knD_disks]
  unfold imgS
  rw [imgBody_disks, h1]
  refine imgLoad_seal _ (by decide) (by decide) ?_
  intro d hd
  rcases List.mem_cons.1 hd with rfl | hd
  · exact goodD_nil
  · rw [List.mem_singleton] at hd; subst hd; constructor <;> decide
set_option maxHeartbeats 2000000 in
theorem imgknown_ok {W : World} {R : List SProp} : Does1 W Try.prog 30 [] R (.bool true) R := by
  (refine Does.enter Try.func30 Try.ntmps30 rfl rfl ?_)
  (refine w ?_; repeat ((first | refine VO.step rfl rfl ?_ | refine VD.end rfl rfl rfl ?_ | refine VD.mid rfl rfl rfl ?_); refine OpV.box rfl rfl rfl ?_; intro _; refine w ?_))
  ((first | refine VO.step rfl rfl ?_ | refine VD.end rfl rfl rfl ?_ | refine VD.mid rfl rfl rfl ?_); refine OpV.buildSlice1 st_120 rfl rfl (by first | (simp; done) | simp [Value.oneCell']) (by decide) rfl ?_; intro nb)
  (refine w ?_; repeat ((first | refine VO.step rfl rfl ?_ | refine VD.end rfl rfl rfl ?_ | refine VD.mid rfl rfl rfl ?_); refine OpV.box rfl rfl rfl ?_; intro _; refine w ?_))
  have hz : Rds W (Row nb 3 [.int .i64 0, .int .i64 1] :: R) 1 (some ⟨nb, 0, none⟩) ([0, 1] : List Int).length (intsI [0, 1]) := Rds.row (intsI_one _) (.head _) rfl
  have hnew := baynew_ok (cap := 2) hz (by decide)
  rw [show bayE [0, 1] = 0 by kernel_rfl] at hnew
  ((first | refine VO.step rfl rfl ?_ | refine VD.end rfl rfl rfl ?_ | refine VD.mid rfl rfl rfl ?_); refine OpV.call rfl rfl (fun _ _ => by simp) (hnew) Ent.refl rfl ?_)
  intro xb hxb
  obtain ⟨b, rfl⟩ : ∃ b, xb = some b := by cases xb with | none => simp at hxb | some b => exact ⟨b, rfl⟩
  rw [Option.elim_some, show BayD.new [0, 1] = knD from rfl]
  (refine w ?_; repeat ((first | refine VO.step rfl rfl ?_ | refine VD.end rfl rfl rfl ?_ | refine VD.mid rfl rfl rfl ?_); refine OpV.box rfl rfl rfl ?_; intro _; refine w ?_))
  ((first | refine VO.step rfl rfl ?_ | refine VD.end rfl rfl rfl ?_ | refine VD.mid rfl rfl rfl ?_); refine OpV.call rfl rfl (fun _ _ => by simp) (save_ok b knD) Ent.refl rfl ?_)
  rintro ⟨lo, lc⟩ _
  obtain ⟨k1, k2⟩ := knD_len
  have k3 := knD_load
  generalize imgS knD = L at k1 k2 k3 ⊢
  refine VO.know (p := lo = none → L.length = 0) (fun w hw => Holds.ownNone hw (.head _)) ?_
  intro hlo
  refine VO.know (p := L.length ≤ lc) (fun w hw => Holds.ownCap hw (.head _)) ?_
  intro hlc
  obtain ⟨la, rfl⟩ : ∃ x, lo = some x := by cases lo with | none => have := hlo rfl; omega | some x => exact ⟨x, rfl⟩
  have hRL : ∀ H : List SProp, OwnB (some la, lc) L ∈ H → Rds W H 1 (some la) L.length (bytes L) := fun H m => Rds.own (bytes_one _) m (by simp) hlo
  (refine w ?_; repeat ((first | refine VO.step rfl rfl ?_ | refine VD.end rfl rfl rfl ?_ | refine VD.mid rfl rfl rfl ?_); refine OpV.box rfl rfl rfl ?_; intro _; refine w ?_))
  (first | refine VO.gF rfl rfl rfl (by rw [k1]; rfl) ?_ | refine VD.gF rfl rfl rfl (by rw [k1]; rfl) ?_)
  (refine w ?_; repeat ((first | refine VO.step rfl rfl ?_ | refine VD.end rfl rfl rfl ?_ | refine VD.mid rfl rfl rfl ?_); refine OpV.box rfl rfl rfl ?_; intro _; refine w ?_))
  (first | refine VO.pure rfl rfl (PureAt.toStr (l := L.take 10) tab_ok rfl rfl rfl rfl (rds_head (hRL _ (.head _)) 10 (by omega)) rfl) rfl ?_ | refine VD.take rfl rfl rfl (PureAt.toStr (l := L.take 10) tab_ok rfl rfl rfl rfl (rds_head (hRL _ (.head _)) 10 (by omega)) rfl) rfl ?_ | refine VQ.pure rfl rfl (PureAt.toStr (l := L.take 10) tab_ok rfl rfl rfl rfl (rds_head (hRL _ (.head _)) 10 (by omega)) rfl) rfl ?_ | refine VD.end rfl rfl rfl (OpV.pure (PureAt.toStr (l := L.take 10) tab_ok rfl rfl rfl rfl (rds_head (hRL _ (.head _)) 10 (by omega)) rfl) rfl ?_))
  (refine w ?_; repeat ((first | refine VO.step rfl rfl ?_ | refine VD.end rfl rfl rfl ?_ | refine VD.mid rfl rfl rfl ?_); refine OpV.box rfl rfl rfl ?_; intro _; refine w ?_))
  (first | refine VO.pure rfl rfl (PureAt.strEq (a := L.take 10) (b := [83, 80, 73, 77, 1, 2, 0, 0, 1, 0]) tab_ok rfl rfl rfl rfl) rfl ?_ | refine VD.take rfl rfl rfl (PureAt.strEq (a := L.take 10) (b := [83, 80, 73, 77, 1, 2, 0, 0, 1, 0]) tab_ok rfl rfl rfl rfl) rfl ?_ | refine VQ.pure rfl rfl (PureAt.strEq (a := L.take 10) (b := [83, 80, 73, 77, 1, 2, 0, 0, 1, 0]) tab_ok rfl rfl rfl rfl) rfl ?_ | refine VD.end rfl rfl rfl (OpV.pure (PureAt.strEq (a := L.take 10) (b := [83, 80, 73, 77, 1, 2, 0, 0, 1, 0]) tab_ok rfl rfl rfl rfl) rfl ?_))
  (refine w ?_; repeat ((first | refine VO.step rfl rfl ?_ | refine VD.end rfl rfl rfl ?_ | refine VD.mid rfl rfl rfl ?_); refine OpV.box rfl rfl rfl ?_; intro _; refine w ?_))
  (refine VC.condFe rfl rfl (by rw [decide_eq_true k2]; rfl) ?_)
  (refine w ?_; repeat ((first | refine VO.step rfl rfl ?_ | refine VD.end rfl rfl rfl ?_ | refine VD.mid rfl rfl rfl ?_); refine OpV.box rfl rfl rfl ?_; intro _; refine w ?_))
  have hld := imgload_ok (W := W) (cap := lc) (hRL (OwnB (some la, lc) L :: BayR b knD :: Row nb 3 [.int .i64 0, .int .i64 1] :: R) (.head _)) hlc (by omega)
  rw [k3] at hld
  ((first | refine VO.step rfl rfl ?_ | refine VD.end rfl rfl rfl ?_ | refine VD.mid rfl rfl rfl ?_); refine OpV.call rfl rfl (fun _ _ => by simp) (hld) Ent.refl rfl ?_)
  intro c _
  rw [Option.elim_some]
  (refine w ?_; repeat ((first | refine VO.step rfl rfl ?_ | refine VD.end rfl rfl rfl ?_ | refine VD.mid rfl rfl rfl ?_); refine OpV.box rfl rfl rfl ?_; intro _; refine w ?_))
  ((first | refine VO.step rfl rfl ?_ | refine VD.end rfl rfl rfl ?_ | refine VD.mid rfl rfl rfl ?_); refine OpV.call rfl rfl (fun _ _ => by simp) (bayslots_ok c (imgBay [[], List.replicate 128 0])) Ent.refl rfl ?_)
  intro _ _
  (refine w ?_; repeat ((first | refine VO.step rfl rfl ?_ | refine VD.end rfl rfl rfl ?_ | refine VD.mid rfl rfl rfl ?_); refine OpV.box rfl rfl rfl ?_; intro _; refine w ?_))
  ((first | refine VO.step rfl rfl ?_ | refine VD.end rfl rfl rfl ?_ | refine VD.mid rfl rfl rfl ?_); refine OpV.call rfl rfl (fun _ _ => by simp) (bayhas_ok c (imgBay [[], List.replicate 128 0]) 0) Ent.refl rfl ?_)
  intro _ _
  refine VO.re 52 (.bool false) rfl (by congr 1) ?_
  (refine w ?_; repeat ((first | refine VO.step rfl rfl ?_ | refine VD.end rfl rfl rfl ?_ | refine VD.mid rfl rfl rfl ?_); refine OpV.box rfl rfl rfl ?_; intro _; refine w ?_))
  ((first | refine VO.step rfl rfl ?_ | refine VD.end rfl rfl rfl ?_ | refine VD.mid rfl rfl rfl ?_); refine OpV.call rfl rfl (fun _ _ => by simp) (bayhas_ok c (imgBay [[], List.replicate 128 0]) 1) Ent.refl rfl ?_)
  intro _ _
  refine VO.re 57 (.bool true) rfl (by congr 1) ?_
  (refine w ?_; repeat ((first | refine VO.step rfl rfl ?_ | refine VD.end rfl rfl rfl ?_ | refine VD.mid rfl rfl rfl ?_); refine OpV.box rfl rfl rfl ?_; intro _; refine w ?_))
  ((first | refine VO.step rfl rfl ?_ | refine VD.end rfl rfl rfl ?_ | refine VD.mid rfl rfl rfl ?_); refine OpV.call rfl rfl (fun _ _ => by simp) (baysectors_ok c (imgBay [[], List.replicate 128 0]) 1) Ent.refl rfl ?_)
  intro _ _
  refine VO.re 61 (.int .i64 1) rfl (by congr 1) ?_
  (refine w ?_; repeat ((first | refine VO.step rfl rfl ?_ | refine VD.end rfl rfl rfl ?_ | refine VD.mid rfl rfl rfl ?_); refine OpV.box rfl rfl rfl ?_; intro _; refine w ?_))
  (refine VE.done1 rfl ?_ ?_)
  · rfl
  · exact Ent.re
end Go.Proofs.Ytpmmkmcbimnigaa

/-! Text Ig. -/
/- The law ImageTurned: walked. -/
set_option maxRecDepth 8000
set_option linter.unusedVariables false
set_option linter.unusedSimpArgs false
set_option linter.unusedSectionVars false
namespace Go.Sl
section
variable {W : World} {P : Program} {n : Nat} {H : List SProp} {f : Fr} {dst : Option Tmp} {ty_ : TypeId} {pos : String} {after : Array Edge} {guard : Option (Nat × Bool)}
theorem PureAt.remZ {x y : Operand} {s u : TypeId} {k : IntKind} {a b : Int} (hx : evalX f x = some (.int k a)) (hy : evalX f y = some (.int k b)) (hb : 0 < b) :
    PureAt W P n H f { dst, op := .binOp .rem s x y u, type := ty_, pos, after, guard } (.int k (a.tmod b)) := by
  unfold PureAt
  intro tm w hk _
  have e1 : ¬ b = 0 := by omega
  simp [execOp, hk.eval hx, hk.eval hy, eqGuard, binOp, Op.intDiv, e1]
end
end Go.Sl
namespace Go.Proofs.Ytpmmkmcbimnigaa
open Go.RowKit Go.Sl
attribute [local irreducible] Sl.Own

theorem bit32 (ch i : Nat) (h : ch < 4294967296) : ((IntKind.u32.wrap ((BitVec.ofInt IntKind.u32.bits ((ch / 2 ^ i : Nat) : Int) &&& BitVec.ofInt IntKind.u32.bits 1).toNat : Int)) == 1) = ch.testBit i := by
  have h1 : ch / 2 ^ i < 4294967296 := Nat.lt_of_le_of_lt (Nat.div_le_self _ _) h
  have e : (BitVec.ofInt IntKind.u32.bits ((ch / 2 ^ i : Nat) : Int) &&& BitVec.ofInt IntKind.u32.bits 1).toNat = ch / 2 ^ i % 2 := by
    show (BitVec.ofInt 32 ((ch / 2 ^ i : Nat) : Int) &&& BitVec.ofInt 32 1).toNat = _
    rw [BitVec.toNat_and, BitVec.ofInt_natCast, BitVec.toNat_ofNat, Nat.mod_eq_of_lt h1, show (BitVec.ofInt 32 1).toNat = 1 from rfl, Nat.and_one_is_mod]
  rw [e, u32_nat (by omega), Nat.testBit_eq_decide_div_mod_eq]
  rw [Bool.eq_iff_iff, beq_iff_eq, decide_eq_true_iff]
  omega
theorem flip8 (b : UInt8) (r : Nat) (h : r < 8) : IntKind.u8.wrap ((BitVec.ofInt IntKind.u8.bits (b.toNat : Int) ^^^ BitVec.ofInt IntKind.u8.bits (IntKind.u8.wrap (1 * 2 ^ min r IntKind.u8.bits))).toNat : Int) = ((flipB b r).toNat : Int) := by
  have e1 : IntKind.u8.wrap (1 * 2 ^ min r IntKind.u8.bits) = ((2 ^ r : Nat) : Int) := by
    match r, h with
    | 0, _ => rfl
    | 1, _ => rfl
    | 2, _ => rfl
    | 3, _ => rfl
    | 4, _ => rfl
    | 5, _ => rfl
    | 6, _ => rfl
    | 7, _ => rfl
  have h1 : b.toNat < 2 ^ 8 := b.toNat_lt
  have h2 : 2 ^ r < 2 ^ 8 := Nat.pow_lt_pow_right (by decide) h
  have e2 : (BitVec.ofInt 8 (b.toNat : Int) ^^^ BitVec.ofInt 8 ((2 ^ r : Nat) : Int)).toNat = b.toNat ^^^ 2 ^ r := by
    rw [BitVec.toNat_xor, BitVec.ofInt_natCast, BitVec.ofInt_natCast, BitVec.toNat_ofNat, BitVec.toNat_ofNat, Nat.mod_eq_of_lt h1, Nat.mod_eq_of_lt h2]
  rw [e1]
  show IntKind.u8.wrap ((BitVec.ofInt 8 (b.toNat : Int) ^^^ BitVec.ofInt 8 ((2 ^ r : Nat) : Int)).toNat : Int) = _
  rw [e2, u8_of]; rfl
/-- A sector whose sum is right, changed in a run of at most 32 bits: its sum is wrong. -/
theorem sum_toldK (a x : List UInt8) (k : Nat) (ha : a.length = k + 4) (hx : x.length = k + 4) (hs : numAt a k 4 = (crcS (a.take k)).toNat) (p m : Nat) (w : List Bool) (hw : w.length ≤ 32)
    (hd : xorL (allBits a) (allBits x) = List.replicate p false ++ (w ++ List.replicate m false)) (hk : numAt x k 4 = (crcS (x.take k)).toNat) : w = List.replicate w.length false := by
  have e1 := good_state a k ha hs
  have e2 := good_state x k hx hk
  have h := bitF_xor (allBits a) (allBits x) (~~~0#32) (~~~0#32) (by rw [allBits_length, allBits_length, ha, hx])
  rw [e1, e2, BitVec.xor_self, BitVec.xor_self, hd] at h
  exact run_told p m w hw h
/-- A sector with a right sum, a run of it turned over: if the sum is right again, nothing was turned. -/
theorem turned_toldK (a : List UInt8) (k f ch : Nat) (ha : a.length = k + 4) (hs : numAt a k 4 = (crcS (a.take k)).toNat) (hk : numAt (turnM a f ch 32) k 4 = (crcS ((turnM a f ch 32).take k)).toNat) : turnM a f ch 32 = a := by
  have hx := turnM_length a f ch 32
  have hbit := bit_turnM a f ch 32
  generalize turnM a f ch 32 = x at *
  have hL : ∀ j, j < 8 * (k + 4) → (xorL (allBits a) (allBits x))[j]? = some (decide (f ≤ j ∧ j < f + 32) && ch.testBit (j - f)) := by
    intro j hj
    rw [xorL_get _ _ j _ _ (allBits_get a j (by omega)) (allBits_get x j (by omega)), hbit j (by omega)]
    cases bitL a j <;> simp
  have hlen : (xorL (allBits a) (allBits x)).length = 8 * (k + 4) := by rw [xorL_length _ _ (by rw [allBits_length, allBits_length, hx]), allBits_length, ha, Nat.mul_comm]
  have hlt : ∀ (j : Nat) b, (xorL (allBits a) (allBits x))[j]? = some b → j < 8 * (k + 4) := fun j b h => by rw [← hlen]; exact (List.getElem?_eq_some_iff.1 h).1
  obtain ⟨w, hw, ⟨p, m, hd⟩, hwi⟩ := list_parts (L := xorL (allBits a) (allBits x)) (f := f) (fun j b hj h => by
    rw [hL j (hlt j b h)] at h
    rw [decide_eq_false (by omega)] at h
    simpa using h.symm) (fun j b hj h => by
    rw [hL j (hlt j b h)] at h
    rw [decide_eq_false (by omega)] at h
    simpa using h.symm)
  have hz := sum_toldK a x k ha (by omega) hs p m w hw hd hk
  symm
  apply bits_same hx.symm
  intro j hj
  rw [hbit j hj]
  by_cases hc : f ≤ j ∧ j < f + 32
  · have h1 := hwi (j - f) (by omega)
    rw [show f + (j - f) = j by omega, hL j (by omega), hz] at h1
    have h2 : (decide (f ≤ j ∧ j < f + 32) && ch.testBit (j - f)) = false := by
      have := List.getElem?_eq_some_iff.1 h1.symm
      obtain ⟨h3, h4⟩ := this
      simpa using h4.symm
    rw [h2]; simp
  · rw [decide_eq_false hc]; simp

theorem u32_ofI {z : Int} (h : (Lit.int .u32 z).wf = true) : ∃ m : Nat, z = m ∧ m < 4294967296 := by
  simp [Lit.wf, IntKind.min, IntKind.max, IntKind.signed, IntKind.bits] at h
  exact ⟨z.toNat, by omega, by omega⟩
theorem imgSum_num {l : List UInt8} {k : Nat} (hl : l.length = k + 4) : imgSum l = decide (numAt l k 4 = (crcS (l.take k)).toNat) := by
  unfold imgSum imgB numAt
  rw [hl, Nat.add_sub_cancel, show (l.drop k).take 4 = l.drop k from List.take_of_length_le (by rw [List.length_drop]; omega)]
theorem img_turned {a : List UInt8} {ds : List (List UInt8)} (f ch : Nat) (h : imgLoad a = (0, some ds)) : (((imgLoad (turnM a f ch 32)).1 == 0) = decide (turnM a f ch 32 = a)) := by
  rw [Bool.eq_iff_iff, beq_iff_eq, decide_eq_true_iff]
  have key : ∀ l : List UInt8, (imgLoad l).1 = 0 → imgForm l = true ∧ imgSum l = true := fun l h => by
    unfold imgLoad at h
    cases h1 : imgForm l with
    | false => rw [h1] at h; simp at h
    | true =>
      cases h2 : imgSum l with
      | false => rw [h1, h2] at h; simp at h
      | true => exact ⟨rfl, rfl⟩
  constructor
  · intro h0
    obtain ⟨f1, s1⟩ := key a (by rw [h])
    obtain ⟨f2, s2⟩ := key _ h0
    have hlen : 10 ≤ a.length := by
      unfold imgForm at f1
      simp only [Bool.and_eq_true, decide_eq_true_eq] at f1
      exact f1.1.2
    obtain ⟨k, hk⟩ : ∃ k, a.length = k + 4 := ⟨a.length - 4, by omega⟩
    rw [imgSum_num hk] at s1
    rw [imgSum_num (by rw [turnM_length]; exact hk)] at s2
    exact turned_toldK a k f ch hk (of_decide_eq_true s1) (of_decide_eq_true s2)
  · intro e
    rw [e, h]
theorem imgLoad_len {a : List UInt8} {ds : List (List UInt8)} (h : imgLoad a = (0, some ds)) : 10 ≤ a.length := by
  unfold imgLoad at h
  cases h1 : imgForm a with
  | false => rw [h1] at h; simp at h
  | true =>
    unfold imgForm at h1
    simp only [Bool.and_eq_true, decide_eq_true_eq] at h1
    exact h1.1.2
set_option maxHeartbeats 4000000 in
theorem imgturned_law {W : World} {ao : Option Addr} {cap : Nat} {a : List UInt8} (at_ : Int) (ch : Nat) (hr : RdsA W 1 ao a.length (bytes a)) (hcap : a.length ≤ cap) (hlen : a.length ≤ 140737488351232) (hat : -9223372036854775808 ≤ at_ ∧ at_ ≤ 9223372036854775807) (hch : ch < 4294967296) :
    Does1 W Try.prog 7 [.slice ao a.length cap, .int .i64 at_, .int .u32 ch] [] (.bool true) [] := by
  (refine Does.enter Try.func7 Try.ntmps7 rfl rfl ?_)
  (refine w ?_; repeat ((first | refine VO.step rfl rfl ?_ | refine VD.end rfl rfl rfl ?_ | refine VD.mid rfl rfl rfl ?_); refine OpV.box rfl rfl rfl ?_; intro _; refine w ?_))
  (refine VC.cond rfl rfl ?_ ?_ <;> intro hc)
  · (refine w ?_; repeat ((first | refine VO.step rfl rfl ?_ | refine VD.end rfl rfl rfl ?_ | refine VD.mid rfl rfl rfl ?_); refine OpV.box rfl rfl rfl ?_; intro _; refine w ?_))
    (refine VE.done1 rfl ?_ ?_)
    · rfl
    · exact Ent.refl
  have hl3 : a.length ≤ 3000000 := by have := of_decide_eq_false hc; omega
  clear hc
  (refine w ?_; repeat ((first | refine VO.step rfl rfl ?_ | refine VD.end rfl rfl rfl ?_ | refine VD.mid rfl rfl rfl ?_); refine OpV.box rfl rfl rfl ?_; intro _; refine w ?_))
  ((first | refine VO.step rfl rfl ?_ | refine VD.end rfl rfl rfl ?_ | refine VD.mid rfl rfl rfl ?_); refine OpV.call rfl rfl (fun _ _ => by simp) (imgload_ok (R := []) (hr _) hcap hlen) Ent.refl rfl ?_)
  intro b0 _
  rcases imgLoad_cases a with ⟨e, he, hee⟩ | ⟨ds, hds⟩
  · rw [he]
    (refine w ?_; repeat ((first | refine VO.step rfl rfl ?_ | refine VD.end rfl rfl rfl ?_ | refine VD.mid rfl rfl rfl ?_); refine OpV.box rfl rfl rfl ?_; intro _; refine w ?_))
    (first | refine VO.gT rfl rfl rfl (by rcases hee with rfl | rfl <;> rfl) ?_ | refine VD.gT rfl rfl rfl (by rcases hee with rfl | rfl <;> rfl) ?_)
    (refine w ?_; repeat ((first | refine VO.step rfl rfl ?_ | refine VD.end rfl rfl rfl ?_ | refine VD.mid rfl rfl rfl ?_); refine OpV.box rfl rfl rfl ?_; intro _; refine w ?_))
    ((first | refine VO.step rfl rfl ?_ | refine VD.end rfl rfl rfl ?_ | refine VD.mid rfl rfl rfl ?_); refine OpV.call rfl rfl (fun _ _ => by simp) (imgknown_ok (R := [])) Ent.refl rfl ?_)
    intro _ _
    (refine w ?_; repeat ((first | refine VO.step rfl rfl ?_ | refine VD.end rfl rfl rfl ?_ | refine VD.mid rfl rfl rfl ?_); refine OpV.box rfl rfl rfl ?_; intro _; refine w ?_))
    (refine VE.done1 rfl ?_ ?_)
    · rfl
    · exact Ent.refl
  have hit := fun f => img_turned f ch hds
  rw [hds]
  have hl10 := imgLoad_len hds
  refine VO.ent (H' := []) (fun w hw => hw.tail) ?_
  (refine w ?_; repeat ((first | refine VO.step rfl rfl ?_ | refine VD.end rfl rfl rfl ?_ | refine VD.mid rfl rfl rfl ?_); refine OpV.box rfl rfl rfl ?_; intro _; refine w ?_))
  refine VO.re 33 (.int .i64 ((8 * a.length : Nat) : Int)) rfl (by congr 1) ?_
  (first | refine VO.pure rfl rfl (PureAt.remZ rfl rfl (by omega)) rfl ?_ | refine VD.take rfl rfl rfl (PureAt.remZ rfl rfl (by omega)) rfl ?_ | refine VQ.pure rfl rfl (PureAt.remZ rfl rfl (by omega)) rfl ?_ | refine VD.end rfl rfl rfl (OpV.pure (PureAt.remZ rfl rfl (by omega)) rfl ?_))
  have hm1 : at_.tmod ((8 * a.length : Nat) : Int) < ((8 * a.length : Nat) : Int) := Int.tmod_lt_of_pos _ (by omega)
  have hm2 : -((8 * a.length : Nat) : Int) < at_.tmod ((8 * a.length : Nat) : Int) := by have := Int.lt_tmod_of_pos at_ (show (0 : Int) < ((8 * a.length : Nat) : Int) by omega); omega
  generalize at_.tmod ((8 * a.length : Nat) : Int) = m at *
  (refine w ?_; repeat ((first | refine VO.step rfl rfl ?_ | refine VD.end rfl rfl rfl ?_ | refine VD.mid rfl rfl rfl ?_); refine OpV.box rfl rfl rfl ?_; intro _; refine w ?_))
  refine VC.join (α := Nat) (fun f => f < 8 * a.length) (fun _ => []) (fun f => [(0, .slice ao a.length cap), (2, .int .u32 ch), (9, .int .i64 f)]) (fun Q2 jn => ?_) (fun f hf => ?_)
  · (refine VC.cond rfl rfl ?_ ?_ <;> intro hc)
    · have hneg : m < 0 := of_decide_eq_true hc
      (refine w ?_; repeat ((first | refine VO.step rfl rfl ?_ | refine VD.end rfl rfl rfl ?_ | refine VD.mid rfl rfl rfl ?_); refine OpV.box rfl rfl rfl ?_; intro _; refine w ?_))
      refine jn.to (m + ((8 * a.length : Nat) : Int)).toNat (by omega) ⟨rfl, rfl, asV rfl (by congr 1; omega), trivial⟩ ?_; exact Ent.re
    · have hneg : ¬ m < 0 := of_decide_eq_false hc
      (refine w ?_; repeat ((first | refine VO.step rfl rfl ?_ | refine VD.end rfl rfl rfl ?_ | refine VD.mid rfl rfl rfl ?_); refine OpV.box rfl rfl rfl ?_; intro _; refine w ?_))
      refine jn.to m.toNat (by omega) ⟨rfl, rfl, asV rfl (by congr 1; omega), trivial⟩ ?_; exact Ent.re
  clear hm1 hm2
  (refine w ?_; repeat ((first | refine VO.step rfl rfl ?_ | refine VD.end rfl rfl rfl ?_ | refine VD.mid rfl rfl rfl ?_); refine OpV.box rfl rfl rfl ?_; intro _; refine w ?_))
  refine VO.ent (fun w hw => hw.ownNil 5 1) ?_
  (first | refine VO.step rfl rfl ?_ | refine VD.end rfl rfl rfl ?_ | refine VD.mid rfl rfl rfl ?_)
  refine OpV.append st_47 rfl rfl (by (repeat first | exact .head | apply Hole.tail)) (fun w hw => ((hr _).sees (cap := cap) hw.tail).src st_47.und) (by simp only [maxLen]; omega) (by omega) rfl ?_
  intro so sc
  simp only [Nat.zero_add, List.nil_append]
  refine VO.know (p := so = none → a.length = 0) (fun w hw => hw.ownNone (.head _)) ?_
  intro hn
  obtain ⟨b, rfl⟩ : ∃ b, so = some b := by cases so with | none => have := hn rfl; omega | some b => exact ⟨b, rfl⟩
  (refine w ?_; repeat ((first | refine VO.step rfl rfl ?_ | refine VD.end rfl rfl rfl ?_ | refine VD.mid rfl rfl rfl ?_); refine OpV.box rfl rfl rfl ?_; intro _; refine w ?_))
  refine VC.loop (α := Nat) (fun i => i ≤ 32) (fun i => Sl.Own 5 1 (.slice (some b) a.length sc) a.length (bytes (turnM a f ch i)) :: [])
    (fun i => [(0, .slice ao a.length cap), (2, .int .u32 ch), (9, .int .i64 f), (10, .slice (some b) a.length sc), (11, .int .i64 i)]) (fun i => 32 - i) rfl 0 (Nat.zero_le _) Ent.refl ⟨rfl, rfl, rfl, rfl, rfl, trivial⟩ ?_
  intro i hi
  have hlen2 := turnM_length a f ch i
  (refine w ?_; repeat ((first | refine VO.step rfl rfl ?_ | refine VD.end rfl rfl rfl ?_ | refine VD.mid rfl rfl rfl ?_); refine OpV.box rfl rfl rfl ?_; intro _; refine w ?_))
  (refine VC.cond rfl rfl ?_ ?_ <;> intro hc)
  · have hlt : i < 32 := by have := of_decide_eq_true hc; omega
    have hst : turnM a f ch (i + 1) = if ch.testBit i = true ∧ f + i < 8 * a.length then turnS (turnM a f ch i) (f + i) else turnM a f ch i := rfl
    (refine w ?_; repeat ((first | refine VO.step rfl rfl ?_ | refine VD.end rfl rfl rfl ?_ | refine VD.mid rfl rfl rfl ?_); refine OpV.box rfl rfl rfl ?_; intro _; refine w ?_))
    refine VO.re 54 (.int .u64 i) rfl (by rw [wrap64_of (by omega)]) ?_
    (refine w ?_; repeat ((first | refine VO.step rfl rfl ?_ | refine VD.end rfl rfl rfl ?_ | refine VD.mid rfl rfl rfl ?_); refine OpV.box rfl rfl rfl ?_; intro _; refine w ?_))
    refine VO.re 58 (.bool (ch.testBit i)) rfl (by rw [show (i : Int).toNat = i from rfl, bit32 ch i hch]) ?_
    ((first | refine VO.split rfl rfl rfl ?_ ?_ | refine VD.split rfl rfl rfl ?_ ?_) <;> intro hb)
    · (refine w ?_; repeat ((first | refine VO.step rfl rfl ?_ | refine VD.end rfl rfl rfl ?_ | refine VD.mid rfl rfl rfl ?_); refine OpV.box rfl rfl rfl ?_; intro _; refine w ?_))
      (refine VC.cond rfl rfl ?_ ?_ <;> intro hc)
      · have hp : f + i < 8 * a.length := by have := of_decide_eq_true hc; omega
        rw [if_pos ⟨hb, hp⟩] at hst
        generalize turnM a f ch i = X at *
        have hq : (f + i) / 8 < X.length := by omega
        have hb1 : Rds W (Sl.Own 5 1 (.slice (some b) a.length sc) a.length (bytes X) :: []) 1 (some b) a.length (bytes X) := Rds.own (bytes_one _) (.head _) (by simp [hlen2]) (by simp)
        refine VC.re 12 (.int .i64 ((f + i : Nat) : Int)) rfl (by congr 1) ?_
        (refine w ?_; repeat ((first | refine VO.step rfl rfl ?_ | refine VD.end rfl rfl rfl ?_ | refine VD.mid rfl rfl rfl ?_); refine OpV.box rfl rfl rfl ?_; intro _; refine w ?_))
        (first | refine VO.pure rfl rfl (PureAt.quo (a := f + i) (b := 8) rfl rfl (by decide) (IntWalk.i64_in _ ⟨by omega, by omega⟩)) rfl ?_ | refine VD.take rfl rfl rfl (PureAt.quo (a := f + i) (b := 8) rfl rfl (by decide) (IntWalk.i64_in _ ⟨by omega, by omega⟩)) rfl ?_ | refine VQ.pure rfl rfl (PureAt.quo (a := f + i) (b := 8) rfl rfl (by decide) (IntWalk.i64_in _ ⟨by omega, by omega⟩)) rfl ?_ | refine VD.end rfl rfl rfl (OpV.pure (PureAt.quo (a := f + i) (b := 8) rfl rfl (by decide) (IntWalk.i64_in _ ⟨by omega, by omega⟩)) rfl ?_))
        (refine w ?_; repeat ((first | refine VO.step rfl rfl ?_ | refine VD.end rfl rfl rfl ?_ | refine VD.mid rfl rfl rfl ?_); refine OpV.box rfl rfl rfl ?_; intro _; refine w ?_))
        (first | refine VO.pure rfl rfl (PureAt.quo (a := f + i) (b := 8) rfl rfl (by decide) (IntWalk.i64_in _ ⟨by omega, by omega⟩)) rfl ?_ | refine VD.take rfl rfl rfl (PureAt.quo (a := f + i) (b := 8) rfl rfl (by decide) (IntWalk.i64_in _ ⟨by omega, by omega⟩)) rfl ?_ | refine VQ.pure rfl rfl (PureAt.quo (a := f + i) (b := 8) rfl rfl (by decide) (IntWalk.i64_in _ ⟨by omega, by omega⟩)) rfl ?_ | refine VD.end rfl rfl rfl (OpV.pure (PureAt.quo (a := f + i) (b := 8) rfl rfl (by decide) (IntWalk.i64_in _ ⟨by omega, by omega⟩)) rfl ?_))
        (refine w ?_; repeat ((first | refine VO.step rfl rfl ?_ | refine VD.end rfl rfl rfl ?_ | refine VD.mid rfl rfl rfl ?_); refine OpV.box rfl rfl rfl ?_; intro _; refine w ?_))
        (first | refine VO.pure rfl rfl (PureAt.rem (a := f + i) (b := 8) rfl rfl (by decide)) rfl ?_ | refine VD.take rfl rfl rfl (PureAt.rem (a := f + i) (b := 8) rfl rfl (by decide)) rfl ?_ | refine VQ.pure rfl rfl (PureAt.rem (a := f + i) (b := 8) rfl rfl (by decide)) rfl ?_ | refine VD.end rfl rfl rfl (OpV.pure (PureAt.rem (a := f + i) (b := 8) rfl rfl (by decide)) rfl ?_))
        (refine w ?_; repeat ((first | refine VO.step rfl rfl ?_ | refine VD.end rfl rfl rfl ?_ | refine VD.mid rfl rfl rfl ?_); refine OpV.box rfl rfl rfl ?_; intro _; refine w ?_))
        refine VO.re 75 (.int .u64 ((f + i) % 8 : Nat)) rfl (by rw [wrap64_of (by omega)]) ?_
        ((first | refine VO.step rfl rfl ?_ | refine VD.end rfl rfl rfl ?_ | refine VD.mid rfl rfl rfl ?_); refine OpV.pure (PureAt.shl rfl rfl (by omega)) rfl ?_)
        (refine w ?_; repeat ((first | refine VO.step rfl rfl ?_ | refine VD.end rfl rfl rfl ?_ | refine VD.mid rfl rfl rfl ?_); refine OpV.box rfl rfl rfl ?_; intro _; refine w ?_))
        refine VO.re 77 (byteV (flipB X[(f + i) / 8] ((f + i) % 8))) rfl (by rw [show ((((f + i) % 8 : Nat) : Int)).toNat = (f + i) % 8 from rfl]; exact congrArg (Value.int .u8) (flip8 _ _ (Nat.mod_lt _ (by decide)))) ?_
        (first | refine VO.step rfl rfl ?_ | refine VD.end rfl rfl rfl ?_ | refine VD.mid rfl rfl rfl ?_)
        refine OpV.stO2 (xs' := bytes (turnS X (f + i))) tab_ok rfl rfl rfl rfl (by (repeat first | exact .head | apply Hole.tail)) (by rw [bytes_length]; exact hq) (by simp [bytes, turnS, List.getD, hq]) ?_
        (refine w ?_; repeat ((first | refine VO.step rfl rfl ?_ | refine VD.end rfl rfl rfl ?_ | refine VD.mid rfl rfl rfl ?_); refine OpV.box rfl rfl rfl ?_; intro _; refine w ?_))
        refine VE.round (i + 1) (by omega) (by omega) ⟨rfl, rfl, rfl, rfl, asV rfl (by congr 1), trivial⟩ ?_
        rw [hst]; exact Ent.re
      · have hp : ¬ f + i < 8 * a.length := by have := of_decide_eq_false hc; omega
        rw [if_neg (fun h => hp h.2)] at hst
        (refine w ?_; repeat ((first | refine VO.step rfl rfl ?_ | refine VD.end rfl rfl rfl ?_ | refine VD.mid rfl rfl rfl ?_); refine OpV.box rfl rfl rfl ?_; intro _; refine w ?_))
        refine VE.round (i + 1) (by omega) (by omega) ⟨rfl, rfl, rfl, rfl, asV rfl (by congr 1), trivial⟩ ?_
        rw [hst]; exact Ent.re
    · rw [if_neg (fun h => by rw [hb] at h; cases h.1)] at hst
      (refine w ?_; repeat ((first | refine VO.step rfl rfl ?_ | refine VD.end rfl rfl rfl ?_ | refine VD.mid rfl rfl rfl ?_); refine OpV.box rfl rfl rfl ?_; intro _; refine w ?_))
      refine VE.round (i + 1) (by omega) (by omega) ⟨rfl, rfl, rfl, rfl, asV rfl (by congr 1), trivial⟩ ?_
      rw [hst]; exact Ent.re
  · have hge : i = 32 := by have := of_decide_eq_false hc; omega
    subst hge
    clear hc
    have hit2 := hit f
    generalize hX : turnM a f ch 32 = X at *
    have hRX : ∀ H : List SProp, Sl.Own 5 1 (.slice (some b) a.length sc) a.length (bytes X) ∈ H → Rds W H 1 (some b) X.length (bytes X) := fun H m => by rw [hlen2]; exact Rds.own (bytes_one _) m (by simp [hlen2]) (fun h => by cases h)
    refine VC.know (p := a.length ≤ sc) (fun w hw => Holds.ownCap hw (.head _)) ?_
    intro hsc
    have hld := imgload_ok (W := W) (R := Sl.Own 5 1 (.slice (some b) a.length sc) a.length (bytes X) :: []) (cap := sc) (hRX _ (.head _)) (by omega) (by omega)
    rw [hlen2] at hld
    (refine w ?_; repeat ((first | refine VO.step rfl rfl ?_ | refine VD.end rfl rfl rfl ?_ | refine VD.mid rfl rfl rfl ?_); refine OpV.box rfl rfl rfl ?_; intro _; refine w ?_))
    ((first | refine VO.step rfl rfl ?_ | refine VD.end rfl rfl rfl ?_ | refine VD.mid rfl rfl rfl ?_); refine OpV.call rfl rfl (fun _ _ => by simp) (hld) Ent.refl rfl ?_)
    intro c0 _
    have hfin : ∀ H : List SProp, Sl.Own 5 1 (.slice (some b) a.length sc) a.length (bytes X) ∈ H → Does1 W Try.prog 28 [.slice (some b) a.length sc, .slice ao a.length cap] H (.bool (decide (X = a))) H := fun H m => by
      have h1 := same_any (W := W) (R := H) (cap := sc) (cap' := cap) (hRX H m) (hr H) (by simp only [maxLen]; omega)
      rw [hlen2] at h1
      exact h1
    rcases imgLoad_cases X with ⟨e, he, hee⟩ | ⟨d2, hd2⟩
    · rw [he] at hit2 ⊢
      have hz : decide (X = a) = false := by rw [← hit2]; rcases hee with rfl | rfl <;> rfl
      refine VO.ent (H' := Sl.Own 5 1 (.slice (some b) a.length sc) a.length (bytes X) :: []) (fun w hw => hw) ?_
      (refine w ?_; repeat ((first | refine VO.step rfl rfl ?_ | refine VD.end rfl rfl rfl ?_ | refine VD.mid rfl rfl rfl ?_); refine OpV.box rfl rfl rfl ?_; intro _; refine w ?_))
      ((first | refine VO.step rfl rfl ?_ | refine VD.end rfl rfl rfl ?_ | refine VD.mid rfl rfl rfl ?_); refine OpV.call rfl rfl (fun _ _ => by simp) (imgknown_ok) Ent.refl rfl ?_)
      intro _ _
      (refine w ?_; repeat ((first | refine VO.step rfl rfl ?_ | refine VD.end rfl rfl rfl ?_ | refine VD.mid rfl rfl rfl ?_); refine OpV.box rfl rfl rfl ?_; intro _; refine w ?_))
      ((first | refine VO.step rfl rfl ?_ | refine VD.end rfl rfl rfl ?_ | refine VD.mid rfl rfl rfl ?_); refine OpV.call rfl rfl (fun _ _ => by simp) (hfin _ (by (focus repeat first | exact .head _ | apply List.Mem.tail))) Ent.refl rfl ?_)
      intro _ _
      rw [hz]
      refine VO.re 87 (.bool false) rfl (by rcases hee with rfl | rfl <;> rfl) ?_
      (refine w ?_; repeat ((first | refine VO.step rfl rfl ?_ | refine VD.end rfl rfl rfl ?_ | refine VD.mid rfl rfl rfl ?_); refine OpV.box rfl rfl rfl ?_; intro _; refine w ?_))
      (refine VE.done1 rfl ?_ ?_)
      · rcases hee with rfl | rfl <;> rfl
      · exact Ent.re
    · rw [hd2] at hit2 ⊢
      have hz : decide (X = a) = true := by rw [← hit2]; rfl
      refine VO.ent (H' := Sl.Own 5 1 (.slice (some b) a.length sc) a.length (bytes X) :: []) (fun w hw => hw.tail) ?_
      (refine w ?_; repeat ((first | refine VO.step rfl rfl ?_ | refine VD.end rfl rfl rfl ?_ | refine VD.mid rfl rfl rfl ?_); refine OpV.box rfl rfl rfl ?_; intro _; refine w ?_))
      ((first | refine VO.step rfl rfl ?_ | refine VD.end rfl rfl rfl ?_ | refine VD.mid rfl rfl rfl ?_); refine OpV.call rfl rfl (fun _ _ => by simp) (imgknown_ok) Ent.refl rfl ?_)
      intro _ _
      (refine w ?_; repeat ((first | refine VO.step rfl rfl ?_ | refine VD.end rfl rfl rfl ?_ | refine VD.mid rfl rfl rfl ?_); refine OpV.box rfl rfl rfl ?_; intro _; refine w ?_))
      ((first | refine VO.step rfl rfl ?_ | refine VD.end rfl rfl rfl ?_ | refine VD.mid rfl rfl rfl ?_); refine OpV.call rfl rfl (fun _ _ => by simp) (hfin _ (by (focus repeat first | exact .head _ | apply List.Mem.tail))) Ent.refl rfl ?_)
      intro _ _
      rw [hz]
      (refine w ?_; repeat ((first | refine VO.step rfl rfl ?_ | refine VD.end rfl rfl rfl ?_ | refine VD.mid rfl rfl rfl ?_); refine OpV.box rfl rfl rfl ?_; intro _; refine w ?_))
      (refine VE.done1 rfl ?_ ?_)
      · rfl
      · exact Ent.re
end Go.Proofs.Ytpmmkmcbimnigaa

