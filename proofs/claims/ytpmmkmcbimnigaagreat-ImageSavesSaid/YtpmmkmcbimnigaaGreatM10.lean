import Derived.Test.YtpmmkmcbimnigaaGreatM9
import Derived.WideLaws
/-! Text Ib. -/
/- Package image: Load's deferred closure. -/
set_option maxRecDepth 8000
set_option linter.unusedVariables false
set_option linter.unusedSimpArgs false
set_option linter.unusedSectionVars false
namespace Go.Sl
open Go Go.RowKit
section
variable {W : World} {P : Program} {n : Nat} {H : List SProp} {f : Fr} {dst : Option Tmp} {ty_ : TypeId} {pos : String} {after : Array Edge} {guard : Option (Nat × Bool)}
theorem PureAt.ifaceHeld {op : BinOp} {x y : Operand} {s u t : TypeId} {v0 v : Value} (hs : P.underlying s = some (.interface (P.methodsAt s))) (hx : evalX f x = some (.iface t v0)) (hy : evalX f y = some .nilIface) (hv : eqB op false = some v) :
    PureAt W P n H f { dst, op := .binOp op s x y u, type := ty_, pos, after, guard } v := by
  unfold PureAt
  intro tm w hk _
  exact eqOp_run hk hx hy hv (by rintro o (rfl | rfl) <;> rfl) rfl rfl (run_equal_held_nil w s t v0 hs)
theorem PureAt.ifaceNil {op : BinOp} {x : Operand} {c : Value} {s u : TypeId} {v : Value} (hs : P.underlying s = some (.interface (P.methodsAt s))) (hx : evalX f x = some .nilIface) (hy : evalX f (.const c) = some .nilIface) (hv : eqB op true = some v) :
    PureAt W P n H f { dst, op := .binOp op s x (.const c) u, type := ty_, pos, after, guard } v := by
  unfold PureAt
  intro tm w hk _
  exact eqOp_run hk hx hy hv (by rintro o (rfl | rfl) <;> cases x <;> rfl) rfl rfl (run_equal_nil_nil w s hs)
end
end Go.Sl
namespace Go.Proofs.YtpmmkmcbimnigaaGreat
open Go.RowKit Go.Sl
attribute [local irreducible] Sl.Own

theorem anyU : Tryz.prog.underlying 20 = some (.interface (Tryz.prog.methodsAt 20)) := by kernel_rfl
theorem loadD_pan {W : World} {R : List SProp} {nb ne : Nat} {v u : Value} (e : Nat) :
    DoesD W Tryz.prog 59 [.pointer (some ⟨nb, 0, none⟩), .pointer (some ⟨ne, 0, none⟩)] (Row nb 25 [v] :: Row ne 27 [u] :: R) (.panicking (pan (errI e))) (.panicking (panR (errI e))) (Row nb 25 [.pointer none] :: Row ne 27 [.int .u16 e] :: R) := by
  refine DoesD.enterS Tryz.func59 Tryz.ntmps59 rfl rfl rfl rfl rfl rfl rfl (.inl ⟨_, rfl, rfl, rfl⟩) ?_
  (refine w ?_; repeat ((first | refine VO.step rfl rfl ?_ | refine VD.end rfl rfl rfl ?_ | refine VD.mid rfl rfl rfl ?_); refine OpV.box rfl rfl rfl ?_; intro _; refine w ?_))
  (first | refine VO.pure rfl rfl (PureAt.ifaceHeld anyU rfl rfl rfl) rfl ?_ | refine VD.take rfl rfl rfl (PureAt.ifaceHeld anyU rfl rfl rfl) rfl ?_ | refine VQ.pure rfl rfl (PureAt.ifaceHeld anyU rfl rfl rfl) rfl ?_ | refine VD.end rfl rfl rfl (OpV.pure (PureAt.ifaceHeld anyU rfl rfl rfl) rfl ?_))
  (refine w ?_; repeat ((first | refine VO.step rfl rfl ?_ | refine VD.end rfl rfl rfl ?_ | refine VD.mid rfl rfl rfl ?_); refine OpV.box rfl rfl rfl ?_; intro _; refine w ?_))
  obtain ⟨dsc, hu⟩ : ∃ k, Tryz.prog.underlying 27 = some (.int k) := ⟨_, rfl⟩
  (refine VC.drawn [2] 3 [0, 1, 2, 3] (Row ne 27 [u] :: R) rfl (by kernel_rfl) (by kernel_rfl) Ent.re ?_)
  (refine w ?_; repeat ((first | refine VO.step rfl rfl ?_ | refine VD.end rfl rfl rfl ?_ | refine VD.mid rfl rfl rfl ?_); refine OpV.box rfl rfl rfl ?_; intro _; refine w ?_))
  (first | refine VO.pure rfl rfl (PureAt.assertIface hu (fun ms h => by cases h) rfl) rfl ?_ | refine VD.take rfl rfl rfl (PureAt.assertIface hu (fun ms h => by cases h) rfl) rfl ?_ | refine VQ.pure rfl rfl (PureAt.assertIface hu (fun ms h => by cases h) rfl) rfl ?_ | refine VD.end rfl rfl rfl (OpV.pure (PureAt.assertIface hu (fun ms h => by cases h) rfl) rfl ?_))
  (refine w ?_; repeat ((first | refine VO.step rfl rfl ?_ | refine VD.end rfl rfl rfl ?_ | refine VD.mid rfl rfl rfl ?_); refine OpV.box rfl rfl rfl ?_; intro _; refine w ?_))
  exact VE.result (.inr rfl) rfl fun w hw => ⟨⟨_, rfl⟩, hw⟩
theorem loadD_ret {W : World} {R : List SProp} {nb ne : Nat} {v u : Value} :
    DoesD W Tryz.prog 59 [.pointer (some ⟨nb, 0, none⟩), .pointer (some ⟨ne, 0, none⟩)] (Row nb 25 [v] :: Row ne 27 [u] :: R) .returning .returning (Row nb 25 [v] :: Row ne 27 [u] :: R) := by
  refine DoesD.enterS Tryz.func59 Tryz.ntmps59 rfl rfl rfl rfl rfl rfl rfl (.inr ⟨rfl, rfl, rfl⟩) ?_
  (refine w ?_; repeat ((first | refine VO.step rfl rfl ?_ | refine VD.end rfl rfl rfl ?_ | refine VD.mid rfl rfl rfl ?_); refine OpV.box rfl rfl rfl ?_; intro _; refine w ?_))
  (first | refine VO.pure rfl rfl (PureAt.ifaceNil anyU rfl rfl rfl) rfl ?_ | refine VD.take rfl rfl rfl (PureAt.ifaceNil anyU rfl rfl rfl) rfl ?_ | refine VQ.pure rfl rfl (PureAt.ifaceNil anyU rfl rfl rfl) rfl ?_ | refine VD.end rfl rfl rfl (OpV.pure (PureAt.ifaceNil anyU rfl rfl rfl) rfl ?_))
  (refine w ?_; repeat ((first | refine VO.step rfl rfl ?_ | refine VD.end rfl rfl rfl ?_ | refine VD.mid rfl rfl rfl ?_); refine OpV.box rfl rfl rfl ?_; intro _; refine w ?_))
  exact VE.result (.inr rfl) rfl fun w hw => ⟨⟨_, rfl⟩, hw⟩
end Go.Proofs.YtpmmkmcbimnigaaGreat

/-! Text Ic. -/
/- Package image: the closure that reads the next disk. -/
set_option maxRecDepth 8000
set_option linter.unusedVariables false
set_option linter.unusedSimpArgs false
set_option linter.unusedSectionVars false
namespace Go.Proofs.YtpmmkmcbimnigaaGreat
open Go.RowKit Go.Sl
attribute [local irreducible] Sl.Own

theorem setNext {α : Type} (xs : List α) (z v : α) (m : Nat) (h : 0 < m) : (xs ++ List.replicate m z).set xs.length v = (xs ++ [v]) ++ List.replicate (m - 1) z := by
  obtain ⟨m, rfl⟩ : ∃ k, m = k + 1 := ⟨m - 1, by omega⟩
  rw [List.set_append_right _ _ (Nat.le_refl _), Nat.sub_self, List.replicate_succ, List.set_cons_zero, List.append_assoc]; rfl
structure NxX where
  n5 : Nat
  n6 : Nat
  n7 : Nat
  rd : Nat
  sa : Addr
  da : Addr
  n : Nat
abbrev szC (n : Nat) (S : List Nat) : List Value := ints S ++ List.replicate (n - S.length) (.int .i64 0)
abbrev dsC (n : Nat) (Ds : List RowE) : List Value := Ds.map RowE.hdr ++ List.replicate (n - Ds.length) (.slice none 0 0)
abbrev nxF (x : NxX) (S : List Nat) (Ds : List RowE) (R : List SProp) : List SProp :=
  Row x.n5 112 [.pointer (some ⟨x.rd, 0, none⟩)] :: Row x.n6 24 [.slice (some x.sa) x.n x.n] :: Row x.n7 45 [.slice (some x.da) x.n x.n] :: Sl.Own 3 1 (.slice (some x.sa) x.n x.n) x.n (szC x.n S) :: Sl.Own 22 1 (.slice (some x.da) x.n x.n) x.n (dsC x.n Ds) :: PilR Ds :: R
abbrev nxO (x : NxX) (k : Rk) (S : List Nat) (Ds : List RowE) (R : List SProp) : List SProp := ReaderR x.rd k :: nxF x S Ds R
abbrev nxS (k : Rk) : Nat := leVal (k.got 2)
abbrev nxD (k : Rk) : List UInt8 := (k.number 2).rawGot ((nxS k * 128 : Nat) : Int)
abbrev nxK (k : Rk) : Rk := (k.number 2).raw ((nxS k * 128 : Nat) : Int)
theorem szC_one (n : Nat) (S : List Nat) : ∀ u ∈ szC n S, u.oneCell' = true := by
  intro u hu
  rcases List.mem_append.1 hu with h | h
  · exact ints_one S u h
  · rw [List.mem_replicate] at h; rw [h.2]; rfl
theorem dsC_one (n : Nat) (Ds : List RowE) : ∀ u ∈ dsC n Ds, u.oneCell' = true := by
  intro u hu
  rcases List.mem_append.1 hu with h | h
  · exact rowhdr_one Ds u h
  · rw [List.mem_replicate] at h; rw [h.2]; rfl
theorem szC_len {n : Nat} {S : List Nat} (h : S.length ≤ n) : (szC n S).length = n := by unfold szC ints; rw [List.length_append, List.length_map, List.length_replicate]; omega
theorem dsC_len {n : Nat} {Ds : List RowE} (h : Ds.length ≤ n) : (dsC n Ds).length = n := by unfold dsC; rw [List.length_append, List.length_map, List.length_replicate]; omega
theorem szC_set {n : Nat} {S : List Nat} (s : Nat) (h : S.length < n) : (szC n S).set S.length (.int .i64 (s : Int)) = szC n (S ++ [s]) := by
  have h1 := setNext (ints S) (.int .i64 0) (.int .i64 (s : Int)) (n - S.length) (by omega)
  rw [show (ints S).length = S.length by unfold ints; rw [List.length_map]] at h1
  unfold szC
  rw [h1, List.length_append, List.length_singleton, show n - (S.length + 1) = n - S.length - 1 by omega]
  unfold ints
  rw [List.map_append]; rfl
theorem dsC_set {n : Nat} {Ds : List RowE} (d : RowE) (h : Ds.length < n) : (dsC n Ds).set Ds.length d.hdr = dsC n (Ds ++ [d]) := by
  have h1 := setNext (Ds.map RowE.hdr) (.slice none 0 0) d.hdr (n - Ds.length) (by omega)
  rw [List.length_map] at h1
  unfold dsC
  rw [h1, List.length_append, List.length_singleton, show n - (Ds.length + 1) = n - Ds.length - 1 by omega, List.map_append]; rfl
theorem nxS_lt (k : Rk) : nxS k < 65536 := got_lt k 2
set_option maxHeartbeats 4000000 in
theorem imgnext_ok {W : World} {R : List SProp} (x : NxX) (k : Rk) (S : List Nat) (Ds : List RowE) (i : Nat) (hS : S.length = i) (hD : Ds.length = i) (hi : i < x.n) (hn : x.n ≤ 17) (h8 : nxS k ≤ 8192) :
    Does W Tryz.prog 65 [.int .i64 (i : Int), .pointer (some ⟨x.n5, 0, none⟩), .pointer (some ⟨x.n6, 0, none⟩), .pointer (some ⟨x.n7, 0, none⟩)] (nxO x k S Ds R) (β := Option Addr × Nat) (fun _ => True) (fun _ => .tuple #[]) (fun y => nxO x (nxK k) (S ++ [nxS k]) (Ds ++ [⟨y.1, y.2, nxD k⟩]) R) := by
  have hs := nxS_lt k
  subst hS
  have hsl := szC_len (n := x.n) (S := S) (by omega)
  (refine Does.enter Tryz.func65 Tryz.ntmps65 rfl rfl ?_)
  (refine w ?_; repeat ((first | refine VO.step rfl rfl ?_ | refine VD.end rfl rfl rfl ?_ | refine VD.mid rfl rfl rfl ?_); refine OpV.box rfl rfl rfl ?_; intro _; refine w ?_))
  (refine VC.drawn [3] 5 [0, 1, 2, 3, 4, 5, 6] (nxF x S Ds R) rfl (by kernel_rfl) (by kernel_rfl) Ent.re ?_)
  (refine w ?_; repeat ((first | refine VO.step rfl rfl ?_ | refine VD.end rfl rfl rfl ?_ | refine VD.mid rfl rfl rfl ?_); refine OpV.box rfl rfl rfl ?_; intro _; refine w ?_))
  ((first | refine VO.step rfl rfl ?_ | refine VD.end rfl rfl rfl ?_ | refine VD.mid rfl rfl rfl ?_); refine OpV.call rfl rfl (fun _ _ => by simp) (r16_ok x.rd k) Ent.refl rfl ?_)
  intro _ _
  refine ⟨Ent.re, ?_⟩
  refine VD.re 8 (.int .u16 ((nxS k : Nat) : Int)) rfl rfl ?_
  (refine w ?_; repeat ((first | refine VO.step rfl rfl ?_ | refine VD.end rfl rfl rfl ?_ | refine VD.mid rfl rfl rfl ?_); refine OpV.box rfl rfl rfl ?_; intro _; refine w ?_))
  refine VD.re 9 (.int .i64 ((nxS k : Nat) : Int)) rfl (by rw [IntWalk.i64_in _ ⟨by omega, by omega⟩]) ?_
  (first | refine VO.step rfl rfl ?_ | refine VD.end rfl rfl rfl ?_ | refine VD.mid rfl rfl rfl ?_)
  refine OpV.stO tab_ok rfl rfl rfl rfl (by (repeat first | exact .head | apply Hole.tail)) (by rw [hsl]; exact hi) ?_
  rw [szC_set (nxS k) hi]
  (refine w ?_; repeat ((first | refine VO.step rfl rfl ?_ | refine VD.end rfl rfl rfl ?_ | refine VD.mid rfl rfl rfl ?_); refine OpV.box rfl rfl rfl ?_; intro _; refine w ?_))
  have hR1 : Rds W (ReaderR x.rd (k.number 2) :: nxF x (S ++ [nxS k]) Ds R) 1 (some x.sa) x.n (szC x.n (S ++ [nxS k])) := Rds.own (szC_one _ _) (.tail _ (.tail _ (.tail _ (.tail _ (.head _))))) (by rw [szC_len (by simp; omega), Nat.mul_one]) (fun h => by cases h)
  have hget : (szC x.n (S ++ [nxS k]))[S.length]? = some (.int .i64 (nxS k : Int)) := by
    unfold szC ints
    rw [List.map_append, List.append_assoc, List.getElem?_append_right (by simp)]
    simp
  (first | refine VO.pure rfl rfl (PureAt.ldR tab_ok rfl rfl hR1 hget) rfl ?_ | refine VD.take rfl rfl rfl (PureAt.ldR tab_ok rfl rfl hR1 hget) rfl ?_ | refine VQ.pure rfl rfl (PureAt.ldR tab_ok rfl rfl hR1 hget) rfl ?_ | refine VD.end rfl rfl rfl (OpV.pure (PureAt.ldR tab_ok rfl rfl hR1 hget) rfl ?_))
  (refine w ?_; repeat ((first | refine VO.step rfl rfl ?_ | refine VD.end rfl rfl rfl ?_ | refine VD.mid rfl rfl rfl ?_); refine OpV.box rfl rfl rfl ?_; intro _; refine w ?_))
  refine VO.re 15 (.bool true) rfl (by rw [decide_eq_true (by omega)]) ?_
  ((first | refine VO.step rfl rfl ?_ | refine VD.end rfl rfl rfl ?_ | refine VD.mid rfl rfl rfl ?_); refine OpV.call rfl rfl (fun _ _ => by simp) (need_ok (.int .u16 210) rfl) Ent.refl rfl ?_)
  intro _ _
  (refine w ?_; repeat ((first | refine VO.step rfl rfl ?_ | refine VD.end rfl rfl rfl ?_ | refine VD.mid rfl rfl rfl ?_); refine OpV.box rfl rfl rfl ?_; intro _; refine w ?_))
  (refine VC.drawn [8] 9 [0, 1, 2, 3, 4, 5, 6, 7, 8, 9, 10] (nxF x (S ++ [nxS k]) Ds R) rfl (by kernel_rfl) (by kernel_rfl) Ent.re ?_)
  (refine w ?_; repeat ((first | refine VO.step rfl rfl ?_ | refine VD.end rfl rfl rfl ?_ | refine VD.mid rfl rfl rfl ?_); refine OpV.box rfl rfl rfl ?_; intro _; refine w ?_))
  have hR2 : Rds W (nxF x (S ++ [nxS k]) Ds R) 1 (some x.sa) x.n (szC x.n (S ++ [nxS k])) := Rds.own (szC_one _ _) (.tail _ (.tail _ (.tail _ (.head _)))) (by rw [szC_len (by simp; omega), Nat.mul_one]) (fun h => by cases h)
  (first | refine VO.pure rfl rfl (PureAt.ldR tab_ok rfl rfl hR2 hget) rfl ?_ | refine VD.take rfl rfl rfl (PureAt.ldR tab_ok rfl rfl hR2 hget) rfl ?_ | refine VQ.pure rfl rfl (PureAt.ldR tab_ok rfl rfl hR2 hget) rfl ?_ | refine VD.end rfl rfl rfl (OpV.pure (PureAt.ldR tab_ok rfl rfl hR2 hget) rfl ?_))
  (refine w ?_; repeat ((first | refine VO.step rfl rfl ?_ | refine VD.end rfl rfl rfl ?_ | refine VD.mid rfl rfl rfl ?_); refine OpV.box rfl rfl rfl ?_; intro _; refine w ?_))
  refine VD.re 24 (.int .i64 ((nxS k * 128 : Nat) : Int)) rfl (by congr 1) ?_
  ((first | refine VO.step rfl rfl ?_ | refine VD.end rfl rfl rfl ?_ | refine VD.mid rfl rfl rfl ?_); refine OpV.call rfl rfl (fun _ _ => by simp) (rraw_ok x.rd (k.number 2) ((nxS k * 128 : Nat) : Int)) Ent.refl rfl ?_)
  rintro ⟨yo, yc⟩ _
  dsimp only
  refine ⟨Ent.re, ?_⟩
  (refine w ?_; repeat ((first | refine VO.step rfl rfl ?_ | refine VD.end rfl rfl rfl ?_ | refine VD.mid rfl rfl rfl ?_); refine OpV.box rfl rfl rfl ?_; intro _; refine w ?_))
  (first | refine VO.step rfl rfl ?_ | refine VD.end rfl rfl rfl ?_ | refine VD.mid rfl rfl rfl ?_)
  refine OpV.stO tab_ok rfl rfl rfl rfl (by (repeat first | exact .head | apply Hole.tail)) (by rw [dsC_len (by omega)]; exact hi) ?_
  rw [show (Value.slice yo ((k.number 2).rawGot ((nxS k * 128 : Nat) : Int)).length yc) = RowE.hdr ⟨yo, yc, nxD k⟩ from rfl, ← hD, dsC_set _ (by omega)]
  (refine w ?_; repeat ((first | refine VO.step rfl rfl ?_ | refine VD.end rfl rfl rfl ?_ | refine VD.mid rfl rfl rfl ?_); refine OpV.box rfl rfl rfl ?_; intro _; refine w ?_))
  refine VE.doneN (yo, yc) rfl trivial rfl ?_
  refine Ent.trans (Ent.re (L := RowE.res ⟨yo, yc, nxD k⟩ :: PilR Ds :: ReaderR x.rd (nxK k) :: Row x.n5 112 [.pointer (some ⟨x.rd, 0, none⟩)] :: Row x.n6 24 [.slice (some x.sa) x.n x.n] :: Row x.n7 45 [.slice (some x.da) x.n x.n] :: Sl.Own 3 1 (.slice (some x.sa) x.n x.n) x.n (szC x.n (S ++ [nxS k])) :: Sl.Own 22 1 (.slice (some x.da) x.n x.n) x.n (dsC x.n (Ds ++ [⟨yo, yc, nxD k⟩])) :: R)) fun w hw => ?_
  exact (show Ent W (PilR (Ds ++ [⟨yo, yc, nxD k⟩]) :: ReaderR x.rd (nxK k) :: Row x.n5 112 [.pointer (some ⟨x.rd, 0, none⟩)] :: Row x.n6 24 [.slice (some x.sa) x.n x.n] :: Row x.n7 45 [.slice (some x.da) x.n x.n] :: Sl.Own 3 1 (.slice (some x.sa) x.n x.n) x.n (szC x.n (S ++ [nxS k])) :: Sl.Own 22 1 (.slice (some x.da) x.n x.n) x.n (dsC x.n (Ds ++ [⟨yo, yc, nxD k⟩])) :: R) _ from Ent.re) w (pile_push hw)
set_option maxHeartbeats 4000000 in
theorem imgnext_dies {W : World} {R : List SProp} (x : NxX) (k : Rk) (S : List Nat) (Ds : List RowE) (i : Nat) (hS : S.length = i) (hD : Ds.length = i) (hi : i < x.n) (hn : x.n ≤ 17) (h8 : 8192 < nxS k) :
    Dies W Tryz.prog 65 [.int .i64 (i : Int), .pointer (some ⟨x.n5, 0, none⟩), .pointer (some ⟨x.n6, 0, none⟩), .pointer (some ⟨x.n7, 0, none⟩)] (nxO x k S Ds R) (errI 210) R := by
  have hs := nxS_lt k
  subst hS
  have hsl := szC_len (n := x.n) (S := S) (by omega)
  refine Dies.enter Tryz.func65 Tryz.ntmps65 rfl rfl ?_
  (refine w ?_; repeat ((first | refine VO.step rfl rfl ?_ | refine VD.end rfl rfl rfl ?_ | refine VD.mid rfl rfl rfl ?_); refine OpV.box rfl rfl rfl ?_; intro _; refine w ?_))
  (refine VC.drawn [3] 5 [0, 1, 2, 3, 4, 5, 6] (nxF x S Ds R) rfl (by kernel_rfl) (by kernel_rfl) Ent.re ?_)
  (refine w ?_; repeat ((first | refine VO.step rfl rfl ?_ | refine VD.end rfl rfl rfl ?_ | refine VD.mid rfl rfl rfl ?_); refine OpV.box rfl rfl rfl ?_; intro _; refine w ?_))
  ((first | refine VO.step rfl rfl ?_ | refine VD.end rfl rfl rfl ?_ | refine VD.mid rfl rfl rfl ?_); refine OpV.call rfl rfl (fun _ _ => by simp) (r16_ok x.rd k) Ent.refl rfl ?_)
  intro _ _
  refine ⟨Ent.re, ?_⟩
  refine VD.re 8 (.int .u16 ((nxS k : Nat) : Int)) rfl rfl ?_
  (refine w ?_; repeat ((first | refine VO.step rfl rfl ?_ | refine VD.end rfl rfl rfl ?_ | refine VD.mid rfl rfl rfl ?_); refine OpV.box rfl rfl rfl ?_; intro _; refine w ?_))
  refine VD.re 9 (.int .i64 ((nxS k : Nat) : Int)) rfl (by rw [IntWalk.i64_in _ ⟨by omega, by omega⟩]) ?_
  (first | refine VO.step rfl rfl ?_ | refine VD.end rfl rfl rfl ?_ | refine VD.mid rfl rfl rfl ?_)
  refine OpV.stO tab_ok rfl rfl rfl rfl (by (repeat first | exact .head | apply Hole.tail)) (by rw [hsl]; exact hi) ?_
  rw [szC_set (nxS k) hi]
  (refine w ?_; repeat ((first | refine VO.step rfl rfl ?_ | refine VD.end rfl rfl rfl ?_ | refine VD.mid rfl rfl rfl ?_); refine OpV.box rfl rfl rfl ?_; intro _; refine w ?_))
  have hR1 : Rds W (ReaderR x.rd (k.number 2) :: nxF x (S ++ [nxS k]) Ds R) 1 (some x.sa) x.n (szC x.n (S ++ [nxS k])) := Rds.own (szC_one _ _) (.tail _ (.tail _ (.tail _ (.tail _ (.head _))))) (by rw [szC_len (by simp; omega), Nat.mul_one]) (fun h => by cases h)
  have hget : (szC x.n (S ++ [nxS k]))[S.length]? = some (.int .i64 (nxS k : Int)) := by
    unfold szC ints
    rw [List.map_append, List.append_assoc, List.getElem?_append_right (by simp)]
    simp
  (first | refine VO.pure rfl rfl (PureAt.ldR tab_ok rfl rfl hR1 hget) rfl ?_ | refine VD.take rfl rfl rfl (PureAt.ldR tab_ok rfl rfl hR1 hget) rfl ?_ | refine VQ.pure rfl rfl (PureAt.ldR tab_ok rfl rfl hR1 hget) rfl ?_ | refine VD.end rfl rfl rfl (OpV.pure (PureAt.ldR tab_ok rfl rfl hR1 hget) rfl ?_))
  (refine w ?_; repeat ((first | refine VO.step rfl rfl ?_ | refine VD.end rfl rfl rfl ?_ | refine VD.mid rfl rfl rfl ?_); refine OpV.box rfl rfl rfl ?_; intro _; refine w ?_))
  refine VO.re 15 (.bool false) rfl (by rw [decide_eq_false (by omega)]) ?_
  (first | refine VO.step rfl rfl ?_ | refine VD.end rfl rfl rfl ?_ | refine VD.mid rfl rfl rfl ?_)
  refine OpV.callDies rfl rfl (fun _ _ => by simp) (need_dies (R := R) 210) ?_ ?_
  · intro w hw
    exact hw.tail.tail.tail.tail.tail.tail.tail
  refine VE.passPanic ?_
  exact VE.dies Ent.refl
end Go.Proofs.YtpmmkmcbimnigaaGreat

/-! Text Id. -/
/- Package image, plainly: what bytes tell. -/
set_option maxRecDepth 8000
set_option linter.unusedVariables false
set_option linter.unusedSimpArgs false
set_option linter.unusedSectionVars false
namespace Go.Proofs.YtpmmkmcbimnigaaGreat
open Go.RowKit Go.Sl

/-- So many disks out of bytes, none left over. -/
def imgParse : Nat → List UInt8 → Option (List (List UInt8))
  | 0, l => if l = [] then some [] else none
  | m + 1, l => if l.length < 2 ∨ 8192 < leVal (l.take 2) ∨ l.length - 2 < leVal (l.take 2) * 128 then none else
    (imgParse m (l.drop (2 + leVal (l.take 2) * 128))).map (((l.drop 2).take (leVal (l.take 2) * 128)) :: ·)
def slotI (d : List UInt8) : SlotD := if d = [] then ⟨none, none, none⟩ else ⟨some ⟨⟨chunks d (d.length / 128), [], false⟩, false, 0⟩, none, none⟩
def imgBay (ds : List (List UInt8)) : BayD := ⟨ds.map slotI, false, -1, ⟨0, 0, 0⟩⟩
def imgForm (l : List UInt8) : Bool := decide (l.length ≤ 33554432) && decide (10 ≤ l.length) && decide (l.take 5 = magicI)
abbrev imgB (l : List UInt8) : List UInt8 := l.take (l.length - 4)
abbrev imgC (l : List UInt8) : Nat := ((imgB l).getD 5 0).toNat
def imgSum (l : List UInt8) : Bool := decide (leVal (l.drop (l.length - 4)) = (crcS (imgB l)).toNat)
def imgOf : Option (List (List UInt8)) → Nat × Option (List (List UInt8))
  | none => (210, none)
  | some ds => (0, some ds)
/-- The error, or the disks. -/
def imgLoad (l : List UInt8) : Nat × Option (List (List UInt8)) :=
  if imgForm l = false then (210, none) else if imgSum l = false then (211, none) else if imgC l < 1 ∨ 17 < imgC l then (210, none) else imgOf (imgParse (imgC l) ((imgB l).drop 6))
/-- How far Load has read. -/
def LdI (body : List UInt8) (c i : Nat) (k : Rk) (S : List Nat) (Ds : List (List UInt8)) : Prop :=
  k.b = body ∧ S.length = i ∧ Ds.length = i ∧ ((k.err = 0 ∧ k.at_ ≤ body.length ∧ (∀ (j : Nat) (h : j < i) (h1 : j < S.length) (h2 : j < Ds.length), Ds[j].length = S[j] * 128 ∧ S[j] ≤ 8192) ∧ imgParse c (body.drop 6) = (imgParse (c - i) (body.drop k.at_)).map (Ds ++ ·)) ∨
    (k.err ≠ 0 ∧ imgParse c (body.drop 6) = none))
theorem rk_bad {k : Rk} (h : k.err ≠ 0) (n : Nat) : k.short n = k ∧ k.got n = [] ∧ k.number n = k := by
  have h1 : k.short n = k := by unfold Rk.short; rw [if_neg (fun q => h q.1)]
  refine ⟨h1, ?_, ?_⟩
  · unfold Rk.got; rw [h1, if_neg h]
  · unfold Rk.number; rw [h1, if_neg h]
theorem rk_short {k : Rk} (h : k.err = 0) {n : Nat} (hn : k.b.length - k.at_ < n) : (k.short n).err = 11 ∧ k.got n = [] ∧ (k.number n).err = 11 ∧ (k.number n).b = k.b := by
  have h1 : k.short n = { k with err := 11, wh := k.at_ } := by unfold Rk.short; rw [if_pos ⟨h, hn⟩]
  refine ⟨by rw [h1], ?_, ?_, ?_⟩
  · unfold Rk.got; rw [h1, if_neg (by simp)]
  · unfold Rk.number; rw [h1, if_neg (by simp)]
  · unfold Rk.number; rw [h1, if_neg (by simp)]
theorem nx_bad {k : Rk} (h : k.err ≠ 0) : nxS k = 0 ∧ nxD k = [] ∧ nxK k = k := by
  obtain ⟨h1, h2, h3⟩ := rk_bad h 2
  have e : nxS k = 0 := by unfold nxS; rw [h2]; rfl
  refine ⟨e, ?_, ?_⟩
  · unfold nxD; rw [e, h3]; rfl
  · unfold nxK; rw [e, h3]; rfl
theorem LdI.dies {body : List UInt8} {c i : Nat} {k : Rk} {S : List Nat} {Ds : List (List UInt8)} (h : LdI body c i k S Ds) (hi : i < c) (h8 : 8192 < nxS k) : imgParse c (body.drop 6) = none := by
  obtain ⟨hb, _, _, ⟨h1, h2, h3, h4⟩ | ⟨h1, h2⟩⟩ := h
  · rw [h4]
    obtain ⟨m, hm⟩ : ∃ m, c - i = m + 1 := ⟨c - i - 1, by omega⟩
    rw [hm, imgParse]
    have hc : (body.drop k.at_).length < 2 ∨ 8192 < leVal ((body.drop k.at_).take 2) ∨ (body.drop k.at_).length - 2 < leVal ((body.drop k.at_).take 2) * 128 := by
      by_cases hs : k.b.length - k.at_ < 2
      · left; rw [List.length_drop, ← hb]; exact hs
      · right; left
        have hg := (Rk.got_good h1 (n := 2) (by omega)).1
        unfold nxS at h8
        rw [hg, hb] at h8
        exact h8
    rw [if_pos hc]; rfl
  · exact h2
theorem LdI.next {body : List UInt8} {c i : Nat} {k : Rk} {S : List Nat} {Ds : List (List UInt8)} (h : LdI body c i k S Ds) (hi : i < c) (h8 : nxS k ≤ 8192) : LdI body c (i + 1) (nxK k) (S ++ [nxS k]) (Ds ++ [nxD k]) := by
  obtain ⟨hb, hS, hD, ⟨h1, h2, h3, h4⟩ | ⟨h1, h2⟩⟩ := h
  · obtain ⟨m, hm⟩ : ∃ m, c - i = m + 1 := ⟨c - i - 1, by omega⟩
    rw [hm, imgParse] at h4
    by_cases hs : k.b.length - k.at_ < 2
    · obtain ⟨q1, q2, q3, q4⟩ := rk_short h1 hs
      have e : nxS k = 0 := by unfold nxS; rw [q2]; rfl
      have eD : nxD k = [] := by unfold nxD; rw [e]; rfl
      have eK : nxK k = k.number 2 := by unfold nxK; rw [e]; rfl
      refine ⟨by rw [eK, q4, hb], by rw [List.length_append, hS]; rfl, by rw [List.length_append, hD]; rfl, .inr ⟨by rw [eK, q3]; decide, ?_⟩⟩
      rw [h4, if_pos (.inl (by rw [List.length_drop, ← hb]; exact hs))]; rfl
    · obtain ⟨g1, g2, g3⟩ := Rk.got_good h1 (n := 2) (by omega)
      have e : nxS k = leVal ((body.drop k.at_).take 2) := by unfold nxS; rw [g1, hb]
      rw [← e, List.length_drop] at h4
      have hl : ¬ body.length - k.at_ < 2 := by rw [← hb]; exact hs
      by_cases h0 : body.length - k.at_ - 2 < nxS k * 128
      · have hk1 : (k.number 2).err = 0 := by rw [g3]; exact h1
        have hsh := rk_short (k := k.number 2) hk1 (n := nxS k * 128) (by rw [g3]; dsimp only; rw [hb]; omega)
        have hp : 0 < nxS k := by omega
        have hz : ¬ ((nxS k * 128 : Nat) : Int) ≤ 0 := by omega
        have eK : nxK k = (k.number 2).number (nxS k * 128) := by unfold nxK Rk.raw; rw [if_neg hz]; rfl
        refine ⟨by rw [eK, hsh.2.2.2, g3]; exact hb, by rw [List.length_append, hS]; rfl, by rw [List.length_append, hD]; rfl, .inr ⟨by rw [eK, hsh.2.2.1]; decide, ?_⟩⟩
        rw [h4, if_pos (.inr (.inr h0))]; rfl
      · rw [if_neg (by omega)] at h4
        have hk : nxK k = { k with at_ := k.at_ + 2 + nxS k * 128 } ∧ nxD k = (body.drop (k.at_ + 2)).take (nxS k * 128) := by
          unfold nxK nxD Rk.raw Rk.rawGot
          by_cases hz : ((nxS k * 128 : Nat) : Int) ≤ 0
          · have hz0 : nxS k = 0 := by omega
            rw [if_pos hz, if_pos hz, hz0, g3]
            exact ⟨rfl, by simp⟩
          · rw [if_neg hz, if_neg hz, g3]
            obtain ⟨g4, g5, g6⟩ := Rk.got_good (k := { k with at_ := k.at_ + 2 }) h1 (n := nxS k * 128) (by dsimp only; rw [hb]; omega)
            refine ⟨g6, ?_⟩
            rw [show ((nxS k * 128 : Nat) : Int).toNat = nxS k * 128 from rfl, g4]
            dsimp only
            rw [hb]
        obtain ⟨k1, k2⟩ := hk
        have hdl : (nxD k).length = nxS k * 128 := by rw [k2, List.length_take, List.length_drop]; omega
        refine ⟨by rw [k1]; exact hb, by rw [List.length_append, hS]; rfl, by rw [List.length_append, hD]; rfl, .inl ⟨by rw [k1]; exact h1, by rw [k1]; dsimp only; omega, ?_, ?_⟩⟩
        · intro j hj j1 j2
          by_cases hji : j < i
          · rw [List.getElem_append_left (by omega), List.getElem_append_left (by omega)]
            exact h3 j hji (by omega) (by omega)
          · have : j = i := by omega
            subst this
            rw [List.getElem_append_right (by omega), List.getElem_append_right (by omega)]
            simp only [hS, hD, Nat.sub_self, List.getElem_singleton]
            exact ⟨hdl, h8⟩
        · rw [h4, k1]
          dsimp only
          have e1 : (body.drop k.at_).drop (2 + nxS k * 128) = body.drop (k.at_ + 2 + nxS k * 128) := by rw [List.drop_drop]; congr 1; omega
          have e2 : ((body.drop k.at_).drop 2).take (nxS k * 128) = nxD k := by rw [k2, List.drop_drop]
          rw [e1, e2, show c - (i + 1) = m by omega, Option.map_map]
          congr 1
          funext t
          simp only [Function.comp]
          rw [List.append_assoc]; rfl
  · obtain ⟨q1, q2, q3⟩ := nx_bad h1
    exact ⟨by rw [q3]; exact hb, by rw [List.length_append, hS]; rfl, by rw [List.length_append, hD]; rfl, .inr ⟨by rw [q3]; exact h1, h2⟩⟩
theorem LdI.bad {body : List UInt8} {c : Nat} {k : Rk} {S : List Nat} {Ds : List (List UInt8)} (h : LdI body c c k S Ds) (hb : k.err ≠ 0 ∨ k.at_ < k.b.length) : imgParse c (body.drop 6) = none := by
  obtain ⟨e, _, _, ⟨h1, h2, h3, h4⟩ | ⟨h1, h2⟩⟩ := h
  · rw [h4, Nat.sub_self, imgParse, if_neg]
    · rfl
    · intro q
      have := congrArg List.length q
      rw [List.length_drop, List.length_nil, ← e] at this
      rcases hb with hb | hb
      · exact hb h1
      · omega
  · exact h2
theorem LdI.good {body : List UInt8} {c : Nat} {k : Rk} {S : List Nat} {Ds : List (List UInt8)} (h : LdI body c c k S Ds) (h0 : k.err = 0) (hb : ¬ k.at_ < k.b.length) : imgParse c (body.drop 6) = some Ds ∧ ∀ (j : Nat) (h1 : j < S.length) (h2 : j < Ds.length), Ds[j].length = S[j] * 128 ∧ S[j] ≤ 8192 := by
  obtain ⟨e, hS, hD, ⟨h1, h2, h3, h4⟩ | ⟨h1, h2⟩⟩ := h
  · refine ⟨?_, fun j q1 q2 => h3 j (by omega) q1 q2⟩
    rw [h4, Nat.sub_self, imgParse, if_pos (by apply List.drop_of_length_le; rw [← e]; omega)]
    simp
  · exact absurd h0 h1
end Go.Proofs.YtpmmkmcbimnigaaGreat

/-! Text Ie. -/
/- Package image: Load. -/
set_option maxRecDepth 8000
set_option linter.unusedVariables false
set_option linter.unusedSimpArgs false
set_option linter.unusedSectionVars false
namespace Go.Proofs.YtpmmkmcbimnigaaGreat
open Go.RowKit Go.Sl
attribute [local irreducible] Sl.Own

abbrev noSlot : SlotD := ⟨none, none, none⟩
/-- The bay when so many slots have been filled. -/
def bayI (ds : List (List UInt8)) (c i : Nat) : BayD := ⟨(ds.take i).map slotI ++ List.replicate (c - i) noSlot, false, -1, ⟨0, 0, 0⟩⟩
theorem bayI_all {ds : List (List UInt8)} {c : Nat} (h : ds.length = c) : bayI ds c c = imgBay ds := by
  unfold bayI imgBay
  rw [List.take_of_length_le (by omega), Nat.sub_self, List.replicate_zero, List.append_nil]
theorem bayI_zero (ds : List (List UInt8)) (c : Nat) : BayD.new (List.replicate c 0) = bayI ds c 0 := by
  unfold bayI BayD.new
  rw [List.map_replicate]; rfl
theorem bayI_step {ds : List (List UInt8)} {c i : Nat} (h : i < c) (hd : i < ds.length) : (bayI ds c (i + 1)).slots = ((ds.take i).map slotI ++ [slotI ds[i]]) ++ List.replicate (c - i - 1) noSlot := by
  unfold bayI
  dsimp only
  rw [List.take_succ_eq_append_getElem hd, List.map_append, show c - (i + 1) = c - i - 1 by omega]; rfl
theorem bayI_skip {ds : List (List UInt8)} {c i : Nat} (h : i < c) (hd : i < ds.length) (he : ds[i] = []) : bayI ds c (i + 1) = bayI ds c i := by
  have h1 := bayI_step h hd
  have h2 : (bayI ds c (i + 1)).slots = (bayI ds c i).slots := by
    rw [h1, he]
    obtain ⟨m, hm⟩ : ∃ m, c - i = m + 1 := ⟨c - i - 1, by omega⟩
    unfold bayI
    dsimp only
    rw [hm, List.append_assoc, Nat.add_sub_cancel]; rfl
  unfold bayI at h2 ⊢
  dsimp only at h2
  rw [h2]
theorem bayI_len {ds : List (List UInt8)} {c i : Nat} (h : i ≤ c) (hd : ds.length = c) : (bayI ds c i).slots.length = c := by
  unfold bayI
  simp only [List.length_append, List.length_map, List.length_take, List.length_replicate]
  omega
theorem bayI_load {ds : List (List UInt8)} {c i s : Nat} (h : i < c) (hd : ds.length = c) (h1 : (ds[i]'(by omega)).length = s * 128) (h2 : 0 < s) (h3 : s ≤ 8192) : (bayI ds c i).load (i : Int) (ds[i]'(by omega)) = (0, bayI ds c (i + 1)) := by
  have hl := bayI_len (ds := ds) (c := c) (i := i) (by omega) hd
  have hslot : (bayI ds c i).slot (i : Int) = noSlot := by
    unfold BayD.slot bayI
    dsimp only
    rw [Int.toNat_natCast, List.getElem?_append_right (by simp; omega)]
    simp only [List.length_map, List.length_take, Nat.min_eq_left (show i ≤ ds.length by omega), Nat.sub_self]
    rw [List.getElem?_replicate, if_pos (by omega)]; rfl
  have hin : inRange (bayI ds c i).slots.length (i : Int) = true := by unfold inRange; rw [hl]; exact decide_eq_true (by omega)
  have hle : loadE (ds[i]'(by omega)).length = 0 := by unfold loadE; rw [h1, if_pos (by omega)]
  have hlay : (bayI ds c i).layE (i : Int) = 0 := by
    unfold BayD.layE
    rw [hin, if_neg (by decide), hslot]; rfl
  unfold BayD.load BayD.lay
  rw [hlay, if_neg (by decide), hle, if_neg (by decide), hslot]
  have hst := bayI_step (ds := ds) h (by omega)
  have hne : ds[i]'(by omega) ≠ [] := by intro e; rw [e] at h1; simp at h1; omega
  have hsl : slotI (ds[i]'(by omega)) = ⟨some ⟨⟨chunks (ds[i]'(by omega)) ((ds[i]'(by omega)).length / 128), [], false⟩, false, 0⟩, none, none⟩ := by unfold slotI; rw [if_neg hne]
  have hset := setNext ((ds.take i).map slotI) noSlot (slotI (ds[i]'(by omega))) (c - i) (by omega)
  rw [show ((ds.take i).map slotI).length = i by rw [List.length_map, List.length_take]; omega] at hset
  rw [← hst, hsl] at hset
  refine Prod.ext rfl ?_
  show (bayI ds c i).setSlot (i : Int).toNat _ = _
  unfold BayD.setSlot
  rw [Int.toNat_natCast]
  have h5 : (bayI ds c i).slots = (ds.take i).map slotI ++ List.replicate (c - i) noSlot := rfl
  rw [h5, hset]
  rfl
theorem szC_get {n : Nat} {S : List Nat} (i : Nat) (h : i < S.length) : (szC n S)[i]? = some (.int .i64 (S[i] : Int)) := by
  unfold szC ints
  rw [List.getElem?_append_left (by rw [List.length_map]; exact h), List.getElem?_map, List.getElem?_eq_getElem h]; rfl
theorem dsC_get {n : Nat} {Ds : List RowE} (i : Nat) (h : i < Ds.length) : (dsC n Ds)[i]? = some (Ds[i].hdr) := by
  unfold dsC
  rw [List.getElem?_append_left (by rw [List.length_map]; exact h), List.getElem?_map, List.getElem?_eq_getElem h]; rfl
set_option maxHeartbeats 8000000 in
theorem imgload_ok {W : World} {R : List SProp} {ao : Option Addr} {cap : Nat} {l : List UInt8} (hr : Rds W R 1 ao l.length (bytes l)) (hcap : l.length ≤ cap) (hlen : l.length ≤ 140737488351232) :
    Does W Tryz.prog 23 [.slice ao l.length cap] R (β := Nat) (fun _ => True) (fun b => .tuple #[.pointer ((imgLoad l).2.map fun _ => ⟨b, 0, none⟩), .int .u16 (((imgLoad l).1 : Nat) : Int)]) (fun b => (imgLoad l).2.elim R fun ds => BayR b (imgBay ds) :: R) := by
  (refine Does.enterD Tryz.func23 Tryz.ntmps23 rfl rfl ?_)
  (refine wr ?_; repeat ((first | refine VO.step rfl rfl ?_ | refine VD.end rfl rfl rfl ?_ | refine VD.mid rfl rfl rfl ?_); refine OpV.box rfl rfl rfl ?_; intro _; refine wr ?_))
  ((first | refine VO.step rfl rfl ?_ | refine VD.end rfl rfl rfl ?_ | refine VD.mid rfl rfl rfl ?_); refine OpV.alloc (z := (.pointer none)) (fun w => by simp) rfl rfl ?_; intro n2)
  (refine wr ?_; repeat ((first | refine VO.step rfl rfl ?_ | refine VD.end rfl rfl rfl ?_ | refine VD.mid rfl rfl rfl ?_); refine OpV.box rfl rfl rfl ?_; intro _; refine wr ?_))
  ((first | refine VO.step rfl rfl ?_ | refine VD.end rfl rfl rfl ?_ | refine VD.mid rfl rfl rfl ?_); refine OpV.alloc (z := (.int .u16 0)) (fun w => by simp) rfl rfl ?_; intro n3)
  (refine wr ?_; repeat ((first | refine VO.step rfl rfl ?_ | refine VD.end rfl rfl rfl ?_ | refine VD.mid rfl rfl rfl ?_); refine OpV.box rfl rfl rfl ?_; intro _; refine wr ?_))
  refine VR.regionD rfl ?_
  (first | refine VO.pure rfl rfl (PureAt.makeFuncN rfl) rfl ?_ | refine VD.take rfl rfl rfl (PureAt.makeFuncN rfl) rfl ?_ | refine VQ.pure rfl rfl (PureAt.makeFuncN rfl) rfl ?_ | refine VD.end rfl rfl rfl (OpV.pure (PureAt.makeFuncN rfl) rfl ?_))
  refine VO.deferLast rfl rfl rfl ?_
  (refine wr ?_; repeat ((first | refine VO.step rfl rfl ?_ | refine VD.end rfl rfl rfl ?_ | refine VD.mid rfl rfl rfl ?_); refine OpV.box rfl rfl rfl ?_; intro _; refine wr ?_))
  have bad : imgForm l = false → imgLoad l = (210, none) := fun h => by unfold imgLoad; rw [if_pos h]
  ((first | refine VO.split rfl rfl rfl ?_ ?_ | refine VD.split rfl rfl rfl ?_ ?_) <;> intro hb)
  rotate_left
  · have h0 : imgForm l = false := by unfold imgForm; rw [decide_eq_false (by have := of_decide_eq_false hb; omega)]; rfl
    have hL := bad h0
    (refine wr ?_; repeat ((first | refine VO.step rfl rfl ?_ | refine VD.end rfl rfl rfl ?_ | refine VD.mid rfl rfl rfl ?_); refine OpV.box rfl rfl rfl ?_; intro _; refine wr ?_))
    ((first | refine VO.step rfl rfl ?_ | refine VD.end rfl rfl rfl ?_ | refine VD.mid rfl rfl rfl ?_); refine OpV.callDies rfl rfl (fun _ _ => by simp) (need_dies 210) Ent.refl ?_; refine VE.sh ?_; (repeat (first | refine VF.passPanic ?_ | refine VF.blockPanic ?_ | refine VF.loopPanic ?_)); refine VF.ent (H' := Row n2 25 [.pointer none] :: Row n3 27 [.int .u16 0] :: R) Ent.re ?_; refine VF.leavePanic (fun _ _ => by simp) (loadD_pan 210) 0 rfl (ResIs.leaf tab_ok rfl rfl (.head _) rfl) (ResIs.leaf tab_ok rfl rfl (.tail _ (.head _)) rfl) trivial ?_ ?_)
    · rw [hL]; rfl
    · rw [hL]; exact Ent.drop (Ent.drop Ent.refl)
  have f1 : l.length ≤ 33554432 := by have := of_decide_eq_true hb; omega
  clear hb
  (refine wr ?_; repeat ((first | refine VO.step rfl rfl ?_ | refine VD.end rfl rfl rfl ?_ | refine VD.mid rfl rfl rfl ?_); refine OpV.box rfl rfl rfl ?_; intro _; refine wr ?_))
  ((first | refine VO.split rfl rfl rfl ?_ ?_ | refine VD.split rfl rfl rfl ?_ ?_) <;> intro hb)
  rotate_left
  · have h0 : imgForm l = false := by unfold imgForm; rw [decide_eq_false (show ¬ 10 ≤ l.length by have := of_decide_eq_false hb; omega), Bool.and_false]; rfl
    have hL := bad h0
    (refine wr ?_; repeat ((first | refine VO.step rfl rfl ?_ | refine VD.end rfl rfl rfl ?_ | refine VD.mid rfl rfl rfl ?_); refine OpV.box rfl rfl rfl ?_; intro _; refine wr ?_))
    ((first | refine VO.step rfl rfl ?_ | refine VD.end rfl rfl rfl ?_ | refine VD.mid rfl rfl rfl ?_); refine OpV.callDies rfl rfl (fun _ _ => by simp) (need_dies 210) Ent.refl ?_; refine VE.sh ?_; (repeat (first | refine VF.passPanic ?_ | refine VF.blockPanic ?_ | refine VF.loopPanic ?_)); refine VF.ent (H' := Row n2 25 [.pointer none] :: Row n3 27 [.int .u16 0] :: R) Ent.re ?_; refine VF.leavePanic (fun _ _ => by simp) (loadD_pan 210) 0 rfl (ResIs.leaf tab_ok rfl rfl (.head _) rfl) (ResIs.leaf tab_ok rfl rfl (.tail _ (.head _)) rfl) trivial ?_ ?_)
    · rw [hL]; rfl
    · rw [hL]; exact Ent.drop (Ent.drop Ent.refl)
  have f2 : 10 ≤ l.length := by have := of_decide_eq_true hb; omega
  clear hb
  obtain ⟨la, rfl⟩ : ∃ x, ao = some x := by cases ao with | none => have := hr.nil rfl; omega | some x => exact ⟨x, rfl⟩
  have hform : imgForm l = decide (l.take 5 = magicI) := by unfold imgForm; rw [decide_eq_true f1, decide_eq_true f2]; rfl
  have hR : Rds W (Row n3 27 [.int .u16 0] :: Row n2 25 [.pointer none] :: R) 1 (some la) l.length (bytes l) := hr.ent (Ent.drop (Ent.drop Ent.refl))
  (refine wr ?_; repeat ((first | refine VO.step rfl rfl ?_ | refine VD.end rfl rfl rfl ?_ | refine VD.mid rfl rfl rfl ?_); refine OpV.box rfl rfl rfl ?_; intro _; refine wr ?_))
  (first | refine VO.pure rfl rfl (PureAt.toStr (l := l.take 5) tab_ok rfl rfl rfl rfl (rds_head hR 5 (by omega)) rfl) rfl ?_ | refine VD.take rfl rfl rfl (PureAt.toStr (l := l.take 5) tab_ok rfl rfl rfl rfl (rds_head hR 5 (by omega)) rfl) rfl ?_ | refine VQ.pure rfl rfl (PureAt.toStr (l := l.take 5) tab_ok rfl rfl rfl rfl (rds_head hR 5 (by omega)) rfl) rfl ?_ | refine VD.end rfl rfl rfl (OpV.pure (PureAt.toStr (l := l.take 5) tab_ok rfl rfl rfl rfl (rds_head hR 5 (by omega)) rfl) rfl ?_))
  (refine wr ?_; repeat ((first | refine VO.step rfl rfl ?_ | refine VD.end rfl rfl rfl ?_ | refine VD.mid rfl rfl rfl ?_); refine OpV.box rfl rfl rfl ?_; intro _; refine wr ?_))
  (first | refine VO.pure rfl rfl (PureAt.strEq (a := l.take 5) (b := magicI) tab_ok rfl rfl rfl rfl) rfl ?_ | refine VD.take rfl rfl rfl (PureAt.strEq (a := l.take 5) (b := magicI) tab_ok rfl rfl rfl rfl) rfl ?_ | refine VQ.pure rfl rfl (PureAt.strEq (a := l.take 5) (b := magicI) tab_ok rfl rfl rfl rfl) rfl ?_ | refine VD.end rfl rfl rfl (OpV.pure (PureAt.strEq (a := l.take 5) (b := magicI) tab_ok rfl rfl rfl rfl) rfl ?_))
  (refine wr ?_; repeat ((first | refine VO.step rfl rfl ?_ | refine VD.end rfl rfl rfl ?_ | refine VD.mid rfl rfl rfl ?_); refine OpV.box rfl rfl rfl ?_; intro _; refine wr ?_))
  by_cases h5 : l.take 5 = magicI
  rotate_left
  · have hL := bad (by rw [hform, decide_eq_false h5])
    refine VO.re 28 (.bool false) rfl (by rw [decide_eq_false h5]) ?_
    ((first | refine VO.step rfl rfl ?_ | refine VD.end rfl rfl rfl ?_ | refine VD.mid rfl rfl rfl ?_); refine OpV.callDies rfl rfl (fun _ _ => by simp) (need_dies 210) Ent.refl ?_; refine VE.sh ?_; (repeat (first | refine VF.passPanic ?_ | refine VF.blockPanic ?_ | refine VF.loopPanic ?_)); refine VF.ent (H' := Row n2 25 [.pointer none] :: Row n3 27 [.int .u16 0] :: R) Ent.re ?_; refine VF.leavePanic (fun _ _ => by simp) (loadD_pan 210) 0 rfl (ResIs.leaf tab_ok rfl rfl (.head _) rfl) (ResIs.leaf tab_ok rfl rfl (.tail _ (.head _)) rfl) trivial ?_ ?_)
    · rw [hL]; rfl
    · rw [hL]; exact Ent.drop (Ent.drop Ent.refl)
  rw [decide_eq_true h5] at hform
  refine VO.re 28 (.bool true) rfl (by rw [decide_eq_true h5]) ?_
  ((first | refine VO.step rfl rfl ?_ | refine VD.end rfl rfl rfl ?_ | refine VD.mid rfl rfl rfl ?_); refine OpV.call rfl rfl (fun _ _ => by simp) (need_ok (.int .u16 210) rfl) Ent.refl rfl ?_)
  intro _ _
  (refine wr ?_; repeat ((first | refine VO.step rfl rfl ?_ | refine VD.end rfl rfl rfl ?_ | refine VD.mid rfl rfl rfl ?_); refine OpV.box rfl rfl rfl ?_; intro _; refine wr ?_))
  refine VO.re 33 (.int .i64 ((l.length - 4 : Nat) : Int)) rfl (by congr 1; omega) ?_
  (refine wr ?_; repeat ((first | refine VO.step rfl rfl ?_ | refine VD.end rfl rfl rfl ?_ | refine VD.mid rfl rfl rfl ?_); refine OpV.box rfl rfl rfl ?_; intro _; refine wr ?_))
  have hsub : ∀ H : List SProp, Rds W H 1 (some la) l.length (bytes l) → Rds W H 1 (subA (some la) cap (l.length - 4) 1) (l.length - (l.length - 4)) (bytes (l.drop (l.length - 4))) := fun H h => by
    have h1 := rds_part h (l.length - 4) l.length (by omega) (Nat.le_refl _) hcap
    rwa [List.take_of_length_le (by rw [List.length_drop]; omega)] at h1
  ((first | refine VO.step rfl rfl ?_ | refine VD.end rfl rfl rfl ?_ | refine VD.mid rfl rfl rfl ?_); refine OpV.call rfl rfl (fun _ _ => by simp) (read_ok (hsub _ hR) (by omega)) Ent.refl rfl ?_)
  intro r1 _
  (refine wr ?_; repeat ((first | refine VO.step rfl rfl ?_ | refine VD.end rfl rfl rfl ?_ | refine VD.mid rfl rfl rfl ?_); refine OpV.box rfl rfl rfl ?_; intro _; refine wr ?_))
  ((first | refine VO.step rfl rfl ?_ | refine VD.end rfl rfl rfl ?_ | refine VD.mid rfl rfl rfl ?_); refine OpV.call rfl rfl (fun _ _ => by simp) (r32_ok r1 ⟨l.drop (l.length - 4), 0, 0, 0⟩) Ent.refl rfl ?_)
  intro _ _
  have hg4 : (Rk.mk (l.drop (l.length - 4)) 0 0 0).got 4 = l.drop (l.length - 4) := by
    have h1 := (Rk.got_good (k := ⟨l.drop (l.length - 4), 0, 0, 0⟩) rfl (n := 4) (by dsimp only; rw [List.length_drop]; omega)).1
    rw [h1, List.drop_zero, List.take_of_length_le (by rw [List.length_drop]; omega)]
  rw [hg4]
  refine VO.ent (H' := Row n3 27 [.int .u16 0] :: Row n2 25 [.pointer none] :: R) Ent.re ?_
  (refine wr ?_; repeat ((first | refine VO.step rfl rfl ?_ | refine VD.end rfl rfl rfl ?_ | refine VD.mid rfl rfl rfl ?_); refine OpV.box rfl rfl rfl ?_; intro _; refine wr ?_))
  have hBl : (imgB l).length = l.length - 4 := by rw [List.length_take]; omega
  have hRb : ∀ H : List SProp, Rds W H 1 (some la) l.length (bytes l) → Rds W H 1 (some la) (imgB l).length (bytes (imgB l)) := fun H h => by rw [hBl]; exact rds_head h (l.length - 4) (by omega)
  have hsum := sum_ok (W := W) (cap := cap) (l := imgB l) (hRb _ hR) (by omega)
  rw [hBl] at hsum
  ((first | refine VO.step rfl rfl ?_ | refine VD.end rfl rfl rfl ?_ | refine VD.mid rfl rfl rfl ?_); refine OpV.call rfl rfl (fun _ _ => by simp) (hsum) Ent.refl rfl ?_)
  intro _ _
  (refine wr ?_; repeat ((first | refine VO.step rfl rfl ?_ | refine VD.end rfl rfl rfl ?_ | refine VD.mid rfl rfl rfl ?_); refine OpV.box rfl rfl rfl ?_; intro _; refine wr ?_))
  have hseq : (((leVal (l.drop (l.length - 4)) : Nat) : Int) == (((crcS (imgB l)).toNat : Nat) : Int)) = imgSum l := by
    unfold imgSum
    rw [Bool.eq_iff_iff, beq_iff_eq, decide_eq_true_iff]
    omega
  refine VO.re 43 (.bool (imgSum l)) rfl (by rw [hseq]) ?_
  cases hsm : imgSum l with
  | false =>
    have hL : imgLoad l = (211, none) := by unfold imgLoad; rw [hform, if_neg (by decide), if_pos hsm]
    ((first | refine VO.step rfl rfl ?_ | refine VD.end rfl rfl rfl ?_ | refine VD.mid rfl rfl rfl ?_); refine OpV.callDies rfl rfl (fun _ _ => by simp) (need_dies 211) Ent.refl ?_; refine VE.sh ?_; (repeat (first | refine VF.passPanic ?_ | refine VF.blockPanic ?_ | refine VF.loopPanic ?_)); refine VF.ent (H' := Row n2 25 [.pointer none] :: Row n3 27 [.int .u16 0] :: R) Ent.re ?_; refine VF.leavePanic (fun _ _ => by simp) (loadD_pan 211) 0 rfl (ResIs.leaf tab_ok rfl rfl (.head _) rfl) (ResIs.leaf tab_ok rfl rfl (.tail _ (.head _)) rfl) trivial ?_ ?_)
    · rw [hL]; rfl
    · rw [hL]; exact Ent.drop (Ent.drop Ent.refl)
  | true =>
  ((first | refine VO.step rfl rfl ?_ | refine VD.end rfl rfl rfl ?_ | refine VD.mid rfl rfl rfl ?_); refine OpV.call rfl rfl (fun _ _ => by simp) (need_ok (.int .u16 211) rfl) Ent.refl rfl ?_)
  intro _ _
  (refine wr ?_; repeat ((first | refine VO.step rfl rfl ?_ | refine VD.end rfl rfl rfl ?_ | refine VD.mid rfl rfl rfl ?_); refine OpV.box rfl rfl rfl ?_; intro _; refine wr ?_))
  have hread := read_ok (W := W) (cap := cap) (hRb _ hR) (by omega)
  rw [hBl] at hread
  ((first | refine VO.step rfl rfl ?_ | refine VD.end rfl rfl rfl ?_ | refine VD.mid rfl rfl rfl ?_); refine OpV.call rfl rfl (fun _ _ => by simp) (hread) Ent.refl rfl ?_)
  intro r5 _
  (refine wr ?_; repeat ((first | refine VO.step rfl rfl ?_ | refine VD.end rfl rfl rfl ?_ | refine VD.mid rfl rfl rfl ?_); refine OpV.box rfl rfl rfl ?_; intro _; refine wr ?_))
  ((first | refine VO.step rfl rfl ?_ | refine VD.end rfl rfl rfl ?_ | refine VD.mid rfl rfl rfl ?_); refine OpV.alloc (z := (.pointer none)) (fun w => by simp) rfl rfl ?_; intro n5)
  (refine wr ?_; repeat ((first | refine VO.step rfl rfl ?_ | refine VD.end rfl rfl rfl ?_ | refine VD.mid rfl rfl rfl ?_); refine OpV.box rfl rfl rfl ?_; intro _; refine wr ?_))
  refine VO.ent (H' := ReaderR r5 ⟨imgB l, 0, 0, 0⟩ :: Row n5 112 [.pointer (some ⟨r5, 0, none⟩)] :: Row n3 27 [.int .u16 0] :: Row n2 25 [.pointer none] :: R) Ent.re ?_
  ((first | refine VO.step rfl rfl ?_ | refine VD.end rfl rfl rfl ?_ | refine VD.mid rfl rfl rfl ?_); refine OpV.call rfl rfl (fun _ _ => by simp) (rraw_ok r5 ⟨imgB l, 0, 0, 0⟩ 5) Ent.refl rfl ?_)
  rintro ⟨yo, yc⟩ _
  have hk5 : (Rk.mk (imgB l) 0 0 0).raw 5 = ⟨imgB l, 5, 0, 0⟩ := by
    have h1 := (Rk.got_good (k := ⟨imgB l, 0, 0, 0⟩) rfl (n := 5) (by dsimp only; rw [hBl]; omega)).2.2
    exact h1
  rw [hk5]
  refine VO.ent (H' := ReaderR r5 ⟨imgB l, 5, 0, 0⟩ :: Row n5 112 [.pointer (some ⟨r5, 0, none⟩)] :: Row n3 27 [.int .u16 0] :: Row n2 25 [.pointer none] :: R) Ent.re ?_
  (refine wr ?_; repeat ((first | refine VO.step rfl rfl ?_ | refine VD.end rfl rfl rfl ?_ | refine VD.mid rfl rfl rfl ?_); refine OpV.box rfl rfl rfl ?_; intro _; refine wr ?_))
  ((first | refine VO.step rfl rfl ?_ | refine VD.end rfl rfl rfl ?_ | refine VD.mid rfl rfl rfl ?_); refine OpV.call rfl rfl (fun _ _ => by simp) (r8_ok r5 ⟨imgB l, 5, 0, 0⟩) Ent.refl rfl ?_)
  intro _ _
  have hg1 := Rk.got_good (k := ⟨imgB l, 5, 0, 0⟩) rfl (n := 1) (by dsimp only; rw [hBl]; omega)
  have hk6 : (Rk.mk (imgB l) 5 0 0).number 1 = ⟨imgB l, 6, 0, 0⟩ := hg1.2.2
  have hcv : leVal ((Rk.mk (imgB l) 5 0 0).got 1) = imgC l := by
    rw [hg1.1]
    have h6 : 5 < (imgB l).length := by rw [hBl]; omega
    dsimp only
    rw [List.drop_eq_getElem_cons h6]
    simp [leVal, imgC, List.getD, List.getElem?_eq_getElem h6]
  rw [hcv, hk6]
  have hc255 : imgC l < 256 := UInt8.toNat_lt _
  generalize hcc : imgC l = c at *
  (first | refine VO.step rfl rfl ?_ | refine VD.end rfl rfl rfl ?_ | refine VD.mid rfl rfl rfl ?_)
  refine OpV.makeSlice1 (m := c) st_24 rfl rfl rfl (by omega) (by simp only [maxLen]; omega) rfl ?_
  intro sa0
  (refine wr ?_; repeat ((first | refine VO.step rfl rfl ?_ | refine VD.end rfl rfl rfl ?_ | refine VD.mid rfl rfl rfl ?_); refine OpV.box rfl rfl rfl ?_; intro _; refine wr ?_))
  ((first | refine VO.step rfl rfl ?_ | refine VD.end rfl rfl rfl ?_ | refine VD.mid rfl rfl rfl ?_); refine OpV.alloc (z := (.slice none 0 0)) (fun w => by simp) rfl rfl ?_; intro n6)
  (refine wr ?_; repeat ((first | refine VO.step rfl rfl ?_ | refine VD.end rfl rfl rfl ?_ | refine VD.mid rfl rfl rfl ?_); refine OpV.box rfl rfl rfl ?_; intro _; refine wr ?_))
  have hLd : imgLoad l = if c < 1 ∨ 17 < c then (210, none) else imgOf (imgParse c ((imgB l).drop 6)) := by
    unfold imgLoad
    rw [hform, if_neg (by decide), hsm, if_neg (by decide), hcc]
  ((first | refine VO.split rfl rfl rfl ?_ ?_ | refine VD.split rfl rfl rfl ?_ ?_) <;> intro hb)
  rotate_left
  · have hL : imgLoad l = (210, none) := by rw [hLd, if_pos (.inl (by have := of_decide_eq_false hb; omega))]
    (refine wr ?_; repeat ((first | refine VO.step rfl rfl ?_ | refine VD.end rfl rfl rfl ?_ | refine VD.mid rfl rfl rfl ?_); refine OpV.box rfl rfl rfl ?_; intro _; refine wr ?_))
    ((first | refine VO.step rfl rfl ?_ | refine VD.end rfl rfl rfl ?_ | refine VD.mid rfl rfl rfl ?_); refine OpV.callDies rfl rfl (fun _ _ => by simp) (need_dies 210) Ent.refl ?_; refine VE.sh ?_; (repeat (first | refine VF.passPanic ?_ | refine VF.blockPanic ?_ | refine VF.loopPanic ?_)); refine VF.ent (H' := Row n2 25 [.pointer none] :: Row n3 27 [.int .u16 0] :: R) Ent.re ?_; refine VF.leavePanic (fun _ _ => by simp) (loadD_pan 210) 0 rfl (ResIs.leaf tab_ok rfl rfl (.head _) rfl) (ResIs.leaf tab_ok rfl rfl (.tail _ (.head _)) rfl) trivial ?_ ?_)
    · rw [hL]; rfl
    · rw [hL]; exact Ent.drop (Ent.drop Ent.refl)
  have c1 : 1 ≤ c := by have := of_decide_eq_true hb; omega
  clear hb
  (refine wr ?_; repeat ((first | refine VO.step rfl rfl ?_ | refine VD.end rfl rfl rfl ?_ | refine VD.mid rfl rfl rfl ?_); refine OpV.box rfl rfl rfl ?_; intro _; refine wr ?_))
  by_cases c17 : c ≤ 17
  rotate_left
  · have hL : imgLoad l = (210, none) := by rw [hLd, if_pos (.inr (by omega))]
    refine VO.re 59 (.bool false) rfl (by rw [decide_eq_false (by omega)]) ?_
    ((first | refine VO.step rfl rfl ?_ | refine VD.end rfl rfl rfl ?_ | refine VD.mid rfl rfl rfl ?_); refine OpV.callDies rfl rfl (fun _ _ => by simp) (need_dies 210) Ent.refl ?_; refine VE.sh ?_; (repeat (first | refine VF.passPanic ?_ | refine VF.blockPanic ?_ | refine VF.loopPanic ?_)); refine VF.ent (H' := Row n2 25 [.pointer none] :: Row n3 27 [.int .u16 0] :: R) Ent.re ?_; refine VF.leavePanic (fun _ _ => by simp) (loadD_pan 210) 0 rfl (ResIs.leaf tab_ok rfl rfl (.head _) rfl) (ResIs.leaf tab_ok rfl rfl (.tail _ (.head _)) rfl) trivial ?_ ?_)
    · rw [hL]; rfl
    · rw [hL]; exact Ent.drop (Ent.drop Ent.refl)
  rw [if_neg (by omega)] at hLd
  refine VO.re 59 (.bool true) rfl (by rw [decide_eq_true (by omega)]) ?_
  ((first | refine VO.step rfl rfl ?_ | refine VD.end rfl rfl rfl ?_ | refine VD.mid rfl rfl rfl ?_); refine OpV.call rfl rfl (fun _ _ => by simp) (need_ok (.int .u16 210) rfl) Ent.refl rfl ?_)
  intro _ _
  (refine wr ?_; repeat ((first | refine VO.step rfl rfl ?_ | refine VD.end rfl rfl rfl ?_ | refine VD.mid rfl rfl rfl ?_); refine OpV.box rfl rfl rfl ?_; intro _; refine wr ?_))
  (first | refine VO.step rfl rfl ?_ | refine VD.end rfl rfl rfl ?_ | refine VD.mid rfl rfl rfl ?_)
  refine OpV.makeSlice1 (m := c) st_45 rfl rfl rfl (by omega) (by simp only [maxLen]; omega) rfl ?_
  intro da0
  (refine wr ?_; repeat ((first | refine VO.step rfl rfl ?_ | refine VD.end rfl rfl rfl ?_ | refine VD.mid rfl rfl rfl ?_); refine OpV.box rfl rfl rfl ?_; intro _; refine wr ?_))
  ((first | refine VO.step rfl rfl ?_ | refine VD.end rfl rfl rfl ?_ | refine VD.mid rfl rfl rfl ?_); refine OpV.alloc (z := (.slice none 0 0)) (fun w => by simp) rfl rfl ?_; intro n7)
  (refine wr ?_; repeat ((first | refine VO.step rfl rfl ?_ | refine VD.end rfl rfl rfl ?_ | refine VD.mid rfl rfl rfl ?_); refine OpV.box rfl rfl rfl ?_; intro _; refine wr ?_))
  (first | refine VO.pure rfl rfl (PureAt.makeFuncN rfl) rfl ?_ | refine VD.take rfl rfl rfl (PureAt.makeFuncN rfl) rfl ?_ | refine VQ.pure rfl rfl (PureAt.makeFuncN rfl) rfl ?_ | refine VD.end rfl rfl rfl (OpV.pure (PureAt.makeFuncN rfl) rfl ?_))
  (refine wr ?_; repeat ((first | refine VO.step rfl rfl ?_ | refine VD.end rfl rfl rfl ?_ | refine VD.mid rfl rfl rfl ?_); refine OpV.box rfl rfl rfl ?_; intro _; refine wr ?_))
  obtain ⟨X, hX⟩ : ∃ X : NxX, X = ⟨n5, n6, n7, r5, ⟨sa0, 0, none⟩, ⟨da0, 0, none⟩, c⟩ := ⟨_, rfl⟩
  refine VR.ent (H' := nxO ⟨n5, n6, n7, r5, ⟨sa0, 0, none⟩, ⟨da0, 0, none⟩, c⟩ ⟨imgB l, 6, 0, 0⟩ [] [] (Row n3 27 [.int .u16 0] :: Row n2 25 [.pointer none] :: R)) (Ent.trans (fun w hw => pile_nil (res := RowE.res) hw) Ent.re) ?_
  refine VR.loop (α := Nat × Rk × List Nat × List RowE) (fun y => y.1 ≤ c ∧ LdI (imgB l) c y.1 y.2.1 y.2.2.1 (y.2.2.2.map RowE.data)) (fun y => nxO ⟨n5, n6, n7, r5, ⟨sa0, 0, none⟩, ⟨da0, 0, none⟩, c⟩ y.2.1 y.2.2.1 y.2.2.2 (Row n3 27 [.int .u16 0] :: Row n2 25 [.pointer none] :: R))
    (fun y => [(2, .pointer (some ⟨n2, 0, none⟩)), (3, .pointer (some ⟨n3, 0, none⟩)), (5, .pointer (some ⟨n5, 0, none⟩)), (6, .pointer (some ⟨n6, 0, none⟩)), (7, .pointer (some ⟨n7, 0, none⟩)), (8, .func (.func 65) #[] #[.pointer (some ⟨n5, 0, none⟩), .pointer (some ⟨n6, 0, none⟩), .pointer (some ⟨n7, 0, none⟩)]), (66, .int .i64 c), (67, .int .i64 y.1)]) (fun y => c - y.1) rfl
    (0, ⟨imgB l, 6, 0, 0⟩, [], []) ⟨Nat.zero_le _, rfl, rfl, rfl, .inl ⟨rfl, by dsimp only; rw [hBl]; omega, fun j h => absurd h (by omega), by simp⟩⟩ Ent.refl ⟨rfl, rfl, rfl, rfl, rfl, rfl, rfl, rfl, trivial⟩ ?_
  rintro ⟨i, k, S, Ds⟩ ⟨hi, hI⟩
  dsimp only at hi hI ⊢
  (refine wr ?_; repeat ((first | refine VO.step rfl rfl ?_ | refine VD.end rfl rfl rfl ?_ | refine VD.mid rfl rfl rfl ?_); refine OpV.box rfl rfl rfl ?_; intro _; refine wr ?_))
  (refine VR.cond rfl rfl ?_ ?_ <;> intro hc)
  · have hlt : i < c := by have := of_decide_eq_true hc; omega
    clear hc
    have hSl := hI.2.1
    have hDl := hI.2.2.1
    rw [List.length_map] at hDl
    (refine wr ?_; repeat ((first | refine VO.step rfl rfl ?_ | refine VD.end rfl rfl rfl ?_ | refine VD.mid rfl rfl rfl ?_); refine OpV.box rfl rfl rfl ?_; intro _; refine wr ?_))
    by_cases h8 : nxS k ≤ 8192
    · ((first | refine VO.step rfl rfl ?_ | refine VD.end rfl rfl rfl ?_ | refine VD.mid rfl rfl rfl ?_); refine OpV.call rfl rfl (fun _ _ => by simp) (imgnext_ok ⟨n5, n6, n7, r5, ⟨sa0, 0, none⟩, ⟨da0, 0, none⟩, c⟩ k S Ds i hSl hDl hlt c17 h8) Ent.refl rfl ?_)
      rintro ⟨yo2, yc2⟩ _
      (refine wr ?_; repeat ((first | refine VO.step rfl rfl ?_ | refine VD.end rfl rfl rfl ?_ | refine VD.mid rfl rfl rfl ?_); refine OpV.box rfl rfl rfl ?_; intro _; refine wr ?_))
      refine VF.round (i + 1, nxK k, S ++ [nxS k], Ds ++ [⟨yo2, yc2, nxD k⟩]) ⟨hlt, ?_⟩ (by dsimp only; omega) ⟨rfl, rfl, rfl, rfl, rfl, rfl, rfl, asV rfl (by congr 1), trivial⟩ Ent.refl
      dsimp only
      rw [List.map_append]
      exact hI.next hlt h8
    · have hL : imgLoad l = (210, none) := by rw [hLd, hI.dies hlt (by omega)]; rfl
      (first | refine VO.step rfl rfl ?_ | refine VD.end rfl rfl rfl ?_ | refine VD.mid rfl rfl rfl ?_)
      refine OpV.callDies rfl rfl (fun _ _ => by simp) (imgnext_dies ⟨n5, n6, n7, r5, ⟨sa0, 0, none⟩, ⟨da0, 0, none⟩, c⟩ k S Ds i hSl hDl hlt c17 (by omega)) Ent.refl ?_
      refine VE.sh ?_
      (repeat (first | refine VF.passPanic ?_ | refine VF.blockPanic ?_ | refine VF.loopPanic ?_))
      refine VF.ent (H' := Row n2 25 [.pointer none] :: Row n3 27 [.int .u16 0] :: R) Ent.re ?_
      refine VF.leavePanic (fun _ _ => by simp) (loadD_pan 210) 0 rfl (ResIs.leaf tab_ok rfl rfl (.head _) rfl) (ResIs.leaf tab_ok rfl rfl (.tail _ (.head _)) rfl) trivial ?_ ?_
      · rw [hL]; rfl
      · rw [hL]; exact Ent.drop (Ent.drop Ent.refl)
  have hge : i = c := by have := of_decide_eq_false hc; omega
  clear hc
  subst hge
  (refine wr ?_; repeat ((first | refine VO.step rfl rfl ?_ | refine VD.end rfl rfl rfl ?_ | refine VD.mid rfl rfl rfl ?_); refine OpV.box rfl rfl rfl ?_; intro _; refine wr ?_))
  refine VO.know (p := k.ok) (fun w hw => ReaderR.know hw) ?_
  intro hkok
  ((first | refine VO.step rfl rfl ?_ | refine VD.end rfl rfl rfl ?_ | refine VD.mid rfl rfl rfl ?_); refine OpV.call rfl rfl (fun _ _ => by simp) (rend_ok r5 k) Ent.refl rfl ?_)
  intro _ _
  have hbadL : k.err ≠ 0 ∨ k.at_ < k.b.length → imgLoad l = (210, none) := fun h => by rw [hLd, hI.bad h]; rfl
  by_cases hend : k.err = 0 ∧ k.at_ < k.b.length
  · have hL := hbadL (.inr hend.2)
    rw [if_pos hend]
    (refine wr ?_; repeat ((first | refine VO.step rfl rfl ?_ | refine VD.end rfl rfl rfl ?_ | refine VD.mid rfl rfl rfl ?_); refine OpV.box rfl rfl rfl ?_; intro _; refine wr ?_))
    ((first | refine VO.step rfl rfl ?_ | refine VD.end rfl rfl rfl ?_ | refine VD.mid rfl rfl rfl ?_); refine OpV.callDies rfl rfl (fun _ _ => by simp) (need_dies 210) Ent.refl ?_; refine VE.sh ?_; (repeat (first | refine VF.passPanic ?_ | refine VF.blockPanic ?_ | refine VF.loopPanic ?_)); refine VF.ent (H' := Row n2 25 [.pointer none] :: Row n3 27 [.int .u16 0] :: R) Ent.re ?_; refine VF.leavePanic (fun _ _ => by simp) (loadD_pan 210) 0 rfl (ResIs.leaf tab_ok rfl rfl (.head _) rfl) (ResIs.leaf tab_ok rfl rfl (.tail _ (.head _)) rfl) trivial ?_ ?_)
    · rw [hL]; rfl
    · rw [hL]; exact Ent.drop (Ent.drop Ent.refl)
  rw [if_neg hend]
  by_cases herr : k.err = 0
  rotate_left
  · have hL := hbadL (.inl herr)
    (refine wr ?_; repeat ((first | refine VO.step rfl rfl ?_ | refine VD.end rfl rfl rfl ?_ | refine VD.mid rfl rfl rfl ?_); refine OpV.box rfl rfl rfl ?_; intro _; refine wr ?_))
    refine VO.re 80 (.bool false) rfl (by rw [beq_eq_false_iff_ne.2 herr]) ?_
    ((first | refine VO.step rfl rfl ?_ | refine VD.end rfl rfl rfl ?_ | refine VD.mid rfl rfl rfl ?_); refine OpV.callDies rfl rfl (fun _ _ => by simp) (need_dies 210) Ent.refl ?_; refine VE.sh ?_; (repeat (first | refine VF.passPanic ?_ | refine VF.blockPanic ?_ | refine VF.loopPanic ?_)); refine VF.ent (H' := Row n2 25 [.pointer none] :: Row n3 27 [.int .u16 0] :: R) Ent.re ?_; refine VF.leavePanic (fun _ _ => by simp) (loadD_pan 210) 0 rfl (ResIs.leaf tab_ok rfl rfl (.head _) rfl) (ResIs.leaf tab_ok rfl rfl (.tail _ (.head _)) rfl) trivial ?_ ?_)
    · rw [hL]; rfl
    · rw [hL]; exact Ent.drop (Ent.drop Ent.refl)
  obtain ⟨hparse, hsz⟩ := hI.good herr (fun h => hend ⟨herr, h⟩)
  have hL : imgLoad l = (0, some (Ds.map RowE.data)) := by rw [hLd, hparse]; rfl
  have hSl := hI.2.1
  have hDl := hI.2.2.1
  rw [List.length_map] at hDl
  (refine wr ?_; repeat ((first | refine VO.step rfl rfl ?_ | refine VD.end rfl rfl rfl ?_ | refine VD.mid rfl rfl rfl ?_); refine OpV.box rfl rfl rfl ?_; intro _; refine wr ?_))
  refine VO.re 80 (.bool true) rfl (by rw [herr]; rfl) ?_
  ((first | refine VO.step rfl rfl ?_ | refine VD.end rfl rfl rfl ?_ | refine VD.mid rfl rfl rfl ?_); refine OpV.call rfl rfl (fun _ _ => by simp) (need_ok (.int .u16 210) rfl) Ent.refl rfl ?_)
  intro _ _
  (refine wr ?_; repeat ((first | refine VO.step rfl rfl ?_ | refine VD.end rfl rfl rfl ?_ | refine VD.mid rfl rfl rfl ?_); refine OpV.box rfl rfl rfl ?_; intro _; refine wr ?_))
  (first | refine VO.step rfl rfl ?_ | refine VD.end rfl rfl rfl ?_ | refine VD.mid rfl rfl rfl ?_)
  refine OpV.makeSlice1 (m := i) st_24 rfl rfl rfl (by omega) (by simp only [maxLen]; omega) rfl ?_
  intro zb
  (refine wr ?_; repeat ((first | refine VO.step rfl rfl ?_ | refine VD.end rfl rfl rfl ?_ | refine VD.mid rfl rfl rfl ?_); refine OpV.box rfl rfl rfl ?_; intro _; refine wr ?_))
  have hz : Rds W (Sl.Own 3 1 (.slice (some ⟨zb, 0, none⟩) i i) i (List.replicate i (.int .i64 0)) :: ReaderR r5 k :: nxF ⟨n5, n6, n7, r5, ⟨sa0, 0, none⟩, ⟨da0, 0, none⟩, i⟩ S Ds (Row n3 27 [.int .u16 0] :: Row n2 25 [.pointer none] :: R)) 1 (some ⟨zb, 0, none⟩) (List.replicate i (0 : Int)).length (intsI (List.replicate i 0)) := by
    rw [List.length_replicate, show intsI (List.replicate i 0) = List.replicate i (.int .i64 0) by unfold intsI; rw [List.map_replicate]]
    exact Rds.own (fun u hu => by rw [List.mem_replicate] at hu; rw [hu.2]; rfl) (.head _) (by rw [List.length_replicate, Nat.mul_one]) (fun h => by cases h)
  have hnew := baynew_ok (cap := i) hz (by rw [List.length_replicate]; omega)
  have hE0 : bayE (List.replicate i (0 : Int)) = 0 := by
    unfold bayE
    rw [List.length_replicate, if_neg (by omega), if_pos]
    rw [List.all_eq_true]
    intro u hu
    rw [List.mem_replicate] at hu
    rw [hu.2]; decide
  rw [List.length_replicate, hE0] at hnew
  ((first | refine VO.step rfl rfl ?_ | refine VD.end rfl rfl rfl ?_ | refine VD.mid rfl rfl rfl ?_); refine OpV.call rfl rfl (fun _ _ => by simp) (hnew) Ent.refl rfl ?_)
  intro xb hxb
  obtain ⟨b, rfl⟩ : ∃ b, xb = some b := by cases xb with | none => simp at hxb | some b => exact ⟨b, rfl⟩
  rw [Option.elim_some, bayI_zero (Ds.map RowE.data) i]
  (refine wr ?_; repeat ((first | refine VO.step rfl rfl ?_ | refine VD.end rfl rfl rfl ?_ | refine VD.mid rfl rfl rfl ?_); refine OpV.box rfl rfl rfl ?_; intro _; refine wr ?_))
  refine VR.ent (H' := BayR b (bayI (Ds.map RowE.data) i 0) :: Row n2 25 [.pointer (some ⟨b, 0, none⟩)] :: Row n6 24 [.slice (some ⟨sa0, 0, none⟩) i i] :: Sl.Own 3 1 (.slice (some ⟨sa0, 0, none⟩) i i) i (szC i S) :: Sl.Own 22 1 (.slice (some ⟨da0, 0, none⟩) i i) i (dsC i Ds) :: PilR Ds :: Row n3 27 [.int .u16 0] :: R) Ent.re ?_
  refine VR.loop (α := Nat) (fun j => j ≤ i) (fun j => BayR b (bayI (Ds.map RowE.data) i j) :: Row n2 25 [.pointer (some ⟨b, 0, none⟩)] :: Row n6 24 [.slice (some ⟨sa0, 0, none⟩) i i] :: Sl.Own 3 1 (.slice (some ⟨sa0, 0, none⟩) i i) i (szC i S) :: Sl.Own 22 1 (.slice (some ⟨da0, 0, none⟩) i i) i (dsC i Ds) :: PilR Ds :: Row n3 27 [.int .u16 0] :: R)
    (fun j => [(2, .pointer (some ⟨n2, 0, none⟩)), (3, .pointer (some ⟨n3, 0, none⟩)), (6, .pointer (some ⟨n6, 0, none⟩)), (89, .slice (some ⟨da0, 0, none⟩) i i), (90, .int .i64 i), (91, .int .i64 j)]) (fun j => i - j) rfl 0 (Nat.zero_le _) Ent.refl ⟨rfl, rfl, rfl, rfl, rfl, rfl, trivial⟩ ?_
  intro j hj
  refine VR.know (p := ∀ d ∈ Ds, d.ok) (fun w hw => PilR.know hw.tail.tail.tail.tail.tail) ?_
  intro hokD
  (refine wr ?_; repeat ((first | refine VO.step rfl rfl ?_ | refine VD.end rfl rfl rfl ?_ | refine VD.mid rfl rfl rfl ?_); refine OpV.box rfl rfl rfl ?_; intro _; refine wr ?_))
  (refine VR.cond rfl rfl ?_ ?_ <;> intro hc)
  · have hlt : j < i := by have := of_decide_eq_true hc; omega
    clear hc
    have hjD : j < Ds.length := by omega
    have hjS : j < S.length := by omega
    have hs1 := hsz j hjS (by rw [List.length_map]; exact hjD)
    rw [List.getElem_map] at hs1
    have hdR : ∀ H : List SProp, Sl.Own 22 1 (.slice (some ⟨da0, 0, none⟩) i i) i (dsC i Ds) ∈ H → Rds W H 1 (some ⟨da0, 0, none⟩) i (dsC i Ds) := fun H m => Rds.own (dsC_one _ _) m (by rw [dsC_len (by omega), Nat.mul_one]) (fun h => by cases h)
    have hsR : ∀ H : List SProp, Sl.Own 3 1 (.slice (some ⟨sa0, 0, none⟩) i i) i (szC i S) ∈ H → Rds W H 1 (some ⟨sa0, 0, none⟩) i (szC i S) := fun H m => Rds.own (szC_one _ _) m (by rw [szC_len (by omega), Nat.mul_one]) (fun h => by cases h)
    (refine wr ?_; repeat ((first | refine VO.step rfl rfl ?_ | refine VD.end rfl rfl rfl ?_ | refine VD.mid rfl rfl rfl ?_); refine OpV.box rfl rfl rfl ?_; intro _; refine wr ?_))
    (first | refine VO.pure rfl rfl (PureAt.ldR tab_ok rfl rfl (hdR _ (by (focus repeat first | exact .head _ | apply List.Mem.tail))) (dsC_get j hjD)) rfl ?_ | refine VD.take rfl rfl rfl (PureAt.ldR tab_ok rfl rfl (hdR _ (by (focus repeat first | exact .head _ | apply List.Mem.tail))) (dsC_get j hjD)) rfl ?_ | refine VQ.pure rfl rfl (PureAt.ldR tab_ok rfl rfl (hdR _ (by (focus repeat first | exact .head _ | apply List.Mem.tail))) (dsC_get j hjD)) rfl ?_ | refine VD.end rfl rfl rfl (OpV.pure (PureAt.ldR tab_ok rfl rfl (hdR _ (by (focus repeat first | exact .head _ | apply List.Mem.tail))) (dsC_get j hjD)) rfl ?_))
    (refine wr ?_; repeat ((first | refine VO.step rfl rfl ?_ | refine VD.end rfl rfl rfl ?_ | refine VD.mid rfl rfl rfl ?_); refine OpV.box rfl rfl rfl ?_; intro _; refine wr ?_))
    (first | refine VO.pure rfl rfl (PureAt.ldR tab_ok rfl rfl (hsR _ (by (focus repeat first | exact .head _ | apply List.Mem.tail))) (szC_get j hjS)) rfl ?_ | refine VD.take rfl rfl rfl (PureAt.ldR tab_ok rfl rfl (hsR _ (by (focus repeat first | exact .head _ | apply List.Mem.tail))) (szC_get j hjS)) rfl ?_ | refine VQ.pure rfl rfl (PureAt.ldR tab_ok rfl rfl (hsR _ (by (focus repeat first | exact .head _ | apply List.Mem.tail))) (szC_get j hjS)) rfl ?_ | refine VD.end rfl rfl rfl (OpV.pure (PureAt.ldR tab_ok rfl rfl (hsR _ (by (focus repeat first | exact .head _ | apply List.Mem.tail))) (szC_get j hjS)) rfl ?_))
    (refine wr ?_; repeat ((first | refine VO.step rfl rfl ?_ | refine VD.end rfl rfl rfl ?_ | refine VD.mid rfl rfl rfl ?_); refine OpV.box rfl rfl rfl ?_; intro _; refine wr ?_))
    (refine VR.cond rfl rfl ?_ ?_ <;> intro hc)
    · have hp : 0 < S[j] := by have := of_decide_eq_true hc; omega
      clear hc
      (refine wr ?_; repeat ((first | refine VO.step rfl rfl ?_ | refine VD.end rfl rfl rfl ?_ | refine VD.mid rfl rfl rfl ?_); refine OpV.box rfl rfl rfl ?_; intro _; refine wr ?_))
      have hok := hokD _ (List.getElem_mem hjD)
      have hds : ∀ H : List SProp, PilR Ds ∈ H → Rds W H 1 (Ds[j]).ao (Ds[j]).data.length (bytes (Ds[j]).data) := fun H m => Rds.pile m (List.getElem_mem hjD) (fun R hR => RowE.rds hok hR)
      ((first | refine VO.step rfl rfl ?_ | refine VD.end rfl rfl rfl ?_ | refine VD.mid rfl rfl rfl ?_); refine OpV.call rfl rfl (fun _ _ => by simp) (bayloadR_ok (cap := (Ds[j]).cap) b (bayI (Ds.map RowE.data) i j) (j : Int) (hds _ (by (focus repeat first | exact .head _ | apply List.Mem.tail))) (by omega) hok.cap) Ent.refl rfl ?_)
      intro _ _
      have hld := bayI_load (ds := Ds.map RowE.data) (c := i) (i := j) (s := S[j]) hlt (by rw [List.length_map]; exact hDl) (by rw [List.getElem_map]; exact hs1.1) hp hs1.2
      rw [List.getElem_map] at hld
      rw [hld]
      (refine wr ?_; repeat ((first | refine VO.step rfl rfl ?_ | refine VD.end rfl rfl rfl ?_ | refine VD.mid rfl rfl rfl ?_); refine OpV.box rfl rfl rfl ?_; intro _; refine wr ?_))
      refine VO.re 105 (.bool true) rfl rfl ?_
      ((first | refine VO.step rfl rfl ?_ | refine VD.end rfl rfl rfl ?_ | refine VD.mid rfl rfl rfl ?_); refine OpV.call rfl rfl (fun _ _ => by simp) (need_ok (.int .u16 210) rfl) Ent.refl rfl ?_)
      intro _ _
      (refine wr ?_; repeat ((first | refine VO.step rfl rfl ?_ | refine VD.end rfl rfl rfl ?_ | refine VD.mid rfl rfl rfl ?_); refine OpV.box rfl rfl rfl ?_; intro _; refine wr ?_))
      refine VF.round (j + 1) hlt (by omega) ⟨rfl, rfl, rfl, rfl, rfl, asV rfl (by congr 1), trivial⟩ Ent.refl
    · have hz : S[j] = 0 := by have := of_decide_eq_false hc; omega
      clear hc
      have hemp : (Ds[j]).data = [] := List.length_eq_zero_iff.1 (by rw [hs1.1, hz])
      (refine wr ?_; repeat ((first | refine VO.step rfl rfl ?_ | refine VD.end rfl rfl rfl ?_ | refine VD.mid rfl rfl rfl ?_); refine OpV.box rfl rfl rfl ?_; intro _; refine wr ?_))
      refine VF.round (j + 1) hlt (by omega) ⟨rfl, rfl, rfl, rfl, rfl, asV rfl (by congr 1), trivial⟩ ?_
      rw [bayI_skip hlt (by rw [List.length_map]; exact hjD) (by rw [List.getElem_map]; exact hemp)]
      exact Ent.refl
  · have hge2 : j = i := by have := of_decide_eq_false hc; omega
    clear hc
    subst hge2
    rw [bayI_all (by rw [List.length_map]; exact hDl)]
    (refine wr ?_; repeat ((first | refine VO.step rfl rfl ?_ | refine VD.end rfl rfl rfl ?_ | refine VD.mid rfl rfl rfl ?_); refine OpV.box rfl rfl rfl ?_; intro _; refine wr ?_))
    refine VF.ent (H' := Row n2 25 [.pointer (some ⟨b, 0, none⟩)] :: Row n3 27 [.int .u16 0] :: BayR b (imgBay (Ds.map RowE.data)) :: R) Ent.re ?_
    refine VF.leaveRet (.inl rfl) (fun _ _ => by simp) loadD_ret b rfl (ResIs.leaf tab_ok rfl rfl (.head _) rfl) (ResIs.leaf tab_ok rfl rfl (.tail _ (.head _)) rfl) trivial ?_ ?_
    · rw [hL]; rfl
    · rw [hL]; exact Ent.drop (Ent.drop Ent.refl)
end Go.Proofs.YtpmmkmcbimnigaaGreat

/-! Text Od. -/
/- The document's image: Load. -/
set_option maxRecDepth 8000
set_option linter.unusedVariables false
set_option linter.unusedSimpArgs false
set_option linter.unusedSectionVars false
namespace Go.Proofs.YtpmmkmcbimnigaaGreat
open Go.RowKit Go.Sl
attribute [local irreducible] Sl.Own

theorem le4_iff {t : List UInt8} (ht : t.length = 4) {s : Nat} (hs : s < 4294967296) : leVal t = s ↔ ∀ (j : Nat) (h : j < 4), (t[j]'(by omega)).toNat = s / 2 ^ (8 * j) % 256 := by
  match t, ht with
  | [a, b, c, d], _ =>
    have ha := UInt8.toNat_lt a
    have hb := UInt8.toNat_lt b
    have hc := UInt8.toNat_lt c
    have hd := UInt8.toNat_lt d
    simp only [leVal, Nat.mul_zero, Nat.add_zero]
    constructor
    · intro h j hj
      match j, hj with
      | 0, _ => show a.toNat = s / 1 % 256; omega
      | 1, _ => show b.toNat = s / 256 % 256; omega
      | 2, _ => show c.toNat = s / 65536 % 256; omega
      | 3, _ => show d.toNat = s / 16777216 % 256; omega
    · intro h
      have h0 : a.toNat = s / 1 % 256 := h 0 (by omega)
      have h1 : b.toNat = s / 256 % 256 := h 1 (by omega)
      have h2 : c.toNat = s / 65536 % 256 := h 2 (by omega)
      have h3 : d.toNat = s / 16777216 % 256 := h 3 (by omega)
      omega
theorem bytes_get (l : List UInt8) (i : Nat) (h : i < l.length) : (bytes l)[i]? = some (.int .u8 (l[i].toNat : Int)) := by unfold bytes; rw [List.getElem?_map, List.getElem?_eq_getElem h]; rfl
theorem bayI_congr {ds ds' : List (List UInt8)} {c i : Nat} (h : ds.take i = ds'.take i) : bayI ds c i = bayI ds' c i := by unfold bayI; rw [h]
theorem bayI_load2 {Ds : List (List UInt8)} {c i s : Nat} {d : List UInt8} (h : i < c) (hD : Ds.length = i) (h1 : d.length = s * 128) (h2 : 0 < s) (h3 : s ≤ 8192) : (bayI Ds c i).load (i : Int) d = (0, bayI (Ds ++ [d]) c (i + 1)) := by
  obtain ⟨ds, hds⟩ : ∃ ds, ds = Ds ++ d :: List.replicate (c - i - 1) [] := ⟨_, rfl⟩
  have hl : ds.length = c := by rw [hds]; simp; omega
  have hg : ds[i]'(by omega) = d := by
    subst hds
    rw [List.getElem_append_right (by omega)]
    simp [hD]
  have e1 : bayI Ds c i = bayI ds c i := bayI_congr (by rw [hds, List.take_append_of_le_length (by omega)])
  have e2 : bayI (Ds ++ [d]) c (i + 1) = bayI ds c (i + 1) := bayI_congr (by rw [hds, List.append_cons Ds d (List.replicate (c - i - 1) []), List.take_append_of_le_length (l₁ := Ds ++ [d]) (by simp; omega)])
  rw [e1, e2]
  have := bayI_load (ds := ds) (c := c) (i := i) (s := s) h hl (by rw [hg]; exact h1) h2 h3
  rwa [hg] at this
theorem bayI_skip2 {Ds : List (List UInt8)} {c i : Nat} {d : List UInt8} (h : i < c) (hD : Ds.length = i) (hd : d = []) : bayI (Ds ++ [d]) c (i + 1) = bayI Ds c i := by
  rw [bayI_skip (ds := Ds ++ [d]) h (by rw [List.length_append, hD]; exact Nat.lt_succ_self _) (by rw [List.getElem_append_right (by omega)]; simp [hD, hd])]
  exact bayI_congr (by rw [List.take_append_of_le_length (by omega)])
set_option maxHeartbeats 8000000 in
theorem dimgload_ok {W : World} {R : List SProp} {ao : Option Addr} {cap : Nat} {l : List UInt8} (hr : RdsA W 1 ao l.length (bytes l)) (hcap : l.length ≤ cap) (hlen : l.length ≤ 140737488351232) :
    Does W Tryz.prog 24 [.slice ao l.length cap] R (β := Nat) (fun _ => True) (fun b => .tuple #[.pointer ((imgLoad l).2.map fun _ => ⟨b, 0, none⟩), .int .i64 (((imgLoad l).1 : Nat) : Int)]) (fun b => (imgLoad l).2.elim R fun ds => RBayR b (imgBay ds) :: R) := by
  (refine Does.enter Tryz.func24 Tryz.ntmps24 rfl rfl ?_)
  have bad : imgForm l = false → imgLoad l = (210, none) := fun h => by unfold imgLoad; rw [if_pos h]
  (refine w ?_; repeat ((first | refine VO.step rfl rfl ?_ | refine VD.end rfl rfl rfl ?_ | refine VD.mid rfl rfl rfl ?_); refine OpV.box rfl rfl rfl ?_; intro _; refine w ?_))
  ((first | refine VO.split rfl rfl rfl ?_ ?_ | refine VD.split rfl rfl rfl ?_ ?_) <;> intro hb)
  · have h0 : imgForm l = false := by unfold imgForm; rw [decide_eq_false (by have := of_decide_eq_true hb; omega)]; rfl
    have hL := bad h0
    (refine w ?_; repeat ((first | refine VO.step rfl rfl ?_ | refine VD.end rfl rfl rfl ?_ | refine VD.mid rfl rfl rfl ?_); refine OpV.box rfl rfl rfl ?_; intro _; refine w ?_))
    refine VE.done 0 rfl trivial (by rw [hL]; rfl) (by rw [hL]; exact Ent.refl)
  have f1 : l.length ≤ 33554432 := by have := of_decide_eq_false hb; omega
  clear hb
  (refine w ?_; repeat ((first | refine VO.step rfl rfl ?_ | refine VD.end rfl rfl rfl ?_ | refine VD.mid rfl rfl rfl ?_); refine OpV.box rfl rfl rfl ?_; intro _; refine w ?_))
  ((first | refine VO.split rfl rfl rfl ?_ ?_ | refine VD.split rfl rfl rfl ?_ ?_) <;> intro hb)
  · have h0 : imgForm l = false := by unfold imgForm; rw [decide_eq_false (show ¬ 10 ≤ l.length by have := of_decide_eq_true hb; omega), Bool.and_false]; rfl
    have hL := bad h0
    (refine w ?_; repeat ((first | refine VO.step rfl rfl ?_ | refine VD.end rfl rfl rfl ?_ | refine VD.mid rfl rfl rfl ?_); refine OpV.box rfl rfl rfl ?_; intro _; refine w ?_))
    refine VE.done 0 rfl trivial (by rw [hL]; rfl) (by rw [hL]; exact Ent.refl)
  have f2 : 10 ≤ l.length := by have := of_decide_eq_false hb; omega
  clear hb
  obtain ⟨la, rfl⟩ : ∃ x, ao = some x := by cases ao with | none => have := (hr []).nil rfl; omega | some x => exact ⟨x, rfl⟩
  have hform : imgForm l = decide (l.take 5 = magicI) := by unfold imgForm; rw [decide_eq_true f1, decide_eq_true f2]; rfl
  (refine w ?_; repeat ((first | refine VO.step rfl rfl ?_ | refine VD.end rfl rfl rfl ?_ | refine VD.mid rfl rfl rfl ?_); refine OpV.box rfl rfl rfl ?_; intro _; refine w ?_))
  (first | refine VO.pure rfl rfl (PureAt.toStr (l := l.take 5) tab_ok rfl rfl rfl rfl (rds_head (hr _) 5 (by omega)) rfl) rfl ?_ | refine VD.take rfl rfl rfl (PureAt.toStr (l := l.take 5) tab_ok rfl rfl rfl rfl (rds_head (hr _) 5 (by omega)) rfl) rfl ?_ | refine VQ.pure rfl rfl (PureAt.toStr (l := l.take 5) tab_ok rfl rfl rfl rfl (rds_head (hr _) 5 (by omega)) rfl) rfl ?_ | refine VD.end rfl rfl rfl (OpV.pure (PureAt.toStr (l := l.take 5) tab_ok rfl rfl rfl rfl (rds_head (hr _) 5 (by omega)) rfl) rfl ?_))
  (refine w ?_; repeat ((first | refine VO.step rfl rfl ?_ | refine VD.end rfl rfl rfl ?_ | refine VD.mid rfl rfl rfl ?_); refine OpV.box rfl rfl rfl ?_; intro _; refine w ?_))
  (first | refine VO.pure rfl rfl (PureAt.strEq (a := l.take 5) (b := magicI) tab_ok rfl rfl rfl rfl) rfl ?_ | refine VD.take rfl rfl rfl (PureAt.strEq (a := l.take 5) (b := magicI) tab_ok rfl rfl rfl rfl) rfl ?_ | refine VQ.pure rfl rfl (PureAt.strEq (a := l.take 5) (b := magicI) tab_ok rfl rfl rfl rfl) rfl ?_ | refine VD.end rfl rfl rfl (OpV.pure (PureAt.strEq (a := l.take 5) (b := magicI) tab_ok rfl rfl rfl rfl) rfl ?_))
  (refine w ?_; repeat ((first | refine VO.step rfl rfl ?_ | refine VD.end rfl rfl rfl ?_ | refine VD.mid rfl rfl rfl ?_); refine OpV.box rfl rfl rfl ?_; intro _; refine w ?_))
  by_cases h5 : l.take 5 = magicI
  rotate_left
  · have hL := bad (by rw [hform, decide_eq_false h5])
    rw [decide_eq_false h5]
    (refine w ?_; repeat ((first | refine VO.step rfl rfl ?_ | refine VD.end rfl rfl rfl ?_ | refine VD.mid rfl rfl rfl ?_); refine OpV.box rfl rfl rfl ?_; intro _; refine w ?_))
    refine VE.done 0 rfl trivial (by rw [hL]; rfl) (by rw [hL]; exact Ent.refl)
  rw [decide_eq_true h5] at hform
  rw [decide_eq_true h5]
  (refine w ?_; repeat ((first | refine VO.step rfl rfl ?_ | refine VD.end rfl rfl rfl ?_ | refine VD.mid rfl rfl rfl ?_); refine OpV.box rfl rfl rfl ?_; intro _; refine w ?_))
  have hBl : (imgB l).length = l.length - 4 := by rw [List.length_take]; omega
  have hRb : ∀ H : List SProp, Rds W H 1 (some la) (imgB l).length (bytes (imgB l)) := fun H => by rw [hBl]; exact rds_head (hr H) (l.length - 4) (by omega)
  refine VO.re 29 (.int .i64 ((l.length - 4 : Nat) : Int)) rfl (by congr 1; omega) ?_
  (refine w ?_; repeat ((first | refine VO.step rfl rfl ?_ | refine VD.end rfl rfl rfl ?_ | refine VD.mid rfl rfl rfl ?_); refine OpV.box rfl rfl rfl ?_; intro _; refine w ?_))
  have hsum := rsum_ok (W := W) (R := R) (cap := cap) (l := imgB l) (hRb _) (by omega)
  rw [hBl] at hsum
  (((first | refine VO.step rfl rfl ?_ | refine VD.end rfl rfl rfl ?_ | refine VD.mid rfl rfl rfl ?_); refine OpV.call rfl rfl (fun _ _ => by simp) (hsum) Ent.re rfl ?_); intro _ _)
  obtain ⟨s, hs⟩ : ∃ s, (crcS (imgB l)).toNat = s := ⟨_, rfl⟩
  have hs32 : s < 4294967296 := by rw [← hs]; exact (crcS (imgB l)).isLt
  have hT : (l.drop (l.length - 4)).length = 4 := by rw [List.length_drop]; omega
  have hsm : imgSum l = decide (leVal (l.drop (l.length - 4)) = s) := by unfold imgSum; rw [hs]
  have hbad : ∀ (j : Nat) (h : j < 4), ((l.drop (l.length - 4))[j]'(by omega)).toNat ≠ s / 2 ^ (8 * j) % 256 → imgLoad l = (211, none) := fun j h h2 => by
    have : imgSum l = false := by rw [hsm]; exact decide_eq_false fun h3 => h2 ((le4_iff hT hs32).1 h3 j h)
    unfold imgLoad; rw [hform, if_neg (by decide), if_pos this]
  rw [hs]
  (refine w ?_; repeat ((first | refine VO.step rfl rfl ?_ | refine VD.end rfl rfl rfl ?_ | refine VD.mid rfl rfl rfl ?_); refine OpV.box rfl rfl rfl ?_; intro _; refine w ?_))
  refine VC.loop (α := Nat) (fun i => i ≤ 4 ∧ ∀ (j : Nat) (h : j < 4), j < i → ((l.drop (l.length - 4))[j]'(by omega)).toNat = s / 2 ^ (8 * j) % 256) (fun _ => R)
    (fun i => [(0, .slice (some la) l.length cap), (4, .int .i64 l.length), (5, .int .u32 s), (6, .int .i64 i)]) (fun i => 4 - i) rfl 0 ⟨Nat.zero_le _, fun j h h2 => absurd h2 (by omega)⟩ Ent.refl ⟨rfl, rfl, rfl, rfl, trivial⟩ ?_
  rintro i ⟨hi, hall⟩
  (refine w ?_; repeat ((first | refine VO.step rfl rfl ?_ | refine VD.end rfl rfl rfl ?_ | refine VD.mid rfl rfl rfl ?_); refine OpV.box rfl rfl rfl ?_; intro _; refine w ?_))
  (refine VC.cond rfl rfl ?_ ?_ <;> intro hc)
  · have hlt : i < 4 := by have := of_decide_eq_true hc; omega
    clear hc
    (refine w ?_; repeat ((first | refine VO.step rfl rfl ?_ | refine VD.end rfl rfl rfl ?_ | refine VD.mid rfl rfl rfl ?_); refine OpV.box rfl rfl rfl ?_; intro _; refine w ?_))
    ((refine VC.quiet rfl (by kernel_rfl) (by kernel_rfl) ?_); (refine w ?_; repeat ((first | refine VO.step rfl rfl ?_ | refine VD.end rfl rfl rfl ?_ | refine VD.mid rfl rfl rfl ?_); refine OpV.box rfl rfl rfl ?_; intro _; refine w ?_)))
    refine VQ.re 40 (.int .i64 ((l.length - 4 + i : Nat) : Int)) rfl (by congr 1; omega) ?_
    (refine w ?_; repeat ((first | refine VO.step rfl rfl ?_ | refine VD.end rfl rfl rfl ?_ | refine VD.mid rfl rfl rfl ?_); refine OpV.box rfl rfl rfl ?_; intro _; refine w ?_))
    (first | refine VO.pure rfl rfl (PureAt.ldR tab_ok rfl rfl (hr _) (bytes_get l (l.length - 4 + i) (by omega))) rfl ?_ | refine VD.take rfl rfl rfl (PureAt.ldR tab_ok rfl rfl (hr _) (bytes_get l (l.length - 4 + i) (by omega))) rfl ?_ | refine VQ.pure rfl rfl (PureAt.ldR tab_ok rfl rfl (hr _) (bytes_get l (l.length - 4 + i) (by omega))) rfl ?_ | refine VD.end rfl rfl rfl (OpV.pure (PureAt.ldR tab_ok rfl rfl (hr _) (bytes_get l (l.length - 4 + i) (by omega))) rfl ?_))
    (refine w ?_; repeat ((first | refine VO.step rfl rfl ?_ | refine VD.end rfl rfl rfl ?_ | refine VD.mid rfl rfl rfl ?_); refine OpV.box rfl rfl rfl ?_; intro _; refine w ?_))
    have hel : (l[l.length - 4 + i]'(by omega)).toNat = ((l.drop (l.length - 4))[i]'(by omega)).toNat := by rw [List.getElem_drop]
    have hsh : (8 * (i : Int)).toNat = 8 * i := by omega
    have hcmp : (((l[l.length - 4 + i]'(by omega)).toNat : Int) != IntKind.u8.wrap ((s / 2 ^ (8 * (i : Int)).toNat : Nat) : Int)) = !decide (((l.drop (l.length - 4))[i]'(by omega)).toNat = s / 2 ^ (8 * i) % 256) := by
      rw [hsh, IntKind.wrap_u8, hel, bne, Bool.eq_iff_iff]
      simp only [Bool.not_eq_true', beq_eq_false_iff_ne, decide_eq_false_iff_not, ne_eq]
      omega
    refine VC.re 48 (.bool (!decide (((l.drop (l.length - 4))[i]'(by omega)).toNat = s / 2 ^ (8 * i) % 256))) rfl (by rw [hcmp]) ?_
    (refine VC.cond rfl rfl ?_ ?_ <;> intro hc)
    · have hne : ¬ ((l.drop (l.length - 4))[i]'(by omega)).toNat = s / 2 ^ (8 * i) % 256 := by simpa using hc
      have hL := hbad i hlt hne
      (refine w ?_; repeat ((first | refine VO.step rfl rfl ?_ | refine VD.end rfl rfl rfl ?_ | refine VD.mid rfl rfl rfl ?_); refine OpV.box rfl rfl rfl ?_; intro _; refine w ?_))
      refine VE.done 0 rfl trivial (by rw [hL]; rfl) (by rw [hL]; exact Ent.refl)
    · have heq : ((l.drop (l.length - 4))[i]'(by omega)).toNat = s / 2 ^ (8 * i) % 256 := by simpa using hc
      (refine w ?_; repeat ((first | refine VO.step rfl rfl ?_ | refine VD.end rfl rfl rfl ?_ | refine VD.mid rfl rfl rfl ?_); refine OpV.box rfl rfl rfl ?_; intro _; refine w ?_))
      refine VE.round (i + 1) ⟨hlt, fun j h h2 => ?_⟩ (by omega) ⟨rfl, rfl, rfl, asV rfl (by congr 1), trivial⟩ Ent.refl
      by_cases hji : j < i
      · exact hall j h hji
      · have : j = i := by omega
        subst this
        exact heq
  have hge : i = 4 := by have := of_decide_eq_false hc; omega
  clear hc
  subst hge
  have hsT : imgSum l = true := by rw [hsm]; exact decide_eq_true ((le4_iff hT hs32).2 fun j h => hall j h h)
  (refine w ?_; repeat ((first | refine VO.step rfl rfl ?_ | refine VD.end rfl rfl rfl ?_ | refine VD.mid rfl rfl rfl ?_); refine OpV.box rfl rfl rfl ?_; intro _; refine w ?_))
  have h6 : 5 < l.length := by omega
  have hc5 : imgC l = (l[5]'h6).toNat := by
    have h5b : 5 < (imgB l).length := by rw [hBl]; omega
    unfold imgC
    simp only [List.getD, List.getElem?_eq_getElem h5b, Option.getD_some]
    rw [List.getElem_take]
  have hc255 : imgC l < 256 := UInt8.toNat_lt _
  (first | refine VO.pure rfl rfl (PureAt.ldR tab_ok rfl rfl (hr _) (bytes_get l 5 h6)) rfl ?_ | refine VD.take rfl rfl rfl (PureAt.ldR tab_ok rfl rfl (hr _) (bytes_get l 5 h6)) rfl ?_ | refine VQ.pure rfl rfl (PureAt.ldR tab_ok rfl rfl (hr _) (bytes_get l 5 h6)) rfl ?_ | refine VD.end rfl rfl rfl (OpV.pure (PureAt.ldR tab_ok rfl rfl (hr _) (bytes_get l 5 h6)) rfl ?_))
  rw [← hc5]
  generalize hcc : imgC l = c at *
  (first | refine VO.pure rfl rfl (PureAt.conv0 tab_ok rfl rfl rfl (IntWalk.i64_in _ ⟨by omega, by omega⟩)) rfl ?_ | refine VD.take rfl rfl rfl (PureAt.conv0 tab_ok rfl rfl rfl (IntWalk.i64_in _ ⟨by omega, by omega⟩)) rfl ?_ | refine VQ.pure rfl rfl (PureAt.conv0 tab_ok rfl rfl rfl (IntWalk.i64_in _ ⟨by omega, by omega⟩)) rfl ?_ | refine VD.end rfl rfl rfl (OpV.pure (PureAt.conv0 tab_ok rfl rfl rfl (IntWalk.i64_in _ ⟨by omega, by omega⟩)) rfl ?_))
  (refine w ?_; repeat ((first | refine VO.step rfl rfl ?_ | refine VD.end rfl rfl rfl ?_ | refine VD.mid rfl rfl rfl ?_); refine OpV.box rfl rfl rfl ?_; intro _; refine w ?_))
  have hLd : imgLoad l = if c < 1 ∨ 17 < c then (210, none) else imgOf (imgParse c ((imgB l).drop 6)) := by
    unfold imgLoad
    rw [hform, if_neg (by decide), hsT, if_neg (by decide), hcc]
  ((first | refine VO.split rfl rfl rfl ?_ ?_ | refine VD.split rfl rfl rfl ?_ ?_) <;> intro hb)
  · have hL : imgLoad l = (210, none) := by rw [hLd, if_pos (.inl (by have := of_decide_eq_true hb; omega))]
    (refine w ?_; repeat ((first | refine VO.step rfl rfl ?_ | refine VD.end rfl rfl rfl ?_ | refine VD.mid rfl rfl rfl ?_); refine OpV.box rfl rfl rfl ?_; intro _; refine w ?_))
    refine VE.done 0 rfl trivial (by rw [hL]; rfl) (by rw [hL]; exact Ent.refl)
  have c1 : 1 ≤ c := by have := of_decide_eq_false hb; omega
  clear hb
  (refine w ?_; repeat ((first | refine VO.step rfl rfl ?_ | refine VD.end rfl rfl rfl ?_ | refine VD.mid rfl rfl rfl ?_); refine OpV.box rfl rfl rfl ?_; intro _; refine w ?_))
  (refine VC.cond rfl rfl ?_ ?_ <;> intro hc)
  · have hL : imgLoad l = (210, none) := by rw [hLd, if_pos (.inr (by have := of_decide_eq_true hc; omega))]
    (refine w ?_; repeat ((first | refine VO.step rfl rfl ?_ | refine VD.end rfl rfl rfl ?_ | refine VD.mid rfl rfl rfl ?_); refine OpV.box rfl rfl rfl ?_; intro _; refine w ?_))
    refine VE.done 0 rfl trivial (by rw [hL]; rfl) (by rw [hL]; exact Ent.refl)
  have c17 : c ≤ 17 := by have := of_decide_eq_false hc; omega
  clear hc
  rw [if_neg (by omega)] at hLd
  (refine w ?_; repeat ((first | refine VO.step rfl rfl ?_ | refine VD.end rfl rfl rfl ?_ | refine VD.mid rfl rfl rfl ?_); refine OpV.box rfl rfl rfl ?_; intro _; refine w ?_))
  (first | refine VO.step rfl rfl ?_ | refine VD.end rfl rfl rfl ?_ | refine VD.mid rfl rfl rfl ?_)
  refine OpV.makeSlice1 (m := c) st_24 rfl rfl rfl (by omega) (by simp only [maxLen]; omega) rfl ?_
  intro zb
  have hz : Rds W (Sl.Own 3 1 (.slice (some ⟨zb, 0, none⟩) c c) c (List.replicate c (.int .i64 0)) :: R) 1 (some ⟨zb, 0, none⟩) (List.replicate c (0 : Int)).length (intsI (List.replicate c 0)) := by
    rw [List.length_replicate, show intsI (List.replicate c 0) = List.replicate c (.int .i64 0) by unfold intsI; rw [List.map_replicate]]
    exact Rds.own (fun u hu => by rw [List.mem_replicate] at hu; rw [hu.2]; rfl) (.head _) (by rw [List.length_replicate, Nat.mul_one]) (fun h => by cases h)
  have hnew := rbaynew_ok (cap := c) hz (by rw [List.length_replicate]; omega)
  have hE0 : bayE (List.replicate c (0 : Int)) = 0 := by
    unfold bayE
    rw [List.length_replicate, if_neg (by omega), if_pos]
    rw [List.all_eq_true]
    intro u hu
    rw [List.mem_replicate] at hu
    rw [hu.2]; decide
  rw [List.length_replicate, hE0] at hnew
  (refine w ?_; repeat ((first | refine VO.step rfl rfl ?_ | refine VD.end rfl rfl rfl ?_ | refine VD.mid rfl rfl rfl ?_); refine OpV.box rfl rfl rfl ?_; intro _; refine w ?_))
  ((first | refine VO.step rfl rfl ?_ | refine VD.end rfl rfl rfl ?_ | refine VD.mid rfl rfl rfl ?_); refine OpV.call rfl rfl (fun _ _ => by simp) (hnew) Ent.refl rfl ?_)
  intro xb hxb
  obtain ⟨b, rfl⟩ : ∃ b, xb = some b := by cases xb with | none => simp at hxb | some b => exact ⟨b, rfl⟩
  rw [Option.elim_some, bayI_zero [] c]
  (refine w ?_; repeat ((first | refine VO.step rfl rfl ?_ | refine VD.end rfl rfl rfl ?_ | refine VD.mid rfl rfl rfl ?_); refine OpV.box rfl rfl rfl ?_; intro _; refine w ?_))
  refine VC.loop (α := Nat × Nat × List (List UInt8)) (fun y => y.1 ≤ c ∧ y.2.2.length = y.1 ∧ y.2.1 ≤ l.length - 4 ∧ imgParse c ((imgB l).drop 6) = (imgParse (c - y.1) ((imgB l).drop y.2.1)).map (y.2.2 ++ ·)) (fun y => RBayR b (bayI y.2.2 c y.1) :: R)
    (fun y => [(0, .slice (some la) l.length cap), (4, .int .i64 l.length), (7, .int .i64 c), (8, .int .i64 y.2.1), (9, .pointer (some ⟨b, 0, none⟩)), (11, .int .i64 y.1)]) (fun y => c - y.1) rfl (0, 6, []) ⟨Nat.zero_le _, rfl, by dsimp only; omega, by simp⟩ Ent.re ⟨rfl, rfl, rfl, rfl, rfl, rfl, trivial⟩ ?_
  rintro ⟨i, q, Ds⟩ ⟨hi, hDl, hq, hp⟩
  dsimp only at hi hDl hq hp ⊢
  (refine w ?_; repeat ((first | refine VO.step rfl rfl ?_ | refine VD.end rfl rfl rfl ?_ | refine VD.mid rfl rfl rfl ?_); refine OpV.box rfl rfl rfl ?_; intro _; refine w ?_))
  (refine VC.cond rfl rfl ?_ ?_ <;> intro hc)
  · have hlt : i < c := by have := of_decide_eq_true hc; omega
    clear hc
    have hcm : c - i = (c - (i + 1)) + 1 := by omega
    rw [hcm, imgParse] at hp
    have hdl : ((imgB l).drop q).length = l.length - 4 - q := by rw [List.length_drop, hBl]
    rw [hdl] at hp
    have hnone : imgParse c ((imgB l).drop 6) = none → imgLoad l = (210, none) := fun h => by rw [hLd, h]; rfl
    (refine w ?_; repeat ((first | refine VO.step rfl rfl ?_ | refine VD.end rfl rfl rfl ?_ | refine VD.mid rfl rfl rfl ?_); refine OpV.box rfl rfl rfl ?_; intro _; refine w ?_))
    (refine VC.cond rfl rfl ?_ ?_ <;> intro hc)
    · have h2 : l.length - 4 - q < 2 := by have := of_decide_eq_true hc; omega
      have hL := hnone (by rw [hp, if_pos (.inl h2)]; rfl)
      (refine w ?_; repeat ((first | refine VO.step rfl rfl ?_ | refine VD.end rfl rfl rfl ?_ | refine VD.mid rfl rfl rfl ?_); refine OpV.box rfl rfl rfl ?_; intro _; refine w ?_))
      refine VE.done 0 rfl trivial (by rw [hL]; rfl) (by rw [hL]; exact Ent.drop Ent.refl)
    have h2 : ¬ l.length - 4 - q < 2 := by have := of_decide_eq_false hc; omega
    clear hc
    obtain ⟨v, hv⟩ : ∃ v, leVal (((imgB l).drop q).take 2) = v := ⟨_, rfl⟩
    rw [hv] at hp
    have q1 : q < l.length := by omega
    have q2 : q + 1 < l.length := by omega
    have hv2 : (l[q]'q1).toNat + 256 * (l[q + 1]'q2).toNat = v := by
      rw [← hv]
      have b1 : q < (imgB l).length := by omega
      have b2 : q + 1 < (imgB l).length := by omega
      rw [List.drop_eq_getElem_cons b1, List.drop_eq_getElem_cons b2]
      simp only [List.take_succ_cons, List.take_zero, leVal, List.getElem_take]
      omega
    obtain ⟨va, hva⟩ : ∃ va, (l[q]'q1).toNat = va := ⟨_, rfl⟩
    obtain ⟨vb, hvb⟩ : ∃ vb, (l[q + 1]'q2).toNat = vb := ⟨_, rfl⟩
    have hq8 : va < 256 := by rw [← hva]; exact UInt8.toNat_lt _
    have hq9 : vb < 256 := by rw [← hvb]; exact UInt8.toNat_lt _
    have g1 : (bytes l)[q]? = some (.int .u8 (va : Int)) := by rw [bytes_get l q q1, hva]
    have g2 : (bytes l)[q + 1]? = some (.int .u8 (vb : Int)) := by rw [bytes_get l (q + 1) q2, hvb]
    rw [hva, hvb] at hv2
    have hv65 : v < 65536 := by omega
    (refine w ?_; repeat ((first | refine VO.step rfl rfl ?_ | refine VD.end rfl rfl rfl ?_ | refine VD.mid rfl rfl rfl ?_); refine OpV.box rfl rfl rfl ?_; intro _; refine w ?_))
    ((refine VC.quiet rfl (by kernel_rfl) (by kernel_rfl) ?_); (refine w ?_; repeat ((first | refine VO.step rfl rfl ?_ | refine VD.end rfl rfl rfl ?_ | refine VD.mid rfl rfl rfl ?_); refine OpV.box rfl rfl rfl ?_; intro _; refine w ?_)))
    (first | refine VO.pure rfl rfl (PureAt.ldR tab_ok rfl rfl (hr _) g1) rfl ?_ | refine VD.take rfl rfl rfl (PureAt.ldR tab_ok rfl rfl (hr _) g1) rfl ?_ | refine VQ.pure rfl rfl (PureAt.ldR tab_ok rfl rfl (hr _) g1) rfl ?_ | refine VD.end rfl rfl rfl (OpV.pure (PureAt.ldR tab_ok rfl rfl (hr _) g1) rfl ?_))
    (first | refine VO.pure rfl rfl (PureAt.conv0 tab_ok rfl rfl rfl (IntWalk.i64_in _ ⟨by omega, by omega⟩)) rfl ?_ | refine VD.take rfl rfl rfl (PureAt.conv0 tab_ok rfl rfl rfl (IntWalk.i64_in _ ⟨by omega, by omega⟩)) rfl ?_ | refine VQ.pure rfl rfl (PureAt.conv0 tab_ok rfl rfl rfl (IntWalk.i64_in _ ⟨by omega, by omega⟩)) rfl ?_ | refine VD.end rfl rfl rfl (OpV.pure (PureAt.conv0 tab_ok rfl rfl rfl (IntWalk.i64_in _ ⟨by omega, by omega⟩)) rfl ?_))
    (refine w ?_; repeat ((first | refine VO.step rfl rfl ?_ | refine VD.end rfl rfl rfl ?_ | refine VD.mid rfl rfl rfl ?_); refine OpV.box rfl rfl rfl ?_; intro _; refine w ?_))
    refine VQ.re 82 (.int .i64 ((q + 1 : Nat) : Int)) rfl (by congr 1) ?_
    (refine w ?_; repeat ((first | refine VO.step rfl rfl ?_ | refine VD.end rfl rfl rfl ?_ | refine VD.mid rfl rfl rfl ?_); refine OpV.box rfl rfl rfl ?_; intro _; refine w ?_))
    (first | refine VO.pure rfl rfl (PureAt.ldR tab_ok rfl rfl (hr _) g2) rfl ?_ | refine VD.take rfl rfl rfl (PureAt.ldR tab_ok rfl rfl (hr _) g2) rfl ?_ | refine VQ.pure rfl rfl (PureAt.ldR tab_ok rfl rfl (hr _) g2) rfl ?_ | refine VD.end rfl rfl rfl (OpV.pure (PureAt.ldR tab_ok rfl rfl (hr _) g2) rfl ?_))
    (first | refine VO.pure rfl rfl (PureAt.conv0 tab_ok rfl rfl rfl (IntWalk.i64_in _ ⟨by omega, by omega⟩)) rfl ?_ | refine VD.take rfl rfl rfl (PureAt.conv0 tab_ok rfl rfl rfl (IntWalk.i64_in _ ⟨by omega, by omega⟩)) rfl ?_ | refine VQ.pure rfl rfl (PureAt.conv0 tab_ok rfl rfl rfl (IntWalk.i64_in _ ⟨by omega, by omega⟩)) rfl ?_ | refine VD.end rfl rfl rfl (OpV.pure (PureAt.conv0 tab_ok rfl rfl rfl (IntWalk.i64_in _ ⟨by omega, by omega⟩)) rfl ?_))
    (refine w ?_; repeat ((first | refine VO.step rfl rfl ?_ | refine VD.end rfl rfl rfl ?_ | refine VD.mid rfl rfl rfl ?_); refine OpV.box rfl rfl rfl ?_; intro _; refine w ?_))
    refine VO.re 12 (.int .i64 (v : Int)) rfl (by rw [← hv2]; congr 1) ?_
    refine VO.re 8 (.int .i64 ((q + 2 : Nat) : Int)) rfl (by congr 1) ?_
    refine VO.re 92 (.bool (decide (8192 < v))) rfl (by rw [← hv2]; congr 1; exact decide_eq_decide.2 (by omega)) ?_
    ((first | refine VO.split rfl rfl rfl ?_ ?_ | refine VD.split rfl rfl rfl ?_ ?_) <;> intro hb)
    · have h8 : 8192 < v := of_decide_eq_true hb
      have hL := hnone (by rw [hp, if_pos (.inr (.inl h8))]; rfl)
      (refine w ?_; repeat ((first | refine VO.step rfl rfl ?_ | refine VD.end rfl rfl rfl ?_ | refine VD.mid rfl rfl rfl ?_); refine OpV.box rfl rfl rfl ?_; intro _; refine w ?_))
      refine VE.done 0 rfl trivial (by rw [hL]; rfl) (by rw [hL]; exact Ent.drop Ent.refl)
    have h8 : ¬ 8192 < v := of_decide_eq_false hb
    clear hb
    (refine w ?_; repeat ((first | refine VO.step rfl rfl ?_ | refine VD.end rfl rfl rfl ?_ | refine VD.mid rfl rfl rfl ?_); refine OpV.box rfl rfl rfl ?_; intro _; refine w ?_))
    (refine VC.cond rfl rfl ?_ ?_ <;> intro hc)
    · have h9 : l.length - 4 - q - 2 < v * 128 := by have := of_decide_eq_true hc; omega
      have hL := hnone (by rw [hp, if_pos (.inr (.inr h9))]; rfl)
      (refine w ?_; repeat ((first | refine VO.step rfl rfl ?_ | refine VD.end rfl rfl rfl ?_ | refine VD.mid rfl rfl rfl ?_); refine OpV.box rfl rfl rfl ?_; intro _; refine w ?_))
      refine VE.done 0 rfl trivial (by rw [hL]; rfl) (by rw [hL]; exact Ent.drop Ent.refl)
    have h9 : ¬ l.length - 4 - q - 2 < v * 128 := by have := of_decide_eq_false hc; omega
    clear hc
    rw [if_neg (by omega)] at hp
    obtain ⟨d, hd⟩ : ∃ d, (((imgB l).drop q).drop 2).take (v * 128) = d := ⟨_, rfl⟩
    rw [hd] at hp
    have hd1 : d = (l.drop (q + 2)).take (v * 128) := by
      rw [← hd, List.drop_drop]
      unfold imgB
      rw [List.drop_take, List.take_take, Nat.min_eq_left (by omega)]
    have hd2 : d.length = v * 128 := by rw [hd1, List.length_take, List.length_drop]; omega
    have hp2 : imgParse c ((imgB l).drop 6) = (imgParse (c - (i + 1)) ((imgB l).drop (q + 2 + v * 128))).map ((Ds ++ [d]) ++ ·) := by
      rw [hp, List.drop_drop, Option.map_map, show q + (2 + v * 128) = q + 2 + v * 128 by omega]
      congr 1
      funext t
      simp [Function.comp]
    (refine w ?_; repeat ((first | refine VO.step rfl rfl ?_ | refine VD.end rfl rfl rfl ?_ | refine VD.mid rfl rfl rfl ?_); refine OpV.box rfl rfl rfl ?_; intro _; refine w ?_))
    (refine VC.join (α := Unit) (fun _ => True) (fun _ => RBayR b (bayI (Ds ++ [d]) c (i + 1)) :: R) (fun _ => [(0, .slice (some la) l.length cap), (4, .int .i64 l.length), (7, .int .i64 c), (8, .int .i64 ((q + 2 : Nat) : Int)), (9, .pointer (some ⟨b, 0, none⟩)), (11, .int .i64 i), (12, .int .i64 (v : Int))]) ?_ ?_)
    · intro Q2 jn
      (refine VC.cond rfl rfl ?_ ?_ <;> intro hc)
      · have hpos : 0 < v := by have := of_decide_eq_true hc; omega
        clear hc
        (refine w ?_; repeat ((first | refine VO.step rfl rfl ?_ | refine VD.end rfl rfl rfl ?_ | refine VD.mid rfl rfl rfl ?_); refine OpV.box rfl rfl rfl ?_; intro _; refine w ?_))
        refine VO.re 110 (.int .i64 ((q + 2 + v * 128 : Nat) : Int)) rfl (by congr 1; omega) ?_
        (refine w ?_; repeat ((first | refine VO.step rfl rfl ?_ | refine VD.end rfl rfl rfl ?_ | refine VD.mid rfl rfl rfl ?_); refine OpV.box rfl rfl rfl ?_; intro _; refine w ?_))
        refine VO.re 111 (.slice (subA (some la) cap (q + 2) 1) d.length (cap - (q + 2))) rfl (by rw [hd2]; congr 1; omega) ?_
        have hdR : RdsA W 1 (subA (some la) cap (q + 2) 1) d.length (bytes d) := by
          have h1 := hr.sub (l := q + 2) (h := q + 2 + v * 128) (by omega) (by omega) hcap
          rw [bytes_drop, bytes_take, show q + 2 + v * 128 - (q + 2) = v * 128 by omega, ← hd1] at h1
          rw [hd2]; exact h1
        (((first | refine VO.step rfl rfl ?_ | refine VD.end rfl rfl rfl ?_ | refine VD.mid rfl rfl rfl ?_); refine OpV.call rfl rfl (fun _ _ => by simp) (rbayload_ok (cap := cap - (q + 2)) b (bayI Ds c i) (i : Int) hdR (by omega)) Ent.re rfl ?_); intro _ _)
        have hld : (bayI Ds c i).load (i : Int) d = (0, bayI (Ds ++ [d]) c (i + 1)) := bayI_load2 hlt hDl hd2 hpos (by omega)
        rw [hld]
        (refine w ?_; repeat ((first | refine VO.step rfl rfl ?_ | refine VD.end rfl rfl rfl ?_ | refine VD.mid rfl rfl rfl ?_); refine OpV.box rfl rfl rfl ?_; intro _; refine w ?_))
        refine jn.to () trivial ⟨rfl, rfl, rfl, rfl, rfl, rfl, rfl, trivial⟩ Ent.refl
      · have hv0 : v = 0 := by have := of_decide_eq_false hc; omega
        clear hc
        (refine w ?_; repeat ((first | refine VO.step rfl rfl ?_ | refine VD.end rfl rfl rfl ?_ | refine VD.mid rfl rfl rfl ?_); refine OpV.box rfl rfl rfl ?_; intro _; refine w ?_))
        refine jn.to () trivial ⟨rfl, rfl, rfl, rfl, rfl, rfl, rfl, trivial⟩ ?_
        rw [bayI_skip2 hlt hDl (List.length_eq_zero_iff.1 (by rw [hd2, hv0]))]
        exact Ent.refl
    intro _ _
    (refine w ?_; repeat ((first | refine VO.step rfl rfl ?_ | refine VD.end rfl rfl rfl ?_ | refine VD.mid rfl rfl rfl ?_); refine OpV.box rfl rfl rfl ?_; intro _; refine w ?_))
    refine VE.round (i + 1, q + 2 + v * 128, Ds ++ [d]) ⟨hlt, by dsimp only; rw [List.length_append, hDl]; rfl, by dsimp only; omega, hp2⟩ (by dsimp only; omega) ⟨rfl, rfl, rfl, asV rfl (by congr 1; dsimp only; omega), rfl, asV rfl (by congr 1), trivial⟩ Ent.refl
  have hge : i = c := by have := of_decide_eq_false hc; omega
  clear hc
  subst hge
  rw [Nat.sub_self, imgParse] at hp
  (refine w ?_; repeat ((first | refine VO.step rfl rfl ?_ | refine VD.end rfl rfl rfl ?_ | refine VD.mid rfl rfl rfl ?_); refine OpV.box rfl rfl rfl ?_; intro _; refine w ?_))
  (refine VC.cond rfl rfl ?_ ?_ <;> intro hc)
  · have hne : ¬ (imgB l).drop q = [] := fun h => by
      have h2 := congrArg List.length h
      rw [List.length_drop, hBl, List.length_nil] at h2
      have h3 : ¬ ((q : Int) = (l.length : Int) - 4) := by simpa using hc
      omega
    have hL : imgLoad l = (210, none) := by rw [hLd, hp, if_neg hne]; rfl
    (refine w ?_; repeat ((first | refine VO.step rfl rfl ?_ | refine VD.end rfl rfl rfl ?_ | refine VD.mid rfl rfl rfl ?_); refine OpV.box rfl rfl rfl ?_; intro _; refine w ?_))
    refine VE.done 0 rfl trivial (by rw [hL]; rfl) (by rw [hL]; exact Ent.drop Ent.refl)
  · have hem : (imgB l).drop q = [] := by
      have h3 : (q : Int) = (l.length : Int) - 4 := by simpa using hc
      exact List.drop_eq_nil_of_le (by omega)
    have hL : imgLoad l = (0, some Ds) := by rw [hLd, hp, if_pos hem]; simp [imgOf]
    (refine w ?_; repeat ((first | refine VO.step rfl rfl ?_ | refine VD.end rfl rfl rfl ?_ | refine VD.mid rfl rfl rfl ?_); refine OpV.box rfl rfl rfl ?_; intro _; refine w ?_))
    refine VE.done b rfl trivial (by rw [hL]; rfl) ?_
    rw [hL, bayI_all hDl]
    exact Ent.refl
end Go.Proofs.YtpmmkmcbimnigaaGreat

/-! Text If. -/
/- Package image: what Save gives is loaded; the laws' known. -/
set_option maxRecDepth 8000
set_option linter.unusedVariables false
set_option linter.unusedSimpArgs false
set_option linter.unusedSectionVars false
namespace Go.Proofs.YtpmmkmcbimnigaaGreat
open Go.RowKit Go.Sl
attribute [local irreducible] Sl.Own

def encD (d : List UInt8) : List UInt8 := lowBytes (d.length / 128) 2 ++ d
def goodD (d : List UInt8) : Prop := d.length % 128 = 0 ∧ d.length / 128 ≤ 8192
theorem imgParse_enc : ∀ (ds : List (List UInt8)), (∀ d ∈ ds, goodD d) → imgParse ds.length (ds.flatMap encD) = some ds
  | [], _ => rfl
  | d :: t, h => by
    have hd := h d (.head _)
    have ih := imgParse_enc t fun x hx => h x (.tail _ hx)
    have e : (d :: t).flatMap encD = lowBytes (d.length / 128) 2 ++ (d ++ t.flatMap encD) := by rw [List.flatMap_cons, encD, List.append_assoc]
    have h2 : (lowBytes (d.length / 128) 2).length = 2 := lowBytes_length _ _
    have ht : ((d :: t).flatMap encD).take 2 = lowBytes (d.length / 128) 2 := by rw [e, List.take_left' h2]
    have hv : leVal (((d :: t).flatMap encD).take 2) = d.length / 128 := by rw [ht]; exact leVal_low 2 _ (by have := hd.2; omega)
    have hm : d.length / 128 * 128 = d.length := by have := hd.1; omega
    rw [List.length_cons, imgParse, hv, hm]
    rw [if_neg]
    · have e1 : ((d :: t).flatMap encD).drop (2 + d.length) = t.flatMap encD := by
        rw [e, ← List.append_assoc]
        exact List.drop_left' (by rw [List.length_append, h2])
      have e2 : (((d :: t).flatMap encD).drop 2).take d.length = d := by
        rw [e, List.drop_left' h2]
        exact List.take_left' rfl
      rw [e1, e2, ih]; rfl
    · rw [e]
      simp only [List.length_append, h2]
      have := hd.2
      omega
def bodyOfD (ds : List (List UInt8)) : List UInt8 := magicI ++ [UInt8.ofNat ds.length] ++ ds.flatMap encD
theorem bodyOfD_len : ∀ (ds : List (List UInt8)), (∀ d ∈ ds, goodD d) → (ds.flatMap encD).length ≤ ds.length * 1048578
  | [], _ => by simp
  | d :: t, h => by
    have ih := bodyOfD_len t fun x hx => h x (.tail _ hx)
    have hd := h d (.head _)
    rw [List.flatMap_cons, List.length_append, encD, List.length_append, lowBytes_length, List.length_cons]
    have := hd.1; have := hd.2
    omega
theorem imgLoad_seal (ds : List (List UInt8)) (h1 : 1 ≤ ds.length) (h17 : ds.length ≤ 17) (hg : ∀ d ∈ ds, goodD d) : imgLoad (sealI (bodyOfD ds)) = (0, some ds) := by
  have hbl : (bodyOfD ds).length = 6 + (ds.flatMap encD).length := by unfold bodyOfD; rw [List.length_append]; rfl
  have hmx := bodyOfD_len ds hg
  have h3 : ds.length * 1048578 ≤ 17 * 1048578 := Nat.mul_le_mul_right _ h17
  have hlow : (lowBytes (crcS (bodyOfD ds)).toNat 4).length = 4 := lowBytes_length _ _
  have hsl : (sealI (bodyOfD ds)).length = (bodyOfD ds).length + 4 := by unfold sealI; rw [List.length_append, hlow]
  have hB : imgB (sealI (bodyOfD ds)) = bodyOfD ds := by
    unfold imgB
    rw [hsl, Nat.add_sub_cancel]
    unfold sealI
    exact List.take_left' rfl
  have hT : (sealI (bodyOfD ds)).drop ((sealI (bodyOfD ds)).length - 4) = lowBytes (crcS (bodyOfD ds)).toNat 4 := by
    rw [hsl, Nat.add_sub_cancel]
    unfold sealI
    exact List.drop_left' rfl
  have hform : imgForm (sealI (bodyOfD ds)) = true := by
    have ht : (sealI (bodyOfD ds)).take 5 = magicI := by
      unfold sealI bodyOfD
      rw [List.append_assoc, List.append_assoc]
      exact List.take_left' rfl
    have hpos : 1 ≤ (ds.flatMap encD).length := by
      cases ds with
      | nil => simp at h1
      | cons d t => rw [List.flatMap_cons, List.length_append, encD, List.length_append, lowBytes_length]; omega
    unfold imgForm
    rw [ht, decide_eq_true (show (sealI (bodyOfD ds)).length ≤ 33554432 by omega), decide_eq_true (show 10 ≤ (sealI (bodyOfD ds)).length by omega)]
    rfl
  have hsum : imgSum (sealI (bodyOfD ds)) = true := by
    unfold imgSum
    rw [hB, hT]
    exact decide_eq_true (leVal_low 4 _ (crcS_lt _))
  have hc : imgC (sealI (bodyOfD ds)) = ds.length := by
    unfold imgC
    rw [hB]
    have : (bodyOfD ds).getD 5 0 = UInt8.ofNat ds.length := by
      unfold bodyOfD
      rw [List.append_assoc]
      simp [magicI, List.getD]
    rw [this]
    simp
    omega
  have hd6 : (bodyOfD ds).drop 6 = ds.flatMap encD := by
    unfold bodyOfD
    exact List.drop_left' rfl
  unfold imgLoad
  rw [hform, if_neg (by decide), hsum, if_neg (by decide), hc, if_neg (by omega), hB, hd6, imgParse_enc ds hg]
  rfl
def disksOf (D : BayD) : List (List UInt8) := (List.range D.slots.length).map (diskB D)
theorem imgBody_disks (D : BayD) : imgBody D = bodyOfD (disksOf D) := by
  unfold imgBody bodyOfD disksOf
  rw [List.length_map, List.length_range, List.flatMap_map]
  rfl
theorem load_save (D : BayD) (h1 : 1 ≤ D.slots.length) (h17 : D.slots.length ≤ 17) (hg : ∀ k, goodD (diskB D k)) : imgLoad (imgS D) = (0, some (disksOf D)) := by
  unfold imgS
  rw [imgBody_disks]
  refine imgLoad_seal _ ?_ ?_ ?_
  · unfold disksOf; rw [List.length_map, List.length_range]; exact h1
  · unfold disksOf; rw [List.length_map, List.length_range]; exact h17
  · intro d hd
    obtain ⟨k, _, rfl⟩ := List.mem_map.1 hd
    exact hg k
theorem goodD_nil : goodD [] := by constructor <;> decide
theorem diskB_good {W w : World} {R : List SProp} {b : Nat} {D : BayD} (h : Holds W (BayR b D :: R) w) (k : Nat) : goodD (diskB D k) := by
  unfold diskB
  split
  · unfold BayD.image
    cases hd : D.dev (k : Int) with
    | none => exact goodD_nil
    | some v =>
      have hk := bayOkI h k v hd
      show goodD v.k.img
      unfold DiskD.img
      split
      · exact goodD_nil
      · have := img_len hk
        have := hk.size
        unfold goodD
        omega
  · exact goodD_nil
/-! ### known -/
def knD : BayD := BayD.new [0, 1]
theorem knD_disks : disksOf knD = [[], List.replicate 128 0] := by kernel_rfl
theorem knD_len : (imgS knD).length = 142 ∧ (imgS knD).take 10 = [83, 80, 73, 77, 1, 2, 0, 0, 1, 0] := by
  have h : imgBody knD = bodyOfD (disksOf knD) := imgBody_disks knD
  rw [knD_disks] at h
  unfold imgS sealI
  rw [h]
  constructor
  · rw [List.length_append, lowBytes_length]; rfl
  · rw [List.take_append_of_le_length (by decide)]; rfl
theorem knD_load : imgLoad (imgS knD) = (0, some [[], List.replicate 128 0]) := by
  have h1 : bodyOfD (disksOf knD) = bodyOfD [[], List.replicate 128 0] := by rw [knD_disks]
  unfold imgS
  rw [imgBody_disks, h1]
  refine imgLoad_seal _ (by decide) (by decide) ?_
  intro d hd
  rcases List.mem_cons.1 hd with rfl | hd
  · exact goodD_nil
  · rw [List.mem_singleton] at hd; subst hd; constructor <;> decide
set_option maxHeartbeats 2000000 in
theorem imgknown_ok {W : World} {R : List SProp} : Does1 W Tryz.prog 6 [] R (.bool true) R := by
  (refine Does.enter Tryz.func6 Tryz.ntmps6 rfl rfl ?_)
  (refine w ?_; repeat ((first | refine VO.step rfl rfl ?_ | refine VD.end rfl rfl rfl ?_ | refine VD.mid rfl rfl rfl ?_); refine OpV.box rfl rfl rfl ?_; intro _; refine w ?_))
  ((first | refine VO.step rfl rfl ?_ | refine VD.end rfl rfl rfl ?_ | refine VD.mid rfl rfl rfl ?_); refine OpV.buildSlice1 st_24 rfl rfl (by first | (simp; done) | simp [Value.oneCell']) (by decide) rfl ?_; intro nb)
  (refine w ?_; repeat ((first | refine VO.step rfl rfl ?_ | refine VD.end rfl rfl rfl ?_ | refine VD.mid rfl rfl rfl ?_); refine OpV.box rfl rfl rfl ?_; intro _; refine w ?_))
  have hz : Rds W (Row nb 3 [.int .i64 0, .int .i64 1] :: R) 1 (some ⟨nb, 0, none⟩) ([0, 1] : List Int).length (intsI [0, 1]) := Rds.row (intsI_one _) (.head _) rfl
  have hnew := baynew_ok (cap := 2) hz (by decide)
  rw [show bayE [0, 1] = 0 by kernel_rfl] at hnew
  ((first | refine VO.step rfl rfl ?_ | refine VD.end rfl rfl rfl ?_ | refine VD.mid rfl rfl rfl ?_); refine OpV.call rfl rfl (fun _ _ => by simp) (hnew) Ent.refl rfl ?_)
  intro xb hxb
  obtain ⟨b, rfl⟩ : ∃ b, xb = some b := by cases xb with | none => simp at hxb | some b => exact ⟨b, rfl⟩
  rw [Option.elim_some, show BayD.new [0, 1] = knD from rfl]
  (refine w ?_; repeat ((first | refine VO.step rfl rfl ?_ | refine VD.end rfl rfl rfl ?_ | refine VD.mid rfl rfl rfl ?_); refine OpV.box rfl rfl rfl ?_; intro _; refine w ?_))
  ((first | refine VO.step rfl rfl ?_ | refine VD.end rfl rfl rfl ?_ | refine VD.mid rfl rfl rfl ?_); refine OpV.call rfl rfl (fun _ _ => by simp) (save_ok b knD) Ent.refl rfl ?_)
  rintro ⟨lo, lc⟩ _
  obtain ⟨k1, k2⟩ := knD_len
  have k3 := knD_load
  generalize imgS knD = L at k1 k2 k3 ⊢
  refine VO.know (p := lo = none → L.length = 0) (fun w hw => Holds.ownNone hw (.head _)) ?_
  intro hlo
  refine VO.know (p := L.length ≤ lc) (fun w hw => Holds.ownCap hw (.head _)) ?_
  intro hlc
  obtain ⟨la, rfl⟩ : ∃ x, lo = some x := by cases lo with | none => have := hlo rfl; omega | some x => exact ⟨x, rfl⟩
  have hRL : ∀ H : List SProp, OwnB (some la, lc) L ∈ H → Rds W H 1 (some la) L.length (bytes L) := fun H m => Rds.own (bytes_one _) m (by simp) hlo
  (refine w ?_; repeat ((first | refine VO.step rfl rfl ?_ | refine VD.end rfl rfl rfl ?_ | refine VD.mid rfl rfl rfl ?_); refine OpV.box rfl rfl rfl ?_; intro _; refine w ?_))
  (first | refine VO.gF rfl rfl rfl (by rw [k1]; rfl) ?_ | refine VD.gF rfl rfl rfl (by rw [k1]; rfl) ?_)
  (refine w ?_; repeat ((first | refine VO.step rfl rfl ?_ | refine VD.end rfl rfl rfl ?_ | refine VD.mid rfl rfl rfl ?_); refine OpV.box rfl rfl rfl ?_; intro _; refine w ?_))
  (first | refine VO.pure rfl rfl (PureAt.toStr (l := L.take 10) tab_ok rfl rfl rfl rfl (rds_head (hRL _ (.head _)) 10 (by omega)) rfl) rfl ?_ | refine VD.take rfl rfl rfl (PureAt.toStr (l := L.take 10) tab_ok rfl rfl rfl rfl (rds_head (hRL _ (.head _)) 10 (by omega)) rfl) rfl ?_ | refine VQ.pure rfl rfl (PureAt.toStr (l := L.take 10) tab_ok rfl rfl rfl rfl (rds_head (hRL _ (.head _)) 10 (by omega)) rfl) rfl ?_ | refine VD.end rfl rfl rfl (OpV.pure (PureAt.toStr (l := L.take 10) tab_ok rfl rfl rfl rfl (rds_head (hRL _ (.head _)) 10 (by omega)) rfl) rfl ?_))
  (refine w ?_; repeat ((first | refine VO.step rfl rfl ?_ | refine VD.end rfl rfl rfl ?_ | refine VD.mid rfl rfl rfl ?_); refine OpV.box rfl rfl rfl ?_; intro _; refine w ?_))
  (first | refine VO.pure rfl rfl (PureAt.strEq (a := L.take 10) (b := [83, 80, 73, 77, 1, 2, 0, 0, 1, 0]) tab_ok rfl rfl rfl rfl) rfl ?_ | refine VD.take rfl rfl rfl (PureAt.strEq (a := L.take 10) (b := [83, 80, 73, 77, 1, 2, 0, 0, 1, 0]) tab_ok rfl rfl rfl rfl) rfl ?_ | refine VQ.pure rfl rfl (PureAt.strEq (a := L.take 10) (b := [83, 80, 73, 77, 1, 2, 0, 0, 1, 0]) tab_ok rfl rfl rfl rfl) rfl ?_ | refine VD.end rfl rfl rfl (OpV.pure (PureAt.strEq (a := L.take 10) (b := [83, 80, 73, 77, 1, 2, 0, 0, 1, 0]) tab_ok rfl rfl rfl rfl) rfl ?_))
  (refine w ?_; repeat ((first | refine VO.step rfl rfl ?_ | refine VD.end rfl rfl rfl ?_ | refine VD.mid rfl rfl rfl ?_); refine OpV.box rfl rfl rfl ?_; intro _; refine w ?_))
  (refine VC.condFe rfl rfl (by rw [decide_eq_true k2]; rfl) ?_)
  (refine w ?_; repeat ((first | refine VO.step rfl rfl ?_ | refine VD.end rfl rfl rfl ?_ | refine VD.mid rfl rfl rfl ?_); refine OpV.box rfl rfl rfl ?_; intro _; refine w ?_))
  have hld := imgload_ok (W := W) (cap := lc) (hRL (OwnB (some la, lc) L :: BayR b knD :: Row nb 3 [.int .i64 0, .int .i64 1] :: R) (.head _)) hlc (by omega)
  rw [k3] at hld
  ((first | refine VO.step rfl rfl ?_ | refine VD.end rfl rfl rfl ?_ | refine VD.mid rfl rfl rfl ?_); refine OpV.call rfl rfl (fun _ _ => by simp) (hld) Ent.refl rfl ?_)
  intro c _
  rw [Option.elim_some]
  (refine w ?_; repeat ((first | refine VO.step rfl rfl ?_ | refine VD.end rfl rfl rfl ?_ | refine VD.mid rfl rfl rfl ?_); refine OpV.box rfl rfl rfl ?_; intro _; refine w ?_))
  ((first | refine VO.step rfl rfl ?_ | refine VD.end rfl rfl rfl ?_ | refine VD.mid rfl rfl rfl ?_); refine OpV.call rfl rfl (fun _ _ => by simp) (bayslots_ok c (imgBay [[], List.replicate 128 0])) Ent.refl rfl ?_)
  intro _ _
  (refine w ?_; repeat ((first | refine VO.step rfl rfl ?_ | refine VD.end rfl rfl rfl ?_ | refine VD.mid rfl rfl rfl ?_); refine OpV.box rfl rfl rfl ?_; intro _; refine w ?_))
  ((first | refine VO.step rfl rfl ?_ | refine VD.end rfl rfl rfl ?_ | refine VD.mid rfl rfl rfl ?_); refine OpV.call rfl rfl (fun _ _ => by simp) (bayhas_ok c (imgBay [[], List.replicate 128 0]) 0) Ent.refl rfl ?_)
  intro _ _
  refine VO.re 52 (.bool false) rfl (by congr 1) ?_
  (refine w ?_; repeat ((first | refine VO.step rfl rfl ?_ | refine VD.end rfl rfl rfl ?_ | refine VD.mid rfl rfl rfl ?_); refine OpV.box rfl rfl rfl ?_; intro _; refine w ?_))
  ((first | refine VO.step rfl rfl ?_ | refine VD.end rfl rfl rfl ?_ | refine VD.mid rfl rfl rfl ?_); refine OpV.call rfl rfl (fun _ _ => by simp) (bayhas_ok c (imgBay [[], List.replicate 128 0]) 1) Ent.refl rfl ?_)
  intro _ _
  refine VO.re 57 (.bool true) rfl (by congr 1) ?_
  (refine w ?_; repeat ((first | refine VO.step rfl rfl ?_ | refine VD.end rfl rfl rfl ?_ | refine VD.mid rfl rfl rfl ?_); refine OpV.box rfl rfl rfl ?_; intro _; refine w ?_))
  ((first | refine VO.step rfl rfl ?_ | refine VD.end rfl rfl rfl ?_ | refine VD.mid rfl rfl rfl ?_); refine OpV.call rfl rfl (fun _ _ => by simp) (baysectors_ok c (imgBay [[], List.replicate 128 0]) 1) Ent.refl rfl ?_)
  intro _ _
  refine VO.re 61 (.int .i64 1) rfl (by congr 1) ?_
  (refine w ?_; repeat ((first | refine VO.step rfl rfl ?_ | refine VD.end rfl rfl rfl ?_ | refine VD.mid rfl rfl rfl ?_); refine OpV.box rfl rfl rfl ?_; intro _; refine w ?_))
  (refine VE.done1 rfl ?_ ?_)
  · rfl
  · exact Ent.re
end Go.Proofs.YtpmmkmcbimnigaaGreat

/-! Text Nb. -/
/- Scan: digests, Sectors. -/
set_option maxRecDepth 8000
set_option linter.unusedVariables false
set_option linter.unusedSimpArgs false
set_option linter.unusedSectionVars false
namespace Go.Proofs.YtpmmkmcbimnigaaGreat
open Go.RowKit Go.Sl
attribute [local irreducible] Own

/-! ### Digests -/
/-! ### Sectors -/
abbrev PatE.D (p : PatE) : PatD := ⟨p.member, p.row, p.d.data⟩
structure PatE.fit (p : PatE) : Prop where
  member : -9223372036854775808 ≤ p.member ∧ p.member ≤ 9223372036854775807
  row : -9223372036854775808 ≤ p.row ∧ p.row ≤ 9223372036854775807
  len : p.d.data.length ≤ 140737488351232
end Go.Proofs.YtpmmkmcbimnigaaGreat

/-! Text Qe. -/
/- The document's book of bytes, rows, patches, batches: Bytes, Rows, Patches, Txns, Found, Own. -/
set_option maxRecDepth 8000
set_option linter.unusedVariables false
set_option linter.unusedSimpArgs false
set_option linter.unusedSectionVars false
namespace Go.Proofs.YtpmmkmcbimnigaaGreat
open Go.RowKit Go.Sl
attribute [local irreducible] Sl.Own

section
variable {W w : World} {A B X : SProp} {L R : List SProp}
theorem gOpen (h : Holds W (A :: Sl.star (B :: L) :: R) w) : Holds W (A :: B :: (L ++ R)) w := by
  have h2 := (h.swap).join
  exact h2.perm (List.perm_middle (l₁ := B :: L))
theorem gShut (h : Holds W (A :: B :: (L ++ R)) w) : Holds W (A :: Sl.star (B :: L) :: R) w := by
  have h2 : Holds W ((B :: L) ++ (A :: R)) w := h.perm (List.perm_middle (l₁ := B :: L)).symm
  exact h2.nest.swap
end
abbrev nilS : Value := .slice none 0 0
abbrev bkCells (e f p t : Value) : List Value := [e, nilS, nilS, nilS, nilS, nilS, nilS, nilS, f, nilS, p, t]
abbrev gE (x : Option Addr × Nat) (E : List ListE) : SProp := Sl.star (Sl.Own 22 1 (.slice x.1 E.length x.2) E.length (E.map ListE.hdr) :: E.map ListE.res)
abbrev gF (x : Option Addr × Nat) (F : List ListN) : SProp := Sl.star (Sl.Own 45 1 (.slice x.1 F.length x.2) F.length (F.map ListN.hdr) :: F.map Rw.res)
abbrev gP (x : Option Addr × Nat) (P : List ListN) : SProp := Sl.star (Sl.Own 176 1 (.slice x.1 P.length x.2) P.length (P.map ListN.hdr) :: P.map Pt.res)
abbrev gT (x : Option Addr × Nat) (T : List ListN) : SProp := Sl.star (Sl.Own 179 1 (.slice x.1 T.length x.2) T.length (T.map ListN.hdr) :: T.map Tx.res)
abbrev sl4 (x : Option Addr × Nat) (n : Nat) : Value := .slice x.1 n x.2

theorem bkbytes_raw {W : World} {R : List SProp} (b : Nat) (f p t : Value) (x : Option Addr × Nat) (E : List ListE) (e : ListE) (hn : E.length ≤ 2000000000) :
    Does W Tryz.prog 18 [.pointer (some ⟨b, 0, none⟩), .slice e.ao e.xs.length e.cap] (Row b 58 (bkCells (sl4 x E.length) f p t) :: gE x E :: e.res :: R) (β := Option Addr × Nat) (fun _ => True) (fun _ => .tuple #[])
      (fun y => Row b 58 (bkCells (sl4 y (E ++ [e]).length) f p t) :: gE y (E ++ [e]) :: R) := by
  obtain ⟨lo, lc⟩ := x
  (refine Does.enter Tryz.func18 Tryz.ntmps18 rfl rfl ?_)
  refine VC.ent (fun w hw => gOpen hw) ?_
  (refine w ?_; repeat ((first | refine VO.step rfl rfl ?_ | refine VD.end rfl rfl rfl ?_ | refine VD.mid rfl rfl rfl ?_); refine OpV.box rfl rfl rfl ?_; intro _; refine w ?_))
  ((first | refine VO.step rfl rfl ?_ | refine VD.end rfl rfl rfl ?_ | refine VD.mid rfl rfl rfl ?_); refine OpV.buildSlice1 st_45 rfl rfl (by first | (simp; done) | simp [Value.oneCell']) (by decide) rfl ?_; intro nb)
  ((first | refine VO.step rfl rfl ?_ | refine VD.end rfl rfl rfl ?_ | refine VD.mid rfl rfl rfl ?_); refine OpV.appendRow st_45 rfl rfl (by (repeat first | exact .head | apply Hole.tail)) (by (focus repeat first | exact .head _ | apply List.Mem.tail)) rfl (by first | (simp; done) | simp [Value.oneCell']) ?_ ?_ rfl ?_)
  · simp only [maxLen]; omega
  · omega
  intro lo' lc'
  (refine w ?_; repeat ((first | refine VO.step rfl rfl ?_ | refine VD.end rfl rfl rfl ?_ | refine VD.mid rfl rfl rfl ?_); refine OpV.box rfl rfl rfl ?_; intro _; refine w ?_))
  refine VE.doneN (lo', lc') rfl trivial rfl ?_
  intro w hw
  refine gShut (L := (E ++ [e]).map ListE.res) ?_
  rw [List.length_append, List.length_singleton, List.map_append, List.map_append, List.append_assoc]
  exact hw.tail
def eR (e : RowE) : ListE := ⟨e.ao, e.cap, bytes e.data⟩
theorem eR_hdr (e : RowE) : Value.slice (eR e).ao (eR e).xs.length (eR e).cap = e.hdr := by unfold eR; dsimp only; rw [bytes_length]
theorem eR_res (e : RowE) : (eR e).res = e.res := by unfold ListE.res RowE.res eR; dsimp only; rw [bytes_length]
theorem eR_len (e : RowE) : (eR e).xs.length = e.data.length := by unfold eR; rw [bytes_length]
def rowsN (x : Option Addr × Nat) (l : List RowE) : ListN := ⟨x.1, x.2, l.length, l.map RowE.hdr⟩
def patsN (x : Option Addr × Nat) (l : List PatE) : ListN := ⟨x.1, x.2, l.length, patCells l⟩
def eP (l : List PatE) : List ListE := l.map fun p => eR p.d
/-! ### The book, shut -/
structure Bk where
  E : List ListE
  F : List ListN
  P : List ListN
  T : List ListN
structure BkX where
  e : Option Addr × Nat
  f : Option Addr × Nat
  p : Option Addr × Nat
  t : Option Addr × Nat
abbrev bkO (b : Nat) (x : BkX) (B : Bk) (R : List SProp) : List SProp :=
  Row b 58 (bkCells (sl4 x.e B.E.length) (sl4 x.f B.F.length) (sl4 x.p B.P.length) (sl4 x.t B.T.length)) :: gE x.e B.E :: gF x.f B.F :: gP x.p B.P :: gT x.t B.T :: R
def BookQ (b : Nat) (B : Bk) : SProp := ex fun x : BkX => Sl.star (bkO b x B [])
theorem BookQ.open {W w : World} {b : Nat} {B : Bk} {R : List SProp} (h : Holds W (BookQ b B :: R) w) : ∃ x, Holds W (bkO b x B R) w := by
  obtain ⟨x, h⟩ := h.exOpen
  exact ⟨x, h.join⟩
theorem BookQ.shut {W : World} {b : Nat} {B : Bk} {R : List SProp} (x : BkX) : Ent W (bkO b x B R) (BookQ b B :: R) := fun w hw => Holds.exShut x (Holds.nest (L := bkO b x B []) hw)
theorem BookQ.start {W : World} {b : Nat} {R : List SProp} : Ent W (Row b 58 (bkCells nilS nilS nilS nilS) :: R) (BookQ b ⟨[], [], [], []⟩ :: R) := by
  intro w hw
  refine BookQ.shut ⟨(none, 0), (none, 0), (none, 0), (none, 0)⟩ w ?_
  have h1 := Holds.nest (L := [Sl.Own 179 1 (.slice none 0 0) 0 []]) (Holds.ownNil 179 1 hw)
  have h2 := Holds.nest (L := [Sl.Own 176 1 (.slice none 0 0) 0 []]) (Holds.ownNil 176 1 h1)
  have h3 := Holds.nest (L := [Sl.Own 45 1 (.slice none 0 0) 0 []]) (Holds.ownNil 45 1 h2)
  have h4 := Holds.nest (L := [Sl.Own 22 1 (.slice none 0 0) 0 []]) (Holds.ownNil 22 1 h3)
  have hE : Ent W (gE (none, 0) [] :: gF (none, 0) [] :: gP (none, 0) [] :: gT (none, 0) [] :: Row b 58 (bkCells nilS nilS nilS nilS) :: R) (bkO b ⟨(none, 0), (none, 0), (none, 0), (none, 0)⟩ ⟨[], [], [], []⟩ R) := Ent.re
  exact hE w h4
theorem bkbytes_ok {W : World} {R : List SProp} (b : Nat) (B : Bk) (e : ListE) (hn : B.E.length ≤ 2000000000) :
    Does1 W Tryz.prog 18 [.pointer (some ⟨b, 0, none⟩), .slice e.ao e.xs.length e.cap] (BookQ b B :: e.res :: R) (.tuple #[]) (BookQ b { B with E := B.E ++ [e] } :: R) := by
  refine DoesO (fun w hw => BookQ.open hw) fun x => ?_
  refine DoesE (H' := Row b 58 (bkCells (sl4 x.e B.E.length) (sl4 x.f B.F.length) (sl4 x.p B.P.length) (sl4 x.t B.T.length)) :: gE x.e B.E :: e.res :: gF x.f B.F :: gP x.p B.P :: gT x.t B.T :: R) Ent.re ?_
  exact Does.mono (bkbytes_raw (R := gF x.f B.F :: gP x.p B.P :: gT x.t B.T :: R) b (sl4 x.f B.F.length) (sl4 x.p B.P.length) (sl4 x.t B.T.length) x.e B.E e hn) (fun _ => ()) (fun _ _ => trivial) (fun _ _ => rfl) (fun y _ => BookQ.shut (B := { B with E := B.E ++ [e] }) ⟨y, x.f, x.p, x.t⟩)
structure Bk.ok (B : Bk) : Prop where
  E : B.E.length ≤ 1000000000
  F : B.F.length ≤ 1000000000
  P : B.P.length ≤ 1000000000
  T : B.T.length ≤ 1000000000
  e : ∀ e ∈ B.E, e.xs.length ≤ 1000000000
  f : ∀ e ∈ B.F, e.n ≤ 1000000000
  p : ∀ e ∈ B.P, e.n ≤ 1000000000
  t : ∀ e ∈ B.T, e.n ≤ 1000000000
set_option maxHeartbeats 4000000 in
theorem bkown_ok {W : World} {R : List SProp} (b : Nat) (B : Bk) (h : B.ok) :
    Does1 W Tryz.prog 26 [.pointer (some ⟨b, 0, none⟩)] (BookQ b B :: R) (.bool true) R := by
  (refine Does.enter Tryz.func26 Tryz.ntmps26 rfl rfl ?_)
  refine VC.obtain (fun w => BookQ.open) ?_
  rintro ⟨xe, xf, xp, xt⟩
  refine VC.ent (fun w hw => gOpen hw) ?_
  (refine w ?_; repeat ((first | refine VO.step rfl rfl ?_ | refine VD.end rfl rfl rfl ?_ | refine VD.mid rfl rfl rfl ?_); refine OpV.box rfl rfl rfl ?_; intro _; refine w ?_))
  (first | refine VO.step rfl rfl ?_ | refine VD.end rfl rfl rfl ?_ | refine VD.mid rfl rfl rfl ?_)
  refine OpV.call rfl rfl (fun _ _ => by simp) (ownbytes_ok (R := Row b 58 (bkCells (sl4 xe B.E.length) (sl4 xf B.F.length) (sl4 xp B.P.length) (sl4 xt B.T.length)) :: gF xf B.F :: gP xp B.P :: gT xt B.T :: R) h.E h.e) (fun w hw => hw.perm ?_) rfl ?_
  · exact (List.Perm.swap _ _ _).trans ((List.perm_middle (l₁ := B.E.map ListE.res)).symm.cons _)
  intro _ _
  (refine w ?_; repeat ((first | refine VO.step rfl rfl ?_ | refine VD.end rfl rfl rfl ?_ | refine VD.mid rfl rfl rfl ?_); refine OpV.box rfl rfl rfl ?_; intro _; refine w ?_))
  ((first | refine VO.step rfl rfl ?_ | refine VD.end rfl rfl rfl ?_ | refine VD.mid rfl rfl rfl ?_); refine OpV.call rfl rfl (fun _ _ => by simp) (ownTexts_nil) Ent.refl rfl ?_; intro _ _)
  (refine w ?_; repeat ((first | refine VO.step rfl rfl ?_ | refine VD.end rfl rfl rfl ?_ | refine VD.mid rfl rfl rfl ?_); refine OpV.box rfl rfl rfl ?_; intro _; refine w ?_))
  ((first | refine VO.step rfl rfl ?_ | refine VD.end rfl rfl rfl ?_ | refine VD.mid rfl rfl rfl ?_); refine OpV.call rfl rfl (fun _ _ => by simp) (ownInts_nil) Ent.refl rfl ?_; intro _ _)
  (refine w ?_; repeat ((first | refine VO.step rfl rfl ?_ | refine VD.end rfl rfl rfl ?_ | refine VD.mid rfl rfl rfl ?_); refine OpV.box rfl rfl rfl ?_; intro _; refine w ?_))
  ((first | refine VO.step rfl rfl ?_ | refine VD.end rfl rfl rfl ?_ | refine VD.mid rfl rfl rfl ?_); refine OpV.call rfl rfl (fun _ _ => by simp) (ownNumbers_nil) Ent.refl rfl ?_; intro _ _)
  (refine w ?_; repeat ((first | refine VO.step rfl rfl ?_ | refine VD.end rfl rfl rfl ?_ | refine VD.mid rfl rfl rfl ?_); refine OpV.box rfl rfl rfl ?_; intro _; refine w ?_))
  ((first | refine VO.step rfl rfl ?_ | refine VD.end rfl rfl rfl ?_ | refine VD.mid rfl rfl rfl ?_); refine OpV.call rfl rfl (fun _ _ => by simp) (ownErrs_nil) Ent.refl rfl ?_; intro _ _)
  (refine w ?_; repeat ((first | refine VO.step rfl rfl ?_ | refine VD.end rfl rfl rfl ?_ | refine VD.mid rfl rfl rfl ?_); refine OpV.box rfl rfl rfl ?_; intro _; refine w ?_))
  ((first | refine VO.step rfl rfl ?_ | refine VD.end rfl rfl rfl ?_ | refine VD.mid rfl rfl rfl ?_); refine OpV.call rfl rfl (fun _ _ => by simp) (ownSpans_nil) Ent.refl rfl ?_; intro _ _)
  (refine w ?_; repeat ((first | refine VO.step rfl rfl ?_ | refine VD.end rfl rfl rfl ?_ | refine VD.mid rfl rfl rfl ?_); refine OpV.box rfl rfl rfl ?_; intro _; refine w ?_))
  ((first | refine VO.step rfl rfl ?_ | refine VD.end rfl rfl rfl ?_ | refine VD.mid rfl rfl rfl ?_); refine OpV.call rfl rfl (fun _ _ => by simp) (ownStates_nil) Ent.refl rfl ?_; intro _ _)
  (refine w ?_; repeat ((first | refine VO.step rfl rfl ?_ | refine VD.end rfl rfl rfl ?_ | refine VD.mid rfl rfl rfl ?_); refine OpV.box rfl rfl rfl ?_; intro _; refine w ?_))
  ((first | refine VO.step rfl rfl ?_ | refine VD.end rfl rfl rfl ?_ | refine VD.mid rfl rfl rfl ?_); refine OpV.call rfl rfl (fun _ _ => by simp) (ownBools_nil) Ent.refl rfl ?_; intro _ _)
  (refine w ?_; repeat ((first | refine VO.step rfl rfl ?_ | refine VD.end rfl rfl rfl ?_ | refine VD.mid rfl rfl rfl ?_); refine OpV.box rfl rfl rfl ?_; intro _; refine w ?_))
  refine VO.ent (fun w hw => gOpen hw) ?_
  (first | refine VO.step rfl rfl ?_ | refine VD.end rfl rfl rfl ?_ | refine VD.mid rfl rfl rfl ?_)
  refine OpV.call rfl rfl (fun _ _ => by simp) (Rw.own_ok (R := Row b 58 (bkCells (sl4 xe B.E.length) (sl4 xf B.F.length) (sl4 xp B.P.length) (sl4 xt B.T.length)) :: gP xp B.P :: gT xt B.T :: R) h.F h.f) (fun w hw => hw.perm ?_) rfl ?_
  · exact (List.Perm.swap _ _ _).trans ((List.perm_middle (l₁ := B.F.map Rw.res)).symm.cons _)
  intro _ _
  (refine w ?_; repeat ((first | refine VO.step rfl rfl ?_ | refine VD.end rfl rfl rfl ?_ | refine VD.mid rfl rfl rfl ?_); refine OpV.box rfl rfl rfl ?_; intro _; refine w ?_))
  ((first | refine VO.step rfl rfl ?_ | refine VD.end rfl rfl rfl ?_ | refine VD.mid rfl rfl rfl ?_); refine OpV.call rfl rfl (fun _ _ => by simp) (ownPuts_nil) Ent.refl rfl ?_; intro _ _)
  (refine w ?_; repeat ((first | refine VO.step rfl rfl ?_ | refine VD.end rfl rfl rfl ?_ | refine VD.mid rfl rfl rfl ?_); refine OpV.box rfl rfl rfl ?_; intro _; refine w ?_))
  refine VO.ent (fun w hw => gOpen hw) ?_
  (first | refine VO.step rfl rfl ?_ | refine VD.end rfl rfl rfl ?_ | refine VD.mid rfl rfl rfl ?_)
  refine OpV.call rfl rfl (fun _ _ => by simp) (Pt.own_ok (R := Row b 58 (bkCells (sl4 xe B.E.length) (sl4 xf B.F.length) (sl4 xp B.P.length) (sl4 xt B.T.length)) :: gT xt B.T :: R) h.P h.p) (fun w hw => hw.perm ?_) rfl ?_
  · exact (List.Perm.swap _ _ _).trans ((List.perm_middle (l₁ := B.P.map Pt.res)).symm.cons _)
  intro _ _
  (refine w ?_; repeat ((first | refine VO.step rfl rfl ?_ | refine VD.end rfl rfl rfl ?_ | refine VD.mid rfl rfl rfl ?_); refine OpV.box rfl rfl rfl ?_; intro _; refine w ?_))
  refine VO.ent (fun w hw => gOpen hw) ?_
  (first | refine VO.step rfl rfl ?_ | refine VD.end rfl rfl rfl ?_ | refine VD.mid rfl rfl rfl ?_)
  refine OpV.call rfl rfl (fun _ _ => by simp) (Tx.own_ok (R := Row b 58 (bkCells (sl4 xe B.E.length) (sl4 xf B.F.length) (sl4 xp B.P.length) (sl4 xt B.T.length)) :: R) h.T h.t) (fun w hw => hw.perm ?_) rfl ?_
  · exact (List.Perm.swap _ _ _).trans ((List.perm_middle (l₁ := B.T.map Tx.res)).symm.cons _)
  intro _ _
  (refine w ?_; repeat ((first | refine VO.step rfl rfl ?_ | refine VD.end rfl rfl rfl ?_ | refine VD.mid rfl rfl rfl ?_); refine OpV.box rfl rfl rfl ?_; intro _; refine w ?_))
  (refine VE.done1 rfl ?_ ?_)
  · rfl
  · exact Ent.drop Ent.refl
/-! ### What lies in the book can be read -/
theorem Rds.exq {W : World} {H : List SProp} {α : Type} {P : α → SProp} {sz k : Nat} {ao : Option Addr} {xs : List Value} (m : ex P ∈ H) (x0 : α) (h : ∀ x R, Rds W (P x :: R) sz ao k xs) : Rds W H sz ao k xs := by
  have h0 := h x0 []
  refine ⟨h0.len, h0.one, h0.nil, fun w hw => ?_⟩
  obtain ⟨R, p⟩ := mem_perm m
  obtain ⟨x, hx⟩ := (hw.perm p).exOpen
  exact (h x R).cell w hx
theorem BookQ.part {W : World} {H : List SProp} {b : Nat} {B : Bk} {X : SProp} {sz k : Nat} {ao : Option Addr} {xs : List Value} (m : BookQ b B ∈ H) (hX : ∀ x : BkX, ∃ L, X ∈ L ∧ (Sl.star L = gE x.e B.E ∨ Sl.star L = gF x.f B.F ∨ Sl.star L = gP x.p B.P ∨ Sl.star L = gT x.t B.T)) (h : ∀ R, X ∈ R → Rds W R sz ao k xs) : Rds W H sz ao k xs := by
  refine Rds.exq (P := fun x : BkX => Sl.star (bkO b x B [])) m ⟨(none, 0), (none, 0), (none, 0), (none, 0)⟩ fun x R => ?_
  refine Rds.star (L := bkO b x B []) (.head _) fun R => ?_
  obtain ⟨L, hL, hs⟩ := hX x
  refine Rds.star (L := L) ?_ fun R => h _ (List.mem_append_left _ hL)
  rcases hs with hs | hs | hs | hs <;> rw [hs]
  · exact .tail _ (.head _)
  · exact .tail _ (.tail _ (.head _))
  · exact .tail _ (.tail _ (.tail _ (.head _)))
  · exact .tail _ (.tail _ (.tail _ (.tail _ (.head _))))
theorem BookQ.row {W : World} {H : List SProp} {b : Nat} {B : Bk} {e : RowE} (m : BookQ b B ∈ H) (he : eR e ∈ B.E) (hok : e.ok) : Rds W H 1 e.ao e.data.length (bytes e.data) :=
  BookQ.part (X := e.res) m (fun x => ⟨_, .tail _ (by rw [← eR_res]; exact List.mem_map_of_mem he), .inl rfl⟩) (fun R hR => RowE.rds hok hR)
theorem BookQ.rows {W : World} {H : List SProp} {b : Nat} {B : Bk} {z : Option Addr × Nat} {l : List RowE} (m : BookQ b B ∈ H) (hE : ∀ e ∈ l, eR e ∈ B.E) (hF : rowsN z l ∈ B.F) (hz : z.1 = none → l.length = 0) (hok : ∀ e ∈ l, e.ok) : RdRows W H z.1 l :=
  ⟨BookQ.part (X := RowsO z l) m (fun x => ⟨_, .tail _ (List.mem_map.2 ⟨_, hF, rfl⟩), .inr (.inl rfl)⟩) (fun R hR => Rds.own (rowhdr_one l) hR (by simp) hz), fun e he => BookQ.row m (hE e he) (hok e he), hok⟩
theorem BookQ.pats {W : World} {H : List SProp} {b : Nat} {B : Bk} {z : Option Addr × Nat} {l : List PatE} (m : BookQ b B ∈ H) (hE : ∀ e ∈ eP l, e ∈ B.E) (hP : patsN z l ∈ B.P) (hz : z.1 = none → l.length = 0) (hok : ∀ p ∈ l, p.d.ok) : RdPats W H z.1 l :=
  ⟨BookQ.part (X := PatsO z l) m (fun x => ⟨_, .tail _ (List.mem_map.2 ⟨_, hP, rfl⟩), .inr (.inr (.inl rfl))⟩) (fun R hR => Rds.own (pats_one l) hR (pats_len l) hz), fun p hp => BookQ.row m (hE _ (List.mem_map.2 ⟨p, hp, rfl⟩)) (hok p hp), hok⟩
end Go.Proofs.YtpmmkmcbimnigaaGreat

/-! Text Oe. -/
/- spindlelaw21: same. -/
set_option maxRecDepth 8000
set_option linter.unusedVariables false
set_option linter.unusedSimpArgs false
set_option linter.unusedSectionVars false
namespace Go.Proofs.YtpmmkmcbimnigaaGreat
open Go.RowKit Go.Sl
attribute [local irreducible] Sl.Own

/-! ### The document's bay, its row apart -/
def rrest (x : Option Addr × Nat) (sp : List RSlotP) : SProp := Sl.star (rslotsOwn x sp :: sp.map rslotRes)
theorem RBayR.openS {W w : World} {b : Nat} {D : BayD} {R : List SProp} (hw : Holds W (RBayR b D :: R) w) : ∃ x : { x : (Option Addr × Nat) × List RSlotP // D.slots = x.2.map RSlotP.D ∧ x.2.length ≤ 17 }, Holds W (rbayRow b D x.1.1 x.1.2.length :: rrest x.1.1 x.1.2 :: R) w := by
  obtain ⟨x, h⟩ := RBayR.open hw
  refine ⟨x, ?_⟩
  have h1 := h.perm (List.perm_middle (l₁ := rslotsOwn x.1.1 x.1.2 :: x.1.2.map rslotRes)).symm
  have h2 : Holds W (rrest x.1.1 x.1.2 :: rbayRow b D x.1.1 x.1.2.length :: R) w := Holds.nest (L := rslotsOwn x.1.1 x.1.2 :: x.1.2.map rslotRes) h1
  exact h2.perm (List.Perm.swap _ _ _)
theorem RBayR.shutS {W : World} {b : Nat} {D : BayD} {R : List SProp} {x : Option Addr × Nat} {sp : List RSlotP} (h1 : D.slots = sp.map RSlotP.D) (h2 : sp.length ≤ 17) : Ent W (rbayRow b D x sp.length :: rrest x sp :: R) (RBayR b D :: R) := fun w hw => by
  refine RBayR.shut (x := x) h1 h2 w ?_
  have h3 := (hw.perm (List.Perm.swap _ _ _)).join
  exact h3.perm (List.perm_middle (l₁ := rslotsOwn x sp :: sp.map rslotRes))

/-! ### What Load makes -/
structure Fresh (D : BayD) : Prop where
  dark : D.dark = false
  n : D.n = ⟨0, 0, 0⟩
  cache : ∀ k v, D.dev k = some v → v.k.cache = []
  push : ∀ i : Nat, i < D.slots.length → D.push (i : Int) = (51, D)
theorem imgBay_dev {ds : List (List UInt8)} {k : Int} {v : DevD} (h : (imgBay ds).dev k = some v) : ∃ d ∈ ds, v = ⟨⟨chunks d (d.length / 128), [], false⟩, false, 0⟩ := by
  unfold BayD.dev at h
  split at h
  · unfold imgBay at h
    dsimp only at h
    rw [List.getElem?_map] at h
    cases hg : ds[k.toNat]? with
    | none => rw [hg] at h; cases h
    | some d =>
      rw [hg] at h
      obtain ⟨hi, e⟩ := List.getElem?_eq_some_iff.1 hg
      refine ⟨d, by rw [← e]; exact List.getElem_mem hi, ?_⟩
      have h : (slotI d).in_ = some v := h
      unfold slotI at h
      split at h
      · cases h
      · exact (Option.some.inj h).symm
  · cases h
theorem imgBay_fresh (ds : List (List UInt8)) : Fresh (imgBay ds) := by
  refine ⟨rfl, rfl, fun k v h => ?_, fun i hi => ?_⟩
  · obtain ⟨d, _, rfl⟩ := imgBay_dev h; rfl
  · have hi' : i < ds.length := by have : (imgBay ds).slots.length = ds.length := by unfold imgBay; simp
                                   omega
    have hin : inRange (imgBay ds).slots.length (i : Int) = true := decide_eq_true (by omega)
    have ha : ((imgBay ds).slot (i : Int)).aside = none := by
      unfold BayD.slot imgBay
      dsimp only
      rw [Int.toNat_natCast, List.getElem?_map, List.getElem?_eq_getElem hi']
      show (slotI _).aside = none
      unfold slotI; split <;> rfl
    unfold BayD.push
    rw [hin, if_neg (by decide), ha]; rfl

/-! ### same -/
structure BkS (B : Bk) (k : Nat) : Prop where
  E : B.E.length ≤ k
  F : B.F = []
  P : B.P = []
  T : B.T = []
  e : ∀ e ∈ B.E, e.xs.length ≤ 1000000000
theorem BkS.ok {B : Bk} {k : Nat} (h : BkS B k) (hk : k ≤ 1000) : B.ok := by
  have := h.E
  exact ⟨by omega, by rw [h.F]; simp, by rw [h.P]; simp, by rw [h.T]; simp, h.e, by rw [h.F]; simp, by rw [h.P]; simp, by rw [h.T]; simp⟩
theorem BkS.byte {B : Bk} {k : Nat} (h : BkS B k) {e : ListE} (he : e.xs.length ≤ 1000000000) : BkS { B with E := B.E ++ [e] } (k + 1) := by
  have h1 := h.E
  refine ⟨?_, h.F, h.P, h.T, fun x hx => ?_⟩
  · show (B.E ++ [e]).length ≤ _
    rw [List.length_append, List.length_singleton]; omega
  · rcases List.mem_append.1 hx with hx | hx
    · exact h.e x hx
    · rw [List.mem_singleton] at hx; subst hx; exact he
theorem bayImg_len {W w : World} {R : List SProp} {b : Nat} {D : BayD} (h : Holds W (BayR b D :: R) w) (k : Nat) : (D.image (k : Int)).1.length ≤ 1048576 := by
  unfold BayD.image
  cases hd : D.dev (k : Int) with
  | none => simp
  | some v =>
    have hk := bayOkI h k v hd
    show v.k.img.length ≤ _
    unfold DiskD.img
    split
    · simp
    · rw [img_len hk]
      have := hk.size
      omega
theorem bkB_ok {W : World} {R : List SProp} (b : Nat) (B : Bk) (x : Option Addr × Nat) (X : List UInt8) (hn : B.E.length ≤ 1000) :
    Does1 W Tryz.prog 18 [.pointer (some ⟨b, 0, none⟩), sliceB x X] (BookQ b B :: OwnB x X :: R) (.tuple #[]) (BookQ b { B with E := B.E ++ [eR ⟨x.1, x.2, X⟩] } :: R) := by
  have h := bkbytes_ok (W := W) (R := R) b B (eR ⟨x.1, x.2, X⟩) (by omega)
  rw [eR_res, eR_hdr] at h
  exact h
set_option maxHeartbeats 4000000 in
theorem isame_ok {W : World} {R : List SProp} {D : BayD} (hD : Fresh D) (b r bk k0 : Nat) (B0 : Bk) (hB0 : BkS B0 k0) (hk0 : k0 ≤ 100) :
    Does W Tryz.prog 25 [.pointer (some ⟨b, 0, none⟩), .pointer (some ⟨r, 0, none⟩), .pointer (some ⟨bk, 0, none⟩)] (RBayR r D :: BayR b D :: BookQ bk B0 :: R) (β := Bk) (fun B => BkS B (k0 + 17)) (fun _ => .bool true) (fun B => RBayR r D :: BayR b D :: BookQ bk B :: R) := by
  refine DoesK (p := D.slots.length ≤ 17) (fun w hw => BayR.know hw.tail) fun hn17 => ?_
  refine DoesK (p := ∀ k : Nat, (D.image (k : Int)).1.length ≤ 1048576) (fun w hw => bayImg_len hw.tail) fun hXl => ?_
  (refine Does.enter Tryz.func25 Tryz.ntmps25 rfl rfl ?_)
  refine VC.obtain (fun w => RBayR.openS) ?_
  rintro ⟨⟨x, sp⟩, h1, h2⟩
  dsimp only at h1 h2 ⊢
  have hl : sp.length = D.slots.length := by rw [h1, List.length_map]
  (refine w ?_; repeat ((first | refine VO.step rfl rfl ?_ | refine VD.end rfl rfl rfl ?_ | refine VD.mid rfl rfl rfl ?_); refine OpV.box rfl rfl rfl ?_; intro _; refine w ?_))
  (refine VC.drawn [1, 10, 14] 16 [0, 2, 3, 4, 5, 6, 1, 7, 8, 9, 10, 11, 12, 13, 15, 14, 16, 17] _ rfl (by kernel_rfl) (by kernel_rfl) Ent.re ?_)
  (refine w ?_; repeat ((first | refine VO.step rfl rfl ?_ | refine VD.end rfl rfl rfl ?_ | refine VD.mid rfl rfl rfl ?_); refine OpV.box rfl rfl rfl ?_; intro _; refine w ?_))
  (((first | refine VO.step rfl rfl ?_ | refine VD.end rfl rfl rfl ?_ | refine VD.mid rfl rfl rfl ?_); refine OpV.call rfl rfl (fun _ _ => by simp) (bayslots_ok b D) Ent.re rfl ?_); intro _ _)
  rw [hl]
  (refine w ?_; repeat ((first | refine VO.step rfl rfl ?_ | refine VD.end rfl rfl rfl ?_ | refine VD.mid rfl rfl rfl ?_); refine OpV.box rfl rfl rfl ?_; intro _; refine w ?_))
  (first | refine VO.gF rfl rfl rfl (by simp) ?_ | refine VD.gF rfl rfl rfl (by simp) ?_)
  (refine w ?_; repeat ((first | refine VO.step rfl rfl ?_ | refine VD.end rfl rfl rfl ?_ | refine VD.mid rfl rfl rfl ?_); refine OpV.box rfl rfl rfl ?_; intro _; refine w ?_))
  (((first | refine VO.step rfl rfl ?_ | refine VD.end rfl rfl rfl ?_ | refine VD.mid rfl rfl rfl ?_); refine OpV.call rfl rfl (fun _ _ => by simp) (baydark_ok b D) Ent.re rfl ?_); intro _ _)
  rw [hD.dark]
  (refine w ?_; repeat ((first | refine VO.step rfl rfl ?_ | refine VD.end rfl rfl rfl ?_ | refine VD.mid rfl rfl rfl ?_); refine OpV.box rfl rfl rfl ?_; intro _; refine w ?_))
  refine VD.take rfl rfl rfl (PureAt.build sb_39 (pv := []) rfl rfl) rfl ?_
  (((first | refine VO.step rfl rfl ?_ | refine VD.end rfl rfl rfl ?_ | refine VD.mid rfl rfl rfl ?_); refine OpV.call rfl rfl (fun _ _ => by simp) (baycounts_ok b D) Ent.re rfl ?_); intro _ _)
  rw [hD.n]
  refine ⟨Ent.re, ?_⟩
  refine VD.end rfl rfl rfl (OpV.pure (cnt_eq (c := ⟨0, 0, 0⟩) (d := ⟨0, 0, 0⟩) rfl rfl (by decide) (by decide) rfl) rfl ?_)
  (refine w ?_; repeat ((first | refine VO.step rfl rfl ?_ | refine VD.end rfl rfl rfl ?_ | refine VD.mid rfl rfl rfl ?_); refine OpV.box rfl rfl rfl ?_; intro _; refine w ?_))
  refine VC.ent (H' := RBayR r D :: BayR b D :: BookQ bk B0 :: R) (Ent.trans (Ent.re (L := rbayRow r D x D.slots.length :: rrest x sp :: BayR b D :: BookQ bk B0 :: R)) (by rw [← hl]; exact RBayR.shutS h1 h2)) ?_
  clear h1 h2 hl
  refine VC.loop (α := Nat × Bk) (fun y => y.1 ≤ D.slots.length ∧ BkS y.2 (k0 + y.1)) (fun y => RBayR r D :: BayR b D :: BookQ bk y.2 :: R)
    (fun y => [(0, .pointer (some ⟨b, 0, none⟩)), (1, .pointer (some ⟨r, 0, none⟩)), (2, .pointer (some ⟨bk, 0, none⟩)), (7, .int .i64 y.1)]) (fun y => D.slots.length - y.1) rfl (0, B0) ⟨Nat.zero_le _, hB0⟩ Ent.refl ⟨rfl, rfl, rfl, rfl, trivial⟩ ?_
  rintro ⟨i, B⟩ ⟨hi, hB⟩
  dsimp only at hi hB ⊢
  refine VC.obtain (fun w => RBayR.openS) ?_
  rintro ⟨⟨x, sp⟩, h1, h2⟩
  dsimp only at h1 h2 ⊢
  have hl : sp.length = D.slots.length := by rw [h1, List.length_map]
  (refine w ?_; repeat ((first | refine VO.step rfl rfl ?_ | refine VD.end rfl rfl rfl ?_ | refine VD.mid rfl rfl rfl ?_); refine OpV.box rfl rfl rfl ?_; intro _; refine w ?_))
  (refine VC.cond rfl rfl ?_ ?_ <;> intro hc)
  · have hlt : i < D.slots.length := by have := of_decide_eq_true hc; omega
    clear hc
    refine VC.ent (RBayR.shutS h1 h2) ?_
    clear h1 h2 hl
    (refine w ?_; repeat ((first | refine VO.step rfl rfl ?_ | refine VD.end rfl rfl rfl ?_ | refine VD.mid rfl rfl rfl ?_); refine OpV.box rfl rfl rfl ?_; intro _; refine w ?_))
    (((first | refine VO.step rfl rfl ?_ | refine VD.end rfl rfl rfl ?_ | refine VD.mid rfl rfl rfl ?_); refine OpV.call rfl rfl (fun _ _ => by simp) (bayhas_ok b D (i : Int)) Ent.re rfl ?_); intro _ _)
    (refine w ?_; repeat ((first | refine VO.step rfl rfl ?_ | refine VD.end rfl rfl rfl ?_ | refine VD.mid rfl rfl rfl ?_); refine OpV.box rfl rfl rfl ?_; intro _; refine w ?_))
    (((first | refine VO.step rfl rfl ?_ | refine VD.end rfl rfl rfl ?_ | refine VD.mid rfl rfl rfl ?_); refine OpV.call rfl rfl (fun _ _ => by simp) (rbayhas_ok r D (i : Int)) Ent.re rfl ?_); intro _ _)
    (refine w ?_; repeat ((first | refine VO.step rfl rfl ?_ | refine VD.end rfl rfl rfl ?_ | refine VD.mid rfl rfl rfl ?_); refine OpV.box rfl rfl rfl ?_; intro _; refine w ?_))
    (first | refine VO.gF rfl rfl rfl (by simp) ?_ | refine VD.gF rfl rfl rfl (by simp) ?_)
    (refine w ?_; repeat ((first | refine VO.step rfl rfl ?_ | refine VD.end rfl rfl rfl ?_ | refine VD.mid rfl rfl rfl ?_); refine OpV.box rfl rfl rfl ?_; intro _; refine w ?_))
    (((first | refine VO.step rfl rfl ?_ | refine VD.end rfl rfl rfl ?_ | refine VD.mid rfl rfl rfl ?_); refine OpV.call rfl rfl (fun _ _ => by simp) (baysectors_ok b D (i : Int)) Ent.re rfl ?_); intro _ _)
    (refine w ?_; repeat ((first | refine VO.step rfl rfl ?_ | refine VD.end rfl rfl rfl ?_ | refine VD.mid rfl rfl rfl ?_); refine OpV.box rfl rfl rfl ?_; intro _; refine w ?_))
    (((first | refine VO.step rfl rfl ?_ | refine VD.end rfl rfl rfl ?_ | refine VD.mid rfl rfl rfl ?_); refine OpV.call rfl rfl (fun _ _ => by simp) (rbaysectors_ok r D (i : Int)) Ent.re rfl ?_); intro _ _)
    (refine w ?_; repeat ((first | refine VO.step rfl rfl ?_ | refine VD.end rfl rfl rfl ?_ | refine VD.mid rfl rfl rfl ?_); refine OpV.box rfl rfl rfl ?_; intro _; refine w ?_))
    (first | refine VO.gF rfl rfl rfl (by simp) ?_ | refine VD.gF rfl rfl rfl (by simp) ?_)
    (refine w ?_; repeat ((first | refine VO.step rfl rfl ?_ | refine VD.end rfl rfl rfl ?_ | refine VD.mid rfl rfl rfl ?_); refine OpV.box rfl rfl rfl ?_; intro _; refine w ?_))
    ((first | refine VO.step rfl rfl ?_ | refine VD.end rfl rfl rfl ?_ | refine VD.mid rfl rfl rfl ?_); refine OpV.call rfl rfl (fun _ _ => by simp) (baypending_ok b D (i : Int) (fun v hv => by rw [hD.cache _ v hv]; simp)) Ent.re rfl ?_)
    intro z _
    have hpl : ((D.dev (i : Int)).elim [] fun v => v.k.cache.map (·.1)).length = 0 := by
      cases hd : D.dev (i : Int) with
      | none => rfl
      | some v => show (v.k.cache.map (·.1)).length = 0; rw [hD.cache _ v hd]; rfl
    rw [hpl]
    refine VO.ent (H' := BayR b D :: RBayR r D :: BookQ bk B :: R) Ent.re ?_
    have hX := hXl i
    (refine w ?_; repeat ((first | refine VO.step rfl rfl ?_ | refine VD.end rfl rfl rfl ?_ | refine VD.mid rfl rfl rfl ?_); refine OpV.box rfl rfl rfl ?_; intro _; refine w ?_))
    ((first | refine VO.step rfl rfl ?_ | refine VD.end rfl rfl rfl ?_ | refine VD.mid rfl rfl rfl ?_); refine OpV.call rfl rfl (fun _ _ => by simp) (bayimage_ok b D (i : Int)) Ent.re rfl ?_)
    rintro ⟨xo, xc⟩ hxo
    dsimp only at hxo
    refine VO.know (p := RowE.ok ⟨xo, xc, (D.image (i : Int)).1⟩) (fun w hw => ⟨hw.ownNone (.head _), hw.ownCap (.head _)⟩) fun hxok => ?_
    (refine w ?_; repeat ((first | refine VO.step rfl rfl ?_ | refine VD.end rfl rfl rfl ?_ | refine VD.mid rfl rfl rfl ?_); refine OpV.box rfl rfl rfl ?_; intro _; refine w ?_))
    ((first | refine VO.step rfl rfl ?_ | refine VD.end rfl rfl rfl ?_ | refine VD.mid rfl rfl rfl ?_); refine OpV.call rfl rfl (fun _ _ => by simp) (rbayimage_ok r D (i : Int)) Ent.re rfl ?_)
    rintro ⟨yo, yc⟩ hyo
    dsimp only at hyo
    (refine w ?_; repeat ((first | refine VO.step rfl rfl ?_ | refine VD.end rfl rfl rfl ?_ | refine VD.mid rfl rfl rfl ?_); refine OpV.box rfl rfl rfl ?_; intro _; refine w ?_))
    refine VO.ent (H' := BookQ bk B :: OwnB (xo, xc) (D.image (i : Int)).1 :: OwnB (yo, yc) (D.image (i : Int)).1 :: RBayR r D :: BayR b D :: R) Ent.re ?_
    (((first | refine VO.step rfl rfl ?_ | refine VD.end rfl rfl rfl ?_ | refine VD.mid rfl rfl rfl ?_); refine OpV.call rfl rfl (fun _ _ => by simp) (bkB_ok bk B (xo, xc) (D.image (i : Int)).1 (by have := hB.E; omega)) Ent.re rfl ?_); intro _ _)
    have hB2 := hB.byte (e := eR ⟨xo, xc, (D.image (i : Int)).1⟩) (by rw [eR_len]; dsimp only; omega)
    have hmB : eR ⟨xo, xc, (D.image (i : Int)).1⟩ ∈ ({ B with E := B.E ++ [eR ⟨xo, xc, (D.image (i : Int)).1⟩] } : Bk).E := List.mem_append_right _ (.head _)
    generalize ({ B with E := B.E ++ [eR ⟨xo, xc, (D.image (i : Int)).1⟩] } : Bk) = B2 at hB2 hmB ⊢
    (refine w ?_; repeat ((first | refine VO.step rfl rfl ?_ | refine VD.end rfl rfl rfl ?_ | refine VD.mid rfl rfl rfl ?_); refine OpV.box rfl rfl rfl ?_; intro _; refine w ?_))
    (first | refine VO.gF rfl rfl rfl (by simp) ?_ | refine VD.gF rfl rfl rfl (by simp) ?_)
    (refine w ?_; repeat ((first | refine VO.step rfl rfl ?_ | refine VD.end rfl rfl rfl ?_ | refine VD.mid rfl rfl rfl ?_); refine OpV.box rfl rfl rfl ?_; intro _; refine w ?_))
    ((first | refine VO.step rfl rfl ?_ | refine VD.end rfl rfl rfl ?_ | refine VD.mid rfl rfl rfl ?_); refine OpV.call rfl rfl (fun _ _ => by simp) (same_any (BookQ.row (e := ⟨xo, xc, (D.image (i : Int)).1⟩) (.head _) hmB hxok) (Rds.own (e := 5) (cap := yc) (bytes_one (D.image (i : Int)).1) (.tail _ (.head _)) (by simp) hyo) (by simp only [maxLen]; omega)) Ent.refl rfl ?_; intro _ _)
    rw [decide_eq_true (rfl : (D.image (i : Int)).1 = _)]
    (refine w ?_; repeat ((first | refine VO.step rfl rfl ?_ | refine VD.end rfl rfl rfl ?_ | refine VD.mid rfl rfl rfl ?_); refine OpV.box rfl rfl rfl ?_; intro _; refine w ?_))
    (((first | refine VO.step rfl rfl ?_ | refine VD.end rfl rfl rfl ?_ | refine VD.mid rfl rfl rfl ?_); refine OpV.call rfl rfl (fun _ _ => by simp) (baypush_ok b D (i : Int)) Ent.re rfl ?_); intro _ _)
    rw [hD.push i hlt]
    (refine w ?_; repeat ((first | refine VO.step rfl rfl ?_ | refine VD.end rfl rfl rfl ?_ | refine VD.mid rfl rfl rfl ?_); refine OpV.box rfl rfl rfl ?_; intro _; refine w ?_))
    refine VE.round (i + 1, B2) ⟨hlt, hB2⟩ (by dsimp only; omega) ⟨rfl, rfl, rfl, asV rfl (by congr 1), trivial⟩ Ent.re
  have hge : i = D.slots.length := by have := of_decide_eq_false hc; omega
  clear hc
  (refine w ?_; repeat ((first | refine VO.step rfl rfl ?_ | refine VD.end rfl rfl rfl ?_ | refine VD.mid rfl rfl rfl ?_); refine OpV.box rfl rfl rfl ?_; intro _; refine w ?_))
  refine VE.done B rfl ?_ rfl (RBayR.shutS h1 h2)
  exact ⟨by have := hB.E; omega, hB.F, hB.P, hB.T, hB.e⟩
end Go.Proofs.YtpmmkmcbimnigaaGreat

/-! Text Ol. -/
/- The document's image: Save. -/
set_option maxRecDepth 8000
set_option linter.unusedVariables false
set_option linter.unusedSimpArgs false
set_option linter.unusedSectionVars false
namespace Go.Proofs.YtpmmkmcbimnigaaGreat
open Go.RowKit Go.Sl
attribute [local irreducible] Sl.Own

set_option maxHeartbeats 4000000 in
theorem dsave_ok {W : World} {R : List SProp} (b : Nat) (D : BayD) (hdl : ∀ k, (diskB D k).length ≤ 1048576) :
    Does W Tryz.prog 17 [.pointer (some ⟨b, 0, none⟩)] (RBayR b D :: R) (β := Option Addr × Nat) (fun x => x.1 = none → (imgS D).length = 0) (fun x => sliceB x (imgS D)) (fun x => OwnB x (imgS D) :: RBayR b D :: R) := by
  refine DoesA (A := fun _ => True) ?_ (fun x _ w hw => hw.ownNone (.head _))
  refine DoesO (fun w => RBayR.openS) ?_
  rintro ⟨⟨x, sp⟩, h1, h2⟩
  dsimp only at h1 h2 ⊢
  have hl : sp.length = D.slots.length := by rw [h1, List.length_map]
  (refine Does.enter Tryz.func17 Tryz.ntmps17 rfl rfl ?_)
  (refine w ?_; repeat ((first | refine VO.step rfl rfl ?_ | refine VD.end rfl rfl rfl ?_ | refine VD.mid rfl rfl rfl ?_); refine OpV.box rfl rfl rfl ?_; intro _; refine w ?_))
  refine VO.ent (H' := Sl.Own 5 1 (.slice none 0 0) 0 [] :: rbayRow b D x sp.length :: rrest x sp :: R) (fun w hw => hw.ownNil _ _) ?_
  (first | refine VO.step rfl rfl ?_ | refine VD.end rfl rfl rfl ?_ | refine VD.mid rfl rfl rfl ?_)
  refine OpV.append (news := bytes magicI) (m := 5) st_22 rfl rfl (by (repeat first | exact .head | apply Hole.tail)) (fun w hw => Src.ofString w (TabData.string_ok tab_ok rfl) _) (by decide) (by decide) rfl ?_
  intro ao cap
  simp only [Nat.zero_add, List.nil_append]
  (refine w ?_; repeat ((first | refine VO.step rfl rfl ?_ | refine VD.end rfl rfl rfl ?_ | refine VD.mid rfl rfl rfl ?_); refine OpV.box rfl rfl rfl ?_; intro _; refine w ?_))
  refine VO.re 17 (byteV (UInt8.ofNat D.slots.length)) rfl (by rw [hl, wrap8_of]; simp [byteV]) ?_
  ((first | refine VO.step rfl rfl ?_ | refine VD.end rfl rfl rfl ?_ | refine VD.mid rfl rfl rfl ?_); refine OpV.buildSlice1 st_22 rfl rfl (by first | (simp; done) | simp [Value.oneCell']) (by decide) rfl ?_; intro nb)
  ((first | refine VO.step rfl rfl ?_ | refine VD.end rfl rfl rfl ?_ | refine VD.mid rfl rfl rfl ?_); refine OpV.appendRow st_22 rfl rfl (by (repeat first | exact .head | apply Hole.tail)) (by (focus repeat first | exact .head _ | apply List.Mem.tail)) rfl (by first | (simp; done) | simp [Value.oneCell']) ?_ ?_ rfl ?_)
  · decide
  · decide
  intro ao1 cap1
  (refine w ?_; repeat ((first | refine VO.step rfl rfl ?_ | refine VD.end rfl rfl rfl ?_ | refine VD.mid rfl rfl rfl ?_); refine OpV.box rfl rfl rfl ?_; intro _; refine w ?_))
  refine VC.ent (H' := RBayR b D :: OwnB (ao1, cap1) (magicI ++ [UInt8.ofNat D.slots.length]) :: R) (Ent.trans (Ent.re (L := rbayRow b D x sp.length :: rrest x sp :: OwnB (ao1, cap1) (magicI ++ [UInt8.ofNat D.slots.length]) :: R)) (RBayR.shutS h1 h2)) ?_
  clear h1 h2 hl
  refine VC.know (p := D.slots.length ≤ 17) (fun w hw => by obtain ⟨⟨⟨x, sp⟩, h1, h2⟩, _⟩ := RBayR.open hw; dsimp only at h1 h2; rw [h1, List.length_map]; exact h2) fun hn17 => ?_
  refine VC.loop (α := Nat × Option Addr × Nat) (fun y => y.1 ≤ D.slots.length) (fun y => RBayR b D :: OwnB (y.2.1, y.2.2) (magicI ++ [UInt8.ofNat D.slots.length] ++ (List.range y.1).flatMap (slotB D)) :: R)
    (fun y => [(0, .pointer (some ⟨b, 0, none⟩)), (3, .slice y.2.1 (magicI ++ [UInt8.ofNat D.slots.length] ++ (List.range y.1).flatMap (slotB D)).length y.2.2), (4, .int .i64 y.1)]) (fun y => D.slots.length - y.1) rfl
    (0, ao1, cap1) (Nat.zero_le _) (by rw [List.range_zero, List.flatMap_nil, List.append_nil]; exact Ent.refl) ⟨rfl, rfl, rfl, trivial⟩ ?_
  rintro ⟨i, yo, yc⟩ hi
  dsimp only at hi ⊢
  have hLb : (magicI ++ [UInt8.ofNat D.slots.length] ++ (List.range i).flatMap (slotB D)).length ≤ 100000000 := by
    rw [List.length_append]
    have h1 : ((List.range i).flatMap (slotB D)).length ≤ i * 1048578 := by
      clear hi
      induction i with
      | zero => simp
      | succ i ih =>
        rw [List.range_succ, List.flatMap_append, List.length_append]
        have := hdl i
        simp only [List.flatMap_cons, List.flatMap_nil, List.append_nil, slotB, List.length_append, lowBytes_length]
        omega
    have h2 : (magicI ++ [UInt8.ofNat D.slots.length]).length = 6 := rfl
    rw [h2]
    have h3 : i * 1048578 ≤ 17 * 1048578 := Nat.mul_le_mul_right _ (by omega)
    omega
  have hst : (List.range (i + 1)).flatMap (slotB D) = (List.range i).flatMap (slotB D) ++ slotB D i := by rw [List.range_succ, List.flatMap_append]; simp
  generalize hL : magicI ++ [UInt8.ofNat D.slots.length] ++ (List.range i).flatMap (slotB D) = L at hLb ⊢
  refine VC.obtain (fun w => RBayR.openS) ?_
  rintro ⟨⟨x, sp⟩, h1, h2⟩
  dsimp only at h1 h2 ⊢
  have hl : sp.length = D.slots.length := by rw [h1, List.length_map]
  (refine w ?_; repeat ((first | refine VO.step rfl rfl ?_ | refine VD.end rfl rfl rfl ?_ | refine VD.mid rfl rfl rfl ?_); refine OpV.box rfl rfl rfl ?_; intro _; refine w ?_))
  (refine VC.cond rfl rfl ?_ ?_ <;> intro hc)
  · have hlt : i < D.slots.length := by have := of_decide_eq_true hc; omega
    clear hc
    refine VC.ent (RBayR.shutS h1 h2) ?_
    clear h1 h2 hl
    (refine w ?_; repeat ((first | refine VO.step rfl rfl ?_ | refine VD.end rfl rfl rfl ?_ | refine VD.mid rfl rfl rfl ?_); refine OpV.box rfl rfl rfl ?_; intro _; refine w ?_))
    ((first | refine VO.step rfl rfl ?_ | refine VD.end rfl rfl rfl ?_ | refine VD.mid rfl rfl rfl ?_); refine OpV.call rfl rfl (fun _ _ => by simp) (rbayhas_ok b D (i : Int)) Ent.refl rfl ?_)
    intro _ _
    (refine w ?_; repeat ((first | refine VO.step rfl rfl ?_ | refine VD.end rfl rfl rfl ?_ | refine VD.mid rfl rfl rfl ?_); refine OpV.box rfl rfl rfl ?_; intro _; refine w ?_))
    (refine VC.join (α := (Option Addr × Nat)) (fun z => z.1 = none → (diskB D i).length = 0) (fun z => OwnB z (diskB D i) :: RBayR b D :: OwnB (yo, yc) L :: R) (fun z => [(0, .pointer (some ⟨b, 0, none⟩)), (3, .slice yo L.length yc), (4, .int .i64 i), (5, sliceB z (diskB D i))]) ?_ ?_)
    · intro Q2 jn
      have hdb : diskB D i = if (D.dev i).any (fun v => !v.k.failed) then (D.image i).1 else [] := rfl
      (refine VC.cond rfl rfl ?_ ?_ <;> intro hc)
      · rw [hc, if_pos rfl] at hdb
        (refine w ?_; repeat ((first | refine VO.step rfl rfl ?_ | refine VD.end rfl rfl rfl ?_ | refine VD.mid rfl rfl rfl ?_); refine OpV.box rfl rfl rfl ?_; intro _; refine w ?_))
        ((first | refine VO.step rfl rfl ?_ | refine VD.end rfl rfl rfl ?_ | refine VD.mid rfl rfl rfl ?_); refine OpV.call rfl rfl (fun _ _ => by simp) (rbayimage_ok b D (i : Int)) Ent.refl rfl ?_)
        rintro ⟨xo, xc⟩ hx
        rw [← hdb] at hx ⊢
        (refine w ?_; repeat ((first | refine VO.step rfl rfl ?_ | refine VD.end rfl rfl rfl ?_ | refine VD.mid rfl rfl rfl ?_); refine OpV.box rfl rfl rfl ?_; intro _; refine w ?_))
        (refine jn.to ((xo, xc) : Option Addr × Nat) hx ⟨rfl, rfl, rfl, rfl, trivial⟩ ?_; (try dsimp only); exact Ent.re)
      · rw [hc, if_neg (by decide)] at hdb
        (refine w ?_; repeat ((first | refine VO.step rfl rfl ?_ | refine VD.end rfl rfl rfl ?_ | refine VD.mid rfl rfl rfl ?_); refine OpV.box rfl rfl rfl ?_; intro _; refine w ?_))
        refine VE.ent (fun w hw => Holds.ownNil 5 1 hw) ?_
        refine jn.to ((none, 0) : Option Addr × Nat) (fun _ => by rw [hdb]; rfl) ⟨rfl, rfl, rfl, asV rfl (by rw [hdb]; rfl), trivial⟩ ?_
        rw [hdb]
        exact Ent.re
    · rintro ⟨zo, zc⟩ hz
      have hdi := hdl i
      (refine w ?_; repeat ((first | refine VO.step rfl rfl ?_ | refine VD.end rfl rfl rfl ?_ | refine VD.mid rfl rfl rfl ?_); refine OpV.box rfl rfl rfl ?_; intro _; refine w ?_))
      (first | refine VO.pure rfl rfl (PureAt.quo (a := (diskB D i).length) (b := 128) rfl rfl (by decide) (IntWalk.i64_in _ ⟨by omega, by omega⟩)) rfl ?_ | refine VD.take rfl rfl rfl (PureAt.quo (a := (diskB D i).length) (b := 128) rfl rfl (by decide) (IntWalk.i64_in _ ⟨by omega, by omega⟩)) rfl ?_ | refine VQ.pure rfl rfl (PureAt.quo (a := (diskB D i).length) (b := 128) rfl rfl (by decide) (IntWalk.i64_in _ ⟨by omega, by omega⟩)) rfl ?_ | refine VD.end rfl rfl rfl (OpV.pure (PureAt.quo (a := (diskB D i).length) (b := 128) rfl rfl (by decide) (IntWalk.i64_in _ ⟨by omega, by omega⟩)) rfl ?_))
      (refine w ?_; repeat ((first | refine VO.step rfl rfl ?_ | refine VD.end rfl rfl rfl ?_ | refine VD.mid rfl rfl rfl ?_); refine OpV.box rfl rfl rfl ?_; intro _; refine w ?_))
      generalize hdB : diskB D i = X at hdi hz ⊢
      obtain ⟨n, hn⟩ : ∃ n, X.length / 128 = n := ⟨_, rfl⟩
      rw [hn]
      have hn9 : n < 65536 := by omega
      (first | refine VO.pure rfl rfl (PureAt.rem (a := n) (b := 256) rfl rfl (by decide)) rfl ?_ | refine VD.take rfl rfl rfl (PureAt.rem (a := n) (b := 256) rfl rfl (by decide)) rfl ?_ | refine VQ.pure rfl rfl (PureAt.rem (a := n) (b := 256) rfl rfl (by decide)) rfl ?_ | refine VD.end rfl rfl rfl (OpV.pure (PureAt.rem (a := n) (b := 256) rfl rfl (by decide)) rfl ?_))
      (refine w ?_; repeat ((first | refine VO.step rfl rfl ?_ | refine VD.end rfl rfl rfl ?_ | refine VD.mid rfl rfl rfl ?_); refine OpV.box rfl rfl rfl ?_; intro _; refine w ?_))
      (first | refine VO.pure rfl rfl (PureAt.quo (a := n) (b := 256) rfl rfl (by decide) (IntWalk.i64_in _ ⟨by omega, by omega⟩)) rfl ?_ | refine VD.take rfl rfl rfl (PureAt.quo (a := n) (b := 256) rfl rfl (by decide) (IntWalk.i64_in _ ⟨by omega, by omega⟩)) rfl ?_ | refine VQ.pure rfl rfl (PureAt.quo (a := n) (b := 256) rfl rfl (by decide) (IntWalk.i64_in _ ⟨by omega, by omega⟩)) rfl ?_ | refine VD.end rfl rfl rfl (OpV.pure (PureAt.quo (a := n) (b := 256) rfl rfl (by decide) (IntWalk.i64_in _ ⟨by omega, by omega⟩)) rfl ?_))
      (refine w ?_; repeat ((first | refine VO.step rfl rfl ?_ | refine VD.end rfl rfl rfl ?_ | refine VD.mid rfl rfl rfl ?_); refine OpV.box rfl rfl rfl ?_; intro _; refine w ?_))
      refine VO.re 45 (byteV (UInt8.ofNat n)) rfl (by rw [wrap8_of]; simp [byteV]) ?_
      refine VO.re 48 (byteV (UInt8.ofNat (n / 256))) rfl (by rw [wrap8_of]; simp [byteV]) ?_
      ((first | refine VO.step rfl rfl ?_ | refine VD.end rfl rfl rfl ?_ | refine VD.mid rfl rfl rfl ?_); refine OpV.buildSlice1 st_22 rfl rfl (by first | (simp; done) | simp [Value.oneCell']) (by decide) rfl ?_; intro nb)
      ((first | refine VO.step rfl rfl ?_ | refine VD.end rfl rfl rfl ?_ | refine VD.mid rfl rfl rfl ?_); refine OpV.appendRow st_22 rfl rfl (by (repeat first | exact .head | apply Hole.tail)) (by (focus repeat first | exact .head _ | apply List.Mem.tail)) rfl (by first | (simp; done) | simp [Value.oneCell']) ?_ ?_ rfl ?_)
      · simp only [maxLen]; omega
      · omega
      intro ao2 cap2
      (refine w ?_; repeat ((first | refine VO.step rfl rfl ?_ | refine VD.end rfl rfl rfl ?_ | refine VD.mid rfl rfl rfl ?_); refine OpV.box rfl rfl rfl ?_; intro _; refine w ?_))
      have e2 : bytes L ++ [byteV (UInt8.ofNat n), byteV (UInt8.ofNat (n / 256))] = bytes (L ++ lowBytes n 2) := by
        unfold bytes
        rw [List.map_append]
        simp [lowBytes]
      have el2 : L.length + 2 = (L ++ lowBytes n 2).length := by rw [List.length_append, lowBytes_length]
      refine VO.ent (H' := Sl.Own 5 1 (.slice ao2 (L.length + 2) cap2) (L.length + 2) (bytes L ++ [byteV (UInt8.ofNat n), byteV (UInt8.ofNat (n / 256))]) :: OwnB (zo, zc) X :: RBayR b D :: R) Ent.re ?_
      rw [e2]
      (first | refine VO.step rfl rfl ?_ | refine VD.end rfl rfl rfl ?_ | refine VD.mid rfl rfl rfl ?_)
      refine OpV.append st_22 rfl rfl .head (fun w hw => (Sees.own (e := 5) (bytes_one _) hw (.tail _ (.head _)) : Sees w 1 (sliceB (zo, zc) X) X.length (bytes X)).src st_22.und) (by simp only [maxLen]; omega) (by omega) rfl ?_
      intro ao3 cap3
      (refine w ?_; repeat ((first | refine VO.step rfl rfl ?_ | refine VD.end rfl rfl rfl ?_ | refine VD.mid rfl rfl rfl ?_); refine OpV.box rfl rfl rfl ?_; intro _; refine w ?_))
      have e : L ++ lowBytes n 2 ++ X = magicI ++ [UInt8.ofNat D.slots.length] ++ (List.range (i + 1)).flatMap (slotB D) := by
        rw [hst, ← hL, slotB, hdB, hn]; simp only [List.append_assoc]
      have el : L.length + 2 + X.length = (magicI ++ [UInt8.ofNat D.slots.length] ++ (List.range (i + 1)).flatMap (slotB D)).length := by rw [← e, el2]; simp only [List.length_append]
      refine VE.round (i + 1, ao3, cap3) hlt (by dsimp only; omega) ⟨rfl, asV rfl (by rw [el]), asV rfl (by congr 1), trivial⟩ ?_
      dsimp only
      rw [el, show bytes (L ++ lowBytes n 2) ++ bytes X = bytes (magicI ++ [UInt8.ofNat D.slots.length] ++ (List.range (i + 1)).flatMap (slotB D)) by rw [← e]; unfold bytes; simp only [List.map_append]]
      exact Ent.re
  · have hge : i = D.slots.length := by have := of_decide_eq_false hc; omega
    clear hc
    subst hge
    have hL2 : L = imgBody D := hL.symm
    subst hL2
    have hs32 := crcS_lt (imgBody D)
    refine VC.ent (RBayR.shutS h1 h2) ?_
    (refine w ?_; repeat ((first | refine VO.step rfl rfl ?_ | refine VD.end rfl rfl rfl ?_ | refine VD.mid rfl rfl rfl ?_); refine OpV.box rfl rfl rfl ?_; intro _; refine w ?_))
    refine VO.know (p := yo = none → (imgBody D).length = 0) (fun w hw => Holds.ownNone hw (.tail _ (.head _))) ?_
    intro hyn
    ((first | refine VO.step rfl rfl ?_ | refine VD.end rfl rfl rfl ?_ | refine VD.mid rfl rfl rfl ?_); refine OpV.call rfl rfl (fun _ _ => by simp) (rsum_ok (cap := yc) (Rds.own (bytes_one _) (.tail _ (.head _)) (by simp) hyn) (by omega)) Ent.refl rfl ?_)
    intro _ _
    (refine w ?_; repeat ((first | refine VO.step rfl rfl ?_ | refine VD.end rfl rfl rfl ?_ | refine VD.mid rfl rfl rfl ?_); refine OpV.box rfl rfl rfl ?_; intro _; refine w ?_))
    obtain ⟨S, hS⟩ : ∃ S, (crcS (imgBody D)).toNat = S := ⟨_, rfl⟩
    rw [hS]
    refine VO.re 58 (byteV (UInt8.ofNat S)) rfl (by rw [wrap8_of]; simp [byteV]) ?_
    refine VO.re 61 (byteV (UInt8.ofNat (S / 256))) rfl (by rw [wrap8_of]; simp [byteV]) ?_
    refine VO.re 64 (byteV (UInt8.ofNat (S / 65536))) rfl (by rw [wrap8_of]; simp [byteV]) ?_
    refine VO.re 67 (byteV (UInt8.ofNat (S / 16777216))) rfl (by rw [wrap8_of]; simp [byteV]) ?_
    ((first | refine VO.step rfl rfl ?_ | refine VD.end rfl rfl rfl ?_ | refine VD.mid rfl rfl rfl ?_); refine OpV.buildSlice1 st_22 rfl rfl (by first | (simp; done) | simp [Value.oneCell']) (by decide) rfl ?_; intro nb)
    ((first | refine VO.step rfl rfl ?_ | refine VD.end rfl rfl rfl ?_ | refine VD.mid rfl rfl rfl ?_); refine OpV.appendRow st_22 rfl rfl (by (repeat first | exact .head | apply Hole.tail)) (by (focus repeat first | exact .head _ | apply List.Mem.tail)) rfl (by first | (simp; done) | simp [Value.oneCell']) ?_ ?_ rfl ?_)
    · simp only [maxLen]; omega
    · omega
    intro ao2 cap2
    (refine w ?_; repeat ((first | refine VO.step rfl rfl ?_ | refine VD.end rfl rfl rfl ?_ | refine VD.mid rfl rfl rfl ?_); refine OpV.box rfl rfl rfl ?_; intro _; refine w ?_))
    have e2 : bytes (imgBody D) ++ [byteV (UInt8.ofNat S), byteV (UInt8.ofNat (S / 256)), byteV (UInt8.ofNat (S / 65536)), byteV (UInt8.ofNat (S / 16777216))] = bytes (imgS D) := by
      unfold imgS sealI bytes
      rw [hS, List.map_append]
      simp [lowBytes]
    have el : (imgBody D).length + 4 = (imgS D).length := by unfold imgS sealI; rw [List.length_append, lowBytes_length]
    refine VE.done (ao2, cap2) rfl trivial (by rw [el]) ?_
    rw [e2, el]
    exact Ent.re
end Go.Proofs.YtpmmkmcbimnigaaGreat

/-! Text Of. -/
/- Save of what Load makes: the bytes (plain). -/
set_option maxRecDepth 8000
set_option linter.unusedVariables false
set_option linter.unusedSimpArgs false
set_option linter.unusedSectionVars false
namespace Go.Proofs.YtpmmkmcbimnigaaGreat
open Go.RowKit Go.Sl

end Go.Proofs.YtpmmkmcbimnigaaGreat

/-! Text Om. -/
/- The law ImageSaves: what it is handed; the walk. -/
set_option maxRecDepth 8000
set_option linter.unusedVariables false
set_option linter.unusedSimpArgs false
set_option linter.unusedSectionVars false
namespace Go.Proofs.YtpmmkmcbimnigaaGreat
open Go.RowKit Go.Sl
attribute [local irreducible] Sl.Own

structure Act4 where
  kind : UInt8
  slot : UInt8
  at_ : UInt8
  fill : UInt8
def Act4.cells (o : Act4) : List Value := [byteV o.kind, byteV o.slot, byteV o.at_, byteV o.fill]
theorem act4_one (o : Act4) : ∀ u ∈ o.cells, u.oneCell' = true := by
  intro u hu; simp only [Act4.cells, List.mem_cons, List.not_mem_nil, or_false] at hu
  rcases hu with h | h | h | h <;> subst h <;> rfl
theorem act4_of {W : World} {cs : List Value} (h : InT Tryz.prog W 35 cs) : ∃ o : Act4, cs = o.cells ∧ True := by
  have hl := (h.struct_inv Tryz.underlying35).1
  have c4 : Tryz.prog.cellsOf 35 = 4 := by kernel_rfl
  rw [c4] at hl
  match cs, hl with
  | [v0, v1, v2, v3], _ =>
    have k5 : Tryz.prog.cellsOf 5 = 1 := by kernel_rfl
    have f0 : InT Tryz.prog W 5 [v0] := h.field (i := 0) (off := 0) Tryz.underlying35 rfl rfl rfl k5
    have f1 : InT Tryz.prog W 5 [v1] := h.field (i := 1) (off := 1) Tryz.underlying35 rfl rfl rfl k5
    have f2 : InT Tryz.prog W 5 [v2] := h.field (i := 2) (off := 2) Tryz.underlying35 rfl rfl rfl k5
    have f3 : InT Tryz.prog W 5 [v3] := h.field (i := 3) (off := 3) Tryz.underlying35 rfl rfl rfl k5
    obtain ⟨n0, e0, w0⟩ := f0.int_inv Tryz.underlying5
    obtain ⟨n1, e1, w1⟩ := f1.int_inv Tryz.underlying5
    obtain ⟨n2, e2, w2⟩ := f2.int_inv Tryz.underlying5
    obtain ⟨n3, e3, w3⟩ := f3.int_inv Tryz.underlying5
    cases e0; cases e1; cases e2; cases e3
    obtain ⟨c0, rfl⟩ := byte_of w0
    obtain ⟨c1, rfl⟩ := byte_of w1
    obtain ⟨c2, rfl⟩ := byte_of w2
    obtain ⟨c3, rfl⟩ := byte_of w3
    exact ⟨⟨c0, c1, c2, c3⟩, rfl, trivial⟩
theorem acts4_of {W : World} {ao : Option Addr} {n cap : Nat} (h : InT Tryz.prog W 23 [.slice ao n cap]) : ∃ l : List Act4, l.length = n ∧ (∀ R, Rds W R 4 ao n (l.flatMap Act4.cells)) ∧ n ≤ 140737488351232 := by
  obtain ⟨l, hl, hr, hw, hn, hb⟩ := InT.list (sz := 4) Act4.cells (fun _ => True) ⟨0, 0, 0, 0⟩ Tryz.underlying23 (by kernel_rfl) (fun o _ => act4_one o) (fun cs h => act4_of h) h
  have b1 : Tryz.prog.bytesOf 35 = 4 := by kernel_rfl
  rw [b1] at hb
  refine ⟨l, hl, hr, by simp only [reachBytes] at hb; omega⟩
theorem act4_get (l : List Act4) (j i : Nat) (h : j < l.length) (hi : i < 4) : (l.flatMap Act4.cells)[j * 4 + i]? = (l[j].cells)[i]? := flat_at l j i h (fun _ _ => rfl) hi

/-- The document's Load of bytes of one's own. -/
theorem dimgloadR_ok {W : World} {R : List SProp} {ao : Option Addr} {cap : Nat} {l : List UInt8} (hr : Rds W R 1 ao l.length (bytes l)) (hcap : l.length ≤ cap) (hlen : l.length ≤ 140737488351232) :
    Does W Tryz.prog 24 [.slice ao l.length cap] R (β := Nat) (fun _ => True) (fun b => .tuple #[.pointer ((imgLoad l).2.map fun _ => ⟨b, 0, none⟩), .int .i64 (((imgLoad l).1 : Nat) : Int)]) (fun b => (imgLoad l).2.elim R fun ds => RBayR b (imgBay ds) :: R) := by
  have h := Does.frame (W := W) (R := R) (P := Tryz.prog) (g := 24) fun w hw => dimgload_ok (W := w) (R := []) (cap := cap) (ao := ao) (l := l) (hr.base hw) hcap hlen
  refine Does.mono h (fun x => x) (fun _ h => h) (fun _ _ => rfl) (fun x _ => ?_)
  cases (imgLoad l).2 with
  | none => exact Ent.refl
  | some ds => exact Ent.refl
/-- The sizes of the disks. -/
def sizesI (l : List UInt8) : List Int := (l.take 17).map fun c => ((c.toNat % 12 : Nat) : Int)
theorem imgS_len {D : BayD} {m : Nat} (hm : D.slots.length = m) (h17 : m ≤ 17) (hdl : ∀ k, (diskB D k).length ≤ 1048576) : (imgS D).length ≤ 1000000000 := by
  have h1 : ∀ i : Nat, ((List.range i).flatMap (slotB D)).length ≤ i * 1048578 := fun i => by
    induction i with
    | zero => simp
    | succ i ih =>
      rw [List.range_succ, List.flatMap_append, List.length_append]
      have := hdl i
      simp only [List.flatMap_cons, List.flatMap_nil, List.append_nil, slotB, List.length_append, lowBytes_length]
      omega
  have h2 := h1 D.slots.length
  have h3 : D.slots.length * 1048578 ≤ 17 * 1048578 := Nat.mul_le_mul_right _ (by omega)
  have h4 : (magicI ++ [UInt8.ofNat D.slots.length]).length = 6 := rfl
  unfold imgS sealI imgBody
  rw [List.length_append, List.length_append, lowBytes_length, h4]
  omega
set_option maxHeartbeats 8000000 in
theorem imgsaves_law {W : World} {ao so : Option Addr} {cap scap : Nat} {sz : List UInt8} {l : List Act4} (hS : RdsA W 1 so sz.length (bytes sz)) (hA : ∀ R, Rds W R 4 ao l.length (l.flatMap Act4.cells)) (hsl : sz.length ≤ 140737488351232) (hll : l.length ≤ 140737488351232) :
    Does1 W Tryz.prog 3 [.slice so sz.length scap, .slice ao l.length cap] [] (.bool true) [] := by
  (refine Does.enter Tryz.func3 Tryz.ntmps3 rfl rfl ?_)
  refine VC.ent (fun w hw => hw.ownNil 3 1) ?_
  (refine w ?_; repeat ((first | refine VO.step rfl rfl ?_ | refine VD.end rfl rfl rfl ?_ | refine VD.mid rfl rfl rfl ?_); refine OpV.box rfl rfl rfl ?_; intro _; refine w ?_))
  have hnl : (sizesI sz).length ≤ 17 := by unfold sizesI; rw [List.length_map, List.length_take]; omega
  (first | refine VO.join (α := Option Addr × Nat) (fun _ => True) (fun y => [Sl.Own 3 1 (.slice y.1 (sizesI sz).length y.2) (sizesI sz).length (intsI (sizesI sz))]) (fun y => [(1, .slice ao l.length cap), (5, .slice y.1 (sizesI sz).length y.2)]) ?_ ?_ | refine VC.joinTB (α := Option Addr × Nat) (fun _ => True) (fun y => [Sl.Own 3 1 (.slice y.1 (sizesI sz).length y.2) (sizesI sz).length (intsI (sizesI sz))]) (fun y => [(1, .slice ao l.length cap), (5, .slice y.1 (sizesI sz).length y.2)]) ?_ ?_ | refine VC.joinB (α := Option Addr × Nat) (fun _ => True) (fun y => [Sl.Own 3 1 (.slice y.1 (sizesI sz).length y.2) (sizesI sz).length (intsI (sizesI sz))]) (fun y => [(1, .slice ao l.length cap), (5, .slice y.1 (sizesI sz).length y.2)]) ?_ ?_ | refine VC.join (α := Option Addr × Nat) (fun _ => True) (fun y => [Sl.Own 3 1 (.slice y.1 (sizesI sz).length y.2) (sizesI sz).length (intsI (sizesI sz))]) (fun y => [(1, .slice ao l.length cap), (5, .slice y.1 (sizesI sz).length y.2)]) ?_ ?_)
  · intro Q2 jn
    refine VC.loop (α := Nat × Option Addr × Nat) (fun y => y.1 ≤ sz.length ∧ y.1 ≤ 17) (fun y => Sl.Own 3 1 (.slice y.2.1 y.1 y.2.2) y.1 (intsI (sizesI (sz.take y.1))) :: [])
      (fun y => [(0, .slice so sz.length scap), (1, .slice ao l.length cap), (5, .slice y.2.1 y.1 y.2.2), (6, .int .i64 y.1)]) (fun y => 17 - y.1) rfl (0, none, 0) ⟨Nat.zero_le _, Nat.zero_le _⟩ (by rw [List.take_zero]; exact Ent.refl) ⟨rfl, rfl, rfl, rfl, trivial⟩ ?_
    rintro ⟨i, no, nc⟩ ⟨hi, hi17⟩
    dsimp only at hi hi17 ⊢
    have hsub : ∀ A : List SProp, Rds W A 1 so sz.length (bytes sz) := fun A => hS A
    have hexit : ∀ (hx : i = sz.length ∨ i = 17), intsI (sizesI (sz.take i)) = intsI (sizesI sz) ∧ (sizesI sz).length = i := fun hx => by
      have e : (sz.take i).take 17 = sz.take 17 := by
        rcases hx with rfl | rfl
        · rw [List.take_of_length_le (Nat.le_refl _)]
        · rw [List.take_take]; rfl
      unfold sizesI
      rw [e]
      refine ⟨rfl, ?_⟩
      rw [List.length_map, List.length_take]
      omega
    (refine w ?_; repeat ((first | refine VO.step rfl rfl ?_ | refine VD.end rfl rfl rfl ?_ | refine VD.mid rfl rfl rfl ?_); refine OpV.box rfl rfl rfl ?_; intro _; refine w ?_))
    ((first | refine VO.split rfl rfl rfl ?_ ?_ | refine VD.split rfl rfl rfl ?_ ?_) <;> intro hb)
    rotate_left
    · have hge : i = sz.length := by have := of_decide_eq_false hb; omega
      clear hb
      obtain ⟨e1, e2⟩ := hexit (.inl hge)
      rw [e1]
      (refine w ?_; repeat ((first | refine VO.step rfl rfl ?_ | refine VD.end rfl rfl rfl ?_ | refine VD.mid rfl rfl rfl ?_); refine OpV.box rfl rfl rfl ?_; intro _; refine w ?_))
      refine jn.to (no, nc) trivial ⟨rfl, asV rfl (by rw [e2]), trivial⟩ (by dsimp only; rw [e2]; exact Ent.refl)
    have hlt : i < sz.length := by have := of_decide_eq_true hb; omega
    clear hb
    (refine w ?_; repeat ((first | refine VO.step rfl rfl ?_ | refine VD.end rfl rfl rfl ?_ | refine VD.mid rfl rfl rfl ?_); refine OpV.box rfl rfl rfl ?_; intro _; refine w ?_))
    (refine VC.cond rfl rfl ?_ ?_ <;> intro hc)
    · have h17 : i < 17 := by have := of_decide_eq_true hc; omega
      clear hc
      obtain ⟨sa, rfl⟩ : ∃ x, so = some x := by cases so with | none => have := (hS []).nil rfl; omega | some x => exact ⟨x, rfl⟩
      (refine w ?_; repeat ((first | refine VO.step rfl rfl ?_ | refine VD.end rfl rfl rfl ?_ | refine VD.mid rfl rfl rfl ?_); refine OpV.box rfl rfl rfl ?_; intro _; refine w ?_))
      (first | refine VO.pure rfl rfl (PureAt.ldR tab_ok rfl rfl (hS _) (bytes_get sz i hlt)) rfl ?_ | refine VD.take rfl rfl rfl (PureAt.ldR tab_ok rfl rfl (hS _) (bytes_get sz i hlt)) rfl ?_ | refine VQ.pure rfl rfl (PureAt.ldR tab_ok rfl rfl (hS _) (bytes_get sz i hlt)) rfl ?_ | refine VD.end rfl rfl rfl (OpV.pure (PureAt.ldR tab_ok rfl rfl (hS _) (bytes_get sz i hlt)) rfl ?_))
      obtain ⟨c, hcv⟩ : ∃ c, (sz[i]'hlt).toNat = c := ⟨_, rfl⟩
      have hc8 : c < 256 := by rw [← hcv]; exact UInt8.toNat_lt _
      rw [hcv]
      (first | refine VO.pure rfl rfl (PureAt.conv0 tab_ok rfl rfl rfl (IntWalk.i64_in _ ⟨by omega, by omega⟩)) rfl ?_ | refine VD.take rfl rfl rfl (PureAt.conv0 tab_ok rfl rfl rfl (IntWalk.i64_in _ ⟨by omega, by omega⟩)) rfl ?_ | refine VQ.pure rfl rfl (PureAt.conv0 tab_ok rfl rfl rfl (IntWalk.i64_in _ ⟨by omega, by omega⟩)) rfl ?_ | refine VD.end rfl rfl rfl (OpV.pure (PureAt.conv0 tab_ok rfl rfl rfl (IntWalk.i64_in _ ⟨by omega, by omega⟩)) rfl ?_))
      (first | refine VO.pure rfl rfl (PureAt.rem (a := c) (b := 12) rfl rfl (by decide)) rfl ?_ | refine VD.take rfl rfl rfl (PureAt.rem (a := c) (b := 12) rfl rfl (by decide)) rfl ?_ | refine VQ.pure rfl rfl (PureAt.rem (a := c) (b := 12) rfl rfl (by decide)) rfl ?_ | refine VD.end rfl rfl rfl (OpV.pure (PureAt.rem (a := c) (b := 12) rfl rfl (by decide)) rfl ?_))
      ((first | refine VO.step rfl rfl ?_ | refine VD.end rfl rfl rfl ?_ | refine VD.mid rfl rfl rfl ?_); refine OpV.buildSlice1 st_24 rfl rfl (by first | (simp; done) | simp [Value.oneCell']) (by decide) rfl ?_; intro nb)
      ((first | refine VO.step rfl rfl ?_ | refine VD.end rfl rfl rfl ?_ | refine VD.mid rfl rfl rfl ?_); refine OpV.appendRow st_24 rfl rfl (by (repeat first | exact .head | apply Hole.tail)) (by (focus repeat first | exact .head _ | apply List.Mem.tail)) rfl (by first | (simp; done) | simp [Value.oneCell']) ?_ ?_ rfl ?_)
      · simp only [maxLen]; omega
      · omega
      intro no' nc'
      (refine w ?_; repeat ((first | refine VO.step rfl rfl ?_ | refine VD.end rfl rfl rfl ?_ | refine VD.mid rfl rfl rfl ?_); refine OpV.box rfl rfl rfl ?_; intro _; refine w ?_))
      have hst : intsI (sizesI (sz.take (i + 1))) = intsI (sizesI (sz.take i)) ++ [.int .i64 ((c % 12 : Nat) : Int)] := by
        unfold sizesI
        have t1 : (sz.take (i + 1)).take 17 = sz.take (i + 1) := List.take_of_length_le (by rw [List.length_take]; omega)
        have t0 : (sz.take i).take 17 = sz.take i := List.take_of_length_le (by rw [List.length_take]; omega)
        rw [t1, t0, List.take_succ_eq_append_getElem hlt, List.map_append, List.map_singleton, hcv]
        unfold intsI
        rw [List.map_append]; rfl
      refine VE.round (i + 1, no', nc') ⟨hlt, h17⟩ (by dsimp only; omega) ⟨rfl, rfl, rfl, asV rfl (by congr 1), trivial⟩ ?_
      dsimp only
      rw [hst]
      exact Ent.re
    have hge : i = 17 := by have := of_decide_eq_false hc; omega
    clear hc
    obtain ⟨e1, e2⟩ := hexit (.inr hge)
    rw [e1]
    (refine w ?_; repeat ((first | refine VO.step rfl rfl ?_ | refine VD.end rfl rfl rfl ?_ | refine VD.mid rfl rfl rfl ?_); refine OpV.box rfl rfl rfl ?_; intro _; refine w ?_))
    refine jn.to (no, nc) trivial ⟨rfl, asV rfl (by rw [e2]), trivial⟩ (by dsimp only; rw [e2]; exact Ent.refl)
  rintro ⟨no, nc⟩ _
  dsimp only
  generalize hns : sizesI sz = ns at hnl ⊢
  (refine w ?_; repeat ((first | refine VO.step rfl rfl ?_ | refine VD.end rfl rfl rfl ?_ | refine VD.mid rfl rfl rfl ?_); refine OpV.box rfl rfl rfl ?_; intro _; refine w ?_))
  refine VO.know (p := no = none → ns.length = 0) (fun w hw => Holds.ownNone hw (.head _)) fun hnn => ?_
  have hnr : ∀ A : List SProp, Sl.Own 3 1 (.slice no ns.length nc) ns.length (intsI ns) ∈ A → Rds W A 1 no ns.length (intsI ns) := fun A m => Rds.own (intsI_one _) m (by simp) hnn
  ((first | refine VO.step rfl rfl ?_ | refine VD.end rfl rfl rfl ?_ | refine VD.mid rfl rfl rfl ?_); refine OpV.call rfl rfl (fun _ _ => by simp) (baynew_ok (cap := nc) (hnr _ (.head _)) (by omega)) Ent.refl rfl ?_)
  intro xb hxb
  by_cases hE : bayE ns = 0
  rotate_left
  · obtain rfl : xb = none := by cases xb with | none => rfl | some b => rw [decide_eq_false hE] at hxb; cases hxb
    refine VO.ent (H' := Sl.Own 3 1 (.slice no ns.length nc) ns.length (intsI ns) :: []) (fun w hw => hw) ?_
    (refine w ?_; repeat ((first | refine VO.step rfl rfl ?_ | refine VD.end rfl rfl rfl ?_ | refine VD.mid rfl rfl rfl ?_); refine OpV.box rfl rfl rfl ?_; intro _; refine w ?_))
    ((first | refine VO.step rfl rfl ?_ | refine VD.end rfl rfl rfl ?_ | refine VD.mid rfl rfl rfl ?_); refine OpV.call rfl rfl (fun _ _ => by simp) (rbaynew_ok (cap := nc) (hnr _ (.head _)) (by omega)) Ent.refl rfl ?_)
    intro xr hxr
    obtain rfl : xr = none := by cases xr with | none => rfl | some b => rw [decide_eq_false hE] at hxr; cases hxr
    refine VO.ent (H' := []) (fun w hw => hw.tail) ?_
    (refine w ?_; repeat ((first | refine VO.step rfl rfl ?_ | refine VD.end rfl rfl rfl ?_ | refine VD.mid rfl rfl rfl ?_); refine OpV.box rfl rfl rfl ?_; intro _; refine w ?_))
    (first | refine VO.gF rfl rfl rfl (by simp) ?_ | refine VD.gF rfl rfl rfl (by simp) ?_)
    (refine w ?_; repeat ((first | refine VO.step rfl rfl ?_ | refine VD.end rfl rfl rfl ?_ | refine VD.mid rfl rfl rfl ?_); refine OpV.box rfl rfl rfl ?_; intro _; refine w ?_))
    ((first | refine VO.step rfl rfl ?_ | refine VD.end rfl rfl rfl ?_ | refine VD.mid rfl rfl rfl ?_); refine OpV.call rfl rfl (fun _ _ => by simp) (imgknown_ok) Ent.refl rfl ?_)
    intro _ _
    (refine w ?_; repeat ((first | refine VO.step rfl rfl ?_ | refine VD.end rfl rfl rfl ?_ | refine VD.mid rfl rfl rfl ?_); refine OpV.box rfl rfl rfl ?_; intro _; refine w ?_))
    (first | exact VE.done1 rfl rfl Ent.refl | exact VE.done1N rfl rfl Ent.refl)
  obtain ⟨b, rfl⟩ : ∃ b, xb = some b := by cases xb with | none => rw [decide_eq_true hE] at hxb; cases hxb | some b => exact ⟨b, rfl⟩
  refine VO.ent (H' := Sl.Own 3 1 (.slice no ns.length nc) ns.length (intsI ns) :: BayR b (BayD.new ns) :: []) (fun w hw => hw.perm (List.Perm.swap _ _ _)) ?_
  (refine w ?_; repeat ((first | refine VO.step rfl rfl ?_ | refine VD.end rfl rfl rfl ?_ | refine VD.mid rfl rfl rfl ?_); refine OpV.box rfl rfl rfl ?_; intro _; refine w ?_))
  ((first | refine VO.step rfl rfl ?_ | refine VD.end rfl rfl rfl ?_ | refine VD.mid rfl rfl rfl ?_); refine OpV.call rfl rfl (fun _ _ => by simp) (rbaynew_ok (cap := nc) (hnr _ (.head _)) (by omega)) Ent.refl rfl ?_)
  intro xr hxr
  obtain ⟨r, rfl⟩ : ∃ r, xr = some r := by cases xr with | none => rw [decide_eq_true hE] at hxr; cases hxr | some r => exact ⟨r, rfl⟩
  refine VO.ent (H' := RBayR r (BayD.new ns) :: BayR b (BayD.new ns) :: Sl.Own 3 1 (.slice no ns.length nc) ns.length (intsI ns) :: []) (fun w hw => (show Ent W (RBayR r (BayD.new ns) :: Sl.Own 3 1 (.slice no ns.length nc) ns.length (intsI ns) :: BayR b (BayD.new ns) :: []) _ from Ent.re) w hw) ?_
  rw [hE]
  (refine w ?_; repeat ((first | refine VO.step rfl rfl ?_ | refine VD.end rfl rfl rfl ?_ | refine VD.mid rfl rfl rfl ?_); refine OpV.box rfl rfl rfl ?_; intro _; refine w ?_))
  ((first | refine VO.step rfl rfl ?_ | refine VD.end rfl rfl rfl ?_ | refine VD.mid rfl rfl rfl ?_); refine OpV.call rfl rfl (fun _ _ => by simp) (imgknown_ok) Ent.refl rfl ?_)
  intro _ _
  (refine w ?_; repeat ((first | refine VO.step rfl rfl ?_ | refine VD.end rfl rfl rfl ?_ | refine VD.mid rfl rfl rfl ?_); refine OpV.box rfl rfl rfl ?_; intro _; refine w ?_))
  (first | refine VO.join (α := BayD) (fun D => Calm D ns.length 200) (fun D => RBayR r D :: BayR b D :: Sl.Own 3 1 (.slice no ns.length nc) ns.length (intsI ns) :: []) (fun _ => [(5, .slice no ns.length nc), (7, .pointer (some ⟨b, 0, none⟩)), (9, .pointer (some ⟨r, 0, none⟩))]) ?_ ?_ | refine VC.joinTB (α := BayD) (fun D => Calm D ns.length 200) (fun D => RBayR r D :: BayR b D :: Sl.Own 3 1 (.slice no ns.length nc) ns.length (intsI ns) :: []) (fun _ => [(5, .slice no ns.length nc), (7, .pointer (some ⟨b, 0, none⟩)), (9, .pointer (some ⟨r, 0, none⟩))]) ?_ ?_ | refine VC.joinB (α := BayD) (fun D => Calm D ns.length 200) (fun D => RBayR r D :: BayR b D :: Sl.Own 3 1 (.slice no ns.length nc) ns.length (intsI ns) :: []) (fun _ => [(5, .slice no ns.length nc), (7, .pointer (some ⟨b, 0, none⟩)), (9, .pointer (some ⟨r, 0, none⟩))]) ?_ ?_ | refine VC.join (α := BayD) (fun D => Calm D ns.length 200) (fun D => RBayR r D :: BayR b D :: Sl.Own 3 1 (.slice no ns.length nc) ns.length (intsI ns) :: []) (fun _ => [(5, .slice no ns.length nc), (7, .pointer (some ⟨b, 0, none⟩)), (9, .pointer (some ⟨r, 0, none⟩))]) ?_ ?_)
  · intro Q2 jn
    refine VC.loop (α := Nat × BayD) (fun y => y.1 ≤ l.length ∧ y.1 ≤ 200 ∧ Calm y.2 ns.length y.1) (fun y => RBayR r y.2 :: BayR b y.2 :: Sl.Own 3 1 (.slice no ns.length nc) ns.length (intsI ns) :: [])
      (fun y => [(1, .slice ao l.length cap), (5, .slice no ns.length nc), (7, .pointer (some ⟨b, 0, none⟩)), (9, .pointer (some ⟨r, 0, none⟩)), (11, .int .i64 y.1)]) (fun y => 200 - y.1) rfl (0, BayD.new ns) ⟨Nat.zero_le _, Nat.zero_le _, Calm.new⟩ Ent.refl ⟨rfl, rfl, rfl, rfl, rfl, trivial⟩ ?_
    rintro ⟨j, D⟩ ⟨hj, hj2, hC⟩
    dsimp only at hj hj2 hC ⊢
    (refine w ?_; repeat ((first | refine VO.step rfl rfl ?_ | refine VD.end rfl rfl rfl ?_ | refine VD.mid rfl rfl rfl ?_); refine OpV.box rfl rfl rfl ?_; intro _; refine w ?_))
    ((first | refine VO.split rfl rfl rfl ?_ ?_ | refine VD.split rfl rfl rfl ?_ ?_) <;> intro hb)
    rotate_left
    · (refine w ?_; repeat ((first | refine VO.step rfl rfl ?_ | refine VD.end rfl rfl rfl ?_ | refine VD.mid rfl rfl rfl ?_); refine OpV.box rfl rfl rfl ?_; intro _; refine w ?_))
      refine jn.to D (hC.mono hj2) ⟨rfl, rfl, rfl, trivial⟩ Ent.refl
    have hlt : j < l.length := by have := of_decide_eq_true hb; omega
    clear hb
    (refine w ?_; repeat ((first | refine VO.step rfl rfl ?_ | refine VD.end rfl rfl rfl ?_ | refine VD.mid rfl rfl rfl ?_); refine OpV.box rfl rfl rfl ?_; intro _; refine w ?_))
    (refine VC.cond rfl rfl ?_ ?_ <;> intro hc)
    rotate_left
    · (refine w ?_; repeat ((first | refine VO.step rfl rfl ?_ | refine VD.end rfl rfl rfl ?_ | refine VD.mid rfl rfl rfl ?_); refine OpV.box rfl rfl rfl ?_; intro _; refine w ?_))
      refine jn.to D (hC.mono hj2) ⟨rfl, rfl, rfl, trivial⟩ Ent.refl
    have h200 : j < 200 := by have := of_decide_eq_true hc; omega
    clear hc
    obtain ⟨aa, rfl⟩ : ∃ x, ao = some x := by cases ao with | none => have := (hA []).nil rfl; omega | some x => exact ⟨x, rfl⟩
    (refine w ?_; repeat ((first | refine VO.step rfl rfl ?_ | refine VD.end rfl rfl rfl ?_ | refine VD.mid rfl rfl rfl ?_); refine OpV.box rfl rfl rfl ?_; intro _; refine w ?_))
    (first | refine VO.pure rfl rfl (.ldRc tab_ok rfl rfl (hA _) ((act4_get l j 1 hlt (by decide)).trans rfl)) rfl ?_ | refine VD.take rfl rfl rfl (.ldRc tab_ok rfl rfl (hA _) ((act4_get l j 1 hlt (by decide)).trans rfl)) rfl ?_ | refine VQ.pure rfl rfl (.ldRc tab_ok rfl rfl (hA _) ((act4_get l j 1 hlt (by decide)).trans rfl)) rfl ?_ | refine VD.end rfl rfl rfl (OpV.pure (.ldRc tab_ok rfl rfl (hA _) ((act4_get l j 1 hlt (by decide)).trans rfl)) rfl ?_))
    obtain ⟨ks, hks⟩ : ∃ c, l[j].slot.toNat = c := ⟨_, rfl⟩
    have hks8 : ks < 256 := by rw [← hks]; exact UInt8.toNat_lt _
    refine VO.re 89 (.int .u8 (ks : Int)) rfl (by rw [← hks]; rfl) ?_
    (first | refine VO.pure rfl rfl (PureAt.conv0 tab_ok rfl rfl rfl (IntWalk.i64_in _ ⟨by omega, by omega⟩)) rfl ?_ | refine VD.take rfl rfl rfl (PureAt.conv0 tab_ok rfl rfl rfl (IntWalk.i64_in _ ⟨by omega, by omega⟩)) rfl ?_ | refine VQ.pure rfl rfl (PureAt.conv0 tab_ok rfl rfl rfl (IntWalk.i64_in _ ⟨by omega, by omega⟩)) rfl ?_ | refine VD.end rfl rfl rfl (OpV.pure (PureAt.conv0 tab_ok rfl rfl rfl (IntWalk.i64_in _ ⟨by omega, by omega⟩)) rfl ?_))
    (refine w ?_; repeat ((first | refine VO.step rfl rfl ?_ | refine VD.end rfl rfl rfl ?_ | refine VD.mid rfl rfl rfl ?_); refine OpV.box rfl rfl rfl ?_; intro _; refine w ?_))
    refine VO.re 93 (.int .i64 ((ns.length + 1 : Nat) : Int)) rfl (by congr 1) ?_
    (first | refine VO.pure rfl rfl (PureAt.rem (a := ks) (b := ns.length + 1) rfl rfl (by omega)) rfl ?_ | refine VD.take rfl rfl rfl (PureAt.rem (a := ks) (b := ns.length + 1) rfl rfl (by omega)) rfl ?_ | refine VQ.pure rfl rfl (PureAt.rem (a := ks) (b := ns.length + 1) rfl rfl (by omega)) rfl ?_ | refine VD.end rfl rfl rfl (OpV.pure (PureAt.rem (a := ks) (b := ns.length + 1) rfl rfl (by omega)) rfl ?_))
    obtain ⟨k, hk⟩ : ∃ k, ks % (ns.length + 1) = k := ⟨_, rfl⟩
    rw [hk]
    (refine w ?_; repeat ((first | refine VO.step rfl rfl ?_ | refine VD.end rfl rfl rfl ?_ | refine VD.mid rfl rfl rfl ?_); refine OpV.box rfl rfl rfl ?_; intro _; refine w ?_))
    (first | refine VO.step rfl rfl ?_ | refine VD.end rfl rfl rfl ?_ | refine VD.mid rfl rfl rfl ?_)
    refine OpV.makeSlice1 (m := 128) st_22 rfl rfl rfl (by omega) (by simp only [maxLen]; omega) rfl ?_
    intro nz
    (refine w ?_; repeat ((first | refine VO.step rfl rfl ?_ | refine VD.end rfl rfl rfl ?_ | refine VD.mid rfl rfl rfl ?_); refine OpV.box rfl rfl rfl ?_; intro _; refine w ?_))
    obtain ⟨f, hf⟩ : ∃ f, l[j].fill = f := ⟨_, rfl⟩
    refine VC.loop (α := Nat) (fun i => i ≤ 128) (fun i => Sl.Own 5 1 (.slice (some ⟨nz, 0, none⟩) 128 128) 128 (List.replicate i (byteV f) ++ List.replicate (128 - i) (.int .u8 0)) :: RBayR r D :: BayR b D :: Sl.Own 3 1 (.slice no ns.length nc) ns.length (intsI ns) :: [])
      (fun i => [(1, .slice (some aa) l.length cap), (5, .slice no ns.length nc), (7, .pointer (some ⟨b, 0, none⟩)), (9, .pointer (some ⟨r, 0, none⟩)), (11, .int .i64 j), (12, .int .i64 k), (13, .slice (some ⟨nz, 0, none⟩) 128 128), (14, .int .i64 i)]) (fun i => 128 - i) rfl 0 (Nat.zero_le _) Ent.refl ⟨rfl, rfl, rfl, rfl, rfl, rfl, rfl, rfl, trivial⟩ ?_
    intro i hi
    (refine w ?_; repeat ((first | refine VO.step rfl rfl ?_ | refine VD.end rfl rfl rfl ?_ | refine VD.mid rfl rfl rfl ?_); refine OpV.box rfl rfl rfl ?_; intro _; refine w ?_))
    (refine VC.cond rfl rfl ?_ ?_ <;> intro hc)
    · have hi1 : i < 128 := by have := of_decide_eq_true hc; omega
      clear hc
      (refine w ?_; repeat ((first | refine VO.step rfl rfl ?_ | refine VD.end rfl rfl rfl ?_ | refine VD.mid rfl rfl rfl ?_); refine OpV.box rfl rfl rfl ?_; intro _; refine w ?_))
      (first | refine VO.pure rfl rfl (.ldRc tab_ok rfl rfl (hA _) ((act4_get l j 3 hlt (by decide)).trans rfl)) rfl ?_ | refine VD.take rfl rfl rfl (.ldRc tab_ok rfl rfl (hA _) ((act4_get l j 3 hlt (by decide)).trans rfl)) rfl ?_ | refine VQ.pure rfl rfl (.ldRc tab_ok rfl rfl (hA _) ((act4_get l j 3 hlt (by decide)).trans rfl)) rfl ?_ | refine VD.end rfl rfl rfl (OpV.pure (.ldRc tab_ok rfl rfl (hA _) ((act4_get l j 3 hlt (by decide)).trans rfl)) rfl ?_))
      (refine w ?_; repeat ((first | refine VO.step rfl rfl ?_ | refine VD.end rfl rfl rfl ?_ | refine VD.mid rfl rfl rfl ?_); refine OpV.box rfl rfl rfl ?_; intro _; refine w ?_))
      (first | refine VO.step rfl rfl ?_ | refine VD.end rfl rfl rfl ?_ | refine VD.mid rfl rfl rfl ?_)
      refine OpV.stO2 (xs' := List.replicate (i + 1) (byteV f) ++ List.replicate (128 - (i + 1)) (.int .u8 0)) tab_ok rfl rfl rfl rfl (by (repeat first | exact .head | apply Hole.tail)) (by rw [List.length_append, List.length_replicate, List.length_replicate]; omega) ?_ ?_
      · have h1 := setNext (List.replicate i (byteV f)) (.int .u8 0) (byteV f) (128 - i) (by omega)
        rw [List.length_replicate] at h1
        rw [hf, h1, List.replicate_succ', show 128 - (i + 1) = 128 - i - 1 by omega]
      (refine w ?_; repeat ((first | refine VO.step rfl rfl ?_ | refine VD.end rfl rfl rfl ?_ | refine VD.mid rfl rfl rfl ?_); refine OpV.box rfl rfl rfl ?_; intro _; refine w ?_))
      refine VE.round (i + 1) hi1 (by omega) ⟨rfl, rfl, rfl, rfl, rfl, rfl, rfl, asV rfl (by congr 1), trivial⟩ Ent.re
    have hge : i = 128 := by have := of_decide_eq_false hc; omega
    clear hc
    subst hge
    (refine w ?_; repeat ((first | refine VO.step rfl rfl ?_ | refine VD.end rfl rfl rfl ?_ | refine VD.mid rfl rfl rfl ?_); refine OpV.box rfl rfl rfl ?_; intro _; refine w ?_))
    (first | refine VO.pure rfl rfl (.ldRc tab_ok rfl rfl (hA _) ((act4_get l j 0 hlt (by decide)).trans rfl)) rfl ?_ | refine VD.take rfl rfl rfl (.ldRc tab_ok rfl rfl (hA _) ((act4_get l j 0 hlt (by decide)).trans rfl)) rfl ?_ | refine VQ.pure rfl rfl (.ldRc tab_ok rfl rfl (hA _) ((act4_get l j 0 hlt (by decide)).trans rfl)) rfl ?_ | refine VD.end rfl rfl rfl (OpV.pure (.ldRc tab_ok rfl rfl (hA _) ((act4_get l j 0 hlt (by decide)).trans rfl)) rfl ?_))
    obtain ⟨kd, hkd⟩ : ∃ c, l[j].kind.toNat = c := ⟨_, rfl⟩
    refine VO.re 114 (.int .u8 (kd : Int)) rfl (by rw [← hkd]; rfl) ?_
    (first | refine VO.pure rfl rfl (PureAt.rem (a := kd) (b := 5) rfl rfl (by decide)) rfl ?_ | refine VD.take rfl rfl rfl (PureAt.rem (a := kd) (b := 5) rfl rfl (by decide)) rfl ?_ | refine VQ.pure rfl rfl (PureAt.rem (a := kd) (b := 5) rfl rfl (by decide)) rfl ?_ | refine VD.end rfl rfl rfl (OpV.pure (PureAt.rem (a := kd) (b := 5) rfl rfl (by decide)) rfl ?_))
    obtain ⟨kk, hkk⟩ : ∃ c, kd % 5 = c := ⟨_, rfl⟩
    rw [hkk]
    obtain ⟨Z, hZ⟩ : ∃ Z : List UInt8, Z = List.replicate 128 f := ⟨_, rfl⟩
    have hZl : Z.length = 128 := by rw [hZ, List.length_replicate]
    have hZb : List.replicate 128 (byteV f) ++ List.replicate (128 - 128) (.int .u8 0) = bytes Z := by rw [hZ]; unfold bytes; rw [List.map_replicate]; exact List.append_nil _
    rw [hZb]
    have hZr : ∀ A : List SProp, Sl.Own 5 1 (.slice (some ⟨nz, 0, none⟩) 128 128) 128 (bytes Z) ∈ A → Rds W A 1 (some ⟨nz, 0, none⟩) Z.length (bytes Z) := fun A m => by rw [hZl]; exact Rds.own (bytes_one _) m (by simp [hZl]) (fun h => by cases h)
    have hcapd : ∀ v, D.dev (k : Int) = some v → v.k.cache.length ≤ 1000000000 := fun v hv => by have := (hC.dev hv).2.1; omega
    have hdvc : (D.dv (k : Int)).k.cache.length ≤ 1000000000 := by have := dv_cap hC.cap (k : Int); omega
    have hdk : D.dark = true → D.trip ≠ 0 := fun h => by rw [hC.dark] at h; cases h
    have hww : ∀ v, D.dev (k : Int) = some v → v.worn = true → 0 ≤ v.left := fun v hv h => absurd h (by rw [(hC.dev hv).1]; simp)
    (refine w ?_; repeat ((first | refine VO.step rfl rfl ?_ | refine VD.end rfl rfl rfl ?_ | refine VD.mid rfl rfl rfl ?_); refine OpV.box rfl rfl rfl ?_; intro _; refine w ?_))
    (refine VC.cond rfl rfl ?_ ?_ <;> intro hc)
    · (refine w ?_; repeat ((first | refine VO.step rfl rfl ?_ | refine VD.end rfl rfl rfl ?_ | refine VD.mid rfl rfl rfl ?_); refine OpV.box rfl rfl rfl ?_; intro _; refine w ?_))
      (((first | refine VO.step rfl rfl ?_ | refine VD.end rfl rfl rfl ?_ | refine VD.mid rfl rfl rfl ?_); refine OpV.call rfl rfl (fun _ _ => by simp) (bayflush_ok b D (k : Int)) Ent.re rfl ?_); intro _ _)
      (refine w ?_; repeat ((first | refine VO.step rfl rfl ?_ | refine VD.end rfl rfl rfl ?_ | refine VD.mid rfl rfl rfl ?_); refine OpV.box rfl rfl rfl ?_; intro _; refine w ?_))
      (((first | refine VO.step rfl rfl ?_ | refine VD.end rfl rfl rfl ?_ | refine VD.mid rfl rfl rfl ?_); refine OpV.call rfl rfl (fun _ _ => by simp) (rbayflush_ok r D (k : Int) hdk hww hdvc) Ent.re rfl ?_); intro _ _)
      (refine w ?_; repeat ((first | refine VO.step rfl rfl ?_ | refine VD.end rfl rfl rfl ?_ | refine VD.mid rfl rfl rfl ?_); refine OpV.box rfl rfl rfl ?_; intro _; refine w ?_))
      refine VE.round (j + 1, (D.flush (k : Int)).2) ⟨hlt, h200, hC.flush (by omega) _⟩ (by dsimp only; omega) ⟨rfl, rfl, rfl, rfl, asV rfl (by congr 1), trivial⟩ Ent.re
    (refine w ?_; repeat ((first | refine VO.step rfl rfl ?_ | refine VD.end rfl rfl rfl ?_ | refine VD.mid rfl rfl rfl ?_); refine OpV.box rfl rfl rfl ?_; intro _; refine w ?_))
    (refine VC.cond rfl rfl ?_ ?_ <;> intro hc)
    · (refine w ?_; repeat ((first | refine VO.step rfl rfl ?_ | refine VD.end rfl rfl rfl ?_ | refine VD.mid rfl rfl rfl ?_); refine OpV.box rfl rfl rfl ?_; intro _; refine w ?_))
      (((first | refine VO.step rfl rfl ?_ | refine VD.end rfl rfl rfl ?_ | refine VD.mid rfl rfl rfl ?_); refine OpV.call rfl rfl (fun _ _ => by simp) (bayfail_ok b D (k : Int)) Ent.re rfl ?_); intro _ _)
      (refine w ?_; repeat ((first | refine VO.step rfl rfl ?_ | refine VD.end rfl rfl rfl ?_ | refine VD.mid rfl rfl rfl ?_); refine OpV.box rfl rfl rfl ?_; intro _; refine w ?_))
      (((first | refine VO.step rfl rfl ?_ | refine VD.end rfl rfl rfl ?_ | refine VD.mid rfl rfl rfl ?_); refine OpV.call rfl rfl (fun _ _ => by simp) (rbayfail_ok r D (k : Int)) Ent.re rfl ?_); intro _ _)
      (refine w ?_; repeat ((first | refine VO.step rfl rfl ?_ | refine VD.end rfl rfl rfl ?_ | refine VD.mid rfl rfl rfl ?_); refine OpV.box rfl rfl rfl ?_; intro _; refine w ?_))
      refine VE.round (j + 1, (D.fail (k : Int)).2) ⟨hlt, h200, (hC.fail _).mono (Nat.le_succ _)⟩ (by dsimp only; omega) ⟨rfl, rfl, rfl, rfl, asV rfl (by congr 1), trivial⟩ Ent.re
    (refine w ?_; repeat ((first | refine VO.step rfl rfl ?_ | refine VD.end rfl rfl rfl ?_ | refine VD.mid rfl rfl rfl ?_); refine OpV.box rfl rfl rfl ?_; intro _; refine w ?_))
    (refine VC.cond rfl rfl ?_ ?_ <;> intro hc)
    · (refine w ?_; repeat ((first | refine VO.step rfl rfl ?_ | refine VD.end rfl rfl rfl ?_ | refine VD.mid rfl rfl rfl ?_); refine OpV.box rfl rfl rfl ?_; intro _; refine w ?_))
      (((first | refine VO.step rfl rfl ?_ | refine VD.end rfl rfl rfl ?_ | refine VD.mid rfl rfl rfl ?_); refine OpV.call rfl rfl (fun _ _ => by simp) (baypull_ok b D (k : Int)) Ent.re rfl ?_); intro _ _)
      (refine w ?_; repeat ((first | refine VO.step rfl rfl ?_ | refine VD.end rfl rfl rfl ?_ | refine VD.mid rfl rfl rfl ?_); refine OpV.box rfl rfl rfl ?_; intro _; refine w ?_))
      (((first | refine VO.step rfl rfl ?_ | refine VD.end rfl rfl rfl ?_ | refine VD.mid rfl rfl rfl ?_); refine OpV.call rfl rfl (fun _ _ => by simp) (rbaypull_ok r D (k : Int) hcapd) Ent.re rfl ?_); intro _ _)
      (refine w ?_; repeat ((first | refine VO.step rfl rfl ?_ | refine VD.end rfl rfl rfl ?_ | refine VD.mid rfl rfl rfl ?_); refine OpV.box rfl rfl rfl ?_; intro _; refine w ?_))
      refine VE.round (j + 1, (D.pull (k : Int)).2) ⟨hlt, h200, (hC.pull _).mono (Nat.le_succ _)⟩ (by dsimp only; omega) ⟨rfl, rfl, rfl, rfl, asV rfl (by congr 1), trivial⟩ Ent.re
    (refine w ?_; repeat ((first | refine VO.step rfl rfl ?_ | refine VD.end rfl rfl rfl ?_ | refine VD.mid rfl rfl rfl ?_); refine OpV.box rfl rfl rfl ?_; intro _; refine w ?_))
    obtain ⟨ka, hka⟩ : ∃ c, l[j].at_.toNat = c := ⟨_, rfl⟩
    have hka8 : ka < 256 := by rw [← hka]; exact UInt8.toNat_lt _
    have c2 : (l.flatMap Act4.cells)[j * 4 + 2]? = some (.int .u8 (ka : Int)) := by rw [act4_get l j 2 hlt (by decide), ← hka]; rfl
    (first | refine VO.pure rfl rfl (.ldRc tab_ok rfl rfl (hA _) c2) rfl ?_ | refine VD.take rfl rfl rfl (.ldRc tab_ok rfl rfl (hA _) c2) rfl ?_ | refine VQ.pure rfl rfl (.ldRc tab_ok rfl rfl (hA _) c2) rfl ?_ | refine VD.end rfl rfl rfl (OpV.pure (.ldRc tab_ok rfl rfl (hA _) c2) rfl ?_))
    (first | refine VO.pure rfl rfl (PureAt.conv0 tab_ok rfl rfl rfl (IntWalk.i64_in _ ⟨by omega, by omega⟩)) rfl ?_ | refine VD.take rfl rfl rfl (PureAt.conv0 tab_ok rfl rfl rfl (IntWalk.i64_in _ ⟨by omega, by omega⟩)) rfl ?_ | refine VQ.pure rfl rfl (PureAt.conv0 tab_ok rfl rfl rfl (IntWalk.i64_in _ ⟨by omega, by omega⟩)) rfl ?_ | refine VD.end rfl rfl rfl (OpV.pure (PureAt.conv0 tab_ok rfl rfl rfl (IntWalk.i64_in _ ⟨by omega, by omega⟩)) rfl ?_))
    (first | refine VO.pure rfl rfl (PureAt.rem (a := ka) (b := 12) rfl rfl (by decide)) rfl ?_ | refine VD.take rfl rfl rfl (PureAt.rem (a := ka) (b := 12) rfl rfl (by decide)) rfl ?_ | refine VQ.pure rfl rfl (PureAt.rem (a := ka) (b := 12) rfl rfl (by decide)) rfl ?_ | refine VD.end rfl rfl rfl (OpV.pure (PureAt.rem (a := ka) (b := 12) rfl rfl (by decide)) rfl ?_))
    obtain ⟨kt, hkt⟩ : ∃ c, ka % 12 = c := ⟨_, rfl⟩
    rw [hkt]
    (refine w ?_; repeat ((first | refine VO.step rfl rfl ?_ | refine VD.end rfl rfl rfl ?_ | refine VD.mid rfl rfl rfl ?_); refine OpV.box rfl rfl rfl ?_; intro _; refine w ?_))
    refine VO.ent (H' := BayR b D :: Sl.Own 5 1 (.slice (some ⟨nz, 0, none⟩) 128 128) 128 (bytes Z) :: RBayR r D :: Sl.Own 3 1 (.slice no ns.length nc) ns.length (intsI ns) :: []) Ent.re ?_
    have hW1 := baywrite_ok (W := W) (R := Sl.Own 5 1 (.slice (some ⟨nz, 0, none⟩) 128 128) 128 (bytes Z) :: RBayR r D :: Sl.Own 3 1 (.slice no ns.length nc) ns.length (intsI ns) :: []) (cap := 128) b D (k : Int) (kt : Int) hdvc (.inr (hZr _ (.head _)))
    rw [hZl] at hW1
    ((first | refine VO.step rfl rfl ?_ | refine VD.end rfl rfl rfl ?_ | refine VD.mid rfl rfl rfl ?_); refine OpV.call rfl rfl (fun _ _ => by simp) (hW1) Ent.refl rfl ?_)
    intro _ _
    (refine w ?_; repeat ((first | refine VO.step rfl rfl ?_ | refine VD.end rfl rfl rfl ?_ | refine VD.mid rfl rfl rfl ?_); refine OpV.box rfl rfl rfl ?_; intro _; refine w ?_))
    (first | refine VO.pure rfl rfl (.ldRc tab_ok rfl rfl (hA _) c2) rfl ?_ | refine VD.take rfl rfl rfl (.ldRc tab_ok rfl rfl (hA _) c2) rfl ?_ | refine VQ.pure rfl rfl (.ldRc tab_ok rfl rfl (hA _) c2) rfl ?_ | refine VD.end rfl rfl rfl (OpV.pure (.ldRc tab_ok rfl rfl (hA _) c2) rfl ?_))
    (first | refine VO.pure rfl rfl (PureAt.conv0 tab_ok rfl rfl rfl (IntWalk.i64_in _ ⟨by omega, by omega⟩)) rfl ?_ | refine VD.take rfl rfl rfl (PureAt.conv0 tab_ok rfl rfl rfl (IntWalk.i64_in _ ⟨by omega, by omega⟩)) rfl ?_ | refine VQ.pure rfl rfl (PureAt.conv0 tab_ok rfl rfl rfl (IntWalk.i64_in _ ⟨by omega, by omega⟩)) rfl ?_ | refine VD.end rfl rfl rfl (OpV.pure (PureAt.conv0 tab_ok rfl rfl rfl (IntWalk.i64_in _ ⟨by omega, by omega⟩)) rfl ?_))
    (first | refine VO.pure rfl rfl (PureAt.rem (a := ka) (b := 12) rfl rfl (by decide)) rfl ?_ | refine VD.take rfl rfl rfl (PureAt.rem (a := ka) (b := 12) rfl rfl (by decide)) rfl ?_ | refine VQ.pure rfl rfl (PureAt.rem (a := ka) (b := 12) rfl rfl (by decide)) rfl ?_ | refine VD.end rfl rfl rfl (OpV.pure (PureAt.rem (a := ka) (b := 12) rfl rfl (by decide)) rfl ?_))
    rw [hkt]
    (refine w ?_; repeat ((first | refine VO.step rfl rfl ?_ | refine VD.end rfl rfl rfl ?_ | refine VD.mid rfl rfl rfl ?_); refine OpV.box rfl rfl rfl ?_; intro _; refine w ?_))
    refine VO.ent (H' := RBayR r D :: Sl.Own 5 1 (.slice (some ⟨nz, 0, none⟩) 128 128) 128 (bytes Z) :: BayR b (D.write (k : Int) (kt : Int) Z).2 :: Sl.Own 3 1 (.slice no ns.length nc) ns.length (intsI ns) :: []) Ent.re ?_
    have hW2 := rbaywrite_ok (W := W) (R := Sl.Own 5 1 (.slice (some ⟨nz, 0, none⟩) 128 128) 128 (bytes Z) :: BayR b (D.write (k : Int) (kt : Int) Z).2 :: Sl.Own 3 1 (.slice no ns.length nc) ns.length (intsI ns) :: []) (cap := 128) r D (k : Int) (kt : Int) hdk hww hdvc (hZr _ (.head _))
    rw [hZl] at hW2
    ((first | refine VO.step rfl rfl ?_ | refine VD.end rfl rfl rfl ?_ | refine VD.mid rfl rfl rfl ?_); refine OpV.call rfl rfl (fun _ _ => by simp) (hW2) Ent.refl rfl ?_)
    intro _ _
    (refine w ?_; repeat ((first | refine VO.step rfl rfl ?_ | refine VD.end rfl rfl rfl ?_ | refine VD.mid rfl rfl rfl ?_); refine OpV.box rfl rfl rfl ?_; intro _; refine w ?_))
    refine VE.round (j + 1, (D.write (k : Int) (kt : Int) Z).2) ⟨hlt, h200, hC.write (by omega) _ _ _⟩ (by dsimp only; omega) ⟨rfl, rfl, rfl, rfl, asV rfl (by congr 1), trivial⟩ Ent.re
  intro D hC
  (refine w ?_; repeat ((first | refine VO.step rfl rfl ?_ | refine VD.end rfl rfl rfl ?_ | refine VD.mid rfl rfl rfl ?_); refine OpV.box rfl rfl rfl ?_; intro _; refine w ?_))
  (((first | refine VO.step rfl rfl ?_ | refine VD.end rfl rfl rfl ?_ | refine VD.mid rfl rfl rfl ?_); refine OpV.call rfl rfl (fun _ _ => by simp) (baycounts_ok b D) Ent.re rfl ?_); intro _ _)
  (first | refine VO.step rfl rfl ?_ | refine VD.end rfl rfl rfl ?_ | refine VD.mid rfl rfl rfl ?_)
  refine OpV.allocS sb_39 rfl ?_
  intro n15
  (first | refine VO.step rfl rfl ?_ | refine VD.end rfl rfl rfl ?_ | refine VD.mid rfl rfl rfl ?_)
  refine OpV.stA (vs := [.int .i64 D.n.r, .int .i64 D.n.w, .int .i64 D.n.f]) tab_ok rfl rfl rfl rfl (fun u hu => by simp only [List.mem_cons, List.not_mem_nil, or_false] at hu; rcases hu with h | h | h <;> subst h <;> rfl) (by (repeat first | exact .head | apply Hole.tail)) (by simp) ?_
  refine VO.know (p := ∀ k, (diskB D k).length ≤ 1048576) (fun w hw => diskB_len hw.tail) fun hdl => ?_
  refine VO.know (p := ∀ k, goodD (diskB D k)) (fun w hw => diskB_good hw.tail) fun hgd => ?_
  obtain ⟨I, hI⟩ : ∃ I : SProp, I = Sl.Own 3 1 (.slice no ns.length nc) ns.length (intsI ns) := ⟨_, rfl⟩
  obtain ⟨C, hCr⟩ : ∃ C : SProp, C = Row n15 39 [.int .i64 D.n.r, .int .i64 D.n.w, .int .i64 D.n.f] := ⟨_, rfl⟩
  refine VO.ent (H' := BayR b D :: RBayR r D :: C :: I :: []) (by subst hI; subst hCr; exact (show Ent W (Row n15 39 [.int .i64 D.n.r, .int .i64 D.n.w, .int .i64 D.n.f] :: BayR b D :: RBayR r D :: Sl.Own 3 1 (.slice no ns.length nc) ns.length (intsI ns) :: []) _ from Ent.re)) ?_
  (refine w ?_; repeat ((first | refine VO.step rfl rfl ?_ | refine VD.end rfl rfl rfl ?_ | refine VD.mid rfl rfl rfl ?_); refine OpV.box rfl rfl rfl ?_; intro _; refine w ?_))
  ((first | refine VO.step rfl rfl ?_ | refine VD.end rfl rfl rfl ?_ | refine VD.mid rfl rfl rfl ?_); refine OpV.call rfl rfl (fun _ _ => by simp) (save_ok b D) Ent.refl rfl ?_)
  rintro ⟨xo, xc⟩ _
  refine VO.know (p := RowE.ok ⟨xo, xc, imgS D⟩) (fun w hw => ⟨hw.ownNone (.head _), hw.ownCap (.head _)⟩) fun hxok => ?_
  refine VO.ent (H' := BayR b D :: OwnB (xo, xc) (imgS D) :: RBayR r D :: C :: I :: []) Ent.re ?_
  (refine w ?_; repeat ((first | refine VO.step rfl rfl ?_ | refine VD.end rfl rfl rfl ?_ | refine VD.mid rfl rfl rfl ?_); refine OpV.box rfl rfl rfl ?_; intro _; refine w ?_))
  ((first | refine VO.step rfl rfl ?_ | refine VD.end rfl rfl rfl ?_ | refine VD.mid rfl rfl rfl ?_); refine OpV.call rfl rfl (fun _ _ => by simp) (save_ok b D) Ent.refl rfl ?_)
  rintro ⟨yo, yc⟩ _
  refine VO.know (p := RowE.ok ⟨yo, yc, imgS D⟩) (fun w hw => ⟨hw.ownNone (.head _), hw.ownCap (.head _)⟩) fun hyok => ?_
  refine VO.ent (H' := RBayR r D :: BayR b D :: OwnB (xo, xc) (imgS D) :: OwnB (yo, yc) (imgS D) :: C :: I :: []) Ent.re ?_
  (refine w ?_; repeat ((first | refine VO.step rfl rfl ?_ | refine VD.end rfl rfl rfl ?_ | refine VD.mid rfl rfl rfl ?_); refine OpV.box rfl rfl rfl ?_; intro _; refine w ?_))
  ((first | refine VO.step rfl rfl ?_ | refine VD.end rfl rfl rfl ?_ | refine VD.mid rfl rfl rfl ?_); refine OpV.call rfl rfl (fun _ _ => by simp) (dsave_ok r D hdl) Ent.refl rfl ?_)
  rintro ⟨wo, wc⟩ hwo
  dsimp only at hwo
  have hbl : (imgS D).length ≤ 1000000000 := imgS_len hC.len hnl hdl
  (refine w ?_; repeat ((first | refine VO.step rfl rfl ?_ | refine VD.end rfl rfl rfl ?_ | refine VD.mid rfl rfl rfl ?_); refine OpV.box rfl rfl rfl ?_; intro _; refine w ?_))
  (apply VO.pure rfl rfl; apply PureAt.build sb_58 rfl; (simp [buildX, setL, Value.cells]; rfl); rfl)
  (first | refine VO.step rfl rfl ?_ | refine VD.end rfl rfl rfl ?_ | refine VD.mid rfl rfl rfl ?_)
  refine OpV.box rfl rfl rfl ?_
  intro bk
  (refine w ?_; repeat ((first | refine VO.step rfl rfl ?_ | refine VD.end rfl rfl rfl ?_ | refine VD.mid rfl rfl rfl ?_); refine OpV.box rfl rfl rfl ?_; intro _; refine w ?_))
  refine VO.ent (H' := BookQ bk ⟨[], [], [], []⟩ :: OwnB (xo, xc) (imgS D) :: OwnB (yo, yc) (imgS D) :: OwnB (wo, wc) (imgS D) :: RBayR r D :: BayR b D :: C :: I :: []) (Ent.trans BookQ.start Ent.re) ?_
  (((first | refine VO.step rfl rfl ?_ | refine VD.end rfl rfl rfl ?_ | refine VD.mid rfl rfl rfl ?_); refine OpV.call rfl rfl (fun _ _ => by simp) (bkB_ok bk ⟨[], [], [], []⟩ (xo, xc) (imgS D) (by simp)) Ent.re rfl ?_); intro _ _)
  have hB1 : BkS (⟨[] ++ [eR ⟨xo, xc, imgS D⟩], [], [], []⟩ : Bk) 1 := BkS.byte (B := ⟨[], [], [], []⟩) (k := 0) ⟨Nat.zero_le _, rfl, rfl, rfl, fun e h => by cases h⟩ (by rw [eR_len]; exact hbl)
  (refine w ?_; repeat ((first | refine VO.step rfl rfl ?_ | refine VD.end rfl rfl rfl ?_ | refine VD.mid rfl rfl rfl ?_); refine OpV.box rfl rfl rfl ?_; intro _; refine w ?_))
  (((first | refine VO.step rfl rfl ?_ | refine VD.end rfl rfl rfl ?_ | refine VD.mid rfl rfl rfl ?_); refine OpV.call rfl rfl (fun _ _ => by simp) (bkB_ok bk ⟨[] ++ [eR ⟨xo, xc, imgS D⟩], [], [], []⟩ (yo, yc) (imgS D) (by simp)) Ent.re rfl ?_); intro _ _)
  have hB2 := hB1.byte (e := eR ⟨yo, yc, imgS D⟩) (by rw [eR_len]; exact hbl)
  obtain ⟨B2, hBe⟩ : ∃ B2 : Bk, B2 = ⟨[] ++ [eR ⟨xo, xc, imgS D⟩] ++ [eR ⟨yo, yc, imgS D⟩], [], [], []⟩ := ⟨_, rfl⟩
  have hB2' : BkS B2 2 := by rw [hBe]; exact hB2
  have hmx : eR ⟨xo, xc, imgS D⟩ ∈ B2.E := by rw [hBe]; simp
  have hmy : eR ⟨yo, yc, imgS D⟩ ∈ B2.E := by rw [hBe]; simp
  refine VO.ent (H' := BookQ bk B2 :: OwnB (wo, wc) (imgS D) :: RBayR r D :: BayR b D :: C :: I :: []) (fun w hw => by rw [hBe]; exact hw) ?_
  clear hB2 hB1 hBe
  (refine w ?_; repeat ((first | refine VO.step rfl rfl ?_ | refine VD.end rfl rfl rfl ?_ | refine VD.mid rfl rfl rfl ?_); refine OpV.box rfl rfl rfl ?_; intro _; refine w ?_))
  (refine VC.drawn [9, 15, 20] 22 [0, 1, 2, 3, 4, 5, 6, 7, 8, 9, 10, 11, 12, 13, 14, 15, 16, 17, 18, 19, 21, 20, 22, 23] _ rfl (by kernel_rfl) (by kernel_rfl) Ent.re ?_)
  (refine w ?_; repeat ((first | refine VO.step rfl rfl ?_ | refine VD.end rfl rfl rfl ?_ | refine VD.mid rfl rfl rfl ?_); refine OpV.box rfl rfl rfl ?_; intro _; refine w ?_))
  have hsx : ∀ (o : Option Addr) (c : Nat), RowE.ok ⟨o, c, imgS D⟩ → eR ⟨o, c, imgS D⟩ ∈ B2.E → Does1 W Tryz.prog 19 [.slice o (imgS D).length c, .slice wo (imgS D).length wc] (BookQ bk B2 :: OwnB (wo, wc) (imgS D) :: RBayR r D :: BayR b D :: C :: I :: []) (.bool true) (BookQ bk B2 :: OwnB (wo, wc) (imgS D) :: RBayR r D :: BayR b D :: C :: I :: []) := fun o c hok hm => by
    have h := same_any (W := W) (R := BookQ bk B2 :: OwnB (wo, wc) (imgS D) :: RBayR r D :: BayR b D :: C :: I :: []) (cap := c) (cap' := wc) (BookQ.row (e := ⟨o, c, imgS D⟩) (.head _) hm hok) (Rds.own (e := 5) (cap := wc) (bytes_one (imgS D)) (.tail _ (.head _)) (by simp) hwo) (by simp only [maxLen]; omega)
    rwa [decide_eq_true (rfl : imgS D = imgS D)] at h
  ((first | refine VO.step rfl rfl ?_ | refine VD.end rfl rfl rfl ?_ | refine VD.mid rfl rfl rfl ?_); refine OpV.call rfl rfl (fun _ _ => by simp) (hsx xo xc hxok hmx) Ent.refl rfl ?_; intro _ _)
  (refine w ?_; repeat ((first | refine VO.step rfl rfl ?_ | refine VD.end rfl rfl rfl ?_ | refine VD.mid rfl rfl rfl ?_); refine OpV.box rfl rfl rfl ?_; intro _; refine w ?_))
  ((first | refine VO.step rfl rfl ?_ | refine VD.end rfl rfl rfl ?_ | refine VD.mid rfl rfl rfl ?_); refine OpV.call rfl rfl (fun _ _ => by simp) (hsx yo yc hyok hmy) Ent.refl rfl ?_; intro _ _)
  (refine w ?_; repeat ((first | refine VO.step rfl rfl ?_ | refine VD.end rfl rfl rfl ?_ | refine VD.mid rfl rfl rfl ?_); refine OpV.box rfl rfl rfl ?_; intro _; refine w ?_))
  subst hCr
  (refine w ?_; repeat ((first | refine VO.step rfl rfl ?_ | refine VD.end rfl rfl rfl ?_ | refine VD.mid rfl rfl rfl ?_); refine OpV.box rfl rfl rfl ?_; intro _; refine w ?_))
  (((first | refine VO.step rfl rfl ?_ | refine VD.end rfl rfl rfl ?_ | refine VD.mid rfl rfl rfl ?_); refine OpV.call rfl rfl (fun _ _ => by simp) (baycounts_ok b D) Ent.re rfl ?_); intro _ _)
  refine ⟨Ent.re, ?_⟩
  have hwf : ∀ x : Int, 0 ≤ x ∧ x ≤ (200 : Nat) → (Lit.int .i64 x).wf = true := fun x hx => by
    have e := IntWalk.i64_in x ⟨by omega, by omega⟩
    simp [Lit.wf, e]
    exact ⟨by show (-9223372036854775808 : Int) ≤ x; omega, by omega⟩
  have hcn := hC.n
  refine VD.end rfl rfl rfl (OpV.pure (cnt_eq (c := D.n) (d := D.n) rfl rfl ⟨hwf _ hcn.r, hwf _ hcn.w, hwf _ hcn.f⟩ ⟨hwf _ hcn.r, hwf _ hcn.w, hwf _ hcn.f⟩ rfl) rfl ?_)
  (refine w ?_; repeat ((first | refine VO.step rfl rfl ?_ | refine VD.end rfl rfl rfl ?_ | refine VD.mid rfl rfl rfl ?_); refine OpV.box rfl rfl rfl ?_; intro _; refine w ?_))
  (refine VC.condFe rfl rfl (by simp) ?_)
  (refine w ?_; repeat ((first | refine VO.step rfl rfl ?_ | refine VD.end rfl rfl rfl ?_ | refine VD.mid rfl rfl rfl ?_); refine OpV.box rfl rfl rfl ?_; intro _; refine w ?_))
  refine VC.ent (H' := BayR b D :: RBayR r D :: BookQ bk B2 :: OwnB (wo, wc) (imgS D) :: []) Ent.re ?_
  (first | refine VO.join (α := Unit) (fun _ => True) (fun _ => BayR b D :: RBayR r D :: BookQ bk B2 :: OwnB (wo, wc) (imgS D) :: []) (fun _ => [(16, sliceB (xo, xc) (imgS D)), (20, sliceB (wo, wc) (imgS D)), (21, .pointer (some ⟨bk, 0, none⟩))]) ?_ ?_ | refine VC.joinTB (α := Unit) (fun _ => True) (fun _ => BayR b D :: RBayR r D :: BookQ bk B2 :: OwnB (wo, wc) (imgS D) :: []) (fun _ => [(16, sliceB (xo, xc) (imgS D)), (20, sliceB (wo, wc) (imgS D)), (21, .pointer (some ⟨bk, 0, none⟩))]) ?_ ?_ | refine VC.joinB (α := Unit) (fun _ => True) (fun _ => BayR b D :: RBayR r D :: BookQ bk B2 :: OwnB (wo, wc) (imgS D) :: []) (fun _ => [(16, sliceB (xo, xc) (imgS D)), (20, sliceB (wo, wc) (imgS D)), (21, .pointer (some ⟨bk, 0, none⟩))]) ?_ ?_ | refine VC.join (α := Unit) (fun _ => True) (fun _ => BayR b D :: RBayR r D :: BookQ bk B2 :: OwnB (wo, wc) (imgS D) :: []) (fun _ => [(16, sliceB (xo, xc) (imgS D)), (20, sliceB (wo, wc) (imgS D)), (21, .pointer (some ⟨bk, 0, none⟩))]) ?_ ?_)
  · intro Q2 jn
    refine VC.loop (α := Nat) (fun i => i ≤ ns.length) (fun _ => BayR b D :: RBayR r D :: BookQ bk B2 :: OwnB (wo, wc) (imgS D) :: [])
      (fun i => [(5, .slice no ns.length nc), (7, .pointer (some ⟨b, 0, none⟩)), (9, .pointer (some ⟨r, 0, none⟩)), (16, sliceB (xo, xc) (imgS D)), (20, sliceB (wo, wc) (imgS D)), (21, .pointer (some ⟨bk, 0, none⟩)), (22, .int .i64 i)]) (fun i => ns.length - i) rfl 0 (Nat.zero_le _) Ent.refl ⟨rfl, rfl, rfl, rfl, rfl, rfl, rfl, trivial⟩ ?_
    intro i hi
    have hcapd : ∀ v, D.dev (i : Int) = some v → v.k.cache.length ≤ 1000000000 := fun v hv => by have := (hC.dev hv).2.1; omega
    obtain ⟨pd, hpd⟩ : ∃ pd : List Nat, ((D.dev (i : Int)).elim [] fun v => v.k.cache.map (·.1)) = pd := ⟨_, rfl⟩
    have hpl : pd.length ≤ 1000000000 := by
      rw [← hpd]
      cases hd : D.dev (i : Int) with
      | none => exact Nat.zero_le _
      | some v => show (v.k.cache.map (·.1)).length ≤ _; rw [List.length_map]; exact hcapd v hd
    have hp1 := baypending_ok (W := W) (R := RBayR r D :: BookQ bk B2 :: OwnB (wo, wc) (imgS D) :: []) b D (i : Int) hcapd
    rw [hpd] at hp1
    (refine w ?_; repeat ((first | refine VO.step rfl rfl ?_ | refine VD.end rfl rfl rfl ?_ | refine VD.mid rfl rfl rfl ?_); refine OpV.box rfl rfl rfl ?_; intro _; refine w ?_))
    (refine VC.cond rfl rfl ?_ ?_ <;> intro hc)
    rotate_left
    · (refine w ?_; repeat ((first | refine VO.step rfl rfl ?_ | refine VD.end rfl rfl rfl ?_ | refine VD.mid rfl rfl rfl ?_); refine OpV.box rfl rfl rfl ?_; intro _; refine w ?_))
      refine jn.to () trivial ⟨rfl, rfl, rfl, trivial⟩ Ent.refl
    have hlt : i < ns.length := by have := of_decide_eq_true hc; omega
    clear hc
    (refine w ?_; repeat ((first | refine VO.step rfl rfl ?_ | refine VD.end rfl rfl rfl ?_ | refine VD.mid rfl rfl rfl ?_); refine OpV.box rfl rfl rfl ?_; intro _; refine w ?_))
    ((first | refine VO.step rfl rfl ?_ | refine VD.end rfl rfl rfl ?_ | refine VD.mid rfl rfl rfl ?_); refine OpV.call rfl rfl (fun _ _ => by simp) (hp1) Ent.refl rfl ?_)
    rintro ⟨po, pc⟩ hpo
    dsimp only at hpo
    have hp2 := rbaypending_ok (W := W) (R := Sl.Own 3 1 (.slice po pd.length pc) pd.length (ints pd) :: BayR b D :: BookQ bk B2 :: OwnB (wo, wc) (imgS D) :: []) r D (i : Int) hcapd
    rw [hpd] at hp2
    refine VO.ent (H' := RBayR r D :: Sl.Own 3 1 (.slice po pd.length pc) pd.length (ints pd) :: BayR b D :: BookQ bk B2 :: OwnB (wo, wc) (imgS D) :: []) Ent.re ?_
    (refine w ?_; repeat ((first | refine VO.step rfl rfl ?_ | refine VD.end rfl rfl rfl ?_ | refine VD.mid rfl rfl rfl ?_); refine OpV.box rfl rfl rfl ?_; intro _; refine w ?_))
    ((first | refine VO.step rfl rfl ?_ | refine VD.end rfl rfl rfl ?_ | refine VD.mid rfl rfl rfl ?_); refine OpV.call rfl rfl (fun _ _ => by simp) (hp2) Ent.refl rfl ?_)
    rintro ⟨qo, qc⟩ hqo
    dsimp only at hqo
    (refine w ?_; repeat ((first | refine VO.step rfl rfl ?_ | refine VD.end rfl rfl rfl ?_ | refine VD.mid rfl rfl rfl ?_); refine OpV.box rfl rfl rfl ?_; intro _; refine w ?_))
    have hone : ∀ u ∈ ints pd, u.oneCell' = true := fun u hu => by obtain ⟨c, _, rfl⟩ := List.mem_map.1 hu; rfl
    have hsi := sameints_any (W := W) (R := Sl.Own 3 1 (.slice qo pd.length qc) pd.length (ints pd) :: RBayR r D :: Sl.Own 3 1 (.slice po pd.length pc) pd.length (ints pd) :: BayR b D :: BookQ bk B2 :: OwnB (wo, wc) (imgS D) :: []) (cap := pc) (cap' := qc) (a := pd) (b := pd) (Rds.own (e := 3) (cap := pc) hone (.tail _ (.tail _ (.head _))) (by simp [ints]) hpo) (Rds.own (e := 3) (cap := qc) hone (.head _) (by simp [ints]) hqo) (by simp only [maxLen]; omega)
    rw [decide_eq_true (rfl : pd = pd)] at hsi
    ((first | refine VO.step rfl rfl ?_ | refine VD.end rfl rfl rfl ?_ | refine VD.mid rfl rfl rfl ?_); refine OpV.call rfl rfl (fun _ _ => by simp) (hsi) Ent.refl rfl ?_)
    intro _ _
    (refine w ?_; repeat ((first | refine VO.step rfl rfl ?_ | refine VD.end rfl rfl rfl ?_ | refine VD.mid rfl rfl rfl ?_); refine OpV.box rfl rfl rfl ?_; intro _; refine w ?_))
    refine VE.round (i + 1) hlt (by omega) ⟨rfl, rfl, rfl, rfl, rfl, rfl, asV rfl (by congr 1), trivial⟩ Ent.re
  intro _ _
  (refine w ?_; repeat ((first | refine VO.step rfl rfl ?_ | refine VD.end rfl rfl rfl ?_ | refine VD.mid rfl rfl rfl ?_); refine OpV.box rfl rfl rfl ?_; intro _; refine w ?_))
  have h1n : 1 ≤ ns.length := by
    refine Nat.le_of_not_lt fun hh => ?_
    unfold bayE at hE
    rw [if_pos (.inl hh)] at hE
    cases hE
  have hls : imgLoad (imgS D) = (0, some (disksOf D)) := load_save D (by rw [hC.len]; exact h1n) (by rw [hC.len]; exact hnl) hgd
  have hI1 := imgload_ok (W := W) (R := BayR b D :: RBayR r D :: BookQ bk B2 :: OwnB (wo, wc) (imgS D) :: []) (cap := xc) (ao := xo) (l := imgS D) (BookQ.row (e := ⟨xo, xc, imgS D⟩) (by (focus repeat first | exact .head _ | apply List.Mem.tail)) hmx hxok) hxok.cap (by omega)
  rw [hls] at hI1
  ((first | refine VO.step rfl rfl ?_ | refine VD.end rfl rfl rfl ?_ | refine VD.mid rfl rfl rfl ?_); refine OpV.call rfl rfl (fun _ _ => by simp) (hI1) Ent.refl rfl ?_)
  intro c _
  dsimp only [Option.elim, Option.map]
  (refine w ?_; repeat ((first | refine VO.step rfl rfl ?_ | refine VD.end rfl rfl rfl ?_ | refine VD.mid rfl rfl rfl ?_); refine OpV.box rfl rfl rfl ?_; intro _; refine w ?_))
  refine VO.know (p := (imgS D).length ≤ wc) (fun w hw => hw.ownCap (by (focus repeat first | exact .head _ | apply List.Mem.tail))) fun hwc => ?_
  have hI2 := dimgloadR_ok (W := W) (R := BayR c (imgBay (disksOf D)) :: BayR b D :: RBayR r D :: BookQ bk B2 :: OwnB (wo, wc) (imgS D) :: []) (cap := wc) (ao := wo) (l := imgS D) (Rds.own (bytes_one _) (by (focus repeat first | exact .head _ | apply List.Mem.tail)) (by simp [bytes]) hwo) hwc (by omega)
  rw [hls] at hI2
  ((first | refine VO.step rfl rfl ?_ | refine VD.end rfl rfl rfl ?_ | refine VD.mid rfl rfl rfl ?_); refine OpV.call rfl rfl (fun _ _ => by simp) (hI2) Ent.refl rfl ?_)
  intro t _
  dsimp only [Option.elim, Option.map]
  refine VO.ent (H' := RBayR t (imgBay (disksOf D)) :: BayR c (imgBay (disksOf D)) :: BookQ bk B2 :: []) Ent.re ?_
  (refine w ?_; repeat ((first | refine VO.step rfl rfl ?_ | refine VD.end rfl rfl rfl ?_ | refine VD.mid rfl rfl rfl ?_); refine OpV.box rfl rfl rfl ?_; intro _; refine w ?_))
  ((first | refine VO.step rfl rfl ?_ | refine VD.end rfl rfl rfl ?_ | refine VD.mid rfl rfl rfl ?_); refine OpV.call rfl rfl (fun _ _ => by simp) (isame_ok (R := []) (imgBay_fresh (disksOf D)) c t bk 2 B2 hB2' (by omega)) Ent.refl rfl ?_)
  intro B3 hB3
  (refine w ?_; repeat ((first | refine VO.step rfl rfl ?_ | refine VD.end rfl rfl rfl ?_ | refine VD.mid rfl rfl rfl ?_); refine OpV.box rfl rfl rfl ?_; intro _; refine w ?_))
  refine VO.ent (H' := BookQ bk B3 :: []) Ent.re ?_
  ((first | refine VO.step rfl rfl ?_ | refine VD.end rfl rfl rfl ?_ | refine VD.mid rfl rfl rfl ?_); refine OpV.call rfl rfl (fun _ _ => by simp) (bkown_ok bk B3 (hB3.ok (by omega))) Ent.refl rfl ?_)
  intro _ _
  (refine w ?_; repeat ((first | refine VO.step rfl rfl ?_ | refine VD.end rfl rfl rfl ?_ | refine VD.mid rfl rfl rfl ?_); refine OpV.box rfl rfl rfl ?_; intro _; refine w ?_))
  (first | exact VE.done1 rfl rfl Ent.refl | exact VE.done1N rfl rfl Ent.refl)
end Go.Proofs.YtpmmkmcbimnigaaGreat

