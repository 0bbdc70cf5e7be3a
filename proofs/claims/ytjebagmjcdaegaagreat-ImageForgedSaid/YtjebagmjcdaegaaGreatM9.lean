import Derived.Test.YtjebagmjcdaegaaGreatM8
import Derived.WideLaws
import Derived.WalkKit
import Derived.ProofKit
import Derived.OpenShut
/-! Text Ib. -/
set_option maxRecDepth 8000
set_option maxHeartbeats 16000000
set_option linter.unusedVariables false
set_option linter.unusedSimpArgs false
set_option linter.unusedSectionVars false
namespace Go.Sl
open Go Go.RowKit
section
variable {W : World} {P : Program} {n : Nat} {H : List SProp} {f : Fr} {dst : Option Tmp} {ty_ : TypeId} {pos : String} {after : Array Edge} {guard : Option (Nat × Bool)}
theorem PureAt.ifaceHeld {op : BinOp} {x y : Operand} {s u t : TypeId} {v0 v : Value} (hs : P.underlying s = some (.interface (P.methodsAt s))) (hx : evalX f x = some (.iface t v0)) (hy : evalX f y = some .nilIface) (hv : eqB op false = some v) :
  PureAt W P n H f { dst, op := .binOp op s x y u, type := ty_, pos, after, guard } v := by
 unfold PureAt
 intro tm w hk _
 exact eqOp_run hk hx hy hv (by rintro o (rfl | rfl) <;> rfl) rfl rfl (run_equal_held_nil w s t v0 hs)
theorem PureAt.ifaceNil {op : BinOp} {x : Operand} {c : Value} {s u : TypeId} {v : Value} (hs : P.underlying s = some (.interface (P.methodsAt s))) (hx : evalX f x = some .nilIface) (hy : evalX f (.const c) = some .nilIface) (hv : eqB op true = some v) :
  PureAt W P n H f { dst, op := .binOp op s x (.const c) u, type := ty_, pos, after, guard } v := by
 unfold PureAt
 intro tm w hk _
 exact eqOp_run hk hx hy hv (by rintro o (rfl | rfl) <;> cases x <;> rfl) rfl rfl (run_equal_nil_nil w s hs)
end
end Go.Sl
namespace Go.Proofs.YtjebagmjcdaegaaGreat
open Go.RowKit Go.Sl
attribute [local irreducible] Sl.Own
variable {W : World} {R : List SProp}
theorem anyU : Tryz.prog.underlying 20 = some (.interface (Tryz.prog.methodsAt 20)) := by kernel_rfl
theorem loadD_pan {nb ne : Nat} {v u : Value} (e : Nat) :
  DoesD W Tryz.prog 12 [.pointer (some ⟨nb, 0, none⟩), .pointer (some ⟨ne, 0, none⟩)] (Row nb 24 [v] :: Row ne 25 [u] :: R) (.panicking (pan (errI e))) (.panicking (panR (errI e))) (Row nb 24 [.pointer none] :: Row ne 25 [.int .u16 e] :: R) := by
 refine DoesD.enterS Tryz.func12 Tryz.ntmps12 rfl rfl rfl rfl rfl rfl rfl (.inl ⟨_, rfl, rfl, rfl⟩) ?_
 refine w ?_
 ((first | apply VO.pure rfl rfl | apply VQ.pure rfl rfl | apply VD.take rfl rfl rfl | (refine VD.end rfl rfl rfl ?_; apply OpV.pure)); exact PureAt.ifaceHeld anyU rfl rfl rfl; rfl)
 refine w ?_
 obtain ⟨dsc, hu⟩ : ∃ k, Tryz.prog.underlying 25 = some (.int k) := ⟨_, rfl⟩
 (refine VC.drawn [2] 3 [0, 1, 2, 3] (Row ne 25 [u] :: R) rfl (by kernel_rfl) (by kernel_rfl) Ent.re ?_)
 refine w ?_
 ((first | apply VO.pure rfl rfl | apply VQ.pure rfl rfl | apply VD.take rfl rfl rfl | (refine VD.end rfl rfl rfl ?_; apply OpV.pure)); exact PureAt.assertIface hu (fun ms h => by cases h) rfl; rfl)
 refine w ?_
 exact VE.result (.inr rfl) rfl fun w hw => ⟨⟨_, rfl⟩, hw⟩
theorem loadD_ret {nb ne : Nat} {v u : Value} :
  DoesD W Tryz.prog 12 [.pointer (some ⟨nb, 0, none⟩), .pointer (some ⟨ne, 0, none⟩)] (Row nb 24 [v] :: Row ne 25 [u] :: R) .returning .returning (Row nb 24 [v] :: Row ne 25 [u] :: R) := by
 refine DoesD.enterS Tryz.func12 Tryz.ntmps12 rfl rfl rfl rfl rfl rfl rfl (.inr ⟨rfl, rfl, rfl⟩) ?_
 refine w ?_
 refine VO.pure rfl rfl (PureAt.ifaceNil anyU rfl rfl rfl) rfl ?_
 refine w ?_
 exact VE.result (.inr rfl) rfl fun w hw => ⟨⟨_, rfl⟩, hw⟩
theorem setNext {α : Type} (xs : List α) (z v : α) (m : Nat) (h : 0 < m) : (xs ++ List.replicate m z).set xs.length v = (xs ++ [v]) ++ List.replicate (m - 1) z := by
 obtain ⟨m, rfl⟩ : ∃ k, m = k + 1 := ⟨m - 1, by omega⟩
 rw [List.set_append_right _ _ (Nat.le_refl _), Nat.sub_self, List.replicate_succ, List.set_cons_zero, List.append_assoc]; rfl
structure NxX where
  n5 : Nat
  n6 : Nat
  n7 : Nat
  rd : Nat
  sa : Addr
  da : Addr
  n : Nat
abbrev szC (n : Nat) (S : List Nat) : List Value := ints S ++ List.replicate (n - S.length) (.int .i64 0)
abbrev dsC (n : Nat) (Ds : List RowE) : List Value := Ds.map RowE.hdr ++ List.replicate (n - Ds.length) (.slice none 0 0)
abbrev nxF (x : NxX) (S : List Nat) (Ds : List RowE) (R : List SProp) : List SProp :=
  Row x.n5 43 [.pointer (some ⟨x.rd, 0, none⟩)] :: Row x.n6 47 [.slice (some x.sa) x.n x.n] :: Row x.n7 49 [.slice (some x.da) x.n x.n] :: Sl.Own 3 1 (.slice (some x.sa) x.n x.n) x.n (szC x.n S) :: Sl.Own 22 1 (.slice (some x.da) x.n x.n) x.n (dsC x.n Ds) :: PilR Ds :: R
abbrev nxO (x : NxX) (k : Rk) (S : List Nat) (Ds : List RowE) (R : List SProp) : List SProp := ReaderR x.rd k :: nxF x S Ds R
abbrev nxS (k : Rk) : Nat := leVal (k.got 2)
abbrev nxD (k : Rk) : List UInt8 := (k.number 2).rawGot ((nxS k * 128 : Nat) : Int)
abbrev nxK (k : Rk) : Rk := (k.number 2).raw ((nxS k * 128 : Nat) : Int)
theorem szC_one (n : Nat) (S : List Nat) : ∀ u ∈ szC n S, u.oneCell' = true := by
 intro u hu
 rcases List.mem_append.1 hu with h | h
 · exact ints_one S u h
 · rw [List.mem_replicate] at h; rw [h.2]; rfl
theorem dsC_one (n : Nat) (Ds : List RowE) : ∀ u ∈ dsC n Ds, u.oneCell' = true := by
 intro u hu
 rcases List.mem_append.1 hu with h | h
 · exact rowhdr_one Ds u h
 · rw [List.mem_replicate] at h; rw [h.2]; rfl
theorem szC_len {n : Nat} {S : List Nat} (h : S.length <= n) : (szC n S).length = n := by unfold szC ints; rw [List.length_append, List.length_map, List.length_replicate]; omega
theorem dsC_len {n : Nat} {Ds : List RowE} (h : Ds.length <= n) : (dsC n Ds).length = n := by unfold dsC; rw [List.length_append, List.length_map, List.length_replicate]; omega
theorem szC_set {n : Nat} {S : List Nat} (s : Nat) (h : S.length < n) : (szC n S).set S.length (.int .i64 (s : Int)) = szC n (S ++ [s]) := by
 have h1 := setNext (ints S) (.int .i64 0) (.int .i64 (s : Int)) (n - S.length) (by omega)
 rw [show (ints S).length = S.length by unfold ints; rw [List.length_map]] at h1
 unfold szC
 rw [h1, List.length_append, List.length_singleton, show n - (S.length + 1) = n - S.length - 1 by omega]
 unfold ints
 rw [List.map_append]; rfl
theorem dsC_set {n : Nat} {Ds : List RowE} (d : RowE) (h : Ds.length < n) : (dsC n Ds).set Ds.length d.hdr = dsC n (Ds ++ [d]) := by
 have h1 := setNext (Ds.map RowE.hdr) (.slice none 0 0) d.hdr (n - Ds.length) (by omega)
 rw [List.length_map] at h1
 unfold dsC
 rw [h1, List.length_append, List.length_singleton, show n - (Ds.length + 1) = n - Ds.length - 1 by omega, List.map_append]; rfl
theorem nxS_lt (k : Rk) : nxS k < 65536 := got_lt k 2
theorem imgnext_ok (x : NxX) (k : Rk) (S : List Nat) (Ds : List RowE) (i : Nat) (hS : S.length = i) (hD : Ds.length = i) (hi : i < x.n) (hn : x.n <= 17) (h8 : nxS k <= 8192) :
  Does W Tryz.prog 19 [.int .i64 (i : Int), .pointer (some ⟨x.n5, 0, none⟩), .pointer (some ⟨x.n6, 0, none⟩), .pointer (some ⟨x.n7, 0, none⟩)] (nxO x k S Ds R) (β := Option Addr × Nat) (fun _ => True) (fun _ => .tuple #[]) (fun y => nxO x (nxK k) (S ++ [nxS k]) (Ds ++ [⟨y.1, y.2, nxD k⟩]) R) := by
 have hs := nxS_lt k
 subst hS
 have hsl := szC_len (n := x.n) (S := S) (by omega)
 (refine Does.enter Tryz.func19 Tryz.ntmps19 rfl rfl ?_)
 refine w ?_
 (refine VC.drawn [3] 5 [0, 1, 2, 3, 4, 5, 6] (nxF x S Ds R) rfl (by kernel_rfl) (by kernel_rfl) Ent.re ?_)
 refine w ?_
 (refine zq ?_; refine zy rfl rfl (r16_ok x.rd k) ?_)
 intro _ _
 refine ⟨Ent.re, ?_⟩
 refine VD.re 8 (.int .u16 ((nxS k : Nat) : Int)) rfl rfl ?_
 refine w ?_
 refine VD.re 9 (.int .i64 ((nxS k : Nat) : Int)) rfl (by rw [IntWalk.i64_in _ ⟨by omega, by omega⟩]) ?_
 refine zq ?_
 refine OpV.stO tab_ok rfl rfl rfl rfl zh (by rw [hsl]; exact hi) ?_
 rw [szC_set (nxS k) hi]
 refine w ?_
 have hR1 : Rds W (ReaderR x.rd (k.number 2) :: nxF x (S ++ [nxS k]) Ds R) 1 (some x.sa) x.n (szC x.n (S ++ [nxS k])) := Rds.own (szC_one _ _) (.tail _ (.tail _ (.tail _ (.tail _ (.head _))))) (by rw [szC_len (by simp; omega), Nat.mul_one]) (fun h => by cases h)
 have hget : (szC x.n (S ++ [nxS k]))[S.length]? = some (.int .i64 (nxS k : Int)) := by
  unfold szC ints
  rw [List.map_append, List.append_assoc, List.getElem?_append_right (by simp)]
  simp
 ((first | apply VO.pure rfl rfl | apply VQ.pure rfl rfl | apply VD.take rfl rfl rfl | (refine VD.end rfl rfl rfl ?_; apply OpV.pure)); exact PureAt.ldR tab_ok rfl rfl hR1 hget; rfl)
 refine w ?_
 refine VO.re 15 (.bool true) rfl (by rw [decide_eq_true (by omega)]) ?_
 (refine zq ?_; refine zy rfl rfl (need_ok (.int .u16 210) rfl) ?_)
 intro _ _
 refine w ?_
 (refine VC.drawn [8] 9 [0, 1, 2, 3, 4, 5, 6, 7, 8, 9, 10] (nxF x (S ++ [nxS k]) Ds R) rfl (by kernel_rfl) (by kernel_rfl) Ent.re ?_)
 refine w ?_
 have hR2 : Rds W (nxF x (S ++ [nxS k]) Ds R) 1 (some x.sa) x.n (szC x.n (S ++ [nxS k])) := Rds.own (szC_one _ _) (.tail _ (.tail _ (.tail _ (.head _)))) (by rw [szC_len (by simp; omega), Nat.mul_one]) (fun h => by cases h)
 ((first | apply VO.pure rfl rfl | apply VQ.pure rfl rfl | apply VD.take rfl rfl rfl | (refine VD.end rfl rfl rfl ?_; apply OpV.pure)); exact PureAt.ldR tab_ok rfl rfl hR2 hget; rfl)
 refine w ?_
 refine VD.re 24 (.int .i64 ((nxS k * 128 : Nat) : Int)) rfl (by congr 1) ?_
 (refine zq ?_; refine zy rfl rfl (rraw_ok x.rd (k.number 2) ((nxS k * 128 : Nat) : Int)) ?_)
 rintro ⟨yo, yc⟩ _
 dsimp only
 refine ⟨Ent.re, ?_⟩
 refine w ?_
 refine zq ?_
 refine OpV.stO tab_ok rfl rfl rfl rfl zh (by rw [dsC_len (by omega)]; exact hi) ?_
 rw [show (Value.slice yo ((k.number 2).rawGot ((nxS k * 128 : Nat) : Int)).length yc) = RowE.hdr ⟨yo, yc, nxD k⟩ from rfl, <- hD, dsC_set _ (by omega)]
 refine w ?_
 refine VE.doneN (yo, yc) rfl trivial rfl ?_
 refine Ent.trans (Ent.re (L := RowE.res ⟨yo, yc, nxD k⟩ :: PilR Ds :: ReaderR x.rd (nxK k) :: Row x.n5 43 [.pointer (some ⟨x.rd, 0, none⟩)] :: Row x.n6 47 [.slice (some x.sa) x.n x.n] :: Row x.n7 49 [.slice (some x.da) x.n x.n] :: Sl.Own 3 1 (.slice (some x.sa) x.n x.n) x.n (szC x.n (S ++ [nxS k])) :: Sl.Own 22 1 (.slice (some x.da) x.n x.n) x.n (dsC x.n (Ds ++ [⟨yo, yc, nxD k⟩])) :: R)) fun w hw => ?_
 exact (show Ent W (PilR (Ds ++ [⟨yo, yc, nxD k⟩]) :: ReaderR x.rd (nxK k) :: Row x.n5 43 [.pointer (some ⟨x.rd, 0, none⟩)] :: Row x.n6 47 [.slice (some x.sa) x.n x.n] :: Row x.n7 49 [.slice (some x.da) x.n x.n] :: Sl.Own 3 1 (.slice (some x.sa) x.n x.n) x.n (szC x.n (S ++ [nxS k])) :: Sl.Own 22 1 (.slice (some x.da) x.n x.n) x.n (dsC x.n (Ds ++ [⟨yo, yc, nxD k⟩])) :: R) _ from Ent.re) w (pile_push hw)
theorem imgnext_dies (x : NxX) (k : Rk) (S : List Nat) (Ds : List RowE) (i : Nat) (hS : S.length = i) (hD : Ds.length = i) (hi : i < x.n) (hn : x.n <= 17) (h8 : 8192 < nxS k) :
  Dies W Tryz.prog 19 [.int .i64 (i : Int), .pointer (some ⟨x.n5, 0, none⟩), .pointer (some ⟨x.n6, 0, none⟩), .pointer (some ⟨x.n7, 0, none⟩)] (nxO x k S Ds R) (errI 210) R := by
 have hs := nxS_lt k
 subst hS
 have hsl := szC_len (n := x.n) (S := S) (by omega)
 refine Dies.enter Tryz.func19 Tryz.ntmps19 rfl rfl ?_
 refine w ?_
 (refine VC.drawn [3] 5 [0, 1, 2, 3, 4, 5, 6] (nxF x S Ds R) rfl (by kernel_rfl) (by kernel_rfl) Ent.re ?_)
 refine w ?_
 (refine zq ?_; refine zy rfl rfl (r16_ok x.rd k) ?_)
 intro _ _
 refine ⟨Ent.re, ?_⟩
 refine VD.re 8 (.int .u16 ((nxS k : Nat) : Int)) rfl rfl ?_
 refine w ?_
 refine VD.re 9 (.int .i64 ((nxS k : Nat) : Int)) rfl (by rw [IntWalk.i64_in _ ⟨by omega, by omega⟩]) ?_
 refine zq ?_
 refine OpV.stO tab_ok rfl rfl rfl rfl zh (by rw [hsl]; exact hi) ?_
 rw [szC_set (nxS k) hi]
 refine w ?_
 have hR1 : Rds W (ReaderR x.rd (k.number 2) :: nxF x (S ++ [nxS k]) Ds R) 1 (some x.sa) x.n (szC x.n (S ++ [nxS k])) := Rds.own (szC_one _ _) (.tail _ (.tail _ (.tail _ (.tail _ (.head _))))) (by rw [szC_len (by simp; omega), Nat.mul_one]) (fun h => by cases h)
 have hget : (szC x.n (S ++ [nxS k]))[S.length]? = some (.int .i64 (nxS k : Int)) := by
  unfold szC ints
  rw [List.map_append, List.append_assoc, List.getElem?_append_right (by simp)]
  simp
 ((first | apply VO.pure rfl rfl | apply VQ.pure rfl rfl | apply VD.take rfl rfl rfl | (refine VD.end rfl rfl rfl ?_; apply OpV.pure)); exact PureAt.ldR tab_ok rfl rfl hR1 hget; rfl)
 refine w ?_
 refine VO.re 15 (.bool false) rfl (by rw [decide_eq_false (by omega)]) ?_
 refine zq ?_
 refine OpV.callDies rfl rfl (fun _ _ => by simp) (need_dies (R := R) 210) ?_ ?_
 ·
  intro w hw
  exact hw.tail.tail.tail.tail.tail.tail.tail
 refine VE.passPanic ?_
 exact VE.dies Ent.refl
end Go.Proofs.YtjebagmjcdaegaaGreat
/-! Text Id. -/
namespace Go.Proofs.YtjebagmjcdaegaaGreat
open Go.RowKit Go.Sl
def imgParse : Nat -> List UInt8 -> Option (List (List UInt8))
  | 0, l => if l = [] then some [] else none
  | m + 1, l => if l.length < 2 \/ 8192 < leVal (l.take 2) \/ l.length - 2 < leVal (l.take 2) * 128 then none else
    (imgParse m (l.drop (2 + leVal (l.take 2) * 128))).map (((l.drop 2).take (leVal (l.take 2) * 128)) :: ·)
def slotI (d : List UInt8) : SlotD := if d = [] then ⟨none, none, none⟩ else ⟨some ⟨⟨chunks d (d.length / 128), [], false⟩, false, 0⟩, none, none⟩
def imgBay (ds : List (List UInt8)) : BayD := ⟨ds.map slotI, false, -1, ⟨0, 0, 0⟩⟩
def imgForm (l : List UInt8) : Bool := decide (l.length <= 33554432) && decide (10 <= l.length) && decide (l.take 5 = magicI)
abbrev imgB (l : List UInt8) : List UInt8 := l.take (l.length - 4)
abbrev imgC (l : List UInt8) : Nat := ((imgB l).getD 5 0).toNat
def imgSum (l : List UInt8) : Bool := decide (leVal (l.drop (l.length - 4)) = (crcS (imgB l)).toNat)
def imgOf : Option (List (List UInt8)) -> Nat × Option (List (List UInt8))
  | none => (210, none)
  | some ds => (0, some ds)
def imgLoad (l : List UInt8) : Nat × Option (List (List UInt8)) :=
  if imgForm l = false then (210, none) else if imgSum l = false then (211, none) else if imgC l < 1 \/ 17 < imgC l then (210, none) else imgOf (imgParse (imgC l) ((imgB l).drop 6))
theorem imgParse_len : ∀ {m : Nat} {l : List UInt8} {ds : List (List UInt8)}, imgParse m l = some ds -> ds.length = m /\ ∀ d ∈ ds, d.length % 128 = 0 /\ d.length / 128 <= 8192
  | 0, l, ds, h => by
    unfold imgParse at h
    split at h
    · cases h; exact ⟨rfl, fun d h => by cases h⟩
    · cases h
  | m + 1, l, ds, h => by
    unfold imgParse at h
    split at h
    · cases h
    · rename_i hn
      rw [Option.map_eq_some_iff] at h
      obtain ⟨t, h1, rfl⟩ := h
      obtain ⟨e1, e2⟩ := imgParse_len h1
      refine ⟨by rw [List.length_cons, e1], fun d hd => ?_⟩
      cases hd with
      | head =>
        have h3 : ((l.drop 2).take (leVal (l.take 2) * 128)).length = leVal (l.take 2) * 128 := by rw [List.length_take, List.length_drop]; omega
        rw [h3]
        omega
      | tail _ hd => exact e2 d hd
def LdI (body : List UInt8) (c i : Nat) (k : Rk) (S : List Nat) (Ds : List (List UInt8)) : Prop :=
  k.b = body /\ S.length = i /\ Ds.length = i /\ ((k.err = 0 /\ k.at_ <= body.length /\ (∀ (j : Nat) (h : j < i) (h1 : j < S.length) (h2 : j < Ds.length), Ds[j].length = S[j] * 128 /\ S[j] <= 8192) /\ imgParse c (body.drop 6) = (imgParse (c - i) (body.drop k.at_)).map (Ds ++ ·)) \/
    (k.err ≠ 0 /\ imgParse c (body.drop 6) = none))
theorem rk_bad {k : Rk} (h : k.err ≠ 0) (n : Nat) : k.short n = k /\ k.got n = [] /\ k.number n = k := by
 have h1 : k.short n = k := by unfold Rk.short; rw [if_neg (fun q => h q.1)]
 refine ⟨h1, ?_, ?_⟩
 · unfold Rk.got; rw [h1, if_neg h]
 · unfold Rk.number; rw [h1, if_neg h]
theorem rk_short {k : Rk} (h : k.err = 0) {n : Nat} (hn : k.b.length - k.at_ < n) : (k.short n).err = 11 /\ k.got n = [] /\ (k.number n).err = 11 /\ (k.number n).b = k.b := by
 have h1 : k.short n = { k with err := 11, wh := k.at_ } := by unfold Rk.short; rw [if_pos ⟨h, hn⟩]
 refine ⟨by rw [h1], ?_, ?_, ?_⟩
 · unfold Rk.got; rw [h1, if_neg (by simp)]
 · unfold Rk.number; rw [h1, if_neg (by simp)]
 · unfold Rk.number; rw [h1, if_neg (by simp)]
theorem nx_bad {k : Rk} (h : k.err ≠ 0) : nxS k = 0 /\ nxD k = [] /\ nxK k = k := by
 obtain ⟨h1, h2, h3⟩ := rk_bad h 2
 have e : nxS k = 0 := by unfold nxS; rw [h2]; rfl
 refine ⟨e, ?_, ?_⟩
 · unfold nxD; rw [e, h3]; rfl
 · unfold nxK; rw [e, h3]; rfl
theorem LdI.dies {body : List UInt8} {c i : Nat} {k : Rk} {S : List Nat} {Ds : List (List UInt8)} (h : LdI body c i k S Ds) (hi : i < c) (h8 : 8192 < nxS k) : imgParse c (body.drop 6) = none := by
 obtain ⟨hb, _, _, ⟨h1, h2, h3, h4⟩ | ⟨h1, h2⟩⟩ := h
 ·
  rw [h4]
  obtain ⟨m, hm⟩ : ∃ m, c - i = m + 1 := ⟨c - i - 1, by omega⟩
  rw [hm, imgParse]
  have hc : (body.drop k.at_).length < 2 \/ 8192 < leVal ((body.drop k.at_).take 2) \/ (body.drop k.at_).length - 2 < leVal ((body.drop k.at_).take 2) * 128 := by
   by_cases hs : k.b.length - k.at_ < 2
   · left; rw [List.length_drop, <- hb]; exact hs
   ·
    right; left
    have hg := (Rk.got_good h1 (n := 2) (by omega)).1
    unfold nxS at h8
    rw [hg, hb] at h8
    exact h8
  rw [if_pos hc]; rfl
 · exact h2
theorem LdI.next {body : List UInt8} {c i : Nat} {k : Rk} {S : List Nat} {Ds : List (List UInt8)} (h : LdI body c i k S Ds) (hi : i < c) (h8 : nxS k <= 8192) : LdI body c (i + 1) (nxK k) (S ++ [nxS k]) (Ds ++ [nxD k]) := by
 obtain ⟨hb, hS, hD, ⟨h1, h2, h3, h4⟩ | ⟨h1, h2⟩⟩ := h
 ·
  obtain ⟨m, hm⟩ : ∃ m, c - i = m + 1 := ⟨c - i - 1, by omega⟩
  rw [hm, imgParse] at h4
  by_cases hs : k.b.length - k.at_ < 2
  ·
   obtain ⟨q1, q2, q3, q4⟩ := rk_short h1 hs
   have e : nxS k = 0 := by unfold nxS; rw [q2]; rfl
   have eD : nxD k = [] := by unfold nxD; rw [e]; rfl
   have eK : nxK k = k.number 2 := by unfold nxK; rw [e]; rfl
   refine ⟨by rw [eK, q4, hb], by rw [List.length_append, hS]; rfl, by rw [List.length_append, hD]; rfl, .inr ⟨by rw [eK, q3]; decide, ?_⟩⟩
   rw [h4, if_pos (.inl (by rw [List.length_drop, <- hb]; exact hs))]; rfl
  ·
   obtain ⟨g1, g2, g3⟩ := Rk.got_good h1 (n := 2) (by omega)
   have e : nxS k = leVal ((body.drop k.at_).take 2) := by unfold nxS; rw [g1, hb]
   rw [<- e, List.length_drop] at h4
   have hl : ¬ body.length - k.at_ < 2 := by rw [<- hb]; exact hs
   by_cases h0 : body.length - k.at_ - 2 < nxS k * 128
   ·
    have hk1 : (k.number 2).err = 0 := by rw [g3]; exact h1
    have hsh := rk_short (k := k.number 2) hk1 (n := nxS k * 128) (by rw [g3]; dsimp only; rw [hb]; omega)
    have hp : 0 < nxS k := by omega
    have hz : ¬ ((nxS k * 128 : Nat) : Int) <= 0 := by omega
    have eK : nxK k = (k.number 2).number (nxS k * 128) := by unfold nxK Rk.raw; rw [if_neg hz]; rfl
    refine ⟨by rw [eK, hsh.2.2.2, g3]; exact hb, by rw [List.length_append, hS]; rfl, by rw [List.length_append, hD]; rfl, .inr ⟨by rw [eK, hsh.2.2.1]; decide, ?_⟩⟩
    rw [h4, if_pos (.inr (.inr h0))]; rfl
   ·
    rw [if_neg (by omega)] at h4
    have hk : nxK k = { k with at_ := k.at_ + 2 + nxS k * 128 } /\ nxD k = (body.drop (k.at_ + 2)).take (nxS k * 128) := by
     unfold nxK nxD Rk.raw Rk.rawGot
     by_cases hz : ((nxS k * 128 : Nat) : Int) <= 0
     ·
      have hz0 : nxS k = 0 := by omega
      rw [if_pos hz, if_pos hz, hz0, g3]
      exact ⟨rfl, by simp⟩
     ·
      rw [if_neg hz, if_neg hz, g3]
      obtain ⟨g4, g5, g6⟩ := Rk.got_good (k := { k with at_ := k.at_ + 2 }) h1 (n := nxS k * 128) (by dsimp only; rw [hb]; omega)
      refine ⟨g6, ?_⟩
      rw [show ((nxS k * 128 : Nat) : Int).toNat = nxS k * 128 from rfl, g4]
      dsimp only
      rw [hb]
    obtain ⟨k1, k2⟩ := hk
    have hdl : (nxD k).length = nxS k * 128 := by rw [k2, List.length_take, List.length_drop]; omega
    refine ⟨by rw [k1]; exact hb, by rw [List.length_append, hS]; rfl, by rw [List.length_append, hD]; rfl, .inl ⟨by rw [k1]; exact h1, by rw [k1]; dsimp only; omega, ?_, ?_⟩⟩
    ·
     intro j hj j1 j2
     by_cases hji : j < i
     ·
      rw [List.getElem_append_left (by omega), List.getElem_append_left (by omega)]
      exact h3 j hji (by omega) (by omega)
     ·
      have : j = i := by omega
      subst this
      rw [List.getElem_append_right (by omega), List.getElem_append_right (by omega)]
      simp only [hS, hD, Nat.sub_self, List.getElem_singleton]
      exact ⟨hdl, h8⟩
    ·
     rw [h4, k1]
     dsimp only
     have e1 : (body.drop k.at_).drop (2 + nxS k * 128) = body.drop (k.at_ + 2 + nxS k * 128) := by rw [List.drop_drop]; congr 1; omega
     have e2 : ((body.drop k.at_).drop 2).take (nxS k * 128) = nxD k := by rw [k2, List.drop_drop]
     rw [e1, e2, show c - (i + 1) = m by omega, Option.map_map]
     congr 1
     funext t
     simp only [Function.comp]
     rw [List.append_assoc]; rfl
 ·
  obtain ⟨q1, q2, q3⟩ := nx_bad h1
  exact ⟨by rw [q3]; exact hb, by rw [List.length_append, hS]; rfl, by rw [List.length_append, hD]; rfl, .inr ⟨by rw [q3]; exact h1, h2⟩⟩
theorem LdI.bad {body : List UInt8} {c : Nat} {k : Rk} {S : List Nat} {Ds : List (List UInt8)} (h : LdI body c c k S Ds) (hb : k.err ≠ 0 \/ k.at_ < k.b.length) : imgParse c (body.drop 6) = none := by
 obtain ⟨e, _, _, ⟨h1, h2, h3, h4⟩ | ⟨h1, h2⟩⟩ := h
 ·
  rw [h4, Nat.sub_self, imgParse, if_neg]
  · rfl
  ·
   intro q
   have := congrArg List.length q
   rw [List.length_drop, List.length_nil, <- e] at this
   rcases hb with hb | hb
   · exact hb h1
   · omega
 · exact h2
theorem LdI.good {body : List UInt8} {c : Nat} {k : Rk} {S : List Nat} {Ds : List (List UInt8)} (h : LdI body c c k S Ds) (h0 : k.err = 0) (hb : ¬ k.at_ < k.b.length) : imgParse c (body.drop 6) = some Ds /\ ∀ (j : Nat) (h1 : j < S.length) (h2 : j < Ds.length), Ds[j].length = S[j] * 128 /\ S[j] <= 8192 := by
 obtain ⟨e, hS, hD, ⟨h1, h2, h3, h4⟩ | ⟨h1, h2⟩⟩ := h
 ·
  refine ⟨?_, fun j q1 q2 => h3 j (by omega) q1 q2⟩
  rw [h4, Nat.sub_self, imgParse, if_pos (by apply List.drop_of_length_le; rw [<- e]; omega)]
  simp
 · exact absurd h0 h1
end Go.Proofs.YtjebagmjcdaegaaGreat
/-! Text Gb. -/
namespace Go.Proofs.YtjebagmjcdaegaaGreat
open Go.RowKit Go.Sl
attribute [local irreducible] Own
variable {W : World} {R : List SProp}
structure QsV (n c : Nat) (v : DevD) : Prop where
  worn : v.worn = false
  live : v.k.failed = false
  ok : v.k.ok
  len : v.k.last.length = n
  cap : v.k.cache.length <= c
structure Qs (n c : Nat) (s : SlotD) : Prop where
  aside : s.aside = none
  coming : s.coming = none
  out : s.in_ = none -> n = 0
  is : ∀ v, s.in_ = some v -> QsV n c v
structure Qt (D : BayD) (sz : Nat -> Nat) (m c : Nat) : Prop where
  dark : D.dark = false
  trip : D.trip = -1
  len : D.slots.length = m
  at_ : ∀ i s, D.slots[i]? = some s -> Qs (sz i) c s
variable {D : BayD} {sz : Nat -> Nat} {m c : Nat}
theorem Qs.mono {n c c' : Nat} {s : SlotD} (h : Qs n c s) (hc : c <= c') : Qs n c' s := ⟨h.aside, h.coming, h.out, fun v hv => let q := h.is v hv; ⟨q.worn, q.live, q.ok, q.len, Nat.le_trans q.cap hc⟩⟩
theorem Qt.mono (h : Qt D sz m c) {c' : Nat} (hc : c <= c') : Qt D sz m c' := ⟨h.dark, h.trip, h.len, fun i s q => (h.at_ i s q).mono hc⟩
theorem Qt.capd (h : Qt D sz m c) : D.capd c := fun s hs v hv => by
 obtain ⟨i, hi, e⟩ := List.getElem_of_mem hs
 have q := h.at_ i s (by rw [List.getElem?_eq_getElem hi, e])
 rcases hv with hv | hv | hv
 · exact (q.is v hv).cap
 · rw [q.aside] at hv; cases hv
 · rw [q.coming] at hv; cases hv
theorem Qt.pow (h : Qt D sz m c) : D.pow = D := by unfold BayD.pow; rw [if_neg (by rw [h.trip]; decide)]
theorem Qt.ahead (h : Qt D sz m c) (k : Int) (j : Nat) : Qt (D.ahead k j) sz m c := by
 unfold BayD.ahead
 split
 · exact h
 ·
  rw [h.pow, if_neg (by rw [h.dark]; decide)]
  exact ⟨h.dark, by show (if 0 < D.trip then _ else D.trip) = -1; rw [h.trip]; rfl, h.len, h.at_⟩
theorem Qt.dev (h : Qt D sz m c) {k : Nat} {v : DevD} (hv : D.dev k = some v) : QsV (sz k) c v /\ D.dv k = v := by
  have hv0 := hv
  unfold BayD.dev at hv
  rw [if_pos (by omega), Int.toNat_natCast] at hv
  cases hs : D.slots[k]? with
  | none => rw [hs] at hv; cases hv
  | some s =>
    rw [hs] at hv
    have q := (h.at_ k s hs).is v hv
    refine ⟨q, ?_⟩
    unfold BayD.dv
    rw [hv0]
    show v.use = v
    unfold DevD.use; rw [if_pos q.worn]
theorem Qt.none (h : Qt D sz m c) {k : Nat} (hk : k < m) (hv : D.dev k = none) : sz k = 0 := by
 unfold BayD.dev at hv
 rw [if_pos (by omega), Int.toNat_natCast, List.getElem?_eq_getElem (by rw [h.len]; exact hk)] at hv
 exact (h.at_ k _ (List.getElem?_eq_getElem (by rw [h.len]; exact hk))).out hv
theorem Qt.setIn (h : Qt D sz m c) (k : Nat) {v : DevD} (hv : QsV (sz k) c v) : Qt (D.setIn k v) sz m c := by
 refine ⟨h.dark, h.trip, by unfold BayD.setIn; rw [List.length_set]; exact h.len, fun i s hs => ?_⟩
 unfold BayD.setIn at hs
 dsimp only at hs
 rw [List.getElem?_set] at hs
 split at hs
 ·
  rename_i e
  subst e
  split at hs
  ·
   rename_i hlt
   cases hs
   have q := h.at_ k _ (List.getElem?_eq_getElem hlt)
   rw [List.getElem?_eq_getElem hlt]
   exact ⟨q.aside, q.coming, fun h => (nomatch (show some v = Option.none from h)), fun u hu => (Option.some.inj hu) ▸ hv⟩
  · cases hs
 · exact h.at_ i s hs
theorem Qt.refuse (h : Qt D sz m c) (k : Int) : D.refuse k = if inRange D.slots.length k = false then 1 else thereE D.slots.length (D.dev k).isSome k := by
 unfold BayD.refuse
 rw [h.pow, h.dark]; simp
theorem Qt.refuse0 (h : Qt D sz m c) {k : Int} (hr : D.refuse k = 0) : ∃ i : Nat, k = i /\ i < m /\ ∃ v, D.dev (i : Int) = some v := by
 have e := h.refuse k
 rw [hr] at e
 split at e
 · cases e
 ·
  rename_i hi
  have hi : inRange D.slots.length k = true := by simpa using hi
  have hk : 0 <= k /\ k < D.slots.length := by simpa [inRange] using hi
  rw [h.len] at hk
  refine ⟨k.toNat, by omega, by omega, ?_⟩
  rw [Int.toNat_of_nonneg hk.1]
  unfold thereE at e
  rw [if_pos hi] at e
  cases hd : D.dev k with
  | none => rw [hd] at e; simp at e
  | some v => exact ⟨v, rfl⟩
theorem Qt.there (h : Qt D sz m c) {k : Nat} (hk : k < m) (hs : 0 < sz k) : D.refuse k = 0 := by
 rw [h.refuse]
 have hi : inRange D.slots.length (k : Int) = true := by rw [h.len]; simp [inRange]; omega
 rw [if_neg (by rw [hi]; simp)]
 unfold thereE
 rw [if_pos hi]
 cases hd : D.dev (k : Int) with
 | none => have := h.none hk hd; omega
 | some v => rfl
theorem Qt.codes (h : Qt D sz m c) (k : Int) : D.refuse k = 0 \/ D.refuse k = 1 \/ D.refuse k = 51 := by
 rw [h.refuse]
 unfold thereE
 split
 · exact .inr (.inl rfl)
 ·
  split
  ·
   split
   · exact .inl rfl
   · exact .inr (.inr rfl)
  · exact .inr (.inl rfl)
theorem QsV.may {n c : Nat} {v : DevD} (h : QsV n c v) (a : Int) : v.k.may a = if a < 0 \/ (n : Int) <= a then 3 else 0 := by
 unfold DiskD.may; rw [h.live, h.len]; rfl
theorem Qt.read (h : Qt D sz m c) (k a : Int) : Qt (D.read k a).2 sz m c /\ (D.read k a).1.2 ≠ 50 := by
 unfold BayD.read
 split
 ·
  rename_i hr
  obtain ⟨i, rfl, hi, v, hv⟩ := h.refuse0 hr
  obtain ⟨q, e⟩ := h.dev hv
  rw [e]
  refine ⟨(h.ahead _ _).setIn _ q, ?_⟩
  unfold DiskD.rd
  split
  · show (0 : Int) ≠ 50; decide
  ·
   dsimp only
   rw [q.may]; split <;> decide
 ·
  rename_i hr
  exact ⟨h.ahead _ _, by rcases h.codes k with q | q | q <;> simp [q]⟩
theorem Qt.read_ok (h : Qt D sz m c) {k a : Nat} (hk : k < m) (ha : a < sz k) : (D.read k a).1.2 = 0 /\ (D.read k a).1.1.length = 128 := by
 have hr := h.there hk (by omega)
 obtain ⟨i, e, hi, v, hv⟩ := h.refuse0 hr
 obtain rfl : k = i := by omega
 obtain ⟨q, e⟩ := h.dev hv
 unfold BayD.read
 rw [if_pos hr, e]
 unfold DiskD.rd
 rw [if_pos (by rw [q.may, if_neg (by omega)])]
 exact ⟨rfl, DiskD.look_128 q.ok (by rw [q.len]; omega)⟩
theorem Qt.write (h : Qt D sz m c) (k a : Int) (b : List UInt8) : Qt (D.write k a b).2 sz m (c + 1) := by
 unfold BayD.write
 split
 ·
  rename_i hr
  obtain ⟨i, rfl, hi, v, hv⟩ := h.refuse0 hr
  obtain ⟨q, e⟩ := h.dev hv
  rw [e]
  refine ((h.ahead _ _).mono (Nat.le_succ c)).setIn _ ?_
  unfold DiskD.wr
  split
  · exact ⟨q.worn, q.live, q.ok, q.len, Nat.le_succ_of_le q.cap⟩
  ·
   split
   · exact ⟨q.worn, q.live, q.ok, q.len, Nat.le_succ_of_le q.cap⟩
   ·
    rename_i h1 h2
    have h1 : v.k.may a = 0 := by simpa using h1
    have h3 := (may_zero h1).2
    refine ⟨q.worn, q.live, DiskD.write_okk q.ok (by omega) (by omega), q.len, ?_⟩
    show (v.k.cache ++ [_]).length <= c + 1
    have := q.cap
    rw [List.length_append]; simp; omega
 · exact (h.ahead _ _).mono (Nat.le_succ c)
theorem Qt.write_ok (h : Qt D sz m c) {k a : Nat} {b : List UInt8} (hk : k < m) (ha : a < sz k) (hb : b.length = 128) : (D.write k a b).1 = 0 := by
 have hr := h.there hk (by omega)
 obtain ⟨i, e, hi, v, hv⟩ := h.refuse0 hr
 obtain rfl : k = i := by omega
 obtain ⟨q, e⟩ := h.dev hv
 unfold BayD.write
 rw [if_pos hr, e]
 unfold DiskD.wr
 rw [if_neg (by rw [q.may, if_neg (by omega)]; simp), if_neg (by omega)]
theorem Qt.flush (h : Qt D sz m c) (k : Int) : Qt (D.flush k).2 sz m c := by
 unfold BayD.flush
 split
 ·
  rename_i hr
  obtain ⟨i, rfl, hi, v, hv⟩ := h.refuse0 hr
  obtain ⟨q, e⟩ := h.dev hv
  rw [e]
  refine (h.ahead _ _).setIn _ ?_
  unfold DiskD.fl
  rw [if_neg (by rw [q.live]; simp)]
  exact ⟨q.worn, q.live, DiskD.settle_okk q.ok, by unfold DiskD.settle; rw [sets_length]; exact q.len, Nat.zero_le _⟩
 · exact h.ahead _ _
theorem Qt.flush_ok (h : Qt D sz m c) {k : Nat} (hk : k < m) (hs : 0 < sz k) : (D.flush k).1 = 0 := by
 have hr := h.there hk hs
 obtain ⟨i, e, hi, v, hv⟩ := h.refuse0 hr
 obtain rfl : k = i := by omega
 obtain ⟨q, e⟩ := h.dev hv
 unfold BayD.flush
 rw [if_pos hr, e]
 unfold DiskD.fl
 rw [if_neg (by rw [q.live]; simp)]
theorem Qt.cut (h : Qt D sz m c) (kl : List (List Bool)) : Qt (D.cut kl) sz m c := by
  refine ⟨rfl, rfl, by show (D.slots.mapIdx _).length = m; rw [List.length_mapIdx]; exact h.len, fun i s hs => ?_⟩
  have hs : (D.slots.mapIdx fun i s => s.cut (kl.getD i []))[i]? = some s := hs
  rw [List.getElem?_mapIdx] at hs
  cases hd : D.slots[i]? with
  | none => rw [hd] at hs; cases hs
  | some t =>
    rw [hd] at hs
    cases hs
    have q := h.at_ i t hd
    show Qs (sz i) c (t.cut (kl.getD i []))
    unfold SlotD.cut
    rw [q.coming, if_neg (by simp)]
    refine ⟨q.aside, rfl, fun e => q.out (by cases hin : t.in_ with | none => rfl | some v => rw [hin] at e; cases e), fun v hv => ?_⟩
    cases hin : t.in_ with
    | none => rw [hin] at hv; cases hv
    | some u =>
      rw [hin] at hv
      cases hv
      have r := q.is u hin
      exact ⟨r.worn, r.live, DiskD.settle_okk r.ok, by show (u.k.settle _).last.length = _; unfold DiskD.settle; rw [sets_length]; exact r.len, Nat.zero_le _⟩
theorem Qt.bReads (slot : Int) : ∀ (l : List Int) (acc : List UInt8) (D : BayD), Qt D sz m c -> Qt (bReads D slot l acc).2 sz m c
  | [], _, _, h => h
  | a :: r, acc, D, h => by
    unfold Go.Proofs.YtjebagmjcdaegaaGreat.bReads
    split
    · exact (h.read slot a).1
    · exact Qt.bReads slot r _ _ (h.read slot a).1
theorem Qt.wOpen (h : Qt D sz m c) (slot places : Int) : Qt (wOpen D slot places).2 sz m c := by
 unfold Go.Proofs.YtjebagmjcdaegaaGreat.wOpen
 have h1 := (h.read slot 1).1
 have h2 := h1.bReads slot (ringL places.toNat) []
 repeat' split
 all_goals first | exact h | exact h1 | exact h2
theorem Qt.wEmpty (h : Qt D sz m c) {v : WalD} {s : Nat} (e : Nat) (hs : v.slot = s) (hm : s < m) (hz : 1 < sz s) (hb : v.broken = 0) (hu : v.sure = true) :
  Qt (wEmpty (v, D) e).2.2 sz m (c + 1) /\ ((wEmpty (v, D) e).1 = 0 \/ (wEmpty (v, D) e).1 = (ChkD.mk e v.next v.head).enc.1) := by
 unfold Go.Proofs.YtjebagmjcdaegaaGreat.wEmpty
 rw [if_neg (by simp [hb]), if_neg (by simp [hu])]
 dsimp only
 unfold wCheck
 by_cases he : (ChkD.mk e v.next v.head).enc.1 = 0
 ·
  have hl : (ChkD.mk e v.next v.head).enc.2.length = 128 := by
   have hg : (ChkD.mk e v.next v.head).good := by
    rcases Decidable.em (ChkD.mk e v.next v.head).good with g | g
    · exact g
    · rw [chk_bad g] at he; cases he
   rw [chk_ok hg]
   exact sectF_length _ _ _ _ (chk_sum _)
  have w0 : (wWrite (v, D) 1 (ChkD.mk e v.next v.head).enc.2).1 = 0 := by
   unfold wWrite; rw [if_pos hb]; dsimp only; rw [hs]; exact h.write_ok (a := 1) hm hz hl
  have wq : wWrite (v, D) 1 (ChkD.mk e v.next v.head).enc.2 = (0, ({ v with broken := 0 }, (D.write s 1 (ChkD.mk e v.next v.head).enc.2).2)) := by
   have e1 : (D.write s 1 (ChkD.mk e v.next v.head).enc.2).1 = 0 := h.write_ok (a := 1) hm hz hl
   unfold wWrite; rw [if_pos hb]; dsimp only; rw [hs, e1]
  have h1 : Qt (D.write s 1 (ChkD.mk e v.next v.head).enc.2).2 sz m (c + 1) := h.write _ _ _
  have f0 : ((D.write s 1 (ChkD.mk e v.next v.head).enc.2).2.flush s).1 = 0 := h1.flush_ok hm (by omega)
  have fq : wFlush ({ v with broken := 0 }, (D.write s 1 (ChkD.mk e v.next v.head).enc.2).2) = (0, ({ v with broken := 0 }, ((D.write s 1 (ChkD.mk e v.next v.head).enc.2).2.flush s).2)) := by
   unfold wFlush; dsimp only; rw [if_pos rfl, hs, f0]
  simp only [he, wq, fq, ne_eq, not_true, if_false]
  exact ⟨h1.flush _, .inl trivial⟩
 ·
  simp only [ne_eq, he, not_false_eq_true, if_true]
  exact ⟨h.mono (Nat.le_succ c), .inr trivial⟩
theorem qt_image (ds : List (List UInt8)) (h : ∀ d ∈ ds, d.length % 128 = 0 /\ d.length / 128 <= 8192) : Qt (imgBay ds) (fun i => (ds.getD i []).length / 128) ds.length 0 := by
  refine ⟨rfl, rfl, by unfold imgBay; simp, fun i s hs => ?_⟩
  have hs : (ds.map slotI)[i]? = some s := hs
  rw [List.getElem?_map] at hs
  cases hd : ds[i]? with
  | none => rw [hd] at hs; cases hs
  | some d =>
    rw [hd] at hs
    cases hs
    have e : ds.getD i [] = d := by rw [List.getD_eq_getElem?_getD, hd]; rfl
    have q := h d (List.mem_of_getElem? hd)
    show Qs ((ds.getD i []).length / 128) 0 (slotI d)
    rw [e]
    unfold slotI
    split
    · rename_i h0; subst h0
      exact ⟨rfl, rfl, fun _ => rfl, fun v hv => by cases hv⟩
    · refine ⟨rfl, rfl, fun hv => (by cases hv), fun v hv => ?_⟩
      cases hv
      exact ⟨rfl, rfl, ⟨chunks_128 (by omega), fun x hx => (by cases hx), by dsimp only; rw [chunks_length]; exact q.2⟩, chunks_length _ _, Nat.le_refl _⟩
abbrev upV : Value := .int .i64 (-1)
theorem irepeat_ok (x n : Nat) (h1 : 1 <= n) (hn : n < 2 ^ 32) :
    Does W Tryz.prog 79 [.slice (some ⟨x, 0, none⟩) 1 1, .int .i64 n] (Row x 3 [upV] :: R) (β := Nat) (fun _ => True) (fun b => .slice (some ⟨b, 0, none⟩) n n)
      (fun b => Sl.Own 3 1 (.slice (some ⟨b, 0, none⟩) n n) n (List.replicate n upV) :: Row x 3 [upV] :: R) := by
  have one : ∀ j, ∀ u ∈ List.replicate j upV ++ List.replicate (n - j) (.int .i64 0), u.oneCell' = true := by
    intro j u hu
    rcases List.mem_append.1 hu with h | h
    · rw [List.eq_of_mem_replicate h]; rfl
    · rw [List.eq_of_mem_replicate h]; rfl
  (refine Does.enter Tryz.func79 Tryz.ntmps79 rfl rfl ?_)
  refine w ?_
  refine VO.re 15 (.int .u64 ((1 : Nat) : Int)) rfl (by rw [wrap64_of (by omega)]) ?_
  refine VO.re 17 (.int .u64 n) rfl (by rw [wrap64_of (by omega)]) ?_
  ((refine zq ?_; refine zd rfl rfl (mul_ok n (by omega)) ?_); intro _ _)
  refine w ?_
  (refine VC.condFe rfl rfl (by simp; omega) ?_)
  refine w ?_
  refine VO.re 29 (.int .i64 n) rfl (by congr 1; exact IntWalk.i64_in _ (by omega)) ?_
  refine zq ?_; refine OpV.makeSlice1 st_47 rfl rfl rfl ?_ ?_ rfl ?_
  · omega
  · simp only [maxLen]; omega
  intro b
  refine w ?_
  (refine zq ?_; refine OpV.copy st_47 rfl rfl zh (fun w hw => Sees.row (ys := []) (xs := [upV]) (fun u hu => by rw [List.mem_singleton.1 hu]; rfl) rfl hw (by simp only [List.append_nil]; (focus repeat first | exact .head _ | apply List.Mem.tail))) rfl ?_)
  refine w ?_
  have e0 : [upV].take (1 * 1) ++ (List.replicate n (Value.int .i64 0)).drop (1 * 1) = List.replicate 1 upV ++ List.replicate (n - 1) (.int .i64 0) := by
    simp
  have e1 : min 1 n = 1 := by omega
  rw [e1]
  refine VC.loop (α := Nat) (fun j => 1 <= j /\ j <= n) (fun j => Sl.Own 3 1 (.slice (some ⟨b, 0, none⟩) n n) n (List.replicate j upV ++ List.replicate (n - j) (.int .i64 0)) :: Row x 3 [upV] :: R)
    (fun j => [(7, .slice (some ⟨b, 0, none⟩) n n), (8, .int .i64 j)]) (fun j => n - j) rfl 1 ⟨Nat.le_refl _, h1⟩ ?_ ⟨rfl, rfl, trivial⟩ ?_
  · rw [<- e0]; exact Ent.refl
  · rintro j ⟨hj1, hj⟩
    refine w ?_
    refine zk ?_ ?_ <;> intro hc
    · have hlt : j < n := by simpa using hc
      refine w ?_
      (refine VC.drawn [7] 8 [0, 1, 2, 3, 4, 5, 6, 7, 8, 9] [] rfl (by kernel_rfl) (by kernel_rfl) Ent.re ?_)
      refine w ?_
      have hr : Rds W (Sl.Own 3 1 (.slice (some ⟨b, 0, none⟩) n n) n (List.replicate j upV ++ List.replicate (n - j) (.int .i64 0)) :: Row x 3 [upV] :: R) 1 (some ⟨b, 0, none⟩) n (List.replicate j upV ++ List.replicate (n - j) (.int .i64 0)) := Rds.own (one j) zm (by simp; omega) (by simp)
      (refine zq ?_; refine OpV.copyOwn st_47 rfl rfl zh (hlt) (fun w hw => (hr.take hj).sees hw) rfl ?_)
      refine w ?_
      have e2 : (List.replicate j upV ++ List.replicate (n - j) (Value.int .i64 0)).take (j * 1) ++ ((List.replicate j upV ++ List.replicate (n - j) (Value.int .i64 0)).take (j * 1)).take (min j (n - j) * 1) ++ (List.replicate j upV ++ List.replicate (n - j) (Value.int .i64 0)).drop (j * 1 + min j (n - j) * 1)
          = List.replicate (j + min j (n - j)) upV ++ List.replicate (n - (j + min j (n - j))) (Value.int .i64 0) := by
        simp only [Nat.mul_one]
        have a1 : (List.replicate j upV ++ List.replicate (n - j) (Value.int .i64 0)).take j = List.replicate j upV := by
          rw [List.take_append_of_le_length (by simp), List.take_of_length_le (by simp)]
        rw [a1]
        have a2 : (List.replicate j upV).take (min j (n - j)) = List.replicate (min j (n - j)) upV := by simp [List.take_replicate]
        have a3 : (List.replicate j upV ++ List.replicate (n - j) (Value.int .i64 0)).drop (j + min j (n - j)) = List.replicate (n - (j + min j (n - j))) (Value.int .i64 0) := by
          rw [List.drop_append]; simp [List.drop_replicate]; omega
        rw [a2, a3, List.replicate_append_replicate]
      rw [e2]
      refine VE.round (j + min j (n - j)) ⟨by omega, by omega⟩ (by omega) ⟨rfl, asV rfl (by simp), trivial⟩ Ent.refl
    · have hge : j = n := by have : ¬ j < n := by simpa using hc
                             omega
      subst hge
      refine w ?_
      refine VE.done b rfl trivial rfl ?_
      simp only [Nat.sub_self, List.replicate_zero, List.append_nil]
      exact Ent.refl
structure RwX where
  b : Nat
  m : Nat
  c : Nat
  s : Nat
  w : Option Addr
  lazy : Bool
  fa : Nat
structure RwX.ok (X : RwX) : Prop where
  m : 3 <= X.m /\ X.m <= 16
  c : 1 <= X.c /\ X.c <= 16
  s : 1 <= X.s /\ X.s <= 256
abbrev RwX.cells (X : RwX) : List Value := [.pointer (some ⟨X.b, 0, none⟩), .int .i64 X.m, .int .i64 X.c, .int .i64 X.s, .pointer X.w, .bool X.lazy, .slice (some ⟨X.fa, 0, none⟩) X.m X.m, .slice none 0 0, .bool false]
abbrev intL (l : List Int) : List Value := l.map fun n => .int .i64 n
abbrev RwO (r : Nat) (X : RwX) (fr : List Int) (R : List SProp) : List SProp := Row r 150 X.cells :: Sl.Own 3 1 (.slice (some ⟨X.fa, 0, none⟩) X.m X.m) X.m (intL fr) :: R
theorem intL_one (l : List Int) : ∀ u ∈ intL l, u.oneCell' = true := by
 intro u hu; obtain ⟨n, _, rfl⟩ := List.mem_map.1 hu; rfl
theorem rnew_ok {D : BayD} (b : Nat) {m c s : Nat} (hm : 3 <= m /\ m <= 16) (hc : 1 <= c /\ c <= 16) (hs : 1 <= s /\ s <= 256) (hD : D.slots.length = m + 1) (wp : Option Addr) (lazy : Bool) :
  Does W Tryz.prog 30 [.pointer (some ⟨b, 0, none⟩), .agg (geoN m c s).toArray, .pointer wp, .bool lazy] (BayR b D :: R) (β := Nat × Nat) (fun _ => True) (fun y => .tuple #[.pointer (some ⟨y.1, 0, none⟩), .int .u16 0])
   (fun y => RwO y.1 ⟨b, m, c, s, wp, lazy, y.2⟩ (List.replicate m (-1)) (BayR b D :: R)) := by
 (refine Does.enter Tryz.func30 Tryz.ntmps30 rfl rfl ?_)
 refine w ?_; repeat (refine zj fun _ => ?_; refine w ?_)
 (refine zq ?_; refine zy rfl rfl (gcheck_ok ⟨m, c, s⟩) ?_)
 intro _ _
 rw [if_pos ⟨⟨by dsimp only; omega, by dsimp only; omega⟩, ⟨by dsimp only; omega, by dsimp only; omega⟩, by dsimp only; omega, by dsimp only; omega⟩]
 refine w ?_; repeat (refine zj fun _ => ?_; refine w ?_)
 (refine VC.drawn [1] 5 [0, 2, 3, 4, 1, 5] _ rfl (by kernel_rfl) (by kernel_rfl) Ent.re ?_)
 refine w ?_; repeat (refine zj fun _ => ?_; refine w ?_)
 ((refine zq ?_; refine zd rfl rfl (bayslots_ok b D) ?_); intro _ _)
 rw [hD]
 refine w ?_; repeat (refine zj fun _ => ?_; refine w ?_)
 (refine VC.condFe rfl rfl (by simp) ?_)
 refine w ?_; repeat (refine zj fun _ => ?_; refine w ?_)
 (refine VC.drawn [4, 7] 8 [0, 1, 2, 3, 5, 6, 4, 7, 8, 9, 10, 11] _ rfl (by kernel_rfl) (by kernel_rfl) Ent.re ?_)
 refine w ?_; repeat (refine zj fun _ => ?_; refine w ?_)
 (refine zq ?_; refine OpV.buildSlice1 st_47 rfl rfl (by first | (simp; done) | simp [Value.oneCell']) (by decide) rfl ?_; intro nb)
 refine ⟨Ent.re, ?_⟩
 refine w ?_; repeat (refine zj fun _ => ?_; refine w ?_)
 (refine zq ?_; refine zd rfl rfl (irepeat_ok nb m (by omega) (by omega)) ?_)
 intro fa _
 refine ⟨Ent.re, ?_⟩
 ((first | apply VO.pure rfl rfl | apply VQ.pure rfl rfl | apply VD.take rfl rfl rfl | (refine VD.end rfl rfl rfl ?_; apply OpV.pure)); exact PureAt.build sb_150 rfl (show buildX _ _ _ = some (RwX.cells ⟨b, m, c, s, wp, lazy, fa⟩) by simp [buildX, setL, Value.cells]); rfl)
 refine w ?_; repeat (refine zj fun _ => ?_; refine w ?_)
 rename_i r
 have e : List.replicate m upV = intL (List.replicate m (-1)) := by simp [intL]
 rw [e]
 exact VE.done (r, fa) rfl trivial rfl Ent.re
theorem ris_ok (r : Nat) (X : RwX) (k : Int) : Does1 W Tryz.prog 101 [.pointer (some ⟨r, 0, none⟩), .int .i64 k] (Row r 150 X.cells :: R) (.bool (decide (0 <= k /\ k < X.m))) (Row r 150 X.cells :: R) := by
 (refine Does.enter Tryz.func101 Tryz.ntmps101 rfl rfl ?_)
 refine w ?_
 refine zg ?_ ?_ <;> intro hb
 ·
  have q := of_decide_eq_true hb
  refine w ?_
  exact VE.done1 rfl (by congr 1; rw [decide_eq_decide]; omega) Ent.refl
 ·
  have q := of_decide_eq_false hb
  refine w ?_
  exact VE.done1 rfl (by congr 1; symm; apply decide_eq_false; omega) Ent.refl
theorem rtrouble_ok (k : Int) (e : Nat) : Does1 W Tryz.prog 102 [.int .i64 k, .int .u16 e] R (.agg #[.int .i64 (if e = 0 then 0 else k), .int .u16 e]) R := by
 (refine Does.enter Tryz.func102 Tryz.ntmps102 rfl rfl ?_)
 refine w ?_
 refine zq ?_; refine OpV.allocS sb_97 rfl ?_; intro nt
 refine w ?_
 refine zk ?_ ?_ <;> intro hc
 ·
  have q : (e : Int) = 0 := by simpa using hc
  obtain rfl : e = 0 := by omega
  refine w ?_
  (apply VO.pure rfl rfl; apply PureAt.build sb_97 (pv := []) rfl; rfl; rfl)
  refine zq ?_
  refine OpV.stA (vs := [.int .i64 0, .int .u16 0]) tab_ok rfl rfl rfl rfl (by simp [Value.oneCell']) zh (by simp) ?_
  refine w ?_
  exact VE.results1 (.inl rfl) () rfl (ResIs.agg (vs := [.int .i64 0, .int .u16 0]) tab_ok rfl rfl zm rfl rfl) trivial rfl (Ent.drop Ent.refl)
 ·
  have q : ¬ e = 0 := by have := hc; simp at this; omega
  refine w ?_
  (apply VO.pure rfl rfl; apply PureAt.build sb_97 rfl; (simp [buildX, setL, Value.cells]; rfl); rfl)
  refine zq ?_
  refine OpV.stA (vs := [.int .i64 k, .int .u16 e]) tab_ok rfl rfl rfl rfl (by simp [Value.oneCell']) zh (by simp) ?_
  refine w ?_
  exact VE.results1 (.inl rfl) () rfl (ResIs.agg (vs := [.int .i64 k, .int .u16 e]) tab_ok rfl rfl zm rfl rfl) trivial (by rw [if_neg q]) (Ent.drop Ent.refl)
theorem rdown_ok (r : Nat) (X : RwX) (fr : List Int) (hf : fr.length = X.m) (k : Nat) (hk : k < X.m) (row : Int) :
  Does1 W Tryz.prog 103 [.pointer (some ⟨r, 0, none⟩), .int .i64 k, .int .i64 row] (RwO r X fr R) (.bool (decide (fr[k]'(hf ▸ hk) ≠ -1 /\ fr[k]'(hf ▸ hk) <= row))) (RwO r X fr R) := by
 have hkf : k < fr.length := hf ▸ hk
 have hr1 : Rds W (RwO r X fr R) 1 (some ⟨X.fa, 0, none⟩) X.m (intL fr) := Rds.own (intL_one _) zm (by simp [hf]) (by simp)
 (refine Does.enter Tryz.func103 Tryz.ntmps103 rfl rfl ?_)
 refine w ?_
 (refine zq ?_; refine zy rfl rfl (ris_ok r X k) ?_)
 intro _ _
 refine w ?_
 (first | refine VO.gT rfl rfl rfl (decide_eq_true ⟨by omega, by omega⟩) ?_ | refine VD.gT rfl rfl rfl (decide_eq_true ⟨by omega, by omega⟩) ?_)
 refine w ?_
 refine VO.pure rfl rfl (PureAt.ldR tab_ok rfl rfl hr1 (by rw [List.getElem?_map, List.getElem?_eq_getElem hkf]; rfl)) rfl ?_
 refine w ?_
 refine zg ?_ ?_ <;> intro hb
 ·
  have q : ¬ fr[k] = -1 := by have := hb; simp at this; exact this
  refine w ?_
  refine VO.pure rfl rfl (PureAt.ldR tab_ok rfl rfl hr1 (by rw [List.getElem?_map, List.getElem?_eq_getElem hkf]; rfl)) rfl ?_
  refine w ?_
  exact VE.done1 rfl (by congr 1; rw [decide_eq_decide]; exact ⟨fun h => ⟨q, h⟩, fun h => h.2⟩) Ent.refl
 ·
  have q : fr[k] = -1 := by have := hb; simp at this; exact this
  refine w ?_
  exact VE.done1 rfl (by congr 1; symm; apply decide_eq_false; exact fun h => h.1 q) Ent.refl
theorem rmark_ok (r : Nat) (X : RwX) (fr : List Int) (hf : fr.length = X.m) (k : Nat) (hk : k < X.m) (down : Bool) (z : Int) (hz : 0 <= z) :
  Does1 W Tryz.prog 83 [.pointer (some ⟨r, 0, none⟩), .int .i64 k, .bool down, .int .i64 z] (RwO r X fr R) (.tuple #[]) (RwO r X (fr.set k (if down then z else -1)) R) := by
 have hkf : k < fr.length := hf ▸ hk
 have hset : ∀ (fr : List Int) (z : Int), (intL fr).set k (.int .i64 z) = intL (fr.set k z) := fun fr z => by unfold intL; rw [List.map_set]
 (refine Does.enter Tryz.func83 Tryz.ntmps83 rfl rfl ?_)
 refine w ?_
 (refine zq ?_; refine zy rfl rfl (ris_ok r X k) ?_)
 intro _ _
 rw [decide_eq_true (show 0 <= (k : Int) /\ (k : Int) < X.m by omega)]
 refine w ?_
 refine zq ?_
 refine OpV.stO tab_ok rfl rfl rfl rfl zh (by simp; omega) ?_
 rw [hset]
 refine w ?_
 cases down
 ·
  refine w ?_
  exact VE.done1N rfl rfl Ent.re
 ·
  refine w ?_
  refine zq ?_
  refine OpV.stO tab_ok rfl rfl rfl rfl zh (by simp; omega) ?_
  rw [hset, List.set_set, show max 0 z = z by omega]
  refine w ?_
  exact VE.done1N rfl rfl Ent.re
theorem index0_ok (f : Value) : Does1 W Tryz.prog 218 [.slice none 0 0, f] R (.int .i64 (-1)) R := by
 (refine Does.enter Tryz.func218 Tryz.ntmps218 rfl rfl ?_)
 refine w ?_
 refine VC.once rfl ?_
 refine w ?_
 exact VE.done1 rfl rfl Ent.refl
theorem rwait_ok (r : Nat) (X : RwX) (k row : Int) :
  Does1 W Tryz.prog 156 [.pointer (some ⟨r, 0, none⟩), .int .i64 k, .int .i64 row] (Row r 150 X.cells :: R) (.tuple #[.slice none 0 0, .bool false]) (Row r 150 X.cells :: R) := by
 (refine Does.enter Tryz.func156 Tryz.ntmps156 rfl rfl ?_)
 refine w ?_; repeat (refine zj fun _ => ?_; refine w ?_)
 refine VO.pure rfl rfl (PureAt.makeFuncN rfl) rfl ?_
 ((refine zq ?_; refine zd rfl rfl (index0_ok _) ?_); intro _ _)
 refine w ?_; repeat (refine zj fun _ => ?_; refine w ?_)
 exact VE.done1 rfl rfl (by exact Ent.re)
structure SecY where
  l : List UInt8
  x : Option Addr × Nat
  D : BayD
abbrev SecY.v (y : SecY) : Value := .tuple #[.slice y.x.1 128 y.x.2, .agg #[.int .i64 0, .int .u16 0]]
abbrev RdO (y : SecY) (R : List SProp) : List SProp := Sl.Own 5 1 (.slice y.x.1 128 y.x.2) 128 (bytes y.l) :: R
def dwn (fr : List Int) (k row : Nat) : Prop := fr.getD k (-1) ≠ -1 /\ fr.getD k (-1) <= row
instance dwnDec (fr : List Int) (k row : Nat) : Decidable (dwn fr k row) := by unfold dwn; exact inferInstance
theorem rdownN_ok (r : Nat) (X : RwX) (fr : List Int) (hf : fr.length = X.m) (k : Nat) (hk : k < X.m) (row : Nat) :
  Does1 W Tryz.prog 103 [.pointer (some ⟨r, 0, none⟩), .int .i64 k, .int .i64 row] (RwO r X fr R) (.bool (decide (dwn fr k row))) (RwO r X fr R) := by
 have h := rdown_ok (W := W) (R := R) r X fr hf k hk row
 have e : fr.getD k (-1) = fr[k]'(hf ▸ hk) := by rw [List.getD_eq_getElem?_getD, List.getElem?_eq_getElem (hf ▸ hk)]; rfl
 unfold dwn
 simp only [e]
 exact h
theorem rsecup_ok {D : BayD} {sz : Nat -> Nat} {n c0 : Nat} (r : Nat) (X : RwX) (hX : X.ok) (fr : List Int) (hf : fr.length = X.m) (hq : Qt D sz n c0) (k : Nat) (hk : k < X.m) (hkn : k < n) (row : Nat) (hrow : row < X.s * X.c) (hup : ¬ dwn fr k row) (hs : 1 + row < sz k) :
  Does W Tryz.prog 108 [.pointer (some ⟨r, 0, none⟩), .int .i64 k, .int .i64 row] (RwO r X fr (BayR X.b D :: R)) (β := SecY) (fun y => y.l.length = 128 /\ Qt y.D sz n c0) SecY.v (fun y => RdO y (RwO r X fr (BayR X.b y.D :: R))) := by
 have h4 : X.s * X.c <= 256 * 16 := Nat.mul_le_mul hX.s.2 hX.c.2
 obtain ⟨rd0, rd1⟩ := hq.read_ok hkn (a := 1 + row) hs
 have rd2 := (hq.read k ((1 + row : Nat) : Int)).1
 have hread := fun R => bayread_ok (W := W) (R := R) X.b D k ((1 + row : Nat) : Int)
 rw [rd0, show sliceB = fun (x : Option Addr × Nat) (l : List UInt8) => Value.slice x.1 l.length x.2 from rfl] at hread
 simp only [rd1] at hread
 (refine Does.enter Tryz.func108 Tryz.ntmps108 rfl rfl ?_)
 refine w ?_
 refine zq ?_; refine OpV.allocS sb_97 rfl ?_; intro nt
 refine w ?_
 ((refine zq ?_; refine zd rfl rfl (ris_ok r X k) ?_); intro _ _)
 rw [decide_eq_true (show 0 <= (k : Int) /\ (k : Int) < X.m by omega)]
 refine w ?_
 (refine zq ?_; refine zy rfl rfl (growsN_ok hX.m hX.c hX.s) ?_)
 intro _ _
 refine w ?_
 (refine VC.condFe rfl rfl (decide_eq_false (by omega)) ?_)
 refine w ?_
 ((refine zq ?_; refine zd rfl rfl (rwait_ok r X k row) ?_); intro _ _)
 refine w ?_
 ((refine zq ?_; refine zd rfl rfl (rdownN_ok r X fr hf k hk row) ?_); intro _ _)
 rw [decide_eq_false hup]
 refine w ?_
 refine VO.re 57 (.int .i64 ((1 + row : Nat) : Int)) rfl (by congr 1) ?_
 (refine zq ?_; refine zd rfl rfl (hread _) ?_)
 intro x hx
 refine w ?_
 (refine zq ?_; refine zy rfl rfl (rtrouble_ok k 0) ?_)
 intro _ _
 refine w ?_
 refine zq ?_
 refine OpV.stA (vs := [.int .i64 0, .int .u16 0]) tab_ok rfl rfl rfl rfl (by simp [Value.oneCell']) zh (by simp) ?_
 refine w ?_
 refine VE.results2 (.inl rfl) (SecY.mk (D.read k ((1 + row : Nat) : Int)).1.1 x (D.read k ((1 + row : Nat) : Int)).2) rfl (.tmp rfl) (ResIs.agg (vs := [.int .i64 0, .int .u16 0]) tab_ok rfl rfl zm rfl rfl) ⟨rd1, rd2⟩ rfl ?_
 rw [show OwnB x (D.read k ((1 + row : Nat) : Int)).1.1 = Sl.Own 5 1 (.slice x.1 128 x.2) 128 (bytes (D.read k ((1 + row : Nat) : Int)).1.1) by unfold OwnB; rw [rd1]]
 exact Ent.re
structure FineX (X : RwX) (fr : List Int) (sz : Nat -> Nat) (n : Nat) : Prop where
  len : fr.length = X.m
  n : n = X.m + 1
  one : ∀ i j, i < X.m -> j < X.m -> fr.getD i (-1) ≠ -1 -> fr.getD j (-1) ≠ -1 -> i = j
  is : ∀ k row, k < X.m -> row < X.s * X.c -> ¬ dwn fr k row -> 1 + X.s * X.c <= sz k
abbrev nilR : RowE := ⟨none, 0, []⟩
theorem rsolved_ok {D : BayD} {sz : Nat -> Nat} {n c0 : Nat} (r : Nat) (X : RwX) (hX : X.ok) (fr : List Int) (hF : FineX X fr sz n) (hq : Qt D sz n c0) (k : Nat) (hk : k < X.m) (row : Nat) (hrow : row < X.s * X.c) (hdn : dwn fr k row) :
  Does W Tryz.prog 157 [.pointer (some ⟨r, 0, none⟩), .int .i64 k, .int .i64 row] (RwO r X fr (BayR X.b D :: R)) (β := SecY) (fun y => y.l.length = 128 /\ Qt y.D sz n c0) SecY.v (fun y => RdO y (RwO r X fr (BayR X.b y.D :: R))) := by
 have hXm := hX.m
 have hup : ∀ i, i < X.m -> i ≠ k -> ¬ dwn fr i row := fun i hi hne hd => hne (hF.one i k hi hk hd.1 hdn.1)
 (refine Does.enter Tryz.func157 Tryz.ntmps157 rfl rfl ?_)
 refine w ?_
 refine zq ?_; refine OpV.allocS sb_97 rfl ?_; intro nt
 refine w ?_
 refine VC.loop (α := Nat) (fun i => i <= X.m) (fun _ => Row nt 97 [.int .i64 0, .int .u16 0] :: RwO r X fr (BayR X.b D :: R))
  (fun i => [(0, .pointer (some ⟨r, 0, none⟩)), (1, .int .i64 k), (2, .int .i64 row), (7, .pointer (some ⟨nt, 0, none⟩)), (21, .int .i64 X.m), (22, .int .i64 i)]) (fun i => X.m - i) rfl 0 (Nat.zero_le _) Ent.re ⟨rfl, rfl, rfl, rfl, rfl, rfl, trivial⟩ ?_
 intro i hi
 refine w ?_
 refine zk ?_ ?_ <;> intro hc
 ·
  have hlt : i < X.m := by have := of_decide_eq_true hc; omega
  refine w ?_
  ((refine zq ?_; refine zd rfl rfl (rwait_ok r X i row) ?_); intro _ _)
  refine w ?_
  refine zg ?_ ?_ <;> intro hb
  ·
   have hne : i ≠ k := by
    intro e; subst e
    have : ((i : Int) != (i : Int)) = true := hb
    simp at this
   refine w ?_
   ((refine zq ?_; refine zd rfl rfl (rdownN_ok r X fr hF.len i hlt row) ?_); intro _ _)
   rw [decide_eq_false (hup i hlt hne)]
   refine w ?_
   exact VE.round (i + 1) hlt (by omega) ⟨rfl, rfl, rfl, rfl, rfl, asV rfl (by congr 1), trivial⟩ Ent.re
  ·
   refine w ?_
   exact VE.round (i + 1) hlt (by omega) ⟨rfl, rfl, rfl, rfl, rfl, asV rfl (by congr 1), trivial⟩ Ent.re
 clear hc
 refine w ?_
 refine zq ?_
 refine OpV.makeSlice1 (m := X.m) st_49 rfl rfl rfl (by omega) (by simp only [maxLen]; omega) rfl ?_
 intro da
 refine w ?_
 refine VC.loop (α := Nat × List RowE × BayD) (fun y => y.1 <= X.m /\ y.2.1.length = y.1 /\ Qt y.2.2 sz n c0 /\ ∀ j (h : j < y.2.1.length), j ≠ k -> y.2.1[j].data.length = 128)
  (fun y => Sl.Own 22 1 (.slice (some ⟨da, 0, none⟩) X.m X.m) X.m (y.2.1.map RowE.hdr ++ List.replicate (X.m - y.1) (.slice none 0 0)) :: PilR y.2.1 :: Row nt 97 [.int .i64 0, .int .u16 0] :: RwO r X fr (BayR X.b y.2.2 :: R))
  (fun y => [(0, .pointer (some ⟨r, 0, none⟩)), (1, .int .i64 k), (2, .int .i64 row), (7, .pointer (some ⟨nt, 0, none⟩)), (11, .slice (some ⟨da, 0, none⟩) X.m X.m), (54, .int .i64 X.m), (55, .int .i64 y.1)]) (fun y => X.m - y.1) rfl (0, [], D) ⟨Nat.zero_le _, rfl, hq, fun j h => absurd h (Nat.not_lt_zero _)⟩
  (Ent.trans (fun w hw => pile_nil (res := RowE.res) hw) (by simp only [List.map_nil, List.nil_append, Nat.sub_zero]; exact Ent.re)) ⟨rfl, rfl, rfl, rfl, rfl, rfl, rfl, trivial⟩ ?_
 rintro ⟨i, L, D'⟩ ⟨hi, hL, hq', h128⟩
 dsimp only at hi hL hq' h128 ⊢
 have hXn := hF.n
 refine VC.know (fun w hw => PilR.know hw.tail) ?_
 intro hok
 refine w ?_
 refine zk ?_ ?_ <;> intro hc
 ·
  have hlt : i < X.m := by have := of_decide_eq_true hc; omega
  clear hc
  have hrep : ∀ e : RowE, (L.map RowE.hdr ++ List.replicate (X.m - i) (Value.slice none 0 0)).set i e.hdr = (L ++ [e]).map RowE.hdr ++ List.replicate (X.m - (i + 1)) (Value.slice none 0 0) := fun e => by
   rw [show X.m - i = X.m - (i + 1) + 1 by omega, List.replicate_succ, List.map_append, List.set_append_right _ _ (by rw [List.length_map]; omega), List.length_map, hL, Nat.sub_self, List.set_cons_zero, List.append_assoc]; rfl
  refine w ?_
  refine zk ?_ ?_ <;> intro hc
  ·
   have hik : i = k := by have := hc; simp at this; omega
   refine w ?_
   refine VE.round (i + 1, L ++ [nilR], D') ⟨hlt, by rw [List.length_append, List.length_singleton, hL], hq', fun j hj hjk => ?_⟩ (by dsimp only; omega) ⟨rfl, rfl, rfl, rfl, rfl, rfl, asV rfl (by congr 1), trivial⟩ ?_
   ·
    have hj : j < L.length := by
     rw [List.length_append, List.length_singleton] at hj; omega
    dsimp only
    rw [List.getElem_append_left hj]
    exact h128 j hj hjk
   ·
    dsimp only
    rw [<- hrep nilR, List.set_append_right _ _ (by rw [List.length_map]; omega), List.length_map, hL, Nat.sub_self, show X.m - i = X.m - (i + 1) + 1 by omega, List.replicate_succ, List.set_cons_zero]
    exact fun w hw => (Ent.re : Ent W (PilR (L ++ [nilR]) :: _ :: _) _) w (pile_push (res := RowE.res) (a := nilR) ((Ent.re : Ent W (Sl.Own 5 1 (.slice none 0 0) 0 [] :: _ :: PilR L :: _) _) w (hw.ownNil 5 1)))
  ·
   have hik : i ≠ k := by
    intro e; subst e
    have : ((i : Int) == (i : Int)) = false := hc
    simp at this
   refine w ?_
   have hsz := hF.is i row hlt hrow (hup i hlt hik)
   (refine zq ?_; refine zd rfl rfl (rsecup_ok r X hX fr hF.len hq' i hlt (by omega) row hrow (hup i hlt hik) (by omega)) ?_)
   rintro ⟨l', x, D2⟩ ⟨hl', hq2⟩
   dsimp only at hl' hq2 ⊢
   refine w ?_
   refine zq ?_; refine OpV.allocS sb_97 rfl ?_; intro n14
   refine w ?_
   refine zq ?_
   refine OpV.stA (vs := [.int .i64 0, .int .u16 0]) tab_ok rfl rfl rfl rfl (by simp [Value.oneCell']) zh (by simp) ?_
   refine w ?_
   refine VO.re 74 (RowE.hdr ⟨x.1, x.2, l'⟩) rfl (by show Value.slice x.1 128 x.2 = Value.slice x.1 l'.length x.2; rw [hl']) ?_
   refine zq ?_
   refine OpV.stO tab_ok rfl rfl rfl rfl zh (by rw [List.length_append, List.length_map, List.length_replicate]; omega) ?_
   rw [hrep]
   have er : Sl.Own 5 1 (.slice x.1 128 x.2) 128 (bytes l') = RowE.res ⟨x.1, x.2, l'⟩ := by unfold RowE.res; dsimp only; rw [hl']
   dsimp only [RdO]
   rw [er]
   refine w ?_
   refine VE.round (i + 1, L ++ [⟨x.1, x.2, l'⟩], D2) ⟨hlt, by rw [List.length_append, List.length_singleton, hL], hq2, fun j hj hjk => ?_⟩ (by dsimp only; omega) ⟨rfl, rfl, rfl, rfl, rfl, rfl, asV rfl (by congr 1), trivial⟩ ?_
   ·
    rw [List.length_append, List.length_singleton] at hj
    dsimp only
    rcases Nat.lt_or_ge j L.length with q | q
    ·
     rw [List.getElem_append_left q]
     exact h128 j q hjk
    ·
     obtain rfl : j = L.length := by omega
     rw [List.getElem_concat_length rfl]; exact hl'
   ·
    dsimp only
    exact fun w hw => (Ent.re : Ent W (PilR (L ++ [RowE.mk x.1 x.2 l']) :: _) _) w (pile_push (res := RowE.res) (a := ⟨x.1, x.2, l'⟩) ((Ent.re : Ent W _ (RowE.res ⟨x.1, x.2, l'⟩ :: PilR L :: Sl.Own 22 1 (.slice (some ⟨da, 0, none⟩) X.m X.m) X.m ((L ++ [RowE.mk x.1 x.2 l']).map RowE.hdr ++ List.replicate (X.m - (i + 1)) (.slice none 0 0)) :: Row nt 97 [.int .i64 0, .int .u16 0] :: RwO r X fr (BayR X.b D2 :: R))) w hw))
 have hge : i = X.m := by have := of_decide_eq_false hc; omega
 clear hc
 have hO : Sl.Own 22 1 (.slice (some ⟨da, 0, none⟩) X.m X.m) X.m (L.map RowE.hdr ++ List.replicate (X.m - i) (.slice none 0 0)) = RowsO (some ⟨da, 0, none⟩, X.m) L := by
  unfold RowsO; rw [hL, hge]; simp
 rw [hO]
 have hrd : RdRows W (RowsO (some ⟨da, 0, none⟩, X.m) L :: PilR L :: Row nt 97 [.int .i64 0, .int .u16 0] :: RwO r X fr (BayR X.b D' :: R)) (some ⟨da, 0, none⟩) L := RdRows.own (x := (some ⟨da, 0, none⟩, X.m)) (by simp) hok zm zm
 refine w ?_
 (refine zq ?_; refine zy rfl rfl (solve_ok hX.m hX.c hX.s hk hrow L (hL.trans hge) hrd h128) ?_)
 rintro ⟨l2, x2⟩ hl2
 dsimp only at hl2 ⊢
 refine w ?_
 (refine zq ?_; refine zy rfl rfl (rtrouble_ok 0 0) ?_)
 intro _ _
 refine w ?_
 refine zq ?_
 refine OpV.stA (vs := [.int .i64 0, .int .u16 0]) tab_ok rfl rfl rfl rfl (by simp [Value.oneCell']) zh (by simp) ?_
 refine w ?_
 exact VE.results2 (.inl rfl) (SecY.mk l2 x2 D') rfl (.tmp rfl) (ResIs.agg (vs := [.int .i64 0, .int .u16 0]) tab_ok rfl rfl zm rfl rfl) ⟨hl2, hq'⟩ rfl Ent.re
theorem rsector_ok {D : BayD} {sz : Nat -> Nat} {n c0 : Nat} (r : Nat) (X : RwX) (hX : X.ok) (fr : List Int) (hF : FineX X fr sz n) (hq : Qt D sz n c0) (k : Nat) (hk : k < X.m) (row : Nat) (hrow : row < X.s * X.c) :
  Does W Tryz.prog 108 [.pointer (some ⟨r, 0, none⟩), .int .i64 k, .int .i64 row] (RwO r X fr (BayR X.b D :: R)) (β := SecY) (fun y => y.l.length = 128 /\ Qt y.D sz n c0) SecY.v (fun y => RdO y (RwO r X fr (BayR X.b y.D :: R))) := by
 have h4 : X.s * X.c <= 256 * 16 := Nat.mul_le_mul hX.s.2 hX.c.2
 have hXn := hF.n
 by_cases hd : dwn fr k row
 rotate_left
 ·
  have := hF.is k row hk hrow hd
  exact rsecup_ok r X hX fr hF.len hq k hk (by omega) row hrow hd (by omega)
 (refine Does.enter Tryz.func108 Tryz.ntmps108 rfl rfl ?_)
 refine w ?_
 refine zq ?_; refine OpV.allocS sb_97 rfl ?_; intro nt
 refine w ?_
 ((refine zq ?_; refine zd rfl rfl (ris_ok r X k) ?_); intro _ _)
 rw [decide_eq_true (show 0 <= (k : Int) /\ (k : Int) < X.m by omega)]
 refine w ?_
 (refine zq ?_; refine zy rfl rfl (growsN_ok hX.m hX.c hX.s) ?_)
 intro _ _
 refine w ?_
 (refine VC.condFe rfl rfl (decide_eq_false (by omega)) ?_)
 refine w ?_
 ((refine zq ?_; refine zd rfl rfl (rwait_ok r X k row) ?_); intro _ _)
 refine w ?_
 ((refine zq ?_; refine zd rfl rfl (rdownN_ok r X fr hF.len k hk row) ?_); intro _ _)
 rw [decide_eq_true hd]
 refine w ?_
 (refine zq ?_; refine zd rfl rfl (rsolved_ok r X hX fr hF hq k hk row hrow hd) ?_)
 rintro ⟨l, x, D'⟩ ⟨h1, h2⟩
 dsimp only at h1 h2 ⊢
 refine w ?_
 refine zq ?_
 refine OpV.stA (vs := [.int .i64 0, .int .u16 0]) tab_ok rfl rfl rfl rfl (by simp [Value.oneCell']) zh (by simp) ?_
 refine w ?_
 exact VE.results2 (.inl rfl) (SecY.mk l x D') rfl (.tmp rfl) (ResIs.agg (vs := [.int .i64 0, .int .u16 0]) tab_ok rfl rfl zm rfl rfl) ⟨h1, h2⟩ rfl Ent.re
theorem rread_ok {D : BayD} {sz : Nat -> Nat} {n c0 : Nat} (r : Nat) (X : RwX) (hX : X.ok) (fr : List Int) (hF : FineX X fr sz n) (hq : Qt D sz n c0) (k : Nat) (hk : k < X.s * X.c * (X.m - 1)) :
  Does W Tryz.prog 51 [.pointer (some ⟨r, 0, none⟩), .int .i64 k] (RwO r X fr (BayR X.b D :: R)) (β := SecY) (fun y => y.l.length = 128 /\ Qt y.D sz n c0) SecY.v (fun y => RdO y (RwO r X fr (BayR X.b y.D :: R))) := by
 (refine Does.enter Tryz.func51 Tryz.ntmps51 rfl rfl ?_)
 refine w ?_
 refine zq ?_; refine OpV.allocS sb_97 rfl ?_; intro nt
 refine w ?_
 (refine zq ?_; refine zy rfl rfl (gplace_ok hX.m hX.c hX.s hk) ?_)
 rintro ⟨st, row, me, pa⟩ ⟨h1, h2⟩
 dsimp only at h1 h2 ⊢
 refine w ?_
 refine zq ?_; refine OpV.allocS sb_203 rfl ?_; intro np
 refine w ?_
 refine zq ?_
 refine OpV.stA (vs := [.int .i64 st, .int .i64 row, .int .i64 me, .int .i64 pa]) tab_ok rfl rfl rfl rfl (by simp [Value.oneCell']) zh (by simp) ?_
 refine w ?_
 (refine zq ?_; refine zd rfl rfl (rsector_ok r X hX fr hF hq me h2 row h1) ?_)
 rintro ⟨l, x, D'⟩ ⟨h3, h4⟩
 dsimp only at h3 h4 ⊢
 refine w ?_
 refine zq ?_
 refine OpV.stA (vs := [.int .i64 0, .int .u16 0]) tab_ok rfl rfl rfl rfl (by simp [Value.oneCell']) zh (by simp) ?_
 refine w ?_
 exact VE.results2 (.inl rfl) (SecY.mk l x D') rfl (.tmp rfl) (ResIs.agg (vs := [.int .i64 0, .int .u16 0]) tab_ok rfl rfl zm rfl rfl) ⟨h3, h4⟩ rfl Ent.re
def wayV (l : List Pl) : List Value := l.flatMap fun p => [.int .i64 p.1, .int .i64 p.2]
theorem wayV_len (l : List Pl) : (wayV l).length = l.length * 2 := by
 induction l with
 | nil => rfl
 | cons p r ih => unfold wayV at *; rw [List.flatMap_cons, List.length_append, ih, List.length_cons]; simp only [List.length_cons, List.length_nil]; omega
theorem wayV_cons (p : Pl) (l : List Pl) : wayV (p :: l) = .int .i64 p.1 :: .int .i64 p.2 :: wayV l := by unfold wayV; rw [List.flatMap_cons]; rfl
theorem wayV_append (l r : List Pl) : wayV (l ++ r) = wayV l ++ wayV r := by unfold wayV; rw [List.flatMap_append]
theorem wayV_one (l : List Pl) : ∀ u ∈ wayV l, u.oneCell' = true := by
 intro u hu
 obtain ⟨p, _, h⟩ := List.mem_flatMap.1 hu
 simp only [List.mem_cons, List.not_mem_nil, or_false] at h
 rcases h with rfl | rfl <;> rfl
theorem wayV_drop (l : List Pl) (i : Nat) : (wayV l).drop (i * 2) = wayV (l.drop i) := by
  induction i generalizing l with
  | zero => simp
  | succ i ih =>
    cases l with
    | nil => simp [wayV]
    | cons p r =>
      rw [wayV_cons, show (i + 1) * 2 = i * 2 + 1 + 1 by omega, List.drop_succ_cons, List.drop_succ_cons, ih, List.drop_succ_cons]
theorem wayV_take (l : List Pl) (i : Nat) : (wayV l).take (i * 2) = wayV (l.take i) := by
  induction i generalizing l with
  | zero => simp [wayV]
  | succ i ih =>
    cases l with
    | nil => simp [wayV]
    | cons p r =>
      rw [wayV_cons, show (i + 1) * 2 = i * 2 + 1 + 1 by omega, List.take_succ_cons, List.take_succ_cons, ih, List.take_succ_cons, wayV_cons]
theorem wayV_two {l : List Pl} {i : Nat} (h : i < l.length) : ((wayV l).drop (i * 2)).take 2 = [.int .i64 (pl l i).1, .int .i64 (pl l i).2] := by
 rw [wayV_drop, List.drop_eq_getElem_cons h, wayV_cons, pl_at h]
 rfl
theorem wayV_at0 {l : List Pl} {i : Nat} (h : i < l.length) : (wayV l)[i * 2]? = some (.int .i64 (pl l i).1) := by
 have := congrArg (·[0]?) (wayV_two h)
 simpa [List.getElem?_take, List.getElem?_drop] using this
theorem wayV_at1 {l : List Pl} {i : Nat} (h : i < l.length) : (wayV l)[i * 2 + 1]? = some (.int .i64 (pl l i).2) := by
 have := congrArg (·[1]?) (wayV_two h)
 simpa [List.getElem?_take, List.getElem?_drop] using this
theorem wayV_set {l : List Pl} {i : Nat} {p : Pl} (h : i < l.length) : (wayV l).take (i * 2) ++ [.int .i64 p.1, .int .i64 p.2] ++ (wayV l).drop (i * 2 + 2) = wayV (l.set i p) := by
 rw [show i * 2 + 2 = (i + 1) * 2 by omega, wayV_take, wayV_drop, List.set_eq_take_append_cons_drop, if_pos h, wayV_append, wayV_cons, List.append_assoc]
 rfl
abbrev WayR (ao : Option Addr) (cap : Nat) (l : List Pl) : SProp := Sl.Own 179 2 (.slice ao l.length cap) l.length (wayV l)
theorem waylen_ok {H : List SProp} {ao : Option Addr} {n cap : Nat} : Does1 W Tryz.prog 281 [.slice ao n cap] H (.int .i64 n) H := by
 (refine Does.enter Tryz.func281 Tryz.ntmps281 rfl rfl ?_)
 refine w ?_
 refine VE.done1 rfl ?_ ?_
 · rfl
 · exact Ent.refl
theorem wayless_ok {H : List SProp} {a : Addr} {cap i j : Nat} {l : List Pl} (hr : Rds W H 2 (some a) l.length (wayV l)) (hi : i < l.length) (hj : j < l.length) :
  Does1 W Tryz.prog 282 [.slice (some a) l.length cap, .int .i64 i, .int .i64 j] H (.bool (decide (plt (pl l i) (pl l j)))) H := by
 (refine Does.enter Tryz.func282 Tryz.ntmps282 rfl rfl ?_)
 refine w ?_
 (refine VC.drawn [] 34 [0, 1, 2, 3, 4, 5, 6, 7, 8, 9, 10, 11, 12, 13, 14, 15, 16, 17, 18, 19, 20, 21, 22, 23, 24, 25, 26, 27, 28, 29, 30, 31, 32, 33, 34, 35, 36, 37] _ rfl (by kernel_rfl) (by kernel_rfl) Ent.re ?_)
 refine w ?_
 ((first | apply VO.pure rfl rfl | apply VQ.pure rfl rfl | apply VD.take rfl rfl rfl | (refine VD.end rfl rfl rfl ?_; apply OpV.pure)); exact PureAt.ldRc tab_ok rfl rfl hr (wayV_at1 hi); rfl)
 refine w ?_
 ((first | apply VO.pure rfl rfl | apply VQ.pure rfl rfl | apply VD.take rfl rfl rfl | (refine VD.end rfl rfl rfl ?_; apply OpV.pure)); exact PureAt.ldRc tab_ok rfl rfl hr (wayV_at1 hj); rfl)
 refine w ?_
 have hp : plt (pl l i) (pl l j) ↔ (pl l i).2 < (pl l j).2 \/ ((pl l i).2 = (pl l j).2 /\ (pl l i).1 < (pl l j).1) := Iff.rfl
 refine zg ?_ ?_ <;> intro hb
 ·
  have h1 := of_decide_eq_true hb
  rw [decide_eq_true (hp.2 (.inl h1))]
  refine w ?_
  refine VE.done1 rfl ?_ ?_
  · rfl
  · exact Ent.refl
 ·
  have h1 := of_decide_eq_false hb
  refine w ?_
  ((first | apply VO.pure rfl rfl | apply VQ.pure rfl rfl | apply VD.take rfl rfl rfl | (refine VD.end rfl rfl rfl ?_; apply OpV.pure)); exact PureAt.ldRc tab_ok rfl rfl hr (wayV_at1 hi); rfl)
  refine w ?_
  ((first | apply VO.pure rfl rfl | apply VQ.pure rfl rfl | apply VD.take rfl rfl rfl | (refine VD.end rfl rfl rfl ?_; apply OpV.pure)); exact PureAt.ldRc tab_ok rfl rfl hr (wayV_at1 hj); rfl)
  refine w ?_
  refine zg ?_ ?_ <;> intro hb
  ·
   have h2 := of_decide_eq_true hb
   refine w ?_
   ((first | apply VO.pure rfl rfl | apply VQ.pure rfl rfl | apply VD.take rfl rfl rfl | (refine VD.end rfl rfl rfl ?_; apply OpV.pure)); exact PureAt.ldRc tab_ok rfl rfl hr (wayV_at0 hi); rfl)
   refine w ?_
   ((first | apply VO.pure rfl rfl | apply VQ.pure rfl rfl | apply VD.take rfl rfl rfl | (refine VD.end rfl rfl rfl ?_; apply OpV.pure)); exact PureAt.ldRc tab_ok rfl rfl hr (wayV_at0 hj); rfl)
   refine w ?_
   refine VE.done1 rfl ?_ ?_
   ·
    refine congrArg Value.bool ?_
    rw [decide_eq_decide, hp]
    constructor
    · intro h; exact .inr ⟨h2, h⟩
    ·
     rintro (h | h)
     · exact absurd h h1
     · exact h.2
   · exact Ent.refl
  ·
   have h2 := of_decide_eq_false hb
   rw [decide_eq_false (fun h => (hp.1 h).elim h1 fun h => h2 h.1)]
   refine w ?_
   refine VE.done1 rfl ?_ ?_
   · rfl
   · exact Ent.refl
def levS (A : SProp) (R : List SProp) : Nat -> List SProp
  | 0 => A :: R
  | _ + 1 => R
theorem levS_step (A : SProp) (R : List SProp) : ∀ k, Ent W (levS A R k) (levS A R (k + 1))
 | 0 => fun w hw => hw.tail
 | _ + 1 => Ent.refl
theorem wayswap_ok {a : Addr} {cap i j : Nat} {l : List Pl} (hi : i < l.length) (hj : j < l.length) :
  Does1 W Tryz.prog 283 [.slice (some a) l.length cap, .int .i64 i, .int .i64 j] (WayR (some a) cap l :: R) (.tuple #[]) (WayR (some a) cap (swp l i j) :: R) := by
 (refine Does.enter Tryz.func283 Tryz.ntmps283 rfl rfl ?_)
 have hr : Rds W (WayR (some a) cap l :: R) 2 (some a) l.length (wayV l) := Rds.own (wayV_one l) (.head _) (wayV_len l) (fun h => by cases h)
 have hlw := wayV_len l
 have o1 : ∀ p : Pl, ∀ u ∈ [Value.int .i64 p.1, Value.int .i64 p.2], u.oneCell' = true := fun p u hu => by
  simp only [List.mem_cons, List.not_mem_nil, or_false] at hu
  rcases hu with rfl | rfl <;> rfl
 refine w ?_
 refine VC.drawnL (levS (WayR (some a) cap l) R) [13, 15] [(13, 1), (15, 1)] [(7, 0), (11, 0)] 1 [0, 1, 2, 3, 4, 5, 6, 7, 8, 9, 10, 11, 12, 13, 14, 15] rfl (by kernel_rfl) (by kernel_rfl) Ent.refl (levS_step _ _) ?_
 iterate 7 (apply VL.take rfl rfl rfl 1 rfl; (exact zp); rfl)
 apply VL.take rfl rfl rfl 0 rfl
 · exact PureAt.ldRA tab_ok rfl rfl hr (wayV_two hj) rfl
 · rfl
 iterate 3 (apply VL.take rfl rfl rfl 1 rfl; (exact zp); rfl)
 apply VL.take rfl rfl rfl 0 rfl
 · exact PureAt.ldRA tab_ok rfl rfl hr (wayV_two hi) rfl
 · rfl
 (apply VL.take rfl rfl rfl 1 rfl; (exact zp); rfl)
 refine VL.mid rfl rfl rfl 1 rfl ?_
 refine OpV.stOA (vs := [.int .i64 (pl l j).1, .int .i64 (pl l j).2]) tab_ok rfl rfl rfl rfl (o1 _) .head (by omega) ?_
 rw [wayV_set hi]
 refine ⟨(show Ent W _ R from fun w hw => hw.tail), ?_⟩
 (apply VL.take rfl rfl rfl 1 rfl; (exact zp); rfl)
 refine VL.mid rfl rfl rfl 1 rfl ?_
 refine OpV.stOA (vs := [.int .i64 (pl l i).1, .int .i64 (pl l i).2]) tab_ok rfl rfl rfl rfl (o1 _) .head (by rw [wayV_len, List.length_set]; omega) ?_
 rw [wayV_set (by rw [List.length_set]; exact hj)]
 refine ⟨(show Ent W _ R from fun w hw => hw.tail), ?_⟩
 refine VL.nil ?_
 refine w ?_
 (refine VE.done1N rfl ?_ ?_)
 · rfl
 ·
  rw [WayR, swp_length]
  exact Ent.refl
theorem quoI {P : Program} {n : Nat} {H : List SProp} {f : Fr} {dst : Option Tmp} {ty_ : TypeId} {pos : String} {after : Array Edge} {guard : Option (Nat × Bool)} {x y : Operand} {s u : TypeId} {k : IntKind} {a b v : Int} (hx : evalX f x = some (.int k a)) (hy : evalX f y = some (.int k b)) (hb : b ≠ 0) (hw : k.wrap (a.tdiv b) = v) :
  PureAt W P n H f { dst, op := .binOp .quo s x y u, type := ty_, pos, after, guard } (.int k v) :=
 by
  unfold PureAt
  intro tm w hk _
  simp [execOp, hk.eval hx, hk.eval hy, eqGuard, binOp, Op.intDiv, hb, hw]
theorem half_up {i : Nat} (h : i < 1000000) : IntKind.i64.wrap (Int.tdiv ((i : Int) - 1) 2) = (((i - 1) / 2 : Nat) : Int) := by
 have e : Int.tdiv ((i : Int) - 1) 2 = (((i - 1) / 2 : Nat) : Int) := by
  rcases Nat.eq_zero_or_pos i with rfl | hp
  · decide
  · rw [show (i : Int) - 1 = ((i - 1 : Nat) : Int) by omega, show (2 : Int) = ((2 : Nat) : Int) by rfl, <- Int.ofNat_tdiv]
 rw [e]
 exact IntWalk.i64_in _ ⟨by omega, by omega⟩
abbrev ptrW (b off : Nat) : Value := .pointer (some ⟨b, off, none⟩)
abbrev hW (b off : Nat) : Value := .iface 185 (ptrW b off)
abbrev plcV (p : Pl) : Value := .agg #[.int .i64 p.1, .int .i64 p.2]
abbrev plcI (p : Pl) : Value := .iface 179 (plcV p)
theorem meth_len0 (a : Addr) (w : World) : (callMethod (.iface 185 (.pointer (some a))) "Len" #[]).run Tryz.prog w = (Sem.bind (load a) fun v => .pure (.enter 281 #[v])).run Tryz.prog w := by kernel_rfl
theorem meth_less0 (a : Addr) (w : World) (x y : Value) : (callMethod (.iface 185 (.pointer (some a))) "Less" #[x, y]).run Tryz.prog w = (Sem.bind (load a) fun v => .pure (.enter 282 #[v, x, y])).run Tryz.prog w := by kernel_rfl
theorem meth_swap0 (a : Addr) (w : World) (x y : Value) : (callMethod (.iface 185 (.pointer (some a))) "Swap" #[x, y]).run Tryz.prog w = (Sem.bind (load a) fun v => .pure (.enter 283 #[v, x, y])).run Tryz.prog w := by kernel_rfl
theorem meth_pop {b off : Nat} {w : World} : (callMethod (hW b off) "Pop" #[]).run Tryz.prog w = .ok (.enter 284 #[ptrW b off]) w := by kernel_rfl
theorem meth_push {b off : Nat} {w : World} {x : Value} : (callMethod (hW b off) "Push" #[x]).run Tryz.prog w = .ok (.enter 285 #[ptrW b off, x]) w := by kernel_rfl
theorem meth_len {b off : Nat} {w : World} {v : Value} (h : w.cell? ⟨b, off, none⟩ = some v) : (callMethod (hW b off) "Len" #[]).run Tryz.prog w = .ok (.enter 281 #[v]) w := by
 rw [meth_len0]; simp [Sem.run_bind', load, Sem.run, h]
theorem meth_less {b off : Nat} {w : World} {v x y : Value} (h : w.cell? ⟨b, off, none⟩ = some v) : (callMethod (hW b off) "Less" #[x, y]).run Tryz.prog w = .ok (.enter 282 #[v, x, y]) w := by
 rw [meth_less0]; simp [Sem.run_bind', load, Sem.run, h]
theorem meth_swap {b off : Nat} {w : World} {v x y : Value} (h : w.cell? ⟨b, off, none⟩ = some v) : (callMethod (hW b off) "Swap" #[x, y]).run Tryz.prog w = .ok (.enter 283 #[v, x, y]) w := by
 rw [meth_swap0]; simp [Sem.run_bind', load, Sem.run, h]
abbrev WayN (ao : Option Addr) (cap n : Nat) (l : List Pl) : SProp := Sl.Own 179 2 (.slice ao n cap) n (wayV l)
theorem lessN {H : List SProp} {a : Addr} {cap n i j : Nat} {l : List Pl} (hl : l.length = n) (hm : WayN (some a) cap n l ∈ H) (hi : i < n) (hj : j < n) :
  Does1 W Tryz.prog 282 [.slice (some a) n cap, .int .i64 i, .int .i64 j] H (.bool (decide (plt (pl l i) (pl l j)))) H := by
 subst hl
 exact wayless_ok (Rds.own (wayV_one l) hm (wayV_len l) (fun h => by cases h)) hi hj
theorem swapN {a : Addr} {cap n i j : Nat} {l : List Pl} (hl : l.length = n) (hi : i < n) (hj : j < n) :
  Does1 W Tryz.prog 283 [.slice (some a) n cap, .int .i64 i, .int .i64 j] (WayN (some a) cap n l :: R) (.tuple #[]) (WayN (some a) cap n (swp l i j) :: R) := by
 subst hl
 have h := wayswap_ok (W := W) (R := R) (a := a) (cap := cap) hi hj
 rw [WayR, WayR, swp_length] at h
 exact h
theorem wayup_ok {b off T cap n j : Nat} {cs : List Value} {a : Addr} {l : List Pl} (hoff : cs[off]? = some (.slice (some a) n cap)) (hl : l.length = n) (hinv : UpInv l j) (hn : n <= 1000000) :
  Does W Tryz.prog 142 [hW b off, .int .i64 j] (Row b T cs :: WayN (some a) cap n l :: R) (β := List Pl) (fun l' => List.Perm l' l /\ Heap l' n) (fun _ => .tuple #[]) (fun l' => Row b T cs :: WayN (some a) cap n l' :: R) := by
 (refine Does.enter Tryz.func142 Tryz.ntmps142 rfl rfl ?_)
 refine w ?_
 refine VC.loop (α := List Pl × Nat) (fun y => List.Perm y.1 l /\ UpInv y.1 y.2) (fun y => Row b T cs :: WayN (some a) cap n y.1 :: R) (fun y => [(0, hW b off), (1, .int .i64 y.2)]) (fun y => y.2) rfl (l, j) ⟨.refl _, hinv⟩ Ent.refl ⟨rfl, rfl, trivial⟩ ?_
 rintro ⟨m, i⟩ ⟨hp, hu⟩
 dsimp only at hp hu ⊢
 have hml : m.length = n := hp.length_eq.trans hl
 have hi := hu.at_
 rw [hml] at hi
 refine w ?_
 refine VO.pure rfl rfl (quoI rfl rfl (by decide) (half_up (by omega))) rfl ?_
 refine w ?_
 refine zg ?_ ?_ <;> intro hb
 ·
  have h0 : i = 0 := by have := eq_of_beq hb; omega
  refine w ?_
  refine VE.doneN m rfl ⟨hp, ?_⟩ rfl Ent.refl
  have := hu.done (.inl h0)
  rwa [hml] at this
 ·
  have h0 : 0 < i := by
   rcases Nat.eq_zero_or_pos i with rfl | h
   · exact absurd hb (by decide)
   · exact h
  refine w ?_
  refine zq ?_
  refine OpV.invoke rfl rfl (fun w hw => meth_less (hw.cell (.head _) hoff)) (lessN hml (.tail _ (.head _)) hi (by omega)) Ent.refl rfl ?_
  intro _ _
  refine w ?_
  refine zk ?_ ?_ <;> intro hc
  ·
   have hlt : ¬ plt (pl m i) (pl m ((i - 1) / 2)) := by simpa using hc
   refine w ?_
   refine VE.doneN m rfl ⟨hp, ?_⟩ rfl Ent.refl
   have := hu.done (.inr hlt)
   rwa [hml] at this
  ·
   have hlt : plt (pl m i) (pl m ((i - 1) / 2)) := by simpa using hc
   refine w ?_
   refine zq ?_
   refine OpV.invoke rfl rfl (fun w hw => meth_swap (hw.cell (.head _) hoff)) (swapN hml (i := (i - 1) / 2) (j := i) (by omega) hi) Ent.re rfl ?_
   intro _ _
   refine w ?_
   exact VE.round (swp m ((i - 1) / 2) i, (i - 1) / 2) ⟨(swp_perm (by omega) (by omega)).trans hp, hu.step h0 hlt⟩ (by dsimp only; omega) ⟨rfl, rfl, trivial⟩ Ent.re
theorem waydown_ok {b off T cap N n : Nat} {cs : List Value} {a : Addr} {l : List Pl} (hoff : cs[off]? = some (.slice (some a) N cap)) (hl : l.length = N) (hinv : DownInv l 0 n) (hn : N <= 1000000) :
  Does W Tryz.prog 210 [hW b off, .int .i64 0, .int .i64 n] (Row b T cs :: WayN (some a) cap N l :: R) (β := List Pl × Bool) (fun y => List.Perm y.1 l /\ Heap y.1 n /\ ∀ k, n <= k -> pl y.1 k = pl l k) (fun y => .bool y.2) (fun y => Row b T cs :: WayN (some a) cap N y.1 :: R) := by
 have hnN := hinv.few
 rw [hl] at hnN
 (refine Does.enter Tryz.func210 Tryz.ntmps210 rfl rfl ?_)
 refine w ?_
 refine VC.loop (α := List Pl × Nat) (fun y => List.Perm y.1 l /\ DownInv y.1 y.2 n /\ (∀ k, n <= k -> pl y.1 k = pl l k) /\ (y.2 = 0 \/ y.2 < n)) (fun y => Row b T cs :: WayN (some a) cap N y.1 :: R) (fun y => [(0, hW b off), (1, .int .i64 0), (2, .int .i64 n), (7, .int .i64 y.2)]) (fun y => n - y.2) rfl (l, 0) ⟨.refl _, hinv, fun _ _ => rfl, .inl rfl⟩ Ent.refl ⟨rfl, rfl, rfl, rfl, trivial⟩ ?_
 rintro ⟨m, i⟩ ⟨hp, hd, hk, hi⟩
 dsimp only at hp hd hk hi ⊢
 have hml : m.length = N := hp.length_eq.trans hl
 have hi2 : (i : Int) <= 1000000 := by omega
 refine w ?_
 refine zg ?_ ?_ <;> intro hb
 ·
  have hge : n <= 2 * i + 1 := by have := of_decide_eq_true hb; omega
  refine w ?_
  refine VE.done (m, decide ((0 : Int) < i)) rfl ⟨hp, hd.done (fun c h0 hc hx => absurd hc (by omega)), hk⟩ rfl Ent.refl
 ·
  have hlt : 2 * i + 1 < n := by have := of_decide_eq_false hb; omega
  refine w ?_
  (first | refine VO.join (α := Nat) (fun c => c < n /\ 0 < c /\ (c - 1) / 2 = i /\ ∀ x, 0 < x -> x < n -> (x - 1) / 2 = i -> ¬ plt (pl m x) (pl m c)) (fun _ => Row b T cs :: WayN (some a) cap N m :: R) (fun c => [(0, hW b off), (1, .int .i64 0), (2, .int .i64 n), (7, .int .i64 i), (9, .int .i64 c)]) ?_ ?_ | refine VC.joinTB (α := Nat) (fun c => c < n /\ 0 < c /\ (c - 1) / 2 = i /\ ∀ x, 0 < x -> x < n -> (x - 1) / 2 = i -> ¬ plt (pl m x) (pl m c)) (fun _ => Row b T cs :: WayN (some a) cap N m :: R) (fun c => [(0, hW b off), (1, .int .i64 0), (2, .int .i64 n), (7, .int .i64 i), (9, .int .i64 c)]) ?_ ?_ | refine VC.joinB (α := Nat) (fun c => c < n /\ 0 < c /\ (c - 1) / 2 = i /\ ∀ x, 0 < x -> x < n -> (x - 1) / 2 = i -> ¬ plt (pl m x) (pl m c)) (fun _ => Row b T cs :: WayN (some a) cap N m :: R) (fun c => [(0, hW b off), (1, .int .i64 0), (2, .int .i64 n), (7, .int .i64 i), (9, .int .i64 c)]) ?_ ?_ | refine VC.join (α := Nat) (fun c => c < n /\ 0 < c /\ (c - 1) / 2 = i /\ ∀ x, 0 < x -> x < n -> (x - 1) / 2 = i -> ¬ plt (pl m x) (pl m c)) (fun _ => Row b T cs :: WayN (some a) cap N m :: R) (fun c => [(0, hW b off), (1, .int .i64 0), (2, .int .i64 n), (7, .int .i64 i), (9, .int .i64 c)]) ?_ ?_)
  ·
   intro Q2 jn
   refine VO.re 10 (.int .i64 ((2 * i + 2 : Nat) : Int)) rfl (by congr 1) ?_
   refine VO.re 9 (.int .i64 ((2 * i + 1 : Nat) : Int)) rfl (by congr 1) ?_
   refine VO.re 8 (.int .i64 ((2 * i + 1 : Nat) : Int)) rfl (by congr 1) ?_
   refine zg ?_ ?_ <;> intro hb
   ·
    have hlt2 : 2 * i + 2 < n := by have := of_decide_eq_true hb; omega
    refine w ?_
    refine zq ?_
    refine OpV.invoke rfl rfl (fun w hw => meth_less (hw.cell (.head _) hoff)) (lessN hml (.tail _ (.head _)) (i := 2 * i + 2) (j := 2 * i + 1) (by omega) (by omega)) Ent.refl rfl ?_
    intro _ _
    refine w ?_
    refine zk ?_ ?_ <;> intro hc
    ·
     have hls : plt (pl m (2 * i + 2)) (pl m (2 * i + 1)) := by simpa using hc
     refine w ?_
     have hq : ∀ x, 0 < x -> x < n -> (x - 1) / 2 = i -> ¬ plt (pl m x) (pl m (2 * i + 2)) := fun x h0 hx hk => by
      obtain rfl | rfl : x = 2 * i + 1 \/ x = 2 * i + 2 := by omega
      · exact plt_asymm hls
      · exact plt_irrefl _
     (refine jn.to (2 * i + 2) ⟨by omega, by omega, by omega, hq⟩ ⟨rfl, rfl, rfl, rfl, rfl, trivial⟩ ?_; (try dsimp only); exact Ent.re)
    ·
     have hls : ¬ plt (pl m (2 * i + 2)) (pl m (2 * i + 1)) := by simpa using hc
     refine w ?_
     have hq : ∀ x, 0 < x -> x < n -> (x - 1) / 2 = i -> ¬ plt (pl m x) (pl m (2 * i + 1)) := fun x h0 hx hk => by
      obtain rfl | rfl : x = 2 * i + 1 \/ x = 2 * i + 2 := by omega
      · exact plt_irrefl _
      · exact hls
     (refine jn.to (2 * i + 1) ⟨by omega, by omega, by omega, hq⟩ ⟨rfl, rfl, rfl, rfl, rfl, trivial⟩ ?_; (try dsimp only); exact Ent.re)
   ·
    have hge2 : n <= 2 * i + 2 := by have := of_decide_eq_false hb; omega
    refine w ?_
    have hq : ∀ x, 0 < x -> x < n -> (x - 1) / 2 = i -> ¬ plt (pl m x) (pl m (2 * i + 1)) := fun x h0 hx hk => by
     obtain rfl : x = 2 * i + 1 := by omega
     exact plt_irrefl _
    (refine jn.to (2 * i + 1) ⟨by omega, by omega, by omega, hq⟩ ⟨rfl, rfl, rfl, rfl, rfl, trivial⟩ ?_; (try dsimp only); exact Ent.re)
  ·
   rintro c ⟨hc1, hc2, hc3, hc4⟩
   refine w ?_
   refine zq ?_
   refine OpV.invoke rfl rfl (fun w hw => meth_less (hw.cell (.head _) hoff)) (lessN hml (.tail _ (.head _)) (i := c) (j := i) (by omega) (by omega)) Ent.refl rfl ?_
   intro _ _
   refine w ?_
   refine zk ?_ ?_ <;> intro hc
   ·
    have hls : ¬ plt (pl m c) (pl m i) := by simpa using hc
    refine w ?_
    refine VE.done (m, decide ((0 : Int) < i)) rfl ⟨hp, hd.done (fun x h0 hx hk => nplt_trans hls (hc4 x h0 hx hk)), hk⟩ rfl Ent.refl
   ·
    have hls : plt (pl m c) (pl m i) := by simpa using hc
    refine w ?_
    refine zq ?_
    refine OpV.invoke rfl rfl (fun w hw => meth_swap (hw.cell (.head _) hoff)) (swapN hml (i := i) (j := c) (by omega) (by omega)) Ent.re rfl ?_
    intro _ _
    refine w ?_
    refine VE.round (swp m i c, c) ⟨(swp_perm (by omega) (by omega)).trans hp, hd.step hc1 hc2 hc3 hc4 hls, fun x hx => ?_, .inr hc1⟩ (by dsimp only; omega) ⟨rfl, rfl, rfl, rfl, trivial⟩ Ent.re
    rw [pl_swp (by omega) (by omega), if_neg (by omega), if_neg (by omega)]
    exact hk x hx
theorem plc_one (p : Pl) : ∀ u ∈ [Value.int .i64 p.1, Value.int .i64 p.2], u.oneCell' = true := fun u hu => by
 simp only [List.mem_cons, List.not_mem_nil, or_false] at hu
 rcases hu with rfl | rfl <;> rfl
theorem plc_cells (p : Pl) : wayV [p] = [.int .i64 p.1, .int .i64 p.2] := by unfold wayV; rw [List.flatMap_cons, List.flatMap_nil, List.append_nil]
theorem waypush_ok {b off T cap n : Nat} {cs : List Value} {ao : Option Addr} {l : List Pl} {p : Pl} (hoff : cs[off]? = some (.slice ao n cap)) (hl : l.length = n) (hn : n <= 1000000) :
  Does W Tryz.prog 285 [ptrW b off, plcI p] (Row b T cs :: WayN ao cap n l :: R) (β := Addr × Nat) (fun _ => True) (fun _ => .tuple #[]) (fun y => Row b T (cs.set off (.slice (some y.1) (n + 1) y.2)) :: WayN (some y.1) y.2 (n + 1) (l ++ [p]) :: R) := by
 have hlt : off < cs.length := (List.getElem?_eq_some_iff.1 hoff).1
 (refine Does.enter Tryz.func285 Tryz.ntmps285 rfl rfl ?_)
 refine w ?_
 (refine VC.drawn [6, 7] 8 [0, 1, 2, 3, 4, 5, 6, 7, 8, 9] (Row b T cs :: R) rfl (by kernel_rfl) (by kernel_rfl) Ent.re ?_)
 refine w ?_
 ((first | apply VO.pure rfl rfl | apply VQ.pure rfl rfl | apply VD.take rfl rfl rfl | (refine VD.end rfl rfl rfl ?_; apply OpV.pure)); exact PureAt.ld tab_ok rfl rfl (.head _) hoff; rfl)
 refine w ?_
 obtain ⟨fs, hfs⟩ : ∃ fs, Tryz.prog.underlying 179 = some (.struct fs) := ⟨_, rfl⟩
 ((first | apply VO.pure rfl rfl | apply VQ.pure rfl rfl | apply VD.take rfl rfl rfl | (refine VD.end rfl rfl rfl ?_; apply OpV.pure)); exact PureAt.assertIface hfs (fun ms h => by cases h) rfl; rfl)
 refine zq ?_
 refine OpV.buildSlice (cs := [.int .i64 p.1, .int .i64 p.2]) st_170 rfl rfl (by simp [Value.cells]) (by simp [Value.cells]) (by decide) rfl ?_
 intro nc
 refine ⟨Ent.re, ?_⟩
 refine zq ?_
 refine OpV.appendRow st_170 rfl rfl zh zm rfl (plc_one p) (by simp only [maxLen]; omega) (by omega) rfl ?_
 intro so sc
 refine ⟨Ent.re, ?_⟩
 refine w ?_
 refine VD.know (p := so = none -> n + 1 = 0) (fun w hw => Holds.ownNone hw zm) ?_
 intro hnn
 obtain ⟨sa, rfl⟩ : ∃ x, so = some x := by cases so with | none => have := hnn rfl; omega | some x => exact ⟨x, rfl⟩
 refine zq ?_
 refine OpV.st tab_ok rfl rfl rfl rfl zh hlt ?_
 refine w ?_
 refine VE.doneN (sa, sc) rfl trivial rfl ?_
 dsimp only
 unfold WayN
 rw [wayV_append, plc_cells]
 exact Ent.re
theorem waypop_ok {b off T cap n : Nat} {cs : List Value} {a : Addr} {l : List Pl} {p : Pl} (hoff : cs[off]? = some (.slice (some a) (n + 1) cap)) (hl : l.length = n + 1) (hn : n <= 1000000) :
  Does1 W Tryz.prog 284 [ptrW b off] (Row b T cs :: WayN (some a) cap (n + 1) l :: R) (plcI (pl l n)) (Row b T (cs.set off (.slice (some a) n cap)) :: WayN (some a) cap n (l.take n) :: R) := by
 have hlt : off < cs.length := (List.getElem?_eq_some_iff.1 hoff).1
 (refine Does.enter Tryz.func284 Tryz.ntmps284 rfl rfl ?_)
 refine VC.know (p := n + 1 <= cap) (fun w hw => Holds.ownCap hw (.tail _ (.head _))) ?_
 intro hcc
 refine w ?_
 (refine VC.drawn [10] 11 [0, 1, 2, 3, 4, 5, 6, 7, 8, 9, 10, 11] _ rfl (by kernel_rfl) (by kernel_rfl) Ent.re ?_)
 refine w ?_
 have hr : Rds W (Row b T cs :: WayN (some a) cap (n + 1) l :: R) 2 (some a) (n + 1) (wayV l) := Rds.own (wayV_one l) (.tail _ (.head _)) (by rw [wayV_len, hl]) (fun h => by cases h)
 ((first | apply VO.pure rfl rfl | apply VQ.pure rfl rfl | apply VD.take rfl rfl rfl | (refine VD.end rfl rfl rfl ?_; apply OpV.pure)); exact PureAt.ld tab_ok rfl rfl (.head _) hoff; rfl)
 refine w ?_
 ((first | apply VO.pure rfl rfl | apply VQ.pure rfl rfl | apply VD.take rfl rfl rfl | (refine VD.end rfl rfl rfl ?_; apply OpV.pure)); exact PureAt.ld tab_ok rfl rfl (.head _) hoff; rfl)
 refine w ?_
 refine VD.re 11 (.int .i64 (n : Int)) rfl (by congr 1; omega) ?_
 refine w ?_
 ((first | apply VO.pure rfl rfl | apply VQ.pure rfl rfl | apply VD.take rfl rfl rfl | (refine VD.end rfl rfl rfl ?_; apply OpV.pure)); exact PureAt.ldRA tab_ok rfl rfl hr (wayV_two (by omega)) rfl; rfl)
 refine w ?_
 refine zq ?_
 refine OpV.allocS sb_179 rfl ?_
 intro na
 refine ⟨Ent.re, ?_⟩
 refine zq ?_
 refine OpV.stA (vs := [.int .i64 (pl l n).1, .int .i64 (pl l n).2]) tab_ok rfl rfl rfl rfl (plc_one _) zh (by simp) ?_
 refine w ?_
 refine VC.drawn [] 10 [0, 1, 2, 3, 4, 5, 6, 7, 8, 9, 10, 11] (Row b T cs :: R) rfl (by kernel_rfl) (by kernel_rfl) Ent.re ?_
 refine w ?_
 ((first | apply VO.pure rfl rfl | apply VQ.pure rfl rfl | apply VD.take rfl rfl rfl | (refine VD.end rfl rfl rfl ?_; apply OpV.pure)); exact PureAt.ld tab_ok rfl rfl (.head _) hoff; rfl)
 refine w ?_
 ((first | apply VO.pure rfl rfl | apply VQ.pure rfl rfl | apply VD.take rfl rfl rfl | (refine VD.end rfl rfl rfl ?_; apply OpV.pure)); exact PureAt.ld tab_ok rfl rfl (.head _) hoff; rfl)
 refine w ?_
 refine VD.re 22 (.int .i64 (n : Int)) rfl (by congr 1; omega) ?_
 refine w ?_
 refine zq ?_
 refine OpV.st tab_ok rfl rfl rfl rfl zh hlt ?_
 obtain ⟨fs, hfs⟩ : ∃ fs, Tryz.prog.underlying 179 = some (.struct fs) := ⟨_, rfl⟩
 refine w ?_
 ((first | apply VO.pure rfl rfl | apply VQ.pure rfl rfl | apply VD.take rfl rfl rfl | (refine VD.end rfl rfl rfl ?_; apply OpV.pure)); exact PureAt.makeIface hfs (fun ms h => by cases h) rfl; rfl)
 refine w ?_
 refine VE.done1 rfl ?_ ?_
 · rfl
 ·
  refine Ent.trans (Ent.re (L := WayN (some a) cap (n + 1) l :: Row b T (cs.set off (.slice (some a) n cap)) :: R)) fun w hw => ?_
  have := hw.ownShort (k := n) (by omega)
  rw [wayV_take] at this
  exact (hw.ownShort (k := n) (by omega) |> fun h => by rw [wayV_take] at h; exact h.swap)
theorem heappush_ok {b off T cap n : Nat} {cs : List Value} {ao : Option Addr} {l : List Pl} {p : Pl} (hoff : cs[off]? = some (.slice ao n cap)) (hl : l.length = n) (hn : n <= 900000) (hh : Heap l n) :
  Does W Tryz.prog 93 [hW b off, plcI p] (Row b T cs :: WayN ao cap n l :: R) (β := (Addr × Nat) × List Pl) (fun y => List.Perm y.2 (p :: l) /\ Heap y.2 (n + 1)) (fun _ => .tuple #[])
   (fun y => Row b T (cs.set off (.slice (some y.1.1) (n + 1) y.1.2)) :: WayN (some y.1.1) y.1.2 (n + 1) y.2 :: R) := by
 have hlt : off < cs.length := (List.getElem?_eq_some_iff.1 hoff).1
 have hset : ∀ v : Value, (cs.set off v)[off]? = some v := fun v => by rw [List.getElem?_set_self hlt]
 (refine Does.enter Tryz.func93 Tryz.ntmps93 rfl rfl ?_)
 refine w ?_
 refine zq ?_
 refine OpV.invoke rfl rfl (fun w hw => meth_push) (waypush_ok (R := R) (p := p) hoff hl (by omega)) Ent.refl rfl ?_
 rintro ⟨a, c⟩ _
 dsimp only
 refine w ?_
 refine zq ?_
 refine OpV.invoke rfl rfl (fun w hw => meth_len (hw.cell (.head _) (hset _))) waylen_ok Ent.refl rfl ?_
 intro _ _
 refine w ?_
 refine VO.re 10 (.int .i64 (n : Int)) rfl (by congr 1; omega) ?_
 refine w ?_
 (refine zq ?_; refine zy rfl rfl (wayup_ok (R := R) (hset _) (l := l ++ [p]) (n := n + 1) (j := n) (by rw [List.length_append, hl]; rfl) (by have := UpInv.start (l := l) (by rw [hl]; exact hh) p; rwa [hl] at this) (by omega)) ?_)
 rintro l2 ⟨h1, h2⟩
 refine w ?_
 refine VE.doneN ((a, c), l2) rfl ⟨h1.trans (List.perm_append_comm (l₂ := [p])), h2⟩ rfl Ent.refl
theorem heappop_ok {b off T cap n : Nat} {cs : List Value} {a : Addr} {l : List Pl} (hoff : cs[off]? = some (.slice (some a) (n + 1) cap)) (hl : l.length = n + 1) (hn : n <= 900000) (hh : Heap l (n + 1)) :
  Does W Tryz.prog 143 [hW b off] (Row b T cs :: WayN (some a) cap (n + 1) l :: R) (β := List Pl) (fun l' => List.Perm (pl l 0 :: l') l /\ Heap l' n /\ l'.length = n) (fun _ => plcI (pl l 0))
   (fun l' => Row b T (cs.set off (.slice (some a) n cap)) :: WayN (some a) cap n l' :: R) := by
 (refine Does.enter Tryz.func143 Tryz.ntmps143 rfl rfl ?_)
 refine w ?_
 refine zq ?_
 refine OpV.invoke rfl rfl (fun w hw => meth_len (hw.cell (.head _) hoff)) waylen_ok Ent.refl rfl ?_
 intro _ _
 refine w ?_
 refine VO.re 3 (.int .i64 (n : Int)) rfl (by congr 1; omega) ?_
 refine VO.re 8 (.int .i64 (n : Int)) rfl (by congr 1; omega) ?_
 refine zq ?_
 refine OpV.invoke rfl rfl (fun w hw => meth_swap (hw.cell (.head _) hoff)) (swapN (R := Row b T cs :: R) hl (i := 0) (j := n) (by omega) (by omega)) Ent.re rfl ?_
 intro _ _
 refine w ?_
 (refine zq ?_; refine zd rfl rfl (waydown_ok (R := R) (T := T) (cs := cs) hoff (l := swp l 0 n) (n := n) (by rw [swp_length]; exact hl) (DownInv.start hh (by omega)) (by omega)) ?_)
 rintro ⟨l2, bb⟩ ⟨h1, h2, h3⟩
 dsimp only at h1 h2 h3 ⊢
 have hl2 : l2.length = n + 1 := by rw [h1.length_eq, swp_length]; exact hl
 have hlast : pl l2 n = pl l 0 := by rw [h3 n (Nat.le_refl _), pl_swp (by omega) (by omega), if_pos rfl]
 have hsp : l2 = l2.take n ++ [pl l 0] := by
  rw [<- hlast, pl_at (by omega)]
  exact (by rw [List.take_append_getElem, <- hl2, List.take_length])
 refine w ?_
 refine zq ?_
 refine OpV.invoke rfl rfl (fun w hw => meth_pop) (waypop_ok (R := R) (p := (0, 0)) hoff hl2 (by omega)) Ent.re rfl ?_
 intro _ _
 rw [hlast]
 refine w ?_
 refine VE.done (l2.take n) rfl ⟨?_, ?_, ?_⟩ rfl Ent.refl
 ·
  have := (List.perm_append_comm (l₁ := [pl l 0]) (l₂ := l2.take n))
  rw [<- hsp] at this
  exact this.trans (h1.trans (swp_perm (by omega) (by omega)))
 ·
  have := h2.take (by omega)
  rwa [List.length_take, Nat.min_eq_left (by omega)] at this
 · rw [List.length_take]; omega
theorem memFront {X : SProp} {H : List SProp} (m : X ∈ H) : ∃ R, Ent W H (X :: R) /\ Ent W (X :: R) H := by
 obtain ⟨R, p⟩ := mem_perm m
 exact ⟨R, fun w hw => hw.perm p, fun w hw => hw.perm p.symm⟩
def PatE.lend (p : PatE) (e : Addr × Nat) : PatE := ⟨p.member, p.row, ⟨some e.1, e.2, p.d.data⟩⟩
theorem lent_rds {H : List SProp} {a : Addr} {cap : Nat} {l : List UInt8} (m : LentO a cap l ∈ H) : Rds W H 1 (some a) l.length (bytes l) := by
 obtain ⟨R, h1, -⟩ := memFront (W := W) m
 exact LentO.rds.ent h1
def lentP (l : List PatE) (es : List (Addr × Nat)) : List PatE := List.zipWith PatE.lend l es
def lentPR (l : List PatE) (es : List (Addr × Nat)) : List SProp := List.zipWith (fun p e => LentO e.1 e.2 p.d.data) l es
def markP : PatE := ⟨-77, 0, ⟨none, 0, []⟩⟩
theorem lentP_length {l : List PatE} {es : List (Addr × Nat)} (h : es.length = l.length) : (lentP l es).length = l.length := by simp [lentP, h]
theorem lentP_get {l : List PatE} {es : List (Addr × Nat)} (h : es.length = l.length) (i : Nat) (hi : i < l.length) : (lentP l es)[i]'(by rw [lentP_length h]; exact hi) = l[i].lend (es[i]'(by omega)) := by simp [lentP]
theorem lentPR_length {l : List PatE} {es : List (Addr × Nat)} (h : es.length = l.length) : (lentPR l es).length = l.length := by simp [lentPR, h]
theorem lentPR_get {l : List PatE} {es : List (Addr × Nat)} (h : es.length = l.length) (i : Nat) (hi : i < l.length) : (lentPR l es)[i]'(by rw [lentPR_length h]; exact hi) = LentO (es[i]'(by omega)).1 (es[i]'(by omega)).2 l[i].d.data := by simp [lentPR]
theorem lentPR_mem {l : List PatE} {es : List (Addr × Nat)} (h : es.length = l.length) (i : Nat) (hi : i < l.length) : LentO (es[i]'(by omega)).1 (es[i]'(by omega)).2 l[i].d.data ∈ lentPR l es := by
 rw [<- lentPR_get h i hi]; exact List.getElem_mem _
theorem patCells_push (l : List PatE) (p : PatE) : patCells (l ++ [p]) = patCells l ++ p.cells := by unfold patCells; rw [List.flatMap_append]; simp
structure PatsA (W : World) (ao : Option Addr) (l : List PatE) : Prop where
  rd : ∀ R, RdPats W R ao l
  len : l.length <= 1000000
  data : ∀ p ∈ l, p.d.data.length <= 1000000000
theorem PatsA.bytes {ao : Option Addr} {l : List PatE} (h : PatsA W ao l) : ∀ p ∈ l, RdsA W 1 p.d.ao p.d.data.length (bytes p.d.data) := fun p hp R => (h.rd R).each p hp
abbrev LentPs (l : List PatE) (es : List (Addr × Nat)) (a : Addr) (cap : Nat) : SProp := Sl.Own 88 3 (.slice (some a) (l.length + 2) cap) (l.length + 2) (patCells (lentP l es ++ [markP, markP]))
theorem lentp_len {l : List PatE} {es : List (Addr × Nat)} (h : es.length = l.length) : (lentP l es ++ [markP, markP]).length = l.length + 2 := by rw [List.length_append, lentP_length h]; rfl
theorem lentp_rds {H : List SProp} {l : List PatE} {es : List (Addr × Nat)} {a : Addr} {cap : Nat} (h : es.length = l.length) (m : LentPs l es a cap ∈ H) : Rds W H 3 (some a) (l.length + 2) (patCells (lentP l es ++ [markP, markP])) := Rds.own (pats_one _) m (by rw [pats_len, lentp_len h]) (fun h => by cases h)
theorem lentp_pats {H : List SProp} {l : List PatE} {es : List (Addr × Nat)} {a : Addr} {cap : Nat} (h : es.length = l.length) (m : LentPs l es a cap ∈ H) (hR : ∀ x ∈ lentPR l es, x ∈ H) (hc : ∀ (i : Nat) (hi : i < l.length), l[i].d.data.length <= (es[i]'(by omega)).2) : RdPats W H (some a) (lentP l es) where
 rds := by
  have := Rds.take (W := W) (l := l.length) (lentp_rds h m) (by omega)
  rw [show l.length * 3 = (patCells (lentP l es)).length by rw [pats_len, lentP_length h], show patCells (lentP l es ++ [markP, markP]) = patCells (lentP l es) ++ patCells [markP, markP] by unfold patCells; rw [List.flatMap_append], List.take_left] at this
  rw [lentP_length h]; exact this
 each := fun b hb => by
  obtain ⟨i, hi, rfl⟩ := List.mem_iff_getElem.1 hb
  have hi2 : i < l.length := by rw [lentP_length h] at hi; exact hi
  rw [lentP_get h i hi2]
  exact lent_rds (hR _ (lentPR_mem h i hi2))
 ok := fun b hb => by
  obtain ⟨i, hi, rfl⟩ := List.mem_iff_getElem.1 hb
  have hi2 : i < l.length := by rw [lentP_length h] at hi; exact hi
  rw [lentP_get h i hi2]
  exact ⟨fun q => (by cases q), hc i hi2⟩
def LentA (l : List PatE) (es : List (Addr × Nat)) (a : Addr) (cap : Nat) : SProp := Sl.star (LentPs l es a cap :: lentPR l es)
structure Lent (l : List PatE) (es : List (Addr × Nat)) : Prop where
  len : es.length = l.length
  cap : ∀ (i : Nat) (hi : i < l.length), l[i].d.data.length <= (es[i]'(by omega)).2
theorem Lent.rd {H : List SProp} {l : List PatE} {es : List (Addr × Nat)} {a : Addr} {cap : Nat} (h : Lent l es) (m : LentA l es a cap ∈ H) : RdPats W H (some a) (lentP l es) := by
 have key : ∀ R, RdPats W ((LentPs l es a cap :: lentPR l es) ++ R) (some a) (lentP l es) := fun R => lentp_pats h.len (.head _) (fun x hx => .tail _ (List.mem_append_left _ hx)) h.cap
 exact ⟨Rds.star m fun R => (key R).rds, fun p hp => Rds.star m fun R => (key R).each p hp, (key []).ok⟩
theorem Lent.fit {l : List PatE} {es : List (Addr × Nat)} (h : Lent l es) (hf : ∀ p ∈ l, p.fit) : ∀ p ∈ lentP l es, p.fit := fun p hp => by
 obtain ⟨i, hi, rfl⟩ := List.mem_iff_getElem.1 hp
 have hi2 : i < l.length := by rw [lentP_length h.len] at hi; exact hi
 rw [lentP_get h.len i hi2]
 exact hf _ (List.getElem_mem hi2) |> fun q => ⟨q.member, q.row, q.len⟩
abbrev PatE.place (p : PatE) : Pl := (p.member, p.row)
def PatE.kv (p : PatE) : Pl × Value := (p.place, p.d.hdr)
structure PatE.In (p : PatE) : Prop where
  m : 0 <= p.member /\ p.member <= 15
  r : 0 <= p.row /\ p.row <= 4095
  n : p.d.data.length = 128
theorem plK : KeyT Tryz.prog 179 Pl pairV pairG := KeyT.pair (by kernel_rfl) (by kernel_rfl)
theorem hasU : Tryz.prog.underlying 168 = some (.map 179 22) := by kernel_rfl
structure LiftX where
  m : Nat
  ao : Option Addr
  ac : Nat
  bo : Option Addr
  bc : Nat
  A : List Pl
  B : List Pl
structure LiftG (r : Int) (ps : List PatE) (x : LiftX) : Prop where
  ok : LiftOk r (ps.map PatE.place) x.A x.B
  all : ∀ p ∈ ps, p.In
  row : 0 <= r /\ r <= 4095
abbrev liftC (r : Int) (x : LiftX) : List Value := [.int .i64 r, .map (some x.m), .slice x.ao x.A.length x.ac, .slice x.bo x.B.length x.bc]
abbrev liftO (b : Nat) (r : Int) (ps : List PatE) (x : LiftX) (R : List SProp) : List SProp :=
  Row b 172 (liftC r x) :: MapL pairV pairG x.m (ps.map PatE.kv) :: WayN x.ao x.ac x.A.length x.A :: WayN x.bo x.bc x.B.length x.B :: PilP ps :: R
def LiftR (b : Nat) (r : Int) (ps : List PatE) : SProp := ex fun x : { x // LiftG r ps x } => Sl.star (liftO b r ps x.1 [])
theorem LiftR.open {W w : World} {b : Nat} {r : Int} {ps : List PatE} {R : List SProp} (h : Holds W (LiftR b r ps :: R) w) : ∃ x : { x // LiftG r ps x }, Holds W (liftO b r ps x.1 R) w := by
 obtain ⟨x, h⟩ := h.exOpen
 exact ⟨x, h.join⟩
theorem LiftR.shut {b : Nat} {r : Int} {ps : List PatE} {R : List SProp} {x : LiftX} (g : LiftG r ps x) : Ent W (liftO b r ps x R) (LiftR b r ps :: R) := fun w hw => Holds.exShut ⟨x, g⟩ (Holds.nest (L := liftO b r ps x []) hw)
theorem liftnew_ok {r : Int} (hr : 0 <= r /\ r <= 4095) :
  Does W Tryz.prog 34 [.int .i64 r] R (β := Nat) (fun _ => True) (fun b => .tuple #[.pointer (some ⟨b, 0, none⟩), .int .u16 0]) (fun b => LiftR b r [] :: R) := by
 (refine Does.enter Tryz.func34 Tryz.ntmps34 rfl rfl ?_)
 refine w ?_; repeat (refine zj fun _ => ?_; refine w ?_)
 (first | refine VO.gF rfl rfl rfl (decide_eq_false (by omega)) ?_ | refine VD.gF rfl rfl rfl (decide_eq_false (by omega)) ?_)
 refine w ?_; repeat (refine zj fun _ => ?_; refine w ?_)
 (refine VC.condFe rfl rfl (decide_eq_false (by omega)) ?_)
 refine w ?_; repeat (refine zj fun _ => ?_; refine w ?_)
 refine zq ?_
 refine OpV.makeMapL pairV pairG rfl ?_
 intro m
 refine w ?_; repeat (refine zj fun _ => ?_; refine w ?_)
 (apply VO.pure rfl rfl; apply PureAt.build sb_172 rfl; (simp [buildX, setL, Value.cells]; rfl); rfl)
 refine zq ?_
 refine OpV.box rfl rfl rfl ?_
 intro b
 refine w ?_; repeat (refine zj fun _ => ?_; refine w ?_)
 refine VE.done b rfl trivial rfl ?_
 intro w hw
 refine LiftR.shut (x := ⟨m, none, 0, none, 0, [], []⟩) ⟨LiftOk.nil r, fun p h => (by cases h), hr⟩ w ?_
 have h1 := pile_nil (res := PatE.res) hw
 have h2 := Holds.ownNil 179 2 h1
 have h3 := Holds.ownNil 179 2 h2
 have hE : Ent W (WayN none 0 0 [] :: WayN none 0 0 [] :: PilP [] :: Row b 172 (liftC r ⟨m, none, 0, none, 0, [], []⟩) :: MapL pairV pairG m [] :: R) (liftO b r [] ⟨m, none, 0, none, 0, [], []⟩ R) := Ent.re
 exact hE w h3
theorem liftup_ok {b : Nat} : Does1 W Tryz.prog 91 [.pointer (some ⟨b, 0, none⟩)] R (ptrW b 2) R := by
 (refine Does.enter Tryz.func91 Tryz.ntmps91 rfl rfl ?_)
 refine w ?_
 refine VE.done1 rfl ?_ ?_
 · rfl
 · exact Ent.refl
theorem liftdown_ok {b : Nat} : Does1 W Tryz.prog 92 [.pointer (some ⟨b, 0, none⟩)] R (ptrW b 3) R := by
 (refine Does.enter Tryz.func92 Tryz.ntmps92 rfl rfl ?_)
 refine w ?_
 refine VE.done1 rfl ?_ ?_
 · rfl
 · exact Ent.refl
def putL (ps : List PatE) (q : PatE) : List PatE := ps.filter (fun x => x.place ≠ q.place) ++ [q]
theorem place_good {p : PatE} (h : p.In) : pairG p.place := by
 have h1 := h.m; have h2 := h.r
 constructor <;> simp [Lit.wf, IntKind.min, IntKind.max, IntKind.signed, IntKind.bits] <;> omega
theorem kv_filter (ps : List PatE) (k : Pl) : delD (ps.map PatE.kv) k = (ps.filter fun x => x.place ≠ k).map PatE.kv := by
 unfold delD
 rw [List.filter_map]
 rfl
theorem kv_put (ps : List PatE) (q : PatE) : putD (ps.map PatE.kv) q.place q.d.hdr = (putL ps q).map PatE.kv := by
 unfold putD putL
 rw [List.map_append, <- kv_filter]
 rfl
theorem kv_none {ps : List PatE} {k : Pl} (h : k ∉ ps.map PatE.place) : getD (ps.map PatE.kv) k = none := getD_none fun x hx => by
 obtain ⟨q, hq, rfl⟩ := List.mem_map.1 hx
 intro e
 exact h (e ▸ List.mem_map_of_mem hq)
theorem kv_some {ps : List PatE} {q : PatE} (h1 : (ps.map PatE.place).Nodup) (h : q ∈ ps) : getD (ps.map PatE.kv) q.place = some q.d.hdr := getD_some (by rw [List.map_map]; exact h1) (List.mem_map_of_mem (f := PatE.kv) h)
theorem place_put (ps : List PatE) (q : PatE) : (putL ps q).map PatE.place = ((ps.map PatE.place).filter fun x => x ≠ q.place) ++ [q.place] := by
 unfold putL
 rw [List.map_append, List.filter_map]
 rfl
theorem put_in {ps : List PatE} {q : PatE} (h : ∀ p ∈ ps, p.In) (hq : q.In) : ∀ p ∈ putL ps q, p.In := by
 intro p hp
 rcases List.mem_append.1 hp with h1 | h1
 · exact h p (List.mem_filter.1 h1).1
 · rw [List.mem_singleton] at h1; subst h1; exact hq
theorem way_small {r : Int} {ps : List PatE} {x : LiftX} (g : LiftG r ps x) : x.A.length <= ps.length /\ x.B.length <= ps.length := by
 have h1 := g.ok.ahead.length_eq
 have h2 := g.ok.below.length_eq
 have h3 := List.length_filter_le (fun x : Pl => decide (r <= x.2)) (ps.map PatE.place)
 have h4 := List.length_filter_le (fun x : Pl => decide (x.2 < r)) (ps.map PatE.place)
 rw [List.length_map] at h3 h4
 omega
theorem pile_cons {W w : World} {α : Type} {res : α -> SProp} {a : α} {l : List α} {R : List SProp} (h : Holds W (res a :: pile res l :: R) w) : Holds W (pile res (a :: l) :: R) w := by
 have h2 := (h.swap).join
 refine Holds.nest (L := (a :: l).map res) ?_
 exact h2.perm List.perm_middle
theorem pile_head {W w : World} {α : Type} {res : α -> SProp} {a : α} {l : List α} {R : List SProp} (h : Holds W (pile res (a :: l) :: R) w) : Holds W (res a :: pile res l :: R) w := pile_out (i := 0) (by simp) h
theorem pile_keep {α : Type} {res : α -> SProp} (f : α -> Bool) : ∀ (l : List α) (R : List SProp), Ent W (pile res l :: R) (pile res (l.filter f) :: R)
  | [], R => Ent.refl
  | a :: l, R => fun w hw => by
    have h1 := pile_keep f l (res a :: R) w (pile_head hw).swap
    by_cases q : f a = true
    · rw [List.filter_cons_of_pos q]; exact pile_cons h1.swap
    · rw [List.filter_cons_of_neg q]; exact h1.swap.tail
theorem boolK : KeyT Tryz.prog 4 Bool boolV (fun _ => True) := KeyT.bool (by kernel_rfl)
theorem waysU : Tryz.prog.underlying 183 = some (.map 4 181) := by kernel_rfl
theorem liftput_ok {b : Nat} {r : Int} {ps : List PatE} {p : PatE} (hp : p.In) (hrd : Rds W R 1 p.d.ao p.d.data.length (bytes p.d.data)) (hps : ps.length <= 800000) :
  Does W Tryz.prog 36 [.pointer (some ⟨b, 0, none⟩), .agg p.cells.toArray] (LiftR b r ps :: R) (β := Option Addr × Nat) (fun _ => True) (fun _ => .int .u16 0) (fun y => LiftR b r (putL ps ⟨p.member, p.row, ⟨y.1, y.2, p.d.data⟩⟩) :: R) := by
 have hm := hp.m; have hr := hp.r; have hl := hp.n
 have hgood := place_good hp
 refine DoesO (fun w hw => LiftR.open hw) fun ⟨x, g⟩ => ?_
 have hsm := way_small g
 obtain ⟨fs, hfs⟩ : ∃ fs, Tryz.prog.underlying 179 = some (.struct fs) := ⟨_, rfl⟩
 obtain ⟨pt, hptr⟩ : ∃ pt, Tryz.prog.underlying 185 = some (.pointer pt) := ⟨_, rfl⟩
 (refine Does.enter Tryz.func36 Tryz.ntmps36 rfl rfl ?_)
 refine w ?_; repeat (refine zj fun _ => ?_; refine w ?_)
 rename_i n3
 (first | refine VO.gF rfl rfl rfl (decide_eq_false (by omega)) ?_ | refine VD.gF rfl rfl rfl (decide_eq_false (by omega)) ?_)
 refine w ?_; repeat (refine zj fun _ => ?_; refine w ?_)
 (first | refine VO.gF rfl rfl rfl (decide_eq_false (by omega)) ?_ | refine VD.gF rfl rfl rfl (decide_eq_false (by omega)) ?_)
 refine w ?_; repeat (refine zj fun _ => ?_; refine w ?_)
 (first | refine VO.gF rfl rfl rfl (decide_eq_false (by omega)) ?_ | refine VD.gF rfl rfl rfl (decide_eq_false (by omega)) ?_)
 refine w ?_; repeat (refine zj fun _ => ?_; refine w ?_)
 (refine VC.condFe rfl rfl (decide_eq_false (by omega)) ?_)
 refine w ?_; repeat (refine zj fun _ => ?_; refine w ?_)
 (refine VC.condFe rfl rfl (by simp [hl]) ?_)
 refine w ?_; repeat (refine zj fun _ => ?_; refine w ?_)
 (apply VO.pure rfl rfl; apply PureAt.build sb_179 rfl; (simp [buildX, setL, Value.cells]; rfl); rfl)
 refine zq ?_
 refine OpV.allocS sb_179 rfl ?_
 intro n5
 refine zq ?_
 refine OpV.stA (vs := [.int .i64 p.member, .int .i64 p.row]) tab_ok rfl rfl rfl rfl (plc_one p.place) zh (by simp) ?_
 refine w ?_; repeat (refine zj fun _ => ?_; refine w ?_)
 refine VC.ent (H' := Row n5 179 [.int .i64 p.member, .int .i64 p.row] :: Row n3 88 p.cells :: liftO b r ps x R) Ent.re ?_
 (refine VC.drawn [] 10 [0, 1, 2, 3, 4, 5, 6, 7, 8, 9, 10] _ rfl (by kernel_rfl) (by kernel_rfl) Ent.re ?_)
 refine w ?_; repeat (refine zj fun _ => ?_; refine w ?_)
 ((first | apply VO.pure rfl rfl | apply VQ.pure rfl rfl | apply VD.take rfl rfl rfl | (refine VD.end rfl rfl rfl ?_; apply OpV.pure)); exact PureAt.lookupOk (k := p.place) (z := .slice none 0 0) hasU plK hgood (fun w => by simp) rfl rfl zm; rfl)
 refine w ?_; repeat (refine zj fun _ => ?_; refine w ?_)
 (refine VC.join (α := LiftX) (fun y => y.m = x.m /\ LiftOk r ((ps.map PatE.place).filter (fun z => z ≠ p.place) ++ [p.place]) y.A y.B) (fun y => Row n5 179 [.int .i64 p.member, .int .i64 p.row] :: Row n3 88 p.cells :: liftO b r ps y R) (fun _ => [(0, .pointer (some ⟨b, 0, none⟩)), (3, .pointer (some ⟨n3, 0, none⟩)), (5, .pointer (some ⟨n5, 0, none⟩))]) ?_ ?_)
 ·
  intro Q2 jn
  by_cases hk : p.place ∈ ps.map PatE.place
  ·
   have hsome : (getD (ps.map PatE.kv) p.place).isSome = true := by
    obtain ⟨q, hq, he⟩ := List.mem_map.1 hk
    rw [<- he, kv_some g.ok.one hq]; rfl
   (refine VC.condFe rfl rfl (by rw [hsome]; rfl) ?_)
   refine w ?_; repeat (refine zj fun _ => ?_; refine w ?_)
   (refine jn.to x ⟨rfl, g.ok.old hk⟩ ⟨rfl, rfl, rfl, trivial⟩ ?_; (try dsimp only); exact Ent.re)
  ·
   have hnone : (getD (ps.map PatE.kv) p.place).isSome = false := by rw [kv_none hk]; rfl
   (refine VC.condTe rfl rfl (by rw [hnone]; rfl) ?_)
   rw [notin_filter hk] at jn
   refine w ?_; repeat (refine zj fun _ => ?_; refine w ?_)
   refine zq ?_
   refine OpV.makeMapL boolV (fun _ => True) rfl ?_
   intro nm
   refine zq ?_
   refine OpV.insertL (k := true) waysU boolK trivial rfl rfl rfl zh ?_
   refine zq ?_
   refine OpV.insertL (k := false) waysU boolK trivial rfl rfl rfl zh ?_
   refine w ?_; repeat (refine zj fun _ => ?_; refine w ?_)
   by_cases hrow : r <= p.row
   ·
    (refine VC.drawn [10] 14 [0, 1, 2, 3, 4, 5, 6, 7, 8, 9, 12, 13, 10, 11, 14] _ rfl (by kernel_rfl) (by kernel_rfl) Ent.re ?_)
    refine w ?_; repeat (refine zj fun _ => ?_; refine w ?_)
    refine VD.re 58 (boolV true) rfl (by rw [decide_eq_true hrow]) ?_
    ((first | apply VO.pure rfl rfl | apply VQ.pure rfl rfl | apply VD.take rfl rfl rfl | (refine VD.end rfl rfl rfl ?_; apply OpV.pure)); exact PureAt.lookup1 (k := true) waysU boolK trivial (fun w => by simp; rfl) rfl rfl zm; rfl)
    refine VD.re 59 (.func (.func 91) #[] #[]) rfl (by rfl) ?_
    refine w ?_; repeat (refine zj fun _ => ?_; refine w ?_)
    ((first | apply VO.pure rfl rfl | apply VQ.pure rfl rfl | apply VD.take rfl rfl rfl | (refine VD.end rfl rfl rfl ?_; apply OpV.pure)); exact PureAt.makeIface hfs (fun ms h => by cases h) rfl; rfl)
    refine zq ?_
    refine zy rfl rfl (liftup_ok (b := b)) ?_
    intro _ _
    refine ⟨Ent.re, ?_⟩
    ((first | apply VO.pure rfl rfl | apply VQ.pure rfl rfl | apply VD.take rfl rfl rfl | (refine VD.end rfl rfl rfl ?_; apply OpV.pure)); exact PureAt.makeIface hptr (fun ms h => by cases h) rfl; rfl)
    refine w ?_; repeat (refine zj fun _ => ?_; refine w ?_)
    (refine zq ?_; refine zd rfl rfl (heappush_ok (R := Row n5 179 [.int .i64 p.member, .int .i64 p.row] :: Row n3 88 p.cells :: MapL pairV pairG x.m (ps.map PatE.kv) :: WayN x.bo x.bc x.B.length x.B :: PilP ps :: R) (b := b) (off := 2) (T := 172) (cs := liftC r x) (ao := x.ao) (cap := x.ac) (l := x.A) (p := p.place) (n := x.A.length) rfl rfl (by omega) g.ok.hA) ?_)
    rintro ⟨⟨a2, c2⟩, l2⟩ ⟨h1, h2⟩
    dsimp only at h1 h2 ⊢
    have hlen : l2.length = x.A.length + 1 := h1.length_eq
    rw [<- hlen] at h2 ⊢
    refine w ?_; repeat (refine zj fun _ => ?_; refine w ?_)
    (refine jn.to (⟨x.m, some a2, c2, x.bo, x.bc, l2, x.B⟩ : LiftX) ⟨rfl, g.ok.newA hk hrow hp.r.1 h1 h2⟩ ⟨rfl, rfl, rfl, trivial⟩ ?_; (try dsimp only); exact Ent.re)
   ·
    (refine VC.drawn [10] 14 [0, 1, 2, 3, 4, 5, 6, 7, 8, 9, 12, 13, 10, 11, 14] _ rfl (by kernel_rfl) (by kernel_rfl) Ent.re ?_)
    refine w ?_; repeat (refine zj fun _ => ?_; refine w ?_)
    refine VD.re 58 (boolV false) rfl (by rw [decide_eq_false hrow]) ?_
    ((first | apply VO.pure rfl rfl | apply VQ.pure rfl rfl | apply VD.take rfl rfl rfl | (refine VD.end rfl rfl rfl ?_; apply OpV.pure)); exact PureAt.lookup1 (k := false) waysU boolK trivial (fun w => by simp; rfl) rfl rfl zm; rfl)
    refine VD.re 59 (.func (.func 92) #[] #[]) rfl (by rfl) ?_
    refine w ?_; repeat (refine zj fun _ => ?_; refine w ?_)
    ((first | apply VO.pure rfl rfl | apply VQ.pure rfl rfl | apply VD.take rfl rfl rfl | (refine VD.end rfl rfl rfl ?_; apply OpV.pure)); exact PureAt.makeIface hfs (fun ms h => by cases h) rfl; rfl)
    refine zq ?_
    refine zy rfl rfl (liftdown_ok (b := b)) ?_
    intro _ _
    refine ⟨Ent.re, ?_⟩
    ((first | apply VO.pure rfl rfl | apply VQ.pure rfl rfl | apply VD.take rfl rfl rfl | (refine VD.end rfl rfl rfl ?_; apply OpV.pure)); exact PureAt.makeIface hptr (fun ms h => by cases h) rfl; rfl)
    refine w ?_; repeat (refine zj fun _ => ?_; refine w ?_)
    (refine zq ?_; refine zd rfl rfl (heappush_ok (R := Row n5 179 [.int .i64 p.member, .int .i64 p.row] :: Row n3 88 p.cells :: MapL pairV pairG x.m (ps.map PatE.kv) :: WayN x.ao x.ac x.A.length x.A :: PilP ps :: R) (b := b) (off := 3) (T := 172) (cs := liftC r x) (ao := x.bo) (cap := x.bc) (l := x.B) (p := p.place) (n := x.B.length) rfl rfl (by omega) g.ok.hB) ?_)
    rintro ⟨⟨a2, c2⟩, l2⟩ ⟨h1, h2⟩
    dsimp only at h1 h2 ⊢
    have hlen : l2.length = x.B.length + 1 := h1.length_eq
    rw [<- hlen] at h2 ⊢
    refine w ?_; repeat (refine zj fun _ => ?_; refine w ?_)
    (refine jn.to (⟨x.m, x.ao, x.ac, some a2, c2, x.A, l2⟩ : LiftX) ⟨rfl, g.ok.newB hk (Int.not_le.1 hrow) hp.r.1 h1 h2⟩ ⟨rfl, rfl, rfl, trivial⟩ ?_; (try dsimp only); exact Ent.re)
 ·
  rintro y ⟨hy, hok⟩
  refine w ?_; repeat (refine zj fun _ => ?_; refine w ?_)
  (refine VC.drawn [7] 8 [0, 1, 2, 3, 4, 5, 6, 7, 8] _ rfl (by kernel_rfl) (by kernel_rfl) Ent.re ?_)
  refine w ?_; repeat (refine zj fun _ => ?_; refine w ?_)
  (refine zq ?_; refine zy rfl rfl (clone_ok (cap := p.d.cap) (hrd.ent Ent.re) (by omega)) ?_)
  intro z _
  refine ⟨Ent.re, ?_⟩
  refine zq ?_
  refine OpV.mapUpdateL (k := p.place) hasU plK hgood rfl rfl rfl zh ?_
  refine w ?_; repeat (refine zj fun _ => ?_; refine w ?_)
  refine VE.done z rfl trivial rfl ?_
  have hq : PatE.In ⟨p.member, p.row, ⟨z.1, z.2, p.d.data⟩⟩ := ⟨hp.m, hp.r, hp.n⟩
  have hE : LiftG r (putL ps ⟨p.member, p.row, ⟨z.1, z.2, p.d.data⟩⟩) y := ⟨by rw [place_put]; exact hok, put_in g.all hq, g.row⟩
  refine Ent.trans (Ent.re (L := PilP ps :: (PatE.res ⟨p.member, p.row, ⟨z.1, z.2, p.d.data⟩⟩) :: Row b 172 (liftC r y) :: MapL pairV pairG y.m (putD (ps.map PatE.kv) p.place (.slice z.1 p.d.data.length z.2)) :: WayN y.ao y.ac y.A.length y.A :: WayN y.bo y.bc y.B.length y.B :: R)) fun w hw => ?_
  have h1 := pile_push (pile_keep (fun v : PatE => v.place ≠ p.place) ps _ w hw).swap
  rw [show putD (ps.map PatE.kv) p.place (.slice z.1 p.d.data.length z.2) = _ from kv_put ps ⟨p.member, p.row, ⟨z.1, z.2, p.d.data⟩⟩] at h1
  have hF : Ent W (PilP (putL ps ⟨p.member, p.row, ⟨z.1, z.2, p.d.data⟩⟩) :: Row b 172 (liftC r y) :: MapL pairV pairG y.m ((putL ps ⟨p.member, p.row, ⟨z.1, z.2, p.d.data⟩⟩).map PatE.kv) :: WayN y.ao y.ac y.A.length y.A :: WayN y.bo y.bc y.B.length y.B :: R) (liftO b r (putL ps ⟨p.member, p.row, ⟨z.1, z.2, p.d.data⟩⟩) y R) := Ent.re
  exact LiftR.shut hE w (hF w h1)
theorem pile_perm {W w : World} {α : Type} {res : α -> SProp} {l m : List α} {R : List SProp} (p : List.Perm l m) (h : Holds W (pile res l :: R) w) : Holds W (pile res m :: R) w :=
 Holds.nest (L := m.map res) (h.join.perm ((p.map res).append_right R))
theorem pile_take {W w : World} {ps : List PatE} {p : PatE} {R : List SProp} (hp : p ∈ ps) (h : Holds W (PilP ps :: R) w) : Holds W (p.res :: PilP (ps.filter fun x => x.place ≠ p.place) :: R) w := by
 obtain ⟨s, t, rfl⟩ := List.append_of_mem hp
 have h1 := pile_head (pile_perm (List.perm_middle) h)
 have h2 := pile_keep (fun x : PatE => decide (x.place ≠ p.place)) (s ++ t) (p.res :: R) w h1.swap
 have e : (s ++ p :: t).filter (fun x : PatE => decide (x.place ≠ p.place)) = (s ++ t).filter (fun x : PatE => decide (x.place ≠ p.place)) := by
  rw [List.filter_append, List.filter_append, List.filter_cons_of_neg (by simp)]
 rw [e]
 exact h2.swap
theorem ahead_ne {r : Int} {K A B : List Pl} (h : LiftOk (base r K) K A B) (hK : K ≠ []) : A ≠ [] := by
 intro hA
 subst hA
 obtain ⟨_, hall⟩ := h.wrap
 by_cases q : (K.any fun x => decide (r <= x.2)) = true
 ·
  obtain ⟨x, hx, h2⟩ := List.any_eq_true.1 q
  have h3 : r <= x.2 := by simpa using h2
  have := hall x hx
  rw [base_pos hx h3] at this
  omega
 ·
  obtain ⟨x, hx⟩ := List.exists_mem_of_ne_nil K hK
  have h1 := hall x hx
  unfold base at h1
  rw [if_neg q] at h1
  have := h.pos x hx
  omega
theorem map_wo (ps : List PatE) (k : Pl) : (ps.filter fun x => x.place ≠ k).map PatE.place = (ps.map PatE.place).filter fun x => x ≠ k := by
 rw [List.filter_map]; rfl
abbrev zeroPa : List Value := [.int .i64 0, .int .i64 0, .slice none 0 0]
theorem liftnext_ok {b : Nat} {r : Int} {ps : List PatE} (hne : ps ≠ []) (hps : ps.length <= 800000) :
  Does W Tryz.prog 94 [.pointer (some ⟨b, 0, none⟩)] (LiftR b r ps :: R) (β := PatE) (fun p => p ∈ ps /\ IsNext r (ps.map PatE.place) p.place) (fun p => .tuple #[.agg p.cells.toArray, .bool true])
   (fun p => p.res :: LiftR b p.row (ps.filter fun x => x.place ≠ p.place) :: R) := by
 refine DoesO (fun w hw => LiftR.open hw) fun ⟨x, g⟩ => ?_
 have hsm := way_small g
 obtain ⟨fs, hfs⟩ : ∃ fs, Tryz.prog.underlying 179 = some (.struct fs) := ⟨_, rfl⟩
 obtain ⟨pt, hptr⟩ : ∃ pt, Tryz.prog.underlying 185 = some (.pointer pt) := ⟨_, rfl⟩
 (refine Does.enter Tryz.func94 Tryz.ntmps94 rfl rfl ?_)
 refine w ?_
 refine zq ?_
 refine OpV.allocS sb_88 rfl ?_
 intro n2
 refine w ?_
 have hbase : x.A ≠ [] -> base r (ps.map PatE.place) = r := fun h => by
  obtain ⟨k, hk⟩ := List.exists_mem_of_ne_nil _ h
  have := g.ok.ahead.subset hk
  rw [List.mem_filter] at this
  exact base_pos this.1 (by simpa using this.2)
 (refine VC.join (α := LiftX) (fun y => y.m = x.m /\ LiftOk (base r (ps.map PatE.place)) (ps.map PatE.place) y.A y.B /\ y.A.length <= ps.length) (fun y => Row n2 88 zeroPa :: liftO b r ps y R) (fun _ => [(0, .pointer (some ⟨b, 0, none⟩)), (2, .pointer (some ⟨n2, 0, none⟩)), (3, .bool false)]) ?_ ?_)
 ·
  intro Q2 jn
  by_cases hA : x.A = []
  ·
   (refine VC.condTe rfl rfl (by simp [hA]) ?_)
   refine w ?_
   have hw0 := g.ok
   rw [hA] at hw0
   obtain ⟨hw1, hw2⟩ := hw0.wrap
   refine VE.ent (fun w hw => Holds.ownNil 179 2 hw) ?_
   (refine jn.to (⟨x.m, x.bo, x.bc, none, 0, x.B, []⟩ : LiftX) ⟨rfl, by rw [base_neg hw2]; exact hw1, hsm.2⟩ ⟨rfl, rfl, rfl, trivial⟩ ?_; (try dsimp only); exact Ent.re)
  ·
   have hA2 : x.A.length ≠ 0 := fun h => hA (List.length_eq_zero_iff.1 h)
   (refine VC.condFe rfl rfl (by simp [hA]) ?_)
   refine w ?_
   (refine jn.to x ⟨rfl, by rw [hbase hA]; exact g.ok, hsm.1⟩ ⟨rfl, rfl, rfl, trivial⟩ ?_; (try dsimp only); exact Ent.re)
 ·
  rintro y ⟨hy, hok, hya⟩
  have hyA := ahead_ne hok (by simpa using hne)
  refine w ?_
  (refine VC.condFe rfl rfl (by simp [hyA]) ?_)
  refine w ?_
  ((first | apply VO.pure rfl rfl | apply VQ.pure rfl rfl | apply VD.take rfl rfl rfl | (refine VD.end rfl rfl rfl ?_; apply OpV.pure)); exact PureAt.makeIface hptr (fun ms h => by cases h) rfl; rfl)
  refine VO.know (p := y.ao = none -> y.A.length = 0) (fun w hw => Holds.ownNone hw zm) ?_
  intro hnn
  obtain ⟨m, ao, ac, bo, bc, A, B⟩ := y
  dsimp only at hy hok hya hyA hnn ⊢
  subst hy
  obtain ⟨n, hn⟩ : ∃ n, A.length = n + 1 := ⟨A.length - 1, by have := List.length_pos_iff.2 hyA; omega⟩
  obtain ⟨a, rfl⟩ : ∃ a, ao = some a := by cases ao with | none => have := hnn rfl; omega | some a => exact ⟨a, rfl⟩
  refine VO.ent (H' := Row b 172 [.int .i64 r, .map (some x.m), .slice (some a) (n + 1) ac, .slice bo B.length bc] :: WayN (some a) ac (n + 1) A :: Row n2 88 zeroPa :: MapL pairV pairG x.m (ps.map PatE.kv) :: WayN bo bc B.length B :: PilP ps :: R) (by dsimp only [liftO, liftC]; rw [hn]; exact Ent.re) ?_
  refine w ?_
  (refine zq ?_; refine zd rfl rfl (heappop_ok (R := Row n2 88 zeroPa :: MapL pairV pairG x.m (ps.map PatE.kv) :: WayN bo bc B.length B :: PilP ps :: R) (b := b) (off := 2) (T := 172) (cs := [.int .i64 r, .map (some x.m), .slice (some a) (n + 1) ac, .slice bo B.length bc]) (l := A) (n := n) rfl hn (by omega) (by have := hok.hA; rwa [hn] at this)) ?_)
  rintro A2 ⟨h1, h2, h3⟩
  have hnx := hok.next (k := pl A 0) rfl h1 (by rw [h3]; exact h2)
  have hAp := h1
  generalize pl A 0 = k at h1 hnx ⊢
  obtain ⟨hn1, hn2, hn3, hn4⟩ := hnx
  obtain ⟨p, hp, rfl⟩ := List.mem_map.1 hn2
  have hin := g.all p hp
  have hgood := place_good hin
  have hget : getD (ps.map PatE.kv) p.place = some p.d.hdr := kv_some g.ok.one hp
  ((first | apply VO.pure rfl rfl | apply VQ.pure rfl rfl | apply VD.take rfl rfl rfl | (refine VD.end rfl rfl rfl ?_; apply OpV.pure)); exact PureAt.assertIface hfs (fun ms h => by cases h) rfl; rfl)
  refine w ?_
  refine zq ?_
  refine OpV.allocS sb_179 rfl ?_
  intro n4
  refine zq ?_
  refine OpV.stA (vs := [.int .i64 p.member, .int .i64 p.row]) tab_ok rfl rfl rfl rfl (plc_one p.place) zh (by simp) ?_
  refine w ?_
  refine VC.ent (H' := Row n4 179 [.int .i64 p.member, .int .i64 p.row] :: Row b 172 [.int .i64 p.row, .map (some x.m), .slice (some a) n ac, .slice bo B.length bc] :: MapL pairV pairG x.m (ps.map PatE.kv) :: WayN (some a) ac n A2 :: Row n2 88 zeroPa :: WayN bo bc B.length B :: PilP ps :: R) Ent.re ?_
  (refine VC.drawn [] 5 [0, 1, 2, 3, 4, 5, 6] _ rfl (by kernel_rfl) (by kernel_rfl) Ent.re ?_)
  refine w ?_
  refine zq ?_
  refine OpV.pure (PureAt.lookup1 (k := p.place) (z := .slice none 0 0) hasU plK hgood (fun w => by simp) rfl rfl zm) rfl ?_
  rw [hget]
  refine w ?_
  (refine VC.drawn [] 5 [0, 1, 2, 3, 4, 5] _ rfl (by kernel_rfl) (by kernel_rfl) Ent.re ?_)
  refine w ?_
  refine zq ?_
  refine OpV.deleteL (k := p.place) hasU plK hgood rfl rfl zh ?_
  rw [kv_filter]
  refine w ?_
  refine VO.re 55 p.d.hdr rfl rfl ?_
  (apply VO.pure rfl rfl; apply PureAt.build sb_88 rfl; (simp [buildX, setL, Value.cells]; rfl); rfl)
  refine zq ?_
  refine OpV.stA (vs := p.cells) tab_ok rfl rfl rfl rfl (pat_one p) zh (by simp) ?_
  refine w ?_
  refine VE.results2 (.inl rfl) p rfl (ResIs.agg (vs := p.cells) tab_ok rfl rfl zm rfl rfl) (.tmp rfl) ⟨hp, ⟨hn2, hn3, hn4⟩⟩ rfl ?_
  have hG : LiftG p.row (ps.filter fun x => x.place ≠ p.place) ⟨x.m, some a, ac, bo, bc, A2, B⟩ := ⟨by rw [map_wo]; exact hn1, fun q hq => g.all q (List.mem_filter.1 hq).1, hin.r⟩
  refine Ent.trans (Ent.re (L := PilP ps :: Row b 172 [.int .i64 p.row, .map (some x.m), .slice (some a) n ac, .slice bo B.length bc] :: MapL pairV pairG x.m ((ps.filter fun x => x.place ≠ p.place).map PatE.kv) :: WayN (some a) ac n A2 :: WayN bo bc B.length B :: R)) fun w hw => ?_
  have h4 := pile_take hp hw
  rw [<- h3] at h4
  have hF : Ent W (p.res :: PilP (ps.filter fun x => x.place ≠ p.place) :: Row b 172 [.int .i64 p.row, .map (some x.m), .slice (some a) A2.length ac, .slice bo B.length bc] :: MapL pairV pairG x.m ((ps.filter fun x => x.place ≠ p.place).map PatE.kv) :: WayN (some a) ac A2.length A2 :: WayN bo bc B.length B :: R) (liftO b p.row (ps.filter fun x => x.place ≠ p.place) ⟨x.m, some a, ac, bo, bc, A2, B⟩ (p.res :: R)) := Ent.re
  exact (LiftR.shut hG w (hF w h4)).swap
theorem liftnext_none {b : Nat} {r : Int} :
  Does1 W Tryz.prog 94 [.pointer (some ⟨b, 0, none⟩)] (LiftR b r [] :: R) (.tuple #[.agg zeroPa.toArray, .bool false]) (LiftR b r [] :: R) := by
 refine DoesO (fun w hw => LiftR.open hw) fun ⟨x, g⟩ => ?_
 obtain ⟨m, ao, ac, bo, bc, A, B⟩ := x
 have hA : A = [] := List.perm_nil.1 g.ok.ahead
 have hB : B = [] := List.perm_nil.1 g.ok.below
 subst hA hB
 (refine Does.enter Tryz.func94 Tryz.ntmps94 rfl rfl ?_)
 refine w ?_
 refine zq ?_
 refine OpV.allocS sb_88 rfl ?_
 intro n2
 refine w ?_
 (apply VO.pure rfl rfl; apply PureAt.build sb_88 rfl; (simp [buildX, setL, Value.cells]; rfl); rfl)
 refine zq ?_
 refine OpV.stA (vs := zeroPa) tab_ok rfl rfl rfl rfl (by simp [Value.oneCell']) zh (by simp) ?_
 refine w ?_
 refine VE.results2 (.inl rfl) () rfl (ResIs.agg (vs := zeroPa) tab_ok rfl rfl zm rfl rfl) (.tmp rfl) trivial rfl ?_
 have hG : LiftG r [] ⟨m, bo, bc, none, 0, [], []⟩ := ⟨LiftOk.nil r, fun q hq => (by cases hq), g.row⟩
 intro w hw
 have h2 := Holds.ownNil 179 2 hw
 have hF : Ent W (WayN none 0 0 [] :: Row n2 88 zeroPa :: Row b 172 [.int .i64 r, .map (some m), .slice bo 0 bc, .slice none 0 0] :: MapL pairV pairG m [] :: WayN ao ac 0 [] :: WayN bo bc 0 [] :: PilP [] :: R) (liftO b r [] ⟨m, bo, bc, none, 0, [], []⟩ R) := Ent.re
 exact LiftR.shut hG w (hF w h2)
def curC : Option PatE -> List Value
  | none => zeroPa
  | some p => p.cells
def rowOf (r : Int) : Option PatE -> Int
  | none => r
  | some p => p.row
def psOf (ps : List PatE) : Option PatE -> List PatE
  | none => ps
  | some p => ps.filter fun x => x.place ≠ p.place
def StepP (r : Int) (ps : List PatE) : Option PatE -> Prop
  | none => ps = []
  | some p => p ∈ ps /\ IsNext r (ps.map PatE.place) p.place
theorem curC_one (c : Option PatE) : ∀ u ∈ curC c, u.oneCell' = true := by
 cases c with
 | none => simp [curC, Value.oneCell']
 | some p => exact pat_one p
theorem curC_len (c : Option PatE) : (curC c).length = 3 := by cases c <;> rfl
theorem liftstep_ok {b : Nat} {r : Int} {ps : List PatE} (hps : ps.length <= 800000) :
  Does W Tryz.prog 94 [.pointer (some ⟨b, 0, none⟩)] (LiftR b r ps :: R) (β := Option PatE) (StepP r ps) (fun c => .tuple #[.agg (curC c).toArray, .bool c.isSome])
   (fun c => PilP c.toList :: LiftR b (rowOf r c) (psOf ps c) :: R) := by
 by_cases h : ps = []
 ·
  subst h
  exact Does.mono (liftnext_none (R := R)) (fun _ => none) (fun _ _ => rfl) (fun _ _ => rfl) (fun _ _ => fun w hw => pile_nil hw)
 ·
  refine Does.mono (liftnext_ok (R := R) h hps) (fun p => some p) (fun _ h => h) (fun _ _ => rfl) (fun p _ => fun w hw => ?_)
  exact pile_cons (l := []) (pile_nil hw).swap
inductive Take (r : Int) (ps : List PatE) : List PatE -> Int -> List PatE -> Prop where
  | nil : Take r ps [] r ps
  | snoc {l : List PatE} {r1 : Int} {ps1 : List PatE} {p : PatE} (h : Take r ps l r1 ps1) (hp : p ∈ ps1) (hn : IsNext r1 (ps1.map PatE.place) p.place) : Take r ps (l ++ [p]) p.row (ps1.filter fun x => x.place ≠ p.place)
theorem Take.step {r : Int} {ps l ps1 : List PatE} {r1 : Int} (h : Take r ps l r1 ps1) {c : Option PatE} (hc : StepP r1 ps1 c) : Take r ps (l ++ c.toList) (rowOf r1 c) (psOf ps1 c) := by
 cases c with
 | none => simpa [rowOf, psOf] using h
 | some p => exact h.snoc hc.1 hc.2
theorem filter_less {ps : List PatE} {p : PatE} (hp : p ∈ ps) : (ps.filter fun x => x.place ≠ p.place).length < ps.length := by
 obtain ⟨s, t, rfl⟩ := List.append_of_mem hp
 rw [List.filter_append, List.filter_cons_of_neg (by simp), List.length_append, List.length_append, List.length_cons]
 have h1 := List.length_filter_le (fun x : PatE => decide (x.place ≠ p.place)) s
 have h2 := List.length_filter_le (fun x : PatE => decide (x.place ≠ p.place)) t
 omega
theorem psOf_le {ps : List PatE} {r : Int} {c : Option PatE} (h : StepP r ps c) : (psOf ps c).length + c.toList.length <= ps.length := by
 cases c with
 | none => simp [psOf]
 | some p => have := filter_less h.1; simp only [psOf, Option.toList, List.length_singleton]; omega
theorem Take.length {r : Int} {ps l ps1 : List PatE} {r1 : Int} (h : Take r ps l r1 ps1) : l.length + ps1.length <= ps.length := by
 induction h with
 | nil => simp
 | snoc h hp hn ih => have := filter_less hp; rw [List.length_append, List.length_singleton]; omega
structure AllX where
  l : List PatE
  c : Option PatE
  r : Int
  ps : List PatE
  so : Option Addr
  sc : Nat
  n : Nat
theorem liftall_ok {b : Nat} {r : Int} {ps : List PatE} (hps : ps.length <= 800000) :
    Does W Tryz.prog 38 [.pointer (some ⟨b, 0, none⟩)] (LiftR b r ps :: R) (β := (Option Addr × Nat) × List PatE × Int) (fun y => Take r ps y.2.1 y.2.2 []) (fun y => .slice y.1.1 y.2.1.length y.1.2)
      (fun y => PatsO y.1 y.2.1 :: PilP y.2.1 :: LiftR b y.2.2 [] :: R) := by
  (refine Does.enter Tryz.func38 Tryz.ntmps38 rfl rfl ?_)
  refine w ?_
  (refine zq ?_; refine zy rfl rfl (liftstep_ok (R := R) hps) ?_)
  intro c hc
  refine w ?_
  refine zq ?_
  refine OpV.allocS sb_88 rfl ?_
  intro n4
  refine zq ?_
  refine OpV.stA (vs := curC c) tab_ok rfl rfl rfl (curC_len c) (curC_one c) zh (by simp) ?_
  refine w ?_
  refine VC.ent (fun w hw => Holds.ownNil 88 3 (pile_nil (res := PatE.res) hw)) ?_
  refine VC.loop (α := AllX) (fun y => Take r ps (y.l ++ y.c.toList) y.r y.ps /\ (y.c = none -> y.ps = [])) (fun y => PatsO (y.so, y.sc) y.l :: PilP y.l :: Row y.n 88 (curC y.c) :: PilP y.c.toList :: LiftR b y.r y.ps :: R)
    (fun y => [(0, .pointer (some ⟨b, 0, none⟩)), (3, .slice y.so y.l.length y.sc), (4, .pointer (some ⟨y.n, 0, none⟩)), (5, .bool y.c.isSome)]) (fun y => y.ps.length + y.c.toList.length) rfl
    ⟨[], c, rowOf r c, psOf ps c, none, 0, n4⟩ ⟨Take.nil.step hc, fun h => by subst h; exact hc⟩ ?_ ⟨rfl, rfl, rfl, rfl, trivial⟩ ?_
  · cases c <;> exact Ent.re
  rintro ⟨l, c1, r1, ps1, so, sc, nc⟩ ⟨ht, hc1⟩
  dsimp only at ht hc1 ⊢
  have hlen := ht.length
  rw [List.length_append] at hlen
  refine w ?_
  cases c1 with
  | none =>
    have := hc1 rfl
    subst this
    (refine VC.condFe rfl rfl (rfl) ?_)
    refine w ?_
    refine VE.done ((so, sc), l, r1) rfl (by simpa using ht) rfl ?_
    exact Ent.re
  | some p =>
    (refine VC.condTe rfl rfl (rfl) ?_)
    refine w ?_
    refine VO.re 18 (.agg p.cells.toArray) rfl rfl ?_
    refine zq ?_
    refine OpV.buildSlice (cs := p.cells) st_84 rfl rfl (by simp [Value.cells]) (by simp [Value.cells]) (by decide) rfl ?_
    intro nb
    refine zq ?_
    refine OpV.appendRow st_84 rfl rfl zh zm rfl (pat_one p) (by simp only [maxLen]; omega) (by omega) rfl ?_
    intro so2 sc2
    refine w ?_
    refine VO.re 21 (.agg p.cells.toArray) rfl rfl ?_
    refine zq ?_
    refine OpV.allocS sb_88 rfl ?_
    intro n5
    refine zq ?_
    refine OpV.stA (vs := p.cells) tab_ok rfl rfl rfl rfl (pat_one p) zh (by simp) ?_
    refine w ?_
    (refine zq ?_; refine zd rfl rfl (liftstep_ok (R := Row n5 88 p.cells :: PilP (some p).toList :: Sl.Own 88 3 (.slice so2 (l.length + 1) sc2) (l.length + 1) (patCells l ++ p.cells) :: PilP l :: R) (b := b) (r := r1) (ps := ps1) (by omega)) ?_)
    intro c2 hc2
    refine w ?_
    refine zq ?_
    refine OpV.stA (vs := curC c2) tab_ok rfl rfl rfl (curC_len c2) (curC_one c2) zh (by simp) ?_
    refine w ?_
    have hle := psOf_le hc2
    refine VE.round (⟨l ++ [p], c2, rowOf r1 c2, psOf ps1 c2, so2, sc2, n5⟩ : AllX) ⟨by simpa using ht.step hc2, fun h => by subst h; exact hc2⟩ (by dsimp only [Option.toList]; simp only [List.length_singleton]; simp only [Option.toList] at hle; omega) ⟨rfl, asV rfl (by simp), rfl, asV rfl (by rfl), trivial⟩ ?_
    dsimp only
    have e1 : List.take 0 p.cells ++ curC c2 ++ List.drop (0 + 3) p.cells = curC c2 := by simp
    rw [e1]
    unfold PatsO
    rw [patCells_push, List.length_append, List.length_singleton]
    refine Ent.trans (Ent.re (L := PilP l :: PilP [p] :: Sl.Own 88 3 (.slice so2 (l.length + 1) sc2) (l.length + 1) (patCells l ++ p.cells) :: Row n5 88 (curC c2) :: PilP c2.toList :: LiftR b (rowOf r1 c2) (psOf ps1 c2) :: R)) fun w hw => ?_
    exact (pile_join hw).swap
abbrev noT : List Value := [.int .i64 0, .int .u16 0]
structure PatE.Of (X : RwX) (p : PatE) : Prop where
  m : 0 <= p.member /\ p.member < X.m
  r : 0 <= p.row /\ p.row < ((X.s * X.c : Nat) : Int)
  n : p.d.data.length = 128
theorem rplace_ok {D : BayD} {sz : Nat -> Nat} {n c0 : Nat} {ao : Option Addr} {cap : Nat} (r : Nat) (X : RwX) (hX : X.ok) (fr : List Int) (hF : FineX X fr sz n) (hq : Qt D sz n c0) (l : List PatE) (hrd : RdPats W R ao l) (hin : ∀ p ∈ l, p.Of X) (hl : l.length <= 800000) (hc0 : c0 <= 1000000) :
    Does W Tryz.prog 42 [.pointer (some ⟨r, 0, none⟩), .slice ao l.length cap] (RwO r X fr (BayR X.b D :: R)) (β := BayD) (fun D' => Qt D' sz n (c0 + l.length)) (fun _ => .agg noT.toArray) (fun D' => RwO r X fr (BayR X.b D' :: R)) := by
  have h4 : X.s * X.c <= 256 * 16 := Nat.mul_le_mul hX.s.2 hX.c.2
  have hXm := hX.m
  (refine Does.enter Tryz.func42 Tryz.ntmps42 rfl rfl ?_)
  refine w ?_
  refine zq ?_; refine OpV.allocS sb_97 rfl ?_; intro nt
  refine w ?_
  refine VC.loop (α := Nat) (fun i => i <= l.length) (fun _ => Row nt 97 noT :: RwO r X fr (BayR X.b D :: R))
    (fun i => [(0, .pointer (some ⟨r, 0, none⟩)), (1, .slice ao l.length cap), (4, .pointer (some ⟨nt, 0, none⟩)), (15, .slice ao l.length cap), (16, .int .i64 l.length), (17, .int .i64 i)]) (fun i => l.length - i) rfl 0 (Nat.zero_le _) Ent.re ⟨rfl, rfl, rfl, rfl, rfl, rfl, trivial⟩ ?_
  intro i hi
  refine w ?_
  refine zk ?_ ?_ <;> intro hc
  · have hlt : i < l.length := by have := of_decide_eq_true hc; omega
    obtain ⟨la, rfl⟩ : ∃ x, ao = some x := by cases ao with | none => have := hrd.rds.nil rfl; omega | some x => exact ⟨x, rfl⟩
    have hp := hin _ (List.getElem_mem hlt)
    have hr := hp.r; have hm := hp.m
    have eR : Ent W (Row nt 97 noT :: RwO r X fr (BayR X.b D :: R)) R := Ent.drop (Ent.drop (Ent.drop (Ent.drop Ent.refl)))
    refine w ?_
    ((first | apply VO.pure rfl rfl | apply VQ.pure rfl rfl | apply VD.take rfl rfl rfl | (refine VD.end rfl rfl rfl ?_; apply OpV.pure)); exact .ldRA tab_ok rfl rfl (hrd.rds.ent eR) (pat_at l i hlt) rfl; rfl)
    refine w ?_
    refine zq ?_; refine OpV.allocS sb_88 rfl ?_; intro n6
    refine w ?_
    refine zq ?_
    refine OpV.stA (vs := l[i].cells) tab_ok rfl rfl rfl rfl (pat_one _) zh (by simp) ?_
    refine w ?_
    (refine VC.drawn [3, 17] 18 [0, 1, 2, 3, 4, 5, 6, 7, 8, 9, 10, 11, 12, 13, 14, 15, 16, 17, 18, 19] _ rfl (by kernel_rfl) (by kernel_rfl) Ent.re ?_)
    refine w ?_
    ((refine zq ?_; refine zd rfl rfl (ris_ok r X l[i].member) ?_); intro _ _)
    rw [decide_eq_true (show 0 <= l[i].member /\ l[i].member < X.m by omega)]
    refine w ?_
    (first | refine VO.gF rfl rfl rfl (decide_eq_false (by omega)) ?_ | refine VD.gF rfl rfl rfl (decide_eq_false (by omega)) ?_)
    refine w ?_
    (refine zq ?_; refine zy rfl rfl (growsN_ok hX.m hX.c hX.s) ?_)
    intro _ _
    refine w ?_
    (refine VC.condFe rfl rfl (decide_eq_false (by omega)) ?_)
    refine w ?_
    exact VE.round (i + 1) hlt (by omega) ⟨rfl, rfl, rfl, rfl, rfl, asV rfl (by congr 1), trivial⟩ Ent.re
  clear hc
  refine w ?_
  (refine zq ?_; refine zy rfl rfl (liftnew_ok (r := 0) (by decide)) ?_)
  intro b _
  refine w ?_
  refine VC.loop (α := Nat × List PatE) (fun y => y.1 <= l.length /\ y.2.length <= y.1 /\ ∀ p ∈ y.2, p.Of X) (fun y => LiftR b 0 y.2 :: Row nt 97 noT :: RwO r X fr (BayR X.b D :: R))
    (fun y => [(0, .pointer (some ⟨r, 0, none⟩)), (4, .pointer (some ⟨nt, 0, none⟩)), (7, .pointer (some ⟨b, 0, none⟩)), (51, .slice ao l.length cap), (52, .int .i64 l.length), (53, .int .i64 y.1)]) (fun y => l.length - y.1) rfl (0, []) ⟨Nat.zero_le _, Nat.le_refl _, fun p h => absurd h List.not_mem_nil⟩ Ent.re ⟨rfl, rfl, rfl, rfl, rfl, rfl, trivial⟩ ?_
  clear hi
  rintro ⟨i, ps⟩ ⟨hi, hps, hall⟩
  dsimp only at hi hps hall ⊢
  refine w ?_
  refine zk ?_ ?_ <;> intro hc
  · have hlt : i < l.length := by have := of_decide_eq_true hc; omega
    obtain ⟨la, rfl⟩ : ∃ x, ao = some x := by cases ao with | none => have := hrd.rds.nil rfl; omega | some x => exact ⟨x, rfl⟩
    have hp := hin _ (List.getElem_mem hlt)
    have hr := hp.r; have hm := hp.m
    have eR : Ent W (LiftR b 0 ps :: Row nt 97 noT :: RwO r X fr (BayR X.b D :: R)) R := Ent.drop (Ent.drop (Ent.drop (Ent.drop (Ent.drop Ent.refl))))
    refine w ?_
    ((first | apply VO.pure rfl rfl | apply VQ.pure rfl rfl | apply VD.take rfl rfl rfl | (refine VD.end rfl rfl rfl ?_; apply OpV.pure)); exact .ldRA tab_ok rfl rfl (hrd.rds.ent eR) (pat_at l i hlt) rfl; rfl)
    refine w ?_
    refine zq ?_; refine OpV.allocS sb_88 rfl ?_; intro n10
    refine w ?_
    refine zq ?_
    refine OpV.stA (vs := l[i].cells) tab_ok rfl rfl rfl rfl (pat_one _) zh (by simp) ?_
    refine w ?_
    have hput := liftput_ok (W := W) (R := Row n10 88 l[i].cells :: Row nt 97 noT :: RwO r X fr (BayR X.b D :: R)) (b := b) (r := 0) (ps := ps) (p := l[i]) ⟨by omega, by omega, hp.n⟩ ((hrd.each _ (List.getElem_mem hlt)).ent (Ent.drop (Ent.drop (Ent.drop (Ent.drop (Ent.drop Ent.refl)))))) (by omega)
    (refine zq ?_; refine zd rfl rfl (hput) ?_)
    intro y _
    refine w ?_
    refine VE.round (i + 1, putL ps ⟨l[i].member, l[i].row, ⟨y.1, y.2, l[i].d.data⟩⟩) ⟨hlt, ?_, fun p hp' => ?_⟩ (by dsimp only; omega) ⟨rfl, rfl, rfl, rfl, rfl, asV rfl (by congr 1), trivial⟩ Ent.re
    · dsimp only
      have := List.length_filter_le (fun x : PatE => decide (x.place ≠ PatE.place ⟨l[i].member, l[i].row, ⟨y.1, y.2, l[i].d.data⟩⟩)) ps
      unfold putL
      rw [List.length_append, List.length_singleton]; omega
    · rcases List.mem_append.1 hp' with h | h
      · exact hall p (List.mem_filter.1 h).1
      · rw [List.mem_singleton.1 h]; exact ⟨hm, hr, hp.n⟩
  clear hc
  refine w ?_
  refine VC.loop (α := BayD × Int × List PatE) (fun y => Qt y.1 sz n (c0 + (l.length - y.2.2.length)) /\ y.2.2.length <= l.length /\ ∀ p ∈ y.2.2, p.Of X) (fun y => LiftR b y.2.1 y.2.2 :: Row nt 97 noT :: RwO r X fr (BayR X.b y.1 :: R))
    (fun y => [(0, .pointer (some ⟨r, 0, none⟩)), (4, .pointer (some ⟨nt, 0, none⟩)), (7, .pointer (some ⟨b, 0, none⟩))]) (fun y => y.2.2.length) rfl (D, 0, ps) ⟨hq.mono (by dsimp only; omega), by dsimp only; omega, hall⟩ Ent.re ⟨rfl, rfl, rfl, trivial⟩ ?_
  clear hi hps hall
  rintro ⟨D', row, qs⟩ ⟨hq', hqs, hall⟩
  dsimp only at hq' hqs hall ⊢
  refine w ?_
  (refine zq ?_; refine zd rfl rfl (liftstep_ok (ps := qs) (by omega)) ?_)
  intro c hstep
  refine VO.know (fun w hw => PilP.know hw) ?_
  intro hpk
  cases c with
  | none =>
    have h0 : qs = [] := hstep
    subst h0
    refine w ?_
    refine zq ?_; refine OpV.allocS sb_88 rfl ?_; intro n12
    refine w ?_
    refine zq ?_
    refine OpV.stA (vs := zeroPa) tab_ok rfl rfl rfl rfl (by simp [Value.oneCell']) zh (by simp) ?_
    refine w ?_
    (apply VO.pure rfl rfl; apply PureAt.build sb_97 (pv := []) rfl; rfl; rfl)
    refine zq ?_
    refine OpV.stA (vs := noT) tab_ok rfl rfl rfl rfl (by simp [Value.oneCell']) zh (by simp) ?_
    refine w ?_
    exact VE.results1 (.inl rfl) D' rfl (ResIs.agg (vs := noT) tab_ok rfl rfl zm rfl rfl) (hq'.mono (by simp)) rfl Ent.re
  | some p =>
    obtain ⟨hmem, -⟩ : p ∈ qs /\ _ := hstep
    have hp := hall _ hmem
    have hm := hp.m; have hr := hp.r; have h128 := hp.n
    have hlt := filter_less hmem
    have hrest : ∀ q ∈ qs.filter (fun x => x.place ≠ p.place), q.Of X := fun q hq => hall q (List.mem_filter.1 hq).1
    have hfl := List.length_filter_le (fun x : PatE => decide (x.place ≠ p.place)) qs
    obtain ⟨pm, pr, pd⟩ := p
    dsimp only at hm hr h128
    obtain ⟨pm, rfl⟩ := Int.eq_ofNat_of_zero_le hm.1
    obtain ⟨pr, rfl⟩ := Int.eq_ofNat_of_zero_le hr.1
    refine w ?_
    refine zq ?_; refine OpV.allocS sb_88 rfl ?_; intro n12
    refine w ?_
    refine zq ?_
    refine OpV.stA (vs := [.int .i64 pm, .int .i64 pr, pd.hdr]) tab_ok rfl rfl rfl rfl (by simp [Value.oneCell']) zh (by simp) ?_
    refine w ?_
    ((refine zq ?_; refine zd rfl rfl (rdownN_ok r X fr hF.len pm (by omega) pr) ?_); intro _ _)
    by_cases hd : dwn fr pm pr
    · rw [decide_eq_true hd]
      refine w ?_
      exact VE.round (D', (pr : Int), qs.filter fun x => x.place ≠ PatE.place ⟨pm, pr, pd⟩) ⟨hq'.mono (by dsimp only; omega), by dsimp only; omega, hrest⟩ hlt ⟨rfl, rfl, rfl, trivial⟩ Ent.re
    · rw [decide_eq_false hd]
      refine w ?_
      (refine VC.drawn [] 11 [0, 1, 2, 3, 4, 5, 6, 7, 8, 9, 10, 11, 12] _ rfl (by kernel_rfl) (by kernel_rfl) Ent.re ?_)
      refine w ?_
      refine VD.re 87 (.int .i64 ((1 + pr : Nat) : Int)) rfl (by congr 1) ?_
      have hXn := hF.n
      have hs := hF.is pm pr (by omega) (by omega) hd
      have hw0 := hq'.write_ok (k := pm) (a := 1 + pr) (b := pd.data) (by omega) (by omega) h128
      have hw1 := hq'.write pm ((1 + pr : Nat) : Int) pd.data
      have hwr := baywrite_ok (W := W) (cap := pd.cap) (R := RwO r X fr (PilP [⟨pm, pr, pd⟩] :: LiftR b pr (qs.filter fun x => x.place ≠ PatE.place ⟨pm, pr, pd⟩) :: Row nt 97 noT :: R)) X.b D' pm ((1 + pr : Nat) : Int) (l := pd.data) (ao := pd.ao) (Nat.le_trans (dv_cap hq'.capd pm) (by omega)) (.inr (Rds.pile (res := PatE.res) (l := [⟨pm, pr, pd⟩]) (a := ⟨pm, pr, pd⟩) zm (.head _) (fun R hR => RowE.rds (hpk _ (.head _)) hR)))
      rw [hw0] at hwr
      generalize (D'.write pm ((1 + pr : Nat) : Int) pd.data).2 = D2 at *
      ((refine zq ?_; refine zd rfl rfl (hwr) ?_); intro _ _)
      refine w ?_
      exact VE.round (D2, (pr : Int), qs.filter fun x => x.place ≠ PatE.place ⟨pm, pr, pd⟩) ⟨hw1.mono (by dsimp only; omega), by dsimp only; omega, hrest⟩ hlt ⟨rfl, rfl, rfl, trivial⟩ Ent.re
theorem reach_ok {D : BayD} {sz : Nat -> Nat} {n c0 : Nat} (r : Nat) (X : RwX) (hX : X.ok) (fr : List Int) (hF : FineX X fr sz n) (hq : Qt D sz n c0) :
  Does W Tryz.prog 105 [.pointer (some ⟨r, 0, none⟩), .func (.func 97) #[] #[]] (RwO r X fr (BayR X.b D :: R)) (β := BayD) (fun D' => Qt D' sz n c0) (fun _ => .agg noT.toArray) (fun D' => RwO r X fr (BayR X.b D' :: R)) := by
 have h4 : 1 * 1 <= X.s * X.c := Nat.mul_le_mul hX.s.1 hX.c.1
 have hXm := hX.m
 (refine Does.enter Tryz.func105 Tryz.ntmps105 rfl rfl ?_)
 refine w ?_
 refine zq ?_; refine OpV.allocS sb_97 rfl ?_; intro nt
 refine w ?_
 refine VC.loop (α := Nat × BayD) (fun y => y.1 <= X.m /\ Qt y.2 sz n c0) (fun y => Row nt 97 noT :: RwO r X fr (BayR X.b y.2 :: R))
  (fun y => [(0, .pointer (some ⟨r, 0, none⟩)), (1, .func (.func 97) #[] #[]), (4, .pointer (some ⟨nt, 0, none⟩)), (11, .int .i64 X.m), (12, .int .i64 y.1)]) (fun y => X.m - y.1) rfl (0, D) ⟨Nat.zero_le _, hq⟩ Ent.re ⟨rfl, rfl, rfl, rfl, rfl, trivial⟩ ?_
 rintro ⟨i, D'⟩ ⟨hi, hq'⟩
 dsimp only at hi hq' ⊢
 refine w ?_
 refine zk ?_ ?_ <;> intro hc
 ·
  have hlt : i < X.m := by have := of_decide_eq_true hc; omega
  refine w ?_
  ((refine zq ?_; refine zd rfl rfl (rdownN_ok r X fr hF.len i hlt 0) ?_); intro _ _)
  by_cases hd : dwn fr i 0
  ·
   rw [decide_eq_true hd]
   refine w ?_
   exact VE.round (i + 1, D') ⟨hlt, hq'⟩ (by dsimp only; omega) ⟨rfl, rfl, rfl, rfl, asV rfl (by congr 1), trivial⟩ Ent.re
  ·
   rw [decide_eq_false hd]
   refine w ?_
   have hXn := hF.n
   have hs := hF.is i 0 hlt (by omega) hd
   have hf0 := hq'.flush_ok (k := i) (by omega) (by omega)
   have hf1 := hq'.flush i
   have hfl := fun R => bayflush_ok (W := W) (R := R) X.b D' (i : Int)
   rw [hf0] at hfl
   generalize (D'.flush (i : Int)).2 = D2 at *
   ((refine zq ?_; refine zd rfl rfl (hfl _) ?_); intro _ _)
   refine w ?_
   exact VE.round (i + 1, D2) ⟨hlt, hf1⟩ (by dsimp only; omega) ⟨rfl, rfl, rfl, rfl, asV rfl (by congr 1), trivial⟩ Ent.re
 clear hc
 refine w ?_
 (apply VO.pure rfl rfl; apply PureAt.build sb_97 (pv := []) rfl; rfl; rfl)
 refine zq ?_
 refine OpV.stA (vs := noT) tab_ok rfl rfl rfl rfl (by simp [Value.oneCell']) zh (by simp) ?_
 refine w ?_
 exact VE.results1 (.inl rfl) D' rfl (ResIs.agg (vs := noT) tab_ok rfl rfl zm rfl rfl) hq' rfl Ent.re
theorem rbarrier_ok {D : BayD} {sz : Nat -> Nat} {n c0 : Nat} (r : Nat) (X : RwX) (hX : X.ok) (fr : List Int) (hF : FineX X fr sz n) (hq : Qt D sz n c0) :
  Does W Tryz.prog 43 [.pointer (some ⟨r, 0, none⟩)] (RwO r X fr (BayR X.b D :: R)) (β := BayD) (fun D' => Qt D' sz n c0) (fun _ => .agg noT.toArray) (fun D' => RwO r X fr (BayR X.b D' :: R)) := by
 (refine Does.enter Tryz.func43 Tryz.ntmps43 rfl rfl ?_)
 refine w ?_
 refine zq ?_; refine OpV.allocS sb_97 rfl ?_; intro nt
 refine w ?_
 (refine zq ?_; refine zd rfl rfl (reach_ok r X hX fr hF hq) ?_)
 intro D' hq'
 refine w ?_
 refine zq ?_
 refine OpV.stA (vs := noT) tab_ok rfl rfl rfl rfl (by simp [Value.oneCell']) zh (by simp) ?_
 refine w ?_
 exact VE.results1 (.inl rfl) D' rfl (ResIs.agg (vs := noT) tab_ok rfl rfl zm rfl rfl) hq' rfl Ent.re
end Go.Proofs.YtjebagmjcdaegaaGreat
/-! Text Gg. -/
namespace Go.Sl
open Go Go.RowKit Go.MapKept
section
variable {W : World} {P : Program} {n : Nat} {H L : List SProp} {f : Fr} {dst : Option Tmp} {ty_ : TypeId} {pos : String} {after : Array Edge} {guard : Option (Nat × Bool)} {Q : Exit -> Act -> World -> Prop} {N : List SProp -> Fr -> Prop} {d : Nat}
theorem KeyT.u8 {P : Program} {kt : TypeId} (hkt : P.underlying kt = some (.int .u8)) : KeyT P kt UInt8 (fun c => .int .u8 (c.toNat : Int)) (fun _ => True) := by
 refine ⟨fun a b h => ?_, fun w em k _ => ?_, fun w k _ es hall => ?_, fun w k _ => ?_⟩
 ·
  injection h with _ h
  exact UInt8.toNat_inj.1 (by omega)
 · exact Go.MapKept.run_checkKey (P := P) (w := w) (kt := kt) (k := .int .u8 (k.toNat : Int)) hkt rfl em 9999
 ·
  rcases findNow_spec (d := .int .u8) (k := .int .u8 (k.toNat : Int)) rfl es 0 (fun e he => by obtain ⟨a, _, h1⟩ := hall e he; rw [h1]; rfl) with ⟨h1, h2⟩ | ⟨j, e, h1, h2, h3⟩
  · exact .inl ⟨Go.MapKept.run_findKey (P := P) (w := w) (kt := kt) hkt h1, h2⟩
  · exact .inr ⟨j, e, by rw [Go.MapKept.run_findKey (P := P) (w := w) (kt := kt) hkt h1, Nat.zero_add], h2, h3⟩
 · simp [Instr.keyThatStays, Instr.sameBits]
theorem PureAt.makeFuncB {g : FuncId} {xs : Array Operand} {vs : List Value} (hx : argsX f xs.toList = some vs) : PureAt W P n H f { dst, op := .makeFunc (.func g) xs #[], type := ty_, pos, after, guard } (.func (.func g) vs.toArray #[]) := by
 unfold PureAt
 intro tm w hk hw
 have hargs : xs.map (Act.eval ⟨tm, []⟩) = vs.toArray := by
  have := hk.args hx
  apply Array.ext'
  simpa using this
 simp [execOp, Instr.makeFunc, hargs]
theorem OpV.callB {x : Operand} {xs : Array Operand} {ats : Array TypeId} {g : FuncId} {bnd cap : Array Value} {vs : List Value} {β : Type} {A : β -> Prop} {r : β -> Value} {G : β -> List SProp}
  (hx : evalX f x = some (.func (.func g) bnd cap)) (ha : argsX f xs.toList = some vs) (hc : ∀ a w, (callFunc g a).run P w = .ok (.enter g a) w) (spec : Does W P g (bnd.toList ++ vs ++ cap.toList) L A r G)
  (hL : Ent W H L) (hd : Nat.blt d n = true) (h : ∀ y, A y -> N (G y) ((d, r y) :: f)) :
  OpV W P n { dst := some d, op := .call { callee := .value x, args := xs, argTypes := ats }, type := ty_, pos, after, guard } Q H f N := by
 unfold OpV
 intro t w hk hw K hK
 have hargs : xs.map (Act.eval ⟨t, []⟩) = vs.toArray := by
  have := hk.args ha
  apply Array.ext'
  simpa using this
 unfold Does at spec
 have hs := spec w (hL w hw)
 unfold Oper.wp execOp
 simp only [resolve, hk.eval hx, hargs, Deferred.ofValue, Go.invoke, Sem.run_bind, Sem.run_pure, Result.andThen_ok, hc, Oper.upon]
 have e : bnd ++ vs.toArray ++ cap = (bnd.toList ++ vs ++ cap.toList).toArray := by apply Array.ext'; simp
 rw [e]
 refine Calls.mono hs ?_
 rintro e w' ⟨y, hA, rfl, hG⟩
 exact hK _ _ (h y hA) _ _ (hk.put hd) hG
end
end Go.Sl
namespace Go.Proofs.YtjebagmjcdaegaaGreat
open Go.RowKit Go.Sl
attribute [local irreducible] Sl.Own
variable {W : World} {R : List SProp}
structure ArrX where
  b : Nat
  id : Nat
  ev : Nat
  sf : Nat
  role : Int
  m : Nat
  c : Nat
  s : Nat
  ring : Nat
  lazy : Bool
  lost : Bool
  so : Addr
  sc : Nat
  st : List UInt8
  cur : Nat
  r : Option Addr
  w : Option Addr
  ro : Bool
  loud : Bool
  young : Bool
abbrev ArrX.sup (X : ArrX) : SuperD := ⟨X.id, X.ev, X.sf, X.role, X.m, X.c, X.s, X.ring, X.lazy, X.lost, some X.so, X.sc, X.st, X.cur⟩
abbrev ArrX.cells (X : ArrX) : List Value := [.pointer (some ⟨X.b, 0, none⟩), .int .u64 X.id, .int .u64 X.ev, .int .u64 X.sf, .int .i64 X.role, .int .i64 X.m, .int .i64 X.c, .int .i64 X.s, .int .i64 X.ring, .bool X.lazy, .bool X.lost, .slice (some X.so) X.st.length X.sc, .int .i64 X.cur,
  .pointer X.r, .pointer X.w, .bool X.ro, .int .u16 0, .bool X.loud, .bool X.young]
structure ArrX.ok (X : ArrX) : Prop where
  m : 3 <= X.m /\ X.m <= 16
  c : 1 <= X.c /\ X.c <= 16
  s : 1 <= X.s /\ X.s <= 256
  st : X.st.length = X.m
  vals : ∀ x ∈ X.st, x = 1 \/ x = 2 \/ x = 3
  cur : X.cur <= 255
abbrev StO (X : ArrX) : SProp := Sl.Own 144 1 (.slice (some X.so) X.st.length X.sc) X.st.length (bytes X.st)
theorem ajournal_ok (a : Nat) (X : ArrX) : Does1 W Tryz.prog 33 [.pointer (some ⟨a, 0, none⟩)] (Row a 75 X.cells :: R) (.int .i64 X.m) (Row a 75 X.cells :: R) := by
 (refine Does.enter Tryz.func33 Tryz.ntmps33 rfl rfl ?_)
 refine w ?_
 exact VE.done1 rfl rfl Ent.refl
theorem abeyond_ok (a : Nat) (X : ArrX) (hX : X.ok) : Does1 W Tryz.prog 80 [.pointer (some ⟨a, 0, none⟩)] (Row a 75 X.cells :: R) (.int .i64 ((X.s * X.c : Nat) : Int)) (Row a 75 X.cells :: R) := by
 (refine Does.enter Tryz.func80 Tryz.ntmps80 rfl rfl ?_)
 refine w ?_
 (refine zq ?_; refine zy rfl rfl (growsN_ok hX.m hX.c hX.s) ?_)
 intro _ _
 refine w ?_
 exact VE.done1 rfl rfl Ent.refl
theorem anought_ok (v : Value) : Does1 W Tryz.prog 81 [v] R (.int .i64 ((0 : Nat) : Int)) R := by
 (refine Does.enter Tryz.func81 Tryz.ntmps81 rfl rfl ?_)
 refine w ?_
 exact VE.done1 rfl rfl Ent.refl
theorem arebuilt_ok (a : Nat) (X : ArrX) (hX : X.ok) : Does1 W Tryz.prog 82 [.pointer (some ⟨a, 0, none⟩)] (Row a 75 X.cells :: R) (.int .i64 ((X.cur * X.c : Nat) : Int)) (Row a 75 X.cells :: R) := by
 have h : X.cur * X.c <= 255 * 16 := Nat.mul_le_mul hX.cur hX.c.2
 (refine Does.enter Tryz.func82 Tryz.ntmps82 rfl rfl ?_)
 refine w ?_
 ((refine VC.quiet rfl (by kernel_rfl) (by kernel_rfl) ?_); refine w ?_)
 exact VE.done1 rfl rfl Ent.refl
theorem StO.rds {H : List SProp} {X : ArrX} (m : StO X ∈ H) : Rds W H 1 (some X.so) X.st.length (bytes X.st) := Rds.own (bytes_one _) m (by simp) (by simp)
theorem atakes_ok (a : Nat) (X : ArrX) (k : Nat) (hk : k < X.st.length) : Does1 W Tryz.prog 99 [.pointer (some ⟨a, 0, none⟩), .int .i64 k] (Row a 75 X.cells :: StO X :: R) (.bool (decide (X.st[k] ≠ 2))) (Row a 75 X.cells :: StO X :: R) := by
 have hb1 : Rds W (Row a 75 X.cells :: StO X :: R) 1 (some X.so) X.st.length (bytes X.st) := StO.rds zm
 (refine Does.enter Tryz.func99 Tryz.ntmps99 rfl rfl ?_)
 refine w ?_
 exact VE.done1 rfl (by congr 1; rw [Bool.eq_iff_iff, bne_iff_ne, decide_eq_true_iff]; exact not_congr ⟨fun h => UInt8.toNat_inj.1 (show X.st[k].toNat = 2 by omega), fun h => by rw [h]; rfl⟩) Ent.refl
def fromOf (X : ArrX) (x : UInt8) : Int := if x = 1 then -1 else if x = 2 then 0 else ((X.cur * X.c : Nat) : Int)
def frOf (X : ArrX) : List Int := X.st.map (fromOf X)
theorem stK : KeyT Tryz.prog 144 UInt8 (fun c => .int .u8 (c.toNat : Int)) (fun _ => True) := KeyT.u8 (by kernel_rfl)
theorem fromU : Tryz.prog.underlying 152 = some (.map 144 151) := by kernel_rfl
abbrev fnA (g : FuncId) : Value := .func (.func g) #[] #[]
def fnOf (x : UInt8) : FuncId := if x = 1 then 80 else if x = 2 then 81 else 82
def zOf (X : ArrX) (x : UInt8) : Nat := if x = 1 then X.s * X.c else if x = 2 then 0 else X.cur * X.c
theorem fnOf_hc (x : UInt8) : ∀ a w, (callFunc (fnOf x) a).run Tryz.prog w = .ok (.enter (fnOf x) a) w := by
 unfold fnOf
 split
 · intro _ _; simp
 ·
  split
  · intro _ _; simp
  · intro _ _; simp
theorem fnOf_ok (a : Nat) (X : ArrX) (hX : X.ok) (x : UInt8) : Does1 W Tryz.prog (fnOf x) [.pointer (some ⟨a, 0, none⟩)] (Row a 75 X.cells :: R) (.int .i64 (zOf X x : Nat)) (Row a 75 X.cells :: R) := by
 unfold fnOf zOf
 split
 · exact abeyond_ok a X hX
 ·
  split
  · exact anought_ok _
  · exact arebuilt_ok a X hX
theorem amark_ok (a r : Nat) (X : ArrX) (hX : X.ok) (Y : RwX) (hr : X.r = some ⟨r, 0, none⟩) (hm : Y.m = X.m) (fr : List Int) (hf : fr.length = X.m) :
  Does1 W Tryz.prog 31 [.pointer (some ⟨a, 0, none⟩)] (Row a 75 X.cells :: StO X :: RwO r Y fr R) (.tuple #[]) (Row a 75 X.cells :: StO X :: RwO r Y (frOf X) R) := by
 (refine Does.enter Tryz.func31 Tryz.ntmps31 rfl rfl ?_)
 refine w ?_
 refine zq ?_
 refine OpV.makeMapL (fun c : UInt8 => Value.int .u8 (c.toNat : Int)) (fun _ => True) rfl ?_
 intro mb
 refine w ?_
 refine zq ?_
 refine OpV.insertL (k := (1 : UInt8)) fromU stK trivial rfl rfl rfl zh ?_
 refine w ?_
 refine zq ?_
 refine OpV.insertL (k := (2 : UInt8)) fromU stK trivial rfl rfl rfl zh ?_
 refine w ?_
 refine zq ?_
 refine OpV.insertL (k := (3 : UInt8)) fromU stK trivial rfl rfl rfl zh ?_
 refine w ?_
 have hD : ∀ x : UInt8, x = 1 \/ x = 2 \/ x = 3 -> getD (putD (putD (putD [] (1 : UInt8) (fnA 80)) 2 (fnA 81)) 3 (fnA 82)) x = some (fnA (fnOf x)) := by
  rintro x (rfl | rfl | rfl) <;> rfl
 generalize putD (putD (putD [] (1 : UInt8) _) 2 _) 3 _ = D0 at *
 have hlen : (frOf X).length = X.m := by unfold frOf; rw [List.length_map]; exact hX.st
 have hst := hX.st
 refine VC.loop (α := Nat) (fun i => i <= X.m) (fun i => MapL (fun c : UInt8 => Value.int .u8 (c.toNat : Int)) (fun _ => True) mb D0 :: Row a 75 X.cells :: StO X :: RwO r Y ((frOf X).take i ++ fr.drop i) R)
  (fun i => [(0, .pointer (some ⟨a, 0, none⟩)), (2, .map (some mb)), (11, .slice (some X.so) X.st.length X.sc), (12, .int .i64 X.st.length), (13, .int .i64 i)]) (fun i => X.m - i) rfl 0 (Nat.zero_le _) (by simp only [List.take_zero, List.nil_append, List.drop_zero]; exact Ent.re) ⟨rfl, rfl, rfl, rfl, rfl, trivial⟩ ?_
 intro i hi
 have hXm := hX.m
 have hb1 : Rds W (MapL (fun c : UInt8 => Value.int .u8 (c.toNat : Int)) (fun _ => True) mb D0 :: Row a 75 X.cells :: StO X :: RwO r Y ((frOf X).take i ++ fr.drop i) R) 1 (some X.so) X.st.length (bytes X.st) := StO.rds zm
 refine w ?_
 refine zk ?_ ?_ <;> intro hc
 ·
  have hlt : i < X.st.length := by have := of_decide_eq_true hc; omega
  have hx := hX.vals _ (List.getElem_mem hlt)
  refine w ?_
  (refine VC.drawn [11] 12 [0, 1, 2, 3, 4, 5, 6, 7, 8, 9, 10, 11, 12] _ rfl (by kernel_rfl) (by kernel_rfl) Ent.re ?_)
  refine w ?_
  ((first | apply VO.pure rfl rfl | apply VQ.pure rfl rfl | apply VD.take rfl rfl rfl | (refine VD.end rfl rfl rfl ?_; apply OpV.pure)); exact PureAt.lookup1 (k := X.st[i]) fromU stK trivial (fun w => by simp; rfl) rfl rfl zm; rfl)
  rw [hD _ hx]
  refine w ?_
  refine zq ?_
  refine OpV.call rfl rfl (fnOf_hc _) (fnOf_ok (R := MapL (fun c : UInt8 => Value.int .u8 (c.toNat : Int)) (fun _ => True) mb D0 :: StO X :: RwO r Y ((frOf X).take i ++ fr.drop i) R) a X hX X.st[i]) Ent.re rfl ?_
  intro _ _
  refine ⟨Ent.re, ?_⟩
  refine w ?_
  refine VD.re 21 (.pointer (some ⟨r, 0, none⟩)) rfl (by rw [hr]) ?_
  ((refine zq ?_; refine zd rfl rfl (rmark_ok r Y ((frOf X).take i ++ fr.drop i) (by rw [List.length_append, List.length_take, List.length_drop, hlen]; omega) i (by omega) _ (zOf X X.st[i] : Nat) (by omega)) ?_); intro _ _)
  refine w ?_
  refine VE.round (i + 1) (by omega) (by omega) ⟨rfl, rfl, rfl, rfl, asV rfl (by congr 1), trivial⟩ ?_
  have hfi : i < (frOf X).length := by omega
  have hz : (if (((X.st[i].toNat : Nat) : Int) != 1) = true then ((zOf X X.st[i] : Nat) : Int) else -1) = (frOf X)[i] := by
   rw [show (frOf X)[i] = fromOf X X.st[i] by simp [frOf]]
   unfold fromOf zOf
   rcases hx with e | e | e <;> rw [e] <;> rfl
  rw [hz, List.take_succ_eq_append_getElem hfi, List.append_assoc, List.set_append_right _ _ (by rw [List.length_take]; omega), List.length_take, Nat.min_eq_left (by omega), Nat.sub_self, List.drop_eq_getElem_cons (show i < fr.length by omega), List.set_cons_zero]
  exact Ent.re
 have hge : i = X.m := by have := of_decide_eq_false hc; omega
 subst hge
 rw [List.take_of_length_le (by omega), List.drop_of_length_le (by omega), List.append_nil]
 refine w ?_
 exact VE.done1N rfl rfl Ent.re
def ArrX.say (X : ArrX) (k : Int) : SuperD := { X.sup with role := k }
theorem atell_ok {D : BayD} {sz : Nat -> Nat} {n c0 : Nat} (a : Nat) (X : ArrX) (hq : Qt D sz n c0) (hc0 : c0 <= 900000000) (k : Nat) (hk : k < n) (hs : 0 < sz k) (hfit : (X.say k).fit) (henc : (X.say k).enc.1 = 0) (h128 : (X.say k).enc.2.length = 128) :
  Does W Tryz.prog 96 [.pointer (some ⟨a, 0, none⟩), .int .i64 k] (Row a 75 X.cells :: StO X :: BayR X.b D :: R) (β := BayD) (fun D' => Qt D' sz n (c0 + 1)) (fun _ => .int .u16 0) (fun D' => Row a 75 X.cells :: StO X :: BayR X.b D' :: R) := by
 (refine Does.enter Tryz.func96 Tryz.ntmps96 rfl rfl ?_)
 refine w ?_
 refine zq ?_; refine OpV.allocS sb_67 rfl ?_; intro ns
 refine w ?_
 refine zq ?_
 refine OpV.stA (vs := X.sup.cells) tab_ok rfl rfl rfl rfl (super_one _) zh (by simp) ?_
 refine w ?_
 (refine zq ?_; refine zy rfl rfl (sencode_ok (X.say k) hfit (StO.rds (X := X) zm)) ?_)
 intro x _
 rw [henc, h128]
 refine w ?_
 have hO : OwnB x (X.say k).enc.2 = Sl.Own 5 1 (.slice x.1 128 x.2) 128 (bytes (X.say k).enc.2) := by unfold OwnB; rw [h128]
 rw [hO]
 refine VO.know (fun w hw => hw.ownNone (.head _)) ?_
 intro hno
 have hw0 := hq.write_ok (k := k) (a := 0) hk hs h128
 have hw1 := hq.write k ((0 : Nat) : Int) (X.say k).enc.2
 have hwr := baywrite_ok (W := W) (cap := x.2) (R := Sl.Own 5 1 (.slice x.1 128 x.2) 128 (bytes (X.say k).enc.2) :: Row a 75 X.cells :: StO X :: R) X.b D k ((0 : Nat) : Int) (l := (X.say k).enc.2) (ao := x.1) (Nat.le_trans (dv_cap hq.capd k) (by omega)) (.inr (by rw [h128]; exact Rds.own (bytes_one _) zm (by simp [h128]) hno))
 rw [hw0, h128] at hwr
 generalize (D.write k ((0 : Nat) : Int) (X.say k).enc.2).2 = D2 at *
 ((refine zq ?_; refine zd rfl rfl (hwr) ?_); intro _ _)
 refine w ?_
 exact VE.done D2 rfl hw1 rfl Ent.re
structure Loudly (X : ArrX) (sz : Nat -> Nat) (n : Nat) : Prop where
  ok : X.ok
  n : n = X.m + 1
  ev : X.ev < 4611686018427387904
  fit : ∀ k : Nat, k <= X.m -> (ArrX.say { X with ev := X.ev + 1 } k).fit
  enc : ∀ k : Nat, k <= X.m -> (ArrX.say { X with ev := X.ev + 1 } k).enc.1 = 0
  len : ∀ k : Nat, k <= X.m -> (ArrX.say { X with ev := X.ev + 1 } k).enc.2.length = 128
  jr : 0 < sz X.m
  is : ∀ i (h : i < X.st.length), X.st[i] ≠ 2 -> 0 < sz i
theorem stFn : SliceT Tryz.prog 193 192 .nilFunc 1 8 := ⟨by kernel_rfl, by kernel_rfl, rfl, by simp [Value.cells, Value.oneCell']⟩
abbrev tellV (a : Nat) : Value := .func (.func 96) #[.pointer (some ⟨a, 0, none⟩)] #[]
abbrev flushV (b : Nat) : Value := .func (.func 97) #[.pointer (some ⟨b, 0, none⟩)] #[]
abbrev ArrX.next (X : ArrX) : ArrX := { X with ev := X.ev + 1 }
abbrev ArrX.sure (X : ArrX) : ArrX := { X with ev := X.ev + 1, sf := X.ev + 1 }
abbrev ArrX.told (X : ArrX) : ArrX := { X with ev := X.ev + 1, sf := X.ev + 1, loud := if X.lost = true then false else X.loud }
theorem announce_ok {D : BayD} {sz : Nat -> Nat} {n c0 : Nat} (a r : Nat) (X : ArrX) (Y : RwX) (hL : Loudly X sz n) (hro : X.ro = false) (hr : X.r = some ⟨r, 0, none⟩) (hm : Y.m = X.m) (fr : List Int) (hf : fr.length = X.m) (hq : Qt D sz n c0) (hc0 : c0 <= 1000000) :
  Does W Tryz.prog 39 [.pointer (some ⟨a, 0, none⟩)] (Row a 75 X.cells :: StO X :: RwO r Y fr (BayR X.b D :: R)) (β := BayD) (fun D' => Qt D' sz n (c0 + 40)) (fun _ => .tuple #[]) (fun D' => Row a 75 X.told.cells :: StO X :: RwO r Y (frOf X) (BayR X.b D' :: R)) := by
 have hX := hL.ok
 have hev := hL.ev
 have hXm := hX.m
 have hst := hX.st
 (refine Does.enter Tryz.func39 Tryz.ntmps39 rfl rfl ?_)
 refine w ?_
 rw [hro]
 refine w ?_
 (refine VC.condFe rfl rfl (decide_eq_false (by omega)) ?_)
 refine w ?_
 have e1 : X.cells.set (0 + 1 + 1) (.int .u64 (IntKind.u64.wrap ((X.ev : Int) + 1))) = X.next.cells := by
  rw [show ((X.ev : Int) + 1) = ((X.ev + 1 : Nat) : Int) by omega, wrap64_of (by omega)]; rfl
 rw [e1, hro]
 have hn := hL.n
 have htell : ∀ (R : List SProp) (D' : BayD) (c : Nat), Qt D' sz n c -> c <= 900000000 -> ∀ k : Nat, k <= X.m -> 0 < sz k -> Does W Tryz.prog 96 [.pointer (some ⟨a, 0, none⟩), .int .i64 k] (Row a 75 X.next.cells :: StO X :: BayR X.b D' :: R) (β := BayD) (fun D2 => Qt D2 sz n (c + 1)) (fun _ => .int .u16 0) (fun D2 => Row a 75 X.next.cells :: StO X :: BayR X.b D2 :: R) :=
  fun R D' c hq' hc k hk hs => atell_ok a X.next hq' hc k (by omega) hs (hL.fit k hk) (hL.enc k hk) (hL.len k hk)
 have hflush : ∀ (R : List SProp) (D' : BayD) (c : Nat), Qt D' sz n c -> ∀ k : Nat, k <= X.m -> 0 < sz k -> Does W Tryz.prog 97 [.pointer (some ⟨X.b, 0, none⟩), .int .i64 k] (BayR X.b D' :: R) (β := BayD) (fun D2 => Qt D2 sz n c) (fun _ => .int .u16 0) (fun D2 => BayR X.b D2 :: R) := fun R D' c hq' k hk hs => by
  have h := bayflush_ok (W := W) (R := R) X.b D' (k : Int)
  rw [hq'.flush_ok (k := k) (by omega) hs] at h
  exact Does.mono h (fun _ => (D'.flush (k : Int)).2) (fun _ _ => hq'.flush _) (fun _ _ => rfl) (fun _ _ => Ent.refl)
 have hfns : ∀ u ∈ [tellV a, flushV X.b], u.oneCell' = true := by simp [Value.oneCell']
 have hdo : ∀ i, i < 2 -> ∃ g bnd, [tellV a, flushV X.b][i]? = some (.func (.func g) bnd #[]) /\ (∀ a w, (callFunc g a).run Tryz.prog w = .ok (.enter g a) w) /\
   ∀ (R : List SProp) (D' : BayD) (c : Nat), Qt D' sz n c -> c <= 900000000 -> ∀ k : Nat, k <= X.m -> 0 < sz k -> Does W Tryz.prog g (bnd.toList ++ [.int .i64 k] ++ []) (Row a 75 X.next.cells :: StO X :: BayR X.b D' :: R) (β := BayD) (fun D2 => Qt D2 sz n (c + 1)) (fun _ => .int .u16 0) (fun D2 => Row a 75 X.next.cells :: StO X :: BayR X.b D2 :: R) := fun i hi => by
  rcases (show i = 0 \/ i = 1 by omega) with rfl | rfl
  · exact ⟨_, _, rfl, fun _ _ => by simp, fun R D' c hq' hc k hk hs => htell R D' c hq' hc k hk hs⟩
  · exact ⟨_, _, rfl, fun _ _ => by simp, fun R D' c hq' hc k hk hs => DoesE Ent.re (Does.mono (hflush (Row a 75 X.next.cells :: StO X :: R) D' c hq' k hk hs) (fun y => y) (fun _ h => h.mono (Nat.le_succ c)) (fun _ _ => rfl) (fun _ _ => Ent.re))⟩
 clear htell hflush
 refine w ?_
 refine VO.pure rfl rfl (PureAt.makeFuncB rfl) rfl ?_
 refine w ?_
 refine VO.pure rfl rfl (PureAt.makeFuncB rfl) rfl ?_
 refine w ?_
 (refine zq ?_; refine OpV.buildSlice1 stFn rfl rfl (by first | (simp; done) | simp [Value.oneCell']) (by decide) rfl ?_; intro nb)
 refine w ?_
 refine VC.loop (α := Nat × BayD) (fun y => y.1 <= 2 /\ Qt y.2 sz n (c0 + y.1)) (fun y => Row nb 192 [tellV a, flushV X.b] :: Row a 75 X.next.cells :: StO X :: RwO r Y fr (BayR X.b y.2 :: R))
  (fun y => [(0, .pointer (some ⟨a, 0, none⟩)), (51, .slice (some ⟨nb, 0, none⟩) 2 2), (52, .int .i64 2), (53, .int .i64 y.1)]) (fun y => 2 - y.1) rfl (0, D) ⟨Nat.zero_le _, hq⟩ Ent.re ⟨rfl, rfl, rfl, rfl, trivial⟩ ?_
 rintro ⟨i, D'⟩ ⟨hi, hq'⟩
 dsimp only at hi hq' ⊢
 have hr1 : Rds W (Row nb 192 [tellV a, flushV X.b] :: Row a 75 X.next.cells :: StO X :: RwO r Y fr (BayR X.b D' :: R)) 1 (some ⟨nb, 0, none⟩) 2 [tellV a, flushV X.b] := Rds.row hfns (.head _) rfl
 refine w ?_
 refine zk ?_ ?_ <;> intro hc
 ·
  have hlt : i < 2 := by have := of_decide_eq_true hc; omega
  clear hc
  obtain ⟨g, bnd, hg, hgc, hspec⟩ := hdo i hlt
  have hv : [tellV a, flushV X.b][i]'(by simpa using hlt) = .func (.func g) bnd #[] := Option.some.inj ((List.getElem?_eq_getElem _).symm.trans hg)
  refine w ?_
  rw [hv]
  refine w ?_
  ((refine zq ?_; refine zd rfl rfl (ajournal_ok a X.next) ?_); intro _ _)
  refine w ?_
  refine zq ?_
  refine OpV.callB rfl rfl hgc (hspec _ D' _ hq' (by omega) X.m (Nat.le_refl _) hL.jr) Ent.re rfl ?_
  intro D2 hq2
  refine w ?_
  exact VE.round (i + 1, D2) ⟨hlt, hq2⟩ (by dsimp only; omega) ⟨rfl, rfl, rfl, asV rfl (by congr 1), trivial⟩ Ent.re
 clear hc
 refine w ?_
 refine VO.pure rfl rfl (PureAt.makeFuncB rfl) rfl ?_
 refine w ?_
 refine VO.pure rfl rfl (PureAt.makeFuncB rfl) rfl ?_
 refine w ?_
 refine VO.ent (H' := Row a 75 X.next.cells :: StO X :: RwO r Y fr (BayR X.b D' :: R)) Ent.re ?_
 refine zq ?_
 refine OpV.buildSlice1 stFn rfl rfl (by first | (simp; done) | simp [Value.oneCell']) (by decide) rfl ?_
 intro nc
 refine w ?_
 refine VC.loop (α := Nat × BayD) (fun y => y.1 <= 2 /\ Qt y.2 sz n (c0 + 2 + y.1 * 16)) (fun y => Row nc 192 [tellV a, flushV X.b] :: Row a 75 X.next.cells :: StO X :: RwO r Y fr (BayR X.b y.2 :: R))
  (fun y => [(0, .pointer (some ⟨a, 0, none⟩)), (77, .slice (some ⟨nc, 0, none⟩) 2 2), (78, .int .i64 2), (79, .int .i64 y.1)]) (fun y => 2 - y.1) rfl (0, D') ⟨Nat.zero_le _, hq'.mono (by omega)⟩ Ent.re ⟨rfl, rfl, rfl, rfl, trivial⟩ ?_
 clear hi hq' hr1
 rintro ⟨j, E⟩ ⟨hj, hqE⟩
 dsimp only at hj hqE ⊢
 have hr1 : Rds W (Row nc 192 [tellV a, flushV X.b] :: Row a 75 X.next.cells :: StO X :: RwO r Y fr (BayR X.b E :: R)) 1 (some ⟨nc, 0, none⟩) 2 [tellV a, flushV X.b] := Rds.row hfns (.head _) rfl
 refine w ?_
 refine zk ?_ ?_ <;> intro hc
 ·
  have hlt : j < 2 := by have := of_decide_eq_true hc; omega
  clear hc
  obtain ⟨g, bnd, hg, hgc, hspec⟩ := hdo j hlt
  have hv : [tellV a, flushV X.b][j]'(by simpa using hlt) = .func (.func g) bnd #[] := Option.some.inj ((List.getElem?_eq_getElem _).symm.trans hg)
  refine w ?_
  rw [hv]
  refine w ?_
  refine VC.loop (α := Nat × BayD) (fun y => y.1 <= X.m /\ Qt y.2 sz n (c0 + 2 + j * 16 + y.1)) (fun y => Row nc 192 [tellV a, flushV X.b] :: Row a 75 X.next.cells :: StO X :: RwO r Y fr (BayR X.b y.2 :: R))
   (fun y => [(0, .pointer (some ⟨a, 0, none⟩)), (6, .func (.func g) bnd #[]), (77, .slice (some ⟨nc, 0, none⟩) 2 2), (78, .int .i64 2), (79, .int .i64 j), (88, .int .i64 X.m), (89, .int .i64 y.1)]) (fun y => X.m - y.1) rfl (0, E) ⟨Nat.zero_le _, hqE⟩ Ent.re ⟨rfl, rfl, rfl, rfl, rfl, rfl, rfl, trivial⟩ ?_
  clear hqE hr1
  rintro ⟨k, E⟩ ⟨hk, hqE⟩
  dsimp only at hk hqE ⊢
  refine w ?_
  refine zk ?_ ?_ <;> intro hc
  ·
   have hlk : k < X.m := by have := of_decide_eq_true hc; omega
   clear hc
   have hks : k < X.st.length := by omega
   refine w ?_
   ((refine zq ?_; refine zd rfl rfl (atakes_ok a X.next k hks) ?_); intro _ _)
   by_cases h2 : X.st[k] ≠ 2
   ·
    rw [decide_eq_true (show X.next.st[k] ≠ 2 from h2)]
    refine w ?_
    refine zq ?_
    refine OpV.callB rfl rfl hgc (hspec _ E _ hqE (by omega) k (by omega) (hL.is k hks h2)) Ent.re rfl ?_
    intro D2 hq2
    refine w ?_
    exact VE.round (k + 1, D2) ⟨hlk, hq2⟩ (by dsimp only; omega) ⟨rfl, rfl, rfl, rfl, rfl, rfl, asV rfl (by congr 1), trivial⟩ Ent.re
   ·
    rw [decide_eq_false (show ¬ X.next.st[k] ≠ 2 from h2)]
    refine w ?_
    exact VE.round (k + 1, E) ⟨hlk, hqE.mono (by dsimp only; omega)⟩ (by dsimp only; omega) ⟨rfl, rfl, rfl, rfl, rfl, rfl, asV rfl (by congr 1), trivial⟩ Ent.re
  clear hc
  refine w ?_
  exact VE.round (j + 1, E) ⟨hlt, hqE.mono (by dsimp only; omega)⟩ (by dsimp only; omega) ⟨rfl, rfl, rfl, asV rfl (by congr 1), trivial⟩ Ent.re
 clear hc
 refine w ?_
 have e2 : X.next.cells.set (0 + 1 + 2) (.int .u64 X.next.ev) = X.sure.cells := rfl
 rw [e2]
 have hmark : ∀ (R : List SProp) (Z : ArrX), Z.st = X.st -> Z.so = X.so -> Z.sc = X.sc -> Z.m = X.m -> Z.c = X.c -> Z.s = X.s -> Z.cur = X.cur -> Z.r = X.r -> Does1 W Tryz.prog 31 [.pointer (some ⟨a, 0, none⟩)] (Row a 75 Z.cells :: StO X :: RwO r Y fr R) (.tuple #[]) (Row a 75 Z.cells :: StO X :: RwO r Y (frOf X) R) := fun R Z h1 h2 h3 h4 h5 h6 h7 h8 => by
  have h := amark_ok (W := W) (R := R) a r Z ⟨h4 ▸ hX.m, h5 ▸ hX.c, h6 ▸ hX.s, by rw [h1, h4]; exact hX.st, by rw [h1]; exact hX.vals, by rw [h7]; exact hX.cur⟩ Y (h8.trans hr) (hm.trans h4.symm) fr (hf.trans h4.symm)
  have e1 : StO Z = StO X := by unfold StO; rw [h1, h2, h3]
  have e2 : frOf Z = frOf X := by unfold frOf; rw [h1]; apply List.map_congr_left; intro x _; unfold fromOf; rw [h7, h5]
  rw [e1, e2] at h
  exact h
 have hfin : Qt E sz n (c0 + 40) := hqE.mono (by omega)
 cases hlo : X.lost
 ·
  refine w ?_
  have e3 : X.sure = X.told := by simp only [ArrX.told, ArrX.sure, hlo, Bool.false_eq_true, if_false]
  rw [e3]
  ((refine zq ?_; refine zd rfl rfl (hmark _ X.told rfl rfl rfl rfl rfl rfl rfl rfl) ?_); intro _ _)
  refine w ?_
  exact VE.doneN E rfl hfin rfl Ent.re
 ·
  refine w ?_
  have e3 : X.sure.cells.set (0 + 17) (.bool false) = X.told.cells := by simp [ArrX.told, ArrX.sure, ArrX.cells, hlo]
  rw [e3]
  ((refine zq ?_; refine zd rfl rfl (hmark _ X.told rfl rfl rfl rfl rfl rfl rfl rfl) ?_); intro _ _)
  refine w ?_
  exact VE.doneN E rfl hfin rfl Ent.re
end Go.Proofs.YtjebagmjcdaegaaGreat
/-! Text Gj. -/
namespace Go.Sl
open Go Go.RowKit
section
variable {W : World} {P : Program} {n : Nat} {H : List SProp} {f : Fr} {dst : Option Tmp} {ty_ : TypeId} {pos : String} {after : Array Edge} {guard : Option (Nat × Bool)}
theorem PureAt.assertOk {x : Operand} {xt t : TypeId} {v : Value} {dsc : TypeDesc} (hu : P.underlying t = some dsc) (hn : ∀ ms, dsc ≠ .interface ms) (hx : evalX f x = some (.iface t v)) :
  PureAt W P n H f { dst, op := .typeAssert x xt t true, type := ty_, pos, after, guard } (.tuple #[v, .bool true]) := by
 unfold PureAt
 intro tm w hk hw
 cases dsc <;> simp_all [execOp, Instr.typeAssert, hk.eval hx, run_underlying hu]
end
end Go.Sl
namespace Go.Proofs.YtjebagmjcdaegaaGreat
open Go.RowKit Go.Sl
attribute [local irreducible] Sl.Own
variable {W : World} {R : List SProp}
abbrev stopI (e : Nat) : Value := .iface 187 (.agg #[.int .u16 e])
theorem guard_ret {ne : Nat} {u : Value} :
  DoesD W Tryz.prog 37 [.pointer (some ⟨ne, 0, none⟩)] (Row ne 25 [u] :: R) .returning .returning (Row ne 25 [u] :: R) := by
 refine DoesD.enterS Tryz.func37 Tryz.ntmps37 rfl rfl rfl rfl rfl rfl rfl (.inr ⟨rfl, rfl, rfl⟩) ?_
 refine w ?_
 refine VO.pure rfl rfl (PureAt.ifaceNil anyU rfl rfl rfl) rfl ?_
 refine w ?_
 exact VE.result (.inr rfl) rfl fun w hw => ⟨⟨_, rfl⟩, hw⟩
theorem guard_pan {ne : Nat} {u : Value} (e : Nat) :
  DoesD W Tryz.prog 37 [.pointer (some ⟨ne, 0, none⟩)] (Row ne 25 [u] :: R) (.panicking (pan (stopI e))) (.panicking (panR (stopI e))) (Row ne 25 [.int .u16 e] :: R) := by
 refine DoesD.enterS Tryz.func37 Tryz.ntmps37 rfl rfl rfl rfl rfl rfl rfl (.inl ⟨_, rfl, rfl, rfl⟩) ?_
 refine w ?_
 refine VO.pure rfl rfl (PureAt.ifaceHeld anyU rfl rfl rfl) rfl ?_
 obtain ⟨dsc, hu, hn⟩ : ∃ k, Tryz.prog.underlying 187 = some k /\ ∀ ms, k ≠ .interface ms := ⟨_, rfl, fun ms h => by cases h⟩
 refine w ?_
 refine VO.pure rfl rfl (PureAt.assertOk hu hn rfl) rfl ?_
 refine w ?_
 refine zq ?_; refine OpV.allocS sb_187 rfl ?_; intro ns
 refine w ?_
 refine zq ?_
 refine OpV.stA (vs := [.int .u16 e]) tab_ok rfl rfl rfl rfl (by simp [Value.oneCell']) zh (by simp) ?_
 refine w ?_
 exact VE.result (.inr rfl) rfl fun w hw => ⟨⟨_, rfl⟩, (Ent.re : Ent W (_ :: Row ne 25 [.int .u16 e] :: R) (Row ne 25 [.int .u16 e] :: R)) w hw⟩
theorem aalive_ok (a : Nat) (X : ArrX) : Does1 W Tryz.prog 48 [.pointer (some ⟨a, 0, none⟩)] (Row a 75 X.cells :: R) (.tuple #[]) (Row a 75 X.cells :: R) := by
 (refine Does.enter Tryz.func48 Tryz.ntmps48 rfl rfl ?_)
 refine w ?_
 exact VE.done1N rfl rfl Ent.refl
theorem aagain_ok {H : List SProp} {g : FuncId} {bnd cap : Array Value} {β : Type} {A : β -> Prop} {G : β -> List SProp} (a : Nat) (hc : ∀ a w, (callFunc g a).run Tryz.prog w = .ok (.enter g a) w) (spec : Does W Tryz.prog g (bnd.toList ++ [] ++ cap.toList) H A (fun _ => .agg noT.toArray) G) :
  Does W Tryz.prog 49 [.pointer (some ⟨a, 0, none⟩), .func (.func g) bnd cap] H A (fun _ => .bool true) G := by
 (refine Does.enter Tryz.func49 Tryz.ntmps49 rfl rfl ?_)
 refine w ?_
 refine VC.once rfl ?_
 refine w ?_
 refine zq ?_
 refine OpV.callB rfl rfl hc spec Ent.refl rfl ?_
 intro y hy
 refine w ?_
 refine zq ?_; refine OpV.allocS sb_97 rfl ?_; intro nt
 refine w ?_
 refine zq ?_
 refine OpV.stA (vs := noT) tab_ok rfl rfl rfl rfl (by simp [Value.oneCell']) zh (by simp) ?_
 refine w ?_
 exact VE.done y rfl hy rfl (Ent.drop Ent.refl)
theorem part_ok {H : List SProp} {g : FuncId} {bnd cap : Array Value} {β : Type} {A : β -> Prop} {G : β -> List SProp} (a : Nat) (z : Int) (hc : ∀ a w, (callFunc g a).run Tryz.prog w = .ok (.enter g a) w) (spec : Does W Tryz.prog g (bnd.toList ++ [] ++ cap.toList) H A (fun _ => .agg #[.int .i64 z, .int .u16 0]) G) :
  Does W Tryz.prog 40 [.pointer (some ⟨a, 0, none⟩), .func (.func g) bnd cap] H A (fun _ => .tuple #[]) G := by
 (refine Does.enter Tryz.func40 Tryz.ntmps40 rfl rfl ?_)
 refine w ?_
 refine zq ?_
 refine OpV.callB rfl rfl hc spec Ent.refl rfl ?_
 intro y hy
 refine w ?_
 refine zq ?_; refine OpV.allocS sb_97 rfl ?_; intro nt
 refine w ?_
 refine zq ?_
 refine OpV.stA (vs := [.int .i64 z, .int .u16 0]) tab_ok rfl rfl rfl rfl (by simp [Value.oneCell']) zh (by simp) ?_
 refine w ?_
 refine VC.once rfl ?_
 refine w ?_
 exact VE.doneN y rfl hy rfl (Ent.drop Ent.refl)
theorem agone_ok : Does1 W Tryz.prog 100 [.int .u16 80] R (.bool false) R := by
 (refine Does.enter Tryz.func100 Tryz.ntmps100 rfl rfl ?_)
 refine w ?_
 exact VE.done1 rfl rfl Ent.refl
theorem part_dies {H G : List SProp} {g : FuncId} {bnd cap : Array Value} (a : Nat) (X : ArrX) (hc : ∀ a w, (callFunc g a).run Tryz.prog w = .ok (.enter g a) w) (spec : Does1 W Tryz.prog g (bnd.toList ++ [] ++ cap.toList) H (.agg #[.int .i64 X.m, .int .u16 80]) (Row a 75 X.cells :: G)) :
  Dies W Tryz.prog 40 [.pointer (some ⟨a, 0, none⟩), .func (.func g) bnd cap] H (stopI 80) (Row a 75 X.cells :: G) := by
 refine Dies.enter Tryz.func40 Tryz.ntmps40 rfl rfl ?_
 refine w ?_
 refine zq ?_
 refine OpV.callB rfl rfl hc spec Ent.refl rfl ?_
 intro _ _
 refine w ?_
 refine zq ?_; refine OpV.allocS sb_97 rfl ?_; intro nt
 refine w ?_
 refine zq ?_
 refine OpV.stA (vs := [.int .i64 X.m, .int .u16 80]) tab_ok rfl rfl rfl rfl (by simp [Value.oneCell']) zh (by simp) ?_
 refine w ?_
 refine VC.once rfl ?_
 refine w ?_
 (refine VC.drawn [3] 4 [0, 1, 2, 3, 4, 5, 6, 7, 8, 9, 10, 11, 12, 13, 14, 15] _ rfl (by kernel_rfl) (by kernel_rfl) Ent.re ?_)
 refine w ?_
 ((refine zq ?_; refine zd rfl rfl (ajournal_ok a X) ?_); intro _ _)
 refine w ?_
 (first | refine VO.gT rfl rfl rfl (by simp) ?_ | refine VD.gT rfl rfl rfl (by simp) ?_)
 refine w ?_
 (refine zq ?_; refine zy rfl rfl (agone_ok) ?_)
 intro _ _
 obtain ⟨dsc, hu, hn⟩ : ∃ k, Tryz.prog.underlying 187 = some k /\ ∀ ms, k ≠ .interface ms := ⟨_, rfl, fun ms h => by cases h⟩
 refine w ?_
 (apply VO.pure rfl rfl; apply PureAt.build sb_187 rfl; (simp [buildX, setL, Value.cells]; rfl); rfl)
 ((first | apply VO.pure rfl rfl | apply VQ.pure rfl rfl | apply VD.take rfl rfl rfl | (refine VD.end rfl rfl rfl ?_; apply OpV.pure)); exact PureAt.makeIface hu hn rfl; rfl)
 refine zq ?_
 refine OpV.panic rfl ?_
 (repeat (first | refine VE.passPanic ?_ | refine VE.blockPanic ?_ | refine VE.loopPanic ?_))
 exact VE.dies Ent.re
abbrev AsmO (bx a : Nat) (X : ArrX) (R : List SProp) : List SProp := Row bx 29 [.pointer (some ⟨a, 0, none⟩)] :: Row a 75 X.cells :: R
theorem asm1_ok {D : BayD} {sz : Nat -> Nat} {n c0 : Nat} {ao : Option Addr} {cap : Nat} (bx bp a r : Nat) (X : ArrX) (hr : X.r = some ⟨r, 0, none⟩) (Y : RwX) (hY : Y.ok) (fr : List Int) (hF : FineX Y fr sz n) (hq : Qt D sz n c0) (l : List PatE) (hrd : RdPats W R ao l) (hin : ∀ p ∈ l, p.Of Y) (hl : l.length <= 800000) (hc0 : c0 <= 1000000) :
  Does W Tryz.prog 41 [.pointer (some ⟨bx, 0, none⟩), .pointer (some ⟨bp, 0, none⟩)] (AsmO bx a X (Row bp 84 [.slice ao l.length cap] :: RwO r Y fr (BayR Y.b D :: R))) (β := BayD) (fun D' => Qt D' sz n (c0 + l.length)) (fun _ => .agg noT.toArray)
   (fun D' => AsmO bx a X (Row bp 84 [.slice ao l.length cap] :: RwO r Y fr (BayR Y.b D' :: R))) := by
 have hpl := fun nt : Nat => rplace_ok (W := W) (R := Row nt 97 noT :: AsmO bx a X (Row bp 84 [.slice ao l.length cap] :: R)) (cap := cap) r Y hY fr hF hq l (hrd.ent (Ent.drop (Ent.drop (Ent.drop (Ent.drop Ent.refl))))) hin hl hc0
 (refine Does.enter Tryz.func41 Tryz.ntmps41 rfl rfl ?_)
 refine w ?_
 refine zq ?_; refine OpV.allocS sb_97 rfl ?_; intro nt
 refine w ?_
 (refine VC.drawn [] 5 [0, 1, 2, 3, 4, 5, 6] _ rfl (by kernel_rfl) (by kernel_rfl) Ent.re ?_)
 refine w ?_
 refine VD.re 6 (.pointer (some ⟨r, 0, none⟩)) rfl (by rw [hr]) ?_
 refine w ?_
 (refine zq ?_; refine zd rfl rfl (hpl nt) ?_)
 intro D' hq'
 refine w ?_
 refine zq ?_
 refine OpV.stA (vs := noT) tab_ok rfl rfl rfl rfl (by simp [Value.oneCell']) zh (by simp) ?_
 refine w ?_
 exact VE.results1 (.inl rfl) D' rfl (ResIs.agg (vs := noT) tab_ok rfl rfl zm rfl rfl) hq' rfl Ent.re
theorem asm2_ok {D : BayD} {c0 : Nat} (bx bw a wp : Nat) (X : ArrX) (v : WalD) (hv : v.ok) (hcp : D.capd c0) (hc0 : c0 <= 999990000) :
  Does1 W Tryz.prog 44 [.pointer (some ⟨bx, 0, none⟩), .pointer (some ⟨bw, 0, none⟩)] (AsmO bx a X (Row bw 73 [.pointer (some ⟨wp, 0, none⟩)] :: WalR wp X.b v :: BayR X.b D :: R)) (.agg #[.int .i64 X.m, .int .u16 (wEmpty (v, D) (v.epoch + 1)).1])
   (AsmO bx a X (Row bw 73 [.pointer (some ⟨wp, 0, none⟩)] :: WalR wp X.b (wEmpty (v, D) (v.epoch + 1)).2.1 :: BayR X.b (wEmpty (v, D) (v.epoch + 1)).2.2 :: R)) := by
 (refine Does.enter Tryz.func44 Tryz.ntmps44 rfl rfl ?_)
 refine w ?_
 refine zq ?_; refine OpV.allocS sb_97 rfl ?_; intro nt
 refine w ?_
 (refine VC.drawn [1] 3 [0, 2, 1, 3, 4, 5] _ rfl (by kernel_rfl) (by kernel_rfl) Ent.re ?_)
 refine w ?_
 ((refine zq ?_; refine zd rfl rfl (ajournal_ok a X) ?_); intro _ _)
 refine w ?_
 ((refine zq ?_; refine zd rfl rfl (walrenew_ok wp X.b v hv hcp hc0) ?_); intro _ _)
 generalize wEmpty (v, D) (v.epoch + 1) = q at *
 refine w ?_
 ((first | apply VO.pure rfl rfl | apply VQ.pure rfl rfl | apply VD.take rfl rfl rfl | (refine VD.end rfl rfl rfl ?_; apply OpV.pure)); exact PureAt.build sb_97 rfl (show buildX _ _ _ = some [.int .i64 X.m, .int .u16 q.1] by simp [buildX, setL, Value.cells]); rfl)
 refine zq ?_
 refine OpV.stA (vs := [.int .i64 X.m, .int .u16 q.1]) tab_ok rfl rfl rfl rfl (by simp [Value.oneCell']) zh (by simp) ?_
 refine w ?_
 exact VE.results1 (.inl rfl) () rfl (ResIs.agg (vs := [.int .i64 X.m, .int .u16 q.1]) tab_ok rfl rfl zm rfl rfl) trivial rfl Ent.re
theorem aread2_ok {D : BayD} {sz : Nat -> Nat} {n c0 : Nat} {u : Value} (bx bk bi bb a r : Nat) (X : ArrX) (hr : X.r = some ⟨r, 0, none⟩) (Y : RwX) (hY : Y.ok) (fr : List Int) (hF : FineX Y fr sz n) (hq : Qt D sz n c0) (k i : Nat) (hk : k + i < Y.s * Y.c * (Y.m - 1)) :
  Does W Tryz.prog 50 [.pointer (some ⟨bx, 0, none⟩), .pointer (some ⟨bk, 0, none⟩), .pointer (some ⟨bi, 0, none⟩), .pointer (some ⟨bb, 0, none⟩)] (AsmO bx a X (Row bk 3 [.int .i64 k] :: Row bi 3 [.int .i64 i] :: Row bb 22 [u] :: RwO r Y fr (BayR Y.b D :: R))) (β := SecY) (fun y => y.l.length = 128 /\ Qt y.D sz n c0) (fun _ => .agg noT.toArray)
   (fun y => RdO y (AsmO bx a X (Row bk 3 [.int .i64 k] :: Row bi 3 [.int .i64 i] :: Row bb 22 [.slice y.x.1 128 y.x.2] :: RwO r Y fr (BayR Y.b y.D :: R)))) := by
 have h4 : Y.s * Y.c <= 256 * 16 := Nat.mul_le_mul hY.s.2 hY.c.2
 have h5 : Y.s * Y.c * (Y.m - 1) <= 4096 * 15 := Nat.mul_le_mul (by omega) (by have := hY.m; omega)
 (refine Does.enter Tryz.func50 Tryz.ntmps50 rfl rfl ?_)
 refine w ?_
 refine zq ?_; refine OpV.allocS sb_97 rfl ?_; intro nt
 refine w ?_
 (refine VC.drawn [7, 11] 12 [0, 1, 2, 3, 4, 5, 6, 7, 8, 9, 10, 11, 12] (Row nt 97 noT :: AsmO bx a X (Row bk 3 [.int .i64 k] :: Row bi 3 [.int .i64 i] :: RwO r Y fr R)) rfl (by kernel_rfl) (by kernel_rfl) Ent.re ?_)
 refine w ?_
 refine VD.re 9 (.pointer (some ⟨r, 0, none⟩)) rfl (by rw [hr]) ?_
 refine VD.re 12 (.int .i64 ((k + i : Nat) : Int)) rfl (by congr 1) ?_
 (refine zq ?_; refine zd rfl rfl (rread_ok r Y hY fr hF hq (k + i) hk) ?_)
 rintro ⟨l, x, D'⟩ ⟨h1, h2⟩
 dsimp only at h1 h2 ⊢
 refine ⟨Ent.re, ?_⟩
 refine w ?_
 refine zq ?_
 refine OpV.stA (vs := noT) tab_ok rfl rfl rfl rfl (by simp [Value.oneCell']) zh (by simp) ?_
 refine w ?_
 refine zq ?_
 refine OpV.stA (vs := noT) tab_ok rfl rfl rfl rfl (by simp [Value.oneCell']) zh (by simp) ?_
 refine w ?_
 exact VE.results1 (.inl rfl) (SecY.mk l x D') rfl (ResIs.agg (vs := noT) tab_ok rfl rfl zm rfl rfl) ⟨h1, h2⟩ rfl Ent.re
theorem ablocks_ok (a : Nat) (X : ArrX) (hX : X.ok) : Does1 W Tryz.prog 8 [.pointer (some ⟨a, 0, none⟩)] (Row a 75 X.cells :: R) (.int .i64 ((X.s * X.c * (X.m - 1) : Nat) : Int)) (Row a 75 X.cells :: R) := by
 (refine Does.enter Tryz.func8 Tryz.ntmps8 rfl rfl ?_)
 refine w ?_
 (refine zq ?_; refine zy rfl rfl (gblocks_ok hX.m hX.c hX.s) ?_)
 intro _ _
 refine w ?_
 exact VE.done1 rfl rfl Ent.refl
theorem aread1_ok {u : FrameMode} (ne no : Nat) : DoesD W Tryz.prog 47 [.pointer (some ⟨ne, 0, none⟩), .pointer (some ⟨no, 0, none⟩)] (Row ne 25 [.int .u16 0] :: R) u u (Row ne 25 [.int .u16 0] :: R) := by
 refine DoesD.enterP Tryz.func47 Tryz.ntmps47 rfl rfl ?_
 refine w ?_
 exact VE.result (.inr rfl) rfl fun w hw => ⟨⟨_, rfl⟩, hw⟩
theorem aread_ok {D : BayD} {sz : Nat -> Nat} {n c0 : Nat} (a r : Nat) (X : ArrX) (hX : X.ok) (hr : X.r = some ⟨r, 0, none⟩) (Y : RwX) (hY : Y.ok) (hm : Y.m = X.m) (hc : Y.c = X.c) (hs : Y.s = X.s) (fr : List Int) (hF : FineX Y fr sz n) (hq : Qt D sz n c0) (k : Nat) (hk : k < X.s * X.c * (X.m - 1)) :
  Does W Tryz.prog 9 [.pointer (some ⟨a, 0, none⟩), .int .i64 k, .int .i64 1] (Row a 75 X.cells :: RwO r Y fr (BayR Y.b D :: R)) (β := BayD × Option Addr × Nat) (fun y => Qt y.1 sz n c0) (fun y => .tuple #[.slice y.2.1 128 y.2.2, .int .u16 0])
   (fun y => Row a 75 X.cells :: RwO r Y fr (BayR Y.b y.1 :: R)) := by
 (refine Does.enterD Tryz.func9 Tryz.ntmps9 rfl rfl ?_)
 refine wr ?_; repeat (refine zq ?_; refine OpV.box rfl rfl rfl ?_; intro _; refine wr ?_)
 rename_i ba bk
 (refine zq ?_; refine OpV.alloc (z := (.slice none 0 0)) (fun w => by simp) rfl rfl ?_; intro no)
 refine wr ?_; repeat (refine zq ?_; refine OpV.box rfl rfl rfl ?_; intro _; refine wr ?_)
 (refine zq ?_; refine OpV.alloc (z := (.int .u16 0)) (fun w => by simp) rfl rfl ?_; intro ne)
 refine wr ?_; repeat (refine zq ?_; refine OpV.box rfl rfl rfl ?_; intro _; refine wr ?_)
 refine VR.regionD rfl ?_
 ((first | apply VO.pure rfl rfl | apply VQ.pure rfl rfl | apply VD.take rfl rfl rfl | (refine VD.end rfl rfl rfl ?_; apply OpV.pure)); exact PureAt.makeFuncN rfl; rfl)
 refine VO.deferA rfl rfl rfl rfl ?_
 refine wr ?_; repeat (refine zq ?_; refine OpV.box rfl rfl rfl ?_; intro _; refine wr ?_)
 refine VR.deferOnly rfl rfl rfl rfl ?_
 refine wr ?_; repeat (refine zq ?_; refine OpV.box rfl rfl rfl ?_; intro _; refine wr ?_)
 have h4 : X.s * X.c <= 256 * 16 := Nat.mul_le_mul hX.s.2 hX.c.2
 have h5 : X.s * X.c * (X.m - 1) <= 4096 * 15 := Nat.mul_le_mul (by omega) (by have := hX.m; omega)
 ((refine zq ?_; refine zd rfl rfl (aalive_ok a X) ?_); intro _ _)
 refine wr ?_; repeat (refine zq ?_; refine OpV.box rfl rfl rfl ?_; intro _; refine wr ?_)
 refine VR.drawn [9, 15] 18 [0, 1, 2, 3, 4, 5, 6, 7, 8, 9, 10, 11, 12, 13, 14, 16, 15, 17, 18, 19] _ rfl (by kernel_rfl) (by kernel_rfl) Ent.re ?_
 refine wr ?_; repeat (refine zq ?_; refine OpV.box rfl rfl rfl ?_; intro _; refine wr ?_)
 (first | refine VO.gF rfl rfl rfl (decide_eq_false (by omega)) ?_ | refine VD.gF rfl rfl rfl (decide_eq_false (by omega)) ?_)
 refine wr ?_; repeat (refine zq ?_; refine OpV.box rfl rfl rfl ?_; intro _; refine wr ?_)
 ((refine zq ?_; refine zd rfl rfl (ablocks_ok a X hX) ?_); intro _ _)
 refine wr ?_; repeat (refine zq ?_; refine OpV.box rfl rfl rfl ?_; intro _; refine wr ?_)
 (first | refine VO.gF rfl rfl rfl (decide_eq_false (by omega)) ?_ | refine VD.gF rfl rfl rfl (decide_eq_false (by omega)) ?_)
 refine wr ?_; repeat (refine zq ?_; refine OpV.box rfl rfl rfl ?_; intro _; refine wr ?_)
 ((refine zq ?_; refine zd rfl rfl (ablocks_ok a X hX) ?_); intro _ _)
 refine wr ?_; repeat (refine zq ?_; refine OpV.box rfl rfl rfl ?_; intro _; refine wr ?_)
 (refine VR.condFe rfl rfl (decide_eq_false (by omega)) ?_)
 refine wr ?_; repeat (refine zq ?_; refine OpV.box rfl rfl rfl ?_; intro _; refine wr ?_)
 refine VR.ent (H' := OwnB (none, 0) [] :: Row no 22 [.slice none 0 0] :: Row ne 25 [.int .u16 0] :: Row ba 29 [.pointer (some ⟨a, 0, none⟩)] :: Row bk 3 [.int .i64 k] :: Row a 75 X.cells :: RwO r Y fr (BayR Y.b D :: R)) (Ent.trans (fun w hw => Holds.ownNil 5 1 hw) Ent.re) ?_
 refine VR.loop (α := Nat × BayD × (Option Addr × Nat) × List UInt8) (fun y => y.1 <= 1 /\ Qt y.2.1 sz n c0 /\ y.2.2.2.length = y.1 * 128) (fun y => OwnB y.2.2.1 y.2.2.2 :: Row no 22 [.slice y.2.2.1.1 y.2.2.2.length y.2.2.1.2] :: Row ne 25 [.int .u16 0] :: Row ba 29 [.pointer (some ⟨a, 0, none⟩)] :: Row bk 3 [.int .i64 k] :: Row a 75 X.cells :: RwO r Y fr (BayR Y.b y.2.1 :: R))
  (fun y => [(3, .pointer (some ⟨ba, 0, none⟩)), (4, .pointer (some ⟨bk, 0, none⟩)), (6, .pointer (some ⟨no, 0, none⟩)), (7, .pointer (some ⟨ne, 0, none⟩)), (33, .int .i64 1), (34, .int .i64 y.1)]) (fun y => 1 - y.1) rfl (0, D, (none, 0), []) ⟨Nat.zero_le _, hq, rfl⟩ Ent.refl ⟨rfl, rfl, rfl, rfl, rfl, rfl, trivial⟩ ?_
 rintro ⟨i, E, x, l⟩ ⟨hi, hqE, hl⟩
 dsimp only at hi hqE hl ⊢
 refine wr ?_; repeat (refine zq ?_; refine OpV.box rfl rfl rfl ?_; intro _; refine wr ?_)
 (refine VR.cond rfl rfl ?_ ?_ <;> intro hc)
 ·
  have h0 : i = 0 := by have := of_decide_eq_true hc; omega
  clear hc
  subst h0
  obtain rfl : l = [] := List.length_eq_zero_iff.1 (by rw [hl])
  refine wr ?_; repeat (refine zq ?_; refine OpV.box rfl rfl rfl ?_; intro _; refine wr ?_)
  (refine zq ?_; refine OpV.alloc (z := (.int .i64 0)) (fun w => by simp) rfl rfl ?_; intro bi)
  refine wr ?_; repeat (refine zq ?_; refine OpV.box rfl rfl rfl ?_; intro _; refine wr ?_)
  (refine zq ?_; refine OpV.alloc (z := (.slice none 0 0)) (fun w => by simp) rfl rfl ?_; intro bb)
  refine wr ?_; repeat (refine zq ?_; refine OpV.box rfl rfl rfl ?_; intro _; refine wr ?_)
  ((first | apply VO.pure rfl rfl | apply VQ.pure rfl rfl | apply VD.take rfl rfl rfl | (refine VD.end rfl rfl rfl ?_; apply OpV.pure)); exact PureAt.makeFuncN rfl; rfl)
  refine wr ?_; repeat (refine zq ?_; refine OpV.box rfl rfl rfl ?_; intro _; refine wr ?_)
  refine zq ?_
  refine zd rfl rfl (aagain_ok a (g := 50) (bnd := #[]) (cap := #[.pointer (some ⟨ba, 0, none⟩), .pointer (some ⟨bk, 0, none⟩), .pointer (some ⟨bi, 0, none⟩), .pointer (some ⟨bb, 0, none⟩)]) (fun _ _ => by simp) (aread2_ok (R := OwnB x [] :: Row no 22 [.slice x.1 0 x.2] :: Row ne 25 [.int .u16 0] :: R) (u := .slice none 0 0) ba bk bi bb a r X hr Y hY fr hF hqE k 0 (by rw [hs, hc, hm]; omega))) ?_
  rintro ⟨l1, y, D'⟩ ⟨h1, h2⟩
  dsimp only at h1 h2
  refine wr ?_; repeat (refine zq ?_; refine OpV.box rfl rfl rfl ?_; intro _; refine wr ?_)
  refine zq ?_
  refine OpV.append (m := 128) (news := bytes l1) st_22 rfl rfl zh (fun w hw => (show Sees w 1 (.slice y.1 128 y.2) 128 (bytes l1) from Sees.own (e := 5) (bytes_one _) hw zm).src st_22.und) (by simp only [maxLen]; decide) (by decide) rfl ?_
  intro so sc
  refine wr ?_; repeat (refine zq ?_; refine OpV.box rfl rfl rfl ?_; intro _; refine wr ?_)
  refine VF.round (1, D', (so, sc), l1) ⟨Nat.le_refl _, h2, by dsimp only; omega⟩ (by dsimp only; omega) ⟨rfl, rfl, rfl, rfl, rfl, asV rfl rfl, trivial⟩ ?_
  dsimp only
  rw [show OwnB (so, sc) l1 = Sl.Own 5 1 (.slice so 128 sc) 128 (bytes l1) by unfold OwnB; rw [h1], h1]
  exact Ent.re
 have h1 : i = 1 := by have := of_decide_eq_false hc; omega
 clear hc
 subst h1
 refine wr ?_; repeat (refine zq ?_; refine OpV.box rfl rfl rfl ?_; intro _; refine wr ?_)
 refine VF.ent (H' := Row ne 25 [.int .u16 0] :: Row no 22 [.slice x.1 l.length x.2] :: Row a 75 X.cells :: RwO r Y fr (BayR Y.b E :: R)) Ent.re ?_
 refine VF.leaveRet2 (.inl rfl) (fun _ _ => by simp) (fun _ _ => by simp) guard_ret (aread1_ok ne no) (E, x.1, x.2) rfl (ResIs.leaf tab_ok rfl rfl (.tail _ (.head _)) rfl) (ResIs.leaf tab_ok rfl rfl (.head _) rfl) hqE ?_ (Ent.drop (Ent.drop Ent.refl))
 rw [hl]
theorem grows_bad (g : GeoD) (h : ¬ g.good) : Does1 W Tryz.prog 70 [.agg g.cells.toArray] R (.int .i64 ((0 : Nat) : Int)) R := by
 (refine Does.enter Tryz.func70 Tryz.ntmps70 rfl rfl ?_)
 refine w ?_; repeat (refine zj fun _ => ?_; refine w ?_)
 ((refine zq ?_; refine zd rfl rfl (gof_ok g) ?_); intro _ _)
 rw [if_neg h]
 refine w ?_; repeat (refine zj fun _ => ?_; refine w ?_)
 refine zq ?_; refine OpV.allocS sb_174 rfl ?_; intro ns
 refine w ?_; repeat (refine zj fun _ => ?_; refine w ?_)
 refine zq ?_
 refine OpV.stA (vs := g.shape) tab_ok rfl rfl rfl rfl (by simp [Value.oneCell']) zh (by simp) ?_
 refine w ?_; repeat (refine zj fun _ => ?_; refine w ?_)
 exact VE.done1 rfl rfl (Ent.drop (Ent.drop Ent.refl))
theorem growsI_ok (g : GeoD) (h : g.good) : Does1 W Tryz.prog 70 [.agg g.cells.toArray] R (.int .i64 (g.s * g.c)) R := by
 obtain ⟨m, c, s⟩ := g
 have h' : (3 <= m /\ m <= 16) /\ (1 <= c /\ c <= 16) /\ (1 <= s /\ s <= 256) := h
 obtain ⟨m, rfl⟩ := Int.eq_ofNat_of_zero_le (show 0 <= m by omega)
 obtain ⟨c, rfl⟩ := Int.eq_ofNat_of_zero_le (show 0 <= c by omega)
 obtain ⟨s, rfl⟩ := Int.eq_ofNat_of_zero_le (show 0 <= s by omega)
 have q := growsN_ok (W := W) (R := R) (m := m) (c := c) (s := s) (by omega) (by omega) (by omega)
 rw [Int.natCast_mul] at q
 exact q
theorem Qt.sectors {D : BayD} {sz : Nat -> Nat} {m c : Nat} (h : Qt D sz m c) {k : Nat} (hk : k < m) : ((D.dev k).elim (0 : Int) fun v => (v.k.last.length : Int)) = sz k := by
 cases hd : D.dev (k : Int) with
 | none => have := h.none hk hd; show (0 : Int) = _; omega
 | some v => have := (h.dev hd).1.len; show ((v.k.last.length : Nat) : Int) = _; omega
def StB (b : BalD) : SProp := Sl.Own 144 1 (.slice b.s.so b.s.states.length b.s.sc) b.s.states.length (bytes b.s.states)
structure BalOk (sz : Nat -> Nat) (n i : Nat) (b : BalD) : Prop where
  fit : b.s.fit
  nil : b.s.so = none -> b.s.states.length = 0
  jr : b.has = true -> i + 1 = n -> 2 + b.s.ring <= sz i
  mem : b.has = true -> i + 1 < n -> 1 + b.s.stripes * b.s.chunk <= sz i
abbrev noBal : BalD := ⟨false, zeroSup⟩
theorem noBal_ok (sz : Nat -> Nat) (n i : Nat) : BalOk sz n i noBal := ⟨by constructor <;> simp [zeroSup], fun _ => rfl, fun h => (by cases h), fun h => (by cases h)⟩
abbrev BalsO (x : Option Addr × Nat) (l : List BalD) : SProp := Sl.Own 134 13 (.slice x.1 l.length x.2) l.length (balCells l)
theorem balCells_snoc (l : List BalD) (b : BalD) : balCells (l ++ [b]) = balCells l ++ b.cells := by simp [balCells]
theorem bal_push {T : List SProp} {A : SProp} {l : List BalD} {b : BalD} : Ent W (StB b :: A :: pile StB l :: T) (A :: pile StB (l ++ [b]) :: T) := fun w hw =>
 (pile_push (res := StB) (a := b) (hw.perm ((List.Perm.swap _ _ _).cons _))).swap
theorem sdec_cases (l : List UInt8) : (sdec l = (0, SuperD.parse l) /\ (SuperD.parse l).okP) \/ ∃ e, e ≠ 0 /\ sdec l = (e, noSup) := by
 unfold sdec
 split
 · exact .inr ⟨_, by decide, rfl⟩
 ·
  split
  · exact .inr ⟨_, by decide, rfl⟩
  ·
   split
   · exact .inr ⟨_, by decide, rfl⟩
   ·
    split
    ·
     rename_i h
     refine .inl ⟨rfl, ?_⟩
     rcases Decidable.em (SuperD.parse l).okP with g | g
     · exact g
     · rw [senc_bad g] at h; cases h
    · exact .inr ⟨_, by decide, rfl⟩
structure BlsY where
  l : List BalD
  x : Option Addr × Nat
  D : BayD
theorem ballots_ok {D : BayD} {sz : Nat -> Nat} {n c0 : Nat} (b : Nat) (hq : Qt D sz n c0) (hn : n <= 17) (hz : ∀ i, sz i <= 8192) :
  Does W Tryz.prog 28 [.pointer (some ⟨b, 0, none⟩)] (BayR b D :: R) (β := BlsY) (fun y => Qt y.D sz n c0 /\ y.l.length = n /\ ∀ i (h : i < y.l.length), BalOk sz n i y.l[i]) (fun y => .tuple #[.slice y.x.1 y.l.length y.x.2, .int .u16 0])
   (fun y => BalsO y.x y.l :: pile StB y.l :: BayR b y.D :: R) := by
 (refine Does.enter Tryz.func28 Tryz.ntmps28 rfl rfl ?_)
 refine w ?_
 ((refine zq ?_; refine zd rfl rfl (bayslots_ok b D) ?_); intro _ _)
 rw [hq.len]
 refine w ?_
 refine VC.loop (α := Nat × BlsY) (fun y => y.1 <= n /\ Qt y.2.D sz n c0 /\ y.2.l.length = y.1 /\ ∀ i (h : i < y.2.l.length), BalOk sz n i y.2.l[i]) (fun y => BalsO y.2.x y.2.l :: pile StB y.2.l :: BayR b y.2.D :: R)
  (fun y => [(0, .pointer (some ⟨b, 0, none⟩)), (4, .slice y.2.x.1 y.2.l.length y.2.x.2), (13, .int .i64 n), (14, .int .i64 y.1)]) (fun y => n - y.1) rfl (0, ⟨[], (none, 0), D⟩) ⟨Nat.zero_le _, hq, rfl, fun i h => absurd h (Nat.not_lt_zero _)⟩
  (fun w hw => by have h2 := (pile_nil (res := StB) hw).ownNil 134 13; exact h2) ⟨rfl, rfl, rfl, rfl, trivial⟩ ?_
 rintro ⟨i, l, x, D'⟩ ⟨hi, hq', hl, hall⟩
 dsimp only at hi hq' hl hall ⊢
 refine w ?_
 refine zk ?_ ?_ <;> intro hc
 ·
  have hlt : i < n := by have := of_decide_eq_true hc; omega
  clear hc
  refine w ?_
  (apply VO.pure rfl rfl; apply PureAt.build sb_134 (pv := []) rfl; rfl; rfl)
  refine zq ?_; refine OpV.allocS sb_134 rfl ?_; intro n6
  refine w ?_
  refine zq ?_
  refine OpV.stA (vs := noBal.cells) tab_ok rfl rfl rfl rfl (bal_one _) zh (by simp) ?_
  refine w ?_
  (refine zq ?_; refine zd rfl rfl (bayread_ok b D' (i : Int) 0) ?_)
  rintro y hy
  obtain ⟨hq2, h50⟩ := hq'.read (i : Int) 0
  generalize hrd : D'.read (i : Int) 0 = rd at *
  obtain ⟨⟨bs, e⟩, D2⟩ := rd
  dsimp only at hy hq2 h50 ⊢
  refine VO.know (fun w hw => hw.ownCap (.head _)) ?_
  intro hcap
  refine w ?_
  (refine VC.condFe rfl rfl (beq_eq_false_iff_ne.2 h50) ?_)
  refine w ?_
  have hround : ∀ (x : BalD) (D2 : BayD), BalOk sz n i x -> Qt D2 sz n c0 -> i + 1 <= n /\ Qt D2 sz n c0 /\ (l ++ [x]).length = i + 1 /\ ∀ j (h : j < (l ++ [x]).length), BalOk sz n j (l ++ [x])[j] := fun x D2 hx hD => ⟨hlt, hD, by rw [List.length_append, List.length_singleton, hl], fun j hj => by
   rw [List.length_append, List.length_singleton] at hj
   rcases Nat.lt_or_ge j l.length with q | q
   · rw [List.getElem_append_left q]; exact hall j q
   ·
    obtain rfl : j = l.length := by omega
    rw [List.getElem_concat_length rfl, hl]; exact hx⟩
  have hB : ∀ (x : BalD) (p : Option Addr × Nat), Sl.Own 134 13 (.slice p.1 (l.length + 1) p.2) (l.length + 1) (balCells l ++ x.cells) = BalsO p (l ++ [x]) := fun x p => by
   unfold BalsO; rw [balCells_snoc, List.length_append]; rfl
  have hno : StB noBal = Sl.Own 144 1 (.slice none 0 0) 0 [] := rfl
  by_cases h0 : e = 0
  rotate_left
  ·
   (refine VC.condFe rfl rfl (beq_eq_false_iff_ne.2 h0) ?_)
   refine w ?_
   (refine VO.re 58 (.agg (BalD.cells noBal).toArray) rfl rfl ?_; (refine zq ?_); refine OpV.buildSlice (cs := BalD.cells noBal) st_59 rfl rfl (by simp [Value.cells]) (agg_flat _) (by decide) rfl ?_; intro nc; (refine zq ?_); refine OpV.appendRow st_59 rfl rfl zh zm rfl (bal_one _) (by simp only [maxLen]; omega) (by omega) rfl ?_; intro so' sc'; refine w ?_; refine VE.round (i + 1, ⟨l ++ [noBal], (so', sc'), D2⟩) (hround noBal D2 (noBal_ok sz n i) hq2) (by dsimp only; omega) ⟨rfl, asV rfl (by simp), rfl, asV rfl (by congr 1), trivial⟩ ?_)
   refine Ent.trans (Ent.re (L := Sl.Own 134 13 (.slice so' (l.length + 1) sc') (l.length + 1) (balCells l ++ noBal.cells) :: pile StB l :: BayR b D2 :: R)) ?_
   rw [hB noBal (so', sc')]
   exact fun w hw => bal_push (b := noBal) w (hw.ownNil 144 1)
  subst h0
  (refine VC.condTe rfl rfl (rfl) ?_)
  refine w ?_
  have hrB : ∀ H : List SProp, OwnB y bs ∈ H -> Rds W H 1 y.1 bs.length (bytes bs) := fun H m => Rds.own (bytes_one _) m (by simp) hy
  (refine zq ?_; refine zy rfl rfl (sdecode_ok (hrB _ zm) hcap) ?_)
  intro st _
  refine VO.know (fun w hw => (⟨hw.ownNone (.head _), hw.ownCap (.head _)⟩ : (st.1 = none -> (sdec bs).2.states.length = 0) /\ (sdec bs).2.states.length <= st.2)) ?_
  rintro ⟨hsn, hsc⟩
  rcases sdec_cases bs with ⟨hd, hok⟩ | ⟨e, he, hd⟩
  ·
   dsimp only [sdecG]
   rw [hd] at hsn hsc ⊢
   dsimp only at hsn hsc ⊢
   obtain ⟨sup, hsup⟩ : ∃ x, x = (SuperD.parse bs).hold st (SuperD.parse bs).states := ⟨_, rfl⟩
   have hsz := of_decide_eq_true hok.1.1
   have hrg := hok.1.2.2.2.1
   have hfit := parse_fit bs st hsc
   have e1 : sup.members = (SuperD.parse bs).members /\ sup.chunk = (SuperD.parse bs).chunk /\ sup.stripes = (SuperD.parse bs).stripes /\ sup.ring = (SuperD.parse bs).ring := by rw [hsup]; exact ⟨rfl, rfl, rfl, rfl⟩
   have e2 : OwnSt st (SuperD.parse bs).states = StB ⟨true, sup⟩ := by rw [hsup]; rfl
   rw [<- hsup] at hfit ⊢
   rw [e2]
   rw [<- e1.1, <- e1.2.1, <- e1.2.2.1] at hsz
   rw [<- e1.2.2.2] at hrg
   have hnil : sup.so = none -> sup.states.length = 0 := by rw [hsup]; exact hsn
   clear e1 e2 hsup hd hok hsn hsc
   have hsc0 : 0 <= sup.stripes * sup.chunk := Int.mul_nonneg (by omega) (by omega)
   have hsc1 : sup.stripes * sup.chunk <= 256 * 16 := Int.mul_le_mul (by omega) (by omega) (by omega) (by omega)
   refine w ?_
   refine zq ?_; refine OpV.allocS sb_67 rfl ?_; intro n9
   refine w ?_
   refine zq ?_
   refine OpV.stA (vs := sup.cells) tab_ok rfl rfl rfl rfl (super_one _) zh (by simp) ?_
   refine w ?_
   (refine zq ?_; refine zy rfl rfl (growsI_ok ⟨sup.members, sup.chunk, sup.stripes⟩ hsz) ?_)
   intro _ _
   dsimp only
   refine w ?_
   ((refine zq ?_; refine zd rfl rfl (bayslots_ok b D2) ?_); intro _ _)
   rw [hq2.len]
   refine w ?_
   by_cases hj : i + 1 = n
   ·
    (refine VC.condTe rfl rfl (by rw [beq_iff_eq]; omega) ?_)
    refine w ?_
    ((refine zq ?_; refine zd rfl rfl (baysectors_ok b D2 i) ?_); intro _ _)
    rw [hq2.sectors hlt]
    refine w ?_
    refine zk ?_ ?_ <;> intro hc
    ·
     have hneed := of_decide_eq_true hc
     clear hc
     refine w ?_
     (apply VO.pure rfl rfl; apply PureAt.build sb_134 rfl; (simp [buildX, setL, Value.cells]; rfl); rfl)
     refine zq ?_
     refine OpV.stA (vs := BalD.cells ⟨true, sup⟩) tab_ok rfl rfl rfl rfl (bal_one _) zh (by simp) ?_
     refine w ?_
     (refine VO.re 58 (.agg (BalD.cells ⟨true, sup⟩).toArray) rfl rfl ?_; (refine zq ?_); refine OpV.buildSlice (cs := BalD.cells ⟨true, sup⟩) st_59 rfl rfl (by simp [Value.cells]) (agg_flat _) (by decide) rfl ?_; intro nc; (refine zq ?_); refine OpV.appendRow st_59 rfl rfl zh zm rfl (bal_one _) (by simp only [maxLen]; omega) (by omega) rfl ?_; intro so' sc'; refine w ?_; refine VE.round (i + 1, ⟨l ++ [⟨true, sup⟩], (so', sc'), D2⟩) (hround ⟨true, sup⟩ D2 (⟨hfit, hnil, fun _ _ => by dsimp only; omega, fun _ h => absurd hj (by omega)⟩) hq2) (by dsimp only; omega) ⟨rfl, asV rfl (by simp), rfl, asV rfl (by congr 1), trivial⟩ ?_)
     refine Ent.trans (Ent.re (L := StB ⟨true, sup⟩ :: Sl.Own 134 13 (.slice so' (l.length + 1) sc') (l.length + 1) (balCells l ++ BalD.cells ⟨true, sup⟩) :: pile StB l :: BayR b D2 :: R)) ?_
     rw [hB ⟨true, sup⟩ (so', sc')]
     exact bal_push
    ·
     clear hc
     refine w ?_
     (refine VO.re 58 (.agg (BalD.cells noBal).toArray) rfl rfl ?_; (refine zq ?_); refine OpV.buildSlice (cs := BalD.cells noBal) st_59 rfl rfl (by simp [Value.cells]) (agg_flat _) (by decide) rfl ?_; intro nc; (refine zq ?_); refine OpV.appendRow st_59 rfl rfl zh zm rfl (bal_one _) (by simp only [maxLen]; omega) (by omega) rfl ?_; intro so' sc'; refine w ?_; refine VE.round (i + 1, ⟨l ++ [noBal], (so', sc'), D2⟩) (hround noBal D2 (noBal_ok sz n i) hq2) (by dsimp only; omega) ⟨rfl, asV rfl (by simp), rfl, asV rfl (by congr 1), trivial⟩ ?_)
     refine Ent.trans (Ent.re (L := Sl.Own 134 13 (.slice so' (l.length + 1) sc') (l.length + 1) (balCells l ++ noBal.cells) :: pile StB l :: BayR b D2 :: R)) ?_
     rw [hB noBal (so', sc')]
     exact fun w hw => bal_push (b := noBal) w (hw.ownNil 144 1)
   ·
    (refine VC.condFe rfl rfl (by rw [beq_eq_false_iff_ne]; omega) ?_)
    refine w ?_
    ((refine zq ?_; refine zd rfl rfl (baysectors_ok b D2 i) ?_); intro _ _)
    rw [hq2.sectors hlt]
    refine w ?_
    refine zk ?_ ?_ <;> intro hc
    ·
     have hneed := of_decide_eq_true hc
     clear hc
     refine w ?_
     (apply VO.pure rfl rfl; apply PureAt.build sb_134 rfl; (simp [buildX, setL, Value.cells]; rfl); rfl)
     refine zq ?_
     refine OpV.stA (vs := BalD.cells ⟨true, sup⟩) tab_ok rfl rfl rfl rfl (bal_one _) zh (by simp) ?_
     refine w ?_
     (refine VO.re 58 (.agg (BalD.cells ⟨true, sup⟩).toArray) rfl rfl ?_; (refine zq ?_); refine OpV.buildSlice (cs := BalD.cells ⟨true, sup⟩) st_59 rfl rfl (by simp [Value.cells]) (agg_flat _) (by decide) rfl ?_; intro nc; (refine zq ?_); refine OpV.appendRow st_59 rfl rfl zh zm rfl (bal_one _) (by simp only [maxLen]; omega) (by omega) rfl ?_; intro so' sc'; refine w ?_; refine VE.round (i + 1, ⟨l ++ [⟨true, sup⟩], (so', sc'), D2⟩) (hround ⟨true, sup⟩ D2 (⟨hfit, hnil, fun _ h => absurd h hj, fun _ _ => by dsimp only; omega⟩) hq2) (by dsimp only; omega) ⟨rfl, asV rfl (by simp), rfl, asV rfl (by congr 1), trivial⟩ ?_)
     refine Ent.trans (Ent.re (L := StB ⟨true, sup⟩ :: Sl.Own 134 13 (.slice so' (l.length + 1) sc') (l.length + 1) (balCells l ++ BalD.cells ⟨true, sup⟩) :: pile StB l :: BayR b D2 :: R)) ?_
     rw [hB ⟨true, sup⟩ (so', sc')]
     exact bal_push
    ·
     clear hc
     refine w ?_
     (refine VO.re 58 (.agg (BalD.cells noBal).toArray) rfl rfl ?_; (refine zq ?_); refine OpV.buildSlice (cs := BalD.cells noBal) st_59 rfl rfl (by simp [Value.cells]) (agg_flat _) (by decide) rfl ?_; intro nc; (refine zq ?_); refine OpV.appendRow st_59 rfl rfl zh zm rfl (bal_one _) (by simp only [maxLen]; omega) (by omega) rfl ?_; intro so' sc'; refine w ?_; refine VE.round (i + 1, ⟨l ++ [noBal], (so', sc'), D2⟩) (hround noBal D2 (noBal_ok sz n i) hq2) (by dsimp only; omega) ⟨rfl, asV rfl (by simp), rfl, asV rfl (by congr 1), trivial⟩ ?_)
     refine Ent.trans (Ent.re (L := Sl.Own 134 13 (.slice so' (l.length + 1) sc') (l.length + 1) (balCells l ++ noBal.cells) :: pile StB l :: BayR b D2 :: R)) ?_
     rw [hB noBal (so', sc')]
     exact fun w hw => bal_push (b := noBal) w (hw.ownNil 144 1)
  ·
   dsimp only [sdecG]
   rw [hd]
   dsimp only
   refine w ?_
   refine zq ?_; refine OpV.allocS sb_67 rfl ?_; intro n9
   refine w ?_
   refine zq ?_
   refine OpV.stA (vs := (noSup.hold st noSup.states).cells) tab_ok rfl rfl rfl rfl (super_one _) zh (by simp) ?_
   refine w ?_
   (refine zq ?_; refine zy rfl rfl (grows_bad ⟨0, 0, 0⟩ (by decide)) ?_)
   intro _ _
   refine w ?_
   ((refine zq ?_; refine zd rfl rfl (bayslots_ok b D2) ?_); intro _ _)
   rw [hq2.len]
   refine w ?_
   by_cases hj : i + 1 = n
   ·
    (refine VC.condTe rfl rfl (by rw [beq_iff_eq]; omega) ?_)
    refine w ?_
    (first | refine VO.gF rfl rfl rfl (beq_eq_false_iff_ne.2 he) ?_ | refine VD.gF rfl rfl rfl (beq_eq_false_iff_ne.2 he) ?_)
    refine w ?_
    (refine VO.re 58 (.agg (BalD.cells noBal).toArray) rfl rfl ?_; (refine zq ?_); refine OpV.buildSlice (cs := BalD.cells noBal) st_59 rfl rfl (by simp [Value.cells]) (agg_flat _) (by decide) rfl ?_; intro nc; (refine zq ?_); refine OpV.appendRow st_59 rfl rfl zh zm rfl (bal_one _) (by simp only [maxLen]; omega) (by omega) rfl ?_; intro so' sc'; refine w ?_; refine VE.round (i + 1, ⟨l ++ [noBal], (so', sc'), D2⟩) (hround noBal D2 (noBal_ok sz n i) hq2) (by dsimp only; omega) ⟨rfl, asV rfl (by simp), rfl, asV rfl (by congr 1), trivial⟩ ?_)
    refine Ent.trans (Ent.re (L := Sl.Own 134 13 (.slice so' (l.length + 1) sc') (l.length + 1) (balCells l ++ noBal.cells) :: pile StB l :: BayR b D2 :: R)) ?_
    rw [hB noBal (so', sc')]
    exact fun w hw => bal_push (b := noBal) w (hw.ownNil 144 1)
   ·
    (refine VC.condFe rfl rfl (by rw [beq_eq_false_iff_ne]; omega) ?_)
    refine w ?_
    (first | refine VO.gF rfl rfl rfl (beq_eq_false_iff_ne.2 he) ?_ | refine VD.gF rfl rfl rfl (beq_eq_false_iff_ne.2 he) ?_)
    refine w ?_
    (refine VO.re 58 (.agg (BalD.cells noBal).toArray) rfl rfl ?_; (refine zq ?_); refine OpV.buildSlice (cs := BalD.cells noBal) st_59 rfl rfl (by simp [Value.cells]) (agg_flat _) (by decide) rfl ?_; intro nc; (refine zq ?_); refine OpV.appendRow st_59 rfl rfl zh zm rfl (bal_one _) (by simp only [maxLen]; omega) (by omega) rfl ?_; intro so' sc'; refine w ?_; refine VE.round (i + 1, ⟨l ++ [noBal], (so', sc'), D2⟩) (hround noBal D2 (noBal_ok sz n i) hq2) (by dsimp only; omega) ⟨rfl, asV rfl (by simp), rfl, asV rfl (by congr 1), trivial⟩ ?_)
    refine Ent.trans (Ent.re (L := Sl.Own 134 13 (.slice so' (l.length + 1) sc') (l.length + 1) (balCells l ++ noBal.cells) :: pile StB l :: BayR b D2 :: R)) ?_
    rw [hB noBal (so', sc')]
    exact fun w hw => bal_push (b := noBal) w (hw.ownNil 144 1)
 have hge : i = n := by have := of_decide_eq_false hc; omega
 clear hc
 refine w ?_
 exact VE.done ⟨l, x, D'⟩ rfl ⟨hq', hl.trans hge, hall⟩ rfl Ent.refl
structure Pw (D : BayD) (s : Nat) (k : DiskD) : Prop where
  slot : D.slots[s]? = some ⟨some ⟨k, false, 0⟩, none, none⟩
  lit : D.dark = false
  live : k.failed = false
  trip : -1 <= D.trip /\ D.trip <= 9223372036854775807
structure Fol (s : Nat) (js : List Nat) (D D' : BayD) : Prop where
  len : D'.slots.length = D.slots.length
  oth : ∀ j, j ≠ s -> D'.slots[j]? = D.slots[j]?
  calm : D.trip = -1 -> D'.trip = -1
  cnt : D'.n = js.foldl CntD.inc D.n
theorem Fol.refl (s : Nat) (D : BayD) : Fol s [] D D := ⟨rfl, fun _ _ => rfl, fun h => h, rfl⟩
theorem Fol.trans {s : Nat} {a b : List Nat} {D E F : BayD} (h : Fol s a D E) (g : Fol s b E F) : Fol s (a ++ b) D F :=
 ⟨g.len.trans h.len, fun j hj => (g.oth j hj).trans (h.oth j hj), fun q => g.calm (h.calm q), by rw [List.foldl_append, <- h.cnt, g.cnt]⟩
theorem Pw.lt {D : BayD} {s : Nat} {k : DiskD} (h : Pw D s k) : s < D.slots.length := by
 rcases Nat.lt_or_ge s D.slots.length with q | q
 · exact q
 · have := h.slot; rw [List.getElem?_eq_none q] at this; cases this
theorem inr {D : BayD} {s : Nat} (h : s < D.slots.length) : inRange D.slots.length (s : Int) = true := by
 unfold inRange; simp; omega
def DiskD.writes (k : DiskD) (L : List (Nat × List UInt8)) : DiskD := { k with cache := k.cache ++ L }
theorem writes_nil (k : DiskD) : k.writes [] = k := by unfold DiskD.writes; rw [List.append_nil]
theorem write_writes (k : DiskD) (a : Nat) (b : List UInt8) (L : List (Nat × List UInt8)) : (k.write a b).writes L = k.writes ((a, b) :: L) := by
 unfold DiskD.write DiskD.writes; simp
def ringB (k : DiskD) (n : Nat) : List UInt8 := (List.range n).flatMap fun p => k.look (2 + p)
abbrev Secs := List (List UInt8)
def sf (L : Secs) : SecF := fun i => (L[2 + i]?).getD []
theorem sf_set {L : Secs} {a : Nat} {b : List UInt8} (h : a < L.length) (i : Nat) : sf (L.set a b) i = if 2 + i = a then b else sf L i := by
 unfold sf
 by_cases q : 2 + i = a
 · rw [if_pos q, q, List.getElem?_set_self h]; rfl
 · rw [if_neg q, List.getElem?_set_ne (fun e => q e.symm)]
theorem mem_set128 {L : Secs} {a : Nat} {b : List UInt8} (h : ∀ x ∈ L, x.length = 128) (hb : b.length = 128) : ∀ x ∈ L.set a b, x.length = 128 := by
 intro x hx
 rcases List.mem_or_eq_of_mem_set hx with q | q
 · exact h x q
 · rw [q]; exact hb
def noCmt (b : List UInt8) : Prop := (CmtD.dec b).1 ≠ 0
structure Rep (n e base tl : Nat) (ls : List (List PatD)) (L : Secs) : Prop where
  all : ∀ b ∈ L, b.length = 128
  bnd : 5 <= n /\ n <= 2048
  len : 2 + n <= L.length
  chk : L[1]? = some (ChkD.mk e base tl).enc.2
  cnt : cntOk e base
  tlt : tl < n
  lays : Lays (sf L) n e base tl ls
  noc : ∀ i, i < n -> ∀ c, CmtD.dec (sf L i) = (0, c) -> c.seq < base + ls.length
variable {n e base tl : Nat} {ls : List (List PatD)} {L : Secs}
theorem Rep.good (h : Rep n e base tl ls L) : (ChkD.mk e base tl).good := ⟨h.cnt, by simp only; omega, by have := h.bnd; have := h.tlt; simp only; omega⟩
theorem Rep.put (h : Rep n e base tl ls L) {j : Nat} {b : List UInt8} (h1 : costL ls <= j) (h2 : j < n) (hb : b.length = 128) (hn : noCmt b) : Rep n e base tl ls (L.set (2 + (tl + j) % n) b) := by
 have hm := Nat.mod_lt (tl + j) (show 0 < n by omega)
 have hl := h.len
 refine ⟨mem_set128 h.all hb, h.bnd, by rw [List.length_set]; exact hl, ?_, h.cnt, h.tlt, ⟨h.lays.fine, h.lays.cost, ?_⟩, ?_⟩
 · rw [List.getElem?_set_ne (by omega)]; exact h.chk
 ·
  intro i hi
  rw [sf_set (by omega), if_neg]
  · exact h.lays.sec i hi
  ·
   intro q
   have := mod_inj (a := tl) (i := i) (j := j) (n := n) (by omega) h2 (by omega)
   omega
 ·
  intro i hi c hc
  rw [sf_set (by omega)] at hc
  split at hc
  · exact absurd (by rw [hc]) hn
  · exact h.noc i hi c hc
theorem Rep.closed (h : Rep n e base tl ls L) {l : List PatD} (hf : Fine e (base + ls.length) l) (hc : costL ls + (2 * l.length + 1) <= n)
  (hp : ∀ j, j < 2 * l.length -> (pairsP e (base + ls.length) l.length l 0)[j]? = some (sf L ((tl + (costL ls + j)) % n))) :
  Rep n e base tl (ls ++ [l]) (L.set (2 + (tl + (costL ls + 2 * l.length)) % n) (cmtP e (base + ls.length) l).enc.2) := by
 have hm := Nat.mod_lt (tl + (costL ls + 2 * l.length)) (show 0 < n by omega)
 have hl := h.len
 have hcl : costL (ls ++ [l]) = costL ls + (2 * l.length + 1) := by rw [costL_append, costL_cons]; rfl
 refine ⟨mem_set128 h.all (cmtP_length hf), h.bnd, by rw [List.length_set]; exact hl, ?_, h.cnt, h.tlt, ⟨?_, by omega, ?_⟩, ?_⟩
 · rw [List.getElem?_set_ne (by omega)]; exact h.chk
 ·
  intro k hk
  by_cases q : k < ls.length
  · rw [List.getElem_append_left q]; exact h.lays.fine k q
  ·
   have : k = ls.length := by simp at hk; omega
   subst this
   simpa using hf
 ·
  intro j hj
  rw [hcl] at hj
  rw [flatR_append, sf_set (by omega)]
  by_cases q : j < costL ls
  ·
   rw [List.getElem?_append_left (by rw [flatR_length]; exact q), if_neg]
   · exact h.lays.sec j q
   ·
    intro g
    have := mod_inj (a := tl) (i := j) (j := costL ls + 2 * l.length) (n := n) (by omega) (by omega) (by omega)
    omega
  ·
   rw [List.getElem?_append_right (by rw [flatR_length]; omega), flatR_length]
   have ef : flatR e (base + ls.length) [l] = rowsP e (base + ls.length) l := by simp [flatR]
   rw [ef]
   by_cases g : j = costL ls + 2 * l.length
   ·
    subst g
    rw [if_pos rfl, Nat.add_sub_cancel_left, rowsP_last]
   ·
    rw [if_neg]
    ·
     unfold rowsP
     rw [List.getElem?_append_left (by rw [pairsP_length]; omega), hp _ (by omega), show costL ls + (j - costL ls) = j by omega]
    ·
     intro g2
     have := mod_inj (a := tl) (i := j) (j := costL ls + 2 * l.length) (n := n) (by omega) (by omega) (by omega)
     omega
 ·
  intro i hi c hd
  rw [sf_set (by omega)] at hd
  rw [List.length_append, List.length_singleton]
  split at hd
  ·
   rw [cmtP_dec hf] at hd
   injection hd with _ hd
   subst hd
   show base + ls.length < _
   omega
  · have := h.noc i hi c hd; omega
theorem Rep.check (h : Rep n e base tl ls L) {e' : Nat} (hc : cntOk e' (base + ls.length)) : Rep n e' (base + ls.length) ((tl + costL ls) % n) [] (L.set 1 (ChkD.mk e' (base + ls.length) (((tl + costL ls) % n : Nat) : Int)).enc.2) := by
 have hn := h.bnd
 have hm := Nat.mod_lt (tl + costL ls) (show 0 < n by omega)
 have hl := h.len
 refine ⟨mem_set128 h.all ?_, h.bnd, by rw [List.length_set]; exact hl, by rw [List.getElem?_set_self (by omega)], hc, hm, ⟨fun k hk => absurd hk (Nat.not_lt_zero k), Nat.zero_le _, fun j hj => absurd hj (Nat.not_lt_zero j)⟩, ?_⟩
 ·
  rw [chk_ok ⟨hc, by simp only; omega, by simp only; omega⟩]
  exact sectF_length _ _ _ _ (chk_sum _)
 ·
  intro i hi c hd
  rw [sf_set (by omega), if_neg (by omega)] at hd
  exact h.noc i hi c hd
theorem bat_cmt {sec : SecF} {room s : Nat} {l : List PatD} (h : batM sec room e s = some l) : 2 * l.length < room /\ CmtD.dec (sec (2 * l.length)) = (0, cmtP e s l) := by
 obtain ⟨a, b, c⟩ := (bat_iff _ _ _ _ _).1 h
 have h1 := c (2 * l.length) (by omega)
 rw [rowsP_last] at h1
 injection h1 with h1
 exact ⟨by omega, by rw [<- h1]; exact cmtP_dec a⟩
theorem ringB_last (k : DiskD) (n : Nat) (hc : k.cache = []) (ha : ∀ b ∈ k.last, b.length = 128) (hl : 2 + n <= k.last.length) : (ringB k n).length = 128 * n /\ ∀ i, i < n -> secB (ringB k n) i = sf k.last i := by
 have hw : ∀ p ∈ List.range n, (k.look (2 + p)).length = 128 := by
  intro p hp
  have := List.mem_range.1 hp
  rw [DiskD.look_clean hc, List.getElem?_eq_getElem (by omega)]
  exact ha _ (List.getElem_mem _)
 constructor
 ·
  unfold ringB
  rw [flat_length (w := 128) _ hw, List.length_range, Nat.mul_comm]
 ·
  intro i hi
  unfold secB ringB
  have := flat_part (g := fun p => k.look (2 + p)) (w := 128) (List.range n) i (by rw [List.length_range]; exact hi) hw
  rw [Nat.mul_comm, this, List.getElem_range, DiskD.look_clean hc]
  rfl
theorem Rep.found {k : DiskD} (h : Rep n e base tl ls k.last) (hc : k.cache = []) : foundM (ringB k n) ⟨e, base, tl⟩ = (0, ⟨numb base ls, base + ls.length, (tl + costL ls) % n, costL ls⟩) := by
  obtain ⟨h1, h2⟩ := ringB_last k n hc h.all h.len
  have hn := h.bnd
  have hcost := h.lays.cost
  have hlen := costL_len ls
  have hs : ∀ j, j < costL ls -> (flatR e base ls)[j]? = some (secB (ringB k n) ((tl + j) % n)) := fun j hj => by
    rw [h2 _ (Nat.mod_lt _ (by omega))]; exact h.lays.sec j hj
  have hof : ofM (secB (ringB k n)) n e (n + 1) base 0 tl = numb base ls := by
    rw [of_laid h.lays.fine hcost hs (by omega), of_none, List.append_nil]
    cases hb : batM (rotF (secB (ringB k n)) n (if ls = [] then tl else (tl + costL ls) % n)) (n - costL ls) e (base + ls.length) with
    | none => rfl
    | some l =>
      exfalso
      have hq := (bat_cmt hb).2
      unfold rotF at hq
      rw [h2 _ (Nat.mod_lt _ (by omega))] at hq
      have := h.noc _ (Nat.mod_lt _ (by omega)) _ hq
      exact absurd this (by show ¬ base + ls.length < _; omega)
  rw [found_good h1 hn h.cnt.1 ⟨h.cnt.2.1, h.cnt.2.2⟩ h.tlt, hof, numb_length, costT_numb]
theorem Rep.look {k : DiskD} (h : Rep n e base tl ls k.last) (hc : k.cache = []) : ChkD.dec (k.look 1) = (0, ⟨e, base, tl⟩) := by
 rw [DiskD.look_clean hc, h.chk]
 exact chk_back _ h.good
def Cov (P : Secs -> Prop) (k : DiskD) : Prop := ∀ keep, P (k.settle keep).last
theorem Cov.nil {P : Secs -> Prop} {k : DiskD} (hc : k.cache = []) (h : P k.last) : Cov P k := fun keep => by unfold DiskD.settle; rw [hc]; exact h
theorem Cov.snoc {P : Secs -> Prop} {k : DiskD} {a : Nat} {b : List UInt8} (h : Cov P k) (hs : ∀ L, P L -> P (L.set a b)) : Cov P (k.write a b) := by
 intro keep
 have e : ((k.write a b).settle keep).last = sets keep k.last 0 (k.cache ++ [(a, b)]) := rfl
 rw [e, sets_snoc]
 split
 · exact hs _ (h keep)
 · exact h keep
theorem Cov.writes {P : Secs -> Prop} : ∀ (R : List (Nat × List UInt8)) {k : DiskD}, Cov P k -> (∀ x ∈ R, ∀ L, P L -> P (L.set x.1 x.2)) -> Cov P (k.writes R)
  | [], k, h, _ => by rw [writes_nil]; exact h
  | x :: r, k, h, hs => by
    rw [<- write_writes]
    exact Cov.writes r (h.snoc (hs x (.head _))) (fun y hy => hs y (.tail _ hy))
theorem Cov.mono {P Q : Secs -> Prop} {k : DiskD} (h : Cov P k) (hs : ∀ L, P L -> Q L) : Cov Q k := fun keep => hs _ (h keep)
def full (L : Secs) (R : List (Nat × List UInt8)) : Secs := R.foldl (fun L x => L.set x.1 x.2) L
theorem full_append (L : Secs) (A B : List (Nat × List UInt8)) : full L (A ++ B) = full (full L A) B := by simp [full]
theorem full_length : ∀ (R : List (Nat × List UInt8)) (L : Secs), (full L R).length = L.length
 | [], _ => rfl
 | x :: r, L => by show (full (L.set x.1 x.2) r).length = _; rw [full_length r, List.length_set]
theorem snocList {α : Type} {motive : List α -> Prop} (nil : motive []) (snoc : ∀ l a, motive l -> motive (l ++ [a])) (l : List α) : motive l := by
 rw [<- List.reverse_reverse l]
 induction l.reverse with
 | nil => exact nil
 | cons a l ih => rw [List.reverse_cons]; exact snoc _ _ ih
theorem Rep.laid (h : Rep n e base tl ls L) : ∀ (rows : List (List UInt8)), costL ls + rows.length <= n -> (∀ r ∈ rows, r.length = 128 /\ noCmt r) ->
    Rep n e base tl ls (full L (rows.mapIdx fun i r => (2 + (tl + (costL ls + i)) % n, r))) /\ ∀ j, j < rows.length -> rows[j]? = some (sf (full L (rows.mapIdx fun i r => (2 + (tl + (costL ls + i)) % n, r))) ((tl + (costL ls + j)) % n)) := by
  intro rows
  induction rows using snocList with
  | nil => intro _ _; exact ⟨h, fun j hj => absurd hj (Nat.not_lt_zero j)⟩
  | snoc rows r ih =>
    intro hl hr
    rw [List.length_append, List.length_singleton] at hl
    obtain ⟨i1, i2⟩ := ih (by omega) (fun x hx => hr x (List.mem_append_left _ hx))
    have hrr := hr r (by simp)
    have hm := Nat.mod_lt (tl + (costL ls + rows.length)) (show 0 < n by omega)
    have hlen := i1.len
    have e1 : full L ((rows ++ [r]).mapIdx fun i r => (2 + (tl + (costL ls + i)) % n, r)) = (full L (rows.mapIdx fun i r => (2 + (tl + (costL ls + i)) % n, r))).set (2 + (tl + (costL ls + rows.length)) % n) r := by
      rw [List.mapIdx_concat, full_append]; rfl
    rw [e1]
    refine ⟨i1.put (by omega) (by omega) hrr.1 hrr.2, fun j hj => ?_⟩
    rw [List.length_append, List.length_singleton] at hj
    rw [sf_set (by omega)]
    by_cases q : j = rows.length
    · subst q; rw [if_pos rfl]; simp
    · rw [if_neg, List.getElem?_append_left (by omega)]
      · exact i2 j (by omega)
      · intro g
        have := mod_inj (a := tl) (i := costL ls + j) (j := costL ls + rows.length) (n := n) (by omega) (by omega) (by omega)
        omega
structure Live (v : WalD) (k : DiskD) (base : Nat) (ls : List (List PatD)) (m : Nat) (lg : Option (List PatD)) : Prop where
  nob : v.broken = 0
  live : k.failed = false
  used : v.used = costL ls
  next : v.next = base + ls.length
  cov : Cov (fun L => Rep v.size v.epoch base v.tail (ls.take m) L \/ Rep v.size v.epoch base v.tail ls L) k
  all : Rep v.size v.epoch base v.tail ls (full k.last k.cache)
  mle : m <= ls.length
  sure : v.sure = true -> m = ls.length /\ k.cache = []
  cap : k.cache.length <= 1
  nolg : lg = none -> v.log = none
  lgs : ∀ l, lg = some l -> v.sure = true /\ v.log = some ⟨2 * l.length + 1, (cmtP v.epoch v.next l).enc.2⟩ /\ Fine v.epoch v.next l /\ costL ls + (2 * l.length + 1) <= v.size /\ ∀ j, j < 2 * l.length -> (pairsP v.epoch v.next l.length l 0)[j]? = some (sf k.last ((v.tail + (costL ls + j)) % v.size))
variable {v : WalD} {k : DiskD} {base m : Nat} {ls : List (List PatD)} {lg : Option (List PatD)} {D : BayD} {s : Nat}
theorem Live.len (h : Live v k base ls m lg) : 2 + v.size <= k.last.length := by have := h.all.len; rwa [full_length] at this
theorem Live.size (h : Live v k base ls m lg) : 5 <= v.size /\ v.size <= 2048 := h.all.bnd
structure LifeD where
  sealed : List (List PatD)
  sure : Nat
  logged : Option (List PatD)
def LifeD.does (x : LifeD) (kind : Nat) (ps : List PatD) : LifeD := match kind with
  | 1 => ⟨x.sealed, x.sealed.length, some ps⟩
  | 2 => ⟨x.sealed ++ [x.logged.getD []], x.sure, none⟩
  | 3 => ⟨x.sealed, x.sealed.length, x.logged⟩
  | 4 => ⟨[], 0, none⟩
  | 5 => ⟨[], 0, none⟩
  | _ => x
abbrev LiveX (v : WalD) (k : DiskD) (base : Nat) (x : LifeD) : Prop := Live v k base x.sealed x.sure x.logged
def LifeD.left (x : LifeD) (kind : Nat) (ls : List (List PatD)) : Prop := (∃ c, x.sure <= c /\ c <= x.sealed.length /\ ls = x.sealed.take c) \/ ((kind = 4 \/ kind = 5) /\ ls = [])
def Lft (n E N : Nat) (x : LifeD) (kind : Nat) (k : DiskD) : Prop := Cov (fun L => ∃ e base tl ls, Rep n e base tl ls L /\ x.left kind ls /\ e <= E /\ base + ls.length <= N) k
theorem Lft.of {x : LifeD} (h : LiveX v k base x) (kind : Nat) {k' : DiskD} (hc : Cov (fun L => Rep v.size v.epoch base v.tail (x.sealed.take x.sure) L \/ Rep v.size v.epoch base v.tail x.sealed L) k') : Lft v.size v.epoch v.next x kind k' := by
 refine hc.mono fun L hL => ?_
 have hm := h.mle
 have hn := h.next
 rcases hL with hL | hL
 · exact ⟨_, _, _, _, hL, .inl ⟨x.sure, Nat.le_refl _, hm, rfl⟩, Nat.le_refl _, by rw [List.length_take]; omega⟩
 · exact ⟨_, _, _, _, hL, .inl ⟨x.sealed.length, hm, Nat.le_refl _, by rw [List.take_length]⟩, Nat.le_refl _, by omega⟩
theorem Live.left {x : LifeD} (h : LiveX v k base x) (kind : Nat) : Lft v.size v.epoch v.next x kind k := Lft.of h kind h.cov
theorem Lft.mono {n E N E' N' kind kind' : Nat} {x : LifeD} (h : Lft n E N x kind k) (h1 : E <= E') (h2 : N <= N') (h3 : kind = kind' \/ kind = 0) : Lft n E' N' x kind' k := by
 refine Cov.mono h fun L => ?_
 rintro ⟨e, b, t, ls, a, g, c, d⟩
 refine ⟨e, b, t, ls, a, ?_, by omega, by omega⟩
 rcases g with g | g
 · exact .inl g
 · exact .inr ⟨by omega, g.2⟩
theorem Live.open {n e tl : Nat} (hr : Rep n e base tl ls k.last) (hc : k.cache = []) (hf : k.failed = false) : LiveX ⟨(s : Int), e, n, tl, costL ls, base + ls.length, true, none, 0⟩ k base ⟨ls, ls.length, none⟩ :=
 ⟨rfl, hf, rfl, rfl, Cov.nil hc (.inr hr), by rw [hc]; exact hr, Nat.le_refl _, fun _ => ⟨rfl, hc⟩, by rw [hc]; exact Nat.zero_le _, fun _ => rfl, fun l q => by cases q⟩
structure OpE where
  kind : Int
  n : Int
  x : Option Addr × Nat
  pats : List PatE
  y : Option Addr × Nat
  keep : List Bool
abbrev OpE.cells (o : OpE) : List Value := [.int .i64 o.kind, .int .i64 o.n, .slice o.x.1 o.pats.length o.x.2, .slice o.y.1 o.keep.length o.y.2]
structure OpE.wf (W : World) (o : OpE) : Prop where
  rd : ∀ R, RdPats W R o.x.1 o.pats
  fit : ∀ p ∈ o.pats, p.fit
  len : o.pats.length <= 140737488351232
  keep : RdsA W 1 o.y.1 o.keep.length (bools o.keep)
  klen : o.keep.length <= 140737488351232
  nfit : -9223372036854775808 <= o.n /\ o.n <= 9223372036854775807
  kfit : -9223372036854775808 <= o.kind /\ o.kind <= 9223372036854775807
theorem costT_len : ∀ (ts : List (Nat × List PatD)), ts.length <= costT ts
  | [] => Nat.zero_le _
  | t :: r => by
    have := costT_len r
    rw [costT_cons, List.length_cons]; omega
theorem found_few {data : List UInt8} {c : ChkD} {ts : List TxnE} (h : ts.map TxnE.T = (foundM data c).2.txns) : ts.length <= 2048 /\ ∀ t ∈ ts, t.pats.length <= 1023 /\ ∀ p ∈ t.pats, p.d.data.length = 128 := by
 by_cases hb : badM data c
 ·
  have hz : foundM data c = (1, ⟨[], 0, 0, 0⟩) := if_pos hb
  rw [hz] at h
  have : ts = [] := by cases ts with | nil => rfl | cons a r => cases h
  subst this
  exact ⟨Nat.zero_le _, fun t ht => (by cases ht)⟩
 ·
  have hfnd : (foundM data c).2.txns = ofM (secB data) (data.length / 128) c.epoch (data.length / 128 + 1) c.seq 0 c.tail.toNat := by
   have : foundM data c = (0, ⟨ofM (secB data) (data.length / 128) c.epoch (data.length / 128 + 1) c.seq 0 c.tail.toNat, _, _, _⟩) := if_neg hb
   rw [this]
  rw [hfnd] at h
  have b4 : data.length / 128 <= 2048 := by
   apply Decidable.byContradiction
   intro q
   exact hb (.inr (.inr (.inr (.inl (by omega)))))
  have hc := of_cost (sec := secB data) (size := data.length / 128) (e := c.epoch) (data.length / 128 + 1) c.seq 0 c.tail.toNat (Nat.zero_le _)
  rw [<- h] at hc
  have hl := costT_len (ts.map TxnE.T)
  rw [List.length_map] at hl
  refine ⟨by omega, fun t ht => ?_⟩
  obtain ⟨i, hi, rfl⟩ := List.mem_iff_getElem.1 ht
  have h1 : (ofM (secB data) (data.length / 128) c.epoch (data.length / 128 + 1) c.seq 0 c.tail.toNat)[i]? = some ts[i].T := by rw [<- h, List.getElem?_map, List.getElem?_eq_getElem hi]; rfl
  obtain ⟨-, -, hb2⟩ := of_each _ _ _ _ _ _ h1
  have hf := ((bat_iff _ _ _ _ _).1 hb2).1
  have hn2 := hf.n2
  refine ⟨by rwa [List.length_map] at hn2, fun p hp => ?_⟩
  exact (hf.pat p.D (List.mem_map_of_mem hp)).2.2
section
variable {W w : World} {A B X : SProp} {L R : List SProp}
end
abbrev gF (x : Option Addr × Nat) (F : List ListN) : SProp := Sl.star (Sl.Own 49 1 (.slice x.1 F.length x.2) F.length (F.map ListN.hdr) :: F.map Rw.res)
abbrev gT (x : Option Addr × Nat) (T : List ListN) : SProp := Sl.star (Sl.Own 78 1 (.slice x.1 T.length x.2) T.length (T.map ListN.hdr) :: T.map Tx.res)
def eR (e : RowE) : ListE := ⟨e.ao, e.cap, bytes e.data⟩
def eP (l : List PatE) : List ListE := l.map fun p => eR p.d
def eT (l : List TxnE) : List ListE := l.flatMap fun t => eP t.pats
structure Bk where
  E : List ListE
  F : List ListN
  P : List ListN
  T : List ListN
structure Bk.ok (B : Bk) : Prop where
  E : B.E.length <= 1000000000
  F : B.F.length <= 1000000000
  P : B.P.length <= 1000000000
  T : B.T.length <= 1000000000
  e : ∀ e ∈ B.E, e.xs.length <= 1000000000
  f : ∀ e ∈ B.F, e.n <= 1000000000
  p : ∀ e ∈ B.P, e.n <= 1000000000
  t : ∀ e ∈ B.T, e.n <= 1000000000
structure WalD.okk (v : WalD) : Prop where
  ok : v.ok
  fits : ∀ g, v.log = some g -> v.used + g.cost <= v.size
theorem WalD.okk.broke {v : WalD} (h : v.okk) (e : Int) : WalD.okk { v with broken := e } := ⟨⟨h.ok.ring, h.ok.epoch, h.ok.next, h.ok.log⟩, h.fits⟩
def SameW (v v' : WalD) : Prop := ∃ e, v' = { v with broken := e }
theorem SameW.trans {a b c : WalD} (h : SameW a b) (k : SameW b c) : SameW a c := by
 obtain ⟨e, rfl⟩ := h; obtain ⟨e2, rfl⟩ := k; exact ⟨e2, rfl⟩
theorem SameW.okk {v v' : WalD} (h : SameW v v') (hv : v.okk) : v'.okk := by obtain ⟨e, rfl⟩ := h; exact hv.broke e
theorem SameW.slot {v v' : WalD} (h : SameW v v') : v'.slot = v.slot := by obtain ⟨e, rfl⟩ := h; rfl
theorem costT_pats : ∀ (ts : List TxnE), (eT ts).length <= costT (ts.map TxnE.T)
  | [] => Nat.zero_le _
  | t :: r => by
    have := costT_pats r
    rw [List.map_cons, costT_cons, show eT (t :: r) = eP t.pats ++ eT r from List.flatMap_cons .., List.length_append, show (eP t.pats).length = t.pats.length by simp [eP]]
    have e : t.T.2.length = t.pats.length := by show (t.pats.map PatE.D).length = _; rw [List.length_map]
    omega
theorem found_next {data : List UInt8} {c : ChkD} (h : (foundM data c).1 = 0) : 1 <= (foundM data c).2.next /\ (foundM data c).2.next <= 4611686018427387905 := by
  obtain ⟨n, tl, h1, h2, h3, h4, hg, he⟩ := found_facts h
  rw [he]
  dsimp only
  have hc := hg.1
  refine ⟨by have := hc.2.1; omega, ?_⟩
  cases hl : (ofM (secB data) n c.epoch (n + 1) c.seq 0 tl).length with
  | zero => have := hc.2.2; omega
  | succ m =>
    have hlt : m < (ofM (secB data) n c.epoch (n + 1) c.seq 0 tl).length := by omega
    obtain ⟨-, hb, -⟩ := of_each _ _ _ _ _ _ (List.getElem?_eq_getElem hlt)
    have hm : mostC = 4611686018427387904 := rfl
    omega
theorem read_dev {D : BayD} {k a : Int} (hk : ∀ v, D.dev k = some v -> v.k.ok) : ∀ v, (D.read k a).2.dev k = some v -> v.k.ok := by
 unfold BayD.read
 split
 ·
  rename_i h0
  obtain ⟨u, hu⟩ := refuse_devU h0
  have e : ((D.ahead k 0).setIn k.toNat (D.dv k)).dev k = some (D.dv k) := setIn_dev (u := u) (by rw [dev_slots (D.ahead_slots k 0)]; exact hu)
  intro v hv
  rw [e] at hv
  cases hv
  unfold BayD.dv
  rw [hu]
  exact use_okk (hk u hu)
 ·
  intro v hv
  rw [dev_slots (D.ahead_slots k 0)] at hv
  exact hk v hv
theorem bReads_len (slot : Int) : ∀ (L : List Int) (D : BayD) (acc : List UInt8), (∀ v, D.dev slot = some v -> v.k.ok) -> (bReads D slot L acc).1.2 = 0 -> (bReads D slot L acc).1.1.length = acc.length + 128 * L.length
  | [], D, acc, hk, h => rfl
  | a :: r, D, acc, hk, h => by
    unfold bReads at h ⊢
    split at h
    · rename_i h1; exact absurd h h1
    · rename_i h1
      rw [if_neg h1]
      have h0 : (D.read slot a).1.2 = 0 := by simpa using h1
      rw [bReads_len slot r _ _ (read_dev hk) h, List.length_append, read_128 hk h0, List.length_cons]
      omega
theorem wOpen_okk {D : BayD} (slot places : Int) (hk : ∀ v, D.dev slot = some v -> v.k.ok) {v : WalD} (h : (wOpen D slot places).1.1.1 = some v) : v.okk /\ v.slot = slot := by
 unfold wOpen at h
 split at h
 · cases h
 rename_i hs
 have hs : sizedB places = true := by simpa using hs
 have hs2 := of_decide_eq_true (show decide (5 <= places /\ places <= 2048) = true from hs)
 split at h
 · cases h
 split at h
 · cases h
 rename_i hb
 have hdt : ¬ places <= (ChkD.dec (D.read slot 1).1.1).2.tail := fun q => hb (.inr q)
 split at h
 · cases h
 rename_i hrd
 have hl := bReads_len slot (ringL places.toNat) _ [] (read_dev (a := 1) hk) (by simpa using hrd)
 rw [show (ringL places.toNat).length = places.toNat by simp [ringL]] at hl
 split at h
 · cases h
 rename_i hf
 have hf0 : (foundM (bReads (D.read slot 1).2 slot (ringL places.toNat) []).1.1 (ChkD.dec (D.read slot 1).1.1).2).1 = 0 := by simpa using hf
 have hnx := found_next hf0
 obtain ⟨n, tl, h1, h2, h3, h4, hg, he⟩ := found_facts hf0
 have hn : n = places.toNat := by simp only [List.length_nil] at hl; omega
 have hus : (foundM (bReads (D.read slot 1).2 slot (ringL places.toNat) []).1.1 (ChkD.dec (D.read slot 1).1.1).2).2.used <= n := by
  rw [he]
  have := of_cost (sec := secB (bReads (D.read slot 1).2 slot (ringL places.toNat) []).1.1) (size := n) (e := (ChkD.dec (D.read slot 1).1.1).2.epoch) (n + 1) (ChkD.dec (D.read slot 1).1.1).2.seq 0 tl (Nat.zero_le _)
  dsimp only; omega
 cases h
 refine ⟨⟨⟨⟨?_, ?_, ?_, ?_⟩, hg.1.1, hnx, fun g hg => (by cases hg)⟩, fun g hg => (by cases hg)⟩, rfl⟩
 · show 5 <= places.toNat; omega
 · show places.toNat <= 2048; omega
 · show (ChkD.dec (D.read slot 1).1.1).2.tail.toNat < places.toNat; omega
 · exact Nat.le_trans hus (Nat.le_of_eq hn)
theorem open_few {D : BayD} {slot places : Int} {ts : List TxnE} (h : ts.map TxnE.T = (wOpen D slot places).1.1.2) : ts.length <= 2048 /\ (eT ts).length <= 2048 /\ ∀ t ∈ ts, t.pats.length <= 1023 /\ ∀ p ∈ t.pats, p.d.data.length = 128 := by
 have hz : ∀ {us : List TxnE}, us.map TxnE.T = [] -> us.length <= 2048 /\ (eT us).length <= 2048 /\ ∀ t ∈ us, t.pats.length <= 1023 /\ ∀ p ∈ t.pats, p.d.data.length = 128 := fun {us} q => by
  have : us = [] := by cases us with | nil => rfl | cons a r => cases q
  subst this
  exact ⟨Nat.zero_le _, Nat.zero_le _, fun t ht => (by cases ht)⟩
 unfold wOpen at h
 split at h
 · exact hz h
 split at h
 · exact hz h
 split at h
 · exact hz h
 split at h
 · exact hz h
 split at h
 · exact hz h
 rename_i hf
 have hf0 : (foundM (bReads (D.read slot 1).2 slot (ringL places.toNat) []).1.1 (ChkD.dec (D.read slot 1).1.1).2).1 = 0 := by simpa using hf
 dsimp only at h
 obtain ⟨n, tl, h1, h2, h3, h4, hg, he⟩ := found_facts hf0
 have hc := of_cost (sec := secB (bReads (D.read slot 1).2 slot (ringL places.toNat) []).1.1) (size := n) (e := (ChkD.dec (D.read slot 1).1.1).2.epoch) (n + 1) (ChkD.dec (D.read slot 1).1.1).2.seq 0 tl (Nat.zero_le _)
 obtain ⟨f1, f2⟩ := found_few h
 rw [he] at h
 dsimp only at h
 rw [<- h] at hc
 have := costT_pats ts
 exact ⟨f1, by omega, f2⟩
abbrev arrO (b : Nat) (v : VerD) (so : Addr) (sc : Nat) (r w : Option Addr) (y : Bool) : ArrX := ⟨b, v.s.id, v.s.events, v.s.safe, v.s.role, v.s.members.toNat, v.s.chunk.toNat, v.s.stripes.toNat, v.s.ring.toNat, v.s.lazy, v.s.lost, so, sc, v.st, v.cur.toNat, r, w, !v.jr, v.jr, y⟩
abbrev rwO (b : Nat) (v : VerD) (w : Option Addr) (fa : Nat) : RwX := ⟨b, v.s.members.toNat, v.s.chunk.toNat, v.s.stripes.toNat, w, v.s.lazy, fa⟩
variable {l : List BalD} {v : VerD} {sz : Nat -> Nat} {n b sc : Nat} {so : Addr} {r w : Option Addr} {y : Bool}
theorem arr_ok (h : Chosen l v) : (arrO b v so sc r w y).ok := by
 have h1 := h.mem
 have h2 := h.len
 have h3 := h.sts
 have h4 := h.chunk
 have h5 := h.stripes
 have h6 := h.cur
 exact ⟨by dsimp only; omega, by dsimp only; omega, by dsimp only; omega, by dsimp only; omega, h.vals, by dsimp only; omega⟩
theorem arr_up (h : Chosen l v) (hn : l.length = n) (hb : ∀ i (q : i < l.length), BalOk sz n i l[i]) {k : Nat} (hk : k < v.st.length) (h2 : v.st[k] ≠ 2) : 1 + v.s.stripes.toNat * v.s.chunk.toNat <= sz k := by
 obtain ⟨x, hx, hh, e1, e2, e3⟩ := h.up k hk h2
 have h3 := h.sts
 obtain ⟨hkl, rfl⟩ := List.getElem?_eq_some_iff.1 hx
 have q := (hb k hkl).mem hh (by omega)
 rw [e2, e3] at q
 have h4 := h.chunk
 have h5 := h.stripes
 have e : ((v.s.stripes.toNat * v.s.chunk.toNat : Nat) : Int) = v.s.stripes * v.s.chunk := by
  rw [Int.natCast_mul, Int.toNat_of_nonneg (by omega), Int.toNat_of_nonneg (by omega)]
 omega
theorem arr_jr (h : Chosen l v) (hn : l.length = n) (hb : ∀ i (q : i < l.length), BalOk sz n i l[i]) (hj : v.jr = true) : 7 <= sz (n - 1) := by
 obtain ⟨x, hx, hh, e⟩ := h.jr hj
 obtain ⟨hkl, rfl⟩ := List.getElem?_eq_some_iff.1 hx
 have q := (hb _ hkl).jr hh (by omega)
 have := h.ring
 rw [<- hn]
 omega
theorem arr_fr (h : Chosen l v) {k : Nat} (hk : k < v.st.length) : (frOf (arrO b v so sc r w y)).getD k (-1) = fromOf (arrO b v so sc r w y) v.st[k] := by
 unfold frOf
 rw [List.getD_eq_getElem?_getD, List.getElem?_map, List.getElem?_eq_getElem hk]; rfl
theorem arr_fine (h : Chosen l v) (hn : l.length = n) (hb : ∀ i (q : i < l.length), BalOk sz n i l[i]) (fa : Nat) (w' : Option Addr) : FineX (rwO b v w' fa) (frOf (arrO b v so sc r w y)) sz n := by
 have h1 := h.mem
 have h2 := h.len
 have h3 := h.sts
 refine ⟨by unfold frOf; rw [List.length_map]; dsimp only; omega, by dsimp only; omega, fun i j hi hj e1 e2 => ?_, fun k row hk hrow hd => ?_⟩
 ·
  dsimp only at hi hj
  rw [arr_fr h (by omega)] at e1 e2
  refine h.one i j (by omega) (by omega) (fun q => e1 ?_) (fun q => e2 ?_)
  · rw [q]; rfl
  · rw [q]; rfl
 ·
  dsimp only at hk hrow ⊢
  refine arr_up h hn hb (k := k) (by omega) fun q => hd ?_
  unfold dwn
  rw [arr_fr h (by omega), q]
  exact ⟨by show (0 : Int) ≠ -1; decide, by show (0 : Int) <= row; omega⟩
theorem arr_loud (h : Chosen l v) (h2 : Chosen2 l v) (hn : l.length = n) (hb : ∀ i (q : i < l.length), BalOk sz n i l[i]) (hj : v.jr = true) (he : v.s.events < 4611686018427387904) (hcap : v.st.length <= sc) : Loudly (arrO b v so sc r w y) sz n := by
 have h1 := h.mem
 have h3 := h.len
 have h4 := h.sts
 have h5 := h.chunk
 have h6 := h.stripes
 have h7 := h.cur
 have h8 := h.ring
 have h9 := h2.safe
 have hl := h2.last
 obtain ⟨x, hx, hid⟩ := h2.src
 obtain ⟨i, hi, rfl⟩ := List.getElem_of_mem hx
 have hid2 := (hb i hi).fit.id
 have hfit : ∀ k : Nat, k <= v.s.members.toNat -> (ArrX.say { arrO b v so sc r w y with ev := v.s.events + 1 } k).fit := fun k hk => by
  constructor <;> simp only [ArrX.say] <;> omega
 have hok : ∀ k : Nat, k <= v.s.members.toNat -> (ArrX.say { arrO b v so sc r w y with ev := v.s.events + 1 } k).okP := fun k hk => by
  refine ⟨⟨decide_eq_true ?_, decide_eq_true ?_, ?_, ?_, ?_⟩, h2.good, ?_, ?_⟩ <;> simp only [ArrX.say, SuperD.last, List.take_length] <;> try omega
  split at hl <;> rename_i q
  · rw [if_pos q]; omega
  · rw [if_neg q]; omega
 have henc : ∀ k : Nat, k <= v.s.members.toNat -> (ArrX.say { arrO b v so sc r w y with ev := v.s.events + 1 } k).enc = (0, sealS (ArrX.say { arrO b v so sc r w y with ev := v.s.events + 1 } k).body) := fun k hk => if_pos (hok k hk)
 refine ⟨arr_ok h, by dsimp only; omega, he, hfit, fun k hk => by rw [henc k hk], fun k hk => by rw [henc k hk]; exact enc_length (okP_in (hfit k hk) (hok k hk)), ?_, fun i hi hs => ?_⟩
 ·
  have := arr_jr h hn hb hj
  have e : (arrO b v so sc r w y).m = n - 1 := by dsimp only; omega
  rw [e]; omega
 ·
  have := arr_up h hn hb hi hs
  omega
theorem chk_code (h : ChkD) : h.enc.1 = 0 \/ h.enc.1 = 80 := by
 rcases Decidable.em h.good with g | g
 · rw [chk_ok g]; exact .inl rfl
 · rw [chk_bad g]; exact .inr rfl
theorem wOpen_some {D : BayD} {slot places : Int} (h : (wOpen D slot places).1.2 = 0) : (wOpen D slot places).1.1.1.isSome = true := by
 unfold wOpen at h ⊢
 split at h
 · simp at h
 rename_i h1
 rw [if_neg h1]
 split at h
 · rename_i q; exact absurd h q
 rename_i h2
 rw [if_neg h2]
 split at h
 · simp at h
 rename_i h3
 rw [if_neg h3]
 split at h
 · rename_i q; exact absurd h q
 rename_i h4
 rw [if_neg h4]
 split at h
 · rename_i q; exact absurd h q
 rename_i h5
 rw [if_neg h5]; rfl
theorem wOpen_new {D : BayD} {slot places : Int} {v : WalD} (h : (wOpen D slot places).1.1.1 = some v) : v.broken = 0 /\ v.sure = true := by
 unfold wOpen at h
 repeat' split at h
 all_goals (cases h; try exact ⟨rfl, rfl⟩)
theorem Take.mem {r : Int} {ps l ps1 : List PatE} {r1 : Int} (h : Take r ps l r1 ps1) : (∀ p ∈ l, p ∈ ps) /\ ∀ p ∈ ps1, p ∈ ps := by
  induction h with
  | nil => exact ⟨fun p h => absurd h List.not_mem_nil, fun p h => h⟩
  | snoc h hp hn ih =>
    refine ⟨fun q hq => ?_, fun q hq => ih.2 q (List.mem_filter.1 hq).1⟩
    rcases List.mem_append.1 hq with h | h
    · exact ih.1 q h
    · rw [List.mem_singleton.1 h]; exact ih.2 _ hp
theorem found_in {data : List UInt8} {c : ChkD} {ts : List TxnE} (h : ts.map TxnE.T = (foundM data c).2.txns) : ∀ t ∈ ts, ∀ p ∈ t.pats, p.In := by
 by_cases hb : badM data c
 ·
  have hz : foundM data c = (1, ⟨[], 0, 0, 0⟩) := if_pos hb
  rw [hz] at h
  have : ts = [] := by cases ts with | nil => rfl | cons a r => cases h
  subst this
  exact fun t ht => (by cases ht)
 ·
  have hfnd : (foundM data c).2.txns = ofM (secB data) (data.length / 128) c.epoch (data.length / 128 + 1) c.seq 0 c.tail.toNat := by
   have : foundM data c = (0, ⟨ofM (secB data) (data.length / 128) c.epoch (data.length / 128 + 1) c.seq 0 c.tail.toNat, _, _, _⟩) := if_neg hb
   rw [this]
  rw [hfnd] at h
  intro t ht p hp
  obtain ⟨i, hi, rfl⟩ := List.mem_iff_getElem.1 ht
  have h1 : (ofM (secB data) (data.length / 128) c.epoch (data.length / 128 + 1) c.seq 0 c.tail.toNat)[i]? = some ts[i].T := by rw [<- h, List.getElem?_map, List.getElem?_eq_getElem hi]; rfl
  obtain ⟨-, -, hb2⟩ := of_each _ _ _ _ _ _ h1
  have hf := ((bat_iff _ _ _ _ _).1 hb2).1
  obtain ⟨q1, q2, q3⟩ := hf.pat p.D (List.mem_map_of_mem hp)
  exact ⟨q1, q2, q3⟩
theorem open_in {D : BayD} {slot places : Int} {ts : List TxnE} (h : ts.map TxnE.T = (wOpen D slot places).1.1.2) : ∀ t ∈ ts, ∀ p ∈ t.pats, p.In := by
 have hz : ∀ {us : List TxnE}, us.map TxnE.T = [] -> ∀ t ∈ us, ∀ p ∈ t.pats, p.In := fun {us} q => by
  have : us = [] := by cases us with | nil => rfl | cons a r => cases q
  subst this
  exact fun t ht => (by cases ht)
 unfold wOpen at h
 repeat' split at h
 all_goals first | exact hz h | exact found_in h
end Go.Proofs.YtjebagmjcdaegaaGreat
/-! Text Ss. -/
namespace Go.Sl
open Go Go.RowKit
section
variable {W : World} {P : Program} {n : Nat} {m : Md} {c : Code} {Q : Exit -> Act -> World -> Prop} {H H' L R G G' : List SProp} {f F : Fr} {N : List SProp -> Fr -> Prop}
variable {dst : Option Tmp} {ty_ : TypeId} {pos : String} {after : Array Edge} {guard : Option (Nat × Bool)} {mv ord r : List Nat} {tl i x d e : Nat} {X : Nat -> SProp} {vx : Nat -> Value}
theorem VR.plain (h : VC W P n c (shR (Md.mk none []).df Q) H f) : VR W P n ⟨none, []⟩ c Q H f := by
 unfold VC at h
 unfold VR
 intro hno t w hk hw
 refine wpIn_wide.2 (Code.wp_mono ?_ (h t w hk hw))
 intro e a w' q
 unfold shR at q
 have q := q hno
 have e2 : plusA a [] = a := by unfold plusA; rw [List.append_nil]
 rwa [e2] at q
theorem VF.leave0 {fn : Func} {rv rv2 : ResultVar} {v v2 : Value} {e : Exit} {β : Type} {A : β -> Prop} {r : β -> Value} {G : β -> List SProp} (he : e = .ret \/ e = .normal) (x : β) (hn : fn.results = #[rv, rv2]) (h1 : ResIs W P H f rv v) (h2 : ResIs W P H f rv2 v2) (hA : A x) (hv : .tuple #[v, v2] = r x) (hH : Ent W H (G x)) :
  VF W n ⟨none, []⟩ (bodyPostD P fn (Post W A r G)) e H f := by
 unfold VF
 intro _ t w hk hw
 rcases he with rfl | rfl <;> exact ⟨_, run_results2 hn h1 h2 hk hw, x, hA, by rw [hv], hH _ hw⟩
theorem FloatX.allocZ {t : TypeId} {z : Value} {cs : List Value} (hz : ∀ w, (zeroValue t).run P w = .ok z w) (hcs : z.cells = cs.toArray) (hd : Nat.blt d n = true) : FloatX W P n { dst := some d, op := .alloc t, type := ty_, pos, after, guard := none } d (fun b => Row b t cs) (fun b => .pointer (some ⟨b, 0, none⟩)) :=
 ⟨fun Q H f N h => OpV.alloc hz hcs hd h, rfl⟩
theorem Does.under {g : FuncId} {args : List Value} {K : SProp} {β : Type} {A : β -> Prop} {r : β -> Value} {S : β -> List SProp} (h : ∀ R, Does W P g args (K :: R) A r (fun x => S x ++ R)) (M R : List SProp) : Does W P g args (M ++ K :: R) A r (fun x => M ++ (S x ++ R)) :=
 DoesE (fun w hw => hw.perm List.perm_middle) (Does.mono (h (M ++ R)) (fun x => x) (fun _ q => q) (fun _ _ => rfl) (fun x _ w hw => hw.perm (List.perm_append_comm_assoc _ _ _)))
theorem VX.callM {ox : Oper} {y : Operand} {xs : Array Operand} {ats : Array TypeId} {g : FuncId} {cap : Array Value} {vs : List Value} {β : Type} {A : β -> Prop} {rv : β -> Value} {K : SProp} {S : β -> List SProp}
  (ho : (regOps c)[i]? = some { dst := some e, op := .call { callee := .value y, args := xs, argTypes := ats }, type := ty_, pos, after, guard }) (hix : Nat.beq i x = false) (hm : mv.contains i = true) (hg : wantX (regOps c) guard f = some true)
  (hx : evalX f y = some (.func (.func g) #[] cap)) (ha : argsX f xs.toList = some vs) (hc : ∀ a w, (callFunc g a).run P w = .ok (.enter g a) w) (spec : ∀ R, Does W P g (vs ++ cap.toList) (K :: R) A rv (fun x => S x ++ R)) (hH : Reord H (K :: H'))
  (hox : (regOps c)[x]? = some ox) (fx : FloatX W P n ox d X vx) (hR : Ent W H R) (hR' : ∀ z, A z -> Ent W (S z ++ H') R) (hd : Nat.blt e n = true) (hfd : look f d = none) (hed : Nat.beq e d = false) (h : ∀ z, A z -> VX W P n c R mv tl x d X vx r Q (S z ++ H') ((e, rv z) :: f)) : VX W P n c R mv tl x d X vx (i :: r) Q H f := by
 have hne : i ≠ x := by intro q; subst q; simp at hix
 have second : ∀ b t w, Knows n ((d, vx b) :: f) t -> Holds W (X b :: H) w -> wpSched P (regOps c).toArray Q (Holds W R) mv tl (i :: r.erase x) ⟨t, []⟩ w := by
  intro b t w hk hw
  have hk' := hk.under hfd
  refine .inl ⟨by unfold mvB; rw [hm]; rfl, ?_⟩
  unfold wpOp
  simp only [List.getElem?_toArray, ho]
  rw [if_pos (hk'.wanted (o := { dst := some e, op := .call { callee := .value y, args := xs, argTypes := ats }, type := ty_, pos, after, guard }) hg)]
  have hs := Does.under spec [X b] H'
  refine .inl ?_
  have hargs : xs.map (Act.eval ⟨t, []⟩) = vs.toArray := by
   have := hk'.args ha
   apply Array.ext'
   simpa using this
  unfold Does at hs
  have hs := hs w ((Reord.ent (Reord.cons .head hH)) w hw)
  unfold Oper.wp execOp
  simp only [resolve, hk'.eval hx, hargs, Deferred.ofValue, invoke, Sem.run_bind, Sem.run_pure, Result.andThen_ok, hc, Oper.upon]
  have e9 : #[] ++ vs.toArray ++ cap = (vs ++ cap.toList).toArray := by simp
  rw [e9]
  refine Calls.mono hs ?_
  rintro e8 w' ⟨z, hA, rfl, hG⟩
  have h2 := h z hA
  unfold VX at h2
  exact ⟨fun _ => hR' z hA _ hG.tail, h2.2 b _ w' ((hk.put hd).swap hed) hG⟩
 unfold VX
 refine ⟨fun t w hk hw => .inr (.inl ⟨hne, hm, ?_, ?_⟩), fun b t w hk hw => by rw [List.erase_cons_tail (by simpa using hne)]; exact second b t w hk hw⟩
 ·
  unfold wpOp
  simp only [List.getElem?_toArray, ho]
  rw [if_pos (hk.wanted (o := { dst := some e, op := .call { callee := .value y, args := xs, argTypes := ats }, type := ty_, pos, after, guard }) hg)]
  have := OpV.call (W := W) (n := n) (d := e) (ty_ := ty_) (pos := pos) (after := after) (guard := guard) (ats := ats) (Q := calmQ Q) (f := f) (H := H) (N := fun H0 f' => ∃ z, A z /\ H0 = S z ++ H' /\ f' = (e, rv z) :: f) hx ha hc (spec H') (Reord.ent hH) hd (fun z hz => ⟨z, hz, rfl, rfl⟩)
  unfold OpV at this
  refine .inl (this t w hk hw _ ?_)
  rintro H0 f' ⟨z, hz, rfl, rfl⟩ t' w' hk' hw'
  have h2 := h z hz
  unfold VX at h2
  exact ⟨hR' z hz _ hw', h2.1 t' w' hk' hw'⟩
 ·
  unfold wpOp
  simp only [List.getElem?_toArray, hox]
  rw [if_pos (by unfold Region.wanted; rw [fx.guard])]
  have := fx.run (calmQ Q) H f (fun H0 f' => ∃ b, H0 = X b :: H /\ f' = (d, vx b) :: f) (fun b => ⟨b, rfl, rfl⟩)
  unfold OpV at this
  refine .inl (this t w hk hw _ ?_)
  rintro H0 f' ⟨b, rfl, rfl⟩ t' w' hk' hw'
  exact ⟨hR _ hw'.tail, second b t' w' hk' hw'⟩
end
end Go.Sl
