/- Checksums: the program's half, More, Sum; the document's through, More, Sum. -/
import Derived.Test.YtlojjlbngnaphaaEa
import Derived.Test.YtlojjlbngnaphaaSk
set_option maxRecDepth 8000
set_option linter.unusedVariables false
set_option linter.unusedSimpArgs false
set_option linter.unusedSectionVars false
namespace Go.Sl
open Go Go.RowKit
section
variable {W : World} {P : Program} {n : Nat} {H : List SProp} {f : Fr} {dst : Option Tmp} {ty_ : TypeId} {pos : String} {after : Array Edge} {guard : Option (Nat × Bool)}
/-- A number of 32 bits. -/
def u32V (c : BitVec 32) : Value := .int .u32 (c.toNat : Int)
theorem PureAt.indexArr {T : TabData} {x y : Operand} {t e : TypeId} {k : IntKind} {b o m j : Nat} (hT : T.ok P = true) (ht : P.underlying t = some (.array m e)) (hx : evalX f x = some (.pointer (some ⟨b, o, none⟩))) (hy : evalX f y = some (.int k (j : Int)))
    (hl : assoc T.leaf e = some ()) (hj : j < m) : PureAt W P n H f { dst, op := .indexAddr t x y, type := ty_, pos, after, guard } (.pointer (some ⟨b, o + j, none⟩)) := by
  unfold PureAt
  intro tm w hk _
  have h1 : (0 : Int) ≤ j ∧ (j : Int) < m := ⟨by omega, by omega⟩
  have h2 : (⟨b, o, none⟩ : Addr).add j = ⟨b, o + j, none⟩ := by unfold Addr.add; split <;> simp_all
  simp [execOp, hk.eval hx, hk.eval hy, Instr.indexAt, Instr.sureAddr, asIntOf, run_underlying ht, (T.leaf_ok hT hl).2, h1, h2]
  intro h; omega
theorem ofInt32 (c : BitVec 32) : BitVec.ofInt 32 (c.toNat : Int) = c := by
  rw [BitVec.ofInt_natCast, BitVec.ofNat_toNat, BitVec.setWidth_eq]
theorem wrapB32 (c : BitVec 32) : IntKind.u32.wrap (c.toNat : Int) = c.toNat := by
  have := c.isLt
  rw [IntKind.wrap_u32]; omega
theorem PureAt.not32 {x : Operand} {s : TypeId} {c : BitVec 32} (hx : evalX f x = some (u32V c)) : PureAt W P n H f { dst, op := .unOp .xor s x, type := ty_, pos, after, guard } (u32V (~~~c)) := by
  unfold PureAt
  intro tm w hk _
  have e : (4294967295#32 ^^^ c) = ~~~c := by
    apply BitVec.eq_of_getLsbD_eq
    intro i hi
    have hc : ∀ j : Fin 32, (4294967295#32).getLsbD j.1 = true := by decide
    rw [BitVec.getLsbD_xor, BitVec.getLsbD_not, hc ⟨i, hi⟩]
    simp [hi]
  have e2 : IntKind.u32.wrap ((BitVec.ofInt 32 4294967295 ^^^ BitVec.ofInt 32 (c.toNat : Int)).toNat : Int) = ((~~~c).toNat : Int) := by
    rw [ofInt32, show BitVec.ofInt 32 4294967295 = 4294967295#32 from rfl, e, wrapB32]
  unfold execOp
  simp only [hk.eval hx, u32V]
  have e3 : (Op.unary .xor (.int .u32 (c.toNat : Int))).run P w = .ok (.int .u32 ((~~~c).toNat : Int)) w := by
    rw [← e2]; rfl
  simp only [Sem.run_bind, e3, Result.andThen_ok, Sem.run_pure]
end
end Go.Sl
namespace Go.Proofs.Ytlojjlbngnaphaa
open Go.RowKit Go.Sl
attribute [local irreducible] Own

theorem xor32 (a b : BitVec 32) : IntKind.u32.wrap ((BitVec.ofInt IntKind.u32.bits (a.toNat : Int) ^^^ BitVec.ofInt IntKind.u32.bits (b.toNat : Int)).toNat : Int) = ((a ^^^ b).toNat : Int) := by
  show IntKind.u32.wrap ((BitVec.ofInt 32 _ ^^^ BitVec.ofInt 32 _).toNat : Int) = _
  rw [ofInt32, ofInt32, wrapB32]
theorem and32 (a b : BitVec 32) : IntKind.u32.wrap ((BitVec.ofInt IntKind.u32.bits (a.toNat : Int) &&& BitVec.ofInt IntKind.u32.bits (b.toNat : Int)).toNat : Int) = ((a &&& b).toNat : Int) := by
  show IntKind.u32.wrap ((BitVec.ofInt 32 _ &&& BitVec.ofInt 32 _).toNat : Int) = _
  rw [ofInt32, ofInt32, wrapB32]
theorem shr32 (a : BitVec 32) (k : Nat) : ((a.toNat / 2 ^ k : Nat) : Int) = ((a >>> k).toNat : Int) := by
  rw [BitVec.toNat_ushiftRight, Nat.shiftRight_eq_div_pow]

theorem rthrough_ok {W : World} {R : List SProp} (c : BitVec 32) (k : Nat) (hk : k ≤ 1000) :
    Does1 W Try.prog 86 [.int .u32 (c.toNat : Int), .int .i64 k] R (.int .u32 ((stpN k c).toNat : Int)) R := by
  (refine Does.enter Try.func86 Try.ntmps86 rfl rfl ?_)
  (refine w ?_; repeat ((first | refine VO.step rfl rfl ?_ | refine VD.end rfl rfl rfl ?_ | refine VD.mid rfl rfl rfl ?_); refine OpV.box rfl rfl rfl ?_; intro _; refine w ?_))
  refine VC.loop (α := Nat) (fun i => i ≤ k) (fun _ => R) (fun i => [(0, .int .u32 ((stpN i c).toNat : Int)), (1, .int .i64 k), (5, .int .i64 i)]) (fun i => k - i) rfl 0 (Nat.zero_le _) Ent.refl ⟨rfl, rfl, rfl, trivial⟩ ?_
  intro i hi
  (refine w ?_; repeat ((first | refine VO.step rfl rfl ?_ | refine VD.end rfl rfl rfl ?_ | refine VD.mid rfl rfl rfl ?_); refine OpV.box rfl rfl rfl ?_; intro _; refine w ?_))
  (refine VC.cond rfl rfl ?_ ?_ <;> intro hc)
  · have hlt : i < k := by have := of_decide_eq_true hc; omega
    have hst : stpN (i + 1) c = stp (stpN i c) := by rw [stpN_add]; rfl
    generalize stpN i c = m at *
    have hand : IntKind.u32.wrap ((BitVec.ofInt IntKind.u32.bits (m.toNat : Int) &&& BitVec.ofInt IntKind.u32.bits 1).toNat : Int) = ((m &&& 1#32).toNat : Int) := and32 m 1#32
    have hb : (((m &&& 1#32).toNat : Int) == 1) = m.getLsbD 0 := by
      have e : m &&& 1#32 = if m.getLsbD 0 then 1#32 else 0#32 := by
        apply BitVec.eq_of_getLsbD_eq
        intro j hj
        rw [BitVec.getLsbD_and]
        cases j with
        | zero => cases m.getLsbD 0 <;> simp
        | succ j => cases m.getLsbD 0 <;> simp
      rw [e]; cases m.getLsbD 0 <;> rfl
    (refine w ?_; repeat ((first | refine VO.step rfl rfl ?_ | refine VD.end rfl rfl rfl ?_ | refine VD.mid rfl rfl rfl ?_); refine OpV.box rfl rfl rfl ?_; intro _; refine w ?_))
    refine VC.re 13 (.bool (m.getLsbD 0)) rfl (by rw [hand, hb]) ?_
    have hs1 : (((m.toNat / 2 ^ (1 : Int).toNat : Nat)) : Int) = ((m >>> 1).toNat : Int) := shr32 m 1
    cases hbit : m.getLsbD 0
    · have hst2 : stp m = m >>> 1 := stp_even m hbit
      (refine w ?_; repeat ((first | refine VO.step rfl rfl ?_ | refine VD.end rfl rfl rfl ?_ | refine VD.mid rfl rfl rfl ?_); refine OpV.box rfl rfl rfl ?_; intro _; refine w ?_))
      refine VE.round (i + 1) (by omega) (by omega) ⟨asV rfl (by rw [hst, hst2, hs1]), rfl, asV rfl (by congr 1), trivial⟩ Ent.refl
    · have hst2 : stp m = (m >>> 1) ^^^ crcPoly := by unfold stp; rw [hbit]; rfl
      (refine w ?_; repeat ((first | refine VO.step rfl rfl ?_ | refine VD.end rfl rfl rfl ?_ | refine VD.mid rfl rfl rfl ?_); refine OpV.box rfl rfl rfl ?_; intro _; refine w ?_))
      refine VE.round (i + 1) (by omega) (by omega) ⟨asV rfl (by rw [hst, hst2, hs1]; exact congrArg (Value.int .u32) (xor32 (m >>> 1) crcPoly)), rfl, asV rfl (by congr 1), trivial⟩ Ent.refl
  · have hge : i = k := by have := of_decide_eq_false hc; omega
    subst hge
    (refine w ?_; repeat ((first | refine VO.step rfl rfl ?_ | refine VD.end rfl rfl rfl ?_ | refine VD.mid rfl rfl rfl ?_); refine OpV.box rfl rfl rfl ?_; intro _; refine w ?_))
    (refine VE.done1 rfl ?_ ?_)
    · rfl
    · exact Ent.refl

theorem byte32 (c : UInt8) : (c.toNat : Int) = ((BitVec.ofNat 32 c.toNat).toNat : Int) := by
  rw [BitVec.toNat_ofNat, Nat.mod_eq_of_lt (by have := c.toNat_lt; omega)]
theorem crcF_snoc (n : BitVec 32) (l : List UInt8) (c : UInt8) : crcF n (l ++ [c]) = crcB (crcF n l) c := by simp [crcF]
theorem rmore_ok {W : World} {R : List SProp} {ao : Option Addr} {cap : Nat} {l : List UInt8} (c : BitVec 32) (hr : Rds W R 1 ao l.length (bytes l)) (hl : l.length ≤ 1099511627776) :
    Does1 W Try.prog 62 [.int .u32 (c.toNat : Int), .slice ao l.length cap] R (.int .u32 ((crcM c l).toNat : Int)) R := by
  (refine Does.enter Try.func62 Try.ntmps62 rfl rfl ?_)
  (refine w ?_; repeat ((first | refine VO.step rfl rfl ?_ | refine VD.end rfl rfl rfl ?_ | refine VD.mid rfl rfl rfl ?_); refine OpV.box rfl rfl rfl ?_; intro _; refine w ?_))
  (first | refine VO.pure rfl rfl (PureAt.not32 (c := c) rfl) rfl ?_ | refine VD.take rfl rfl rfl (PureAt.not32 (c := c) rfl) rfl ?_ | refine VQ.pure rfl rfl (PureAt.not32 (c := c) rfl) rfl ?_ | refine VD.end rfl rfl rfl (OpV.pure (PureAt.not32 (c := c) rfl) rfl ?_))
  unfold u32V
  (refine w ?_; repeat ((first | refine VO.step rfl rfl ?_ | refine VD.end rfl rfl rfl ?_ | refine VD.mid rfl rfl rfl ?_); refine OpV.box rfl rfl rfl ?_; intro _; refine w ?_))
  refine VC.loop (α := Nat) (fun i => i ≤ l.length) (fun _ => R) (fun i => [(1, .slice ao l.length cap), (5, .int .u32 ((crcF (~~~c) (l.take i)).toNat : Int)), (6, .int .i64 i)]) (fun i => l.length - i) rfl 0 (Nat.zero_le _) Ent.refl ⟨rfl, rfl, rfl, trivial⟩ ?_
  intro i hi
  (refine w ?_; repeat ((first | refine VO.step rfl rfl ?_ | refine VD.end rfl rfl rfl ?_ | refine VD.mid rfl rfl rfl ?_); refine OpV.box rfl rfl rfl ?_; intro _; refine w ?_))
  (refine VC.cond rfl rfl ?_ ?_ <;> intro hc)
  · have hlt : i < l.length := by have := of_decide_eq_true hc; omega
    obtain ⟨a, rfl⟩ : ∃ a, ao = some a := by cases ao with | none => have := hr.nil rfl; omega | some a => exact ⟨a, rfl⟩
    have hst : crcF (~~~c) (l.take (i + 1)) = crcB (crcF (~~~c) (l.take i)) l[i] := by rw [List.take_succ_eq_append_getElem hlt, crcF_snoc]
    have hb1 := hr
    (refine w ?_; repeat ((first | refine VO.step rfl rfl ?_ | refine VD.end rfl rfl rfl ?_ | refine VD.mid rfl rfl rfl ?_); refine OpV.box rfl rfl rfl ?_; intro _; refine w ?_))
    refine VO.re 21 (.int .u32 (((crcF (~~~c) (l.take i)) ^^^ BitVec.ofNat 32 l[i].toNat).toNat : Int)) rfl (by rw [byte32, wrapB32]; exact congrArg (Value.int .u32) (xor32 _ _)) ?_
    ((first | refine VO.step rfl rfl ?_ | refine VD.end rfl rfl rfl ?_ | refine VD.mid rfl rfl rfl ?_); refine OpV.call rfl rfl (fun _ _ => by simp) (rthrough_ok _ 8 (by omega)) Ent.refl rfl ?_; intro _ _)
    (refine w ?_; repeat ((first | refine VO.step rfl rfl ?_ | refine VD.end rfl rfl rfl ?_ | refine VD.mid rfl rfl rfl ?_); refine OpV.box rfl rfl rfl ?_; intro _; refine w ?_))
    refine VE.round (i + 1) (by omega) (by omega) ⟨rfl, asV rfl (by rw [hst]; rfl), asV rfl (by congr 1), trivial⟩ Ent.refl
  · have hge : i = l.length := by have := of_decide_eq_false hc; omega
    subst hge
    rw [List.take_of_length_le (Nat.le_refl _)]
    (refine w ?_; repeat ((first | refine VO.step rfl rfl ?_ | refine VD.end rfl rfl rfl ?_ | refine VD.mid rfl rfl rfl ?_); refine OpV.box rfl rfl rfl ?_; intro _; refine w ?_))
    (first | refine VO.pure rfl rfl (PureAt.not32 (c := crcF (~~~c) l) rfl) rfl ?_ | refine VD.take rfl rfl rfl (PureAt.not32 (c := crcF (~~~c) l) rfl) rfl ?_ | refine VQ.pure rfl rfl (PureAt.not32 (c := crcF (~~~c) l) rfl) rfl ?_ | refine VD.end rfl rfl rfl (OpV.pure (PureAt.not32 (c := crcF (~~~c) l) rfl) rfl ?_))
    unfold u32V
    (refine w ?_; repeat ((first | refine VO.step rfl rfl ?_ | refine VD.end rfl rfl rfl ?_ | refine VD.mid rfl rfl rfl ?_); refine OpV.box rfl rfl rfl ?_; intro _; refine w ?_))
    (refine VE.done1 rfl ?_ ?_)
    · rfl
    · exact Ent.refl
theorem rsum_ok {W : World} {R : List SProp} {ao : Option Addr} {cap : Nat} {l : List UInt8} (hr : Rds W R 1 ao l.length (bytes l)) (hl : l.length ≤ 1099511627776) :
    Does1 W Try.prog 29 [.slice ao l.length cap] R (.int .u32 ((crcS l).toNat : Int)) R := by
  (refine Does.enter Try.func29 Try.ntmps29 rfl rfl ?_)
  (refine w ?_; repeat ((first | refine VO.step rfl rfl ?_ | refine VD.end rfl rfl rfl ?_ | refine VD.mid rfl rfl rfl ?_); refine OpV.box rfl rfl rfl ?_; intro _; refine w ?_))
  ((first | refine VO.step rfl rfl ?_ | refine VD.end rfl rfl rfl ?_ | refine VD.mid rfl rfl rfl ?_); refine OpV.call rfl rfl (fun _ _ => by simp) (rmore_ok 0#32 hr hl) Ent.refl rfl ?_)
  intro _ _
  (refine w ?_; repeat ((first | refine VO.step rfl rfl ?_ | refine VD.end rfl rfl rfl ?_ | refine VD.mid rfl rfl rfl ?_); refine OpV.box rfl rfl rfl ?_; intro _; refine w ?_))
  (refine VE.done1 rfl ?_ ?_)
  · rfl
  · exact Ent.refl

/-! ### The program's, by a table -/
def tabV (i : Nat) : List Value := (List.range 16).map fun j => if j < i then .int .u32 ((stpN 4 (BitVec.ofNat 32 j)).toNat : Int) else .int .u32 0
theorem tabV_length (i : Nat) : (tabV i).length = 16 := by simp [tabV]
theorem tabV_one (i : Nat) : ∀ u ∈ tabV i, u.oneCell' = true := by
  intro u hu
  obtain ⟨j, -, rfl⟩ := List.mem_map.1 hu
  split <;> rfl
theorem tabV_set (i : Nat) (h : i < 16) : (tabV i).set i (.int .u32 ((stpN 4 (BitVec.ofNat 32 i)).toNat : Int)) = tabV (i + 1) := by
  apply List.ext_getElem (by simp [tabV])
  intro j h1 h2
  have hj : j < 16 := by rw [tabV_length] at h2; exact h2
  rw [List.getElem_set]
  simp only [tabV, List.getElem_map, List.getElem_range]
  by_cases e : i = j
  · subst e; rw [if_pos rfl, if_pos (by omega)]
  · rw [if_neg e]
    by_cases q : j < i
    · rw [if_pos q, if_pos (by omega)]
    · rw [if_neg q, if_neg (by omega)]
theorem tabV_get (j : Nat) (h : j < 16) : (tabV 16)[j]? = some (.int .u32 ((stpN 4 (BitVec.ofNat 32 j)).toNat : Int)) := by simp [tabV, h]
theorem mul32 (m : BitVec 32) : IntKind.u32.wrap (2197175160 * ((m &&& 1#32).toNat : Int)) = ((if m.getLsbD 0 then crcPoly else 0#32).toNat : Int) := by
  have e : m &&& 1#32 = if m.getLsbD 0 then 1#32 else 0#32 := by
    apply BitVec.eq_of_getLsbD_eq
    intro j hj
    rw [BitVec.getLsbD_and]
    cases j with
    | zero => cases m.getLsbD 0 <;> simp
    | succ j => cases m.getLsbD 0 <;> simp
  rw [e]
  cases m.getLsbD 0
  · rw [IntKind.wrap_u32]; rfl
  · rw [IntKind.wrap_u32]; rfl
theorem half_ok {W : World} {R : List SProp} : Does1 W Try.prog 92 [] R (.agg (tabV 16).toArray) R := by
  (refine Does.enter Try.func92 Try.ntmps92 rfl rfl ?_)
  (refine w ?_; repeat ((first | refine VO.step rfl rfl ?_ | refine VD.end rfl rfl rfl ?_ | refine VD.mid rfl rfl rfl ?_); refine OpV.box rfl rfl rfl ?_; intro _; refine w ?_))
  (first | refine VO.step rfl rfl ?_ | refine VD.end rfl rfl rfl ?_ | refine VD.mid rfl rfl rfl ?_)
  refine OpV.alloc (z := .agg (tabV 0).toArray) (cs := tabV 0) (fun w => by simp; rfl) rfl rfl ?_
  intro nb
  (refine w ?_; repeat ((first | refine VO.step rfl rfl ?_ | refine VD.end rfl rfl rfl ?_ | refine VD.mid rfl rfl rfl ?_); refine OpV.box rfl rfl rfl ?_; intro _; refine w ?_))
  refine VC.loop (α := Nat) (fun i => i ≤ 16) (fun i => Row nb 167 (tabV i) :: R) (fun i => [(0, .pointer (some ⟨nb, 0, none⟩)), (3, .int .i64 i)]) (fun i => 16 - i) rfl 0 (Nat.zero_le _) Ent.refl ⟨rfl, rfl, trivial⟩ ?_
  intro i hi
  (refine w ?_; repeat ((first | refine VO.step rfl rfl ?_ | refine VD.end rfl rfl rfl ?_ | refine VD.mid rfl rfl rfl ?_); refine OpV.box rfl rfl rfl ?_; intro _; refine w ?_))
  (refine VC.cond rfl rfl ?_ ?_ <;> intro hc)
  · have hlt : i < 16 := by have := of_decide_eq_true hc; omega
    have h0 : IntKind.u32.wrap (i : Int) = ((BitVec.ofNat 32 i).toNat : Int) := by
      rw [IntKind.wrap_u32, BitVec.toNat_ofNat]; omega
    (refine w ?_; repeat ((first | refine VO.step rfl rfl ?_ | refine VD.end rfl rfl rfl ?_ | refine VD.mid rfl rfl rfl ?_); refine OpV.box rfl rfl rfl ?_; intro _; refine w ?_))
    refine VC.re 2 (.int .u32 ((BitVec.ofNat 32 i).toNat : Int)) rfl (by rw [h0]) ?_
    refine VC.loop (α := Nat) (fun k => k ≤ 4) (fun _ => Row nb 167 (tabV i) :: R) (fun k => [(0, .pointer (some ⟨nb, 0, none⟩)), (1, .int .i64 i), (2, .int .u32 ((stpN k (BitVec.ofNat 32 i)).toNat : Int)), (3, .int .i64 i), (8, .int .i64 k)]) (fun k => 4 - k) rfl 0 (Nat.zero_le _) Ent.refl ⟨rfl, rfl, rfl, rfl, rfl, trivial⟩ ?_
    intro k hk
    (refine w ?_; repeat ((first | refine VO.step rfl rfl ?_ | refine VD.end rfl rfl rfl ?_ | refine VD.mid rfl rfl rfl ?_); refine OpV.box rfl rfl rfl ?_; intro _; refine w ?_))
    (refine VC.cond rfl rfl ?_ ?_ <;> intro hc)
    · have hkt : k < 4 := by have := of_decide_eq_true hc; omega
      have hst : stpN (k + 1) (BitVec.ofNat 32 i) = stp (stpN k (BitVec.ofNat 32 i)) := by rw [stpN_add]; rfl
      generalize stpN k (BitVec.ofNat 32 i) = m at *
      have hs1 : (((m.toNat / 2 ^ (1 : Int).toNat : Nat)) : Int) = ((m >>> 1).toNat : Int) := shr32 m 1
      have hand : IntKind.u32.wrap ((BitVec.ofInt IntKind.u32.bits (m.toNat : Int) &&& BitVec.ofInt IntKind.u32.bits 1).toNat : Int) = ((m &&& 1#32).toNat : Int) := and32 m 1#32
      (refine w ?_; repeat ((first | refine VO.step rfl rfl ?_ | refine VD.end rfl rfl rfl ?_ | refine VD.mid rfl rfl rfl ?_); refine OpV.box rfl rfl rfl ?_; intro _; refine w ?_))
      refine VE.round (k + 1) (by omega) (by omega) ⟨rfl, rfl, asV rfl ?_, rfl, asV rfl (by congr 1), trivial⟩ Ent.refl
      rw [hst, hand, mul32, hs1]
      exact congrArg (Value.int .u32) (xor32 (m >>> 1) _)
    · have hge : k = 4 := by have := of_decide_eq_false hc; omega
      subst hge
      (refine w ?_; repeat ((first | refine VO.step rfl rfl ?_ | refine VD.end rfl rfl rfl ?_ | refine VD.mid rfl rfl rfl ?_); refine OpV.box rfl rfl rfl ?_; intro _; refine w ?_))
      (first | refine VO.pure rfl rfl (PureAt.indexArr tab_ok Try.underlying167 rfl rfl rfl hlt) rfl ?_ | refine VD.take rfl rfl rfl (PureAt.indexArr tab_ok Try.underlying167 rfl rfl rfl hlt) rfl ?_ | refine VQ.pure rfl rfl (PureAt.indexArr tab_ok Try.underlying167 rfl rfl rfl hlt) rfl ?_ | refine VD.end rfl rfl rfl (OpV.pure (PureAt.indexArr tab_ok Try.underlying167 rfl rfl rfl hlt) rfl ?_))
      (first | refine VO.step rfl rfl ?_ | refine VD.end rfl rfl rfl ?_ | refine VD.mid rfl rfl rfl ?_)
      refine OpV.st (cs := tabV i) tab_ok rfl rfl rfl rfl .head (by rw [tabV_length]; omega) ?_
      rw [show (tabV i).set (0 + i) (.int .u32 ((stpN 4 (BitVec.ofNat 32 i)).toNat : Int)) = tabV (i + 1) by rw [Nat.zero_add]; exact tabV_set i hlt]
      (refine w ?_; repeat ((first | refine VO.step rfl rfl ?_ | refine VD.end rfl rfl rfl ?_ | refine VD.mid rfl rfl rfl ?_); refine OpV.box rfl rfl rfl ?_; intro _; refine w ?_))
      exact VE.round (i + 1) (by omega) (by omega) ⟨rfl, asV rfl (by congr 1), trivial⟩ Ent.refl
  · have hge : i = 16 := by have := of_decide_eq_false hc; omega
    subst hge
    have ht : List.take 16 (List.drop 0 (tabV 16)) = tabV 16 := by rw [List.drop_zero, List.take_of_length_le (by rw [tabV_length]; exact Nat.le_refl _)]
    have hl := tabV_length 16
    have h1 := tabV_one 16
    generalize tabV 16 = T at *
    (refine w ?_; repeat ((first | refine VO.step rfl rfl ?_ | refine VD.end rfl rfl rfl ?_ | refine VD.mid rfl rfl rfl ?_); refine OpV.box rfl rfl rfl ?_; intro _; refine w ?_))
    (first | refine VO.pure rfl rfl (PureAt.ldA tab_ok rfl rfl (.head _) ht hl) rfl ?_ | refine VD.take rfl rfl rfl (PureAt.ldA tab_ok rfl rfl (.head _) ht hl) rfl ?_ | refine VQ.pure rfl rfl (PureAt.ldA tab_ok rfl rfl (.head _) ht hl) rfl ?_ | refine VD.end rfl rfl rfl (OpV.pure (PureAt.ldA tab_ok rfl rfl (.head _) ht hl) rfl ?_))
    (first | refine VO.step rfl rfl ?_ | refine VD.end rfl rfl rfl ?_ | refine VD.mid rfl rfl rfl ?_)
    refine OpV.stA (vs := T) tab_ok rfl rfl rfl hl h1 .head (by rw [hl]; decide) ?_
    rw [show T.take 0 ++ T ++ T.drop (0 + 16) = T by rw [List.drop_of_length_le (by omega)]; simp]
    (refine w ?_; repeat ((first | refine VO.step rfl rfl ?_ | refine VD.end rfl rfl rfl ?_ | refine VD.mid rfl rfl rfl ?_); refine OpV.box rfl rfl rfl ?_; intro _; refine w ?_))
    exact VE.results1 (.inl rfl) () rfl (ResIs.agg (vs := T) tab_ok rfl rfl (.head _) ht hl) trivial rfl (Ent.drop Ent.refl)
theorem and15 (m : BitVec 32) : ((m &&& 15#32).toNat : Nat) < 16 := by
  rw [BitVec.toNat_and]; exact Nat.lt_succ_of_le Nat.and_le_right
set_option maxHeartbeats 1000000 in
theorem more_ok {W : World} {R : List SProp} {ao : Option Addr} {cap : Nat} {l : List UInt8} (c : BitVec 32) (hr : Rds W R 1 ao l.length (bytes l)) (hl : l.length ≤ 1099511627776) :
    Does1 W Try.prog 69 [.int .u32 (c.toNat : Int), .slice ao l.length cap] R (.int .u32 ((crcM c l).toNat : Int)) R := by
  (refine Does.enter Try.func69 Try.ntmps69 rfl rfl ?_)
  (refine w ?_; repeat ((first | refine VO.step rfl rfl ?_ | refine VD.end rfl rfl rfl ?_ | refine VD.mid rfl rfl rfl ?_); refine OpV.box rfl rfl rfl ?_; intro _; refine w ?_))
  ((first | refine VO.step rfl rfl ?_ | refine VD.end rfl rfl rfl ?_ | refine VD.mid rfl rfl rfl ?_); refine OpV.call rfl rfl (fun _ _ => by simp) (half_ok) Ent.refl rfl ?_; intro _ _)
  (first | refine VO.step rfl rfl ?_ | refine VD.end rfl rfl rfl ?_ | refine VD.mid rfl rfl rfl ?_)
  refine OpV.alloc (z := .agg (tabV 0).toArray) (cs := tabV 0) (fun w => by simp; rfl) rfl rfl ?_
  intro nb
  have hl16 := tabV_length 16
  have h1 := tabV_one 16
  have hget := tabV_get
  have hl0 := tabV_length 0
  generalize tabV 16 = T at *
  generalize tabV 0 = T0 at *
  (first | refine VO.step rfl rfl ?_ | refine VD.end rfl rfl rfl ?_ | refine VD.mid rfl rfl rfl ?_)
  refine OpV.stA (vs := T) tab_ok rfl rfl rfl hl16 h1 .head (by rw [hl0]; decide) ?_
  rw [show T0.take 0 ++ T ++ T0.drop (0 + 16) = T by rw [List.drop_of_length_le (by omega)]; simp]
  (refine w ?_; repeat ((first | refine VO.step rfl rfl ?_ | refine VD.end rfl rfl rfl ?_ | refine VD.mid rfl rfl rfl ?_); refine OpV.box rfl rfl rfl ?_; intro _; refine w ?_))
  (first | refine VO.pure rfl rfl (PureAt.not32 (c := c) rfl) rfl ?_ | refine VD.take rfl rfl rfl (PureAt.not32 (c := c) rfl) rfl ?_ | refine VQ.pure rfl rfl (PureAt.not32 (c := c) rfl) rfl ?_ | refine VD.end rfl rfl rfl (OpV.pure (PureAt.not32 (c := c) rfl) rfl ?_))
  unfold u32V
  (refine w ?_; repeat ((first | refine VO.step rfl rfl ?_ | refine VD.end rfl rfl rfl ?_ | refine VD.mid rfl rfl rfl ?_); refine OpV.box rfl rfl rfl ?_; intro _; refine w ?_))
  refine VC.loop (α := Nat) (fun i => i ≤ l.length) (fun _ => Row nb 167 T :: R) (fun i => [(5, .pointer (some ⟨nb, 0, none⟩)), (6, .int .u32 ((crcF (~~~c) (l.take i)).toNat : Int)), (12, .slice ao l.length cap), (13, .int .i64 l.length), (14, .int .i64 i)]) (fun i => l.length - i) rfl 0 (Nat.zero_le _) Ent.refl ⟨rfl, rfl, rfl, rfl, rfl, trivial⟩ ?_
  intro i hi
  (refine w ?_; repeat ((first | refine VO.step rfl rfl ?_ | refine VD.end rfl rfl rfl ?_ | refine VD.mid rfl rfl rfl ?_); refine OpV.box rfl rfl rfl ?_; intro _; refine w ?_))
  (refine VC.cond rfl rfl ?_ ?_ <;> intro hc)
  · have hlt : i < l.length := by have := of_decide_eq_true hc; omega
    obtain ⟨a, rfl⟩ : ∃ a, ao = some a := by cases ao with | none => have := hr.nil rfl; omega | some a => exact ⟨a, rfl⟩
    have hst : crcF (~~~c) (l.take (i + 1)) = crcB (crcF (~~~c) (l.take i)) l[i] := by rw [List.take_succ_eq_append_getElem hlt, crcF_snoc]
    rw [crcB_nibbles] at hst
    have hb9 := hr.ent (Ent.drop (p := Row nb 167 T) Ent.refl : Ent W (Row nb 167 T :: R) R)
    generalize crcF (~~~c) (l.take i) = F at *
    (refine w ?_; repeat ((first | refine VO.step rfl rfl ?_ | refine VD.end rfl rfl rfl ?_ | refine VD.mid rfl rfl rfl ?_); refine OpV.box rfl rfl rfl ?_; intro _; refine w ?_))
    have hx : Value.int .u32 (IntKind.u32.wrap ((BitVec.ofInt IntKind.u32.bits (F.toNat : Int) ^^^ BitVec.ofInt IntKind.u32.bits (IntKind.u32.wrap (l[i].toNat : Int))).toNat : Int)) = .int .u32 ((F ^^^ BitVec.ofNat 32 l[i].toNat).toNat : Int) := by
      rw [byte32, wrapB32]; exact congrArg (Value.int .u32) (xor32 _ _)
    (first | refine VO.pure rfl rfl (ldB tab_ok rfl rfl hb9 hlt) rfl ?_ | refine VD.take rfl rfl rfl (ldB tab_ok rfl rfl hb9 hlt) rfl ?_ | refine VQ.pure rfl rfl (ldB tab_ok rfl rfl hb9 hlt) rfl ?_ | refine VD.end rfl rfl rfl (OpV.pure (ldB tab_ok rfl rfl hb9 hlt) rfl ?_))
    iterate 9 (first | (first | refine VO.nil rfl ?_ | refine VQ.nil rfl ?_ | refine VD.nil ?_ | ((first | apply VO.pure rfl rfl | apply VQ.pure rfl rfl | apply VD.take rfl rfl rfl | (refine VD.end rfl rfl rfl ?_; apply OpV.pure)); (first | (apply PureAt.ar64 rfl rfl rfl; omega) | exact .eval tab_ok rfl | (apply PureAt.ld tab_ok rfl rfl; (focus repeat first | exact .head _ | apply List.Mem.tail); rfl) | (apply PureAt.shr rfl rfl (by decide) (by decide)) | (apply PureAt.shr rfl rfl (by omega) (by simp only [IntKind.bits]; omega)) | exact .fieldAddrA tab_ok rfl rfl | exact .sliceLH tab_ok rfl rfl rfl rfl (by omega) (by omega) | exact .sliceH tab_ok rfl rfl rfl (by omega) | exact .sliceL tab_ok rfl rfl rfl (by omega) | (first | exact .indexAddr tab_ok rfl rfl rfl rfl (by omega) | exact .indexAddrN tab_ok rfl rfl rfl rfl (by omega) | exact .indexAddrI tab_ok rfl rfl rfl rfl (toNatLit _) (by decide) (by omega) | exact .indexAddrNI tab_ok rfl rfl rfl rfl (toNatLit _) (by decide) (by omega) | exact .ldR tab_ok rfl rfl hr1 (List.getElem?_eq_getElem (by omega)) | exact .ldR tab_ok rfl rfl hr2 (List.getElem?_eq_getElem (by omega)) | exact ldB tab_ok rfl rfl hb1 (by omega) | exact ldB tab_ok rfl rfl hb2 (by omega)) | exact .sliceHI tab_ok rfl rfl rfl (toNatLit _) (by decide) (by omega) | exact .sliceLI tab_ok rfl rfl rfl (toNatLit _) (by decide) (by omega) | (apply PureAt.ldA tab_ok rfl rfl; (focus repeat first | exact .head _ | apply List.Mem.tail); rfl; rfl) | exact .ldro tab_ok rfl rfl (by assumption)); rfl) | refine VO.skip rfl rfl rfl rfl ?_ | refine VQ.skip rfl rfl rfl rfl ?_ | refine VD.skip rfl rfl rfl rfl rfl ?_ | refine VD.skipM rfl rfl Ent.refl rfl rfl rfl ?_ | ((first | refine VO.step rfl rfl ?_ | refine VD.end rfl rfl rfl ?_ | refine VD.mid rfl rfl rfl ?_); (first | (apply OpV.st tab_ok rfl rfl rfl rfl (by (repeat first | exact .head | apply Hole.tail); first | done | fail) (by first | (simp; done) | fail)) | (refine OpV.box rfl rfl rfl ?_; intro _))) | refine ⟨Ent.re, ?_⟩) | (first | refine VC.seq rfl ?_ | refine VC.region rfl ?_ | refine VC.condT rfl rfl ?_ | refine VC.condF rfl rfl ?_ | refine VC.block rfl ?_ | refine VC.skip rfl ?_ | refine VC.ret rfl ?_ | refine VC.exit rfl ?_ | refine VC.scope rfl ?_ | refine VC.label rfl ?_) | (first | refine VE.next ?_ | refine VE.passRet ?_ | refine VE.passExit ?_ | refine VE.blockNormal ?_ | refine VE.blockHit ?_ | refine VE.blockMiss rfl ?_ | refine VE.blockRet ?_ | refine VE.loopRet ?_ | refine VE.loopExit ?_ | refine VE.scopeNormal ?_ | refine VE.scopeRet ?_ | refine VE.scopeExit ?_))
    refine VO.re 21 _ rfl hx ?_
    generalize F ^^^ BitVec.ofNat 32 l[i].toNat = G at *
    have hs4 : ∀ m : BitVec 32, (((m.toNat / 2 ^ (4 : Int).toNat : Nat)) : Int) = ((m >>> 4).toNat : Int) := fun m => shr32 m 4
    have ha15 : ∀ m : BitVec 32, IntKind.u32.wrap ((BitVec.ofInt IntKind.u32.bits (m.toNat : Int) &&& BitVec.ofInt IntKind.u32.bits 15).toNat : Int) = ((m &&& 15#32).toNat : Int) := fun m => and32 m 15#32
    have hrow : ∀ m : BitVec 32, T[0 + (m &&& 15#32).toNat]? = some (.int .u32 ((stpN 4 (m &&& 15#32)).toNat : Int)) := fun m => by
      rw [show 0 + (m &&& 15#32).toNat = (m &&& 15#32).toNat by omega, hget _ (and15 m), BitVec.ofNat_toNat, BitVec.setWidth_eq]
    (refine w ?_; repeat ((first | refine VO.step rfl rfl ?_ | refine VD.end rfl rfl rfl ?_ | refine VD.mid rfl rfl rfl ?_); refine OpV.box rfl rfl rfl ?_; intro _; refine w ?_))
    refine VO.re 25 (.int .u32 ((G &&& 15#32).toNat : Int)) rfl (by rw [ha15]) ?_
    (first | refine VO.pure rfl rfl (PureAt.indexArr tab_ok Try.underlying167 rfl rfl rfl (and15 G)) rfl ?_ | refine VD.take rfl rfl rfl (PureAt.indexArr tab_ok Try.underlying167 rfl rfl rfl (and15 G)) rfl ?_ | refine VQ.pure rfl rfl (PureAt.indexArr tab_ok Try.underlying167 rfl rfl rfl (and15 G)) rfl ?_ | refine VD.end rfl rfl rfl (OpV.pure (PureAt.indexArr tab_ok Try.underlying167 rfl rfl rfl (and15 G)) rfl ?_))
    (first | refine VO.pure rfl rfl (PureAt.ld tab_ok rfl rfl (.head _) (hrow G)) rfl ?_ | refine VD.take rfl rfl rfl (PureAt.ld tab_ok rfl rfl (.head _) (hrow G)) rfl ?_ | refine VQ.pure rfl rfl (PureAt.ld tab_ok rfl rfl (.head _) (hrow G)) rfl ?_ | refine VD.end rfl rfl rfl (OpV.pure (PureAt.ld tab_ok rfl rfl (.head _) (hrow G)) rfl ?_))
    (first | (first | refine VO.nil rfl ?_ | refine VQ.nil rfl ?_ | refine VD.nil ?_ | ((first | apply VO.pure rfl rfl | apply VQ.pure rfl rfl | apply VD.take rfl rfl rfl | (refine VD.end rfl rfl rfl ?_; apply OpV.pure)); (first | (apply PureAt.ar64 rfl rfl rfl; omega) | exact .eval tab_ok rfl | (apply PureAt.ld tab_ok rfl rfl; (focus repeat first | exact .head _ | apply List.Mem.tail); rfl) | (apply PureAt.shr rfl rfl (by decide) (by decide)) | (apply PureAt.shr rfl rfl (by omega) (by simp only [IntKind.bits]; omega)) | exact .fieldAddrA tab_ok rfl rfl | exact .sliceLH tab_ok rfl rfl rfl rfl (by omega) (by omega) | exact .sliceH tab_ok rfl rfl rfl (by omega) | exact .sliceL tab_ok rfl rfl rfl (by omega) | (first | exact .indexAddr tab_ok rfl rfl rfl rfl (by omega) | exact .indexAddrN tab_ok rfl rfl rfl rfl (by omega) | exact .indexAddrI tab_ok rfl rfl rfl rfl (toNatLit _) (by decide) (by omega) | exact .indexAddrNI tab_ok rfl rfl rfl rfl (toNatLit _) (by decide) (by omega) | exact .ldR tab_ok rfl rfl hr1 (List.getElem?_eq_getElem (by omega)) | exact .ldR tab_ok rfl rfl hr2 (List.getElem?_eq_getElem (by omega)) | exact ldB tab_ok rfl rfl hb1 (by omega) | exact ldB tab_ok rfl rfl hb2 (by omega)) | exact .sliceHI tab_ok rfl rfl rfl (toNatLit _) (by decide) (by omega) | exact .sliceLI tab_ok rfl rfl rfl (toNatLit _) (by decide) (by omega) | (apply PureAt.ldA tab_ok rfl rfl; (focus repeat first | exact .head _ | apply List.Mem.tail); rfl; rfl) | exact .ldro tab_ok rfl rfl (by assumption)); rfl) | refine VO.skip rfl rfl rfl rfl ?_ | refine VQ.skip rfl rfl rfl rfl ?_ | refine VD.skip rfl rfl rfl rfl rfl ?_ | refine VD.skipM rfl rfl Ent.refl rfl rfl rfl ?_ | ((first | refine VO.step rfl rfl ?_ | refine VD.end rfl rfl rfl ?_ | refine VD.mid rfl rfl rfl ?_); (first | (apply OpV.st tab_ok rfl rfl rfl rfl (by (repeat first | exact .head | apply Hole.tail); first | done | fail) (by first | (simp; done) | fail)) | (refine OpV.box rfl rfl rfl ?_; intro _))) | refine ⟨Ent.re, ?_⟩) | (first | refine VC.seq rfl ?_ | refine VC.region rfl ?_ | refine VC.condT rfl rfl ?_ | refine VC.condF rfl rfl ?_ | refine VC.block rfl ?_ | refine VC.skip rfl ?_ | refine VC.ret rfl ?_ | refine VC.exit rfl ?_ | refine VC.scope rfl ?_ | refine VC.label rfl ?_) | (first | refine VE.next ?_ | refine VE.passRet ?_ | refine VE.passExit ?_ | refine VE.blockNormal ?_ | refine VE.blockHit ?_ | refine VE.blockMiss rfl ?_ | refine VE.blockRet ?_ | refine VE.loopRet ?_ | refine VE.loopExit ?_ | refine VE.scopeNormal ?_ | refine VE.scopeRet ?_ | refine VE.scopeExit ?_))
    refine VO.re 28 (.int .u32 (((G >>> 4) ^^^ stpN 4 (G &&& 15#32)).toNat : Int)) rfl (by rw [hs4]; exact congrArg (Value.int .u32) (xor32 _ _)) ?_
    generalize (G >>> 4) ^^^ stpN 4 (G &&& 15#32) = M at *
    (refine w ?_; repeat ((first | refine VO.step rfl rfl ?_ | refine VD.end rfl rfl rfl ?_ | refine VD.mid rfl rfl rfl ?_); refine OpV.box rfl rfl rfl ?_; intro _; refine w ?_))
    refine VO.re 32 (.int .u32 ((M &&& 15#32).toNat : Int)) rfl (by rw [ha15]) ?_
    (first | refine VO.pure rfl rfl (PureAt.indexArr tab_ok Try.underlying167 rfl rfl rfl (and15 M)) rfl ?_ | refine VD.take rfl rfl rfl (PureAt.indexArr tab_ok Try.underlying167 rfl rfl rfl (and15 M)) rfl ?_ | refine VQ.pure rfl rfl (PureAt.indexArr tab_ok Try.underlying167 rfl rfl rfl (and15 M)) rfl ?_ | refine VD.end rfl rfl rfl (OpV.pure (PureAt.indexArr tab_ok Try.underlying167 rfl rfl rfl (and15 M)) rfl ?_))
    (first | refine VO.pure rfl rfl (PureAt.ld tab_ok rfl rfl (.head _) (hrow M)) rfl ?_ | refine VD.take rfl rfl rfl (PureAt.ld tab_ok rfl rfl (.head _) (hrow M)) rfl ?_ | refine VQ.pure rfl rfl (PureAt.ld tab_ok rfl rfl (.head _) (hrow M)) rfl ?_ | refine VD.end rfl rfl rfl (OpV.pure (PureAt.ld tab_ok rfl rfl (.head _) (hrow M)) rfl ?_))
    (first | (first | refine VO.nil rfl ?_ | refine VQ.nil rfl ?_ | refine VD.nil ?_ | ((first | apply VO.pure rfl rfl | apply VQ.pure rfl rfl | apply VD.take rfl rfl rfl | (refine VD.end rfl rfl rfl ?_; apply OpV.pure)); (first | (apply PureAt.ar64 rfl rfl rfl; omega) | exact .eval tab_ok rfl | (apply PureAt.ld tab_ok rfl rfl; (focus repeat first | exact .head _ | apply List.Mem.tail); rfl) | (apply PureAt.shr rfl rfl (by decide) (by decide)) | (apply PureAt.shr rfl rfl (by omega) (by simp only [IntKind.bits]; omega)) | exact .fieldAddrA tab_ok rfl rfl | exact .sliceLH tab_ok rfl rfl rfl rfl (by omega) (by omega) | exact .sliceH tab_ok rfl rfl rfl (by omega) | exact .sliceL tab_ok rfl rfl rfl (by omega) | (first | exact .indexAddr tab_ok rfl rfl rfl rfl (by omega) | exact .indexAddrN tab_ok rfl rfl rfl rfl (by omega) | exact .indexAddrI tab_ok rfl rfl rfl rfl (toNatLit _) (by decide) (by omega) | exact .indexAddrNI tab_ok rfl rfl rfl rfl (toNatLit _) (by decide) (by omega) | exact .ldR tab_ok rfl rfl hr1 (List.getElem?_eq_getElem (by omega)) | exact .ldR tab_ok rfl rfl hr2 (List.getElem?_eq_getElem (by omega)) | exact ldB tab_ok rfl rfl hb1 (by omega) | exact ldB tab_ok rfl rfl hb2 (by omega)) | exact .sliceHI tab_ok rfl rfl rfl (toNatLit _) (by decide) (by omega) | exact .sliceLI tab_ok rfl rfl rfl (toNatLit _) (by decide) (by omega) | (apply PureAt.ldA tab_ok rfl rfl; (focus repeat first | exact .head _ | apply List.Mem.tail); rfl; rfl) | exact .ldro tab_ok rfl rfl (by assumption)); rfl) | refine VO.skip rfl rfl rfl rfl ?_ | refine VQ.skip rfl rfl rfl rfl ?_ | refine VD.skip rfl rfl rfl rfl rfl ?_ | refine VD.skipM rfl rfl Ent.refl rfl rfl rfl ?_ | ((first | refine VO.step rfl rfl ?_ | refine VD.end rfl rfl rfl ?_ | refine VD.mid rfl rfl rfl ?_); (first | (apply OpV.st tab_ok rfl rfl rfl rfl (by (repeat first | exact .head | apply Hole.tail); first | done | fail) (by first | (simp; done) | fail)) | (refine OpV.box rfl rfl rfl ?_; intro _))) | refine ⟨Ent.re, ?_⟩) | (first | refine VC.seq rfl ?_ | refine VC.region rfl ?_ | refine VC.condT rfl rfl ?_ | refine VC.condF rfl rfl ?_ | refine VC.block rfl ?_ | refine VC.skip rfl ?_ | refine VC.ret rfl ?_ | refine VC.exit rfl ?_ | refine VC.scope rfl ?_ | refine VC.label rfl ?_) | (first | refine VE.next ?_ | refine VE.passRet ?_ | refine VE.passExit ?_ | refine VE.blockNormal ?_ | refine VE.blockHit ?_ | refine VE.blockMiss rfl ?_ | refine VE.blockRet ?_ | refine VE.loopRet ?_ | refine VE.loopExit ?_ | refine VE.scopeNormal ?_ | refine VE.scopeRet ?_ | refine VE.scopeExit ?_))
    refine VO.re 35 (.int .u32 (((M >>> 4) ^^^ stpN 4 (M &&& 15#32)).toNat : Int)) rfl (by rw [hs4]; exact congrArg (Value.int .u32) (xor32 _ _)) ?_
    (refine w ?_; repeat ((first | refine VO.step rfl rfl ?_ | refine VD.end rfl rfl rfl ?_ | refine VD.mid rfl rfl rfl ?_); refine OpV.box rfl rfl rfl ?_; intro _; refine w ?_))
    refine VE.round (i + 1) (by omega) (by omega) ⟨rfl, asV rfl (by rw [hst]), rfl, rfl, asV rfl (by congr 1), trivial⟩ Ent.refl
  · have hge : i = l.length := by have := of_decide_eq_false hc; omega
    subst hge
    rw [List.take_of_length_le (Nat.le_refl _)]
    (refine w ?_; repeat ((first | refine VO.step rfl rfl ?_ | refine VD.end rfl rfl rfl ?_ | refine VD.mid rfl rfl rfl ?_); refine OpV.box rfl rfl rfl ?_; intro _; refine w ?_))
    (first | refine VO.pure rfl rfl (PureAt.not32 (c := crcF (~~~c) l) rfl) rfl ?_ | refine VD.take rfl rfl rfl (PureAt.not32 (c := crcF (~~~c) l) rfl) rfl ?_ | refine VQ.pure rfl rfl (PureAt.not32 (c := crcF (~~~c) l) rfl) rfl ?_ | refine VD.end rfl rfl rfl (OpV.pure (PureAt.not32 (c := crcF (~~~c) l) rfl) rfl ?_))
    unfold u32V
    (refine w ?_; repeat ((first | refine VO.step rfl rfl ?_ | refine VD.end rfl rfl rfl ?_ | refine VD.mid rfl rfl rfl ?_); refine OpV.box rfl rfl rfl ?_; intro _; refine w ?_))
    (refine VE.done1 rfl ?_ ?_)
    · rfl
    · exact Ent.drop Ent.refl
theorem sum_ok {W : World} {R : List SProp} {ao : Option Addr} {cap : Nat} {l : List UInt8} (hr : Rds W R 1 ao l.length (bytes l)) (hl : l.length ≤ 1099511627776) :
    Does1 W Try.prog 35 [.slice ao l.length cap] R (.int .u32 ((crcS l).toNat : Int)) R := by
  (refine Does.enter Try.func35 Try.ntmps35 rfl rfl ?_)
  (refine w ?_; repeat ((first | refine VO.step rfl rfl ?_ | refine VD.end rfl rfl rfl ?_ | refine VD.mid rfl rfl rfl ?_); refine OpV.box rfl rfl rfl ?_; intro _; refine w ?_))
  ((first | refine VO.step rfl rfl ?_ | refine VD.end rfl rfl rfl ?_ | refine VD.mid rfl rfl rfl ?_); refine OpV.call rfl rfl (fun _ _ => by simp) (more_ok 0#32 hr hl) Ent.refl rfl ?_)
  intro _ _
  (refine w ?_; repeat ((first | refine VO.step rfl rfl ?_ | refine VD.end rfl rfl rfl ?_ | refine VD.mid rfl rfl rfl ?_); refine OpV.box rfl rfl rfl ?_; intro _; refine w ?_))
  (refine VE.done1 rfl ?_ ?_)
  · rfl
  · exact Ent.refl
end Go.Proofs.Ytlojjlbngnaphaa
