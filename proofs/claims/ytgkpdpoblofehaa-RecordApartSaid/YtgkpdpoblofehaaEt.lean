/- RecordTurned: the walk of the law. -/
import Derived.Test.YtgkpdpoblofehaaEq
import Derived.Test.YtgkpdpoblofehaaEs
set_option maxRecDepth 8000
set_option linter.unusedVariables false
set_option linter.unusedSimpArgs false
set_option linter.unusedSectionVars false
namespace Go.Sl
section
variable {W : World} {P : Program} {n : Nat} {c c2 : Code} {Q : Exit → Act → World → Prop} {H : List SProp} {f : Fr} {dst : Option Tmp} {ty_ : TypeId} {pos : String} {after : Array Edge} {guard : Option (Nat × Bool)}
theorem VO.joinH {k : Nat} (F : Fr) (h1 : ∀ Q2, Met W n Q Q2 (fun _ : Unit => True) (fun _ => H) (fun _ => F) → VO W P n c k Q2 H f) (h2 : VC W P n c2 Q H F) : VO W P n c k (thenC P c2 Q) H f :=
  VO.joinR _ _ _ h1 (fun _ _ => h2)
theorem PureAt.remZ {x y : Operand} {s u : TypeId} {k : IntKind} {a b : Int} (hx : evalX f x = some (.int k a)) (hy : evalX f y = some (.int k b)) (hb : 0 < b) :
    PureAt W P n H f { dst, op := .binOp .rem s x y u, type := ty_, pos, after, guard } (.int k (a.tmod b)) := by
  unfold PureAt
  intro tm w hk _
  have e1 : ¬ b = 0 := by omega
  simp [execOp, hk.eval hx, hk.eval hy, eqGuard, binOp, Op.intDiv, e1]
end
end Go.Sl
namespace Go.Proofs.Ytgkpdpoblofehaa
open Go.RowKit Go.Sl
attribute [local irreducible] Own

theorem bit32 (ch i : Nat) (h : ch < 4294967296) : ((IntKind.u32.wrap ((BitVec.ofInt IntKind.u32.bits ((ch / 2 ^ i : Nat) : Int) &&& BitVec.ofInt IntKind.u32.bits 1).toNat : Int)) == 1) = ch.testBit i := by
  have h1 : ch / 2 ^ i < 4294967296 := Nat.lt_of_le_of_lt (Nat.div_le_self _ _) h
  have e : (BitVec.ofInt IntKind.u32.bits ((ch / 2 ^ i : Nat) : Int) &&& BitVec.ofInt IntKind.u32.bits 1).toNat = ch / 2 ^ i % 2 := by
    show (BitVec.ofInt 32 ((ch / 2 ^ i : Nat) : Int) &&& BitVec.ofInt 32 1).toNat = _
    rw [BitVec.toNat_and, BitVec.ofInt_natCast, BitVec.toNat_ofNat, Nat.mod_eq_of_lt h1, show (BitVec.ofInt 32 1).toNat = 1 from rfl, Nat.and_one_is_mod]
  rw [e, u32_nat (by omega), Nat.testBit_eq_decide_div_mod_eq, nat_one]
theorem flip8 (b : UInt8) (r : Nat) (h : r < 8) : IntKind.u8.wrap ((BitVec.ofInt IntKind.u8.bits (b.toNat : Int) ^^^ BitVec.ofInt IntKind.u8.bits (IntKind.u8.wrap (1 * 2 ^ min r IntKind.u8.bits))).toNat : Int) = ((flipB b r).toNat : Int) := by
  have e1 : IntKind.u8.wrap (1 * 2 ^ min r IntKind.u8.bits) = ((2 ^ r : Nat) : Int) := by
    match r, h with
    | 0, _ => rfl
    | 1, _ => rfl
    | 2, _ => rfl
    | 3, _ => rfl
    | 4, _ => rfl
    | 5, _ => rfl
    | 6, _ => rfl
    | 7, _ => rfl
  have h1 : b.toNat < 2 ^ 8 := b.toNat_lt
  have h2 : 2 ^ r < 2 ^ 8 := Nat.pow_lt_pow_right (by decide) h
  have e2 : (BitVec.ofInt 8 (b.toNat : Int) ^^^ BitVec.ofInt 8 ((2 ^ r : Nat) : Int)).toNat = b.toNat ^^^ 2 ^ r := by
    rw [BitVec.toNat_xor, BitVec.ofInt_natCast, BitVec.ofInt_natCast, BitVec.toNat_ofNat, BitVec.toNat_ofNat, Nat.mod_eq_of_lt h1, Nat.mod_eq_of_lt h2]
  rw [e1]
  show IntKind.u8.wrap ((BitVec.ofInt 8 (b.toNat : Int) ^^^ BitVec.ofInt 8 ((2 ^ r : Nat) : Int)).toNat : Int) = _
  rw [e2, u8_of]; rfl
set_option maxHeartbeats 1000000 in
theorem turned_ok {W : World} {R : List SProp} {ao : Option Addr} {cap : Nat} {a : List UInt8} (hr : Rds W R 1 ao a.length (bytes a)) (f ch : Nat) (hf : f ≤ 1023) (hch : ch < 4294967296) (hl : a.length ≤ 100000) :
    Does W Try.prog 36 [.slice ao a.length cap, .int .i64 f, .int .u32 ch] R (β := Option Addr × Nat) (fun _ => True) (fun x => .slice x.1 (turnM a f ch 32).length x.2) (fun x => OwnB x (turnM a f ch 32) :: R) := by
  (refine Does.enter Try.func36 Try.ntmps36 rfl rfl ?_)
  refine VC.ent (fun w hw => hw.ownNil 5 1) ?_
  (refine w ?_; repeat ((first | refine VO.step rfl rfl ?_ | refine VD.end rfl rfl rfl ?_ | refine VD.mid rfl rfl rfl ?_); refine OpV.box rfl rfl rfl ?_; intro _; refine w ?_))
  (first | refine VO.step rfl rfl ?_ | refine VD.end rfl rfl rfl ?_ | refine VD.mid rfl rfl rfl ?_)
  refine OpV.append st_22 rfl rfl (by (repeat first | exact .head | apply Hole.tail)) (fun w hw => (hr.sees (cap := cap) hw.tail).src st_22.und) (by simp only [maxLen]; omega) (by omega) rfl ?_
  intro so sc
  simp only [Nat.zero_add, List.nil_append]
  refine VO.know (p := so = none → a.length = 0) (fun w hw => hw.ownNone (.head _)) ?_
  intro hn
  (refine w ?_; repeat ((first | refine VO.step rfl rfl ?_ | refine VD.end rfl rfl rfl ?_ | refine VD.mid rfl rfl rfl ?_); refine OpV.box rfl rfl rfl ?_; intro _; refine w ?_))
  refine VC.loop (α := Nat) (fun i => i ≤ 32) (fun i => Own 5 1 (.slice so a.length sc) a.length (bytes (turnM a f ch i)) :: R)
    (fun i => [(1, .int .i64 f), (2, .int .u32 ch), (7, .slice so a.length sc), (8, .int .i64 i)]) (fun i => 32 - i) rfl 0 (Nat.zero_le _) Ent.refl ⟨rfl, rfl, rfl, rfl, trivial⟩ ?_
  intro i hi
  have hlen := turnM_length a f ch i
  (refine w ?_; repeat ((first | refine VO.step rfl rfl ?_ | refine VD.end rfl rfl rfl ?_ | refine VD.mid rfl rfl rfl ?_); refine OpV.box rfl rfl rfl ?_; intro _; refine w ?_))
  (refine VC.cond rfl rfl ?_ ?_ <;> intro hc)
  · have hlt : i < 32 := by have := of_decide_eq_true hc; omega
    have hst : turnM a f ch (i + 1) = if ch.testBit i = true ∧ f + i < 8 * a.length then turnS (turnM a f ch i) (f + i) else turnM a f ch i := rfl
    (refine w ?_; repeat ((first | refine VO.step rfl rfl ?_ | refine VD.end rfl rfl rfl ?_ | refine VD.mid rfl rfl rfl ?_); refine OpV.box rfl rfl rfl ?_; intro _; refine w ?_))
    refine VO.re 22 (.int .u64 i) rfl (by rw [wrap64_of (by omega)]) ?_
    (refine w ?_; repeat ((first | refine VO.step rfl rfl ?_ | refine VD.end rfl rfl rfl ?_ | refine VD.mid rfl rfl rfl ?_); refine OpV.box rfl rfl rfl ?_; intro _; refine w ?_))
    refine VO.re 26 (.bool (ch.testBit i)) rfl (by rw [show (i : Int).toNat = i from rfl, bit32 ch i hch]) ?_
    ((first | refine VO.split rfl rfl rfl ?_ ?_ | refine VD.split rfl rfl rfl ?_ ?_) <;> intro hb)
    · (refine w ?_; repeat ((first | refine VO.step rfl rfl ?_ | refine VD.end rfl rfl rfl ?_ | refine VD.mid rfl rfl rfl ?_); refine OpV.box rfl rfl rfl ?_; intro _; refine w ?_))
      (refine VC.cond rfl rfl ?_ ?_ <;> intro hc)
      · have hp : f + i < 8 * a.length := by have := of_decide_eq_true hc; omega
        rw [if_pos ⟨hb, hp⟩] at hst
        obtain ⟨b, rfl⟩ : ∃ b, so = some b := by cases so with | none => have := hn rfl; omega | some b => exact ⟨b, rfl⟩
        generalize turnM a f ch i = X at *
        have hq : (f + i) / 8 < X.length := by omega
        have hb1 : Rds W (Own 5 1 (.slice (some b) a.length sc) a.length (bytes X) :: R) 1 (some b) a.length (bytes X) := Rds.own (bytes_one _) (.head _) (by simp [hlen]) (by simp)
        refine VC.re 9 (.int .i64 ((f + i : Nat) : Int)) rfl (by congr 1) ?_
        (refine w ?_; repeat ((first | refine VO.step rfl rfl ?_ | refine VD.end rfl rfl rfl ?_ | refine VD.mid rfl rfl rfl ?_); refine OpV.box rfl rfl rfl ?_; intro _; refine w ?_))
        (first | refine VO.pure rfl rfl (PureAt.quo (a := f + i) (b := 8) rfl rfl (by decide) (IntWalk.i64_in _ ⟨by omega, by omega⟩)) rfl ?_ | refine VD.take rfl rfl rfl (PureAt.quo (a := f + i) (b := 8) rfl rfl (by decide) (IntWalk.i64_in _ ⟨by omega, by omega⟩)) rfl ?_ | refine VQ.pure rfl rfl (PureAt.quo (a := f + i) (b := 8) rfl rfl (by decide) (IntWalk.i64_in _ ⟨by omega, by omega⟩)) rfl ?_ | refine VD.end rfl rfl rfl (OpV.pure (PureAt.quo (a := f + i) (b := 8) rfl rfl (by decide) (IntWalk.i64_in _ ⟨by omega, by omega⟩)) rfl ?_))
        (refine w ?_; repeat ((first | refine VO.step rfl rfl ?_ | refine VD.end rfl rfl rfl ?_ | refine VD.mid rfl rfl rfl ?_); refine OpV.box rfl rfl rfl ?_; intro _; refine w ?_))
        (first | refine VO.pure rfl rfl (PureAt.quo (a := f + i) (b := 8) rfl rfl (by decide) (IntWalk.i64_in _ ⟨by omega, by omega⟩)) rfl ?_ | refine VD.take rfl rfl rfl (PureAt.quo (a := f + i) (b := 8) rfl rfl (by decide) (IntWalk.i64_in _ ⟨by omega, by omega⟩)) rfl ?_ | refine VQ.pure rfl rfl (PureAt.quo (a := f + i) (b := 8) rfl rfl (by decide) (IntWalk.i64_in _ ⟨by omega, by omega⟩)) rfl ?_ | refine VD.end rfl rfl rfl (OpV.pure (PureAt.quo (a := f + i) (b := 8) rfl rfl (by decide) (IntWalk.i64_in _ ⟨by omega, by omega⟩)) rfl ?_))
        (refine w ?_; repeat ((first | refine VO.step rfl rfl ?_ | refine VD.end rfl rfl rfl ?_ | refine VD.mid rfl rfl rfl ?_); refine OpV.box rfl rfl rfl ?_; intro _; refine w ?_))
        (first | refine VO.pure rfl rfl (PureAt.rem (a := f + i) (b := 8) rfl rfl (by decide)) rfl ?_ | refine VD.take rfl rfl rfl (PureAt.rem (a := f + i) (b := 8) rfl rfl (by decide)) rfl ?_ | refine VQ.pure rfl rfl (PureAt.rem (a := f + i) (b := 8) rfl rfl (by decide)) rfl ?_ | refine VD.end rfl rfl rfl (OpV.pure (PureAt.rem (a := f + i) (b := 8) rfl rfl (by decide)) rfl ?_))
        (refine w ?_; repeat ((first | refine VO.step rfl rfl ?_ | refine VD.end rfl rfl rfl ?_ | refine VD.mid rfl rfl rfl ?_); refine OpV.box rfl rfl rfl ?_; intro _; refine w ?_))
        refine VO.re 43 (.int .u64 ((f + i) % 8 : Nat)) rfl (by rw [wrap64_of (by omega)]) ?_
        ((first | refine VO.step rfl rfl ?_ | refine VD.end rfl rfl rfl ?_ | refine VD.mid rfl rfl rfl ?_); refine OpV.pure (PureAt.shl rfl rfl (by omega)) rfl ?_)
        (refine w ?_; repeat ((first | refine VO.step rfl rfl ?_ | refine VD.end rfl rfl rfl ?_ | refine VD.mid rfl rfl rfl ?_); refine OpV.box rfl rfl rfl ?_; intro _; refine w ?_))
        refine VO.re 45 (byteV (flipB X[(f + i) / 8] ((f + i) % 8))) rfl (by rw [show ((((f + i) % 8 : Nat) : Int)).toNat = (f + i) % 8 from rfl]; exact congrArg (Value.int .u8) (flip8 _ _ (Nat.mod_lt _ (by decide)))) ?_
        (first | refine VO.step rfl rfl ?_ | refine VD.end rfl rfl rfl ?_ | refine VD.mid rfl rfl rfl ?_)
        refine OpV.stO2 (xs' := bytes (turnS X (f + i))) tab_ok rfl rfl rfl rfl (by (repeat first | exact .head | apply Hole.tail)) (by rw [bytes_length]; exact hq) (by simp [bytes, turnS, List.getD, hq]) ?_
        (refine w ?_; repeat ((first | refine VO.step rfl rfl ?_ | refine VD.end rfl rfl rfl ?_ | refine VD.mid rfl rfl rfl ?_); refine OpV.box rfl rfl rfl ?_; intro _; refine w ?_))
        refine VE.round (i + 1) (by omega) (by omega) ⟨rfl, rfl, rfl, asV rfl (by congr 1), trivial⟩ ?_
        rw [hst]; exact Ent.re
      · have hp : ¬ f + i < 8 * a.length := by have := of_decide_eq_false hc; omega
        rw [if_neg (fun h => hp h.2)] at hst
        (refine w ?_; repeat ((first | refine VO.step rfl rfl ?_ | refine VD.end rfl rfl rfl ?_ | refine VD.mid rfl rfl rfl ?_); refine OpV.box rfl rfl rfl ?_; intro _; refine w ?_))
        refine VE.round (i + 1) (by omega) (by omega) ⟨rfl, rfl, rfl, asV rfl (by congr 1), trivial⟩ ?_
        rw [hst]; exact Ent.re
    · rw [if_neg (fun h => by rw [hb] at h; cases h.1)] at hst
      (refine w ?_; repeat ((first | refine VO.step rfl rfl ?_ | refine VD.end rfl rfl rfl ?_ | refine VD.mid rfl rfl rfl ?_); refine OpV.box rfl rfl rfl ?_; intro _; refine w ?_))
      refine VE.round (i + 1) (by omega) (by omega) ⟨rfl, rfl, rfl, asV rfl (by congr 1), trivial⟩ ?_
      rw [hst]; exact Ent.re
  · have hge : i = 32 := by have := of_decide_eq_false hc; omega
    subst hge
    (refine w ?_; repeat ((first | refine VO.step rfl rfl ?_ | refine VD.end rfl rfl rfl ?_ | refine VD.mid rfl rfl rfl ?_); refine OpV.box rfl rfl rfl ?_; intro _; refine w ?_))
    refine VE.done (so, sc) rfl trivial (by rw [hlen]) ?_
    rw [show OwnB (so, sc) (turnM a f ch 32) = Own 5 1 (.slice so a.length sc) a.length (bytes (turnM a f ch 32)) by unfold OwnB; rw [hlen]]
    exact Ent.re

theorem looks_sum {b : List UInt8} {k : UInt8} (h : looksM b k = 0) : numAt b 124 4 = (crcS (b.take 124)).toNat := by
  unfold looksM at h; split at h
  · cases h
  · split at h
    · cases h
    · split at h
      · cases h
      · rename_i h3; exact Decidable.of_not_not h3
theorem turn_looks {a : List UInt8} {k : UInt8} (f ch : Nat) (h : looksM a k = 0) (h2 : looksM (turnM a f ch 32) k = 0) : a = turnM a f ch 32 :=
  (turned_told a f ch (looks_len h) (looks_sum h) (looks_sum h2)).symm
theorem hdr_look {b : List UInt8} (h : (HdrD.dec b).1 = 0) : looksM b 1 = 0 := by unfold HdrD.dec at h; split at h; exact h; rename_i h2; exact Decidable.of_not_not h2
theorem cmt_look {b : List UInt8} (h : (CmtD.dec b).1 = 0) : looksM b 2 = 0 := by unfold CmtD.dec at h; split at h; exact h; rename_i h2; exact Decidable.of_not_not h2
theorem chk_look {b : List UInt8} (h : (ChkD.dec b).1 = 0) : looksM b 3 = 0 := by unfold ChkD.dec at h; split at h; exact h; rename_i h2; exact Decidable.of_not_not h2
theorem hdr_turned {a : List UInt8} {h : HdrD} (f ch : Nat) (ha : HdrD.dec a = (0, h)) : (((HdrD.dec (turnM a f ch 32)).1 == 0) == decide (a = turnM a f ch 32)) = true := by
  rw [beq_iff_eq, Bool.eq_iff_iff, beq_iff_eq, decide_eq_true_iff]
  exact ⟨fun h2 => turn_looks f ch (hdr_look (by rw [ha])) (hdr_look h2), fun e => by rw [← e, ha]⟩
theorem cmt_turned {a : List UInt8} {h : CmtD} (f ch : Nat) (ha : CmtD.dec a = (0, h)) : (((CmtD.dec (turnM a f ch 32)).1 == 0) == decide (a = turnM a f ch 32)) = true := by
  rw [beq_iff_eq, Bool.eq_iff_iff, beq_iff_eq, decide_eq_true_iff]
  exact ⟨fun h2 => turn_looks f ch (cmt_look (by rw [ha])) (cmt_look h2), fun e => by rw [← e, ha]⟩
theorem chk_turned {a : List UInt8} {h : ChkD} (f ch : Nat) (ha : ChkD.dec a = (0, h)) : (((ChkD.dec (turnM a f ch 32)).1 == 0) == decide (a = turnM a f ch 32)) = true := by
  rw [beq_iff_eq, Bool.eq_iff_iff, beq_iff_eq, decide_eq_true_iff]
  exact ⟨fun h2 => turn_looks f ch (chk_look (by rw [ha])) (chk_look h2), fun e => by rw [← e, ha]⟩
set_option maxHeartbeats 4000000 in
theorem recturned_ok {W : World} (h : HdrD) (c : CmtD) (k : ChkD) (at_ : Int) (ch : Nat) (hf : h.fit) (cf : c.fit) (kf : k.fit) (hat : -9223372036854775808 ≤ at_ ∧ at_ ≤ 9223372036854775807) (hch : ch < 4294967296) :
    Does1 W Try.prog 7 [.agg h.cells.toArray, .agg c.cells.toArray, .agg k.cells.toArray, .int .i64 at_, .int .u32 ch] [] (.bool true) [] := by
  obtain ⟨e1, A, he1, hE1, hA, hb1'⟩ := hdr_encF h hf
  obtain ⟨e2, B, he2, hE2, hB, hb2'⟩ := cmt_encF c cf
  obtain ⟨e3, D, he3, hE3, hD, hb3'⟩ := chk_encF k kf
  (refine Does.enter Try.func7 Try.ntmps7 rfl rfl ?_)
  (refine w ?_; repeat ((first | refine VO.step rfl rfl ?_ | refine VD.end rfl rfl rfl ?_ | refine VD.mid rfl rfl rfl ?_); refine OpV.box rfl rfl rfl ?_; intro _; refine w ?_))
  rename_i b5 b6 b7
  ((first | refine VO.step rfl rfl ?_ | refine VD.end rfl rfl rfl ?_ | refine VD.mid rfl rfl rfl ?_); refine OpV.call rfl rfl (fun _ _ => by simp) (ench_ok h hf) Ent.re rfl ?_)
  rw [he1]; dsimp only
  rintro ⟨a1, c1⟩ -
  (refine VO.know (p := a1 = none → (A).length = 0) (fun w hw => hw.ownNone (.head _)) ?_; intro hn1; refine VO.know (p := (A).length ≤ c1) (fun w hw => hw.ownCap (.head _)) ?_; intro hc1)
  (refine w ?_; repeat ((first | refine VO.step rfl rfl ?_ | refine VD.end rfl rfl rfl ?_ | refine VD.mid rfl rfl rfl ?_); refine OpV.box rfl rfl rfl ?_; intro _; refine w ?_))
  ((first | refine VO.step rfl rfl ?_ | refine VD.end rfl rfl rfl ?_ | refine VD.mid rfl rfl rfl ?_); refine OpV.call rfl rfl (fun _ _ => by simp) (encc_ok c cf) Ent.re rfl ?_)
  rw [he2]; dsimp only
  rintro ⟨a2, c2⟩ -
  (refine VO.know (p := a2 = none → (B).length = 0) (fun w hw => hw.ownNone (.head _)) ?_; intro hn2; refine VO.know (p := (B).length ≤ c2) (fun w hw => hw.ownCap (.head _)) ?_; intro hc2)
  (refine w ?_; repeat ((first | refine VO.step rfl rfl ?_ | refine VD.end rfl rfl rfl ?_ | refine VD.mid rfl rfl rfl ?_); refine OpV.box rfl rfl rfl ?_; intro _; refine w ?_))
  ((first | refine VO.step rfl rfl ?_ | refine VD.end rfl rfl rfl ?_ | refine VD.mid rfl rfl rfl ?_); refine OpV.call rfl rfl (fun _ _ => by simp) (encs_ok k kf) Ent.re rfl ?_)
  rw [he3]; dsimp only
  rintro ⟨a3, c3⟩ -
  (refine VO.know (p := a3 = none → (D).length = 0) (fun w hw => hw.ownNone (.head _)) ?_; intro hn3; refine VO.know (p := (D).length ≤ c3) (fun w hw => hw.ownCap (.head _)) ?_; intro hc3)
  (refine w ?_; repeat ((first | refine VO.step rfl rfl ?_ | refine VD.end rfl rfl rfl ?_ | refine VD.mid rfl rfl rfl ?_); refine OpV.box rfl rfl rfl ?_; intro _; refine w ?_))
  (first | refine VO.pure rfl rfl (PureAt.remZ rfl rfl (by decide)) rfl ?_ | refine VD.take rfl rfl rfl (PureAt.remZ rfl rfl (by decide)) rfl ?_ | refine VQ.pure rfl rfl (PureAt.remZ rfl rfl (by decide)) rfl ?_ | refine VD.end rfl rfl rfl (OpV.pure (PureAt.remZ rfl rfl (by decide)) rfl ?_))
  have hm1 : at_.tmod 1024 < 1024 := Int.tmod_lt_of_pos _ (by decide)
  have hm2 : -1024 < at_.tmod 1024 := by have := Int.lt_tmod_of_pos at_ (show (0 : Int) < 1024 by decide); omega
  generalize at_.tmod 1024 = m at *
  (refine w ?_; repeat ((first | refine VO.step rfl rfl ?_ | refine VD.end rfl rfl rfl ?_ | refine VD.mid rfl rfl rfl ?_); refine OpV.box rfl rfl rfl ?_; intro _; refine w ?_))
  refine VC.join (α := Nat) (fun f => f ≤ 1023) (fun _ => OwnB (a3, c3) D :: OwnB (a2, c2) B :: OwnB (a1, c1) A :: []) (fun f => [(4, .int .u32 ch), (11, .slice a1 A.length c1), (12, .int .u16 e1), (13, .slice a2 B.length c2), (14, .int .u16 e2), (15, .slice a3 D.length c3), (16, .int .u16 e3), (17, .int .i64 f)]) (fun Q2 jn => ?_) (fun f hf' => ?_)
  · (refine VC.cond rfl rfl ?_ ?_ <;> intro hc)
    · have hneg : m < 0 := of_decide_eq_true hc
      (refine w ?_; repeat ((first | refine VO.step rfl rfl ?_ | refine VD.end rfl rfl rfl ?_ | refine VD.mid rfl rfl rfl ?_); refine OpV.box rfl rfl rfl ?_; intro _; refine w ?_))
      refine jn.to (m + 1024).toNat (by omega) ⟨rfl, rfl, rfl, rfl, rfl, rfl, rfl, asV rfl (by congr 1; omega), trivial⟩ ?_; exact Ent.re
    · have hneg : ¬ m < 0 := of_decide_eq_false hc
      (refine w ?_; repeat ((first | refine VO.step rfl rfl ?_ | refine VD.end rfl rfl rfl ?_ | refine VD.mid rfl rfl rfl ?_); refine OpV.box rfl rfl rfl ?_; intro _; refine w ?_))
      refine jn.to m.toNat (by omega) ⟨rfl, rfl, rfl, rfl, rfl, rfl, rfl, asV rfl (by congr 1; omega), trivial⟩ ?_; exact Ent.re
  have lA := turnM_length A f ch 32
  have lB := turnM_length B f ch 32
  have lD := turnM_length D f ch 32
  have tA : e1 = 0 → _ := fun h => hdr_turned f ch (hb1' h)
  have tB : e2 = 0 → _ := fun h => cmt_turned f ch (hb2' h)
  have tD : e3 = 0 → _ := fun h => chk_turned f ch (hb3' h)
  (refine w ?_; repeat ((first | refine VO.step rfl rfl ?_ | refine VD.end rfl rfl rfl ?_ | refine VD.mid rfl rfl rfl ?_); refine OpV.box rfl rfl rfl ?_; intro _; refine w ?_))
  ((first | refine VO.step rfl rfl ?_ | refine VD.end rfl rfl rfl ?_ | refine VD.mid rfl rfl rfl ?_); refine OpV.call rfl rfl (fun _ _ => by simp) (turned_ok (own_rds (x := (a1, c1)) hn1 (by (focus repeat first | exact .head _ | apply List.Mem.tail))) f ch hf' hch (by omega)) Ent.refl rfl ?_)
  rintro ⟨x1, y1⟩ -
  (refine VO.know (p := x1 = none → (turnM A f ch 32).length = 0) (fun w hw => hw.ownNone (.head _)) ?_; intro kn1; refine VO.know (p := (turnM A f ch 32).length ≤ y1) (fun w hw => hw.ownCap (.head _)) ?_; intro kc1)
  generalize turnM A f ch 32 = X at *
  (refine w ?_; repeat ((first | refine VO.step rfl rfl ?_ | refine VD.end rfl rfl rfl ?_ | refine VD.mid rfl rfl rfl ?_); refine OpV.box rfl rfl rfl ?_; intro _; refine w ?_))
  ((first | refine VO.step rfl rfl ?_ | refine VD.end rfl rfl rfl ?_ | refine VD.mid rfl rfl rfl ?_); refine OpV.call rfl rfl (fun _ _ => by simp) (turned_ok (own_rds (x := (a2, c2)) hn2 (by (focus repeat first | exact .head _ | apply List.Mem.tail))) f ch hf' hch (by omega)) Ent.refl rfl ?_)
  rintro ⟨x2, y2⟩ -
  (refine VO.know (p := x2 = none → (turnM B f ch 32).length = 0) (fun w hw => hw.ownNone (.head _)) ?_; intro kn2; refine VO.know (p := (turnM B f ch 32).length ≤ y2) (fun w hw => hw.ownCap (.head _)) ?_; intro kc2)
  generalize turnM B f ch 32 = Y at *
  (refine w ?_; repeat ((first | refine VO.step rfl rfl ?_ | refine VD.end rfl rfl rfl ?_ | refine VD.mid rfl rfl rfl ?_); refine OpV.box rfl rfl rfl ?_; intro _; refine w ?_))
  ((first | refine VO.step rfl rfl ?_ | refine VD.end rfl rfl rfl ?_ | refine VD.mid rfl rfl rfl ?_); refine OpV.call rfl rfl (fun _ _ => by simp) (turned_ok (own_rds (x := (a3, c3)) hn3 (by (focus repeat first | exact .head _ | apply List.Mem.tail))) f ch hf' hch (by omega)) Ent.refl rfl ?_)
  rintro ⟨x3, y3⟩ -
  (refine VO.know (p := x3 = none → (turnM D f ch 32).length = 0) (fun w hw => hw.ownNone (.head _)) ?_; intro kn3; refine VO.know (p := (turnM D f ch 32).length ≤ y3) (fun w hw => hw.ownCap (.head _)) ?_; intro kc3)
  generalize turnM D f ch 32 = Z at *
  (refine w ?_; repeat ((first | refine VO.step rfl rfl ?_ | refine VD.end rfl rfl rfl ?_ | refine VD.mid rfl rfl rfl ?_); refine OpV.box rfl rfl rfl ?_; intro _; refine w ?_))
  ((first | refine VO.step rfl rfl ?_ | refine VD.end rfl rfl rfl ?_ | refine VD.mid rfl rfl rfl ?_); refine OpV.call rfl rfl (fun _ _ => by simp) (dech_ok (own_rds (x := (x1, y1)) kn1 (by (focus repeat first | exact .head _ | apply List.Mem.tail))) kc1) Ent.refl rfl ?_)
  intro _ _
  obtain ⟨DX, hDX⟩ : ∃ DX, DX = HdrD.dec X := ⟨_, rfl⟩
  rw [← hDX] at tA ⊢
  obtain ⟨l1, dx⟩ := DX
  dsimp only at tA ⊢
  (refine w ?_; repeat ((first | refine VO.step rfl rfl ?_ | refine VD.end rfl rfl rfl ?_ | refine VD.mid rfl rfl rfl ?_); refine OpV.box rfl rfl rfl ?_; intro _; refine w ?_))
  ((first | refine VO.step rfl rfl ?_ | refine VD.end rfl rfl rfl ?_ | refine VD.mid rfl rfl rfl ?_); refine OpV.allocS sb_57 rfl ?_; intro n21)
  (first | refine VO.step rfl rfl ?_ | refine VD.end rfl rfl rfl ?_ | refine VD.mid rfl rfl rfl ?_)
  refine OpV.stA (vs := dx.cells) tab_ok rfl rfl rfl rfl (hdr_one _) (by (repeat first | exact .head | apply Hole.tail)) (by simp) ?_
  refine VO.ent (Ent.re (L := OwnB (x3, y3) Z :: OwnB (x2, y2) Y :: OwnB (x1, y1) X :: OwnB (a3, c3) D :: OwnB (a2, c2) B :: OwnB (a1, c1) A :: [])) ?_
  (refine w ?_; repeat ((first | refine VO.step rfl rfl ?_ | refine VD.end rfl rfl rfl ?_ | refine VD.mid rfl rfl rfl ?_); refine OpV.box rfl rfl rfl ?_; intro _; refine w ?_))
  ((first | refine VO.step rfl rfl ?_ | refine VD.end rfl rfl rfl ?_ | refine VD.mid rfl rfl rfl ?_); refine OpV.call rfl rfl (fun _ _ => by simp) (decc_ok (own_rds (x := (x2, y2)) kn2 (by (focus repeat first | exact .head _ | apply List.Mem.tail))) kc2) Ent.refl rfl ?_)
  intro _ _
  obtain ⟨DY, hDY⟩ : ∃ DY, DY = CmtD.dec Y := ⟨_, rfl⟩
  rw [← hDY] at tB ⊢
  obtain ⟨l2, dy⟩ := DY
  dsimp only at tB ⊢
  (refine w ?_; repeat ((first | refine VO.step rfl rfl ?_ | refine VD.end rfl rfl rfl ?_ | refine VD.mid rfl rfl rfl ?_); refine OpV.box rfl rfl rfl ?_; intro _; refine w ?_))
  ((first | refine VO.step rfl rfl ?_ | refine VD.end rfl rfl rfl ?_ | refine VD.mid rfl rfl rfl ?_); refine OpV.allocS sb_59 rfl ?_; intro n23)
  (first | refine VO.step rfl rfl ?_ | refine VD.end rfl rfl rfl ?_ | refine VD.mid rfl rfl rfl ?_)
  refine OpV.stA (vs := dy.cells) tab_ok rfl rfl rfl rfl (cmt_one _) (by (repeat first | exact .head | apply Hole.tail)) (by simp) ?_
  refine VO.ent (Ent.re (L := OwnB (x3, y3) Z :: OwnB (x2, y2) Y :: OwnB (x1, y1) X :: OwnB (a3, c3) D :: OwnB (a2, c2) B :: OwnB (a1, c1) A :: [])) ?_
  (refine w ?_; repeat ((first | refine VO.step rfl rfl ?_ | refine VD.end rfl rfl rfl ?_ | refine VD.mid rfl rfl rfl ?_); refine OpV.box rfl rfl rfl ?_; intro _; refine w ?_))
  ((first | refine VO.step rfl rfl ?_ | refine VD.end rfl rfl rfl ?_ | refine VD.mid rfl rfl rfl ?_); refine OpV.call rfl rfl (fun _ _ => by simp) (decs_ok (own_rds (x := (x3, y3)) kn3 (by (focus repeat first | exact .head _ | apply List.Mem.tail))) kc3) Ent.refl rfl ?_)
  intro _ _
  obtain ⟨DZ, hDZ⟩ : ∃ DZ, DZ = ChkD.dec Z := ⟨_, rfl⟩
  rw [← hDZ] at tD ⊢
  obtain ⟨l3, dz⟩ := DZ
  dsimp only at tD ⊢
  (refine w ?_; repeat ((first | refine VO.step rfl rfl ?_ | refine VD.end rfl rfl rfl ?_ | refine VD.mid rfl rfl rfl ?_); refine OpV.box rfl rfl rfl ?_; intro _; refine w ?_))
  ((first | refine VO.step rfl rfl ?_ | refine VD.end rfl rfl rfl ?_ | refine VD.mid rfl rfl rfl ?_); refine OpV.allocS sb_61 rfl ?_; intro n25)
  (first | refine VO.step rfl rfl ?_ | refine VD.end rfl rfl rfl ?_ | refine VD.mid rfl rfl rfl ?_)
  refine OpV.stA (vs := dz.cells) tab_ok rfl rfl rfl rfl (chk_one _) (by (repeat first | exact .head | apply Hole.tail)) (by simp) ?_
  refine VO.ent (Ent.re (L := OwnB (x3, y3) Z :: OwnB (x2, y2) Y :: OwnB (x1, y1) X :: OwnB (a3, c3) D :: OwnB (a2, c2) B :: OwnB (a1, c1) A :: [])) ?_
  (refine w ?_; repeat ((first | refine VO.step rfl rfl ?_ | refine VD.end rfl rfl rfl ?_ | refine VD.mid rfl rfl rfl ?_); refine OpV.box rfl rfl rfl ?_; intro _; refine w ?_))
  refine VO.joinH [(13, .slice a2 B.length c2), (14, .int .u16 e2), (15, .slice a3 D.length c3), (16, .int .u16 e3), (19, .slice x2 Y.length y2), (20, .slice x3 Z.length y3), (24, .int .u16 l2), (26, .int .u16 l3), (27, .bool true)] (fun Q2 jn => ?_) ?_
  · rcases hE1 with rfl | rfl
    · (refine w ?_; repeat ((first | refine VO.step rfl rfl ?_ | refine VD.end rfl rfl rfl ?_ | refine VD.mid rfl rfl rfl ?_); refine OpV.box rfl rfl rfl ?_; intro _; refine w ?_))
      ((first | refine VO.step rfl rfl ?_ | refine VD.end rfl rfl rfl ?_ | refine VD.mid rfl rfl rfl ?_); refine OpV.call rfl rfl (fun _ _ => by simp) (same_any (own_rds (x := (a1, c1)) hn1 (by (focus repeat first | exact .head _ | apply List.Mem.tail))) (own_rds (x := (x1, y1)) kn1 (by (focus repeat first | exact .head _ | apply List.Mem.tail))) (by simp only [maxLen]; omega)) Ent.refl rfl ?_)
      intro _ _
      (refine w ?_; repeat ((first | refine VO.step rfl rfl ?_ | refine VD.end rfl rfl rfl ?_ | refine VD.mid rfl rfl rfl ?_); refine OpV.box rfl rfl rfl ?_; intro _; refine w ?_))
      refine jn.to () trivial ⟨rfl, rfl, rfl, rfl, rfl, rfl, rfl, rfl, asV rfl (by rw [tA rfl]), trivial⟩ Ent.refl
    · (refine w ?_; repeat ((first | refine VO.step rfl rfl ?_ | refine VD.end rfl rfl rfl ?_ | refine VD.mid rfl rfl rfl ?_); refine OpV.box rfl rfl rfl ?_; intro _; refine w ?_))
      refine jn.to () trivial ⟨rfl, rfl, rfl, rfl, rfl, rfl, rfl, rfl, rfl, trivial⟩ Ent.refl
  (refine w ?_; repeat ((first | refine VO.step rfl rfl ?_ | refine VD.end rfl rfl rfl ?_ | refine VD.mid rfl rfl rfl ?_); refine OpV.box rfl rfl rfl ?_; intro _; refine w ?_))
  refine VO.joinH [(15, .slice a3 D.length c3), (16, .int .u16 e3), (20, .slice x3 Z.length y3), (26, .int .u16 l3), (27, .bool true), (28, .bool true)] (fun Q2 jn => ?_) ?_
  · rcases hE2 with rfl | rfl
    · (refine w ?_; repeat ((first | refine VO.step rfl rfl ?_ | refine VD.end rfl rfl rfl ?_ | refine VD.mid rfl rfl rfl ?_); refine OpV.box rfl rfl rfl ?_; intro _; refine w ?_))
      ((first | refine VO.step rfl rfl ?_ | refine VD.end rfl rfl rfl ?_ | refine VD.mid rfl rfl rfl ?_); refine OpV.call rfl rfl (fun _ _ => by simp) (same_any (own_rds (x := (a2, c2)) hn2 (by (focus repeat first | exact .head _ | apply List.Mem.tail))) (own_rds (x := (x2, y2)) kn2 (by (focus repeat first | exact .head _ | apply List.Mem.tail))) (by simp only [maxLen]; omega)) Ent.refl rfl ?_)
      intro _ _
      (refine w ?_; repeat ((first | refine VO.step rfl rfl ?_ | refine VD.end rfl rfl rfl ?_ | refine VD.mid rfl rfl rfl ?_); refine OpV.box rfl rfl rfl ?_; intro _; refine w ?_))
      refine jn.to () trivial ⟨rfl, rfl, rfl, rfl, rfl, asV rfl (by rw [tB rfl]), trivial⟩ Ent.refl
    · (refine w ?_; repeat ((first | refine VO.step rfl rfl ?_ | refine VD.end rfl rfl rfl ?_ | refine VD.mid rfl rfl rfl ?_); refine OpV.box rfl rfl rfl ?_; intro _; refine w ?_))
      refine jn.to () trivial ⟨rfl, rfl, rfl, rfl, rfl, rfl, trivial⟩ Ent.refl
  (refine w ?_; repeat ((first | refine VO.step rfl rfl ?_ | refine VD.end rfl rfl rfl ?_ | refine VD.mid rfl rfl rfl ?_); refine OpV.box rfl rfl rfl ?_; intro _; refine w ?_))
  refine VO.joinH [(27, .bool true), (28, .bool true), (29, .bool true)] (fun Q2 jn => ?_) ?_
  · rcases hE3 with rfl | rfl
    · (refine w ?_; repeat ((first | refine VO.step rfl rfl ?_ | refine VD.end rfl rfl rfl ?_ | refine VD.mid rfl rfl rfl ?_); refine OpV.box rfl rfl rfl ?_; intro _; refine w ?_))
      ((first | refine VO.step rfl rfl ?_ | refine VD.end rfl rfl rfl ?_ | refine VD.mid rfl rfl rfl ?_); refine OpV.call rfl rfl (fun _ _ => by simp) (same_any (own_rds (x := (a3, c3)) hn3 (by (focus repeat first | exact .head _ | apply List.Mem.tail))) (own_rds (x := (x3, y3)) kn3 (by (focus repeat first | exact .head _ | apply List.Mem.tail))) (by simp only [maxLen]; omega)) Ent.refl rfl ?_)
      intro _ _
      (refine w ?_; repeat ((first | refine VO.step rfl rfl ?_ | refine VD.end rfl rfl rfl ?_ | refine VD.mid rfl rfl rfl ?_); refine OpV.box rfl rfl rfl ?_; intro _; refine w ?_))
      refine jn.to () trivial ⟨rfl, rfl, asV rfl (by rw [tD rfl]), trivial⟩ Ent.refl
    · (refine w ?_; repeat ((first | refine VO.step rfl rfl ?_ | refine VD.end rfl rfl rfl ?_ | refine VD.mid rfl rfl rfl ?_); refine OpV.box rfl rfl rfl ?_; intro _; refine w ?_))
      refine jn.to () trivial ⟨rfl, rfl, rfl, trivial⟩ Ent.refl
  (refine w ?_; repeat ((first | refine VO.step rfl rfl ?_ | refine VD.end rfl rfl rfl ?_ | refine VD.mid rfl rfl rfl ?_); refine OpV.box rfl rfl rfl ?_; intro _; refine w ?_))
  ((first | refine VO.step rfl rfl ?_ | refine VD.end rfl rfl rfl ?_ | refine VD.mid rfl rfl rfl ?_); refine OpV.call rfl rfl (fun _ _ => by simp) (recknown_ok) Ent.refl rfl ?_)
  intro _ _
  (refine w ?_; repeat ((first | refine VO.step rfl rfl ?_ | refine VD.end rfl rfl rfl ?_ | refine VD.mid rfl rfl rfl ?_); refine OpV.box rfl rfl rfl ?_; intro _; refine w ?_))
  (refine VE.done1 rfl ?_ ?_)
  · rfl
  · exact Ent.re
end Go.Proofs.Ytgkpdpoblofehaa
