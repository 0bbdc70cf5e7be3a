/- The statements of the disk: DiskAll. -/
import Derived.Test.YthefmgmgmoanlaaDp
set_option maxRecDepth 8000
set_option linter.unusedVariables false
set_option linter.unusedSimpArgs false
set_option linter.unusedSectionVars false
namespace Go.Proofs.Ythefmgmgmoanlaa
open Go.RowKit Go.Sl
attribute [local irreducible] Own

theorem flatten_length : ∀ l : List (List UInt8), (∀ b ∈ l, b.length = 128) → l.flatten.length = l.length * 128
  | [], _ => rfl
  | a :: r, h => by rw [List.flatten_cons, List.length_append, flatten_length r (fun b hb => h b (.tail _ hb)), h a (.head _), List.length_cons, Nat.add_mul]; omega
theorem DiskD.settle_all (k : DiskD) (n : Nat) (h : k.cache.length ≤ n) : k.settle (keepOf (List.replicate n true)) = k.settle fun _ => true := by
  unfold DiskD.settle
  rw [sets_congr _ (fun _ => true) k.cache k.last 0 (fun j hj => by
    have : j < n := by omega
    simp [keepOf, this])]

set_option maxHeartbeats 8000000 in
theorem dall_ok {W : World} (s : UInt8) {ao ko : Option Addr} {cap nk ck : Nat} {l : List ActD} {lk : List Bool} (hs : Acts W ao l) (hkk : RdsA W 1 ko nk (bools lk)) :
    Does1 W Try.prog 6 [.int .u8 (s.toNat : Int), .slice ao l.length cap, .slice ko nk ck] [] (.bool true) [] := by
  have hs9 := s.toNat_lt
  (refine Does.enter Try.func6 Try.ntmps6 rfl rfl ?_)
  (refine w ?_; repeat ((first | refine VO.step rfl rfl ?_ | refine VD.end rfl rfl rfl ?_ | refine VD.mid rfl rfl rfl ?_); refine OpV.box rfl rfl rfl ?_; intro _; refine w ?_))
  refine VO.re 20 (.int .i64 (s.toNat : Int)) rfl (by rw [IntWalk.i64_in _ ⟨by omega, by omega⟩]) ?_
  (first | refine VO.pure rfl rfl (PureAt.rem (b := 20) rfl rfl (by decide)) rfl ?_ | refine VD.take rfl rfl rfl (PureAt.rem (b := 20) rfl rfl (by decide)) rfl ?_ | refine VQ.pure rfl rfl (PureAt.rem (b := 20) rfl rfl (by decide)) rfl ?_ | refine VD.end rfl rfl rfl (OpV.pure (PureAt.rem (b := 20) rfl rfl (by decide)) rfl ?_))
  (first | (first | refine VO.nil rfl ?_ | refine VQ.nil rfl ?_ | refine VD.nil ?_ | ((first | apply VO.pure rfl rfl | apply VQ.pure rfl rfl | apply VD.take rfl rfl rfl | (refine VD.end rfl rfl rfl ?_; apply OpV.pure)); (first | (apply PureAt.ar64 rfl rfl rfl; omega) | exact .eval tab_ok rfl | (apply PureAt.ld tab_ok rfl rfl; (focus repeat first | exact .head _ | apply List.Mem.tail); rfl) | (apply PureAt.shr rfl rfl (by decide) (by decide)) | (apply PureAt.shr rfl rfl (by omega) (by simp only [IntKind.bits]; omega)) | exact .fieldAddrA tab_ok rfl rfl | exact .sliceLH tab_ok rfl rfl rfl rfl (by omega) (by omega) | exact .sliceH tab_ok rfl rfl rfl (by omega) | exact .sliceL tab_ok rfl rfl rfl (by omega) | (first | exact .indexAddr tab_ok rfl rfl rfl rfl (by omega) | exact .indexAddrN tab_ok rfl rfl rfl rfl (by omega) | exact .ldR tab_ok rfl rfl hr1 (List.getElem?_eq_getElem (by omega)) | exact .ldR tab_ok rfl rfl hr2 (List.getElem?_eq_getElem (by omega)) | exact ldB tab_ok rfl rfl hb1 (by omega) | exact ldB tab_ok rfl rfl hb2 (by omega)) | (apply PureAt.ldA tab_ok rfl rfl; (focus repeat first | exact .head _ | apply List.Mem.tail); rfl; rfl) | exact .ldro tab_ok rfl rfl (by assumption)); rfl) | refine VO.skip rfl rfl rfl rfl ?_ | refine VQ.skip rfl rfl rfl rfl ?_ | refine VD.skip rfl rfl rfl rfl rfl ?_ | ((first | refine VO.step rfl rfl ?_ | refine VD.end rfl rfl rfl ?_ | refine VD.mid rfl rfl rfl ?_); (first | (apply OpV.st tab_ok rfl rfl rfl rfl (by (repeat first | exact .head | apply Hole.tail)) (by simp)) | (refine OpV.box rfl rfl rfl ?_; intro _))) | refine ⟨Ent.re, ?_⟩) | (first | refine VC.seq rfl ?_ | refine VC.region rfl ?_ | refine VC.condT rfl rfl ?_ | refine VC.condF rfl rfl ?_ | refine VC.block rfl ?_ | refine VC.skip rfl ?_ | refine VC.ret rfl ?_ | refine VC.exit rfl ?_) | (first | refine VE.next ?_ | refine VE.passRet ?_ | refine VE.passExit ?_ | refine VE.blockNormal ?_ | refine VE.blockHit ?_ | refine VE.blockMiss rfl ?_ | refine VE.blockRet ?_ | refine VE.loopRet ?_ | refine VE.loopExit ?_))
  refine VO.re 22 (.int .i64 ((s.toNat % 20 + 1 : Nat) : Int)) rfl (by first | rfl | (congr 1; done) | (rw [IntWalk.i64_in _ ⟨by omega, by omega⟩]; rfl)) ?_
  generalize hn : s.toNat % 20 + 1 = n
  have hn1 : 1 ≤ n := by omega
  have hn2 : n ≤ 20 := by omega
  (refine w ?_; repeat ((first | refine VO.step rfl rfl ?_ | refine VD.end rfl rfl rfl ?_ | refine VD.mid rfl rfl rfl ?_); refine OpV.box rfl rfl rfl ?_; intro _; refine w ?_))
  ((first | refine VO.split rfl rfl rfl ?_ ?_ | refine VD.split rfl rfl rfl ?_ ?_) <;> intro hb)
  · (refine w ?_; repeat ((first | refine VO.step rfl rfl ?_ | refine VD.end rfl rfl rfl ?_ | refine VD.mid rfl rfl rfl ?_); refine OpV.box rfl rfl rfl ?_; intro _; refine w ?_))
    (((first | refine VO.step rfl rfl ?_ | refine VD.end rfl rfl rfl ?_ | refine VD.mid rfl rfl rfl ?_); refine OpV.call rfl rfl (fun _ _ => by simp) (dknown_ok) Ent.re rfl ?_); intro _ _)
    (refine w ?_; repeat ((first | refine VO.step rfl rfl ?_ | refine VD.end rfl rfl rfl ?_ | refine VD.mid rfl rfl rfl ?_); refine OpV.box rfl rfl rfl ?_; intro _; refine w ?_))
    (first | exact VE.done1 rfl rfl Ent.refl | exact VE.done1N rfl rfl Ent.refl)
  have hlen : l.length ≤ 300 := by have := of_decide_eq_false hb; omega
  (refine w ?_; repeat ((first | refine VO.step rfl rfl ?_ | refine VD.end rfl rfl rfl ?_ | refine VD.mid rfl rfl rfl ?_); refine OpV.box rfl rfl rfl ?_; intro _; refine w ?_))
  (((first | refine VO.step rfl rfl ?_ | refine VD.end rfl rfl rfl ?_ | refine VD.mid rfl rfl rfl ?_); refine OpV.call rfl rfl (fun _ _ => by simp) (dknown_ok) Ent.re rfl ?_); intro _ _)
  (refine w ?_; repeat ((first | refine VO.step rfl rfl ?_ | refine VD.end rfl rfl rfl ?_ | refine VD.mid rfl rfl rfl ?_); refine OpV.box rfl rfl rfl ?_; intro _; refine w ?_))
  ((first | refine VO.step rfl rfl ?_ | refine VD.end rfl rfl rfl ?_ | refine VD.mid rfl rfl rfl ?_); refine OpV.call rfl rfl (fun _ _ => by simp) (disknew_ok n (by omega) (by omega)) Ent.re rfl ?_)
  intro d _
  (refine w ?_; repeat ((first | refine VO.step rfl rfl ?_ | refine VD.end rfl rfl rfl ?_ | refine VD.mid rfl rfl rfl ?_); refine OpV.box rfl rfl rfl ?_; intro _; refine w ?_))
  ((first | refine VO.step rfl rfl ?_ | refine VD.end rfl rfl rfl ?_ | refine VD.mid rfl rfl rfl ?_); refine OpV.call rfl rfl (fun _ _ => by simp) (disknew_ok n (by omega) (by omega)) Ent.re rfl ?_)
  intro o _
  (refine w ?_; repeat ((first | refine VO.step rfl rfl ?_ | refine VD.end rfl rfl rfl ?_ | refine VD.mid rfl rfl rfl ?_); refine OpV.box rfl rfl rfl ?_; intro _; refine w ?_))
  refine VC.loop (α := Nat × DiskD) (fun g => g.1 ≤ l.length ∧ g.2.failed = false ∧ g.2.last.length = n ∧ g.2.cache.length = g.1)
    (fun g => [DiskR d g.2, DiskR o g.2])
    (fun g => [(1, .slice ao l.length cap), (2, .slice ko nk ck), (7, .int .i64 n), (8, .pointer (some ⟨d, 0, none⟩)), (10, .pointer (some ⟨o, 0, none⟩)), (12, .int .i64 g.1)]) (fun g => l.length - g.1) rfl
    (0, ⟨List.replicate n zeroSec, [], false⟩) ⟨Nat.zero_le _, rfl, List.length_replicate, rfl⟩ Ent.re ⟨rfl, rfl, rfl, rfl, rfl, rfl, trivial⟩ ?_
  rintro ⟨i, K⟩ ⟨hi, hKf, hKl, hKc⟩
  dsimp only at hi hKf hKl hKc ⊢
  (refine w ?_; repeat ((first | refine VO.step rfl rfl ?_ | refine VD.end rfl rfl rfl ?_ | refine VD.mid rfl rfl rfl ?_); refine OpV.box rfl rfl rfl ?_; intro _; refine w ?_))
  (refine VC.cond rfl rfl ?_ ?_ <;> intro hc)
  · have hlt : i < l.length := by have := of_decide_eq_true hc; omega
    obtain ⟨a, rfl⟩ : ∃ a, ao = some a := by cases ao with | none => have := (hs.rds []).nil rfl; omega | some a => exact ⟨a, rfl⟩
    have c0 := (actCells_get l i 0 hlt (by decide)).trans (show _ = some (Value.int .u8 (l[i].kind.toNat : Int)) from rfl)
    generalize l[i] = x at *
    have hx9 := x.kind.toNat_lt
    (refine w ?_; repeat ((first | refine VO.step rfl rfl ?_ | refine VD.end rfl rfl rfl ?_ | refine VD.mid rfl rfl rfl ?_); refine OpV.box rfl rfl rfl ?_; intro _; refine w ?_))
    (first | refine VO.pure rfl rfl (.ldRc tab_ok rfl rfl (hs.rds _) c0) rfl ?_ | refine VD.take rfl rfl rfl (.ldRc tab_ok rfl rfl (hs.rds _) c0) rfl ?_ | refine VQ.pure rfl rfl (.ldRc tab_ok rfl rfl (hs.rds _) c0) rfl ?_ | refine VD.end rfl rfl rfl (OpV.pure (.ldRc tab_ok rfl rfl (hs.rds _) c0) rfl ?_))
    (first | (first | refine VO.nil rfl ?_ | refine VQ.nil rfl ?_ | refine VD.nil ?_ | ((first | apply VO.pure rfl rfl | apply VQ.pure rfl rfl | apply VD.take rfl rfl rfl | (refine VD.end rfl rfl rfl ?_; apply OpV.pure)); (first | (apply PureAt.ar64 rfl rfl rfl; omega) | exact .eval tab_ok rfl | (apply PureAt.ld tab_ok rfl rfl; (focus repeat first | exact .head _ | apply List.Mem.tail); rfl) | (apply PureAt.shr rfl rfl (by decide) (by decide)) | (apply PureAt.shr rfl rfl (by omega) (by simp only [IntKind.bits]; omega)) | exact .fieldAddrA tab_ok rfl rfl | exact .sliceLH tab_ok rfl rfl rfl rfl (by omega) (by omega) | exact .sliceH tab_ok rfl rfl rfl (by omega) | exact .sliceL tab_ok rfl rfl rfl (by omega) | (first | exact .indexAddr tab_ok rfl rfl rfl rfl (by omega) | exact .indexAddrN tab_ok rfl rfl rfl rfl (by omega) | exact .ldR tab_ok rfl rfl hr1 (List.getElem?_eq_getElem (by omega)) | exact .ldR tab_ok rfl rfl hr2 (List.getElem?_eq_getElem (by omega)) | exact ldB tab_ok rfl rfl hb1 (by omega) | exact ldB tab_ok rfl rfl hb2 (by omega)) | (apply PureAt.ldA tab_ok rfl rfl; (focus repeat first | exact .head _ | apply List.Mem.tail); rfl; rfl) | exact .ldro tab_ok rfl rfl (by assumption)); rfl) | refine VO.skip rfl rfl rfl rfl ?_ | refine VQ.skip rfl rfl rfl rfl ?_ | refine VD.skip rfl rfl rfl rfl rfl ?_ | ((first | refine VO.step rfl rfl ?_ | refine VD.end rfl rfl rfl ?_ | refine VD.mid rfl rfl rfl ?_); (first | (apply OpV.st tab_ok rfl rfl rfl rfl (by (repeat first | exact .head | apply Hole.tail)) (by simp)) | (refine OpV.box rfl rfl rfl ?_; intro _))) | refine ⟨Ent.re, ?_⟩) | (first | refine VC.seq rfl ?_ | refine VC.region rfl ?_ | refine VC.condT rfl rfl ?_ | refine VC.condF rfl rfl ?_ | refine VC.block rfl ?_ | refine VC.skip rfl ?_ | refine VC.ret rfl ?_ | refine VC.exit rfl ?_) | (first | refine VE.next ?_ | refine VE.passRet ?_ | refine VE.passExit ?_ | refine VE.blockNormal ?_ | refine VE.blockHit ?_ | refine VE.blockMiss rfl ?_ | refine VE.blockRet ?_ | refine VE.loopRet ?_ | refine VE.loopExit ?_))
    refine VO.re 66 (.int .i64 (x.kind.toNat : Int)) rfl (by rw [IntWalk.i64_in _ ⟨by omega, by omega⟩]) ?_
    (refine w ?_; repeat ((first | refine VO.step rfl rfl ?_ | refine VD.end rfl rfl rfl ?_ | refine VD.mid rfl rfl rfl ?_); refine OpV.box rfl rfl rfl ?_; intro _; refine w ?_))
    (first | refine VO.pure rfl rfl (PureAt.rem (b := n) rfl rfl (by omega)) rfl ?_ | refine VD.take rfl rfl rfl (PureAt.rem (b := n) rfl rfl (by omega)) rfl ?_ | refine VQ.pure rfl rfl (PureAt.rem (b := n) rfl rfl (by omega)) rfl ?_ | refine VD.end rfl rfl rfl (OpV.pure (PureAt.rem (b := n) rfl rfl (by omega)) rfl ?_))
    generalize hm : x.kind.toNat % n = m
    have hmn : m < n := by rw [← hm]; exact Nat.mod_lt _ (by omega)
    (refine w ?_; repeat ((first | refine VO.step rfl rfl ?_ | refine VD.end rfl rfl rfl ?_ | refine VD.mid rfl rfl rfl ?_); refine OpV.box rfl rfl rfl ?_; intro _; refine w ?_))
    refine VO.re 72 (.int .u8 ((UInt8.ofNat i).toNat : Int)) rfl (by rw [u8_of]) ?_
    ((first | refine VO.step rfl rfl ?_ | refine VD.end rfl rfl rfl ?_ | refine VD.mid rfl rfl rfl ?_); refine OpV.call rfl rfl (fun _ _ => by simp) (sector_ok (UInt8.ofNat i)) Ent.re rfl ?_)
    intro q _
    (refine w ?_; repeat ((first | refine VO.step rfl rfl ?_ | refine VD.end rfl rfl rfl ?_ | refine VD.mid rfl rfl rfl ?_); refine OpV.box rfl rfl rfl ?_; intro _; refine w ?_))
    (((first | refine VO.step rfl rfl ?_ | refine VD.end rfl rfl rfl ?_ | refine VD.mid rfl rfl rfl ?_); refine OpV.call rfl rfl (fun _ _ => by simp) (write_ok d K m (by omega) hKf (fullSec_length _) (by omega) SecO.rds) Ent.re rfl ?_); intro _ _)
    (refine w ?_; repeat ((first | refine VO.step rfl rfl ?_ | refine VD.end rfl rfl rfl ?_ | refine VD.mid rfl rfl rfl ?_); refine OpV.box rfl rfl rfl ?_; intro _; refine w ?_))
    refine VO.re 78 (.int .u8 ((UInt8.ofNat i).toNat : Int)) rfl (by rw [u8_of]) ?_
    ((first | refine VO.step rfl rfl ?_ | refine VD.end rfl rfl rfl ?_ | refine VD.mid rfl rfl rfl ?_); refine OpV.call rfl rfl (fun _ _ => by simp) (sector_ok (UInt8.ofNat i)) Ent.re rfl ?_)
    intro q2 _
    (refine w ?_; repeat ((first | refine VO.step rfl rfl ?_ | refine VD.end rfl rfl rfl ?_ | refine VD.mid rfl rfl rfl ?_); refine OpV.box rfl rfl rfl ?_; intro _; refine w ?_))
    (((first | refine VO.step rfl rfl ?_ | refine VD.end rfl rfl rfl ?_ | refine VD.mid rfl rfl rfl ?_); refine OpV.call rfl rfl (fun _ _ => by simp) (write_ok o K m (by omega) hKf (fullSec_length _) (by omega) SecO.rds) Ent.re rfl ?_); intro _ _)
    (refine w ?_; repeat ((first | refine VO.step rfl rfl ?_ | refine VD.end rfl rfl rfl ?_ | refine VD.mid rfl rfl rfl ?_); refine OpV.box rfl rfl rfl ?_; intro _; refine w ?_))
    exact VE.round (i + 1, K.write m (fullSec (UInt8.ofNat i))) ⟨hlt, hKf, hKl, (by show (K.cache ++ [_]).length = _; rw [List.length_append, hKc]; rfl)⟩ (by simp only; omega) ⟨rfl, rfl, rfl, rfl, rfl, rfl, trivial⟩ Ent.re
  · have hge : i = l.length := by have := of_decide_eq_false hc; omega
    subst hge
    (refine w ?_; repeat ((first | refine VO.step rfl rfl ?_ | refine VD.end rfl rfl rfl ?_ | refine VD.mid rfl rfl rfl ?_); refine OpV.box rfl rfl rfl ?_; intro _; refine w ?_))
    (((first | refine VO.step rfl rfl ?_ | refine VD.end rfl rfl rfl ?_ | refine VD.mid rfl rfl rfl ?_); refine OpV.call rfl rfl (fun _ _ => by simp) (flush_ok d K hKf) Ent.re rfl ?_); intro _ _)
    (refine w ?_; repeat ((first | refine VO.step rfl rfl ?_ | refine VD.end rfl rfl rfl ?_ | refine VD.mid rfl rfl rfl ?_); refine OpV.box rfl rfl rfl ?_; intro _; refine w ?_))
    (first | refine VO.step rfl rfl ?_ | refine VD.end rfl rfl rfl ?_ | refine VD.mid rfl rfl rfl ?_)
    refine OpV.makeSlice1 (m := l.length) st_51 rfl rfl rfl (by omega) (by simp only [maxLen]; omega) rfl ?_
    intro nb
    (refine w ?_; repeat ((first | refine VO.step rfl rfl ?_ | refine VD.end rfl rfl rfl ?_ | refine VD.mid rfl rfl rfl ?_); refine OpV.box rfl rfl rfl ?_; intro _; refine w ?_))
    refine VC.loop (α := Nat) (fun i => i ≤ l.length) (fun i => [Own 4 1 (.slice (some ⟨nb, 0, none⟩) l.length l.length) l.length (List.replicate i (.bool true) ++ List.replicate (l.length - i) (.bool false)), DiskR d (K.settle fun _ => true), DiskR o K])
      (fun i => [(2, .slice ko nk ck), (7, .int .i64 n), (8, .pointer (some ⟨d, 0, none⟩)), (10, .pointer (some ⟨o, 0, none⟩)), (14, .slice (some ⟨nb, 0, none⟩) l.length l.length), (15, .int .i64 i)]) (fun i => l.length - i) rfl 0 (Nat.zero_le _) (by rw [List.replicate_zero, List.nil_append, Nat.sub_zero]; exact Ent.re) ⟨rfl, rfl, rfl, rfl, rfl, rfl, trivial⟩ ?_
    intro i hi
    (refine w ?_; repeat ((first | refine VO.step rfl rfl ?_ | refine VD.end rfl rfl rfl ?_ | refine VD.mid rfl rfl rfl ?_); refine OpV.box rfl rfl rfl ?_; intro _; refine w ?_))
    (refine VC.cond rfl rfl ?_ ?_ <;> intro hc)
    · have hlt : i < l.length := by have := of_decide_eq_true hc; omega
      have hset : (List.replicate i (Value.bool true) ++ List.replicate (l.length - i) (Value.bool false)).set i (Value.bool true) = List.replicate (i + 1) (Value.bool true) ++ List.replicate (l.length - (i + 1)) (Value.bool false) := by
        rw [List.set_append_right _ _ (by simp), List.length_replicate, Nat.sub_self, show l.length - i = (l.length - (i + 1)) + 1 by omega, List.replicate_succ, List.set_cons_zero, List.replicate_succ', List.append_assoc]; rfl
      (refine w ?_; repeat ((first | refine VO.step rfl rfl ?_ | refine VD.end rfl rfl rfl ?_ | refine VD.mid rfl rfl rfl ?_); refine OpV.box rfl rfl rfl ?_; intro _; refine w ?_))
      (first | refine VO.step rfl rfl ?_ | refine VD.end rfl rfl rfl ?_ | refine VD.mid rfl rfl rfl ?_)
      refine OpV.stO tab_ok rfl rfl rfl rfl .head (by rw [List.length_append, List.length_replicate, List.length_replicate]; omega) ?_
      rw [hset]
      (refine w ?_; repeat ((first | refine VO.step rfl rfl ?_ | refine VD.end rfl rfl rfl ?_ | refine VD.mid rfl rfl rfl ?_); refine OpV.box rfl rfl rfl ?_; intro _; refine w ?_))
      exact VE.round (i + 1) hlt (by omega) ⟨rfl, rfl, rfl, rfl, rfl, rfl, trivial⟩ Ent.refl
    · have hge : i = l.length := by have := of_decide_eq_false hc; omega
      subst hge
      have eb : List.replicate l.length (Value.bool true) = bools (List.replicate l.length true) := by unfold bools; rw [List.map_replicate]
      rw [Nat.sub_self, List.replicate_zero, List.append_nil, eb]
      (refine w ?_; repeat ((first | refine VO.step rfl rfl ?_ | refine VD.end rfl rfl rfl ?_ | refine VD.mid rfl rfl rfl ?_); refine OpV.box rfl rfl rfl ?_; intro _; refine w ?_))
      (((first | refine VO.step rfl rfl ?_ | refine VD.end rfl rfl rfl ?_ | refine VD.mid rfl rfl rfl ?_); refine OpV.call rfl rfl (fun _ _ => by simp) (crash_ok (l := List.replicate l.length true) o K (Rds.own (H := [Own 4 1 (.slice (some ⟨nb, 0, none⟩) l.length l.length) l.length (bools (List.replicate l.length true)), DiskR d (K.settle fun _ => true)]) (bools_one _) (.head _) (by rw [bools_length, List.length_replicate, Nat.mul_one]) (fun h => by cases h))) Ent.re rfl ?_); intro _ _)
      rw [DiskD.settle_all K l.length (by omega)]
      have hl1 : (K.settle fun _ => true).last.length = n := (DiskD.settle_last_length _ _).trans hKl
      have hf1 : (K.settle fun _ => true).failed = false := hKf
      have hc1 : (K.settle fun _ => true).cache = [] := rfl
      generalize (K.settle fun _ => true) = J at *
      refine VO.know (fun w hw => DiskR.know hw) ?_
      intro hJ
      have hfl : J.last.flatten.length = n * 128 := by rw [flatten_length _ hJ.last, hl1]
      (refine w ?_; repeat ((first | refine VO.step rfl rfl ?_ | refine VD.end rfl rfl rfl ?_ | refine VD.mid rfl rfl rfl ?_); refine OpV.box rfl rfl rfl ?_; intro _; refine w ?_))
      ((first | refine VO.step rfl rfl ?_ | refine VD.end rfl rfl rfl ?_ | refine VD.mid rfl rfl rfl ?_); refine OpV.call rfl rfl (fun _ _ => by simp) (image_ok d J hf1) Ent.re rfl ?_)
      rintro ⟨x, xc⟩ -
      rw [hl1]
      (refine w ?_; repeat ((first | refine VO.step rfl rfl ?_ | refine VD.end rfl rfl rfl ?_ | refine VD.mid rfl rfl rfl ?_); refine OpV.box rfl rfl rfl ?_; intro _; refine w ?_))
      ((first | refine VO.step rfl rfl ?_ | refine VD.end rfl rfl rfl ?_ | refine VD.mid rfl rfl rfl ?_); refine OpV.call rfl rfl (fun _ _ => by simp) (image_ok o J hf1) Ent.re rfl ?_)
      rintro ⟨y, yc⟩ -
      rw [hl1]
      (refine w ?_; repeat ((first | refine VO.step rfl rfl ?_ | refine VD.end rfl rfl rfl ?_ | refine VD.mid rfl rfl rfl ?_); refine OpV.box rfl rfl rfl ?_; intro _; refine w ?_))
      (((first | refine VO.step rfl rfl ?_ | refine VD.end rfl rfl rfl ?_ | refine VD.mid rfl rfl rfl ?_); refine OpV.call rfl rfl (fun _ _ => by simp) (crash_ok o J (hkk _)) Ent.re rfl ?_); intro _ _)
      rw [DiskD.settle_clean hc1]
      (refine w ?_; repeat ((first | refine VO.step rfl rfl ?_ | refine VD.end rfl rfl rfl ?_ | refine VD.mid rfl rfl rfl ?_); refine OpV.box rfl rfl rfl ?_; intro _; refine w ?_))
      ((first | refine VO.step rfl rfl ?_ | refine VD.end rfl rfl rfl ?_ | refine VD.mid rfl rfl rfl ?_); refine OpV.call rfl rfl (fun _ _ => by simp) (image_ok o J hf1) Ent.re rfl ?_)
      rintro ⟨z, zc⟩ -
      rw [hl1]
      refine VO.know (fun w hw => hw.ownNone (show Own 5 1 (.slice x (n * 128) xc) (n * 128) (bytes J.last.flatten) ∈ _ by (focus repeat first | exact .head _ | apply List.Mem.tail)) : ∀ w, _ → (x = none → n * 128 = 0)) ?_
      intro hx0
      refine VO.know (fun w hw => hw.ownNone (show Own 5 1 (.slice y (n * 128) yc) (n * 128) (bytes J.last.flatten) ∈ _ by (focus repeat first | exact .head _ | apply List.Mem.tail)) : ∀ w, _ → (y = none → n * 128 = 0)) ?_
      intro hy0
      refine VO.know (fun w hw => hw.ownNone (show Own 5 1 (.slice z (n * 128) zc) (n * 128) (bytes J.last.flatten) ∈ _ by (focus repeat first | exact .head _ | apply List.Mem.tail)) : ∀ w, _ → (z = none → n * 128 = 0)) ?_
      intro hz0
      (refine w ?_; repeat ((first | refine VO.step rfl rfl ?_ | refine VD.end rfl rfl rfl ?_ | refine VD.mid rfl rfl rfl ?_); refine OpV.box rfl rfl rfl ?_; intro _; refine w ?_))
      ((first | refine VO.step rfl rfl ?_ | refine VD.end rfl rfl rfl ?_ | refine VD.mid rfl rfl rfl ?_); refine OpV.call rfl rfl (fun _ _ => by simp) (same_any (a := J.last.flatten) (b := J.last.flatten) (Rds.own (bytes_one _) (show Own 5 1 (.slice x (n * 128) xc) (n * 128) (bytes J.last.flatten) ∈ _ by (focus repeat first | exact .head _ | apply List.Mem.tail)) (by rw [bytes_length, hfl, Nat.mul_one]) hx0) (Rds.own (bytes_one _) (show Own 5 1 (.slice y (n * 128) yc) (n * 128) (bytes J.last.flatten) ∈ _ by (focus repeat first | exact .head _ | apply List.Mem.tail)) (by rw [bytes_length, hfl, Nat.mul_one]) hy0) (by simp only [maxLen]; omega)) Ent.refl rfl ?_; intro _ _)
      (refine w ?_; repeat ((first | refine VO.step rfl rfl ?_ | refine VD.end rfl rfl rfl ?_ | refine VD.mid rfl rfl rfl ?_); refine OpV.box rfl rfl rfl ?_; intro _; refine w ?_))
      (first | refine VO.gT rfl rfl rfl (by simp) ?_ | refine VD.gT rfl rfl rfl (by simp) ?_)
      (refine w ?_; repeat ((first | refine VO.step rfl rfl ?_ | refine VD.end rfl rfl rfl ?_ | refine VD.mid rfl rfl rfl ?_); refine OpV.box rfl rfl rfl ?_; intro _; refine w ?_))
      ((first | refine VO.step rfl rfl ?_ | refine VD.end rfl rfl rfl ?_ | refine VD.mid rfl rfl rfl ?_); refine OpV.call rfl rfl (fun _ _ => by simp) (same_any (a := J.last.flatten) (b := J.last.flatten) (Rds.own (bytes_one _) (show Own 5 1 (.slice y (n * 128) yc) (n * 128) (bytes J.last.flatten) ∈ _ by (focus repeat first | exact .head _ | apply List.Mem.tail)) (by rw [bytes_length, hfl, Nat.mul_one]) hy0) (Rds.own (bytes_one _) (show Own 5 1 (.slice z (n * 128) zc) (n * 128) (bytes J.last.flatten) ∈ _ by (focus repeat first | exact .head _ | apply List.Mem.tail)) (by rw [bytes_length, hfl, Nat.mul_one]) hz0) (by simp only [maxLen]; omega)) Ent.refl rfl ?_; intro _ _)
      (refine w ?_; repeat ((first | refine VO.step rfl rfl ?_ | refine VD.end rfl rfl rfl ?_ | refine VD.mid rfl rfl rfl ?_); refine OpV.box rfl rfl rfl ?_; intro _; refine w ?_))
      (first | refine VO.gT rfl rfl rfl (by simp) ?_ | refine VD.gT rfl rfl rfl (by simp) ?_)
      (refine w ?_; repeat ((first | refine VO.step rfl rfl ?_ | refine VD.end rfl rfl rfl ?_ | refine VD.mid rfl rfl rfl ?_); refine OpV.box rfl rfl rfl ?_; intro _; refine w ?_))
      (refine VE.done1 rfl ?_ ?_)
      · simp
      · exact Reord.ent .nil
end Go.Proofs.Ythefmgmgmoanlaa
