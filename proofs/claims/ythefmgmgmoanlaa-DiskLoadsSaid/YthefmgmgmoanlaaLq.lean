/- Scripts of calls: the law's data, 'much', 'puts'. -/
import Derived.Test.YthefmgmgmoanlaaLp
set_option maxRecDepth 8000
set_option linter.unusedVariables false
set_option linter.unusedSimpArgs false
set_option linter.unusedSectionVars false
namespace Go.Proofs.Ythefmgmgmoanlaa
open Go.RowKit Go.Sl

structure OpD where
  kind : Int
  v : Nat
  n : Int
  ao : Option Addr
  cap : Nat
  b : List UInt8
abbrev OpD.cells (o : OpD) : List Value := [.int .i64 o.kind, .int .u64 o.v, .int .i64 o.n, .slice o.ao o.b.length o.cap]
structure OpD.wf (W : World) (o : OpD) : Prop where
  v : o.v < 2 ^ 64
  n1 : -9223372036854775808 ≤ o.n
  n2 : o.n ≤ 9223372036854775807
  b : RdsA W 1 o.ao o.b.length (bytes o.b)
  big : o.b.length ≤ 140737488355328
def opCells (l : List OpD) : List Value := l.flatMap OpD.cells
theorem opCells_get : ∀ (l : List OpD) (j i : Nat) (h : j < l.length), i < 4 → (opCells l)[j * 4 + i]? = (l[j].cells)[i]?
  | [], _, _, h, _ => absurd h (by simp)
  | o :: r, 0, i, h, hi => by
    simp only [opCells, List.flatMap_cons, Nat.zero_mul, Nat.zero_add, List.getElem_cons_zero]
    rw [List.getElem?_append_left (by simpa using hi)]
  | o :: r, j + 1, i, h, hi => by
    have ih := opCells_get r j i (by simpa using h) hi
    simp only [opCells, List.flatMap_cons, List.getElem_cons_succ] at ih ⊢
    rw [List.getElem?_append_right (by simp; omega), ← ih]
    congr 1
    simp only [List.length_cons, List.length_nil]; omega
theorem opCells_part : ∀ (l : List OpD) (j : Nat) (h : j < l.length), ((opCells l).drop (j * 4)).take 4 = l[j].cells
  | [], _, h => absurd h (by simp)
  | o :: r, 0, h => by simp [opCells]
  | o :: r, j + 1, h => by
    have ih := opCells_part r j (by simpa using h)
    simp only [opCells, List.flatMap_cons, List.getElem_cons_succ] at ih ⊢
    rw [← ih, show (j + 1) * 4 = 4 + j * 4 by omega, ← List.drop_drop]
    rfl
/-- A script. -/
structure Scr (W : World) (ao : Option Addr) (l : List OpD) : Prop where
  rds : RdsA W 4 ao l.length (opCells l)
  wf : ∀ o ∈ l, o.wf W
  big : l.length ≤ 140737488355328

def sumB : List OpD → Nat
  | [] => 0
  | o :: r => o.b.length + sumB r
theorem sumB_take : ∀ (l : List OpD) (j : Nat) (h : j < l.length), sumB (l.take (j + 1)) = sumB (l.take j) + l[j].b.length
  | [], _, h => absurd h (by simp)
  | o :: r, 0, _ => by simp [sumB]
  | o :: r, j + 1, h => by
    have ih := sumB_take r j (by simpa using h)
    simp only [List.take_succ_cons, sumB, List.getElem_cons_succ] at ih ⊢
    omega
theorem sumB_le : ∀ (l : List OpD) (j : Nat), sumB (l.take j) ≤ sumB l
  | [], j => by simp [sumB]
  | o :: r, 0 => by simp [sumB]
  | o :: r, j + 1 => by
    have ih := sumB_le r j
    simp only [List.take_succ_cons, sumB]; omega
theorem sumB_mem : ∀ (l : List OpD) (o : OpD), o ∈ l → o.b.length ≤ sumB l
  | q :: r, o, h => by
    rcases List.mem_cons.1 h with rfl | h
    · simp only [sumB]; omega
    · have := sumB_mem r o h
      simp only [sumB]; omega

theorem much_ok {W : World} {R : List SProp} {ao : Option Addr} {cap : Nat} {l : List OpD} (hs : Scr W ao l) :
    Does1 W Try.prog 38 [.slice ao l.length cap] R (.bool (decide (100000 < l.length + sumB l))) R := by
  have hbig := hs.big
  (refine Does.enter Try.func38 Try.ntmps38 rfl rfl ?_)
  (refine w ?_; repeat ((first | refine VO.step rfl rfl ?_ | refine VD.end rfl rfl rfl ?_ | refine VD.mid rfl rfl rfl ?_); refine OpV.box rfl rfl rfl ?_; intro _; refine w ?_))
  refine VC.loop (α := Nat) (fun j => j ≤ l.length ∧ sumB (l.take j) ≤ 100000 + 140737488355328) (fun _ => R)
    (fun j => [(0, .slice ao l.length cap), (3, .int .i64 ((l.length + sumB (l.take j) : Nat) : Int)), (4, .int .i64 j)]) (fun j => l.length - j) rfl 0 ⟨Nat.zero_le _, by simp [sumB]⟩ Ent.refl ⟨rfl, asV rfl (by simp [sumB]), rfl, trivial⟩ ?_
  rintro j ⟨hj, hsum⟩
  (refine w ?_; repeat ((first | refine VO.step rfl rfl ?_ | refine VD.end rfl rfl rfl ?_ | refine VD.mid rfl rfl rfl ?_); refine OpV.box rfl rfl rfl ?_; intro _; refine w ?_))
  ((first | refine VO.split rfl rfl rfl ?_ ?_ | refine VD.split rfl rfl rfl ?_ ?_) <;> intro hb)
  · have hlt : j < l.length := by simpa using hb
    (refine w ?_; repeat ((first | refine VO.step rfl rfl ?_ | refine VD.end rfl rfl rfl ?_ | refine VD.mid rfl rfl rfl ?_); refine OpV.box rfl rfl rfl ?_; intro _; refine w ?_))
    (refine VC.cond rfl rfl ?_ ?_ <;> intro hc)
    · have hle : l.length + sumB (l.take j) ≤ 100000 := by simp at hc; omega
      obtain ⟨a, rfl⟩ : ∃ a, ao = some a := by cases ao with | none => have := (hs.rds []).nil rfl; omega | some a => exact ⟨a, rfl⟩
      have hw := (hs.wf l[j] (List.getElem_mem hlt)).big
      (refine w ?_; repeat ((first | refine VO.step rfl rfl ?_ | refine VD.end rfl rfl rfl ?_ | refine VD.mid rfl rfl rfl ?_); refine OpV.box rfl rfl rfl ?_; intro _; refine w ?_))
      refine VO.pure rfl rfl (.ldRc tab_ok rfl rfl (hs.rds _) ((opCells_get l j 3 hlt (by decide)).trans rfl)) rfl ?_
      (refine w ?_; repeat ((first | refine VO.step rfl rfl ?_ | refine VD.end rfl rfl rfl ?_ | refine VD.mid rfl rfl rfl ?_); refine OpV.box rfl rfl rfl ?_; intro _; refine w ?_))
      have e := sumB_take l j hlt
      refine VE.round (j + 1) ⟨hlt, by omega⟩ (by omega) ⟨rfl, asV rfl (by congr 1; omega), rfl, trivial⟩ Ent.refl
    · have hgt : ¬ l.length + sumB (l.take j) ≤ 100000 := by simp at hc; omega
      have := sumB_le l j
      (refine w ?_; repeat ((first | refine VO.step rfl rfl ?_ | refine VD.end rfl rfl rfl ?_ | refine VD.mid rfl rfl rfl ?_); refine OpV.box rfl rfl rfl ?_; intro _; refine w ?_))
      (refine VE.done1 rfl ?_ ?_)
      · congr 1; simp; omega
      · exact Ent.refl
  · have hge : j = l.length := by have : ¬ j < l.length := by simpa using hb
                                  omega
    (refine w ?_; repeat ((first | refine VO.step rfl rfl ?_ | refine VD.end rfl rfl rfl ?_ | refine VD.mid rfl rfl rfl ?_); refine OpV.box rfl rfl rfl ?_; intro _; refine w ?_))
    (refine VE.done1 rfl ?_ ?_)
    · congr 1; subst hge; simp; omega
    · exact Ent.refl

/-- A call on a packer. -/
def Pk.puts (k : Pk) (o : OpD) (l : List UInt8) : Pk :=
  if o.kind = 1 then k.number (o.v % 2 ^ 8) 1 else if o.kind = 2 then k.number (o.v % 2 ^ 16) 2 else if o.kind = 3 then k.number (o.v % 2 ^ 32) 4 else
  if o.kind = 4 then k.number o.v 8 else if o.kind = 5 then k.raw l else if o.kind = 6 then k.fill o.n (UInt8.ofNat o.v) else k

theorem puts_ok {W : World} {R : List SProp} {ao : Option Addr} {cap n : Nat} {l : List UInt8} (p : Nat) (k : Pk) (o : OpD) (hv : o.v < 2 ^ 64) (hl : RdsA W 1 ao n (bytes l)) :
    Does1 W Try.prog 41 [.pointer (some ⟨p, 0, none⟩), .agg o.cells.toArray, .slice ao n cap] (PackerR p k :: R) (.tuple #[]) (PackerR p (k.puts o l) :: R) := by
  (refine Does.enter Try.func41 Try.ntmps41 rfl rfl ?_)
  (refine w ?_; repeat ((first | refine VO.step rfl rfl ?_ | refine VD.end rfl rfl rfl ?_ | refine VD.mid rfl rfl rfl ?_); refine OpV.box rfl rfl rfl ?_; intro _; refine w ?_))
  (refine VC.cond rfl rfl ?_ ?_ <;> intro hc)
  · have e : o.kind = 1 := by simpa using hc
    (refine w ?_; repeat ((first | refine VO.step rfl rfl ?_ | refine VD.end rfl rfl rfl ?_ | refine VD.mid rfl rfl rfl ?_); refine OpV.box rfl rfl rfl ?_; intro _; refine w ?_))
    refine VO.re 13 (.int .u8 ((o.v % 2 ^ 8 : Nat) : Int)) rfl (by rw [wrap8_of]) ?_
    (((first | refine VO.step rfl rfl ?_ | refine VD.end rfl rfl rfl ?_ | refine VD.mid rfl rfl rfl ?_); refine OpV.call rfl rfl (fun _ _ => by simp) (u8_ok p k (o.v % 2 ^ 8) (by omega)) Ent.re rfl ?_); intro _ _)
    (refine w ?_; repeat ((first | refine VO.step rfl rfl ?_ | refine VD.end rfl rfl rfl ?_ | refine VD.mid rfl rfl rfl ?_); refine OpV.box rfl rfl rfl ?_; intro _; refine w ?_))
    (refine VE.done1N rfl rfl ?_)
    simp only [Pk.puts, e, if_true]
    exact Ent.re
  have n1 : ¬ o.kind = 1 := by simpa using hc
  (refine w ?_; repeat ((first | refine VO.step rfl rfl ?_ | refine VD.end rfl rfl rfl ?_ | refine VD.mid rfl rfl rfl ?_); refine OpV.box rfl rfl rfl ?_; intro _; refine w ?_))
  (refine VC.cond rfl rfl ?_ ?_ <;> intro hc)
  · have e : o.kind = 2 := by simpa using hc
    (refine w ?_; repeat ((first | refine VO.step rfl rfl ?_ | refine VD.end rfl rfl rfl ?_ | refine VD.mid rfl rfl rfl ?_); refine OpV.box rfl rfl rfl ?_; intro _; refine w ?_))
    refine VO.re 20 (.int .u16 ((o.v % 2 ^ 16 : Nat) : Int)) rfl (by rw [wrap16_of]) ?_
    (((first | refine VO.step rfl rfl ?_ | refine VD.end rfl rfl rfl ?_ | refine VD.mid rfl rfl rfl ?_); refine OpV.call rfl rfl (fun _ _ => by simp) (u16_ok p k (o.v % 2 ^ 16) (by omega)) Ent.re rfl ?_); intro _ _)
    (refine w ?_; repeat ((first | refine VO.step rfl rfl ?_ | refine VD.end rfl rfl rfl ?_ | refine VD.mid rfl rfl rfl ?_); refine OpV.box rfl rfl rfl ?_; intro _; refine w ?_))
    (refine VE.done1N rfl rfl ?_)
    simp only [Pk.puts, e, if_true]
    exact Ent.re
  have n2 : ¬ o.kind = 2 := by simpa using hc
  (refine w ?_; repeat ((first | refine VO.step rfl rfl ?_ | refine VD.end rfl rfl rfl ?_ | refine VD.mid rfl rfl rfl ?_); refine OpV.box rfl rfl rfl ?_; intro _; refine w ?_))
  (refine VC.cond rfl rfl ?_ ?_ <;> intro hc)
  · have e : o.kind = 3 := by simpa using hc
    (refine w ?_; repeat ((first | refine VO.step rfl rfl ?_ | refine VD.end rfl rfl rfl ?_ | refine VD.mid rfl rfl rfl ?_); refine OpV.box rfl rfl rfl ?_; intro _; refine w ?_))
    refine VO.re 27 (.int .u32 ((o.v % 2 ^ 32 : Nat) : Int)) rfl (by rw [wrap32_of]) ?_
    (((first | refine VO.step rfl rfl ?_ | refine VD.end rfl rfl rfl ?_ | refine VD.mid rfl rfl rfl ?_); refine OpV.call rfl rfl (fun _ _ => by simp) (u32_ok p k (o.v % 2 ^ 32) (by omega)) Ent.re rfl ?_); intro _ _)
    (refine w ?_; repeat ((first | refine VO.step rfl rfl ?_ | refine VD.end rfl rfl rfl ?_ | refine VD.mid rfl rfl rfl ?_); refine OpV.box rfl rfl rfl ?_; intro _; refine w ?_))
    (refine VE.done1N rfl rfl ?_)
    simp only [Pk.puts, e, if_true]
    exact Ent.re
  have n3 : ¬ o.kind = 3 := by simpa using hc
  (refine w ?_; repeat ((first | refine VO.step rfl rfl ?_ | refine VD.end rfl rfl rfl ?_ | refine VD.mid rfl rfl rfl ?_); refine OpV.box rfl rfl rfl ?_; intro _; refine w ?_))
  (refine VC.cond rfl rfl ?_ ?_ <;> intro hc)
  · have e : o.kind = 4 := by simpa using hc
    (refine w ?_; repeat ((first | refine VO.step rfl rfl ?_ | refine VD.end rfl rfl rfl ?_ | refine VD.mid rfl rfl rfl ?_); refine OpV.box rfl rfl rfl ?_; intro _; refine w ?_))
    (((first | refine VO.step rfl rfl ?_ | refine VD.end rfl rfl rfl ?_ | refine VD.mid rfl rfl rfl ?_); refine OpV.call rfl rfl (fun _ _ => by simp) (u64_ok p k o.v) Ent.re rfl ?_); intro _ _)
    (refine w ?_; repeat ((first | refine VO.step rfl rfl ?_ | refine VD.end rfl rfl rfl ?_ | refine VD.mid rfl rfl rfl ?_); refine OpV.box rfl rfl rfl ?_; intro _; refine w ?_))
    (refine VE.done1N rfl rfl ?_)
    simp only [Pk.puts, e, if_true]
    exact Ent.re
  have n4 : ¬ o.kind = 4 := by simpa using hc
  (refine w ?_; repeat ((first | refine VO.step rfl rfl ?_ | refine VD.end rfl rfl rfl ?_ | refine VD.mid rfl rfl rfl ?_); refine OpV.box rfl rfl rfl ?_; intro _; refine w ?_))
  (refine VC.cond rfl rfl ?_ ?_ <;> intro hc)
  · have e : o.kind = 5 := by simpa using hc
    (refine w ?_; repeat ((first | refine VO.step rfl rfl ?_ | refine VD.end rfl rfl rfl ?_ | refine VD.mid rfl rfl rfl ?_); refine OpV.box rfl rfl rfl ?_; intro _; refine w ?_))
    (((first | refine VO.step rfl rfl ?_ | refine VD.end rfl rfl rfl ?_ | refine VD.mid rfl rfl rfl ?_); refine OpV.call rfl rfl (fun _ _ => by simp) (raw_ok p k hl) Ent.re rfl ?_); intro _ _)
    (refine w ?_; repeat ((first | refine VO.step rfl rfl ?_ | refine VD.end rfl rfl rfl ?_ | refine VD.mid rfl rfl rfl ?_); refine OpV.box rfl rfl rfl ?_; intro _; refine w ?_))
    (refine VE.done1N rfl rfl ?_)
    simp only [Pk.puts, e, if_true]
    exact Ent.re
  have n5 : ¬ o.kind = 5 := by simpa using hc
  (refine w ?_; repeat ((first | refine VO.step rfl rfl ?_ | refine VD.end rfl rfl rfl ?_ | refine VD.mid rfl rfl rfl ?_); refine OpV.box rfl rfl rfl ?_; intro _; refine w ?_))
  (refine VC.cond rfl rfl ?_ ?_ <;> intro hc)
  · have e : o.kind = 6 := by simpa using hc
    (refine w ?_; repeat ((first | refine VO.step rfl rfl ?_ | refine VD.end rfl rfl rfl ?_ | refine VD.mid rfl rfl rfl ?_); refine OpV.box rfl rfl rfl ?_; intro _; refine w ?_))
    refine VO.re 47 (byteV (UInt8.ofNat o.v)) rfl (by rw [u8_of]; rfl) ?_
    (((first | refine VO.step rfl rfl ?_ | refine VD.end rfl rfl rfl ?_ | refine VD.mid rfl rfl rfl ?_); refine OpV.call rfl rfl (fun _ _ => by simp) (fill_ok p k o.n (UInt8.ofNat o.v)) Ent.re rfl ?_); intro _ _)
    (refine w ?_; repeat ((first | refine VO.step rfl rfl ?_ | refine VD.end rfl rfl rfl ?_ | refine VD.mid rfl rfl rfl ?_); refine OpV.box rfl rfl rfl ?_; intro _; refine w ?_))
    (refine VE.done1N rfl rfl ?_)
    simp only [Pk.puts, e, if_true]
    exact Ent.re
  have n6 : ¬ o.kind = 6 := by simpa using hc
  (refine w ?_; repeat ((first | refine VO.step rfl rfl ?_ | refine VD.end rfl rfl rfl ?_ | refine VD.mid rfl rfl rfl ?_); refine OpV.box rfl rfl rfl ?_; intro _; refine w ?_))
  (refine VE.done1N rfl rfl ?_)
  simp only [Pk.puts, n1, n2, n3, n4, n5, n6, if_false]
  exact Ent.re
end Go.Proofs.Ythefmgmgmoanlaa
