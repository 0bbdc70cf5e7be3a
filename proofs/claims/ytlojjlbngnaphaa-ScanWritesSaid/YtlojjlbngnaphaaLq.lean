/- Scripts of calls: the law's data, 'much', 'puts'. -/
import Derived.Test.YtlojjlbngnaphaaLp
set_option maxRecDepth 8000
set_option linter.unusedVariables false
set_option linter.unusedSimpArgs false
set_option linter.unusedSectionVars false
namespace Go.Proofs.Ytlojjlbngnaphaa
open Go.RowKit Go.Sl

structure OpD where
  kind : Int
  v : Nat
  n : Int
  ao : Option Addr
  cap : Nat
  b : List UInt8
abbrev OpD.cells (o : OpD) : List Value := [.int .i64 o.kind, .int .u64 o.v, .int .i64 o.n, .slice o.ao o.b.length o.cap]
structure OpD.wf (W : World) (o : OpD) : Prop where
  v : o.v < 2 ^ 64
  n1 : -9223372036854775808 ≤ o.n
  n2 : o.n ≤ 9223372036854775807
  b : RdsA W 1 o.ao o.b.length (bytes o.b)
  big : o.b.length ≤ 140737488355328
def opCells (l : List OpD) : List Value := l.flatMap OpD.cells
theorem opCells_get : ∀ (l : List OpD) (j i : Nat) (h : j < l.length), i < 4 → (opCells l)[j * 4 + i]? = (l[j].cells)[i]?
  | [], _, _, h, _ => absurd h (by simp)
  | o :: r, 0, i, h, hi => by
    simp only [opCells, List.flatMap_cons, Nat.zero_mul, Nat.zero_add, List.getElem_cons_zero]
    rw [List.getElem?_append_left (by simpa using hi)]
  | o :: r, j + 1, i, h, hi => by
    have ih := opCells_get r j i (by simpa using h) hi
    simp only [opCells, List.flatMap_cons, List.getElem_cons_succ] at ih ⊢
    rw [List.getElem?_append_right (by simp; omega), ← ih]
    congr 1
    simp only [List.length_cons, List.length_nil]; omega
theorem opCells_part : ∀ (l : List OpD) (j : Nat) (h : j < l.length), ((opCells l).drop (j * 4)).take 4 = l[j].cells
  | [], _, h => absurd h (by simp)
  | o :: r, 0, h => by simp [opCells]
  | o :: r, j + 1, h => by
    have ih := opCells_part r j (by simpa using h)
    simp only [opCells, List.flatMap_cons, List.getElem_cons_succ] at ih ⊢
    rw [← ih, show (j + 1) * 4 = 4 + j * 4 by omega, ← List.drop_drop]
    rfl
/-- A script. -/
structure Scr (W : World) (ao : Option Addr) (l : List OpD) : Prop where
  rds : RdsA W 4 ao l.length (opCells l)
  wf : ∀ o ∈ l, o.wf W
  big : l.length ≤ 140737488355328

def sumB : List OpD → Nat
  | [] => 0
  | o :: r => o.b.length + sumB r
theorem sumB_take : ∀ (l : List OpD) (j : Nat) (h : j < l.length), sumB (l.take (j + 1)) = sumB (l.take j) + l[j].b.length
  | [], _, h => absurd h (by simp)
  | o :: r, 0, _ => by simp [sumB]
  | o :: r, j + 1, h => by
    have ih := sumB_take r j (by simpa using h)
    simp only [List.take_succ_cons, sumB, List.getElem_cons_succ] at ih ⊢
    omega
theorem sumB_le : ∀ (l : List OpD) (j : Nat), sumB (l.take j) ≤ sumB l
  | [], j => by simp [sumB]
  | o :: r, 0 => by simp [sumB]
  | o :: r, j + 1 => by
    have ih := sumB_le r j
    simp only [List.take_succ_cons, sumB]; omega
theorem sumB_mem : ∀ (l : List OpD) (o : OpD), o ∈ l → o.b.length ≤ sumB l
  | q :: r, o, h => by
    rcases List.mem_cons.1 h with rfl | h
    · simp only [sumB]; omega
    · have := sumB_mem r o h
      simp only [sumB]; omega

/-- A call on a packer. -/
def Pk.puts (k : Pk) (o : OpD) (l : List UInt8) : Pk :=
  if o.kind = 1 then k.number (o.v % 2 ^ 8) 1 else if o.kind = 2 then k.number (o.v % 2 ^ 16) 2 else if o.kind = 3 then k.number (o.v % 2 ^ 32) 4 else
  if o.kind = 4 then k.number o.v 8 else if o.kind = 5 then k.raw l else if o.kind = 6 then k.fill o.n (UInt8.ofNat o.v) else k

end Go.Proofs.Ytlojjlbngnaphaa
