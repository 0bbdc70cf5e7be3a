/- The journal's sectors: what the chapter's example fixes; arguments; comparisons of structs. -/
import Derived.Test.YtlojjlbngnaphaaEm
import Derived.Test.YtlojjlbngnaphaaEn
import Derived.Test.YtlojjlbngnaphaaLd
import Derived.Test.YtlojjlbngnaphaaSk
set_option maxRecDepth 8000
set_option linter.unusedVariables false
set_option linter.unusedSimpArgs false
set_option linter.unusedSectionVars false
namespace Go.Proofs.Ytlojjlbngnaphaa
open Go.RowKit Go.Sl
attribute [local irreducible] Own

theorem hdr_same (a b : HdrD) : a = b ↔ a.epoch = b.epoch ∧ a.seq = b.seq ∧ a.index = b.index ∧ a.count = b.count ∧ a.member = b.member ∧ a.row = b.row ∧ a.escaped = b.escaped ∧ a.sum = b.sum := by cases a; cases b; simp
theorem cmt_same (a b : CmtD) : a = b ↔ a.epoch = b.epoch ∧ a.seq = b.seq ∧ a.count = b.count ∧ a.sum = b.sum := by cases a; cases b; simp
theorem chk_same (a b : ChkD) : a = b ↔ a.epoch = b.epoch ∧ a.seq = b.seq ∧ a.tail = b.tail := by cases a; cases b; simp
instance : DecidableEq HdrD := fun a b => decidable_of_iff _ (hdr_same a b).symm
instance : DecidableEq CmtD := fun a b => decidable_of_iff _ (cmt_same a b).symm
instance : DecidableEq ChkD := fun a b => decidable_of_iff _ (chk_same a b).symm
theorem wfU {z : Nat} (h : z < 2 ^ 64) : (Lit.int .u64 (z : Int)).wf = true := by simp [Lit.wf, IntKind.min, IntKind.max, IntKind.signed, IntKind.bits]; omega
theorem wfW {z : Nat} (h : z < 4294967296) : (Lit.int .u32 (z : Int)).wf = true := by simp [Lit.wf, IntKind.min, IntKind.max, IntKind.signed, IntKind.bits]; omega
theorem wfI {z : Int} (h : -9223372036854775808 ≤ z ∧ z ≤ 9223372036854775807) : (Lit.int .i64 z).wf = true := by simp [Lit.wf, IntKind.min, IntKind.max, IntKind.signed, IntKind.bits]; omega
section
variable {W : World} {n : Nat} {H : List SProp} {f : Fr} {dst : Option Tmp} {ty_ : TypeId} {pos : String} {after : Array Edge} {guard : Option (Nat × Bool)} {op : BinOp} {x y : Operand} {u : TypeId} {v : Value}
theorem hdr_eq {a b : HdrD} (hx : evalX f x = some (.agg a.cells.toArray)) (hy : evalX f y = some (.agg b.cells.toArray)) (ha : a.fit) (hb : b.fit) (hv : eqB op (decide (a = b)) = some v) :
    PureAt W Try.prog n H f { dst, op := .binOp op 90 x y u, type := ty_, pos, after, guard } v := by
  refine PureAt.eqFlat (ks := [some .u64, some .u64, some .i64, some .i64, some .i64, some .i64, none, some .u32]) (cs := a.cells) (ds := b.cells) (by kernel_rfl) hx hy rfl rfl rfl rfl ?_ ?_ ?_ hv
  · intro l hl; simp only [List.mem_cons, List.not_mem_nil, or_false] at hl
    rcases hl with h | h | h | h | h | h | h | h <;> subst h <;> first | exact wfU ha.epoch | exact wfU ha.seq | exact wfI ha.index | exact wfI ha.count | exact wfI ha.member | exact wfI ha.row | exact rfl | exact wfW ha.sum
  · intro l hl; simp only [List.mem_cons, List.not_mem_nil, or_false] at hl
    rcases hl with h | h | h | h | h | h | h | h <;> subst h <;> first | exact wfU hb.epoch | exact wfU hb.seq | exact wfI hb.index | exact wfI hb.count | exact wfI hb.member | exact wfI hb.row | exact rfl | exact wfW hb.sum
  · rw [decide_eq_true_iff, hdr_same]; simp
    constructor <;> (rintro ⟨a, b, c, d, e, f, g, h⟩; exact ⟨by omega, by omega, c, d, e, f, g, by omega⟩)
theorem cmt_eq {a b : CmtD} (hx : evalX f x = some (.agg a.cells.toArray)) (hy : evalX f y = some (.agg b.cells.toArray)) (ha : a.fit) (hb : b.fit) (hv : eqB op (decide (a = b)) = some v) :
    PureAt W Try.prog n H f { dst, op := .binOp op 95 x y u, type := ty_, pos, after, guard } v := by
  refine PureAt.eqFlat (ks := [some .u64, some .u64, some .i64, some .u32]) (cs := a.cells) (ds := b.cells) (by kernel_rfl) hx hy rfl rfl rfl rfl ?_ ?_ ?_ hv
  · intro l hl; simp only [List.mem_cons, List.not_mem_nil, or_false] at hl
    rcases hl with h | h | h | h <;> subst h <;> first | exact wfU ha.epoch | exact wfU ha.seq | exact wfI ha.count | exact wfW ha.sum
  · intro l hl; simp only [List.mem_cons, List.not_mem_nil, or_false] at hl
    rcases hl with h | h | h | h <;> subst h <;> first | exact wfU hb.epoch | exact wfU hb.seq | exact wfI hb.count | exact wfW hb.sum
  · rw [decide_eq_true_iff, cmt_same]; simp; omega
theorem chk_eq {a b : ChkD} (hx : evalX f x = some (.agg a.cells.toArray)) (hy : evalX f y = some (.agg b.cells.toArray)) (ha : a.fit) (hb : b.fit) (hv : eqB op (decide (a = b)) = some v) :
    PureAt W Try.prog n H f { dst, op := .binOp op 57 x y u, type := ty_, pos, after, guard } v := by
  refine PureAt.eqFlat (ks := [some .u64, some .u64, some .i64]) (cs := a.cells) (ds := b.cells) (by kernel_rfl) hx hy rfl rfl rfl rfl ?_ ?_ ?_ hv
  · intro l hl; simp only [List.mem_cons, List.not_mem_nil, or_false] at hl
    rcases hl with h | h | h <;> subst h <;> first | exact wfU ha.epoch | exact wfU ha.seq | exact wfI ha.tail
  · intro l hl; simp only [List.mem_cons, List.not_mem_nil, or_false] at hl
    rcases hl with h | h | h <;> subst h <;> first | exact wfU hb.epoch | exact wfU hb.seq | exact wfI hb.tail
  · rw [decide_eq_true_iff, chk_same]; simp; omega
end
/-! ### Arguments -/
theorem u64_of {z : Int} (h : (Lit.int .u64 z).wf = true) : ∃ m : Nat, z = m ∧ m < 2 ^ 64 := by
  simp [Lit.wf, IntKind.min, IntKind.max, IntKind.signed, IntKind.bits] at h; exact ⟨z.toNat, by omega, by omega⟩
theorem u32_of {z : Int} (h : (Lit.int .u32 z).wf = true) : ∃ m : Nat, z = m ∧ m < 4294967296 := by
  simp [Lit.wf, IntKind.min, IntKind.max, IntKind.signed, IntKind.bits] at h; exact ⟨z.toNat, by omega, by omega⟩
theorem i64_of {z : Int} (h : (Lit.int .i64 z).wf = true) : -9223372036854775808 ≤ z ∧ z ≤ 9223372036854775807 := by
  simp [Lit.wf, IntKind.min, IntKind.max, IntKind.signed, IntKind.bits] at h; omega
theorem hdr_of {W : World} {cs : List Value} (h : InT Try.prog W 90 cs) : ∃ a : HdrD, cs = a.cells ∧ a.fit := by
  have hl := (h.struct_inv Try.underlying90).1
  have c8 : Try.prog.cellsOf 90 = 8 := by kernel_rfl
  rw [c8] at hl
  match cs, hl with
  | [v0, v1, v2, v3, v4, v5, v6, v7], _ =>
    have kb : Try.prog.cellsOf 4 = 1 := by kernel_rfl
    have ki : Try.prog.cellsOf 3 = 1 := by kernel_rfl
    have ku : Try.prog.cellsOf 22 = 1 := by kernel_rfl
    have kw : Try.prog.cellsOf 74 = 1 := by kernel_rfl
    have g0 : InT Try.prog W 22 [v0] := h.field (i := 0) (off := 0) Try.underlying90 rfl rfl rfl ku
    have g1 : InT Try.prog W 22 [v1] := h.field (i := 1) (off := 1) Try.underlying90 rfl rfl rfl ku
    have g2 : InT Try.prog W 3 [v2] := h.field (i := 2) (off := 2) Try.underlying90 rfl rfl rfl ki
    have g3 : InT Try.prog W 3 [v3] := h.field (i := 3) (off := 3) Try.underlying90 rfl rfl rfl ki
    have g4 : InT Try.prog W 3 [v4] := h.field (i := 4) (off := 4) Try.underlying90 rfl rfl rfl ki
    have g5 : InT Try.prog W 3 [v5] := h.field (i := 5) (off := 5) Try.underlying90 rfl rfl rfl ki
    have g6 : InT Try.prog W 4 [v6] := h.field (i := 6) (off := 6) Try.underlying90 rfl rfl rfl kb
    have g7 : InT Try.prog W 74 [v7] := h.field (i := 7) (off := 7) Try.underlying90 rfl rfl rfl kw
    obtain ⟨z0, e0, w0⟩ := g0.int_inv Try.underlying22
    obtain ⟨z1, e1, w1⟩ := g1.int_inv Try.underlying22
    obtain ⟨z2, e2, w2⟩ := g2.int_inv Try.underlying3
    obtain ⟨z3, e3, w3⟩ := g3.int_inv Try.underlying3
    obtain ⟨z4, e4, w4⟩ := g4.int_inv Try.underlying3
    obtain ⟨z5, e5, w5⟩ := g5.int_inv Try.underlying3
    obtain ⟨z6, e6⟩ := g6.bool_inv Try.underlying4
    obtain ⟨z7, e7, w7⟩ := g7.int_inv Try.underlying74
    cases e0; cases e1; cases e2; cases e3; cases e4; cases e5; cases e6; cases e7
    obtain ⟨z0, rfl, q0⟩ := u64_of w0
    obtain ⟨z1, rfl, q1⟩ := u64_of w1
    obtain ⟨z7, rfl, q7⟩ := u32_of w7
    exact ⟨⟨z0, z1, z2, z3, z4, z5, z6, z7⟩, rfl, ⟨q0, q1, i64_of w2, i64_of w3, i64_of w4, i64_of w5, q7⟩⟩
theorem cmt_of {W : World} {cs : List Value} (h : InT Try.prog W 95 cs) : ∃ a : CmtD, cs = a.cells ∧ a.fit := by
  have hl := (h.struct_inv Try.underlying95).1
  have c8 : Try.prog.cellsOf 95 = 4 := by kernel_rfl
  rw [c8] at hl
  match cs, hl with
  | [v0, v1, v2, v3], _ =>
    have ki : Try.prog.cellsOf 3 = 1 := by kernel_rfl
    have ku : Try.prog.cellsOf 22 = 1 := by kernel_rfl
    have kw : Try.prog.cellsOf 74 = 1 := by kernel_rfl
    have g0 : InT Try.prog W 22 [v0] := h.field (i := 0) (off := 0) Try.underlying95 rfl rfl rfl ku
    have g1 : InT Try.prog W 22 [v1] := h.field (i := 1) (off := 1) Try.underlying95 rfl rfl rfl ku
    have g2 : InT Try.prog W 3 [v2] := h.field (i := 2) (off := 2) Try.underlying95 rfl rfl rfl ki
    have g3 : InT Try.prog W 74 [v3] := h.field (i := 3) (off := 3) Try.underlying95 rfl rfl rfl kw
    obtain ⟨z0, e0, w0⟩ := g0.int_inv Try.underlying22
    obtain ⟨z1, e1, w1⟩ := g1.int_inv Try.underlying22
    obtain ⟨z2, e2, w2⟩ := g2.int_inv Try.underlying3
    obtain ⟨z3, e3, w3⟩ := g3.int_inv Try.underlying74
    cases e0; cases e1; cases e2; cases e3
    obtain ⟨z0, rfl, q0⟩ := u64_of w0
    obtain ⟨z1, rfl, q1⟩ := u64_of w1
    obtain ⟨z3, rfl, q3⟩ := u32_of w3
    exact ⟨⟨z0, z1, z2, z3⟩, rfl, ⟨q0, q1, i64_of w2, q3⟩⟩
theorem chk_of {W : World} {cs : List Value} (h : InT Try.prog W 57 cs) : ∃ a : ChkD, cs = a.cells ∧ a.fit := by
  have hl := (h.struct_inv Try.underlying57).1
  have c8 : Try.prog.cellsOf 57 = 3 := by kernel_rfl
  rw [c8] at hl
  match cs, hl with
  | [v0, v1, v2], _ =>
    have ki : Try.prog.cellsOf 3 = 1 := by kernel_rfl
    have ku : Try.prog.cellsOf 22 = 1 := by kernel_rfl
    have g0 : InT Try.prog W 22 [v0] := h.field (i := 0) (off := 0) Try.underlying57 rfl rfl rfl ku
    have g1 : InT Try.prog W 22 [v1] := h.field (i := 1) (off := 1) Try.underlying57 rfl rfl rfl ku
    have g2 : InT Try.prog W 3 [v2] := h.field (i := 2) (off := 2) Try.underlying57 rfl rfl rfl ki
    obtain ⟨z0, e0, w0⟩ := g0.int_inv Try.underlying22
    obtain ⟨z1, e1, w1⟩ := g1.int_inv Try.underlying22
    obtain ⟨z2, e2, w2⟩ := g2.int_inv Try.underlying3
    cases e0; cases e1; cases e2
    obtain ⟨z0, rfl, q0⟩ := u64_of w0
    obtain ⟨z1, rfl, q1⟩ := u64_of w1
    exact ⟨⟨z0, z1, z2⟩, rfl, ⟨q0, q1, i64_of w2⟩⟩

/-! ### What the example fixes -/
def h0 : HdrD := ⟨1, 2, 0, 2, 3, 5, false, 9⟩
theorem h0_good : h0.good := by decide
theorem h0_fit : h0.fit := by constructor <;> decide
theorem sect_head (k e s : Nat) (rest : List (Nat × Nat)) (h : (rest.map (·.2)).sum ≤ 100) : (sectF k e s rest).take 8 = magicL ++ lowBytes k 4 := by
  have : sectF k e s rest = (magicL ++ lowBytes k 4) ++ (lowBytes e 8 ++ lowBytes s 8 ++ flds rest ++ (List.replicate (124 - (begunL k e s ++ flds rest).length) 0 ++ lowBytes (crcS (sectB k e s (flds rest))).toNat 4)) := by
    unfold sectF sealS
    conv => lhs; lhs; unfold sectB padTo begunL
    unfold begunL
    simp only [List.append_assoc]
  rw [this, List.take_left' (by rw [List.length_append, lowBytes_length]; rfl)]
theorem sect_kind (k : UInt8) (hk : 1 ≤ k.toNat ∧ k.toNat ≤ 3) (e s : Nat) (rest : List (Nat × Nat)) (h : (rest.map (·.2)).sum ≤ 100) : kindB (sectF k.toNat e s rest) = k := by
  have hl := sectF_looks k hk e s rest h
  have h128 := looks_len hl
  unfold looksM at hl; rw [if_neg (by omega)] at hl; split at hl
  · cases hl
  · rename_i h; exact Decidable.of_not_not h
theorem kind_own {W : World} {R : List SProp} {x : Option Addr × Nat} {l : List UInt8} (hn : x.1 = none → l.length = 0) (hc : l.length ≤ x.2) : Does1 W Try.prog 103 [.slice x.1 l.length x.2] (OwnB x l :: R) (.int .u8 ((kindB l).toNat : Int)) (OwnB x l :: R) :=
  kind_ok (own_rds hn (.head _)) hc
theorem known_facts : ∃ (h : HdrD) (S : List UInt8), h.cells = [.int .u64 1, .int .u64 2, .int .i64 0, .int .i64 2, .int .i64 3, .int .i64 5, .bool false, .int .u32 9] ∧ h.fit ∧ h.enc = (0, S) ∧ HdrD.dec S = (0, h) ∧ S.length = 128 ∧ S.take 8 = [83, 80, 74, 76, 1, 0, 0, 0] ∧ kindB S = 1 := by
  have he : h0.enc = (0, sectF 1 1 2 h0.rest) := hdr_ok h0_good
  refine ⟨h0, sectF 1 1 2 h0.rest, rfl, h0_fit, he, ?_, sectF_length 1 1 2 h0.rest (hdr_sum h0), ?_, sect_kind 1 (by decide) 1 2 h0.rest (hdr_sum h0)⟩
  · have := hdr_back h0 h0_good (by decide); rwa [he] at this
  · rw [sect_head 1 1 2 h0.rest (hdr_sum h0)]; decide
theorem esc_nought : ∃ Z : List UInt8, Z.length = 128 ∧ bytes Z = List.replicate 128 (.int .u8 0) ∧ escD Z = ⟨Z, false, 0⟩ := by
  refine ⟨List.replicate 128 0, by simp, bytes_replicate 128, ?_⟩
  have hn : ¬ (List.replicate 128 (0 : UInt8)).take 4 = magicL := by decide
  unfold escD escM isEsc
  rw [if_pos (by simp), if_neg hn, decide_eq_false hn]
end Go.Proofs.Ytlojjlbngnaphaa
