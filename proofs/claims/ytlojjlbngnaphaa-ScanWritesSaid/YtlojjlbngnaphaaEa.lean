/- The journal's sectors: what they are, what is read of them: the plain law. -/
import Derived.Test.YtlojjlbngnaphaaLr
import Derived.Test.YtlojjlbngnaphaaCa
set_option maxRecDepth 8000
set_option linter.unusedVariables false
set_option linter.unusedSimpArgs false
set_option linter.unusedSectionVars false
namespace Go.Proofs.Ytlojjlbngnaphaa
open Go.RowKit Go.Sl

def padTo (n : Nat) (l : List UInt8) : List UInt8 := l ++ List.replicate (n - l.length) 0
theorem padTo_length {n : Nat} {l : List UInt8} (h : l.length ≤ n) : (padTo n l).length = n := by simp [padTo]; omega
def magicL : List UInt8 := [83, 80, 74, 76]
def begunL (kind epoch seq : Nat) : List UInt8 := magicL ++ lowBytes kind 4 ++ lowBytes epoch 8 ++ lowBytes seq 8
theorem begunL_length (kind epoch seq : Nat) : (begunL kind epoch seq).length = 24 := by simp [begunL, lowBytes_length, magicL]
def sealS (b : List UInt8) : List UInt8 := b ++ lowBytes (crcS b).toNat 4
def sectB (kind epoch seq : Nat) (rest : List UInt8) : List UInt8 := padTo 124 (begunL kind epoch seq ++ rest)
theorem sectB_length {kind epoch seq : Nat} {rest : List UInt8} (h : rest.length ≤ 100) : (sectB kind epoch seq rest).length = 124 := padTo_length (by rw [List.length_append, begunL_length]; omega)
theorem sealS_length {b : List UInt8} (h : b.length = 124) : (sealS b).length = 128 := by simp [sealS, lowBytes_length, h]
def numAt (b : List UInt8) (a w : Nat) : Nat := leVal ((b.drop a).take w)
def kindB (b : List UInt8) : UInt8 := if b.length = 128 ∧ b.take 4 = magicL ∧ (b.getD 4 0).toNat ≤ 3 then b.getD 4 0 else 0
/-- The errors that all kinds have. -/
def looksM (b : List UInt8) (kind : UInt8) : Int := if b.length ≠ 128 then 4 else if kindB b ≠ kind then 80 else if numAt b 124 4 ≠ (crcS (b.take 124)).toNat then 81 else 0

theorem lowBytes_cons : ∀ (w v : Nat), lowBytes v (w + 1) = UInt8.ofNat v :: lowBytes (v / 256) w
  | 0, v => by simp [lowBytes]
  | w + 1, v => by
    rw [lowBytes, lowBytes_cons w v, lowBytes, List.cons_append, Nat.div_div_eq_div_mul, Nat.pow_succ, Nat.mul_comm]
theorem leVal_low : ∀ (w v : Nat), v < 256 ^ w → leVal (lowBytes v w) = v
  | 0, v, h => by simp at h; subst h; rfl
  | w + 1, v, h => by
    rw [lowBytes_cons, leVal, leVal_low w (v / 256) (by rw [Nat.pow_succ] at h; exact Nat.div_lt_of_lt_mul (by omega)), UInt8.toNat_ofNat']
    have := Nat.mod_add_div v 256
    omega
/-! ### Numbers side by side -/
def flds (fs : List (Nat × Nat)) : List UInt8 := fs.flatMap fun p => lowBytes p.1 p.2
def offs (fs : List (Nat × Nat)) (k : Nat) : Nat := ((fs.take k).map (·.2)).sum
theorem flds_append (a b : List (Nat × Nat)) : flds (a ++ b) = flds a ++ flds b := by simp [flds]
theorem flds_length : ∀ (fs : List (Nat × Nat)), (flds fs).length = (fs.map (·.2)).sum
  | [] => rfl
  | p :: r => by rw [flds, List.flatMap_cons, List.length_append, lowBytes_length, List.map_cons, List.sum_cons, ← flds_length r]; rfl
theorem numAt_skip (a l : List UInt8) (i w : Nat) : numAt (a ++ l) (a.length + i) w = numAt l i w := by
  unfold numAt; rw [List.drop_append, List.drop_of_length_le (by omega)]; simp
theorem numAt_here (v w : Nat) (c : List UInt8) (hv : v < 256 ^ w) : numAt (lowBytes v w ++ c) 0 w = v := by
  unfold numAt; rw [List.drop_zero, List.take_left' (lowBytes_length v w), leVal_low w v hv]
theorem numAt_flds : ∀ (fs : List (Nat × Nat)) (k : Nat) (p : Nat × Nat) (c : List UInt8), fs[k]? = some p → p.1 < 256 ^ p.2 → numAt (flds fs ++ c) (offs fs k) p.2 = p.1
  | [], k, p, c, h, _ => by simp at h
  | q :: r, 0, p, c, h, hv => by
    simp at h; subst h
    show numAt (lowBytes q.1 q.2 ++ flds r ++ c) 0 q.2 = q.1
    rw [List.append_assoc]; exact numAt_here _ _ _ hv
  | q :: r, k + 1, p, c, h, hv => by
    have ih := numAt_flds r k p c (by simpa using h) hv
    have e : offs (q :: r) (k + 1) = (lowBytes q.1 q.2).length + offs r k := by simp [offs, lowBytes_length]
    rw [e]
    show numAt (lowBytes q.1 q.2 ++ flds r ++ c) _ _ = _
    rw [List.append_assoc, numAt_skip]; exact ih
theorem low_zero : ∀ n, lowBytes 0 n = List.replicate n 0
  | 0 => rfl
  | n + 1 => by rw [lowBytes_cons, Nat.zero_div, low_zero n]; rfl

/-! ### The three kinds -/
structure HdrD where
  epoch : Nat
  seq : Nat
  index : Int
  count : Int
  member : Int
  row : Int
  escaped : Bool
  sum : Nat
abbrev HdrD.cells (h : HdrD) : List Value := [.int .u64 h.epoch, .int .u64 h.seq, .int .i64 h.index, .int .i64 h.count, .int .i64 h.member, .int .i64 h.row, .bool h.escaped, .int .u32 h.sum]
structure CmtD where
  epoch : Nat
  seq : Nat
  count : Int
  sum : Nat
abbrev CmtD.cells (h : CmtD) : List Value := [.int .u64 h.epoch, .int .u64 h.seq, .int .i64 h.count, .int .u32 h.sum]
structure ChkD where
  epoch : Nat
  seq : Nat
  tail : Int
abbrev ChkD.cells (h : ChkD) : List Value := [.int .u64 h.epoch, .int .u64 h.seq, .int .i64 h.tail]
def cntOk (epoch seq : Nat) : Prop := epoch ≤ 4611686018427387904 ∧ 1 ≤ seq ∧ seq ≤ 4611686018427387904
instance (a b : Nat) : Decidable (cntOk a b) := by unfold cntOk; exact inferInstance
def HdrD.good (h : HdrD) : Prop := cntOk h.epoch h.seq ∧ (1 ≤ h.count ∧ h.count ≤ 1023) ∧ (0 ≤ h.index ∧ h.index ≤ h.count - 1) ∧ (0 ≤ h.member ∧ h.member ≤ 15) ∧ 0 ≤ h.row ∧ h.row ≤ 4095
def CmtD.good (h : CmtD) : Prop := cntOk h.epoch h.seq ∧ 1 ≤ h.count ∧ h.count ≤ 1023
def ChkD.good (h : ChkD) : Prop := cntOk h.epoch h.seq ∧ 0 ≤ h.tail ∧ h.tail ≤ 2047
instance (h : HdrD) : Decidable h.good := by unfold HdrD.good; exact inferInstance
instance (h : CmtD) : Decidable h.good := by unfold CmtD.good; exact inferInstance
instance (h : ChkD) : Decidable h.good := by unfold ChkD.good; exact inferInstance
def bitN (b : Bool) : Nat := if b then 1 else 0
def HdrD.rest (h : HdrD) : List (Nat × Nat) := [(h.index.toNat, 4), (h.count.toNat, 4), (h.member.toNat, 4), (h.row.toNat, 4), (bitN h.escaped, 4), (h.sum, 4)]
def CmtD.rest (h : CmtD) : List (Nat × Nat) := [(h.count.toNat, 4), (h.sum, 4)]
def ChkD.rest (h : ChkD) : List (Nat × Nat) := [(h.tail.toNat, 4)]
/-- A sector of a kind, with these numbers. -/
def sectF (kind epoch seq : Nat) (rest : List (Nat × Nat)) : List UInt8 := sealS (sectB kind epoch seq (flds rest))
def HdrD.enc (h : HdrD) : Int × List UInt8 := if h.good then (0, sectF 1 h.epoch h.seq h.rest) else (80, [])
def CmtD.enc (h : CmtD) : Int × List UInt8 := if h.good then (0, sectF 2 h.epoch h.seq h.rest) else (80, [])
def ChkD.enc (h : ChkD) : Int × List UInt8 := if h.good then (0, sectF 3 h.epoch h.seq h.rest) else (80, [])
def HdrD.parse (b : List UInt8) : HdrD := ⟨numAt b 8 8, numAt b 16 8, numAt b 24 4, numAt b 28 4, numAt b 32 4, numAt b 36 4, decide (numAt b 40 4 = 1), numAt b 44 4⟩
def CmtD.parse (b : List UInt8) : CmtD := ⟨numAt b 8 8, numAt b 16 8, numAt b 24 4, numAt b 28 4⟩
def ChkD.parse (b : List UInt8) : ChkD := ⟨numAt b 8 8, numAt b 16 8, numAt b 24 4⟩
def zeroH : HdrD := ⟨0, 0, 0, 0, 0, 0, false, 0⟩
def zeroC : CmtD := ⟨0, 0, 0, 0⟩
def zeroK : ChkD := ⟨0, 0, 0⟩
def HdrD.dec (b : List UInt8) : Int × HdrD := if looksM b 1 ≠ 0 then (looksM b 1, zeroH) else if (HdrD.parse b).good ∧ (HdrD.parse b).enc.2 = b then (0, HdrD.parse b) else (80, zeroH)
def CmtD.dec (b : List UInt8) : Int × CmtD := if looksM b 2 ≠ 0 then (looksM b 2, zeroC) else if (CmtD.parse b).good ∧ (CmtD.parse b).enc.2 = b then (0, CmtD.parse b) else (80, zeroC)
def ChkD.dec (b : List UInt8) : Int × ChkD := if looksM b 3 ≠ 0 then (looksM b 3, zeroK) else if (ChkD.parse b).good ∧ (ChkD.parse b).enc.2 = b then (0, ChkD.parse b) else (80, zeroK)

theorem magic_low : magicL = lowBytes 1279938643 4 := by decide
theorem sectF_flds (kind epoch seq : Nat) (rest : List (Nat × Nat)) (h : (rest.map (·.2)).sum ≤ 100) :
    sectF kind epoch seq rest = flds ([(1279938643, 4), (kind, 4), (epoch, 8), (seq, 8)] ++ rest) ++ (lowBytes 0 (100 - (rest.map (·.2)).sum) ++ lowBytes (crcS (sectB kind epoch seq (flds rest))).toNat 4) := by
  have hlen : 124 - (begunL kind epoch seq ++ flds rest).length = 100 - (rest.map (·.2)).sum := by
    rw [List.length_append, begunL_length, flds_length]; omega
  unfold sectF sealS
  rw [← List.append_assoc]
  congr 1
  unfold sectB padTo
  rw [hlen, low_zero, flds_append]
  simp only [begunL, magic_low, flds, List.flatMap_cons, List.flatMap_nil, List.append_nil, List.append_assoc]
theorem sectF_length (kind epoch seq : Nat) (rest : List (Nat × Nat)) (h : (rest.map (·.2)).sum ≤ 100) : (sectF kind epoch seq rest).length = 128 :=
  sealS_length (sectB_length (by rw [flds_length]; exact h))
theorem crcS_lt (b : List UInt8) : (crcS b).toNat < 256 ^ 4 := (crcS b).isLt
theorem sectF_num (kind epoch seq : Nat) (rest : List (Nat × Nat)) (h : (rest.map (·.2)).sum ≤ 100) (k : Nat) (p : Nat × Nat) (hk : ([(1279938643, 4), (kind, 4), (epoch, 8), (seq, 8)] ++ rest)[k]? = some p) (hv : p.1 < 256 ^ p.2) :
    numAt (sectF kind epoch seq rest) (offs ([(1279938643, 4), (kind, 4), (epoch, 8), (seq, 8)] ++ rest) k) p.2 = p.1 := by
  rw [sectF_flds _ _ _ _ h]; exact numAt_flds _ k p _ hk hv
theorem sectF_looks (kind : UInt8) (hk : 1 ≤ kind.toNat ∧ kind.toNat ≤ 3) (epoch seq : Nat) (rest : List (Nat × Nat)) (h : (rest.map (·.2)).sum ≤ 100) : looksM (sectF kind.toNat epoch seq rest) kind = 0 := by
  have hl := sectF_length kind.toNat epoch seq rest h
  have hb : (sectB kind.toNat epoch seq (flds rest)).length = 124 := sectB_length (by rw [flds_length]; exact h)
  have hcons : ∃ r, sectF kind.toNat epoch seq rest = magicL ++ (kind :: r) := by
    unfold sectF sealS sectB padTo begunL
    rw [lowBytes_cons 3 kind.toNat]
    refine ⟨_, by rw [List.append_assoc, List.append_assoc, List.append_assoc, List.append_assoc, List.append_assoc, List.cons_append]; congr 2; simp⟩
  have hkb : kindB (sectF kind.toNat epoch seq rest) = kind := by
    obtain ⟨r, hr⟩ := hcons
    have h4 : (sectF kind.toNat epoch seq rest).getD 4 0 = kind := by rw [hr]; rfl
    unfold kindB
    rw [h4, if_pos ⟨hl, by rw [hr]; rfl, hk.2⟩]
  have htk : (sectF kind.toNat epoch seq rest).take 124 = sectB kind.toNat epoch seq (flds rest) := by unfold sectF sealS; rw [List.take_left' hb]
  have hn : numAt (sectF kind.toNat epoch seq rest) 124 4 = (crcS (sectB kind.toNat epoch seq (flds rest))).toNat := by
    unfold sectF sealS
    have := numAt_skip (sectB kind.toNat epoch seq (flds rest)) (lowBytes (crcS (sectB kind.toNat epoch seq (flds rest))).toNat 4) 0 4
    rw [hb] at this
    rw [this]
    have := numAt_here (crcS (sectB kind.toNat epoch seq (flds rest))).toNat 4 [] (crcS_lt _)
    rwa [List.append_nil] at this
  unfold looksM
  rw [if_neg (by simp [hl]), hkb, if_neg (by simp), htk, hn, if_neg (by simp)]

/-! ### What is written is read -/
theorem hdr_sum (h : HdrD) : (h.rest.map (·.2)).sum ≤ 100 := by simp [HdrD.rest]
theorem cmt_sum (h : CmtD) : (h.rest.map (·.2)).sum ≤ 100 := by simp [CmtD.rest]
theorem chk_sum (h : ChkD) : (h.rest.map (·.2)).sum ≤ 100 := by simp [ChkD.rest]
theorem hdr_parse (h : HdrD) (hg : h.good) (hs : h.sum < 4294967296) : HdrD.parse (sectF 1 h.epoch h.seq h.rest) = h := by
  obtain ⟨⟨g1, g2, g3⟩, ⟨g4, g5⟩, ⟨g6, g7⟩, ⟨g8, g9⟩, g10, g11⟩ := hg
  have n := fun k p => sectF_num 1 h.epoch h.seq h.rest (hdr_sum h) k p
  have e2 := n 2 _ rfl (show h.epoch < 256 ^ 8 by omega)
  have e3 := n 3 _ rfl (show h.seq < 256 ^ 8 by omega)
  have e4 := n 4 _ rfl (show h.index.toNat < 256 ^ 4 by omega)
  have e5 := n 5 _ rfl (show h.count.toNat < 256 ^ 4 by omega)
  have e6 := n 6 _ rfl (show h.member.toNat < 256 ^ 4 by omega)
  have e7 := n 7 _ rfl (show h.row.toNat < 256 ^ 4 by omega)
  have e8 := n 8 _ rfl (show bitN h.escaped < 256 ^ 4 by unfold bitN; split <;> omega)
  have e9 := n 9 _ rfl (show h.sum < 256 ^ 4 by omega)
  change numAt _ 8 8 = _ at e2
  change numAt _ 16 8 = _ at e3
  change numAt _ 24 4 = _ at e4
  change numAt _ 28 4 = _ at e5
  change numAt _ 32 4 = _ at e6
  change numAt _ 36 4 = _ at e7
  change numAt _ 40 4 = _ at e8
  change numAt _ 44 4 = _ at e9
  unfold HdrD.parse
  rw [e2, e3, e4, e5, e6, e7, e8, e9]
  obtain ⟨a, b, c, d, e, f, g, i⟩ := h
  simp only [HdrD.mk.injEq, true_and, and_true] at *
  refine ⟨by omega, by omega, by omega, by omega, ?_⟩
  cases g <;> simp [bitN]
theorem cmt_parse (h : CmtD) (hg : h.good) (hs : h.sum < 4294967296) : CmtD.parse (sectF 2 h.epoch h.seq h.rest) = h := by
  obtain ⟨⟨g1, g2, g3⟩, g4, g5⟩ := hg
  have n := fun k p => sectF_num 2 h.epoch h.seq h.rest (cmt_sum h) k p
  have e2 := n 2 _ rfl (show h.epoch < 256 ^ 8 by omega)
  have e3 := n 3 _ rfl (show h.seq < 256 ^ 8 by omega)
  have e4 := n 4 _ rfl (show h.count.toNat < 256 ^ 4 by omega)
  have e5 := n 5 _ rfl (show h.sum < 256 ^ 4 by omega)
  change numAt _ 8 8 = _ at e2
  change numAt _ 16 8 = _ at e3
  change numAt _ 24 4 = _ at e4
  change numAt _ 28 4 = _ at e5
  unfold CmtD.parse
  rw [e2, e3, e4, e5]
  obtain ⟨a, b, c, d⟩ := h
  simp only [CmtD.mk.injEq, true_and, and_true] at *
  omega
theorem chk_parse (h : ChkD) (hg : h.good) : ChkD.parse (sectF 3 h.epoch h.seq h.rest) = h := by
  obtain ⟨⟨g1, g2, g3⟩, g4, g5⟩ := hg
  have n := fun k p => sectF_num 3 h.epoch h.seq h.rest (chk_sum h) k p
  have e2 := n 2 _ rfl (show h.epoch < 256 ^ 8 by omega)
  have e3 := n 3 _ rfl (show h.seq < 256 ^ 8 by omega)
  have e4 := n 4 _ rfl (show h.tail.toNat < 256 ^ 4 by omega)
  change numAt _ 8 8 = _ at e2
  change numAt _ 16 8 = _ at e3
  change numAt _ 24 4 = _ at e4
  unfold ChkD.parse
  rw [e2, e3, e4]
  obtain ⟨a, b, c⟩ := h
  simp only [ChkD.mk.injEq, true_and, and_true] at *
  omega
theorem hdr_back (h : HdrD) (hg : h.good) (hs : h.sum < 4294967296) : HdrD.dec h.enc.2 = (0, h) := by
  have e : h.enc.2 = sectF 1 h.epoch h.seq h.rest := by unfold HdrD.enc; rw [if_pos hg]
  unfold HdrD.dec
  rw [e, if_neg (by rw [show sectF 1 h.epoch h.seq h.rest = sectF (1 : UInt8).toNat h.epoch h.seq h.rest from rfl, sectF_looks 1 (by decide) _ _ _ (hdr_sum h)]; simp), hdr_parse h hg hs, if_pos ⟨hg, e⟩]
theorem cmt_back (h : CmtD) (hg : h.good) (hs : h.sum < 4294967296) : CmtD.dec h.enc.2 = (0, h) := by
  have e : h.enc.2 = sectF 2 h.epoch h.seq h.rest := by unfold CmtD.enc; rw [if_pos hg]
  unfold CmtD.dec
  rw [e, if_neg (by rw [show sectF 2 h.epoch h.seq h.rest = sectF (2 : UInt8).toNat h.epoch h.seq h.rest from rfl, sectF_looks 2 (by decide) _ _ _ (cmt_sum h)]; simp), cmt_parse h hg hs, if_pos ⟨hg, e⟩]
theorem chk_back (h : ChkD) (hg : h.good) : ChkD.dec h.enc.2 = (0, h) := by
  have e : h.enc.2 = sectF 3 h.epoch h.seq h.rest := by unfold ChkD.enc; rw [if_pos hg]
  unfold ChkD.dec
  rw [e, if_neg (by rw [show sectF 3 h.epoch h.seq h.rest = sectF (3 : UInt8).toNat h.epoch h.seq h.rest from rfl, sectF_looks 3 (by decide) _ _ _ (chk_sum h)]; simp), chk_parse h hg, if_pos ⟨hg, e⟩]
theorem pack_append : ∀ (u v : List Bool), packB (u ++ v) = packB u ^^^ (packB v <<< u.length)
  | [], v => by simp [packB]
  | b :: r, v => by
    rw [List.cons_append, packB, packB, pack_append r v, List.length_cons]
    apply BitVec.eq_of_getLsbD_eq
    intro i hi
    simp only [BitVec.getLsbD_xor, BitVec.getLsbD_shiftLeft]
    cases i with
    | zero => simp
    | succ i =>
      have h2 : i < 32 := by omega
      have h3 : decide (i + 1 < r.length + 1) = decide (i < r.length) := by rw [decide_eq_decide]; omega
      have h4 : i + 1 - (r.length + 1) = i - r.length := by omega
      simp [hi, h2, h3, h4, Bool.xor_assoc]
theorem ofNat_le (c r : Nat) (hc : c < 256) : BitVec.ofNat 32 (c + 256 * r) = BitVec.ofNat 32 c ^^^ (BitVec.ofNat 32 r <<< 8) := by
  apply BitVec.eq_of_getLsbD_eq
  intro i hi
  have h := Nat.testBit_two_pow_mul_add r (i := 8) (b := c) hc i
  rw [show 2 ^ 8 * r + c = c + 256 * r by omega] at h
  rw [BitVec.getLsbD_xor, BitVec.getLsbD_shiftLeft, BitVec.getLsbD_ofNat, BitVec.getLsbD_ofNat, BitVec.getLsbD_ofNat, h]
  by_cases h8 : i < 8
  · simp [hi, h8]
  · have h2 : i - 8 < 32 := by omega
    have h3 : c.testBit i = false := Nat.testBit_lt_two_pow (Nat.lt_of_lt_of_le hc (Nat.pow_le_pow_right (n := 2) (by omega) (show 8 ≤ i by omega)))
    simp [hi, h8, h2, h3]
theorem pack_le : ∀ (l : List UInt8), packB (allBits l) = BitVec.ofNat 32 (leVal l)
  | [] => rfl
  | c :: r => by
    rw [show allBits (c :: r) = bitsOf c ++ allBits r from rfl, pack_append, bitsOf_length, pack_byte, pack_le r, leVal, ofNat_le _ _ c.toNat_lt]
theorem allBits_append (a b : List UInt8) : allBits (a ++ b) = allBits a ++ allBits b := by simp [allBits]
theorem good_state (b : List UInt8) (k : Nat) (hb : b.length = k + 4) (hs : numAt b k 4 = (crcS (b.take k)).toNat) : bitF (~~~0#32) (allBits b) = stpN 32 (BitVec.allOnes 32) := by
  have hd : (b.drop k).length = 4 := by rw [List.length_drop]; omega
  have e : allBits b = allBits (b.take k) ++ allBits (b.drop k) := by
    rw [← allBits_append, List.take_append_drop]
  rw [e, bitF_append, ← crcF_bits (b.take k), bitF_pack (allBits (b.drop k)) _ (by rw [allBits_length, hd]; omega), allBits_length, hd, pack_le]
  have hn : leVal (b.drop k) = (crcS (b.take k)).toNat := by
    unfold numAt at hs
    rwa [List.take_of_length_le (by omega)] at hs
  rw [hn, BitVec.ofNat_toNat, BitVec.setWidth_eq]
  congr 1
  unfold crcS crcM
  generalize crcF (~~~0#32) (b.take k) = F
  apply BitVec.eq_of_getLsbD_eq
  intro i hi
  rw [BitVec.getLsbD_xor, BitVec.getLsbD_not, BitVec.getLsbD_allOnes]
  cases F.getLsbD i <;> simp [hi]
/-- A sector whose sum is right, changed in a run of at most 32 bits: its sum is wrong. -/
theorem sum_told (a x : List UInt8) (ha : a.length = 128) (hx : x.length = 128) (hs : numAt a 124 4 = (crcS (a.take 124)).toNat) (p m : Nat) (w : List Bool) (hw : w.length ≤ 32)
    (hd : xorL (allBits a) (allBits x) = List.replicate p false ++ (w ++ List.replicate m false)) (hk : numAt x 124 4 = (crcS (x.take 124)).toNat) : w = List.replicate w.length false := by
  have e1 := good_state a 124 ha hs
  have e2 := good_state x 124 hx hk
  have h := bitF_xor (allBits a) (allBits x) (~~~0#32) (~~~0#32) (by rw [allBits_length, allBits_length, ha, hx])
  rw [e1, e2, BitVec.xor_self, BitVec.xor_self, hd] at h
  exact run_told p m w hw h
end Go.Proofs.Ytlojjlbngnaphaa
