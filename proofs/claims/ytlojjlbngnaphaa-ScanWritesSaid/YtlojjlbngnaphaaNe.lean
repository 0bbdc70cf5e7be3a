/- Scan: one batch is read: a range over the ring's sectors. -/
import Derived.Test.YtlojjlbngnaphaaNd
set_option maxRecDepth 8000
set_option linter.unusedVariables false
set_option linter.unusedSimpArgs false
set_option linter.unusedSectionVars false
namespace Go.Proofs.Ytlojjlbngnaphaa
open Go.RowKit Go.Sl
attribute [local irreducible] Own

theorem wfUN {z : Nat} (h : z < 2 ^ 64) : (Lit.int .u64 (z : Int)).wf = true := by simp [Lit.wf, IntKind.min, IntKind.max, IntKind.signed, IntKind.bits]; omega
theorem wfWN {z : Nat} (h : z < 4294967296) : (Lit.int .u32 (z : Int)).wf = true := by simp [Lit.wf, IntKind.min, IntKind.max, IntKind.signed, IntKind.bits]; omega
theorem wfIN {z : Int} (h : -9223372036854775808 ≤ z ∧ z ≤ 9223372036854775807) : (Lit.int .i64 z).wf = true := by simp [Lit.wf, IntKind.min, IntKind.max, IntKind.signed, IntKind.bits]; omega
theorem cmt_sameN (a b : CmtD) : a = b ↔ a.epoch = b.epoch ∧ a.seq = b.seq ∧ a.count = b.count ∧ a.sum = b.sum := by cases a; cases b; simp
theorem cmt_eqN {W : World} {n : Nat} {H : List SProp} {f : Fr} {dst : Option Tmp} {ty_ : TypeId} {pos : String} {after : Array Edge} {guard : Option (Nat × Bool)} {op : BinOp} {x y : Operand} {u : TypeId} {v : Value} {a b : CmtD} (hx : evalX f x = some (.agg a.cells.toArray)) (hy : evalX f y = some (.agg b.cells.toArray)) (ha : a.fit) (hb : b.fit) (hv : eqB op (decide (a = b)) = some v) :
    PureAt W Try.prog n H f { dst, op := .binOp op 95 x y u, type := ty_, pos, after, guard } v := by
  refine PureAt.eqFlat (ks := [some .u64, some .u64, some .i64, some .u32]) (cs := a.cells) (ds := b.cells) (by kernel_rfl) hx hy rfl rfl rfl rfl ?_ ?_ ?_ hv
  · intro l hl; simp only [List.mem_cons, List.not_mem_nil, or_false] at hl
    rcases hl with h | h | h | h <;> subst h <;> first | exact wfUN ha.epoch | exact wfUN ha.seq | exact wfIN ha.count | exact wfWN ha.sum
  · intro l hl; simp only [List.mem_cons, List.not_mem_nil, or_false] at hl
    rcases hl with h | h | h | h <;> subst h <;> first | exact wfUN hb.epoch | exact wfUN hb.seq | exact wfIN hb.count | exact wfWN hb.sum
  · rw [decide_eq_true_iff, cmt_sameN]; simp; omega
theorem dec_fitC (b : List UInt8) : (CmtD.dec b).2.fit := by
  have hz : zeroC.fit := ⟨by decide, by decide, by decide, by decide⟩
  unfold CmtD.dec
  split
  · exact hz
  · split
    · exact cmt_fit b
    · exact hz
theorem dec_fitH (b : List UInt8) : (HdrD.dec b).2.fit := by
  have hz : zeroH.fit := ⟨by decide, by decide, by decide, by decide, by decide, by decide, by decide⟩
  unfold HdrD.dec
  split
  · exact hz
  · split
    · exact hdr_fit b
    · exact hz
theorem dec_countB (b : List UInt8) : 0 ≤ (HdrD.dec b).2.count ∧ (HdrD.dec b).2.count ≤ 1023 := by
  by_cases h : (HdrD.dec b).1 = 0
  · have := (hdr_decO h).2.1.2.1; omega
  · unfold HdrD.dec at h ⊢
    split
    · exact ⟨by show (0:Int) ≤ zeroH.count; decide, by show zeroH.count ≤ 1023; decide⟩
    · rename_i h1
      rw [if_neg h1] at h
      split
      · rename_i h2; rw [if_pos h2] at h; exact absurd rfl h
      · exact ⟨by show (0:Int) ≤ zeroH.count; decide, by show zeroH.count ≤ 1023; decide⟩
/-! ### What the rounds keep -/
structure BSt where
  pats : List PatE
  x : Option Addr × Nat
  head : HdrD
  cnt : Int
def hdOk (sec : SecF) (e s : Nat) (n : Int) (j : Nat) : Prop :=
  (HdrD.dec (sec (2 * j))).1 = 0 ∧ (HdrD.dec (sec (2 * j))).2.epoch = e ∧ (HdrD.dec (sec (2 * j))).2.seq = s ∧ (HdrD.dec (sec (2 * j))).2.index = j ∧ (HdrD.dec (sec (2 * j))).2.count = n
structure BInv (sec : SecF) (room e s i : Nat) (st : BSt) : Prop where
  zero : i = 0 → st.cnt = 0
  pos : 0 < i → st.cnt = batN sec ∧ 1 ≤ batN sec ∧ batN sec ≤ 1023 ∧ (HdrD.dec (sec 0)).1 = 0 ∧ 2 * batN sec + 1 ≤ room ∧ (i : Int) ≤ 2 * batN sec
  each : ∀ j, 2 * j + 1 < i → stepOk sec e s (batN sec) j
  odd : ∀ j, i = 2 * j + 1 → hdOk sec e s (batN sec) j ∧ st.head = (HdrD.dec (sec (2 * j))).2
  pats : st.pats.map PatE.D = (List.range (i / 2)).map (patAt sec)
theorem BInv.start (sec : SecF) (room e s : Nat) (x : Option Addr × Nat) : BInv sec room e s 0 ⟨[], x, zeroH, 0⟩ :=
  ⟨fun _ => rfl, fun h => absurd h (by omega), fun j h => absurd h (by omega), fun j h => absurd h (by omega), rfl⟩
theorem dec_count {sec : SecF} (h : (HdrD.dec (sec 0)).1 = 0) : 1 ≤ batN sec ∧ batN sec ≤ 1023 := (hdr_decO h).2.1.2.1
theorem bat_room0 {sec : SecF} {room e s i : Nat} {st : BSt} (h : BInv sec room e s i st) (hr : i = room) : batM sec room e s = none := by
  unfold batM
  rw [if_neg]
  rintro ⟨h0, h1, _⟩
  have hc := dec_count h0
  rcases Nat.eq_zero_or_pos i with hi | hi
  · omega
  · have := h.pos hi; omega
theorem bat_head0 {sec : SecF} {room e s i j : Nat} {st : BSt} (h : BInv sec room e s i st) (hj : i = 2 * j) (hn : 0 < i → i ≠ 2 * (batN sec).toNat) (hbad : ¬ (hdOk sec e s (batN sec) j ∧ 2 * batN sec + 1 ≤ room)) : batM sec room e s = none := by
  unfold batM
  rw [if_neg]
  rintro ⟨h0, h1, h2, _⟩
  have hc := dec_count h0
  refine hbad ⟨?_, h1⟩
  have hlt : j < (batN sec).toNat := by
    rcases Nat.eq_zero_or_pos i with hi | hi
    · omega
    · have := h.pos hi; have := hn hi; omega
  have := h2 j hlt
  exact ⟨this.1, this.2.1, this.2.2.1, this.2.2.2.1, this.2.2.2.2.1⟩
theorem bat_data0 {sec : SecF} {room e s i j : Nat} {st : BSt} (h : BInv sec room e s i st) (hj : i = 2 * j + 1) (hbad : ¬ ((unD (sec (2 * j + 1)) (HdrD.dec (sec (2 * j))).2.escaped).2 = 0 ∧ (crcS (sec (2 * j + 1))).toNat = (HdrD.dec (sec (2 * j))).2.sum)) : batM sec room e s = none := by
  unfold batM
  rw [if_neg]
  rintro ⟨h0, h1, h2, _⟩
  have hp := h.pos (by omega)
  have := h2 j (by omega)
  exact hbad this.2.2.2.2.2
theorem bat_end {sec : SecF} {room e s i : Nat} {st : BSt} (h : BInv sec room e s i st) (hi : 0 < i) (hn : (i : Int) = 2 * batN sec) :
    (batM sec room e s).isSome = decide (CmtD.dec (sec i) = (0, ⟨e, s, batN sec, (crcS (headsF sec (batN sec).toNat)).toNat⟩)) ∧ ∀ l, batM sec room e s = some l → st.pats.map PatE.D = l := by
  have hp := h.pos hi
  have hi2 : i = 2 * (batN sec).toNat := by omega
  unfold batM
  constructor
  · by_cases hc : CmtD.dec (sec i) = (0, ⟨e, s, batN sec, (crcS (headsF sec (batN sec).toNat)).toNat⟩)
    · rw [if_pos, decide_eq_true hc]; · rfl
      exact ⟨hp.2.2.2.1, hp.2.2.2.2.1, fun j hj => h.each j (by omega), by rw [← hi2]; exact hc⟩
    · rw [if_neg, decide_eq_false hc]; · rfl
      rintro ⟨_, _, _, q⟩
      rw [← hi2] at q; exact hc q
  · intro l hl
    split at hl
    · injection hl with hl
      rw [← hl, h.pats, show i / 2 = (batN sec).toNat by omega]
    · cases hl
/-- Behind a header that is as it must be. -/
theorem BInv.head_next {sec : SecF} {room e s i j : Nat} {st : BSt} (h : BInv sec room e s i st) (hj : i = 2 * j) (hok : hdOk sec e s (batN sec) j) (hroom : 2 * batN sec + 1 ≤ room) (hlt : (j : Int) < batN sec) (h0 : (HdrD.dec (sec 0)).1 = 0) :
    BInv sec room e s (i + 1) ⟨st.pats, st.x, (HdrD.dec (sec (2 * j))).2, batN sec⟩ := by
  have hc := dec_count h0
  refine ⟨fun q => absurd q (by omega), fun _ => ⟨rfl, hc.1, hc.2, h0, hroom, by omega⟩, fun k hk => h.each k (by omega), fun k hk => ?_, ?_⟩
  · obtain rfl : k = j := by omega
    exact ⟨hok, rfl⟩
  · show st.pats.map PatE.D = _
    rw [h.pats, show (i + 1) / 2 = i / 2 by omega]
theorem BInv.data_next {sec : SecF} {room e s i j : Nat} {st : BSt} (h : BInv sec room e s i st) (hj : i = 2 * j + 1) (x : Option Addr × Nat) (p : PatE) (hp : p.D = patAt sec j)
    (hok : (unD (sec (2 * j + 1)) (HdrD.dec (sec (2 * j))).2.escaped).2 = 0 ∧ (crcS (sec (2 * j + 1))).toNat = (HdrD.dec (sec (2 * j))).2.sum) : BInv sec room e s (i + 1) ⟨st.pats ++ [p], x, st.head, st.cnt⟩ := by
  have h1 := h.pos (by omega)
  have h2 := h.odd j hj
  refine ⟨fun q => absurd q (by omega), fun _ => ⟨h1.1, h1.2.1, h1.2.2.1, h1.2.2.2.1, h1.2.2.2.2.1, by omega⟩, fun k hk => ?_, fun k hk => absurd hk (by omega), ?_⟩
  · by_cases hkj : k = j
    · subst hkj
      exact ⟨h2.1.1, h2.1.2.1, h2.1.2.2.1, h2.1.2.2.2.1, h2.1.2.2.2.2, hok.1, hok.2⟩
    · exact h.each k (by omega)
  · show (st.pats ++ [p]).map PatE.D = _
    rw [List.map_append, h.pats, show i / 2 = j by omega, show (i + 1) / 2 = j + 1 by omega, List.range_succ, List.map_append, List.map_cons, List.map_nil, hp]
    rfl
end Go.Proofs.Ytlojjlbngnaphaa
