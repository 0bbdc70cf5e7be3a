/- Superblocks as sectors: the plain law. -/
import Derived.Test.YtgkpdpoblofehaaVb
import Derived.Test.YtgkpdpoblofehaaEa
set_option maxRecDepth 8000
set_option linter.unusedVariables false
set_option linter.unusedSimpArgs false
set_option linter.unusedSectionVars false
namespace Go.Proofs.Ytgkpdpoblofehaa
open Go.RowKit Go.Sl
attribute [local irreducible] Own

def SuperD.flags (s : SuperD) : Nat := bitN s.lazy + 2 * bitN s.lost
def magicS : List UInt8 := [83, 80, 83, 66, 1, 0, 0, 0]
theorem magicS_low : magicS = lowBytes 5407723603 8 := by decide +kernel
def SuperD.nums (s : SuperD) : List (Nat × Nat) := [(5407723603, 8), (s.id, 8), (s.events, 8), (s.safe, 8), (s.role.toNat, 1), (s.members.toNat, 1), (s.chunk.toNat, 1), (s.flags, 1), (s.stripes.toNat, 2), (s.ring.toNat, 2), (s.cursor.toNat, 2), (0, 2)]
def SuperD.had (s : SuperD) (k : Nat) : List UInt8 := flds (s.nums.take k) ++ (if k = 13 then s.states else [])
def SuperD.body (s : SuperD) : List UInt8 := padTo 124 (s.had 13)
def SuperD.enc (s : SuperD) : Int × List UInt8 := if s.okP then (0, sealS s.body) else (70, [])
def offN (k : Nat) : Nat := [0, 8, 16, 24, 32, 33, 34, 35, 36, 38, 40, 42, 44].getD k 0

theorem had_zero (s : SuperD) : s.had 0 = [] := rfl
theorem had_succ (s : SuperD) {k v w : Nat} (hk : k < 12) (h : s.nums[k]? = some (v, w)) : s.had (k + 1) = s.had k ++ lowBytes v w := by
  unfold SuperD.had
  rw [if_neg (by omega), if_neg (by omega), List.append_nil, List.append_nil]
  have : s.nums.take (k + 1) = s.nums.take k ++ [(v, w)] := by
    rw [List.take_add_one, h]; rfl
  rw [this, flds_append]
  simp [flds]
theorem had_last (s : SuperD) : s.had 13 = s.had 12 ++ s.states := by
  unfold SuperD.had
  rw [if_pos rfl, if_neg (by decide), List.append_nil]
  rfl
theorem had_length (s : SuperD) (k : Nat) (hk : k < 13) : (s.had k).length = offN k := by
  unfold SuperD.had
  rw [if_neg (by omega), List.append_nil, flds_length]
  match k, hk with
  | 0, _ => rfl
  | 1, _ => rfl
  | 2, _ => rfl
  | 3, _ => rfl
  | 4, _ => rfl
  | 5, _ => rfl
  | 6, _ => rfl
  | 7, _ => rfl
  | 8, _ => rfl
  | 9, _ => rfl
  | 10, _ => rfl
  | 11, _ => rfl
  | 12, _ => rfl
theorem had_len13 (s : SuperD) : (s.had 13).length = 44 + s.states.length := by
  rw [had_last, List.length_append, had_length s 12 (by decide)]; rfl
theorem offN_le (k : Nat) (hk : k < 13) : offN k ≤ 44 := by
  rw [← had_length ⟨0, 0, 0, 0, 0, 0, 0, 0, false, false, none, 0, [], 0⟩ k hk]
  match k, hk with
  | 0, _ => decide +kernel
  | 1, _ => decide +kernel
  | 2, _ => decide +kernel
  | 3, _ => decide +kernel
  | 4, _ => decide +kernel
  | 5, _ => decide +kernel
  | 6, _ => decide +kernel
  | 7, _ => decide +kernel
  | 8, _ => decide +kernel
  | 9, _ => decide +kernel
  | 10, _ => decide +kernel
  | 11, _ => decide +kernel
  | 12, _ => decide +kernel

/-- What Check makes sure of. -/
structure SuperD.In (s : SuperD) : Prop where
  id : s.id < 2 ^ 64
  events : s.events < 2 ^ 64
  safe : s.safe < 2 ^ 64
  role : 0 ≤ s.role ∧ s.role ≤ 16
  members : 3 ≤ s.members ∧ s.members ≤ 16
  chunk : 1 ≤ s.chunk ∧ s.chunk ≤ 16
  stripes : 1 ≤ s.stripes ∧ s.stripes ≤ 256
  ring : 5 ≤ s.ring ∧ s.ring ≤ 2048
  cursor : 0 ≤ s.cursor ∧ s.cursor ≤ 255
  len : (s.states.length : Int) = s.members
  len16 : s.states.length ≤ 16
theorem okP_in {s : SuperD} (hf : s.fit) (h : s.okP) : s.In := by
  obtain ⟨⟨h1, h2, h3, h4, h5⟩, h6, h7, h8⟩ := h
  unfold SuperD.sizes at h1
  have h1 := of_decide_eq_true h1
  have hl : s.last s.states.length ≤ 255 := by
    unfold SuperD.last; split <;> omega
  exact ⟨by have := hf.id; omega, by have := hf.events; omega, by have := hf.safe; omega, by omega, by omega, by omega, by omega, by omega, by omega, h5, by omega⟩
theorem SuperD.In.had_le {s : SuperD} (h : s.In) (k : Nat) (hk : k ≤ 13) : (s.had k).length ≤ 60 := by
  have := h.len16
  by_cases e : k = 13
  · subst e; rw [had_len13]; omega
  · rw [had_length s k (by omega)]; have := offN_le k (by omega); omega
theorem body_length {s : SuperD} (h : s.In) : s.body.length = 124 := padTo_length (by have := h.had_le 13 (by decide); omega)
theorem enc_length {s : SuperD} (h : s.In) : (sealS s.body).length = 128 := sealS_length (body_length h)
/-- A sector, as its numbers, its states and what stands behind them. -/
theorem seal_parts (s : SuperD) : sealS s.body = flds s.nums ++ (s.states ++ (List.replicate (124 - (s.had 13).length) 0 ++ lowBytes (crcS s.body).toNat 4)) := by
  unfold sealS
  show padTo 124 (s.had 13) ++ lowBytes (crcS s.body).toNat 4 = _
  unfold padTo
  rw [had_last, show s.had 12 = flds s.nums by unfold SuperD.had; rw [if_neg (by decide), List.append_nil]; rfl]
  simp only [List.append_assoc]
theorem flags_lt (s : SuperD) : s.flags < 4 := by
  unfold SuperD.flags bitN; split <;> split <;> omega
theorem nums_lt {s : SuperD} (h : s.In) : ∀ (k : Nat) (p : Nat × Nat), s.nums[k]? = some p → p.1 < 256 ^ p.2 := by
  have hf := flags_lt s
  obtain ⟨h1, h2, h3, h4, h5, h6, h7, h8, h9, _, _⟩ := h
  intro k p hp
  have hk : k < 12 := (List.getElem?_eq_some_iff.1 hp).1
  match k, hk with
  | 0, _ => cases hp; decide
  | 1, _ => cases hp; exact h1
  | 2, _ => cases hp; exact h2
  | 3, _ => cases hp; exact h3
  | 4, _ => cases hp; simp only; omega
  | 5, _ => cases hp; simp only; omega
  | 6, _ => cases hp; simp only; omega
  | 7, _ => cases hp; simp only; omega
  | 8, _ => cases hp; simp only; omega
  | 9, _ => cases hp; simp only; omega
  | 10, _ => cases hp; simp only; omega
  | 11, _ => cases hp; decide
theorem offs_nums (s : SuperD) {k : Nat} (hk : k < 12) : offs s.nums k = offN k := by
  match k, hk with
  | 0, _ => simp [offs, SuperD.nums, offN]
  | 1, _ => simp [offs, SuperD.nums, offN]
  | 2, _ => simp [offs, SuperD.nums, offN]
  | 3, _ => simp [offs, SuperD.nums, offN]
  | 4, _ => simp [offs, SuperD.nums, offN]
  | 5, _ => simp [offs, SuperD.nums, offN]
  | 6, _ => simp [offs, SuperD.nums, offN]
  | 7, _ => simp [offs, SuperD.nums, offN]
  | 8, _ => simp [offs, SuperD.nums, offN]
  | 9, _ => simp [offs, SuperD.nums, offN]
  | 10, _ => simp [offs, SuperD.nums, offN]
  | 11, _ => simp [offs, SuperD.nums, offN]
theorem seal_num {s : SuperD} (h : s.In) {k v w : Nat} (hp : s.nums[k]? = some (v, w)) : numAt (sealS s.body) (offN k) w = v := by
  have hk : k < 12 := (List.getElem?_eq_some_iff.1 hp).1
  have := numAt_flds s.nums k (v, w) (s.states ++ (List.replicate (124 - (s.had 13).length) 0 ++ lowBytes (crcS s.body).toNat 4)) hp (nums_lt h k _ hp)
  rw [← seal_parts] at this
  refine Eq.trans ?_ this
  rw [offs_nums s hk]
theorem seal_state {s : SuperD} (h : s.In) {i : Nat} {x : UInt8} (hx : s.states[i]? = some x) : numAt (sealS s.body) (44 + i) 1 = x.toNat := by
  have hi := (List.getElem?_eq_some_iff.1 hx).1
  unfold numAt
  rw [seal_parts]
  have e : (flds s.nums).length = 44 := by rw [flds_length]; rfl
  have e2 : (flds s.nums ++ (s.states ++ (List.replicate (124 - (s.had 13).length) 0 ++ lowBytes (crcS s.body).toNat 4))).drop (44 + i) = (s.states ++ (List.replicate (124 - (s.had 13).length) 0 ++ lowBytes (crcS s.body).toNat 4)).drop i := by
    rw [← e, List.drop_append, List.drop_of_length_le (by omega)]; simp
  rw [e2, List.drop_append_of_le_length (by omega), List.take_append_of_le_length (by rw [List.length_drop]; omega)]
  have e3 : (s.states.drop i).take 1 = [x] := by
    rw [List.drop_eq_getElem_cons hi]
    have : s.states[i] = x := (List.getElem?_eq_some_iff.1 hx).2
    simp [this]
  rw [e3]; simp [leVal]
theorem seal_head {s : SuperD} : (sealS s.body).take 8 = magicS := by
  rw [seal_parts, magicS_low]
  show (lowBytes 5407723603 8 ++ flds (s.nums.drop 1) ++ _).take 8 = _
  rw [List.append_assoc]
  exact List.take_left' (lowBytes_length _ _)
theorem seal_sum {s : SuperD} (h : s.In) : numAt (sealS s.body) 124 4 = (crcS ((sealS s.body).take 124)).toNat := by
  have hb := body_length h
  have h1 : (sealS s.body).take 124 = s.body := by unfold sealS; exact List.take_left' hb
  rw [h1]
  unfold numAt
  rw [show (sealS s.body).drop 124 = lowBytes (crcS s.body).toNat 4 by unfold sealS; exact List.drop_left' hb, List.take_of_length_le (by rw [lowBytes_length]; exact Nat.le_refl _), leVal_low _ _ (crcS_lt _)]
end Go.Proofs.Ytgkpdpoblofehaa
