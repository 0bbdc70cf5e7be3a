/- What a scan finds: the plain law. -/
import Derived.Test.YtlojjlbngnaphaaNp
set_option maxRecDepth 8000
set_option linter.unusedVariables false
set_option linter.unusedSimpArgs false
set_option linter.unusedSectionVars false
namespace Go.Proofs.Ytlojjlbngnaphaa
open Go.RowKit Go.Sl
attribute [local irreducible] Own

def mostC : Nat := 4611686018427387904
/-- Batches, numbered one behind the other. -/
def numb (s : Nat) : List (List PatD) → List (Nat × List PatD)
  | [] => []
  | l :: r => (s, l) :: numb (s + 1) r
def costL (ls : List (List PatD)) : Nat := (ls.map fun l => 2 * l.length + 1).sum
theorem costL_cons (l : List PatD) (r : List (List PatD)) : costL (l :: r) = (2 * l.length + 1) + costL r := by simp [costL]
theorem costL_append (a b : List (List PatD)) : costL (a ++ b) = costL a + costL b := by simp [costL]
theorem costT_cons (t : Nat × List PatD) (r : List (Nat × List PatD)) : costT (t :: r) = (2 * t.2.length + 1) + costT r := by simp [costT]
theorem costT_append (a b : List (Nat × List PatD)) : costT (a ++ b) = costT a + costT b := by simp [costT]
theorem costT_numb : ∀ (ls : List (List PatD)) (s : Nat), costT (numb s ls) = costL ls
  | [], _ => rfl
  | l :: r, s => by rw [numb, costT_cons, costL_cons, costT_numb r]
theorem numb_length : ∀ (ls : List (List PatD)) (s : Nat), (numb s ls).length = ls.length
  | [], _ => rfl
  | _ :: r, s => by simp [numb, numb_length r]
theorem numb_get : ∀ (ls : List (List PatD)) (s i : Nat) (h : i < ls.length), (numb s ls)[i]? = some (s + i, ls[i])
  | l :: r, s, 0, _ => rfl
  | l :: r, s, i + 1, h => by
    have := numb_get r (s + 1) i (by simpa using h)
    simp only [numb, List.getElem?_cons_succ, List.getElem_cons_succ]
    rw [this, show s + 1 + i = s + (i + 1) by omega]
theorem numb_append : ∀ (a b : List (List PatD)) (s : Nat), numb s (a ++ b) = numb s a ++ numb (s + a.length) b
  | [], b, s => rfl
  | l :: r, b, s => by simp only [List.cons_append, numb, numb_append r, List.length_cons]; rw [show s + 1 + r.length = s + (r.length + 1) by omega]
theorem numb_drop : ∀ (ls : List (List PatD)) (s i : Nat), (numb s ls).drop i = numb (s + i) (ls.drop i)
  | ls, s, 0 => rfl
  | [], s, i + 1 => by simp [numb]
  | l :: r, s, i + 1 => by
    simp only [numb, List.drop_succ_cons, numb_drop r]
    rw [show s + 1 + i = s + (i + 1) by omega]
theorem rotF_mod (sec : SecF) (size hd : Nat) : rotF sec size (hd % size) = rotF sec size hd := by
  funext j; unfold rotF; rw [Nat.mod_add_mod]
section
variable {sec : SecF} {size e : Nat}
/-- What is found: numbers that rise by one. -/
theorem of_numb : ∀ (f nx us hd : Nat), ofM sec size e f nx us hd = numb nx ((ofM sec size e f nx us hd).map (·.2))
  | 0, _, _, _ => rfl
  | f + 1, nx, us, hd => by
    unfold ofM
    split
    · split
      · rfl
      · rename_i l _
        rw [List.map_cons, numb, ← of_numb f]
    · rfl
theorem bat_room {room s : Nat} {l : List PatD} (h : batM sec room e s = some l) : 2 * l.length + 1 ≤ room ∧ 1 ≤ l.length := by
  have := (bat_iff sec room e s l).1 h
  exact ⟨this.2.1, this.1.n1⟩
theorem of_cost : ∀ (f nx us hd : Nat), us ≤ size → us + costT (ofM sec size e f nx us hd) ≤ size
  | 0, _, us, _, h => by simpa [ofM, costT] using h
  | f + 1, nx, us, hd, h => by
    unfold ofM
    split
    · split
      · simpa [costT] using h
      · rename_i l hl
        have hr := bat_room hl
        have ih := of_cost f (nx + 1) (us + (2 * l.length + 1)) ((hd + (2 * l.length + 1)) % size) (by omega)
        rw [costT_cons]; dsimp only; omega
    · simpa [costT] using h
/-- Each of them counts where it stands. -/
theorem of_each : ∀ (f nx us hd i : Nat) (t : Nat × List PatD), (ofM sec size e f nx us hd)[i]? = some t → t.1 = nx + i ∧ nx + i ≤ mostC ∧
    batM (rotF sec size (hd + costT ((ofM sec size e f nx us hd).take i))) (size - (us + costT ((ofM sec size e f nx us hd).take i))) e (nx + i) = some t.2
  | 0, _, _, _, i, t, h => by simp [ofM] at h
  | f + 1, nx, us, hd, i, t, h => by
    unfold ofM at h ⊢
    split at h
    · rename_i hm
      rw [if_pos hm]
      split at h
      · simp at h
      · rename_i l hl
        cases i with
        | zero =>
          simp only [List.getElem?_cons_zero, Option.some.injEq] at h
          subst h
          exact ⟨rfl, hm, by simpa [costT] using hl⟩
        | succ i =>
          simp only [List.getElem?_cons_succ] at h
          obtain ⟨h1, h2, h3⟩ := of_each f _ _ _ i t h
          refine ⟨by omega, by omega, ?_⟩
          rw [List.take_succ_cons, costT_cons]
          rw [← rotF_mod] at h3
          rw [Nat.mod_add_mod, rotF_mod] at h3
          rw [show hd + ((2 * (nx, l).2.length + 1) + costT ((ofM sec size e f (nx + 1) (us + (2 * l.length + 1)) ((hd + (2 * l.length + 1)) % size)).take i)) = hd + (2 * l.length + 1) + costT ((ofM sec size e f (nx + 1) (us + (2 * l.length + 1)) ((hd + (2 * l.length + 1)) % size)).take i) by simp only; omega,
            show us + ((2 * (nx, l).2.length + 1) + costT ((ofM sec size e f (nx + 1) (us + (2 * l.length + 1)) ((hd + (2 * l.length + 1)) % size)).take i)) = us + (2 * l.length + 1) + costT ((ofM sec size e f (nx + 1) (us + (2 * l.length + 1)) ((hd + (2 * l.length + 1)) % size)).take i) by simp only; omega,
            show nx + (i + 1) = nx + 1 + i by omega]
          exact h3
    · simp at h
/-- Where it ends: nothing counts there. -/
theorem of_stop : ∀ (f nx us hd : Nat), us ≤ size → size < us + f → mostC < nx + (ofM sec size e f nx us hd).length ∨
    batM (rotF sec size (hd + costT (ofM sec size e f nx us hd))) (size - (us + costT (ofM sec size e f nx us hd))) e (nx + (ofM sec size e f nx us hd).length) = none
  | 0, _, us, _, h1, h2 => absurd h1 (by omega)
  | f + 1, nx, us, hd, h1, h2 => by
    unfold ofM
    split
    · split
      · rename_i hn
        right
        simpa [costT] using hn
      · rename_i l hl
        have hr := bat_room hl
        rcases of_stop f (nx + 1) (us + (2 * l.length + 1)) ((hd + (2 * l.length + 1)) % size) (by omega) (by omega) with h3 | h3
        · left; rw [List.length_cons]; omega
        · right
          rw [costT_cons, List.length_cons]
          rw [← rotF_mod] at h3
          rw [Nat.mod_add_mod, rotF_mod] at h3
          generalize ofM sec size e f (nx + 1) (us + (2 * l.length + 1)) ((hd + (2 * l.length + 1)) % size) = ts at *
          rw [show hd + ((2 * (nx, l).2.length + 1) + costT ts) = hd + (2 * l.length + 1) + costT ts by simp only; omega, show us + ((2 * (nx, l).2.length + 1) + costT ts) = us + (2 * l.length + 1) + costT ts by simp only; omega,
            show nx + (ts.length + 1) = nx + 1 + ts.length by omega]
          exact h3
    · rename_i h; left; unfold mostC; simp only [List.length_nil]; omega
/-- Batches that count, one behind the other, are found. -/
theorem of_prefix : ∀ (ls : List (List PatD)) (f nx us hd : Nat), (∀ (k : Nat) (h : k < ls.length), nx + k ≤ mostC ∧ batM (rotF sec size (hd + costL (ls.take k))) (size - (us + costL (ls.take k))) e (nx + k) = some ls[k]) → ls.length ≤ f →
    ofM sec size e f nx us hd = numb nx ls ++ ofM sec size e (f - ls.length) (nx + ls.length) (us + costL ls) (if ls = [] then hd else (hd + costL ls) % size)
  | [], f, nx, us, hd, _, _ => by simp [numb, costL]
  | l :: r, 0, nx, us, hd, _, h => by simp at h
  | l :: r, f + 1, nx, us, hd, h, hf => by
    obtain ⟨h1, h2⟩ := h 0 (by simp)
    simp only [List.take_zero, Nat.add_zero, List.getElem_cons_zero, show costL [] = 0 from rfl] at h1 h2
    have ih := of_prefix r f (nx + 1) (us + (2 * l.length + 1)) ((hd + (2 * l.length + 1)) % size) (fun k hk => by
      obtain ⟨h3, h4⟩ := h (k + 1) (by simpa using hk)
      rw [List.take_succ_cons, costL_cons, List.getElem_cons_succ] at h4
      refine ⟨by omega, ?_⟩
      rw [← rotF_mod, Nat.mod_add_mod, rotF_mod, show hd + (2 * l.length + 1) + costL (r.take k) = hd + (2 * l.length + 1 + costL (r.take k)) by omega, show us + (2 * l.length + 1) + costL (r.take k) = us + (2 * l.length + 1 + costL (r.take k)) by omega, show nx + 1 + k = nx + (k + 1) by omega]
      exact h4) (by simpa using hf)
    rw [ofM, if_pos (show nx ≤ 4611686018427387904 from h1), h2]
    dsimp only
    rw [ih]
    simp only [numb, List.cons_append, List.length_cons, costL_cons, reduceCtorEq, if_false, List.cons.injEq, true_and]
    congr 2
    · omega
    · omega
    · omega
    · by_cases hr : r = []
      · subst hr; simp [costL]
      · rw [if_neg hr, Nat.mod_add_mod]; congr 1; omega
end
/-! ### Batches laid side by side -/
def flatR (e s : Nat) : List (List PatD) → List (List UInt8)
  | [] => []
  | l :: r => rowsP e s l ++ flatR e (s + 1) r
theorem flatR_length (e : Nat) : ∀ (ls : List (List PatD)) (s : Nat), (flatR e s ls).length = costL ls
  | [], _ => rfl
  | l :: r, s => by rw [flatR, List.length_append, rowsP_length, flatR_length e r, costL_cons]
theorem flatR_append (e : Nat) : ∀ (a b : List (List PatD)) (s : Nat), flatR e s (a ++ b) = flatR e s a ++ flatR e (s + a.length) b
  | [], b, s => rfl
  | l :: r, b, s => by
    simp only [List.cons_append, flatR, flatR_append e r, List.append_assoc, List.length_cons]
    rw [show s + 1 + r.length = s + (r.length + 1) by omega]
theorem flatR_get (e : Nat) (ls : List (List PatD)) (s k j : Nat) (h : k < ls.length) (hj : j < 2 * ls[k].length + 1) : (flatR e s ls)[costL (ls.take k) + j]? = (rowsP e (s + k) ls[k])[j]? := by
  have e1 : ls = ls.take k ++ ls[k] :: ls.drop (k + 1) := by rw [← List.drop_eq_getElem_cons h, List.take_append_drop]
  have e2 : flatR e s ls = flatR e s (ls.take k) ++ (rowsP e (s + k) ls[k] ++ flatR e (s + k + 1) (ls.drop (k + 1))) := by
    conv => lhs; rw [e1]
    rw [flatR_append, flatR, List.length_take, Nat.min_eq_left (by omega)]
  rw [e2, List.getElem?_append_right (by rw [flatR_length]; omega), flatR_length, show costL (ls.take k) + j - costL (ls.take k) = j by omega, List.getElem?_append_left (by rw [rowsP_length]; exact hj)]
theorem costL_take_le (ls : List (List PatD)) (k : Nat) (h : k < ls.length) : costL (ls.take k) + (2 * ls[k].length + 1) ≤ costL ls := by
  have e1 : ls = ls.take k ++ ls[k] :: ls.drop (k + 1) := by rw [← List.drop_eq_getElem_cons h, List.take_append_drop]
  have : costL ls = costL (ls.take k) + ((2 * ls[k].length + 1) + costL (ls.drop (k + 1))) := by
    conv => lhs; rw [e1]
    rw [costL_append, costL_cons]
  omega
/-- All of them fine, by their numbers. -/
def FineL (e s : Nat) (ls : List (List PatD)) : Prop := ∀ (k : Nat) (h : k < ls.length), Fine e (s + k) ls[k]
/-- WHAT IS LAID IS FOUND. -/
theorem laid_found {sec : SecF} {size e s at_ : Nat} {ls : List (List PatD)} (hf : FineL e s ls) (hc : costL ls ≤ size) (hs : ∀ j, j < costL ls → (flatR e s ls)[j]? = some (sec ((at_ + j) % size))) :
    ∀ (k : Nat) (h : k < ls.length), s + k ≤ mostC ∧ batM (rotF sec size (at_ + costL (ls.take k))) (size - (0 + costL (ls.take k))) e (s + k) = some ls[k] := by
  intro k h
  have hk := hf k h
  have hle := costL_take_le ls k h
  refine ⟨hk.cnt.2.2, (bat_iff _ _ _ _ _).2 ⟨hk, by omega, fun j hj => ?_⟩⟩
  rw [← flatR_get e ls s k j h hj, hs _ (by omega)]
  unfold rotF
  rw [Nat.add_assoc]
theorem of_laid {sec : SecF} {size e s at_ f : Nat} {ls : List (List PatD)} (hf : FineL e s ls) (hc : costL ls ≤ size) (hs : ∀ j, j < costL ls → (flatR e s ls)[j]? = some (sec ((at_ + j) % size))) (hl : ls.length ≤ f) :
    ofM sec size e f s 0 at_ = numb s ls ++ ofM sec size e (f - ls.length) (s + ls.length) (costL ls) (if ls = [] then at_ else (at_ + costL ls) % size) := by
  have := of_prefix ls f s 0 at_ (laid_found hf hc hs) hl
  rwa [Nat.zero_add] at this
theorem costL_len : ∀ (ls : List (List PatD)), ls.length ≤ costL ls
  | [] => Nat.le_refl _
  | l :: r => by have := costL_len r; rw [costL_cons, List.length_cons]; omega
/-- Where nothing counts, nothing more is found. -/
theorem of_none {sec : SecF} {size e f nx us hd : Nat} (h : batM (rotF sec size hd) (size - us) e nx = none) : ofM sec size e f nx us hd = [] := by
  cases f with
  | zero => rfl
  | succ f => unfold ofM; split
              · rw [h]
              · rfl
/-- A place that does not begin a batch. -/
theorem bat_no {sec : SecF} {room e s : Nat} (h : (HdrD.dec (sec 0)).1 ≠ 0) : batM sec room e s = none := by
  unfold batM; rw [if_neg (fun q => h q.1)]
theorem bat_head {sec : SecF} {room e s : Nat} {l : List PatD} (h : batM sec room e s = some l) : (HdrD.dec (sec 0)).1 = 0 ∧ (HdrD.dec (sec 0)).2.epoch = e ∧ (HdrD.dec (sec 0)).2.seq = s := by
  obtain ⟨h1, h2, h3⟩ := (bat_iff _ _ _ _ _).1 h
  have h4 := h3 0 (by omega)
  have hn := h1.n1
  have h5 := rowsP_even (e := e) (s := s) (l := l) (i := 0) (by omega)
  rw [Nat.mul_zero] at h5
  rw [h5] at h4
  injection h4 with h4
  rw [← h4, headP_dec h1 (by omega)]
  exact ⟨rfl, rfl, rfl⟩
theorem bat_other {sec : SecF} {room e s e' s' : Nat} {l : List PatD} {room' : Nat} (h : batM sec room e s = some l) (hne : e' ≠ e ∨ s' ≠ s) : batM sec room' e' s' = none := by
  cases h2 : batM sec room' e' s' with
  | none => rfl
  | some l' =>
    have a := bat_head h
    have b := bat_head h2
    omega
theorem kind_nought {b : List UInt8} (h : b.take 4 ≠ magicL) (k : UInt8) (hk : k ≠ 0) : looksM b k ≠ 0 := by
  unfold looksM
  split
  · decide
  · have : kindB b = 0 := by unfold kindB; rw [if_neg (fun q => h q.2.1)]
    rw [this, if_pos (fun q => hk q.symm)]; decide
theorem dec_nought {b : List UInt8} (h : b.take 4 ≠ magicL) : (HdrD.dec b).1 ≠ 0 ∧ (CmtD.dec b).1 ≠ 0 := by
  constructor
  · intro q; exact kind_nought h 1 (by decide) (hdr_decO q).1
  · intro q; exact kind_nought h 2 (by decide) (cmt_decO q).1
/-- ONE SECTOR HURT: the batch that it stands in counts no more (but where a sector of data can't be told by its sum). -/
theorem hurt_none {sec was : SecF} {room room' e s : Nat} {l : List PatD} {j : Nat} {z : List UInt8} (h : batM sec room e s = some l) (hj : j < 2 * l.length + 1) (hz : z.take 4 ≠ magicL) (hw : was j = z) (hk : ∀ i, i < 2 * l.length + 1 → i ≠ j → was i = sec i)
    (hu : (crcS (sec j)).toNat ≠ (crcS z).toNat) : batM was room' e s = none := by
  cases h2 : batM was room' e s with
  | none => rfl
  | some l' =>
    exfalso
    obtain ⟨f1, _, r1⟩ := (bat_iff _ _ _ _ _).1 h
    obtain ⟨f2, _, r2⟩ := (bat_iff _ _ _ _ _).1 h2
    have n1 := f1.n1
    have n2 := f2.n1
    have head : ∀ {x : Nat} {m : List PatD} {q : SecF} (f : Fine e s m) (r : ∀ j, j < 2 * m.length + 1 → (rowsP e s m)[j]? = some (q j)) (hx : x < m.length), HdrD.dec (q (2 * x)) = (0, hdrP e s m.length x m[x]) := by
      intro x m q f r hx
      have := r (2 * x) (by omega)
      rw [rowsP_even hx] at this
      injection this with this
      rw [← this, headP_dec f hx]
    by_cases h0 : j = 0
    · subst h0
      have := head f2 r2 (x := 0) (by omega)
      rw [Nat.mul_zero, hw] at this
      exact (dec_nought hz).1 (by rw [this])
    · have a1 := head f1 r1 (x := 0) (by omega)
      have a2 := head f2 r2 (x := 0) (by omega)
      rw [Nat.mul_zero] at a1 a2
      rw [hk 0 (by omega) (fun q => h0 q.symm), a1] at a2
      have hlen : l.length = l'.length := by
        injection a2 with _ a2
        have : ((l.length : Nat) : Int) = (l'.length : Nat) := congrArg HdrD.count a2
        omega
      rcases Nat.mod_two_eq_zero_or_one j with hp | hp
      · obtain ⟨x, rfl⟩ : ∃ x, j = 2 * x := ⟨j / 2, by omega⟩
        by_cases hx : x < l'.length
        · have := head f2 r2 hx
          rw [hw] at this
          exact (dec_nought hz).1 (by rw [this])
        · have hx2 : x = l'.length := by omega
          subst hx2
          have := r2 (2 * l'.length) (by omega)
          rw [rowsP_last] at this
          injection this with this
          rw [hw] at this
          exact (dec_nought hz).2 (by rw [← this, cmtP_dec f2])
      · obtain ⟨x, rfl⟩ : ∃ x, j = 2 * x + 1 := ⟨j / 2, by omega⟩
        have hx : x < l.length := by omega
        have hx' : x < l'.length := by omega
        have b1 := head f1 r1 hx
        have b2 := head f2 r2 hx'
        rw [hk (2 * x) (by omega) (by omega), b1] at b2
        injection b2 with _ b2
        have hs : (crcS (escM l[x].data)).toNat = (crcS (escM l'[x].data)).toNat := congrArg HdrD.sum b2
        have c1 := r1 (2 * x + 1) (by omega)
        have c2 := r2 (2 * x + 1) (by omega)
        rw [rowsP_odd hx] at c1
        rw [rowsP_odd hx'] at c2
        injection c1 with c1; injection c2 with c2
        rw [hw] at c2
        rw [c1, c2] at hs
        exact hu hs
/-! ### A ring as bytes -/
def secB (ring : List UInt8) : SecF := fun k => (ring.drop (128 * k)).take 128
structure FndD where
  txns : List (Nat × List PatD)
  next : Nat
  head : Nat
  used : Nat
def foundM (ring : List UInt8) (c : ChkD) : Int × FndD :=
  if c.enc.1 ≠ 0 ∨ ring.length % 128 ≠ 0 ∨ ring.length / 128 < 5 ∨ 2048 < ring.length / 128 ∨ ((ring.length / 128 : Nat) : Int) ≤ c.tail then (1, ⟨[], 0, 0, 0⟩) else
  let ts := ofM (secB ring) (ring.length / 128) c.epoch (ring.length / 128 + 1) c.seq 0 c.tail.toNat
  (0, ⟨ts, c.seq + ts.length, (c.tail.toNat + costT ts) % (ring.length / 128), costT ts⟩)
theorem secB_len {ring : List UInt8} {k n : Nat} (h : ring.length = 128 * n) (hk : k < n) : (secB ring k).length = 128 := by
  unfold secB; rw [List.length_take, List.length_drop]; omega
/-- A sector laid in. -/
def putS (b : List UInt8) (k : Nat) (r : List UInt8) : List UInt8 := b.take (128 * k) ++ r ++ b.drop (128 * k + 128)
theorem putS_length {b r : List UInt8} {k n : Nat} (h : b.length = 128 * n) (hk : k < n) (hr : r.length = 128) : (putS b k r).length = 128 * n := by
  unfold putS; simp only [List.length_append, List.length_take, List.length_drop]; omega
theorem sec_put {b r : List UInt8} {k n : Nat} (h : b.length = 128 * n) (hk : k < n) (hr : r.length = 128) (j : Nat) : secB (putS b k r) j = if j = k then r else secB b j := by
  have hl : (b.take (128 * k)).length = 128 * k := by rw [List.length_take]; omega
  unfold secB putS
  by_cases e : j = k
  · subst e
    rw [if_pos rfl, List.append_assoc, List.drop_left' hl, List.take_left' hr]
  · rw [if_neg e]
    apply List.ext_getElem?
    intro i
    by_cases hi : i < 128
    · rw [List.getElem?_take, if_pos hi, List.getElem?_take, if_pos hi, List.getElem?_drop, List.getElem?_drop]
      rcases Nat.lt_or_ge j k with h1 | h1
      · rw [List.append_assoc, List.getElem?_append_left (by omega), List.getElem?_take, if_pos (by omega)]
      · rw [List.getElem?_append_right (by rw [List.length_append, hl, hr]; omega), List.length_append, hl, hr, List.getElem?_drop]
        congr 1; omega
    · rw [List.getElem?_take, if_neg hi, List.getElem?_take, if_neg hi]
/-- The first so many sectors laid in, from a place on. -/
def laidN (ring : List UInt8) (at_ : Nat) (rows : List (List UInt8)) : Nat → List UInt8
  | 0 => ring
  | i + 1 => match rows[i]? with
    | none => laidN ring at_ rows i
    | some r => putS (laidN ring at_ rows i) ((at_ + i) % (ring.length / 128)) r
theorem laidN_length {ring : List UInt8} {at_ n : Nat} {rows : List (List UInt8)} (h : ring.length = 128 * n) (hn : 0 < n) (hr : ∀ r ∈ rows, r.length = 128) : ∀ i, (laidN ring at_ rows i).length = 128 * n
  | 0 => h
  | i + 1 => by
    unfold laidN
    split
    · exact laidN_length h hn hr i
    · rename_i r hi
      have e : ring.length / 128 = n := by omega
      exact putS_length (laidN_length h hn hr i) (by rw [e]; exact Nat.mod_lt _ hn) (hr r (List.mem_of_getElem? hi))
theorem mod_inj {a i j n : Nat} (hi : i < n) (hj : j < n) (h : (a + i) % n = (a + j) % n) : i = j := by
  have h1 := Nat.mod_add_div (a + i) n
  have h2 := Nat.mod_add_div (a + j) n
  rw [h] at h1
  generalize (a + i) / n = x at *
  generalize (a + j) / n = y at *
  rcases Nat.lt_trichotomy x y with hxy | hxy | hxy
  · have : n * x + n ≤ n * y := by rw [← Nat.mul_succ]; exact Nat.mul_le_mul_left _ hxy
    omega
  · subst hxy; omega
  · have : n * y + n ≤ n * x := by rw [← Nat.mul_succ]; exact Nat.mul_le_mul_left _ hxy
    omega
theorem sec_laid {ring : List UInt8} {at_ n : Nat} {rows : List (List UInt8)} (h : ring.length = 128 * n) (hn : 0 < n) (hr : ∀ r ∈ rows, r.length = 128) (hc : rows.length ≤ n) : ∀ i, i ≤ rows.length →
    (∀ j, j < i → some (secB (laidN ring at_ rows i) ((at_ + j) % n)) = rows[j]?) ∧ (∀ j, i ≤ j → j < n → secB (laidN ring at_ rows i) ((at_ + j) % n) = secB ring ((at_ + j) % n))
  | 0, _ => ⟨fun j hj => absurd hj (by omega), fun _ _ _ => rfl⟩
  | i + 1, hi => by
    obtain ⟨h1, h2⟩ := sec_laid h hn hr hc i (by omega)
    have e : ring.length / 128 = n := by omega
    have hget : rows[i]? = some rows[i] := List.getElem?_eq_getElem (by omega)
    have hun : laidN ring at_ rows (i + 1) = putS (laidN ring at_ rows i) ((at_ + i) % n) rows[i] := by
      rw [laidN, hget, e]
    have hs := sec_put (laidN_length (at_ := at_) h hn hr i) (Nat.mod_lt (at_ + i) hn) (hr rows[i] (List.getElem_mem _))
    rw [hun]
    constructor
    · intro j hj
      rw [hs]
      by_cases q : j = i
      · subst q; rw [if_pos rfl, hget]
      · rw [if_neg (fun z => q (mod_inj (by omega) (by omega) z))]; exact h1 j (by omega)
    · intro j hj hjn
      rw [hs, if_neg (fun z => by have := mod_inj (by omega) (by omega) z; omega)]
      exact h2 j (by omega) hjn
end Go.Proofs.Ytlojjlbngnaphaa
