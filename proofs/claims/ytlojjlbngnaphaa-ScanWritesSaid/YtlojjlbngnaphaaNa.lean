/- Lists that lead to lists: rows of bytes, patches, batches: what they are in memory. -/
import Derived.Test.YtlojjlbngnaphaaLe
set_option maxRecDepth 8000
set_option linter.unusedVariables false
set_option linter.unusedSimpArgs false
set_option linter.unusedSectionVars false
namespace Go.Sl
open Go Go.RowKit
section
variable {W w : World} {H R L M : List SProp} {α : Type} {res : α → SProp}
/-- What many things have, as one resource. -/
def pile (res : α → SProp) (l : List α) : SProp := star (l.map res)
theorem pile_nil (h : Holds W R w) : Holds W (pile res [] :: R) w := h.nest (L := [])
theorem pile_push {l : List α} {a : α} (h : Holds W (res a :: pile res l :: R) w) : Holds W (pile res (l ++ [a]) :: R) w := by
  have h2 := (h.swap).join
  refine Holds.nest ?_
  rw [List.map_append]
  refine h2.perm ?_
  simp
theorem pile_join {l m : List α} (h : Holds W (pile res l :: pile res m :: R) w) : Holds W (pile res (l ++ m) :: R) w := by
  have h2 := (h.join).perm List.perm_append_comm
  have h3 : Holds W (pile res m :: (R ++ l.map res)) w := h2
  have h4 := h3.join
  refine Holds.nest ?_
  rw [List.map_append]
  refine h4.perm ?_
  rw [List.append_assoc]
  refine (List.perm_append_comm (l₁ := m.map res)).trans ?_
  rw [List.append_assoc]
  refine (List.perm_append_comm (l₁ := R)).trans ?_
  rw [List.append_assoc]
theorem pile_split {l m : List α} (h : Holds W (pile res (l ++ m) :: R) w) : Holds W (pile res l :: pile res m :: R) w := by
  have h2 := h.join
  rw [List.map_append, List.append_assoc] at h2
  have h3 : Holds W (pile res l :: (m.map res ++ R)) w := h2.nest
  have h4 : Holds W (m.map res ++ (R ++ [pile res l])) w := h3.perm (by
    refine (List.perm_append_comm (l₁ := [pile res l]) (l₂ := m.map res ++ R)).trans ?_
    rw [List.append_assoc])
  have h5 : Holds W (pile res m :: (R ++ [pile res l])) w := h4.nest
  exact h5.perm (by
    refine (List.perm_append_comm (l₁ := pile res m :: R) (l₂ := [pile res l])))
theorem pile_out {l : List α} {i : Nat} (hi : i < l.length) (h : Holds W (pile res l :: R) w) : Holds W (res l[i] :: pile res (l.eraseIdx i) :: R) w := by
  have h2 := h.join
  have e : List.Perm l (l[i] :: l.eraseIdx i) := by
    rw [List.eraseIdx_eq_take_drop_succ]
    have : l = l.take i ++ l[i] :: l.drop (i + 1) := by rw [← List.drop_eq_getElem_cons hi, List.take_append_drop]
    exact (List.Perm.of_eq this).trans List.perm_middle
  have h3 : Holds W (res l[i] :: ((l.eraseIdx i).map res ++ R)) w := h2.perm (by simpa using ((e.map res).append_right R))
  have h4 : Holds W ((l.eraseIdx i).map res ++ (R ++ [res l[i]])) w := h3.perm (by
    refine (List.perm_append_comm (l₁ := [res l[i]]) (l₂ := (l.eraseIdx i).map res ++ R)).trans ?_
    rw [List.append_assoc])
  have h5 : Holds W (pile res (l.eraseIdx i) :: (R ++ [res l[i]])) w := h4.nest
  exact h5.perm (List.perm_append_comm (l₁ := pile res (l.eraseIdx i) :: R) (l₂ := [res l[i]]))
/-- What lies within a group of resources is read. -/
theorem Rds.star {sz k : Nat} {ao : Option Addr} {xs : List Value} (m : Sl.star L ∈ H) (h : ∀ R, Rds W (L ++ R) sz ao k xs) : Rds W H sz ao k xs := by
  have h0 := h []
  refine ⟨h0.len, h0.one, h0.nil, fun w hw => ?_⟩
  obtain ⟨R, p⟩ := mem_perm m
  exact (h R).cell w (hw.perm p).join
theorem Rds.pile {sz k : Nat} {ao : Option Addr} {xs : List Value} {l : List α} {a : α} (m : Sl.pile res l ∈ H) (ha : a ∈ l) (h : ∀ R, res a ∈ R → Rds W R sz ao k xs) : Rds W H sz ao k xs :=
  Rds.star (L := l.map res) m (fun R => h _ (List.mem_append_left _ (List.mem_map_of_mem ha)))
end
end Go.Sl
namespace Go.Proofs.Ytlojjlbngnaphaa
open Go.RowKit Go.Sl
attribute [local irreducible] Own

/-! ### Rows of bytes -/
structure RowE where
  ao : Option Addr
  cap : Nat
  data : List UInt8
abbrev RowE.hdr (e : RowE) : Value := .slice e.ao e.data.length e.cap
def RowE.res (e : RowE) : SProp := Own 5 1 (.slice e.ao e.data.length e.cap) e.data.length (bytes e.data)
structure RowE.ok (e : RowE) : Prop where
  nil : e.ao = none → e.data.length = 0
  cap : e.data.length ≤ e.cap
theorem rowhdr_one (l : List RowE) : ∀ u ∈ l.map RowE.hdr, u.oneCell' = true := by
  intro u hu; obtain ⟨e, _, rfl⟩ := List.mem_map.1 hu; rfl
theorem RowE.rds {W : World} {H : List SProp} {e : RowE} (h : e.ok) (m : e.res ∈ H) : Rds W H 1 e.ao e.data.length (bytes e.data) := Rds.own (bytes_one _) m (by simp) h.nil
theorem RowE.know {W w : World} {R : List SProp} {e : RowE} (h : Holds W (e.res :: R) w) : e.ok := ⟨h.ownNone (.head _), h.ownCap (.head _)⟩
/-- Rows that can be read. -/
structure RdRows (W : World) (R : List SProp) (ao : Option Addr) (l : List RowE) : Prop where
  rds : Rds W R 1 ao l.length (l.map RowE.hdr)
  each : ∀ e ∈ l, Rds W R 1 e.ao e.data.length (bytes e.data)
  ok : ∀ e ∈ l, e.ok
abbrev RowsO (x : Option Addr × Nat) (l : List RowE) : SProp := Own 55 1 (.slice x.1 l.length x.2) l.length (l.map RowE.hdr)
abbrev PilR (l : List RowE) : SProp := pile RowE.res l
theorem RdRows.own {W : World} {H : List SProp} {x : Option Addr × Nat} {l : List RowE} (hn : x.1 = none → l.length = 0) (hok : ∀ e ∈ l, e.ok) (m1 : RowsO x l ∈ H) (m2 : PilR l ∈ H) : RdRows W H x.1 l :=
  ⟨Rds.own (rowhdr_one l) m1 (by simp) hn, fun e he => Rds.pile m2 he (fun R hR => RowE.rds (hok e he) hR), hok⟩
theorem RdRows.ent {W : World} {H R : List SProp} {ao : Option Addr} {l : List RowE} (h : RdRows W R ao l) (e : Ent W H R) : RdRows W H ao l := ⟨h.rds.ent e, fun x hx => (h.each x hx).ent e, h.ok⟩
theorem PilR.know {W w : World} {R : List SProp} {l : List RowE} (h : Holds W (PilR l :: R) w) : ∀ e ∈ l, e.ok := by
  intro e he
  obtain ⟨i, hi, rfl⟩ := List.mem_iff_getElem.1 he
  exact RowE.know (pile_out hi h)
/-! ### Patches -/
structure PatE where
  member : Int
  row : Int
  d : RowE
abbrev PatE.cells (p : PatE) : List Value := [.int .i64 p.member, .int .i64 p.row, p.d.hdr]
def patCells (l : List PatE) : List Value := l.flatMap PatE.cells
def PatE.res (p : PatE) : SProp := p.d.res
theorem pat_one (p : PatE) : ∀ u ∈ p.cells, u.oneCell' = true := by simp [Value.oneCell']
theorem pats_one (l : List PatE) : ∀ u ∈ patCells l, u.oneCell' = true := by
  intro u hu; obtain ⟨p, _, h⟩ := List.mem_flatMap.1 hu; exact pat_one p u h
theorem pats_len (l : List PatE) : (patCells l).length = l.length * 3 := flat_length l (fun _ _ => rfl)
theorem pat_get (l : List PatE) (j i : Nat) (h : j < l.length) (hi : i < 3) : (patCells l)[j * 3 + i]? = (l[j].cells)[i]? := flat_at l j i h (fun _ _ => rfl) hi
theorem pat_at (l : List PatE) (j : Nat) (h : j < l.length) : ((patCells l).drop (j * 3)).take 3 = l[j].cells := flat_part l j h (fun _ _ => rfl)
structure RdPats (W : World) (R : List SProp) (ao : Option Addr) (l : List PatE) : Prop where
  rds : Rds W R 3 ao l.length (patCells l)
  each : ∀ p ∈ l, Rds W R 1 p.d.ao p.d.data.length (bytes p.d.data)
  ok : ∀ p ∈ l, p.d.ok
abbrev PatsO (x : Option Addr × Nat) (l : List PatE) : SProp := Own 78 3 (.slice x.1 l.length x.2) l.length (patCells l)
abbrev PilP (l : List PatE) : SProp := pile PatE.res l
theorem RdPats.own {W : World} {H : List SProp} {x : Option Addr × Nat} {l : List PatE} (hn : x.1 = none → l.length = 0) (hok : ∀ p ∈ l, p.d.ok) (m1 : PatsO x l ∈ H) (m2 : PilP l ∈ H) : RdPats W H x.1 l :=
  ⟨Rds.own (pats_one l) m1 (pats_len l) hn, fun p hp => Rds.pile m2 hp (fun R hR => RowE.rds (hok p hp) hR), hok⟩
theorem RdPats.ent {W : World} {H R : List SProp} {ao : Option Addr} {l : List PatE} (h : RdPats W R ao l) (e : Ent W H R) : RdPats W H ao l := ⟨h.rds.ent e, fun x hx => (h.each x hx).ent e, h.ok⟩
theorem PilP.know {W w : World} {R : List SProp} {l : List PatE} (h : Holds W (PilP l :: R) w) : ∀ p ∈ l, p.d.ok := by
  intro e he
  obtain ⟨i, hi, rfl⟩ := List.mem_iff_getElem.1 he
  exact RowE.know (pile_out hi h)
/-! ### Batches -/
structure TxnE where
  seq : Nat
  ao : Option Addr
  cap : Nat
  pats : List PatE
abbrev TxnE.cells (t : TxnE) : List Value := [.int .u64 t.seq, .slice t.ao t.pats.length t.cap]
def txnCells (l : List TxnE) : List Value := l.flatMap TxnE.cells
def TxnE.res (t : TxnE) : SProp := Sl.star [PatsO (t.ao, t.cap) t.pats, PilP t.pats]
structure TxnE.ok (t : TxnE) : Prop where
  nil : t.ao = none → t.pats.length = 0
  cap : t.pats.length ≤ t.cap
  each : ∀ p ∈ t.pats, p.d.ok
theorem txn_one (p : TxnE) : ∀ u ∈ p.cells, u.oneCell' = true := by simp [Value.oneCell']
theorem txns_one (l : List TxnE) : ∀ u ∈ txnCells l, u.oneCell' = true := by
  intro u hu; obtain ⟨p, _, h⟩ := List.mem_flatMap.1 hu; exact txn_one p u h
theorem txns_len (l : List TxnE) : (txnCells l).length = l.length * 2 := flat_length l (fun _ _ => rfl)
theorem txn_get (l : List TxnE) (j i : Nat) (h : j < l.length) (hi : i < 2) : (txnCells l)[j * 2 + i]? = (l[j].cells)[i]? := flat_at l j i h (fun _ _ => rfl) hi
structure RdTxns (W : World) (R : List SProp) (ao : Option Addr) (l : List TxnE) : Prop where
  rds : Rds W R 2 ao l.length (txnCells l)
  each : ∀ t ∈ l, RdPats W R t.ao t.pats
  ok : ∀ t ∈ l, t.ok
abbrev TxnsO (x : Option Addr × Nat) (l : List TxnE) : SProp := Own 25 2 (.slice x.1 l.length x.2) l.length (txnCells l)
abbrev PilT (l : List TxnE) : SProp := pile TxnE.res l
theorem TxnE.know {W w : World} {R : List SProp} {t : TxnE} (h : Holds W (t.res :: R) w) : t.ok := by
  have h2 : Holds W (PatsO (t.ao, t.cap) t.pats :: PilP t.pats :: R) w := h.join
  exact ⟨h2.ownNone (.head _), h2.ownCap (.head _), PilP.know h2.tail⟩
theorem PilT.know {W w : World} {R : List SProp} {l : List TxnE} (h : Holds W (PilT l :: R) w) : ∀ t ∈ l, t.ok := by
  intro e he
  obtain ⟨i, hi, rfl⟩ := List.mem_iff_getElem.1 he
  exact TxnE.know (pile_out hi h)
theorem TxnE.rd {W : World} {H : List SProp} {t : TxnE} (h : t.ok) (m : t.res ∈ H) : RdPats W H t.ao t.pats := by
  have q : ∀ R, RdPats W ([PatsO (t.ao, t.cap) t.pats, PilP t.pats] ++ R) t.ao t.pats := fun R => RdPats.own (x := (t.ao, t.cap)) h.nil h.each (by simp) (by simp)
  exact ⟨Rds.star m fun R => (q R).rds, fun p hp => Rds.star m fun R => (q R).each p hp, h.each⟩
theorem RdTxns.own {W : World} {H : List SProp} {x : Option Addr × Nat} {l : List TxnE} (hn : x.1 = none → l.length = 0) (hok : ∀ t ∈ l, t.ok) (m1 : TxnsO x l ∈ H) (m2 : PilT l ∈ H) : RdTxns W H x.1 l := by
  refine ⟨Rds.own (txns_one l) m1 (txns_len l) hn, fun t ht => ?_, hok⟩
  exact ⟨Rds.pile m2 ht (fun R hR => (TxnE.rd (hok t ht) hR).rds), fun p hp => Rds.pile m2 ht (fun R hR => (TxnE.rd (hok t ht) hR).each p hp), (hok t ht).each⟩
theorem RdTxns.ent {W : World} {H R : List SProp} {ao : Option Addr} {l : List TxnE} (h : RdTxns W R ao l) (e : Ent W H R) : RdTxns W H ao l := ⟨h.rds.ent e, fun x hx => (h.each x hx).ent e, h.ok⟩
/-- A batch that is put together. -/
theorem TxnE.shut {W w : World} {R : List SProp} (t : TxnE) (h : Holds W (PatsO (t.ao, t.cap) t.pats :: PilP t.pats :: R) w) : Holds W (t.res :: R) w := h.nest (L := [PatsO (t.ao, t.cap) t.pats, PilP t.pats])
end Go.Proofs.Ytlojjlbngnaphaa
