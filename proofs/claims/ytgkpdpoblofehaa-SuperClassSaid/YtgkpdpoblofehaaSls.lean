/- The engine: strings: conversions from and to bytes, comparisons, copy from a string. Generic: no program is named. -/
import Derived.Test.YtgkpdpoblofehaaSlq
import Derived.Lib.ConvBytes
import Derived.Laws.IdiomStrings
set_option maxRecDepth 8000
set_option linter.unusedVariables false
set_option linter.unusedSimpArgs false
set_option linter.unusedSectionVars false
namespace Go.Sl
open Go Go.RowKit
section
variable {W : World} {P : Program} {n : Nat} {c : Code} {Q : Exit → Act → World → Prop} {H : List SProp} {f : Fr} {C : SProp → List SProp}
variable {N : List SProp → Fr → Prop} {dst : Option Tmp} {d : Nat} {ty_ : TypeId} {pos : String} {after : Array Edge} {guard : Option (Nat × Bool)}

/-- A text, as its bytes. -/
def strV (l : List UInt8) : Value := .string ⟨l.toArray⟩
theorem PureAt.toStr {T : TabData} {x : Operand} {s t e k : TypeId} {ao : Option Addr} {cap m : Nat} {l : List UInt8} {xs : List Value} (hT : T.ok P = true) (hx : evalX f x = some (.slice ao m cap)) (hs : assoc T.sls s = some e) (he : assoc T.ints e = some .u8) (ht : assoc T.descs t = some (2, k))
    (hr : Rds W H 1 ao m xs) (hxs : xs = l.map fun (c : UInt8) => Value.int .u8 (c.toNat : Int)) : PureAt W P n H f { dst, op := .convert s t x, type := ty_, pos, after, guard } (strV l) := by
  unfold PureAt
  intro tm w hk hw
  subst hxs
  have hm : l.length = m := by have := hr.len; simpa using this
  subst hm
  unfold execOp
  cases ao with
  | none =>
    have h0 := hr.nil rfl
    obtain rfl : l = [] := List.eq_nil_of_length_eq_zero h0
    simp [hk.eval hx, Go.convert, run_underlying (T.slice_ok hT hs), run_underlying (T.int_ok hT he), run_underlying (T.string_ok hT ht), Conv.bytesToString, strV]
    rfl
  | some a =>
    have := run_convert_bytes_back (P := P) w s t e a cap l (T.slice_ok hT hs) (T.int_ok hT he) (T.string_ok hT ht) (fun j hj => hr.cell w hw a rfl j _ (by simp [hj]))
    simp only [hk.eval hx, Sem.run_bind, this, Result.andThen_ok, Sem.run_pure]
    rfl
theorem bytearr_eq {a b : List UInt8} : (⟨a.toArray⟩ : ByteArray) = ⟨b.toArray⟩ ↔ a = b := by
  constructor
  · intro h; injection h with h; simpa using h
  · intro h; rw [h]
theorem PureAt.strEq {T : TabData} {op : BinOp} {x y : Operand} {s u e : TypeId} {a b : List UInt8} {v : Value} (hT : T.ok P = true) (hx : evalX f x = some (strV a)) (hy : evalX f y = some (strV b)) (hs : assoc T.descs s = some (2, e)) (hv : eqB op (decide (a = b)) = some v) :
    PureAt W P n H f { dst, op := .binOp op s x y u, type := ty_, pos, after, guard } v := by
  unfold PureAt
  intro tm w hk _
  have key : ∀ o, (o = .eql ∨ o = .neq) → eqB o (decide (a = b)) = some v → (Op.stringOp o ⟨a.toArray⟩ ⟨b.toArray⟩).run P w = .ok v w := by
    have hd : (a == b) = decide (a = b) := by rw [Bool.eq_iff_iff]; simp
    have hl : ∀ c : List UInt8, (⟨c.toArray⟩ : ByteArray).toList = c := fun c => by simp [ByteArray.toList_eq]
    rintro o (rfl | rfl) h
    · simp only [eqB, Option.some.injEq] at h; subst h
      simp [Op.stringOp, hl, hd]
    · simp only [eqB, Option.some.injEq] at h; subst h
      simp [Op.stringOp, hl, hd]
  have ho : op = .eql ∨ op = .neq := by cases op <;> simp [eqB] at hv <;> simp
  have := key op ho hv
  unfold execOp
  rcases ho with rfl | rfl
  · simp only [hk.eval hx, hk.eval hy, strV] at this ⊢
    simp [eqGuard, binOp, this]
  · simp only [hk.eval hx, hk.eval hy, strV] at this ⊢
    simp [eqGuard, binOp, this]

/-- The bytes of a text, room behind them that is marked. -/
def MRow (b : Nat) (e : TypeId) (xs : List Value) : SProp := fun h => ∃ spare, At b (.cells (xs ++ spare).toArray e ((xs ++ spare).length, (xs ++ spare).length + 1)) h
theorem Rds.mrow {b : Nat} {e : TypeId} {xs : List Value} {m : Nat} (h1 : ∀ u ∈ xs, u.oneCell' = true) (hm : MRow b e xs ∈ H) (hl : xs.length = m) : Rds W H 1 (some ⟨b, 0, none⟩) m xs := by
  refine ⟨by omega, h1, fun h => (by cases h), fun w hw a ha j u hj => ?_⟩
  cases ha
  obtain ⟨R, p⟩ := mem_perm hm
  obtain ⟨h, ⟨spare, d⟩, own, -⟩ := (hw.perm p).open
  have := (own b _ d).2
  have e2 : (⟨b, 0, none⟩ : Addr).add j = ⟨b, j, none⟩ := by unfold Addr.add; split <;> simp_all
  rw [e2]
  simp only [World.cell?, this]
  simp [List.getElem?_append_left (List.getElem?_eq_some_iff.1 hj).1, hj]
theorem OpV.ofStr {T : TabData} {x : Operand} {s t e k : TypeId} {l : List UInt8} (hT : T.ok P = true) (hx : evalX f x = some (strV l)) (hs : assoc T.descs s = some (2, k)) (ht : assoc T.sls t = some e) (he : assoc T.ints e = some .u8) (hd : Nat.blt d n = true)
    (h : ∀ b cap, N (MRow b e (l.map fun (c : UInt8) => Value.int .u8 (c.toNat : Int)) :: H) ((d, .slice (some ⟨b, 0, none⟩) l.length cap) :: f)) :
    OpV W P n { dst := some d, op := .convert s t x, type := ty_, pos, after, guard } Q H f N := by
  refine OpV.run (α := Nat × Nat) (v := fun y => .slice (some ⟨y.1, 0, none⟩) l.length y.2) (G := fun y => MRow y.1 e (l.map fun (c : UInt8) => Value.int .u8 (c.toNat : Int)) :: H) hd (fun tm w hk hw => ⟨(w.heap.size, grownCap w l.length 0 e), Lib.bytesWorld w e ⟨l.toArray⟩, ?_, ?_⟩) (fun y => h y.1 y.2)
  · have := Lib.run_convert_string_bytes (P := P) w s t e ⟨l.toArray⟩ (T.string_ok hT hs) (T.slice_ok hT ht) (T.int_ok hT he)
    unfold execOp
    simp only [hk.eval hx, strV, Sem.run_bind, this, Result.andThen_ok, Sem.run_pure]
    rfl
  · have hdr := hw.drew
    have e3 : Lib.bytesCells w e ⟨l.toArray⟩ = ((l.map fun (c : UInt8) => Value.int .u8 (c.toNat : Int)) ++ List.replicate (grownCap w l.length 0 e - l.length) (Value.int .u8 0)).toArray := by
      unfold Lib.bytesCells
      apply Array.ext'
      simp
      rfl
    refine hw.new _ _ (fun k => if k = w.heap.size then some (.cells (Lib.bytesCells w e ⟨l.toArray⟩) e ((Lib.bytesCells w e ⟨l.toArray⟩).size, (Lib.bytesCells w e ⟨l.toArray⟩).size + 1)) else none) ?_ rfl ?_ rfl ?_ (fun k hk => Lib.bytesWorld_at_old w e _ k hk) ?_
    · refine ⟨List.replicate (grownCap w l.length 0 e - l.length) (.int .u8 0), ?_⟩
      show (if w.heap.size = w.heap.size then _ else _) = _
      rw [if_pos rfl, e3]
      simp
    · rfl
    · rw [Lib.bytesWorld_size]; omega
    · intro k o hk
      split at hk
      · rename_i e4; subst e4; cases hk
        exact ⟨Lib.bytesWorld_at_new w e _, Nat.le_refl _⟩
      · cases hk
end
end Go.Sl
