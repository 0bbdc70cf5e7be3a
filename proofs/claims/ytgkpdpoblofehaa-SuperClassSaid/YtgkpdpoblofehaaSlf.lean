/- The engine: stores of whole structs and arrays, stores into slices of ours. Generic: no program is named. -/
import Derived.Test.YtgkpdpoblofehaaSle
set_option maxRecDepth 8000
set_option linter.unusedVariables false
set_option linter.unusedSimpArgs false
set_option linter.unusedSectionVars false
namespace Go.Sl
open Go Go.RowKit
section
variable {W : World} {P : Program} {n : Nat} {c : Code} {Q : Exit → Act → World → Prop} {H H' L S : List SProp} {f F : Fr} {C : SProp → List SProp}
variable {N : List SProp → Fr → Prop} {dst : Option Tmp} {d : Nat} {ty_ : TypeId} {pos : String} {after : Array Edge} {guard : Option (Nat × Bool)}

theorem Holds.storeAny {t U : TypeId} {b off : Nat} {v : Value} {vs cs : List Value} {w : World} (hv : v.cells = vs.toArray) (h1 : ∀ u ∈ vs, u.oneCell' = true) (hS : ∀ w, (sizeOf t).run P w = .ok vs.length w)
    (hw : Holds W H w) (u : Hole H (Row b U cs) C) (ho : off + vs.length ≤ cs.length) :
    ∃ w', (storeVar t ⟨b, off, none⟩ v).run P w = .ok () w' ∧ Holds W (C (Row b U (cs.take off ++ vs ++ cs.drop (off + vs.length)))) w' := by
  obtain ⟨R, p, q⟩ := u.perm
  have hw1 := hw.perm p
  have hst := run_storeCells_cells (P := P) b off vs 0 w (fun j hj => by
      have hj' : off + 0 + j < cs.length := by omega
      rw [hw1.cell (.head _) (List.getElem?_eq_getElem hj')]; rfl) (fun j hj => hw1.free (.head _)) h1
  refine ⟨w.setCells b off vs, ?_, hw.setCells u ho⟩
  simp only [storeVar, Sem.run_bind, hS, Result.andThen_ok, hv, List.size_toArray, ne_eq, not_true_eq_false, if_false, List.toList_toArray]
  simpa [Sem.run, pure, Result.andThen] using hst

/-- A store of any size into a row of ours. -/
theorem OpV.storeV {t U : TypeId} {x y : Operand} {b off : Nat} {v : Value} {vs cs : List Value} (hx : evalX f x = some (.pointer (some ⟨b, off, none⟩))) (hy : evalX f y = some v) (hv : v.cells = vs.toArray) (h1 : ∀ u ∈ vs, u.oneCell' = true)
    (hS : ∀ w, (sizeOf t).run P w = .ok vs.length w) (u : Hole H (Row b U cs) C) (ho : off + vs.length ≤ cs.length) (h : N (C (Row b U (cs.take off ++ vs ++ cs.drop (off + vs.length)))) f) :
    OpV W P n { dst := none, op := .store t x y, type := ty_, pos, after, guard } Q H f N := by
  unfold OpV
  intro tm w hk hw K hK
  obtain ⟨w', hr, h2⟩ := Holds.storeAny hv h1 hS hw u ho
  unfold Oper.wp execOp
  simp only [hk.eval hx, hk.eval hy, Instr.storeAt, Instr.sureAddr, Sem.run_bind, Sem.run_pure, Result.andThen_ok, hr]
  exact hK _ _ h _ _ hk h2

/-- A store of a whole struct or array into a row of ours. -/
theorem OpV.stA {T : TabData} {t U sz : TypeId} {x y : Operand} {b off : Nat} {vs cs : List Value} (hT : T.ok P = true) (hx : evalX f x = some (.pointer (some ⟨b, off, none⟩))) (hy : evalX f y = some (.agg vs.toArray)) (hs : assoc T.aggs t = some sz) (hl : vs.length = sz) (h1 : ∀ u ∈ vs, u.oneCell' = true)
    (u : Hole H (Row b U cs) C) (ho : off + sz ≤ cs.length) (h : N (C (Row b U (cs.take off ++ vs ++ cs.drop (off + sz)))) f) :
    OpV W P n { dst := none, op := .store t x y, type := ty_, pos, after, guard } Q H f N := by
  subst hl
  exact OpV.storeV hx hy rfl h1 (T.agg_ok hT hs).2 u ho h

/-- A store of any size into a slice of ours. -/
theorem OpV.storeO {t e : TypeId} {x y : Operand} {a : Addr} {sz m cap j : Nat} {v : Value} {vs xs : List Value} (hx : evalX f x = some (.pointer (some (a.add j)))) (hy : evalX f y = some v) (hv : v.cells = vs.toArray) (h1 : ∀ u ∈ vs, u.oneCell' = true)
    (hS : ∀ w, (sizeOf t).run P w = .ok vs.length w) (u : Hole H (Own e sz (.slice (some a) m cap) m xs) C) (ho : j + vs.length ≤ xs.length) (h : N (C (Own e sz (.slice (some a) m cap) m (xs.take j ++ vs ++ xs.drop (j + vs.length)))) f) :
    OpV W P n { dst := none, op := .store t x y, type := ty_, pos, after, guard } Q H f N := by
  unfold OpV
  intro tm w hk hw K hK
  obtain ⟨R, p, q⟩ := u.perm
  obtain ⟨hl, hv'⟩ := (hw.perm p).ownOpen
  rcases hv' with ⟨he, rfl, hR⟩ | ⟨b, cap', spare, he, hn, hm, hc, hR⟩
  · cases he
  · cases he
    rw [Addr.add_lit, Nat.zero_add] at hx
    have hfit : j + vs.length ≤ (xs ++ spare).length := by rw [List.length_append]; omega
    obtain ⟨w', hr, h2⟩ := Holds.storeAny hv h1 hS hR .head hfit
    unfold Oper.wp execOp
    simp only [hk.eval hx, hk.eval hy, Instr.storeAt, Instr.sureAddr, Sem.run_bind, Sem.run_pure, Result.andThen_ok, hr]
    refine hK _ _ h _ _ hk (Holds.perm (q _) ?_)
    have e : (xs ++ spare).take j ++ vs ++ (xs ++ spare).drop (j + vs.length) = (xs.take j ++ vs ++ xs.drop (j + vs.length)) ++ spare := by
      rw [List.take_append_of_le_length (by omega), List.drop_append_of_le_length (by omega)]; simp
    rw [e] at h2
    refine Holds.ownShut ?_ hn hm ?_ h2
    · simp only [List.length_append, List.length_take, List.length_drop]; omega
    · rw [← hc]; simp only [List.length_append, List.length_take, List.length_drop]; omega

theorem set_take_drop {α : Type} (xs : List α) (j : Nat) (v : α) (h : j < xs.length) : xs.take j ++ [v] ++ xs.drop (j + 1) = xs.set j v := by
  rw [List.set_eq_take_append_cons_drop, if_pos h]; simp

/-- A store of one cell into a slice of ours. -/
theorem OpV.stO {T : TabData} {t e : TypeId} {x y : Operand} {a : Addr} {sz m cap j : Nat} {v : Value} {xs : List Value} (hT : T.ok P = true) (hx : evalX f x = some (.pointer (some (a.add j)))) (hy : evalX f y = some v) (hv : v.oneCell' = true) (hl : assoc T.leaf t = some ())
    (u : Hole H (Own e sz (.slice (some a) m cap) m xs) C) (ho : j < xs.length) (h : N (C (Own e sz (.slice (some a) m cap) m (xs.set j v))) f) :
    OpV W P n { dst := none, op := .store t x y, type := ty_, pos, after, guard } Q H f N :=
  OpV.storeO (vs := [v]) hx hy (cells_one hv) (by simpa using hv) (T.leaf_ok hT hl).2 u ho (by rw [List.length_singleton, set_take_drop _ _ _ ho]; exact h)
/-- A store of a whole struct or array into a slice of ours. -/
theorem OpV.stOA {T : TabData} {t e s : TypeId} {x y : Operand} {a : Addr} {sz m cap j : Nat} {vs xs : List Value} (hT : T.ok P = true) (hx : evalX f x = some (.pointer (some (a.add j)))) (hy : evalX f y = some (.agg vs.toArray)) (hs : assoc T.aggs t = some s) (hl : vs.length = s) (h1 : ∀ u ∈ vs, u.oneCell' = true)
    (u : Hole H (Own e sz (.slice (some a) m cap) m xs) C) (ho : j + s ≤ xs.length) (h : N (C (Own e sz (.slice (some a) m cap) m (xs.take j ++ vs ++ xs.drop (j + s)))) f) :
    OpV W P n { dst := none, op := .store t x y, type := ty_, pos, after, guard } Q H f N := by
  subst hl
  exact OpV.storeO hx hy rfl h1 (T.agg_ok hT hs).2 u ho h

/-- A struct of noughts. -/
theorem OpV.allocS {t : TypeId} {zs : List Value} {pls : List (Nat × Nat)} (sb : StructT P t zs pls) (hd : Nat.blt d n = true)
    (h : ∀ b, N (Row b t zs :: H) ((d, .pointer (some ⟨b, 0, none⟩)) :: f)) : OpV W P n { dst := some d, op := .alloc t, type := ty_, pos, after, guard } Q H f N :=
  OpV.alloc (z := .agg zs.toArray) sb.zero rfl hd h
end
end Go.Sl
