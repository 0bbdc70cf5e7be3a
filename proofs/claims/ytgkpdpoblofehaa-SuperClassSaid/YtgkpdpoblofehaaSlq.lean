/- The engine: clear of the tail of a slice of ours. Generic: no program is named. -/
import Derived.Test.YtgkpdpoblofehaaSlm
set_option maxRecDepth 8000
set_option linter.unusedVariables false
set_option linter.unusedSimpArgs false
set_option linter.unusedSectionVars false
namespace Go.Sl
open Go Go.RowKit
section
variable {W : World} {P : Program} {n : Nat} {Q : Exit → Act → World → Prop} {H : List SProp} {f : Fr} {C : SProp → List SProp}
variable {N : List SProp → Fr → Prop} {ty_ : TypeId} {pos : String} {after : Array Edge} {guard : Option (Nat × Bool)}

theorem zeroCells_one {z : Value} {k : Nat} (h1 : ∀ u ∈ z.cells.toList, u.oneCell' = true) : ∀ u ∈ (Builtin.zeroCells z.cells k).toList, u.oneCell' = true := by
  intro u hu
  simp only [Builtin.zeroCells, Array.toList_map, List.mem_map, Array.mem_toList_iff, Array.mem_range] at hu
  obtain ⟨i, hi, rfl⟩ := hu
  have hp : 0 < z.cells.size := by
    rcases Nat.eq_zero_or_pos z.cells.size with h | h
    · rw [h, Nat.mul_zero] at hi; omega
    · exact h
  have hlt : i % z.cells.size < z.cells.size := Nat.mod_lt _ hp
  rw [getElem!_pos z.cells _ hlt]
  exact h1 _ (by simp)

theorem OpV.clearOwn {s : Operand} {t e : TypeId} {z : Value} {sz by_ m cap lo : Nat} {ao : Option Addr} {xs : List Value} (st : SliceT P t e z sz by_) (hs : evalX f s = some (.slice (subA ao cap lo sz) (m - lo) (cap - lo)))
    (u : Hole H (Own e sz (.slice ao m cap) m xs) C) (hlo : lo ≤ m)
    (h : ∀ ys : List Value, ys.length = (m - lo) * sz → N (C (Own e sz (.slice ao m cap) m (xs.take (lo * sz) ++ ys))) f) :
    OpV W P n { dst := none, op := .call { callee := .builtin .clear, args := #[s], argTypes := #[t] }, type := ty_, pos, after, guard } Q H f N := by
  unfold OpV
  intro tm w hk hw K hK
  obtain ⟨R, p, q⟩ := u.perm
  obtain ⟨hl, hv⟩ := (hw.perm p).ownOpen
  by_cases hz : lo = m
  · subst hz
    have hc : ∀ a, (Builtin.clear_ #[t] ty_ #[.slice a (lo - lo) (cap - lo)]).run P w = .ok (.tuple #[]) w := by
      intro a
      rw [Nat.sub_self]
      cases a <;> simp [Builtin.clear_, Sem.run_bind, run_underlying st.und]
    have hN := h [] (by simp)
    rw [List.append_nil, List.take_of_length_le (by omega)] at hN
    unfold Oper.wp execOp
    simp only [resolve, invoke, builtin, Sem.run_bind, Sem.run_pure, Result.andThen_ok, List.map_toArray, List.map_cons, List.map_nil, hk.eval hs, hc]
    exact hK _ _ hN _ _ hk (Holds.perm (q _) (hw.perm p))
  · rcases hv with ⟨he, rfl, hR⟩ | ⟨b, cap', spare, he, hn, hm, hc, hR⟩
    · omega
    · cases he
      have e0 : subA (some (⟨b, 0, none⟩ : Addr)) cap lo sz = some ⟨b, lo * sz, none⟩ := by
        rw [subA_some (by omega), Addr.add_lit, Nat.zero_add]
      rw [e0] at hs
      obtain ⟨d, rfl⟩ : ∃ d, m = lo + (d + 1) := ⟨m - lo - 1, by omega⟩
      have e1 : lo + (d + 1) - lo = d + 1 := by omega
      rw [e1] at hs h
      have hzl : (Builtin.zeroCells z.cells (d + 1)).toList.length = (d + 1) * sz := by simp [Builtin.zeroCells, st.zs]
      have hadd : (lo + (d + 1)) * sz = lo * sz + (d + 1) * sz := Nat.add_mul _ _ _
      have hfit : lo * sz + (Builtin.zeroCells z.cells (d + 1)).toList.length ≤ (xs ++ spare).length := by rw [List.length_append, hl, hzl, hadd]; omega
      have hst := run_storeCells_cells (P := P) b (lo * sz) (Builtin.zeroCells z.cells (d + 1)).toList 0 w (fun j hj => by
          have hj' : lo * sz + 0 + j < (xs ++ spare).length := by omega
          rw [hR.cell (.head _) (List.getElem?_eq_getElem hj')]; rfl) (fun j hj => hR.free (.head _)) (zeroCells_one st.z1)
      simp only [Nat.add_zero] at hst
      obtain ⟨i, hi, hzz, hsz, hby⟩ := info_parts st.info
      have hzv : (zeroValue e).run P w = .ok z w := by simp [zeroValue, typeInfo, hi, hzz]
      have hc' : (Builtin.clear_ #[t] ty_ #[.slice (some ⟨b, lo * sz, none⟩) (d + 1) (cap - lo)]).run P w = .ok (.tuple #[]) (w.setCells b (lo * sz) (Builtin.zeroCells z.cells (d + 1)).toList) := by
        simp [Builtin.clear_, Sem.run_bind, run_underlying st.und, hzv, hst]
      have h2 := hR.setCells .head hfit
      unfold Oper.wp execOp
      simp only [resolve, invoke, builtin, Sem.run_bind, Sem.run_pure, Result.andThen_ok, List.map_toArray, List.map_cons, List.map_nil, hk.eval hs, hc']
      refine hK _ _ (h _ hzl) _ _ hk (Holds.perm (q _) ?_)
      have e : (xs ++ spare).take (lo * sz) ++ (Builtin.zeroCells z.cells (d + 1)).toList ++ (xs ++ spare).drop (lo * sz + (Builtin.zeroCells z.cells (d + 1)).toList.length) = (xs.take (lo * sz) ++ (Builtin.zeroCells z.cells (d + 1)).toList) ++ spare := by
        rw [List.take_append_of_le_length (by rw [hl, hadd]; omega), hzl, ← hadd, ← hl, List.drop_left]
      rw [e] at h2
      refine Holds.ownShut ?_ hn hm ?_ h2
      · rw [List.length_append, List.length_take, hl, hzl, hadd]; omega
      · rw [← hc]; simp only [List.length_append, List.length_take, hl, hzl, hadd]; omega
end
section
variable {W : World} {P : Program} {n : Nat} {c c2 : Code} {Q : Exit → Act → World → Prop} {H : List SProp} {f : Fr}
/-- Branches of a region that meet behind it. -/
theorem VO.joinR {α : Type} {k : Nat} (A : α → Prop) (G : α → List SProp) (F : α → Fr) (h1 : ∀ Q2, Met W n Q Q2 A G F → VO W P n c k Q2 H f) (h2 : ∀ x, A x → VC W P n c2 Q (G x) (F x)) :
    VO W P n c k (thenC P c2 Q) H f := h1 _ (Met.of h2)
theorem VQ.re {k : Nat} {v : Value} (d : Nat) (v' : Value) (hl : look f d = some v) (e : v = v') (h : VQ W P n c k Q H ((d, v') :: f)) : VQ W P n c k Q H f := by
  unfold VQ at *
  intro t hk
  subst e
  exact h t (hk.again hl)
end
end Go.Sl
