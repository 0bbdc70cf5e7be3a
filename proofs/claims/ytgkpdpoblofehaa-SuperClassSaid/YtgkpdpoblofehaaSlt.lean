/- The engine: clear of the head of a slice of ours; copy from a string; a call of a function that is known by a contract alone. Generic: no program is named. -/
import Derived.Test.YtgkpdpoblofehaaSlq
import Derived.Test.YtgkpdpoblofehaaSls
set_option maxRecDepth 8000
set_option linter.unusedVariables false
set_option linter.unusedSimpArgs false
set_option linter.unusedSectionVars false
namespace Go.Sl
open Go Go.RowKit
section
variable {W : World} {P : Program} {n : Nat} {Q : Exit → Act → World → Prop} {H : List SProp} {f : Fr} {C : SProp → List SProp}
variable {N : List SProp → Fr → Prop} {d : Nat} {ty_ : TypeId} {pos : String} {after : Array Edge} {guard : Option (Nat × Bool)}

theorem OpV.clearHead {s : Operand} {t e : TypeId} {z : Value} {sz by_ m cap k c' : Nat} {ao : Option Addr} {xs : List Value} (st : SliceT P t e z sz by_) (hs : evalX f s = some (.slice ao (k + 1) c'))
    (u : Hole H (Own e sz (.slice ao m cap) m xs) C) (hlo : k + 1 ≤ m)
    (h : N (C (Own e sz (.slice ao m cap) m ((Builtin.zeroCells z.cells (k + 1)).toList ++ xs.drop ((k + 1) * sz)))) f) :
    OpV W P n { dst := none, op := .call { callee := .builtin .clear, args := #[s], argTypes := #[t] }, type := ty_, pos, after, guard } Q H f N := by
  unfold OpV
  intro tm w hk hw K hK
  obtain ⟨R, p, q⟩ := u.perm
  obtain ⟨hl, hv⟩ := (hw.perm p).ownOpen
  rcases hv with ⟨he, rfl, hR⟩ | ⟨b, cap', spare, he, hn, hm, hc, hR⟩
  · omega
  · cases he
    have hzl : (Builtin.zeroCells z.cells (k + 1)).toList.length = (k + 1) * sz := by simp [Builtin.zeroCells, st.zs]
    have hle : (k + 1) * sz ≤ m * sz := Nat.mul_le_mul_right _ hlo
    have hfit : 0 + (Builtin.zeroCells z.cells (k + 1)).toList.length ≤ (xs ++ spare).length := by rw [List.length_append, hl, hzl]; omega
    have hst := run_storeCells_cells (P := P) b 0 (Builtin.zeroCells z.cells (k + 1)).toList 0 w (fun j hj => by
        have hj' : 0 + 0 + j < (xs ++ spare).length := by omega
        rw [hR.cell (.head _) (List.getElem?_eq_getElem hj')]; rfl) (fun j hj => hR.free (.head _)) (zeroCells_one st.z1)
    simp only [Nat.add_zero] at hst
    obtain ⟨i, hi, hzz, hsz, hby⟩ := info_parts st.info
    have hzv : (zeroValue e).run P w = .ok z w := by simp [zeroValue, typeInfo, hi, hzz]
    have hc' : (Builtin.clear_ #[t] ty_ #[.slice (some ⟨b, 0, none⟩) (k + 1) c']).run P w = .ok (.tuple #[]) (w.setCells b 0 (Builtin.zeroCells z.cells (k + 1)).toList) := by
      simp [Builtin.clear_, Sem.run_bind, run_underlying st.und, hzv, hst]
    have h2 := hR.setCells .head hfit
    unfold Oper.wp execOp
    simp only [resolve, invoke, builtin, Sem.run_bind, Sem.run_pure, Result.andThen_ok, List.map_toArray, List.map_cons, List.map_nil, hk.eval hs, hc']
    refine hK _ _ h _ _ hk (Holds.perm (q _) ?_)
    have e : (xs ++ spare).take 0 ++ (Builtin.zeroCells z.cells (k + 1)).toList ++ (xs ++ spare).drop (0 + (Builtin.zeroCells z.cells (k + 1)).toList.length) = ((Builtin.zeroCells z.cells (k + 1)).toList ++ xs.drop ((k + 1) * sz)) ++ spare := by
      rw [Nat.zero_add, hzl, List.drop_append_of_le_length (by omega)]; simp
    rw [e] at h2
    refine Holds.ownShut ?_ hn hm ?_ h2
    · rw [List.length_append, List.length_drop, hl, hzl]; omega
    · rw [← hc]; simp only [List.length_append, List.length_drop, hl, hzl]; omega

/-- A copy of a whole string, that fits, into the head of a slice of ours. -/
theorem OpV.copyStr {s x : Operand} {t tx e : TypeId} {z : Value} {by_ m cap : Nat} {ao : Option Addr} {xs : List Value} {l : List UInt8} (st : SliceT P t e z 1 by_) (hs : evalX f s = some (.slice ao m cap)) (hx : evalX f x = some (strV l))
    (u : Hole H (Own e 1 (.slice ao m cap) m xs) C) (hm : l.length ≤ m) (hd : Nat.blt d n = true)
    (h : N (C (Own e 1 (.slice ao m cap) m ((l.map fun (c : UInt8) => Value.int .u8 (c.toNat : Int)) ++ xs.drop l.length))) ((d, .int .i64 (l.length : Int)) :: f)) :
    OpV W P n { dst := some d, op := .call { callee := .builtin .copy, args := #[s, x], argTypes := #[t, tx] }, type := ty_, pos, after, guard } Q H f N := by
  refine OpV.run (α := Unit) (v := fun _ => .int .i64 (l.length : Int)) (G := fun _ => C (Own e 1 (.slice ao m cap) m ((l.map fun (c : UInt8) => Value.int .u8 (c.toNat : Int)) ++ xs.drop l.length))) hd (fun tm w hk hw => ?_) (fun _ => h)
  obtain ⟨R, p, q⟩ := u.perm
  obtain ⟨i, hi, hz, hsz, hby⟩ := info_parts st.info
  obtain ⟨hl, hv⟩ := (hw.perm p).ownOpen
  rw [Nat.mul_one] at hl
  have hsl : (⟨l.toArray⟩ : ByteArray).size = l.length := by simp [ByteArray.size]
  have hmin : Nat.min (⟨l.toArray⟩ : ByteArray).size m = (⟨l.toArray⟩ : ByteArray).size := Nat.min_eq_left (by rw [hsl]; exact hm)
  have hfc := Lib.run_firstCells_string (P := P) w i.size ⟨l.toArray⟩
  have hcs : Lib.strCells ⟨l.toArray⟩ = l.map fun (c : UInt8) => Value.int .u8 (c.toNat : Int) := by simp [Lib.strCells]
  rw [hcs] at hfc
  have hone : ∀ u ∈ (l.map fun (c : UInt8) => Value.int .u8 (c.toNat : Int)), u.oneCell' = true := by
    intro u hu; obtain ⟨_, _, rfl⟩ := List.mem_map.1 hu; rfl
  rcases hv with ⟨he, h0, hR⟩ | ⟨b, cap', spare, he, hn, hmx, hc, hR⟩
  · cases he
    have hl0 : l = [] := List.eq_nil_of_length_eq_zero (by omega)
    subst hl0
    refine ⟨(), w, ?_, Holds.perm (q _) (by simpa using hw.perm p)⟩
    unfold execOp
    simp only [resolve, invoke, builtin, Sem.run_bind, Sem.run_pure, Result.andThen_ok, List.map_toArray, List.map_cons, List.map_nil, hk.eval hs, hk.eval hx, strV]
    have hr : (Builtin.copy_ #[t, tx] ty_ #[.slice none 0 0, .string ⟨#[]⟩]).run P w = .ok (.int .i64 0) w := by
      simp [Builtin.copy_, run_underlying st.und, Builtin.lenOf, sizeOf, typeInfo, hi, Builtin.firstCells, goInt, ByteArray.size]
    have hr' : (Builtin.copy_ #[t, tx] ty_ #[.slice none 0 0, .string ⟨([] : List UInt8).toArray⟩]).run P w = .ok (.int .i64 0) w := hr
    rw [hr']; rfl
  · cases he
    rw [Nat.mul_one] at hc
    have hnl : (l.map fun (c : UInt8) => Value.int .u8 (c.toNat : Int)).length = l.length := by simp
    have hfit : 0 + (l.map fun (c : UInt8) => Value.int .u8 (c.toNat : Int)).length ≤ (xs ++ spare).length := by rw [hnl, List.length_append, hl]; omega
    have hst := run_storeCells_cells (P := P) b 0 (l.map fun (c : UInt8) => Value.int .u8 (c.toNat : Int)) 0 w (fun j hj => by
        have hj' : 0 + 0 + j < (xs ++ spare).length := by omega
        rw [hR.cell (.head _) (List.getElem?_eq_getElem hj')]; rfl) (fun j hj => hR.free (.head _)) hone
    simp only [Nat.add_zero] at hst
    refine ⟨(), w.setCells b 0 (l.map fun (c : UInt8) => Value.int .u8 (c.toNat : Int)), ?_, Holds.perm (q _) ?_⟩
    · unfold execOp
      simp only [resolve, invoke, builtin, Sem.run_bind, Sem.run_pure, Result.andThen_ok, List.map_toArray, List.map_cons, List.map_nil, hk.eval hs, hk.eval hx, strV]
      have hr : (Builtin.copy_ #[t, tx] ty_ #[.slice (some ⟨b, 0, none⟩) m cap, .string ⟨l.toArray⟩]).run P w = .ok (.int .i64 (l.length : Int)) (w.setCells b 0 (l.map fun (c : UInt8) => Value.int .u8 (c.toNat : Int))) := by
        rw [hsl] at hmin hfc
        have hsl2 : (⟨l.toArray⟩ : ByteArray).size = l.length := hsl
        simp only [Builtin.copy_, List.getElem?_toArray, List.getElem?_cons_zero, List.getElem?_cons_succ, Sem.run_bind, run_underlying st.und, Result.andThen_ok, Builtin.lenOf, Sem.run_pure]
        simp [sizeOf, typeInfo, hi, hmin, hfc, hst, goInt, hsl2]
      rw [hr]; rfl
    · have h2 := hR.setCells .head hfit
      have e : (xs ++ spare).take 0 ++ (l.map fun (c : UInt8) => Value.int .u8 (c.toNat : Int)) ++ (xs ++ spare).drop (0 + (l.map fun (c : UInt8) => Value.int .u8 (c.toNat : Int)).length) = ((l.map fun (c : UInt8) => Value.int .u8 (c.toNat : Int)) ++ xs.drop l.length) ++ spare := by
        rw [Nat.zero_add, hnl, List.drop_append_of_le_length (by omega)]; simp
      rw [e] at h2
      refine Holds.ownShut ?_ hn hmx ?_ h2
      · rw [List.length_append, hnl, List.length_drop, hl]; omega
      · rw [← hc]; simp only [List.length_append, List.length_map, List.length_drop, hl]; omega
/-- A row of bytes that gets the mark of a text. -/
theorem OpV.markConst {T : TabData} {x : Operand} {t e : TypeId} {b m c' : Nat} {xs : List Value} (hT : T.ok P = true) (hx : evalX f x = some (.slice (some ⟨b, 0, none⟩) m c')) (ht : assoc T.sls t = some e) (he : assoc T.ints e = some .u8)
    (u : Hole H (Row b e xs) C) (hd : Nat.blt d n = true) (h : N (C (MRow b e xs)) ((d, .slice (some ⟨b, 0, none⟩) m c') :: f)) :
    OpV W P n { dst := some d, op := .convert t t x, type := ty_, pos, after, guard } Q H f N := by
  refine OpV.run (α := Unit) (v := fun _ => .slice (some ⟨b, 0, none⟩) m c') (G := fun _ => C (MRow b e xs)) hd (fun tm w hk hw => ⟨(), w.freeze ⟨b, xs.length, none⟩ 1, ?_, ?_⟩) (fun _ => h)
  all_goals
    obtain ⟨R, p, q⟩ := u.perm
    have hat := ((hw.perm p).at (.head _)).2
    have hlt := (hw.perm p).lt (.head _)
  · have hsh : w.shape? b = some (e, xs.length) := by unfold World.shape?; rw [hat]; simp
    have hr : (convert t t (.slice (some ⟨b, 0, none⟩) m c')).run P w = .ok (.slice (some ⟨b, 0, none⟩) m c') (w.freeze ⟨b, xs.length, none⟩ 1) := by
      simp [convert, run_underlying (T.slice_ok hT ht), run_underlying (T.int_ok hT he), markStringish, hsh]
    unfold execOp
    simp only [hk.eval hx, Sem.run_bind, hr, Result.andThen_ok, Sem.run_pure]
  · have hfr : w.freeze ⟨b, xs.length, none⟩ 1 = { w with heap := w.heap.modify b fun | .cells c elem (lo, hi) => .cells c elem (if lo == hi then (xs.length, xs.length + 1) else (min lo xs.length, max hi (xs.length + 1))) | o => o } := by
      unfold World.freeze; rw [if_neg (by decide)]; rfl
    rw [hfr]
    refine Holds.perm (q _) (Holds.cons (P := At b (.cells xs.toArray e (xs.length, xs.length + 1))) (fun k hk => ⟨[], by simpa using hk⟩) ?_)
    refine Holds.put (C := fun X => X :: R) (hw.perm p) .head rfl rfl rfl (by simp) (fun k hk => ?_) ?_
    · show (w.heap.modify b _)[k]? = _
      rw [Array.getElem?_modify]; rw [if_neg (Ne.symm hk)]
    · show (w.heap.modify b _)[b]? = _
      rw [Array.getElem?_modify, if_pos rfl, hat]; rfl
end
end Go.Sl
