/- The engine: a loop that goes no round, a slice and what has grown out of it, resources by a list. Generic: no program is named. -/
import Derived.Test.YtgkpdpoblofehaaSlg
set_option maxRecDepth 8000
set_option linter.unusedVariables false
set_option linter.unusedSimpArgs false
set_option linter.unusedSectionVars false
namespace Go.Sl
open Go Go.RowKit
section
variable {W : World} {P : Program} {n : Nat} {c : Code} {Q : Exit → Act → World → Prop} {H H' L S R : List SProp} {f F : Fr} {C : SProp → List SProp}
variable {N : List SProp → Fr → Prop} {dst : Option Tmp} {d : Nat} {ty_ : TypeId} {pos : String} {after : Array Edge} {guard : Option (Nat × Bool)}

/-- A loop that ends in its first round. -/
theorem VC.once (hc : isLoop c = true) (h : VC W P n (Cd.l c) (loopC W n (fun _ : Unit => False) (fun _ => []) (fun _ => []) (fun _ => 0) 0 Q) H f) : VC W P n c Q H f := by
  cases c <;> simp [isLoop] at hc
  unfold VC at h ⊢
  intro t w hk hw
  refine wp_loop_ghost (fun _ a w => ∃ t', a = ⟨t', []⟩ ∧ Knows n f t' ∧ Holds W H w) 0 ⟨t, rfl, hk, hw⟩ ?_
  rintro k a w ⟨t', rfl, hk', hw'⟩
  refine Code.wp_mono ?_ (h t' w hk' hw')
  unfold loopC
  intro e a w q
  cases e with
  | normal =>
    obtain ⟨y, t'', rfl, h1, h2, h3, h4⟩ := q
    exact h1.elim
  | _ => exact q

def orS (p q : SProp) : SProp := fun h => p h ∨ q h
theorem Holds.orOpen {p q : SProp} {w : World} (h : Holds W (orS p q :: R) w) : Holds W (p :: R) w ∨ Holds W (q :: R) w := by
  obtain ⟨hb, h1, h2, a, b, c, hp | hp, hr⟩ := h
  · exact .inl ⟨hb, h1, h2, a, b, c, hp, hr⟩
  · exact .inr ⟨hb, h1, h2, a, b, c, hp, hr⟩
theorem Holds.orL {p q : SProp} {w : World} (h : Holds W (p :: R) w) : Holds W (orS p q :: R) w := h.cons fun _ k => .inl k
theorem Holds.orR {p q : SProp} {w : World} (h : Holds W (q :: R) w) : Holds W (orS p q :: R) w := h.cons fun _ k => .inr k

/-- append, and what lies where the elder slice was. -/
theorem Holds.append2 {t tx e ty : TypeId} {z : Value} {sz by_ n m cap : Nat} {ao : Option Addr} {x : Value} {xs news : List Value} {R : List SProp} {w : World} (st : SliceT P t e z sz by_) (hw : Holds W (Own e sz (.slice ao n cap) n xs :: R) w) (hs : Src P sz tx x m news w)
    (h63 : n + m ≤ maxLen) (hb : (n + m) * by_ ≤ 140737488355328) :
    ∃ ao' cap' w', (Builtin.append_ #[t, tx] ty #[.slice ao n cap, x]).run P w = .ok (.slice ao' (n + m) cap') w' ∧
      ((ao' = ao ∧ cap' = cap ∧ Holds W (Own e sz (.slice ao (n + m) cap) (n + m) (xs ++ news) :: R) w') ∨
        Holds W (Own e sz (.slice ao n cap) n xs :: Own e sz (.slice ao' (n + m) cap') (n + m) (xs ++ news) :: R) w') := by
  obtain ⟨i, hi, hz, hsz, hby⟩ := info_parts st.info
  subst hsz; subst hby
  have hsmall : n + m ≤ 9223372036854775807 := by simp only [maxLen] at h63; omega
  obtain ⟨hl, hv⟩ := hw.ownOpen
  have hlen : (xs ++ news).length = (n + m) * i.size := by rw [List.length_append, hl, hs.newsLen, Nat.add_mul]
  have grown : ∀ old (R : List SProp), old < n + m → Holds W R w → Holds W (Own e i.size (.slice (some ⟨w.heap.size, 0, none⟩) (n + m) (grownCap w (n + m) old e)) (n + m) (xs ++ news) :: R)
      (w.drew.alloc (.cells ((xs ++ news).toArray ++ Builtin.zeroCells z.cells (grownCap w (n + m) old e - (n + m))) e)) := by
    intro old R ho hR
    have hge := grownCap_ge w (n + m) old e
    have hcm : grownCap w (n + m) old e ≤ maxLen := grownCap_le_maxLen w (n + m) old e h63
    have ha := (hR.drew).alloc (T := e) (cs := (xs ++ news) ++ (Builtin.zeroCells z.cells (grownCap w (n + m) old e - (n + m))).toList)
    have ee : ((xs ++ news) ++ (Builtin.zeroCells z.cells (grownCap w (n + m) old e - (n + m))).toList).toArray = (xs ++ news).toArray ++ Builtin.zeroCells z.cells (grownCap w (n + m) old e - (n + m)) := by
      apply Array.ext'; simp
    rw [← ee]
    refine Holds.ownShut hlen hge hcm ?_ ha
    rw [List.length_append, hlen]
    simp only [Array.length_toList, size_zeroCells, st.zs, ← Nat.add_mul]
    congr 1; omega
  rcases hv with ⟨he, rfl, hR⟩ | ⟨b, cap0, spare, he, hn, hm, hc, hR⟩
  · cases he
    have hx : xs = [] := List.eq_nil_of_length_eq_zero (by simpa using hl)
    subst hx
    by_cases h0 : m = 0
    · subst h0
      have hn : news = [] := List.eq_nil_of_length_eq_zero (by simpa using hs.newsLen)
      subst hn
      refine ⟨none, 0, w, ?_, .inl ⟨rfl, rfl, by simpa using hw⟩⟩
      rcases hs.kind with ⟨e', hk⟩ | hk <;> simp [Builtin.append_, run_underlying st.und, run_underlying hk, sizeOf, typeInfo, hi, hs.len, hs.cells]
    · refine ⟨_, _, _, run_append_grow_src w t tx ty e i z st.und hi hz none 0 0 [] (run_firstCells_none _ _ _ _ _) x m news hs (by omega) (by omega) (growslice_fits (by omega) hb), .inr ?_⟩
      exact (grown 0 _ (by omega) hw).swap
  · cases he
    by_cases hroom : n + m ≤ cap
    · have hfit : n * i.size + news.length ≤ (xs ++ spare).length := by rw [hs.newsLen, hc, ← Nat.add_mul]; exact Nat.mul_le_mul_right _ hroom
      refine ⟨_, _, _, run_append_room_src w t tx ty e i st.und hi b 0 n cap x m news hs hroom (fun j hj => ?_) (fun j hj => hR.free (.head _)), .inl ⟨rfl, rfl, ?_⟩⟩
      · have hj' : 0 + n * i.size + j < (xs ++ spare).length := by omega
        rw [hR.cell (.head _) (List.getElem?_eq_getElem hj')]; rfl
      · have h2 := hR.setCells (o := n * i.size) (vs := news) .head hfit
        have e1 : (xs ++ spare).take (n * i.size) = xs := by rw [← hl]; simp
        rw [e1] at h2
        rw [Nat.zero_add]
        refine Holds.ownShut hlen hroom hm ?_ h2
        rw [← hc]
        simp only [List.length_append, List.length_drop] at hfit ⊢
        omega
    · have hold : (Builtin.firstCells i.size n (.slice (some ⟨b, 0, none⟩) n cap)).run P w.drew = .ok xs.toArray w.drew := by
        refine run_firstCells_some w.drew i.size n _ n cap xs hl fun j u hj => ?_
        have := hR.cell (off := j) (v := u) (.head _) (by rw [List.getElem?_append_left (List.getElem?_eq_some_iff.1 hj).1]; exact hj)
        rwa [show (⟨b, 0, none⟩ : Addr).add j = ⟨b, j, none⟩ by unfold Addr.add; split <;> simp_all]
      refine ⟨_, _, _, run_append_grow_src w t tx ty e i z st.und hi hz _ n cap xs hold x m news hs (by omega) (by omega) (growslice_fits (by omega) hb), .inr ?_⟩
      exact (grown cap _ (by omega) hw).swap

/-- A slice, and one that has grown out of it. -/
def TwinR (e sz : Nat) (ao : Option Addr) (cap k : Nat) (xs : List Value) (ao' : Option Addr) (cap' k' : Nat) (ys : List Value) : SProp :=
  orS (Sl.star [fact (ao' = ao ∧ cap' = cap ∧ k ≤ k' ∧ xs = ys.take (k * sz)), Own e sz (.slice ao' k' cap') k' ys])
    (Sl.star [Own e sz (.slice ao k cap) k xs, Own e sz (.slice ao' k' cap') k' ys])
theorem TwinR.start {e sz k cap : Nat} {ao : Option Addr} {xs : List Value} {w : World} (hw : Holds W (Own e sz (.slice ao k cap) k xs :: R) w) : Holds W (TwinR e sz ao cap k xs ao cap k xs :: R) w := by
  have hl := hw.ownLen (.head _)
  exact Holds.orL (Holds.nest (L := [_, _]) (hw.factShut ⟨rfl, rfl, Nat.le_refl _, (List.take_of_length_le (by omega)).symm⟩))
theorem TwinR.open {e sz k cap k' cap' : Nat} {ao ao' : Option Addr} {xs ys : List Value} {w : World} (hw : Holds W (TwinR e sz ao cap k xs ao' cap' k' ys :: R) w) :
    ((ao' = ao ∧ cap' = cap ∧ k ≤ k' ∧ xs = ys.take (k * sz)) ∧ Holds W (Own e sz (.slice ao' k' cap') k' ys :: R) w) ∨ Holds W (Own e sz (.slice ao k cap) k xs :: Own e sz (.slice ao' k' cap') k' ys :: R) w := by
  rcases hw.orOpen with h | h
  · have h := h.join
    exact .inl ⟨h.factOpen, h.tail⟩
  · exact .inr h.join
theorem TwinR.mine {e sz k cap k' cap' : Nat} {ao ao' : Option Addr} {xs ys : List Value} {w : World} (hw : Holds W (TwinR e sz ao cap k xs ao' cap' k' ys :: R) w) : Holds W (Own e sz (.slice ao' k' cap') k' ys :: R) w := by
  rcases TwinR.open hw with ⟨_, h⟩ | h
  · exact h
  · exact h.tail
/-- The elder one of two, where they share memory. -/
theorem Holds.ownShort {e sz k k' cap : Nat} {ao : Option Addr} {ys : List Value} {w : World} (hw : Holds W (Own e sz (.slice ao k' cap) k' ys :: R) w) (hk : k ≤ k') : Holds W (Own e sz (.slice ao k cap) k (ys.take (k * sz)) :: R) w := by
  obtain ⟨hl, hv⟩ := hw.ownOpen
  have hle : k * sz ≤ k' * sz := Nat.mul_le_mul_right _ hk
  rcases hv with ⟨he, rfl, hR⟩ | ⟨b, cap0, spare, he, hn, hm, hc, hR⟩
  · cases he
    obtain rfl : k = 0 := by omega
    rw [Nat.zero_mul, List.take_zero]
    exact hR.ownNil _ _
  · cases he
    refine Holds.ownShut (spare := ys.drop (k * sz) ++ spare) (by rw [List.length_take]; omega) (by omega) hm ?_ ?_
    · rw [← List.append_assoc, List.take_append_drop]; exact hc
    · rw [← List.append_assoc, List.take_append_drop]; exact hR
theorem OpV.appendT {s x : Operand} {t tx e : TypeId} {z : Value} {sz by_ k m k0 cap0 cap : Nat} {ao0 ao : Option Addr} {vx : Value} {xs ys news : List Value} (st : SliceT P t e z sz by_) (hs : evalX f s = some (.slice ao k cap)) (hx : evalX f x = some vx)
    (u : Hole H (TwinR e sz ao0 cap0 k0 xs ao cap k ys) C) (hsrc : ∀ w, Holds W H w → Src P sz tx vx m news w) (h63 : k + m ≤ maxLen) (hb : (k + m) * by_ ≤ 140737488355328) (hd : Nat.blt d n = true)
    (h : ∀ ao' cap', N (C (TwinR e sz ao0 cap0 k0 xs ao' cap' (k + m) (ys ++ news))) ((d, .slice ao' (k + m) cap') :: f)) :
    OpV W P n { dst := some d, op := .call { callee := .builtin .append, args := #[s, x], argTypes := #[t, tx] }, type := ty_, pos, after, guard } Q H f N := by
  refine OpV.run (α := Option Addr × Nat) (v := fun y => .slice y.1 (k + m) y.2) (G := fun y => C (TwinR e sz ao0 cap0 k0 xs y.1 y.2 (k + m) (ys ++ news))) hd (fun tm w hk hw => ?_) (fun y => h y.1 y.2)
  obtain ⟨R, p, q⟩ := u.perm
  have hsr := hsrc w hw
  have hw1 := hw.perm p
  have hl : ys.length = k * sz := (TwinR.mine hw1).ownLen (.head _)
  rcases TwinR.open hw1 with ⟨⟨e1, e2, e3, e4⟩, h1⟩ | h1
  · obtain ⟨ao', cap', w', hr, h2⟩ := Holds.append2 (ty := ty_) st h1 hsr h63 hb
    refine ⟨(ao', cap'), w', ?_, ?_⟩
    · unfold execOp
      simp only [resolve, invoke, builtin, Sem.run_bind, Sem.run_pure, Result.andThen_ok, List.map_toArray, List.map_cons, List.map_nil, hk.eval hs, hk.eval hx, hr]
    · refine Holds.perm (q _) ?_
      rcases h2 with ⟨rfl, rfl, h2⟩ | h2
      · refine Holds.orL (Holds.nest (L := [_, _]) (h2.factShut ⟨e1, e2, by omega, ?_⟩))
        rw [List.take_append_of_le_length (by rw [hl]; exact Nat.mul_le_mul_right _ e3)]; exact e4
      · refine Holds.orR (Holds.nest (L := [_, _]) ?_)
        subst e1; subst e2
        have := h2.ownShort e3
        rw [← e4] at this
        exact this
  · obtain ⟨ao', cap', w', hr, h2⟩ := Holds.append2 (ty := ty_) st h1.swap hsr h63 hb
    refine ⟨(ao', cap'), w', ?_, ?_⟩
    · unfold execOp
      simp only [resolve, invoke, builtin, Sem.run_bind, Sem.run_pure, Result.andThen_ok, List.map_toArray, List.map_cons, List.map_nil, hk.eval hs, hk.eval hx, hr]
    · refine Holds.perm (q _) (Holds.orR (Holds.nest (L := [_, _]) ?_))
      rcases h2 with ⟨rfl, rfl, h2⟩ | h2
      · exact h2.swap
      · exact (h2.tail).swap
theorem TwinR.rdsOld {e sz k cap k' cap' : Nat} {ao ao' : Option Addr} {xs ys : List Value} (m : TwinR e sz ao cap k xs ao' cap' k' ys ∈ H) (h1 : ∀ u ∈ xs, u.oneCell' = true) (hl : xs.length = k * sz) (hn : ao = none → k = 0) : Rds W H sz ao k xs := by
  refine ⟨hl, h1, hn, fun w hw a ha i v hv => ?_⟩
  obtain ⟨R, p⟩ := mem_perm m
  rcases TwinR.open (hw.perm p) with ⟨⟨e1, e2, e3, e4⟩, h⟩ | h
  · subst e1; subst e2
    have h := h.ownShort e3
    rw [← e4] at h
    exact (Rds.own h1 (.head _) hl hn).cell w h a ha i v hv
  · exact (Rds.own h1 (.head _) hl hn).cell w h a ha i v hv
theorem TwinR.rdsNew {e sz k cap k' cap' : Nat} {ao ao' : Option Addr} {xs ys : List Value} (m : TwinR e sz ao cap k xs ao' cap' k' ys ∈ H) (h1 : ∀ u ∈ ys, u.oneCell' = true) (hl : ys.length = k' * sz) (hn : ao' = none → k' = 0) : Rds W H sz ao' k' ys := by
  refine ⟨hl, h1, hn, fun w hw a ha i v hv => ?_⟩
  obtain ⟨R, p⟩ := mem_perm m
  have h := TwinR.mine (hw.perm p)
  exact (Rds.own h1 (.head _) hl hn).cell w h a ha i v hv

/-! ### Resources by a list -/

theorem hole_map {α : Type} (g : α → SProp) : ∀ (l : List α) (i : Nat) (h : i < l.length), Hole (l.map g) (g l[i]) (fun X => (l.map g).set i X)
  | a :: r, 0, _ => Hole.head
  | a :: r, i + 1, h => Hole.tail (hole_map g r i (by simpa using h))
end
attribute [irreducible] TwinR
end Go.Sl
