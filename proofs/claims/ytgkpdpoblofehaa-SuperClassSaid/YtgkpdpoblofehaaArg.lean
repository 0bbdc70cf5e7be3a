/- What an argument that can be read gives a walk: its shape, its cells, its bounds. Generic: no program is named. -/
import Derived.Test.YtgkpdpoblofehaaSld
import Derived.SizedLaws
import Derived.Deep.Slices
set_option maxRecDepth 8000
set_option linter.unusedVariables false
set_option linter.unusedSimpArgs false
set_option linter.unusedSectionVars false
namespace Go.Sl
open Go.RowKit

/-- Cells cs that hold a value of type t, all that it leads to with it. -/
inductive InT (P : Program) (W : World) : TypeId → List Value → Prop
  | int {t : TypeId} {k : IntKind} {n : Int} (hu : P.underlying t = some (.int k)) (hw : (Lit.int k n).wf = true) : InT P W t [.int k n]
  | bool {t : TypeId} {b : Bool} (hu : P.underlying t = some .bool) : InT P W t [.bool b]
  | nil {t e : TypeId} (hu : P.underlying t = some (.slice e)) : InT P W t [.slice none 0 0]
  | slice {t e : TypeId} {a : Addr} {n cap : Nat} (hu : P.underlying t = some (.slice e)) (h1 : n ≤ cap) (h2 : cap ≤ maxLen) (h3 : cap * P.bytesOf e ≤ reachBytes) (row : Nat → List Value)
      (hl : ∀ i, i < cap → (row i).length = P.cellsOf e) (hc : ∀ i, i < cap → ∀ j, j < P.cellsOf e → W.cell? (a.add (i * P.cellsOf e + j)) = (row i)[j]?) (hi : ∀ i, i < cap → InT P W e (row i)) : InT P W t [.slice (some a) n cap]
  | struct {t : TypeId} {fs : Array Field} {cs : List Value} (hu : P.underlying t = some (.struct fs)) (hl : cs.length = P.cellsOf t)
      (hf : ∀ (i : Nat) (f : Field), fs[i]? = some f → InT P W f.type ((cs.drop f.offset).take (P.cellsOf f.type))) : InT P W t cs
  | other {t : TypeId} {d : TypeDesc} {cs : List Value} (hu : P.underlying t = some d) (hd : (match d with | .int _ | .bool | .slice _ | .struct _ => false | _ => true) = true) : InT P W t cs

section
variable {H : Type} {enc : TypeId × Value → H} {P : Program} {W : World}

theorem weightsAll_mem {e : TypeId} : ∀ {l : List (DataW H)} {d : DataW H} {n : Nat}, d ∈ l → n ∈ d.weights P e → n ∈ DataW.weightsAll P e l
  | d0 :: r, d, n, hd, hn => by
    simp only [DataW.weightsAll, List.mem_append]
    cases hd with
    | head => exact .inl hn
    | tail _ h => exact .inr (weightsAll_mem h hn)
theorem weightsEach_mem {ts : List TypeId} {ds : List (DataW H)} {j : Nat} {t : TypeId} {d : DataW H} (ht : ts[j]? = some t) (hd : ds[j]? = some d) {n : Nat} (hn : n ∈ d.weights P t) : n ∈ DataW.weightsEach P ts ds := DataW.weights_mem_each ht hd n hn

theorem InT.of_trod : ∀ (fuel : Nat) (t : TypeId) (cs : List Value) (x : DataW H × List MemPlace), DataW.trod enc P W 0 (fun _ => true) true fuel t cs = some x → (∀ n ∈ x.1.weights P t, n ≤ reachBytes) → InT P W t cs := by
  intro fuel
  induction fuel with
  | zero => intro t cs x h; simp [DataW.trod] at h
  | succ fuel ih =>
    intro t cs x h hw
    cases hu : P.underlying t with
    | none => unfold DataW.trod at h; rw [hu] at h; simp at h
    | some d =>
      cases d with
      | int k =>
        unfold DataW.trod at h
        rw [hu] at h
        split at h <;> simp_all
        obtain ⟨⟨rfl, hwf⟩, _⟩ := h
        exact .int hu hwf
      | bool =>
        unfold DataW.trod at h
        rw [hu] at h
        split at h <;> simp_all
        exact .bool hu
      | slice e =>
        rcases DataW.trod_slice hu h with ⟨rfl, _⟩ | ⟨a, len, cap, elems, rest, n, hn, rfl, rfl, hb, hl, hm, hlen, hel, hsp, _⟩
        · exact .nil hu
        · cases hn
          obtain ⟨hr, hre⟩ := hsp rfl
          have hwt : ∀ d ∈ elems.map (·.1) ++ rest.map (·.1), ∀ n ∈ d.weights P e, n ≤ reachBytes := by
            intro d hd n hn
            refine hw n ?_
            simp only [DataW.weights, hu, List.mem_cons, List.mem_append]
            rcases List.mem_append.1 hd with h | h
            · exact .inr (.inl (weightsAll_mem h hn))
            · exact .inr (.inr (weightsAll_mem h hn))
          have hbig : cap * P.bytesOf e ≤ reachBytes := by
            have := hw ((elems.length + rest.length) * P.bytesOf e) (by simp [DataW.weights, hu])
            rwa [hlen, hr, Nat.add_sub_cancel' hl] at this
          have each : ∀ i, i < cap → ∃ row : List Value, row.length = P.cellsOf e ∧ (∀ j, j < P.cellsOf e → W.cell? (a.add (i * P.cellsOf e + j)) = row[j]?) ∧ InT P W e row := by
            intro i hi
            have key : ∃ y, (W.cells? 0 (a.add (i * P.cellsOf e)) (P.cellsOf e)).bind (DataW.trod enc P W 0 (fun _ => true) true fuel e) = some y ∧ y.1 ∈ elems.map (·.1) ++ rest.map (·.1) := by
              by_cases hil : i < len
              · refine ⟨elems[i]'(by omega), by rw [hel i hil, List.getElem?_eq_getElem], ?_⟩
                exact List.mem_append_left _ (List.mem_map.2 ⟨_, List.getElem_mem _, rfl⟩)
              · have h2 := hre (i - len) (by omega)
                rw [show len + (i - len) = i by omega] at h2
                refine ⟨rest[i - len]'(by omega), by rw [h2, List.getElem?_eq_getElem], ?_⟩
                exact List.mem_append_right _ (List.mem_map.2 ⟨_, List.getElem_mem _, rfl⟩)
            obtain ⟨y, hy, hmem⟩ := key
            obtain ⟨row, h1, h2⟩ := Option.bind_eq_some_iff.1 hy
            obtain ⟨_, hcl, hat⟩ := World.cells?_some h1
            refine ⟨row, hcl, fun j hj => ?_, ih e row y h2 (hwt _ hmem)⟩
            rw [← hat j hj, Go.Deep.add_add]
          obtain ⟨row, hrow⟩ := Go.Deep.choose_lt each
          exact .slice hu hl hm hbig row (fun i hi => (hrow i hi).1) (fun i hi => (hrow i hi).2.1) (fun i hi => (hrow i hi).2.2)
      | struct fs =>
        obtain ⟨xs, n, hn, rfl, hcl, hxl, hf⟩ := DataW.trod_struct hu h
        cases hn
        refine .struct hu hcl fun i f hi => ?_
        have h1 := hf i f hi
        have hix : i < xs.length := by rw [hxl]; exact (Array.getElem?_eq_some_iff.1 hi).1
        rw [List.getElem?_eq_getElem hix] at h1
        refine ih f.type _ _ h1 fun n hn => hw n ?_
        simp only [DataW.weights, hu]
        exact weightsEach_mem (j := i) (t := f.type) (by simp [hi]) (by simp [hix]) hn
      | _ => exact .other hu rfl

/-! ### What it says, type by type -/

theorem InT.int_inv {t : TypeId} {k : IntKind} {cs : List Value} (h : InT P W t cs) (hu : P.underlying t = some (.int k)) : ∃ n, cs = [.int k n] ∧ (Lit.int k n).wf = true := by
  cases h with
  | int hu' hw => rw [hu] at hu'; cases hu'; exact ⟨_, rfl, hw⟩
  | bool hu' => rw [hu] at hu'; cases hu'
  | nil hu' => rw [hu] at hu'; cases hu'
  | slice hu' => rw [hu] at hu'; cases hu'
  | struct hu' => rw [hu] at hu'; cases hu'
  | other hu' hd => rw [hu] at hu'; cases hu'; cases hd
theorem InT.bool_inv {t : TypeId} {cs : List Value} (h : InT P W t cs) (hu : P.underlying t = some .bool) : ∃ b, cs = [.bool b] := by
  cases h with
  | int hu' hw => rw [hu] at hu'; cases hu'
  | bool hu' => exact ⟨_, rfl⟩
  | nil hu' => rw [hu] at hu'; cases hu'
  | slice hu' => rw [hu] at hu'; cases hu'
  | struct hu' => rw [hu] at hu'; cases hu'
  | other hu' hd => rw [hu] at hu'; cases hu'; cases hd
theorem InT.struct_inv {t : TypeId} {fs : Array Field} {cs : List Value} (h : InT P W t cs) (hu : P.underlying t = some (.struct fs)) :
    cs.length = P.cellsOf t ∧ ∀ (i : Nat) (f : Field), fs[i]? = some f → InT P W f.type ((cs.drop f.offset).take (P.cellsOf f.type)) := by
  cases h with
  | int hu' hw => rw [hu] at hu'; cases hu'
  | bool hu' => rw [hu] at hu'; cases hu'
  | nil hu' => rw [hu] at hu'; cases hu'
  | slice hu' => rw [hu] at hu'; cases hu'
  | struct hu' hl hf => rw [hu] at hu'; cases hu'; exact ⟨hl, hf⟩
  | other hu' hd => rw [hu] at hu'; cases hu'; cases hd
theorem InT.field {t t' : TypeId} {fs : Array Field} {cs : List Value} {i off sz : Nat} {f : Field} (h : InT P W t cs) (hu : P.underlying t = some (.struct fs)) (hi : fs[i]? = some f) (ht : f.type = t') (ho : f.offset = off) (hc : P.cellsOf t' = sz) :
    InT P W t' ((cs.drop off).take sz) := by
  subst ht ho hc
  exact (h.struct_inv hu).2 i f hi
/-- A slice: rows of cells, one an element; spare room too. -/
theorem InT.slice_inv {t e : TypeId} {cs : List Value} (h : InT P W t cs) (hu : P.underlying t = some (.slice e)) :
    ∃ (ao : Option Addr) (n cap : Nat) (row : Nat → List Value), cs = [.slice ao n cap] ∧ (ao = none → cap = 0) ∧ n ≤ cap ∧ cap ≤ maxLen ∧ cap * P.bytesOf e ≤ reachBytes ∧ (∀ i, i < cap → (row i).length = P.cellsOf e) ∧
      (∀ a, ao = some a → ∀ i, i < cap → ∀ j, j < P.cellsOf e → W.cell? (a.add (i * P.cellsOf e + j)) = (row i)[j]?) ∧ ∀ i, i < cap → InT P W e (row i) := by
  cases h with
  | int hu' hw => rw [hu] at hu'; cases hu'
  | bool hu' => rw [hu] at hu'; cases hu'
  | nil hu' => exact ⟨none, 0, 0, fun _ => [], rfl, fun _ => rfl, Nat.le_refl _, Nat.zero_le _, by simp, fun _ h => absurd h (by omega), (fun _ h => by cases h), fun _ h => absurd h (by omega)⟩
  | slice hu' h1 h2 h3 row hl hc hi =>
    rw [hu] at hu'; cases hu'
    exact ⟨some _, _, _, row, rfl, (fun h => by cases h), h1, h2, h3, hl, (fun a ha => by cases ha; exact hc), hi⟩
  | struct hu' => rw [hu] at hu'; cases hu'
  | other hu' hd => rw [hu] at hu'; cases hu'; cases hd

theorem flat_get {sz : Nat} {row : Nat → List Value} : ∀ {m : Nat}, (∀ i, i < m → (row i).length = sz) → ((List.range m).flatMap row).length = m * sz ∧ ∀ i, i < m → ∀ j, j < sz → ((List.range m).flatMap row)[i * sz + j]? = (row i)[j]?
  | 0, _ => ⟨by simp, fun i h => absurd h (by omega)⟩
  | m + 1, h => by
    obtain ⟨h1, h2⟩ := flat_get (m := m) fun i hi => h i (by omega)
    rw [List.range_succ, List.flatMap_append]
    simp only [List.flatMap_cons, List.flatMap_nil, List.append_nil]
    refine ⟨by rw [List.length_append, h1, h m (by omega), Nat.add_mul]; omega, fun i hi j hj => ?_⟩
    by_cases him : i < m
    · have : i * sz + j < m * sz := by
        have : (i + 1) * sz ≤ m * sz := Nat.mul_le_mul_right _ (by omega)
        rw [Nat.add_mul] at this; omega
      rw [List.getElem?_append_left (by omega)]
      exact h2 i him j hj
    · have : i = m := by omega
      subst this
      rw [List.getElem?_append_right (by omega), h1]
      congr 1; omega

/-- The first m rows of such a slice, as what can be read. -/
theorem sees_rows {sz cap m : Nat} {ao : Option Addr} {row : Nat → List Value} (h0 : ao = none → cap = 0) (hm : m ≤ cap) (hl : ∀ i, i < cap → (row i).length = sz) (h1 : ∀ i, i < cap → ∀ u ∈ row i, u.oneCell' = true)
    (hc : ∀ a, ao = some a → ∀ i, i < cap → ∀ j, j < sz → W.cell? (a.add (i * sz + j)) = (row i)[j]?) {R : List SProp} : Rds W R sz ao m ((List.range m).flatMap row) := by
  obtain ⟨hlen, hget⟩ := flat_get (m := m) (row := row) (sz := sz) fun i hi => hl i (by omega)
  refine ⟨hlen, fun u hu => ?_, fun h => by have := h0 h; omega, ?_⟩
  · obtain ⟨i, hi, hui⟩ := List.mem_flatMap.1 hu
    exact h1 i (by have := List.mem_range.1 hi; omega) u hui
  · intro w hw a ha j u hj
    have hjl := (List.getElem?_eq_some_iff.1 hj).1
    rw [hlen] at hjl
    have hsz : 0 < sz := by rcases Nat.eq_zero_or_pos sz with h | h; · subst h; simp at hjl
                            · exact h
    have hi : j / sz < m := by rw [Nat.div_lt_iff_lt_mul hsz]; exact hjl
    have hj' := hget (j / sz) hi (j % sz) (Nat.mod_lt _ hsz)
    have hcc := hc a ha (j / sz) (by omega) (j % sz) (Nat.mod_lt _ hsz)
    have e : j / sz * sz + j % sz = j := by rw [Nat.mul_comm]; exact Nat.div_add_mod j sz
    rw [e] at hj' hcc
    refine hw.ro ?_
    rw [hcc, ← hj', hj]
end
theorem okWide_agg {P : Program} {W : World} {r : Reach} {base : Nat} {t : TypeId} {v : Value} {fs : Array Field} (hu : P.underlying t = some (.struct fs)) (h : Value.okWide P W r base t v) : ∃ cs : List Value, v = .agg cs.toArray := by
  unfold Value.okWide at h
  rw [hu] at h
  obtain ⟨cs, rfl, _⟩ := h
  exact ⟨cs.toList, by simp⟩
end Go.Sl
