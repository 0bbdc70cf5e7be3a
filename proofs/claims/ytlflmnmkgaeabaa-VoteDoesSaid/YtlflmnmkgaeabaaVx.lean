/- VoteGuide: the plain law, the walk. -/
import Derived.Test.YtlflmnmkgaeabaaVw
set_option maxRecDepth 8000
set_option linter.unusedVariables false
set_option linter.unusedSimpArgs false
set_option linter.unusedSectionVars false
namespace Go.Proofs.Ytlflmnmkgaeabaa
open Go.RowKit Go.Sl
attribute [local irreducible] Own

def geoEq (a b : SuperD) : Prop := a.members = b.members ∧ a.chunk = b.chunk ∧ a.stripes = b.stripes
instance (a b : SuperD) : Decidable (geoEq a b) := by unfold geoEq; exact inferInstance
def spoken (s j : SuperD) (i : Nat) (e : Option Addr × Nat) : SuperD := { s with states := j.states, so := e.1, sc := e.2, cursor := j.cursor, safe := 1, lost := ((i % 2 : Nat) : Int) == 1 }
theorem spoken_ok {s j : SuperD} (hs : s.okP) (hj : j.okP) (hg : geoEq s j) (i : Nat) (e : Option Addr × Nat) : (spoken s j i e).okP := by
  obtain ⟨g1, g2, g3⟩ := hg
  have f := (form_iff s).1 hs.1
  have k := (form_iff j).1 hj.1
  refine ⟨(form_iff _).2 ?_, hj.2.1, hj.2.2.1, ?_⟩
  · simp only [spoken]
    obtain ⟨⟨a1, a2, a3, a4, a5, a6⟩, b1, b2, b3, b4, b5, b6, b7, b8, b9⟩ := f
    refine ⟨⟨a1, a2, a3, a4, a5, a6⟩, b1, b2, by omega, by omega, b5, b6, b7, b8, ?_⟩
    rw [g1]; exact k.2.2.2.2.2.2.2.2.2
  · have := hj.2.2.2
    unfold SuperD.last at *
    simp only [spoken]
    rw [g3]; exact this
/-- What stands in the new list. -/
def saidB (l : List BalD) (j : SuperD) (es : List (Option Addr × Nat)) (i : Nat) (x : BalD) : Prop :=
  l[i]? = some x ∨ ∃ b e, l[i]? = some b ∧ e ∈ es ∧ i ≠ l.length - 1 ∧ b.s.okP ∧ geoEq b.s j ∧ x = ⟨b.has, spoken b.s j i e⟩
theorem said_mono {l : List BalD} {j : SuperD} {es es' : List (Option Addr × Nat)} {i : Nat} {x : BalD} (h : saidB l j es i x) (hs : ∀ e ∈ es, e ∈ es') : saidB l j es' i x := by
  rcases h with h | ⟨b, e, h1, h2, h3⟩
  · exact .inl h
  · exact .inr ⟨b, e, h1, hs e h2, h3⟩
theorem said_choose {l m : List BalD} {es : List (Option Addr × Nat)} (hl : m.length = l.length) (hj : countsB l (l.length - 1) = true) (h : ∀ i x, m[i]? = some x → saidB l (supAt l (l.length - 1)) es i x) : chooseM m = chooseM l := by
  have hlast := counts_lt l _ hj
  have hjok : (supAt l (l.length - 1)).okP := by rw [supAt_get l _ hlast]; exact ((counts_iff l _ hlast).1 hj).2.1
  have hget : ∀ i, i < l.length → ∃ x b, m[i]? = some x ∧ l[i]? = some b ∧ (x = b ∨ ∃ e, i ≠ l.length - 1 ∧ b.s.okP ∧ geoEq b.s (supAt l (l.length - 1)) ∧ x = ⟨b.has, spoken b.s (supAt l (l.length - 1)) i e⟩) := fun i hi => by
    have hx := List.getElem?_eq_getElem (l := m) (i := i) (by omega)
    rcases h i _ hx with h1 | ⟨b, e, h1, h2, h3, h4, h5, h6⟩
    · exact ⟨_, _, hx, h1, .inl rfl⟩
    · exact ⟨_, b, hx, h1, .inr ⟨e, h3, h4, h5, h6⟩⟩
  have hc : ∀ i, countsB m i = countsB l i := fun i => by
    rcases Nat.lt_or_ge i l.length with hi | hi
    · obtain ⟨x, b, h1, h2, h3⟩ := hget i hi
      unfold countsB
      rw [h1, h2]
      dsimp only
      rcases h3 with rfl | ⟨e, h3, h4, h5, rfl⟩
      · rw [hl]
      · rw [hl]
        have hok := spoken_ok h4 hjok h5 i e
        congr 1
        rw [decide_eq_decide]
        exact ⟨fun k => ⟨h4, k.2.1, k.2.2⟩, fun k => ⟨hok, k.2.1, k.2.2⟩⟩
    · unfold countsB; rw [List.getElem?_eq_none hi, List.getElem?_eq_none (by omega)]
  refine choose_congr hl hc (fun i hi => ?_) (fun i hi => ?_) ?_
  · obtain ⟨x, b, h1, h2, h3⟩ := hget i (counts_lt l i hi)
    unfold supAt; rw [h1, h2]
    rcases h3 with rfl | ⟨e, h3, h4, h5, rfl⟩
    · exact ⟨rfl, ⟨rfl, rfl, rfl⟩, rfl, rfl⟩
    · exact ⟨rfl, ⟨rfl, rfl, rfl⟩, rfl, rfl⟩
  · obtain ⟨x, b, h1, h2, h3⟩ := hget i (counts_lt l i hi)
    unfold evs; rw [h1, h2]
    rcases h3 with rfl | ⟨e, h3, h4, h5, rfl⟩
    · rfl
    · rfl
  · unfold guideM
    rw [hl, hc, if_pos hj, if_pos hj]
    obtain ⟨x, b, h1, h2, h3⟩ := hget _ hlast
    rcases h3 with rfl | ⟨e, h3, -⟩
    · unfold supAt; rw [h1, h2]
    · exact absurd rfl h3
abbrev resE (J : List UInt8) (e : Option Addr × Nat) : SProp := Own 59 1 (.slice e.1 J.length e.2) J.length (bytes J)

set_option maxHeartbeats 8000000 in
theorem vguide_ok {W : World} {ao : Option Addr} {cap : Nat} (l : List BalD) (hB : ∀ R, Bals W R ao l) (hlen : l.length ≤ 140737488351232) :
    Does1 W Try.prog 7 [.slice ao l.length cap] [] (.bool true) [] := by
  (refine Does.enter Try.func7 Try.ntmps7 rfl rfl ?_)
  (refine w ?_; repeat ((first | refine VO.step rfl rfl ?_ | refine VD.end rfl rfl rfl ?_ | refine VD.mid rfl rfl rfl ?_); refine OpV.box rfl rfl rfl ?_; intro _; refine w ?_))
  ((first | refine VO.step rfl rfl ?_ | refine VD.end rfl rfl rfl ?_ | refine VD.mid rfl rfl rfl ?_); refine OpV.call rfl rfl (fun _ _ => by simp) (vmuch_ok hlen (hB _)) Ent.refl rfl ?_)
  intro mb hmb
  (refine w ?_; repeat ((first | refine VO.step rfl rfl ?_ | refine VD.end rfl rfl rfl ?_ | refine VD.mid rfl rfl rfl ?_); refine OpV.box rfl rfl rfl ?_; intro _; refine w ?_))
  cases mb
  rotate_left
  · (refine w ?_; repeat ((first | refine VO.step rfl rfl ?_ | refine VD.end rfl rfl rfl ?_ | refine VD.mid rfl rfl rfl ?_); refine OpV.box rfl rfl rfl ?_; intro _; refine w ?_))
    (refine VE.done1 rfl ?_ ?_)
    · rfl
    · exact Ent.refl
  obtain ⟨hl1, hl2⟩ := hmb rfl
  (refine w ?_; repeat ((first | refine VO.step rfl rfl ?_ | refine VD.end rfl rfl rfl ?_ | refine VD.mid rfl rfl rfl ?_); refine OpV.box rfl rfl rfl ?_; intro _; refine w ?_))
  ((first | refine VO.split rfl rfl rfl ?_ ?_ | refine VD.split rfl rfl rfl ?_ ?_) <;> intro hb)
  · (refine w ?_; repeat ((first | refine VO.step rfl rfl ?_ | refine VD.end rfl rfl rfl ?_ | refine VD.mid rfl rfl rfl ?_); refine OpV.box rfl rfl rfl ?_; intro _; refine w ?_))
    (refine VE.done1 rfl ?_ ?_)
    · rfl
    · exact Ent.refl
  have h4 : 4 ≤ l.length := by have := of_decide_eq_false hb; omega
  (refine w ?_; repeat ((first | refine VO.step rfl rfl ?_ | refine VD.end rfl rfl rfl ?_ | refine VD.mid rfl rfl rfl ?_); refine OpV.box rfl rfl rfl ?_; intro _; refine w ?_))
  (refine VC.cond rfl rfl ?_ ?_ <;> intro hc)
  · (refine w ?_; repeat ((first | refine VO.step rfl rfl ?_ | refine VD.end rfl rfl rfl ?_ | refine VD.mid rfl rfl rfl ?_); refine OpV.box rfl rfl rfl ?_; intro _; refine w ?_))
    (refine VE.done1 rfl ?_ ?_)
    · rfl
    · exact Ent.refl
  have h17 : l.length ≤ 17 := by have := of_decide_eq_false hc; omega
  obtain ⟨la, rfl⟩ : ∃ x, ao = some x := by cases ao with | none => have := (hB []).rds.nil rfl; omega | some x => exact ⟨x, rfl⟩
  have hlast : l.length - 1 < l.length := by omega
  have hjf := (hB []).fit _ (List.getElem_mem hlast)
  have hjst := fun R => (hB R).st _ (List.getElem_mem hlast)
  have hji := counts_iff l _ hlast
  have hjs := supAt_get l _ hlast
  have hcast : ((l.length - 1 : Nat) : Int) = (l.length : Int) - 1 := by omega
  have hjl? := List.getElem?_eq_getElem hlast
  (refine w ?_; repeat ((first | refine VO.step rfl rfl ?_ | refine VD.end rfl rfl rfl ?_ | refine VD.mid rfl rfl rfl ?_); refine OpV.box rfl rfl rfl ?_; intro _; refine w ?_))
  refine VO.re 27 (.int .i64 ((l.length - 1 : Nat) : Int)) rfl (by congr 1; omega) ?_
  (refine w ?_; repeat ((first | refine VO.step rfl rfl ?_ | refine VD.end rfl rfl rfl ?_ | refine VD.mid rfl rfl rfl ?_); refine OpV.box rfl rfl rfl ?_; intro _; refine w ?_))
  (first | refine VO.pure rfl rfl (.ldRA tab_ok rfl rfl (hB _).rds (flat_part l _ hlast (fun _ _ => rfl)) rfl) rfl ?_ | refine VD.take rfl rfl rfl (.ldRA tab_ok rfl rfl (hB _).rds (flat_part l _ hlast (fun _ _ => rfl)) rfl) rfl ?_ | refine VQ.pure rfl rfl (.ldRA tab_ok rfl rfl (hB _).rds (flat_part l _ hlast (fun _ _ => rfl)) rfl) rfl ?_ | refine VD.end rfl rfl rfl (OpV.pure (.ldRA tab_ok rfl rfl (hB _).rds (flat_part l _ hlast (fun _ _ => rfl)) rfl) rfl ?_))
  ((first | refine VO.step rfl rfl ?_ | refine VD.end rfl rfl rfl ?_ | refine VD.mid rfl rfl rfl ?_); refine OpV.allocS sb_61 rfl ?_; intro n3)
  (first | refine VO.step rfl rfl ?_ | refine VD.end rfl rfl rfl ?_ | refine VD.mid rfl rfl rfl ?_)
  refine OpV.stA (vs := (l[l.length - 1]).cells) tab_ok rfl rfl rfl rfl (bal_one _) (by (repeat first | exact .head | apply Hole.tail)) (by simp) ?_
  refine VO.ent (Reord.ent (L := Row n3 61 (l[l.length - 1]).cells :: []) (by (repeat first | exact .refl | (apply Reord.cons; focus repeat first | exact .head | apply Del.tail) | exact .nil | apply Reord.drop))) ?_
  generalize hj : l[l.length - 1] = j at *
  have hjck : (j.s.check != 0) = !decide j.s.okP := by
    unfold SuperD.check; split
    · rename_i h; simp [h]
    · rename_i h; simp [h]
  (refine w ?_; repeat ((first | refine VO.step rfl rfl ?_ | refine VD.end rfl rfl rfl ?_ | refine VD.mid rfl rfl rfl ?_); refine OpV.box rfl rfl rfl ?_; intro _; refine w ?_))
  cases hjh : j.has
  · (refine w ?_; repeat ((first | refine VO.step rfl rfl ?_ | refine VD.end rfl rfl rfl ?_ | refine VD.mid rfl rfl rfl ?_); refine OpV.box rfl rfl rfl ?_; intro _; refine w ?_))
    ((first | refine VO.step rfl rfl ?_ | refine VD.end rfl rfl rfl ?_ | refine VD.mid rfl rfl rfl ?_); refine OpV.call rfl rfl (fun _ _ => by simp) (vknown_ok) Ent.refl rfl ?_; intro _ _)
    (refine w ?_; repeat ((first | refine VO.step rfl rfl ?_ | refine VD.end rfl rfl rfl ?_ | refine VD.mid rfl rfl rfl ?_); refine OpV.box rfl rfl rfl ?_; intro _; refine w ?_))
    (refine VE.done1 rfl ?_ ?_)
    · rfl
    · exact Ent.re
  (refine w ?_; repeat ((first | refine VO.step rfl rfl ?_ | refine VD.end rfl rfl rfl ?_ | refine VD.mid rfl rfl rfl ?_); refine OpV.box rfl rfl rfl ?_; intro _; refine w ?_))
  ((first | refine VO.step rfl rfl ?_ | refine VD.end rfl rfl rfl ?_ | refine VD.mid rfl rfl rfl ?_); refine OpV.call rfl rfl (fun _ _ => by simp) (rcheck_ok j.s hjf (hjst _)) Ent.refl rfl ?_)
  intro _ _
  (refine w ?_; repeat ((first | refine VO.step rfl rfl ?_ | refine VD.end rfl rfl rfl ?_ | refine VD.mid rfl rfl rfl ?_); refine OpV.box rfl rfl rfl ?_; intro _; refine w ?_))
  ((first | refine VO.split rfl rfl rfl ?_ ?_ | refine VD.split rfl rfl rfl ?_ ?_) <;> intro hb)
  · (refine w ?_; repeat ((first | refine VO.step rfl rfl ?_ | refine VD.end rfl rfl rfl ?_ | refine VD.mid rfl rfl rfl ?_); refine OpV.box rfl rfl rfl ?_; intro _; refine w ?_))
    ((first | refine VO.step rfl rfl ?_ | refine VD.end rfl rfl rfl ?_ | refine VD.mid rfl rfl rfl ?_); refine OpV.call rfl rfl (fun _ _ => by simp) (vknown_ok) Ent.refl rfl ?_; intro _ _)
    (refine w ?_; repeat ((first | refine VO.step rfl rfl ?_ | refine VD.end rfl rfl rfl ?_ | refine VD.mid rfl rfl rfl ?_); refine OpV.box rfl rfl rfl ?_; intro _; refine w ?_))
    (refine VE.done1 rfl ?_ ?_)
    · rfl
    · exact Ent.re
  have k1 : j.s.okP := by rw [hjck] at hb; simpa using hb
  (refine w ?_; repeat ((first | refine VO.step rfl rfl ?_ | refine VD.end rfl rfl rfl ?_ | refine VD.mid rfl rfl rfl ?_); refine OpV.box rfl rfl rfl ?_; intro _; refine w ?_))
  ((first | refine VO.split rfl rfl rfl ?_ ?_ | refine VD.split rfl rfl rfl ?_ ?_) <;> intro hb)
  · (refine w ?_; repeat ((first | refine VO.step rfl rfl ?_ | refine VD.end rfl rfl rfl ?_ | refine VD.mid rfl rfl rfl ?_); refine OpV.box rfl rfl rfl ?_; intro _; refine w ?_))
    ((first | refine VO.step rfl rfl ?_ | refine VD.end rfl rfl rfl ?_ | refine VD.mid rfl rfl rfl ?_); refine OpV.call rfl rfl (fun _ _ => by simp) (vknown_ok) Ent.refl rfl ?_; intro _ _)
    (refine w ?_; repeat ((first | refine VO.step rfl rfl ?_ | refine VD.end rfl rfl rfl ?_ | refine VD.mid rfl rfl rfl ?_); refine OpV.box rfl rfl rfl ?_; intro _; refine w ?_))
    (refine VE.done1 rfl ?_ ?_)
    · rfl
    · exact Ent.re
  have k2 : j.s.role = (l.length : Int) - 1 := by simpa using hb
  (refine w ?_; repeat ((first | refine VO.step rfl rfl ?_ | refine VD.end rfl rfl rfl ?_ | refine VD.mid rfl rfl rfl ?_); refine OpV.box rfl rfl rfl ?_; intro _; refine w ?_))
  (refine VC.cond rfl rfl ?_ ?_ <;> intro hc)
  · (refine w ?_; repeat ((first | refine VO.step rfl rfl ?_ | refine VD.end rfl rfl rfl ?_ | refine VD.mid rfl rfl rfl ?_); refine OpV.box rfl rfl rfl ?_; intro _; refine w ?_))
    ((first | refine VO.step rfl rfl ?_ | refine VD.end rfl rfl rfl ?_ | refine VD.mid rfl rfl rfl ?_); refine OpV.call rfl rfl (fun _ _ => by simp) (vknown_ok) Ent.refl rfl ?_; intro _ _)
    (refine w ?_; repeat ((first | refine VO.step rfl rfl ?_ | refine VD.end rfl rfl rfl ?_ | refine VD.mid rfl rfl rfl ?_); refine OpV.box rfl rfl rfl ?_; intro _; refine w ?_))
    (refine VE.done1 rfl ?_ ?_)
    · rfl
    · exact Ent.re
  have k3 : j.s.members = (l.length : Int) - 1 := by simpa using hc
  have hjc : countsB l (l.length - 1) = true := hji.2 ⟨hjh, k1, k3, by rw [k2, hcast]⟩
  have hjlen : j.s.states.length + 1 = l.length := by have := ((form_iff _).1 k1.1).2.2.2.2.2.2.2.2.2; omega
  refine VC.ent (H' := Own 61 13 (.slice none 0 0) 0 [] :: Row n3 61 j.cells :: []) (fun w hw => hw.ownNil _ _) ?_
  (refine w ?_; repeat ((first | refine VO.step rfl rfl ?_ | refine VD.end rfl rfl rfl ?_ | refine VD.mid rfl rfl rfl ?_); refine OpV.box rfl rfl rfl ?_; intro _; refine w ?_))
  refine VC.loop (α := (List BalD × List (Option Addr × Nat)) × Option Addr × Nat) (fun y => y.1.1.length ≤ l.length ∧ ∀ i x, y.1.1[i]? = some x → saidB l j.s y.1.2 i x)
    (fun y => Row n3 61 j.cells :: Own 61 13 (.slice y.2.1 y.1.1.length y.2.2) y.1.1.length (balCells y.1.1) :: (y.1.2.map (resE j.s.states) ++ []))
    (fun y => [(0, .slice (some la) l.length cap), (3, .pointer (some ⟨n3, 0, none⟩)), (4, .slice y.2.1 y.1.1.length y.2.2), (5, .int .i64 y.1.1.length)]) (fun y => l.length - y.1.1.length) rfl (([], []), none, 0) ⟨Nat.zero_le _, fun i x h => by cases h⟩ Ent.re ⟨rfl, rfl, rfl, rfl, trivial⟩ ?_
  rintro ⟨⟨m, es⟩, so, sc⟩ ⟨hi, hsaid⟩
  dsimp only at hi hsaid ⊢
  (refine w ?_; repeat ((first | refine VO.step rfl rfl ?_ | refine VD.end rfl rfl rfl ?_ | refine VD.mid rfl rfl rfl ?_); refine OpV.box rfl rfl rfl ?_; intro _; refine w ?_))
  (refine VC.cond rfl rfl ?_ ?_ <;> intro hc)
  · have hlt : m.length < l.length := by have := of_decide_eq_true hc; omega
    have hft := (hB []).fit _ (List.getElem_mem hlt)
    have hst := fun R => (hB R).st _ (List.getElem_mem hlt)
    have hl? := List.getElem?_eq_getElem hlt
    have hpush : ∀ (x : BalD) (es' : List (Option Addr × Nat)), (∀ e ∈ es, e ∈ es') → saidB l j.s es' m.length x → ∀ i y, (m ++ [x])[i]? = some y → saidB l j.s es' i y := fun x es' hs hx i y h => by
      rcases Nat.lt_or_ge i m.length with q | q
      · rw [List.getElem?_append_left q] at h; exact said_mono (hsaid i y h) hs
      · rw [List.getElem?_append_right q] at h
        have hi0 : i - m.length = 0 := by
          rcases Nat.eq_zero_or_pos (i - m.length) with e | e
          · exact e
          · rw [List.getElem?_eq_none (by simp; omega)] at h; cases h
        rw [hi0] at h
        obtain rfl : x = y := by simpa using h
        obtain rfl : i = m.length := by omega
        exact hx
    (refine w ?_; repeat ((first | refine VO.step rfl rfl ?_ | refine VD.end rfl rfl rfl ?_ | refine VD.mid rfl rfl rfl ?_); refine OpV.box rfl rfl rfl ?_; intro _; refine w ?_))
    (first | refine VO.pure rfl rfl (.ldRA tab_ok rfl rfl (hB _).rds (flat_part l m.length hlt (fun _ _ => rfl)) rfl) rfl ?_ | refine VD.take rfl rfl rfl (.ldRA tab_ok rfl rfl (hB _).rds (flat_part l m.length hlt (fun _ _ => rfl)) rfl) rfl ?_ | refine VQ.pure rfl rfl (.ldRA tab_ok rfl rfl (hB _).rds (flat_part l m.length hlt (fun _ _ => rfl)) rfl) rfl ?_ | refine VD.end rfl rfl rfl (OpV.pure (.ldRA tab_ok rfl rfl (hB _).rds (flat_part l m.length hlt (fun _ _ => rfl)) rfl) rfl ?_))
    ((first | refine VO.step rfl rfl ?_ | refine VD.end rfl rfl rfl ?_ | refine VD.mid rfl rfl rfl ?_); refine OpV.allocS sb_61 rfl ?_; intro n6)
    (first | refine VO.step rfl rfl ?_ | refine VD.end rfl rfl rfl ?_ | refine VD.mid rfl rfl rfl ?_)
    refine OpV.stA (vs := (l[m.length]).cells) tab_ok rfl rfl rfl rfl (bal_one _) (by (repeat first | exact .head | apply Hole.tail)) (by simp) ?_
    refine VO.ent (Reord.ent (L := Row n6 61 (l[m.length]).cells :: Row n3 61 j.cells :: Own 61 13 (.slice so m.length sc) m.length (balCells m) :: (es.map (resE j.s.states) ++ [])) (by (repeat first | exact .refl | (apply Reord.cons; focus repeat first | exact .head | apply Del.tail) | exact .nil | apply Reord.drop))) ?_
    generalize hbv : l[m.length] = b at *
    have hck : (b.s.check != 0) = !decide b.s.okP := by
      unfold SuperD.check; split
      · rename_i h; simp [h]
      · rename_i h; simp [h]
    (refine w ?_; repeat ((first | refine VO.step rfl rfl ?_ | refine VD.end rfl rfl rfl ?_ | refine VD.mid rfl rfl rfl ?_); refine OpV.box rfl rfl rfl ?_; intro _; refine w ?_))
    ((first | refine VO.step rfl rfl ?_ | refine VD.end rfl rfl rfl ?_ | refine VD.mid rfl rfl rfl ?_); refine OpV.call rfl rfl (fun _ _ => by simp) (rcheck_ok b.s hft (hst _)) Ent.refl rfl ?_)
    intro _ _
    (refine w ?_; repeat ((first | refine VO.step rfl rfl ?_ | refine VD.end rfl rfl rfl ?_ | refine VD.mid rfl rfl rfl ?_); refine OpV.box rfl rfl rfl ?_; intro _; refine w ?_))
    ((first | refine VO.split rfl rfl rfl ?_ ?_ | refine VD.split rfl rfl rfl ?_ ?_) <;> intro hb)
    · (refine w ?_; repeat ((first | refine VO.step rfl rfl ?_ | refine VD.end rfl rfl rfl ?_ | refine VD.mid rfl rfl rfl ?_); refine OpV.box rfl rfl rfl ?_; intro _; refine w ?_))
      ((first | refine VO.step rfl rfl ?_ | refine VD.end rfl rfl rfl ?_ | refine VD.mid rfl rfl rfl ?_); refine OpV.buildSlice (cs := b.cells) st_22 rfl rfl (by simp [Value.cells]) (agg_flat _) (by decide) rfl ?_; intro nc; (first | refine VO.step rfl rfl ?_ | refine VD.end rfl rfl rfl ?_ | refine VD.mid rfl rfl rfl ?_); refine OpV.appendRow st_22 rfl rfl (by (repeat first | exact .head | apply Hole.tail)) (by (focus repeat first | exact .head _ | apply List.Mem.tail)) rfl (bal_one _) (by simp only [maxLen]; omega) (by omega) rfl ?_; intro so' sc'; (refine w ?_; repeat ((first | refine VO.step rfl rfl ?_ | refine VD.end rfl rfl rfl ?_ | refine VD.mid rfl rfl rfl ?_); refine OpV.box rfl rfl rfl ?_; intro _; refine w ?_)); refine VE.round ((m ++ [b], es), so', sc') ⟨by simp only [List.length_append, List.length_singleton]; omega, hpush _ _ (fun e h => h) (.inl hl?)⟩ (by simp only [List.length_append, List.length_singleton]; omega) ⟨rfl, rfl, asV rfl (by simp), asV rfl (by simp), trivial⟩ ?_; dsimp only; rw [balCells_push, List.length_append, List.length_singleton])
      exact Ent.re
    have h1 : b.s.okP := by rw [hck] at hb; simpa using hb
    (refine w ?_; repeat ((first | refine VO.step rfl rfl ?_ | refine VD.end rfl rfl rfl ?_ | refine VD.mid rfl rfl rfl ?_); refine OpV.box rfl rfl rfl ?_; intro _; refine w ?_))
    refine VO.pure rfl rfl (geo_eq (a := b.s) (b := j.s) rfl rfl hft hjf rfl) rfl ?_
    (refine w ?_; repeat ((first | refine VO.step rfl rfl ?_ | refine VD.end rfl rfl rfl ?_ | refine VD.mid rfl rfl rfl ?_); refine OpV.box rfl rfl rfl ?_; intro _; refine w ?_))
    (refine VC.cond rfl rfl ?_ ?_ <;> intro hc)
    · (refine w ?_; repeat ((first | refine VO.step rfl rfl ?_ | refine VD.end rfl rfl rfl ?_ | refine VD.mid rfl rfl rfl ?_); refine OpV.box rfl rfl rfl ?_; intro _; refine w ?_))
      ((first | refine VO.step rfl rfl ?_ | refine VD.end rfl rfl rfl ?_ | refine VD.mid rfl rfl rfl ?_); refine OpV.buildSlice (cs := b.cells) st_22 rfl rfl (by simp [Value.cells]) (agg_flat _) (by decide) rfl ?_; intro nc; (first | refine VO.step rfl rfl ?_ | refine VD.end rfl rfl rfl ?_ | refine VD.mid rfl rfl rfl ?_); refine OpV.appendRow st_22 rfl rfl (by (repeat first | exact .head | apply Hole.tail)) (by (focus repeat first | exact .head _ | apply List.Mem.tail)) rfl (bal_one _) (by simp only [maxLen]; omega) (by omega) rfl ?_; intro so' sc'; (refine w ?_; repeat ((first | refine VO.step rfl rfl ?_ | refine VD.end rfl rfl rfl ?_ | refine VD.mid rfl rfl rfl ?_); refine OpV.box rfl rfl rfl ?_; intro _; refine w ?_)); refine VE.round ((m ++ [b], es), so', sc') ⟨by simp only [List.length_append, List.length_singleton]; omega, hpush _ _ (fun e h => h) (.inl hl?)⟩ (by simp only [List.length_append, List.length_singleton]; omega) ⟨rfl, rfl, asV rfl (by simp), asV rfl (by simp), trivial⟩ ?_; dsimp only; rw [balCells_push, List.length_append, List.length_singleton])
      exact Ent.re
    have h2 : geoEq b.s j.s := by have : decide (b.s.members = j.s.members ∧ b.s.chunk = j.s.chunk ∧ b.s.stripes = j.s.stripes) = true := (by simpa using hc); exact of_decide_eq_true this
    (refine w ?_; repeat ((first | refine VO.step rfl rfl ?_ | refine VD.end rfl rfl rfl ?_ | refine VD.mid rfl rfl rfl ?_); refine OpV.box rfl rfl rfl ?_; intro _; refine w ?_))
    refine VO.ent (H' := Own 59 1 (.slice none 0 0) 0 [] :: Row n6 61 b.cells :: Row n3 61 j.cells :: Own 61 13 (.slice so m.length sc) m.length (balCells m) :: (es.map (resE j.s.states) ++ [])) (fun w hw => hw.ownNil _ _) ?_
    (first | refine VO.step rfl rfl ?_ | refine VD.end rfl rfl rfl ?_ | refine VD.mid rfl rfl rfl ?_)
    refine OpV.append st_28 rfl rfl .head (fun w hw => ((hjst _).sees (cap := j.s.sc) hw).src st_28.und) (by simp only [maxLen]; omega) (by omega) rfl ?_
    intro e1 e2
    simp only [Nat.zero_add, List.nil_append]
    (refine w ?_; repeat ((first | refine VO.step rfl rfl ?_ | refine VD.end rfl rfl rfl ?_ | refine VD.mid rfl rfl rfl ?_); refine OpV.box rfl rfl rfl ?_; intro _; refine w ?_))
    (first | refine VO.pure rfl rfl (PureAt.rem (b := 2) rfl rfl (by decide)) rfl ?_ | refine VD.take rfl rfl rfl (PureAt.rem (b := 2) rfl rfl (by decide)) rfl ?_ | refine VQ.pure rfl rfl (PureAt.rem (b := 2) rfl rfl (by decide)) rfl ?_ | refine VD.end rfl rfl rfl (OpV.pure (PureAt.rem (b := 2) rfl rfl (by decide)) rfl ?_))
    (refine w ?_; repeat ((first | refine VO.step rfl rfl ?_ | refine VD.end rfl rfl rfl ?_ | refine VD.mid rfl rfl rfl ?_); refine OpV.box rfl rfl rfl ?_; intro _; refine w ?_))
    obtain ⟨X, hX⟩ : ∃ X : BalD, X = ⟨b.has, spoken b.s j.s m.length (e1, e2)⟩ := ⟨_, rfl⟩
    refine VC.ent (H' := Row n6 61 X.cells :: Row n3 61 j.cells :: Own 61 13 (.slice so m.length sc) m.length (balCells m) :: ((es ++ [(e1, e2)]).map (resE j.s.states) ++ [])) (by
      subst hX
      refine Ent.trans (Ent.re (L := Row n6 61 (BalD.cells ⟨b.has, spoken b.s j.s m.length (e1, e2)⟩) :: Row n3 61 j.cells :: Own 61 13 (.slice so m.length sc) m.length (balCells m) :: resE j.s.states (e1, e2) :: (es.map (resE j.s.states) ++ []))) (fun w hw => ?_)
      rw [List.map_append, List.append_assoc]
      exact hw.perm (List.Perm.cons _ (List.Perm.cons _ (List.Perm.cons _ List.perm_middle.symm)))) ?_
    (refine VC.cond rfl rfl ?_ ?_ <;> intro hc)
    · have hi2 : m.length = l.length - 1 := by have : (m.length : Int) = l.length - 1 := (by simpa using hc); omega
      (refine w ?_; repeat ((first | refine VO.step rfl rfl ?_ | refine VD.end rfl rfl rfl ?_ | refine VD.mid rfl rfl rfl ?_); refine OpV.box rfl rfl rfl ?_; intro _; refine w ?_))
      (first | refine VO.step rfl rfl ?_ | refine VD.end rfl rfl rfl ?_ | refine VD.mid rfl rfl rfl ?_)
      refine OpV.stA (vs := j.cells) tab_ok rfl rfl rfl rfl (bal_one _) (by (repeat first | exact .head | apply Hole.tail)) (by simp) ?_
      (refine w ?_; repeat ((first | refine VO.step rfl rfl ?_ | refine VD.end rfl rfl rfl ?_ | refine VD.mid rfl rfl rfl ?_); refine OpV.box rfl rfl rfl ?_; intro _; refine w ?_))
      ((first | refine VO.step rfl rfl ?_ | refine VD.end rfl rfl rfl ?_ | refine VD.mid rfl rfl rfl ?_); refine OpV.buildSlice (cs := j.cells) st_22 rfl rfl (by simp [Value.cells]) (agg_flat _) (by decide) rfl ?_; intro nc; (first | refine VO.step rfl rfl ?_ | refine VD.end rfl rfl rfl ?_ | refine VD.mid rfl rfl rfl ?_); refine OpV.appendRow st_22 rfl rfl (by (repeat first | exact .head | apply Hole.tail)) (by (focus repeat first | exact .head _ | apply List.Mem.tail)) rfl (bal_one _) (by simp only [maxLen]; omega) (by omega) rfl ?_; intro so' sc'; (refine w ?_; repeat ((first | refine VO.step rfl rfl ?_ | refine VD.end rfl rfl rfl ?_ | refine VD.mid rfl rfl rfl ?_); refine OpV.box rfl rfl rfl ?_; intro _; refine w ?_)); refine VE.round ((m ++ [j], es ++ [(e1, e2)]), so', sc') ⟨by simp only [List.length_append, List.length_singleton]; omega, hpush _ _ (fun e h => List.mem_append_left _ h) (.inl (by rw [hi2]; exact hjl?))⟩ (by simp only [List.length_append, List.length_singleton]; omega) ⟨rfl, rfl, asV rfl (by simp), asV rfl (by simp), trivial⟩ ?_; dsimp only; rw [balCells_push, List.length_append, List.length_singleton])
      exact Ent.re
    · have hi2 : m.length ≠ l.length - 1 := by intro e; have : ¬ (m.length : Int) = l.length - 1 := (by simpa using hc); omega
      (refine w ?_; repeat ((first | refine VO.step rfl rfl ?_ | refine VD.end rfl rfl rfl ?_ | refine VD.mid rfl rfl rfl ?_); refine OpV.box rfl rfl rfl ?_; intro _; refine w ?_))
      ((first | refine VO.step rfl rfl ?_ | refine VD.end rfl rfl rfl ?_ | refine VD.mid rfl rfl rfl ?_); refine OpV.buildSlice (cs := X.cells) st_22 rfl rfl (by simp [Value.cells]) (agg_flat _) (by decide) rfl ?_; intro nc; (first | refine VO.step rfl rfl ?_ | refine VD.end rfl rfl rfl ?_ | refine VD.mid rfl rfl rfl ?_); refine OpV.appendRow st_22 rfl rfl (by (repeat first | exact .head | apply Hole.tail)) (by (focus repeat first | exact .head _ | apply List.Mem.tail)) rfl (bal_one _) (by simp only [maxLen]; omega) (by omega) rfl ?_; intro so' sc'; (refine w ?_; repeat ((first | refine VO.step rfl rfl ?_ | refine VD.end rfl rfl rfl ?_ | refine VD.mid rfl rfl rfl ?_); refine OpV.box rfl rfl rfl ?_; intro _; refine w ?_)); refine VE.round ((m ++ [X], es ++ [(e1, e2)]), so', sc') ⟨by simp only [List.length_append, List.length_singleton]; omega, hpush _ _ (fun e h => List.mem_append_left _ h) (.inr ⟨b, (e1, e2), hl?, List.mem_append_right _ (.head _), hi2, h1, h2, hX⟩)⟩ (by simp only [List.length_append, List.length_singleton]; omega) ⟨rfl, rfl, asV rfl (by simp), asV rfl (by simp), trivial⟩ ?_; dsimp only; rw [balCells_push, List.length_append, List.length_singleton])
      exact Ent.re
  have hge : m.length = l.length := by have := of_decide_eq_false hc; omega
  have hcho := said_choose hge hjc (by rw [hjs]; exact hsaid)
  rw [hge]
  refine VC.know (p := (∀ e ∈ es, e.1 ≠ none) ∧ ∀ e ∈ es, j.s.states.length ≤ e.2) (fun w hw => ?_) ?_
  · have hmm : ∀ e ∈ es, resE j.s.states e ∈ Row n3 61 j.cells :: Own 61 13 (.slice so l.length sc) l.length (balCells m) :: (es.map (resE j.s.states) ++ []) := fun e he => .tail _ (.tail _ (List.mem_append_left _ (List.mem_map_of_mem he)))
    exact ⟨fun e he h => by have := Holds.ownNone hw (hmm e he) h; omega, fun e he => Holds.ownCap hw (hmm e he)⟩
  rintro ⟨hne, hcp⟩
  have hmemE : ∀ e ∈ es, ∀ A B C : SProp, resE j.s.states e ∈ A :: B :: C :: (es.map (resE j.s.states) ++ []) := fun e he A B C => .tail _ (.tail _ (.tail _ (List.mem_append_left _ (List.mem_map_of_mem he))))
  (refine w ?_; repeat ((first | refine VO.step rfl rfl ?_ | refine VD.end rfl rfl rfl ?_ | refine VD.mid rfl rfl rfl ?_); refine OpV.box rfl rfl rfl ?_; intro _; refine w ?_))
  ((first | refine VO.step rfl rfl ?_ | refine VD.end rfl rfl rfl ?_ | refine VD.mid rfl rfl rfl ?_); refine OpV.call rfl rfl (fun _ _ => by simp) (choose_ok (l := l) (by omega) (hB _)) Ent.refl rfl ?_)
  rintro ⟨xo, xc⟩ _
  dsimp only
  refine VO.know (p := xo = none → (chooseM l).2.st.length = 0) (fun w hw => Holds.ownNone hw (.head _)) ?_
  intro hxn
  refine VO.know (p := (chooseM l).2.st.length ≤ xc) (fun w hw => Holds.ownCap hw (.head _)) ?_
  intro hxc
  have hvf := choose_fit l (hB []).fit (xo, xc) hxc
  (refine w ?_; repeat ((first | refine VO.step rfl rfl ?_ | refine VD.end rfl rfl rfl ?_ | refine VD.mid rfl rfl rfl ?_); refine OpV.box rfl rfl rfl ?_; intro _; refine w ?_))
  ((first | refine VO.step rfl rfl ?_ | refine VD.end rfl rfl rfl ?_ | refine VD.mid rfl rfl rfl ?_); refine OpV.allocS sb_32 rfl ?_; intro n8)
  (refine w ?_; repeat ((first | refine VO.step rfl rfl ?_ | refine VD.end rfl rfl rfl ?_ | refine VD.mid rfl rfl rfl ?_); refine OpV.box rfl rfl rfl ?_; intro _; refine w ?_))
  (first | refine VO.step rfl rfl ?_ | refine VD.end rfl rfl rfl ?_ | refine VD.mid rfl rfl rfl ?_)
  refine OpV.stA (vs := (chooseM l).2.cells (xo, xc)) tab_ok rfl rfl rfl rfl (vCells_one _ _ _ _ _ _ _) (by (repeat first | exact .head | apply Hole.tail)) (by simp) ?_
  refine VO.ent (Reord.ent (L := Row n8 32 ((chooseM l).2.cells (xo, xc)) :: Own 59 1 (.slice xo (chooseM l).2.st.length xc) (chooseM l).2.st.length (bytes (chooseM l).2.st) :: Own 61 13 (.slice so l.length sc) l.length (balCells m) :: (es.map (resE j.s.states) ++ [])) (by (repeat first | exact .refl | (apply Reord.cons; focus repeat first | exact .head | apply Del.tail) | exact .nil | apply Reord.drop))) ?_
  refine VO.know (p := so = none → l.length = 0) (fun w hw => Holds.ownNone hw (.tail _ (.tail _ (.head _)))) ?_
  intro hson
  have hBm : ∀ R, Own 61 13 (.slice so l.length sc) l.length (balCells m) ∈ R → (∀ e ∈ es, resE j.s.states e ∈ R) → (∀ e ∈ es, e.1 ≠ none) → (∀ e ∈ es, j.s.states.length ≤ e.2) → Bals W R so m := fun R hR hE hne hcp => by
    refine ⟨Rds.own (fun u hu => by obtain ⟨b, _, h⟩ := List.mem_flatMap.1 hu; exact bal_one b u h) (by rw [hge]; exact hR) (balCells_length _) (by rw [hge]; exact hson), fun b hb => ?_, fun b hb => ?_⟩
    · obtain ⟨i, hi, rfl⟩ := List.mem_iff_getElem.1 hb
      rcases hsaid i _ (List.getElem?_eq_getElem hi) with h | ⟨b, e, h1, h2, h3, h4, h5, h6⟩
      · exact (hB R).st _ (List.mem_of_getElem? h)
      · rw [h6]
        exact Rds.own (bytes_one _) (hE e h2) (by simp [spoken]) (fun h => absurd h (hne e h2))
    · obtain ⟨i, hi, rfl⟩ := List.mem_iff_getElem.1 hb
      rcases hsaid i _ (List.getElem?_eq_getElem hi) with h | ⟨b, e, h1, h2, h3, h4, h5, h6⟩
      · exact (hB R).fit _ (List.mem_of_getElem? h)
      · rw [h6]
        have f := (hB R).fit _ (List.mem_of_getElem? h1)
        exact ⟨f.id, f.events, by simp [spoken], f.role, f.members, f.chunk, f.stripes, f.ring, hjf.cursor, hjf.len, hcp e h2⟩
  (refine w ?_; repeat ((first | refine VO.step rfl rfl ?_ | refine VD.end rfl rfl rfl ?_ | refine VD.mid rfl rfl rfl ?_); refine OpV.box rfl rfl rfl ?_; intro _; refine w ?_))
  ((first | refine VO.step rfl rfl ?_ | refine VD.end rfl rfl rfl ?_ | refine VD.mid rfl rfl rfl ?_); refine OpV.call rfl rfl (fun _ _ => by simp) (choose_n (l := m) hge (by omega) (hBm _ (by (focus repeat first | exact .head _ | apply List.Mem.tail)) (fun e he => hmemE e he _ _ _) hne hcp)) Ent.refl rfl ?_)
  rw [hcho]
  rintro ⟨yo, yc⟩ _
  dsimp only
  refine VO.know (p := yo = none → (chooseM l).2.st.length = 0) (fun w hw => Holds.ownNone hw (.head _)) ?_
  intro hyn
  refine VO.know (p := (chooseM l).2.st.length ≤ yc) (fun w hw => Holds.ownCap hw (.head _)) ?_
  intro hyc
  have hwf := choose_fit l (hB []).fit (yo, yc) hyc
  (refine w ?_; repeat ((first | refine VO.step rfl rfl ?_ | refine VD.end rfl rfl rfl ?_ | refine VD.mid rfl rfl rfl ?_); refine OpV.box rfl rfl rfl ?_; intro _; refine w ?_))
  ((first | refine VO.step rfl rfl ?_ | refine VD.end rfl rfl rfl ?_ | refine VD.mid rfl rfl rfl ?_); refine OpV.allocS sb_32 rfl ?_; intro n10)
  (refine w ?_; repeat ((first | refine VO.step rfl rfl ?_ | refine VD.end rfl rfl rfl ?_ | refine VD.mid rfl rfl rfl ?_); refine OpV.box rfl rfl rfl ?_; intro _; refine w ?_))
  (first | refine VO.step rfl rfl ?_ | refine VD.end rfl rfl rfl ?_ | refine VD.mid rfl rfl rfl ?_)
  refine OpV.stA (vs := (chooseM l).2.cells (yo, yc)) tab_ok rfl rfl rfl rfl (vCells_one _ _ _ _ _ _ _) (by (repeat first | exact .head | apply Hole.tail)) (by simp) ?_
  refine VO.ent (Reord.ent (L := Row n10 32 ((chooseM l).2.cells (yo, yc)) :: Row n8 32 ((chooseM l).2.cells (xo, xc)) :: Own 59 1 (.slice xo (chooseM l).2.st.length xc) (chooseM l).2.st.length (bytes (chooseM l).2.st) :: Own 59 1 (.slice yo (chooseM l).2.st.length yc) (chooseM l).2.st.length (bytes (chooseM l).2.st) :: []) (by (repeat first | exact .refl | (apply Reord.cons; focus repeat first | exact .head | apply Del.tail) | exact .nil | apply Reord.drop))) ?_
  (refine w ?_; repeat ((first | refine VO.step rfl rfl ?_ | refine VD.end rfl rfl rfl ?_ | refine VD.mid rfl rfl rfl ?_); refine OpV.box rfl rfl rfl ?_; intro _; refine w ?_))
  ((first | refine VO.step rfl rfl ?_ | refine VD.end rfl rfl rfl ?_ | refine VD.mid rfl rfl rfl ?_); refine OpV.call rfl rfl (fun _ _ => by simp) (vknown_ok) Ent.refl rfl ?_; intro _ _)
  (refine w ?_; repeat ((first | refine VO.step rfl rfl ?_ | refine VD.end rfl rfl rfl ?_ | refine VD.mid rfl rfl rfl ?_); refine OpV.box rfl rfl rfl ?_; intro _; refine w ?_))
  (first | refine VO.gT rfl rfl rfl (by simp) ?_ | refine VD.gT rfl rfl rfl (by simp) ?_)
  (refine w ?_; repeat ((first | refine VO.step rfl rfl ?_ | refine VD.end rfl rfl rfl ?_ | refine VD.mid rfl rfl rfl ?_); refine OpV.box rfl rfl rfl ?_; intro _; refine w ?_))
  ((first | refine VO.step rfl rfl ?_ | refine VD.end rfl rfl rfl ?_ | refine VD.mid rfl rfl rfl ?_); refine OpV.call rfl rfl (fun _ _ => by simp) (samever_ok (chooseM l).2 (chooseM l).2 (xo, xc) (yo, yc) hvf hwf (Rds.own (bytes_one _) (by (focus repeat first | exact .head _ | apply List.Mem.tail)) (by simp) hxn) (Rds.own (bytes_one _) (by (focus repeat first | exact .head _ | apply List.Mem.tail)) (by simp) hyn)) Ent.refl rfl ?_; intro _ _)
  rw [same_refl]
  (refine w ?_; repeat ((first | refine VO.step rfl rfl ?_ | refine VD.end rfl rfl rfl ?_ | refine VD.mid rfl rfl rfl ?_); refine OpV.box rfl rfl rfl ?_; intro _; refine w ?_))
  (refine VE.done1 rfl ?_ ?_)
  · rfl
  · exact Ent.re
end Go.Proofs.Ytlflmnmkgaeabaa
