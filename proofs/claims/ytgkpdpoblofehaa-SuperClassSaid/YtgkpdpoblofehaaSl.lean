/- A small separation layer over the walk: a list of resources holds of the blocks that a call has made. Generic: no program is named. -/
import Derived.WalkKit
import Derived.WalkSpells
import Derived.WalkLawsBesides
import Derived.Deep.Draws
import Derived.Deep.QuietTactic
import Derived.BigQuiet
set_option maxRecDepth 8000
set_option linter.unusedVariables false
set_option linter.unusedSimpArgs false
set_option linter.unusedSectionVars false
namespace Go.Sl
open Go.RowKit

abbrev Frag := Nat → Option Obj
abbrev SProp := Frag → Prop

def Frag.sub (a b : Frag) : Prop := ∀ k o, a k = some o → b k = some o
def Frag.disj (a b : Frag) : Prop := ∀ k, a k = none ∨ b k = none

theorem Frag.sub.refl (a : Frag) : Frag.sub a a := fun _ _ h => h
theorem Frag.sub.trans {a b c : Frag} (h : Frag.sub a b) (k : Frag.sub b c) : Frag.sub a c := fun x o hx => k x o (h x o hx)
theorem Frag.disj.symm {a b : Frag} (h : Frag.disj a b) : Frag.disj b a := fun k => (h k).symm

def star : List SProp → SProp
  | [], _ => True
  | P :: H, h => ∃ h1 h2, Frag.sub h1 h ∧ Frag.sub h2 h ∧ Frag.disj h1 h2 ∧ P h1 ∧ star H h2

theorem star.up : ∀ {H : List SProp} {h h' : Frag}, Frag.sub h h' → star H h → star H h'
  | [], _, _, _, _ => trivial
  | _ :: _, _, _, hs, ⟨h1, h2, a, b, c, d, e⟩ => ⟨h1, h2, a.trans hs, b.trans hs, c, d, e⟩

theorem star.swap {P Q : SProp} {H : List SProp} {h : Frag} : star (P :: Q :: H) h → star (Q :: P :: H) h := by
  rintro ⟨h1, h2, a, b, c, d, k1, k2, a', b', c', d', e⟩
  refine ⟨k1, fun k => (h1 k).or (k2 k), a'.trans b, ?_, ?_, d', h1, k2, ?_, ?_, ?_, d, e⟩
  · intro x o hx
    simp only [Option.or_eq_some_iff] at hx
    rcases hx with hx | ⟨_, hx⟩
    · exact a x o hx
    · exact b x o (b' x o hx)
  · intro x
    rcases c' x with hk | hk
    · exact .inl hk
    · rcases hq : k1 x with _ | o
      · exact .inl rfl
      · right
        rcases c x with h | h
        · simp [h, hk]
        · rw [a' x o hq] at h; cases h
  · intro x o hx; simp [hx]
  · intro x o hx
    rcases c x with h | h
    · simp [h, hx]
    · rw [b' x o hx] at h; cases h
  · intro x
    rcases c x with h | h
    · exact .inl h
    · right
      rcases hq : k2 x with _ | o
      · rfl
      · rw [b' x o hq] at h; cases h

theorem star.cons {P P' : SProp} {H H' : List SProp} {h : Frag} (hp : ∀ k, P k → P' k) (hh : ∀ k, star H k → star H' k) : star (P :: H) h → star (P' :: H') h := by
  rintro ⟨h1, h2, a, b, c, d, e⟩
  exact ⟨h1, h2, a, b, c, hp _ d, hh _ e⟩

theorem star.perm {H H' : List SProp} (p : List.Perm H H') : ∀ {h : Frag}, star H h → star H' h := by
  induction p with
  | nil => exact fun h => h
  | cons x _ ih => exact fun h => star.cons (fun _ k => k) (fun _ k => ih k) h
  | swap x y l => exact fun h => star.swap h
  | trans _ _ ih1 ih2 => exact fun h => ih2 (ih1 h)

theorem star.tail {P : SProp} {H : List SProp} {h : Frag} : star (P :: H) h → star H h := fun ⟨_, _, _, b, _, _, e⟩ => star.up b e

/-- A group of resources is one resource. -/
theorem star.join : ∀ {L R : List SProp} {h : Frag}, star (star L :: R) h → star (L ++ R) h
  | [], _, _, h => star.tail h
  | P :: L, R, h, ⟨h1, h2, a, b, c, ⟨k1, k2, a', b', c', d', e'⟩, e⟩ => by
    refine ⟨k1, fun k => (k2 k).or (h2 k), a'.trans a, ?_, ?_, d', star.join ⟨k2, h2, ?_, ?_, ?_, e', e⟩⟩
    · intro x o hx
      simp only [Option.or_eq_some_iff] at hx
      rcases hx with hx | ⟨_, hx⟩
      · exact a x o (b' x o hx)
      · exact b x o hx
    · intro x
      rcases c' x with hk | hk
      · exact .inl hk
      · rcases hq : k1 x with _ | o
        · exact .inl rfl
        · right
          rcases c x with h | h
          · rw [a' x o hq] at h; cases h
          · simp [h, hk]
    · intro x o hx; simp [hx]
    · intro x o hx
      rcases hq : k2 x with _ | o'
      · simp [hx, hq]
      · rcases c x with h | h
        · rw [b' x o' hq] at h; cases h
        · rw [hx] at h; cases h
    · intro x
      rcases c x with h | h
      · rcases hq : k2 x with _ | o'
        · exact .inl rfl
        · rw [b' x o' hq] at h; cases h
      · exact .inr h

theorem star.nest : ∀ {L R : List SProp} {h : Frag}, star (L ++ R) h → star (star L :: R) h
  | [], R, h, e => ⟨fun _ => none, h, (fun _ _ x => by cases x), Frag.sub.refl _, (fun _ => .inl rfl), trivial, e⟩
  | P :: L, R, h, ⟨k1, k2, a, b, c, d, e⟩ => by
    obtain ⟨l1, l2, a', b', c', d', e'⟩ := star.nest e
    refine ⟨fun k => (k1 k).or (l1 k), l2, ?_, b'.trans b, ?_, ⟨k1, l1, ?_, ?_, ?_, d, d'⟩, e'⟩
    · intro x o hx
      simp only [Option.or_eq_some_iff] at hx
      rcases hx with hx | ⟨_, hx⟩
      · exact a x o hx
      · exact b x o (a' x o hx)
    · intro x
      rcases c' x with hk | hk
      · rcases c x with h | h
        · left; simp [h, hk]
        · right
          rcases hq : l2 x with _ | o
          · rfl
          · rw [b' x o hq] at h; cases h
      · exact .inr hk
    · intro x o hx; simp [hx]
    · intro x o hx
      rcases hq : k1 x with _ | o'
      · simp [hx, hq]
      · rcases c x with h | h
        · rw [h] at hq; cases hq
        · rw [a' x o hx] at h; cases h
    · intro x
      rcases c x with h | h
      · exact .inl h
      · right
        rcases hq : l1 x with _ | o
        · rfl
        · rw [a' x o hq] at h; cases h

/-- What a call has made: the blocks from the first world's end on. -/
def frag (W w : World) : Frag := fun k => if k < W.heap.size then none else w.heap[k]?

structure Holds (W : World) (H : List SProp) (w : World) : Prop where
  below : Below W.heap.size W w
  star : star H (frag W w)

/-- One block that holds this object. -/
def At (b : Nat) (o : Obj) : SProp := fun h => h b = some o
/-- One block of cells. -/
abbrev Row (b : Nat) (T : TypeId) (cs : List Value) : SProp := At b (.cells cs.toArray T (0, 0))
/-- A fact, no memory. -/
def fact (p : Prop) : SProp := fun _ => p
def ex {α : Type} (P : α → SProp) : SProp := fun h => ∃ x, P x h

section
variable {W w : World} {H H' R L : List SProp} {P P' Q : SProp}

theorem Holds.start (W : World) : Holds W [] W := ⟨Below.refl _ _, trivial⟩
theorem Holds.nil (h : Below W.heap.size W w) : Holds W [] w := ⟨h, trivial⟩
theorem Holds.perm (p : List.Perm H H') (h : Holds W H w) : Holds W H' w := ⟨h.below, star.perm p h.star⟩
theorem Holds.tail (h : Holds W (P :: R) w) : Holds W R w := ⟨h.below, star.tail h.star⟩
theorem Holds.cons (hp : ∀ k, P k → P' k) (h : Holds W (P :: R) w) : Holds W (P' :: R) w := ⟨h.below, star.cons hp (fun _ k => k) h.star⟩
theorem Holds.join (h : Holds W (Sl.star L :: R) w) : Holds W (L ++ R) w := ⟨h.below, star.join h.star⟩
theorem Holds.nest (h : Holds W (L ++ R) w) : Holds W (Sl.star L :: R) w := ⟨h.below, star.nest h.star⟩
theorem Holds.swap (h : Holds W (P :: Q :: R) w) : Holds W (Q :: P :: R) w := ⟨h.below, star.swap h.star⟩

theorem Holds.exOpen {α : Type} {P : α → SProp} (h : Holds W (ex P :: R) w) : ∃ x, Holds W (P x :: R) w := by
  obtain ⟨hb, h1, h2, a, b, c, ⟨x, d⟩, e⟩ := h
  exact ⟨x, hb, h1, h2, a, b, c, d, e⟩
theorem Holds.exShut {α : Type} {P : α → SProp} (x : α) (h : Holds W (P x :: R) w) : Holds W (ex P :: R) w := by
  obtain ⟨hb, h1, h2, a, b, c, d, e⟩ := h
  exact ⟨hb, h1, h2, a, b, c, ⟨x, d⟩, e⟩
theorem Holds.factOpen {p : Prop} (h : Holds W (fact p :: R) w) : p := by
  obtain ⟨_, _, _, _, _, _, d, _⟩ := h
  exact d
theorem Holds.factShut {p : Prop} (hp : p) (h : Holds W R w) : Holds W (fact p :: R) w :=
  ⟨h.below, fun _ => none, frag W w, (fun _ _ x => by cases x), Frag.sub.refl _, (fun _ => .inl rfl), hp, h.star⟩

/-- The n-th resource to the front. -/
def pick {α : Type} : Nat → List α → List α
  | 0, l => l
  | n + 1, x :: l => match pick n l with
    | y :: r => y :: x :: r
    | [] => [x]
  | _ + 1, [] => []
theorem pick_perm {α : Type} : ∀ (n : Nat) (l : List α), List.Perm l (pick n l)
  | 0, l => List.Perm.refl l
  | n + 1, [] => List.Perm.refl _
  | n + 1, x :: l => by
    have ih := pick_perm n l
    simp only [pick]
    split
    · rename_i y r hy
      rw [hy] at ih
      exact (ih.cons x).trans (List.Perm.swap ..)
    · rename_i hy
      rw [hy] at ih
      rw [ih.eq_nil]
theorem Holds.pick (n : Nat) (h : Holds W H w) : Holds W (Sl.pick n H) w := h.perm (pick_perm n H)

/-- Drop the n-th resource: whatever behind. -/
theorem Holds.drew (h : Holds W H w) : Holds W H w.drew := ⟨h.below.drew, h.star⟩
theorem Holds.drewN (n : Nat) (h : Holds W H w) : Holds W H (w.drewN n) :=
  ⟨⟨h.below.os, h.below.tape, h.below.output, h.below.size, h.below.block⟩, h.star⟩

/-- THE LAW OF CHANGE: the first resource turns, with blocks of its own and new ones; all others stay. -/
theorem Holds.open (h : Holds W (P :: R) w) :
    ∃ h1 : Frag, P h1 ∧ (∀ k o, h1 k = some o → W.heap.size ≤ k ∧ w.heap[k]? = some o) ∧
      ∀ (w' : World) (P' : SProp) (h1' : Frag), P' h1' → w'.os = w.os → w'.tape = w.tape → w'.output = w.output → w.heap.size ≤ w'.heap.size →
        (∀ k, k < w.heap.size → h1 k = none → w'.heap[k]? = w.heap[k]?) →
        (∀ k o, h1' k = some o → w'.heap[k]? = some o ∧ (w.heap.size ≤ k ∨ (h1 k).isSome = true)) → Holds W (P' :: R) w' := by
  obtain ⟨hb, h1, h2, a, b, c, d, e⟩ := h
  have own : ∀ k o, h1 k = some o → W.heap.size ≤ k ∧ w.heap[k]? = some o := by
    intro k o hk
    have := a k o hk
    unfold frag at this
    split at this
    · cases this
    · exact ⟨by omega, this⟩
  refine ⟨h1, d, own, ?_⟩
  intro w' P' h1' hp os tape output size keep new
  have newin : ∀ k o, h1' k = some o → W.heap.size ≤ k := by
    intro k o hk
    rcases (new k o hk).2 with h | h
    · exact Nat.le_trans hb.size h
    · obtain ⟨o', ho'⟩ := Option.isSome_iff_exists.1 h
      exact (own k o' ho').1
  refine ⟨⟨os.trans hb.os, tape.trans hb.tape, output.trans hb.output, Nat.le_trans hb.size size, ?_⟩, h1', h2, ?_, ?_, ?_, hp, e⟩
  · intro k hk
    have hn : h1 k = none := by
      rcases hq : h1 k with _ | o
      · rfl
      · have := (own k o hq).1; omega
    rw [keep k (Nat.lt_of_lt_of_le hk hb.size) hn]
    exact hb.block k hk
  · intro k o hk
    have := newin k o hk
    unfold frag
    rw [if_neg (by omega)]
    exact (new k o hk).1
  · intro k o hk
    have hf := b k o hk
    unfold frag at hf ⊢
    split at hf
    · cases hf
    · rename_i hlt
      rw [if_neg hlt]
      have hn : h1 k = none := by
        rcases c k with h | h
        · exact h
        · rw [hk] at h; cases h
      rw [keep k (by rcases Nat.lt_or_ge k w.heap.size with h | h; exact h; simp [Array.getElem?_eq_none h] at hf) hn]
      exact hf
  · intro k
    rcases hq : h1' k with _ | o
    · exact .inl rfl
    · right
      rcases hq2 : h2 k with _ | o2
      · rfl
      · exfalso
        rcases (new k o hq).2 with h | h
        · have hf := b k o2 hq2
          unfold frag at hf
          split at hf
          · cases hf
          · simp [Array.getElem?_eq_none h] at hf
        · rcases c k with h' | h'
          · rw [h'] at h; cases h
          · rw [hq2] at h'; cases h'

/-- New blocks alone. -/
theorem Holds.new (h : Holds W R w) (w' : World) (P' : SProp) (h1' : Frag) (hp : P' h1') (os : w'.os = w.os) (tape : w'.tape = w.tape) (output : w'.output = w.output)
    (size : w.heap.size ≤ w'.heap.size) (keep : ∀ k, k < w.heap.size → w'.heap[k]? = w.heap[k]?) (new : ∀ k o, h1' k = some o → w'.heap[k]? = some o ∧ w.heap.size ≤ k) : Holds W (P' :: R) w' := by
  have h' : Holds W (fact True :: R) w := h.factShut trivial
  obtain ⟨h1, _, _, up⟩ := h'.open
  exact up w' P' h1' hp os tape output size (fun k hk _ => keep k hk) (fun k o hk => ⟨(new k o hk).1, .inl (new k o hk).2⟩)

/-! ### Which resource -/

/-- P stands in H; what H is with another in its place. -/
inductive Hole : List SProp → SProp → (SProp → List SProp) → Prop
  | head {P : SProp} {H : List SProp} : Hole (P :: H) P (fun X => X :: H)
  | tail {Q P : SProp} {H : List SProp} {C : SProp → List SProp} : Hole H P C → Hole (Q :: H) P (fun X => Q :: C X)

theorem Hole.perm {P : SProp} {H : List SProp} {C : SProp → List SProp} (u : Hole H P C) : ∃ R, List.Perm H (P :: R) ∧ ∀ X, List.Perm (X :: R) (C X) := by
  induction u with
  | head => exact ⟨_, .refl _, fun _ => .refl _⟩
  | @tail Q P H C _ ih =>
    obtain ⟨R, a, b⟩ := ih
    exact ⟨Q :: R, (a.cons Q).trans (.swap ..), fun X => (List.Perm.swap ..).trans ((b X).cons Q)⟩

/-- H without P. -/
inductive Del : List SProp → SProp → List SProp → Prop
  | head {P : SProp} {H : List SProp} : Del (P :: H) P H
  | tail {Q P : SProp} {H R : List SProp} : Del H P R → Del (Q :: H) P (Q :: R)

theorem Del.perm {P : SProp} {H R : List SProp} (u : Del H P R) : List.Perm H (P :: R) := by
  induction u with
  | head => exact .refl _
  | @tail Q P H R _ ih => exact (ih.cons Q).trans (.swap ..)

/-- H in another order, some left out. -/
inductive Reord : List SProp → List SProp → Prop
  | refl {H : List SProp} : Reord H H
  | nil {H : List SProp} : Reord H []
  | cons {H R L : List SProp} {P : SProp} : Del H P R → Reord R L → Reord H (P :: L)
  | drop {H L : List SProp} {P : SProp} : Reord H L → Reord (P :: H) L

theorem Reord.star {H L : List SProp} (r : Reord H L) : ∀ {h : Frag}, Sl.star H h → Sl.star L h := by
  induction r with
  | refl => exact fun h => h
  | nil => exact fun _ => trivial
  | cons d _ ih => exact fun h => star.cons (fun _ k => k) (fun _ k => ih k) (star.perm d.perm h)
  | drop _ ih => exact fun h => ih (star.tail h)

theorem Holds.reord {H L : List SProp} (r : Reord H L) (h : Holds W H w) : Holds W L w := ⟨h.below, r.star h.star⟩

theorem mem_perm {P : SProp} {H : List SProp} (m : P ∈ H) : ∃ R, List.Perm H (P :: R) := by
  induction m with
  | head l => exact ⟨_, .refl _⟩
  | @tail b l _ ih =>
    obtain ⟨R, a⟩ := ih
    exact ⟨b :: R, (a.cons b).trans (.swap ..)⟩

theorem Holds.at {b : Nat} {o : Obj} (h : Holds W H w) (m : At b o ∈ H) : W.heap.size ≤ b ∧ w.heap[b]? = some o := by
  obtain ⟨R, p⟩ := mem_perm m
  obtain ⟨h1, d, own, _⟩ := (h.perm p).open
  exact own b o d

theorem Holds.lt {b : Nat} {o : Obj} (h : Holds W H w) (m : At b o ∈ H) : b < w.heap.size := by
  have := (h.at m).2
  rcases Nat.lt_or_ge b w.heap.size with h' | h'
  · exact h'
  · simp [Array.getElem?_eq_none h'] at this

theorem Holds.cell {b off : Nat} {T : TypeId} {cs : List Value} {v : Value} (h : Holds W H w) (m : Row b T cs ∈ H) (hv : cs[off]? = some v) : w.cell? ⟨b, off, none⟩ = some v := by
  have := (h.at m).2
  simp [World.cell?, this, hv]

theorem Holds.free {b off : Nat} {T : TypeId} {cs : List Value} (h : Holds W H w) (m : Row b T cs ∈ H) : w.frozen? ⟨b, off, none⟩ = false := by
  have := (h.at m).2
  simp [World.frozen?, this]

/-- What lay there before the call. -/
theorem Holds.ro {a : Addr} {v : Value} (h : Holds W H w) (hv : W.cell? a = some v) : w.cell? a = some v := by
  rw [h.below.cell (World.block_lt_of_cell? W a hv)]; exact hv

/-- Another object in a resource's one block. -/
theorem Holds.put {b : Nat} {o o' : Obj} {w' : World} {C : SProp → List SProp} (h : Holds W H w) (u : Hole H (At b o) C) (os : w'.os = w.os) (tape : w'.tape = w.tape) (output : w'.output = w.output)
    (size : w'.heap.size = w.heap.size) (keep : ∀ k, k ≠ b → w'.heap[k]? = w.heap[k]?) (new : w'.heap[b]? = some o') : Holds W (C (At b o')) w' := by
  obtain ⟨R, p, q⟩ := u.perm
  obtain ⟨h1, d, own, up⟩ := (h.perm p).open
  refine (up w' (At b o') (fun k => if k = b then some o' else none) (by simp [At]) os tape output (by omega) ?_ ?_).perm (q _)
  · intro k hk hn
    refine keep k (fun e => ?_)
    subst e
    rw [show h1 k = some o from d] at hn; cases hn
  · intro k o2 hk
    split at hk
    · rename_i e; subst e; cases hk
      exact ⟨new, .inr (by rw [show h1 k = some o from d]; rfl)⟩
    · cases hk

theorem Holds.store {b off : Nat} {T : TypeId} {cs : List Value} {C : SProp → List SProp} (v : Value) (h : Holds W H w) (u : Hole H (Row b T cs) C) :
    Holds W (C (Row b T (cs.set off v))) (w.setCell ⟨b, off, none⟩ v) := by
  obtain ⟨R, p, q⟩ := u.perm
  have hb := ((h.perm p).at (.head _)).2
  refine h.put u rfl rfl rfl (by simp) (fun k hk => heap_setCell_other w _ k v hk) ?_
  rw [heap_setCell_same w b off _ T v hb]
  simp

theorem Holds.alloc {T : TypeId} {cs : List Value} (h : Holds W H w) : Holds W (Row w.heap.size T cs :: H) (w.alloc (.cells cs.toArray T)) := by
  refine h.new _ _ (fun k => if k = w.heap.size then some (.cells cs.toArray T (0, 0)) else none) (by simp [At]) rfl rfl rfl (by simp) (fun k hk => Below.heap_alloc _ _ _ hk) ?_
  intro k o hk
  split at hk
  · rename_i e; subst e; cases hk
    exact ⟨heap_alloc_new w _, Nat.le_refl _⟩
  · cases hk

theorem Holds.allocObj {o : Obj} (h : Holds W H w) : Holds W (At w.heap.size o :: H) (w.alloc o) := by
  refine h.new _ _ (fun k => if k = w.heap.size then some o else none) (by simp [At]) rfl rfl rfl (by simp) (fun k hk => Below.heap_alloc _ _ _ hk) ?_
  intro k o hk
  split at hk
  · rename_i e; subst e; cases hk
    exact ⟨heap_alloc_new w _, Nat.le_refl _⟩
  · cases hk
end
end Go.Sl
