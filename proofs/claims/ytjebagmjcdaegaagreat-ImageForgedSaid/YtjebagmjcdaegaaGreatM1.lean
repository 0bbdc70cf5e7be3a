import Derived.WalkKit
import Derived.WalkSpells
import Derived.WalkLawsBesides
import Derived.Deep.Draws
import Derived.Deep.QuietTactic
import Derived.BigQuiet
import Derived.Deep.AppendSrc
import Derived.OrdersHeld
import Derived.Deep.LoopGhost
/-! Text Sl. -/
/- The engine: resources, operations, walks. Generic: no program is named. -/
/- A small separation layer over the walk: a list of resources holds of the blocks that a call has made. Generic: no program is named. -/
set_option maxRecDepth 8000
set_option maxHeartbeats 16000000
set_option linter.unusedVariables false
set_option linter.unusedSimpArgs false
set_option linter.unusedSectionVars false
namespace Go.Sl
open Go.RowKit
abbrev Frag := Nat -> Option Obj
abbrev SProp := Frag -> Prop
def Frag.sub (a b : Frag) : Prop := ∀ k o, a k = some o -> b k = some o
def Frag.disj (a b : Frag) : Prop := ∀ k, a k = none \/ b k = none
theorem Frag.sub.refl (a : Frag) : Frag.sub a a := fun _ _ h => h
theorem Frag.sub.trans {a b c : Frag} (h : Frag.sub a b) (k : Frag.sub b c) : Frag.sub a c := fun x o hx => k x o (h x o hx)
theorem Frag.disj.symm {a b : Frag} (h : Frag.disj a b) : Frag.disj b a := fun k => (h k).symm
def star : List SProp -> SProp
  | [], _ => True
  | P :: H, h => ∃ h1 h2, Frag.sub h1 h /\ Frag.sub h2 h /\ Frag.disj h1 h2 /\ P h1 /\ star H h2
theorem star.up : ∀ {H : List SProp} {h h' : Frag}, Frag.sub h h' -> star H h -> star H h'
 | [], _, _, _, _ => trivial
 | _ :: _, _, _, hs, ⟨h1, h2, a, b, c, d, e⟩ => ⟨h1, h2, a.trans hs, b.trans hs, c, d, e⟩
theorem star.swap {P Q : SProp} {H : List SProp} {h : Frag} : star (P :: Q :: H) h -> star (Q :: P :: H) h := by
 rintro ⟨h1, h2, a, b, c, d, k1, k2, a', b', c', d', e⟩
 refine ⟨k1, fun k => (h1 k).or (k2 k), a'.trans b, ?_, ?_, d', h1, k2, ?_, ?_, ?_, d, e⟩
 ·
  intro x o hx
  simp only [Option.or_eq_some_iff] at hx
  rcases hx with hx | ⟨_, hx⟩
  · exact a x o hx
  · exact b x o (b' x o hx)
 ·
  intro x
  rcases c' x with hk | hk
  · exact .inl hk
  ·
   rcases hq : k1 x with _ | o
   · exact .inl rfl
   ·
    right
    rcases c x with h | h
    · simp [h, hk]
    · rw [a' x o hq] at h; cases h
 · intro x o hx; simp [hx]
 ·
  intro x o hx
  rcases c x with h | h
  · simp [h, hx]
  · rw [b' x o hx] at h; cases h
 ·
  intro x
  rcases c x with h | h
  · exact .inl h
  ·
   right
   rcases hq : k2 x with _ | o
   · rfl
   · rw [b' x o hq] at h; cases h
theorem star.cons {P P' : SProp} {H H' : List SProp} {h : Frag} (hp : ∀ k, P k -> P' k) (hh : ∀ k, star H k -> star H' k) : star (P :: H) h -> star (P' :: H') h := by
 rintro ⟨h1, h2, a, b, c, d, e⟩
 exact ⟨h1, h2, a, b, c, hp _ d, hh _ e⟩
theorem star.perm {H H' : List SProp} (p : List.Perm H H') : ∀ {h : Frag}, star H h -> star H' h := by
 induction p with
 | nil => exact fun h => h
 | cons x _ ih => exact fun h => star.cons (fun _ k => k) (fun _ k => ih k) h
 | swap x y l => exact fun h => star.swap h
 | trans _ _ ih1 ih2 => exact fun h => ih2 (ih1 h)
theorem star.tail {P : SProp} {H : List SProp} {h : Frag} : star (P :: H) h -> star H h := fun ⟨_, _, _, b, _, _, e⟩ => star.up b e
theorem star.join : ∀ {L R : List SProp} {h : Frag}, star (star L :: R) h -> star (L ++ R) h
  | [], _, _, h => star.tail h
  | P :: L, R, h, ⟨h1, h2, a, b, c, ⟨k1, k2, a', b', c', d', e'⟩, e⟩ => by
    refine ⟨k1, fun k => (k2 k).or (h2 k), a'.trans a, ?_, ?_, d', star.join ⟨k2, h2, ?_, ?_, ?_, e', e⟩⟩
    · intro x o hx
      simp only [Option.or_eq_some_iff] at hx
      rcases hx with hx | ⟨_, hx⟩
      · exact a x o (b' x o hx)
      · exact b x o hx
    · intro x
      rcases c' x with hk | hk
      · exact .inl hk
      · rcases hq : k1 x with _ | o
        · exact .inl rfl
        · right
          rcases c x with h | h
          · rw [a' x o hq] at h; cases h
          · simp [h, hk]
    · intro x o hx; simp [hx]
    · intro x o hx
      rcases hq : k2 x with _ | o'
      · simp [hx, hq]
      · rcases c x with h | h
        · rw [b' x o' hq] at h; cases h
        · rw [hx] at h; cases h
    · intro x
      rcases c x with h | h
      · rcases hq : k2 x with _ | o'
        · exact .inl rfl
        · rw [b' x o' hq] at h; cases h
      · exact .inr h
theorem star.nest : ∀ {L R : List SProp} {h : Frag}, star (L ++ R) h -> star (star L :: R) h
  | [], R, h, e => ⟨fun _ => none, h, (fun _ _ x => by cases x), Frag.sub.refl _, (fun _ => .inl rfl), trivial, e⟩
  | P :: L, R, h, ⟨k1, k2, a, b, c, d, e⟩ => by
    obtain ⟨l1, l2, a', b', c', d', e'⟩ := star.nest e
    refine ⟨fun k => (k1 k).or (l1 k), l2, ?_, b'.trans b, ?_, ⟨k1, l1, ?_, ?_, ?_, d, d'⟩, e'⟩
    · intro x o hx
      simp only [Option.or_eq_some_iff] at hx
      rcases hx with hx | ⟨_, hx⟩
      · exact a x o hx
      · exact b x o (a' x o hx)
    · intro x
      rcases c' x with hk | hk
      · rcases c x with h | h
        · left; simp [h, hk]
        · right
          rcases hq : l2 x with _ | o
          · rfl
          · rw [b' x o hq] at h; cases h
      · exact .inr hk
    · intro x o hx; simp [hx]
    · intro x o hx
      rcases hq : k1 x with _ | o'
      · simp [hx, hq]
      · rcases c x with h | h
        · rw [h] at hq; cases hq
        · rw [a' x o hx] at h; cases h
    · intro x
      rcases c x with h | h
      · exact .inl h
      · right
        rcases hq : l1 x with _ | o
        · rfl
        · rw [a' x o hq] at h; cases h
def frag (W w : World) : Frag := fun k => if k < W.heap.size then none else w.heap[k]?
structure Holds (W : World) (H : List SProp) (w : World) : Prop where
  below : Below W.heap.size W w
  star : star H (frag W w)
def At (b : Nat) (o : Obj) : SProp := fun h => h b = some o
abbrev Row (b : Nat) (T : TypeId) (cs : List Value) : SProp := At b (.cells cs.toArray T (0, 0))
def fact (p : Prop) : SProp := fun _ => p
def ex {α : Type} (P : α -> SProp) : SProp := fun h => ∃ x, P x h
section
variable {W w : World} {H H' R L : List SProp} {P P' Q : SProp}
theorem Holds.start (W : World) : Holds W [] W := ⟨Below.refl _ _, trivial⟩
theorem Holds.nil (h : Below W.heap.size W w) : Holds W [] w := ⟨h, trivial⟩
theorem Holds.perm (p : List.Perm H H') (h : Holds W H w) : Holds W H' w := ⟨h.below, star.perm p h.star⟩
theorem Holds.tail (h : Holds W (P :: R) w) : Holds W R w := ⟨h.below, star.tail h.star⟩
theorem Holds.cons (hp : ∀ k, P k -> P' k) (h : Holds W (P :: R) w) : Holds W (P' :: R) w := ⟨h.below, star.cons hp (fun _ k => k) h.star⟩
theorem Holds.join (h : Holds W (Sl.star L :: R) w) : Holds W (L ++ R) w := ⟨h.below, star.join h.star⟩
theorem Holds.nest (h : Holds W (L ++ R) w) : Holds W (Sl.star L :: R) w := ⟨h.below, star.nest h.star⟩
theorem Holds.swap (h : Holds W (P :: Q :: R) w) : Holds W (Q :: P :: R) w := ⟨h.below, star.swap h.star⟩
theorem Holds.exOpen {α : Type} {P : α -> SProp} (h : Holds W (ex P :: R) w) : ∃ x, Holds W (P x :: R) w := by
 obtain ⟨hb, h1, h2, a, b, c, ⟨x, d⟩, e⟩ := h
 exact ⟨x, hb, h1, h2, a, b, c, d, e⟩
theorem Holds.exShut {α : Type} {P : α -> SProp} (x : α) (h : Holds W (P x :: R) w) : Holds W (ex P :: R) w := by
 obtain ⟨hb, h1, h2, a, b, c, d, e⟩ := h
 exact ⟨hb, h1, h2, a, b, c, ⟨x, d⟩, e⟩
theorem Holds.factOpen {p : Prop} (h : Holds W (fact p :: R) w) : p := by
 obtain ⟨_, _, _, _, _, _, d, _⟩ := h
 exact d
theorem Holds.factShut {p : Prop} (hp : p) (h : Holds W R w) : Holds W (fact p :: R) w :=
 ⟨h.below, fun _ => none, frag W w, (fun _ _ x => by cases x), Frag.sub.refl _, (fun _ => .inl rfl), hp, h.star⟩
def pick {α : Type} : Nat -> List α -> List α
  | 0, l => l
  | n + 1, x :: l => match pick n l with
    | y :: r => y :: x :: r
    | [] => [x]
  | _ + 1, [] => []
theorem pick_perm {α : Type} : ∀ (n : Nat) (l : List α), List.Perm l (pick n l)
  | 0, l => List.Perm.refl l
  | n + 1, [] => List.Perm.refl _
  | n + 1, x :: l => by
    have ih := pick_perm n l
    simp only [pick]
    split
    · rename_i y r hy
      rw [hy] at ih
      exact (ih.cons x).trans (List.Perm.swap ..)
    · rename_i hy
      rw [hy] at ih
      rw [ih.eq_nil]
theorem Holds.pick (n : Nat) (h : Holds W H w) : Holds W (Sl.pick n H) w := h.perm (pick_perm n H)
theorem Holds.drew (h : Holds W H w) : Holds W H w.drew := ⟨h.below.drew, h.star⟩
theorem Holds.open (h : Holds W (P :: R) w) :
  ∃ h1 : Frag, P h1 /\ (∀ k o, h1 k = some o -> W.heap.size <= k /\ w.heap[k]? = some o) /\
   ∀ (w' : World) (P' : SProp) (h1' : Frag), P' h1' -> w'.os = w.os -> w'.tape = w.tape -> w'.output = w.output -> w.heap.size <= w'.heap.size ->
    (∀ k, k < w.heap.size -> h1 k = none -> w'.heap[k]? = w.heap[k]?) ->
    (∀ k o, h1' k = some o -> w'.heap[k]? = some o /\ (w.heap.size <= k \/ (h1 k).isSome = true)) -> Holds W (P' :: R) w' := by
 obtain ⟨hb, h1, h2, a, b, c, d, e⟩ := h
 have own : ∀ k o, h1 k = some o -> W.heap.size <= k /\ w.heap[k]? = some o := by
  intro k o hk
  have := a k o hk
  unfold frag at this
  split at this
  · cases this
  · exact ⟨by omega, this⟩
 refine ⟨h1, d, own, ?_⟩
 intro w' P' h1' hp os tape output size keep new
 have newin : ∀ k o, h1' k = some o -> W.heap.size <= k := by
  intro k o hk
  rcases (new k o hk).2 with h | h
  · exact Nat.le_trans hb.size h
  ·
   obtain ⟨o', ho'⟩ := Option.isSome_iff_exists.1 h
   exact (own k o' ho').1
 refine ⟨⟨os.trans hb.os, tape.trans hb.tape, output.trans hb.output, Nat.le_trans hb.size size, ?_⟩, h1', h2, ?_, ?_, ?_, hp, e⟩
 ·
  intro k hk
  have hn : h1 k = none := by
   rcases hq : h1 k with _ | o
   · rfl
   · have := (own k o hq).1; omega
  rw [keep k (Nat.lt_of_lt_of_le hk hb.size) hn]
  exact hb.block k hk
 ·
  intro k o hk
  have := newin k o hk
  unfold frag
  rw [if_neg (by omega)]
  exact (new k o hk).1
 ·
  intro k o hk
  have hf := b k o hk
  unfold frag at hf ⊢
  split at hf
  · cases hf
  ·
   rename_i hlt
   rw [if_neg hlt]
   have hn : h1 k = none := by
    rcases c k with h | h
    · exact h
    · rw [hk] at h; cases h
   rw [keep k (by rcases Nat.lt_or_ge k w.heap.size with h | h; exact h; simp [Array.getElem?_eq_none h] at hf) hn]
   exact hf
 ·
  intro k
  rcases hq : h1' k with _ | o
  · exact .inl rfl
  ·
   right
   rcases hq2 : h2 k with _ | o2
   · rfl
   ·
    exfalso
    rcases (new k o hq).2 with h | h
    ·
     have hf := b k o2 hq2
     unfold frag at hf
     split at hf
     · cases hf
     · simp [Array.getElem?_eq_none h] at hf
    ·
     rcases c k with h' | h'
     · rw [h'] at h; cases h
     · rw [hq2] at h'; cases h'
theorem Holds.new (h : Holds W R w) (w' : World) (P' : SProp) (h1' : Frag) (hp : P' h1') (os : w'.os = w.os) (tape : w'.tape = w.tape) (output : w'.output = w.output)
  (size : w.heap.size <= w'.heap.size) (keep : ∀ k, k < w.heap.size -> w'.heap[k]? = w.heap[k]?) (new : ∀ k o, h1' k = some o -> w'.heap[k]? = some o /\ w.heap.size <= k) : Holds W (P' :: R) w' := by
 have h' : Holds W (fact True :: R) w := h.factShut trivial
 obtain ⟨h1, _, _, up⟩ := h'.open
 exact up w' P' h1' hp os tape output size (fun k hk _ => keep k hk) (fun k o hk => ⟨(new k o hk).1, .inl (new k o hk).2⟩)
inductive Hole : List SProp -> SProp -> (SProp -> List SProp) -> Prop
  | head {P : SProp} {H : List SProp} : Hole (P :: H) P (fun X => X :: H)
  | tail {Q P : SProp} {H : List SProp} {C : SProp -> List SProp} : Hole H P C -> Hole (Q :: H) P (fun X => Q :: C X)
theorem Hole.perm {P : SProp} {H : List SProp} {C : SProp -> List SProp} (u : Hole H P C) : ∃ R, List.Perm H (P :: R) /\ ∀ X, List.Perm (X :: R) (C X) := by
  induction u with
  | head => exact ⟨_, .refl _, fun _ => .refl _⟩
  | @tail Q P H C _ ih =>
    obtain ⟨R, a, b⟩ := ih
    exact ⟨Q :: R, (a.cons Q).trans (.swap ..), fun X => (List.Perm.swap ..).trans ((b X).cons Q)⟩
inductive Del : List SProp -> SProp -> List SProp -> Prop
  | head {P : SProp} {H : List SProp} : Del (P :: H) P H
  | tail {Q P : SProp} {H R : List SProp} : Del H P R -> Del (Q :: H) P (Q :: R)
theorem Del.perm {P : SProp} {H R : List SProp} (u : Del H P R) : List.Perm H (P :: R) := by
 induction u with
 | head => exact .refl _
 | @tail Q P H R _ ih => exact (ih.cons Q).trans (.swap ..)
inductive Reord : List SProp -> List SProp -> Prop
  | refl {H : List SProp} : Reord H H
  | nil {H : List SProp} : Reord H []
  | cons {H R L : List SProp} {P : SProp} : Del H P R -> Reord R L -> Reord H (P :: L)
  | drop {H L : List SProp} {P : SProp} : Reord H L -> Reord (P :: H) L
theorem Reord.star {H L : List SProp} (r : Reord H L) : ∀ {h : Frag}, Sl.star H h -> Sl.star L h := by
 induction r with
 | refl => exact fun h => h
 | nil => exact fun _ => trivial
 | cons d _ ih => exact fun h => star.cons (fun _ k => k) (fun _ k => ih k) (star.perm d.perm h)
 | drop _ ih => exact fun h => ih (star.tail h)
theorem Holds.reord {H L : List SProp} (r : Reord H L) (h : Holds W H w) : Holds W L w := ⟨h.below, r.star h.star⟩
theorem mem_perm {P : SProp} {H : List SProp} (m : P ∈ H) : ∃ R, List.Perm H (P :: R) := by
  induction m with
  | head l => exact ⟨_, .refl _⟩
  | @tail b l _ ih =>
    obtain ⟨R, a⟩ := ih
    exact ⟨b :: R, (a.cons b).trans (.swap ..)⟩
theorem Holds.at {b : Nat} {o : Obj} (h : Holds W H w) (m : At b o ∈ H) : W.heap.size <= b /\ w.heap[b]? = some o := by
 obtain ⟨R, p⟩ := mem_perm m
 obtain ⟨h1, d, own, _⟩ := (h.perm p).open
 exact own b o d
theorem Holds.lt {b : Nat} {o : Obj} (h : Holds W H w) (m : At b o ∈ H) : b < w.heap.size := by
 have := (h.at m).2
 rcases Nat.lt_or_ge b w.heap.size with h' | h'
 · exact h'
 · simp [Array.getElem?_eq_none h'] at this
theorem Holds.cell {b off : Nat} {T : TypeId} {cs : List Value} {v : Value} (h : Holds W H w) (m : Row b T cs ∈ H) (hv : cs[off]? = some v) : w.cell? ⟨b, off, none⟩ = some v := by
 have := (h.at m).2
 simp [World.cell?, this, hv]
theorem Holds.free {b off : Nat} {T : TypeId} {cs : List Value} (h : Holds W H w) (m : Row b T cs ∈ H) : w.frozen? ⟨b, off, none⟩ = false := by
 have := (h.at m).2
 simp [World.frozen?, this]
theorem Holds.ro {a : Addr} {v : Value} (h : Holds W H w) (hv : W.cell? a = some v) : w.cell? a = some v := by
 rw [h.below.cell (World.block_lt_of_cell? W a hv)]; exact hv
theorem Holds.put {b : Nat} {o o' : Obj} {w' : World} {C : SProp -> List SProp} (h : Holds W H w) (u : Hole H (At b o) C) (os : w'.os = w.os) (tape : w'.tape = w.tape) (output : w'.output = w.output)
  (size : w'.heap.size = w.heap.size) (keep : ∀ k, k ≠ b -> w'.heap[k]? = w.heap[k]?) (new : w'.heap[b]? = some o') : Holds W (C (At b o')) w' := by
 obtain ⟨R, p, q⟩ := u.perm
 obtain ⟨h1, d, own, up⟩ := (h.perm p).open
 refine (up w' (At b o') (fun k => if k = b then some o' else none) (by simp [At]) os tape output (by omega) ?_ ?_).perm (q _)
 ·
  intro k hk hn
  refine keep k (fun e => ?_)
  subst e
  rw [show h1 k = some o from d] at hn; cases hn
 ·
  intro k o2 hk
  split at hk
  ·
   rename_i e; subst e; cases hk
   exact ⟨new, .inr (by rw [show h1 k = some o from d]; rfl)⟩
  · cases hk
theorem Holds.store {b off : Nat} {T : TypeId} {cs : List Value} {C : SProp -> List SProp} (v : Value) (h : Holds W H w) (u : Hole H (Row b T cs) C) :
  Holds W (C (Row b T (cs.set off v))) (w.setCell ⟨b, off, none⟩ v) := by
 obtain ⟨R, p, q⟩ := u.perm
 have hb := ((h.perm p).at (.head _)).2
 refine h.put u rfl rfl rfl (by simp) (fun k hk => heap_setCell_other w _ k v hk) ?_
 rw [heap_setCell_same w b off _ T v hb]
 simp
theorem Holds.alloc {T : TypeId} {cs : List Value} (h : Holds W H w) : Holds W (Row w.heap.size T cs :: H) (w.alloc (.cells cs.toArray T)) := by
 refine h.new _ _ (fun k => if k = w.heap.size then some (.cells cs.toArray T (0, 0)) else none) (by simp [At]) rfl rfl rfl (by simp) (fun k hk => Below.heap_alloc _ _ _ hk) ?_
 intro k o hk
 split at hk
 ·
  rename_i e; subst e; cases hk
  exact ⟨heap_alloc_new w _, Nat.le_refl _⟩
 · cases hk
theorem Holds.allocObj {o : Obj} (h : Holds W H w) : Holds W (At w.heap.size o :: H) (w.alloc o) := by
 refine h.new _ _ (fun k => if k = w.heap.size then some o else none) (by simp [At]) rfl rfl rfl (by simp) (fun k hk => Below.heap_alloc _ _ _ hk) ?_
 intro k o hk
 split at hk
 ·
  rename_i e; subst e; cases hk
  exact ⟨heap_alloc_new w _, Nat.le_refl _⟩
 · cases hk
end
end Go.Sl
/- The walk's operations on memory, over a list of resources. Generic: no program is named. -/
namespace Go.Sl
open Go.RowKit
section
variable {P : Program} {W w : World} {H H' : List SProp} {ops : Array Oper} {rest : List Oper} {a : Act} {Q : Exit -> Act -> World -> Prop} {K : Act -> World -> Prop}
theorem wl_step {o : Oper} (hg : Region.wanted o (yielded ops a.tmps) = true) (h : ∀ K : Act -> World -> Prop, (∀ a w, wpList P ops Q rest a w -> K a w) -> o.wp P a w K Q) : wpList P ops Q (o :: rest) a w :=
 BigFrame.wpList_want hg h
theorem run_load1 {t : TypeId} {ad : Addr} {v : Value} (hT : ∀ w, (isAgg t).run P w = .ok false w) (hv : w.cell? ad = some v) : (loadVar t ad).run P w = .ok v w := by
 simp [loadVar, Sem.run_bind, hT, load, Sem.run, hv]
theorem run_storeVar1 {t : TypeId} {b off : Nat} {v u : Value} (hv1 : v.oneCell' = true) (hS : ∀ w, (sizeOf t).run P w = .ok 1 w) (hc : w.cell? ⟨b, off, none⟩ = some u) (hf : w.frozen? ⟨b, off, none⟩ = false) :
  (storeVar t ⟨b, off, none⟩ v).run P w = .ok () (w.setCell ⟨b, off, none⟩ v) := by
 have e : v.cells = #[v] := by cases v <;> simp_all [Value.oneCell', Value.cells]
 have h0 : (⟨b, off, none⟩ : Addr).add 0 = ⟨b, off, none⟩ := rfl
 simp only [storeVar, Sem.run_bind, hS, Result.andThen_ok, e, List.size_toArray, List.length_cons, List.length_nil, Nat.zero_add, ne_eq, not_true_eq_false, if_false, storeCells, h0]
 cases v <;> simp_all [store, Sem.run, Value.oneCell', pure, Result.andThen]
def cellsAt (w : World) (b : Nat) : Nat -> List Value -> Prop
  | _, [] => True
  | i, v :: r => w.cell? ⟨b, i, none⟩ = some v /\ cellsAt w b (i + 1) r
theorem cellsAt_of {b : Nat} : ∀ (cs : List Value) (i : Nat), (∀ j v, cs[j]? = some v -> w.cell? ⟨b, i + j, none⟩ = some v) -> cellsAt w b i cs
 | [], _, _ => trivial
 | v :: r, i, h => ⟨h 0 v rfl, cellsAt_of r (i + 1) fun j u hj => by have := h (j + 1) u hj; rwa [show i + (j + 1) = i + 1 + j by omega] at this⟩
theorem Holds.cells {b : Nat} {T : TypeId} {cs : List Value} (hw : Holds W H w) (m : Row b T cs ∈ H) : cellsAt w b 0 cs :=
 cellsAt_of cs 0 fun j v hj => by rw [Nat.zero_add]; exact hw.cell m hj
structure SliceT (P : Program) (t e : TypeId) (z : Value) (size bytes : Nat) : Prop where
  und : P.underlying t = some (.slice e)
  info : (P.info? e).map (fun i => (i.zero, i.size, i.bytes)) = some (some z, size, bytes)
  zs : z.cells.size = size
  z1 : ∀ u ∈ z.cells.toList, u.oneCell' = true
def Own (e : TypeId) (sz : Nat) (v : Value) (n : Nat) (xs : List Value) : SProp := fun h =>
  xs.length = n * sz /\ ((v = .slice none 0 0 /\ n = 0) \/
    ∃ b cap spare, v = .slice (some ⟨b, 0, none⟩) n cap /\ n <= cap /\ cap <= maxLen /\ (xs ++ spare).length = cap * sz /\ Row b e (xs ++ spare) h)
theorem Holds.ownNil (e : TypeId) (sz : Nat) (hw : Holds W H w) : Holds W (Own e sz (.slice none 0 0) 0 [] :: H) w :=
 hw.new w _ (fun _ => none) ⟨by simp, .inl ⟨rfl, rfl⟩⟩ rfl rfl rfl (Nat.le_refl _) (fun _ _ => rfl) (fun _ _ h => by cases h)
theorem Holds.ownOpen {e : TypeId} {sz n : Nat} {v : Value} {xs : List Value} {R : List SProp} (hw : Holds W (Own e sz v n xs :: R) w) :
  xs.length = n * sz /\ ((v = .slice none 0 0 /\ n = 0 /\ Holds W R w) \/
  ∃ b cap spare, v = .slice (some ⟨b, 0, none⟩) n cap /\ n <= cap /\ cap <= maxLen /\ (xs ++ spare).length = cap * sz /\ Holds W (Row b e (xs ++ spare) :: R) w) := by
 obtain ⟨hb, h1, h2, a, b, c, ⟨hl, d⟩, k⟩ := hw
 refine ⟨hl, ?_⟩
 rcases d with ⟨rfl, rfl⟩ | ⟨g, cap, spare, rfl, hn, hm, hs, hr⟩
 · exact .inl ⟨rfl, rfl, hb, star.up b k⟩
 · exact .inr ⟨g, cap, spare, rfl, hn, hm, hs, hb, h1, h2, a, b, c, hr, k⟩
theorem Holds.ownShape {e : TypeId} {sz n : Nat} {v : Value} {xs : List Value} {R : List SProp} (hw : Holds W (Own e sz v n xs :: R) w) : ∃ ao cap, v = .slice ao n cap := by
 rcases hw.ownOpen.2 with ⟨rfl, rfl, _⟩ | ⟨b, cap, _, rfl, _⟩
 · exact ⟨_, _, rfl⟩
 · exact ⟨_, _, rfl⟩
theorem Holds.ownShut {e : TypeId} {sz n b cap : Nat} {xs spare : List Value} {R : List SProp} (hl : xs.length = n * sz) (hn : n <= cap) (hm : cap <= maxLen) (hs : (xs ++ spare).length = cap * sz)
  (hw : Holds W (Row b e (xs ++ spare) :: R) w) : Holds W (Own e sz (.slice (some ⟨b, 0, none⟩) n cap) n xs :: R) w :=
 hw.cons fun _ h => ⟨hl, .inr ⟨b, cap, spare, rfl, hn, hm, hs, h⟩⟩
structure Sees (w : World) (sz : Nat) (v : Value) (n : Nat) (xs : List Value) : Prop where
  len : xs.length = n * sz
  one : ∀ u ∈ xs, u.oneCell' = true
  at_ : (∃ c, v = .slice none 0 c /\ n = 0) \/ ∃ a c, v = .slice (some a) n c /\ ∀ j u, xs[j]? = some u -> w.cell? (a.add j) = some u
theorem Sees.ro {sz n : Nat} {v : Value} {xs : List Value} (hs : Sees W sz v n xs) (hw : Holds W H w) : Sees w sz v n xs := by
 obtain ⟨hl, h1, h⟩ := hs
 refine ⟨hl, h1, ?_⟩
 rcases h with h | ⟨a, c, rfl, h⟩
 · exact .inl h
 · exact .inr ⟨a, c, rfl, fun j u hj => hw.ro (h j u hj)⟩
theorem Sees.own {e : TypeId} {sz n : Nat} {v : Value} {xs : List Value} (h1 : ∀ u ∈ xs, u.oneCell' = true) (hw : Holds W H w) (m : Own e sz v n xs ∈ H) : Sees w sz v n xs := by
 obtain ⟨R, p⟩ := mem_perm m
 obtain ⟨hl, h⟩ := (hw.perm p).ownOpen
 refine ⟨hl, h1, ?_⟩
 rcases h with ⟨rfl, rfl, _⟩ | ⟨b, cap, spare, rfl, _, _, _, h⟩
 · exact .inl ⟨0, rfl, rfl⟩
 ·
  refine .inr ⟨_, cap, rfl, fun j u hj => ?_⟩
  have hc := h.cell (off := j) (v := u) (.head _) (by rw [List.getElem?_append_left (List.getElem?_eq_some_iff.1 hj).1]; exact hj)
  rwa [show (⟨b, 0, none⟩ : Addr).add j = ⟨b, j, none⟩ by unfold Addr.add; split <;> simp_all]
theorem Sees.row {e : TypeId} {sz n b cap : Nat} {xs ys : List Value} (h1 : ∀ u ∈ xs, u.oneCell' = true) (hl : xs.length = n * sz) (hw : Holds W H w) (m : Row b e (xs ++ ys) ∈ H) : Sees w sz (.slice (some ⟨b, 0, none⟩) n cap) n xs := by
 refine ⟨hl, h1, .inr ⟨_, cap, rfl, fun j u hj => ?_⟩⟩
 have hc := hw.cell (off := j) (v := u) m (by rw [List.getElem?_append_left (List.getElem?_eq_some_iff.1 hj).1]; exact hj)
 rwa [show (⟨b, 0, none⟩ : Addr).add j = ⟨b, j, none⟩ by unfold Addr.add; split <;> simp_all]
theorem Sees.drew {sz n : Nat} {v : Value} {xs : List Value} (hs : Sees w sz v n xs) : Sees w.drew sz v n xs := ⟨hs.len, hs.one, hs.at_⟩
theorem Sees.src {sz n : Nat} {v : Value} {xs : List Value} (hs : Sees w sz v n xs) {tx e' : TypeId} (hk : P.underlying tx = some (.slice e')) : Src P sz tx v n xs w := by
 obtain ⟨hl, h1, h⟩ := hs
 rcases h with ⟨c, rfl, rfl⟩ | ⟨a, c, rfl, h⟩
 ·
  have : xs = [] := List.eq_nil_of_length_eq_zero (by simpa using hl)
  subst this
  exact Src.ofNil w hk c
 · exact Src.ofSlice w hk a n c xs hl h h1
theorem setCells_row {b : Nat} {T : TypeId} : ∀ (vs : List Value) (o : Nat) (cs : List Value) (w : World), w.heap[b]? = some (.cells cs.toArray T (0, 0)) -> o + vs.length <= cs.length ->
    (w.setCells b o vs).heap[b]? = some (.cells (cs.take o ++ vs ++ cs.drop (o + vs.length)).toArray T (0, 0)) /\ (∀ k, k ≠ b -> (w.setCells b o vs).heap[k]? = w.heap[k]?) /\
      (w.setCells b o vs).heap.size = w.heap.size /\ (w.setCells b o vs).os = w.os /\ (w.setCells b o vs).tape = w.tape /\ (w.setCells b o vs).output = w.output
  | [], o, cs, w, h, _ => by simp [World.setCells, h]
  | v :: r, o, cs, w, h, ho => by
    have h' := heap_setCell_same w b o cs.toArray T v h
    simp only [List.setIfInBounds_toArray] at h'
    simp only [List.length_cons] at ho
    obtain ⟨a1, a2, a3, a4, a5, a6⟩ := setCells_row r (o + 1) (cs.set o v) _ h' (by simp; omega)
    refine ⟨?_, fun k hk => ?_, ?_, a4, a5, a6⟩
    · rw [World.setCells, a1]
      congr 3
      have ho' : o < cs.length := by omega
      have e1 : (cs.set o v).take (o + 1) = cs.take o ++ [v] := by
        rw [List.take_succ_eq_append_getElem (by simpa using ho')]; simp [List.take_set_of_le]
      have e2 : (cs.set o v).drop (o + 1 + r.length) = cs.drop (o + (v :: r).length) := by
        rw [List.drop_set_of_lt (by omega)]; simp; congr 1; omega
      rw [e1, e2]; simp
    · rw [World.setCells, a2 k hk]; exact heap_setCell_other w _ k v hk
    · rw [World.setCells, a3]; simp
theorem Holds.setCells {b o : Nat} {T : TypeId} {cs vs : List Value} {C : SProp -> List SProp} (h : Holds W H w) (u : Hole H (Row b T cs) C) (ho : o + vs.length <= cs.length) :
  Holds W (C (Row b T (cs.take o ++ vs ++ cs.drop (o + vs.length)))) (w.setCells b o vs) := by
 obtain ⟨R, p, q⟩ := u.perm
 have hb := ((h.perm p).at (.head _)).2
 obtain ⟨a1, a2, a3, a4, a5, a6⟩ := setCells_row vs o cs w hb ho
 exact h.put u a4 a5 a6 a3 a2 a1
theorem Holds.append {t tx e ty : TypeId} {z : Value} {sz by_ n m : Nat} {v x : Value} {xs news : List Value} {R : List SProp} (st : SliceT P t e z sz by_) (hw : Holds W (Own e sz v n xs :: R) w) (hs : Src P sz tx x m news w)
  (h63 : n + m <= maxLen) (hb : (n + m) * by_ <= 140737488355328) :
  ∃ v' w', (Builtin.append_ #[t, tx] ty #[v, x]).run P w = .ok v' w' /\ Holds W (Own e sz v' (n + m) (xs ++ news) :: R) w' := by
 obtain ⟨i, hi, hz, hsz, hby⟩ := info_parts st.info
 subst hsz; subst hby
 have hsmall : n + m <= 9223372036854775807 := by simp only [maxLen] at h63; omega
 obtain ⟨hl, hv⟩ := hw.ownOpen
 have hlen : (xs ++ news).length = (n + m) * i.size := by rw [List.length_append, hl, hs.newsLen, Nat.add_mul]
 -- a new row
 have grown : ∀ old, old < n + m -> Holds W R w -> Holds W (Own e i.size (.slice (some ⟨w.heap.size, 0, none⟩) (n + m) (grownCap w (n + m) old e)) (n + m) (xs ++ news) :: R)
   (w.drew.alloc (.cells ((xs ++ news).toArray ++ Builtin.zeroCells z.cells (grownCap w (n + m) old e - (n + m))) e)) := by
  intro old ho hR
  have hge := grownCap_ge w (n + m) old e
  have hcm : grownCap w (n + m) old e <= maxLen := grownCap_le_maxLen w (n + m) old e h63
  have ha := (hR.drew).alloc (T := e) (cs := (xs ++ news) ++ (Builtin.zeroCells z.cells (grownCap w (n + m) old e - (n + m))).toList)
  have ee : ((xs ++ news) ++ (Builtin.zeroCells z.cells (grownCap w (n + m) old e - (n + m))).toList).toArray = (xs ++ news).toArray ++ Builtin.zeroCells z.cells (grownCap w (n + m) old e - (n + m)) := by
   apply Array.ext'; simp
  rw [<- ee]
  refine Holds.ownShut hlen hge hcm ?_ ha
  rw [List.length_append, hlen]
  simp only [Array.length_toList, size_zeroCells, st.zs, <- Nat.add_mul]
  congr 1; omega
 rcases hv with ⟨rfl, rfl, hR⟩ | ⟨b, cap, spare, rfl, hn, hm, hc, hR⟩
 ·
  have hx : xs = [] := List.eq_nil_of_length_eq_zero (by simpa using hl)
  subst hx
  by_cases h0 : m = 0
  ·
   subst h0
   have hn : news = [] := List.eq_nil_of_length_eq_zero (by simpa using hs.newsLen)
   subst hn
   refine ⟨.slice none 0 0, w, ?_, by simpa using hw⟩
   rcases hs.kind with ⟨e', hk⟩ | hk <;> simp [Builtin.append_, run_underlying st.und, run_underlying hk, sizeOf, typeInfo, hi, hs.len, hs.cells]
  ·
   refine ⟨_, _, run_append_grow_src w t tx ty e i z st.und hi hz none 0 0 [] (run_firstCells_none _ _ _ _ _) x m news hs (by omega) (by omega) (growslice_fits (by omega) hb), ?_⟩
   exact grown 0 (by omega) hR
 ·
  by_cases hroom : n + m <= cap
  ·
   have hfit : n * i.size + news.length <= (xs ++ spare).length := by rw [hs.newsLen, hc, <- Nat.add_mul]; exact Nat.mul_le_mul_right _ hroom
   refine ⟨_, _, run_append_room_src w t tx ty e i st.und hi b 0 n cap x m news hs hroom (fun j hj => ?_) (fun j hj => hR.free (.head _)), ?_⟩
   ·
    have hj' : 0 + n * i.size + j < (xs ++ spare).length := by omega
    rw [hR.cell (.head _) (List.getElem?_eq_getElem hj')]; rfl
   ·
    have h2 := hR.setCells (o := n * i.size) (vs := news) .head hfit
    have e1 : (xs ++ spare).take (n * i.size) = xs := by rw [<- hl]; simp
    rw [e1] at h2
    rw [Nat.zero_add]
    refine Holds.ownShut hlen hroom hm ?_ h2
    rw [<- hc]
    simp only [List.length_append, List.length_drop] at hfit ⊢
    omega
  ·
   have hold : (Builtin.firstCells i.size n (.slice (some ⟨b, 0, none⟩) n cap)).run P w.drew = .ok xs.toArray w.drew := by
    refine run_firstCells_some w.drew i.size n _ n cap xs hl fun j u hj => ?_
    have := hR.cell (off := j) (v := u) (.head _) (by rw [List.getElem?_append_left (List.getElem?_eq_some_iff.1 hj).1]; exact hj)
    rwa [show (⟨b, 0, none⟩ : Addr).add j = ⟨b, j, none⟩ by unfold Addr.add; split <;> simp_all]
   refine ⟨_, _, run_append_grow_src w t tx ty e i z st.und hi hz _ n cap xs hold x m news hs (by omega) (by omega) (growslice_fits (by omega) hb), ?_⟩
   exact grown cap (by omega) hR.tail
end
end Go.Sl
/- A walk without worlds: a goal says of a frame which slots are known, of memory a list of resources. Generic: no program is named. -/
namespace Go.Sl
open Go.RowKit
def fldOff (P : Program) (s i : Nat) : Option Nat :=
  match P.underlying s with
  | some (.struct fs) => match fs[i]? with
    | some fd => if P.cellsOf fd.type = 0 then none else some fd.offset
    | none => none
  | _ => none
def assoc {α : Type} : List (Nat × α) -> Nat -> Option α
  | [], _ => none
  | (k, v) :: r, d => bif Nat.beq k d then some v else assoc r d
theorem assoc_mem {α : Type} : ∀ {l : List (Nat × α)} {d : Nat} {v : α}, assoc l d = some v -> (d, v) ∈ l
  | (k, u) :: r, d, v, h => by
    unfold assoc at h
    cases hb : Nat.beq k d with
    | true =>
      have : k = d := by simpa using hb
      subst this
      rw [hb] at h; cases h; exact .head _
    | false => rw [hb] at h; exact .tail _ (assoc_mem h)
def leafB (P : Program) (t : Nat) : Bool :=
  match P.underlying t with
  | some (.struct _) | some (.array _ _) | none => false
  | some _ => P.cellsOf t == 1
def aggB (P : Program) (t n : Nat) : Bool :=
  match P.underlying t with
  | some (.struct _) | some (.array _ _) => P.cellsOf t == n && (P.info? t).isSome
  | _ => false
def sliceB (P : Program) (t e : Nat) : Bool :=
  match P.underlying t with
  | some (.slice d) => Nat.beq d e
  | _ => false
def intB (P : Program) (t : Nat) (k : IntKind) : Bool :=
  match P.underlying t with
  | some (.int j) => decide (j = k)
  | _ => false
def descB (P : Program) (t c e : Nat) : Bool :=
  match P.underlying t with
  | some (.pointer d) => Nat.beq c 0 && Nat.beq d e
  | some .bool => Nat.beq c 1
  | some .string => Nat.beq c 2
  | _ => false
structure TabData where
  flds : List (Nat × List Nat)
  leaf : List (Nat × Unit)
  aggs : List (Nat × Nat)
  sls : List (Nat × Nat)
  ints : List (Nat × IntKind)
  descs : List (Nat × Nat × Nat)
def TabData.ok (T : TabData) (P : Program) : Bool :=
  (T.flds.all fun x => x.2.zipIdx.all fun y => fldOff P x.1 y.2 == some y.1) && (T.leaf.all fun x => leafB P x.1) && (T.aggs.all fun x => aggB P x.1 x.2) && (T.sls.all fun x => sliceB P x.1 x.2) && (T.ints.all fun x => intB P x.1 x.2) && T.descs.all fun x => descB P x.1 x.2.1 x.2.2
def TabData.fld (T : TabData) (s i : Nat) : Option Nat := (assoc T.flds s).bind (·[i]?)
theorem TabData.fld_ok {T : TabData} {P : Program} (h : T.ok P = true) {s i off : Nat} (hf : T.fld s i = some off) : fldOff P s i = some off := by
 simp only [TabData.ok, Bool.and_eq_true, List.all_eq_true] at h
 unfold TabData.fld at hf
 obtain ⟨l, h1, h2⟩ := Option.bind_eq_some_iff.1 hf
 have := h.1.1.1.1.1 _ (assoc_mem h1) (off, i) (by rw [List.mk_mem_zipIdx_iff_getElem?]; exact h2)
 simpa using this
theorem TabData.leaf_ok {T : TabData} {P : Program} (h : T.ok P = true) {t : Nat} (hf : assoc T.leaf t = some ()) : (∀ w, (isAgg t).run P w = .ok false w) /\ ∀ w, (sizeOf t).run P w = .ok 1 w := by
  simp only [TabData.ok, Bool.and_eq_true, List.all_eq_true] at h
  have := h.1.1.1.1.2 _ (assoc_mem hf)
  unfold leafB at this
  cases hu : P.underlying t with
  | none => simp [hu] at this
  | some d =>
    rw [hu] at this
    have hs : P.cellsOf t = 1 := by cases d <;> simp_all
    refine ⟨fun w => ?_, fun w => ?_⟩
    · unfold isAgg
      rw [Sem.run_bind, run_underlying hu w]
      cases d <;> simp_all
    · unfold Program.cellsOf at hs
      cases hi : P.info? t with
      | none => simp [hi] at hs
      | some i =>
        have : i.size = 1 := by simpa [hi] using hs
        simp [sizeOf, typeInfo, hi, this]
theorem TabData.agg_ok {T : TabData} {P : Program} (h : T.ok P = true) {t n : Nat} (hf : assoc T.aggs t = some n) : (∀ w, (isAgg t).run P w = .ok true w) /\ ∀ w, (sizeOf t).run P w = .ok n w := by
  simp only [TabData.ok, Bool.and_eq_true, List.all_eq_true] at h
  have := h.1.1.1.2 _ (assoc_mem hf)
  unfold aggB at this
  cases hu : P.underlying t with
  | none => simp [hu] at this
  | some d =>
    rw [hu] at this
    have hs : P.cellsOf t = n /\ (P.info? t).isSome = true := by cases d <;> simp_all
    refine ⟨fun w => ?_, fun w => ?_⟩
    · unfold isAgg
      rw [Sem.run_bind, run_underlying hu w]
      cases d <;> simp_all
    · obtain ⟨i, hi⟩ := Option.isSome_iff_exists.1 hs.2
      have hs := hs.1
      unfold Program.cellsOf at hs
      have : i.size = n := by simpa [hi] using hs
      simp [sizeOf, typeInfo, hi, this]
theorem TabData.slice_ok {T : TabData} {P : Program} (h : T.ok P = true) {t e : Nat} (hf : assoc T.sls t = some e) : P.underlying t = some (.slice e) := by
 simp only [TabData.ok, Bool.and_eq_true, List.all_eq_true] at h
 have := h.1.1.2 _ (assoc_mem hf)
 unfold sliceB at this
 split at this
 ·
  rename_i d hd
  have : d = e := by simpa using this
  rw [hd, this]
 · cases this
theorem TabData.int_ok {T : TabData} {P : Program} (h : T.ok P = true) {t : Nat} {k : IntKind} (hf : assoc T.ints t = some k) : P.underlying t = some (.int k) := by
 simp only [TabData.ok, Bool.and_eq_true, List.all_eq_true] at h
 have := h.1.2 _ (assoc_mem hf)
 unfold intB at this
 split at this
 ·
  rename_i d hd
  have : d = k := by simpa using this
  rw [hd, this]
 · cases this
theorem TabData.desc_ok {T : TabData} {P : Program} (h : T.ok P = true) {t c e : Nat} (hf : assoc T.descs t = some (c, e)) : descB P t c e = true := by
 simp only [TabData.ok, Bool.and_eq_true, List.all_eq_true] at h
 exact h.2 _ (assoc_mem hf)
theorem TabData.ptr_ok {T : TabData} {P : Program} (h : T.ok P = true) {t e : Nat} (hf : assoc T.descs t = some (0, e)) : P.underlying t = some (.pointer e) := by
 have := T.desc_ok h hf
 unfold descB at this
 split at this
 ·
  rename_i d hd
  have : d = e := by simpa using this
  rw [hd, this]
 all_goals simp at this
theorem TabData.bool_ok {T : TabData} {P : Program} (h : T.ok P = true) {t e : Nat} (hf : assoc T.descs t = some (1, e)) : P.underlying t = some .bool := by
 have := T.desc_ok h hf
 unfold descB at this
 split at this
 · simp at this
 · assumption
 all_goals simp at this
theorem TabData.string_ok {T : TabData} {P : Program} (h : T.ok P = true) {t e : Nat} (hf : assoc T.descs t = some (2, e)) : P.underlying t = some .string := by
 have := T.desc_ok h hf
 unfold descB at this
 split at this
 · simp at this
 · simp at this
 · assumption
 all_goals simp at this
abbrev Fr := List (Nat × Value)
def look : Fr -> Nat -> Option Value
  | [], _ => none
  | (k, v) :: r, d => bif Nat.beq k d then some v else look r d
structure Knows (n : Nat) (f : Fr) (t : Array Value) : Prop where
  size : t.size = n
  get : ∀ d v, look f d = some v -> t[d]? = some v
def evalX (f : Fr) : Operand -> Option Value
  | .tmp t => look f t
  | .const v => some v
  | .global g => some (.pointer (some ⟨g, 0, none⟩))
  | .func g => some (.func (.func g) #[] #[])
def argsX (f : Fr) : List Operand -> Option (List Value)
  | [] => some []
  | x :: r => match evalX f x, argsX f r with
    | some v, some vs => some (v :: vs)
    | _, _ => none
theorem Knows.eval {n : Nat} {f : Fr} {t : Array Value} (h : Knows n f t) {x : Operand} {v : Value} (hx : evalX f x = some v) : Act.eval ⟨t, []⟩ x = v := by
  cases x with
  | tmp d =>
    have := h.get d v hx
    simp [Act.eval, this]
  | const u => simpa [evalX, Act.eval] using hx
  | global g => simpa [evalX, Act.eval] using hx
  | func g => simpa [evalX, Act.eval] using hx
theorem Knows.args {n : Nat} {f : Fr} {t : Array Value} (h : Knows n f t) : ∀ {xs : List Operand} {vs : List Value}, argsX f xs = some vs -> xs.map (Act.eval ⟨t, []⟩) = vs
  | [], vs, e => by simp [argsX] at e; simp [e]
  | x :: r, vs, e => by
    unfold argsX at e
    split at e
    · rename_i v ws h1 h2
      cases e
      simp [h.eval h1, h.args h2]
    · cases e
theorem Knows.put {n d : Nat} {f : Fr} {t : Array Value} {v : Value} (h : Knows n f t) (hd : Nat.blt d n = true) : Knows n ((d, v) :: f) (t.setIfInBounds d v) := by
  refine ⟨by simp [h.size], fun e u hu => ?_⟩
  unfold look at hu
  cases hb : Nat.beq d e with
  | true =>
    have hde : d = e := by simpa using hb
    subst hde
    rw [hb] at hu; cases hu
    have : d < t.size := by rw [h.size]; simpa [Nat.blt_eq] using hd
    simp [this]
  | false =>
    have hde : d ≠ e := by intro h'; subst h'; simp at hb
    rw [hb] at hu
    rw [Array.getElem?_setIfInBounds_ne hde]
    exact h.get e u hu
theorem Knows.again {n d : Nat} {f : Fr} {t : Array Value} {v : Value} (h : Knows n f t) (hl : look f d = some v) : Knows n ((d, v) :: f) t := by
  refine ⟨h.size, fun e u hu => ?_⟩
  unfold look at hu
  cases hb : Nat.beq d e with
  | true =>
    have hde : d = e := by simpa using hb
    subst hde
    rw [hb] at hu; cases hu
    exact h.get d _ hl
  | false => rw [hb] at hu; exact h.get e u hu
def SubF : Fr -> Fr -> Prop
  | [], _ => True
  | (d, v) :: r, f => look f d = some v /\ SubF r f
theorem asV {f : Fr} {d : Nat} {u v : Value} (h : look f d = some u) (e : u = v) : look f d = some v := e ▸ h
theorem Knows.sub {n : Nat} {f : Fr} {t : Array Value} (h : Knows n f t) : ∀ {F : Fr}, SubF F f -> Knows n F t
  | [], _ => ⟨h.size, fun _ _ e => by cases e⟩
  | (d, v) :: r, ⟨h1, h2⟩ => by
    have ih := h.sub h2
    refine ⟨h.size, fun e u hu => ?_⟩
    unfold look at hu
    cases hb : Nat.beq d e with
    | true =>
      have hde : d = e := by simpa using hb
      subst hde
      rw [hb] at hu; cases hu
      exact h.get d _ h1
    | false => rw [hb] at hu; exact ih.get e u hu
def argF : Nat -> List Value -> Fr
  | _, [] => []
  | i, v :: r => (i, v) :: argF (i + 1) r
theorem look_argF : ∀ (vs : List Value) (i d : Nat) (v : Value), look (argF i vs) d = some v -> i <= d /\ vs[d - i]? = some v
  | [], _, _, _, h => by cases h
  | u :: r, i, d, v, h => by
    unfold argF look at h
    cases hb : Nat.beq i d with
    | true =>
      have : i = d := by simpa using hb
      subst this
      rw [hb] at h; cases h; simp
    | false =>
      have hne : i ≠ d := by intro h'; subst h'; simp at hb
      rw [hb] at h
      obtain ⟨h1, h2⟩ := look_argF r (i + 1) d v h
      refine ⟨by omega, ?_⟩
      rw [show d - i = d - (i + 1) + 1 by omega]
      simpa using h2
theorem Knows.start (vs : List Value) (n : Nat) (h : vs.length <= n) : Knows n (argF 0 vs) (vs.toArray ++ Array.replicate (n - vs.toArray.size) undef) := by
 refine ⟨by simp; omega, fun d v hv => ?_⟩
 obtain ⟨_, h2⟩ := look_argF vs 0 d v hv
 simp only [Nat.sub_zero] at h2
 have hd := (List.getElem?_eq_some_iff.1 h2).1
 rw [Array.getElem?_append_left (by simpa using hd)]
 simpa using h2
def Cd.l : Code -> Code
  | .seq a _ => a | .block _ b => b | .loop b => b | .cond _ a _ => a | .scope b => b | c => c
def Cd.r : Code -> Code
  | .seq _ b => b | .cond _ _ b => b | c => c
def isSeq : Code -> Bool | .seq _ _ => true | _ => false
def isSkip : Code -> Bool | .skip => true | _ => false
def isRet : Code -> Bool | .ret => true | _ => false
def isCond : Code -> Bool | .cond _ _ _ => true | _ => false
def isLoop : Code -> Bool | .loop _ => true | _ => false
def blockId : Code -> Option Nat | .block i _ => some i | _ => none
def exitId : Code -> Option Nat | .exit i => some i | _ => none
def condOp : Code -> Operand | .cond c _ _ => c | _ => .const undef
def regDraw : Code -> Option Bool | .region _ _ d => some d | _ => none
def regOps : Code -> List Oper | .region _ ops _ => ops.toList | _ => []
def bodyOf (fn : Func) : Code := fn.body.getD .skip
def wantX (ops : List Oper) (g : Option (Nat × Bool)) (f : Fr) : Option Bool :=
  match g with
  | none => some true
  | some (j, want) => match (ops[j]?).bind (·.dst) with
    | none => some false
    | some t => match look f t with
      | some (.bool b) => some (b == want)
      | some _ => some false
      | none => none
def guardSlot (ops : List Oper) (g : Option (Nat × Bool)) : Option Nat := g.bind fun j => (ops[j.1]?).bind (·.dst)
theorem Knows.wanted {n : Nat} {f : Fr} {t : Array Value} (h : Knows n f t) {ops : List Oper} {o : Oper} {b : Bool} (hw : wantX ops o.guard f = some b) : Region.wanted o (yielded ops.toArray t) = b := by
  unfold wantX at hw
  unfold Region.wanted
  cases hg : o.guard with
  | none => simp [hg] at hw; simp [hw]
  | some jw =>
    obtain ⟨j, want⟩ := jw
    simp only [hg] at hw ⊢
    unfold yielded
    simp only [List.getElem?_toArray]
    cases hd : (ops[j]?).bind (·.dst) with
    | none => simp [hd] at hw; simp [hw]
    | some s =>
      simp only [hd] at hw
      simp only [Option.bind_some]
      cases hl : look f s with
      | none => simp [hl] at hw
      | some v =>
        rw [hl] at hw
        rw [h.get s v hl]
        cases v <;> simp_all
section
variable {W : World} {P : Program} {n : Nat} {c : Code} {Q : Exit -> Act -> World -> Prop} {H H' L S : List SProp} {f F : Fr}
def Ent (W : World) (H L : List SProp) : Prop := ∀ w, Holds W H w -> Holds W L w
theorem Reord.ent (r : Reord H L) : Ent W H L := fun _ h => h.reord r
theorem Ent.drop {p : SProp} (h : Ent W H L) : Ent W (p :: H) L := fun _ k => h _ k.tail
theorem Ent.refl : Ent W H H := fun _ h => h
theorem Ent.trans (a : Ent W H H') (b : Ent W H' L) : Ent W H L := fun w h => b w (a w h)
def VC (W : World) (P : Program) (n : Nat) (c : Code) (Q : Exit -> Act -> World -> Prop) (H : List SProp) (f : Fr) : Prop :=
  ∀ t w, Knows n f t -> Holds W H w -> c.wp P Q ⟨t, []⟩ w
def VO (W : World) (P : Program) (n : Nat) (c : Code) (k : Nat) (Q : Exit -> Act -> World -> Prop) (H : List SProp) (f : Fr) : Prop :=
  ∀ t w, Knows n f t -> Holds W H w -> wpList P (regOps c).toArray Q ((regOps c).drop k) ⟨t, []⟩ w
def VE (W : World) (n : Nat) (Q : Exit -> Act -> World -> Prop) (e : Exit) (H : List SProp) (f : Fr) : Prop :=
  ∀ t w, Knows n f t -> Holds W H w -> Q e ⟨t, []⟩ w
def OpV (W : World) (P : Program) (n : Nat) (o : Oper) (Q : Exit -> Act -> World -> Prop) (H : List SProp) (f : Fr) (N : List SProp -> Fr -> Prop) : Prop :=
  ∀ t w, Knows n f t -> Holds W H w -> ∀ K : Act -> World -> Prop, (∀ H' f', N H' f' -> ∀ t' w', Knows n f' t' -> Holds W H' w' -> K ⟨t', []⟩ w') -> o.wp P ⟨t, []⟩ w K Q
def thenC (P : Program) (c : Code) (Q : Exit -> Act -> World -> Prop) : Exit -> Act -> World -> Prop := Exit.then (c.wp P Q) Q
def blockC (i : Nat) (Q : Exit -> Act -> World -> Prop) : Exit -> Act -> World -> Prop := Exit.inBlock i Q
def loopC {α : Type} (W : World) (n : Nat) (A : α -> Prop) (G : α -> List SProp) (F : α -> Fr) (m : α -> Nat) (k : Nat) (Q : Exit -> Act -> World -> Prop) : Exit -> Act -> World -> Prop :=
  Exit.then (fun a' w' => ∃ y t', a' = ⟨t', []⟩ /\ A y /\ m y < k /\ Knows n (F y) t' /\ Holds W (G y) w') Q
theorem VC.seq (hc : isSeq c = true) (h : VC W P n (Cd.l c) (thenC P (Cd.r c) Q) H f) : VC W P n c Q H f := by
 cases c <;> simp [isSeq] at hc
 exact fun t w hk hw => wp_seq (h t w hk hw)
theorem VC.skip (hc : isSkip c = true) (h : VE W n Q .normal H f) : VC W P n c Q H f := by
 cases c <;> simp [isSkip] at hc
 exact fun t w hk hw => wp_skip (h t w hk hw)
theorem VC.ret (hc : isRet c = true) (h : VE W n Q .ret H f) : VC W P n c Q H f := by
 cases c <;> simp [isRet] at hc
 exact fun t w hk hw => wp_ret (h t w hk hw)
theorem VC.exit {i : Nat} (hc : exitId c = some i) (h : VE W n Q (.exit i) H f) : VC W P n c Q H f := by
 cases c <;> simp [exitId] at hc
 subst hc
 exact fun t w hk hw => wp_exit (h t w hk hw)
theorem VC.block {i : Nat} (hc : blockId c = some i) (h : VC W P n (Cd.l c) (blockC i Q) H f) : VC W P n c Q H f := by
 cases c <;> simp [blockId] at hc
 subst hc
 exact fun t w hk hw => wp_block (h t w hk hw)
theorem VC.condT (hc : isCond c = true) (hv : evalX f (condOp c) = some (.bool true)) (h : VC W P n (Cd.l c) Q H f) : VC W P n c Q H f := by
 cases c <;> simp [isCond] at hc
 exact fun t w hk hw => wp_cond_true (hk.eval hv) (h t w hk hw)
theorem VC.condF (hc : isCond c = true) (hv : evalX f (condOp c) = some (.bool false)) (h : VC W P n (Cd.r c) Q H f) : VC W P n c Q H f := by
 cases c <;> simp [isCond] at hc
 exact fun t w hk hw => wp_cond_false (hk.eval hv) (h t w hk hw)
theorem VC.cond {b : Bool} (hc : isCond c = true) (hv : evalX f (condOp c) = some (.bool b)) (ht : b = true -> VC W P n (Cd.l c) Q H f) (hf : b = false -> VC W P n (Cd.r c) Q H f) : VC W P n c Q H f := by
 cases c <;> simp [isCond] at hc
 exact fun t w hk hw => wp_cond_split (hk.eval hv) (fun e => ht e t w hk hw) (fun e => hf e t w hk hw)
theorem VC.condTe {b : Bool} (hc : isCond c = true) (hv : evalX f (condOp c) = some (.bool b)) (hb : b = true) (h : VC W P n (Cd.l c) Q H f) : VC W P n c Q H f := VC.condT hc (hb ▸ hv) h
theorem VC.condFe {b : Bool} (hc : isCond c = true) (hv : evalX f (condOp c) = some (.bool b)) (hb : b = false) (h : VC W P n (Cd.r c) Q H f) : VC W P n c Q H f := VC.condF hc (hb ▸ hv) h
theorem VC.region (hc : regDraw c = some false) (h : VO W P n c 0 Q H f) : VC W P n c Q H f := by
 cases c <;> simp [regDraw] at hc
 subst hc
 intro t w hk hw
 have := h t w hk hw
 simp only [regOps, List.drop_zero, Array.toArray_toList] at this
 exact wp_region_list this
theorem VC.weak (hf : SubF F f) (hh : Ent W H H') (h : VC W P n c Q H' F) : VC W P n c Q H f := fun t w hk hw => h t w (hk.sub hf) (hh w hw)
theorem VE.weak {e : Exit} (hf : SubF F f) (hh : Ent W H H') (h : VE W n Q e H' F) : VE W n Q e H f := fun t w hk hw => h t w (hk.sub hf) (hh w hw)
theorem VC.ent (hh : Ent W H H') (h : VC W P n c Q H' f) : VC W P n c Q H f := fun t w hk hw => h t w hk (hh w hw)
theorem VO.ent {k : Nat} (hh : Ent W H H') (h : VO W P n c k Q H' f) : VO W P n c k Q H f := fun t w hk hw => h t w hk (hh w hw)
theorem VE.ent {e : Exit} (hh : Ent W H H') (h : VE W n Q e H' f) : VE W n Q e H f := fun t w hk hw => h t w hk (hh w hw)
theorem VC.obtain {α : Sort _} {G : α -> List SProp} (hh : ∀ w, Holds W H w -> ∃ x, Holds W (G x) w) (h : ∀ x, VC W P n c Q (G x) f) : VC W P n c Q H f :=
 fun t w hk hw => let ⟨x, hx⟩ := hh w hw; h x t w hk hx
theorem VO.obtain {α : Sort _} {k : Nat} {G : α -> List SProp} (hh : ∀ w, Holds W H w -> ∃ x, Holds W (G x) w) (h : ∀ x, VO W P n c k Q (G x) f) : VO W P n c k Q H f :=
 fun t w hk hw => let ⟨x, hx⟩ := hh w hw; h x t w hk hx
theorem VE.obtain {α : Sort _} {e : Exit} {G : α -> List SProp} (hh : ∀ w, Holds W H w -> ∃ x, Holds W (G x) w) (h : ∀ x, VE W n Q e (G x) f) : VE W n Q e H f :=
 fun t w hk hw => let ⟨x, hx⟩ := hh w hw; h x t w hk hx
theorem VC.know {p : Prop} (hh : ∀ w, Holds W H w -> p) (h : p -> VC W P n c Q H f) : VC W P n c Q H f := fun t w hk hw => h (hh w hw) t w hk hw
theorem VO.know {k : Nat} {p : Prop} (hh : ∀ w, Holds W H w -> p) (h : p -> VO W P n c k Q H f) : VO W P n c k Q H f := fun t w hk hw => h (hh w hw) t w hk hw
theorem VE.know {e : Exit} {p : Prop} (hh : ∀ w, Holds W H w -> p) (h : p -> VE W n Q e H f) : VE W n Q e H f := fun t w hk hw => h (hh w hw) t w hk hw
theorem VC.re {v : Value} (d : Nat) (v' : Value) (hl : look f d = some v) (e : v = v') (h : VC W P n c Q H ((d, v') :: f)) : VC W P n c Q H f := fun t w hk hw => h t w (hk.again (e ▸ hl)) hw
theorem VO.re {v : Value} {k : Nat} (d : Nat) (v' : Value) (hl : look f d = some v) (e : v = v') (h : VO W P n c k Q H ((d, v') :: f)) : VO W P n c k Q H f := fun t w hk hw => h t w (hk.again (e ▸ hl)) hw
theorem VE.next (h : VC W P n c Q H f) : VE W n (thenC P c Q) .normal H f := h
theorem VE.passRet (h : VE W n Q .ret H f) : VE W n (thenC P c Q) .ret H f := h
theorem VE.passExit {i : Nat} (h : VE W n Q (.exit i) H f) : VE W n (thenC P c Q) (.exit i) H f := h
theorem VE.loopRet {α : Type} {A : α -> Prop} {G : α -> List SProp} {F : α -> Fr} {m : α -> Nat} {k : Nat} (h : VE W n Q .ret H f) : VE W n (loopC W n A G F m k Q) .ret H f := h
theorem VE.loopExit {α : Type} {A : α -> Prop} {G : α -> List SProp} {F : α -> Fr} {m : α -> Nat} {k i : Nat} (h : VE W n Q (.exit i) H f) : VE W n (loopC W n A G F m k Q) (.exit i) H f := h
theorem VE.blockNormal {i : Nat} (h : VE W n Q .normal H f) : VE W n (blockC i Q) .normal H f := h
theorem VE.blockRet {i : Nat} (h : VE W n Q .ret H f) : VE W n (blockC i Q) .ret H f := h
theorem VE.blockHit {i : Nat} (h : VE W n Q .normal H f) : VE W n (blockC i Q) (.exit i) H f := fun t w hk hw => by
 have := h t w hk hw
 simpa [blockC, Exit.inBlock] using this
theorem VE.blockMiss {i j : Nat} (hne : Nat.beq j i = false) (h : VE W n Q (.exit j) H f) : VE W n (blockC i Q) (.exit j) H f := fun t w hk hw => by
 have := h t w hk hw
 have hne' : j ≠ i := by intro e; subst e; simp at hne
 simpa [blockC, Exit.inBlock, hne'] using this
theorem VC.loop {α : Type} (A : α -> Prop) (G : α -> List SProp) (F : α -> Fr) (m : α -> Nat) (hc : isLoop c = true) (x0 : α) (h0 : A x0) (hH : Ent W H (G x0)) (hF : SubF (F x0) f)
    (round : ∀ x, A x -> VC W P n (Cd.l c) (loopC W n A G F m (m x) Q) (G x) (F x)) : VC W P n c Q H f := by
  cases c <;> simp [isLoop] at hc
  intro t w hk hw
  refine wp_loop_ghost (fun k a w => ∃ x t', a = ⟨t', []⟩ /\ A x /\ m x = k /\ Knows n (F x) t' /\ Holds W (G x) w) (m x0) ⟨x0, t, rfl, h0, rfl, hk.sub hF, hH w hw⟩ ?_
  rintro k a w ⟨x, t', rfl, hA, rfl, hk', hw'⟩
  refine Code.wp_mono ?_ (round x hA t' w hk' hw')
  intro e a w q
  cases e with
  | normal =>
    obtain ⟨y, t'', rfl, h1, h2, h3, h4⟩ := q
    exact ⟨m y, h2, y, t'', rfl, h1, rfl, h3, h4⟩
  | _ => exact q
theorem VE.round {α : Type} {A : α -> Prop} {G : α -> List SProp} {F : α -> Fr} {m : α -> Nat} {k : Nat} (y : α) (hA : A y) (hm : m y < k) (hF : SubF (F y) f) (hH : Ent W H (G y)) :
  VE W n (loopC W n A G F m k Q) .normal H f :=
 fun t w hk hw => ⟨y, t, rfl, hA, hm, hk.sub hF, hH w hw⟩
theorem VO.nil {k : Nat} (ho : (regOps c)[k]? = none) (h : VE W n Q .normal H f) : VO W P n c k Q H f := by
 intro t w hk hw
 rw [List.drop_eq_nil_of_le (by simpa using ho)]
 exact wpList_nil (h t w hk hw)
theorem drop_at {k : Nat} {o : Oper} {l : List Oper} (ho : l[k]? = some o) : l.drop k = o :: l.drop (k + 1) := by
 obtain ⟨h1, h2⟩ := List.getElem?_eq_some_iff.1 ho
 rw [List.drop_eq_getElem_cons h1, h2]
theorem VO.step {k : Nat} {o : Oper} (ho : (regOps c)[k]? = some o) (hg : wantX (regOps c) o.guard f = some true) (h : OpV W P n o Q H f (fun H' f' => VO W P n c (k + 1) Q H' f')) : VO W P n c k Q H f := by
 intro t w hk hw
 rw [drop_at ho]
 refine wl_step (a := ⟨t, []⟩) (hk.wanted hg) fun K hK => h t w hk hw K fun H' f' hN t' w' hk' hw' => hK _ _ (hN t' w' hk' hw')
theorem VO.skip {k d : Nat} {o : Oper} (ho : (regOps c)[k]? = some o) (hg : wantX (regOps c) o.guard f = some false) (hd : o.dst = some d) (hn : Nat.blt d n = true) (h : VO W P n c (k + 1) Q H ((d, undef) :: f)) : VO W P n c k Q H f := by
 intro t w hk hw
 rw [drop_at ho]
 refine wpList_step fun K hK => ?_
 rw [if_neg (by rw [show Region.wanted o (yielded (regOps c).toArray (Act.mk t []).tmps) = false from hk.wanted hg]; simp), hd]
 exact hK _ _ (h _ _ (hk.put hn) hw)
theorem VO.split {k s : Nat} {o : Oper} {b : Bool} (ho : (regOps c)[k]? = some o) (hs : guardSlot (regOps c) o.guard = some s) (hl : look f s = some (.bool b))
  (ht : b = true -> VO W P n c k Q H ((s, .bool true) :: f)) (hf : b = false -> VO W P n c k Q H ((s, .bool false) :: f)) : VO W P n c k Q H f := by
 intro t w hk hw
 cases b with
 | true => exact ht rfl t w (hk.again hl) hw
 | false => exact hf rfl t w (hk.again hl) hw
theorem VO.gT {k s : Nat} {o : Oper} {b : Bool} (ho : (regOps c)[k]? = some o) (hs : guardSlot (regOps c) o.guard = some s) (hl : look f s = some (.bool b)) (hb : b = true) (h : VO W P n c k Q H ((s, .bool true) :: f)) : VO W P n c k Q H f :=
 VO.split ho hs hl (fun _ => h) (fun e => by rw [hb] at e; cases e)
theorem VO.gF {k s : Nat} {o : Oper} {b : Bool} (ho : (regOps c)[k]? = some o) (hs : guardSlot (regOps c) o.guard = some s) (hl : look f s = some (.bool b)) (hb : b = false) (h : VO W P n c k Q H ((s, .bool false) :: f)) : VO W P n c k Q H f :=
 VO.split ho hs hl (fun e => by rw [hb] at e; cases e) (fun _ => h)
def PureAt (W : World) (P : Program) (n : Nat) (H : List SProp) (f : Fr) (o : Oper) (v : Value) : Prop :=
  ∀ t w, Knows n f t -> Holds W H w -> (execOp (Act.eval ⟨t, []⟩) o).run P w = .ok (.value v) w
variable {N : List SProp -> Fr -> Prop} {dst : Option Tmp} {d : Nat} {ty_ : TypeId} {pos : String} {after : Array Edge} {guard : Option (Nat × Bool)}
theorem OpV.pure {op : Op} {v : Value} (hp : PureAt W P n H f { dst := some d, op, type := ty_, pos, after, guard } v) (hd : Nat.blt d n = true) (h : N H ((d, v) :: f)) :
  OpV W P n { dst := some d, op, type := ty_, pos, after, guard } Q H f N := by
 intro t w hk hw K hK
 unfold Oper.wp
 rw [hp t w hk hw]
 exact hK _ _ h _ _ (hk.put hd) hw
theorem VO.pure {k : Nat} {op : Op} {v : Value} (ho : (regOps c)[k]? = some { dst := some d, op, type := ty_, pos, after, guard }) (hg : wantX (regOps c) guard f = some true)
  (hp : PureAt W P n H f { dst := some d, op, type := ty_, pos, after, guard } v) (hd : Nat.blt d n = true) (h : VO W P n c (k + 1) Q H ((d, v) :: f)) : VO W P n c k Q H f :=
 VO.step ho hg (OpV.pure hp hd h)
theorem PureAt.move {x : Operand} {v : Value} (hx : evalX f x = some v) : PureAt W P n H f { dst, op := .move x, type := ty_, pos, after, guard } v :=
 fun t w hk _ => by simp only [execOp, hk.eval hx, Sem.run_pure]
theorem PureAt.assign {x : Operand} {v : Value} (hx : evalX f x = some v) : PureAt W P n H f { dst, op := .assign x, type := ty_, pos, after, guard } v :=
 fun t w hk _ => by simp only [execOp, hk.eval hx, Sem.run_pure]
theorem PureAt.pickT {x y z : Operand} {v : Value} (hx : evalX f x = some (.bool true)) (hy : evalX f y = some v) : PureAt W P n H f { dst, op := .pick x y z, type := ty_, pos, after, guard } v :=
 fun t w hk _ => by simp [execOp, hk.eval hx, hk.eval hy, asBool]
theorem PureAt.pickF {x y z : Operand} {v : Value} (hx : evalX f x = some (.bool false)) (hz : evalX f z = some v) : PureAt W P n H f { dst, op := .pick x y z, type := ty_, pos, after, guard } v :=
 fun t w hk _ => by simp [execOp, hk.eval hx, hk.eval hz, asBool]
theorem PureAt.nilPtr {x : Operand} {a : Addr} (hx : evalX f x = some (.pointer (some a))) : PureAt W P n H f { dst, op := .nilCheck x, type := ty_, pos, after, guard } (.pointer (some a)) :=
 fun t w hk _ => by simp [execOp, hk.eval hx]
theorem PureAt.nilFunc {x : Operand} {g : FuncId} {p q : Array Value} (hx : evalX f x = some (.func (.func g) p q)) : PureAt W P n H f { dst, op := .nilCheck x, type := ty_, pos, after, guard } (.func (.func g) p q) :=
 fun t w hk _ => by simp [execOp, hk.eval hx]
theorem PureAt.fieldAddr0 {x : Operand} {b o off : Nat} {s : TypeId} {i : Nat} (hx : evalX f x = some (.pointer (some ⟨b, o, none⟩))) (hF : fldOff P s i = some off) :
  PureAt W P n H f { dst, op := .fieldAddr s x i, type := ty_, pos, after, guard } (.pointer (some ⟨b, o + off, none⟩)) := by
 intro t w hk _
 unfold fldOff at hF
 split at hF
 ·
  rename_i fs hu
  split at hF
  ·
   rename_i fd hfd
   split at hF
   · cases hF
   ·
    rename_i hz
    cases hF
    have hs : (sizeOf fd.type).run P w = .ok (P.cellsOf fd.type) w := by
     unfold Program.cellsOf at hz ⊢
     cases hi : P.info? fd.type with
     | none => simp [hi] at hz
     | some ti => simp [sizeOf, typeInfo, hi]
    simp [execOp, hk.eval hx, Instr.fieldAt, run_underlying hu, hfd, Instr.sureAddr, fieldPlace, hs, hz, Addr.add_lit]
  · cases hF
 · cases hF
theorem PureAt.fieldAddr {T : TabData} {x : Operand} {b o off : Nat} {s : TypeId} {i : Nat} (hT : T.ok P = true) (hx : evalX f x = some (.pointer (some ⟨b, o, none⟩))) (hF : T.fld s i = some off) :
  PureAt W P n H f { dst, op := .fieldAddr s x i, type := ty_, pos, after, guard } (.pointer (some ⟨b, o + off, none⟩)) := PureAt.fieldAddr0 hx (T.fld_ok hT hF)
theorem PureAt.load {x : Operand} {s T : TypeId} {b off : Nat} {cs : List Value} {v : Value} (hx : evalX f x = some (.pointer (some ⟨b, off, none⟩))) (m : Row b T cs ∈ H) (hv : cs[off]? = some v) (hT : ∀ w, (isAgg s).run P w = .ok false w) :
  PureAt W P n H f { dst, op := .load s x, type := ty_, pos, after, guard } v :=
 fun t w hk hw => by simp [execOp, hk.eval hx, Instr.loadAt, Instr.sureAddr, run_load1 hT (hw.cell m hv)]
theorem PureAt.loadro {x : Operand} {s : TypeId} {ad : Addr} {v : Value} (hx : evalX f x = some (.pointer (some ad))) (hv : W.cell? ad = some v) (hT : ∀ w, (isAgg s).run P w = .ok false w) :
  PureAt W P n H f { dst, op := .load s x, type := ty_, pos, after, guard } v :=
 fun t w hk hw => by simp [execOp, hk.eval hx, Instr.loadAt, Instr.sureAddr, run_load1 hT (hw.ro hv)]
theorem PureAt.loadc {x : Operand} {s : TypeId} {ad : Addr} {v : Value} (hx : evalX f x = some (.pointer (some ad))) (hv : ∀ w, Holds W H w -> w.cell? ad = some v) (hT : ∀ w, (isAgg s).run P w = .ok false w) :
  PureAt W P n H f { dst, op := .load s x, type := ty_, pos, after, guard } v :=
 fun t w hk hw => by simp [execOp, hk.eval hx, Instr.loadAt, Instr.sureAddr, run_load1 hT (hv w hw)]
theorem PureAt.ld {T : TabData} {x : Operand} {s U : TypeId} {b off : Nat} {cs : List Value} {v : Value} (hT : T.ok P = true) (hx : evalX f x = some (.pointer (some ⟨b, off, none⟩))) (hl : assoc T.leaf s = some ()) (m : Row b U cs ∈ H) (hv : cs[off]? = some v) :
  PureAt W P n H f { dst, op := .load s x, type := ty_, pos, after, guard } v := PureAt.load hx m hv (T.leaf_ok hT hl).1
theorem PureAt.ldro {T : TabData} {x : Operand} {s : TypeId} {ad : Addr} {v : Value} (hT : T.ok P = true) (hx : evalX f x = some (.pointer (some ad))) (hl : assoc T.leaf s = some ()) (hv : W.cell? ad = some v) :
  PureAt W P n H f { dst, op := .load s x, type := ty_, pos, after, guard } v := PureAt.loadro hx hv (T.leaf_ok hT hl).1
theorem PureAt.ldc {T : TabData} {x : Operand} {s : TypeId} {ad : Addr} {v : Value} (hT : T.ok P = true) (hx : evalX f x = some (.pointer (some ad))) (hl : assoc T.leaf s = some ()) (hv : ∀ w, Holds W H w -> w.cell? ad = some v) :
  PureAt W P n H f { dst, op := .load s x, type := ty_, pos, after, guard } v := PureAt.loadc hx hv (T.leaf_ok hT hl).1
theorem PureAt.extract {x : Operand} {i : Nat} {vs : Array Value} {v : Value} (hx : evalX f x = some (.tuple vs)) (hv : vs[i]? = some v) : PureAt W P n H f { dst, op := .extract x i, type := ty_, pos, after, guard } v :=
 fun t w hk _ => by simp [execOp, hk.eval hx, Instr.extract, hv]
theorem PureAt.len {T : TabData} {x : Operand} {t e : TypeId} {ao : Option Addr} {k cap : Nat} (hT : T.ok P = true) (hx : evalX f x = some (.slice ao k cap)) (hs : assoc T.sls t = some e) :
  PureAt W P n H f { dst, op := .call { callee := .builtin .len, args := #[x], argTypes := #[t] }, type := ty_, pos, after, guard } (.int .i64 (k : Int)) :=
 fun tm w hk _ => by
  unfold execOp
  simp [resolve, invoke, builtin, hk.eval hx, Builtin.len_, run_underlying (T.slice_ok hT hs), goInt]
theorem PureAt.cap {T : TabData} {x : Operand} {t e : TypeId} {ao : Option Addr} {k cap : Nat} (hT : T.ok P = true) (hx : evalX f x = some (.slice ao k cap)) (hs : assoc T.sls t = some e) :
  PureAt W P n H f { dst, op := .call { callee := .builtin .cap, args := #[x], argTypes := #[t] }, type := ty_, pos, after, guard } (.int .i64 (cap : Int)) :=
 fun tm w hk _ => by
  unfold execOp
  simp [resolve, invoke, builtin, hk.eval hx, Builtin.cap_, run_underlying (T.slice_ok hT hs), goInt]
theorem PureAt.convert {T : TabData} {x : Operand} {s t : TypeId} {k0 k k' : IntKind} {a : Int} (hT : T.ok P = true) (hx : evalX f x = some (.int k a)) (hs : assoc T.ints s = some k0) (ht : assoc T.ints t = some k') :
  PureAt W P n H f { dst, op := .convert s t x, type := ty_, pos, after, guard } (.int k' (k'.wrap a)) :=
 fun tm w hk _ => by
  unfold execOp
  simp [hk.eval hx, Go.convert, run_underlying (T.int_ok hT hs), run_underlying (T.int_ok hT ht), Conv.intToInt]
theorem PureAt.shr {x y : Operand} {s u : TypeId} {k k' : IntKind} {m : Nat} {j : Int} (hx : evalX f x = some (.int k (m : Int))) (hy : evalX f y = some (.int k' j)) (h0 : 0 <= j) (hb : j.toNat <= k.bits) :
  PureAt W P n H f { dst, op := .binOp .shr s x y u, type := ty_, pos, after, guard } (.int k ((m / 2 ^ j.toNat : Nat) : Int)) :=
 fun tm w hk _ => by
  have e1 : ¬ j < 0 := by omega
  have e2 : (m : Int).fdiv (2 ^ j.toNat) = ((m / 2 ^ j.toNat : Nat) : Int) := by
   rw [Int.fdiv_eq_ediv_of_nonneg _ (by exact Int.pow_nonneg (by omega))]
   simp
  simp [execOp, hk.eval hx, hk.eval hy, eqGuard, binOp, Op.shift, e1, Nat.min_eq_left hb, e2]
theorem PureAt.shl {x y : Operand} {s u : TypeId} {k k' : IntKind} {m j : Int} (hx : evalX f x = some (.int k m)) (hy : evalX f y = some (.int k' j)) (h0 : 0 <= j) :
  PureAt W P n H f { dst, op := .binOp .shl s x y u, type := ty_, pos, after, guard } (.int k (k.wrap (m * 2 ^ min j.toNat k.bits))) :=
 fun tm w hk _ => by
  have e1 : ¬ j < 0 := by omega
  simp [execOp, hk.eval hx, hk.eval hy, eqGuard, binOp, Op.shift, e1]
theorem PureAt.quo {x y : Operand} {s u : TypeId} {k : IntKind} {a b : Nat} (hx : evalX f x = some (.int k (a : Int))) (hy : evalX f y = some (.int k (b : Int))) (hb : 0 < b) (hw : k.wrap ((a / b : Nat) : Int) = ((a / b : Nat) : Int)) :
  PureAt W P n H f { dst, op := .binOp .quo s x y u, type := ty_, pos, after, guard } (.int k ((a / b : Nat) : Int)) :=
 fun tm w hk _ => by
  have e1 : ¬ b = 0 := by omega
  have e2 : (a : Int).tdiv b = ((a / b : Nat) : Int) := by simp
  simp only [execOp, hk.eval hx, hk.eval hy, eqGuard, binOp, Op.intDiv, e2, hw]
  simp [e1, e2, hw]
theorem PureAt.rem {x y : Operand} {s u : TypeId} {k : IntKind} {a b : Nat} (hx : evalX f x = some (.int k (a : Int))) (hy : evalX f y = some (.int k (b : Int))) (hb : 0 < b) :
  PureAt W P n H f { dst, op := .binOp .rem s x y u, type := ty_, pos, after, guard } (.int k ((a % b : Nat) : Int)) :=
 fun tm w hk _ => by
  have e1 : ¬ b = 0 := by omega
  have e2 : (a : Int).tmod b = ((a % b : Nat) : Int) := by rw [Int.tmod_eq_emod_of_nonneg (by omega)]; simp
  simp [execOp, hk.eval hx, hk.eval hy, eqGuard, binOp, Op.intDiv, e1, e2]
theorem PureAt.not {x : Operand} {s : TypeId} {b : Bool} (hx : evalX f x = some (.bool b)) : PureAt W P n H f { dst, op := .unOp .not s x, type := ty_, pos, after, guard } (.bool (!b)) :=
 fun t w hk _ => by simp [execOp, hk.eval hx, Op.unary]
theorem PureAt.neg {x : Operand} {s : TypeId} {k : IntKind} {a : Int} (hx : evalX f x = some (.int k a)) : PureAt W P n H f { dst, op := .unOp .neg s x, type := ty_, pos, after, guard } (.int k (k.wrap (0 - a))) :=
 fun t w hk _ => by simp [execOp, hk.eval hx, Op.unary, Op.intArith]
def binI (op : BinOp) (k : IntKind) (x y : Int) : Option Value :=
  match op with
  | .add => some (.int k (k.wrap (x + y)))
  | .sub => some (.int k (k.wrap (x - y)))
  | .mul => some (.int k (k.wrap (x * y)))
  | .and => some (.int k (k.wrap (BitVec.ofInt k.bits x &&& BitVec.ofInt k.bits y).toNat))
  | .or => some (.int k (k.wrap (BitVec.ofInt k.bits x ||| BitVec.ofInt k.bits y).toNat))
  | .xor => some (.int k (k.wrap (BitVec.ofInt k.bits x ^^^ BitVec.ofInt k.bits y).toNat))
  | .eql => some (.bool (x == y))
  | .neq => some (.bool (x != y))
  | .lss => some (.bool (decide (x < y)))
  | .leq => some (.bool (decide (x <= y)))
  | .gtr => some (.bool (decide (y < x)))
  | .geq => some (.bool (decide (y <= x)))
  | _ => none
theorem PureAt.bin {op : BinOp} {x y : Operand} {s u : TypeId} {k : IntKind} {a b : Int} {v : Value} (hx : evalX f x = some (.int k a)) (hy : evalX f y = some (.int k b)) (hv : binI op k a b = some v) :
  PureAt W P n H f { dst, op := .binOp op s x y u, type := ty_, pos, after, guard } v := by
 intro t w hk _
 have e1 := hk.eval hx
 have e2 := hk.eval hy
 cases op <;> simp only [binI, Option.some.injEq, reduceCtorEq] at hv <;> subst hv <;>
  simp [execOp, e1, e2, eqGuard, binOp, Op.intArith, Op.intBits, Op.intCmp]
def arI (op : BinOp) (x y : Int) : Option Int :=
  match op with
  | .add => some (x + y)
  | .sub => some (x - y)
  | .mul => some (x * y)
  | _ => none
theorem PureAt.ar64 {op : BinOp} {x y : Operand} {s u : TypeId} {a b z : Int} (hx : evalX f x = some (.int .i64 a)) (hy : evalX f y = some (.int .i64 b)) (hv : arI op a b = some z) (hb : -9223372036854775808 <= z /\ z <= 9223372036854775807) :
  PureAt W P n H f { dst, op := .binOp op s x y u, type := ty_, pos, after, guard } (.int .i64 z) := by
 refine PureAt.bin hx hy ?_
 have e : IntKind.i64.wrap z = z := IntWalk.i64_in z hb
 cases op <;> simp only [arI, Option.some.injEq, reduceCtorEq] at hv <;> subst hv <;> simp only [binI, e]
end
section
variable {W : World} {P : Program} {n : Nat} {c : Code} {Q : Exit -> Act -> World -> Prop} {H H' L S : List SProp} {f F : Fr} {C : SProp -> List SProp}
variable {N : List SProp -> Fr -> Prop} {dst : Option Tmp} {d : Nat} {ty_ : TypeId} {pos : String} {after : Array Edge} {guard : Option (Nat × Bool)}
theorem OpV.run {op : Op} {α : Sort _} {v : α -> Value} {G : α -> List SProp} (hd : Nat.blt d n = true)
  (hr : ∀ t w, Knows n f t -> Holds W H w -> ∃ x w', (execOp (Act.eval ⟨t, []⟩) { dst := some d, op, type := ty_, pos, after, guard }).run P w = .ok (.value (v x)) w' /\ Holds W (G x) w')
  (h : ∀ x, N (G x) ((d, v x) :: f)) : OpV W P n { dst := some d, op, type := ty_, pos, after, guard } Q H f N := by
 intro t w hk hw K hK
 obtain ⟨x, w', hr, hg⟩ := hr t w hk hw
 unfold Oper.wp
 rw [hr]
 exact hK _ _ (h x) _ _ (hk.put hd) hg
theorem OpV.store {t : TypeId} {x y : Operand} {b off : Nat} {v : Value} {T : TypeId} {cs : List Value} (hx : evalX f x = some (.pointer (some ⟨b, off, none⟩))) (hy : evalX f y = some v) (hv : v.oneCell' = true)
  (u : Hole H (Row b T cs) C) (hoff : off < cs.length) (hS : ∀ w, (sizeOf t).run P w = .ok 1 w) (h : N (C (Row b T (cs.set off v))) f) :
  OpV W P n { dst := none, op := .store t x y, type := ty_, pos, after, guard } Q H f N := by
 intro tm w hk hw K hK
 obtain ⟨R, p, q⟩ := u.perm
 have hw1 := hw.perm p
 have hc := hw1.cell (off := off) (.head _) (List.getElem?_eq_getElem hoff)
 have hf := hw1.free (off := off) (.head _)
 unfold Oper.wp execOp
 simp only [hk.eval hx, hk.eval hy, Instr.storeAt, Instr.sureAddr, Sem.run_bind, Sem.run_pure, Result.andThen_ok, run_storeVar1 hv hS hc hf]
 exact hK _ _ h _ _ hk (hw.store _ u)
theorem OpV.st {T : TabData} {t : TypeId} {x y : Operand} {b off : Nat} {v : Value} {U : TypeId} {cs : List Value} (hT : T.ok P = true) (hx : evalX f x = some (.pointer (some ⟨b, off, none⟩))) (hy : evalX f y = some v) (hv : v.oneCell' = true) (hl : assoc T.leaf t = some ())
  (u : Hole H (Row b U cs) C) (hoff : off < cs.length) (h : N (C (Row b U (cs.set off v))) f) :
  OpV W P n { dst := none, op := .store t x y, type := ty_, pos, after, guard } Q H f N := OpV.store hx hy hv u hoff (T.leaf_ok hT hl).2 h
theorem OpV.box {t : TypeId} {x : Operand} {v : Value} {cs : List Value} (hx : evalX f x = some v) (hcs : v.cells = cs.toArray) (hd : Nat.blt d n = true)
  (h : ∀ b, N (Row b t cs :: H) ((d, .pointer (some ⟨b, 0, none⟩)) :: f)) : OpV W P n { dst := some d, op := .box t x, type := ty_, pos, after, guard } Q H f N := by
 refine OpV.run hd (fun tm w hk hw => ⟨w.heap.size, _, ?_, hw.alloc (T := t) (cs := cs)⟩) h
 unfold execOp
 simp only [hk.eval hx, Instr.box, newVar, newRow, newObj, Sem.run_bind, Sem.run, Result.andThen_ok, Sem.run_pure, hcs]
 rfl
theorem OpV.alloc {t : TypeId} {z : Value} {cs : List Value} (hz : ∀ w, (zeroValue t).run P w = .ok z w) (hcs : z.cells = cs.toArray) (hd : Nat.blt d n = true)
  (h : ∀ b, N (Row b t cs :: H) ((d, .pointer (some ⟨b, 0, none⟩)) :: f)) : OpV W P n { dst := some d, op := .alloc t, type := ty_, pos, after, guard } Q H f N := by
 refine OpV.run hd (fun tm w hk hw => ⟨w.heap.size, _, ?_, hw.alloc (T := t) (cs := cs)⟩) h
 unfold execOp
 simp only [Instr.alloc, newVar, newRow, newObj, Sem.run_bind, hz, Sem.run, Result.andThen_ok, Sem.run_pure, hcs]
 rfl
theorem OpV.append {s x : Operand} {t tx e : TypeId} {z : Value} {sz by_ k m : Nat} {v vx : Value} {xs news : List Value} (st : SliceT P t e z sz by_) (hs : evalX f s = some v) (hx : evalX f x = some vx)
  (u : Hole H (Own e sz v k xs) C) (hsrc : ∀ w, Holds W H w -> Src P sz tx vx m news w) (h63 : k + m <= maxLen) (hb : (k + m) * by_ <= 140737488355328) (hd : Nat.blt d n = true)
  (h : ∀ ao cap, N (C (Own e sz (.slice ao (k + m) cap) (k + m) (xs ++ news))) ((d, .slice ao (k + m) cap) :: f)) :
  OpV W P n { dst := some d, op := .call { callee := .builtin .append, args := #[s, x], argTypes := #[t, tx] }, type := ty_, pos, after, guard } Q H f N := by
 refine OpV.run (α := Option Addr × Nat) (v := fun y => .slice y.1 (k + m) y.2) (G := fun y => C (Own e sz (.slice y.1 (k + m) y.2) (k + m) (xs ++ news))) hd (fun tm w hk hw => ?_) (fun y => h y.1 y.2)
 obtain ⟨R, p, q⟩ := u.perm
 obtain ⟨v', w', hr, h2⟩ := Holds.append (ty := ty_) st (hw.perm p) (hsrc w hw) h63 hb
 obtain ⟨ao, cap, rfl⟩ := h2.ownShape
 refine ⟨(ao, cap), w', ?_, h2.perm (q _)⟩
 unfold execOp
 simp only [resolve, invoke, builtin, Sem.run_bind, Sem.run_pure, Result.andThen_ok, List.map_toArray, List.map_cons, List.map_nil, hk.eval hs, hk.eval hx, hr]
def partsX (f : Fr) : Nat -> List (Nat × Operand) -> Option (List Value)
  | _, [] => some []
  | i, (j, x) :: r => bif Nat.beq j i then
      match evalX f x, partsX f (i + 1) r with
      | some v, some vs => some (v :: vs)
      | _, _ => none
    else none
def enumP : Nat -> List Value -> List (Nat × Value)
  | _, [] => []
  | i, v :: r => (i, v) :: enumP (i + 1) r
theorem partsX_eval {t : Array Value} (hk : Knows n f t) : ∀ {ps : List (Nat × Operand)} {i : Nat} {vs : List Value}, partsX f i ps = some vs -> ps.map (fun p => (p.1, Act.eval ⟨t, []⟩ p.2)) = enumP i vs
  | [], i, vs, e => by simp [partsX] at e; subst e; rfl
  | (j, x) :: r, i, vs, e => by
    unfold partsX at e
    cases hb : Nat.beq j i with
    | false => rw [hb] at e; cases e
    | true =>
      have hj : j = i := by simpa using hb
      subst hj
      rw [hb] at e
      simp only [cond_true] at e
      split at e
      · rename_i v ws h1 h2
        cases e
        simp [enumP, hk.eval h1, partsX_eval hk h2]
      · cases e
theorem foldl_set (vs : List Value) : ∀ (o : Nat) (cs : Array Value), o + vs.length <= cs.size ->
    ((vs.zipIdx o).foldl (fun cs (x : Value × Nat) => cs.setIfInBounds x.2 x.1) cs).toList = cs.toList.take o ++ vs ++ cs.toList.drop (o + vs.length) := by
  induction vs with
  | nil => intro o cs _; simp
  | cons v r ih =>
    intro o cs h
    simp only [List.length_cons] at h
    simp only [List.zipIdx_cons, List.foldl_cons]
    rw [ih (o + 1) _ (by simp; omega)]
    have ho : o < cs.toList.length := by simp; omega
    simp only [Array.toList_setIfInBounds]
    have e1 : (cs.toList.set o v).take (o + 1) = cs.toList.take o ++ [v] := by
      rw [List.take_succ_eq_append_getElem (by simpa using ho)]; simp [List.take_set_of_le]
    have e2 : (cs.toList.set o v).drop (o + 1 + r.length) = cs.toList.drop (o + (v :: r).length) := by
      rw [List.drop_set_of_lt (by omega)]; simp; congr 1; omega
    rw [e1, e2]; simp
theorem fill_all (sz : Nat) : ∀ (vs : List Value) (i : Nat) (cs : Array Value), (∀ v ∈ vs, v.cells.size = sz) -> cs.size = (i + vs.length) * sz ->
    ∃ out, Instr.fill (fun j => some (j * sz, sz)) cs (enumP i vs) = some out /\ out.toList = cs.toList.take (i * sz) ++ vs.flatMap (·.cells.toList) := by
  intro vs
  induction vs with
  | nil =>
    intro i cs _ h
    refine ⟨cs, rfl, ?_⟩
    simp only [List.length_nil, Nat.add_zero] at h
    rw [<- h]; simp [List.take_of_length_le]
  | cons v r ih =>
    intro i cs hs h
    have hv := hs v (.head _)
    have hsz : cs.size = i * sz + (r.length * sz + sz) := by rw [h]; simp [Nat.add_mul]
    have h1 : ¬ (v.cells.size ≠ sz || decide (i * sz + v.cells.size > cs.size)) = true := by
      simp [hv]; omega
    have e0 : ∀ (c : Array Value), (v.cells.zipIdx.foldl (fun cs (x : Value × Nat) => cs.setIfInBounds (i * sz + x.2) x.1) c) = ((v.cells.toList.zipIdx (i * sz)).foldl (fun cs (x : Value × Nat) => cs.setIfInBounds x.2 x.1) c) := by
      intro c
      rw [<- Array.foldl_toList, Array.toList_zipIdx]
      have : v.cells.toList.zipIdx (i * sz) = v.cells.toList.zipIdx.map fun x => (x.1, i * sz + x.2) := by
        apply List.ext_getElem? ; intro q; simp only [List.getElem?_zipIdx, List.getElem?_map]; cases v.cells.toList[q]? <;> simp
      rw [this, List.foldl_map]
    have hfold := foldl_set v.cells.toList (i * sz) cs (by simp [hv]; omega)
    obtain ⟨out, ho, hl⟩ := ih (i + 1) ((v.cells.toList.zipIdx (i * sz)).foldl (fun cs (x : Value × Nat) => cs.setIfInBounds x.2 x.1) cs) (fun u hu => hs u (.tail _ hu)) (by
      rw [<- Array.length_toList, hfold]
      simp [hv, hsz, Nat.add_mul]; omega)
    refine ⟨out, ?_, ?_⟩
    · show (if (v.cells.size ≠ sz || decide (i * sz + v.cells.size > cs.size)) = true then none else _) = _
      rw [if_neg h1, e0]
      exact ho
    · rw [hl, hfold]
      have : (cs.toList.take (i * sz) ++ v.cells.toList ++ cs.toList.drop (i * sz + v.cells.toList.length)).take ((i + 1) * sz) = cs.toList.take (i * sz) ++ v.cells.toList := by
        rw [List.take_append_of_le_length (by simp [hv, Nat.add_mul]; omega), List.take_of_length_le (by simp [hv, Nat.add_mul]; omega)]
      rw [this]; simp
theorem OpV.buildSlice {t e len : Nat} {ps : Array (Nat × Operand)} {z : Value} {sz by_ : Nat} {vs cs : List Value} (st : SliceT P t e z sz by_) (hp : partsX f 0 ps.toList = some vs) (hlen : len = vs.length) (hsz : ∀ v ∈ vs, v.cells.size = sz)
  (hcs : vs.flatMap (·.cells.toList) = cs) (hbig : len * sz <= 2 ^ 24) (hd : Nat.blt d n = true) (h : ∀ b, N (Row b e cs :: H) ((d, .slice (some ⟨b, 0, none⟩) len len) :: f)) :
  OpV W P n { dst := some d, op := .buildSlice t len ps, type := ty_, pos, after, guard } Q H f N := by
 refine OpV.run (v := fun b => .slice (some ⟨b, 0, none⟩) len len) (G := fun b => Row b e cs :: H) hd (fun tm w hk hw => ⟨w.heap.size, _, ?_, hw.alloc (T := e) (cs := cs)⟩) h
 obtain ⟨i, hi, hz, hs, hb⟩ := info_parts st.info
 subst hs
 subst hlen
 have hev := partsX_eval hk hp
 have hps : (ps.map fun p => (p.1, Act.eval ⟨tm, []⟩ p.2)).toList = enumP 0 vs := by rw [<- hev]; simp
 have hbig' : ¬ vs.length * i.size > 2 ^ 24 := by omega
 unfold execOp
 by_cases h0 : vs.length * i.size = 0
 ·
  obtain ⟨out, ho, hl⟩ := fill_all i.size vs 0 ((Array.range (vs.length * i.size)).map fun j => (#[] : Array Value)[j % (#[] : Array Value).size]!) hsz (by simp)
  have hout : out = cs.toArray := by apply Array.ext'; rw [hl]; simp [hcs]
  simp only [Instr.buildSlice, Sem.run_bind, run_underlying st.und, Result.andThen_ok, sizeOf, typeInfo, program, Sem.run, hi, Sem.run_pure, h0, show ¬ ((0 : Nat) > 2 ^ 24) by omega, if_false, if_true, newRow, newObj, hps]
  rw [h0] at ho
  simp only [ho, hout, Sem.run, Sem.run_bind, Result.andThen_ok, Sem.run_pure]
  rfl
 ·
  obtain ⟨out, ho, hl⟩ := fill_all i.size vs 0 ((Array.range (vs.length * i.size)).map fun j => z.cells[j % z.cells.size]!) hsz (by simp)
  have hout : out = cs.toArray := by apply Array.ext'; rw [hl]; simp [hcs]
  simp only [Instr.buildSlice, Sem.run_bind, run_underlying st.und, Result.andThen_ok, sizeOf, typeInfo, program, Sem.run, hi, Sem.run_pure, hbig', if_false, h0, zeroValue, hz, newRow, newObj, hps]
  simp only [ho, hout, Sem.run, Sem.run_bind, Result.andThen_ok, Sem.run_pure]
  rfl
theorem cells_one {v : Value} (h : v.oneCell' = true) : v.cells = #[v] := by cases v <;> simp_all [Value.oneCell', Value.cells]
theorem OpV.buildSlice1 {t e len : Nat} {ps : Array (Nat × Operand)} {z : Value} {by_ : Nat} {vs : List Value} (st : SliceT P t e z 1 by_) (hp : partsX f 0 ps.toList = some vs) (hlen : len = vs.length) (h1 : ∀ v ∈ vs, v.oneCell' = true)
  (hbig : len * 1 <= 2 ^ 24) (hd : Nat.blt d n = true) (h : ∀ b, N (Row b e vs :: H) ((d, .slice (some ⟨b, 0, none⟩) len len) :: f)) :
  OpV W P n { dst := some d, op := .buildSlice t len ps, type := ty_, pos, after, guard } Q H f N := by
 refine OpV.buildSlice st hp hlen (fun v hv => by rw [cells_one (h1 v hv)]; rfl) ?_ hbig hd h
 clear hp hlen h
 induction vs with
 | nil => rfl
 | cons v r ih => rw [List.flatMap_cons, cells_one (h1 v (.head _)), ih (fun u hu => h1 u (.tail _ hu))]; rfl
theorem OpV.appendRow {s x : Operand} {t e : TypeId} {z : Value} {sz by_ k m c' b : Nat} {v : Value} {xs news : List Value} (st : SliceT P t e z sz by_) (hs : evalX f s = some v) (hx : evalX f x = some (.slice (some ⟨b, 0, none⟩) m c'))
  (u : Hole H (Own e sz v k xs) C) (hm : Row b e news ∈ H) (hl : news.length = m * sz) (h1 : ∀ u ∈ news, u.oneCell' = true) (h63 : k + m <= maxLen) (hb : (k + m) * by_ <= 140737488355328) (hd : Nat.blt d n = true)
  (h : ∀ ao cap, N (C (Own e sz (.slice ao (k + m) cap) (k + m) (xs ++ news))) ((d, .slice ao (k + m) cap) :: f)) :
  OpV W P n { dst := some d, op := .call { callee := .builtin .append, args := #[s, x], argTypes := #[t, t] }, type := ty_, pos, after, guard } Q H f N :=
 OpV.append st hs hx u (fun w hw => (Sees.row (ys := []) h1 hl hw (by simpa using hm)).src st.und) h63 hb hd h
structure Rds (W : World) (R : List SProp) (sz : Nat) (ao : Option Addr) (n : Nat) (xs : List Value) : Prop where
  len : xs.length = n * sz
  one : ∀ u ∈ xs, u.oneCell' = true
  nil : ao = none -> n = 0
  cell : ∀ w, Holds W R w -> ∀ a, ao = some a -> ∀ j u, xs[j]? = some u -> w.cell? (a.add j) = some u
theorem Rds.ent {sz k : Nat} {ao : Option Addr} {xs : List Value} (h : Rds W L sz ao k xs) (e : Ent W H L) : Rds W H sz ao k xs := ⟨h.len, h.one, h.nil, fun w hw => h.cell w (e w hw)⟩
theorem Rds.sees {sz k cap : Nat} {ao : Option Addr} {xs : List Value} {w : World} (h : Rds W H sz ao k xs) (hw : Holds W H w) : Sees w sz (.slice ao k cap) k xs := by
 refine ⟨h.len, h.one, ?_⟩
 cases ao with
 | none => obtain rfl := h.nil rfl; exact .inl ⟨cap, rfl, rfl⟩
 | some a => exact .inr ⟨a, cap, rfl, h.cell w hw a rfl⟩
theorem Rds.own {e sz k cap : Nat} {ao : Option Addr} {xs : List Value} (h1 : ∀ u ∈ xs, u.oneCell' = true) (m : Own e sz (.slice ao k cap) k xs ∈ H) (hl : xs.length = k * sz) (hn : ao = none -> k = 0) : Rds W H sz ao k xs := by
 refine ⟨hl, h1, hn, ?_⟩
 intro w hw a ha j u hj
 obtain ⟨_, _, hs⟩ := Sees.own h1 hw m
 rcases hs with ⟨c, he, _⟩ | ⟨a', c, he, hc⟩
 · cases he; cases ha
 · cases he; cases ha; exact hc j u hj
theorem Rds.row {e sz k b : Nat} {xs : List Value} (h1 : ∀ u ∈ xs, u.oneCell' = true) (m : Row b e xs ∈ H) (hl : xs.length = k * sz) : Rds W H sz (some ⟨b, 0, none⟩) k xs := by
 refine ⟨hl, h1, (fun h => by cases h), ?_⟩
 intro w hw a ha j u hj
 cases ha
 have := hw.cell m hj
 rwa [show (⟨b, 0, none⟩ : Addr).add j = ⟨b, j, none⟩ by unfold Addr.add; split <;> simp_all]
theorem Holds.ownLen {e sz k : Nat} {v : Value} {xs : List Value} {w : World} (hw : Holds W H w) (m : Own e sz v k xs ∈ H) : xs.length = k * sz := by
 obtain ⟨R, p⟩ := mem_perm m
 exact (hw.perm p).ownOpen.1
theorem Holds.ownNone {e sz k cap : Nat} {ao : Option Addr} {xs : List Value} {w : World} (hw : Holds W H w) (m : Own e sz (.slice ao k cap) k xs ∈ H) : ao = none -> k = 0 := by
 obtain ⟨R, p⟩ := mem_perm m
 rcases (hw.perm p).ownOpen.2 with ⟨_, h, _⟩ | ⟨b, c, s, h, _⟩
 · exact fun _ => h
 · intro e; subst e; cases h
theorem Holds.ownCap {e sz k cap : Nat} {ao : Option Addr} {xs : List Value} {w : World} (hw : Holds W H w) (m : Own e sz (.slice ao k cap) k xs ∈ H) : k <= cap := by
 obtain ⟨R, p⟩ := mem_perm m
 rcases (hw.perm p).ownOpen.2 with ⟨h, rfl, _⟩ | ⟨b, c, s, h, hle, _⟩
 · exact Nat.zero_le _
 · cases h; exact hle
theorem Rds.ro {sz k cap : Nat} {ao : Option Addr} {xs : List Value} (h : Sees W sz (.slice ao k cap) k xs) : Rds W H sz ao k xs := by
 refine ⟨h.len, h.one, fun e => ?_, ?_⟩
 ·
  subst e
  rcases h.at_ with ⟨_, _, h⟩ | ⟨_, _, h, _⟩
  · exact h
  · cases h
 ·
  intro w hw a ha j u hj
  subst ha
  rcases h.at_ with ⟨_, h, _⟩ | ⟨a', _, h, hc⟩
  · cases h
  · cases h; exact hw.ro (hc j u hj)
theorem PureAt.indexAddr {T : TabData} {x y : Operand} {t e : TypeId} {k : IntKind} {a : Addr} {m cap j : Nat} (hT : T.ok P = true) (hx : evalX f x = some (.slice (some a) m cap)) (hy : evalX f y = some (.int k (j : Int))) (ht : assoc T.sls t = some e)
  (hl : assoc T.leaf e = some ()) (hj : j < m) : PureAt W P n H f { dst, op := .indexAddr t x y, type := ty_, pos, after, guard } (.pointer (some (a.add j))) :=
 fun tm w hk _ => by
  have h1 : (0 : Int) <= j /\ (j : Int) < m := ⟨by omega, by omega⟩
  simp [execOp, hk.eval hx, hk.eval hy, Instr.indexAt, asIntOf, run_underlying (T.slice_ok hT ht), (T.leaf_ok hT hl).2, h1]
  intro h; omega
theorem PureAt.indexAddrN {T : TabData} {x y : Operand} {t e sz : TypeId} {k : IntKind} {a : Addr} {m cap j : Nat} (hT : T.ok P = true) (hx : evalX f x = some (.slice (some a) m cap)) (hy : evalX f y = some (.int k (j : Int))) (ht : assoc T.sls t = some e)
  (hl : assoc T.aggs e = some sz) (hj : j < m) : PureAt W P n H f { dst, op := .indexAddr t x y, type := ty_, pos, after, guard } (.pointer (some (a.add (j * sz)))) :=
 fun tm w hk _ => by
  have h1 : (0 : Int) <= j /\ (j : Int) < m := ⟨by omega, by omega⟩
  simp [execOp, hk.eval hx, hk.eval hy, Instr.indexAt, asIntOf, run_underlying (T.slice_ok hT ht), (T.agg_ok hT hl).2, h1]
  intro h; omega
theorem PureAt.ldR {T : TabData} {x : Operand} {s : TypeId} {a : Addr} {k j : Nat} {xs : List Value} {v : Value} (hT : T.ok P = true) (hx : evalX f x = some (.pointer (some (a.add j)))) (hl : assoc T.leaf s = some ()) (hr : Rds W H 1 (some a) k xs) (hj : xs[j]? = some v) :
  PureAt W P n H f { dst, op := .load s x, type := ty_, pos, after, guard } v := PureAt.ldc hT hx hl fun w hw => hr.cell w hw a rfl j v hj
theorem Addr_add_add (a : Addr) (i j : Nat) : (a.add i).add j = a.add (i + j) := by
 unfold Addr.add
 by_cases hi : i = 0
 · subst hi; simp
 ·
  by_cases hj : j = 0
  · subst hj; simp [hi]
  · simp [hi, hj, Nat.add_assoc]
def subA (ao : Option Addr) (cap lo sz : Nat) : Option Addr := if cap = lo then ao else ao.map (·.add (lo * sz))
theorem subA_some {a : Addr} {cap lo sz : Nat} (h : lo < cap) : subA (some a) cap lo sz = some (a.add (lo * sz)) := by unfold subA; rw [if_neg (by omega)]; rfl
def TabData.esz (T : TabData) (t : Nat) : Option Nat := (assoc T.sls t).bind fun e => match assoc T.leaf e with
  | some _ => some 1
  | none => assoc T.aggs e
theorem TabData.esz_ok {T : TabData} {P : Program} (h : T.ok P = true) {t sz : Nat} (hf : T.esz t = some sz) : ∃ e, P.underlying t = some (.slice e) /\ ∀ w, (sizeOf e).run P w = .ok sz w := by
 unfold TabData.esz at hf
 obtain ⟨e, h1, h2⟩ := Option.bind_eq_some_iff.1 hf
 refine ⟨e, T.slice_ok h h1, ?_⟩
 split at h2
 ·
  rename_i u hu
  cases h2
  exact (T.leaf_ok h hu).2
 · exact (T.agg_ok h h2).2
theorem PureAt.sliceLH {T : TabData} {x y z : Operand} {t sz : TypeId} {ao : Option Addr} {m cap l h : Nat} {k k' : IntKind} (hT : T.ok P = true) (hx : evalX f x = some (.slice ao m cap)) (hy : evalX f y = some (.int k (l : Int))) (hz : evalX f z = some (.int k' (h : Int)))
  (ht : T.esz t = some sz) (h1 : l <= h) (h2 : h <= cap) : PureAt W P n H f { dst, op := .slice t x (some y) (some z) none, type := ty_, pos, after, guard } (.slice (subA ao cap l sz) (h - l) (cap - l)) :=
 fun tm w hk _ => by
  obtain ⟨e, hu, hs⟩ := T.esz_ok hT ht
  have e1 : (0 : Int) <= h /\ (h : Int) <= cap := ⟨by omega, by omega⟩
  have e2 : (0 : Int) <= l /\ (l : Int) <= h := ⟨by omega, by omega⟩
  unfold execOp
  simp only [Option.map_some, Option.map_none, hk.eval hx, hk.eval hy, hk.eval hz, Instr.sliceAt, Sem.run_bind, run_underlying hu, Result.andThen_ok, Instr.slice, Instr.sliceBounds, Instr.sliceBound, asIntOf, Sem.run_pure, e1, e2, and_self, if_true, Int.toNat_natCast, hs, subA]
theorem PureAt.sliceH {T : TabData} {x z : Operand} {t sz : TypeId} {ao : Option Addr} {m cap h : Nat} {k' : IntKind} (hT : T.ok P = true) (hx : evalX f x = some (.slice ao m cap)) (hz : evalX f z = some (.int k' (h : Int)))
  (ht : T.esz t = some sz) (h2 : h <= cap) : PureAt W P n H f { dst, op := .slice t x none (some z) none, type := ty_, pos, after, guard } (.slice ao h cap) :=
 fun tm w hk _ => by
  obtain ⟨e, hu, hs⟩ := T.esz_ok hT ht
  have e1 : (0 : Int) <= h /\ (h : Int) <= cap := ⟨by omega, by omega⟩
  unfold execOp
  simp only [Option.map_some, Option.map_none, hk.eval hx, hk.eval hz, Instr.sliceAt, Sem.run_bind, run_underlying hu, Result.andThen_ok, Instr.slice, Instr.sliceBounds, Instr.sliceBound, asIntOf, Sem.run_pure, e1, and_self, if_true, Int.toNat_natCast, hs]
  cases ao <;> simp [Addr.add]
theorem PureAt.sliceL {T : TabData} {x y : Operand} {t sz : TypeId} {ao : Option Addr} {m cap l : Nat} {k : IntKind} (hT : T.ok P = true) (hx : evalX f x = some (.slice ao m cap)) (hy : evalX f y = some (.int k (l : Int)))
  (ht : T.esz t = some sz) (h1 : l <= m) : PureAt W P n H f { dst, op := .slice t x (some y) none none, type := ty_, pos, after, guard } (.slice (subA ao cap l sz) (m - l) (cap - l)) :=
 fun tm w hk _ => by
  obtain ⟨e, hu, hs⟩ := T.esz_ok hT ht
  have e2 : (0 : Int) <= l /\ (l : Int) <= m := ⟨by omega, by omega⟩
  unfold execOp
  simp only [Option.map_some, Option.map_none, hk.eval hx, hk.eval hy, Instr.sliceAt, Sem.run_bind, run_underlying hu, Result.andThen_ok, Instr.slice, Instr.sliceBounds, Instr.sliceBound, asIntOf, Sem.run_pure, e2, and_self, if_true, Int.toNat_natCast, hs, subA]
theorem Rds.sub {sz m cap l h : Nat} {ao : Option Addr} {xs : List Value} (r : Rds W H sz ao m xs) (h1 : l <= h) (h2 : h <= m) (h3 : m <= cap) : Rds W H sz (subA ao cap l sz) (h - l) ((xs.drop (l * sz)).take ((h - l) * sz)) := by
  refine ⟨?_, fun u hu => r.one u (List.mem_of_mem_drop (List.mem_of_mem_take hu)), ?_, ?_⟩
  · rw [List.length_take, List.length_drop, r.len, <- Nat.sub_mul]
    exact Nat.min_eq_left (Nat.mul_le_mul_right _ (by omega))
  · intro e
    have : ao = none := by
      unfold subA at e
      split at e
      · exact e
      · simpa using e
    have := r.nil this
    omega
  · intro w hw a ha j u hj
    rw [List.getElem?_take] at hj
    split at hj
    · rename_i hlt
      rw [List.getElem?_drop] at hj
      unfold subA at ha
      split at ha
      · rename_i hcl
        have : h - l = 0 := by omega
        rw [this] at hlt; omega
      · cases ao with
        | none => cases ha
        | some a0 =>
          cases ha
          rw [Addr_add_add]
          exact r.cell w hw a0 rfl _ u hj
    · cases hj
def eqB (op : BinOp) (b : Bool) : Option Value :=
  match op with
  | .eql => some (.bool b)
  | .neq => some (.bool (!b))
  | _ => none
theorem eqOp_run {op : BinOp} {s u : TypeId} {x y : Operand} {vx vy v : Value} {b : Bool} {tm : Array Value} {w : World} (hk : Knows n f tm) (hx : evalX f x = some vx) (hy : evalX f y = some vy) (hv : eqB op b = some v)
  (h1 : ∀ o, (o = .eql \/ o = .neq) -> eqGuard o s x y vx vy = Pure.pure ()) (h2 : binOp .eql s vx vy = (do Pure.pure (.bool (<- Op.equal s vx vy)))) (h3 : binOp .neq s vx vy = (do Pure.pure (.bool (!(<- Op.equal s vx vy)))))
  (he : (Op.equal s vx vy).run P w = .ok b w) : (execOp (Act.eval ⟨tm, []⟩) { dst, op := .binOp op s x y u, type := ty_, pos, after, guard }).run P w = .ok (.value v) w := by
 cases op <;> simp only [eqB, Option.some.injEq, reduceCtorEq] at hv <;> subst hv <;> unfold execOp
 · simp only [hk.eval hx, hk.eval hy, h1 .eql (.inl rfl), h2, Sem.run_bind, Sem.run_pure, Result.andThen_ok, he]
 · simp only [hk.eval hx, hk.eval hy, h1 .neq (.inr rfl), h3, Sem.run_bind, Sem.run_pure, Result.andThen_ok, he]
theorem PureAt.ptrNil {T : TabData} {op : BinOp} {x y : Operand} {s u e : TypeId} {a : Option Addr} {v : Value} (hT : T.ok P = true) (hx : evalX f x = some (.pointer a)) (hy : evalX f y = some (.pointer none)) (hs : assoc T.descs s = some (0, e)) (hv : eqB op a.isNone = some v) :
  PureAt W P n H f { dst, op := .binOp op s x y u, type := ty_, pos, after, guard } v := by
 intro tm w hk _
 refine eqOp_run hk hx hy hv (by rintro o (rfl | rfl) <;> rfl) rfl rfl ?_
 show (Op.equalIn (9999 + 1) s _ _).run P w = _
 unfold Op.equalIn
 rw [Sem.run_bind, run_underlying (T.ptr_ok hT hs)]
 cases a <;> rfl
theorem PureAt.sliceNil {T : TabData} {op : BinOp} {x y : Operand} {s u e : TypeId} {a : Option Addr} {l c l' c' : Nat} {v : Value} (hT : T.ok P = true) (hx : evalX f x = some (.slice a l c)) (hy : evalX f y = some (.slice none l' c')) (hs : assoc T.sls s = some e) (hv : eqB op a.isNone = some v) :
  PureAt W P n H f { dst, op := .binOp op s x y u, type := ty_, pos, after, guard } v := by
 intro tm w hk _
 refine eqOp_run hk hx hy hv (by rintro o (rfl | rfl) <;> rfl) rfl rfl ?_
 show (Op.equalIn (9999 + 1) s _ _).run P w = _
 unfold Op.equalIn
 rw [Sem.run_bind, run_underlying (T.slice_ok hT hs)]
 cases a <;> rfl
theorem PureAt.boolEq {T : TabData} {op : BinOp} {x y : Operand} {s u e : TypeId} {a b : Bool} {v : Value} (hT : T.ok P = true) (hx : evalX f x = some (.bool a)) (hy : evalX f y = some (.bool b)) (hs : assoc T.descs s = some (1, e)) (hv : eqB op (a == b) = some v) :
  PureAt W P n H f { dst, op := .binOp op s x y u, type := ty_, pos, after, guard } v := by
 intro tm w hk _
 refine eqOp_run hk hx hy hv (by rintro o (rfl | rfl) <;> rfl) rfl rfl ?_
 show (Op.equalIn (9999 + 1) s _ _).run P w = _
 unfold Op.equalIn
 rw [Sem.run_bind, run_underlying (T.bool_ok hT hs)]
 rfl
structure StructT (P : Program) (t : TypeId) (zs : List Value) (pls : List (Nat × Nat)) : Prop where
  zero : ∀ w, (zeroValue t).run P w = .ok (.agg zs.toArray) w
  und : ∃ fs, P.underlying t = some (.struct fs) /\ ∀ w, (fs.mapM fun (f : Field) => do Pure.pure (f.offset, <- sizeOf f.type)).run P w = .ok pls.toArray w
def setL : List Value -> Nat -> List Value -> List Value
  | cs, _, [] => cs
  | cs, o, v :: r => setL (cs.set o v) (o + 1) r
def buildX (pls : List (Nat × Nat)) : List Value -> List (Nat × Value) -> Option (List Value)
  | cs, [] => some cs
  | cs, (i, v) :: r => match pls[i]? with
    | none => none
    | some (o, s) => if v.cells.size ≠ s || o + v.cells.size > cs.length then none else buildX pls (setL cs o v.cells.toList) r
def pairsX (f : Fr) : List (Nat × Operand) -> Option (List (Nat × Value))
  | [] => some []
  | (i, x) :: r => match evalX f x, pairsX f r with
    | some v, some vs => some ((i, v) :: vs)
    | _, _ => none
theorem pairsX_eval {t : Array Value} (hk : Knows n f t) : ∀ {ps : List (Nat × Operand)} {vs : List (Nat × Value)}, pairsX f ps = some vs -> ps.map (fun p => (p.1, Act.eval ⟨t, []⟩ p.2)) = vs
  | [], vs, e => by simp [pairsX] at e; subst e; rfl
  | (j, x) :: r, vs, e => by
    unfold pairsX at e
    split at e
    · rename_i v ws h1 h2
      cases e
      simp [hk.eval h1, pairsX_eval hk h2]
    · cases e
theorem setL_foldl (vs : List Value) : ∀ (o i : Nat) (cs : Array Value), ((vs.zipIdx i).foldl (fun cs (x : Value × Nat) => cs.setIfInBounds (o + x.2) x.1) cs) = (setL cs.toList (o + i) vs).toArray := by
  induction vs with
  | nil => intro o i cs; simp [setL]
  | cons v r ih =>
    intro o i cs
    simp only [List.zipIdx_cons, List.foldl_cons, setL]
    rw [ih o (i + 1)]
    simp [Nat.add_assoc]
theorem setL_length : ∀ (vs : List Value) (cs : List Value) (o : Nat), (setL cs o vs).length = cs.length
 | [], _, _ => rfl
 | _ :: r, cs, o => by rw [setL, setL_length r]; simp
theorem fill_build (pls : List (Nat × Nat)) : ∀ (pv : List (Nat × Value)) (cs out : List Value), buildX pls cs pv = some out -> Instr.fill (pls.toArray[·]?) cs.toArray pv = some out.toArray
  | [], cs, out, h => by cases h; rfl
  | (i, v) :: r, cs, out, h => by
    unfold buildX at h
    unfold Instr.fill
    simp only [List.getElem?_toArray]
    split at h
    · cases h
    · rename_i o s hp
      simp only [hp]
      split at h
      · cases h
      · rename_i hc
        rw [if_neg (by simpa using hc)]
        rw [<- Array.foldl_toList, Array.toList_zipIdx]
        rw [setL_foldl v.cells.toList o 0]
        have := fill_build pls r _ out h
        simpa using this
theorem PureAt.build {t : TypeId} {ps : Array (Nat × Operand)} {zs cs : List Value} {pls : List (Nat × Nat)} {pv : List (Nat × Value)} (sb : StructT P t zs pls) (hp : pairsX f ps.toList = some pv) (hcs : buildX pls zs pv = some cs) :
  PureAt W P n H f { dst, op := .build t ps, type := ty_, pos, after, guard } (.agg cs.toArray) :=
 fun tm w hk _ => by
  obtain ⟨fs, hu, hm⟩ := sb.und
  have hev := pairsX_eval hk hp
  have hps : (ps.map fun p => (p.1, Act.eval ⟨tm, []⟩ p.2)).toList = pv := by rw [<- hev]; simp
  have hf := fill_build pls pv zs cs hcs
  unfold execOp
  simp only [Instr.build, Sem.run_bind, sb.zero, Result.andThen_ok, Value.cells, run_underlying hu, hm, hps, hf, Sem.run_pure]
theorem madeCells_one (z : Value) (m : Nat) : (madeCells #[z] m).toList = List.replicate m z := by
 apply List.ext_getElem
 · simp [madeCells]
 ·
  intro i h1 h2
  simp [madeCells, Nat.mod_one]
theorem OpV.makeSlice {l c' : Operand} {t e : TypeId} {z : Value} {sz by_ m : Nat} {k1 k2 : IntKind} (st : SliceT P t e z sz by_) (hl : evalX f l = some (.int k1 (m : Int))) (hc : evalX f c' = some (.int k2 (m : Int)))
  (hb : by_ * m <= 281474976710656) (h63 : m <= maxLen) (hd : Nat.blt d n = true)
  (h : ∀ b, N (Own e sz (.slice (some ⟨b, 0, none⟩) m m) m (madeCells z.cells (m * sz)).toList :: H) ((d, .slice (some ⟨b, 0, none⟩) m m) :: f)) :
  OpV W P n { dst := some d, op := .makeSlice t l c', type := ty_, pos, after, guard } Q H f N := by
 obtain ⟨i, hi, hz, hs, hby⟩ := info_parts st.info
 subst hs; subst hby
 refine OpV.run (v := fun b => .slice (some ⟨b, 0, none⟩) m m) (G := fun b => Own e i.size (.slice (some ⟨b, 0, none⟩) m m) m (madeCells z.cells (m * i.size)).toList :: H) hd (fun tm w hk hw => ⟨w.heap.size, w.alloc (.cells (madeCells z.cells (m * i.size)) e), ?_, ?_⟩) h
 ·
  have hb' : (i.bytes : Int) * (m : Int) <= 281474976710656 := by
   have h : ((i.bytes * m : Nat) : Int) <= 281474976710656 := by omega
   rwa [Int.natCast_mul] at h
  have h63' : (m : Int) <= 9223372036854775807 := by have h := h63; simp [maxLen] at h; omega
  have hr := run_make (P := P) w t e i z st.und hi hz k1 k2 m m (by omega) (Int.le_refl _) hb' h63'
  simp only [Int.toNat_natCast] at hr
  unfold execOp
  simp only [hk.eval hl, hk.eval hc, Sem.run_bind, hr, Result.andThen_ok, Sem.run_pure]
 ·
  have ha := hw.alloc (T := e) (cs := (madeCells z.cells (m * i.size)).toList ++ [])
  simp only [List.append_nil, Array.toArray_toList] at ha
  have := Holds.ownShut (sz := i.size) (n := m) (cap := m) (spare := []) (xs := (madeCells z.cells (m * i.size)).toList) (by simp [madeCells]) (Nat.le_refl _) h63 (by simp [madeCells]) (by simpa using ha)
  exact this
theorem OpV.makeSlice1 {l c' : Operand} {t e : TypeId} {z : Value} {by_ m : Nat} {k1 k2 : IntKind} (st : SliceT P t e z 1 by_) (hz : z.cells = #[z]) (hl : evalX f l = some (.int k1 (m : Int))) (hc : evalX f c' = some (.int k2 (m : Int)))
  (hb : by_ * m <= 281474976710656) (h63 : m <= maxLen) (hd : Nat.blt d n = true)
  (h : ∀ b, N (Own e 1 (.slice (some ⟨b, 0, none⟩) m m) m (List.replicate m z) :: H) ((d, .slice (some ⟨b, 0, none⟩) m m) :: f)) :
  OpV W P n { dst := some d, op := .makeSlice t l c', type := ty_, pos, after, guard } Q H f N :=
 OpV.makeSlice st hl hc hb h63 hd (by rw [hz, Nat.mul_one, madeCells_one]; exact h)
theorem OpV.makeCap {l c' : Operand} {t e : TypeId} {z : Value} {sz by_ m : Nat} {k1 k2 : IntKind} (st : SliceT P t e z sz by_) (hl : evalX f l = some (.int k1 0)) (hc : evalX f c' = some (.int k2 (m : Int)))
  (hb : by_ * m <= 281474976710656) (h63 : m <= maxLen) (hd : Nat.blt d n = true)
  (h : ∀ b, N (Own e sz (.slice (some ⟨b, 0, none⟩) 0 m) 0 [] :: H) ((d, .slice (some ⟨b, 0, none⟩) 0 m) :: f)) :
  OpV W P n { dst := some d, op := .makeSlice t l c', type := ty_, pos, after, guard } Q H f N := by
 obtain ⟨i, hi, hz, hs, hby⟩ := info_parts st.info
 subst hs; subst hby
 refine OpV.run (v := fun b => .slice (some ⟨b, 0, none⟩) 0 m) (G := fun b => Own e i.size (.slice (some ⟨b, 0, none⟩) 0 m) 0 [] :: H) hd (fun tm w hk hw => ⟨w.heap.size, w.alloc (.cells (madeCells z.cells (m * i.size)) e), ?_, ?_⟩) h
 ·
  have hb' : (i.bytes : Int) * (m : Int) <= 281474976710656 := by
   have h : ((i.bytes * m : Nat) : Int) <= 281474976710656 := by omega
   rwa [Int.natCast_mul] at h
  have h63' : (m : Int) <= 9223372036854775807 := by have h := h63; simp [maxLen] at h; omega
  have hr := run_make (P := P) w t e i z st.und hi hz k1 k2 0 m (Int.le_refl _) (by omega) hb' h63'
  simp only [Int.toNat_natCast, Int.toNat_zero] at hr
  unfold execOp
  simp only [hk.eval hl, hk.eval hc, Sem.run_bind, hr, Result.andThen_ok, Sem.run_pure]
 ·
  have ha := hw.alloc (T := e) (cs := [] ++ (madeCells z.cells (m * i.size)).toList)
  simp only [List.nil_append, Array.toArray_toList] at ha
  have := Holds.ownShut (sz := i.size) (n := 0) (cap := m) (xs := []) (spare := (madeCells z.cells (m * i.size)).toList) (by simp) (Nat.zero_le _) h63 (by simp [madeCells]) (by simpa using ha)
  exact this
theorem Holds.copy {t tx e ty : TypeId} {z : Value} {sz by_ m k cap : Nat} {ao : Option Addr} {vx : Value} {xs news : List Value} {R : List SProp} {w : World} (st : SliceT P t e z sz by_) (hw : Holds W (Own e sz (.slice ao m cap) m xs :: R) w) (hs : Sees w sz vx k news) :
  ∃ w', (Builtin.copy_ #[t, tx] ty #[.slice ao m cap, vx]).run P w = .ok (.int .i64 ((min k m : Nat) : Int)) w' /\ Holds W (Own e sz (.slice ao m cap) m (news.take (min k m * sz) ++ xs.drop (min k m * sz)) :: R) w' := by
 obtain ⟨i, hi, hz, hsz, hby⟩ := info_parts st.info
 subst hsz
 obtain ⟨hl, hv⟩ := hw.ownOpen
 have hlen : (Builtin.lenOf vx).run P w = .ok k w := by
  rcases hs.at_ with ⟨c, rfl, rfl⟩ | ⟨a, c, rfl, _⟩ <;> rfl
 have hfc : (Builtin.firstCells i.size (min k m) vx).run P w = .ok (news.take (min k m * i.size)).toArray w := by
  rcases hs.at_ with ⟨c, rfl, rfl⟩ | ⟨a, c, rfl, h⟩
  ·
   have := hs.len
   simp at this
   subst this
   rw [run_firstCells_none]; simp
  ·
   refine run_firstCells_some w i.size (min k m) a k c _ ?_ fun j v hj => ?_
   · rw [List.length_take, hs.len]; exact Nat.min_eq_left (Nat.mul_le_mul_right _ (Nat.min_le_left _ _))
   ·
    rw [List.getElem?_take] at hj
    split at hj
    · exact h j v hj
    · cases hj
 have hmin : Nat.min k m = min k m := rfl
 rcases hv with ⟨he, rfl, hR⟩ | ⟨b, cap', spare, he, hn, hm, hc, hR⟩
 ·
  cases he
  refine ⟨w, ?_, by simpa using hw⟩
  simp only [Nat.min_zero] at hfc
  simp [Builtin.copy_, run_underlying st.und, hlen, sizeOf, typeInfo, hi, hmin, hfc, goInt]
 ·
  cases he
  have hnl : (news.take (min k m * i.size)).length = min k m * i.size := by
   rw [List.length_take, hs.len]; exact Nat.min_eq_left (Nat.mul_le_mul_right _ (Nat.min_le_left _ _))
  have hle : min k m * i.size <= m * i.size := Nat.mul_le_mul_right _ (Nat.min_le_right _ _)
  have hfit : 0 + (news.take (min k m * i.size)).length <= (xs ++ spare).length := by rw [hnl, List.length_append, hl]; omega
  have hst := run_storeCells_cells (P := P) b 0 (news.take (min k m * i.size)) 0 w (fun j hj => by
    have hj' : 0 + 0 + j < (xs ++ spare).length := by omega
    rw [hR.cell (.head _) (List.getElem?_eq_getElem hj')]; rfl) (fun j hj => hR.free (.head _)) (fun v hv => hs.one v (List.mem_of_mem_take hv))
  refine ⟨w.setCells b 0 (news.take (min k m * i.size)), ?_, ?_⟩
  · simp [Builtin.copy_, run_underlying st.und, hlen, sizeOf, typeInfo, hi, hmin, hfc, hst, goInt]
  ·
   have h2 := hR.setCells (o := 0) (vs := news.take (min k m * i.size)) .head hfit
   have e : (xs ++ spare).take 0 ++ news.take (min k m * i.size) ++ (xs ++ spare).drop (0 + (news.take (min k m * i.size)).length) = (news.take (min k m * i.size) ++ xs.drop (min k m * i.size)) ++ spare := by
    rw [hnl, Nat.zero_add, List.drop_append_of_le_length (by omega)]; simp
   rw [e] at h2
   refine Holds.ownShut ?_ hn hm ?_ h2
   · rw [List.length_append, hnl, List.length_drop, hl]; omega
   · rw [<- hc]; simp only [List.length_append, List.length_drop, hnl, hl]; omega
theorem OpV.copy {s x : Operand} {t tx e : TypeId} {z : Value} {sz by_ m k cap : Nat} {ao : Option Addr} {vx : Value} {xs news : List Value} (st : SliceT P t e z sz by_) (hs : evalX f s = some (.slice ao m cap)) (hx : evalX f x = some vx)
  (u : Hole H (Own e sz (.slice ao m cap) m xs) C) (hsrc : ∀ w, Holds W H w -> Sees w sz vx k news) (hd : Nat.blt d n = true)
  (h : N (C (Own e sz (.slice ao m cap) m (news.take (min k m * sz) ++ xs.drop (min k m * sz)))) ((d, .int .i64 ((min k m : Nat) : Int)) :: f)) :
  OpV W P n { dst := some d, op := .call { callee := .builtin .copy, args := #[s, x], argTypes := #[t, tx] }, type := ty_, pos, after, guard } Q H f N := by
 refine OpV.run (α := Unit) (v := fun _ => .int .i64 ((min k m : Nat) : Int)) (G := fun _ => C (Own e sz (.slice ao m cap) m (news.take (min k m * sz) ++ xs.drop (min k m * sz)))) hd (fun tm w hk hw => ?_) (fun _ => h)
 obtain ⟨R, p, q⟩ := u.perm
 obtain ⟨w', hr, h2⟩ := Holds.copy (ty := ty_) (tx := tx) st (hw.perm p) (hsrc w hw)
 refine ⟨(), w', ?_, h2.perm (q _)⟩
 unfold execOp
 simp only [resolve, invoke, builtin, Sem.run_bind, Sem.run_pure, Result.andThen_ok, List.map_toArray, List.map_cons, List.map_nil, hk.eval hs, hk.eval hx, hr]
def Post {β : Type} (W : World) (A : β -> Prop) (r : β -> Value) (G : β -> List SProp) : Ending -> World -> Prop := fun e w' => ∃ x, A x /\ e = .returned (r x) /\ Holds W (G x) w'
def Does (W : World) (P : Program) (g : FuncId) (args : List Value) (H : List SProp) {β : Type} (A : β -> Prop) (r : β -> Value) (G : β -> List SProp) : Prop :=
  ∀ w, Holds W H w -> Calls P g args.toArray w (Post W A r G)
abbrev Does1 (W : World) (P : Program) (g : FuncId) (args : List Value) (H : List SProp) (r : Value) (G : List SProp) : Prop :=
  Does W P g args H (β := Unit) (fun _ => True) (fun _ => r) (fun _ => G)
theorem Does.enter {g : FuncId} {fn : Func} {args : List Value} {β : Type} {A : β -> Prop} {r : β -> Value} {G : β -> List SProp} (hf : P.funcs[g]? = some fn) (hn : fn.ntmps = n) (hb : fn.body.isSome = true) (hl : Nat.ble args.length n = true)
  (h : VC W P n (bodyOf fn) (bodyPost P fn (Post W A r G)) H (argF 0 args)) : Does W P g args H A r G := by
 intro w hw
 obtain ⟨c, hc⟩ := Option.isSome_iff_exists.1 hb
 refine calls_of_wp hf hc ?_
 have hk := Knows.start args n (by simpa [Nat.ble_eq] using hl)
 rw [hn]
 have := h _ w hk hw
 rw [bodyOf, hc] at this
 exact this
def resOf (f : Fr) : List ResultVar -> Option Value
  | [] => some (.tuple #[])
  | [.tmp a] => look f a
  | [.tmp a, .tmp b] => match look f a, look f b with
    | some u, some v => some (.tuple #[u, v])
    | _, _ => none
  | [.tmp a, .tmp b, .tmp c] => match look f a, look f b, look f c with
    | some u, some v, some x => some (.tuple #[u, v, x])
    | _, _, _ => none
  | _ => none
theorem resOf_run {fn : Func} {t : Array Value} {v : Value} (hk : Knows n f t) (hr : resOf f fn.results.toList = some v) (w : World) : (results fn t).run P w = .ok v w := by
 have e0 : fn.results = fn.results.toList.toArray := by simp
 unfold resOf at hr
 split at hr
 · rename_i h; rw [h] at e0; cases hr; simp [results, e0]
 ·
  rename_i a h; rw [h] at e0
  have := hk.get a v hr
  simp [results, e0, this]
 ·
  rename_i a b h; rw [h] at e0
  split at hr
  ·
   rename_i u x h1 h2; cases hr
   have := hk.get a u h1
   have := hk.get b x h2
   simp [results, e0, *]
  · cases hr
 ·
  rename_i a b c h; rw [h] at e0
  split at hr
  ·
   rename_i u x y h1 h2 h3; cases hr
   have := hk.get a u h1
   have := hk.get b x h2
   have := hk.get c y h3
   simp [results, e0, *]
  · cases hr
 · cases hr
theorem VE.result {fn : Func} {R : Ending -> World -> Prop} {v : Value} {e : Exit} (he : e = .ret \/ e = .normal) (hr : resOf f fn.results.toList = some v) (h : ∀ w, Holds W H w -> R (.returned v) w) : VE W n (bodyPost P fn R) e H f := by
 intro t w hk hw
 rcases he with rfl | rfl <;> exact ⟨rfl, _, resOf_run hk hr w, h w hw⟩
theorem VE.done {fn : Func} {β : Type} {A : β -> Prop} {r : β -> Value} {G : β -> List SProp} {v : Value} (x : β) (hr : resOf f fn.results.toList = some v) (hA : A x) (hv : v = r x) (hH : Ent W H (G x)) : VE W n (bodyPost P fn (Post W A r G)) .ret H f :=
 VE.result (.inl rfl) hr fun w hw => ⟨x, hA, by rw [hv], hH w hw⟩
theorem VE.doneN {fn : Func} {β : Type} {A : β -> Prop} {r : β -> Value} {G : β -> List SProp} {v : Value} (x : β) (hr : resOf f fn.results.toList = some v) (hA : A x) (hv : v = r x) (hH : Ent W H (G x)) : VE W n (bodyPost P fn (Post W A r G)) .normal H f :=
 VE.result (.inr rfl) hr fun w hw => ⟨x, hA, by rw [hv], hH w hw⟩
theorem VE.done1 {fn : Func} {r v : Value} {G : List SProp} (hr : resOf f fn.results.toList = some v) (hv : v = r) (hH : Ent W H G) : VE W n (bodyPost P fn (Post W (fun _ : Unit => True) (fun _ => r) (fun _ => G))) .ret H f :=
 VE.result (.inl rfl) hr fun w hw => ⟨(), trivial, by rw [hv], hH w hw⟩
theorem VE.done1N {fn : Func} {r v : Value} {G : List SProp} (hr : resOf f fn.results.toList = some v) (hv : v = r) (hH : Ent W H G) : VE W n (bodyPost P fn (Post W (fun _ : Unit => True) (fun _ => r) (fun _ => G))) .normal H f :=
 VE.result (.inr rfl) hr fun w hw => ⟨(), trivial, by rw [hv], hH w hw⟩
theorem OpV.call {x : Operand} {xs : Array Operand} {ats : Array TypeId} {g : FuncId} {cap : Array Value} {vs : List Value} {β : Type} {A : β -> Prop} {r : β -> Value} {G : β -> List SProp}
  (hx : evalX f x = some (.func (.func g) #[] cap)) (ha : argsX f xs.toList = some vs) (hc : ∀ a w, (callFunc g a).run P w = .ok (.enter g a) w) (spec : Does W P g (vs ++ cap.toList) L A r G)
  (hL : Ent W H L) (hd : Nat.blt d n = true) (h : ∀ y, A y -> N (G y) ((d, r y) :: f)) :
  OpV W P n { dst := some d, op := .call { callee := .value x, args := xs, argTypes := ats }, type := ty_, pos, after, guard } Q H f N := by
 intro t w hk hw K hK
 have hargs : xs.map (Act.eval ⟨t, []⟩) = vs.toArray := by
  have := hk.args ha
  apply Array.ext'
  simpa using this
 have hs := spec w (hL w hw)
 unfold Oper.wp execOp
 simp only [resolve, hk.eval hx, hargs, Deferred.ofValue, invoke, Sem.run_bind, Sem.run_pure, Result.andThen_ok, hc, Oper.upon]
 have e : #[] ++ vs.toArray ++ cap = (vs ++ cap.toList).toArray := by simp
 rw [e]
 refine Calls.mono hs ?_
 rintro e w' ⟨y, hA, rfl, hG⟩
 exact hK _ _ (h y hA) _ _ (hk.put hd) hG
def VQ (W : World) (P : Program) (n : Nat) (c : Code) (k : Nat) (Q : Exit -> Act -> World -> Prop) (H : List SProp) (f : Fr) : Prop :=
  ∀ t, Knows n f t -> wpQuiet P (regOps c).toArray (Holds W H) (fun a' => ∀ w', Holds W H w' -> Q .normal a' w') ((regOps c).drop k) ⟨t, []⟩
theorem VC.quiet (hc : regDraw c = some true) (hm : P.follows .mixedOrders = true) (hB : Region.lexB .any (regOps c).toArray = true) (h : VQ W P n c 0 Q H f) : VC W P n c Q H f := by
 cases c <;> simp [regDraw] at hc
 subst hc
 intro t w hk hw
 have h' := h t hk
 simp only [regOps, List.drop_zero, Array.toArray_toList] at h' hB
 exact wp_region_quiet (C := Holds W H) hm hB hw.drew h'
theorem VQ.nil {k : Nat} (ho : (regOps c)[k]? = none) (h : VE W n Q .normal H f) : VQ W P n c k Q H f := by
 intro t hk
 rw [List.drop_eq_nil_of_le (by simpa using ho)]
 exact wpQuiet_nil fun w hw => h t w hk hw
theorem VQ.pure {k : Nat} {op : Op} {v : Value} (ho : (regOps c)[k]? = some { dst := some d, op, type := ty_, pos, after, guard }) (hg : wantX (regOps c) guard f = some true)
  (hp : PureAt W P n H f { dst := some d, op, type := ty_, pos, after, guard } v) (hd : Nat.blt d n = true) (h : VQ W P n c (k + 1) Q H ((d, v) :: f)) : VQ W P n c k Q H f := by
 intro t hk
 rw [drop_at ho]
 refine BigFrame.wpQuiet_want (hk.wanted (o := { dst := some d, op, type := ty_, pos, after, guard }) hg) fun K hK => ⟨v, fun w hw => ?_, hK _ (h _ (hk.put hd))⟩
 unfold Oper.quietAt
 rw [hp t w hk hw]
 exact ⟨rfl, rfl⟩
theorem VQ.call {k : Nat} {x : Operand} {xs : Array Operand} {ats : Array TypeId} {g : FuncId} {cap : Array Value} {vs : List Value} {r : Value}
  (ho : (regOps c)[k]? = some { dst := some d, op := .call { callee := .value x, args := xs, argTypes := ats }, type := ty_, pos, after, guard }) (hg : wantX (regOps c) guard f = some true)
  (hx : evalX f x = some (.func (.func g) #[] cap)) (ha : argsX f xs.toList = some vs) (hc : ∀ a w, (callFunc g a).run P w = .ok (.enter g a) w) (spec : Does1 W P g (vs ++ cap.toList) L r L)
  (hL : Ent W H L) (hR : Ent W L H) (hd : Nat.blt d n = true) (h : VQ W P n c (k + 1) Q H ((d, r) :: f)) : VQ W P n c k Q H f := by
 intro t hk
 rw [drop_at ho]
 refine BigFrame.wpQuiet_want (hk.wanted (o := { dst := some d, op := .call { callee := .value x, args := xs, argTypes := ats }, type := ty_, pos, after, guard }) hg) fun K hK => ⟨r, fun w hw => ?_, hK _ (h _ (hk.put hd))⟩
 have hargs : xs.map (Act.eval ⟨t, []⟩) = vs.toArray := by
  have := hk.args ha
  apply Array.ext'
  simpa using this
 have hs := spec w (hL w hw)
 have e : #[] ++ vs.toArray ++ cap = (vs ++ cap.toList).toArray := by simp
 unfold Oper.quietAt execOp
 simp only [resolve, hk.eval hx, hargs, Deferred.ofValue, invoke, Sem.run_bind, Sem.run_pure, Result.andThen_ok, hc]
 rw [e]
 refine ⟨rfl, Calls.mono hs ?_⟩
 rintro e w' ⟨_, _, rfl, hG⟩
 exact ⟨rfl, hR w' hG⟩
theorem VQ.skip {k : Nat} {o : Oper} (ho : (regOps c)[k]? = some o) (hg : wantX (regOps c) o.guard f = some false) (hd : o.dst = some d) (hn : Nat.blt d n = true) (h : VQ W P n c (k + 1) Q H ((d, undef) :: f)) : VQ W P n c k Q H f := by
 intro t hk
 rw [drop_at ho]
 refine BigFrame.wpQuiet_skip (by exact hk.wanted hg) ?_
 rw [hd]
 exact h _ (hk.put hn)
theorem VQ.gT {k s : Nat} {o : Oper} {b : Bool} (ho : (regOps c)[k]? = some o) (hs : guardSlot (regOps c) o.guard = some s) (hl : look f s = some (.bool b)) (hb : b = true) (h : VQ W P n c k Q H ((s, .bool true) :: f)) : VQ W P n c k Q H f :=
 fun t hk => h t (hk.again (hb ▸ hl))
theorem VQ.gF {k s : Nat} {o : Oper} {b : Bool} (ho : (regOps c)[k]? = some o) (hs : guardSlot (regOps c) o.guard = some s) (hl : look f s = some (.bool b)) (hb : b = false) (h : VQ W P n c k Q H ((s, .bool false) :: f)) : VQ W P n c k Q H f :=
 fun t hk => h t (hk.again (hb ▸ hl))
theorem VQ.split {k s : Nat} {o : Oper} {b : Bool} (ho : (regOps c)[k]? = some o) (hs : guardSlot (regOps c) o.guard = some s) (hl : look f s = some (.bool b))
  (ht : b = true -> VQ W P n c k Q H ((s, .bool true) :: f)) (hf : b = false -> VQ W P n c k Q H ((s, .bool false) :: f)) : VQ W P n c k Q H f := by
 intro t hk
 cases b with
 | true => exact ht rfl t (hk.again hl)
 | false => exact hf rfl t (hk.again hl)
theorem Does.calls {g : FuncId} {args : List Value} {β : Type} {A : β -> Prop} {r : β -> Value} {G : β -> List SProp} (h : Does W P g args [] A r G) : Calls P g args.toArray W fun e w' => (∃ x, A x /\ e = .returned (r x)) /\ Below W.heap.size W w' :=
 (h W (Holds.start W)).mono fun _ _ ⟨x, hA, he, hw⟩ => ⟨⟨x, hA, he⟩, hw.below⟩
end
attribute [irreducible] VC VO VE VQ OpV PureAt Does thenC blockC loopC
end Go.Sl
