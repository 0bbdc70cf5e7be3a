/- Package disk: Read, Image, Pending. -/
import Derived.Test.YtbmcgmicnfbckaaDl
set_option maxRecDepth 8000
set_option linter.unusedVariables false
set_option linter.unusedSimpArgs false
set_option linter.unusedSectionVars false
namespace Go.Proofs.Ytbmcgmicnfbckaa
open Go.RowKit Go.Sl
attribute [local irreducible] Own

theorem lastR_some : ∀ (r : List (Nat × List UInt8)) (a i : Int), lastR r a = some i → ∃ j c, i = ((j : Nat) : Int) ∧ j < r.length ∧ r.reverse[j]? = some c ∧ a = ((c.1 : Nat) : Int)
  | [], _, _, h => by cases h
  | c :: r, a, i, h => by
    unfold lastR at h
    split at h
    · rename_i e
      cases h
      exact ⟨r.length, c, rfl, by simp, by rw [List.reverse_cons, List.getElem?_append_right (by simp)]; simp, e⟩
    · obtain ⟨j, c', h1, h2, h3, h4⟩ := lastR_some r a i h
      exact ⟨j, c', h1, by simp; omega, by rw [List.reverse_cons, List.getElem?_append_left (by simpa using h2)]; exact h3, h4⟩
theorem seenOf_some {c : List (Nat × List UInt8)} {a i : Int} (h : seenOf c a = some i) : ∃ j x, i = ((j : Nat) : Int) ∧ j < c.length ∧ c[j]? = some x ∧ a = ((x.1 : Nat) : Int) := by
  obtain ⟨j, x, h1, h2, h3, h4⟩ := lastR_some _ a i h
  exact ⟨j, x, h1, by simpa using h2, by simpa using h3, h4⟩

/-- A sector, as it was written last. -/
def DiskD.look (k : DiskD) (a : Nat) : List UInt8 := match seenOf k.cache (a : Int) with
  | some i => ((k.cache[i.toNat]?).map (·.2)).getD []
  | none => (k.last[a]?).getD []
theorem DiskD.look_write (k : DiskD) (a : Nat) (b : List UInt8) (a' : Nat) : (k.write a b).look a' = if a' = a then b else k.look a' := by
  unfold DiskD.look
  have e1 : (k.write a b).cache = k.cache ++ [(a, b)] := rfl
  have e2 : (k.write a b).last = k.last := rfl
  rw [e1, e2, seenOf_snoc]
  by_cases h : a' = a
  · subst h; simp [updM]
  · rw [if_neg h]
    have h' : ¬ ((a' : Int) = ((a, b).1 : Nat)) := by simp only; omega
    unfold updM
    rw [if_neg h']
    cases hs : seenOf k.cache (a' : Int) with
    | none => rfl
    | some i =>
      obtain ⟨j, x, rfl, h2, h3, h4⟩ := seenOf_some hs
      simp only [Int.toNat_natCast]
      rw [List.getElem?_append_left h2]
theorem DiskD.look_clean {k : DiskD} (h : k.cache = []) (a : Nat) : k.look a = (k.last[a]?).getD [] := by
  unfold DiskD.look; rw [h]; rfl
theorem DiskD.look_128 {k : DiskD} (hk : k.ok) {a : Nat} (ha : a < k.last.length) : (k.look a).length = 128 := by
  unfold DiskD.look
  split
  · rename_i i h
    obtain ⟨j, x, rfl, h2, h3, h4⟩ := seenOf_some h
    rw [Int.toNat_natCast, h3]
    exact (hk.cache x (List.mem_of_getElem? h3)).2
  · rw [List.getElem?_eq_getElem ha]
    exact hk.last _ (List.getElem_mem ha)

theorem cache_part {l : List (Nat × List UInt8)} (j : Nat) (x : Nat × List UInt8) (h : l[j]? = some x) (hl : ∀ c ∈ l, c.2.length = 128) : ((l.flatMap wCells).drop (j * 129 + 1)).take 128 = bytes x.2 := by
  obtain ⟨hj, rfl⟩ := List.getElem?_eq_some_iff.1 h
  have := flat_part (g := wCells) (w := 129) l j hj (fun c h => wCells_length (hl c h))
  rw [← List.drop_drop, List.take_drop, show 1 + 128 = 129 from rfl, this]
  rfl

theorem read_bad {W : World} {R : List SProp} (d : Nat) (k : DiskD) (at_ : Int) (h : k.may at_ ≠ 0) :
    Does1 W Try.prog 24 [.pointer (some ⟨d, 0, none⟩), .int .i64 at_] (DiskR d k :: R) (.tuple #[.slice none 0 0, .int .u16 (k.may at_)]) (DiskR d k :: R) := by
  (refine Does.enter Try.func24 Try.ntmps24 rfl rfl ?_)
  (refine w ?_; repeat ((first | refine VO.step rfl rfl ?_ | refine VD.end rfl rfl rfl ?_ | refine VD.mid rfl rfl rfl ?_); refine OpV.box rfl rfl rfl ?_; intro _; refine w ?_))
  (((first | refine VO.step rfl rfl ?_ | refine VD.end rfl rfl rfl ?_ | refine VD.mid rfl rfl rfl ?_); refine OpV.call rfl rfl (fun _ _ => by simp) (may_ok d k at_) Ent.re rfl ?_); intro _ _)
  (refine w ?_; repeat ((first | refine VO.step rfl rfl ?_ | refine VD.end rfl rfl rfl ?_ | refine VD.mid rfl rfl rfl ?_); refine OpV.box rfl rfl rfl ?_; intro _; refine w ?_))
  (refine VC.condTe rfl rfl (by simpa using h) ?_)
  (refine w ?_; repeat ((first | refine VO.step rfl rfl ?_ | refine VD.end rfl rfl rfl ?_ | refine VD.mid rfl rfl rfl ?_); refine OpV.box rfl rfl rfl ?_; intro _; refine w ?_))
  (refine VE.done1 rfl ?_ ?_)
  · rfl
  · exact Ent.refl

theorem store_all' (zs vs : List Value) (n : Nat) (h : zs.length = n) : zs.take 0 ++ vs ++ zs.drop (0 + n) = vs := store_all zs vs n h

set_option maxHeartbeats 2000000 in
theorem dread_ok {W : World} {R : List SProp} (d : Nat) (k : DiskD) (a : Nat) (hf : k.failed = false) (ha : a < k.last.length) :
    Does W Try.prog 24 [.pointer (some ⟨d, 0, none⟩), .int .i64 a] (DiskR d k :: R) (β := Addr × Nat) (fun _ => True) (fun x => .tuple #[.slice (some x.1) 128 x.2, .int .u16 0])
      (fun x => Own 5 1 (.slice (some x.1) 128 x.2) 128 (bytes (k.look a)) :: DiskR d k :: R) := by
  have hm : k.may a = 0 := by unfold DiskD.may; rw [hf, if_neg (by simp), if_neg (by omega)]
  (refine Does.enter Try.func24 Try.ntmps24 rfl rfl ?_)
  (refine w ?_; repeat ((first | refine VO.step rfl rfl ?_ | refine VD.end rfl rfl rfl ?_ | refine VD.mid rfl rfl rfl ?_); refine OpV.box rfl rfl rfl ?_; intro _; refine w ?_))
  (((first | refine VO.step rfl rfl ?_ | refine VD.end rfl rfl rfl ?_ | refine VD.mid rfl rfl rfl ?_); refine OpV.call rfl rfl (fun _ _ => by simp) (may_ok d k a) Ent.re rfl ?_); intro _ _)
  (refine w ?_; repeat ((first | refine VO.step rfl rfl ?_ | refine VD.end rfl rfl rfl ?_ | refine VD.mid rfl rfl rfl ?_); refine OpV.box rfl rfl rfl ?_; intro _; refine w ?_))
  (refine VC.condFe rfl rfl (by simp [hm]) ?_)
  (refine w ?_; repeat ((first | refine VO.step rfl rfl ?_ | refine VD.end rfl rfl rfl ?_ | refine VD.mid rfl rfl rfl ?_); refine OpV.box rfl rfl rfl ?_; intro _; refine w ?_))
  refine VO.obtain (fun w => DiskR.open) ?_
  rintro ⟨⟨⟨lo, lc⟩, ⟨co, cc⟩, m⟩, hk⟩
  dsimp only [DiskO]
  refine VO.know (fun w hw => hw.ownNone (by (focus repeat first | exact .head _ | apply List.Mem.tail)) : ∀ w, _ → (co = none → k.cache.length = 0)) ?_
  intro hcn
  refine VO.know (fun w hw => hw.ownNone (by (focus repeat first | exact .head _ | apply List.Mem.tail)) : ∀ w, _ → (lo = none → k.last.length = 0)) ?_
  intro hln
  obtain ⟨b, rfl⟩ : ∃ b, lo = some b := by cases lo with | none => have := hln rfl; omega | some b => exact ⟨b, rfl⟩
  have h8 : ∀ x ∈ k.last, (bytes x).length = 128 := fun x h => by simp [hk.last x h]
  have hla : k.last[a].length = 128 := hk.last _ (List.getElem_mem ha)
  (refine w ?_; repeat ((first | refine VO.step rfl rfl ?_ | refine VD.end rfl rfl rfl ?_ | refine VD.mid rfl rfl rfl ?_); refine OpV.box rfl rfl rfl ?_; intro _; refine w ?_))
  (first | refine VO.pure rfl rfl (.ldRA tab_ok rfl rfl (Rds.own (lasts_one _) (by (focus repeat first | exact .head _ | apply List.Mem.tail)) (flat_length _ h8) hln) (flat_part (g := bytes) k.last a ha h8) (by simp [hla])) rfl ?_ | refine VD.take rfl rfl rfl (.ldRA tab_ok rfl rfl (Rds.own (lasts_one _) (by (focus repeat first | exact .head _ | apply List.Mem.tail)) (flat_length _ h8) hln) (flat_part (g := bytes) k.last a ha h8) (by simp [hla])) rfl ?_ | refine VQ.pure rfl rfl (.ldRA tab_ok rfl rfl (Rds.own (lasts_one _) (by (focus repeat first | exact .head _ | apply List.Mem.tail)) (flat_length _ h8) hln) (flat_part (g := bytes) k.last a ha h8) (by simp [hla])) rfl ?_ | refine VD.end rfl rfl rfl (OpV.pure (.ldRA tab_ok rfl rfl (Rds.own (lasts_one _) (by (focus repeat first | exact .head _ | apply List.Mem.tail)) (flat_length _ h8) hln) (flat_part (g := bytes) k.last a ha h8) (by simp [hla])) rfl ?_))
  (first | refine VO.step rfl rfl ?_ | refine VD.end rfl rfl rfl ?_ | refine VD.mid rfl rfl rfl ?_)
  refine OpV.allocE st_sectors (cs := List.replicate 128 zb) rfl rfl ?_
  intro na
  (first | refine VO.step rfl rfl ?_ | refine VD.end rfl rfl rfl ?_ | refine VD.mid rfl rfl rfl ?_)
  refine OpV.stA (vs := bytes k.last[a]) tab_ok rfl rfl rfl (by simp [hla]) (bytes_one _) (by (repeat first | exact .head | apply Hole.tail)) (by rw [List.length_replicate]; decide) ?_
  rw [store_all _ _ 128 (by rw [List.length_replicate])]
  (refine w ?_; repeat ((first | refine VO.step rfl rfl ?_ | refine VD.end rfl rfl rfl ?_ | refine VD.mid rfl rfl rfl ?_); refine OpV.box rfl rfl rfl ?_; intro _; refine w ?_))
  (first | refine VO.pure rfl rfl (PureAt.lookup Try.underlying80 Try.underlying3 (fun w => by simp) rfl rfl (by (focus repeat first | exact .head _ | apply List.Mem.tail))) rfl ?_ | refine VD.take rfl rfl rfl (PureAt.lookup Try.underlying80 Try.underlying3 (fun w => by simp) rfl rfl (by (focus repeat first | exact .head _ | apply List.Mem.tail))) rfl ?_ | refine VQ.pure rfl rfl (PureAt.lookup Try.underlying80 Try.underlying3 (fun w => by simp) rfl rfl (by (focus repeat first | exact .head _ | apply List.Mem.tail))) rfl ?_ | refine VD.end rfl rfl rfl (OpV.pure (PureAt.lookup Try.underlying80 Try.underlying3 (fun w => by simp) rfl rfl (by (focus repeat first | exact .head _ | apply List.Mem.tail))) rfl ?_))
  (refine w ?_; repeat ((first | refine VO.step rfl rfl ?_ | refine VD.end rfl rfl rfl ?_ | refine VD.mid rfl rfl rfl ?_); refine OpV.box rfl rfl rfl ?_; intro _; refine w ?_))
  (first | refine VO.join (α := Nat) (fun _ => True) (fun _ => Row na 85 (bytes (k.look a)) :: DiskO d k ((some b, lc), (co, cc), m) R) (fun _ => [(7, .pointer (some ⟨na, 0, none⟩))]) ?_ ?_ | refine VC.joinTB (α := Nat) (fun _ => True) (fun _ => Row na 85 (bytes (k.look a)) :: DiskO d k ((some b, lc), (co, cc), m) R) (fun _ => [(7, .pointer (some ⟨na, 0, none⟩))]) ?_ ?_ | refine VC.joinB (α := Nat) (fun _ => True) (fun _ => Row na 85 (bytes (k.look a)) :: DiskO d k ((some b, lc), (co, cc), m) R) (fun _ => [(7, .pointer (some ⟨na, 0, none⟩))]) ?_ ?_ | refine VC.join (α := Nat) (fun _ => True) (fun _ => Row na 85 (bytes (k.look a)) :: DiskO d k ((some b, lc), (co, cc), m) R) (fun _ => [(7, .pointer (some ⟨na, 0, none⟩))]) ?_ ?_)
  · intro Q2 jn
    cases hs : seenOf k.cache (a : Int) with
    | none =>
      (refine VC.condFe rfl rfl (rfl) ?_)
      have hlk : k.look a = k.last[a] := by unfold DiskD.look; rw [hs, List.getElem?_eq_getElem ha]; rfl
      rw [hlk] at jn
      (refine w ?_; repeat ((first | refine VO.step rfl rfl ?_ | refine VD.end rfl rfl rfl ?_ | refine VD.mid rfl rfl rfl ?_); refine OpV.box rfl rfl rfl ?_; intro _; refine w ?_))
      (refine jn.to 0 trivial ⟨rfl, trivial⟩ ?_; (try dsimp only); exact Ent.re)
    | some i =>
      obtain ⟨j, x, rfl, hj, hx, hax⟩ := seenOf_some hs
      obtain ⟨c, rfl⟩ : ∃ c, co = some c := by cases co with | none => have := hcn rfl; omega | some c => exact ⟨c, rfl⟩
      have hx2 : x.2.length = 128 := (hk.cache x (List.mem_of_getElem? hx)).2
      have hlk : k.look a = x.2 := by unfold DiskD.look; rw [hs]; simp [hx]
      rw [hlk] at jn
      (refine VC.condTe rfl rfl (rfl) ?_)
      (refine w ?_; repeat ((first | refine VO.step rfl rfl ?_ | refine VD.end rfl rfl rfl ?_ | refine VD.mid rfl rfl rfl ?_); refine OpV.box rfl rfl rfl ?_; intro _; refine w ?_))
      (first | refine VO.pure rfl rfl (.ldRA tab_ok rfl rfl (Rds.own (caches_one _) (by (focus repeat first | exact .head _ | apply List.Mem.tail)) (flat_length _ (fun c h => wCells_length (hk.cache c h).2)) hcn) (cache_part j x hx (fun c h => (hk.cache c h).2)) (by simp [hx2])) rfl ?_ | refine VD.take rfl rfl rfl (.ldRA tab_ok rfl rfl (Rds.own (caches_one _) (by (focus repeat first | exact .head _ | apply List.Mem.tail)) (flat_length _ (fun c h => wCells_length (hk.cache c h).2)) hcn) (cache_part j x hx (fun c h => (hk.cache c h).2)) (by simp [hx2])) rfl ?_ | refine VQ.pure rfl rfl (.ldRA tab_ok rfl rfl (Rds.own (caches_one _) (by (focus repeat first | exact .head _ | apply List.Mem.tail)) (flat_length _ (fun c h => wCells_length (hk.cache c h).2)) hcn) (cache_part j x hx (fun c h => (hk.cache c h).2)) (by simp [hx2])) rfl ?_ | refine VD.end rfl rfl rfl (OpV.pure (.ldRA tab_ok rfl rfl (Rds.own (caches_one _) (by (focus repeat first | exact .head _ | apply List.Mem.tail)) (flat_length _ (fun c h => wCells_length (hk.cache c h).2)) hcn) (cache_part j x hx (fun c h => (hk.cache c h).2)) (by simp [hx2])) rfl ?_))
      (first | refine VO.step rfl rfl ?_ | refine VD.end rfl rfl rfl ?_ | refine VD.mid rfl rfl rfl ?_)
      refine OpV.stA (vs := bytes x.2) tab_ok rfl rfl rfl (by simp [hx2]) (bytes_one _) (by (repeat first | exact .head | apply Hole.tail)) (by simp [hla]) ?_
      rw [store_all _ _ 128 (by simp [hla])]
      (refine w ?_; repeat ((first | refine VO.step rfl rfl ?_ | refine VD.end rfl rfl rfl ?_ | refine VD.mid rfl rfl rfl ?_); refine OpV.box rfl rfl rfl ?_; intro _; refine w ?_))
      (refine jn.to 0 trivial ⟨rfl, trivial⟩ ?_; (try dsimp only); exact Ent.re)
  · intro _ _
    have hl8 := DiskD.look_128 hk ha
    (refine w ?_; repeat ((first | refine VO.step rfl rfl ?_ | refine VD.end rfl rfl rfl ?_ | refine VD.mid rfl rfl rfl ?_); refine OpV.box rfl rfl rfl ?_; intro _; refine w ?_))
    (first | refine VO.pure rfl rfl (PureAt.sliceArr (sz := 1) Try.underlying85 (by decide) (fun w => by simp) rfl) rfl ?_ | refine VD.take rfl rfl rfl (PureAt.sliceArr (sz := 1) Try.underlying85 (by decide) (fun w => by simp) rfl) rfl ?_ | refine VQ.pure rfl rfl (PureAt.sliceArr (sz := 1) Try.underlying85 (by decide) (fun w => by simp) rfl) rfl ?_ | refine VD.end rfl rfl rfl (OpV.pure (PureAt.sliceArr (sz := 1) Try.underlying85 (by decide) (fun w => by simp) rfl) rfl ?_))
    refine VO.re 41 (.slice (some ⟨na, 0, none⟩) 128 128) rfl (by rw [Addr_add_zero]) ?_
    refine VO.ent (fun w hw => DiskR.shut hk w (hw.reord (L := DiskO d k ((some b, lc), (co, cc), m) (Row na 85 (bytes (k.look a)) :: R)) (by (repeat first | exact .refl | (apply Reord.cons; focus repeat first | exact .head | apply Del.tail) | exact .nil | apply Reord.drop)))) ?_
    ((first | refine VO.step rfl rfl ?_ | refine VD.end rfl rfl rfl ?_ | refine VD.mid rfl rfl rfl ?_); refine OpV.call rfl rfl (fun _ _ => by simp) (clone_ok (Rds.row (H := DiskR d k :: Row na 85 (bytes (k.look a)) :: R) (bytes_one _) (.tail _ (.head _)) (by simp [hl8])) (by decide)) Ent.re rfl ?_)
    rintro ⟨ao', cap'⟩ -
    refine VO.know (fun w hw => hw.ownNone (by (focus repeat first | exact .head _ | apply List.Mem.tail)) : ∀ w, _ → (ao' = none → 128 = 0)) ?_
    intro hn
    obtain ⟨a', rfl⟩ : ∃ a', ao' = some a' := by cases ao' with | none => have := hn rfl; omega | some a' => exact ⟨a', rfl⟩
    (refine w ?_; repeat ((first | refine VO.step rfl rfl ?_ | refine VD.end rfl rfl rfl ?_ | refine VD.mid rfl rfl rfl ?_); refine OpV.box rfl rfl rfl ?_; intro _; refine w ?_))
    exact VE.done (a', cap') rfl trivial rfl Ent.re

/-! ### Image, Pending -/

theorem Rds.part {W : World} {H : List SProp} {sz m j : Nat} {a : Addr} {xs : List Value} (r : Rds W H sz (some a) m xs) (hj : j < m) : Rds W H 1 (some (a.add (j * sz))) sz ((xs.drop (j * sz)).take sz) := by
  have hl := r.len
  have : j * sz + sz ≤ m * sz := by rw [← Nat.succ_mul]; exact Nat.mul_le_mul_right _ hj
  refine ⟨by rw [List.length_take, List.length_drop]; omega, fun u hu => r.one u (List.mem_of_mem_drop (List.mem_of_mem_take hu)), fun h => (by cases h), fun w hw a' ha i v hv => ?_⟩
  cases ha
  rw [Addr_add_add]
  refine r.cell w hw a rfl _ _ ?_
  rw [List.getElem?_take] at hv
  split at hv
  · rw [List.getElem?_drop] at hv; exact hv
  · cases hv
theorem bytes_flatten : ∀ l : List (List UInt8), bytes l.flatten = l.flatMap bytes
  | [] => rfl
  | a :: r => by rw [List.flatten_cons, bytes_append, bytes_flatten r, List.flatMap_cons]

theorem image_bad {W : World} {R : List SProp} (d : Nat) (k : DiskD) (hf : k.failed = true) :
    Does1 W Try.prog 28 [.pointer (some ⟨d, 0, none⟩)] (DiskR d k :: R) (.slice none 0 0) (DiskR d k :: R) := by
  (refine Does.enter Try.func28 Try.ntmps28 rfl rfl ?_)
  refine VC.obtain (fun w => DiskR.open) ?_
  rintro ⟨⟨⟨lo, lc⟩, ⟨co, cc⟩, m⟩, hk⟩
  (refine w ?_; repeat ((first | refine VO.step rfl rfl ?_ | refine VD.end rfl rfl rfl ?_ | refine VD.mid rfl rfl rfl ?_); refine OpV.box rfl rfl rfl ?_; intro _; refine w ?_))
  (refine VC.condTe rfl rfl (hf) ?_)
  (refine w ?_; repeat ((first | refine VO.step rfl rfl ?_ | refine VD.end rfl rfl rfl ?_ | refine VD.mid rfl rfl rfl ?_); refine OpV.box rfl rfl rfl ?_; intro _; refine w ?_))
  (refine VE.done1 rfl ?_ ?_)
  · rfl
  · exact DiskR.shut hk

set_option maxHeartbeats 2000000 in
theorem image_ok {W : World} {R : List SProp} (d : Nat) (k : DiskD) (hf : k.failed = false) :
    Does W Try.prog 28 [.pointer (some ⟨d, 0, none⟩)] (DiskR d k :: R) (β := Option Addr × Nat) (fun _ => True) (fun x => .slice x.1 (k.last.length * 128) x.2)
      (fun x => Own 5 1 (.slice x.1 (k.last.length * 128) x.2) (k.last.length * 128) (bytes k.last.flatten) :: DiskR d k :: R) := by
  (refine Does.enter Try.func28 Try.ntmps28 rfl rfl ?_)
  refine VC.obtain (fun w => DiskR.open) ?_
  rintro ⟨⟨⟨lo, lc⟩, ⟨co, cc⟩, m⟩, hk⟩
  dsimp only [DiskO]
  refine VC.know (fun w hw => hw.ownNone (show Own 85 128 (.slice lo k.last.length lc) k.last.length _ ∈ _ by (focus repeat first | exact .head _ | apply List.Mem.tail)) : ∀ w, _ → (lo = none → k.last.length = 0)) ?_
  intro hln
  have h8 : ∀ x ∈ k.last, (bytes x).length = 128 := fun x h => by simp [hk.last x h]
  have hsz := hk.size
  (refine w ?_; repeat ((first | refine VO.step rfl rfl ?_ | refine VD.end rfl rfl rfl ?_ | refine VD.mid rfl rfl rfl ?_); refine OpV.box rfl rfl rfl ?_; intro _; refine w ?_))
  (refine VC.condFe rfl rfl (hf) ?_)
  (refine w ?_; repeat ((first | refine VO.step rfl rfl ?_ | refine VD.end rfl rfl rfl ?_ | refine VD.mid rfl rfl rfl ?_); refine OpV.box rfl rfl rfl ?_; intro _; refine w ?_))
  refine VO.re 14 (.int .i64 ((k.last.length * 128 : Nat) : Int)) rfl (by congr 1) ?_
  (first | refine VO.step rfl rfl ?_ | refine VD.end rfl rfl rfl ?_ | refine VD.mid rfl rfl rfl ?_)
  refine OpV.makeCap (m := k.last.length * 128) st_32 rfl rfl ?_ ?_ rfl ?_
  · omega
  · simp only [maxLen]; omega
  intro nb
  (refine w ?_; repeat ((first | refine VO.step rfl rfl ?_ | refine VD.end rfl rfl rfl ?_ | refine VD.mid rfl rfl rfl ?_); refine OpV.box rfl rfl rfl ?_; intro _; refine w ?_))
  refine VC.loop (α := Nat × Option Addr × Nat) (fun g => g.1 ≤ k.last.length)
    (fun g => Own 5 1 (.slice g.2.1 (g.1 * 128) g.2.2) (g.1 * 128) (bytes (k.last.take g.1).flatten) :: DiskO d k ((lo, lc), (co, cc), m) R)
    (fun g => [(0, .pointer (some ⟨d, 0, none⟩)), (3, .slice g.2.1 (g.1 * 128) g.2.2), (20, .int .i64 k.last.length), (21, .int .i64 g.1)]) (fun g => k.last.length - g.1) rfl (0, some ⟨nb, 0, none⟩, k.last.length * 128) (Nat.zero_le _) Ent.re ⟨rfl, rfl, rfl, rfl, trivial⟩ ?_
  rintro ⟨i, ao, cap⟩ hi
  have hi : i ≤ k.last.length := hi
  dsimp only [DiskO]
  (refine w ?_; repeat ((first | refine VO.step rfl rfl ?_ | refine VD.end rfl rfl rfl ?_ | refine VD.mid rfl rfl rfl ?_); refine OpV.box rfl rfl rfl ?_; intro _; refine w ?_))
  (refine VC.cond rfl rfl ?_ ?_ <;> intro hc)
  · have hlt : i < k.last.length := by have := of_decide_eq_true hc; omega
    obtain ⟨b, rfl⟩ : ∃ b, lo = some b := by cases lo with | none => have := hln rfl; omega | some b => exact ⟨b, rfl⟩
    have hla : k.last[i].length = 128 := hk.last _ (List.getElem_mem hlt)
    have hp := flat_part (g := bytes) k.last i hlt h8
    (refine w ?_; repeat ((first | refine VO.step rfl rfl ?_ | refine VD.end rfl rfl rfl ?_ | refine VD.mid rfl rfl rfl ?_); refine OpV.box rfl rfl rfl ?_; intro _; refine w ?_))
    (first | refine VO.pure rfl rfl (PureAt.sliceArr (sz := 1) Try.underlying85 (by decide) (fun w => by simp) rfl) rfl ?_ | refine VD.take rfl rfl rfl (PureAt.sliceArr (sz := 1) Try.underlying85 (by decide) (fun w => by simp) rfl) rfl ?_ | refine VQ.pure rfl rfl (PureAt.sliceArr (sz := 1) Try.underlying85 (by decide) (fun w => by simp) rfl) rfl ?_ | refine VD.end rfl rfl rfl (OpV.pure (PureAt.sliceArr (sz := 1) Try.underlying85 (by decide) (fun w => by simp) rfl) rfl ?_))
    refine VO.re 31 (.slice (some (b.add (i * 128))) 128 128) rfl (by rw [Addr_add_zero]) ?_
    (first | refine VO.step rfl rfl ?_ | refine VD.end rfl rfl rfl ?_ | refine VD.mid rfl rfl rfl ?_)
    refine OpV.append st_32 rfl rfl .head (fun w hw => ((Rds.part (Rds.own (W := W) (H := DiskO d k ((some b, lc), (co, cc), m) R) (lasts_one _) (.tail _ (.head _)) (flat_length _ h8) hln) hlt).sees (cap := 128) hw.tail).src st_32.und) (by simp only [maxLen]; omega) (by omega) rfl ?_
    intro ao' cap'
    rw [hp, show i * 128 + 128 = (i + 1) * 128 by omega]
    have e : bytes (k.last.take i).flatten ++ bytes k.last[i] = bytes (k.last.take (i + 1)).flatten := by
      rw [← bytes_append, List.take_succ_eq_append_getElem hlt, List.flatten_append]; simp
    rw [e]
    (refine w ?_; repeat ((first | refine VO.step rfl rfl ?_ | refine VD.end rfl rfl rfl ?_ | refine VD.mid rfl rfl rfl ?_); refine OpV.box rfl rfl rfl ?_; intro _; refine w ?_))
    exact VE.round (i + 1, ao', cap') hlt (by simp only; omega) ⟨rfl, rfl, rfl, rfl, trivial⟩ Ent.refl
  · have hge : i = k.last.length := by have := of_decide_eq_false hc; omega
    subst hge
    rw [List.take_of_length_le (Nat.le_refl k.last.length)]
    (refine w ?_; repeat ((first | refine VO.step rfl rfl ?_ | refine VD.end rfl rfl rfl ?_ | refine VD.mid rfl rfl rfl ?_); refine OpV.box rfl rfl rfl ?_; intro _; refine w ?_))
    refine VE.done (ao, cap) rfl trivial rfl ?_
    exact fun w hw => (DiskR.shut hk w (hw.reord (L := DiskO d k ((lo, lc), (co, cc), m) (Own 5 1 (.slice ao (k.last.length * 128) cap) (k.last.length * 128) (bytes k.last.flatten) :: R)) (by (repeat first | exact .refl | (apply Reord.cons; focus repeat first | exact .head | apply Del.tail) | exact .nil | apply Reord.drop)))).swap

def ints (l : List Nat) : List Value := l.map fun (n : Nat) => Value.int .i64 (n : Int)
theorem ints_one (l : List Nat) : ∀ u ∈ ints l, u.oneCell' = true := by
  intro u hu; obtain ⟨c, _, rfl⟩ := List.mem_map.1 hu; rfl
@[simp] theorem ints_length (l : List Nat) : (ints l).length = l.length := by simp [ints]

set_option maxHeartbeats 2000000 in
theorem pending_ok {W : World} {R : List SProp} (d : Nat) (k : DiskD) (hcl : k.cache.length ≤ 1000000) :
    Does W Try.prog 48 [.pointer (some ⟨d, 0, none⟩)] (DiskR d k :: R) (β := Option Addr × Nat) (fun _ => True) (fun x => .slice x.1 k.cache.length x.2)
      (fun x => Own 3 1 (.slice x.1 k.cache.length x.2) k.cache.length (ints (k.cache.map (·.1))) :: DiskR d k :: R) := by
  (refine Does.enter Try.func48 Try.ntmps48 rfl rfl ?_)
  refine VC.obtain (fun w => DiskR.open) ?_
  rintro ⟨⟨⟨lo, lc⟩, ⟨co, cc⟩, m⟩, hk⟩
  dsimp only [DiskO]
  refine VC.know (fun w hw => hw.ownNone (show Own 88 129 (.slice co k.cache.length cc) k.cache.length _ ∈ _ by (focus repeat first | exact .head _ | apply List.Mem.tail)) : ∀ w, _ → (co = none → k.cache.length = 0)) ?_
  intro hcn
  (refine w ?_; repeat ((first | refine VO.step rfl rfl ?_ | refine VD.end rfl rfl rfl ?_ | refine VD.mid rfl rfl rfl ?_); refine OpV.box rfl rfl rfl ?_; intro _; refine w ?_))
  refine VC.loop (α := Nat × Option Addr × Nat) (fun g => g.1 ≤ k.cache.length)
    (fun g => Own 3 1 (.slice g.2.1 g.1 g.2.2) g.1 (ints ((k.cache.take g.1).map (·.1))) :: DiskO d k ((lo, lc), (co, cc), m) R)
    (fun g => [(3, .slice g.2.1 g.1 g.2.2), (9, .slice co k.cache.length cc), (10, .int .i64 k.cache.length), (11, .int .i64 g.1)]) (fun g => k.cache.length - g.1) rfl (0, none, 0) (Nat.zero_le _) (fun w hw => hw.ownNil _ _) ⟨rfl, rfl, rfl, rfl, trivial⟩ ?_
  rintro ⟨i, ao, cap⟩ hi
  have hi : i ≤ k.cache.length := hi
  dsimp only [DiskO]
  (refine w ?_; repeat ((first | refine VO.step rfl rfl ?_ | refine VD.end rfl rfl rfl ?_ | refine VD.mid rfl rfl rfl ?_); refine OpV.box rfl rfl rfl ?_; intro _; refine w ?_))
  (refine VC.cond rfl rfl ?_ ?_ <;> intro hc)
  · have hlt : i < k.cache.length := by have := of_decide_eq_true hc; omega
    obtain ⟨a, rfl⟩ : ∃ a, co = some a := by cases co with | none => have := hcn rfl; omega | some a => exact ⟨a, rfl⟩
    obtain ⟨hw1, hw2⟩ := hk.cache k.cache[i] (List.getElem_mem hlt)
    have hpart := flat_part (g := wCells) (w := 129) k.cache i hlt (fun c h => wCells_length (hk.cache c h).2)
    have e : ints ((k.cache.take i).map (·.1)) ++ [.int .i64 (k.cache[i].1 : Int)] = ints ((k.cache.take (i + 1)).map (·.1)) := by
      rw [List.take_succ_eq_append_getElem hlt, List.map_append]; simp only [ints, List.map_append]; rfl
    (refine w ?_; repeat ((first | refine VO.step rfl rfl ?_ | refine VD.end rfl rfl rfl ?_ | refine VD.mid rfl rfl rfl ?_); refine OpV.box rfl rfl rfl ?_; intro _; refine w ?_))
    (first | refine VO.pure rfl rfl (.ldRA tab_ok rfl rfl (Rds.own (caches_one _) (by (focus repeat first | exact .head _ | apply List.Mem.tail)) (flat_length _ (fun c h => wCells_length (hk.cache c h).2)) hcn) hpart (wCells_length hw2)) rfl ?_ | refine VD.take rfl rfl rfl (.ldRA tab_ok rfl rfl (Rds.own (caches_one _) (by (focus repeat first | exact .head _ | apply List.Mem.tail)) (flat_length _ (fun c h => wCells_length (hk.cache c h).2)) hcn) hpart (wCells_length hw2)) rfl ?_ | refine VQ.pure rfl rfl (.ldRA tab_ok rfl rfl (Rds.own (caches_one _) (by (focus repeat first | exact .head _ | apply List.Mem.tail)) (flat_length _ (fun c h => wCells_length (hk.cache c h).2)) hcn) hpart (wCells_length hw2)) rfl ?_ | refine VD.end rfl rfl rfl (OpV.pure (.ldRA tab_ok rfl rfl (Rds.own (caches_one _) (by (focus repeat first | exact .head _ | apply List.Mem.tail)) (flat_length _ (fun c h => wCells_length (hk.cache c h).2)) hcn) hpart (wCells_length hw2)) rfl ?_))
    ((first | refine VO.step rfl rfl ?_ | refine VD.end rfl rfl rfl ?_ | refine VD.mid rfl rfl rfl ?_); refine OpV.allocS sb_write rfl ?_; intro na)
    (first | refine VO.step rfl rfl ?_ | refine VD.end rfl rfl rfl ?_ | refine VD.mid rfl rfl rfl ?_)
    refine OpV.stA (vs := wCells k.cache[i]) tab_ok rfl rfl rfl (wCells_length hw2) (wCells_one _) (by (repeat first | exact .head | apply Hole.tail)) (by rw [List.length_cons, List.length_replicate]; decide) ?_
    rw [store_all _ _ 129 (by rw [List.length_cons, List.length_replicate])]
    (refine w ?_; repeat ((first | refine VO.step rfl rfl ?_ | refine VD.end rfl rfl rfl ?_ | refine VD.mid rfl rfl rfl ?_); refine OpV.box rfl rfl rfl ?_; intro _; refine w ?_))
    ((first | refine VO.step rfl rfl ?_ | refine VD.end rfl rfl rfl ?_ | refine VD.mid rfl rfl rfl ?_); refine OpV.buildSlice1 st_43 rfl rfl (by first | (simp; done) | simp [Value.oneCell']) (by decide) rfl ?_; intro nb)
    ((first | refine VO.step rfl rfl ?_ | refine VD.end rfl rfl rfl ?_ | refine VD.mid rfl rfl rfl ?_); refine OpV.appendRow st_43 rfl rfl (by (repeat first | exact .head | apply Hole.tail)) (by (focus repeat first | exact .head _ | apply List.Mem.tail)) rfl (by first | (simp; done) | simp [Value.oneCell']) ?_ ?_ rfl ?_)
    · simp only [maxLen]; omega
    · omega
    intro ao' cap'
    rw [e]
    (refine w ?_; repeat ((first | refine VO.step rfl rfl ?_ | refine VD.end rfl rfl rfl ?_ | refine VD.mid rfl rfl rfl ?_); refine OpV.box rfl rfl rfl ?_; intro _; refine w ?_))
    exact VE.round (i + 1, ao', cap') hlt (by simp only; omega) ⟨rfl, rfl, rfl, rfl, trivial⟩ Ent.re
  · have hge : i = k.cache.length := by have := of_decide_eq_false hc; omega
    subst hge
    rw [List.take_of_length_le (Nat.le_refl k.cache.length)]
    (refine w ?_; repeat ((first | refine VO.step rfl rfl ?_ | refine VD.end rfl rfl rfl ?_ | refine VD.mid rfl rfl rfl ?_); refine OpV.box rfl rfl rfl ?_; intro _; refine w ?_))
    refine VE.done (ao, cap) rfl trivial rfl ?_
    exact fun w hw => (DiskR.shut hk w (hw.reord (L := DiskO d k ((lo, lc), (co, cc), m) (Own 3 1 (.slice ao k.cache.length cap) k.cache.length (ints (k.cache.map (·.1))) :: R)) (by (repeat first | exact .refl | (apply Reord.cons; focus repeat first | exact .head | apply Del.tail) | exact .nil | apply Reord.drop)))).swap
end Go.Proofs.Ytbmcgmicnfbckaa
