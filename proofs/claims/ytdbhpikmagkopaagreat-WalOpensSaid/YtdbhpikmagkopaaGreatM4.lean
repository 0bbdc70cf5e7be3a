import Derived.Test.YtdbhpikmagkopaaGreatM3
/-! Text Dm. -/
set_option maxRecDepth 8000
set_option maxHeartbeats 16000000
set_option linter.unusedVariables false
set_option linter.unusedSimpArgs false
set_option linter.unusedSectionVars false
namespace Go.Proofs.YtdbhpikmagkopaaGreat
open Go.RowKit Go.Sl
attribute [local irreducible] Own
variable {W : World} {R : List SProp}
theorem lastR_some : ∀ (r : List (Nat × List UInt8)) (a i : Int), lastR r a = some i -> ∃ j c, i = ((j : Nat) : Int) /\ j < r.length /\ r.reverse[j]? = some c /\ a = ((c.1 : Nat) : Int)
  | [], _, _, h => by cases h
  | c :: r, a, i, h => by
    unfold lastR at h
    split at h
    · rename_i e
      cases h
      exact ⟨r.length, c, rfl, by simp, by rw [List.reverse_cons, List.getElem?_append_right (by simp)]; simp, e⟩
    · obtain ⟨j, c', h1, h2, h3, h4⟩ := lastR_some r a i h
      exact ⟨j, c', h1, by simp; omega, by rw [List.reverse_cons, List.getElem?_append_left (by simpa using h2)]; exact h3, h4⟩
theorem seenOf_some {c : List (Nat × List UInt8)} {a i : Int} (h : seenOf c a = some i) : ∃ j x, i = ((j : Nat) : Int) /\ j < c.length /\ c[j]? = some x /\ a = ((x.1 : Nat) : Int) := by
 obtain ⟨j, x, h1, h2, h3, h4⟩ := lastR_some _ a i h
 exact ⟨j, x, h1, by simpa using h2, by simpa using h3, h4⟩
def DiskD.look (k : DiskD) (a : Nat) : List UInt8 := match seenOf k.cache (a : Int) with
  | some i => ((k.cache[i.toNat]?).map (·.2)).getD []
  | none => (k.last[a]?).getD []
theorem DiskD.look_write (k : DiskD) (a : Nat) (b : List UInt8) (a' : Nat) : (k.write a b).look a' = if a' = a then b else k.look a' := by
  unfold DiskD.look
  have e1 : (k.write a b).cache = k.cache ++ [(a, b)] := rfl
  have e2 : (k.write a b).last = k.last := rfl
  rw [e1, e2, seenOf_snoc]
  by_cases h : a' = a
  · subst h; simp [updM]
  · rw [if_neg h]
    have h' : ¬ ((a' : Int) = ((a, b).1 : Nat)) := by simp only; omega
    unfold updM
    rw [if_neg h']
    cases hs : seenOf k.cache (a' : Int) with
    | none => rfl
    | some i =>
      obtain ⟨j, x, rfl, h2, h3, h4⟩ := seenOf_some hs
      simp only [Int.toNat_natCast]
      rw [List.getElem?_append_left h2]
theorem DiskD.look_clean {k : DiskD} (h : k.cache = []) (a : Nat) : k.look a = (k.last[a]?).getD [] := by
 unfold DiskD.look; rw [h]; rfl
theorem DiskD.look_128 {k : DiskD} (hk : k.ok) {a : Nat} (ha : a < k.last.length) : (k.look a).length = 128 := by
 unfold DiskD.look
 split
 ·
  rename_i i h
  obtain ⟨j, x, rfl, h2, h3, h4⟩ := seenOf_some h
  rw [Int.toNat_natCast, h3]
  exact (hk.cache x (List.mem_of_getElem? h3)).2
 ·
  rw [List.getElem?_eq_getElem ha]
  exact hk.last _ (List.getElem_mem ha)
theorem cache_part {l : List (Nat × List UInt8)} (j : Nat) (x : Nat × List UInt8) (h : l[j]? = some x) (hl : ∀ c ∈ l, c.2.length = 128) : ((l.flatMap wCells).drop (j * 129 + 1)).take 128 = bytes x.2 := by
 obtain ⟨hj, rfl⟩ := List.getElem?_eq_some_iff.1 h
 have := flat_part (g := wCells) (w := 129) l j hj (fun c h => wCells_length (hl c h))
 rw [<- List.drop_drop, List.take_drop, show 1 + 128 = 129 from rfl, this]
 rfl
theorem dread_bad (d : Nat) (k : DiskD) (at_ : Int) (h : k.may at_ ≠ 0) :
  Does1 W Tryz.prog 150 [.pointer (some ⟨d, 0, none⟩), .int .i64 at_] (DiskR d k :: R) (.tuple #[.slice none 0 0, .int .u16 (k.may at_)]) (DiskR d k :: R) := by
 (refine Does.enter Tryz.func150 Tryz.ntmps150 rfl rfl ?_)
 refine w ?_
 ((refine zq ?_; refine zd rfl rfl (may_ok d k at_) ?_); intro _ _)
 refine w ?_
 (refine VC.condTe rfl rfl (by simpa using h) ?_)
 refine w ?_
 refine VE.done1 rfl ?_ ?_
 · rfl
 · exact Ent.refl
theorem dread_ok (d : Nat) (k : DiskD) (a : Nat) (hf : k.failed = false) (ha : a < k.last.length) :
    Does W Tryz.prog 150 [.pointer (some ⟨d, 0, none⟩), .int .i64 a] (DiskR d k :: R) (β := Addr × Nat) (fun _ => True) (fun x => .tuple #[.slice (some x.1) 128 x.2, .int .u16 0])
      (fun x => Own 5 1 (.slice (some x.1) 128 x.2) 128 (bytes (k.look a)) :: DiskR d k :: R) := by
  have hm : k.may a = 0 := by unfold DiskD.may; rw [hf, if_neg (by simp), if_neg (by omega)]
  (refine Does.enter Tryz.func150 Tryz.ntmps150 rfl rfl ?_)
  refine w ?_
  ((refine zq ?_; refine zd rfl rfl (may_ok d k a) ?_); intro _ _)
  refine w ?_
  (refine VC.condFe rfl rfl (by simp [hm]) ?_)
  refine w ?_
  refine VO.obtain (fun w => DiskR.open) ?_
  rintro ⟨⟨⟨lo, lc⟩, ⟨co, cc⟩, m⟩, hk⟩
  dsimp only [DiskO]
  refine VO.know (fun w hw => hw.ownNone zm : ∀ w, _ -> (co = none -> k.cache.length = 0)) ?_
  intro hcn
  refine VO.know (fun w hw => hw.ownNone zm : ∀ w, _ -> (lo = none -> k.last.length = 0)) ?_
  intro hln
  obtain ⟨b, rfl⟩ : ∃ b, lo = some b := by cases lo with | none => have := hln rfl; omega | some b => exact ⟨b, rfl⟩
  have h8 : ∀ x ∈ k.last, (bytes x).length = 128 := fun x h => by simp [hk.last x h]
  have hla : k.last[a].length = 128 := hk.last _ (List.getElem_mem ha)
  refine w ?_
  refine VO.pure rfl rfl (.ldRA tab_ok rfl rfl (Rds.own (lasts_one _) zm (flat_length _ h8) hln) (flat_part (g := bytes) k.last a ha h8) (by simp [hla])) rfl ?_
  refine zq ?_
  refine OpV.allocE st_sectors (cs := List.replicate 128 zb) rfl rfl ?_
  intro na
  refine zq ?_
  refine OpV.stA (vs := bytes k.last[a]) tab_ok rfl rfl rfl (by simp [hla]) (bytes_one _) zh (by rw [List.length_replicate]; decide) ?_
  rw [store_all _ _ 128 (by rw [List.length_replicate])]
  refine w ?_
  refine VO.pure rfl rfl (PureAt.lookup Tryz.underlying216 Tryz.underlying3 (fun w => by simp) rfl rfl zm) rfl ?_
  refine w ?_
  (first | refine VO.join (α := Nat) (fun _ => True) (fun _ => Row na 220 (bytes (k.look a)) :: DiskO d k ((some b, lc), (co, cc), m) R) (fun _ => [(7, .pointer (some ⟨na, 0, none⟩))]) ?_ ?_ | refine VC.joinTB (α := Nat) (fun _ => True) (fun _ => Row na 220 (bytes (k.look a)) :: DiskO d k ((some b, lc), (co, cc), m) R) (fun _ => [(7, .pointer (some ⟨na, 0, none⟩))]) ?_ ?_ | refine VC.joinB (α := Nat) (fun _ => True) (fun _ => Row na 220 (bytes (k.look a)) :: DiskO d k ((some b, lc), (co, cc), m) R) (fun _ => [(7, .pointer (some ⟨na, 0, none⟩))]) ?_ ?_ | refine VC.join (α := Nat) (fun _ => True) (fun _ => Row na 220 (bytes (k.look a)) :: DiskO d k ((some b, lc), (co, cc), m) R) (fun _ => [(7, .pointer (some ⟨na, 0, none⟩))]) ?_ ?_)
  · intro Q2 jn
    cases hs : seenOf k.cache (a : Int) with
    | none =>
      (refine VC.condFe rfl rfl (rfl) ?_)
      have hlk : k.look a = k.last[a] := by unfold DiskD.look; rw [hs, List.getElem?_eq_getElem ha]; rfl
      rw [hlk] at jn
      refine w ?_
      (refine jn.to 0 trivial ⟨rfl, trivial⟩ ?_; (try dsimp only); exact Ent.re)
    | some i =>
      obtain ⟨j, x, rfl, hj, hx, hax⟩ := seenOf_some hs
      obtain ⟨c, rfl⟩ : ∃ c, co = some c := by cases co with | none => have := hcn rfl; omega | some c => exact ⟨c, rfl⟩
      have hx2 : x.2.length = 128 := (hk.cache x (List.mem_of_getElem? hx)).2
      have hlk : k.look a = x.2 := by unfold DiskD.look; rw [hs]; simp [hx]
      rw [hlk] at jn
      (refine VC.condTe rfl rfl (rfl) ?_)
      refine w ?_
      refine VO.pure rfl rfl (.ldRA tab_ok rfl rfl (Rds.own (caches_one _) zm (flat_length _ (fun c h => wCells_length (hk.cache c h).2)) hcn) (cache_part j x hx (fun c h => (hk.cache c h).2)) (by simp [hx2])) rfl ?_
      refine zq ?_
      refine OpV.stA (vs := bytes x.2) tab_ok rfl rfl rfl (by simp [hx2]) (bytes_one _) zh (by simp [hla]) ?_
      rw [store_all _ _ 128 (by simp [hla])]
      refine w ?_
      (refine jn.to 0 trivial ⟨rfl, trivial⟩ ?_; (try dsimp only); exact Ent.re)
  · intro _ _
    have hl8 := DiskD.look_128 hk ha
    refine w ?_
    refine VO.pure rfl rfl (PureAt.sliceArr (sz := 1) Tryz.underlying220 (by decide) (fun w => by simp) rfl) rfl ?_
    refine VO.re 41 (.slice (some ⟨na, 0, none⟩) 128 128) rfl (by rw [Addr_add_zero]) ?_
    refine VO.ent (fun w hw => DiskR.shut hk w (hw.reord (L := DiskO d k ((some b, lc), (co, cc), m) (Row na 220 (bytes (k.look a)) :: R)) (by (repeat first | exact .refl | (apply Reord.cons; focus repeat first | exact .head | apply Del.tail) | exact .nil | apply Reord.drop)))) ?_
    (refine zq ?_; refine zd rfl rfl (clone_ok (Rds.row (H := DiskR d k :: Row na 220 (bytes (k.look a)) :: R) (bytes_one _) (.tail _ (.head _)) (by simp [hl8])) (by decide)) ?_)
    rintro ⟨ao', cap'⟩ -
    refine VO.know (fun w hw => hw.ownNone zm : ∀ w, _ -> (ao' = none -> 128 = 0)) ?_
    intro hn
    obtain ⟨a', rfl⟩ : ∃ a', ao' = some a' := by cases ao' with | none => have := hn rfl; omega | some a' => exact ⟨a', rfl⟩
    refine w ?_
    exact VE.done (a', cap') rfl trivial rfl Ent.re
theorem Rds.part {H : List SProp} {sz m j : Nat} {a : Addr} {xs : List Value} (r : Rds W H sz (some a) m xs) (hj : j < m) : Rds W H 1 (some (a.add (j * sz))) sz ((xs.drop (j * sz)).take sz) := by
 have hl := r.len
 have : j * sz + sz <= m * sz := by rw [<- Nat.succ_mul]; exact Nat.mul_le_mul_right _ hj
 refine ⟨by rw [List.length_take, List.length_drop]; omega, fun u hu => r.one u (List.mem_of_mem_drop (List.mem_of_mem_take hu)), fun h => (by cases h), fun w hw a' ha i v hv => ?_⟩
 cases ha
 rw [Addr_add_add]
 refine r.cell w hw a rfl _ _ ?_
 rw [List.getElem?_take] at hv
 split at hv
 · rw [List.getElem?_drop] at hv; exact hv
 · cases hv
theorem bytes_flatten : ∀ l : List (List UInt8), bytes l.flatten = l.flatMap bytes
 | [] => rfl
 | a :: r => by rw [List.flatten_cons, bytes_append, bytes_flatten r, List.flatMap_cons]
theorem image_bad (d : Nat) (k : DiskD) (hf : k.failed = true) :
  Does1 W Tryz.prog 124 [.pointer (some ⟨d, 0, none⟩)] (DiskR d k :: R) (.slice none 0 0) (DiskR d k :: R) := by
 (refine Does.enter Tryz.func124 Tryz.ntmps124 rfl rfl ?_)
 refine VC.obtain (fun w => DiskR.open) ?_
 rintro ⟨⟨⟨lo, lc⟩, ⟨co, cc⟩, m⟩, hk⟩
 refine w ?_
 (refine VC.condTe rfl rfl (hf) ?_)
 refine w ?_
 refine VE.done1 rfl ?_ ?_
 · rfl
 · exact DiskR.shut hk
theorem image_ok (d : Nat) (k : DiskD) (hf : k.failed = false) :
  Does W Tryz.prog 124 [.pointer (some ⟨d, 0, none⟩)] (DiskR d k :: R) (β := Option Addr × Nat) (fun _ => True) (fun x => .slice x.1 (k.last.length * 128) x.2)
   (fun x => Own 5 1 (.slice x.1 (k.last.length * 128) x.2) (k.last.length * 128) (bytes k.last.flatten) :: DiskR d k :: R) := by
 (refine Does.enter Tryz.func124 Tryz.ntmps124 rfl rfl ?_)
 refine VC.obtain (fun w => DiskR.open) ?_
 rintro ⟨⟨⟨lo, lc⟩, ⟨co, cc⟩, m⟩, hk⟩
 dsimp only [DiskO]
 refine VC.know (fun w hw => hw.ownNone (show Own 220 128 (.slice lo k.last.length lc) k.last.length _ ∈ _ by (focus repeat first | exact .head _ | apply List.Mem.tail)) : ∀ w, _ -> (lo = none -> k.last.length = 0)) ?_
 intro hln
 have h8 : ∀ x ∈ k.last, (bytes x).length = 128 := fun x h => by simp [hk.last x h]
 have hsz := hk.size
 refine w ?_
 (refine VC.condFe rfl rfl (hf) ?_)
 refine w ?_
 refine VO.re 14 (.int .i64 ((k.last.length * 128 : Nat) : Int)) rfl (by congr 1) ?_
 refine zq ?_
 refine OpV.makeCap (m := k.last.length * 128) st_65 rfl rfl ?_ ?_ rfl ?_
 · omega
 · simp only [maxLen]; omega
 intro nb
 refine w ?_
 refine VC.loop (α := Nat × Option Addr × Nat) (fun g => g.1 <= k.last.length)
  (fun g => Own 5 1 (.slice g.2.1 (g.1 * 128) g.2.2) (g.1 * 128) (bytes (k.last.take g.1).flatten) :: DiskO d k ((lo, lc), (co, cc), m) R)
  (fun g => [(0, .pointer (some ⟨d, 0, none⟩)), (3, .slice g.2.1 (g.1 * 128) g.2.2), (20, .int .i64 k.last.length), (21, .int .i64 g.1)]) (fun g => k.last.length - g.1) rfl (0, some ⟨nb, 0, none⟩, k.last.length * 128) (Nat.zero_le _) Ent.re ⟨rfl, rfl, rfl, rfl, trivial⟩ ?_
 rintro ⟨i, ao, cap⟩ hi
 have hi : i <= k.last.length := hi
 dsimp only [DiskO]
 refine w ?_
 refine zk ?_ ?_ <;> intro hc
 ·
  have hlt : i < k.last.length := by have := of_decide_eq_true hc; omega
  obtain ⟨b, rfl⟩ : ∃ b, lo = some b := by cases lo with | none => have := hln rfl; omega | some b => exact ⟨b, rfl⟩
  have hla : k.last[i].length = 128 := hk.last _ (List.getElem_mem hlt)
  have hp := flat_part (g := bytes) k.last i hlt h8
  refine w ?_
  refine VO.pure rfl rfl (PureAt.sliceArr (sz := 1) Tryz.underlying220 (by decide) (fun w => by simp) rfl) rfl ?_
  refine VO.re 31 (.slice (some (b.add (i * 128))) 128 128) rfl (by rw [Addr_add_zero]) ?_
  refine zq ?_
  refine OpV.append st_65 rfl rfl .head (fun w hw => ((Rds.part (Rds.own (W := W) (H := DiskO d k ((some b, lc), (co, cc), m) R) (lasts_one _) (.tail _ (.head _)) (flat_length _ h8) hln) hlt).sees (cap := 128) hw.tail).src st_65.und) (by simp only [maxLen]; omega) (by omega) rfl ?_
  intro ao' cap'
  rw [hp, show i * 128 + 128 = (i + 1) * 128 by omega]
  have e : bytes (k.last.take i).flatten ++ bytes k.last[i] = bytes (k.last.take (i + 1)).flatten := by
   rw [<- bytes_append, List.take_succ_eq_append_getElem hlt, List.flatten_append]; simp
  rw [e]
  refine w ?_
  exact VE.round (i + 1, ao', cap') hlt (by simp only; omega) ⟨rfl, rfl, rfl, rfl, trivial⟩ Ent.refl
 ·
  have hge : i = k.last.length := by have := of_decide_eq_false hc; omega
  subst hge
  rw [List.take_of_length_le (Nat.le_refl k.last.length)]
  refine w ?_
  refine VE.done (ao, cap) rfl trivial rfl ?_
  exact fun w hw => (DiskR.shut hk w (hw.reord (L := DiskO d k ((lo, lc), (co, cc), m) (Own 5 1 (.slice ao (k.last.length * 128) cap) (k.last.length * 128) (bytes k.last.flatten) :: R)) (by (repeat first | exact .refl | (apply Reord.cons; focus repeat first | exact .head | apply Del.tail) | exact .nil | apply Reord.drop)))).swap
def ints (l : List Nat) : List Value := l.map fun (n : Nat) => Value.int .i64 (n : Int)
@[simp] theorem ints_length (l : List Nat) : (ints l).length = l.length := by simp [ints]
theorem pending_ok (d : Nat) (k : DiskD) (hcl : k.cache.length <= 1000000000) :
  Does W Tryz.prog 107 [.pointer (some ⟨d, 0, none⟩)] (DiskR d k :: R) (β := Option Addr × Nat) (fun _ => True) (fun x => .slice x.1 k.cache.length x.2)
   (fun x => Own 3 1 (.slice x.1 k.cache.length x.2) k.cache.length (ints (k.cache.map (·.1))) :: DiskR d k :: R) := by
 (refine Does.enter Tryz.func107 Tryz.ntmps107 rfl rfl ?_)
 refine VC.obtain (fun w => DiskR.open) ?_
 rintro ⟨⟨⟨lo, lc⟩, ⟨co, cc⟩, m⟩, hk⟩
 dsimp only [DiskO]
 refine VC.know (fun w hw => hw.ownNone (show Own 262 129 (.slice co k.cache.length cc) k.cache.length _ ∈ _ by (focus repeat first | exact .head _ | apply List.Mem.tail)) : ∀ w, _ -> (co = none -> k.cache.length = 0)) ?_
 intro hcn
 refine w ?_
 refine VC.loop (α := Nat × Option Addr × Nat) (fun g => g.1 <= k.cache.length)
  (fun g => Own 3 1 (.slice g.2.1 g.1 g.2.2) g.1 (ints ((k.cache.take g.1).map (·.1))) :: DiskO d k ((lo, lc), (co, cc), m) R)
  (fun g => [(3, .slice g.2.1 g.1 g.2.2), (9, .slice co k.cache.length cc), (10, .int .i64 k.cache.length), (11, .int .i64 g.1)]) (fun g => k.cache.length - g.1) rfl (0, none, 0) (Nat.zero_le _) (fun w hw => hw.ownNil _ _) ⟨rfl, rfl, rfl, rfl, trivial⟩ ?_
 rintro ⟨i, ao, cap⟩ hi
 have hi : i <= k.cache.length := hi
 dsimp only [DiskO]
 refine w ?_
 refine zk ?_ ?_ <;> intro hc
 ·
  have hlt : i < k.cache.length := by have := of_decide_eq_true hc; omega
  obtain ⟨a, rfl⟩ : ∃ a, co = some a := by cases co with | none => have := hcn rfl; omega | some a => exact ⟨a, rfl⟩
  obtain ⟨hw1, hw2⟩ := hk.cache k.cache[i] (List.getElem_mem hlt)
  have hpart := flat_part (g := wCells) (w := 129) k.cache i hlt (fun c h => wCells_length (hk.cache c h).2)
  have e : ints ((k.cache.take i).map (·.1)) ++ [.int .i64 (k.cache[i].1 : Int)] = ints ((k.cache.take (i + 1)).map (·.1)) := by
   rw [List.take_succ_eq_append_getElem hlt, List.map_append]; simp only [ints, List.map_append]; rfl
  refine w ?_
  refine VO.pure rfl rfl (.ldRA tab_ok rfl rfl (Rds.own (caches_one _) zm (flat_length _ (fun c h => wCells_length (hk.cache c h).2)) hcn) hpart (wCells_length hw2)) rfl ?_
  refine zq ?_; refine OpV.allocS sb_write rfl ?_; intro na
  refine zq ?_
  refine OpV.stA (vs := wCells k.cache[i]) tab_ok rfl rfl rfl (wCells_length hw2) (wCells_one _) zh (by rw [List.length_cons, List.length_replicate]; decide) ?_
  rw [store_all _ _ 129 (by rw [List.length_cons, List.length_replicate])]
  refine w ?_
  (refine zq ?_; refine OpV.buildSlice1 st_22 rfl rfl (by first | (simp; done) | simp [Value.oneCell']) (by decide) rfl ?_; intro nb)
  (refine zq ?_; refine OpV.appendRow st_22 rfl rfl zh zm rfl (by first | (simp; done) | simp [Value.oneCell']) ?_ ?_ rfl ?_)
  · simp only [maxLen]; omega
  · omega
  intro ao' cap'
  rw [e]
  refine w ?_
  exact VE.round (i + 1, ao', cap') hlt (by simp only; omega) ⟨rfl, rfl, rfl, rfl, trivial⟩ Ent.re
 ·
  have hge : i = k.cache.length := by have := of_decide_eq_false hc; omega
  subst hge
  rw [List.take_of_length_le (Nat.le_refl k.cache.length)]
  refine w ?_
  refine VE.done (ao, cap) rfl trivial rfl ?_
  exact fun w hw => (DiskR.shut hk w (hw.reord (L := DiskO d k ((lo, lc), (co, cc), m) (Own 3 1 (.slice ao k.cache.length cap) k.cache.length (ints (k.cache.map (·.1))) :: R)) (by (repeat first | exact .refl | (apply Reord.cons; focus repeat first | exact .head | apply Del.tail) | exact .nil | apply Reord.drop)))).swap
theorem OpV.copyPart {P : Program} {n : Nat} {Q : Exit -> Act -> World -> Prop} {H : List SProp} {f : Fr} {d : Nat} {ty_ : TypeId} {pos : String} {after : Array Edge} {guard : Option (Nat × Bool)}
  {s x : Operand} {t tx e' e : TypeId} {z : Value} {by_ sz m k cap m' cap' j : Nat} {a : Addr} {vx : Value} {xs news : List Value} {C : SProp -> List SProp} {N : List SProp -> Fr -> Prop} (st : SliceT P t e' z 1 by_) (hs : evalX f s = some (.slice (some (a.add j)) m' cap')) (hx : evalX f x = some vx)
  (u : Hole H (Own e sz (.slice (some a) m cap) m xs) C) (hj : j + min k m' <= xs.length) (hsrc : ∀ w, Holds W H w -> Sees w 1 vx k news) (hd : Nat.blt d n = true)
  (h : N (C (Own e sz (.slice (some a) m cap) m (xs.take j ++ news.take (min k m') ++ xs.drop (j + min k m')))) ((d, .int .i64 ((min k m' : Nat) : Int)) :: f)) :
  OpV W P n { dst := some d, op := .call { callee := .builtin .copy, args := #[s, x], argTypes := #[t, tx] }, type := ty_, pos, after, guard } Q H f N := by
 refine OpV.run (α := Unit) (v := fun _ => .int .i64 ((min k m' : Nat) : Int)) (G := fun _ => C (Own e sz (.slice (some a) m cap) m (xs.take j ++ news.take (min k m') ++ xs.drop (j + min k m')))) hd (fun tm w hk hw => ?_) (fun _ => h)
 obtain ⟨R, p, q⟩ := u.perm
 have hsee := hsrc w hw
 obtain ⟨hl, hv⟩ := (hw.perm p).ownOpen
 rcases hv with ⟨he, rfl, hR⟩ | ⟨b, cap0, spare, he, hn, hm, hc, hR⟩
 · cases he
 ·
  cases he
  rw [Addr.add_lit, Nat.zero_add] at hs
  have hfit : j + min k m' * 1 <= (xs ++ spare).length := by rw [List.length_append]; omega
  obtain ⟨w', hr, h2⟩ := Holds.copyRow (ty := ty_) (tx := tx) (cap := cap') (m := m') st hR .head hfit hsee
  refine ⟨(), w', ?_, ?_⟩
  ·
   unfold execOp
   simp only [resolve, invoke, builtin, Sem.run_bind, Sem.run_pure, Result.andThen_ok, List.map_toArray, List.map_cons, List.map_nil, hk.eval hs, hk.eval hx, hr]
  ·
   refine Holds.perm (q _) ?_
   rw [Nat.mul_one] at h2
   have hnl : (news.take (min k m')).length = min k m' := by
    rw [List.length_take, hsee.len]; omega
   have e9 : (xs ++ spare).take j ++ news.take (min k m') ++ (xs ++ spare).drop (j + min k m') = (xs.take j ++ news.take (min k m') ++ xs.drop (j + min k m')) ++ spare := by
    rw [List.take_append_of_le_length (by omega), List.drop_append_of_le_length (by omega)]; simp
   rw [e9] at h2
   refine Holds.ownShut ?_ hn hm ?_ h2
   · simp only [List.length_append, List.length_take, List.length_drop, hl, hnl] at *; omega
   · rw [<- hc]; simp only [List.length_append, List.length_take, List.length_drop, hl, hnl] at *; omega
def chunks (l : List UInt8) (n : Nat) : List (List UInt8) := (List.range n).map fun i => (l.drop (i * 128)).take 128
theorem chunks_length (l : List UInt8) (n : Nat) : (chunks l n).length = n := by simp [chunks]
theorem chunks_128 {l : List UInt8} {n : Nat} (h : l.length = n * 128) : ∀ b ∈ chunks l n, b.length = 128 := by
 intro b hb
 obtain ⟨i, hi, rfl⟩ := List.mem_map.1 hb
 have := List.mem_range.1 hi
 rw [List.length_take, List.length_drop]; omega
theorem chunks_flatten : ∀ (n : Nat) (l : List UInt8), l.length = n * 128 -> (chunks l n).flatten = l
  | 0, l, h => by simp [chunks, List.eq_nil_of_length_eq_zero (by simpa using h)]
  | n + 1, l, h => by
    have ih := chunks_flatten n (l.drop 128) (by rw [List.length_drop]; omega)
    have e : chunks l (n + 1) = l.take 128 :: chunks (l.drop 128) n := by
      unfold chunks
      rw [List.range_succ_eq_map, List.map_cons, List.map_map]
      congr 1
      apply List.map_congr_left
      intro i _
      simp only [Function.comp, List.drop_drop]
      rw [show (i + 1) * 128 = 128 + i * 128 by omega]
    rw [e, List.flatten_cons, ih, List.take_append_drop]
def laid (l : List UInt8) (n i : Nat) : List (List UInt8) := chunks l i ++ List.replicate (n - i) zeroSec
theorem laid_set (l : List UInt8) (n i : Nat) (h : i < n) : (laid l n i).set i ((l.drop (i * 128)).take 128) = laid l n (i + 1) := by
 unfold laid
 rw [List.set_append_right _ _ (by rw [chunks_length]; exact Nat.le_refl _), chunks_length, Nat.sub_self, show n - i = (n - (i + 1)) + 1 by omega, List.replicate_succ, List.set_cons_zero]
 have e : chunks l (i + 1) = chunks l i ++ [(l.drop (i * 128)).take 128] := by simp [chunks, List.range_succ]
 rw [e, List.append_assoc]; rfl
theorem laid_128 {l : List UInt8} {n i : Nat} (hi : i <= n) (h : l.length = n * 128) : ∀ b ∈ laid l n i, (bytes b).length = 128 := by
 intro b hb
 rcases List.mem_append.1 hb with q | q
 ·
  obtain ⟨j, hj, rfl⟩ := List.mem_map.1 q
  have := List.mem_range.1 hj
  rw [bytes_length, List.length_take, List.length_drop]; omega
 · rw [List.eq_of_mem_replicate q]; simp [zeroSec]
theorem laid_length (l : List UInt8) (n i : Nat) (h : i <= n) : (laid l n i).length = n := by unfold laid; rw [List.length_append, chunks_length, List.length_replicate]; omega
theorem load_odd {ao : Option Addr} {cap n : Nat} (h : n % 128 ≠ 0) :
  Does1 W Tryz.prog 79 [.slice ao n cap] R (.tuple #[.pointer none, .int .u16 40]) R := by
 (refine Does.enter Tryz.func79 Tryz.ntmps79 rfl rfl ?_)
 refine w ?_
 refine VO.pure rfl rfl (PureAt.rem (b := 128) rfl rfl (by decide)) rfl ?_
 refine w ?_
 (refine VC.condTe rfl rfl (by simp; omega) ?_)
 refine w ?_
 (first | exact VE.done1 rfl rfl Ent.refl | exact VE.done1N rfl rfl Ent.refl)
theorem load_big {ao : Option Addr} {cap n : Nat} (h : n % 128 = 0) (hb : n / 128 < 1 \/ 8192 < n / 128) (hn : n <= 1000000000) :
  Does1 W Tryz.prog 79 [.slice ao n cap] R (.tuple #[.pointer none, .int .u16 40]) R := by
 (refine Does.enter Tryz.func79 Tryz.ntmps79 rfl rfl ?_)
 refine w ?_
 refine VO.pure rfl rfl (PureAt.rem (b := 128) rfl rfl (by decide)) rfl ?_
 refine w ?_
 (refine VC.condFe rfl rfl (by simp; omega) ?_)
 refine w ?_
 refine VO.pure rfl rfl (PureAt.quo (b := 128) rfl rfl (by decide) (IntWalk.i64_in _ ⟨by omega, by omega⟩)) rfl ?_
 ((refine zq ?_; refine zd rfl rfl (disknew_bad ((n / 128 : Nat) : Int) (by omega)) ?_); intro _ _)
 refine w ?_
 refine VE.done1 rfl ?_ ?_
 · rfl
 · exact Ent.refl
theorem load_ok {ao : Option Addr} {cap m : Nat} {l : List UInt8} (hr : Rds W R 1 ao (m * 128) (bytes l)) (h1 : 1 <= m) (h2 : m <= 8192) (hcap : m * 128 <= cap) :
  Does W Tryz.prog 79 [.slice ao (m * 128) cap] R (β := Nat) (fun _ => True) (fun d => .tuple #[.pointer (some ⟨d, 0, none⟩), .int .u16 0]) (fun d => DiskR d ⟨chunks l m, [], false⟩ :: R) := by
 have hl : l.length = m * 128 := by have := hr.len; simpa using this
 (refine Does.enter Tryz.func79 Tryz.ntmps79 rfl rfl ?_)
 refine w ?_
 ((first | apply VO.pure rfl rfl | apply VQ.pure rfl rfl | apply VD.take rfl rfl rfl | (refine VD.end rfl rfl rfl ?_; apply OpV.pure)); exact PureAt.rem (b := 128) rfl rfl (by decide); rfl)
 refine w ?_
 (refine VC.condFe rfl rfl (by simp) ?_)
 refine w ?_
 ((first | apply VO.pure rfl rfl | apply VQ.pure rfl rfl | apply VD.take rfl rfl rfl | (refine VD.end rfl rfl rfl ?_; apply OpV.pure)); exact PureAt.quo (b := 128) rfl rfl (by decide) (IntWalk.i64_in _ ⟨by omega, by omega⟩); rfl)
 refine VO.re 14 (.int .i64 (m : Int)) rfl (by rw [Nat.mul_div_cancel _ (by decide)]) ?_
 (refine zq ?_; refine zd rfl rfl (disknew_ok m h1 h2) ?_)
 intro d _
 refine w ?_
 refine VO.obtain (fun w => DiskR.open) ?_
 rintro ⟨⟨⟨lo, lc⟩, ⟨co, cc⟩, mb⟩, hk⟩
 dsimp only [DiskO]
 simp only [List.length_replicate]
 refine VO.know (p := lo = none -> m = 0) (fun w hw => Holds.ownNone hw (.tail _ (.head _))) ?_
 intro hln
 obtain ⟨b, rfl⟩ : ∃ b, lo = some b := by cases lo with | none => have := hln rfl; omega | some b => exact ⟨b, rfl⟩
 refine w ?_
 refine VC.loop (α := Nat) (fun i => i <= m) (fun i => Row d 218 [.slice (some b) m lc, .slice co 0 cc, .map (some mb), .bool false] :: Own 220 128 (.slice (some b) m lc) m ((laid l m i).flatMap bytes) ::
   Own 262 129 (.slice co 0 cc) 0 [] :: MapR mb (seenOf []) :: R)
  (fun i => [(0, .slice ao (m * 128) cap), (4, .pointer (some ⟨d, 0, none⟩)), (25, .int .i64 m), (26, .int .i64 i)]) (fun i => m - i) rfl 0 (Nat.zero_le _) (by simp only [laid, chunks, List.range_zero, List.map_nil, List.nil_append, Nat.sub_zero]; exact Ent.re) ⟨rfl, rfl, rfl, rfl, trivial⟩ ?_
 intro i hi
 refine w ?_
 refine zk ?_ ?_ <;> intro hc
 ·
  have hlt : i < m := by have := of_decide_eq_true hc; omega
  have hll := laid_length l m i hi
  have hl8 := laid_128 hi hl
  refine w ?_
  (refine VC.drawn [] 11 [0, 1, 2, 3, 4, 5, 6, 7, 8, 9, 10, 11] _ rfl (by kernel_rfl) (by kernel_rfl) Ent.re ?_)
  refine w ?_
  ((first | apply VO.pure rfl rfl | apply VQ.pure rfl rfl | apply VD.take rfl rfl rfl | (refine VD.end rfl rfl rfl ?_; apply OpV.pure)); exact PureAt.sliceArr (sz := 1) Tryz.underlying220 (by decide) (fun w => by simp) rfl; rfl)
  refine w ?_
  refine VD.re 35 (.slice (some (b.add (i * 128))) 128 128) rfl (by rw [Addr_add_zero]) ?_
  refine VD.re 38 (.int .i64 ((i * 128 : Nat) : Int)) rfl rfl ?_
  refine w ?_
  have hle : i * 128 <= m * 128 := Nat.mul_le_mul_right _ hi
  have hle2 : (i + 1) * 128 <= m * 128 := Nat.mul_le_mul_right _ hlt
  have hsub := (Rds.sub hr hle (Nat.le_refl (m * 128)) hcap).ent (H := Row d 218 [.slice (some b) m lc, .slice co 0 cc, .map (some mb), .bool false] :: Own 220 128 (.slice (some b) m lc) m ((laid l m i).flatMap bytes) ::
   Own 262 129 (.slice co 0 cc) 0 [] :: MapR mb (seenOf []) :: R) (Ent.drop (Ent.drop (Ent.drop (Ent.drop Ent.refl))))
  have hmin : min (m * 128 - i * 128) 128 = 128 := by omega
  have hnews : (((bytes l).drop (i * 128 * 1)).take ((m * 128 - i * 128) * 1)).take 128 = bytes ((l.drop (i * 128)).take 128) := by
   rw [Nat.mul_one, Nat.mul_one, List.take_take, Nat.min_eq_left (by omega), bytes, <- List.map_drop, <- List.map_take]; rfl
  refine zq ?_
  refine OpV.copyPart st_65 rfl rfl zh (by rw [hmin, flat_length (w := 128) _ hl8, hll]; omega) (fun w hw => hsub.sees hw) rfl ?_
  rw [hmin, hnews, flat_set (g := bytes) (w := 128) ((l.drop (i * 128)).take 128) (laid l m i) i (by omega) hl8, laid_set l m i hlt]
  refine w ?_
  exact VE.round (i + 1) hlt (by omega) ⟨rfl, rfl, rfl, rfl, trivial⟩ Ent.re
 ·
  have hge : i = m := by have := of_decide_eq_false hc; omega
  subst hge
  refine w ?_
  refine VE.done d rfl trivial rfl ?_
  have hm0 : laid l i i = chunks l i := by simp [laid]
  rw [hm0]
  have := DiskR.shut (W := W) (R := R) (d := d) (k := ⟨chunks l i, [], false⟩) (x := ((some b, lc), (co, cc), mb)) ⟨chunks_128 hl, fun c hc => absurd hc (by simp), by simp only [chunks_length]; exact h2⟩
  simpa only [DiskO, chunks_length, List.length_nil, List.flatMap_nil] using this
theorem img_len {k : DiskD} (hk : k.ok) : k.last.flatten.length = k.last.length * 128 := by
 have : ∀ l : List (List UInt8), (∀ b ∈ l, b.length = 128) -> l.flatten.length = l.length * 128 := fun l => by
  induction l with
  | nil => intro _; rfl
  | cons a r ih => intro h; rw [List.flatten_cons, List.length_append, ih fun b hb => h b (.tail _ hb), h a (.head _), List.length_cons, Nat.add_mul]; omega
 exact this k.last hk.last
def DiskD.rd (k : DiskD) (a : Int) : List UInt8 × Int := if k.may a = 0 then (k.look a.toNat, 0) else ([], k.may a)
def DiskD.wr (k : DiskD) (a : Int) (b : List UInt8) : Int × DiskD := if k.may a ≠ 0 then (k.may a, k) else if b.length ≠ 128 then (4, k) else (0, k.write a.toNat b)
def DiskD.fl (k : DiskD) : Int × DiskD := if k.failed then (2, k) else (0, k.settle fun _ => true)
def DiskD.fail (k : DiskD) : DiskD := (DiskD.mk k.last k.cache true).settle fun _ => false
def DiskD.img (k : DiskD) : List UInt8 := if k.failed then [] else k.last.flatten
def DiskD.blank (n : Nat) : DiskD := ⟨List.replicate n zeroSec, [], false⟩
abbrev sliceB (x : Option Addr × Nat) (l : List UInt8) : Value := .slice x.1 l.length x.2
theorem DiskD.may_cases (k : DiskD) (a : Int) : k.may a = 0 \/ k.may a = 2 \/ k.may a = 3 := by
 unfold DiskD.may; split
 · exact .inr (.inl rfl)
 ·
  split
  · exact .inr (.inr rfl)
  · exact .inl rfl
theorem drd_ok (d : Nat) (k : DiskD) (a : Int) :
  Does W Tryz.prog 150 [.pointer (some ⟨d, 0, none⟩), .int .i64 a] (DiskR d k :: R) (β := Option Addr × Nat) (fun x => x.1 = none -> (k.rd a).1.length = 0) (fun x => .tuple #[sliceB x (k.rd a).1, .int .u16 (k.rd a).2]) (fun x => OwnB x (k.rd a).1 :: DiskR d k :: R) := by
 by_cases h : k.may a = 0
 ·
  obtain ⟨hf, h0, h1⟩ := may_zero h
  obtain ⟨n, rfl⟩ := Int.eq_ofNat_of_zero_le h0
  have hn : n < k.last.length := by omega
  have e : k.rd (n : Int) = (k.look n, 0) := by unfold DiskD.rd; rw [if_pos h]; rfl
  rw [e]
  refine DoesK (fun w => DiskR.know) fun hk => ?_
  have hl := DiskD.look_128 hk hn
  refine Does.mono (dread_ok d k n hf hn) (fun x => (some x.1, x.2)) (fun _ _ h => by cases h) (fun x _ => by simp only [sliceB, hl]) fun x _ => ?_
  simp only [OwnB, hl]; exact Ent.refl
 ·
  have e : k.rd a = ([], k.may a) := by unfold DiskD.rd; rw [if_neg h]
  rw [e]
  exact Does1M (dread_bad d k a h) (none, 0) (fun _ => rfl) rfl fun w hw => hw.ownNil 5 1
theorem dwr_ok {ao : Option Addr} {cap : Nat} {b : List UInt8} (d : Nat) (k : DiskD) (a : Int) (hc : k.cache.length <= 1000000000) (hr : Rds W R 1 ao b.length (bytes b)) :
  Does1 W Tryz.prog 159 [.pointer (some ⟨d, 0, none⟩), .int .i64 a, .slice ao b.length cap] (DiskR d k :: R) (.int .u16 (k.wr a b).1) (DiskR d (k.wr a b).2 :: R) := by
 unfold DiskD.wr
 by_cases h : k.may a = 0
 ·
  rw [if_neg (by simpa using h)]
  by_cases hb : b.length = 128
  ·
   rw [if_neg (by simpa using hb)]
   obtain ⟨hf, h0, h1⟩ := may_zero h
   obtain ⟨n, rfl⟩ := Int.eq_ofNat_of_zero_le h0
   rw [hb] at hr ⊢
   exact write_ok d k n (by omega) hf hb hc hr
  · rw [if_pos hb]; exact write_len d k a h hb
 · rw [if_pos h]; exact write_bad d k a h
theorem dfl_ok (d : Nat) (k : DiskD) :
  Does1 W Tryz.prog 192 [.pointer (some ⟨d, 0, none⟩)] (DiskR d k :: R) (.int .u16 k.fl.1) (DiskR d k.fl.2 :: R) := by
 unfold DiskD.fl
 cases h : k.failed
 · exact flush_ok d k h
 · exact flush_bad d k h
theorem dimg_ok (d : Nat) (k : DiskD) :
  Does W Tryz.prog 124 [.pointer (some ⟨d, 0, none⟩)] (DiskR d k :: R) (β := Option Addr × Nat) (fun x => x.1 = none -> k.img.length = 0) (fun x => sliceB x k.img) (fun x => OwnB x k.img :: DiskR d k :: R) := by
 refine DoesA (A := fun _ => True) ?_ (fun x _ w hw => hw.ownNone (.head _))
 unfold DiskD.img
 cases h : k.failed
 ·
  refine DoesK (fun w => DiskR.know) fun hk => ?_
  have hl := img_len hk
  refine Does.mono (image_ok d k h) id (fun _ _ => trivial) (fun x _ => by simp [sliceB, hl]) fun x _ => ?_
  simp only [OwnB, hl, Bool.false_eq_true, if_false, id]; exact Ent.refl
 · exact Does1M (image_bad d k h) (none, 0) trivial rfl fun w hw => hw.ownNil 5 1
structure DevD where
  k : DiskD
  worn : Bool
  left : Int
structure SlotD where
  in_ : Option DevD
  aside : Option DevD
  coming : Option DevD
structure CntD where
  r : Int
  w : Int
  f : Int
structure BayD where
  slots : List SlotD
  dark : Bool
  trip : Int
  n : CntD
structure DevP where
  r : Nat
  d : Nat
  v : DevD
structure SlotP where
  in_ : Option DevP
  aside : Option DevP
  coming : Option DevP
def SlotP.D (s : SlotP) : SlotD := ⟨s.in_.map DevP.v, s.aside.map DevP.v, s.coming.map DevP.v⟩
abbrev devPtr (p : Option DevP) : Value := .pointer (p.map fun x => ⟨x.r, 0, none⟩)
def slotCells (s : SlotP) : List Value := [devPtr s.in_, devPtr s.aside, devPtr s.coming]
theorem slotCells_length (s : SlotP) : (slotCells s).length = 3 := rfl
theorem slotCells_one (l : List SlotP) : ∀ u ∈ l.flatMap slotCells, u.oneCell' = true := by
 intro u hu
 obtain ⟨s, _, h⟩ := List.mem_flatMap.1 hu
 simp only [slotCells, List.mem_cons, List.not_mem_nil, or_false] at h
 rcases h with h | h | h <;> subst h <;> rfl
abbrev devRow (p : DevP) : SProp := Row p.r 128 [.pointer (some ⟨p.d, 0, none⟩), .bool p.v.worn, .int .i64 p.v.left]
def devRes : Option DevP -> SProp
  | none => fact True
  | some p => Sl.star [devRow p, DiskR p.d p.v.k]
def slotRes (s : SlotP) : SProp := Sl.star [devRes s.in_, devRes s.aside, devRes s.coming]
abbrev bayRow (b : Nat) (D : BayD) (a : Addr) (n : Nat) : SProp := Row b 120 [.slice (some a) n n, .bool D.dark, .int .i64 D.trip, .int .i64 D.n.r, .int .i64 D.n.w, .int .i64 D.n.f]
abbrev slotsOwn (a : Addr) (sp : List SlotP) : SProp := Own 124 3 (.slice (some a) sp.length sp.length) sp.length (sp.flatMap slotCells)
abbrev BayO (b : Nat) (D : BayD) (a : Addr) (sp : List SlotP) (R : List SProp) : List SProp := bayRow b D a sp.length :: slotsOwn a sp :: (sp.map slotRes ++ R)
def BayR (b : Nat) (D : BayD) : SProp := ex fun x : Addr × List SlotP => Sl.star (fact (D.slots = x.2.map SlotP.D /\ x.2.length <= 17) :: BayO b D x.1 x.2 [])
theorem BayR.open {W w : World} {b : Nat} {D : BayD} {R : List SProp} (hw : Holds W (BayR b D :: R) w) : ∃ x : { x : Addr × List SlotP // D.slots = x.2.map SlotP.D /\ x.2.length <= 17 }, Holds W (BayO b D x.1.1 x.1.2 R) w := by
 obtain ⟨x, h⟩ := hw.exOpen
 have h := h.join
 refine ⟨⟨x, h.factOpen⟩, ?_⟩
 have h := h.tail
 have e : BayO b D x.1 x.2 [] ++ R = BayO b D x.1 x.2 R := by simp only [BayO, List.cons_append, List.append_assoc, List.nil_append]
 rw [<- e]; exact h
theorem BayR.shut {b : Nat} {D : BayD} {R : List SProp} {a : Addr} {sp : List SlotP} (h1 : D.slots = sp.map SlotP.D) (h2 : sp.length <= 17) : Ent W (BayO b D a sp R) (BayR b D :: R) := fun w hw =>
 Holds.exShut (a, sp) (Holds.nest (L := fact _ :: BayO b D a sp []) (by
  have h : Holds W (fact (D.slots = sp.map SlotP.D /\ sp.length <= 17) :: BayO b D a sp R) w := hw.factShut ⟨h1, h2⟩
  simpa only [BayO, List.cons_append, List.append_assoc, List.nil_append] using h))
theorem BayR.know {W w : World} {b : Nat} {D : BayD} {R : List SProp} (hw : Holds W (BayR b D :: R) w) : D.slots.length <= 17 := by
 obtain ⟨⟨x, h1, h2⟩, _⟩ := BayR.open hw
 rw [h1, List.length_map]; exact h2
theorem slotOut (l1 l2 : List SlotP) (s : SlotP) (R : List SProp) : Ent W ((l1 ++ s :: l2).map slotRes ++ R) (devRes s.in_ :: devRes s.aside :: devRes s.coming :: ((l1 ++ l2).map slotRes ++ R)) := fun w hw => by
 have p : ((l1 ++ s :: l2).map slotRes ++ R).Perm (slotRes s :: ((l1 ++ l2).map slotRes ++ R)) := by
  simp only [List.map_append, List.map_cons, List.append_assoc, List.cons_append]
  exact List.perm_middle
 exact (hw.perm p).join
theorem slotIn (l1 l2 : List SlotP) (s : SlotP) (R : List SProp) : Ent W (devRes s.in_ :: devRes s.aside :: devRes s.coming :: ((l1 ++ l2).map slotRes ++ R)) ((l1 ++ s :: l2).map slotRes ++ R) := fun w hw => by
 have p : (slotRes s :: ((l1 ++ l2).map slotRes ++ R)).Perm ((l1 ++ s :: l2).map slotRes ++ R) := by
  simp only [List.map_append, List.map_cons, List.append_assoc, List.cons_append]
  exact List.perm_middle.symm
 exact (Holds.nest (L := [_, _, _]) hw).perm p
theorem devOut (p : DevP) (R : List SProp) : Ent W (devRes (some p) :: R) (devRow p :: DiskR p.d p.v.k :: R) := fun w hw => Holds.join (L := [_, _]) hw
theorem devIn (p : DevP) (R : List SProp) : Ent W (devRow p :: DiskR p.d p.v.k :: R) (devRes (some p) :: R) := fun w hw => Holds.nest (L := [_, _]) hw
theorem devNone (R : List SProp) : Ent W R (devRes none :: R) := fun w hw => hw.factShut trivial
theorem devDrop (p : Option DevP) (R : List SProp) : Ent W (devRes p :: R) R := fun w hw => hw.tail
def inRange (n : Nat) (k : Int) : Bool := decide (0 <= k /\ k < (n : Int))
def slotAt (a : Addr) (n : Nat) (k : Int) : Option Addr := if inRange n k then some (a.add (k.toNat * 3)) else none
def inP (sp : List SlotP) (k : Int) : Option DevP := if 0 <= k then (sp[k.toNat]?).bind SlotP.in_ else none
def BayD.dev (D : BayD) (k : Int) : Option DevD := if 0 <= k then (D.slots[k.toNat]?).bind SlotD.in_ else none
theorem inP_D {D : BayD} {sp : List SlotP} (h : D.slots = sp.map SlotP.D) (k : Int) : D.dev k = (inP sp k).map DevP.v := by
 unfold BayD.dev inP
 split
 ·
  rw [h, List.getElem?_map]
  cases sp[k.toNat]? with
  | none => rfl
  | some s => rfl
 · rfl
theorem inP_range {sp : List SlotP} {k : Int} (h : inRange sp.length k = false) : inP sp k = none := by
 unfold inRange at h
 have h := of_decide_eq_false h
 unfold inP
 split
 · rw [List.getElem?_eq_none (by omega)]; rfl
 · rfl
theorem bayat_ok {D : BayD} {a : Addr} {n : Nat} (b : Nat) (k : Int) (hn : n <= 17) :
  Does1 W Tryz.prog 127 [.pointer (some ⟨b, 0, none⟩), .int .i64 k] (bayRow b D a n :: R) (.pointer (slotAt a n k)) (bayRow b D a n :: R) := by
 (refine Does.enter Tryz.func127 Tryz.ntmps127 rfl rfl ?_)
 refine w ?_
 refine zg ?_ ?_ <;> intro hb
 ·
  have h : k < 0 := of_decide_eq_true hb
  refine w ?_
  refine VE.done1 rfl ?_ ?_
  · unfold slotAt inRange; rw [if_neg (by simp; omega)]
  · exact Ent.refl
 have h0 : ¬ k < 0 := of_decide_eq_false hb
 refine w ?_
 refine zk ?_ ?_ <;> intro hc
 ·
  have h : (n : Int) <= k := by simpa using hc
  refine w ?_
  refine VE.done1 rfl ?_ ?_
  · unfold slotAt inRange; rw [if_neg (by simp; omega)]
  · exact Ent.refl
 have h1 : ¬ (n : Int) <= k := by simpa using hc
 obtain ⟨i, rfl⟩ := Int.eq_ofNat_of_zero_le (show 0 <= k by omega)
 refine w ?_
 refine VE.done1 rfl ?_ ?_
 · unfold slotAt inRange; rw [if_pos (by simp; omega)]; rfl
 · exact Ent.refl
theorem slots_rds {H : List SProp} {a : Addr} {sp : List SlotP} (m : slotsOwn a sp ∈ H) : Rds W H 3 (some a) sp.length (sp.flatMap slotCells) :=
 Rds.own (slotCells_one _) m (flat_length _ fun _ _ => rfl) (fun h => by cases h)
theorem slots_get (sp : List SlotP) (i j : Nat) (h : i < sp.length) (hj : j < 3) : (sp.flatMap slotCells)[i * 3 + j]? = (slotCells sp[i])[j]? := by
 rw [<- flat_part (g := slotCells) (w := 3) sp i h (fun _ _ => rfl), List.getElem?_take, if_pos hj, List.getElem?_drop]
theorem inP_at {sp : List SlotP} {i : Nat} (h : i < sp.length) : inP sp (i : Int) = sp[i].in_ := by
 unfold inP
 rw [if_pos (by omega), Int.toNat_natCast, List.getElem?_eq_getElem h]; rfl
theorem bayin_ok {D : BayD} {a : Addr} {sp : List SlotP} (b : Nat) (k : Int) (hn : sp.length <= 17) :
  Does1 W Tryz.prog 106 [.pointer (some ⟨b, 0, none⟩), .int .i64 k] (bayRow b D a sp.length :: slotsOwn a sp :: R) (devPtr (inP sp k)) (bayRow b D a sp.length :: slotsOwn a sp :: R) := by
 (refine Does.enter Tryz.func106 Tryz.ntmps106 rfl rfl ?_)
 refine w ?_
 ((refine zq ?_; refine zd rfl rfl (bayat_ok (D := D) (a := a) (n := sp.length) b k hn) ?_); intro _ _)
 refine w ?_
 unfold slotAt
 cases hr : inRange sp.length k
 ·
  refine w ?_
  refine VE.done1 rfl ?_ ?_
  · rw [inP_range hr]; rfl
  · exact Ent.refl
 ·
  obtain ⟨h0, h1⟩ : 0 <= k /\ k < (sp.length : Int) := of_decide_eq_true hr
  obtain ⟨i, rfl⟩ := Int.eq_ofNat_of_zero_le h0
  have hi : i < sp.length := by omega
  refine w ?_
  refine VO.pure rfl rfl (.ldRc tab_ok rfl rfl (slots_rds zm) ((slots_get sp i 0 hi (by decide)).trans rfl)) rfl ?_
  refine w ?_
  refine VE.done1 rfl ?_ ?_
  · rw [inP_at hi]
  · exact Ent.refl
def thereE (n : Nat) (p : Bool) (k : Int) : Int := if inRange n k then (if p then 0 else 51) else 1
theorem baythere_ok {D : BayD} {a : Addr} {sp : List SlotP} (b : Nat) (k : Int) (hn : sp.length <= 17) :
  Does1 W Tryz.prog 109 [.pointer (some ⟨b, 0, none⟩), .int .i64 k] (bayRow b D a sp.length :: slotsOwn a sp :: R) (.tuple #[devPtr (inP sp k), .int .u16 (thereE sp.length (inP sp k).isSome k)]) (bayRow b D a sp.length :: slotsOwn a sp :: R) := by
 (refine Does.enter Tryz.func109 Tryz.ntmps109 rfl rfl ?_)
 refine w ?_
 ((refine zq ?_; refine zd rfl rfl (bayin_ok (D := D) (a := a) (sp := sp) b k hn) ?_); intro _ _)
 refine w ?_
 ((refine zq ?_; refine zd rfl rfl (bayat_ok (D := D) (a := a) (n := sp.length) b k hn) ?_); intro _ _)
 refine w ?_
 unfold slotAt thereE
 cases hr : inRange sp.length k
 ·
  refine w ?_
  refine VE.done1 rfl ?_ ?_
  · rw [inP_range hr]; rfl
  · exact Ent.refl
 ·
  refine w ?_
  cases hp : inP sp k
  ·
   refine w ?_
   refine VE.done1 rfl ?_ ?_
   · rfl
   · exact Ent.refl
  ·
   refine w ?_
   refine VE.done1 rfl ?_ ?_
   · rfl
   · exact Ent.refl
theorem inP_split {sp : List SlotP} {k : Int} {p : DevP} (h : inP sp k = some p) : ∃ (l1 : List SlotP) (s : SlotP) (l2 : List SlotP), sp = l1 ++ s :: l2 /\ k = (l1.length : Int) /\ s.in_ = some p := by
  unfold inP at h
  split at h
  · rename_i h0
    obtain ⟨i, rfl⟩ := Int.eq_ofNat_of_zero_le h0
    rw [Int.toNat_natCast] at h
    cases hg : sp[i]? with
    | none => rw [hg] at h; cases h
    | some s =>
      rw [hg] at h
      obtain ⟨hi, e⟩ := List.getElem?_eq_some_iff.1 hg
      refine ⟨sp.take i, s, sp.drop (i + 1), ?_, by rw [List.length_take, Nat.min_eq_left (by omega)], h⟩
      rw [<- e, <- List.drop_eq_getElem_cons hi, List.take_append_drop]
  · cases h
abbrev BayX (b : Nat) (D : BayD) (a : Addr) (l1 : List SlotP) (s : SlotP) (l2 : List SlotP) (R : List SProp) : List SProp :=
  devRes s.aside :: devRes s.coming :: bayRow b D a (l1 ++ s :: l2).length :: slotsOwn a (l1 ++ s :: l2) :: ((l1 ++ l2).map slotRes ++ R)
theorem bayOut {b : Nat} {D : BayD} {a : Addr} {l1 l2 : List SlotP} {s : SlotP} {R : List SProp} : Ent W (BayO b D a (l1 ++ s :: l2) R) (devRes s.in_ :: BayX b D a l1 s l2 R) := fun w hw => by
 have p1 : (BayO b D a (l1 ++ s :: l2) R).Perm ((l1 ++ s :: l2).map slotRes ++ (bayRow b D a (l1 ++ s :: l2).length :: slotsOwn a (l1 ++ s :: l2) :: R)) := by
  refine List.Perm.trans ?_ List.perm_middle.symm
  exact List.Perm.cons _ List.perm_middle.symm
 have h := slotOut l1 l2 s _ w (hw.perm p1)
 refine h.perm (List.Perm.cons _ (List.Perm.cons _ (List.Perm.cons _ ?_)))
 refine List.Perm.trans List.perm_middle ?_
 exact List.Perm.cons _ List.perm_middle
theorem bayIn {b : Nat} {D : BayD} {a : Addr} {l1 l2 : List SlotP} {s : SlotP} {R : List SProp} : Ent W (devRes s.in_ :: BayX b D a l1 s l2 R) (BayO b D a (l1 ++ s :: l2) R) := fun w hw => by
 have p1 : (BayO b D a (l1 ++ s :: l2) R).Perm ((l1 ++ s :: l2).map slotRes ++ (bayRow b D a (l1 ++ s :: l2).length :: slotsOwn a (l1 ++ s :: l2) :: R)) := by
  refine List.Perm.trans ?_ List.perm_middle.symm
  exact List.Perm.cons _ List.perm_middle.symm
 have p2 : (devRes s.in_ :: devRes s.aside :: devRes s.coming :: ((l1 ++ l2).map slotRes ++ (bayRow b D a (l1 ++ s :: l2).length :: slotsOwn a (l1 ++ s :: l2) :: R))).Perm (devRes s.in_ :: BayX b D a l1 s l2 R) := by
  refine List.Perm.cons _ (List.Perm.cons _ (List.Perm.cons _ ?_))
  refine List.Perm.trans List.perm_middle ?_
  exact List.Perm.cons _ List.perm_middle
 exact (slotIn l1 l2 s _ w (hw.perm p2.symm)).perm p1.symm
theorem bayOutP {b : Nat} {D : BayD} {a : Addr} {l1 l2 : List SlotP} {s : SlotP} {R : List SProp} {p : DevP} (hs : s.in_ = some p) : Ent W (BayO b D a (l1 ++ s :: l2) R) (devRow p :: DiskR p.d p.v.k :: BayX b D a l1 s l2 R) := fun w hw => by
 have h := bayOut w hw
 rw [hs] at h
 exact devOut p _ w h
theorem bayInP {b : Nat} {D D' : BayD} {a : Addr} {l1 l2 : List SlotP} {s : SlotP} {R : List SProp} {p : DevP} (hs : s.in_ = some p) (v : DevD) (h1 : D'.slots = (l1 ++ { s with in_ := some ⟨p.r, p.d, v⟩ } :: l2).map SlotP.D) (h2 : (l1 ++ s :: l2).length <= 17) :
  Ent W (devRow ⟨p.r, p.d, v⟩ :: DiskR p.d v.k :: BayX b D' a l1 s l2 R) (BayR b D' :: R) := fun w hw => by
 have e1 : (l1 ++ { s with in_ := some ⟨p.r, p.d, v⟩ } :: l2).length = (l1 ++ s :: l2).length := by simp
 have e2 : slotsOwn a (l1 ++ { s with in_ := some ⟨p.r, p.d, v⟩ } :: l2) = slotsOwn a (l1 ++ s :: l2) := by
  unfold slotsOwn
  rw [e1]
  congr 1
  simp only [List.flatMap_append, List.flatMap_cons]
  congr 2
  simp [slotCells, devPtr, hs]
 refine BayR.shut (a := a) h1 (by rw [e1]; exact h2) w ?_
 refine bayIn w ?_
 refine devIn ⟨p.r, p.d, v⟩ _ w ?_
 simp only [BayX, e1, e2]
 exact hw
theorem bayInC {b : Nat} {D D' : BayD} {a : Addr} {l1 l2 : List SlotP} {s : SlotP} {R : List SProp} {p : DevP} (P : SProp) (hs : s.in_ = some p) (v : DevD) (h1 : D'.slots = (l1 ++ { s with in_ := some ⟨p.r, p.d, v⟩ } :: l2).map SlotP.D) (h2 : (l1 ++ s :: l2).length <= 17) :
  Ent W (P :: devRow ⟨p.r, p.d, v⟩ :: DiskR p.d v.k :: BayX b D' a l1 s l2 R) (P :: BayR b D' :: R) :=
 Ent.ctx (X := [P]) (L := devRow ⟨p.r, p.d, v⟩ :: DiskR p.d v.k :: devRes s.aside :: devRes s.coming :: bayRow b D' a (l1 ++ s :: l2).length :: slotsOwn a (l1 ++ s :: l2) :: (l1 ++ l2).map slotRes) (L' := [BayR b D']) (bayInP (D := D) hs v h1 h2)
def BayD.setIn (D : BayD) (i : Nat) (v : DevD) : BayD := { D with slots := D.slots.set i { (D.slots[i]?.getD ⟨none, none, none⟩) with in_ := some v } }
theorem setIn_slots {D : BayD} {l1 l2 : List SlotP} {s : SlotP} {p : DevP} (h : D.slots = (l1 ++ s :: l2).map SlotP.D) (v : DevD) : (D.setIn l1.length v).slots = (l1 ++ { s with in_ := some ⟨p.r, p.d, v⟩ } :: l2).map SlotP.D := by
 unfold BayD.setIn
 simp only [h, List.map_append, List.map_cons]
 rw [List.set_append_right _ _ (by simp), List.getElem?_append_right (by simp)]
 simp [SlotP.D]
def BayD.image (D : BayD) (k : Int) : List UInt8 × Int := match D.dev k with
  | some v => (v.k.img, 0)
  | none => ([], thereE D.slots.length false k)
theorem baypending_ok (b : Nat) (D : BayD) (k : Int) (hc : ∀ v, D.dev k = some v -> v.k.cache.length <= 1000000000) :
    Does W Tryz.prog 39 [.pointer (some ⟨b, 0, none⟩), .int .i64 k] (BayR b D :: R) (β := Option Addr × Nat) (fun x => x.1 = none -> ((D.dev k).elim [] fun v => v.k.cache.map (·.1)).length = 0) (fun x => .slice x.1 ((D.dev k).elim [] fun v => v.k.cache.map (·.1)).length x.2)
      (fun x => Own 3 1 (.slice x.1 ((D.dev k).elim [] fun v => v.k.cache.map (·.1)).length x.2) ((D.dev k).elim [] fun v => v.k.cache.map (·.1)).length (ints ((D.dev k).elim [] fun v => v.k.cache.map (·.1))) :: BayR b D :: R) := by
  refine DoesA (A := fun _ => True) ?_ (fun x _ w hw => hw.ownNone (.head _))
  (refine Does.enter Tryz.func39 Tryz.ntmps39 rfl rfl ?_)
  refine VC.obtain (fun w => BayR.open) ?_
  rintro ⟨⟨a, sp⟩, h1, h2⟩
  dsimp only at h1 h2 ⊢
  refine w ?_
  ((refine zq ?_; refine zd rfl rfl (bayin_ok (D := D) (a := a) (sp := sp) b k h2) ?_); intro _ _)
  rw [inP_D h1] at hc ⊢
  cases hp : inP sp k with
  | none =>
    dsimp only [devPtr, Option.map_none]
    refine w ?_
    refine VE.done (none, 0) rfl trivial rfl fun w hw => (BayR.shut h1 h2 w hw).ownNil 3 1
  | some p =>
    obtain ⟨l1, s, l2, rfl, rfl, hs⟩ := inP_split hp
    dsimp only [devPtr, Option.map_some, Option.isNone_some, Bool.not_false]
    refine w ?_
    refine VO.ent (bayOutP hs) ?_
    refine w ?_
    (refine zq ?_; refine zd rfl rfl (pending_ok p.d p.v.k (hc p.v (by rw [hp]; rfl))) ?_)
    intro x _
    refine w ?_
    refine VE.done x rfl trivial (by simp) ?_
    have e : (Option.elim (some p.v) ([] : List Nat) fun v => v.k.cache.map (·.1)).length = p.v.k.cache.length := by simp
    rw [e]
    refine Ent.trans Ent.re (bayInC (D := D) (p := p) _ hs p.v ?_ h2)
    rw [h1]; simp [SlotP.D, hs]
theorem baydark_ok (b : Nat) (D : BayD) :
  Does1 W Tryz.prog 37 [.pointer (some ⟨b, 0, none⟩)] (BayR b D :: R) (.bool D.dark) (BayR b D :: R) := by
 (refine Does.enter Tryz.func37 Tryz.ntmps37 rfl rfl ?_)
 refine VC.obtain (fun w => BayR.open) ?_
 rintro ⟨⟨a, sp⟩, h1, h2⟩
 dsimp only at h1 h2 ⊢
 refine w ?_
 refine VE.done1 rfl ?_ ?_
 · rfl
 · exact BayR.shut h1 h2
abbrev cntV (c : CntD) : Value := .agg #[.int .i64 c.r, .int .i64 c.w, .int .i64 c.f]
theorem baycounts_ok (b : Nat) (D : BayD) :
  Does1 W Tryz.prog 21 [.pointer (some ⟨b, 0, none⟩)] (BayR b D :: R) (cntV D.n) (BayR b D :: R) := by
 (refine Does.enter Tryz.func21 Tryz.ntmps21 rfl rfl ?_)
 refine VC.obtain (fun w => BayR.open) ?_
 rintro ⟨⟨a, sp⟩, h1, h2⟩
 dsimp only at h1 h2 ⊢
 refine w ?_
 refine zq ?_; refine OpV.allocS sb_76 rfl ?_; intro na
 refine w ?_
 refine zq ?_
 refine OpV.stA (vs := [.int .i64 D.n.r, .int .i64 D.n.w, .int .i64 D.n.f]) tab_ok rfl rfl rfl rfl (by simp [Value.oneCell']) zh (by simp) ?_
 refine w ?_
 refine VE.results1 (.inl rfl) () rfl (ResIs.agg (vs := [.int .i64 D.n.r, .int .i64 D.n.w, .int .i64 D.n.f]) tab_ok rfl rfl (.head _) rfl rfl) trivial rfl ?_
 exact Ent.drop (BayR.shut h1 h2)
theorem bayimage_ok (b : Nat) (D : BayD) (k : Int) :
    Does W Tryz.prog 63 [.pointer (some ⟨b, 0, none⟩), .int .i64 k] (BayR b D :: R) (β := Option Addr × Nat) (fun x => x.1 = none -> (D.image k).1.length = 0) (fun x => .tuple #[sliceB x (D.image k).1, .int .u16 (D.image k).2]) (fun x => OwnB x (D.image k).1 :: BayR b D :: R) := by
  refine DoesA (A := fun _ => True) ?_ (fun x _ w hw => hw.ownNone (.head _))
  (refine Does.enter Tryz.func63 Tryz.ntmps63 rfl rfl ?_)
  refine VC.obtain (fun w => BayR.open) ?_
  rintro ⟨⟨a, sp⟩, h1, h2⟩
  dsimp only at h1 h2 ⊢
  refine w ?_
  ((refine zq ?_; refine zd rfl rfl (baythere_ok (D := D) (a := a) (sp := sp) b k h2) ?_); intro _ _)
  unfold BayD.image
  rw [inP_D h1, show D.slots.length = sp.length by rw [h1, List.length_map]]
  cases hp : inP sp k with
  | none =>
    dsimp only [devPtr, Option.map_none, Option.isSome_none]
    refine w ?_
    have he : thereE sp.length false k ≠ 0 := by unfold thereE; split <;> simp
    (refine VC.condTe rfl rfl (by simpa using he) ?_)
    refine w ?_
    refine VE.done (none, 0) rfl trivial rfl fun w hw => (BayR.shut h1 h2 w hw).ownNil 5 1
  | some p =>
    obtain ⟨l1, s, l2, rfl, rfl, hs⟩ := inP_split hp
    dsimp only [devPtr, Option.map_some, Option.isSome_some]
    have he : thereE (l1 ++ s :: l2).length true (l1.length : Int) = 0 := by unfold thereE inRange; rw [if_pos (by simp; omega)]; rfl
    rw [he]
    refine w ?_
    refine VO.ent (bayOutP hs) ?_
    refine w ?_
    (refine zq ?_; refine zd rfl rfl (dimg_ok p.d p.v.k) ?_)
    intro x _
    refine w ?_
    refine VE.done x rfl trivial rfl ?_
    refine Ent.trans Ent.re (bayInC (D := D) (p := p) _ hs p.v ?_ h2)
    rw [h1]; simp [SlotP.D, hs]
def DevD.use (v : DevD) : DevD := if v.worn = false then v else if v.left = 0 then ⟨v.k.fail, false, v.left⟩ else ⟨v.k, v.worn, IntKind.i64.wrap (v.left - 1)⟩
abbrev devCells (d : Nat) (v : DevD) : List Value := [.pointer (some ⟨d, 0, none⟩), .bool v.worn, .int .i64 v.left]
theorem use_ok (r d : Nat) (v : DevD) :
  Does1 W Tryz.prog 195 [.pointer (some ⟨r, 0, none⟩)] (Row r 128 (devCells d v) :: DiskR d v.k :: R) (.tuple #[]) (Row r 128 (devCells d v.use) :: DiskR d v.use.k :: R) := by
 (refine Does.enter Tryz.func195 Tryz.ntmps195 rfl rfl ?_)
 unfold DevD.use
 refine w ?_
 refine zk ?_ ?_ <;> intro hc
 ·
  have hw : v.worn = false := by simpa using hc
  refine w ?_
  (refine VE.done1N rfl ?_ ?_)
  · rfl
  · rw [if_pos hw]; exact Ent.refl
 ·
  have hw : v.worn ≠ false := by simpa using hc
  rw [if_neg hw]
  refine w ?_
  refine zk ?_ ?_ <;> intro hc
  ·
   have h0 : v.left = 0 := by simpa using hc
   refine w ?_
   ((refine zq ?_; refine zd rfl rfl (fail_ok d v.k) ?_); intro _ _)
   refine w ?_
   (refine VE.done1N rfl ?_ ?_)
   · rfl
   · rw [if_pos h0]; exact Ent.re
  ·
   have h0 : ¬ v.left = 0 := by simpa using hc
   refine w ?_
   (refine VE.done1N rfl ?_ ?_)
   · rfl
   · rw [if_neg h0]; exact Ent.re
def BayD.pow (D : BayD) : BayD := if D.trip = 0 then { D with dark := true, trip := -1 } else D
def CntD.inc (c : CntD) : Nat -> CntD
  | 0 => { c with r := IntKind.i64.wrap (c.r + 1) }
  | 1 => { c with w := IntKind.i64.wrap (c.w + 1) }
  | _ => { c with f := IntKind.i64.wrap (c.f + 1) }
def BayD.less (D : BayD) : BayD := { D with trip := if 0 < D.trip then IntKind.i64.wrap (D.trip - 1) else D.trip }
def BayD.step (D : BayD) (j : Nat) : BayD := { D with trip := if 0 < D.trip then IntKind.i64.wrap (D.trip - 1) else D.trip, n := D.n.inc j }
def BayD.refuse (D : BayD) (k : Int) : Int := if inRange D.slots.length k = false then 1 else if D.pow.dark then 50 else thereE D.slots.length (D.dev k).isSome k
def BayD.ahead (D : BayD) (k : Int) (j : Nat) : BayD := if inRange D.slots.length k = false then D else if D.pow.dark then D.pow else D.pow.step j
theorem BayD.pow_slots (D : BayD) : D.pow.slots = D.slots := by unfold BayD.pow; split <;> rfl
theorem BayD.ahead_slots (D : BayD) (k : Int) (j : Nat) : (D.ahead k j).slots = D.slots := by
 unfold BayD.ahead; split
 · rfl
 ·
  split
  · exact D.pow_slots
  · exact D.pow_slots
theorem breads_ok (b : Nat) : Does1 W Tryz.prog 148 [.pointer (some ⟨b, 3, none⟩)] R (.pointer (some ⟨b, 3 + 0, none⟩)) R := by
 (refine Does.enter Tryz.func148 Tryz.ntmps148 rfl rfl ?_)
 refine w ?_
 (first | exact VE.done1 rfl rfl Ent.refl | exact VE.done1N rfl rfl Ent.refl)
theorem writes_ok (b : Nat) : Does1 W Tryz.prog 157 [.pointer (some ⟨b, 3, none⟩)] R (.pointer (some ⟨b, 3 + 1, none⟩)) R := by
 (refine Does.enter Tryz.func157 Tryz.ntmps157 rfl rfl ?_)
 refine w ?_
 (first | exact VE.done1 rfl rfl Ent.refl | exact VE.done1N rfl rfl Ent.refl)
theorem flushes_ok (b : Nat) : Does1 W Tryz.prog 190 [.pointer (some ⟨b, 3, none⟩)] R (.pointer (some ⟨b, 3 + 2, none⟩)) R := by
 (refine Does.enter Tryz.func190 Tryz.ntmps190 rfl rfl ?_)
 refine w ?_
 (first | exact VE.done1 rfl rfl Ent.refl | exact VE.done1N rfl rfl Ent.refl)
def BayD.dv (D : BayD) (k : Int) : DevD := ((D.dev k).getD ⟨⟨[], [], false⟩, false, 0⟩).use
theorem inRange_at {l1 l2 : List SlotP} {s : SlotP} : inRange (l1 ++ s :: l2).length (l1.length : Int) = true := by unfold inRange; simp; omega
theorem operate_ok {gd gc : FuncId} {cp : Array Value} {γ : Type} {A : γ -> Prop} {res : γ -> Value} {G : γ -> List SProp} {kf : DiskD -> DiskD} (b : Nat) (D : BayD) (k : Int) (j : Nat) (hj : j < 3)
    (hcf : ∀ a w, (callFunc gc a).run Tryz.prog w = .ok (.enter gc a) w) (hdf : ∀ a w, (callFunc gd a).run Tryz.prog w = .ok (.enter gd a) w)
    (hcount : ∀ X : List SProp, Does1 W Tryz.prog gc [.pointer (some ⟨b, 3, none⟩)] X (.pointer (some ⟨b, 3 + j, none⟩)) X)
    (hdo : ∀ (r d : Nat), (D.dev k).isSome = true -> D.refuse k = 0 -> ∀ X : List SProp, Does W Tryz.prog gd (.pointer (some ⟨r, 0, none⟩) :: cp.toList) (Row r 128 (devCells d (D.dv k)) :: DiskR d (D.dv k).k :: (X ++ R)) A res (fun x => Row r 128 (devCells d (D.dv k)) :: DiskR d (kf (D.dv k).k) :: (X ++ G x))) :
    Does W Tryz.prog 147 [.pointer (some ⟨b, 0, none⟩), .int .i64 k, .func (.func gc) #[] #[], .func (.func gd) #[] cp] (BayR b D :: R) (β := Option γ)
      (fun x => x.elim (D.refuse k ≠ 0) fun y => D.refuse k = 0 /\ A y) (fun x => x.elim (.int .u16 (D.refuse k)) res)
      (fun x => x.elim (BayR b (D.ahead k j) :: R) fun y => BayR b ((D.ahead k j).setIn k.toNat ⟨kf (D.dv k).k, (D.dv k).worn, (D.dv k).left⟩) :: G y) := by
  (refine Does.enter Tryz.func147 Tryz.ntmps147 rfl rfl ?_)
  refine VC.obtain (fun w => BayR.open) ?_
  rintro ⟨⟨a, sp⟩, h1, h2⟩
  dsimp only at h1 h2 ⊢
  have hl : D.slots.length = sp.length := by rw [h1, List.length_map]
  refine w ?_
  ((refine zq ?_; refine zd rfl rfl (bayat_ok (D := D) (a := a) (n := sp.length) b k h2) ?_); intro _ _)
  unfold slotAt
  cases hin : inRange sp.length k
  · refine w ?_
    have hr : D.refuse k = 1 := by unfold BayD.refuse; rw [hl, if_pos hin]
    refine VE.done none rfl (by rw [Option.elim_none, hr]; decide) (by rw [Option.elim_none, hr]) ?_
    unfold BayD.ahead; rw [Option.elim_none, hl, if_pos hin]; exact BayR.shut h1 h2
  refine w ?_
  (first | refine VO.join (α := Unit) (fun _ => True) (fun _ => bayRow b D.pow a sp.length :: slotsOwn a sp :: (sp.map slotRes ++ R)) (fun _ => [(0, .pointer (some ⟨b, 0, none⟩)), (1, .int .i64 k), (2, .func (.func gc) #[] #[]), (3, .func (.func gd) #[] cp)]) ?_ ?_ | refine VC.joinTB (α := Unit) (fun _ => True) (fun _ => bayRow b D.pow a sp.length :: slotsOwn a sp :: (sp.map slotRes ++ R)) (fun _ => [(0, .pointer (some ⟨b, 0, none⟩)), (1, .int .i64 k), (2, .func (.func gc) #[] #[]), (3, .func (.func gd) #[] cp)]) ?_ ?_ | refine VC.joinB (α := Unit) (fun _ => True) (fun _ => bayRow b D.pow a sp.length :: slotsOwn a sp :: (sp.map slotRes ++ R)) (fun _ => [(0, .pointer (some ⟨b, 0, none⟩)), (1, .int .i64 k), (2, .func (.func gc) #[] #[]), (3, .func (.func gd) #[] cp)]) ?_ ?_ | refine VC.join (α := Unit) (fun _ => True) (fun _ => bayRow b D.pow a sp.length :: slotsOwn a sp :: (sp.map slotRes ++ R)) (fun _ => [(0, .pointer (some ⟨b, 0, none⟩)), (1, .int .i64 k), (2, .func (.func gc) #[] #[]), (3, .func (.func gd) #[] cp)]) ?_ ?_)
  · intro Q2 jn
    refine zk ?_ ?_ <;> intro hc
    · have h0 : D.trip = 0 := by simpa using hc
      refine w ?_
      refine jn.to () trivial ⟨rfl, rfl, rfl, rfl, trivial⟩ ?_
      unfold BayD.pow; rw [if_pos h0]; exact Ent.re
    · have h0 : ¬ D.trip = 0 := by simpa using hc
      refine w ?_
      refine jn.to () trivial ⟨rfl, rfl, rfl, rfl, trivial⟩ ?_
      unfold BayD.pow; rw [if_neg h0]; exact Ent.re
  intro _ _
  refine w ?_
  have h1p : D.pow.slots = sp.map SlotP.D := by rw [D.pow_slots, h1]
  refine zk ?_ ?_ <;> intro hc
  · have hdk : D.pow.dark = true := hc
    refine w ?_
    have hr : D.refuse k = 50 := by unfold BayD.refuse; rw [hl, if_neg (by simp [hin]), if_pos hdk]
    refine VE.done none rfl (by rw [Option.elim_none, hr]; decide) (by rw [Option.elim_none, hr]) ?_
    unfold BayD.ahead; rw [Option.elim_none, hl, if_neg (by simp [hin]), if_pos hdk]; exact BayR.shut h1p h2
  have hdk : ¬ D.pow.dark = true := by simpa using hc
  have hah : D.ahead k j = D.pow.step j := by unfold BayD.ahead; rw [hl, if_neg (by simp [hin]), if_neg hdk]
  rw [hah]
  generalize hP : D.pow = Pw at *
  refine w ?_
  (refine VC.join (α := Unit) (fun _ => True) (fun _ => bayRow b Pw.less a sp.length :: slotsOwn a sp :: (sp.map slotRes ++ R)) (fun _ => [(0, .pointer (some ⟨b, 0, none⟩)), (1, .int .i64 k), (2, .func (.func gc) #[] #[]), (3, .func (.func gd) #[] cp)]) ?_ ?_)
  · intro Q2 jn
    refine zk ?_ ?_ <;> intro hc
    · have h0 : 0 < Pw.trip := of_decide_eq_true hc
      refine w ?_
      refine jn.to () trivial ⟨rfl, rfl, rfl, rfl, trivial⟩ ?_
      unfold BayD.less; rw [if_pos h0]; exact Ent.re
    · have h0 : ¬ 0 < Pw.trip := of_decide_eq_false hc
      refine w ?_
      refine jn.to () trivial ⟨rfl, rfl, rfl, rfl, trivial⟩ ?_
      unfold BayD.less; rw [if_neg h0]; exact Ent.re
  intro _ _
  refine VC.seq rfl ?_
  refine VC.join (α := Unit) (fun _ => True) (fun _ => bayRow b (Pw.step j) a sp.length :: slotsOwn a sp :: (sp.map slotRes ++ R)) (fun _ => [(0, .pointer (some ⟨b, 0, none⟩)), (1, .int .i64 k), (3, .func (.func gd) #[] cp)]) ?_ ?_
  · intro Q2 jn
    rcases (show j = 0 \/ j = 1 \/ j = 2 by omega) with rfl | rfl | rfl
    · refine w ?_
      refine zq ?_
      refine OpV.call rfl rfl hcf (hcount _) Ent.refl rfl ?_
      intro _ _
      refine w ?_
      exact jn.to () trivial ⟨rfl, rfl, rfl, trivial⟩ Ent.re
    · refine w ?_
      refine zq ?_
      refine OpV.call rfl rfl hcf (hcount _) Ent.refl rfl ?_
      intro _ _
      refine w ?_
      exact jn.to () trivial ⟨rfl, rfl, rfl, trivial⟩ Ent.re
    · refine w ?_
      refine zq ?_
      refine OpV.call rfl rfl hcf (hcount _) Ent.refl rfl ?_
      intro _ _
      refine w ?_
      exact jn.to () trivial ⟨rfl, rfl, rfl, trivial⟩ Ent.re
  intro _ _
  refine w ?_
  have h1s : (Pw.step j).slots = sp.map SlotP.D := h1p
  ((refine zq ?_; refine zd rfl rfl (baythere_ok (D := Pw.step j) (a := a) (sp := sp) b k h2) ?_); intro _ _)
  have hrf : D.refuse k = thereE sp.length (inP sp k).isSome k := by unfold BayD.refuse; rw [hl, if_neg (by simp [hin]), hP, if_neg hdk, inP_D h1, Option.isSome_map]
  have hdv : D.dv k = (((inP sp k).map DevP.v).getD ⟨⟨[], [], false⟩, false, 0⟩).use := by unfold BayD.dv; rw [inP_D h1]
  rw [inP_D h1, hdv] at hdo
  rw [hdv]
  rw [hrf] at hdo ⊢
  cases hp : inP sp k with
  | none =>
    dsimp only [devPtr, Option.map_none, Option.isSome_none]
    have he : thereE sp.length false k ≠ 0 := by unfold thereE; split <;> simp
    refine w ?_
    (refine VC.condTe rfl rfl (by simpa using he) ?_)
    refine w ?_
    refine VE.done none rfl (by simpa using he) rfl ?_
    exact BayR.shut h1s h2
  | some p =>
    obtain ⟨l1, s, l2, rfl, rfl, hs⟩ := inP_split hp
    dsimp only [devPtr, Option.map_some, Option.isSome_some, Option.getD_some]
    have he : thereE (l1 ++ s :: l2).length true (l1.length : Int) = 0 := by unfold thereE; rw [inRange_at]; rfl
    rw [hp] at hdo
    dsimp only [Option.map_some, Option.isSome_some, Option.getD_some] at hdo
    rw [he] at hdo ⊢
    refine w ?_
    refine VO.ent (bayOutP hs) ?_
    refine w ?_
    ((refine zq ?_; refine zd rfl rfl (use_ok p.r p.d p.v) ?_); intro _ _)
    refine w ?_
    refine zq ?_
    refine OpV.call rfl rfl hdf (hdo p.r p.d rfl rfl (devRes s.aside :: devRes s.coming :: bayRow b (Pw.step j) a (l1 ++ s :: l2).length :: slotsOwn a (l1 ++ s :: l2) :: (l1 ++ l2).map slotRes)) ?_ rfl ?_
    · exact Ent.refl
    intro y hy
    refine w ?_
    refine VE.done (some y) rfl ⟨rfl, hy⟩ rfl ?_
    exact bayInP (b := b) (a := a) (R := G y) (D := Pw.step j) (D' := (Pw.step j).setIn l1.length ⟨kf p.v.use.k, p.v.use.worn, p.v.use.left⟩) (p := p) hs ⟨kf p.v.use.k, p.v.use.worn, p.v.use.left⟩ (setIn_slots (p := p) (D := Pw.step j) h1s _) h2
theorem push1 {A B C : SProp} (X R : List SProp) : Ent W (C :: A :: B :: (X ++ R)) (A :: B :: (X ++ (C :: R))) := fun w hw => hw.perm (by
 refine List.Perm.symm (List.Perm.trans (List.Perm.cons _ (List.Perm.cons _ List.perm_middle)) ?_)
 exact List.Perm.trans (List.Perm.cons _ (List.Perm.swap _ _ _)) (List.Perm.swap _ _ _))
theorem push3 {A B C D E : SProp} (X R : List SProp) : Ent W (C :: D :: E :: A :: B :: (X ++ R)) (A :: B :: (X ++ (C :: D :: E :: R))) := fun w hw => by
 have h1 := push1 (W := W) (A := A) (B := B) (C := E) X R
 have h2 := push1 (W := W) (A := A) (B := B) (C := D) X (E :: R)
 have h3 := push1 (W := W) (A := A) (B := B) (C := C) X (D :: E :: R)
 have k1 := Ent.ctx (X := [C, D]) (L := E :: A :: B :: X) (L' := A :: B :: (X ++ [E])) (R := R) (by
  have := push1 (W := W) (A := A) (B := B) (C := E) X ([C, D] ++ R)
  simpa using this)
 have k2 := Ent.ctx (X := [C]) (L := D :: A :: B :: X) (L' := A :: B :: (X ++ [D])) (R := E :: R) (by
  have := push1 (W := W) (A := A) (B := B) (C := D) X ([C] ++ (E :: R))
  simpa using this)
 exact h3 w (by simpa using k2 w (by simpa using k1 w hw))
theorem pull2 {A B C D : SProp} (X R : List SProp) : Ent W (A :: B :: (X ++ (C :: D :: R))) (C :: D :: A :: B :: (X ++ R)) := fun w hw => hw.perm (by
 have p1 : (X ++ (C :: D :: R)).Perm (C :: D :: (X ++ R)) := List.Perm.trans List.perm_middle (List.Perm.cons _ List.perm_middle)
 refine List.Perm.trans (List.Perm.cons _ (List.Perm.cons _ p1)) ?_
 exact List.Perm.append_right (X ++ R) (show [A, B, C, D].Perm [C, D, A, B] from List.perm_append_comm (l₁ := [A, B]) (l₂ := [C, D])))
theorem push2 {A B C D : SProp} (X R : List SProp) : Ent W (C :: D :: A :: B :: (X ++ R)) (A :: B :: (X ++ (C :: D :: R))) := fun w hw => hw.perm (by
 have p1 : (X ++ (C :: D :: R)).Perm (C :: D :: (X ++ R)) := List.Perm.trans List.perm_middle (List.Perm.cons _ List.perm_middle)
 refine List.Perm.symm (List.Perm.trans (List.Perm.cons _ (List.Perm.cons _ p1)) ?_)
 exact List.Perm.append_right (X ++ R) (show [A, B, C, D].Perm [C, D, A, B] from List.perm_append_comm (l₁ := [A, B]) (l₂ := [C, D])))
theorem readf_ok (r d ba bd : Nat) (v : DevD) (k : DiskD) (a : Int) (X : List SProp) :
  Does W Tryz.prog 149 [.pointer (some ⟨r, 0, none⟩), .pointer (some ⟨ba, 0, none⟩), .pointer (some ⟨bd, 0, none⟩)] (Row r 128 (devCells d v) :: DiskR d k :: (X ++ (Row ba 3 [.int .i64 a] :: Row bd 65 [.slice none 0 0] :: R)))
   (β := Option Addr × Nat) (fun x => x.1 = none -> (k.rd a).1.length = 0) (fun _ => .int .u16 (k.rd a).2)
   (fun x => Row r 128 (devCells d v) :: DiskR d k :: (X ++ (Row ba 3 [.int .i64 a] :: Row bd 65 [sliceB x (k.rd a).1] :: OwnB x (k.rd a).1 :: R))) := by
 (refine Does.enter Tryz.func149 Tryz.ntmps149 rfl rfl ?_)
 refine VC.ent (pull2 X R) ?_
 refine w ?_
 (refine VC.drawn [5, 9] 10 [0, 1, 2, 3, 4, 5, 6, 7, 8, 9, 10] (DiskR d k :: Row ba 3 [.int .i64 a] :: Row r 128 (devCells d v) :: (X ++ R)) rfl (by kernel_rfl) (by kernel_rfl) Ent.re ?_)
 refine w ?_
 (refine zq ?_; refine zd rfl rfl (drd_ok d k a) ?_)
 intro x hx
 refine w ?_
 exact VE.done x rfl hx rfl (Ent.trans Ent.re (push3 X R))
def BayD.read (D : BayD) (k a : Int) : (List UInt8 × Int) × BayD :=
  if D.refuse k = 0 then ((D.dv k).k.rd a, (D.ahead k 0).setIn k.toNat (D.dv k)) else (([], D.refuse k), D.ahead k 0)
def BayD.write (D : BayD) (k a : Int) (b : List UInt8) : Int × BayD :=
  if D.refuse k = 0 then (((D.dv k).k.wr a b).1, (D.ahead k 1).setIn k.toNat ⟨((D.dv k).k.wr a b).2, (D.dv k).worn, (D.dv k).left⟩) else (D.refuse k, D.ahead k 1)
def BayD.flush (D : BayD) (k : Int) : Int × BayD :=
  if D.refuse k = 0 then ((D.dv k).k.fl.1, (D.ahead k 2).setIn k.toNat ⟨(D.dv k).k.fl.2, (D.dv k).worn, (D.dv k).left⟩) else (D.refuse k, D.ahead k 2)
theorem bayread_ok (b : Nat) (D : BayD) (k a : Int) :
    Does W Tryz.prog 94 [.pointer (some ⟨b, 0, none⟩), .int .i64 k, .int .i64 a] (BayR b D :: R) (β := Option Addr × Nat) (fun x => x.1 = none -> (D.read k a).1.1.length = 0) (fun x => .tuple #[sliceB x (D.read k a).1.1, .int .u16 (D.read k a).1.2]) (fun x => OwnB x (D.read k a).1.1 :: BayR b (D.read k a).2 :: R) := by
  (refine Does.enter Tryz.func94 Tryz.ntmps94 rfl rfl ?_)
  refine w ?_; repeat (refine zj fun _ => ?_; refine w ?_)
  rename_i ba
  refine zq ?_
  refine OpV.alloc ze_65 rfl rfl ?_
  intro bd
  refine w ?_; repeat (refine zj fun _ => ?_; refine w ?_)
  refine VO.pure rfl rfl (PureAt.makeFuncN rfl) rfl ?_
  refine w ?_; repeat (refine zj fun _ => ?_; refine w ?_)
  refine VO.ent (Reord.ent (L := BayR b D :: Row ba 3 [.int .i64 a] :: Row bd 65 [.slice none 0 0] :: R) (by (repeat first | exact .refl | (apply Reord.cons; focus repeat first | exact .head | apply Del.tail) | exact .nil | apply Reord.drop))) ?_
  refine zq ?_
  refine zy rfl rfl (operate_ok (gd := 149) (gc := 148) (cp := #[.pointer (some ⟨ba, 0, none⟩), .pointer (some ⟨bd, 0, none⟩)]) (kf := id) (R := Row ba 3 [.int .i64 a] :: Row bd 65 [.slice none 0 0] :: R) b D k 0 (by decide) (fun _ _ => by simp) (fun _ _ => by simp) (fun X => breads_ok b) (fun r d hv hr X => readf_ok r d ba bd (D.dv k) (D.dv k).k a X)) ?_
  intro y hy
  unfold BayD.read
  cases y with
  | none =>
    have hr : D.refuse k ≠ 0 := hy
    dsimp only [Option.elim_none]
    rw [if_neg hr]
    refine w ?_; repeat (refine zj fun _ => ?_; refine w ?_)
    refine VE.results2 (.inl rfl) (none, 0) rfl (ResIs.leaf tab_ok rfl rfl zm rfl) (.tmp rfl) (fun _ => rfl) rfl ?_
    exact Ent.trans (Ent.re (L := BayR b (D.ahead k 0) :: R)) fun w hw => hw.ownNil 5 1
  | some x =>
    obtain ⟨hr, hx⟩ : D.refuse k = 0 /\ (x.1 = none -> ((D.dv k).k.rd a).1.length = 0) := hy
    dsimp only [Option.elim_some]
    rw [if_pos hr]
    refine w ?_; repeat (refine zj fun _ => ?_; refine w ?_)
    exact VE.results2 (.inl rfl) x rfl (ResIs.leaf tab_ok rfl rfl zm rfl) (.tmp rfl) hx rfl Ent.re
theorem writef_ok {ao : Option Addr} {cap : Nat} {l : List UInt8} (r d ba bd : Nat) (v : DevD) (k : DiskD) (a : Int) (hc : k.cache.length <= 1000000000) (hl : RdsA W 1 ao l.length (bytes l) \/ Rds W R 1 ao l.length (bytes l)) (X : List SProp) :
  Does W Tryz.prog 158 [.pointer (some ⟨r, 0, none⟩), .pointer (some ⟨ba, 0, none⟩), .pointer (some ⟨bd, 0, none⟩)] (Row r 128 (devCells d v) :: DiskR d k :: (X ++ (Row ba 3 [.int .i64 a] :: Row bd 65 [.slice ao l.length cap] :: R)))
   (β := Unit) (fun _ => True) (fun _ => .int .u16 (k.wr a l).1)
   (fun _ => Row r 128 (devCells d v) :: DiskR d (k.wr a l).2 :: (X ++ (Row ba 3 [.int .i64 a] :: Row bd 65 [.slice ao l.length cap] :: R))) := by
 (refine Does.enter Tryz.func158 Tryz.ntmps158 rfl rfl ?_)
 refine VC.ent (pull2 X R) ?_
 refine w ?_
 (refine VC.drawn [] 6 [0, 1, 2, 3, 4, 5, 6, 7] _ rfl (by kernel_rfl) (by kernel_rfl) Ent.re ?_)
 refine w ?_
 have hr : Rds W (Row ba 3 [.int .i64 a] :: Row bd 65 [.slice ao l.length cap] :: Row r 128 (devCells d v) :: (X ++ R)) 1 ao l.length (bytes l) := by
  rcases hl with h | h
  · exact h _
  · exact h.ent (fun w hw => Ent.dropAll (_ :: _ :: _ :: X) w hw)
 refine VD.ent (Reord.ent (L := DiskR d k :: Row ba 3 [.int .i64 a] :: Row bd 65 [.slice ao l.length cap] :: Row r 128 (devCells d v) :: (X ++ R)) (by (repeat first | exact .refl | (apply Reord.cons; focus repeat first | exact .head | apply Del.tail) | exact .nil | apply Reord.drop))) ?_
 (refine zq ?_; refine zy rfl rfl (dwr_ok (b := l) d k a hc hr) ?_)
 intro _ _
 refine w ?_
 exact VE.done () rfl trivial rfl (Ent.trans Ent.re (push2 X R))
theorem baywrite_ok {ao : Option Addr} {cap : Nat} {l : List UInt8} (b : Nat) (D : BayD) (k a : Int) (hc : (D.dv k).k.cache.length <= 1000000000) (hl : RdsA W 1 ao l.length (bytes l) \/ Rds W R 1 ao l.length (bytes l)) :
    Does1 W Tryz.prog 100 [.pointer (some ⟨b, 0, none⟩), .int .i64 k, .int .i64 a, .slice ao l.length cap] (BayR b D :: R) (.int .u16 (D.write k a l).1) (BayR b (D.write k a l).2 :: R) := by
  (refine Does.enter Tryz.func100 Tryz.ntmps100 rfl rfl ?_)
  refine w ?_; repeat (refine zj fun _ => ?_; refine w ?_)
  rename_i ba bd
  refine VO.pure rfl rfl (PureAt.makeFuncN rfl) rfl ?_
  refine w ?_; repeat (refine zj fun _ => ?_; refine w ?_)
  refine VO.ent (Reord.ent (L := BayR b D :: Row ba 3 [.int .i64 a] :: Row bd 65 [.slice ao l.length cap] :: R) (by (repeat first | exact .refl | (apply Reord.cons; focus repeat first | exact .head | apply Del.tail) | exact .nil | apply Reord.drop))) ?_
  refine zq ?_
  refine zy rfl rfl (operate_ok (gd := 158) (gc := 157) (cp := #[.pointer (some ⟨ba, 0, none⟩), .pointer (some ⟨bd, 0, none⟩)]) (kf := fun k => (k.wr a l).2) (R := Row ba 3 [.int .i64 a] :: Row bd 65 [.slice ao l.length cap] :: R) b D k 1 (by decide) (fun _ _ => by simp) (fun _ _ => by simp) (fun X => writes_ok b) (fun r d hv hr X => writef_ok r d ba bd (D.dv k) (D.dv k).k a hc hl X)) ?_
  intro y hy
  unfold BayD.write
  cases y with
  | none =>
    have hr : D.refuse k ≠ 0 := hy
    dsimp only [Option.elim_none]
    rw [if_neg hr]
    refine w ?_; repeat (refine zj fun _ => ?_; refine w ?_)
    refine VE.done1 rfl ?_ ?_
    · rfl
    · exact Ent.re
  | some x =>
    obtain ⟨hr, hx⟩ : D.refuse k = 0 /\ True := hy
    dsimp only [Option.elim_some]
    rw [if_pos hr]
    refine w ?_; repeat (refine zj fun _ => ?_; refine w ?_)
    refine VE.done1 rfl ?_ ?_
    · rfl
    · exact Ent.re
theorem flushf2_ok (r d : Nat) (v : DevD) (k : DiskD) (X : List SProp) :
  Does W Tryz.prog 191 [.pointer (some ⟨r, 0, none⟩)] (Row r 128 (devCells d v) :: DiskR d k :: (X ++ R))
   (β := Unit) (fun _ => True) (fun _ => .int .u16 k.fl.1) (fun _ => Row r 128 (devCells d v) :: DiskR d k.fl.2 :: (X ++ R)) := by
 (refine Does.enter Tryz.func191 Tryz.ntmps191 rfl rfl ?_)
 refine w ?_
 ((refine zq ?_; refine zd rfl rfl (dfl_ok d k) ?_); intro _ _)
 refine w ?_
 exact VE.done () rfl trivial rfl Ent.re
theorem bayflush_ok (b : Nat) (D : BayD) (k : Int) :
    Does1 W Tryz.prog 144 [.pointer (some ⟨b, 0, none⟩), .int .i64 k] (BayR b D :: R) (.int .u16 (D.flush k).1) (BayR b (D.flush k).2 :: R) := by
  (refine Does.enter Tryz.func144 Tryz.ntmps144 rfl rfl ?_)
  refine w ?_
  refine zq ?_
  refine zy rfl rfl (operate_ok (gd := 191) (gc := 190) (cp := #[]) (kf := fun k => k.fl.2) (R := R) b D k 2 (by decide) (fun _ _ => by simp) (fun _ _ => by simp) (fun X => flushes_ok b) (fun r d hv hr X => flushf2_ok r d (D.dv k) (D.dv k).k X)) ?_
  intro y hy
  unfold BayD.flush
  cases y with
  | none =>
    have hr : D.refuse k ≠ 0 := hy
    dsimp only [Option.elim_none]
    rw [if_neg hr]
    refine w ?_
    refine VE.done1 rfl ?_ ?_
    · rfl
    · exact Ent.re
  | some x =>
    obtain ⟨hr, hx⟩ : D.refuse k = 0 /\ True := hy
    dsimp only [Option.elim_some]
    rw [if_pos hr]
    refine w ?_
    refine VE.done1 rfl ?_ ?_
    · rfl
    · exact Ent.re
def BayD.tE (D : BayD) (k : Int) : Int := thereE D.slots.length (D.dev k).isSome k
def BayD.fail (D : BayD) (k : Int) : Int × BayD := match D.dev k with
  | some v => (0, D.setIn k.toNat ⟨v.k.fail, v.worn, v.left⟩)
  | none => (D.tE k, D)
def BayD.wear (D : BayD) (k n : Int) : Int × BayD := if n < 0 then (1, D) else match D.dev k with
  | some v => (0, D.setIn k.toNat ⟨v.k, true, n⟩)
  | none => (D.tE k, D)
def BayD.trips (D : BayD) (n : Int) : Int × BayD := if n < 0 then (1, D) else if D.dark then (50, D) else (0, { D with trip := n })
theorem bayfail_ok (b : Nat) (D : BayD) (k : Int) :
    Does1 W Tryz.prog 45 [.pointer (some ⟨b, 0, none⟩), .int .i64 k] (BayR b D :: R) (.int .u16 (D.fail k).1) (BayR b (D.fail k).2 :: R) := by
  (refine Does.enter Tryz.func45 Tryz.ntmps45 rfl rfl ?_)
  refine VC.obtain (fun w => BayR.open) ?_
  rintro ⟨⟨a, sp⟩, h1, h2⟩
  dsimp only at h1 h2 ⊢
  refine w ?_
  ((refine zq ?_; refine zd rfl rfl (baythere_ok (D := D) (a := a) (sp := sp) b k h2) ?_); intro _ _)
  unfold BayD.fail BayD.tE
  rw [inP_D h1, show D.slots.length = sp.length by rw [h1, List.length_map]]
  cases hp : inP sp k with
  | none =>
    dsimp only [devPtr, Option.map_none, Option.isSome_none]
    refine w ?_
    have he : thereE sp.length false k ≠ 0 := by unfold thereE; split <;> simp
    (refine VC.condFe rfl rfl (by simpa using he) ?_)
    refine w ?_
    refine VE.done1 rfl ?_ ?_
    · rfl
    · exact BayR.shut h1 h2
  | some p =>
    obtain ⟨l1, s, l2, rfl, rfl, hs⟩ := inP_split hp
    dsimp only [devPtr, Option.map_some, Option.isSome_some]
    have he : thereE (l1 ++ s :: l2).length true (l1.length : Int) = 0 := by unfold thereE; rw [inRange_at]; rfl
    rw [he]
    refine w ?_
    refine VO.ent (bayOutP hs) ?_
    refine w ?_
    ((refine zq ?_; refine zd rfl rfl (fail_ok p.d p.v.k) ?_); intro _ _)
    refine w ?_
    refine VE.done1 rfl ?_ ?_
    · rfl
    · refine Ent.trans Ent.re (bayInP (D := D) (D' := D.setIn l1.length ⟨p.v.k.fail, p.v.worn, p.v.left⟩) (p := p) hs ⟨p.v.k.fail, p.v.worn, p.v.left⟩ (setIn_slots (p := p) h1 _) h2)
theorem baywear_ok (b : Nat) (D : BayD) (k n : Int) :
    Does1 W Tryz.prog 47 [.pointer (some ⟨b, 0, none⟩), .int .i64 k, .int .i64 n] (BayR b D :: R) (.int .u16 (D.wear k n).1) (BayR b (D.wear k n).2 :: R) := by
  (refine Does.enter Tryz.func47 Tryz.ntmps47 rfl rfl ?_)
  refine VC.obtain (fun w => BayR.open) ?_
  rintro ⟨⟨a, sp⟩, h1, h2⟩
  dsimp only at h1 h2 ⊢
  refine w ?_
  unfold BayD.wear BayD.tE
  refine zk ?_ ?_ <;> intro hc
  · have h : n < 0 := of_decide_eq_true hc
    rw [if_pos h]
    refine w ?_
    refine VE.done1 rfl ?_ ?_
    · rfl
    · exact BayR.shut h1 h2
  have h : ¬ n < 0 := of_decide_eq_false hc
  rw [if_neg h]
  refine w ?_
  ((refine zq ?_; refine zd rfl rfl (baythere_ok (D := D) (a := a) (sp := sp) b k h2) ?_); intro _ _)
  rw [inP_D h1, show D.slots.length = sp.length by rw [h1, List.length_map]]
  cases hp : inP sp k with
  | none =>
    dsimp only [devPtr, Option.map_none, Option.isSome_none]
    refine w ?_
    have he : thereE sp.length false k ≠ 0 := by unfold thereE; split <;> simp
    (refine VC.condFe rfl rfl (by simpa using he) ?_)
    refine w ?_
    refine VE.done1 rfl ?_ ?_
    · rfl
    · exact BayR.shut h1 h2
  | some p =>
    obtain ⟨l1, s, l2, rfl, rfl, hs⟩ := inP_split hp
    dsimp only [devPtr, Option.map_some, Option.isSome_some]
    have he : thereE (l1 ++ s :: l2).length true (l1.length : Int) = 0 := by unfold thereE; rw [inRange_at]; rfl
    rw [he]
    refine VO.ent (bayOutP hs) ?_
    refine w ?_
    refine VE.done1 rfl ?_ ?_
    · rfl
    · exact Ent.trans Ent.re (bayInP (D := D) (D' := D.setIn l1.length ⟨p.v.k, true, n⟩) (p := p) hs ⟨p.v.k, true, n⟩ (setIn_slots (p := p) h1 _) h2)
theorem baytrip_ok (b : Nat) (D : BayD) (n : Int) :
  Does1 W Tryz.prog 43 [.pointer (some ⟨b, 0, none⟩), .int .i64 n] (BayR b D :: R) (.int .u16 (D.trips n).1) (BayR b (D.trips n).2 :: R) := by
 (refine Does.enter Tryz.func43 Tryz.ntmps43 rfl rfl ?_)
 refine VC.obtain (fun w => BayR.open) ?_
 rintro ⟨⟨a, sp⟩, h1, h2⟩
 dsimp only at h1 h2 ⊢
 refine w ?_
 unfold BayD.trips
 refine zk ?_ ?_ <;> intro hc
 ·
  have h : n < 0 := of_decide_eq_true hc
  rw [if_pos h]
  refine w ?_
  refine VE.done1 rfl ?_ ?_
  · rfl
  · exact BayR.shut h1 h2
 have h : ¬ n < 0 := of_decide_eq_false hc
 rw [if_neg h]
 refine w ?_
 refine zk ?_ ?_ <;> intro hc
 ·
  rw [if_pos hc]
  refine w ?_
  refine VE.done1 rfl ?_ ?_
  · rfl
  · exact BayR.shut h1 h2
 ·
  rw [if_neg (by rw [show D.dark = false from hc]; simp)]
  refine w ?_
  refine VE.done1 rfl ?_ ?_
  · rfl
  · exact BayR.shut (D := { D with trip := n }) h1 h2
theorem slots_set1 {l1 l2 : List SlotP} {s : SlotP} (j : Nat) (hj : j < 3) (v : Value) : ((l1 ++ s :: l2).flatMap slotCells).set (l1.length * 3 + j) v = l1.flatMap slotCells ++ ((slotCells s).set j v ++ l2.flatMap slotCells) := by
 have e : (l1.flatMap slotCells).length = l1.length * 3 := flat_length l1 fun _ _ => rfl
 rw [List.flatMap_append, List.flatMap_cons, List.set_append_right _ _ (by rw [e]; omega), e, show l1.length * 3 + j - l1.length * 3 = j by omega, List.set_append_left _ _ (by rw [slotCells_length]; exact hj)]
theorem slots_in {l1 l2 : List SlotP} {s : SlotP} (x : Option DevP) : ((l1 ++ s :: l2).flatMap slotCells).set (l1.length * 3 + 0) (devPtr x) = (l1 ++ { s with in_ := x } :: l2).flatMap slotCells := by
 rw [slots_set1 0 (by decide), List.flatMap_append, List.flatMap_cons]; rfl
theorem slots_coming {l1 l2 : List SlotP} {s : SlotP} (x : Option DevP) : ((l1 ++ s :: l2).flatMap slotCells).set (l1.length * 3 + 2) (devPtr x) = (l1 ++ { s with coming := x } :: l2).flatMap slotCells := by
 rw [slots_set1 2 (by decide), List.flatMap_append, List.flatMap_cons]; rfl
theorem slots_len {l1 l2 : List SlotP} {s : SlotP} (j : Nat) (hj : j < 3) : l1.length * 3 + j < ((l1 ++ s :: l2).flatMap slotCells).length := by
 rw [flat_length (g := slotCells) (w := 3) _ fun _ _ => rfl]; simp; omega
def BayD.setSlot (D : BayD) (i : Nat) (s : SlotD) : BayD := { D with slots := D.slots.set i s }
theorem setSlot_slots {D : BayD} {l1 l2 : List SlotP} {s : SlotP} (h : D.slots = (l1 ++ s :: l2).map SlotP.D) (s' : SlotP) : (D.setSlot l1.length s'.D).slots = (l1 ++ s' :: l2).map SlotP.D := by
 unfold BayD.setSlot
 simp only [h, List.map_append, List.map_cons]
 rw [List.set_append_right _ _ (by simp)]
 simp
theorem bayInS {b n : Nat} {D' : BayD} {a : Addr} {l1 l2 : List SlotP} {R : List SProp} (s' : SlotP) (hn : (l1 ++ s' :: l2).length = n) (h1 : D'.slots = (l1 ++ s' :: l2).map SlotP.D) (h2 : n <= 17) :
  Ent W (devRes s'.in_ :: devRes s'.aside :: devRes s'.coming :: bayRow b D' a n :: Own 124 3 (.slice (some a) n n) n ((l1 ++ s' :: l2).flatMap slotCells) :: ((l1 ++ l2).map slotRes ++ R)) (BayR b D' :: R) := fun w hw => by
 subst hn
 exact BayR.shut h1 h2 w (bayIn w hw)
def BayD.slot (D : BayD) (k : Int) : SlotD := (D.slots[k.toNat]?).getD ⟨none, none, none⟩
theorem slot_at {D : BayD} {l1 l2 : List SlotP} {s : SlotP} (h : D.slots = (l1 ++ s :: l2).map SlotP.D) : D.slot (l1.length : Int) = s.D := by
 unfold BayD.slot
 rw [h, Int.toNat_natCast]; simp
theorem nilBools : Rds W R 1 none 0 (bools []) := by
 refine ⟨rfl, fun _ h => ?_, fun _ => rfl, fun _ _ _ h => ?_⟩
 · cases h
 · cases h
def SlotD.taken (s : SlotD) : Bool := (s.in_.any fun v => !v.k.failed) || s.coming.isSome
theorem taken_ok {a : Addr} {l1 l2 : List SlotP} {s : SlotP} :
    Does1 W Tryz.prog 128 [.pointer (some (a.add (l1.length * 3)))] (devRes s.in_ :: slotsOwn a (l1 ++ s :: l2) :: R) (.bool s.D.taken) (devRes s.in_ :: slotsOwn a (l1 ++ s :: l2) :: R) := by
  have c0 := slots_get (l1 ++ s :: l2) l1.length 0 (by simp) (by decide)
  have c2 := slots_get (l1 ++ s :: l2) l1.length 2 (by simp) (by decide)
  simp only [List.getElem_append_right (Nat.le_refl _), Nat.sub_self, List.getElem_cons_zero] at c0 c2
  (refine Does.enter Tryz.func128 Tryz.ntmps128 rfl rfl ?_)
  refine w ?_
  refine VO.pure rfl rfl (.ldRc tab_ok rfl rfl (slots_rds zm) (c0.trans rfl)) rfl ?_
  unfold SlotD.taken
  rw [show s.D.in_ = s.in_.map DevP.v from rfl, show s.D.coming = s.coming.map DevP.v from rfl]
  cases hs : s.in_ with
  | none =>
    dsimp only [devPtr, Option.map_none]
    refine w ?_
    refine VO.pure rfl rfl (.ldRc tab_ok rfl rfl (slots_rds zm) (c2.trans rfl)) rfl ?_
    cases hs2 : s.coming with
    | none =>
      dsimp only [devPtr, Option.map_none]
      refine w ?_
      (first | exact VE.done1 rfl rfl Ent.refl | exact VE.done1N rfl rfl Ent.refl)
    | some q =>
      dsimp only [devPtr, Option.map_some]
      refine w ?_
      (first | exact VE.done1 rfl rfl Ent.refl | exact VE.done1N rfl rfl Ent.refl)
  | some p =>
    dsimp only [devPtr, Option.map_some]
    refine VO.ent (devOut p _) ?_
    refine w ?_
    refine VO.pure rfl rfl (.ldRc tab_ok rfl rfl (slots_rds zm) (c0.trans (by simp [slotCells, devPtr, hs]; rfl))) rfl ?_
    refine w ?_
    ((refine zq ?_; refine zd rfl rfl (failed_ok p.d p.v.k) ?_); intro _ _)
    refine w ?_
    cases hf : p.v.k.failed
    · refine w ?_
      refine VE.done1 rfl ?_ ?_
      · simp [hf]
      · exact Ent.trans Ent.re (devIn p _)
    · refine w ?_
      refine VO.pure rfl rfl (.ldRc tab_ok rfl rfl (slots_rds zm) (c2.trans rfl)) rfl ?_
      refine VO.ent (Ent.trans Ent.re (devIn p _)) ?_
      cases hs2 : s.coming with
      | none =>
        dsimp only [devPtr, Option.map_none]
        refine w ?_
        refine VE.done1 rfl ?_ ?_
        · simp [hf]
        · exact Ent.re
      | some q =>
        dsimp only [devPtr, Option.map_some]
        refine w ?_
        refine VE.done1 rfl ?_ ?_
        · simp [hf]
        · exact Ent.re
def BayD.layE (D : BayD) (k : Int) : Int := if inRange D.slots.length k = false then 1 else if (D.slot k).taken then 52 else 0
def BayD.lay (D : BayD) (k : Int) (e : Int) (kd : DiskD) : Int × BayD :=
  if D.layE k ≠ 0 then (D.layE k, D) else if e ≠ 0 then (e, D) else (0, D.setSlot k.toNat ⟨some ⟨kd, false, 0⟩, (D.slot k).aside, (D.slot k).coming⟩)
theorem range_split {sp : List SlotP} {k : Int} (h : inRange sp.length k = true) : ∃ (l1 : List SlotP) (s : SlotP) (l2 : List SlotP), sp = l1 ++ s :: l2 /\ k = (l1.length : Int) := by
 obtain ⟨h0, h1⟩ : 0 <= k /\ k < (sp.length : Int) := of_decide_eq_true h
 obtain ⟨i, rfl⟩ := Int.eq_ofNat_of_zero_le h0
 have hi : i < sp.length := by omega
 refine ⟨sp.take i, sp[i], sp.drop (i + 1), ?_, by rw [List.length_take, Nat.min_eq_left (by omega)]⟩
 rw [<- List.drop_eq_getElem_cons hi, List.take_append_drop]
theorem lay_ok {gm : FuncId} {cp : Array Value} (b : Nat) (D : BayD) (k e : Int) (kd : DiskD) (hcf : ∀ a w, (callFunc gm a).run Tryz.prog w = .ok (.enter gm a) w) (he : e = 0 \/ e = 40)
  (hm : ∀ X : List SProp, Does W Tryz.prog gm cp.toList (X ++ R) (β := Nat) (fun _ => True) (fun d => if e = 0 then .tuple #[.pointer (some ⟨d, 0, none⟩), .int .u16 0] else .tuple #[.pointer none, .int .u16 e]) (fun d => if e = 0 then DiskR d kd :: (X ++ R) else X ++ R)) :
  Does1 W Tryz.prog 77 [.pointer (some ⟨b, 0, none⟩), .int .i64 k, .func (.func gm) #[] cp] (BayR b D :: R) (.int .u16 (D.lay k e kd).1) (BayR b (D.lay k e kd).2 :: R) := by
 (refine Does.enter Tryz.func77 Tryz.ntmps77 rfl rfl ?_)
 refine VC.obtain (fun w => BayR.open) ?_
 rintro ⟨⟨a, sp⟩, h1, h2⟩
 dsimp only at h1 h2 ⊢
 have hl : D.slots.length = sp.length := by rw [h1, List.length_map]
 refine w ?_; repeat (refine zj fun _ => ?_; refine w ?_)
 ((refine zq ?_; refine zd rfl rfl (bayat_ok (D := D) (a := a) (n := sp.length) b k h2) ?_); intro _ _)
 unfold slotAt BayD.lay BayD.layE
 cases hin : inRange sp.length k
 ·
  refine w ?_; repeat (refine zj fun _ => ?_; refine w ?_)
  refine VE.done1 rfl ?_ ?_
  · rw [hl, hin]; rfl
  · rw [hl, hin]; exact BayR.shut h1 h2
 obtain ⟨l1, s, l2, rfl, rfl⟩ := range_split hin
 rw [hl, hin, slot_at h1]
 simp only [Bool.true_eq_false, if_false]
 refine w ?_; repeat (refine zj fun _ => ?_; refine w ?_)
 refine VO.ent bayOut ?_
 ((refine zq ?_; refine zd rfl rfl (taken_ok (a := a) (l1 := l1) (l2 := l2) (s := s)) ?_); intro _ _)
 refine w ?_; repeat (refine zj fun _ => ?_; refine w ?_)
 cases ht : s.D.taken
 ·
  refine w ?_; repeat (refine zj fun _ => ?_; refine w ?_)
  refine VO.ent (Ent.re (L := devRes s.in_ :: slotsOwn a (l1 ++ s :: l2) :: devRes s.aside :: devRes s.coming :: bayRow b D a (l1 ++ s :: l2).length :: ((l1 ++ l2).map slotRes ++ R))) ?_
  have hm := hm (devRes s.in_ :: slotsOwn a (l1 ++ s :: l2) :: devRes s.aside :: devRes s.coming :: bayRow b D a (l1 ++ s :: l2).length :: (l1 ++ l2).map slotRes)
  rcases he with rfl | rfl
  ·
   simp only [if_true] at hm
   refine zq ?_
   refine OpV.call rfl rfl hcf hm Ent.refl rfl ?_
   intro d _
   dsimp only [List.cons_append]
   refine w ?_; repeat (refine zj fun _ => ?_; refine w ?_)
   (apply VO.pure rfl rfl; apply PureAt.build sb_128 rfl; (simp [buildX, setL, Value.cells]; rfl); rfl)
   refine w ?_; repeat (refine zj fun _ => ?_; refine w ?_)
   rename_i nr
   refine zq ?_
   refine OpV.stO2 tab_ok rfl rfl rfl rfl zh (slots_len 0 (by decide)) (slots_in (some ⟨nr, d, ⟨kd, false, 0⟩⟩)) ?_
   refine w ?_; repeat (refine zj fun _ => ?_; refine w ?_)
   refine VE.done1 rfl ?_ ?_
   · rfl
   ·
    refine Ent.trans (Ent.re (L := devRow ⟨nr, d, ⟨kd, false, 0⟩⟩ :: DiskR d kd :: devRes s.aside :: devRes s.coming :: bayRow b D a (l1 ++ s :: l2).length :: Own 124 3 (.slice (some a) (l1 ++ s :: l2).length (l1 ++ s :: l2).length) (l1 ++ s :: l2).length ((l1 ++ { s with in_ := some ⟨nr, d, ⟨kd, false, 0⟩⟩ } :: l2).flatMap slotCells) :: ((l1 ++ l2).map slotRes ++ R))) ?_
    refine Ent.trans (devIn ⟨nr, d, ⟨kd, false, 0⟩⟩ _) ?_
    exact bayInS (D' := D.setSlot l1.length (SlotP.D { s with in_ := some ⟨nr, d, ⟨kd, false, 0⟩⟩ })) { s with in_ := some ⟨nr, d, ⟨kd, false, 0⟩⟩ } (by simp) (setSlot_slots h1 _) h2
  ·
   simp only [show ¬ ((40 : Int) = 0) by decide, if_false] at hm
   refine zq ?_
   refine OpV.call rfl rfl hcf hm Ent.refl rfl ?_
   intro d _
   dsimp only [List.cons_append]
   refine w ?_; repeat (refine zj fun _ => ?_; refine w ?_)
   refine VE.done1 rfl ?_ ?_
   · rfl
   · exact Ent.trans (Ent.trans Ent.re bayIn) (BayR.shut h1 h2)
 ·
  refine w ?_; repeat (refine zj fun _ => ?_; refine w ?_)
  refine VE.done1 rfl ?_ ?_
  · rfl
  · exact Ent.trans (Ent.trans Ent.re bayIn) (BayR.shut h1 h2)
def newE (n : Int) : Int := if 1 <= n /\ n <= 8192 then 0 else 40
def BayD.swap (D : BayD) (k n : Int) : Int × BayD := if n < 0 then (1, D) else D.lay k (newE n) (.blank n.toNat)
def loadE (n : Nat) : Int := if n % 128 = 0 /\ 1 <= n / 128 /\ n / 128 <= 8192 then 0 else 40
def BayD.load (D : BayD) (k : Int) (l : List UInt8) : Int × BayD := D.lay k (loadE l.length) ⟨chunks l (l.length / 128), [], false⟩
theorem loadf_ok {ao : Option Addr} {cap : Nat} {l : List UInt8} (bx : Nat) (hl : RdsA W 1 ao l.length (bytes l)) (hlen : l.length <= 1000000000) (hcap : l.length <= cap) (X : List SProp) :
  Does W Tryz.prog 78 [.pointer (some ⟨bx, 0, none⟩)] (X ++ (Row bx 65 [.slice ao l.length cap] :: R)) (β := Nat) (fun _ => True) (fun d => if loadE l.length = 0 then .tuple #[.pointer (some ⟨d, 0, none⟩), .int .u16 0] else .tuple #[.pointer none, .int .u16 (loadE l.length)])
   (fun d => if loadE l.length = 0 then DiskR d ⟨chunks l (l.length / 128), [], false⟩ :: (X ++ (Row bx 65 [.slice ao l.length cap] :: R)) else X ++ (Row bx 65 [.slice ao l.length cap] :: R)) := by
 have pm : Ent W (X ++ (Row bx 65 [.slice ao l.length cap] :: R)) (Row bx 65 [.slice ao l.length cap] :: (X ++ R)) := fun w hw => hw.perm List.perm_middle
 have mp : Ent W (Row bx 65 [.slice ao l.length cap] :: (X ++ R)) (X ++ (Row bx 65 [.slice ao l.length cap] :: R)) := fun w hw => hw.perm List.perm_middle.symm
 (refine Does.enter Tryz.func78 Tryz.ntmps78 rfl rfl ?_)
 refine VC.ent pm ?_
 refine w ?_
 unfold loadE
 by_cases h : l.length % 128 = 0 /\ 1 <= l.length / 128 /\ l.length / 128 <= 8192
 ·
  obtain ⟨g1, g2, g3⟩ := h
  have hm : l.length / 128 * 128 = l.length := by omega
  simp only [if_pos (show l.length % 128 = 0 /\ 1 <= l.length / 128 /\ l.length / 128 <= 8192 from ⟨g1, g2, g3⟩), if_true]
  have hr : Rds W (Row bx 65 [.slice ao l.length cap] :: (X ++ R)) 1 ao (l.length / 128 * 128) (bytes l) := by rw [hm]; exact hl _
  have key := load_ok (cap := cap) hr g2 g3 (by omega)
  rw [hm] at key
  (refine zq ?_; refine zy rfl rfl (key) ?_)
  intro d _
  refine w ?_
  exact VE.done d rfl trivial rfl (fun w hw => hw.perm (List.Perm.cons _ List.perm_middle.symm))
 ·
  simp only [if_neg h, show ¬ ((40 : Int) = 0) by decide, if_false]
  have lb : ∀ {X : List SProp}, Does1 W Tryz.prog 79 [.slice ao l.length cap] X (.tuple #[.pointer none, .int .u16 40]) X := by
   intro X
   by_cases h : l.length % 128 = 0
   · exact load_big h (by omega) (by omega)
   · exact load_odd h
  (refine zq ?_; refine zy rfl rfl (lb) ?_; intro _ _)
  refine w ?_
  exact VE.done 0 rfl trivial rfl mp
theorem loadE_cases (n : Nat) : loadE n = 0 \/ loadE n = 40 := by unfold loadE; split <;> simp
theorem bayload_ok {ao : Option Addr} {cap : Nat} {l : List UInt8} (b : Nat) (D : BayD) (k : Int) (hl : RdsA W 1 ao l.length (bytes l)) (hlen : l.length <= 1000000000) (hcap : l.length <= cap) :
  Does1 W Tryz.prog 16 [.pointer (some ⟨b, 0, none⟩), .int .i64 k, .slice ao l.length cap] (BayR b D :: R) (.int .u16 (D.load k l).1) (BayR b (D.load k l).2 :: R) := by
 (refine Does.enter Tryz.func16 Tryz.ntmps16 rfl rfl ?_)
 refine w ?_; repeat (refine zj fun _ => ?_; refine w ?_)
 rename_i bx
 unfold BayD.load
 refine VO.pure rfl rfl (PureAt.makeFuncN rfl) rfl ?_
 refine w ?_; repeat (refine zj fun _ => ?_; refine w ?_)
 refine VO.ent (Ent.re (L := BayR b D :: Row bx 65 [.slice ao l.length cap] :: R)) ?_
 (refine zq ?_; refine zy rfl rfl (lay_ok (R := Row bx 65 [.slice ao l.length cap] :: R) (gm := 78) (cp := #[.pointer (some ⟨bx, 0, none⟩)]) b D k (loadE l.length) ⟨chunks l (l.length / 128), [], false⟩ (fun _ _ => by simp) (loadE_cases _) (fun X => loadf_ok bx hl hlen hcap X)) ?_)
 intro _ _
 refine w ?_; repeat (refine zj fun _ => ?_; refine w ?_)
 refine VE.done1 rfl ?_ ?_
 · rfl
 · exact Ent.re
def BayD.push (D : BayD) (k : Int) : Int × BayD :=
  if inRange D.slots.length k = false then (1, D) else if (D.slot k).aside.isNone then (51, D) else if (D.slot k).taken then (52, D) else (0, D.setSlot k.toNat ⟨(D.slot k).in_, none, (D.slot k).aside⟩)
end Go.Proofs.YtdbhpikmagkopaaGreat
