/- Scan: digests, Sectors. -/
import Derived.Test.YtlojjlbngnaphaaSi
import Derived.Test.YtlojjlbngnaphaaNa
import Derived.Test.YtlojjlbngnaphaaNq
set_option maxRecDepth 8000
set_option linter.unusedVariables false
set_option linter.unusedSimpArgs false
set_option linter.unusedSectionVars false
namespace Go.Proofs.Ytlojjlbngnaphaa
open Go.RowKit Go.Sl
attribute [local irreducible] Own

theorem pureEx {W : World} {P : Program} {n : Nat} {α : Type} {F : α → SProp} {R : List SProp} {f : Fr} {o : Oper} {v : Value} (h : ∀ x, PureAt W P n (F x :: R) f o v) : PureAt W P n (ex F :: R) f o v := by
  unfold PureAt at h ⊢
  intro t w hk hw
  obtain ⟨x, hx⟩ := hw.exOpen
  exact h x t w hk hx
/-! ### Digests -/
def DigR (d : Nat) (c : BitVec 32) : SProp := ex fun m : Int => Row d 124 [.int .u32 (c.toNat : Int), .int .i64 m]
theorem dignew_ok {W : World} {R : List SProp} : Does W Try.prog 32 [] R (β := Nat) (fun _ => True) (fun d => .pointer (some ⟨d, 0, none⟩)) (fun d => DigR d 0#32 :: R) := by
  (refine Does.enter Try.func32 Try.ntmps32 rfl rfl ?_)
  (refine w ?_; repeat ((first | refine VO.step rfl rfl ?_ | refine VD.end rfl rfl rfl ?_ | refine VD.mid rfl rfl rfl ?_); refine OpV.box rfl rfl rfl ?_; intro _; refine w ?_))
  (apply VO.pure rfl rfl; apply PureAt.build sb_124 (pv := []) rfl; rfl; rfl)
  (refine w ?_; repeat ((first | refine VO.step rfl rfl ?_ | refine VD.end rfl rfl rfl ?_ | refine VD.mid rfl rfl rfl ?_); refine OpV.box rfl rfl rfl ?_; intro _; refine w ?_))
  rename_i d
  refine VE.done d rfl trivial rfl ?_
  exact fun w hw => Holds.exShut (P := fun m : Int => Row d 124 [.int .u32 ((0#32 : BitVec 32).toNat : Int), .int .i64 m]) 0 hw
theorem digadd_ok {W : World} {R : List SProp} {ao : Option Addr} {cap : Nat} {l : List UInt8} (d : Nat) (c : BitVec 32) (hr : Rds W R 1 ao l.length (bytes l)) (hl : l.length ≤ 1099511627776) :
    Does W Try.prog 36 [.pointer (some ⟨d, 0, none⟩), .slice ao l.length cap] (DigR d c :: R) (β := Int) (fun _ => True) (fun k => .int .i64 k) (fun _ => DigR d (crcM c l) :: R) := by
  refine DoesO (α := Int) (H' := fun m => Row d 124 [.int .u32 (c.toNat : Int), .int .i64 m] :: R) (fun w hw => Holds.exOpen hw) (fun m => ?_)
  (refine Does.enter Try.func36 Try.ntmps36 rfl rfl ?_)
  (refine w ?_; repeat ((first | refine VO.step rfl rfl ?_ | refine VD.end rfl rfl rfl ?_ | refine VD.mid rfl rfl rfl ?_); refine OpV.box rfl rfl rfl ?_; intro _; refine w ?_))
  refine VC.drawn [5, 7, 17] 18 [0, 1, 2, 3, 4, 6, 8, 9, 10, 11, 12, 13, 14, 5, 7, 15, 16, 17, 18, 19, 20] ((ex fun x : Int => Row d 124 [.int .u32 x, .int .i64 m]) :: R) rfl (by kernel_rfl) (by kernel_rfl) (fun w hw => Holds.exShut (P := fun x : Int => Row d 124 [.int .u32 x, .int .i64 m]) _ hw) ?_
  (refine w ?_; repeat ((first | refine VO.step rfl rfl ?_ | refine VD.end rfl rfl rfl ?_ | refine VD.mid rfl rfl rfl ?_); refine OpV.box rfl rfl rfl ?_; intro _; refine w ?_))
  (first | refine VO.pure rfl rfl (pureEx fun x => PureAt.ld tab_ok rfl rfl (.head _) rfl) rfl ?_ | refine VD.take rfl rfl rfl (pureEx fun x => PureAt.ld tab_ok rfl rfl (.head _) rfl) rfl ?_ | refine VQ.pure rfl rfl (pureEx fun x => PureAt.ld tab_ok rfl rfl (.head _) rfl) rfl ?_ | refine VD.end rfl rfl rfl (OpV.pure (pureEx fun x => PureAt.ld tab_ok rfl rfl (.head _) rfl) rfl ?_))
  (refine w ?_; repeat ((first | refine VO.step rfl rfl ?_ | refine VD.end rfl rfl rfl ?_ | refine VD.mid rfl rfl rfl ?_); refine OpV.box rfl rfl rfl ?_; intro _; refine w ?_))
  refine VD.mid rfl rfl rfl (OpV.pure (PureAt.ld tab_ok rfl rfl (.head _) rfl) rfl ⟨fun w hw => Holds.exShut (P := fun x : Int => Row d 124 [.int .u32 x, .int .i64 m]) _ hw, ?_⟩)
  (refine w ?_; repeat ((first | refine VO.step rfl rfl ?_ | refine VD.end rfl rfl rfl ?_ | refine VD.mid rfl rfl rfl ?_); refine OpV.box rfl rfl rfl ?_; intro _; refine w ?_))
  ((first | refine VO.step rfl rfl ?_ | refine VD.end rfl rfl rfl ?_ | refine VD.mid rfl rfl rfl ?_); refine OpV.call rfl rfl (fun _ _ => by simp) (more_ok c (hr.ent (Ent.drop Ent.refl)) hl) Ent.refl rfl ?_)
  intro _ _
  refine ⟨fun w hw => Holds.exShut (P := fun x : Int => Row d 124 [.int .u32 x, .int .i64 m]) _ hw, ?_⟩
  iterate 2 (apply VD.take rfl rfl rfl; (first | (apply PureAt.ar64 rfl rfl rfl; omega) | exact .eval tab_ok rfl | (apply PureAt.ld tab_ok rfl rfl; (focus repeat first | exact .head _ | apply List.Mem.tail); rfl) | (apply PureAt.shr rfl rfl (by decide) (by decide)) | (apply PureAt.shr rfl rfl (by omega) (by simp only [IntKind.bits]; omega)) | exact .fieldAddrA tab_ok rfl rfl | exact .sliceLH tab_ok rfl rfl rfl rfl (by omega) (by omega) | exact .sliceH tab_ok rfl rfl rfl (by omega) | exact .sliceL tab_ok rfl rfl rfl (by omega) | (first | exact .indexAddr tab_ok rfl rfl rfl rfl (by omega) | exact .indexAddrN tab_ok rfl rfl rfl rfl (by omega) | exact .indexAddrI tab_ok rfl rfl rfl rfl (toNatLit _) (by decide) (by omega) | exact .indexAddrNI tab_ok rfl rfl rfl rfl (toNatLit _) (by decide) (by omega) | exact .ldR tab_ok rfl rfl hr1 (List.getElem?_eq_getElem (by omega)) | exact .ldR tab_ok rfl rfl hr2 (List.getElem?_eq_getElem (by omega)) | exact ldB tab_ok rfl rfl hb1 (by omega) | exact ldB tab_ok rfl rfl hb2 (by omega)) | exact .sliceHI tab_ok rfl rfl rfl (toNatLit _) (by decide) (by omega) | exact .sliceLI tab_ok rfl rfl rfl (toNatLit _) (by decide) (by omega) | (apply PureAt.ldA tab_ok rfl rfl; (focus repeat first | exact .head _ | apply List.Mem.tail); rfl; rfl) | exact .ldro tab_ok rfl rfl (by assumption)); rfl)
  refine VD.mid rfl rfl rfl ?_
  apply OpV.st tab_ok rfl rfl rfl rfl (by (repeat first | exact .head | apply Hole.tail)) (by simp)
  refine ⟨fun w hw => Holds.exShut (P := fun x : Int => Row d 124 [.int .u32 x, .int .i64 m]) _ hw, ?_⟩
  (refine w ?_; repeat ((first | refine VO.step rfl rfl ?_ | refine VD.end rfl rfl rfl ?_ | refine VD.mid rfl rfl rfl ?_); refine OpV.box rfl rfl rfl ?_; intro _; refine w ?_))
  refine VE.done (IntKind.i64.wrap (m + (l.length : Int))) rfl trivial rfl ?_
  exact fun w hw => Holds.exShut (P := fun m : Int => Row d 124 [.int .u32 ((crcM c l).toNat : Int), .int .i64 m]) (IntKind.i64.wrap (m + (l.length : Int))) hw
theorem digsum_ok {W : World} {R : List SProp} (d : Nat) (c : BitVec 32) : Does1 W Try.prog 38 [.pointer (some ⟨d, 0, none⟩)] (DigR d c :: R) (.int .u32 (c.toNat : Int)) (DigR d c :: R) := by
  refine DoesO (α := Int) (H' := fun m => Row d 124 [.int .u32 (c.toNat : Int), .int .i64 m] :: R) (fun w hw => Holds.exOpen hw) (fun m => ?_)
  (refine Does.enter Try.func38 Try.ntmps38 rfl rfl ?_)
  (refine w ?_; repeat ((first | refine VO.step rfl rfl ?_ | refine VD.end rfl rfl rfl ?_ | refine VD.mid rfl rfl rfl ?_); refine OpV.box rfl rfl rfl ?_; intro _; refine w ?_))
  (refine VE.done1 rfl ?_ ?_)
  · rfl
  · exact fun w hw => Holds.exShut (P := fun m : Int => Row d 124 [.int .u32 (c.toNat : Int), .int .i64 m]) m hw

/-! ### Sectors -/
abbrev PatE.D (p : PatE) : PatD := ⟨p.member, p.row, p.d.data⟩
structure PatE.fit (p : PatE) : Prop where
  member : -9223372036854775808 ≤ p.member ∧ p.member ≤ 9223372036854775807
  row : -9223372036854775808 ≤ p.row ∧ p.row ≤ 9223372036854775807
  len : p.d.data.length ≤ 140737488351232
/-- The error, the first so many looked at. -/
def errP (l : List PatE) : Nat → Int
  | 0 => 0
  | i + 1 => match l[i]? with
    | none => errP l i
    | some p => if p.D.far then 3 else if errP l i = 0 ∧ p.d.data.length ≠ 128 then 4 else errP l i
theorem errP_is (l : List PatE) : ∀ i, i ≤ l.length → errP l i = if ∃ p ∈ l.take i, p.D.far then 3 else if ∃ p ∈ l.take i, p.d.data.length ≠ 128 then 4 else 0
  | 0, _ => by simp [errP]
  | i + 1, h => by
    have ih := errP_is l i (by omega)
    have hi : i < l.length := by omega
    have hget : l[i]? = some l[i] := List.getElem?_eq_getElem hi
    have e1 : (∃ p ∈ l.take (i + 1), p.D.far) ↔ (∃ p ∈ l.take i, p.D.far) ∨ l[i].D.far := by
      rw [List.take_succ_eq_append_getElem hi]; simp only [List.mem_append, List.mem_singleton]
      constructor
      · rintro ⟨p, hp | hp, hf⟩; exact .inl ⟨p, hp, hf⟩; exact .inr (hp ▸ hf)
      · rintro (⟨p, hp, hf⟩ | hf); exact ⟨p, .inl hp, hf⟩; exact ⟨_, .inr rfl, hf⟩
    have e2 : (∃ p ∈ l.take (i + 1), p.d.data.length ≠ 128) ↔ (∃ p ∈ l.take i, p.d.data.length ≠ 128) ∨ l[i].d.data.length ≠ 128 := by
      rw [List.take_succ_eq_append_getElem hi]; simp only [List.mem_append, List.mem_singleton]
      constructor
      · rintro ⟨p, hp | hp, hf⟩; exact .inl ⟨p, hp, hf⟩; exact .inr (hp ▸ hf)
      · rintro (⟨p, hp, hf⟩ | hf); exact ⟨p, .inl hp, hf⟩; exact ⟨_, .inr rfl, hf⟩
    unfold errP
    rw [hget]
    dsimp only
    by_cases hf : l[i].D.far
    · rw [if_pos hf, if_pos (e1.2 (.inr hf))]
    · rw [if_neg hf, ih]
      by_cases ha : ∃ p ∈ l.take i, p.D.far
      · rw [if_pos ha, if_pos (e1.2 (.inl ha)), if_neg (by rintro ⟨h, _⟩; cases h)]
      · rw [if_neg ha, if_neg (fun q => (e1.1 q).elim ha hf)]
        by_cases hs : ∃ p ∈ l.take i, p.d.data.length ≠ 128
        · rw [if_pos hs, if_pos (e2.2 (.inl hs)), if_neg (by rintro ⟨h, _⟩; cases h)]
        · rw [if_neg hs]
          by_cases hb : l[i].d.data.length ≠ 128
          · rw [if_pos ⟨rfl, hb⟩, if_pos (e2.2 (.inr hb))]
          · rw [if_neg (fun q => hb q.2), if_neg (fun q => (e2.1 q).elim hs hb)]
theorem errP_all {e s : Nat} {l : List PatE} (hn : 1 ≤ l.length ∧ l.length ≤ 1023) : (if cntOk e s then errP l l.length else 3) = (secsM e s (l.map PatE.D)).1 := by
  have h1 := errP_is l l.length (Nat.le_refl _)
  rw [List.take_length] at h1
  have e1 : (∃ p ∈ l.map PatE.D, p.far) ↔ ∃ p ∈ l, p.D.far :=
    ⟨fun ⟨p, hp, h⟩ => by obtain ⟨q, hq, rfl⟩ := List.mem_map.1 hp; exact ⟨q, hq, h⟩, fun ⟨p, hp, h⟩ => ⟨p.D, List.mem_map_of_mem hp, h⟩⟩
  have e2 : (∃ p ∈ l.map PatE.D, p.data.length ≠ 128) ↔ ∃ p ∈ l, p.d.data.length ≠ 128 :=
    ⟨fun ⟨p, hp, h⟩ => by obtain ⟨q, hq, rfl⟩ := List.mem_map.1 hp; exact ⟨q, hq, h⟩, fun ⟨p, hp, h⟩ => ⟨p.D, List.mem_map_of_mem hp, h⟩⟩
  have hl : (l.map PatE.D).length = l.length := List.length_map ..
  have hs : (secsM e s (l.map PatE.D)).1 = if ¬ cntOk e s ∨ ∃ p ∈ l.map PatE.D, p.far then 3 else if ∃ p ∈ l.map PatE.D, p.data.length ≠ 128 then 4 else 0 := by
    unfold secsM
    rw [if_neg (by rw [hl]; omega)]
    split
    · rfl
    · split <;> rfl
  rw [hs, h1]
  clear hs h1
  by_cases hc : cntOk e s
  · rw [if_pos hc]
    by_cases ha : ∃ p ∈ l, p.D.far
    · have hb : ¬ cntOk e s ∨ ∃ p ∈ l.map PatE.D, p.far := .inr (e1.2 ha)
      rw [if_pos ha, if_pos hb]
    · have hb : ¬ (¬ cntOk e s ∨ ∃ p ∈ l.map PatE.D, p.far) := fun q => q.elim (fun z => z hc) (fun z => ha (e1.1 z))
      rw [if_neg ha, if_neg hb]
      by_cases hd : ∃ p ∈ l, p.d.data.length ≠ 128
      · rw [if_pos hd, if_pos (e2.2 hd)]
      · rw [if_neg hd, if_neg (fun q => hd (e2.1 q))]
  · have hb : ¬ cntOk e s ∨ ∃ p ∈ l.map PatE.D, p.far := .inl hc
    rw [if_neg hc, if_pos hb]
theorem errP_range (l : List PatE) : ∀ i, errP l i = 0 ∨ errP l i = 3 ∨ errP l i = 4
  | 0 => .inl rfl
  | i + 1 => by
    have ih := errP_range l i
    unfold errP
    split
    · exact ih
    · split
      · exact .inr (.inl rfl)
      · split
        · exact .inr (.inr rfl)
        · exact ih
end Go.Proofs.Ytlojjlbngnaphaa
