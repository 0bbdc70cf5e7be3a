/- The statements of the bay: BaySlots. -/
import Derived.Test.YtbmcgmicnfbckaaBs
set_option maxRecDepth 8000
set_option linter.unusedVariables false
set_option linter.unusedSimpArgs false
set_option linter.unusedSectionVars false
namespace Go.Proofs.Ytbmcgmicnfbckaa
open Go.RowKit Go.Sl
attribute [local irreducible] Own

theorem PureAt.remI2 {W : World} {P : Program} {n : Nat} {H : List SProp} {f : Fr} {dst : Option Tmp} {ty_ : TypeId} {pos : String} {after : Array Edge} {guard : Option (Nat × Bool)} {x y : Operand} {s u : TypeId} {k : IntKind} {a b : Int} (hx : evalX f x = some (.int k a)) (hy : evalX f y = some (.int k b)) (hb : b ≠ 0) :
    PureAt W P n H f { dst, op := .binOp .rem s x y u, type := ty_, pos, after, guard } (.int k (a.tmod b)) := by
  unfold PureAt
  intro tm w hk _
  simp [execOp, hk.eval hx, hk.eval hy, eqGuard, binOp, Op.intDiv, hb]

/-- Of one slot nothing has turned. -/
structure Still (s : Nat) (D D' : BayD) : Prop where
  dev : D'.dev (s : Int) = D.dev (s : Int)
  len : D'.slots.length = D.slots.length
theorem Still.refl {s : Nat} {D : BayD} : Still s D D := ⟨rfl, rfl⟩
theorem Still.trans {s : Nat} {D D' D'' : BayD} (h : Still s D D') (h' : Still s D' D'') : Still s D D'' := ⟨h'.dev.trans h.dev, h'.len.trans h.len⟩
theorem still_slots {s : Nat} {D D' : BayD} (h : D'.slots = D.slots) : Still s D D' := ⟨by unfold BayD.dev; rw [h], by rw [h]⟩
theorem still_set {s : Nat} {D : BayD} {k : Int} (x : SlotD) (h0 : 0 ≤ k) (hne : k ≠ s) : Still s D (D.setSlot k.toNat x) := by
  refine ⟨?_, by unfold BayD.setSlot; simp⟩
  unfold BayD.dev BayD.setSlot
  dsimp only
  have : k.toNat ≠ (s : Int).toNat := by omega
  rw [List.getElem?_set_ne this]
theorem still_setIn {s : Nat} {D : BayD} {k : Int} (v : DevD) (h0 : 0 ≤ k) (hne : k ≠ s) : Still s D (D.setIn k.toNat v) := still_set (D := D) (k := k) _ h0 hne
theorem inRange_nonneg {n : Nat} {k : Int} (h : inRange n k = true) : 0 ≤ k := (of_decide_eq_true h).1
theorem refuse_nonneg {D : BayD} {k : Int} (h : D.refuse k = 0) : 0 ≤ k := by
  unfold BayD.refuse at h
  split at h
  · cases h
  · rename_i h1; exact inRange_nonneg (by simpa using h1)
theorem dev_nonneg {D : BayD} {k : Int} {v : DevD} (h : D.dev k = some v) : 0 ≤ k := by
  unfold BayD.dev at h; split at h
  · assumption
  · cases h
theorem still_ahead {s : Nat} {D : BayD} (k : Int) (j : Nat) : Still s D (D.ahead k j) := still_slots (D.ahead_slots k j)
theorem still_plain {s : Nat} {D : BayD} {k : Int} (hne : k ≠ s) (kind n : Int) (b : List UInt8) : Still s D (D.plain kind k n b).2 := by
  unfold BayD.plain BayD.read BayD.write BayD.flush
  split
  · split
    · rename_i h; exact (still_ahead _ _).trans (still_setIn _ (refuse_nonneg h) hne)
    · exact still_ahead _ _
  · split
    · dsimp only; split
      · rename_i h; exact (still_ahead _ _).trans (still_setIn _ (refuse_nonneg h) hne)
      · exact still_ahead _ _
    · dsimp only; split
      · rename_i h; exact (still_ahead _ _).trans (still_setIn _ (refuse_nonneg h) hne)
      · exact still_ahead _ _
theorem still_fail {s : Nat} {D : BayD} {k : Int} (hne : k ≠ s) : Still s D (D.fail k).2 := by
  unfold BayD.fail; split
  · rename_i h; exact still_setIn _ (dev_nonneg h) hne
  · exact .refl
theorem still_wear {s : Nat} {D : BayD} {k : Int} (hne : k ≠ s) (n : Int) : Still s D (D.wear k n).2 := by
  unfold BayD.wear; split
  · exact .refl
  · split
    · rename_i h; exact still_setIn _ (dev_nonneg h) hne
    · exact .refl
theorem still_pull {s : Nat} {D : BayD} {k : Int} (hne : k ≠ s) : Still s D (D.pull k).2 := by
  unfold BayD.pull; split
  · rename_i h; exact still_set _ (dev_nonneg h) hne
  · exact .refl
theorem still_lay {s : Nat} {D : BayD} {k : Int} (hne : k ≠ s) (e : Int) (kd : DiskD) : Still s D (D.lay k e kd).2 := by
  unfold BayD.lay; split
  · exact .refl
  · rename_i h
    split
    · exact .refl
    · refine still_set _ ?_ hne
      unfold BayD.layE at h
      split at h
      · simp at h
      · rename_i h1; exact inRange_nonneg (by simpa using h1)
theorem still_swap {s : Nat} {D : BayD} {k : Int} (hne : k ≠ s) (n : Int) : Still s D (D.swap k n).2 := by
  unfold BayD.swap; split
  · exact .refl
  · exact still_lay hne _ _
theorem still_push {s : Nat} {D : BayD} {k : Int} (hne : k ≠ s) : Still s D (D.push k).2 := by
  unfold BayD.push; split
  · exact .refl
  · rename_i h1
    split
    · exact .refl
    · split
      · exact .refl
      · exact still_set _ (inRange_nonneg (by simpa using h1)) hne
theorem still_image {s : Nat} {D D' : BayD} (h : Still s D D') : D'.image (s : Int) = D.image (s : Int) := by unfold BayD.image; rw [h.dev, h.len]

/-- A write to a slot of a bay that has its power. -/
theorem write_dev {D : BayD} {s : Nat} (hs : s < D.slots.length) (hd : D.dark = false) (ht : D.trip = -1) (n : Int) (b : List UInt8) :
    (D.write s n b).2.dev (s : Int) = (D.dev (s : Int)).map fun v => ⟨(v.use.k.wr n b).2, v.use.worn, v.use.left⟩ := by
  have hr : inRange D.slots.length (s : Int) = true := by unfold inRange; simp; omega
  have hm0 : D.trip ≠ 0 := by omega
  unfold BayD.write
  rw [refuse_quiet hr hd hm0, ahead_quiet hr hd hm0]
  unfold thereE
  rw [if_pos hr]
  cases hv : D.dev (s : Int) with
  | none => rw [if_neg (by simp)]; exact hv
  | some v =>
    rw [if_pos (by simp)]
    unfold BayD.dv
    rw [hv]
    unfold BayD.dev BayD.setIn BayD.step
    simp [hs]
theorem wr_last (k : DiskD) (n : Int) (b : List UInt8) : (k.wr n b).2.last = k.last := by
  unfold DiskD.wr; split
  · rfl
  · split <;> rfl
def k77 : List UInt8 := (List.replicate 128 0).set 9 77

def pendOf (D : BayD) (k : Int) : List Nat := (D.dev k).elim [] fun v => v.k.cache.map (·.1)

set_option maxHeartbeats 16000000 in
theorem bslots_ok {W : World} {so ao : Option Addr} {scap cap : Nat} {l : List Int} {lb : List BopD} (slot : Int) (hs : RdsA W 1 so l.length (intsI l)) (hsl : l.length ≤ 140737488351232) (hb0 : ∀ R, BScr W R ao lb) (hlb : lb.length ≤ 140737488351232) :
    Does1 W Try.prog 9 [.slice so l.length scap, .slice ao lb.length cap, .int .i64 slot] [] (.bool true) [] := by
  (refine Does.enter Try.func9 Try.ntmps9 rfl rfl ?_)
  (refine w ?_; repeat ((first | refine VO.step rfl rfl ?_ | refine VD.end rfl rfl rfl ?_ | refine VD.mid rfl rfl rfl ?_); refine OpV.box rfl rfl rfl ?_; intro _; refine w ?_))
  ((first | refine VO.step rfl rfl ?_ | refine VD.end rfl rfl rfl ?_ | refine VD.mid rfl rfl rfl ?_); refine OpV.call rfl rfl (fun _ _ => by simp) (bmuch_ok (hb0 _) hsl hlb) Ent.re rfl ?_)
  intro mb hmb
  (refine w ?_; repeat ((first | refine VO.step rfl rfl ?_ | refine VD.end rfl rfl rfl ?_ | refine VD.mid rfl rfl rfl ?_); refine OpV.box rfl rfl rfl ?_; intro _; refine w ?_))
  (refine VC.cond rfl rfl ?_ ?_ <;> intro hc)
  · (refine w ?_; repeat ((first | refine VO.step rfl rfl ?_ | refine VD.end rfl rfl rfl ?_ | refine VD.mid rfl rfl rfl ?_); refine OpV.box rfl rfl rfl ?_; intro _; refine w ?_))
    (refine VE.done1 rfl ?_ ?_)
    · rfl
    · exact Ent.refl
  obtain ⟨hm1, hm2⟩ := hmb hc
  (refine w ?_; repeat ((first | refine VO.step rfl rfl ?_ | refine VD.end rfl rfl rfl ?_ | refine VD.mid rfl rfl rfl ?_); refine OpV.box rfl rfl rfl ?_; intro _; refine w ?_))
  ((first | refine VO.step rfl rfl ?_ | refine VD.end rfl rfl rfl ?_ | refine VD.mid rfl rfl rfl ?_); refine OpV.call rfl rfl (fun _ _ => by simp) (baynew_ok (hs _) (by omega)) Ent.refl rfl ?_)
  intro x hx
  by_cases hE : bayE l = 0
  · rw [hE] at hx ⊢
    obtain ⟨h1, h17, hsz⟩ := all_sizes hE
    obtain ⟨sa, rfl⟩ : ∃ sa, so = some sa := by cases so with | none => have := (hs []).nil rfl; omega | some sa => exact ⟨sa, rfl⟩
    obtain ⟨a, rfl⟩ : ∃ a, x = some a := by cases x with | none => cases hx | some a => exact ⟨a, rfl⟩
    dsimp only [Option.elim_some]
    (refine w ?_; repeat ((first | refine VO.step rfl rfl ?_ | refine VD.end rfl rfl rfl ?_ | refine VD.mid rfl rfl rfl ?_); refine OpV.box rfl rfl rfl ?_; intro _; refine w ?_))
    ((first | refine VO.step rfl rfl ?_ | refine VD.end rfl rfl rfl ?_ | refine VD.mid rfl rfl rfl ?_); refine OpV.call rfl rfl (fun _ _ => by simp) (bknown_ok) Ent.refl rfl ?_; intro _ _)
    (refine w ?_; repeat ((first | refine VO.step rfl rfl ?_ | refine VD.end rfl rfl rfl ?_ | refine VD.mid rfl rfl rfl ?_); refine OpV.box rfl rfl rfl ?_; intro _; refine w ?_))
    (first | refine VO.pure rfl rfl (PureAt.remI2 rfl rfl (by omega)) rfl ?_ | refine VD.take rfl rfl rfl (PureAt.remI2 rfl rfl (by omega)) rfl ?_ | refine VQ.pure rfl rfl (PureAt.remI2 rfl rfl (by omega)) rfl ?_ | refine VD.end rfl rfl rfl (OpV.pure (PureAt.remI2 rfl rfl (by omega)) rfl ?_))
    (refine w ?_; repeat ((first | refine VO.step rfl rfl ?_ | refine VD.end rfl rfl rfl ?_ | refine VD.mid rfl rfl rfl ?_); refine OpV.box rfl rfl rfl ?_; intro _; refine w ?_))
    refine VO.pure rfl rfl (PureAt.neg rfl) rfl ?_
    obtain ⟨s, hsd⟩ : ∃ s, s = (slot.tmod (l.length : Int)).natAbs := ⟨_, rfl⟩
    have hslt : s < l.length := by rw [hsd, Int.natAbs_tmod]; exact Nat.mod_lt _ (by omega)
    have hmax : max (slot.tmod (l.length : Int)) (IntKind.i64.wrap (0 - slot.tmod (l.length : Int))) = (s : Int) := by
      rw [IntWalk.i64_in _ ⟨by omega, by omega⟩]; omega
    (refine w ?_; repeat ((first | refine VO.step rfl rfl ?_ | refine VD.end rfl rfl rfl ?_ | refine VD.mid rfl rfl rfl ?_); refine OpV.box rfl rfl rfl ?_; intro _; refine w ?_))
    refine VO.re 9 (.int .i64 s) rfl (by rw [← hmax]) ?_
    (refine w ?_; repeat ((first | refine VO.step rfl rfl ?_ | refine VD.end rfl rfl rfl ?_ | refine VD.mid rfl rfl rfl ?_); refine OpV.box rfl rfl rfl ?_; intro _; refine w ?_))
    ((first | refine VO.step rfl rfl ?_ | refine VD.end rfl rfl rfl ?_ | refine VD.mid rfl rfl rfl ?_); refine OpV.makeSlice1 st_32 rfl rfl rfl ?_ ?_ rfl ?_)
    · decide
    · decide
    intro xb
    (refine w ?_; repeat ((first | refine VO.step rfl rfl ?_ | refine VD.end rfl rfl rfl ?_ | refine VD.mid rfl rfl rfl ?_); refine OpV.box rfl rfl rfl ?_; intro _; refine w ?_))
    refine VO.pure rfl rfl (PureAt.indexAddr (a := ⟨xb, 0, none⟩) (m := 128) (cap := 128) (j := 9) tab_ok rfl rfl rfl rfl (by decide)) rfl ?_
    (first | refine VO.step rfl rfl ?_ | refine VD.end rfl rfl rfl ?_ | refine VD.mid rfl rfl rfl ?_)
    refine OpV.stO2 (xs' := bytes k77) tab_ok rfl rfl rfl rfl (by (repeat first | exact .head | apply Hole.tail)) (by simp) (by kernel_rfl) ?_
    (refine w ?_; repeat ((first | refine VO.step rfl rfl ?_ | refine VD.end rfl rfl rfl ?_ | refine VD.mid rfl rfl rfl ?_); refine OpV.box rfl rfl rfl ?_; intro _; refine w ?_))
    have hxr : ∀ X : List SProp, Rds W (Own 5 1 (.slice (some ⟨xb, 0, none⟩) 128 128) 128 (bytes k77) :: X) 1 (some ⟨xb, 0, none⟩) 128 (bytes k77) := fun X => Rds.own (bytes_one _) (.head _) (by rw [bytes_length]; rfl) (fun h => by cases h)
    refine VO.ent (Ent.re (L := BayR a (BayD.new l) :: Own 5 1 (.slice (some ⟨xb, 0, none⟩) 128 128) 128 (bytes k77) :: [])) ?_
    ((first | refine VO.step rfl rfl ?_ | refine VD.end rfl rfl rfl ?_ | refine VD.mid rfl rfl rfl ?_); refine OpV.call rfl rfl (fun _ _ => by simp) (baywrite_ok (l := k77) a (BayD.new l) s 0 (Nat.le_trans (dv_cap (new_capd l) _) (by omega)) (.inr (hxr _))) Ent.refl rfl ?_)
    intro _ _
    have hnl : (BayD.new l).slots.length = l.length := by simp [BayD.new]
    have hwd := write_dev (D := BayD.new l) (s := s) (by omega) rfl rfl 0 k77
    have hcp : ((BayD.new l).write s 0 k77).2.capd 1 := by
      have := plain_capd (new_capd l) 2 s 0 k77
      unfold BayD.plain at this
      rw [if_neg (by decide), if_pos rfl] at this
      exact this
    rw [new_dev l s hslt] at hwd
    generalize ((BayD.new l).write s 0 k77).2 = D1 at *
    have hhas : (D1.dev s).any (fun v => !v.k.failed) = decide (0 < l[s]) := by
      have := hsz l[s] (List.getElem_mem hslt)
      rw [hwd]; split
      · rename_i h0; simp [h0]
      · rename_i h0
        simp only [Option.map_some, Option.any_some, use_calm, wr_failed]
        rw [decide_eq_true (by omega)]; rfl
    have hsec : (D1.dev s).elim (0 : Int) (fun v => (v.k.last.length : Int)) = l[s] := by
      have := hsz l[s] (List.getElem_mem hslt)
      rw [hwd]; split
      · rename_i h0; simp [h0]
      · simp only [Option.map_some, Option.elim_some, use_calm, wr_last]
        simp [DiskD.blank]; omega
    have hcd : ∀ {D : BayD}, Still s D1 D → ∀ v, D.dev s = some v → v.k.cache.length ≤ 1000000 := fun hD v hv => by
      rw [hD.dev] at hv
      obtain ⟨x, hx, hi⟩ := dev_mem hv
      have := hcp x hx v (.inl hi); omega
    (refine w ?_; repeat ((first | refine VO.step rfl rfl ?_ | refine VD.end rfl rfl rfl ?_ | refine VD.mid rfl rfl rfl ?_); refine OpV.box rfl rfl rfl ?_; intro _; refine w ?_))
    ((first | refine VO.step rfl rfl ?_ | refine VD.end rfl rfl rfl ?_ | refine VD.mid rfl rfl rfl ?_); refine OpV.call rfl rfl (fun _ _ => by simp) (bayimage_ok a D1 s) Ent.re rfl ?_)
    intro x hx
    generalize him : D1.image s = im at *
    (refine w ?_; repeat ((first | refine VO.step rfl rfl ?_ | refine VD.end rfl rfl rfl ?_ | refine VD.mid rfl rfl rfl ?_); refine OpV.box rfl rfl rfl ?_; intro _; refine w ?_))
    ((first | refine VO.step rfl rfl ?_ | refine VD.end rfl rfl rfl ?_ | refine VD.mid rfl rfl rfl ?_); refine OpV.call rfl rfl (fun _ _ => by simp) (baypending_ok a D1 s (hcd .refl)) Ent.re rfl ?_)
    intro y hy
    (refine w ?_; repeat ((first | refine VO.step rfl rfl ?_ | refine VD.end rfl rfl rfl ?_ | refine VD.mid rfl rfl rfl ?_); refine OpV.box rfl rfl rfl ?_; intro _; refine w ?_))
    refine VC.loop (α := Nat × BayD) (fun g => g.1 ≤ lb.length ∧ Still s D1 g.2 ∧ g.2.capd (g.1 + 1))
      (fun g => [Own 3 1 (.slice y.1 (pendOf D1 s).length y.2) (pendOf D1 s).length (ints (pendOf D1 s)), OwnB x im.1, BayR a g.2])
      (fun g => [(0, .slice (some sa) l.length scap), (1, .slice ao lb.length cap), (7, .pointer (some ⟨a, 0, none⟩)), (9, .int .i64 s), (11, sliceB x im.1), (12, .int .u16 im.2), (13, .slice y.1 (pendOf D1 s).length y.2), (14, .int .i64 g.1)]) (fun g => lb.length - g.1) rfl (0, D1) ⟨Nat.zero_le _, .refl, hcp⟩ Ent.re ⟨rfl, rfl, rfl, rfl, rfl, rfl, rfl, rfl, trivial⟩ ?_
    rintro ⟨i, A⟩ ⟨hi, hA, hAc⟩
    dsimp only at hi hA hAc ⊢
    (refine w ?_; repeat ((first | refine VO.step rfl rfl ?_ | refine VD.end rfl rfl rfl ?_ | refine VD.mid rfl rfl rfl ?_); refine OpV.box rfl rfl rfl ?_; intro _; refine w ?_))
    (refine VC.cond rfl rfl ?_ ?_ <;> intro hc)
    · have hlt : i < lb.length := by have := of_decide_eq_true hc; omega
      obtain ⟨oa, rfl⟩ : ∃ oa, ao = some oa := by cases ao with | none => have := (hb0 []).rds.nil rfl; omega | some oa => exact ⟨oa, rfl⟩
      have hw := (hb0 []).wf lb[i] (List.getElem_mem hlt)
      have hbl := hm2 lb[i] (List.getElem_mem hlt)
      (refine w ?_; repeat ((first | refine VO.step rfl rfl ?_ | refine VD.end rfl rfl rfl ?_ | refine VD.mid rfl rfl rfl ?_); refine OpV.box rfl rfl rfl ?_; intro _; refine w ?_))
      (first | refine VO.pure rfl rfl (.ldRA tab_ok rfl rfl (hb0 _).rds (flat_part lb i hlt (fun _ _ => rfl)) rfl) rfl ?_ | refine VD.take rfl rfl rfl (.ldRA tab_ok rfl rfl (hb0 _).rds (flat_part lb i hlt (fun _ _ => rfl)) rfl) rfl ?_ | refine VQ.pure rfl rfl (.ldRA tab_ok rfl rfl (hb0 _).rds (flat_part lb i hlt (fun _ _ => rfl)) rfl) rfl ?_ | refine VD.end rfl rfl rfl (OpV.pure (.ldRA tab_ok rfl rfl (hb0 _).rds (flat_part lb i hlt (fun _ _ => rfl)) rfl) rfl ?_))
      (refine w ?_; repeat ((first | refine VO.step rfl rfl ?_ | refine VD.end rfl rfl rfl ?_ | refine VD.mid rfl rfl rfl ?_); refine OpV.box rfl rfl rfl ?_; intro _; refine w ?_))
      ((first | refine VO.step rfl rfl ?_ | refine VD.end rfl rfl rfl ?_ | refine VD.mid rfl rfl rfl ?_); refine OpV.allocS sb_35 rfl ?_; intro na)
      (refine w ?_; repeat ((first | refine VO.step rfl rfl ?_ | refine VD.end rfl rfl rfl ?_ | refine VD.mid rfl rfl rfl ?_); refine OpV.box rfl rfl rfl ?_; intro _; refine w ?_))
      (first | refine VO.step rfl rfl ?_ | refine VD.end rfl rfl rfl ?_ | refine VD.mid rfl rfl rfl ?_)
      refine OpV.stA (vs := lb[i].cells) tab_ok rfl rfl rfl rfl (bop_one _) (by (repeat first | exact .head | apply Hole.tail)) (by simp) ?_
      generalize ho : lb[i] = o at *
      refine VO.ent (Reord.ent (L := [Row na 35 o.cells, Own 3 1 (.slice y.1 (pendOf D1 s).length y.2) (pendOf D1 s).length (ints (pendOf D1 s)), OwnB x im.1, BayR a A]) (by (repeat first | exact .refl | (apply Reord.cons; focus repeat first | exact .head | apply Del.tail) | exact .nil | apply Reord.drop))) ?_
      (refine w ?_; repeat ((first | refine VO.step rfl rfl ?_ | refine VD.end rfl rfl rfl ?_ | refine VD.mid rfl rfl rfl ?_); refine OpV.box rfl rfl rfl ?_; intro _; refine w ?_))
      (refine VC.cond rfl rfl ?_ ?_ <;> intro hc)
      · (refine w ?_; repeat ((first | refine VO.step rfl rfl ?_ | refine VD.end rfl rfl rfl ?_ | refine VD.mid rfl rfl rfl ?_); refine OpV.box rfl rfl rfl ?_; intro _; refine w ?_))
        refine VE.round (i + 1, A) ⟨hlt, hA, hAc.mono (Nat.le_succ _)⟩ (by dsimp only; omega) ⟨rfl, rfl, rfl, rfl, rfl, rfl, rfl, asV rfl (by congr 1), trivial⟩ Ent.re
      have hne : o.slot ≠ s := by simpa using hc
      (refine w ?_; repeat ((first | refine VO.step rfl rfl ?_ | refine VD.end rfl rfl rfl ?_ | refine VD.mid rfl rfl rfl ?_); refine OpV.box rfl rfl rfl ?_; intro _; refine w ?_))
      refine VC.joinH [(0, .slice (some sa) l.length scap), (1, .slice (some oa) lb.length cap), (7, .pointer (some ⟨a, 0, none⟩)), (9, .int .i64 s), (11, sliceB x im.1), (12, .int .u16 im.2), (13, .slice y.1 (pendOf D1 s).length y.2), (14, .int .i64 i), (15, .pointer (some ⟨na, 0, none⟩)), (71, .int .i64 o.kind), (72, .bool (decide (o.kind = 1 ∨ o.kind = 2 ∨ o.kind = 3)))] ?_ ?_
      · intro Q2 jn
        (refine VC.cond rfl rfl ?_ ?_ <;> intro hc)
        · have h1 : o.kind = 1 := by simpa using hc
          (refine w ?_; repeat ((first | refine VO.step rfl rfl ?_ | refine VD.end rfl rfl rfl ?_ | refine VD.mid rfl rfl rfl ?_); refine OpV.box rfl rfl rfl ?_; intro _; refine w ?_))
          exact jn.to () trivial ⟨rfl, rfl, rfl, rfl, rfl, rfl, rfl, rfl, rfl, rfl, asV rfl (by simp [h1]), trivial⟩ Ent.re
        have h1 : ¬ o.kind = 1 := by simpa using hc
        (refine w ?_; repeat ((first | refine VO.step rfl rfl ?_ | refine VD.end rfl rfl rfl ?_ | refine VD.mid rfl rfl rfl ?_); refine OpV.box rfl rfl rfl ?_; intro _; refine w ?_))
        (refine VC.cond rfl rfl ?_ ?_ <;> intro hc)
        · have h2 : o.kind = 2 := by simpa using hc
          (refine w ?_; repeat ((first | refine VO.step rfl rfl ?_ | refine VD.end rfl rfl rfl ?_ | refine VD.mid rfl rfl rfl ?_); refine OpV.box rfl rfl rfl ?_; intro _; refine w ?_))
          exact jn.to () trivial ⟨rfl, rfl, rfl, rfl, rfl, rfl, rfl, rfl, rfl, rfl, asV rfl (by simp [h2]), trivial⟩ Ent.re
        have h2 : ¬ o.kind = 2 := by simpa using hc
        (refine w ?_; repeat ((first | refine VO.step rfl rfl ?_ | refine VD.end rfl rfl rfl ?_ | refine VD.mid rfl rfl rfl ?_); refine OpV.box rfl rfl rfl ?_; intro _; refine w ?_))
        exact jn.to () trivial ⟨rfl, rfl, rfl, rfl, rfl, rfl, rfl, rfl, rfl, rfl, asV rfl (by congr 1; rw [Bool.eq_iff_iff]; simp [h1, h2]), trivial⟩ Ent.re
      have hAc2 := hAc.mono (Nat.le_succ (i + 1))
      (refine VC.cond rfl rfl ?_ ?_ <;> intro hc)
      · (refine w ?_; repeat ((first | refine VO.step rfl rfl ?_ | refine VD.end rfl rfl rfl ?_ | refine VD.mid rfl rfl rfl ?_); refine OpV.box rfl rfl rfl ?_; intro _; refine w ?_))
        ((first | refine VO.step rfl rfl ?_ | refine VD.end rfl rfl rfl ?_ | refine VD.mid rfl rfl rfl ?_); refine OpV.call rfl rfl (fun _ _ => by simp) (plain_ok a A o hw (Nat.le_trans (dv_cap hAc _) (by omega))) Ent.re rfl ?_)
        intro z hz
        (refine w ?_; repeat ((first | refine VO.step rfl rfl ?_ | refine VD.end rfl rfl rfl ?_ | refine VD.mid rfl rfl rfl ?_); refine OpV.box rfl rfl rfl ?_; intro _; refine w ?_))
        refine VE.round (i + 1, (A.plain o.kind o.slot o.n o.b).2) ⟨hlt, hA.trans (still_plain hne _ _ _), plain_capd hAc _ _ _ _⟩ (by dsimp only; omega) ⟨rfl, rfl, rfl, rfl, rfl, rfl, rfl, asV rfl (by congr 1), trivial⟩ Ent.re
      (refine w ?_; repeat ((first | refine VO.step rfl rfl ?_ | refine VD.end rfl rfl rfl ?_ | refine VD.mid rfl rfl rfl ?_); refine OpV.box rfl rfl rfl ?_; intro _; refine w ?_))
      (refine VC.cond rfl rfl ?_ ?_ <;> intro hc)
      · (refine w ?_; repeat ((first | refine VO.step rfl rfl ?_ | refine VD.end rfl rfl rfl ?_ | refine VD.mid rfl rfl rfl ?_); refine OpV.box rfl rfl rfl ?_; intro _; refine w ?_))
        (((first | refine VO.step rfl rfl ?_ | refine VD.end rfl rfl rfl ?_ | refine VD.mid rfl rfl rfl ?_); refine OpV.call rfl rfl (fun _ _ => by simp) (bayfail_ok a A o.slot) Ent.re rfl ?_); intro _ _)
        (refine w ?_; repeat ((first | refine VO.step rfl rfl ?_ | refine VD.end rfl rfl rfl ?_ | refine VD.mid rfl rfl rfl ?_); refine OpV.box rfl rfl rfl ?_; intro _; refine w ?_))
        refine VE.round (i + 1, (A.fail o.slot).2) ⟨hlt, hA.trans (still_fail hne), fail_capd hAc2 _⟩ (by dsimp only; omega) ⟨rfl, rfl, rfl, rfl, rfl, rfl, rfl, asV rfl (by congr 1), trivial⟩ Ent.re
      (refine w ?_; repeat ((first | refine VO.step rfl rfl ?_ | refine VD.end rfl rfl rfl ?_ | refine VD.mid rfl rfl rfl ?_); refine OpV.box rfl rfl rfl ?_; intro _; refine w ?_))
      (refine VC.cond rfl rfl ?_ ?_ <;> intro hc)
      · (refine w ?_; repeat ((first | refine VO.step rfl rfl ?_ | refine VD.end rfl rfl rfl ?_ | refine VD.mid rfl rfl rfl ?_); refine OpV.box rfl rfl rfl ?_; intro _; refine w ?_))
        (((first | refine VO.step rfl rfl ?_ | refine VD.end rfl rfl rfl ?_ | refine VD.mid rfl rfl rfl ?_); refine OpV.call rfl rfl (fun _ _ => by simp) (baywear_ok a A o.slot o.n) Ent.re rfl ?_); intro _ _)
        (refine w ?_; repeat ((first | refine VO.step rfl rfl ?_ | refine VD.end rfl rfl rfl ?_ | refine VD.mid rfl rfl rfl ?_); refine OpV.box rfl rfl rfl ?_; intro _; refine w ?_))
        refine VE.round (i + 1, (A.wear o.slot o.n).2) ⟨hlt, hA.trans (still_wear hne _), wear_capd hAc2 _ _⟩ (by dsimp only; omega) ⟨rfl, rfl, rfl, rfl, rfl, rfl, rfl, asV rfl (by congr 1), trivial⟩ Ent.re
      (refine w ?_; repeat ((first | refine VO.step rfl rfl ?_ | refine VD.end rfl rfl rfl ?_ | refine VD.mid rfl rfl rfl ?_); refine OpV.box rfl rfl rfl ?_; intro _; refine w ?_))
      (refine VC.cond rfl rfl ?_ ?_ <;> intro hc)
      · (refine w ?_; repeat ((first | refine VO.step rfl rfl ?_ | refine VD.end rfl rfl rfl ?_ | refine VD.mid rfl rfl rfl ?_); refine OpV.box rfl rfl rfl ?_; intro _; refine w ?_))
        (((first | refine VO.step rfl rfl ?_ | refine VD.end rfl rfl rfl ?_ | refine VD.mid rfl rfl rfl ?_); refine OpV.call rfl rfl (fun _ _ => by simp) (bayswap_ok a A o.slot o.n) Ent.re rfl ?_); intro _ _)
        (refine w ?_; repeat ((first | refine VO.step rfl rfl ?_ | refine VD.end rfl rfl rfl ?_ | refine VD.mid rfl rfl rfl ?_); refine OpV.box rfl rfl rfl ?_; intro _; refine w ?_))
        refine VE.round (i + 1, (A.swap o.slot o.n).2) ⟨hlt, hA.trans (still_swap hne _), swap_capd hAc2 _ _⟩ (by dsimp only; omega) ⟨rfl, rfl, rfl, rfl, rfl, rfl, rfl, asV rfl (by congr 1), trivial⟩ Ent.re
      (refine w ?_; repeat ((first | refine VO.step rfl rfl ?_ | refine VD.end rfl rfl rfl ?_ | refine VD.mid rfl rfl rfl ?_); refine OpV.box rfl rfl rfl ?_; intro _; refine w ?_))
      (refine VC.cond rfl rfl ?_ ?_ <;> intro hc)
      · (refine w ?_; repeat ((first | refine VO.step rfl rfl ?_ | refine VD.end rfl rfl rfl ?_ | refine VD.mid rfl rfl rfl ?_); refine OpV.box rfl rfl rfl ?_; intro _; refine w ?_))
        (((first | refine VO.step rfl rfl ?_ | refine VD.end rfl rfl rfl ?_ | refine VD.mid rfl rfl rfl ?_); refine OpV.call rfl rfl (fun _ _ => by simp) (bayload_ok (l := o.b) a A o.slot hw.b (by omega) hw.bc) Ent.re rfl ?_); intro _ _)
        (refine w ?_; repeat ((first | refine VO.step rfl rfl ?_ | refine VD.end rfl rfl rfl ?_ | refine VD.mid rfl rfl rfl ?_); refine OpV.box rfl rfl rfl ?_; intro _; refine w ?_))
        refine VE.round (i + 1, (A.load o.slot o.b).2) ⟨hlt, hA.trans (still_lay hne _ _), load_capd hAc2 _ _⟩ (by dsimp only; omega) ⟨rfl, rfl, rfl, rfl, rfl, rfl, rfl, asV rfl (by congr 1), trivial⟩ Ent.re
      (refine w ?_; repeat ((first | refine VO.step rfl rfl ?_ | refine VD.end rfl rfl rfl ?_ | refine VD.mid rfl rfl rfl ?_); refine OpV.box rfl rfl rfl ?_; intro _; refine w ?_))
      (refine VC.cond rfl rfl ?_ ?_ <;> intro hc)
      · (refine w ?_; repeat ((first | refine VO.step rfl rfl ?_ | refine VD.end rfl rfl rfl ?_ | refine VD.mid rfl rfl rfl ?_); refine OpV.box rfl rfl rfl ?_; intro _; refine w ?_))
        (((first | refine VO.step rfl rfl ?_ | refine VD.end rfl rfl rfl ?_ | refine VD.mid rfl rfl rfl ?_); refine OpV.call rfl rfl (fun _ _ => by simp) (baypull_ok a A o.slot) Ent.re rfl ?_); intro _ _)
        (refine w ?_; repeat ((first | refine VO.step rfl rfl ?_ | refine VD.end rfl rfl rfl ?_ | refine VD.mid rfl rfl rfl ?_); refine OpV.box rfl rfl rfl ?_; intro _; refine w ?_))
        refine VE.round (i + 1, (A.pull o.slot).2) ⟨hlt, hA.trans (still_pull hne), pull_capd hAc2 _⟩ (by dsimp only; omega) ⟨rfl, rfl, rfl, rfl, rfl, rfl, rfl, asV rfl (by congr 1), trivial⟩ Ent.re
      (refine w ?_; repeat ((first | refine VO.step rfl rfl ?_ | refine VD.end rfl rfl rfl ?_ | refine VD.mid rfl rfl rfl ?_); refine OpV.box rfl rfl rfl ?_; intro _; refine w ?_))
      (refine VC.cond rfl rfl ?_ ?_ <;> intro hc)
      · (refine w ?_; repeat ((first | refine VO.step rfl rfl ?_ | refine VD.end rfl rfl rfl ?_ | refine VD.mid rfl rfl rfl ?_); refine OpV.box rfl rfl rfl ?_; intro _; refine w ?_))
        (((first | refine VO.step rfl rfl ?_ | refine VD.end rfl rfl rfl ?_ | refine VD.mid rfl rfl rfl ?_); refine OpV.call rfl rfl (fun _ _ => by simp) (baypush_ok a A o.slot) Ent.re rfl ?_); intro _ _)
        (refine w ?_; repeat ((first | refine VO.step rfl rfl ?_ | refine VD.end rfl rfl rfl ?_ | refine VD.mid rfl rfl rfl ?_); refine OpV.box rfl rfl rfl ?_; intro _; refine w ?_))
        refine VE.round (i + 1, (A.push o.slot).2) ⟨hlt, hA.trans (still_push hne), push_capd hAc2 _⟩ (by dsimp only; omega) ⟨rfl, rfl, rfl, rfl, rfl, rfl, rfl, asV rfl (by congr 1), trivial⟩ Ent.re
      · (refine w ?_; repeat ((first | refine VO.step rfl rfl ?_ | refine VD.end rfl rfl rfl ?_ | refine VD.mid rfl rfl rfl ?_); refine OpV.box rfl rfl rfl ?_; intro _; refine w ?_))
        refine VE.round (i + 1, A) ⟨hlt, hA, hAc2⟩ (by dsimp only; omega) ⟨rfl, rfl, rfl, rfl, rfl, rfl, rfl, asV rfl (by congr 1), trivial⟩ Ent.re
    · (refine w ?_; repeat ((first | refine VO.step rfl rfl ?_ | refine VD.end rfl rfl rfl ?_ | refine VD.mid rfl rfl rfl ?_); refine OpV.box rfl rfl rfl ?_; intro _; refine w ?_))
      ((first | refine VO.step rfl rfl ?_ | refine VD.end rfl rfl rfl ?_ | refine VD.mid rfl rfl rfl ?_); refine OpV.call rfl rfl (fun _ _ => by simp) (bayimage_ok a A s) Ent.re rfl ?_)
      intro z hz
      rw [still_image hA, him] at hz ⊢
      (refine w ?_; repeat ((first | refine VO.step rfl rfl ?_ | refine VD.end rfl rfl rfl ?_ | refine VD.mid rfl rfl rfl ?_); refine OpV.box rfl rfl rfl ?_; intro _; refine w ?_))
      (refine VC.drawn [6, 12, 13, 18, 29] 34 [0, 1, 2, 3, 4, 5, 6, 7, 8, 9, 10, 11, 12, 13, 14, 15, 16, 17, 19, 20, 21, 22, 23, 18, 24, 25, 26, 27, 28, 30, 31, 32, 33, 29, 34, 35, 36] _ rfl (by kernel_rfl) (by kernel_rfl) Ent.re ?_)
      (refine w ?_; repeat ((first | refine VO.step rfl rfl ?_ | refine VD.end rfl rfl rfl ?_ | refine VD.mid rfl rfl rfl ?_); refine OpV.box rfl rfl rfl ?_; intro _; refine w ?_))
      (first | refine VO.gT rfl rfl rfl (by simp) ?_ | refine VD.gT rfl rfl rfl (by simp) ?_)
      (refine w ?_; repeat ((first | refine VO.step rfl rfl ?_ | refine VD.end rfl rfl rfl ?_ | refine VD.mid rfl rfl rfl ?_); refine OpV.box rfl rfl rfl ?_; intro _; refine w ?_))
      refine VD.know (fun w hw => hw.ownMax (show OwnB x im.1 ∈ _ by (focus repeat first | exact .head _ | apply List.Mem.tail)) : ∀ w, _ → im.1.length ≤ maxLen) ?_
      intro hml
      refine VD.ent (Reord.ent (L := [OwnB x im.1, OwnB z im.1, BayR a A, Own 3 1 (.slice y.1 (pendOf D1 s).length y.2) (pendOf D1 s).length (ints (pendOf D1 s))]) (by (repeat first | exact .refl | (apply Reord.cons; focus repeat first | exact .head | apply Del.tail) | exact .nil | apply Reord.drop))) ?_
      ((first | refine VO.step rfl rfl ?_ | refine VD.end rfl rfl rfl ?_ | refine VD.mid rfl rfl rfl ?_); refine OpV.call rfl rfl (fun _ _ => by simp) (same_any (a := im.1) (b := im.1) (Rds.own (bytes_one _) (.head _) (by simp) hx) (Rds.own (bytes_one _) (.tail _ (.head _)) (by simp) hz) hml) Ent.refl rfl ?_; intro _ _)
      (refine w ?_; repeat ((first | refine VO.step rfl rfl ?_ | refine VD.end rfl rfl rfl ?_ | refine VD.mid rfl rfl rfl ?_); refine OpV.box rfl rfl rfl ?_; intro _; refine w ?_))
      (first | refine VO.gT rfl rfl rfl (by simp) ?_ | refine VD.gT rfl rfl rfl (by simp) ?_)
      (refine w ?_; repeat ((first | refine VO.step rfl rfl ?_ | refine VD.end rfl rfl rfl ?_ | refine VD.mid rfl rfl rfl ?_); refine OpV.box rfl rfl rfl ?_; intro _; refine w ?_))
      ((first | refine VO.step rfl rfl ?_ | refine VD.end rfl rfl rfl ?_ | refine VD.mid rfl rfl rfl ?_); refine OpV.call rfl rfl (fun _ _ => by simp) (baypending_ok a A s (hcd hA)) Ent.re rfl ?_)
      intro u hu
      rw [hA.dev] at hu ⊢
      (refine w ?_; repeat ((first | refine VO.step rfl rfl ?_ | refine VD.end rfl rfl rfl ?_ | refine VD.mid rfl rfl rfl ?_); refine OpV.box rfl rfl rfl ?_; intro _; refine w ?_))
      refine VD.know (fun w hw => hw.ownMax (show Own 3 1 (.slice y.1 (pendOf D1 s).length y.2) (pendOf D1 s).length (ints (pendOf D1 s)) ∈ _ by (focus repeat first | exact .head _ | apply List.Mem.tail)) : ∀ w, _ → (pendOf D1 s).length ≤ maxLen) ?_
      intro hml2
      refine VD.ent (Reord.ent (L := [Own 3 1 (.slice u.1 (pendOf D1 s).length u.2) (pendOf D1 s).length (ints (pendOf D1 s)), Own 3 1 (.slice y.1 (pendOf D1 s).length y.2) (pendOf D1 s).length (ints (pendOf D1 s)), OwnB x im.1, OwnB z im.1, BayR a A]) (by (repeat first | exact .refl | (apply Reord.cons; focus repeat first | exact .head | apply Del.tail) | exact .nil | apply Reord.drop))) ?_
      ((first | refine VO.step rfl rfl ?_ | refine VD.end rfl rfl rfl ?_ | refine VD.mid rfl rfl rfl ?_); refine OpV.call rfl rfl (fun _ _ => by simp) (sameints_any (a := pendOf D1 s) (b := pendOf D1 s) (Rds.own (ints_one _) (.tail _ (.head _)) (by simp) hy) (Rds.own (ints_one _) (.head _) (by rw [ints_length, Nat.mul_one]; rfl) hu) hml2) Ent.refl rfl ?_; intro _ _)
      (refine w ?_; repeat ((first | refine VO.step rfl rfl ?_ | refine VD.end rfl rfl rfl ?_ | refine VD.mid rfl rfl rfl ?_); refine OpV.box rfl rfl rfl ?_; intro _; refine w ?_))
      (first | refine VO.gT rfl rfl rfl (by simp) ?_ | refine VD.gT rfl rfl rfl (by simp) ?_)
      (refine w ?_; repeat ((first | refine VO.step rfl rfl ?_ | refine VD.end rfl rfl rfl ?_ | refine VD.mid rfl rfl rfl ?_); refine OpV.box rfl rfl rfl ?_; intro _; refine w ?_))
      (first | refine VO.pure rfl rfl (.ldRc tab_ok rfl rfl (hs _) (intsI_get l s hslt)) rfl ?_ | refine VD.take rfl rfl rfl (.ldRc tab_ok rfl rfl (hs _) (intsI_get l s hslt)) rfl ?_ | refine VQ.pure rfl rfl (.ldRc tab_ok rfl rfl (hs _) (intsI_get l s hslt)) rfl ?_ | refine VD.end rfl rfl rfl (OpV.pure (.ldRc tab_ok rfl rfl (hs _) (intsI_get l s hslt)) rfl ?_))
      (refine w ?_; repeat ((first | refine VO.step rfl rfl ?_ | refine VD.end rfl rfl rfl ?_ | refine VD.mid rfl rfl rfl ?_); refine OpV.box rfl rfl rfl ?_; intro _; refine w ?_))
      (((first | refine VO.step rfl rfl ?_ | refine VD.end rfl rfl rfl ?_ | refine VD.mid rfl rfl rfl ?_); refine OpV.call rfl rfl (fun _ _ => by simp) (bayhas_ok a A s) Ent.re rfl ?_); intro _ _)
      rw [hA.dev, hhas]
      (refine w ?_; repeat ((first | refine VO.step rfl rfl ?_ | refine VD.end rfl rfl rfl ?_ | refine VD.mid rfl rfl rfl ?_); refine OpV.box rfl rfl rfl ?_; intro _; refine w ?_))
      (first | refine VO.gT rfl rfl rfl (by simp) ?_ | refine VD.gT rfl rfl rfl (by simp) ?_)
      (refine w ?_; repeat ((first | refine VO.step rfl rfl ?_ | refine VD.end rfl rfl rfl ?_ | refine VD.mid rfl rfl rfl ?_); refine OpV.box rfl rfl rfl ?_; intro _; refine w ?_))
      (first | refine VO.pure rfl rfl (.ldRc tab_ok rfl rfl (hs _) (intsI_get l s hslt)) rfl ?_ | refine VD.take rfl rfl rfl (.ldRc tab_ok rfl rfl (hs _) (intsI_get l s hslt)) rfl ?_ | refine VQ.pure rfl rfl (.ldRc tab_ok rfl rfl (hs _) (intsI_get l s hslt)) rfl ?_ | refine VD.end rfl rfl rfl (OpV.pure (.ldRc tab_ok rfl rfl (hs _) (intsI_get l s hslt)) rfl ?_))
      (refine w ?_; repeat ((first | refine VO.step rfl rfl ?_ | refine VD.end rfl rfl rfl ?_ | refine VD.mid rfl rfl rfl ?_); refine OpV.box rfl rfl rfl ?_; intro _; refine w ?_))
      (((first | refine VO.step rfl rfl ?_ | refine VD.end rfl rfl rfl ?_ | refine VD.mid rfl rfl rfl ?_); refine OpV.call rfl rfl (fun _ _ => by simp) (baysectors_ok a A s) Ent.re rfl ?_); intro _ _)
      rw [hA.dev]
      (refine w ?_; repeat ((first | refine VO.step rfl rfl ?_ | refine VD.end rfl rfl rfl ?_ | refine VD.mid rfl rfl rfl ?_); refine OpV.box rfl rfl rfl ?_; intro _; refine w ?_))
      (refine VE.done1 rfl ?_ ?_)
      · rw [hsec]; simp
      · exact Reord.ent .nil
  · obtain rfl : x = none := by cases x with | none => rfl | some b => simp [hE] at hx
    dsimp only [Option.elim_none]
    (refine w ?_; repeat ((first | refine VO.step rfl rfl ?_ | refine VD.end rfl rfl rfl ?_ | refine VD.mid rfl rfl rfl ?_); refine OpV.box rfl rfl rfl ?_; intro _; refine w ?_))
    ((first | refine VO.step rfl rfl ?_ | refine VD.end rfl rfl rfl ?_ | refine VD.mid rfl rfl rfl ?_); refine OpV.call rfl rfl (fun _ _ => by simp) (bknown_ok) Ent.refl rfl ?_; intro _ _)
    (refine w ?_; repeat ((first | refine VO.step rfl rfl ?_ | refine VD.end rfl rfl rfl ?_ | refine VD.mid rfl rfl rfl ?_); refine OpV.box rfl rfl rfl ?_; intro _; refine w ?_))
    (refine VC.condTe rfl rfl (by simpa using hE) ?_)
    (refine w ?_; repeat ((first | refine VO.step rfl rfl ?_ | refine VD.end rfl rfl rfl ?_ | refine VD.mid rfl rfl rfl ?_); refine OpV.box rfl rfl rfl ?_; intro _; refine w ?_))
    (refine VE.done1 rfl ?_ ?_)
    · rfl
    · exact Ent.refl
end Go.Proofs.Ytbmcgmicnfbckaa
