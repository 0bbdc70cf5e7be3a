/- The document's disk: Pending, Read, lasts, Flush, Crash. -/
import Derived.Test.YthefmgmgmoanlaaRe
set_option maxRecDepth 8000
set_option linter.unusedVariables false
set_option linter.unusedSimpArgs false
set_option linter.unusedSectionVars false
namespace Go.Proofs.Ythefmgmgmoanlaa
open Go.RowKit Go.Sl
attribute [local irreducible] Own

theorem wcs_get : ∀ (C : List (Nat × ListE)) (i : Nat) (h : i < C.length), (wcs C)[i * 2 + 0]? = some (.int .i64 (C[i].1 : Int)) ∧ (wcs C)[i * 2 + 1]? = some C[i].2.hdr
  | c :: r, 0, _ => ⟨rfl, rfl⟩
  | c :: r, i + 1, h => by
    have := wcs_get r i (by simpa using h)
    have e : wcs (c :: r) = [.int .i64 (c.1 : Int), c.2.hdr] ++ wcs r := rfl
    rw [e, List.getElem?_append_right (by simp; omega), List.getElem?_append_right (by simp; omega)]
    simpa [show (i + 1) * 2 + 1 - 2 = i * 2 + 1 by omega, show (i + 1) * 2 - 2 = i * 2 by omega] using this
theorem wcs_length (C : List (Nat × ListE)) : (wcs C).length = C.length * 2 := by
  induction C with
  | nil => rfl
  | cons c r ih =>
    have e : wcs (c :: r) = [.int .i64 (c.1 : Int), c.2.hdr] ++ wcs r := rfl
    rw [e, List.length_append, ih, List.length_cons]; simp only [List.length_cons, List.length_nil]; omega
theorem wcs_one (C : List (Nat × ListE)) : ∀ u ∈ wcs C, u.oneCell' = true := by
  intro u hu
  obtain ⟨c, _, h⟩ := List.mem_flatMap.1 hu
  simp only [List.mem_cons, List.not_mem_nil, or_false] at h
  rcases h with h | h <;> subst h <;> rfl
theorem fits_get {k : DiskD} {C : List (Nat × ListE)} (hf : Fits k C) : C.length = k.cache.length ∧ ∀ i (h : i < C.length) (h2 : i < k.cache.length), C[i].1 = k.cache[i].1 ∧ C[i].2.xs = bytes k.cache[i].2 := by
  have hl : C.length = k.cache.length := by have := congrArg List.length hf; simpa using this
  refine ⟨hl, fun i h h2 => ?_⟩
  have := congrArg (·[i]?) hf
  simpa [h, h2] using this
theorem C_none {W w : World} {H : List SProp} {C : List (Nat × ListE)} (hw : Holds W H w) (hm : ∀ c ∈ C, c.2.res ∈ H) : ∀ c ∈ C, c.2.ao = none → c.2.xs.length = 0 := fun c hc => hw.ownNone (hm c hc)
theorem C_rds {W : World} {H : List SProp} {C : List (Nat × ListE)} (hm : ∀ c ∈ C, c.2.res ∈ H) (hn : ∀ c ∈ C, c.2.ao = none → c.2.xs.length = 0) {c : Nat × ListE} (hc : c ∈ C) {b : List UInt8} (hx : c.2.xs = bytes b) (hb : b.length = 128) : Rds W H 1 c.2.ao 128 (bytes b) := by
  have hl : c.2.xs.length = 128 := by rw [hx, bytes_length, hb]
  have h1 := hm c hc
  unfold ListE.res at h1
  rw [hl, hx] at h1
  exact Rds.own (bytes_one _) h1 (by rw [bytes_length, hb]) (fun h => by have := hn c hc h; omega)

set_option maxHeartbeats 1000000 in
theorem docpending_ok {W : World} {R : List SProp} (d : Nat) (k : DiskD) (hcl : k.cache.length ≤ 1000000) :
    Does W Try.prog 105 [.pointer (some ⟨d, 0, none⟩)] (DocR d k :: R) (β := Option Addr × Nat) (fun _ => True) (fun x => .slice x.1 k.cache.length x.2)
      (fun x => Own 3 1 (.slice x.1 k.cache.length x.2) k.cache.length (ints (k.cache.map (·.1))) :: DocR d k :: R) := by
  (refine Does.enter Try.func105 Try.ntmps105 rfl rfl ?_)
  refine VC.obtain (fun w => DocR.open) ?_
  rintro ⟨⟨⟨lo, lc⟩, ⟨co, cc⟩, C⟩, hk, hf⟩
  have hf : Fits k C := hf
  obtain ⟨hCl, hCg⟩ := fits_get hf
  dsimp only [DocO]
  refine VC.know (p := co = none → C.length = 0) (fun w hw => Holds.ownNone hw (.tail _ (.tail _ (.head _)))) ?_
  intro hcn
  (refine w ?_; repeat ((first | refine VO.step rfl rfl ?_ | refine VD.end rfl rfl rfl ?_ | refine VD.mid rfl rfl rfl ?_); refine OpV.box rfl rfl rfl ?_; intro _; refine w ?_))
  refine VC.loop (α := Nat × Option Addr × Nat) (fun g => g.1 ≤ C.length)
    (fun g => Own 3 1 (.slice g.2.1 g.1 g.2.2) g.1 (ints ((k.cache.take g.1).map (·.1))) :: DocO d k lo lc co cc C R)
    (fun g => [(0, .pointer (some ⟨d, 0, none⟩)), (3, .slice g.2.1 g.1 g.2.2), (4, .int .i64 g.1)]) (fun g => C.length - g.1) rfl (0, none, 0) (Nat.zero_le _) (fun w hw => hw.ownNil _ _) ⟨rfl, rfl, rfl, trivial⟩ ?_
  rintro ⟨i, ao, cap⟩ hi
  have hi : i ≤ C.length := hi
  dsimp only [DocO]
  (refine w ?_; repeat ((first | refine VO.step rfl rfl ?_ | refine VD.end rfl rfl rfl ?_ | refine VD.mid rfl rfl rfl ?_); refine OpV.box rfl rfl rfl ?_; intro _; refine w ?_))
  (refine VC.cond rfl rfl ?_ ?_ <;> intro hc)
  · have hlt : i < C.length := by have := of_decide_eq_true hc; omega
    have hlt2 : i < k.cache.length := by omega
    obtain ⟨a, rfl⟩ : ∃ a, co = some a := by cases co with | none => have := hcn rfl; omega | some a => exact ⟨a, rfl⟩
    have e : ints ((k.cache.take i).map (·.1)) ++ [.int .i64 (C[i].1 : Int)] = ints ((k.cache.take (i + 1)).map (·.1)) := by
      rw [List.take_succ_eq_append_getElem hlt2, List.map_append, (hCg i hlt hlt2).1]; simp only [ints, List.map_append]; rfl
    (refine w ?_; repeat ((first | refine VO.step rfl rfl ?_ | refine VD.end rfl rfl rfl ?_ | refine VD.mid rfl rfl rfl ?_); refine OpV.box rfl rfl rfl ?_; intro _; refine w ?_))
    (first | refine VO.pure rfl rfl (PureAt.ldRc tab_ok rfl rfl (Rds.own (wcs_one C) (.tail _ (.tail _ (.tail _ (.head _)))) (wcs_length C) hcn) (wcs_get C i hlt).1) rfl ?_ | refine VD.take rfl rfl rfl (PureAt.ldRc tab_ok rfl rfl (Rds.own (wcs_one C) (.tail _ (.tail _ (.tail _ (.head _)))) (wcs_length C) hcn) (wcs_get C i hlt).1) rfl ?_ | refine VQ.pure rfl rfl (PureAt.ldRc tab_ok rfl rfl (Rds.own (wcs_one C) (.tail _ (.tail _ (.tail _ (.head _)))) (wcs_length C) hcn) (wcs_get C i hlt).1) rfl ?_ | refine VD.end rfl rfl rfl (OpV.pure (PureAt.ldRc tab_ok rfl rfl (Rds.own (wcs_one C) (.tail _ (.tail _ (.tail _ (.head _)))) (wcs_length C) hcn) (wcs_get C i hlt).1) rfl ?_))
    (refine w ?_; repeat ((first | refine VO.step rfl rfl ?_ | refine VD.end rfl rfl rfl ?_ | refine VD.mid rfl rfl rfl ?_); refine OpV.box rfl rfl rfl ?_; intro _; refine w ?_))
    ((first | refine VO.step rfl rfl ?_ | refine VD.end rfl rfl rfl ?_ | refine VD.mid rfl rfl rfl ?_); refine OpV.buildSlice1 st_61 rfl rfl (by first | (simp; done) | simp [Value.oneCell']) (by decide) rfl ?_; intro nb)
    ((first | refine VO.step rfl rfl ?_ | refine VD.end rfl rfl rfl ?_ | refine VD.mid rfl rfl rfl ?_); refine OpV.appendRow st_61 rfl rfl (by (repeat first | exact .head | apply Hole.tail)) (by (focus repeat first | exact .head _ | apply List.Mem.tail)) rfl (by first | (simp; done) | simp [Value.oneCell']) ?_ ?_ rfl ?_)
    · simp only [maxLen]; omega
    · omega
    intro ao' cap'
    rw [e]
    (refine w ?_; repeat ((first | refine VO.step rfl rfl ?_ | refine VD.end rfl rfl rfl ?_ | refine VD.mid rfl rfl rfl ?_); refine OpV.box rfl rfl rfl ?_; intro _; refine w ?_))
    exact VE.round (i + 1, ao', cap') hlt (by simp only; omega) ⟨rfl, rfl, rfl, trivial⟩ (fun w hw => hw.tail)
  · have hge : i = C.length := by have := of_decide_eq_false hc; omega
    subst hge
    rw [List.take_of_length_le (Nat.le_of_eq hCl.symm), hCl]
    (refine w ?_; repeat ((first | refine VO.step rfl rfl ?_ | refine VD.end rfl rfl rfl ?_ | refine VD.mid rfl rfl rfl ?_); refine OpV.box rfl rfl rfl ?_; intro _; refine w ?_))
    refine VE.done (ao, cap) rfl trivial rfl ?_
    intro w hw
    rw [← hCl] at hw ⊢
    exact (DocR.shut (R := Own 3 1 (.slice ao C.length cap) C.length (ints (k.cache.map (·.1))) :: R) hk hf w (hw.perm (List.perm_middle (l₁ := _ :: _ :: _ :: C.map (fun c => c.2.res))).symm)).swap

theorem docread_bad {W : World} {R : List SProp} (d : Nat) (k : DiskD) (at_ : Int) (h : k.may at_ ≠ 0) :
    Does1 W Try.prog 97 [.pointer (some ⟨d, 0, none⟩), .int .i64 at_] (DocR d k :: R) (.tuple #[.slice none 0 0, .int .i64 (k.may at_)]) (DocR d k :: R) := by
  (refine Does.enter Try.func97 Try.ntmps97 rfl rfl ?_)
  refine VC.obtain (fun w => DocR.open) ?_
  rintro ⟨⟨⟨lo, lc⟩, ⟨co, cc⟩, C⟩, hk, hf⟩
  have hfl := flat_len hk
  have hs := hk.size
  dsimp only [DocO]
  (refine w ?_; repeat ((first | refine VO.step rfl rfl ?_ | refine VD.end rfl rfl rfl ?_ | refine VD.mid rfl rfl rfl ?_); refine OpV.box rfl rfl rfl ?_; intro _; refine w ?_))
  (refine VC.cond rfl rfl ?_ ?_ <;> intro hc)
  · have hfa : k.failed = true := hc
    (refine w ?_; repeat ((first | refine VO.step rfl rfl ?_ | refine VD.end rfl rfl rfl ?_ | refine VD.mid rfl rfl rfl ?_); refine OpV.box rfl rfl rfl ?_; intro _; refine w ?_))
    (refine VE.done1 rfl ?_ ?_)
    · simp [DiskD.may, hfa]
    · exact DocR.shut hk hf
  have hfa : k.failed = false := hc
  (refine w ?_; repeat ((first | refine VO.step rfl rfl ?_ | refine VD.end rfl rfl rfl ?_ | refine VD.mid rfl rfl rfl ?_); refine OpV.box rfl rfl rfl ?_; intro _; refine w ?_))
  ((first | refine VO.split rfl rfl rfl ?_ ?_ | refine VD.split rfl rfl rfl ?_ ?_) <;> intro hb)
  · have h0 : at_ < 0 := by have := ‹decide (at_ < 0) = true›; exact of_decide_eq_true this
    (refine w ?_; repeat ((first | refine VO.step rfl rfl ?_ | refine VD.end rfl rfl rfl ?_ | refine VD.mid rfl rfl rfl ?_); refine OpV.box rfl rfl rfl ?_; intro _; refine w ?_))
    (refine VE.done1 rfl ?_ ?_)
    · simp [DiskD.may, hfa, h0]
    · exact DocR.shut hk hf
  have h0 : ¬ at_ < 0 := by have := ‹decide (at_ < 0) = false›; exact of_decide_eq_false this
  (refine w ?_; repeat ((first | refine VO.step rfl rfl ?_ | refine VD.end rfl rfl rfl ?_ | refine VD.mid rfl rfl rfl ?_); refine OpV.box rfl rfl rfl ?_; intro _; refine w ?_))
  (first | refine VO.pure rfl rfl (PureAt.quo (b := 128) rfl rfl (by decide) (IntWalk.i64_in _ ⟨by omega, by omega⟩)) rfl ?_ | refine VD.take rfl rfl rfl (PureAt.quo (b := 128) rfl rfl (by decide) (IntWalk.i64_in _ ⟨by omega, by omega⟩)) rfl ?_ | refine VQ.pure rfl rfl (PureAt.quo (b := 128) rfl rfl (by decide) (IntWalk.i64_in _ ⟨by omega, by omega⟩)) rfl ?_ | refine VD.end rfl rfl rfl (OpV.pure (PureAt.quo (b := 128) rfl rfl (by decide) (IntWalk.i64_in _ ⟨by omega, by omega⟩)) rfl ?_))
  (refine w ?_; repeat ((first | refine VO.step rfl rfl ?_ | refine VD.end rfl rfl rfl ?_ | refine VD.mid rfl rfl rfl ?_); refine OpV.box rfl rfl rfl ?_; intro _; refine w ?_))
  have hge : (k.last.length : Int) ≤ at_ := by
    unfold DiskD.may at h
    rw [hfa, if_neg (by simp)] at h
    split at h
    · rename_i q; omega
    · exact absurd rfl h
  (refine VC.condTe rfl rfl (by rw [hfl, Nat.mul_div_cancel _ (by decide)]; simpa using hge) ?_)
  (refine w ?_; repeat ((first | refine VO.step rfl rfl ?_ | refine VD.end rfl rfl rfl ?_ | refine VD.mid rfl rfl rfl ?_); refine OpV.box rfl rfl rfl ?_; intro _; refine w ?_))
  (refine VE.done1 rfl ?_ ?_)
  · simp [DiskD.may, hfa, hge]
  · exact DocR.shut hk hf

theorem look_take {k : DiskD} (i : Nat) (h : i < k.cache.length) (a : Nat) : (DiskD.mk k.last (k.cache.take (i + 1)) k.failed).look a = if a = k.cache[i].1 then k.cache[i].2 else (DiskD.mk k.last (k.cache.take i) k.failed).look a := by
  have := DiskD.look_write (DiskD.mk k.last (k.cache.take i) k.failed) k.cache[i].1 k.cache[i].2 a
  rw [← this]
  unfold DiskD.write
  rw [List.take_succ_eq_append_getElem h]
theorem flat_sec {l : List (List UInt8)} (h8 : ∀ b ∈ l, b.length = 128) (a : Nat) (ha : a < l.length) : ((bytes l.flatten).drop (a * 128)).take 128 = bytes l[a] := by
  rw [bytes_flatten]
  exact flat_part (g := bytes) l a ha (fun b h => by simp [h8 b h])

set_option maxHeartbeats 2000000 in
theorem docread_ok {W : World} {R : List SProp} (d : Nat) (k : DiskD) (a : Nat) (hfa : k.failed = false) (ha : a < k.last.length) (hcl : k.cache.length ≤ 1000000) :
    Does W Try.prog 97 [.pointer (some ⟨d, 0, none⟩), .int .i64 a] (DocR d k :: R) (β := Option Addr × Nat) (fun _ => True) (fun x => .tuple #[.slice x.1 128 x.2, .int .i64 0])
      (fun x => Own 5 1 (.slice x.1 128 x.2) 128 (bytes (k.look a)) :: DocR d k :: R) := by
  (refine Does.enter Try.func97 Try.ntmps97 rfl rfl ?_)
  refine VC.obtain (fun w => DocR.open) ?_
  rintro ⟨⟨⟨lo, lc⟩, ⟨co, cc⟩, C⟩, hk, hf⟩
  have hfl := flat_len hk
  have hs := hk.size
  have hf : Fits k C := hf
  obtain ⟨hCl, hCg⟩ := fits_get hf
  refine VC.know (p := co = none → C.length = 0) (fun w hw => Holds.ownNone hw (.tail _ (.tail _ (.head _)))) ?_
  intro hcn
  refine VC.know (p := lo = none → k.last.flatten.length = 0) (fun w hw => Holds.ownNone hw (.tail _ (.head _))) ?_
  intro hln
  refine VC.know (p := k.last.flatten.length ≤ lc) (fun w hw => Holds.ownCap hw (.tail _ (.head _))) ?_
  intro hlc
  have hmem : ∀ c ∈ C, c.2.res ∈ DocO d k lo lc co cc C R := fun c hc => .tail _ (.tail _ (.tail _ (List.mem_append_left _ (List.mem_map.2 ⟨c, hc, rfl⟩))))
  refine VC.know (p := ∀ c ∈ C, c.2.ao = none → c.2.xs.length = 0) (fun w hw => C_none hw hmem) ?_
  intro hnn
  have hrl : Rds W (DocO d k lo lc co cc C R) 1 lo k.last.flatten.length (bytes k.last.flatten) := Rds.own (bytes_one _) (.tail _ (.head _)) (by rw [bytes_length, Nat.mul_one]) hln
  generalize hH : DocO d k lo lc co cc C R = H at hmem hrl
  have hH' := hH
  dsimp only [DocO] at hH'
  subst hH'
  (refine w ?_; repeat ((first | refine VO.step rfl rfl ?_ | refine VD.end rfl rfl rfl ?_ | refine VD.mid rfl rfl rfl ?_); refine OpV.box rfl rfl rfl ?_; intro _; refine w ?_))
  (refine VC.condFe rfl rfl (hfa) ?_)
  (refine w ?_; repeat ((first | refine VO.step rfl rfl ?_ | refine VD.end rfl rfl rfl ?_ | refine VD.mid rfl rfl rfl ?_); refine OpV.box rfl rfl rfl ?_; intro _; refine w ?_))
  (first | refine VO.pure rfl rfl (PureAt.quo (b := 128) rfl rfl (by decide) (IntWalk.i64_in _ ⟨by omega, by omega⟩)) rfl ?_ | refine VD.take rfl rfl rfl (PureAt.quo (b := 128) rfl rfl (by decide) (IntWalk.i64_in _ ⟨by omega, by omega⟩)) rfl ?_ | refine VQ.pure rfl rfl (PureAt.quo (b := 128) rfl rfl (by decide) (IntWalk.i64_in _ ⟨by omega, by omega⟩)) rfl ?_ | refine VD.end rfl rfl rfl (OpV.pure (PureAt.quo (b := 128) rfl rfl (by decide) (IntWalk.i64_in _ ⟨by omega, by omega⟩)) rfl ?_))
  (refine w ?_; repeat ((first | refine VO.step rfl rfl ?_ | refine VD.end rfl rfl rfl ?_ | refine VD.mid rfl rfl rfl ?_); refine OpV.box rfl rfl rfl ?_; intro _; refine w ?_))
  (refine VC.condFe rfl rfl (by rw [hfl, Nat.mul_div_cancel _ (by decide)]; simp; omega) ?_)
  (refine w ?_; repeat ((first | refine VO.step rfl rfl ?_ | refine VD.end rfl rfl rfl ?_ | refine VD.mid rfl rfl rfl ?_); refine OpV.box rfl rfl rfl ?_; intro _; refine w ?_))
  refine VO.re 30 (.int .i64 ((128 * a : Nat) : Int)) rfl (by congr 1) ?_
  refine VO.re 33 (.int .i64 ((128 * a + 128 : Nat) : Int)) rfl (by congr 1) ?_
  (refine w ?_; repeat ((first | refine VO.step rfl rfl ?_ | refine VD.end rfl rfl rfl ?_ | refine VD.mid rfl rfl rfl ?_); refine OpV.box rfl rfl rfl ?_; intro _; refine w ?_))
  have hsub : Rds W (DocO d k lo lc co cc C R) 1 (subA lo lc (128 * a) 1) (128 * a + 128 - 128 * a) _ := hrl.sub (by omega) (by omega) hlc
  rw [show 128 * a + 128 - 128 * a = 128 by omega] at hsub
  simp only [Nat.mul_one] at hsub
  rw [Nat.mul_comm 128 a, flat_sec hk.last a ha] at hsub
  rw [show 128 * a + 128 - 128 * a = 128 by omega, Nat.mul_comm 128 a]
  refine VC.loop (α := Nat × Option Addr × Nat) (fun g => g.1 ≤ C.length ∧ Rds W (DocO d k lo lc co cc C R) 1 g.2.1 128 (bytes ((DiskD.mk k.last (k.cache.take g.1) k.failed).look a)))
    (fun g => DocO d k lo lc co cc C R)
    (fun g => [(0, .pointer (some ⟨d, 0, none⟩)), (1, .int .i64 a), (6, .slice g.2.1 128 g.2.2), (7, .int .i64 g.1)]) (fun g => C.length - g.1) rfl (0, subA lo lc (a * 128) 1, lc - a * 128) ⟨Nat.zero_le _, ?_⟩ Ent.refl ⟨rfl, rfl, rfl, rfl, trivial⟩ ?_
  · rw [List.take_zero, DiskD.look_clean rfl, List.getElem?_eq_getElem ha]; exact hsub
  rintro ⟨i, ao, cap⟩ ⟨hi, hr⟩
  dsimp only at hi hr ⊢
  dsimp only [DocO]
  (refine w ?_; repeat ((first | refine VO.step rfl rfl ?_ | refine VD.end rfl rfl rfl ?_ | refine VD.mid rfl rfl rfl ?_); refine OpV.box rfl rfl rfl ?_; intro _; refine w ?_))
  (refine VC.cond rfl rfl ?_ ?_ <;> intro hc)
  · have hlt : i < C.length := by have := of_decide_eq_true hc; omega
    have hlt2 : i < k.cache.length := by omega
    obtain ⟨c, rfl⟩ : ∃ c, co = some c := by cases co with | none => have := hcn rfl; omega | some c => exact ⟨c, rfl⟩
    have hg := hCg i hlt hlt2
    have hx2 : k.cache[i].2.length = 128 := (hk.cache _ (List.getElem_mem hlt2)).2
    have hxl : C[i].2.xs.length = 128 := by rw [hg.2, bytes_length, hx2]
    have hrc : Rds W (DocO d k lo lc (some c) cc C R) 2 (some c) C.length (wcs C) := Rds.own (wcs_one C) (.tail _ (.tail _ (.head _))) (wcs_length C) hcn
    (refine w ?_; repeat ((first | refine VO.step rfl rfl ?_ | refine VD.end rfl rfl rfl ?_ | refine VD.mid rfl rfl rfl ?_); refine OpV.box rfl rfl rfl ?_; intro _; refine w ?_))
    (first | refine VO.pure rfl rfl (PureAt.ldRc tab_ok rfl rfl hrc (wcs_get C i hlt).1) rfl ?_ | refine VD.take rfl rfl rfl (PureAt.ldRc tab_ok rfl rfl hrc (wcs_get C i hlt).1) rfl ?_ | refine VQ.pure rfl rfl (PureAt.ldRc tab_ok rfl rfl hrc (wcs_get C i hlt).1) rfl ?_ | refine VD.end rfl rfl rfl (OpV.pure (PureAt.ldRc tab_ok rfl rfl hrc (wcs_get C i hlt).1) rfl ?_))
    (refine w ?_; repeat ((first | refine VO.step rfl rfl ?_ | refine VD.end rfl rfl rfl ?_ | refine VD.mid rfl rfl rfl ?_); refine OpV.box rfl rfl rfl ?_; intro _; refine w ?_))
    (refine VC.cond rfl rfl ?_ ?_ <;> intro hc)
    · have he : a = k.cache[i].1 := by have := hc; simp at this; omega
      (refine w ?_; repeat ((first | refine VO.step rfl rfl ?_ | refine VD.end rfl rfl rfl ?_ | refine VD.mid rfl rfl rfl ?_); refine OpV.box rfl rfl rfl ?_; intro _; refine w ?_))
      (first | refine VO.pure rfl rfl (PureAt.ldRc tab_ok rfl rfl hrc (wcs_get C i hlt).2) rfl ?_ | refine VD.take rfl rfl rfl (PureAt.ldRc tab_ok rfl rfl hrc (wcs_get C i hlt).2) rfl ?_ | refine VQ.pure rfl rfl (PureAt.ldRc tab_ok rfl rfl hrc (wcs_get C i hlt).2) rfl ?_ | refine VD.end rfl rfl rfl (OpV.pure (PureAt.ldRc tab_ok rfl rfl hrc (wcs_get C i hlt).2) rfl ?_))
      (refine w ?_; repeat ((first | refine VO.step rfl rfl ?_ | refine VD.end rfl rfl rfl ?_ | refine VD.mid rfl rfl rfl ?_); refine OpV.box rfl rfl rfl ?_; intro _; refine w ?_))
      refine VE.round (i + 1, C[i].2.ao, C[i].2.cap) ⟨hlt, ?_⟩ (by simp only; omega) ⟨rfl, rfl, ?_, rfl, trivial⟩ Ent.refl
      · rw [look_take i hlt2, if_pos he]
        exact C_rds hmem hnn (List.getElem_mem hlt) hg.2 hx2
      · show some C[i].2.hdr = _
        unfold ListE.hdr; rw [hxl]
    · have he : ¬ a = k.cache[i].1 := by have := hc; simp at this; omega
      (refine w ?_; repeat ((first | refine VO.step rfl rfl ?_ | refine VD.end rfl rfl rfl ?_ | refine VD.mid rfl rfl rfl ?_); refine OpV.box rfl rfl rfl ?_; intro _; refine w ?_))
      refine VE.round (i + 1, ao, cap) ⟨hlt, ?_⟩ (by simp only; omega) ⟨rfl, rfl, rfl, rfl, trivial⟩ Ent.refl
      rw [look_take i hlt2, if_neg he]; exact hr
  · have hge : i = C.length := by have := of_decide_eq_false hc; omega
    subst hge
    rw [List.take_of_length_le (Nat.le_of_eq hCl.symm)] at hr
    (refine w ?_; repeat ((first | refine VO.step rfl rfl ?_ | refine VD.end rfl rfl rfl ?_ | refine VD.mid rfl rfl rfl ?_); refine OpV.box rfl rfl rfl ?_; intro _; refine w ?_))
    refine VO.ent (H' := Own 5 1 (.slice none 0 0) 0 [] :: DocO d k lo lc co cc C R) (fun w hw => hw.ownNil _ _) ?_
    dsimp only [DocO]
    (first | refine VO.step rfl rfl ?_ | refine VD.end rfl rfl rfl ?_ | refine VD.mid rfl rfl rfl ?_)
    refine OpV.append st_35 rfl rfl .head (fun w hw => (hr.sees (cap := cap) hw.tail).src st_35.und) (by decide) (by decide) rfl ?_
    intro ao' cap'
    simp only [Nat.zero_add, List.nil_append]
    (refine w ?_; repeat ((first | refine VO.step rfl rfl ?_ | refine VD.end rfl rfl rfl ?_ | refine VD.mid rfl rfl rfl ?_); refine OpV.box rfl rfl rfl ?_; intro _; refine w ?_))
    refine VE.done (ao', cap') rfl trivial rfl ?_
    intro w hw
    exact (DocR.shut (R := Own 5 1 (.slice ao' 128 cap') 128 (bytes (k.look a)) :: R) hk hf w (hw.perm (List.perm_middle (l₁ := _ :: _ :: _ :: C.map (fun c => c.2.res))).symm)).swap
end Go.Proofs.Ythefmgmgmoanlaa
