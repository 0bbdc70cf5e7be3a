/- The statements of the bay: what their arguments are; much, plain, total. -/
import Derived.Test.YtbmcgmicnfbckaaBf
import Derived.Test.YtbmcgmicnfbckaaDo
import Derived.Test.YtbmcgmicnfbckaaSln
set_option maxRecDepth 8000
set_option linter.unusedVariables false
set_option linter.unusedSimpArgs false
set_option linter.unusedSectionVars false
namespace Go.Proofs.Ytbmcgmicnfbckaa
open Go.RowKit Go.Sl
attribute [local irreducible] Own

/-! ### A list of lists of bools -/
theorem bool_len {l : List Bool} : (bools l).length = l.length := bools_length l
theorem keep_of {W : World} {cs : List Value} (h : InT Try.prog W 56 cs) : ∃ o : KeepD, cs = [o.hdr] ∧ RdsA W 1 o.ao o.l.length (bools o.l) ∧ o.l.length ≤ 140737488351232 := by
  obtain ⟨ao, n, cap, _, e, _⟩ := h.slice_inv Try.underlying56
  rw [e] at h
  obtain ⟨l, rfl, hr, hb⟩ := bools_of h
  exact ⟨⟨ao, cap, l⟩, e, hr, hb⟩
theorem keeps_of {W : World} {ao : Option Addr} {n cap : Nat} (h : InT Try.prog W 33 [.slice ao n cap]) : ∃ kl : List KeepD, kl.length = n ∧ (∀ R, Keeps W R ao kl) ∧ (∀ x ∈ kl, x.l.length ≤ 140737488351232) ∧ n ≤ 140737488351232 := by
  obtain ⟨l, hl, hr, hw, hn, hb⟩ := InT.list (sz := 1) (fun o : KeepD => [o.hdr]) (fun o => RdsA W 1 o.ao o.l.length (bools o.l) ∧ o.l.length ≤ 140737488351232) ⟨none, 0, []⟩ Try.underlying33 (by kernel_rfl) (fun o _ u hu => by simp only [List.mem_singleton] at hu; subst hu; rfl) (fun cs h => by
    obtain ⟨o, h1, h2, h3⟩ := keep_of h; exact ⟨o, h1, h2, h3⟩) h
  have b1 : Try.prog.bytesOf 56 = 24 := by kernel_rfl
  rw [b1] at hb
  refine ⟨l, hl, fun R => ⟨?_, fun x hx => (hw x hx).1⟩, fun x hx => (hw x hx).2, by simp only [reachBytes] at hb; omega⟩
  have := hr R
  rw [flatMap_single] at this
  rw [hl]; exact this

/-! ### A script's calls -/
structure BopD where
  kind : Int
  slot : Int
  n : Int
  ao : Option Addr
  cap : Nat
  b : List UInt8
  ko : Option Addr
  kcap : Nat
  keeps : List KeepD
abbrev BopD.cells (o : BopD) : List Value := [.int .i64 o.kind, .int .i64 o.slot, .int .i64 o.n, .slice o.ao o.b.length o.cap, .slice o.ko o.keeps.length o.kcap]
structure BopD.wf (W : World) (o : BopD) : Prop where
  b : RdsA W 1 o.ao o.b.length (bytes o.b)
  bl : o.b.length ≤ 140737488351232
  bc : o.b.length ≤ o.cap
  ks : ∀ R, Keeps W R o.ko o.keeps
  kl : ∀ x ∈ o.keeps, x.l.length ≤ 140737488351232
  kn : o.keeps.length ≤ 140737488351232
  n1 : -9223372036854775808 ≤ o.n
  n2 : o.n ≤ 9223372036854775807
  s1 : -9223372036854775808 ≤ o.slot
  s2 : o.slot ≤ 9223372036854775807
theorem wf_range {n : Int} (h : (Lit.int .i64 n).wf = true) : -9223372036854775808 ≤ n ∧ n ≤ 9223372036854775807 := by
  simp [Lit.wf, IntKind.min, IntKind.max, IntKind.signed, IntKind.bits] at h
  omega
theorem bop_of {W : World} {cs : List Value} (h : InT Try.prog W 35 cs) : ∃ o : BopD, cs = o.cells ∧ o.wf W := by
  have hl := (h.struct_inv Try.underlying35).1
  have c5 : Try.prog.cellsOf 35 = 5 := by kernel_rfl
  rw [c5] at hl
  match cs, hl with
  | [v0, v1, v2, v3, v4], _ =>
    have f0 : InT Try.prog W 3 [v0] := h.field (i := 0) (off := 0) (sz := 1) Try.underlying35 rfl rfl rfl (by kernel_rfl)
    have f1 : InT Try.prog W 3 [v1] := h.field (i := 1) (off := 1) (sz := 1) Try.underlying35 rfl rfl rfl (by kernel_rfl)
    have f2 : InT Try.prog W 3 [v2] := h.field (i := 2) (off := 2) (sz := 1) Try.underlying35 rfl rfl rfl (by kernel_rfl)
    have f3 : InT Try.prog W 32 [v3] := h.field (i := 3) (off := 3) (sz := 1) Try.underlying35 rfl rfl rfl (by kernel_rfl)
    have f4 : InT Try.prog W 33 [v4] := h.field (i := 4) (off := 4) (sz := 1) Try.underlying35 rfl rfl rfl (by kernel_rfl)
    obtain ⟨n0, e0, w0⟩ := f0.int_inv Try.underlying3
    obtain ⟨n1, e1, w1⟩ := f1.int_inv Try.underlying3
    obtain ⟨n2, e2, w2⟩ := f2.int_inv Try.underlying3
    obtain ⟨ao3, m3, cap3, _, e3, _, hc3, _⟩ := f3.slice_inv Try.underlying32
    obtain ⟨ao4, m4, cap4, _, e4, _⟩ := f4.slice_inv Try.underlying33
    rw [e3] at f3
    rw [e4] at f4
    obtain ⟨l, rfl, hr, hb⟩ := bytes_of f3
    obtain ⟨kl, rfl, hk1, hk2, hk3⟩ := keeps_of f4
    cases e0; cases e1; cases e2; cases e3; cases e4
    exact ⟨⟨n0, n1, n2, ao3, cap3, l, ao4, cap4, kl⟩, rfl, ⟨hr, hb, hc3, hk1, hk2, hk3, (wf_range w2).1, (wf_range w2).2, (wf_range w1).1, (wf_range w1).2⟩⟩
def bopCells (l : List BopD) : List Value := l.flatMap BopD.cells
structure BScr (W : World) (R : List SProp) (ao : Option Addr) (l : List BopD) : Prop where
  rds : Rds W R 5 ao l.length (bopCells l)
  wf : ∀ o ∈ l, o.wf W
theorem BScr.ent {W : World} {H R : List SProp} {ao : Option Addr} {l : List BopD} (h : BScr W R ao l) (e : Ent W H R) : BScr W H ao l := ⟨h.rds.ent e, h.wf⟩
theorem bop_one (o : BopD) : ∀ u ∈ o.cells, u.oneCell' = true := by
  intro u hu; simp only [BopD.cells, List.mem_cons, List.not_mem_nil, or_false] at hu
  rcases hu with h | h | h | h | h <;> subst h <;> rfl
theorem bscr_of {W : World} {ao : Option Addr} {n cap : Nat} (h : InT Try.prog W 22 [.slice ao n cap]) : ∃ l : List BopD, l.length = n ∧ (∀ R, BScr W R ao l) ∧ n ≤ 140737488351232 := by
  obtain ⟨l, hl, hr, hw, hn, hb⟩ := InT.list (sz := 5) BopD.cells (BopD.wf W) ⟨0, 0, 0, none, 0, [], none, 0, []⟩ Try.underlying22 (by kernel_rfl) (fun o _ => bop_one o) (fun cs h => bop_of h) h
  have b1 : 24 ≤ Try.prog.bytesOf 35 := of_decide_eq_true (by kernel_rfl)
  have hcap : cap * 24 ≤ reachBytes := Nat.le_trans (Nat.mul_le_mul_left _ b1) hb
  refine ⟨l, hl, fun R => ⟨by rw [hl]; exact hr R, hw⟩, by simp only [reachBytes] at hcap; omega⟩
theorem bop_get (l : List BopD) (j i : Nat) (h : j < l.length) (hi : i < 5) : (bopCells l)[j * 5 + i]? = (l[j].cells)[i]? := flat_at l j i h (fun _ _ => rfl) hi
theorem ints_of {W : World} {ao : Option Addr} {n cap : Nat} (h : InT Try.prog W 43 [.slice ao n cap]) : ∃ l : List Int, l.length = n ∧ RdsA W 1 ao n (intsI l) ∧ n ≤ 140737488351232 ∧ ∀ x ∈ l, -9223372036854775808 ≤ x ∧ x ≤ 9223372036854775807 := by
  obtain ⟨l, hl, hr, hw, hn, hb⟩ := InT.list (sz := 1) (fun x : Int => [.int .i64 x]) (fun x => -9223372036854775808 ≤ x ∧ x ≤ 9223372036854775807) 0 Try.underlying43 (by kernel_rfl) (fun o _ u hu => by simp only [List.mem_singleton] at hu; subst hu; rfl) (fun cs h => by
    obtain ⟨n0, e0, w0⟩ := h.int_inv Try.underlying3; exact ⟨n0, e0, wf_range w0⟩) h
  have b1 : Try.prog.bytesOf 3 = 8 := by kernel_rfl
  rw [b1] at hb
  refine ⟨l, hl, fun R => ?_, by simp only [reachBytes] at hb; omega, hw⟩
  have := hr R
  rw [flatMap_single] at this
  exact this

/-! ### much -/
theorem bmuch_ok {W : World} {R : List SProp} {so ao : Option Addr} {n scap cap : Nat} {l : List BopD} (hs : BScr W R ao l) (hn : n ≤ 140737488351232) (hl : l.length ≤ 140737488351232) :
    Does W Try.prog 10 [.slice so n scap, .slice ao l.length cap] R (β := Bool) (fun b => b = false → n + l.length ≤ 100000 ∧ ∀ o ∈ l, o.b.length ≤ 6500000) (fun b => .bool b) (fun _ => R) := by
  (refine Does.enter Try.func10 Try.ntmps10 rfl rfl ?_)
  (refine w ?_; repeat ((first | refine VO.step rfl rfl ?_ | refine VD.end rfl rfl rfl ?_ | refine VD.mid rfl rfl rfl ?_); refine OpV.box rfl rfl rfl ?_; intro _; refine w ?_))
  refine VC.loop (α := Nat × Nat) (fun g => g.1 ≤ l.length ∧ n + l.length ≤ g.2 ∧ g.2 ≤ 1000000000000000 ∧ ∀ o ∈ l.take g.1, o.b.length / 64 ≤ g.2) (fun _ => R)
    (fun g => [(0, .slice so n scap), (1, .slice ao l.length cap), (5, .int .i64 g.2), (6, .int .i64 g.1)]) (fun g => l.length - g.1) rfl (0, l.length + n) ⟨Nat.zero_le _, by dsimp only; omega, by dsimp only; omega, fun o h => by simp at h⟩ Ent.refl ⟨rfl, rfl, asV rfl (by congr 1), rfl, trivial⟩ ?_
  rintro ⟨i, m⟩ ⟨hi, hm0, hm, hall⟩
  dsimp only at hi hm0 hm hall ⊢
  (refine w ?_; repeat ((first | refine VO.step rfl rfl ?_ | refine VD.end rfl rfl rfl ?_ | refine VD.mid rfl rfl rfl ?_); refine OpV.box rfl rfl rfl ?_; intro _; refine w ?_))
  ((first | refine VO.split rfl rfl rfl ?_ ?_ | refine VD.split rfl rfl rfl ?_ ?_) <;> intro hb)
  · have hlt : i < l.length := by simpa using hb
    (refine w ?_; repeat ((first | refine VO.step rfl rfl ?_ | refine VD.end rfl rfl rfl ?_ | refine VD.mid rfl rfl rfl ?_); refine OpV.box rfl rfl rfl ?_; intro _; refine w ?_))
    (refine VC.cond rfl rfl ?_ ?_ <;> intro hc)
    · have hle : m ≤ 100000 := by simp at hc; omega
      obtain ⟨a, rfl⟩ : ∃ a, ao = some a := by cases ao with | none => have := hs.rds.nil rfl; omega | some a => exact ⟨a, rfl⟩
      have hw := hs.wf l[i] (List.getElem_mem hlt)
      have hbl := hw.bl
      have hkn := hw.kn
      have hnew : ∀ m', m + l[i].b.length / 64 ≤ m' → ∀ o ∈ l.take (i + 1), o.b.length / 64 ≤ m' := by
        intro m' h o ho
        rw [List.take_succ_eq_append_getElem hlt] at ho
        rcases List.mem_append.1 ho with q | q
        · have := hall o q; omega
        · rw [List.mem_singleton] at q; subst q; omega
      (refine w ?_; repeat ((first | refine VO.step rfl rfl ?_ | refine VD.end rfl rfl rfl ?_ | refine VD.mid rfl rfl rfl ?_); refine OpV.box rfl rfl rfl ?_; intro _; refine w ?_))
      ((refine VC.quiet rfl (by kernel_rfl) (by kernel_rfl) ?_); (refine w ?_; repeat ((first | refine VO.step rfl rfl ?_ | refine VD.end rfl rfl rfl ?_ | refine VD.mid rfl rfl rfl ?_); refine OpV.box rfl rfl rfl ?_; intro _; refine w ?_)))
      (first | refine VO.pure rfl rfl (.ldRc tab_ok rfl rfl hs.rds ((bop_get l i 3 hlt (by decide)).trans rfl)) rfl ?_ | refine VD.take rfl rfl rfl (.ldRc tab_ok rfl rfl hs.rds ((bop_get l i 3 hlt (by decide)).trans rfl)) rfl ?_ | refine VQ.pure rfl rfl (.ldRc tab_ok rfl rfl hs.rds ((bop_get l i 3 hlt (by decide)).trans rfl)) rfl ?_ | refine VD.end rfl rfl rfl (OpV.pure (.ldRc tab_ok rfl rfl hs.rds ((bop_get l i 3 hlt (by decide)).trans rfl)) rfl ?_))
      (refine w ?_; repeat ((first | refine VO.step rfl rfl ?_ | refine VD.end rfl rfl rfl ?_ | refine VD.mid rfl rfl rfl ?_); refine OpV.box rfl rfl rfl ?_; intro _; refine w ?_))
      (first | refine VO.pure rfl rfl (PureAt.quo (a := l[i].b.length) (b := 64) rfl rfl (by decide) (IntWalk.i64_in _ ⟨by omega, by omega⟩)) rfl ?_ | refine VD.take rfl rfl rfl (PureAt.quo (a := l[i].b.length) (b := 64) rfl rfl (by decide) (IntWalk.i64_in _ ⟨by omega, by omega⟩)) rfl ?_ | refine VQ.pure rfl rfl (PureAt.quo (a := l[i].b.length) (b := 64) rfl rfl (by decide) (IntWalk.i64_in _ ⟨by omega, by omega⟩)) rfl ?_ | refine VD.end rfl rfl rfl (OpV.pure (PureAt.quo (a := l[i].b.length) (b := 64) rfl rfl (by decide) (IntWalk.i64_in _ ⟨by omega, by omega⟩)) rfl ?_))
      (refine w ?_; repeat ((first | refine VO.step rfl rfl ?_ | refine VD.end rfl rfl rfl ?_ | refine VD.mid rfl rfl rfl ?_); refine OpV.box rfl rfl rfl ?_; intro _; refine w ?_))
      (first | refine VO.pure rfl rfl (.ldRc tab_ok rfl rfl hs.rds ((bop_get l i 4 hlt (by decide)).trans rfl)) rfl ?_ | refine VD.take rfl rfl rfl (.ldRc tab_ok rfl rfl hs.rds ((bop_get l i 4 hlt (by decide)).trans rfl)) rfl ?_ | refine VQ.pure rfl rfl (.ldRc tab_ok rfl rfl hs.rds ((bop_get l i 4 hlt (by decide)).trans rfl)) rfl ?_ | refine VD.end rfl rfl rfl (OpV.pure (.ldRc tab_ok rfl rfl hs.rds ((bop_get l i 4 hlt (by decide)).trans rfl)) rfl ?_))
      (refine w ?_; repeat ((first | refine VO.step rfl rfl ?_ | refine VD.end rfl rfl rfl ?_ | refine VD.mid rfl rfl rfl ?_); refine OpV.box rfl rfl rfl ?_; intro _; refine w ?_))
      refine VC.loop (α := Nat × Nat) (fun g => g.1 ≤ l[i].keeps.length ∧ m + l[i].b.length / 64 ≤ g.2 ∧ g.2 ≤ 800000000000000) (fun _ => R)
        (fun g => [(0, .slice so n scap), (1, .slice (some a) l.length cap), (5, .int .i64 g.2), (6, .int .i64 i), (7, .int .i64 g.1)]) (fun g => l[i].keeps.length - g.1) rfl (0, m + (l[i].b.length / 64 + l[i].keeps.length)) ⟨Nat.zero_le _, by dsimp only; omega, by dsimp only; omega⟩ Ent.refl ⟨rfl, rfl, asV rfl (by congr 1), rfl, rfl, trivial⟩ ?_
      rintro ⟨j, m2⟩ ⟨hj, hm2, hm3⟩
      dsimp only at hj hm2 hm3 ⊢
      (refine w ?_; repeat ((first | refine VO.step rfl rfl ?_ | refine VD.end rfl rfl rfl ?_ | refine VD.mid rfl rfl rfl ?_); refine OpV.box rfl rfl rfl ?_; intro _; refine w ?_))
      (first | refine VO.pure rfl rfl (.ldRc tab_ok rfl rfl hs.rds ((bop_get l i 4 hlt (by decide)).trans rfl)) rfl ?_ | refine VD.take rfl rfl rfl (.ldRc tab_ok rfl rfl hs.rds ((bop_get l i 4 hlt (by decide)).trans rfl)) rfl ?_ | refine VQ.pure rfl rfl (.ldRc tab_ok rfl rfl hs.rds ((bop_get l i 4 hlt (by decide)).trans rfl)) rfl ?_ | refine VD.end rfl rfl rfl (OpV.pure (.ldRc tab_ok rfl rfl hs.rds ((bop_get l i 4 hlt (by decide)).trans rfl)) rfl ?_))
      (refine w ?_; repeat ((first | refine VO.step rfl rfl ?_ | refine VD.end rfl rfl rfl ?_ | refine VD.mid rfl rfl rfl ?_); refine OpV.box rfl rfl rfl ?_; intro _; refine w ?_))
      ((first | refine VO.split rfl rfl rfl ?_ ?_ | refine VD.split rfl rfl rfl ?_ ?_) <;> intro hb)
      · have hjl : j < l[i].keeps.length := by simpa using hb
        (refine w ?_; repeat ((first | refine VO.step rfl rfl ?_ | refine VD.end rfl rfl rfl ?_ | refine VD.mid rfl rfl rfl ?_); refine OpV.box rfl rfl rfl ?_; intro _; refine w ?_))
        (refine VC.cond rfl rfl ?_ ?_ <;> intro hc)
        · have hle2 : m2 ≤ 100000 := by simp at hc; omega
          have hks := hw.ks R
          have hkj := hw.kl l[i].keeps[j] (List.getElem_mem hjl)
          obtain ⟨ka, hka⟩ : ∃ ka, l[i].ko = some ka := by cases hko : l[i].ko with | none => have := hks.rds.nil hko; omega | some ka => exact ⟨ka, rfl⟩
          have c4 : (bopCells l)[i * 5 + 4]? = some (.slice (some ka) l[i].keeps.length l[i].kcap) := by rw [bop_get l i 4 hlt (by decide), ← hka]; rfl
          have hkr := hks.rds
          rw [hka] at hkr
          (refine w ?_; repeat ((first | refine VO.step rfl rfl ?_ | refine VD.end rfl rfl rfl ?_ | refine VD.mid rfl rfl rfl ?_); refine OpV.box rfl rfl rfl ?_; intro _; refine w ?_))
          (first | refine VO.pure rfl rfl (.ldRc tab_ok rfl rfl hs.rds c4) rfl ?_ | refine VD.take rfl rfl rfl (.ldRc tab_ok rfl rfl hs.rds c4) rfl ?_ | refine VQ.pure rfl rfl (.ldRc tab_ok rfl rfl hs.rds c4) rfl ?_ | refine VD.end rfl rfl rfl (OpV.pure (.ldRc tab_ok rfl rfl hs.rds c4) rfl ?_))
          (refine w ?_; repeat ((first | refine VO.step rfl rfl ?_ | refine VD.end rfl rfl rfl ?_ | refine VD.mid rfl rfl rfl ?_); refine OpV.box rfl rfl rfl ?_; intro _; refine w ?_))
          (first | refine VO.pure rfl rfl (.ldRc tab_ok rfl rfl hkr (show (l[i].keeps.map KeepD.hdr)[j]? = some (l[i].keeps[j].hdr) by rw [List.getElem?_map, List.getElem?_eq_getElem hjl]; rfl)) rfl ?_ | refine VD.take rfl rfl rfl (.ldRc tab_ok rfl rfl hkr (show (l[i].keeps.map KeepD.hdr)[j]? = some (l[i].keeps[j].hdr) by rw [List.getElem?_map, List.getElem?_eq_getElem hjl]; rfl)) rfl ?_ | refine VQ.pure rfl rfl (.ldRc tab_ok rfl rfl hkr (show (l[i].keeps.map KeepD.hdr)[j]? = some (l[i].keeps[j].hdr) by rw [List.getElem?_map, List.getElem?_eq_getElem hjl]; rfl)) rfl ?_ | refine VD.end rfl rfl rfl (OpV.pure (.ldRc tab_ok rfl rfl hkr (show (l[i].keeps.map KeepD.hdr)[j]? = some (l[i].keeps[j].hdr) by rw [List.getElem?_map, List.getElem?_eq_getElem hjl]; rfl)) rfl ?_))
          (refine w ?_; repeat ((first | refine VO.step rfl rfl ?_ | refine VD.end rfl rfl rfl ?_ | refine VD.mid rfl rfl rfl ?_); refine OpV.box rfl rfl rfl ?_; intro _; refine w ?_))
          refine VE.round (j + 1, m2 + l[i].keeps[j].l.length) ⟨hjl, by dsimp only; omega, by dsimp only; omega⟩ (by dsimp only; omega) ⟨rfl, rfl, asV rfl (by congr 1), rfl, rfl, trivial⟩ Ent.refl
        · (refine w ?_; repeat ((first | refine VO.step rfl rfl ?_ | refine VD.end rfl rfl rfl ?_ | refine VD.mid rfl rfl rfl ?_); refine OpV.box rfl rfl rfl ?_; intro _; refine w ?_))
          refine VE.round (i + 1, m2) ⟨hlt, by dsimp only; omega, by dsimp only; omega, hnew _ (by omega)⟩ (by dsimp only; omega) ⟨rfl, rfl, rfl, asV rfl (by congr 1), trivial⟩ Ent.refl
      · (refine w ?_; repeat ((first | refine VO.step rfl rfl ?_ | refine VD.end rfl rfl rfl ?_ | refine VD.mid rfl rfl rfl ?_); refine OpV.box rfl rfl rfl ?_; intro _; refine w ?_))
        refine VE.round (i + 1, m2) ⟨hlt, by dsimp only; omega, by dsimp only; omega, hnew _ (by omega)⟩ (by dsimp only; omega) ⟨rfl, rfl, rfl, asV rfl (by congr 1), trivial⟩ Ent.refl
    · have hgt : ¬ m ≤ 100000 := by simp at hc; omega
      (refine w ?_; repeat ((first | refine VO.step rfl rfl ?_ | refine VD.end rfl rfl rfl ?_ | refine VD.mid rfl rfl rfl ?_); refine OpV.box rfl rfl rfl ?_; intro _; refine w ?_))
      refine VE.done true rfl (fun h => by cases h) (by congr 1; simp; omega) Ent.refl
  · have hge : i = l.length := by have : ¬ i < l.length := by simpa using hb
                                  omega
    subst hge
    rw [List.take_of_length_le (Nat.le_refl _)] at hall
    (refine w ?_; repeat ((first | refine VO.step rfl rfl ?_ | refine VD.end rfl rfl rfl ?_ | refine VD.mid rfl rfl rfl ?_); refine OpV.box rfl rfl rfl ?_; intro _; refine w ?_))
    refine VE.done (decide (100000 < m)) rfl (fun h => ?_) (by congr 1; simp; omega) Ent.refl
    have h : m ≤ 100000 := by simpa using h
    refine ⟨by omega, fun o ho => ?_⟩
    have := hall o ho; omega
end Go.Proofs.Ytbmcgmicnfbckaa
