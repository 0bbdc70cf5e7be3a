/- The document's disk: lasts, Flush, Crash. -/
import Derived.Test.YthefmgmgmoanlaaRf
set_option maxRecDepth 8000
set_option linter.unusedVariables false
set_option linter.unusedSimpArgs false
set_option linter.unusedSectionVars false
namespace Go.Proofs.Ythefmgmgmoanlaa
open Go.RowKit Go.Sl
attribute [local irreducible] Own

def laidIn (l b : List UInt8) (a : Nat) : List UInt8 := l.take (a * 128) ++ b ++ l.drop (a * 128 + 128)
theorem laidIn_length {l b : List UInt8} {a : Nat} (hb : b.length = 128) (ha : a * 128 + 128 ≤ l.length) : (laidIn l b a).length = l.length := by
  unfold laidIn; simp only [List.length_append, List.length_take, List.length_drop]; omega
theorem laidIn_flat {l : List (List UInt8)} (h8 : ∀ b ∈ l, b.length = 128) (b : List UInt8) (a : Nat) (ha : a < l.length) : laidIn l.flatten b a = (l.set a b).flatten := by
  have := flat_set (g := fun x : List UInt8 => x) (w := 128) b l a ha h8
  simp only [List.flatMap_id'] at this
  exact this

set_option maxHeartbeats 2000000 in
theorem doclasts_ok {W : World} {R : List SProp} {cv fv : Value} {lo ao : Option Addr} {lc cap : Nat} {l b : List UInt8} (d a n : Nat) (hl : l.length = n) (ha : a * 128 + 128 ≤ n) (hn : n ≤ 1048576) (hb : b.length = 128) (hr : Rds W R 1 ao 128 (bytes b)) :
    Does W Try.prog 122 [.pointer (some ⟨d, 0, none⟩), .agg #[.int .i64 a, .slice ao 128 cap]]
      (Row d 157 [.slice lo n lc, cv, fv] :: Own 5 1 (.slice lo n lc) n (bytes l) :: R) (β := Option Addr × Nat) (fun _ => True) (fun _ => .tuple #[])
      (fun x => Row d 157 [.slice x.1 n x.2, cv, fv] :: Own 5 1 (.slice x.1 n x.2) n (bytes (laidIn l b a)) :: R) := by
  (refine Does.enter Try.func122 Try.ntmps122 rfl rfl ?_)
  refine VC.know (p := lo = none → n = 0) (fun w hw => Holds.ownNone hw (.tail _ (.head _))) ?_
  intro hln
  refine VC.know (p := n ≤ lc) (fun w hw => Holds.ownCap hw (.tail _ (.head _))) ?_
  intro hlc
  have hrl : ∀ H : List SProp, Own 5 1 (.slice lo n lc) n (bytes l) ∈ H → Rds W H 1 lo n (bytes l) := fun H hm => Rds.own (bytes_one _) hm (by rw [bytes_length, Nat.mul_one, hl]) hln
  (refine w ?_; repeat ((first | refine VO.step rfl rfl ?_ | refine VD.end rfl rfl rfl ?_ | refine VD.mid rfl rfl rfl ?_); refine OpV.box rfl rfl rfl ?_; intro _; refine w ?_))
  rename_i nb
  refine VC.ent (H' := Own 5 1 (.slice none 0 0) 0 [] :: Row nb 189 [.int .i64 a, .slice ao 128 cap] :: Row d 157 [.slice lo n lc, cv, fv] :: Own 5 1 (.slice lo n lc) n (bytes l) :: R) (fun w hw => hw.ownNil _ _) ?_
  (refine VC.drawn [] 9 [0, 1, 2, 3, 4, 5, 6, 7, 8, 9, 10] _ rfl (by kernel_rfl) (by kernel_rfl) Ent.re ?_)
  (refine w ?_; repeat ((first | refine VO.step rfl rfl ?_ | refine VD.end rfl rfl rfl ?_ | refine VD.mid rfl rfl rfl ?_); refine OpV.box rfl rfl rfl ?_; intro _; refine w ?_))
  refine VD.re 12 (.int .i64 ((a * 128 : Nat) : Int)) rfl (by rw [Int.mul_comm]; congr 1) ?_
  (refine w ?_; repeat ((first | refine VO.step rfl rfl ?_ | refine VD.end rfl rfl rfl ?_ | refine VD.mid rfl rfl rfl ?_); refine OpV.box rfl rfl rfl ?_; intro _; refine w ?_))
  (first | refine VO.step rfl rfl ?_ | refine VD.end rfl rfl rfl ?_ | refine VD.mid rfl rfl rfl ?_)
  refine OpV.append st_35 rfl rfl .head (fun w hw => ((Rds.take (l := a * 128) (hrl _ (.tail _ (.tail _ (.tail _ (.head _))))) (by omega)).sees (cap := lc) hw).src st_35.und) (by simp only [maxLen]; omega) (by omega) rfl ?_
  intro b1 c1
  simp only [Nat.zero_add, List.nil_append, Nat.mul_one]
  (refine w ?_; repeat ((first | refine VO.step rfl rfl ?_ | refine VD.end rfl rfl rfl ?_ | refine VD.mid rfl rfl rfl ?_); refine OpV.box rfl rfl rfl ?_; intro _; refine w ?_))
  (first | refine VO.step rfl rfl ?_ | refine VD.end rfl rfl rfl ?_ | refine VD.mid rfl rfl rfl ?_)
  refine OpV.append st_35 rfl rfl .head (fun w hw => ((hr.ent (Ent.drop (Ent.drop (Ent.drop (Ent.drop Ent.refl))))).sees (cap := cap) hw).src st_35.und) (by simp only [maxLen]; omega) (by omega) rfl ?_
  intro b2 c2
  (refine w ?_; repeat ((first | refine VO.step rfl rfl ?_ | refine VD.end rfl rfl rfl ?_ | refine VD.mid rfl rfl rfl ?_); refine OpV.box rfl rfl rfl ?_; intro _; refine w ?_))
  (refine VC.drawn [11] 12 [0, 1, 2, 3, 4, 5, 6, 7, 8, 9, 10, 11, 12, 13, 14] (Row nb 189 [.int .i64 a, .slice ao 128 cap] :: Row d 157 [.slice lo n lc, cv, fv] :: Own 5 1 (.slice lo n lc) n (bytes l) :: R) rfl (by kernel_rfl) (by kernel_rfl) Ent.re ?_)
  (refine w ?_; repeat ((first | refine VO.step rfl rfl ?_ | refine VD.end rfl rfl rfl ?_ | refine VD.mid rfl rfl rfl ?_); refine OpV.box rfl rfl rfl ?_; intro _; refine w ?_))
  refine VD.re 28 (.int .i64 ((a * 128 + 128 : Nat) : Int)) rfl (by rw [Int.mul_comm]; congr 1) ?_
  (refine w ?_; repeat ((first | refine VO.step rfl rfl ?_ | refine VD.end rfl rfl rfl ?_ | refine VD.mid rfl rfl rfl ?_); refine OpV.box rfl rfl rfl ?_; intro _; refine w ?_))
  have hsub : ∀ H : List SProp, Own 5 1 (.slice lo n lc) n (bytes l) ∈ H → Rds W H 1 (subA lo lc (a * 128 + 128) 1) (n - (a * 128 + 128)) (bytes (l.drop (a * 128 + 128))) := by
    intro H hm
    have := (hrl H hm).sub (l := a * 128 + 128) ha (Nat.le_refl _) hlc
    simp only [Nat.mul_one] at this
    rwa [List.take_of_length_le (by simp only [List.length_drop, bytes_length]; omega), show (bytes l).drop (a * 128 + 128) = bytes (l.drop (a * 128 + 128)) by unfold bytes; rw [List.map_drop]] at this
  (first | refine VO.step rfl rfl ?_ | refine VD.end rfl rfl rfl ?_ | refine VD.mid rfl rfl rfl ?_)
  refine OpV.append st_35 rfl rfl .head (fun w hw => ((hsub _ (.tail _ (.tail _ (.tail _ (.head _))))).sees (cap := lc - (a * 128 + 128)) hw).src st_35.und) (by simp only [maxLen]; omega) (by omega) rfl ?_
  intro b3 c3
  refine ⟨Ent.drop Ent.refl, ?_⟩
  refine VD.re 30 (.slice b3 n c3) rfl (by congr 1; omega) ?_
  (refine w ?_; repeat ((first | refine VO.step rfl rfl ?_ | refine VD.end rfl rfl rfl ?_ | refine VD.mid rfl rfl rfl ?_); refine OpV.box rfl rfl rfl ?_; intro _; refine w ?_))
  refine VE.doneN (b3, c3) rfl trivial rfl ?_
  have e1 : a * 128 + 128 + (n - (a * 128 + 128)) = n := by omega
  have e2 : (bytes l).take (a * 128) ++ bytes b ++ bytes (l.drop (a * 128 + 128)) = bytes (laidIn l b a) := by
    unfold laidIn bytes; simp only [List.map_append, List.map_take]
  rw [e1, e2]
  exact fun w hw => (hw.reord (by (repeat first | exact .refl | (apply Reord.cons; focus repeat first | exact .head | apply Del.tail) | exact .nil | apply Reord.drop)))

/-- The cache is gone. -/
theorem DocR.empty {W : World} {R : List SProp} {d : Nat} {k : DiskD} {lo co : Option Addr} {lc cc cc2 n : Nat} {cs : List Value} {l : List UInt8} (X : List SProp) (hk : k.ok) (hc : k.cache = []) (hl : k.last.flatten = l) (hn : l.length = n) :
    Ent W (Row d 157 [.slice lo n lc, .slice none 0 0, .bool k.failed] :: Own 5 1 (.slice lo n lc) n (bytes l) :: Own 189 2 (.slice co cc cc2) cc cs :: (X ++ R)) (DocR d k :: R) := by
  intro w hw
  subst hl
  subst hn
  refine DocR.shut (C := []) (lo := lo) (lc := lc) (co := none) (cc := 0) hk (by unfold Fits; rw [hc]; rfl) w ?_
  simp only [DocO, wcs, List.flatMap_nil, List.map_nil, List.nil_append, List.length_nil]
  have h1 := Ent.dropMid (Own 189 2 (.slice co cc cc2) cc cs :: X) w (hw.perm (List.perm_append_comm_assoc [_, _] (_ :: X) R))
  exact (h1.ownNil 189 2).reord (by (repeat first | exact .refl | (apply Reord.cons; focus repeat first | exact .head | apply Del.tail) | exact .nil | apply Reord.drop))

theorem wcs_part {C : List (Nat × ListE)} (i : Nat) (h : i < C.length) (hl : C[i].2.xs.length = 128) : ((wcs C).drop (i * 2)).take 2 = [.int .i64 (C[i].1 : Int), .slice C[i].2.ao 128 C[i].2.cap] := by
  have := flat_part (g := fun c : Nat × ListE => [.int .i64 (c.1 : Int), c.2.hdr]) (w := 2) C i h (fun _ _ => rfl)
  unfold wcs
  rw [this]
  unfold ListE.hdr
  rw [hl]
theorem sets_next {k : DiskD} {keep : Nat → Bool} (i : Nat) (h : i < k.cache.length) : sets keep k.last 0 (k.cache.take (i + 1)) = if keep i = true then (sets keep k.last 0 (k.cache.take i)).set k.cache[i].1 k.cache[i].2 else sets keep k.last 0 (k.cache.take i) := by
  rw [List.take_succ_eq_append_getElem h, sets_snoc, List.length_take, Nat.zero_add, Nat.min_eq_left (by omega)]
theorem sets_flat_len {k : DiskD} (hk : k.ok) (keep : Nat → Bool) (i : Nat) : (sets keep k.last 0 (k.cache.take i)).flatten.length = k.last.flatten.length ∧ ∀ b ∈ sets keep k.last 0 (k.cache.take i), b.length = 128 := by
  have h8 := sets_128 keep (k.cache.take i) k.last 0 hk.last (fun c h => (hk.cache c (List.mem_of_mem_take h)).2)
  refine ⟨?_, h8⟩
  have h1 := flat_length (g := fun x : List UInt8 => x) (w := 128) _ h8
  have h2 := flat_length (g := fun x : List UInt8 => x) (w := 128) _ hk.last
  simp only [List.flatMap_id'] at h1 h2
  rw [h1, h2, sets_length]

set_option maxHeartbeats 2000000 in
theorem docflush_ok {W : World} {R : List SProp} (d : Nat) (k : DiskD) (hfa : k.failed = false) (hcl : k.cache.length ≤ 1000000) :
    Does1 W Try.prog 99 [.pointer (some ⟨d, 0, none⟩)] (DocR d k :: R) (.int .i64 0) (DocR d (k.settle fun _ => true) :: R) := by
  (refine Does.enter Try.func99 Try.ntmps99 rfl rfl ?_)
  refine VC.obtain (fun w => DocR.open) ?_
  rintro ⟨⟨⟨lo, lc⟩, ⟨co, cc⟩, C⟩, hk, hf⟩
  have hf : Fits k C := hf
  have hfl := flat_len hk
  have hs := hk.size
  obtain ⟨hCl, hCg⟩ := fits_get hf
  refine VC.know (p := co = none → C.length = 0) (fun w hw => Holds.ownNone hw (.tail _ (.tail _ (.head _)))) ?_
  intro hcn
  refine VC.know (p := ∀ c ∈ C, c.2.ao = none → c.2.xs.length = 0) (fun w hw => C_none hw (fun c hc => .tail _ (.tail _ (.tail _ (List.mem_append_left _ (List.mem_map.2 ⟨c, hc, rfl⟩)))))) ?_
  intro hnn
  have hsl := sets_flat_len hk (fun _ => true)
  dsimp only [DocO]
  generalize hn : k.last.flatten.length = n at *
  (refine w ?_; repeat ((first | refine VO.step rfl rfl ?_ | refine VD.end rfl rfl rfl ?_ | refine VD.mid rfl rfl rfl ?_); refine OpV.box rfl rfl rfl ?_; intro _; refine w ?_))
  (refine VC.condFe rfl rfl (hfa) ?_)
  (refine w ?_; repeat ((first | refine VO.step rfl rfl ?_ | refine VD.end rfl rfl rfl ?_ | refine VD.mid rfl rfl rfl ?_); refine OpV.box rfl rfl rfl ?_; intro _; refine w ?_))
  refine VC.loop (α := Nat × Option Addr × Nat) (fun g => g.1 ≤ C.length)
    (fun g => Row d 157 [.slice g.2.1 n g.2.2, .slice co C.length cc, .bool k.failed] :: Own 5 1 (.slice g.2.1 n g.2.2) n (bytes (sets (fun _ => true) k.last 0 (k.cache.take g.1)).flatten) :: Own 189 2 (.slice co C.length cc) C.length (wcs C) :: (C.map (fun c => c.2.res) ++ R))
    (fun g => [(0, .pointer (some ⟨d, 0, none⟩)), (3, .int .i64 g.1)]) (fun g => C.length - g.1) rfl (0, lo, lc) (Nat.zero_le _) Ent.refl ⟨rfl, rfl, trivial⟩ ?_
  rintro ⟨i, ao, cap⟩ hi
  have hi : i ≤ C.length := hi
  dsimp only
  (refine w ?_; repeat ((first | refine VO.step rfl rfl ?_ | refine VD.end rfl rfl rfl ?_ | refine VD.mid rfl rfl rfl ?_); refine OpV.box rfl rfl rfl ?_; intro _; refine w ?_))
  (refine VC.cond rfl rfl ?_ ?_ <;> intro hc)
  · have hlt : i < C.length := by have := of_decide_eq_true hc; omega
    have hlt2 : i < k.cache.length := by omega
    obtain ⟨c, rfl⟩ : ∃ c, co = some c := by cases co with | none => have := hcn rfl; omega | some c => exact ⟨c, rfl⟩
    have hg := hCg i hlt hlt2
    obtain ⟨hx1, hx2⟩ := hk.cache _ (List.getElem_mem hlt2)
    have hxl : C[i].2.xs.length = 128 := by rw [hg.2, bytes_length, hx2]
    (refine w ?_; repeat ((first | refine VO.step rfl rfl ?_ | refine VD.end rfl rfl rfl ?_ | refine VD.mid rfl rfl rfl ?_); refine OpV.box rfl rfl rfl ?_; intro _; refine w ?_))
    (first | refine VO.pure rfl rfl (.ldRA tab_ok rfl rfl (Rds.own (wcs_one C) (.tail _ (.tail _ (.head _))) (wcs_length C) hcn) (wcs_part i hlt hxl) rfl) rfl ?_ | refine VD.take rfl rfl rfl (.ldRA tab_ok rfl rfl (Rds.own (wcs_one C) (.tail _ (.tail _ (.head _))) (wcs_length C) hcn) (wcs_part i hlt hxl) rfl) rfl ?_ | refine VQ.pure rfl rfl (.ldRA tab_ok rfl rfl (Rds.own (wcs_one C) (.tail _ (.tail _ (.head _))) (wcs_length C) hcn) (wcs_part i hlt hxl) rfl) rfl ?_ | refine VD.end rfl rfl rfl (OpV.pure (.ldRA tab_ok rfl rfl (Rds.own (wcs_one C) (.tail _ (.tail _ (.head _))) (wcs_length C) hcn) (wcs_part i hlt hxl) rfl) rfl ?_))
    have hslen := sets_length (fun _ => true) (k.cache.take i) k.last 0
    ((first | refine VO.step rfl rfl ?_ | refine VD.end rfl rfl rfl ?_ | refine VD.mid rfl rfl rfl ?_); refine OpV.call rfl rfl (fun _ _ => by simp) (doclasts_ok d C[i].1 n (hsl i).1 (by rw [hg.1]; omega) (by omega) hx2 (C_rds (fun c hc => .tail _ (List.mem_append_left _ (List.mem_map.2 ⟨c, hc, rfl⟩))) hnn (List.getElem_mem hlt) hg.2 hx2)) Ent.refl rfl ?_)
    rintro ⟨lo2, lc2⟩ -
    dsimp only
    rw [hg.1, laidIn_flat (hsl i).2 _ _ (by omega), show (sets (fun _ => true) k.last 0 (k.cache.take i)).set k.cache[i].1 k.cache[i].2 = sets (fun _ => true) k.last 0 (k.cache.take (i + 1)) by rw [sets_next i hlt2, if_pos rfl]]
    (refine w ?_; repeat ((first | refine VO.step rfl rfl ?_ | refine VD.end rfl rfl rfl ?_ | refine VD.mid rfl rfl rfl ?_); refine OpV.box rfl rfl rfl ?_; intro _; refine w ?_))
    exact VE.round (i + 1, lo2, lc2) hlt (by simp only; omega) ⟨rfl, rfl, trivial⟩ Ent.refl
  · have hge : i = C.length := by have := of_decide_eq_false hc; omega
    subst hge
    rw [List.take_of_length_le (Nat.le_of_eq hCl.symm)]
    (refine w ?_; repeat ((first | refine VO.step rfl rfl ?_ | refine VD.end rfl rfl rfl ?_ | refine VD.mid rfl rfl rfl ?_); refine OpV.box rfl rfl rfl ?_; intro _; refine w ?_))
    (refine VE.done1 rfl ?_ ?_)
    · rfl
    · have := hsl k.cache.length
      rw [List.take_of_length_le (Nat.le_refl _)] at this
      exact fun w hw => DocR.empty (k := k.settle fun _ => true) _ (DiskD.settle_okk hk) rfl rfl this.1 w hw

theorem docflush_bad {W : World} {R : List SProp} (d : Nat) (k : DiskD) (hfa : k.failed = true) :
    Does1 W Try.prog 99 [.pointer (some ⟨d, 0, none⟩)] (DocR d k :: R) (.int .i64 2) (DocR d k :: R) := by
  (refine Does.enter Try.func99 Try.ntmps99 rfl rfl ?_)
  refine VC.obtain (fun w => DocR.open) ?_
  rintro ⟨⟨⟨lo, lc⟩, ⟨co, cc⟩, C⟩, hk, hf⟩
  dsimp only [DocO]
  (refine w ?_; repeat ((first | refine VO.step rfl rfl ?_ | refine VD.end rfl rfl rfl ?_ | refine VD.mid rfl rfl rfl ?_); refine OpV.box rfl rfl rfl ?_; intro _; refine w ?_))
  (refine VC.condTe rfl rfl (hfa) ?_)
  (refine w ?_; repeat ((first | refine VO.step rfl rfl ?_ | refine VD.end rfl rfl rfl ?_ | refine VD.mid rfl rfl rfl ?_); refine OpV.box rfl rfl rfl ?_; intro _; refine w ?_))
  (refine VE.done1 rfl ?_ ?_)
  · rfl
  · exact DocR.shut hk hf

set_option maxHeartbeats 2000000 in
theorem doccrash_ok {W : World} {R : List SProp} {ko : Option Addr} {nk ck : Nat} {lk : List Bool} (d : Nat) (k : DiskD) (hcl : k.cache.length ≤ 1000000) (hr : RdsA W 1 ko nk (bools lk)) :
    Does1 W Try.prog 101 [.pointer (some ⟨d, 0, none⟩), .slice ko nk ck] (DocR d k :: R) (.tuple #[]) (DocR d (k.settle (keepOf lk)) :: R) := by
  have hkl : lk.length = nk := by have := (hr []).len; simpa using this
  (refine Does.enter Try.func101 Try.ntmps101 rfl rfl ?_)
  refine VC.obtain (fun w => DocR.open) ?_
  rintro ⟨⟨⟨lo, lc⟩, ⟨co, cc⟩, C⟩, hk, hf⟩
  have hf : Fits k C := hf
  have hfl := flat_len hk
  have hs := hk.size
  obtain ⟨hCl, hCg⟩ := fits_get hf
  refine VC.know (p := co = none → C.length = 0) (fun w hw => Holds.ownNone hw (.tail _ (.tail _ (.head _)))) ?_
  intro hcn
  refine VC.know (p := ∀ c ∈ C, c.2.ao = none → c.2.xs.length = 0) (fun w hw => C_none hw (fun c hc => .tail _ (.tail _ (.tail _ (List.mem_append_left _ (List.mem_map.2 ⟨c, hc, rfl⟩)))))) ?_
  intro hnn
  generalize hkeep : keepOf lk = keep
  have hsl := sets_flat_len hk keep
  dsimp only [DocO]
  generalize hn : k.last.flatten.length = n at *
  (refine w ?_; repeat ((first | refine VO.step rfl rfl ?_ | refine VD.end rfl rfl rfl ?_ | refine VD.mid rfl rfl rfl ?_); refine OpV.box rfl rfl rfl ?_; intro _; refine w ?_))
  refine VC.loop (α := Nat × Option Addr × Nat) (fun g => g.1 ≤ C.length)
    (fun g => Row d 157 [.slice g.2.1 n g.2.2, .slice co C.length cc, .bool k.failed] :: Own 5 1 (.slice g.2.1 n g.2.2) n (bytes (sets keep k.last 0 (k.cache.take g.1)).flatten) :: Own 189 2 (.slice co C.length cc) C.length (wcs C) :: (C.map (fun c => c.2.res) ++ R))
    (fun g => [(0, .pointer (some ⟨d, 0, none⟩)), (1, .slice ko nk ck), (4, .int .i64 g.1)]) (fun g => C.length - g.1) rfl (0, lo, lc) (Nat.zero_le _) Ent.refl ⟨rfl, rfl, rfl, trivial⟩ ?_
  rintro ⟨i, ao, cap⟩ hi
  have hi : i ≤ C.length := hi
  dsimp only
  (refine w ?_; repeat ((first | refine VO.step rfl rfl ?_ | refine VD.end rfl rfl rfl ?_ | refine VD.mid rfl rfl rfl ?_); refine OpV.box rfl rfl rfl ?_; intro _; refine w ?_))
  (refine VC.cond rfl rfl ?_ ?_ <;> intro hc)
  · have hlt : i < C.length := by have := of_decide_eq_true hc; omega
    have hlt2 : i < k.cache.length := by omega
    obtain ⟨c, rfl⟩ : ∃ c, co = some c := by cases co with | none => have := hcn rfl; omega | some c => exact ⟨c, rfl⟩
    have hg := hCg i hlt hlt2
    obtain ⟨hx1, hx2⟩ := hk.cache _ (List.getElem_mem hlt2)
    have hxl : C[i].2.xs.length = 128 := by rw [hg.2, bytes_length, hx2]
    have hslen := sets_length keep (k.cache.take i) k.last 0
    have hno : keep i = false → sets keep k.last 0 (k.cache.take (i + 1)) = sets keep k.last 0 (k.cache.take i) := fun h => by rw [sets_next i hlt2, if_neg (by simp [h])]
    (refine w ?_; repeat ((first | refine VO.step rfl rfl ?_ | refine VD.end rfl rfl rfl ?_ | refine VD.mid rfl rfl rfl ?_); refine OpV.box rfl rfl rfl ?_; intro _; refine w ?_))
    ((first | refine VO.split rfl rfl rfl ?_ ?_ | refine VD.split rfl rfl rfl ?_ ?_) <;> intro hb)
    · have hik : i < nk := by have := of_decide_eq_true hb; omega
      obtain ⟨ka, rfl⟩ : ∃ a, ko = some a := by cases ko with | none => have := (hr []).nil rfl; omega | some a => exact ⟨a, rfl⟩
      (refine w ?_; repeat ((first | refine VO.step rfl rfl ?_ | refine VD.end rfl rfl rfl ?_ | refine VD.mid rfl rfl rfl ?_); refine OpV.box rfl rfl rfl ?_; intro _; refine w ?_))
      (first | refine VO.pure rfl rfl (PureAt.ldR tab_ok rfl rfl (hr _) (show (bools lk)[i]? = some (.bool (keep i)) by subst hkeep; simp [bools, keepOf, hkl, hik])) rfl ?_ | refine VD.take rfl rfl rfl (PureAt.ldR tab_ok rfl rfl (hr _) (show (bools lk)[i]? = some (.bool (keep i)) by subst hkeep; simp [bools, keepOf, hkl, hik])) rfl ?_ | refine VQ.pure rfl rfl (PureAt.ldR tab_ok rfl rfl (hr _) (show (bools lk)[i]? = some (.bool (keep i)) by subst hkeep; simp [bools, keepOf, hkl, hik])) rfl ?_ | refine VD.end rfl rfl rfl (OpV.pure (PureAt.ldR tab_ok rfl rfl (hr _) (show (bools lk)[i]? = some (.bool (keep i)) by subst hkeep; simp [bools, keepOf, hkl, hik])) rfl ?_))
      (refine w ?_; repeat ((first | refine VO.step rfl rfl ?_ | refine VD.end rfl rfl rfl ?_ | refine VD.mid rfl rfl rfl ?_); refine OpV.box rfl rfl rfl ?_; intro _; refine w ?_))
      (refine VC.cond rfl rfl ?_ ?_ <;> intro hc)
      · have hk1 : keep i = true := hc
        (refine w ?_; repeat ((first | refine VO.step rfl rfl ?_ | refine VD.end rfl rfl rfl ?_ | refine VD.mid rfl rfl rfl ?_); refine OpV.box rfl rfl rfl ?_; intro _; refine w ?_))
        (first | refine VO.pure rfl rfl (.ldRA tab_ok rfl rfl (Rds.own (wcs_one C) (.tail _ (.tail _ (.head _))) (wcs_length C) hcn) (wcs_part i hlt hxl) rfl) rfl ?_ | refine VD.take rfl rfl rfl (.ldRA tab_ok rfl rfl (Rds.own (wcs_one C) (.tail _ (.tail _ (.head _))) (wcs_length C) hcn) (wcs_part i hlt hxl) rfl) rfl ?_ | refine VQ.pure rfl rfl (.ldRA tab_ok rfl rfl (Rds.own (wcs_one C) (.tail _ (.tail _ (.head _))) (wcs_length C) hcn) (wcs_part i hlt hxl) rfl) rfl ?_ | refine VD.end rfl rfl rfl (OpV.pure (.ldRA tab_ok rfl rfl (Rds.own (wcs_one C) (.tail _ (.tail _ (.head _))) (wcs_length C) hcn) (wcs_part i hlt hxl) rfl) rfl ?_))
        ((first | refine VO.step rfl rfl ?_ | refine VD.end rfl rfl rfl ?_ | refine VD.mid rfl rfl rfl ?_); refine OpV.call rfl rfl (fun _ _ => by simp) (doclasts_ok d C[i].1 n (hsl i).1 (by rw [hg.1]; omega) (by omega) hx2 (C_rds (fun c hc => .tail _ (List.mem_append_left _ (List.mem_map.2 ⟨c, hc, rfl⟩))) hnn (List.getElem_mem hlt) hg.2 hx2)) Ent.refl rfl ?_)
        rintro ⟨lo2, lc2⟩ -
        dsimp only
        rw [hg.1, laidIn_flat (hsl i).2 _ _ (by omega), show (sets keep k.last 0 (k.cache.take i)).set k.cache[i].1 k.cache[i].2 = sets keep k.last 0 (k.cache.take (i + 1)) by rw [sets_next i hlt2, if_pos hk1]]
        (refine w ?_; repeat ((first | refine VO.step rfl rfl ?_ | refine VD.end rfl rfl rfl ?_ | refine VD.mid rfl rfl rfl ?_); refine OpV.box rfl rfl rfl ?_; intro _; refine w ?_))
        exact VE.round (i + 1, lo2, lc2) hlt (by simp only; omega) ⟨rfl, rfl, rfl, trivial⟩ Ent.refl
      · have hk0 : keep i = false := hc
        (refine w ?_; repeat ((first | refine VO.step rfl rfl ?_ | refine VD.end rfl rfl rfl ?_ | refine VD.mid rfl rfl rfl ?_); refine OpV.box rfl rfl rfl ?_; intro _; refine w ?_))
        refine VE.round (i + 1, ao, cap) hlt (by simp only; omega) ⟨rfl, rfl, rfl, trivial⟩ ?_
        dsimp only
        rw [hno hk0]
        exact Ent.refl
    · have hik : nk ≤ i := by have := of_decide_eq_false hb; omega
      have hk0 : keep i = false := by subst hkeep; simp [keepOf, hkl, hik]
      (refine w ?_; repeat ((first | refine VO.step rfl rfl ?_ | refine VD.end rfl rfl rfl ?_ | refine VD.mid rfl rfl rfl ?_); refine OpV.box rfl rfl rfl ?_; intro _; refine w ?_))
      refine VE.round (i + 1, ao, cap) hlt (by simp only; omega) ⟨rfl, rfl, rfl, trivial⟩ ?_
      dsimp only
      rw [hno hk0]
      exact Ent.refl
  · have hge : i = C.length := by have := of_decide_eq_false hc; omega
    subst hge
    rw [List.take_of_length_le (Nat.le_of_eq hCl.symm)]
    (refine w ?_; repeat ((first | refine VO.step rfl rfl ?_ | refine VD.end rfl rfl rfl ?_ | refine VD.mid rfl rfl rfl ?_); refine OpV.box rfl rfl rfl ?_; intro _; refine w ?_))
    (refine VE.done1N rfl ?_ ?_)
    · rfl
    · have := hsl k.cache.length
      rw [List.take_of_length_le (Nat.le_refl _)] at this
      exact fun w hw => DocR.empty (k := k.settle keep) _ (DiskD.settle_okk hk) rfl rfl this.1 w hw
end Go.Proofs.Ythefmgmgmoanlaa
