/- Package disk: Load. -/
import Derived.Test.YtbmcgmicnfbckaaDm
set_option maxRecDepth 8000
set_option linter.unusedVariables false
set_option linter.unusedSimpArgs false
set_option linter.unusedSectionVars false
namespace Go.Proofs.Ytbmcgmicnfbckaa
open Go.RowKit Go.Sl
attribute [local irreducible] Own

/-- copy into a part of what is ours, cell by cell. -/
theorem OpV.copyPart {W : World} {P : Program} {n : Nat} {Q : Exit → Act → World → Prop} {H : List SProp} {f : Fr} {d : Nat} {ty_ : TypeId} {pos : String} {after : Array Edge} {guard : Option (Nat × Bool)}
    {s x : Operand} {t tx e' e : TypeId} {z : Value} {by_ sz m k cap m' cap' j : Nat} {a : Addr} {vx : Value} {xs news : List Value} {C : SProp → List SProp} {N : List SProp → Fr → Prop} (st : SliceT P t e' z 1 by_) (hs : evalX f s = some (.slice (some (a.add j)) m' cap')) (hx : evalX f x = some vx)
    (u : Hole H (Own e sz (.slice (some a) m cap) m xs) C) (hj : j + min k m' ≤ xs.length) (hsrc : ∀ w, Holds W H w → Sees w 1 vx k news) (hd : Nat.blt d n = true)
    (h : N (C (Own e sz (.slice (some a) m cap) m (xs.take j ++ news.take (min k m') ++ xs.drop (j + min k m')))) ((d, .int .i64 ((min k m' : Nat) : Int)) :: f)) :
    OpV W P n { dst := some d, op := .call { callee := .builtin .copy, args := #[s, x], argTypes := #[t, tx] }, type := ty_, pos, after, guard } Q H f N := by
  refine OpV.run (α := Unit) (v := fun _ => .int .i64 ((min k m' : Nat) : Int)) (G := fun _ => C (Own e sz (.slice (some a) m cap) m (xs.take j ++ news.take (min k m') ++ xs.drop (j + min k m')))) hd (fun tm w hk hw => ?_) (fun _ => h)
  obtain ⟨R, p, q⟩ := u.perm
  have hsee := hsrc w hw
  obtain ⟨hl, hv⟩ := (hw.perm p).ownOpen
  rcases hv with ⟨he, rfl, hR⟩ | ⟨b, cap0, spare, he, hn, hm, hc, hR⟩
  · cases he
  · cases he
    rw [Addr.add_lit, Nat.zero_add] at hs
    have hfit : j + min k m' * 1 ≤ (xs ++ spare).length := by rw [List.length_append]; omega
    obtain ⟨w', hr, h2⟩ := Holds.copyRow (ty := ty_) (tx := tx) (cap := cap') (m := m') st hR .head hfit hsee
    refine ⟨(), w', ?_, ?_⟩
    · unfold execOp
      simp only [resolve, invoke, builtin, Sem.run_bind, Sem.run_pure, Result.andThen_ok, List.map_toArray, List.map_cons, List.map_nil, hk.eval hs, hk.eval hx, hr]
    · refine Holds.perm (q _) ?_
      rw [Nat.mul_one] at h2
      have hnl : (news.take (min k m')).length = min k m' := by
        rw [List.length_take, hsee.len]; omega
      have e9 : (xs ++ spare).take j ++ news.take (min k m') ++ (xs ++ spare).drop (j + min k m') = (xs.take j ++ news.take (min k m') ++ xs.drop (j + min k m')) ++ spare := by
        rw [List.take_append_of_le_length (by omega), List.drop_append_of_le_length (by omega)]; simp
      rw [e9] at h2
      refine Holds.ownShut ?_ hn hm ?_ h2
      · simp only [List.length_append, List.length_take, List.length_drop, hl, hnl] at *; omega
      · rw [← hc]; simp only [List.length_append, List.length_take, List.length_drop, hl, hnl] at *; omega

/-- Bytes, in sectors. -/
def chunks (l : List UInt8) (n : Nat) : List (List UInt8) := (List.range n).map fun i => (l.drop (i * 128)).take 128
theorem chunks_length (l : List UInt8) (n : Nat) : (chunks l n).length = n := by simp [chunks]
theorem chunks_128 {l : List UInt8} {n : Nat} (h : l.length = n * 128) : ∀ b ∈ chunks l n, b.length = 128 := by
  intro b hb
  obtain ⟨i, hi, rfl⟩ := List.mem_map.1 hb
  have := List.mem_range.1 hi
  rw [List.length_take, List.length_drop]; omega
theorem chunks_flatten : ∀ (n : Nat) (l : List UInt8), l.length = n * 128 → (chunks l n).flatten = l
  | 0, l, h => by simp [chunks, List.eq_nil_of_length_eq_zero (by simpa using h)]
  | n + 1, l, h => by
    have ih := chunks_flatten n (l.drop 128) (by rw [List.length_drop]; omega)
    have e : chunks l (n + 1) = l.take 128 :: chunks (l.drop 128) n := by
      unfold chunks
      rw [List.range_succ_eq_map, List.map_cons, List.map_map]
      congr 1
      apply List.map_congr_left
      intro i _
      simp only [Function.comp, List.drop_drop]
      rw [show (i + 1) * 128 = 128 + i * 128 by omega]
    rw [e, List.flatten_cons, ih, List.take_append_drop]

/-- The first so many sectors laid in, noughts behind. -/
def laid (l : List UInt8) (n i : Nat) : List (List UInt8) := chunks l i ++ List.replicate (n - i) zeroSec
theorem laid_set (l : List UInt8) (n i : Nat) (h : i < n) : (laid l n i).set i ((l.drop (i * 128)).take 128) = laid l n (i + 1) := by
  unfold laid
  rw [List.set_append_right _ _ (by rw [chunks_length]; exact Nat.le_refl _), chunks_length, Nat.sub_self, show n - i = (n - (i + 1)) + 1 by omega, List.replicate_succ, List.set_cons_zero]
  have e : chunks l (i + 1) = chunks l i ++ [(l.drop (i * 128)).take 128] := by simp [chunks, List.range_succ]
  rw [e, List.append_assoc]; rfl
theorem laid_128 {l : List UInt8} {n i : Nat} (hi : i ≤ n) (h : l.length = n * 128) : ∀ b ∈ laid l n i, (bytes b).length = 128 := by
  intro b hb
  rcases List.mem_append.1 hb with q | q
  · obtain ⟨j, hj, rfl⟩ := List.mem_map.1 q
    have := List.mem_range.1 hj
    rw [bytes_length, List.length_take, List.length_drop]; omega
  · rw [List.eq_of_mem_replicate q]; simp [zeroSec]
theorem laid_length (l : List UInt8) (n i : Nat) (h : i ≤ n) : (laid l n i).length = n := by unfold laid; rw [List.length_append, chunks_length, List.length_replicate]; omega

theorem load_odd {W : World} {R : List SProp} {ao : Option Addr} {cap n : Nat} (h : n % 128 ≠ 0) :
    Does1 W Try.prog 63 [.slice ao n cap] R (.tuple #[.pointer none, .int .u16 40]) R := by
  (refine Does.enter Try.func63 Try.ntmps63 rfl rfl ?_)
  (refine w ?_; repeat ((first | refine VO.step rfl rfl ?_ | refine VD.end rfl rfl rfl ?_ | refine VD.mid rfl rfl rfl ?_); refine OpV.box rfl rfl rfl ?_; intro _; refine w ?_))
  (first | refine VO.pure rfl rfl (PureAt.rem (b := 128) rfl rfl (by decide)) rfl ?_ | refine VD.take rfl rfl rfl (PureAt.rem (b := 128) rfl rfl (by decide)) rfl ?_ | refine VQ.pure rfl rfl (PureAt.rem (b := 128) rfl rfl (by decide)) rfl ?_ | refine VD.end rfl rfl rfl (OpV.pure (PureAt.rem (b := 128) rfl rfl (by decide)) rfl ?_))
  (refine w ?_; repeat ((first | refine VO.step rfl rfl ?_ | refine VD.end rfl rfl rfl ?_ | refine VD.mid rfl rfl rfl ?_); refine OpV.box rfl rfl rfl ?_; intro _; refine w ?_))
  (refine VC.condTe rfl rfl (by simp; omega) ?_)
  (refine w ?_; repeat ((first | refine VO.step rfl rfl ?_ | refine VD.end rfl rfl rfl ?_ | refine VD.mid rfl rfl rfl ?_); refine OpV.box rfl rfl rfl ?_; intro _; refine w ?_))
  (first | exact VE.done1 rfl rfl Ent.refl | exact VE.done1N rfl rfl Ent.refl)
theorem load_big {W : World} {R : List SProp} {ao : Option Addr} {cap n : Nat} (h : n % 128 = 0) (hb : n / 128 < 1 ∨ 8192 < n / 128) (hn : n ≤ 1000000000) :
    Does1 W Try.prog 63 [.slice ao n cap] R (.tuple #[.pointer none, .int .u16 40]) R := by
  (refine Does.enter Try.func63 Try.ntmps63 rfl rfl ?_)
  (refine w ?_; repeat ((first | refine VO.step rfl rfl ?_ | refine VD.end rfl rfl rfl ?_ | refine VD.mid rfl rfl rfl ?_); refine OpV.box rfl rfl rfl ?_; intro _; refine w ?_))
  (first | refine VO.pure rfl rfl (PureAt.rem (b := 128) rfl rfl (by decide)) rfl ?_ | refine VD.take rfl rfl rfl (PureAt.rem (b := 128) rfl rfl (by decide)) rfl ?_ | refine VQ.pure rfl rfl (PureAt.rem (b := 128) rfl rfl (by decide)) rfl ?_ | refine VD.end rfl rfl rfl (OpV.pure (PureAt.rem (b := 128) rfl rfl (by decide)) rfl ?_))
  (refine w ?_; repeat ((first | refine VO.step rfl rfl ?_ | refine VD.end rfl rfl rfl ?_ | refine VD.mid rfl rfl rfl ?_); refine OpV.box rfl rfl rfl ?_; intro _; refine w ?_))
  (refine VC.condFe rfl rfl (by simp; omega) ?_)
  (refine w ?_; repeat ((first | refine VO.step rfl rfl ?_ | refine VD.end rfl rfl rfl ?_ | refine VD.mid rfl rfl rfl ?_); refine OpV.box rfl rfl rfl ?_; intro _; refine w ?_))
  (first | refine VO.pure rfl rfl (PureAt.quo (b := 128) rfl rfl (by decide) (IntWalk.i64_in _ ⟨by omega, by omega⟩)) rfl ?_ | refine VD.take rfl rfl rfl (PureAt.quo (b := 128) rfl rfl (by decide) (IntWalk.i64_in _ ⟨by omega, by omega⟩)) rfl ?_ | refine VQ.pure rfl rfl (PureAt.quo (b := 128) rfl rfl (by decide) (IntWalk.i64_in _ ⟨by omega, by omega⟩)) rfl ?_ | refine VD.end rfl rfl rfl (OpV.pure (PureAt.quo (b := 128) rfl rfl (by decide) (IntWalk.i64_in _ ⟨by omega, by omega⟩)) rfl ?_))
  (((first | refine VO.step rfl rfl ?_ | refine VD.end rfl rfl rfl ?_ | refine VD.mid rfl rfl rfl ?_); refine OpV.call rfl rfl (fun _ _ => by simp) (disknew_bad ((n / 128 : Nat) : Int) (by omega)) Ent.re rfl ?_); intro _ _)
  (refine w ?_; repeat ((first | refine VO.step rfl rfl ?_ | refine VD.end rfl rfl rfl ?_ | refine VD.mid rfl rfl rfl ?_); refine OpV.box rfl rfl rfl ?_; intro _; refine w ?_))
  (refine VE.done1 rfl ?_ ?_)
  · rfl
  · exact Ent.refl

set_option maxHeartbeats 2000000 in
theorem load_ok {W : World} {R : List SProp} {ao : Option Addr} {cap m : Nat} {l : List UInt8} (hr : Rds W R 1 ao (m * 128) (bytes l)) (h1 : 1 ≤ m) (h2 : m ≤ 8192) (hcap : m * 128 ≤ cap) :
    Does W Try.prog 63 [.slice ao (m * 128) cap] R (β := Nat) (fun _ => True) (fun d => .tuple #[.pointer (some ⟨d, 0, none⟩), .int .u16 0]) (fun d => DiskR d ⟨chunks l m, [], false⟩ :: R) := by
  have hl : l.length = m * 128 := by have := hr.len; simpa using this
  (refine Does.enter Try.func63 Try.ntmps63 rfl rfl ?_)
  (refine w ?_; repeat ((first | refine VO.step rfl rfl ?_ | refine VD.end rfl rfl rfl ?_ | refine VD.mid rfl rfl rfl ?_); refine OpV.box rfl rfl rfl ?_; intro _; refine w ?_))
  (first | refine VO.pure rfl rfl (PureAt.rem (b := 128) rfl rfl (by decide)) rfl ?_ | refine VD.take rfl rfl rfl (PureAt.rem (b := 128) rfl rfl (by decide)) rfl ?_ | refine VQ.pure rfl rfl (PureAt.rem (b := 128) rfl rfl (by decide)) rfl ?_ | refine VD.end rfl rfl rfl (OpV.pure (PureAt.rem (b := 128) rfl rfl (by decide)) rfl ?_))
  (refine w ?_; repeat ((first | refine VO.step rfl rfl ?_ | refine VD.end rfl rfl rfl ?_ | refine VD.mid rfl rfl rfl ?_); refine OpV.box rfl rfl rfl ?_; intro _; refine w ?_))
  (refine VC.condFe rfl rfl (by simp) ?_)
  (refine w ?_; repeat ((first | refine VO.step rfl rfl ?_ | refine VD.end rfl rfl rfl ?_ | refine VD.mid rfl rfl rfl ?_); refine OpV.box rfl rfl rfl ?_; intro _; refine w ?_))
  (first | refine VO.pure rfl rfl (PureAt.quo (b := 128) rfl rfl (by decide) (IntWalk.i64_in _ ⟨by omega, by omega⟩)) rfl ?_ | refine VD.take rfl rfl rfl (PureAt.quo (b := 128) rfl rfl (by decide) (IntWalk.i64_in _ ⟨by omega, by omega⟩)) rfl ?_ | refine VQ.pure rfl rfl (PureAt.quo (b := 128) rfl rfl (by decide) (IntWalk.i64_in _ ⟨by omega, by omega⟩)) rfl ?_ | refine VD.end rfl rfl rfl (OpV.pure (PureAt.quo (b := 128) rfl rfl (by decide) (IntWalk.i64_in _ ⟨by omega, by omega⟩)) rfl ?_))
  refine VO.re 14 (.int .i64 (m : Int)) rfl (by rw [Nat.mul_div_cancel _ (by decide)]) ?_
  ((first | refine VO.step rfl rfl ?_ | refine VD.end rfl rfl rfl ?_ | refine VD.mid rfl rfl rfl ?_); refine OpV.call rfl rfl (fun _ _ => by simp) (disknew_ok m h1 h2) Ent.re rfl ?_)
  intro d _
  (refine w ?_; repeat ((first | refine VO.step rfl rfl ?_ | refine VD.end rfl rfl rfl ?_ | refine VD.mid rfl rfl rfl ?_); refine OpV.box rfl rfl rfl ?_; intro _; refine w ?_))
  refine VO.obtain (fun w => DiskR.open) ?_
  rintro ⟨⟨⟨lo, lc⟩, ⟨co, cc⟩, mb⟩, hk⟩
  dsimp only [DiskO]
  simp only [List.length_replicate]
  refine VO.know (p := lo = none → m = 0) (fun w hw => Holds.ownNone hw (.tail _ (.head _))) ?_
  intro hln
  obtain ⟨b, rfl⟩ : ∃ b, lo = some b := by cases lo with | none => have := hln rfl; omega | some b => exact ⟨b, rfl⟩
  (refine w ?_; repeat ((first | refine VO.step rfl rfl ?_ | refine VD.end rfl rfl rfl ?_ | refine VD.mid rfl rfl rfl ?_); refine OpV.box rfl rfl rfl ?_; intro _; refine w ?_))
  refine VC.loop (α := Nat) (fun i => i ≤ m) (fun i => Row d 83 [.slice (some b) m lc, .slice co 0 cc, .map (some mb), .bool false] :: Own 85 128 (.slice (some b) m lc) m ((laid l m i).flatMap bytes) ::
      Own 88 129 (.slice co 0 cc) 0 [] :: MapR mb (seenOf []) :: R)
    (fun i => [(0, .slice ao (m * 128) cap), (4, .pointer (some ⟨d, 0, none⟩)), (25, .int .i64 m), (26, .int .i64 i)]) (fun i => m - i) rfl 0 (Nat.zero_le _) (by simp only [laid, chunks, List.range_zero, List.map_nil, List.nil_append, Nat.sub_zero]; exact Ent.re) ⟨rfl, rfl, rfl, rfl, trivial⟩ ?_
  intro i hi
  (refine w ?_; repeat ((first | refine VO.step rfl rfl ?_ | refine VD.end rfl rfl rfl ?_ | refine VD.mid rfl rfl rfl ?_); refine OpV.box rfl rfl rfl ?_; intro _; refine w ?_))
  (refine VC.cond rfl rfl ?_ ?_ <;> intro hc)
  · have hlt : i < m := by have := of_decide_eq_true hc; omega
    have hll := laid_length l m i hi
    have hl8 := laid_128 hi hl
    (refine w ?_; repeat ((first | refine VO.step rfl rfl ?_ | refine VD.end rfl rfl rfl ?_ | refine VD.mid rfl rfl rfl ?_); refine OpV.box rfl rfl rfl ?_; intro _; refine w ?_))
    (refine VC.drawn [] 11 [0, 1, 2, 3, 4, 5, 6, 7, 8, 9, 10, 11] _ rfl (by kernel_rfl) (by kernel_rfl) Ent.re ?_)
    (refine w ?_; repeat ((first | refine VO.step rfl rfl ?_ | refine VD.end rfl rfl rfl ?_ | refine VD.mid rfl rfl rfl ?_); refine OpV.box rfl rfl rfl ?_; intro _; refine w ?_))
    (first | refine VO.pure rfl rfl (PureAt.sliceArr (sz := 1) Try.underlying85 (by decide) (fun w => by simp) rfl) rfl ?_ | refine VD.take rfl rfl rfl (PureAt.sliceArr (sz := 1) Try.underlying85 (by decide) (fun w => by simp) rfl) rfl ?_ | refine VQ.pure rfl rfl (PureAt.sliceArr (sz := 1) Try.underlying85 (by decide) (fun w => by simp) rfl) rfl ?_ | refine VD.end rfl rfl rfl (OpV.pure (PureAt.sliceArr (sz := 1) Try.underlying85 (by decide) (fun w => by simp) rfl) rfl ?_))
    (refine w ?_; repeat ((first | refine VO.step rfl rfl ?_ | refine VD.end rfl rfl rfl ?_ | refine VD.mid rfl rfl rfl ?_); refine OpV.box rfl rfl rfl ?_; intro _; refine w ?_))
    refine VD.re 35 (.slice (some (b.add (i * 128))) 128 128) rfl (by rw [Addr_add_zero]) ?_
    refine VD.re 38 (.int .i64 ((i * 128 : Nat) : Int)) rfl rfl ?_
    (refine w ?_; repeat ((first | refine VO.step rfl rfl ?_ | refine VD.end rfl rfl rfl ?_ | refine VD.mid rfl rfl rfl ?_); refine OpV.box rfl rfl rfl ?_; intro _; refine w ?_))
    have hle : i * 128 ≤ m * 128 := Nat.mul_le_mul_right _ hi
    have hle2 : (i + 1) * 128 ≤ m * 128 := Nat.mul_le_mul_right _ hlt
    have hsub := (Rds.sub hr hle (Nat.le_refl (m * 128)) hcap).ent (H := Row d 83 [.slice (some b) m lc, .slice co 0 cc, .map (some mb), .bool false] :: Own 85 128 (.slice (some b) m lc) m ((laid l m i).flatMap bytes) ::
      Own 88 129 (.slice co 0 cc) 0 [] :: MapR mb (seenOf []) :: R) (Ent.drop (Ent.drop (Ent.drop (Ent.drop Ent.refl))))
    have hmin : min (m * 128 - i * 128) 128 = 128 := by omega
    have hnews : (((bytes l).drop (i * 128 * 1)).take ((m * 128 - i * 128) * 1)).take 128 = bytes ((l.drop (i * 128)).take 128) := by
      rw [Nat.mul_one, Nat.mul_one, List.take_take, Nat.min_eq_left (by omega), bytes, ← List.map_drop, ← List.map_take]; rfl
    (first | refine VO.step rfl rfl ?_ | refine VD.end rfl rfl rfl ?_ | refine VD.mid rfl rfl rfl ?_)
    refine OpV.copyPart st_32 rfl rfl (by (repeat first | exact .head | apply Hole.tail)) (by rw [hmin, flat_length (w := 128) _ hl8, hll]; omega) (fun w hw => hsub.sees hw) rfl ?_
    rw [hmin, hnews, flat_set (g := bytes) (w := 128) ((l.drop (i * 128)).take 128) (laid l m i) i (by omega) hl8, laid_set l m i hlt]
    (refine w ?_; repeat ((first | refine VO.step rfl rfl ?_ | refine VD.end rfl rfl rfl ?_ | refine VD.mid rfl rfl rfl ?_); refine OpV.box rfl rfl rfl ?_; intro _; refine w ?_))
    exact VE.round (i + 1) hlt (by omega) ⟨rfl, rfl, rfl, rfl, trivial⟩ Ent.re
  · have hge : i = m := by have := of_decide_eq_false hc; omega
    subst hge
    (refine w ?_; repeat ((first | refine VO.step rfl rfl ?_ | refine VD.end rfl rfl rfl ?_ | refine VD.mid rfl rfl rfl ?_); refine OpV.box rfl rfl rfl ?_; intro _; refine w ?_))
    refine VE.done d rfl trivial rfl ?_
    have hm0 : laid l i i = chunks l i := by simp [laid]
    rw [hm0]
    have := DiskR.shut (W := W) (R := R) (d := d) (k := ⟨chunks l i, [], false⟩) (x := ((some b, lc), (co, cc), mb)) ⟨chunks_128 hl, fun c hc => absurd hc (by simp), by simp only [chunks_length]; exact h2⟩
    simpa only [DiskO, chunks_length, List.length_nil, List.flatMap_nil] using this
end Go.Proofs.Ytbmcgmicnfbckaa
