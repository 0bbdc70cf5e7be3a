/- The statements of the disk: acts, DiskApart, DiskAll. -/
import Derived.Test.YthefmgmgmoanlaaDo
set_option maxRecDepth 8000
set_option linter.unusedVariables false
set_option linter.unusedSimpArgs false
set_option linter.unusedSectionVars false
namespace Go.Proofs.Ythefmgmgmoanlaa
open Go.RowKit Go.Sl
attribute [local irreducible] Own

structure ActD where
  kind : UInt8
  at_ : Int
  dao : Option Addr
  dcap : Nat
  data : List UInt8
  kao : Option Addr
  kcap : Nat
  keep : List Bool
abbrev ActD.cells (o : ActD) : List Value := [.int .u8 (o.kind.toNat : Int), .int .i64 o.at_, .slice o.dao o.data.length o.dcap, .slice o.kao o.keep.length o.kcap]
structure ActD.wf (W : World) (o : ActD) : Prop where
  data : RdsA W 1 o.dao o.data.length (bytes o.data)
  keep : RdsA W 1 o.kao o.keep.length (bools o.keep)
  dl : o.data.length ≤ 140737488355328
  kl : o.keep.length ≤ 140737488355328
def actCells (l : List ActD) : List Value := l.flatMap ActD.cells
structure Acts (W : World) (ao : Option Addr) (l : List ActD) : Prop where
  rds : ∀ H : List SProp, Rds W H 4 ao l.length (actCells l)
  wf : ∀ o ∈ l, o.wf W
theorem flat_get {α β : Type} {g : α → List β} {w : Nat} (l : List α) (j i : Nat) (h : j < l.length) (hw : ∀ a ∈ l, (g a).length = w) (hi : i < w) : (l.flatMap g)[j * w + i]? = (g l[j])[i]? := by
  rw [← flat_part l j h hw, List.getElem?_take, if_pos hi, List.getElem?_drop]
theorem actCells_get (l : List ActD) (j i : Nat) (h : j < l.length) (hi : i < 4) : (actCells l)[j * 4 + i]? = (l[j].cells)[i]? := flat_get l j i h (fun _ _ => rfl) hi

theorem act_of {W : World} {cs : List Value} (h : InT Try.prog W 53 cs) : ∃ o : ActD, cs = o.cells ∧ o.wf W := by
  have hl := (h.struct_inv Try.underlying53).1
  have c4 : Try.prog.cellsOf 53 = 4 := by kernel_rfl
  rw [c4] at hl
  match cs, hl with
  | [v0, v1, v2, v3], _ =>
    have k5 : Try.prog.cellsOf 5 = 1 := by kernel_rfl
    have k3 : Try.prog.cellsOf 3 = 1 := by kernel_rfl
    have k35 : Try.prog.cellsOf 35 = 1 := by kernel_rfl
    have k51 : Try.prog.cellsOf 51 = 1 := by kernel_rfl
    have f0 : InT Try.prog W 5 [v0] := h.field (i := 0) (off := 0) Try.underlying53 rfl rfl rfl k5
    have f1 : InT Try.prog W 3 [v1] := h.field (i := 1) (off := 1) Try.underlying53 rfl rfl rfl k3
    have f2 : InT Try.prog W 35 [v2] := h.field (i := 2) (off := 2) Try.underlying53 rfl rfl rfl k35
    have f3 : InT Try.prog W 51 [v3] := h.field (i := 3) (off := 3) Try.underlying53 rfl rfl rfl k51
    obtain ⟨n0, e0, w0⟩ := f0.int_inv Try.underlying5
    obtain ⟨n1, e1, -⟩ := f1.int_inv Try.underlying3
    obtain ⟨ao2, n2, cap2, _, e2, _⟩ := f2.slice_inv Try.underlying35
    obtain ⟨ao3, n3, cap3, _, e3, _⟩ := f3.slice_inv Try.underlying51
    rw [e2] at f2
    rw [e3] at f3
    obtain ⟨l, rfl, hr, hb⟩ := bytes_of f2
    obtain ⟨m, rfl, hr', hb'⟩ := bools_of f3
    cases e0; cases e1; cases e2; cases e3
    obtain ⟨c, rfl⟩ := byte_of w0
    exact ⟨⟨c, n1, ao2, cap2, l, ao3, cap3, m⟩, rfl, ⟨hr, hr', by dsimp only; omega, by dsimp only; omega⟩⟩

theorem acts_of {W : World} {ao : Option Addr} {n cap : Nat} (h : InT Try.prog W 44 [.slice ao n cap]) : ∃ l : List ActD, l.length = n ∧ Acts W ao l := by
  obtain ⟨ao', n', cap', row, he, h0, hn, hm, hr, hl, hc, hi⟩ := h.slice_inv Try.underlying44
  cases he
  have c1 : Try.prog.cellsOf 53 = 4 := by kernel_rfl
  rw [c1] at hl hc
  have hb : ∀ i, ∃ o : ActD, i < cap → row i = o.cells ∧ o.wf W := fun i => by
    by_cases h : i < cap
    · obtain ⟨o, h1, h2⟩ := act_of (hi i h)
      exact ⟨o, fun _ => ⟨h1, h2⟩⟩
    · exact ⟨⟨0, 0, none, 0, [], none, 0, []⟩, fun h' => absurd h' h⟩
  obtain ⟨c, hcc⟩ := Classical.axiomOfChoice hb
  have e : (List.range n).flatMap row = actCells ((List.range n).map c) := by
    have : ∀ k, k ≤ n → (List.range k).flatMap row = actCells ((List.range k).map c) := by
      intro k
      induction k with
      | zero => intro _; rfl
      | succ k ih =>
        intro hk
        rw [List.range_succ, List.flatMap_append, List.map_append, ih (by omega)]
        simp [actCells, (hcc k (by omega)).1]
    exact this n (Nat.le_refl _)
  refine ⟨(List.range n).map c, by simp, ⟨fun R => ?_, fun o ho => ?_⟩⟩
  · have hs := sees_rows (R := R) h0 hn hl (fun i h u hu => by rw [(hcc i h).1] at hu; simp at hu; rcases hu with rfl | rfl | rfl | rfl <;> rfl) hc
    rw [e] at hs
    simpa using hs
  · obtain ⟨i, hi', rfl⟩ := List.mem_map.1 ho
    exact (hcc i (by have := List.mem_range.1 hi'; omega)).2

theorem PureAt.remI {W : World} {P : Program} {n : Nat} {H : List SProp} {f : Fr} {dst : Option Tmp} {ty_ : TypeId} {pos : String} {after : Array Edge} {guard : Option (Nat × Bool)} {x y : Operand} {s u : TypeId} {k : IntKind} {a b : Int} (hx : evalX f x = some (.int k a)) (hy : evalX f y = some (.int k b)) (hb : b ≠ 0) :
    PureAt W P n H f { dst, op := .binOp .rem s x y u, type := ty_, pos, after, guard } (.int k (a.tmod b)) := by
  unfold PureAt
  intro tm w hk _
  simp [execOp, hk.eval hx, hk.eval hy, eqGuard, binOp, Op.intDiv, hb]

/-! ### What lasts -/

theorem sets_none (keep : Nat → Bool) (hk : ∀ i, keep i = false) : ∀ (l : List (Nat × List UInt8)) (last : List (List UInt8)) (i : Nat), sets keep last i l = last
  | [], _, _ => rfl
  | c :: r, last, i => by rw [sets, hk i, if_neg (by simp)]; exact sets_none keep hk r last (i + 1)
theorem sets_congr (keep keep' : Nat → Bool) : ∀ (l : List (Nat × List UInt8)) (last : List (List UInt8)) (i : Nat), (∀ j, j < l.length → keep (i + j) = keep' (i + j)) → sets keep last i l = sets keep' last i l
  | [], _, _, _ => rfl
  | c :: r, last, i, h => by
    have h0 := h 0 (by simp)
    rw [Nat.add_zero] at h0
    rw [sets, sets, h0]
    exact sets_congr keep keep' r _ (i + 1) fun j hj => by have := h (j + 1) (by simpa using hj); rwa [show i + (j + 1) = i + 1 + j by omega] at this
theorem DiskD.settle_none (k : DiskD) (keep : Nat → Bool) (hk : ∀ i, keep i = false) : k.settle keep = ⟨k.last, [], k.failed⟩ := by
  unfold DiskD.settle; rw [sets_none keep hk]
theorem DiskD.settle_clean {k : DiskD} (h : k.cache = []) (keep : Nat → Bool) : k.settle keep = k := by
  obtain ⟨a, b, c⟩ := k; simp only at h; subst h; rfl
theorem DiskD.settle_last_length (k : DiskD) (keep : Nat → Bool) : (k.settle keep).last.length = k.last.length := sets_length _ _ _ _
theorem rdsNone {W : World} {R : List SProp} : Rds W R 1 none 0 [] := by
  refine ⟨rfl, fun _ h => ?_, fun _ => rfl, fun _ _ _ h => ?_⟩
  · cases h
  · cases h

set_option maxHeartbeats 8000000 in
theorem dapart_ok {W : World} (s t : UInt8) {ao : Option Addr} {cap : Nat} {l : List ActD} (hs : Acts W ao l) :
    Does1 W Try.prog 4 [.int .u8 (s.toNat : Int), .int .u8 (t.toNat : Int), .slice ao l.length cap] [] (.bool true) [] := by
  have hs9 := s.toNat_lt
  have ht9 := t.toNat_lt
  (refine Does.enter Try.func4 Try.ntmps4 rfl rfl ?_)
  (refine w ?_; repeat ((first | refine VO.step rfl rfl ?_ | refine VD.end rfl rfl rfl ?_ | refine VD.mid rfl rfl rfl ?_); refine OpV.box rfl rfl rfl ?_; intro _; refine w ?_))
  refine VO.re 20 (.int .i64 (s.toNat : Int)) rfl (by rw [IntWalk.i64_in _ ⟨by omega, by omega⟩]) ?_
  (first | refine VO.pure rfl rfl (PureAt.rem (b := 20) rfl rfl (by decide)) rfl ?_ | refine VD.take rfl rfl rfl (PureAt.rem (b := 20) rfl rfl (by decide)) rfl ?_ | refine VQ.pure rfl rfl (PureAt.rem (b := 20) rfl rfl (by decide)) rfl ?_ | refine VD.end rfl rfl rfl (OpV.pure (PureAt.rem (b := 20) rfl rfl (by decide)) rfl ?_))
  (first | (first | refine VO.nil rfl ?_ | refine VQ.nil rfl ?_ | refine VD.nil ?_ | ((first | apply VO.pure rfl rfl | apply VQ.pure rfl rfl | apply VD.take rfl rfl rfl | (refine VD.end rfl rfl rfl ?_; apply OpV.pure)); (first | (apply PureAt.ar64 rfl rfl rfl; omega) | exact .eval tab_ok rfl | (apply PureAt.ld tab_ok rfl rfl; (focus repeat first | exact .head _ | apply List.Mem.tail); rfl) | (apply PureAt.shr rfl rfl (by decide) (by decide)) | (apply PureAt.shr rfl rfl (by omega) (by simp only [IntKind.bits]; omega)) | exact .fieldAddrA tab_ok rfl rfl | exact .sliceLH tab_ok rfl rfl rfl rfl (by omega) (by omega) | exact .sliceH tab_ok rfl rfl rfl (by omega) | exact .sliceL tab_ok rfl rfl rfl (by omega) | (first | exact .indexAddr tab_ok rfl rfl rfl rfl (by omega) | exact .indexAddrN tab_ok rfl rfl rfl rfl (by omega) | exact .ldR tab_ok rfl rfl hr1 (List.getElem?_eq_getElem (by omega)) | exact .ldR tab_ok rfl rfl hr2 (List.getElem?_eq_getElem (by omega)) | exact ldB tab_ok rfl rfl hb1 (by omega) | exact ldB tab_ok rfl rfl hb2 (by omega)) | (apply PureAt.ldA tab_ok rfl rfl; (focus repeat first | exact .head _ | apply List.Mem.tail); rfl; rfl) | exact .ldro tab_ok rfl rfl (by assumption)); rfl) | refine VO.skip rfl rfl rfl rfl ?_ | refine VQ.skip rfl rfl rfl rfl ?_ | refine VD.skip rfl rfl rfl rfl rfl ?_ | ((first | refine VO.step rfl rfl ?_ | refine VD.end rfl rfl rfl ?_ | refine VD.mid rfl rfl rfl ?_); (first | (apply OpV.st tab_ok rfl rfl rfl rfl (by (repeat first | exact .head | apply Hole.tail)) (by simp)) | (refine OpV.box rfl rfl rfl ?_; intro _))) | refine ⟨Ent.re, ?_⟩) | (first | refine VC.seq rfl ?_ | refine VC.region rfl ?_ | refine VC.condT rfl rfl ?_ | refine VC.condF rfl rfl ?_ | refine VC.block rfl ?_ | refine VC.skip rfl ?_ | refine VC.ret rfl ?_ | refine VC.exit rfl ?_) | (first | refine VE.next ?_ | refine VE.passRet ?_ | refine VE.passExit ?_ | refine VE.blockNormal ?_ | refine VE.blockHit ?_ | refine VE.blockMiss rfl ?_ | refine VE.blockRet ?_ | refine VE.loopRet ?_ | refine VE.loopExit ?_))
  refine VO.re 22 (.int .i64 ((s.toNat % 20 + 2 : Nat) : Int)) rfl (by first | rfl | (congr 1; done) | (rw [IntWalk.i64_in _ ⟨by omega, by omega⟩]; rfl)) ?_
  generalize hn : s.toNat % 20 + 2 = n
  have hn1 : 2 ≤ n := by omega
  have hn2 : n ≤ 21 := by omega
  (refine w ?_; repeat ((first | refine VO.step rfl rfl ?_ | refine VD.end rfl rfl rfl ?_ | refine VD.mid rfl rfl rfl ?_); refine OpV.box rfl rfl rfl ?_; intro _; refine w ?_))
  refine VO.re 24 (.int .i64 (t.toNat : Int)) rfl (by rw [IntWalk.i64_in _ ⟨by omega, by omega⟩]) ?_
  (refine w ?_; repeat ((first | refine VO.step rfl rfl ?_ | refine VD.end rfl rfl rfl ?_ | refine VD.mid rfl rfl rfl ?_); refine OpV.box rfl rfl rfl ?_; intro _; refine w ?_))
  (first | refine VO.pure rfl rfl (PureAt.rem (b := n) rfl rfl (by omega)) rfl ?_ | refine VD.take rfl rfl rfl (PureAt.rem (b := n) rfl rfl (by omega)) rfl ?_ | refine VQ.pure rfl rfl (PureAt.rem (b := n) rfl rfl (by omega)) rfl ?_ | refine VD.end rfl rfl rfl (OpV.pure (PureAt.rem (b := n) rfl rfl (by omega)) rfl ?_))
  generalize hk : t.toNat % n = k
  have hkn : k < n := by rw [← hk]; exact Nat.mod_lt _ (by omega)
  (refine w ?_; repeat ((first | refine VO.step rfl rfl ?_ | refine VD.end rfl rfl rfl ?_ | refine VD.mid rfl rfl rfl ?_); refine OpV.box rfl rfl rfl ?_; intro _; refine w ?_))
  ((first | refine VO.split rfl rfl rfl ?_ ?_ | refine VD.split rfl rfl rfl ?_ ?_) <;> intro hb)
  · (refine w ?_; repeat ((first | refine VO.step rfl rfl ?_ | refine VD.end rfl rfl rfl ?_ | refine VD.mid rfl rfl rfl ?_); refine OpV.box rfl rfl rfl ?_; intro _; refine w ?_))
    (((first | refine VO.step rfl rfl ?_ | refine VD.end rfl rfl rfl ?_ | refine VD.mid rfl rfl rfl ?_); refine OpV.call rfl rfl (fun _ _ => by simp) (dknown_ok) Ent.re rfl ?_); intro _ _)
    (refine w ?_; repeat ((first | refine VO.step rfl rfl ?_ | refine VD.end rfl rfl rfl ?_ | refine VD.mid rfl rfl rfl ?_); refine OpV.box rfl rfl rfl ?_; intro _; refine w ?_))
    (first | exact VE.done1 rfl rfl Ent.refl | exact VE.done1N rfl rfl Ent.refl)
  have hlen : l.length ≤ 300 := by have := of_decide_eq_false hb; omega
  (refine w ?_; repeat ((first | refine VO.step rfl rfl ?_ | refine VD.end rfl rfl rfl ?_ | refine VD.mid rfl rfl rfl ?_); refine OpV.box rfl rfl rfl ?_; intro _; refine w ?_))
  (((first | refine VO.step rfl rfl ?_ | refine VD.end rfl rfl rfl ?_ | refine VD.mid rfl rfl rfl ?_); refine OpV.call rfl rfl (fun _ _ => by simp) (dknown_ok) Ent.re rfl ?_); intro _ _)
  (refine w ?_; repeat ((first | refine VO.step rfl rfl ?_ | refine VD.end rfl rfl rfl ?_ | refine VD.mid rfl rfl rfl ?_); refine OpV.box rfl rfl rfl ?_; intro _; refine w ?_))
  ((first | refine VO.step rfl rfl ?_ | refine VD.end rfl rfl rfl ?_ | refine VD.mid rfl rfl rfl ?_); refine OpV.call rfl rfl (fun _ _ => by simp) (disknew_ok n (by omega) (by omega)) Ent.re rfl ?_)
  intro d _
  (refine w ?_; repeat ((first | refine VO.step rfl rfl ?_ | refine VD.end rfl rfl rfl ?_ | refine VD.mid rfl rfl rfl ?_); refine OpV.box rfl rfl rfl ?_; intro _; refine w ?_))
  ((first | refine VO.step rfl rfl ?_ | refine VD.end rfl rfl rfl ?_ | refine VD.mid rfl rfl rfl ?_); refine OpV.call rfl rfl (fun _ _ => by simp) (disknew_ok n (by omega) (by omega)) Ent.re rfl ?_)
  intro o _
  (refine w ?_; repeat ((first | refine VO.step rfl rfl ?_ | refine VD.end rfl rfl rfl ?_ | refine VD.mid rfl rfl rfl ?_); refine OpV.box rfl rfl rfl ?_; intro _; refine w ?_))
  ((first | refine VO.step rfl rfl ?_ | refine VD.end rfl rfl rfl ?_ | refine VD.mid rfl rfl rfl ?_); refine OpV.call rfl rfl (fun _ _ => by simp) (sector_lit 5 (by decide)) Ent.re rfl ?_)
  intro s1 _
  (refine w ?_; repeat ((first | refine VO.step rfl rfl ?_ | refine VD.end rfl rfl rfl ?_ | refine VD.mid rfl rfl rfl ?_); refine OpV.box rfl rfl rfl ?_; intro _; refine w ?_))
  (((first | refine VO.step rfl rfl ?_ | refine VD.end rfl rfl rfl ?_ | refine VD.mid rfl rfl rfl ?_); refine OpV.call rfl rfl (fun _ _ => by simp) (write_ok d ⟨List.replicate n zeroSec, [], false⟩ k (by rw [List.length_replicate]; exact hkn) rfl (fullSec_length _) (Nat.zero_le _) SecO.rds) Ent.re rfl ?_); intro _ _)
  (refine w ?_; repeat ((first | refine VO.step rfl rfl ?_ | refine VD.end rfl rfl rfl ?_ | refine VD.mid rfl rfl rfl ?_); refine OpV.box rfl rfl rfl ?_; intro _; refine w ?_))
  (((first | refine VO.step rfl rfl ?_ | refine VD.end rfl rfl rfl ?_ | refine VD.mid rfl rfl rfl ?_); refine OpV.call rfl rfl (fun _ _ => by simp) (flush_ok d (DiskD.write ⟨List.replicate n zeroSec, [], false⟩ k (fullSec (UInt8.ofNat 5))) rfl) Ent.re rfl ?_); intro _ _)
  generalize hk0 : (DiskD.write ⟨List.replicate n zeroSec, [], false⟩ k (fullSec (UInt8.ofNat 5))).settle (fun _ => true) = k0
  have hf0 : k0.failed = false := by subst hk0; rfl
  have hl0 : k0.last.length = n := by subst hk0; exact (DiskD.settle_last_length _ _).trans List.length_replicate
  have hc0 : k0.cache = [] := by subst hk0; rfl
  have h5 : k0.last[k]? = some (fullSec 5) := by
    subst hk0
    show ((List.replicate n zeroSec).set k (fullSec (UInt8.ofNat 5)))[k]? = _
    rw [List.getElem?_set_self (by rw [List.length_replicate]; exact hkn)]; rfl
  (refine w ?_; repeat ((first | refine VO.step rfl rfl ?_ | refine VD.end rfl rfl rfl ?_ | refine VD.mid rfl rfl rfl ?_); refine OpV.box rfl rfl rfl ?_; intro _; refine w ?_))
  ((first | refine VO.step rfl rfl ?_ | refine VD.end rfl rfl rfl ?_ | refine VD.mid rfl rfl rfl ?_); refine OpV.call rfl rfl (fun _ _ => by simp) (sector_lit 6 (by decide)) Ent.re rfl ?_)
  intro s2 _
  (refine w ?_; repeat ((first | refine VO.step rfl rfl ?_ | refine VD.end rfl rfl rfl ?_ | refine VD.mid rfl rfl rfl ?_); refine OpV.box rfl rfl rfl ?_; intro _; refine w ?_))
  (((first | refine VO.step rfl rfl ?_ | refine VD.end rfl rfl rfl ?_ | refine VD.mid rfl rfl rfl ?_); refine OpV.call rfl rfl (fun _ _ => by simp) (write_ok d k0 k (by omega) hf0 (fullSec_length _) (by rw [hc0]; exact Nat.zero_le _) SecO.rds) Ent.re rfl ?_); intro _ _)
  (refine w ?_; repeat ((first | refine VO.step rfl rfl ?_ | refine VD.end rfl rfl rfl ?_ | refine VD.mid rfl rfl rfl ?_); refine OpV.box rfl rfl rfl ?_; intro _; refine w ?_))
  refine VC.loop (α := Nat × DiskD × DiskD) (fun g => g.1 ≤ l.length ∧ g.2.1.failed = false ∧ g.2.1.last = k0.last ∧ g.2.1.look k = fullSec 6 ∧ g.2.1.cache.length ≤ g.1 + 1 ∧ g.2.2.failed = false ∧ g.2.2.last.length = n ∧ g.2.2.cache.length ≤ g.1)
    (fun g => [DiskR d g.2.1, DiskR o g.2.2])
    (fun g => [(2, .slice ao l.length cap), (7, .int .i64 n), (8, .int .i64 k), (9, .pointer (some ⟨d, 0, none⟩)), (11, .pointer (some ⟨o, 0, none⟩)), (13, .int .i64 g.1)]) (fun g => l.length - g.1) rfl
    (0, k0.write k (fullSec (UInt8.ofNat 6)), ⟨List.replicate n zeroSec, [], false⟩)
    ⟨Nat.zero_le _, hf0, rfl, (by rw [DiskD.look_write, if_pos rfl]; rfl), (by show (k0.cache ++ [_]).length ≤ 1; rw [hc0]; exact Nat.le_refl _), rfl, List.length_replicate, Nat.le_refl _⟩ Ent.re ⟨rfl, rfl, rfl, rfl, rfl, rfl, trivial⟩ ?_
  rintro ⟨i, K, O⟩ ⟨hi, hKf, hKl, hK6, hKc, hOf, hOl, hOc⟩
  dsimp only at hi hKf hKl hK6 hKc hOf hOl hOc ⊢
  have hKn : K.last.length = n := by rw [hKl]; exact hl0
  (refine w ?_; repeat ((first | refine VO.step rfl rfl ?_ | refine VD.end rfl rfl rfl ?_ | refine VD.mid rfl rfl rfl ?_); refine OpV.box rfl rfl rfl ?_; intro _; refine w ?_))
  (refine VC.cond rfl rfl ?_ ?_ <;> intro hc)
  · have hlt : i < l.length := by have := of_decide_eq_true hc; omega
    obtain ⟨a, rfl⟩ : ∃ a, ao = some a := by cases ao with | none => have := (hs.rds []).nil rfl; omega | some a => exact ⟨a, rfl⟩
    have hwf := hs.wf l[i] (List.getElem_mem hlt)
    have c0 := (actCells_get l i 0 hlt (by decide)).trans (show _ = some (Value.int .u8 (l[i].kind.toNat : Int)) from rfl)
    have c1 := (actCells_get l i 1 hlt (by decide)).trans (show _ = some (Value.int .i64 l[i].at_) from rfl)
    have c3 := (actCells_get l i 3 hlt (by decide)).trans (show _ = some (Value.slice l[i].kao l[i].keep.length l[i].kcap) from rfl)
    generalize l[i] = x at *
    have hx9 := x.kind.toNat_lt
    (refine w ?_; repeat ((first | refine VO.step rfl rfl ?_ | refine VD.end rfl rfl rfl ?_ | refine VD.mid rfl rfl rfl ?_); refine OpV.box rfl rfl rfl ?_; intro _; refine w ?_))
    (first | refine VO.pure rfl rfl (.ldRc tab_ok rfl rfl (hs.rds _) c0) rfl ?_ | refine VD.take rfl rfl rfl (.ldRc tab_ok rfl rfl (hs.rds _) c0) rfl ?_ | refine VQ.pure rfl rfl (.ldRc tab_ok rfl rfl (hs.rds _) c0) rfl ?_ | refine VD.end rfl rfl rfl (OpV.pure (.ldRc tab_ok rfl rfl (hs.rds _) c0) rfl ?_))
    (first | (first | refine VO.nil rfl ?_ | refine VQ.nil rfl ?_ | refine VD.nil ?_ | ((first | apply VO.pure rfl rfl | apply VQ.pure rfl rfl | apply VD.take rfl rfl rfl | (refine VD.end rfl rfl rfl ?_; apply OpV.pure)); (first | (apply PureAt.ar64 rfl rfl rfl; omega) | exact .eval tab_ok rfl | (apply PureAt.ld tab_ok rfl rfl; (focus repeat first | exact .head _ | apply List.Mem.tail); rfl) | (apply PureAt.shr rfl rfl (by decide) (by decide)) | (apply PureAt.shr rfl rfl (by omega) (by simp only [IntKind.bits]; omega)) | exact .fieldAddrA tab_ok rfl rfl | exact .sliceLH tab_ok rfl rfl rfl rfl (by omega) (by omega) | exact .sliceH tab_ok rfl rfl rfl (by omega) | exact .sliceL tab_ok rfl rfl rfl (by omega) | (first | exact .indexAddr tab_ok rfl rfl rfl rfl (by omega) | exact .indexAddrN tab_ok rfl rfl rfl rfl (by omega) | exact .ldR tab_ok rfl rfl hr1 (List.getElem?_eq_getElem (by omega)) | exact .ldR tab_ok rfl rfl hr2 (List.getElem?_eq_getElem (by omega)) | exact ldB tab_ok rfl rfl hb1 (by omega) | exact ldB tab_ok rfl rfl hb2 (by omega)) | (apply PureAt.ldA tab_ok rfl rfl; (focus repeat first | exact .head _ | apply List.Mem.tail); rfl; rfl) | exact .ldro tab_ok rfl rfl (by assumption)); rfl) | refine VO.skip rfl rfl rfl rfl ?_ | refine VQ.skip rfl rfl rfl rfl ?_ | refine VD.skip rfl rfl rfl rfl rfl ?_ | ((first | refine VO.step rfl rfl ?_ | refine VD.end rfl rfl rfl ?_ | refine VD.mid rfl rfl rfl ?_); (first | (apply OpV.st tab_ok rfl rfl rfl rfl (by (repeat first | exact .head | apply Hole.tail)) (by simp)) | (refine OpV.box rfl rfl rfl ?_; intro _))) | refine ⟨Ent.re, ?_⟩) | (first | refine VC.seq rfl ?_ | refine VC.region rfl ?_ | refine VC.condT rfl rfl ?_ | refine VC.condF rfl rfl ?_ | refine VC.block rfl ?_ | refine VC.skip rfl ?_ | refine VC.ret rfl ?_ | refine VC.exit rfl ?_) | (first | refine VE.next ?_ | refine VE.passRet ?_ | refine VE.passExit ?_ | refine VE.blockNormal ?_ | refine VE.blockHit ?_ | refine VE.blockMiss rfl ?_ | refine VE.blockRet ?_ | refine VE.loopRet ?_ | refine VE.loopExit ?_))
    refine VO.re 80 (.int .i64 (x.kind.toNat : Int)) rfl (by rw [IntWalk.i64_in _ ⟨by omega, by omega⟩]) ?_
    (refine w ?_; repeat ((first | refine VO.step rfl rfl ?_ | refine VD.end rfl rfl rfl ?_ | refine VD.mid rfl rfl rfl ?_); refine OpV.box rfl rfl rfl ?_; intro _; refine w ?_))
    (first | refine VO.pure rfl rfl (PureAt.rem (b := n) rfl rfl (by omega)) rfl ?_ | refine VD.take rfl rfl rfl (PureAt.rem (b := n) rfl rfl (by omega)) rfl ?_ | refine VQ.pure rfl rfl (PureAt.rem (b := n) rfl rfl (by omega)) rfl ?_ | refine VD.end rfl rfl rfl (OpV.pure (PureAt.rem (b := n) rfl rfl (by omega)) rfl ?_))
    generalize hm : x.kind.toNat % n = m
    have hmn : m < n := by rw [← hm]; exact Nat.mod_lt _ (by omega)
    (refine w ?_; repeat ((first | refine VO.step rfl rfl ?_ | refine VD.end rfl rfl rfl ?_ | refine VD.mid rfl rfl rfl ?_); refine OpV.box rfl rfl rfl ?_; intro _; refine w ?_))
    (refine VC.join (α := DiskD) (fun K' => K'.failed = false ∧ K'.last = k0.last ∧ K'.look k = fullSec 6 ∧ K'.cache.length ≤ i + 2) (fun K' => [DiskR d K', DiskR o O]) (fun _ => [(2, .slice (some a) l.length cap), (7, .int .i64 n), (8, .int .i64 k), (9, .pointer (some ⟨d, 0, none⟩)), (11, .pointer (some ⟨o, 0, none⟩)), (13, .int .i64 i)]) ?_ ?_)
    · intro Q2 jn
      (refine VC.cond rfl rfl ?_ ?_ <;> intro hc)
      · have hmk : m ≠ k := by intro e; subst e; simp at hc
        (refine w ?_; repeat ((first | refine VO.step rfl rfl ?_ | refine VD.end rfl rfl rfl ?_ | refine VD.mid rfl rfl rfl ?_); refine OpV.box rfl rfl rfl ?_; intro _; refine w ?_))
        (first | refine VO.pure rfl rfl (.ldRc tab_ok rfl rfl (hs.rds _) c0) rfl ?_ | refine VD.take rfl rfl rfl (.ldRc tab_ok rfl rfl (hs.rds _) c0) rfl ?_ | refine VQ.pure rfl rfl (.ldRc tab_ok rfl rfl (hs.rds _) c0) rfl ?_ | refine VD.end rfl rfl rfl (OpV.pure (.ldRc tab_ok rfl rfl (hs.rds _) c0) rfl ?_))
        ((first | refine VO.step rfl rfl ?_ | refine VD.end rfl rfl rfl ?_ | refine VD.mid rfl rfl rfl ?_); refine OpV.call rfl rfl (fun _ _ => by simp) (sector_ok x.kind) Ent.re rfl ?_)
        intro q _
        (refine w ?_; repeat ((first | refine VO.step rfl rfl ?_ | refine VD.end rfl rfl rfl ?_ | refine VD.mid rfl rfl rfl ?_); refine OpV.box rfl rfl rfl ?_; intro _; refine w ?_))
        (((first | refine VO.step rfl rfl ?_ | refine VD.end rfl rfl rfl ?_ | refine VD.mid rfl rfl rfl ?_); refine OpV.call rfl rfl (fun _ _ => by simp) (write_ok d K m (by omega) hKf (fullSec_length _) (by omega) SecO.rds) Ent.re rfl ?_); intro _ _)
        (refine w ?_; repeat ((first | refine VO.step rfl rfl ?_ | refine VD.end rfl rfl rfl ?_ | refine VD.mid rfl rfl rfl ?_); refine OpV.box rfl rfl rfl ?_; intro _; refine w ?_))
        (refine jn.to (K.write m (fullSec x.kind)) ⟨hKf, hKl, (by rw [DiskD.look_write, if_neg (fun e => hmk e.symm)]; exact hK6), (by show (K.cache ++ [_]).length ≤ _; rw [List.length_append]; simp; omega)⟩ ⟨rfl, rfl, rfl, rfl, rfl, rfl, trivial⟩ ?_; (try dsimp only); exact Ent.re)
      · (refine w ?_; repeat ((first | refine VO.step rfl rfl ?_ | refine VD.end rfl rfl rfl ?_ | refine VD.mid rfl rfl rfl ?_); refine OpV.box rfl rfl rfl ?_; intro _; refine w ?_))
        (refine jn.to K ⟨hKf, hKl, hK6, by omega⟩ ⟨rfl, rfl, rfl, rfl, rfl, rfl, trivial⟩ ?_; (try dsimp only); exact Ent.re)
    rintro K' ⟨hKf', hKl', hK6', hKc'⟩
    try dsimp only
    have hKn' : K'.last.length = n := by rw [hKl']; exact hl0
    (refine w ?_; repeat ((first | refine VO.step rfl rfl ?_ | refine VD.end rfl rfl rfl ?_ | refine VD.mid rfl rfl rfl ?_); refine OpV.box rfl rfl rfl ?_; intro _; refine w ?_))
    (first | refine VO.pure rfl rfl (.ldRc tab_ok rfl rfl (hs.rds _) c0) rfl ?_ | refine VD.take rfl rfl rfl (.ldRc tab_ok rfl rfl (hs.rds _) c0) rfl ?_ | refine VQ.pure rfl rfl (.ldRc tab_ok rfl rfl (hs.rds _) c0) rfl ?_ | refine VD.end rfl rfl rfl (OpV.pure (.ldRc tab_ok rfl rfl (hs.rds _) c0) rfl ?_))
    ((first | refine VO.step rfl rfl ?_ | refine VD.end rfl rfl rfl ?_ | refine VD.mid rfl rfl rfl ?_); refine OpV.call rfl rfl (fun _ _ => by simp) (sector_ok x.kind) Ent.re rfl ?_)
    intro q _
    (refine w ?_; repeat ((first | refine VO.step rfl rfl ?_ | refine VD.end rfl rfl rfl ?_ | refine VD.mid rfl rfl rfl ?_); refine OpV.box rfl rfl rfl ?_; intro _; refine w ?_))
    (((first | refine VO.step rfl rfl ?_ | refine VD.end rfl rfl rfl ?_ | refine VD.mid rfl rfl rfl ?_); refine OpV.call rfl rfl (fun _ _ => by simp) (write_ok o O k (by omega) hOf (fullSec_length _) (by omega) SecO.rds) Ent.re rfl ?_); intro _ _)
    generalize hO1 : O.write k (fullSec x.kind) = O1
    have hOf1 : O1.failed = false := by subst hO1; exact hOf
    have hOl1 : O1.last.length = n := by subst hO1; exact hOl
    have hOc1 : O1.cache.length ≤ i + 1 := by subst hO1; show (O.cache ++ [_]).length ≤ _; rw [List.length_append]; simp; omega
    (refine w ?_; repeat ((first | refine VO.step rfl rfl ?_ | refine VD.end rfl rfl rfl ?_ | refine VD.mid rfl rfl rfl ?_); refine OpV.box rfl rfl rfl ?_; intro _; refine w ?_))
    (first | refine VO.pure rfl rfl (.ldRc tab_ok rfl rfl (hs.rds _) c1) rfl ?_ | refine VD.take rfl rfl rfl (.ldRc tab_ok rfl rfl (hs.rds _) c1) rfl ?_ | refine VQ.pure rfl rfl (.ldRc tab_ok rfl rfl (hs.rds _) c1) rfl ?_ | refine VD.end rfl rfl rfl (OpV.pure (.ldRc tab_ok rfl rfl (hs.rds _) c1) rfl ?_))
    (first | refine VO.pure rfl rfl (PureAt.remI (b := 5) rfl rfl (by decide)) rfl ?_ | refine VD.take rfl rfl rfl (PureAt.remI (b := 5) rfl rfl (by decide)) rfl ?_ | refine VQ.pure rfl rfl (PureAt.remI (b := 5) rfl rfl (by decide)) rfl ?_ | refine VD.end rfl rfl rfl (OpV.pure (PureAt.remI (b := 5) rfl rfl (by decide)) rfl ?_))
    (refine w ?_; repeat ((first | refine VO.step rfl rfl ?_ | refine VD.end rfl rfl rfl ?_ | refine VD.mid rfl rfl rfl ?_); refine OpV.box rfl rfl rfl ?_; intro _; refine w ?_))
    (refine VC.join (α := DiskD) (fun O' => O'.failed = false ∧ O'.last.length = n ∧ O'.cache.length ≤ i + 1) (fun O' => [DiskR d K', DiskR o O']) (fun _ => [(2, .slice (some a) l.length cap), (7, .int .i64 n), (8, .int .i64 k), (9, .pointer (some ⟨d, 0, none⟩)), (11, .pointer (some ⟨o, 0, none⟩)), (13, .int .i64 i)]) ?_ ?_)
    · intro Q2 jn
      (refine VC.cond rfl rfl ?_ ?_ <;> intro hc)
      · (refine w ?_; repeat ((first | refine VO.step rfl rfl ?_ | refine VD.end rfl rfl rfl ?_ | refine VD.mid rfl rfl rfl ?_); refine OpV.box rfl rfl rfl ?_; intro _; refine w ?_))
        (((first | refine VO.step rfl rfl ?_ | refine VD.end rfl rfl rfl ?_ | refine VD.mid rfl rfl rfl ?_); refine OpV.call rfl rfl (fun _ _ => by simp) (flush_ok o O1 hOf1) Ent.re rfl ?_); intro _ _)
        (refine w ?_; repeat ((first | refine VO.step rfl rfl ?_ | refine VD.end rfl rfl rfl ?_ | refine VD.mid rfl rfl rfl ?_); refine OpV.box rfl rfl rfl ?_; intro _; refine w ?_))
        (first | refine VO.pure rfl rfl (.ldRc tab_ok rfl rfl (hs.rds _) c3) rfl ?_ | refine VD.take rfl rfl rfl (.ldRc tab_ok rfl rfl (hs.rds _) c3) rfl ?_ | refine VQ.pure rfl rfl (.ldRc tab_ok rfl rfl (hs.rds _) c3) rfl ?_ | refine VD.end rfl rfl rfl (OpV.pure (.ldRc tab_ok rfl rfl (hs.rds _) c3) rfl ?_))
        (((first | refine VO.step rfl rfl ?_ | refine VD.end rfl rfl rfl ?_ | refine VD.mid rfl rfl rfl ?_); refine OpV.call rfl rfl (fun _ _ => by simp) (crash_ok o (O1.settle fun _ => true) (hwf.keep _)) Ent.re rfl ?_); intro _ _)
        (refine w ?_; repeat ((first | refine VO.step rfl rfl ?_ | refine VD.end rfl rfl rfl ?_ | refine VD.mid rfl rfl rfl ?_); refine OpV.box rfl rfl rfl ?_; intro _; refine w ?_))
        (refine jn.to ((O1.settle fun _ => true).settle (keepOf x.keep)) ⟨hOf1, (by rw [DiskD.settle_last_length, DiskD.settle_last_length]; exact hOl1), Nat.zero_le _⟩ ⟨rfl, rfl, rfl, rfl, rfl, rfl, trivial⟩ ?_; (try dsimp only); exact Ent.re)
      · (refine w ?_; repeat ((first | refine VO.step rfl rfl ?_ | refine VD.end rfl rfl rfl ?_ | refine VD.mid rfl rfl rfl ?_); refine OpV.box rfl rfl rfl ?_; intro _; refine w ?_))
        (refine jn.to O1 ⟨hOf1, hOl1, hOc1⟩ ⟨rfl, rfl, rfl, rfl, rfl, rfl, trivial⟩ ?_; (try dsimp only); exact Ent.re)
    rintro O' ⟨hOf', hOl', hOc'⟩
    try dsimp only
    (refine w ?_; repeat ((first | refine VO.step rfl rfl ?_ | refine VD.end rfl rfl rfl ?_ | refine VD.mid rfl rfl rfl ?_); refine OpV.box rfl rfl rfl ?_; intro _; refine w ?_))
    ((first | refine VO.step rfl rfl ?_ | refine VD.end rfl rfl rfl ?_ | refine VD.mid rfl rfl rfl ?_); refine OpV.call rfl rfl (fun _ _ => by simp) (dread_ok d K' k hKf' (by omega)) Ent.re rfl ?_)
    rintro ⟨y, yc⟩ -
    rw [hK6']
    (refine w ?_; repeat ((first | refine VO.step rfl rfl ?_ | refine VD.end rfl rfl rfl ?_ | refine VD.mid rfl rfl rfl ?_); refine OpV.box rfl rfl rfl ?_; intro _; refine w ?_))
    ((first | refine VO.step rfl rfl ?_ | refine VD.end rfl rfl rfl ?_ | refine VD.mid rfl rfl rfl ?_); refine OpV.call rfl rfl (fun _ _ => by simp) (sector_lit 6 (by decide)) Ent.re rfl ?_)
    intro q2 _
    (refine w ?_; repeat ((first | refine VO.step rfl rfl ?_ | refine VD.end rfl rfl rfl ?_ | refine VD.mid rfl rfl rfl ?_); refine OpV.box rfl rfl rfl ?_; intro _; refine w ?_))
    ((first | refine VO.step rfl rfl ?_ | refine VD.end rfl rfl rfl ?_ | refine VD.mid rfl rfl rfl ?_); refine OpV.call rfl rfl (fun _ _ => by simp) (same_any (a := fullSec 6) (b := fullSec 6) (Rds.own (bytes_one _) (show Own 5 1 (.slice (some y) 128 yc) 128 (bytes (fullSec 6)) ∈ _ by (focus repeat first | exact .head _ | apply List.Mem.tail)) (by simp) (fun h => by cases h)) SecO.rds (by decide)) Ent.refl rfl ?_; intro _ _)
    (refine w ?_; repeat ((first | refine VO.step rfl rfl ?_ | refine VD.end rfl rfl rfl ?_ | refine VD.mid rfl rfl rfl ?_); refine OpV.box rfl rfl rfl ?_; intro _; refine w ?_))
    exact VE.round (i + 1, K', O') ⟨hlt, hKf', hKl', hK6', hKc', hOf', hOl', hOc'⟩ (by simp only; omega) ⟨rfl, rfl, rfl, rfl, rfl, rfl, trivial⟩ Ent.re
  · (refine w ?_; repeat ((first | refine VO.step rfl rfl ?_ | refine VD.end rfl rfl rfl ?_ | refine VD.mid rfl rfl rfl ?_); refine OpV.box rfl rfl rfl ?_; intro _; refine w ?_))
    (((first | refine VO.step rfl rfl ?_ | refine VD.end rfl rfl rfl ?_ | refine VD.mid rfl rfl rfl ?_); refine OpV.call rfl rfl (fun _ _ => by simp) (crash_ok (l := []) d K rdsNone) Ent.re rfl ?_); intro _ _)
    rw [DiskD.settle_none K (keepOf []) (fun i => by simp [keepOf])]
    (refine w ?_; repeat ((first | refine VO.step rfl rfl ?_ | refine VD.end rfl rfl rfl ?_ | refine VD.mid rfl rfl rfl ?_); refine OpV.box rfl rfl rfl ?_; intro _; refine w ?_))
    ((first | refine VO.step rfl rfl ?_ | refine VD.end rfl rfl rfl ?_ | refine VD.mid rfl rfl rfl ?_); refine OpV.call rfl rfl (fun _ _ => by simp) (dread_ok d ⟨K.last, [], K.failed⟩ k hKf (by simp only; omega)) Ent.re rfl ?_)
    rintro ⟨y, yc⟩ -
    rw [DiskD.look_clean (k := ⟨K.last, [], K.failed⟩) rfl, show (DiskD.mk K.last [] K.failed).last = K.last from rfl, hKl, h5]
    (refine w ?_; repeat ((first | refine VO.step rfl rfl ?_ | refine VD.end rfl rfl rfl ?_ | refine VD.mid rfl rfl rfl ?_); refine OpV.box rfl rfl rfl ?_; intro _; refine w ?_))
    ((first | refine VO.step rfl rfl ?_ | refine VD.end rfl rfl rfl ?_ | refine VD.mid rfl rfl rfl ?_); refine OpV.call rfl rfl (fun _ _ => by simp) (sector_lit 5 (by decide)) Ent.re rfl ?_)
    intro q2 _
    (refine w ?_; repeat ((first | refine VO.step rfl rfl ?_ | refine VD.end rfl rfl rfl ?_ | refine VD.mid rfl rfl rfl ?_); refine OpV.box rfl rfl rfl ?_; intro _; refine w ?_))
    ((first | refine VO.step rfl rfl ?_ | refine VD.end rfl rfl rfl ?_ | refine VD.mid rfl rfl rfl ?_); refine OpV.call rfl rfl (fun _ _ => by simp) (same_any (a := fullSec 5) (b := fullSec 5) (Rds.own (bytes_one _) (show Own 5 1 (.slice (some y) 128 yc) 128 (bytes (fullSec 5)) ∈ _ by (focus repeat first | exact .head _ | apply List.Mem.tail)) (by simp) (fun h => by cases h)) SecO.rds (by decide)) Ent.refl rfl ?_; intro _ _)
    (refine w ?_; repeat ((first | refine VO.step rfl rfl ?_ | refine VD.end rfl rfl rfl ?_ | refine VD.mid rfl rfl rfl ?_); refine OpV.box rfl rfl rfl ?_; intro _; refine w ?_))
    (refine VE.done1 rfl ?_ ?_)
    · simp
    · exact Reord.ent .nil
end Go.Proofs.Ythefmgmgmoanlaa
