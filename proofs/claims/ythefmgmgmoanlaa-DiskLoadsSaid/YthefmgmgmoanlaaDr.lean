/- The statements of the disk: DiskKeeps. -/
import Derived.Test.YthefmgmgmoanlaaDq
set_option maxRecDepth 8000
set_option linter.unusedVariables false
set_option linter.unusedSimpArgs false
set_option linter.unusedSectionVars false
namespace Go.Proofs.Ythefmgmgmoanlaa
open Go.RowKit Go.Sl
attribute [local irreducible] Own

theorem acts_len {W : World} {ao : Option Addr} {n cap : Nat} (h : InT Try.prog W 44 [.slice ao n cap]) : n ≤ 140737488355328 := by
  obtain ⟨ao', n', cap', row, he, h0, hn, hm, hr, hl, hc, hi⟩ := h.slice_inv Try.underlying44
  cases he
  have b1 : 1 ≤ Try.prog.bytesOf 53 := of_decide_eq_true (by kernel_rfl)
  have hcap : cap ≤ reachBytes := Nat.le_trans (Nat.le_mul_of_pos_right _ b1) hr
  simp only [reachBytes] at hcap
  omega

/-! ### Rows that a list of slices leads to -/

def hdr (r : Nat × List UInt8) : Value := .slice (some ⟨r.1, 0, none⟩) 128 128
def rowR (r : Nat × List UInt8) : SProp := Own 5 1 (hdr r) 128 (bytes r.2)
theorem set_perm {α : Type} : ∀ (rows : List α) (i : Nat) (r : α) (h : i < rows.length), (r :: rows).Perm (rows[i] :: rows.set i r)
  | a :: t, 0, r, _ => List.Perm.swap a r t
  | a :: t, i + 1, r, h => (List.Perm.swap a r t).trans (((set_perm t i r (by simpa using h)).cons a).trans (List.Perm.swap _ _ _))
theorem setRow {W : World} (X : List SProp) (rows : List (Nat × List UInt8)) (i : Nat) (r : Nat × List UInt8) (h : i < rows.length) : Ent W (rowR r :: (X ++ rows.map rowR)) (X ++ (rows.set i r).map rowR) := by
  intro w hw
  have p : (rowR r :: (X ++ rows.map rowR)).Perm (rowR rows[i] :: (X ++ (rows.set i r).map rowR)) := by
    have q := (set_perm rows i r h).map rowR
    simp only [List.map_cons] at q
    exact List.perm_middle.symm.trans ((q.append_left X).trans List.perm_middle)
  exact (hw.perm p).tail
theorem revRows {W : World} (X : List SProp) (rows : List (Nat × List UInt8)) : Ent W (X ++ rows.reverse.map rowR) (X ++ rows.map rowR) := by
  intro w hw
  exact hw.perm (((List.reverse_perm rows).map rowR).append_left X)
theorem hdr_one (rows : List (Nat × List UInt8)) : ∀ u ∈ rows.map hdr, u.oneCell' = true := by
  intro u hu; obtain ⟨c, _, rfl⟩ := List.mem_map.1 hu; rfl
theorem row_rds {W : World} {H : List SProp} {r : Nat × List UInt8} (hm : rowR r ∈ H) (hl : r.2.length = 128) : Rds W H 1 (some ⟨r.1, 0, none⟩) 128 (bytes r.2) :=
  Rds.own (bytes_one _) (show Own 5 1 (.slice (some ⟨r.1, 0, none⟩) 128 128) 128 (bytes r.2) ∈ H from hm) (by rw [bytes_length, hl]) (fun h => by cases h)

/-- A flush makes last what a read tells. -/
theorem DiskD.flush_look {k : DiskD} (hk : k.ok) (a : Nat) (ha : a < k.last.length) : (k.settle fun _ => true).last[a]? = some (k.look a) := by
  have key : ∀ m, m ≤ k.cache.length → (sets (fun _ => true) k.last 0 (k.cache.take m))[a]? = some ((DiskD.mk k.last (k.cache.take m) k.failed).look a) := by
    intro m
    induction m with
    | zero => intro _; rw [DiskD.look_clean (by rw [List.take_zero])]; rw [List.take_zero, sets, List.getElem?_eq_getElem ha]; rfl
    | succ m ih =>
      intro hm
      have ih := ih (by omega)
      have hlt : m < k.cache.length := by omega
      have hc := (hk.cache k.cache[m] (List.getElem_mem hlt)).1
      rw [List.take_succ_eq_append_getElem hlt, sets_snoc, if_pos rfl]
      have hw := DiskD.look_write (DiskD.mk k.last (k.cache.take m) k.failed) k.cache[m].1 k.cache[m].2 a
      have e : (DiskD.mk k.last (k.cache.take m) k.failed).write k.cache[m].1 k.cache[m].2 = DiskD.mk k.last (k.cache.take m ++ [k.cache[m]]) k.failed := rfl
      rw [e] at hw
      rw [hw]
      by_cases q : a = k.cache[m].1
      · rw [if_pos q, ← q, List.getElem?_set_self (by rw [sets_length]; exact ha)]
      · rw [if_neg q, List.getElem?_set_ne (fun h => q h.symm)]; exact ih
  have := key k.cache.length (Nat.le_refl _)
  rwa [List.take_of_length_le (Nat.le_refl _)] at this
theorem newDisk_look (n j : Nat) (h : j < n) : (DiskD.mk (List.replicate n zeroSec) [] false).look j = zeroSec := by
  rw [DiskD.look_clean rfl]; simp [h]

set_option maxHeartbeats 16000000 in
theorem dkeeps_ok {W : World} (s : UInt8) {ao bo ko : Option Addr} {ca cb nk ck : Nat} {la lb : List ActD} {lk : List Bool} (ha : Acts W ao la) (hb0 : Acts W bo lb) (hkk : RdsA W 1 ko nk (bools lk)) (hla : la.length ≤ 140737488355328) (hlb : lb.length ≤ 140737488355328) :
    Does1 W Try.prog 5 [.int .u8 (s.toNat : Int), .slice ao la.length ca, .slice bo lb.length cb, .slice ko nk ck] [] (.bool true) [] := by
  have hs9 := s.toNat_lt
  (refine Does.enter Try.func5 Try.ntmps5 rfl rfl ?_)
  (refine w ?_; repeat ((first | refine VO.step rfl rfl ?_ | refine VD.end rfl rfl rfl ?_ | refine VD.mid rfl rfl rfl ?_); refine OpV.box rfl rfl rfl ?_; intro _; refine w ?_))
  refine VO.re 27 (.int .i64 (s.toNat : Int)) rfl (by rw [IntWalk.i64_in _ ⟨by omega, by omega⟩]) ?_
  (first | refine VO.pure rfl rfl (PureAt.rem (b := 20) rfl rfl (by decide)) rfl ?_ | refine VD.take rfl rfl rfl (PureAt.rem (b := 20) rfl rfl (by decide)) rfl ?_ | refine VQ.pure rfl rfl (PureAt.rem (b := 20) rfl rfl (by decide)) rfl ?_ | refine VD.end rfl rfl rfl (OpV.pure (PureAt.rem (b := 20) rfl rfl (by decide)) rfl ?_))
  (first | (first | refine VO.nil rfl ?_ | refine VQ.nil rfl ?_ | refine VD.nil ?_ | ((first | apply VO.pure rfl rfl | apply VQ.pure rfl rfl | apply VD.take rfl rfl rfl | (refine VD.end rfl rfl rfl ?_; apply OpV.pure)); (first | (apply PureAt.ar64 rfl rfl rfl; omega) | exact .eval tab_ok rfl | (apply PureAt.ld tab_ok rfl rfl; (focus repeat first | exact .head _ | apply List.Mem.tail); rfl) | (apply PureAt.shr rfl rfl (by decide) (by decide)) | (apply PureAt.shr rfl rfl (by omega) (by simp only [IntKind.bits]; omega)) | exact .fieldAddrA tab_ok rfl rfl | exact .sliceLH tab_ok rfl rfl rfl rfl (by omega) (by omega) | exact .sliceH tab_ok rfl rfl rfl (by omega) | exact .sliceL tab_ok rfl rfl rfl (by omega) | (first | exact .indexAddr tab_ok rfl rfl rfl rfl (by omega) | exact .indexAddrN tab_ok rfl rfl rfl rfl (by omega) | exact .ldR tab_ok rfl rfl hr1 (List.getElem?_eq_getElem (by omega)) | exact .ldR tab_ok rfl rfl hr2 (List.getElem?_eq_getElem (by omega)) | exact ldB tab_ok rfl rfl hb1 (by omega) | exact ldB tab_ok rfl rfl hb2 (by omega)) | (apply PureAt.ldA tab_ok rfl rfl; (focus repeat first | exact .head _ | apply List.Mem.tail); rfl; rfl) | exact .ldro tab_ok rfl rfl (by assumption)); rfl) | refine VO.skip rfl rfl rfl rfl ?_ | refine VQ.skip rfl rfl rfl rfl ?_ | refine VD.skip rfl rfl rfl rfl rfl ?_ | ((first | refine VO.step rfl rfl ?_ | refine VD.end rfl rfl rfl ?_ | refine VD.mid rfl rfl rfl ?_); (first | (apply OpV.st tab_ok rfl rfl rfl rfl (by (repeat first | exact .head | apply Hole.tail)) (by simp)) | (refine OpV.box rfl rfl rfl ?_; intro _))) | refine ⟨Ent.re, ?_⟩) | (first | refine VC.seq rfl ?_ | refine VC.region rfl ?_ | refine VC.condT rfl rfl ?_ | refine VC.condF rfl rfl ?_ | refine VC.block rfl ?_ | refine VC.skip rfl ?_ | refine VC.ret rfl ?_ | refine VC.exit rfl ?_) | (first | refine VE.next ?_ | refine VE.passRet ?_ | refine VE.passExit ?_ | refine VE.blockNormal ?_ | refine VE.blockHit ?_ | refine VE.blockMiss rfl ?_ | refine VE.blockRet ?_ | refine VE.loopRet ?_ | refine VE.loopExit ?_))
  refine VO.re 29 (.int .i64 ((s.toNat % 20 + 1 : Nat) : Int)) rfl (by first | rfl | (congr 1; done) | (rw [IntWalk.i64_in _ ⟨by omega, by omega⟩]; rfl)) ?_
  generalize hn : s.toNat % 20 + 1 = n
  have hn1 : 1 ≤ n := by omega
  have hn2 : n ≤ 20 := by omega
  (refine w ?_; repeat ((first | refine VO.step rfl rfl ?_ | refine VD.end rfl rfl rfl ?_ | refine VD.mid rfl rfl rfl ?_); refine OpV.box rfl rfl rfl ?_; intro _; refine w ?_))
  ((first | refine VO.step rfl rfl ?_ | refine VD.end rfl rfl rfl ?_ | refine VD.mid rfl rfl rfl ?_); refine OpV.call rfl rfl (fun _ _ => by simp) (disknew_ok n (by omega) (by omega)) Ent.re rfl ?_)
  intro d _
  (refine w ?_; repeat ((first | refine VO.step rfl rfl ?_ | refine VD.end rfl rfl rfl ?_ | refine VD.mid rfl rfl rfl ?_); refine OpV.box rfl rfl rfl ?_; intro _; refine w ?_))
  ((first | refine VO.step rfl rfl ?_ | refine VD.end rfl rfl rfl ?_ | refine VD.mid rfl rfl rfl ?_); refine OpV.call rfl rfl (fun _ _ => by simp) (dknown_ok) Ent.refl rfl ?_; intro _ _)
  (refine w ?_; repeat ((first | refine VO.step rfl rfl ?_ | refine VD.end rfl rfl rfl ?_ | refine VD.mid rfl rfl rfl ?_); refine OpV.box rfl rfl rfl ?_; intro _; refine w ?_))
  ((first | refine VO.split rfl rfl rfl ?_ ?_ | refine VD.split rfl rfl rfl ?_ ?_) <;> intro hb)
  · have h2 : 200 < la.length := by have := of_decide_eq_true hb; omega
    (refine w ?_; repeat ((first | refine VO.step rfl rfl ?_ | refine VD.end rfl rfl rfl ?_ | refine VD.mid rfl rfl rfl ?_); refine OpV.box rfl rfl rfl ?_; intro _; refine w ?_))
    ((first | refine VO.step rfl rfl ?_ | refine VD.end rfl rfl rfl ?_ | refine VD.mid rfl rfl rfl ?_); refine OpV.call rfl rfl (fun _ _ => by simp) (dknown_ok) Ent.refl rfl ?_; intro _ _)
    (refine w ?_; repeat ((first | refine VO.step rfl rfl ?_ | refine VD.end rfl rfl rfl ?_ | refine VD.mid rfl rfl rfl ?_); refine OpV.box rfl rfl rfl ?_; intro _; refine w ?_))
    (refine VE.done1 rfl ?_ ?_)
    · simp; omega
    · exact Reord.ent .nil
  have hla2 : la.length ≤ 200 := by have := of_decide_eq_false hb; omega
  (refine w ?_; repeat ((first | refine VO.step rfl rfl ?_ | refine VD.end rfl rfl rfl ?_ | refine VD.mid rfl rfl rfl ?_); refine OpV.box rfl rfl rfl ?_; intro _; refine w ?_))
  (refine VC.cond rfl rfl ?_ ?_ <;> intro hc)
  · have h2 : 200 < lb.length := by have := of_decide_eq_true hc; omega
    (refine w ?_; repeat ((first | refine VO.step rfl rfl ?_ | refine VD.end rfl rfl rfl ?_ | refine VD.mid rfl rfl rfl ?_); refine OpV.box rfl rfl rfl ?_; intro _; refine w ?_))
    ((first | refine VO.step rfl rfl ?_ | refine VD.end rfl rfl rfl ?_ | refine VD.mid rfl rfl rfl ?_); refine OpV.call rfl rfl (fun _ _ => by simp) (dknown_ok) Ent.refl rfl ?_; intro _ _)
    (refine w ?_; repeat ((first | refine VO.step rfl rfl ?_ | refine VD.end rfl rfl rfl ?_ | refine VD.mid rfl rfl rfl ?_); refine OpV.box rfl rfl rfl ?_; intro _; refine w ?_))
    (refine VE.done1 rfl ?_ ?_)
    · simp; omega
    · exact Reord.ent .nil
  have hlb2 : lb.length ≤ 200 := by have := of_decide_eq_false hc; omega
  (refine w ?_; repeat ((first | refine VO.step rfl rfl ?_ | refine VD.end rfl rfl rfl ?_ | refine VD.mid rfl rfl rfl ?_); refine OpV.box rfl rfl rfl ?_; intro _; refine w ?_))
  (first | refine VO.step rfl rfl ?_ | refine VD.end rfl rfl rfl ?_ | refine VD.mid rfl rfl rfl ?_)
  refine OpV.makeSlice1 (m := n) st_57 rfl rfl rfl (by omega) (by simp only [maxLen]; omega) rfl ?_
  intro lr
  (refine w ?_; repeat ((first | refine VO.step rfl rfl ?_ | refine VD.end rfl rfl rfl ?_ | refine VD.mid rfl rfl rfl ?_); refine OpV.box rfl rfl rfl ?_; intro _; refine w ?_))
  refine VC.loop (α := Nat × List Nat) (fun g => g.1 ≤ n ∧ g.2.length = g.1)
    (fun g => Own 35 1 (.slice (some ⟨lr, 0, none⟩) n n) n ((g.2.map fun b => (b, zeroSec)).map hdr ++ List.replicate (n - g.1) (.slice none 0 0)) :: DiskR d ⟨List.replicate n zeroSec, [], false⟩ :: (g.2.map fun b => (b, zeroSec)).reverse.map rowR)
    (fun g => [(1, .slice ao la.length ca), (2, .slice bo lb.length cb), (3, .slice ko nk ck), (9, .int .i64 n), (10, .pointer (some ⟨d, 0, none⟩)), (12, .slice (some ⟨lr, 0, none⟩) n n), (13, .int .i64 g.1)]) (fun g => n - g.1) rfl
    (0, []) ⟨Nat.zero_le _, rfl⟩ (by simp only [List.map_nil, List.reverse_nil, List.nil_append, Nat.sub_zero]; exact Ent.re) ⟨rfl, rfl, rfl, rfl, rfl, rfl, rfl, trivial⟩ ?_
  rintro ⟨i, bs⟩ ⟨hi, hbs⟩
  dsimp only at hi hbs ⊢
  (refine w ?_; repeat ((first | refine VO.step rfl rfl ?_ | refine VD.end rfl rfl rfl ?_ | refine VD.mid rfl rfl rfl ?_); refine OpV.box rfl rfl rfl ?_; intro _; refine w ?_))
  (refine VC.cond rfl rfl ?_ ?_ <;> intro hc)
  · have hlt : i < n := by have := of_decide_eq_true hc; omega
    (refine w ?_; repeat ((first | refine VO.step rfl rfl ?_ | refine VD.end rfl rfl rfl ?_ | refine VD.mid rfl rfl rfl ?_); refine OpV.box rfl rfl rfl ?_; intro _; refine w ?_))
    (first | refine VO.step rfl rfl ?_ | refine VD.end rfl rfl rfl ?_ | refine VD.mid rfl rfl rfl ?_)
    refine OpV.makeSlice1 (m := 128) st_35 rfl rfl rfl (by decide) (by decide) rfl ?_
    intro nb
    (refine w ?_; repeat ((first | refine VO.step rfl rfl ?_ | refine VD.end rfl rfl rfl ?_ | refine VD.mid rfl rfl rfl ?_); refine OpV.box rfl rfl rfl ?_; intro _; refine w ?_))
    (first | refine VO.step rfl rfl ?_ | refine VD.end rfl rfl rfl ?_ | refine VD.mid rfl rfl rfl ?_)
    refine OpV.stO tab_ok rfl rfl rfl rfl (by (repeat first | exact .head | apply Hole.tail)) (by rw [List.length_append, List.length_map, List.length_map, List.length_replicate]; omega) ?_
    have hset : ((bs.map fun b => (b, zeroSec)).map hdr ++ List.replicate (n - i) (Value.slice none 0 0)).set i (.slice (some ⟨nb, 0, none⟩) 128 128) = ((bs ++ [nb]).map fun b => (b, zeroSec)).map hdr ++ List.replicate (n - (i + 1)) (Value.slice none 0 0) := by
      rw [List.set_append_right _ _ (by simp [hbs]), List.length_map, List.length_map, hbs, Nat.sub_self, show n - i = (n - (i + 1)) + 1 by omega, List.replicate_succ, List.set_cons_zero]
      simp [hdr]
    rw [hset]
    (refine w ?_; repeat ((first | refine VO.step rfl rfl ?_ | refine VD.end rfl rfl rfl ?_ | refine VD.mid rfl rfl rfl ?_); refine OpV.box rfl rfl rfl ?_; intro _; refine w ?_))
    refine VE.round (i + 1, bs ++ [nb]) ⟨hlt, by simp [hbs]⟩ (by simp only; omega) ⟨rfl, rfl, rfl, rfl, rfl, rfl, rfl, trivial⟩ ?_
    have er : ((bs ++ [nb]).map fun b => (b, zeroSec)).reverse.map rowR = rowR (nb, zeroSec) :: (bs.map fun b => (b, zeroSec)).reverse.map rowR := by
      rw [List.map_append, List.reverse_append]; rfl
    have ez : Own 5 1 (.slice (some ⟨nb, 0, none⟩) 128 128) 128 (List.replicate 128 (Value.int .u8 0)) = rowR (nb, zeroSec) := by
      unfold rowR zeroSec; rw [bytes_replicate]; rfl
    dsimp only
    rw [er, ez]
    exact Ent.re
  have hge : i = n := by have := of_decide_eq_false hc; omega
  subst hge
  generalize hrows : (bs.map fun b => (b, zeroSec)) = rows0 at *
  have hr0 : rows0.length = i := by subst hrows; simp [hbs]
  have hz0 : ∀ j, j < i → (rows0[j]?).map (·.2) = some zeroSec := by
    intro j hj; subst hrows
    rw [List.getElem?_map, List.getElem?_eq_getElem (by omega)]; rfl
  rw [Nat.sub_self, List.replicate_zero, List.append_nil]
  refine VC.ent (revRows [_, _] rows0) ?_
  dsimp only [List.cons_append, List.nil_append]
  generalize i = n at *
  (refine w ?_; repeat ((first | refine VO.step rfl rfl ?_ | refine VD.end rfl rfl rfl ?_ | refine VD.mid rfl rfl rfl ?_); refine OpV.box rfl rfl rfl ?_; intro _; refine w ?_))
  refine VC.loop (α := Nat × DiskD × List (Nat × List UInt8)) (fun g => g.1 ≤ la.length ∧ g.2.1.failed = false ∧ g.2.1.last.length = n ∧ g.2.1.cache.length ≤ g.1 ∧ g.2.2.length = n ∧ ∀ j, j < n → (g.2.2[j]?).map (·.2) = some (g.2.1.look j))
    (fun g => DiskR d g.2.1 :: Own 35 1 (.slice (some ⟨lr, 0, none⟩) n n) n (g.2.2.map hdr) :: g.2.2.map rowR)
    (fun g => [(1, .slice ao la.length ca), (2, .slice bo lb.length cb), (3, .slice ko nk ck), (9, .int .i64 n), (10, .pointer (some ⟨d, 0, none⟩)), (12, .slice (some ⟨lr, 0, none⟩) n n), (14, .int .i64 g.1)]) (fun g => la.length - g.1) rfl
    (0, ⟨List.replicate n zeroSec, [], false⟩, rows0) ⟨Nat.zero_le _, rfl, List.length_replicate, Nat.le_refl _, hr0, fun j hj => (by rw [newDisk_look n j hj]; exact hz0 j hj)⟩ Ent.re ⟨rfl, rfl, rfl, rfl, rfl, rfl, rfl, trivial⟩ ?_
  rintro ⟨i, K, rows⟩ ⟨hi, hKf, hKl, hKc, hrl, hrw⟩
  dsimp only at hi hKf hKl hKc hrl hrw ⊢
  (refine w ?_; repeat ((first | refine VO.step rfl rfl ?_ | refine VD.end rfl rfl rfl ?_ | refine VD.mid rfl rfl rfl ?_); refine OpV.box rfl rfl rfl ?_; intro _; refine w ?_))
  (refine VC.cond rfl rfl ?_ ?_ <;> intro hc)
  · have hlt : i < la.length := by have := of_decide_eq_true hc; omega
    obtain ⟨a, rfl⟩ : ∃ a, ao = some a := by cases ao with | none => have := (ha.rds []).nil rfl; omega | some a => exact ⟨a, rfl⟩
    have c0 := (actCells_get la i 0 hlt (by decide)).trans (show _ = some (Value.int .u8 (la[i].kind.toNat : Int)) from rfl)
    generalize la[i] = x at *
    have hx9 := x.kind.toNat_lt
    (refine w ?_; repeat ((first | refine VO.step rfl rfl ?_ | refine VD.end rfl rfl rfl ?_ | refine VD.mid rfl rfl rfl ?_); refine OpV.box rfl rfl rfl ?_; intro _; refine w ?_))
    (first | refine VO.pure rfl rfl (.ldRc tab_ok rfl rfl (ha.rds _) c0) rfl ?_ | refine VD.take rfl rfl rfl (.ldRc tab_ok rfl rfl (ha.rds _) c0) rfl ?_ | refine VQ.pure rfl rfl (.ldRc tab_ok rfl rfl (ha.rds _) c0) rfl ?_ | refine VD.end rfl rfl rfl (OpV.pure (.ldRc tab_ok rfl rfl (ha.rds _) c0) rfl ?_))
    (first | (first | refine VO.nil rfl ?_ | refine VQ.nil rfl ?_ | refine VD.nil ?_ | ((first | apply VO.pure rfl rfl | apply VQ.pure rfl rfl | apply VD.take rfl rfl rfl | (refine VD.end rfl rfl rfl ?_; apply OpV.pure)); (first | (apply PureAt.ar64 rfl rfl rfl; omega) | exact .eval tab_ok rfl | (apply PureAt.ld tab_ok rfl rfl; (focus repeat first | exact .head _ | apply List.Mem.tail); rfl) | (apply PureAt.shr rfl rfl (by decide) (by decide)) | (apply PureAt.shr rfl rfl (by omega) (by simp only [IntKind.bits]; omega)) | exact .fieldAddrA tab_ok rfl rfl | exact .sliceLH tab_ok rfl rfl rfl rfl (by omega) (by omega) | exact .sliceH tab_ok rfl rfl rfl (by omega) | exact .sliceL tab_ok rfl rfl rfl (by omega) | (first | exact .indexAddr tab_ok rfl rfl rfl rfl (by omega) | exact .indexAddrN tab_ok rfl rfl rfl rfl (by omega) | exact .ldR tab_ok rfl rfl hr1 (List.getElem?_eq_getElem (by omega)) | exact .ldR tab_ok rfl rfl hr2 (List.getElem?_eq_getElem (by omega)) | exact ldB tab_ok rfl rfl hb1 (by omega) | exact ldB tab_ok rfl rfl hb2 (by omega)) | (apply PureAt.ldA tab_ok rfl rfl; (focus repeat first | exact .head _ | apply List.Mem.tail); rfl; rfl) | exact .ldro tab_ok rfl rfl (by assumption)); rfl) | refine VO.skip rfl rfl rfl rfl ?_ | refine VQ.skip rfl rfl rfl rfl ?_ | refine VD.skip rfl rfl rfl rfl rfl ?_ | ((first | refine VO.step rfl rfl ?_ | refine VD.end rfl rfl rfl ?_ | refine VD.mid rfl rfl rfl ?_); (first | (apply OpV.st tab_ok rfl rfl rfl rfl (by (repeat first | exact .head | apply Hole.tail)) (by simp)) | (refine OpV.box rfl rfl rfl ?_; intro _))) | refine ⟨Ent.re, ?_⟩) | (first | refine VC.seq rfl ?_ | refine VC.region rfl ?_ | refine VC.condT rfl rfl ?_ | refine VC.condF rfl rfl ?_ | refine VC.block rfl ?_ | refine VC.skip rfl ?_ | refine VC.ret rfl ?_ | refine VC.exit rfl ?_) | (first | refine VE.next ?_ | refine VE.passRet ?_ | refine VE.passExit ?_ | refine VE.blockNormal ?_ | refine VE.blockHit ?_ | refine VE.blockMiss rfl ?_ | refine VE.blockRet ?_ | refine VE.loopRet ?_ | refine VE.loopExit ?_))
    refine VO.re 86 (.int .i64 (x.kind.toNat : Int)) rfl (by rw [IntWalk.i64_in _ ⟨by omega, by omega⟩]) ?_
    (refine w ?_; repeat ((first | refine VO.step rfl rfl ?_ | refine VD.end rfl rfl rfl ?_ | refine VD.mid rfl rfl rfl ?_); refine OpV.box rfl rfl rfl ?_; intro _; refine w ?_))
    (first | refine VO.pure rfl rfl (PureAt.rem (b := n) rfl rfl (by omega)) rfl ?_ | refine VD.take rfl rfl rfl (PureAt.rem (b := n) rfl rfl (by omega)) rfl ?_ | refine VQ.pure rfl rfl (PureAt.rem (b := n) rfl rfl (by omega)) rfl ?_ | refine VD.end rfl rfl rfl (OpV.pure (PureAt.rem (b := n) rfl rfl (by omega)) rfl ?_))
    generalize hm : x.kind.toNat % n = m
    have hmn : m < n := by rw [← hm]; exact Nat.mod_lt _ (by omega)
    (refine w ?_; repeat ((first | refine VO.step rfl rfl ?_ | refine VD.end rfl rfl rfl ?_ | refine VD.mid rfl rfl rfl ?_); refine OpV.box rfl rfl rfl ?_; intro _; refine w ?_))
    (first | refine VO.pure rfl rfl (.ldRc tab_ok rfl rfl (ha.rds _) c0) rfl ?_ | refine VD.take rfl rfl rfl (.ldRc tab_ok rfl rfl (ha.rds _) c0) rfl ?_ | refine VQ.pure rfl rfl (.ldRc tab_ok rfl rfl (ha.rds _) c0) rfl ?_ | refine VD.end rfl rfl rfl (OpV.pure (.ldRc tab_ok rfl rfl (ha.rds _) c0) rfl ?_))
    ((first | refine VO.step rfl rfl ?_ | refine VD.end rfl rfl rfl ?_ | refine VD.mid rfl rfl rfl ?_); refine OpV.call rfl rfl (fun _ _ => by simp) (sector_ok x.kind) Ent.re rfl ?_)
    intro q _
    (refine w ?_; repeat ((first | refine VO.step rfl rfl ?_ | refine VD.end rfl rfl rfl ?_ | refine VD.mid rfl rfl rfl ?_); refine OpV.box rfl rfl rfl ?_; intro _; refine w ?_))
    (first | refine VO.step rfl rfl ?_ | refine VD.end rfl rfl rfl ?_ | refine VD.mid rfl rfl rfl ?_)
    refine OpV.stO tab_ok rfl rfl rfl rfl (by (repeat first | exact .head | apply Hole.tail)) (by rw [List.length_map]; omega) ?_
    have hset : (rows.map hdr).set m (Value.slice (some ⟨q, 0, none⟩) 128 128) = (rows.set m (q, fullSec x.kind)).map hdr := by rw [List.map_set]; rfl
    rw [hset]
    refine VO.ent (setRow [DiskR d K, Own 35 1 (.slice (some ⟨lr, 0, none⟩) n n) n ((rows.set m (q, fullSec x.kind)).map hdr)] rows m (q, fullSec x.kind) (by omega)) ?_
    dsimp only [List.cons_append, List.nil_append]
    have hmem : rowR (q, fullSec x.kind) ∈ (rows.set m (q, fullSec x.kind)).map rowR := List.mem_map_of_mem (List.mem_iff_getElem.2 ⟨m, by rw [List.length_set]; omega, List.getElem_set_self _⟩)
    have hget : ((rows.set m (q, fullSec x.kind)).map hdr)[m]? = some (Value.slice (some ⟨q, 0, none⟩) 128 128) := by
      rw [List.getElem?_map, List.getElem?_set_self (by omega)]; rfl
    have hrl' : (rows.set m (q, fullSec x.kind)).length = n := by rw [List.length_set]; exact hrl
    have hrw' : ∀ j, j < n → ((rows.set m (q, fullSec x.kind))[j]?).map (·.2) = some ((K.write m (fullSec x.kind)).look j) := by
      intro j hj
      rw [DiskD.look_write]
      by_cases e : j = m
      · subst e; rw [if_pos rfl, List.getElem?_set_self (by omega)]; rfl
      · rw [if_neg e, List.getElem?_set_ne (fun h => e h.symm)]; exact hrw j hj
    generalize rows.set m (q, fullSec x.kind) = rows' at *
    (refine w ?_; repeat ((first | refine VO.step rfl rfl ?_ | refine VD.end rfl rfl rfl ?_ | refine VD.mid rfl rfl rfl ?_); refine OpV.box rfl rfl rfl ?_; intro _; refine w ?_))
    (first | refine VO.pure rfl rfl (PureAt.ldR tab_ok rfl rfl (Rds.own (hdr_one rows') (by (focus repeat first | exact .head _ | apply List.Mem.tail)) (by rw [List.length_map, hrl', Nat.mul_one]) (fun h => by cases h)) hget) rfl ?_ | refine VD.take rfl rfl rfl (PureAt.ldR tab_ok rfl rfl (Rds.own (hdr_one rows') (by (focus repeat first | exact .head _ | apply List.Mem.tail)) (by rw [List.length_map, hrl', Nat.mul_one]) (fun h => by cases h)) hget) rfl ?_ | refine VQ.pure rfl rfl (PureAt.ldR tab_ok rfl rfl (Rds.own (hdr_one rows') (by (focus repeat first | exact .head _ | apply List.Mem.tail)) (by rw [List.length_map, hrl', Nat.mul_one]) (fun h => by cases h)) hget) rfl ?_ | refine VD.end rfl rfl rfl (OpV.pure (PureAt.ldR tab_ok rfl rfl (Rds.own (hdr_one rows') (by (focus repeat first | exact .head _ | apply List.Mem.tail)) (by rw [List.length_map, hrl', Nat.mul_one]) (fun h => by cases h)) hget) rfl ?_))
    (((first | refine VO.step rfl rfl ?_ | refine VD.end rfl rfl rfl ?_ | refine VD.mid rfl rfl rfl ?_); refine OpV.call rfl rfl (fun _ _ => by simp) (write_ok (R := Own 35 1 (.slice (some ⟨lr, 0, none⟩) n n) n (rows'.map hdr) :: rows'.map rowR) d K m (by omega) hKf (fullSec_length x.kind) (by omega) (row_rds (r := (q, fullSec x.kind)) (.tail _ hmem) (fullSec_length _))) Ent.re rfl ?_); intro _ _)
    (refine w ?_; repeat ((first | refine VO.step rfl rfl ?_ | refine VD.end rfl rfl rfl ?_ | refine VD.mid rfl rfl rfl ?_); refine OpV.box rfl rfl rfl ?_; intro _; refine w ?_))
    exact VE.round (i + 1, K.write m (fullSec x.kind), rows') ⟨hlt, hKf, hKl, (by show (K.cache ++ [_]).length ≤ _; rw [List.length_append]; simp; omega), hrl', hrw'⟩ (by simp only; omega) ⟨rfl, rfl, rfl, rfl, rfl, rfl, rfl, trivial⟩ Ent.refl
  (refine w ?_; repeat ((first | refine VO.step rfl rfl ?_ | refine VD.end rfl rfl rfl ?_ | refine VD.mid rfl rfl rfl ?_); refine OpV.box rfl rfl rfl ?_; intro _; refine w ?_))
  refine VO.know (fun w hw => DiskR.know hw) ?_
  intro hKok
  (((first | refine VO.step rfl rfl ?_ | refine VD.end rfl rfl rfl ?_ | refine VD.mid rfl rfl rfl ?_); refine OpV.call rfl rfl (fun _ _ => by simp) (flush_ok d K hKf) Ent.re rfl ?_); intro _ _)
  have hf1 : (K.settle fun _ => true).failed = false := hKf
  have hl1 : (K.settle fun _ => true).last.length = n := (DiskD.settle_last_length _ _).trans hKl
  have hc1 : (K.settle fun _ => true).cache = [] := rfl
  have hrw1 : ∀ j, j < n → (rows[j]?).map (·.2) = ((K.settle fun _ => true).last[j]?) := fun j hj => by
    rw [DiskD.flush_look hKok j (by omega)]; exact hrw j hj
  generalize (K.settle fun _ => true) = J at *
  clear hrw hKok hKc hKl hKf K
  (refine w ?_; repeat ((first | refine VO.step rfl rfl ?_ | refine VD.end rfl rfl rfl ?_ | refine VD.mid rfl rfl rfl ?_); refine OpV.box rfl rfl rfl ?_; intro _; refine w ?_))
  (((first | refine VO.step rfl rfl ?_ | refine VD.end rfl rfl rfl ?_ | refine VD.mid rfl rfl rfl ?_); refine OpV.call rfl rfl (fun _ _ => by simp) (crash_ok d J (hkk _)) Ent.re rfl ?_); intro _ _)
  rw [DiskD.settle_clean hc1]
  refine VO.know (fun w hw => DiskR.know hw) ?_
  intro hJok
  (refine w ?_; repeat ((first | refine VO.step rfl rfl ?_ | refine VD.end rfl rfl rfl ?_ | refine VD.mid rfl rfl rfl ?_); refine OpV.box rfl rfl rfl ?_; intro _; refine w ?_))
  refine VC.loop (α := Nat) (fun i => i ≤ n) (fun _ => DiskR d J :: Own 35 1 (.slice (some ⟨lr, 0, none⟩) n n) n (rows.map hdr) :: rows.map rowR)
    (fun i => [(2, .slice bo lb.length cb), (3, .slice ko nk ck), (9, .int .i64 n), (10, .pointer (some ⟨d, 0, none⟩)), (12, .slice (some ⟨lr, 0, none⟩) n n), (16, .int .i64 i)]) (fun i => n - i) rfl 0 (Nat.zero_le _) Ent.refl ⟨rfl, rfl, rfl, rfl, rfl, rfl, trivial⟩ ?_
  intro i hi
  (refine w ?_; repeat ((first | refine VO.step rfl rfl ?_ | refine VD.end rfl rfl rfl ?_ | refine VD.mid rfl rfl rfl ?_); refine OpV.box rfl rfl rfl ?_; intro _; refine w ?_))
  (refine VC.cond rfl rfl ?_ ?_ <;> intro hc)
  · have hlt : i < n := by have := of_decide_eq_true hc; omega
    have hri : i < rows.length := by omega
    have hxe : rows[i].2 = J.look i := by
      have := hrw1 i hlt
      rw [List.getElem?_eq_getElem hri] at this
      rw [DiskD.look_clean hc1, ← this]; rfl
    have hx128 : rows[i].2.length = 128 := by rw [hxe]; exact DiskD.look_128 hJok (by omega)
    have hmem : rowR rows[i] ∈ rows.map rowR := List.mem_map_of_mem (List.getElem_mem hri)
    have hget : (rows.map hdr)[i]? = some (hdr rows[i]) := by rw [List.getElem?_map, List.getElem?_eq_getElem hri]; rfl
    (refine w ?_; repeat ((first | refine VO.step rfl rfl ?_ | refine VD.end rfl rfl rfl ?_ | refine VD.mid rfl rfl rfl ?_); refine OpV.box rfl rfl rfl ?_; intro _; refine w ?_))
    ((first | refine VO.step rfl rfl ?_ | refine VD.end rfl rfl rfl ?_ | refine VD.mid rfl rfl rfl ?_); refine OpV.call rfl rfl (fun _ _ => by simp) (dread_ok d J i hf1 (by omega)) Ent.re rfl ?_)
    rintro ⟨y, yc⟩ -
    rw [← hxe]
    (refine w ?_; repeat ((first | refine VO.step rfl rfl ?_ | refine VD.end rfl rfl rfl ?_ | refine VD.mid rfl rfl rfl ?_); refine OpV.box rfl rfl rfl ?_; intro _; refine w ?_))
    (first | refine VO.pure rfl rfl (PureAt.ldR tab_ok rfl rfl (Rds.own (hdr_one rows) (by (focus repeat first | exact .head _ | apply List.Mem.tail)) (by rw [List.length_map, hrl, Nat.mul_one]) (fun h => by cases h)) hget) rfl ?_ | refine VD.take rfl rfl rfl (PureAt.ldR tab_ok rfl rfl (Rds.own (hdr_one rows) (by (focus repeat first | exact .head _ | apply List.Mem.tail)) (by rw [List.length_map, hrl, Nat.mul_one]) (fun h => by cases h)) hget) rfl ?_ | refine VQ.pure rfl rfl (PureAt.ldR tab_ok rfl rfl (Rds.own (hdr_one rows) (by (focus repeat first | exact .head _ | apply List.Mem.tail)) (by rw [List.length_map, hrl, Nat.mul_one]) (fun h => by cases h)) hget) rfl ?_ | refine VD.end rfl rfl rfl (OpV.pure (PureAt.ldR tab_ok rfl rfl (Rds.own (hdr_one rows) (by (focus repeat first | exact .head _ | apply List.Mem.tail)) (by rw [List.length_map, hrl, Nat.mul_one]) (fun h => by cases h)) hget) rfl ?_))
    ((first | refine VO.step rfl rfl ?_ | refine VD.end rfl rfl rfl ?_ | refine VD.mid rfl rfl rfl ?_); refine OpV.call rfl rfl (fun _ _ => by simp) (same_any (a := rows[i].2) (b := rows[i].2) (Rds.own (bytes_one _) (show Own 5 1 (.slice (some y) 128 yc) 128 (bytes rows[i].2) ∈ _ by (focus repeat first | exact .head _ | apply List.Mem.tail)) (by rw [bytes_length, hx128]) (fun h => by cases h)) (row_rds (.tail _ (.tail _ (.tail _ hmem))) hx128) (by decide)) Ent.refl rfl ?_; intro _ _)
    (refine w ?_; repeat ((first | refine VO.step rfl rfl ?_ | refine VD.end rfl rfl rfl ?_ | refine VD.mid rfl rfl rfl ?_); refine OpV.box rfl rfl rfl ?_; intro _; refine w ?_))
    (refine VC.condFe rfl rfl (by simp) ?_)
    (refine w ?_; repeat ((first | refine VO.step rfl rfl ?_ | refine VD.end rfl rfl rfl ?_ | refine VD.mid rfl rfl rfl ?_); refine OpV.box rfl rfl rfl ?_; intro _; refine w ?_))
    exact VE.round (i + 1) hlt (by omega) ⟨rfl, rfl, rfl, rfl, rfl, rfl, trivial⟩ Ent.re
  (refine w ?_; repeat ((first | refine VO.step rfl rfl ?_ | refine VD.end rfl rfl rfl ?_ | refine VD.mid rfl rfl rfl ?_); refine OpV.box rfl rfl rfl ?_; intro _; refine w ?_))
  refine VC.loop (α := Nat × DiskD × List (Nat × List UInt8)) (fun g => g.1 ≤ lb.length ∧ g.2.1.failed = false ∧ g.2.1.last = J.last ∧ g.2.1.cache.length = g.1 ∧ g.2.2.length = n ∧ ∀ j, j < n → (g.2.2[j]?).map (·.2) = (sets (keepOf lk) J.last 0 g.2.1.cache)[j]?)
    (fun g => DiskR d g.2.1 :: Own 35 1 (.slice (some ⟨lr, 0, none⟩) n n) n (g.2.2.map hdr) :: g.2.2.map rowR)
    (fun g => [(2, .slice bo lb.length cb), (3, .slice ko nk ck), (9, .int .i64 n), (10, .pointer (some ⟨d, 0, none⟩)), (12, .slice (some ⟨lr, 0, none⟩) n n), (19, .int .i64 g.1)]) (fun g => lb.length - g.1) rfl
    (0, J, rows) ⟨Nat.zero_le _, hf1, rfl, (by rw [hc1]; rfl), hrl, fun j hj => (by rw [hc1]; exact hrw1 j hj)⟩ Ent.refl ⟨rfl, rfl, rfl, rfl, rfl, rfl, trivial⟩ ?_
  clear hrw1 hrl
  rintro ⟨i, K, rows⟩ ⟨hi, hKf, hKl, hKc, hrl, hrw⟩
  dsimp only at hi hKf hKl hKc hrl hrw ⊢
  have hKn : K.last.length = n := by rw [hKl]; exact hl1
  (refine w ?_; repeat ((first | refine VO.step rfl rfl ?_ | refine VD.end rfl rfl rfl ?_ | refine VD.mid rfl rfl rfl ?_); refine OpV.box rfl rfl rfl ?_; intro _; refine w ?_))
  (refine VC.cond rfl rfl ?_ ?_ <;> intro hc)
  · have hlt : i < lb.length := by have := of_decide_eq_true hc; omega
    obtain ⟨a, rfl⟩ : ∃ a, bo = some a := by cases bo with | none => have := (hb0.rds []).nil rfl; omega | some a => exact ⟨a, rfl⟩
    have c0 := (actCells_get lb i 0 hlt (by decide)).trans (show _ = some (Value.int .u8 (lb[i].kind.toNat : Int)) from rfl)
    generalize lb[i] = x at *
    have hx9 := x.kind.toNat_lt
    (refine w ?_; repeat ((first | refine VO.step rfl rfl ?_ | refine VD.end rfl rfl rfl ?_ | refine VD.mid rfl rfl rfl ?_); refine OpV.box rfl rfl rfl ?_; intro _; refine w ?_))
    (first | refine VO.pure rfl rfl (.ldRc tab_ok rfl rfl (hb0.rds _) c0) rfl ?_ | refine VD.take rfl rfl rfl (.ldRc tab_ok rfl rfl (hb0.rds _) c0) rfl ?_ | refine VQ.pure rfl rfl (.ldRc tab_ok rfl rfl (hb0.rds _) c0) rfl ?_ | refine VD.end rfl rfl rfl (OpV.pure (.ldRc tab_ok rfl rfl (hb0.rds _) c0) rfl ?_))
    (first | (first | refine VO.nil rfl ?_ | refine VQ.nil rfl ?_ | refine VD.nil ?_ | ((first | apply VO.pure rfl rfl | apply VQ.pure rfl rfl | apply VD.take rfl rfl rfl | (refine VD.end rfl rfl rfl ?_; apply OpV.pure)); (first | (apply PureAt.ar64 rfl rfl rfl; omega) | exact .eval tab_ok rfl | (apply PureAt.ld tab_ok rfl rfl; (focus repeat first | exact .head _ | apply List.Mem.tail); rfl) | (apply PureAt.shr rfl rfl (by decide) (by decide)) | (apply PureAt.shr rfl rfl (by omega) (by simp only [IntKind.bits]; omega)) | exact .fieldAddrA tab_ok rfl rfl | exact .sliceLH tab_ok rfl rfl rfl rfl (by omega) (by omega) | exact .sliceH tab_ok rfl rfl rfl (by omega) | exact .sliceL tab_ok rfl rfl rfl (by omega) | (first | exact .indexAddr tab_ok rfl rfl rfl rfl (by omega) | exact .indexAddrN tab_ok rfl rfl rfl rfl (by omega) | exact .ldR tab_ok rfl rfl hr1 (List.getElem?_eq_getElem (by omega)) | exact .ldR tab_ok rfl rfl hr2 (List.getElem?_eq_getElem (by omega)) | exact ldB tab_ok rfl rfl hb1 (by omega) | exact ldB tab_ok rfl rfl hb2 (by omega)) | (apply PureAt.ldA tab_ok rfl rfl; (focus repeat first | exact .head _ | apply List.Mem.tail); rfl; rfl) | exact .ldro tab_ok rfl rfl (by assumption)); rfl) | refine VO.skip rfl rfl rfl rfl ?_ | refine VQ.skip rfl rfl rfl rfl ?_ | refine VD.skip rfl rfl rfl rfl rfl ?_ | ((first | refine VO.step rfl rfl ?_ | refine VD.end rfl rfl rfl ?_ | refine VD.mid rfl rfl rfl ?_); (first | (apply OpV.st tab_ok rfl rfl rfl rfl (by (repeat first | exact .head | apply Hole.tail)) (by simp)) | (refine OpV.box rfl rfl rfl ?_; intro _))) | refine ⟨Ent.re, ?_⟩) | (first | refine VC.seq rfl ?_ | refine VC.region rfl ?_ | refine VC.condT rfl rfl ?_ | refine VC.condF rfl rfl ?_ | refine VC.block rfl ?_ | refine VC.skip rfl ?_ | refine VC.ret rfl ?_ | refine VC.exit rfl ?_) | (first | refine VE.next ?_ | refine VE.passRet ?_ | refine VE.passExit ?_ | refine VE.blockNormal ?_ | refine VE.blockHit ?_ | refine VE.blockMiss rfl ?_ | refine VE.blockRet ?_ | refine VE.loopRet ?_ | refine VE.loopExit ?_))
    refine VO.re 143 (.int .i64 (x.kind.toNat : Int)) rfl (by rw [IntWalk.i64_in _ ⟨by omega, by omega⟩]) ?_
    (refine w ?_; repeat ((first | refine VO.step rfl rfl ?_ | refine VD.end rfl rfl rfl ?_ | refine VD.mid rfl rfl rfl ?_); refine OpV.box rfl rfl rfl ?_; intro _; refine w ?_))
    (first | refine VO.pure rfl rfl (PureAt.rem (b := n) rfl rfl (by omega)) rfl ?_ | refine VD.take rfl rfl rfl (PureAt.rem (b := n) rfl rfl (by omega)) rfl ?_ | refine VQ.pure rfl rfl (PureAt.rem (b := n) rfl rfl (by omega)) rfl ?_ | refine VD.end rfl rfl rfl (OpV.pure (PureAt.rem (b := n) rfl rfl (by omega)) rfl ?_))
    generalize hm : x.kind.toNat % n = m
    have hmn : m < n := by rw [← hm]; exact Nat.mod_lt _ (by omega)
    (refine w ?_; repeat ((first | refine VO.step rfl rfl ?_ | refine VD.end rfl rfl rfl ?_ | refine VD.mid rfl rfl rfl ?_); refine OpV.box rfl rfl rfl ?_; intro _; refine w ?_))
    (first | refine VO.pure rfl rfl (.ldRc tab_ok rfl rfl (hb0.rds _) c0) rfl ?_ | refine VD.take rfl rfl rfl (.ldRc tab_ok rfl rfl (hb0.rds _) c0) rfl ?_ | refine VQ.pure rfl rfl (.ldRc tab_ok rfl rfl (hb0.rds _) c0) rfl ?_ | refine VD.end rfl rfl rfl (OpV.pure (.ldRc tab_ok rfl rfl (hb0.rds _) c0) rfl ?_))
    (first | (first | refine VO.nil rfl ?_ | refine VQ.nil rfl ?_ | refine VD.nil ?_ | ((first | apply VO.pure rfl rfl | apply VQ.pure rfl rfl | apply VD.take rfl rfl rfl | (refine VD.end rfl rfl rfl ?_; apply OpV.pure)); (first | (apply PureAt.ar64 rfl rfl rfl; omega) | exact .eval tab_ok rfl | (apply PureAt.ld tab_ok rfl rfl; (focus repeat first | exact .head _ | apply List.Mem.tail); rfl) | (apply PureAt.shr rfl rfl (by decide) (by decide)) | (apply PureAt.shr rfl rfl (by omega) (by simp only [IntKind.bits]; omega)) | exact .fieldAddrA tab_ok rfl rfl | exact .sliceLH tab_ok rfl rfl rfl rfl (by omega) (by omega) | exact .sliceH tab_ok rfl rfl rfl (by omega) | exact .sliceL tab_ok rfl rfl rfl (by omega) | (first | exact .indexAddr tab_ok rfl rfl rfl rfl (by omega) | exact .indexAddrN tab_ok rfl rfl rfl rfl (by omega) | exact .ldR tab_ok rfl rfl hr1 (List.getElem?_eq_getElem (by omega)) | exact .ldR tab_ok rfl rfl hr2 (List.getElem?_eq_getElem (by omega)) | exact ldB tab_ok rfl rfl hb1 (by omega) | exact ldB tab_ok rfl rfl hb2 (by omega)) | (apply PureAt.ldA tab_ok rfl rfl; (focus repeat first | exact .head _ | apply List.Mem.tail); rfl; rfl) | exact .ldro tab_ok rfl rfl (by assumption)); rfl) | refine VO.skip rfl rfl rfl rfl ?_ | refine VQ.skip rfl rfl rfl rfl ?_ | refine VD.skip rfl rfl rfl rfl rfl ?_ | ((first | refine VO.step rfl rfl ?_ | refine VD.end rfl rfl rfl ?_ | refine VD.mid rfl rfl rfl ?_); (first | (apply OpV.st tab_ok rfl rfl rfl rfl (by (repeat first | exact .head | apply Hole.tail)) (by simp)) | (refine OpV.box rfl rfl rfl ?_; intro _))) | refine ⟨Ent.re, ?_⟩) | (first | refine VC.seq rfl ?_ | refine VC.region rfl ?_ | refine VC.condT rfl rfl ?_ | refine VC.condF rfl rfl ?_ | refine VC.block rfl ?_ | refine VC.skip rfl ?_ | refine VC.ret rfl ?_ | refine VC.exit rfl ?_) | (first | refine VE.next ?_ | refine VE.passRet ?_ | refine VE.passExit ?_ | refine VE.blockNormal ?_ | refine VE.blockHit ?_ | refine VE.blockMiss rfl ?_ | refine VE.blockRet ?_ | refine VE.loopRet ?_ | refine VE.loopExit ?_))
    refine VO.re 151 (.int .u8 ((UInt8.ofNat (x.kind.toNat + 77)).toNat : Int)) rfl (by rw [← u8_of]; rfl) ?_
    generalize UInt8.ofNat (x.kind.toNat + 77) = c at *
    ((first | refine VO.step rfl rfl ?_ | refine VD.end rfl rfl rfl ?_ | refine VD.mid rfl rfl rfl ?_); refine OpV.call rfl rfl (fun _ _ => by simp) (sector_ok c) Ent.re rfl ?_)
    intro q _
    (refine w ?_; repeat ((first | refine VO.step rfl rfl ?_ | refine VD.end rfl rfl rfl ?_ | refine VD.mid rfl rfl rfl ?_); refine OpV.box rfl rfl rfl ?_; intro _; refine w ?_))
    (((first | refine VO.step rfl rfl ?_ | refine VD.end rfl rfl rfl ?_ | refine VD.mid rfl rfl rfl ?_); refine OpV.call rfl rfl (fun _ _ => by simp) (write_ok d K m (by omega) hKf (fullSec_length _) (by omega) SecO.rds) Ent.re rfl ?_); intro _ _)
    have hsn : sets (keepOf lk) J.last 0 (K.cache ++ [(m, fullSec c)]) = if keepOf lk i then (sets (keepOf lk) J.last 0 K.cache).set m (fullSec c) else sets (keepOf lk) J.last 0 K.cache := by
      rw [sets_snoc, Nat.zero_add, hKc]
    have hlk : lk.length = nk := by have := (hkk []).len; simpa using this
    have hsl : (sets (keepOf lk) J.last 0 K.cache).length = n := (sets_length _ _ _ _).trans hl1
    have hno : keepOf lk i = false → ∀ j, j < n → (rows[j]?).map (·.2) = (sets (keepOf lk) J.last 0 (K.cache ++ [(m, fullSec c)]))[j]? := fun h j hj => by
      rw [hsn, h, if_neg (by simp)]; exact hrw j hj
    have hyes : keepOf lk i = true → ∀ j, j < n → ((rows.set m (q, fullSec c))[j]?).map (·.2) = (sets (keepOf lk) J.last 0 (K.cache ++ [(m, fullSec c)]))[j]? := fun h j hj => by
      rw [hsn, h, if_pos rfl]
      by_cases e : m = j
      · subst e; rw [List.getElem?_set_self (by omega), List.getElem?_set_self (by omega)]; rfl
      · rw [List.getElem?_set_ne e, List.getElem?_set_ne e]; exact hrw j hj
    have hcl : (K.write m (fullSec c)).cache.length = i + 1 := by show (K.cache ++ [_]).length = _; rw [List.length_append, hKc]; rfl
    (refine w ?_; repeat ((first | refine VO.step rfl rfl ?_ | refine VD.end rfl rfl rfl ?_ | refine VD.mid rfl rfl rfl ?_); refine OpV.box rfl rfl rfl ?_; intro _; refine w ?_))
    ((first | refine VO.split rfl rfl rfl ?_ ?_ | refine VD.split rfl rfl rfl ?_ ?_) <;> intro hb)
    · have hik : i < nk := by have := of_decide_eq_true hb; omega
      obtain ⟨ka, rfl⟩ : ∃ ka, ko = some ka := by cases ko with | none => have := (hkk []).nil rfl; omega | some ka => exact ⟨ka, rfl⟩
      (refine w ?_; repeat ((first | refine VO.step rfl rfl ?_ | refine VD.end rfl rfl rfl ?_ | refine VD.mid rfl rfl rfl ?_); refine OpV.box rfl rfl rfl ?_; intro _; refine w ?_))
      (first | refine VO.pure rfl rfl (PureAt.ldR tab_ok rfl rfl (hkk _) (show (bools lk)[i]? = some (.bool (keepOf lk i)) by simp [bools, keepOf, hlk, hik])) rfl ?_ | refine VD.take rfl rfl rfl (PureAt.ldR tab_ok rfl rfl (hkk _) (show (bools lk)[i]? = some (.bool (keepOf lk i)) by simp [bools, keepOf, hlk, hik])) rfl ?_ | refine VQ.pure rfl rfl (PureAt.ldR tab_ok rfl rfl (hkk _) (show (bools lk)[i]? = some (.bool (keepOf lk i)) by simp [bools, keepOf, hlk, hik])) rfl ?_ | refine VD.end rfl rfl rfl (OpV.pure (PureAt.ldR tab_ok rfl rfl (hkk _) (show (bools lk)[i]? = some (.bool (keepOf lk i)) by simp [bools, keepOf, hlk, hik])) rfl ?_))
      (refine w ?_; repeat ((first | refine VO.step rfl rfl ?_ | refine VD.end rfl rfl rfl ?_ | refine VD.mid rfl rfl rfl ?_); refine OpV.box rfl rfl rfl ?_; intro _; refine w ?_))
      (refine VC.cond rfl rfl ?_ ?_ <;> intro hc)
      · have hke : keepOf lk i = true := hc
        (refine w ?_; repeat ((first | refine VO.step rfl rfl ?_ | refine VD.end rfl rfl rfl ?_ | refine VD.mid rfl rfl rfl ?_); refine OpV.box rfl rfl rfl ?_; intro _; refine w ?_))
        (first | refine VO.step rfl rfl ?_ | refine VD.end rfl rfl rfl ?_ | refine VD.mid rfl rfl rfl ?_)
        refine OpV.stO tab_ok rfl rfl rfl rfl (by (repeat first | exact .head | apply Hole.tail)) (by rw [List.length_map]; omega) ?_
        have hset : (rows.map hdr).set m (Value.slice (some ⟨q, 0, none⟩) 128 128) = (rows.set m (q, fullSec c)).map hdr := by rw [List.map_set]; rfl
        rw [hset]
        (refine w ?_; repeat ((first | refine VO.step rfl rfl ?_ | refine VD.end rfl rfl rfl ?_ | refine VD.mid rfl rfl rfl ?_); refine OpV.box rfl rfl rfl ?_; intro _; refine w ?_))
        refine VE.ent (fun w hw => setRow [DiskR d (K.write m (fullSec c)), Own 35 1 (.slice (some ⟨lr, 0, none⟩) n n) n ((rows.set m (q, fullSec c)).map hdr)] rows m (q, fullSec c) (by omega) w (hw.reord (L := SecO q c :: DiskR d (K.write m (fullSec c)) :: Own 35 1 (.slice (some ⟨lr, 0, none⟩) n n) n ((rows.set m (q, fullSec c)).map hdr) :: rows.map rowR) (by (repeat first | exact .refl | (apply Reord.cons; focus repeat first | exact .head | apply Del.tail) | exact .nil | apply Reord.drop)))) ?_
        exact VE.round (i + 1, K.write m (fullSec c), rows.set m (q, fullSec c)) ⟨hlt, hKf, hKl, hcl, (by rw [List.length_set]; exact hrl), hyes hke⟩ (by simp only; omega) ⟨rfl, rfl, rfl, rfl, rfl, rfl, trivial⟩ Ent.refl
      · have hke : keepOf lk i = false := hc
        (refine w ?_; repeat ((first | refine VO.step rfl rfl ?_ | refine VD.end rfl rfl rfl ?_ | refine VD.mid rfl rfl rfl ?_); refine OpV.box rfl rfl rfl ?_; intro _; refine w ?_))
        exact VE.round (i + 1, K.write m (fullSec c), rows) ⟨hlt, hKf, hKl, hcl, hrl, hno hke⟩ (by simp only; omega) ⟨rfl, rfl, rfl, rfl, rfl, rfl, trivial⟩ Ent.re
    · have hik : nk ≤ i := by have := of_decide_eq_false hb; omega
      have hke : keepOf lk i = false := by simp [keepOf, hlk, hik]
      (refine w ?_; repeat ((first | refine VO.step rfl rfl ?_ | refine VD.end rfl rfl rfl ?_ | refine VD.mid rfl rfl rfl ?_); refine OpV.box rfl rfl rfl ?_; intro _; refine w ?_))
      exact VE.round (i + 1, K.write m (fullSec c), rows) ⟨hlt, hKf, hKl, hcl, hrl, hno hke⟩ (by simp only; omega) ⟨rfl, rfl, rfl, rfl, rfl, rfl, trivial⟩ Ent.re
  (refine w ?_; repeat ((first | refine VO.step rfl rfl ?_ | refine VD.end rfl rfl rfl ?_ | refine VD.mid rfl rfl rfl ?_); refine OpV.box rfl rfl rfl ?_; intro _; refine w ?_))
  (((first | refine VO.step rfl rfl ?_ | refine VD.end rfl rfl rfl ?_ | refine VD.mid rfl rfl rfl ?_); refine OpV.call rfl rfl (fun _ _ => by simp) (crash_ok d K (hkk _)) Ent.re rfl ?_); intro _ _)
  have hf2 : (K.settle (keepOf lk)).failed = false := hKf
  have hl2 : (K.settle (keepOf lk)).last.length = n := (DiskD.settle_last_length _ _).trans hKn
  have hc2 : (K.settle (keepOf lk)).cache = [] := rfl
  have hrw2 : ∀ j, j < n → (rows[j]?).map (·.2) = ((K.settle (keepOf lk)).last[j]?) := fun j hj => by
    rw [hrw j hj]; show _ = (sets (keepOf lk) K.last 0 K.cache)[j]?; rw [hKl]
  generalize (K.settle (keepOf lk)) = M at *
  refine VO.know (fun w hw => DiskR.know hw) ?_
  intro hMok
  have h8 : ∀ x ∈ M.last, (bytes x).length = 128 := fun x h => by simp [hMok.last x h]
  have hfl : M.last.flatten.length = n * 128 := by rw [flatten_length _ hMok.last, hl2]
  (refine w ?_; repeat ((first | refine VO.step rfl rfl ?_ | refine VD.end rfl rfl rfl ?_ | refine VD.mid rfl rfl rfl ?_); refine OpV.box rfl rfl rfl ?_; intro _; refine w ?_))
  ((first | refine VO.step rfl rfl ?_ | refine VD.end rfl rfl rfl ?_ | refine VD.mid rfl rfl rfl ?_); refine OpV.call rfl rfl (fun _ _ => by simp) (image_ok d M hf2) Ent.re rfl ?_)
  rintro ⟨im, imc⟩ -
  rw [hl2]
  refine VO.know (fun w hw => hw.ownNone (show Own 5 1 (.slice im (n * 128) imc) (n * 128) (bytes M.last.flatten) ∈ _ by (focus repeat first | exact .head _ | apply List.Mem.tail)) : ∀ w, _ → (im = none → n * 128 = 0)) ?_
  intro him
  refine VO.know (fun w hw => hw.ownCap (show Own 5 1 (.slice im (n * 128) imc) (n * 128) (bytes M.last.flatten) ∈ _ by (focus repeat first | exact .head _ | apply List.Mem.tail)) : ∀ w, _ → n * 128 ≤ imc) ?_
  intro hic
  (refine w ?_; repeat ((first | refine VO.step rfl rfl ?_ | refine VD.end rfl rfl rfl ?_ | refine VD.mid rfl rfl rfl ?_); refine OpV.box rfl rfl rfl ?_; intro _; refine w ?_))
  refine VC.loop (α := Nat) (fun i => i ≤ n) (fun _ => Own 5 1 (.slice im (n * 128) imc) (n * 128) (bytes M.last.flatten) :: DiskR d M :: Own 35 1 (.slice (some ⟨lr, 0, none⟩) n n) n (rows.map hdr) :: rows.map rowR)
    (fun i => [(9, .int .i64 n), (10, .pointer (some ⟨d, 0, none⟩)), (12, .slice (some ⟨lr, 0, none⟩) n n), (22, .slice im (n * 128) imc), (23, .int .i64 i)]) (fun i => n - i) rfl 0 (Nat.zero_le _) Ent.refl ⟨rfl, rfl, rfl, rfl, rfl, trivial⟩ ?_
  intro i hi
  (refine w ?_; repeat ((first | refine VO.step rfl rfl ?_ | refine VD.end rfl rfl rfl ?_ | refine VD.mid rfl rfl rfl ?_); refine OpV.box rfl rfl rfl ?_; intro _; refine w ?_))
  (refine VC.cond rfl rfl ?_ ?_ <;> intro hc)
  · have hlt : i < n := by have := of_decide_eq_true hc; omega
    have hri : i < rows.length := by omega
    have hxe : rows[i].2 = M.look i := by
      have := hrw2 i hlt
      rw [List.getElem?_eq_getElem hri] at this
      rw [DiskD.look_clean hc2, ← this]; rfl
    have hxm : M.last[i]'(by omega) = rows[i].2 := by
      have := hrw2 i hlt
      rw [List.getElem?_eq_getElem hri, List.getElem?_eq_getElem (by omega)] at this
      exact (Option.some.inj this).symm
    have hx128 : rows[i].2.length = 128 := by rw [hxe]; exact DiskD.look_128 hMok (by omega)
    have hmem : rowR rows[i] ∈ rows.map rowR := List.mem_map_of_mem (List.getElem_mem hri)
    have hget : (rows.map hdr)[i]? = some (hdr rows[i]) := by rw [List.getElem?_map, List.getElem?_eq_getElem hri]; rfl
    (refine w ?_; repeat ((first | refine VO.step rfl rfl ?_ | refine VD.end rfl rfl rfl ?_ | refine VD.mid rfl rfl rfl ?_); refine OpV.box rfl rfl rfl ?_; intro _; refine w ?_))
    ((first | refine VO.step rfl rfl ?_ | refine VD.end rfl rfl rfl ?_ | refine VD.mid rfl rfl rfl ?_); refine OpV.call rfl rfl (fun _ _ => by simp) (dread_ok d M i hf2 (by omega)) Ent.re rfl ?_)
    rintro ⟨y, yc⟩ -
    rw [← hxe]
    (refine w ?_; repeat ((first | refine VO.step rfl rfl ?_ | refine VD.end rfl rfl rfl ?_ | refine VD.mid rfl rfl rfl ?_); refine OpV.box rfl rfl rfl ?_; intro _; refine w ?_))
    (first | refine VO.pure rfl rfl (PureAt.ldR tab_ok rfl rfl (Rds.own (hdr_one rows) (by (focus repeat first | exact .head _ | apply List.Mem.tail)) (by rw [List.length_map, hrl, Nat.mul_one]) (fun h => by cases h)) hget) rfl ?_ | refine VD.take rfl rfl rfl (PureAt.ldR tab_ok rfl rfl (Rds.own (hdr_one rows) (by (focus repeat first | exact .head _ | apply List.Mem.tail)) (by rw [List.length_map, hrl, Nat.mul_one]) (fun h => by cases h)) hget) rfl ?_ | refine VQ.pure rfl rfl (PureAt.ldR tab_ok rfl rfl (Rds.own (hdr_one rows) (by (focus repeat first | exact .head _ | apply List.Mem.tail)) (by rw [List.length_map, hrl, Nat.mul_one]) (fun h => by cases h)) hget) rfl ?_ | refine VD.end rfl rfl rfl (OpV.pure (PureAt.ldR tab_ok rfl rfl (Rds.own (hdr_one rows) (by (focus repeat first | exact .head _ | apply List.Mem.tail)) (by rw [List.length_map, hrl, Nat.mul_one]) (fun h => by cases h)) hget) rfl ?_))
    ((first | refine VO.step rfl rfl ?_ | refine VD.end rfl rfl rfl ?_ | refine VD.mid rfl rfl rfl ?_); refine OpV.call rfl rfl (fun _ _ => by simp) (same_any (a := rows[i].2) (b := rows[i].2) (Rds.own (bytes_one _) (show Own 5 1 (.slice (some y) 128 yc) 128 (bytes rows[i].2) ∈ _ by (focus repeat first | exact .head _ | apply List.Mem.tail)) (by rw [bytes_length, hx128]) (fun h => by cases h)) (row_rds (.tail _ (.tail _ (.tail _ (.tail _ hmem)))) hx128) (by decide)) Ent.refl rfl ?_; intro _ _)
    (refine w ?_; repeat ((first | refine VO.step rfl rfl ?_ | refine VD.end rfl rfl rfl ?_ | refine VD.mid rfl rfl rfl ?_); refine OpV.box rfl rfl rfl ?_; intro _; refine w ?_))
    (first | refine VO.gF rfl rfl rfl (by simp) ?_ | refine VD.gF rfl rfl rfl (by simp) ?_)
    (refine w ?_; repeat ((first | refine VO.step rfl rfl ?_ | refine VD.end rfl rfl rfl ?_ | refine VD.mid rfl rfl rfl ?_); refine OpV.box rfl rfl rfl ?_; intro _; refine w ?_))
    (first | refine VO.gF rfl rfl rfl (by simp) ?_ | refine VD.gF rfl rfl rfl (by simp) ?_)
    (refine w ?_; repeat ((first | refine VO.step rfl rfl ?_ | refine VD.end rfl rfl rfl ?_ | refine VD.mid rfl rfl rfl ?_); refine OpV.box rfl rfl rfl ?_; intro _; refine w ?_))
    refine VO.re 208 (.int .i64 ((i * 128 : Nat) : Int)) rfl (by congr 1) ?_
    refine VO.re 211 (.int .i64 (((i + 1) * 128 : Nat) : Int)) rfl (by congr 1) ?_
    have hle : (i + 1) * 128 ≤ n * 128 := Nat.mul_le_mul_right _ hlt
    have hsub := Rds.sub (W := W) (Rds.own (H := Own 5 1 (.slice (some y) 128 yc) 128 (bytes rows[i].2) :: DiskR d M :: Own 5 1 (.slice im (n * 128) imc) (n * 128) (bytes M.last.flatten) :: Own 35 1 (.slice (some ⟨lr, 0, none⟩) n n) n (rows.map hdr) :: rows.map rowR) (bytes_one _) (.tail _ (.tail _ (.head _))) (by rw [bytes_length, hfl, Nat.mul_one]) him) (show i * 128 ≤ (i + 1) * 128 by omega) hle hic
    have hbs' : ((bytes M.last.flatten).drop (i * 128 * 1)).take (((i + 1) * 128 - i * 128) * 1) = bytes rows[i].2 := by
      rw [bytes_flatten, Nat.mul_one, Nat.mul_one, show (i + 1) * 128 - i * 128 = 128 by omega, flat_part (g := bytes) M.last i (by omega) h8, hxm]
    rw [hbs'] at hsub
    (refine w ?_; repeat ((first | refine VO.step rfl rfl ?_ | refine VD.end rfl rfl rfl ?_ | refine VD.mid rfl rfl rfl ?_); refine OpV.box rfl rfl rfl ?_; intro _; refine w ?_))
    ((first | refine VO.step rfl rfl ?_ | refine VD.end rfl rfl rfl ?_ | refine VD.mid rfl rfl rfl ?_); refine OpV.call rfl rfl (fun _ _ => by simp) (same_any (a := rows[i].2) (b := rows[i].2) hsub (Rds.own (bytes_one _) (.head _) (by rw [bytes_length, hx128]) (fun h => by cases h)) (by simp only [maxLen]; omega)) Ent.refl rfl ?_; intro _ _)
    (refine w ?_; repeat ((first | refine VO.step rfl rfl ?_ | refine VD.end rfl rfl rfl ?_ | refine VD.mid rfl rfl rfl ?_); refine OpV.box rfl rfl rfl ?_; intro _; refine w ?_))
    (refine VC.condFe rfl rfl (by simp) ?_)
    (refine w ?_; repeat ((first | refine VO.step rfl rfl ?_ | refine VD.end rfl rfl rfl ?_ | refine VD.mid rfl rfl rfl ?_); refine OpV.box rfl rfl rfl ?_; intro _; refine w ?_))
    exact VE.round (i + 1) hlt (by omega) ⟨rfl, rfl, rfl, rfl, rfl, trivial⟩ Ent.re
  · (refine w ?_; repeat ((first | refine VO.step rfl rfl ?_ | refine VD.end rfl rfl rfl ?_ | refine VD.mid rfl rfl rfl ?_); refine OpV.box rfl rfl rfl ?_; intro _; refine w ?_))
    (refine VE.done1 rfl ?_ ?_)
    · rfl
    · exact Reord.ent .nil
end Go.Proofs.Ythefmgmgmoanlaa
