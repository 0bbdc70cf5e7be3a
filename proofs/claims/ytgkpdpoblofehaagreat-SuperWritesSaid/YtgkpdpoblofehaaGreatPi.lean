/- The document's Encode of a superblock. -/
import Derived.Test.YtgkpdpoblofehaaGreatPg
set_option maxRecDepth 8000
set_option linter.unusedVariables false
set_option linter.unusedSimpArgs false
set_option linter.unusedSectionVars false
namespace Go.Proofs.YtgkpdpoblofehaaGreat
open Go.RowKit Go.Sl
attribute [local irreducible] Own

theorem and_lowS (y j : Nat) (h : y < 2 ^ 64) (hj : j ≤ 64) : IntKind.u64.wrap ((BitVec.ofInt IntKind.u64.bits (y : Int) &&& BitVec.ofInt IntKind.u64.bits ((2 ^ j - 1 : Nat) : Int)).toNat : Int) = ((y % 2 ^ j : Nat) : Int) := and_lowB y j h hj
theorem sput_ok {W : World} {R : List SProp} {ao : Option Addr} {cap : Nat} (l : List UInt8) (n v wd : Nat) (hn : l.length = n) (hl : n ≤ 100000) (hw : wd ≤ 8) (hv : v < 2 ^ 64) :
    Does W Tryz.prog 29 [.slice ao n cap, .int .u64 v, .int .i64 wd] (Own 5 1 (.slice ao n cap) n (bytes l) :: R) (β := Option Addr × Nat) (fun _ => True)
      (fun x => .slice x.1 (n + wd) x.2) (fun x => Own 5 1 (.slice x.1 (n + wd) x.2) (n + wd) (bytes (l ++ lowBytes v wd)) :: R) := by
  (refine Does.enter Tryz.func29 Tryz.ntmps29 rfl rfl ?_)
  (refine w ?_; repeat ((first | refine VO.step rfl rfl ?_ | refine VD.end rfl rfl rfl ?_ | refine VD.mid rfl rfl rfl ?_); refine OpV.box rfl rfl rfl ?_; intro _; refine w ?_))
  refine VC.loop (α := Nat × Option Addr × Nat) (fun y => y.1 ≤ wd) (fun y => Own 5 1 (.slice y.2.1 (n + y.1) y.2.2) (n + y.1) (bytes (l ++ lowBytes v y.1)) :: R)
    (fun y => [(0, .slice y.2.1 (n + y.1) y.2.2), (1, .int .u64 ((v / 256 ^ y.1 : Nat) : Int)), (2, .int .i64 wd), (7, .int .i64 y.1)]) (fun y => wd - y.1) rfl (0, ao, cap) (Nat.zero_le _) (by simp only [lowBytes, List.append_nil, Nat.add_zero]; exact Ent.refl) ⟨asV rfl (by simp), asV rfl (by simp), rfl, rfl, trivial⟩ ?_
  rintro ⟨i, so, sc⟩ hi
  dsimp only at hi ⊢
  (refine w ?_; repeat ((first | refine VO.step rfl rfl ?_ | refine VD.end rfl rfl rfl ?_ | refine VD.mid rfl rfl rfl ?_); refine OpV.box rfl rfl rfl ?_; intro _; refine w ?_))
  (refine VC.cond rfl rfl ?_ ?_ <;> intro hc)
  · have hlt : i < wd := by have := of_decide_eq_true hc; omega
    (refine w ?_; repeat ((first | refine VO.step rfl rfl ?_ | refine VD.end rfl rfl rfl ?_ | refine VD.mid rfl rfl rfl ?_); refine OpV.box rfl rfl rfl ?_; intro _; refine w ?_))
    refine VO.re 16 (.int .u8 ((UInt8.ofNat (v / 256 ^ i)).toNat : Int)) rfl ?_ ?_
    · rw [show (255 : Int) = ((2 ^ 8 - 1 : Nat) : Int) from rfl, and_lowS _ 8 (by exact Nat.lt_of_le_of_lt (Nat.div_le_self _ _) hv) (by omega), u8_of]
      congr 2
      simp
    ((first | refine VO.step rfl rfl ?_ | refine VD.end rfl rfl rfl ?_ | refine VD.mid rfl rfl rfl ?_); refine OpV.buildSlice1 st_32 rfl rfl (by first | (simp; done) | simp [Value.oneCell']) (by decide) rfl ?_; intro nb)
    ((first | refine VO.step rfl rfl ?_ | refine VD.end rfl rfl rfl ?_ | refine VD.mid rfl rfl rfl ?_); refine OpV.appendRow st_32 rfl rfl (by (repeat first | exact .head | apply Hole.tail)) (by (focus repeat first | exact .head _ | apply List.Mem.tail)) rfl (by first | (simp; done) | simp [Value.oneCell']) ?_ ?_ rfl ?_)
    · simp only [maxLen]; omega
    · omega
    intro so' sc'
    (refine w ?_; repeat ((first | refine VO.step rfl rfl ?_ | refine VD.end rfl rfl rfl ?_ | refine VD.mid rfl rfl rfl ?_); refine OpV.box rfl rfl rfl ?_; intro _; refine w ?_))
    refine VE.round (i + 1, so', sc') (by simp only; omega) (by simp only; omega) ⟨rfl, asV rfl ?_, rfl, asV rfl (by congr 1), trivial⟩ ?_
    · simp only; rw [show (2 : Nat) ^ (8 : Int).toNat = 256 from rfl, Nat.div_div_eq_div_mul, Nat.pow_succ]
    · dsimp only
      rw [lowBytes, ← List.append_assoc, bytes_append (l ++ lowBytes v i), ← Nat.add_assoc]
      exact Ent.re
  · have hge : i = wd := by have := of_decide_eq_false hc; omega
    subst hge
    (refine w ?_; repeat ((first | refine VO.step rfl rfl ?_ | refine VD.end rfl rfl rfl ?_ | refine VD.mid rfl rfl rfl ?_); refine OpV.box rfl rfl rfl ?_; intro _; refine w ?_))
    exact VE.done (so, sc) rfl trivial rfl Ent.refl
theorem low_one (v : Nat) : lowBytes v 1 = [UInt8.ofNat v] := by simp [lowBytes]
theorem low_four {v : Nat} (h : v < 65536) : lowBytes v 4 = lowBytes v 2 ++ lowBytes 0 2 := by
  have h1 : v / 256 ^ 2 = 0 := Nat.div_eq_of_lt (by omega)
  have h2 : v / 256 ^ 3 = 0 := Nat.div_eq_of_lt (by omega)
  show lowBytes v 2 ++ [UInt8.ofNat (v / 256 ^ 2)] ++ [UInt8.ofNat (v / 256 ^ 3)] = _
  rw [h1, h2, List.append_assoc]; rfl
theorem u8_int {z : Int} (h : 0 ≤ z ∧ z ≤ 255) : Value.int .u8 (IntKind.u8.wrap z) = byteV (UInt8.ofNat z.toNat) := by
  have e : z = ((z.toNat : Nat) : Int) := by omega
  unfold byteV
  rw [e, u8_of, Int.toNat_natCast]
theorem u64_int {z : Int} (h : 0 ≤ z ∧ z ≤ 65535) : Value.int .u64 (IntKind.u64.wrap z) = .int .u64 (z.toNat : Nat) := by
  have e : z = ((z.toNat : Nat) : Int) := by omega
  rw [e, wrap64_of (by omega), Int.toNat_natCast]
set_option maxHeartbeats 4000000 in
theorem rsencode_ok {W : World} {R : List SProp} (s : SuperD) (hf : s.fit) (hr : Rds W R 1 s.so s.states.length (bytes s.states)) :
    Does W Tryz.prog 9 [.agg s.cells.toArray] R (β := Option Addr × Nat) (fun _ => True) (fun x => .tuple #[.slice x.1 s.enc.2.length x.2, .int .i64 s.enc.1]) (fun x => OwnB x s.enc.2 :: R) := by
  (refine Does.enter Tryz.func9 Tryz.ntmps9 rfl rfl ?_)
  (refine w ?_; repeat ((first | refine VO.step rfl rfl ?_ | refine VD.end rfl rfl rfl ?_ | refine VD.mid rfl rfl rfl ?_); refine OpV.box rfl rfl rfl ?_; intro _; refine w ?_))
  rename_i sb
  ((first | refine VO.step rfl rfl ?_ | refine VD.end rfl rfl rfl ?_ | refine VD.mid rfl rfl rfl ?_); refine OpV.call rfl rfl (fun _ _ => by simp) (rcheck_ok s hf (hr.ent (Ent.drop Ent.refl))) Ent.refl rfl ?_)
  intro _ _
  (refine w ?_; repeat ((first | refine VO.step rfl rfl ?_ | refine VD.end rfl rfl rfl ?_ | refine VD.mid rfl rfl rfl ?_); refine OpV.box rfl rfl rfl ?_; intro _; refine w ?_))
  by_cases hok : s.okP
  case neg =>
    rw [show s.check = 70 from if_neg hok]
    (refine w ?_; repeat ((first | refine VO.step rfl rfl ?_ | refine VD.end rfl rfl rfl ?_ | refine VD.mid rfl rfl rfl ?_); refine OpV.box rfl rfl rfl ?_; intro _; refine w ?_))
    refine VE.done (none, 0) rfl trivial (by rw [senc_bad hok]; rfl) ?_
    rw [senc_bad hok]; exact Ent.trans (Ent.re (L := R)) (fun w hw => hw.ownNil _ _)
  rw [show s.check = 0 from if_pos hok, senc_ok hok]
  have hin := okP_in hf hok
  have hfl := flags_lt s
  have hlen := hin.len16
  have e1 : s.had 1 = magicS := by rw [had_succ s (k := 0) (by decide) rfl, had_zero, magicS_low]; rfl
  have e2 : s.had 2 = s.had 1 ++ lowBytes s.id 8 := had_succ s (k := 1) (by decide) rfl
  have e3 : s.had 3 = s.had 2 ++ lowBytes s.events 8 := had_succ s (k := 2) (by decide) rfl
  have e4 : s.had 4 = s.had 3 ++ lowBytes s.safe 8 := had_succ s (k := 3) (by decide) rfl
  have e8 : s.had 8 = s.had 4 ++ [UInt8.ofNat s.role.toNat, UInt8.ofNat s.members.toNat, UInt8.ofNat s.chunk.toNat, UInt8.ofNat s.flags] := by
    rw [had_succ s (k := 7) (by decide) rfl, had_succ s (k := 6) (by decide) rfl, had_succ s (k := 5) (by decide) rfl, had_succ s (k := 4) (by decide) rfl, low_one, low_one, low_one, low_one]; simp
  have e9 : s.had 9 = s.had 8 ++ lowBytes s.stripes.toNat 2 := had_succ s (k := 8) (by decide) rfl
  have e10 : s.had 10 = s.had 9 ++ lowBytes s.ring.toNat 2 := had_succ s (k := 9) (by decide) rfl
  have e12 : s.had 12 = s.had 10 ++ lowBytes s.cursor.toNat 4 := by
    rw [had_succ s (k := 11) (by decide) rfl, had_succ s (k := 10) (by decide) rfl, low_four (by have := hin.cursor; omega), List.append_assoc]
  have e13 := had_last s
  have l1 := had_length s 1 (by decide)
  have l2 := had_length s 2 (by decide)
  have l3 := had_length s 3 (by decide)
  have l4 := had_length s 4 (by decide)
  have l8 := had_length s 8 (by decide)
  have l9 := had_length s 9 (by decide)
  have l10 := had_length s 10 (by decide)
  have l12 := had_length s 12 (by decide)
  have l13 := had_len13 s
  have hbody : s.body = padTo 124 (s.had 13) := rfl
  have hbl := body_length hin
  have hel := enc_length hin
  generalize s.had 1 = A1 at *
  generalize s.had 2 = A2 at *
  generalize s.had 3 = A3 at *
  generalize s.had 4 = A4 at *
  generalize s.had 8 = A8 at *
  generalize s.had 9 = A9 at *
  generalize s.had 10 = A10 at *
  generalize s.had 12 = A12 at *
  generalize s.had 13 = A13 at *
  generalize s.body = B at *
  refine VC.ent (fun w hw => hw.ownNil 5 1) ?_
  (refine w ?_; repeat ((first | refine VO.step rfl rfl ?_ | refine VD.end rfl rfl rfl ?_ | refine VD.mid rfl rfl rfl ?_); refine OpV.box rfl rfl rfl ?_; intro _; refine w ?_))
  (first | refine VO.step rfl rfl ?_ | refine VD.end rfl rfl rfl ?_ | refine VD.mid rfl rfl rfl ?_)
  refine OpV.append (news := bytes magicS) (m := 8) st_32 rfl rfl (by (repeat first | exact .head | apply Hole.tail)) (fun w hw => Src.ofString w (TabData.string_ok tab_ok rfl) _) (by decide) (by decide) rfl ?_
  intro so sc
  simp only [Nat.zero_add, List.nil_append]
  rw [← e1]
  (refine w ?_; repeat ((first | refine VO.step rfl rfl ?_ | refine VD.end rfl rfl rfl ?_ | refine VD.mid rfl rfl rfl ?_); refine OpV.box rfl rfl rfl ?_; intro _; refine w ?_))
  ((first | refine VO.step rfl rfl ?_ | refine VD.end rfl rfl rfl ?_ | refine VD.mid rfl rfl rfl ?_); refine OpV.call rfl rfl (fun _ _ => by simp) (sput_ok A1 8 s.id 8 l1 (by decide) (by decide) hin.id) Ent.re rfl ?_)
  rintro ⟨so2, sc2⟩ -
  rw [← e2]
  (refine w ?_; repeat ((first | refine VO.step rfl rfl ?_ | refine VD.end rfl rfl rfl ?_ | refine VD.mid rfl rfl rfl ?_); refine OpV.box rfl rfl rfl ?_; intro _; refine w ?_))
  ((first | refine VO.step rfl rfl ?_ | refine VD.end rfl rfl rfl ?_ | refine VD.mid rfl rfl rfl ?_); refine OpV.call rfl rfl (fun _ _ => by simp) (sput_ok A2 (8 + 8) s.events 8 l2 (by decide) (by decide) hin.events) Ent.re rfl ?_)
  rintro ⟨so3, sc3⟩ -
  rw [← e3]
  (refine w ?_; repeat ((first | refine VO.step rfl rfl ?_ | refine VD.end rfl rfl rfl ?_ | refine VD.mid rfl rfl rfl ?_); refine OpV.box rfl rfl rfl ?_; intro _; refine w ?_))
  ((first | refine VO.step rfl rfl ?_ | refine VD.end rfl rfl rfl ?_ | refine VD.mid rfl rfl rfl ?_); refine OpV.call rfl rfl (fun _ _ => by simp) (sput_ok A3 (8 + 8 + 8) s.safe 8 l3 (by decide) (by decide) hin.safe) Ent.re rfl ?_)
  rintro ⟨so4, sc4⟩ -
  rw [← e4]
  (refine w ?_; repeat ((first | refine VO.step rfl rfl ?_ | refine VD.end rfl rfl rfl ?_ | refine VD.mid rfl rfl rfl ?_); refine OpV.box rfl rfl rfl ?_; intro _; refine w ?_))
  refine VC.joinH [(1, .pointer (some ⟨sb, 0, none⟩)), (5, .slice so4 (8 + 8 + 8 + 8) sc4), (6, .int .i64 (bitN s.lazy))] (fun Q2 jn => ?_) ?_
  · (refine VC.cond rfl rfl ?_ ?_ <;> intro hc)
    · (refine w ?_; repeat ((first | refine VO.step rfl rfl ?_ | refine VD.end rfl rfl rfl ?_ | refine VD.mid rfl rfl rfl ?_); refine OpV.box rfl rfl rfl ?_; intro _; refine w ?_))
      refine jn.to () trivial ⟨rfl, rfl, asV rfl (by rw [hc]; rfl), trivial⟩ Ent.refl
    · (refine w ?_; repeat ((first | refine VO.step rfl rfl ?_ | refine VD.end rfl rfl rfl ?_ | refine VD.mid rfl rfl rfl ?_); refine OpV.box rfl rfl rfl ?_; intro _; refine w ?_))
      refine jn.to () trivial ⟨rfl, rfl, asV rfl (by rw [hc]; rfl), trivial⟩ Ent.refl
  (refine w ?_; repeat ((first | refine VO.step rfl rfl ?_ | refine VD.end rfl rfl rfl ?_ | refine VD.mid rfl rfl rfl ?_); refine OpV.box rfl rfl rfl ?_; intro _; refine w ?_))
  refine VC.joinH [(1, .pointer (some ⟨sb, 0, none⟩)), (5, .slice so4 (8 + 8 + 8 + 8) sc4), (6, .int .i64 s.flags)] (fun Q2 jn => ?_) ?_
  · (refine VC.cond rfl rfl ?_ ?_ <;> intro hc)
    · (refine w ?_; repeat ((first | refine VO.step rfl rfl ?_ | refine VD.end rfl rfl rfl ?_ | refine VD.mid rfl rfl rfl ?_); refine OpV.box rfl rfl rfl ?_; intro _; refine w ?_))
      refine jn.to () trivial ⟨rfl, rfl, asV rfl (by unfold SuperD.flags; rw [hc]; cases s.lazy <;> rfl), trivial⟩ Ent.refl
    · (refine w ?_; repeat ((first | refine VO.step rfl rfl ?_ | refine VD.end rfl rfl rfl ?_ | refine VD.mid rfl rfl rfl ?_); refine OpV.box rfl rfl rfl ?_; intro _; refine w ?_))
      refine jn.to () trivial ⟨rfl, rfl, asV rfl (by unfold SuperD.flags; rw [hc]; cases s.lazy <;> rfl), trivial⟩ Ent.refl
  (refine w ?_; repeat ((first | refine VO.step rfl rfl ?_ | refine VD.end rfl rfl rfl ?_ | refine VD.mid rfl rfl rfl ?_); refine OpV.box rfl rfl rfl ?_; intro _; refine w ?_))
  refine VO.re 37 (byteV (UInt8.ofNat s.role.toNat)) rfl (u8_int (by have := hin.role; omega)) ?_
  refine VO.re 41 (byteV (UInt8.ofNat s.members.toNat)) rfl (u8_int (by have := hin.members; omega)) ?_
  refine VO.re 45 (byteV (UInt8.ofNat s.chunk.toNat)) rfl (u8_int (by have := hin.chunk; omega)) ?_
  refine VO.re 47 (byteV (UInt8.ofNat s.flags)) rfl (u8_int (z := s.flags) (by omega)) ?_
  ((first | refine VO.step rfl rfl ?_ | refine VD.end rfl rfl rfl ?_ | refine VD.mid rfl rfl rfl ?_); refine OpV.buildSlice1 st_32 rfl rfl (by first | (simp; done) | simp [Value.oneCell']) (by decide) rfl ?_; intro nb)
  ((first | refine VO.step rfl rfl ?_ | refine VD.end rfl rfl rfl ?_ | refine VD.mid rfl rfl rfl ?_); refine OpV.appendRow st_32 rfl rfl (by (repeat first | exact .head | apply Hole.tail)) (by (focus repeat first | exact .head _ | apply List.Mem.tail)) rfl (by first | (simp; done) | simp [Value.oneCell']) ?_ ?_ rfl ?_)
  · simp only [maxLen]; omega
  · omega
  intro so8 sc8
  rw [show bytes A4 ++ [byteV (UInt8.ofNat s.role.toNat), byteV (UInt8.ofNat s.members.toNat), byteV (UInt8.ofNat s.chunk.toNat), byteV (UInt8.ofNat s.flags)] = bytes A8 by rw [e8, bytes_append]; rfl]
  (refine w ?_; repeat ((first | refine VO.step rfl rfl ?_ | refine VD.end rfl rfl rfl ?_ | refine VD.mid rfl rfl rfl ?_); refine OpV.box rfl rfl rfl ?_; intro _; refine w ?_))
  refine VO.re 54 (.int .u64 (s.stripes.toNat : Nat)) rfl (u64_int (by have := hin.stripes; omega)) ?_
  ((first | refine VO.step rfl rfl ?_ | refine VD.end rfl rfl rfl ?_ | refine VD.mid rfl rfl rfl ?_); refine OpV.call rfl rfl (fun _ _ => by simp) (sput_ok A8 (8 + 8 + 8 + 8 + 4) s.stripes.toNat 2 l8 (by decide) (by decide) (by have := hin.stripes; omega)) Ent.re rfl ?_)
  rintro ⟨so9, sc9⟩ -
  rw [← e9]
  (refine w ?_; repeat ((first | refine VO.step rfl rfl ?_ | refine VD.end rfl rfl rfl ?_ | refine VD.mid rfl rfl rfl ?_); refine OpV.box rfl rfl rfl ?_; intro _; refine w ?_))
  refine VO.re 59 (.int .u64 (s.ring.toNat : Nat)) rfl (u64_int (by have := hin.ring; omega)) ?_
  ((first | refine VO.step rfl rfl ?_ | refine VD.end rfl rfl rfl ?_ | refine VD.mid rfl rfl rfl ?_); refine OpV.call rfl rfl (fun _ _ => by simp) (sput_ok A9 (8 + 8 + 8 + 8 + 4 + 2) s.ring.toNat 2 l9 (by decide) (by decide) (by have := hin.ring; omega)) Ent.re rfl ?_)
  rintro ⟨so10, sc10⟩ -
  rw [← e10]
  (refine w ?_; repeat ((first | refine VO.step rfl rfl ?_ | refine VD.end rfl rfl rfl ?_ | refine VD.mid rfl rfl rfl ?_); refine OpV.box rfl rfl rfl ?_; intro _; refine w ?_))
  refine VO.re 64 (.int .u64 (s.cursor.toNat : Nat)) rfl (u64_int (by have := hin.cursor; omega)) ?_
  ((first | refine VO.step rfl rfl ?_ | refine VD.end rfl rfl rfl ?_ | refine VD.mid rfl rfl rfl ?_); refine OpV.call rfl rfl (fun _ _ => by simp) (sput_ok A10 (8 + 8 + 8 + 8 + 4 + 2 + 2) s.cursor.toNat 4 l10 (by decide) (by decide) (by have := hin.cursor; omega)) Ent.re rfl ?_)
  rintro ⟨so12, sc12⟩ -
  rw [← e12]
  (refine w ?_; repeat ((first | refine VO.step rfl rfl ?_ | refine VD.end rfl rfl rfl ?_ | refine VD.mid rfl rfl rfl ?_); refine OpV.box rfl rfl rfl ?_; intro _; refine w ?_))
  refine VC.loop (α := Nat × Option Addr × Nat) (fun y => y.1 ≤ s.states.length) (fun y => Own 5 1 (.slice y.2.1 (44 + y.1) y.2.2) (44 + y.1) (bytes (A12 ++ s.states.take y.1)) :: Row sb 27 s.cells :: R)
    (fun y => [(1, .pointer (some ⟨sb, 0, none⟩)), (5, .slice y.2.1 (44 + y.1) y.2.2), (7, .int .i64 y.1)]) (fun y => s.states.length - y.1) rfl (0, so12, sc12) (Nat.zero_le _) (by simp only [List.take_zero, List.append_nil]; exact Ent.re) ⟨rfl, rfl, rfl, trivial⟩ ?_
  · rintro ⟨i, so', sc'⟩ hi
    dsimp only at hi ⊢
    (refine w ?_; repeat ((first | refine VO.step rfl rfl ?_ | refine VD.end rfl rfl rfl ?_ | refine VD.mid rfl rfl rfl ?_); refine OpV.box rfl rfl rfl ?_; intro _; refine w ?_))
    (refine VC.cond rfl rfl ?_ ?_ <;> intro hc)
    · have hlt : i < s.states.length := by have := of_decide_eq_true hc; omega
      obtain ⟨a, ha⟩ : ∃ a, s.so = some a := by cases hs : s.so with | none => have := hr.nil hs; omega | some a => exact ⟨a, rfl⟩
      rw [ha] at hr
      have hb1 : Rds W (Own 5 1 (.slice so' (44 + i) sc') (44 + i) (bytes (A12 ++ s.states.take i)) :: Row sb 27 s.cells :: R) 1 (some a) s.states.length (bytes s.states) := hr.ent (Ent.drop (Ent.drop Ent.refl))
      (refine w ?_; repeat ((first | refine VO.step rfl rfl ?_ | refine VD.end rfl rfl rfl ?_ | refine VD.mid rfl rfl rfl ?_); refine OpV.box rfl rfl rfl ?_; intro _; refine w ?_))
      refine VO.re 75 (.slice (some a) s.states.length s.sc) rfl (by rw [ha]) ?_
      (refine w ?_; repeat ((first | refine VO.step rfl rfl ?_ | refine VD.end rfl rfl rfl ?_ | refine VD.mid rfl rfl rfl ?_); refine OpV.box rfl rfl rfl ?_; intro _; refine w ?_))
      ((first | refine VO.step rfl rfl ?_ | refine VD.end rfl rfl rfl ?_ | refine VD.mid rfl rfl rfl ?_); refine OpV.buildSlice1 st_32 rfl rfl (by first | (simp; done) | simp [Value.oneCell']) (by decide) rfl ?_; intro nb)
      ((first | refine VO.step rfl rfl ?_ | refine VD.end rfl rfl rfl ?_ | refine VD.mid rfl rfl rfl ?_); refine OpV.appendRow st_32 rfl rfl (by (repeat first | exact .head | apply Hole.tail)) (by (focus repeat first | exact .head _ | apply List.Mem.tail)) rfl (by first | (simp; done) | simp [Value.oneCell']) ?_ ?_ rfl ?_)
      · simp only [maxLen]; omega
      · omega
      intro so'' sc''
      (refine w ?_; repeat ((first | refine VO.step rfl rfl ?_ | refine VD.end rfl rfl rfl ?_ | refine VD.mid rfl rfl rfl ?_); refine OpV.box rfl rfl rfl ?_; intro _; refine w ?_))
      refine VE.round (i + 1, so'', sc'') (by simp only; omega) (by simp only; omega) ⟨rfl, rfl, asV rfl (by congr 1), trivial⟩ ?_
      dsimp only
      rw [List.take_succ_eq_append_getElem hlt, ← List.append_assoc, bytes_append (A12 ++ s.states.take i), ← Nat.add_assoc]
      exact Ent.re
    · have hge : i = s.states.length := by have := of_decide_eq_false hc; omega
      subst hge
      rw [List.take_length, ← e13]
      (refine w ?_; repeat ((first | refine VO.step rfl rfl ?_ | refine VD.end rfl rfl rfl ?_ | refine VD.mid rfl rfl rfl ?_); refine OpV.box rfl rfl rfl ?_; intro _; refine w ?_))
      refine VC.loop (α := Nat × Option Addr × Nat) (fun y => y.1 ≤ 124 - A13.length) (fun y => Own 5 1 (.slice y.2.1 (A13.length + y.1) y.2.2) (A13.length + y.1) (bytes (A13 ++ List.replicate y.1 0)) :: R)
        (fun y => [(5, .slice y.2.1 (A13.length + y.1) y.2.2)]) (fun y => 124 - A13.length - y.1) rfl (0, so', sc') (Nat.zero_le _) (by simp only [List.replicate_zero, List.append_nil, Nat.add_zero]; rw [l13]; exact Ent.re) ⟨asV rfl (by rw [l13]; rfl), trivial⟩ ?_
      rintro ⟨j, ro, rc⟩ hj
      dsimp only at hj ⊢
      (refine w ?_; repeat ((first | refine VO.step rfl rfl ?_ | refine VD.end rfl rfl rfl ?_ | refine VD.mid rfl rfl rfl ?_); refine OpV.box rfl rfl rfl ?_; intro _; refine w ?_))
      (refine VC.cond rfl rfl ?_ ?_ <;> intro hc)
      · have hlt : j < 124 - A13.length := by have := of_decide_eq_true hc; omega
        (refine w ?_; repeat ((first | refine VO.step rfl rfl ?_ | refine VD.end rfl rfl rfl ?_ | refine VD.mid rfl rfl rfl ?_); refine OpV.box rfl rfl rfl ?_; intro _; refine w ?_))
        ((first | refine VO.step rfl rfl ?_ | refine VD.end rfl rfl rfl ?_ | refine VD.mid rfl rfl rfl ?_); refine OpV.buildSlice1 st_32 rfl rfl (by first | (simp; done) | simp [Value.oneCell']) (by decide) rfl ?_; intro nb)
        ((first | refine VO.step rfl rfl ?_ | refine VD.end rfl rfl rfl ?_ | refine VD.mid rfl rfl rfl ?_); refine OpV.appendRow st_32 rfl rfl (by (repeat first | exact .head | apply Hole.tail)) (by (focus repeat first | exact .head _ | apply List.Mem.tail)) rfl (by first | (simp; done) | simp [Value.oneCell']) ?_ ?_ rfl ?_)
        · simp only [maxLen]; omega
        · omega
        intro ro' rc'
        (refine w ?_; repeat ((first | refine VO.step rfl rfl ?_ | refine VD.end rfl rfl rfl ?_ | refine VD.mid rfl rfl rfl ?_); refine OpV.box rfl rfl rfl ?_; intro _; refine w ?_))
        refine VE.round (j + 1, ro', rc') (by simp only; omega) (by simp only; omega) ⟨rfl, trivial⟩ ?_
        dsimp only
        rw [List.replicate_succ', ← List.append_assoc, bytes_append (A13 ++ List.replicate j 0), ← Nat.add_assoc]
        exact Ent.re
      · have hge : j = 124 - A13.length := by have := of_decide_eq_false hc; omega
        subst hge
        rw [show A13.length + (124 - A13.length) = 124 by omega, show A13 ++ List.replicate (124 - A13.length) 0 = B from hbody.symm]
        (refine w ?_; repeat ((first | refine VO.step rfl rfl ?_ | refine VD.end rfl rfl rfl ?_ | refine VD.mid rfl rfl rfl ?_); refine OpV.box rfl rfl rfl ?_; intro _; refine w ?_))
        refine VO.know (p := ro = none → 124 = 0) (fun w hw => hw.ownNone (.head _)) ?_
        intro hrn
        have hsum := rsum_ok (W := W) (cap := rc) (l := B) (R := Own 5 1 (.slice ro 124 rc) 124 (bytes B) :: R) (ao := ro) (by rw [hbl]; exact Rds.own (bytes_one _) (.head _) (by simp [hbl]) hrn) (by omega)
        rw [hbl] at hsum
        ((first | refine VO.step rfl rfl ?_ | refine VD.end rfl rfl rfl ?_ | refine VD.mid rfl rfl rfl ?_); refine OpV.call rfl rfl (fun _ _ => by simp) (hsum) Ent.refl rfl ?_)
        intro _ _
        have hcr := (crcS B).isLt
        (refine w ?_; repeat ((first | refine VO.step rfl rfl ?_ | refine VD.end rfl rfl rfl ?_ | refine VD.mid rfl rfl rfl ?_); refine OpV.box rfl rfl rfl ?_; intro _; refine w ?_))
        refine VO.re 91 (.int .u64 ((crcS B).toNat : Nat)) rfl (by rw [wrap64_of (by omega)]) ?_
        ((first | refine VO.step rfl rfl ?_ | refine VD.end rfl rfl rfl ?_ | refine VD.mid rfl rfl rfl ?_); refine OpV.call rfl rfl (fun _ _ => by simp) (sput_ok B 124 (crcS B).toNat 4 hbl (by decide) (by decide) (by omega)) Ent.re rfl ?_)
        rintro ⟨zo, zc⟩ -
        rw [show B ++ lowBytes (crcS B).toNat 4 = sealS B from rfl]
        (refine w ?_; repeat ((first | refine VO.step rfl rfl ?_ | refine VD.end rfl rfl rfl ?_ | refine VD.mid rfl rfl rfl ?_); refine OpV.box rfl rfl rfl ?_; intro _; refine w ?_))
        refine VE.done (zo, zc) rfl trivial (by rw [hel]) ?_
        rw [show OwnB (zo, zc) (sealS B) = Own 5 1 (.slice zo (124 + 4) zc) (124 + 4) (bytes (sealS B)) by unfold OwnB; rw [hel]]
        exact Ent.re
end Go.Proofs.YtgkpdpoblofehaaGreat
