/- Package super: what the arguments are; the example; Akin. -/
import Derived.Test.YtgkpdpoblofehaaPf
import Derived.Test.YtgkpdpoblofehaaLd
import Derived.WalkKit
import Derived.ProofKit
import Derived.OpenShut
set_option maxRecDepth 8000
set_option linter.unusedVariables false
set_option linter.unusedSimpArgs false
set_option linter.unusedSectionVars false
namespace Go.Proofs.Ytgkpdpoblofehaa
open Go.RowKit Go.Sl
attribute [local irreducible] Own

theorem flatMap_byteS (l : List UInt8) : l.flatMap (fun c => [byteV c]) = bytes l := by
  induction l with
  | nil => rfl
  | cons a r ih => simp only [List.flatMap_cons, ih]; rfl
theorem statesS_of {W : World} {ao : Option Addr} {n cap : Nat} (h : InT Try.prog W 87 [.slice ao n cap]) : ∃ l : List UInt8, l.length = n ∧ RdsA W 1 ao n (bytes l) ∧ n ≤ 140737488351232 ∧ n ≤ cap := by
  obtain ⟨l, h1, h2, -, h4, h5⟩ := h.list (fun c : UInt8 => [byteV c]) (fun _ => True) 0 Try.underlying87 (by kernel_rfl) (fun o _ u hu => by simp at hu; subst hu; rfl) (fun cs hc => by
    obtain ⟨m, rfl, hw⟩ := hc.int_inv Try.underlying135
    obtain ⟨c, rfl⟩ := byte_of hw
    exact ⟨c, rfl, trivial⟩)
  have b1 : Try.prog.bytesOf 135 = 1 := by kernel_rfl
  rw [b1] at h5
  rw [flatMap_byteS] at h2
  exact ⟨l, h1, h2, by simp only [reachBytes] at h5; omega, h4⟩
theorem sup_of {W : World} {cs : List Value} (fS : InT Try.prog W 89 cs) : ∃ b : SuperD, cs = b.cells ∧ b.fit ∧ RdsA W 1 b.so b.states.length (bytes b.states) := by
  have hl := (fS.struct_inv Try.underlying89).1
  have kS : Try.prog.cellsOf 89 = 12 := by kernel_rfl
  rw [kS] at hl
  match cs, hl with
  | [v0, v1, v2, v3, v4, v5, v6, v7, v8, v9, v10, v11], _ =>
    have kb : Try.prog.cellsOf 4 = 1 := by kernel_rfl
    have ki : Try.prog.cellsOf 3 = 1 := by kernel_rfl
    have ku : Try.prog.cellsOf 54 = 1 := by kernel_rfl
    have kg : Try.prog.cellsOf 86 = 3 := by kernel_rfl
    have ks : Try.prog.cellsOf 87 = 1 := by kernel_rfl
    have g0 : InT Try.prog W 54 [v0] := fS.field (i := 0) (off := 0) Try.underlying89 rfl rfl rfl ku
    have g1 : InT Try.prog W 54 [v1] := fS.field (i := 1) (off := 1) Try.underlying89 rfl rfl rfl ku
    have g2 : InT Try.prog W 54 [v2] := fS.field (i := 2) (off := 2) Try.underlying89 rfl rfl rfl ku
    have g3 : InT Try.prog W 3 [v3] := fS.field (i := 3) (off := 3) Try.underlying89 rfl rfl rfl ki
    have g4 : InT Try.prog W 86 [v4, v5, v6] := fS.field (i := 4) (off := 4) Try.underlying89 rfl rfl rfl kg
    have g5 : InT Try.prog W 3 [v7] := fS.field (i := 5) (off := 7) Try.underlying89 rfl rfl rfl ki
    have g6 : InT Try.prog W 4 [v8] := fS.field (i := 6) (off := 8) Try.underlying89 rfl rfl rfl kb
    have g7 : InT Try.prog W 4 [v9] := fS.field (i := 7) (off := 9) Try.underlying89 rfl rfl rfl kb
    have g8 : InT Try.prog W 87 [v10] := fS.field (i := 8) (off := 10) Try.underlying89 rfl rfl rfl ks
    have g9 : InT Try.prog W 3 [v11] := fS.field (i := 9) (off := 11) Try.underlying89 rfl rfl rfl ki
    have q0 : InT Try.prog W 3 [v4] := g4.field (i := 0) (off := 0) Try.underlying86 rfl rfl rfl ki
    have q1 : InT Try.prog W 3 [v5] := g4.field (i := 1) (off := 1) Try.underlying86 rfl rfl rfl ki
    have q2 : InT Try.prog W 3 [v6] := g4.field (i := 2) (off := 2) Try.underlying86 rfl rfl rfl ki
    obtain ⟨n0, e1, w0⟩ := g0.int_inv Try.underlying54
    obtain ⟨n1, e2, w1⟩ := g1.int_inv Try.underlying54
    obtain ⟨n2, e3, w2⟩ := g2.int_inv Try.underlying54
    obtain ⟨n3, e4, w3⟩ := g3.int_inv Try.underlying3
    obtain ⟨n4, e5, w4⟩ := q0.int_inv Try.underlying3
    obtain ⟨n5, e6, w5⟩ := q1.int_inv Try.underlying3
    obtain ⟨n6, e7, w6⟩ := q2.int_inv Try.underlying3
    obtain ⟨n7, e8, w7⟩ := g5.int_inv Try.underlying3
    obtain ⟨b8, e9⟩ := g6.bool_inv Try.underlying4
    obtain ⟨b9, e10⟩ := g7.bool_inv Try.underlying4
    obtain ⟨ao, n10, cap, _, e11, _⟩ := g8.slice_inv Try.underlying87
    obtain ⟨n11, e12, w11⟩ := g9.int_inv Try.underlying3
    rw [e11] at g8
    obtain ⟨l, rfl, hr, hb1, hcp⟩ := statesS_of g8
    cases e1; cases e2; cases e3; cases e4; cases e5; cases e6; cases e7; cases e8; cases e9; cases e10; cases e11; cases e12
    have y0 := bounds_u64 w0; have y1 := bounds_u64 w1; have y2 := bounds_u64 w2
    have y3 := bounds_i64 w3; have y4 := bounds_i64 w4; have y5 := bounds_i64 w5; have y6 := bounds_i64 w6; have y7 := bounds_i64 w7; have y11 := bounds_i64 w11
    obtain ⟨m0, rfl⟩ : ∃ m : Nat, n0 = m := ⟨n0.toNat, by omega⟩
    obtain ⟨m1, rfl⟩ : ∃ m : Nat, n1 = m := ⟨n1.toNat, by omega⟩
    obtain ⟨m2, rfl⟩ : ∃ m : Nat, n2 = m := ⟨n2.toNat, by omega⟩
    exact ⟨⟨m0, m1, m2, n3, n4, n5, n6, n7, b8, b9, ao, cap, l, n11⟩, rfl, ⟨by simp only; omega, by simp only; omega, by simp only; omega, y3, y4, y5, y6, y7, y11, hb1, hcp⟩, hr⟩
theorem rakinS_ok {W : World} {R : List SProp} (a b : SuperD) (ha : a.fit) (hbf : b.fit) :
    Does1 W Try.prog 37 [.agg a.cells.toArray, .agg b.cells.toArray] R (.bool (a.akin b)) R := by
  (refine Does.enter Try.func37 Try.ntmps37 rfl rfl ?_)
  (refine w ?_; repeat ((first | refine VO.step rfl rfl ?_ | refine VD.end rfl rfl rfl ?_ | refine VD.mid rfl rfl rfl ?_); refine OpV.box rfl rfl rfl ?_; intro _; refine w ?_))
  unfold SuperD.akin
  ((first | refine VO.split rfl rfl rfl ?_ ?_ | refine VD.split rfl rfl rfl ?_ ?_) <;> intro hb)
  · have h1 : a.id = b.id := by have := hb; simp at this; omega
    (refine w ?_; repeat ((first | refine VO.step rfl rfl ?_ | refine VD.end rfl rfl rfl ?_ | refine VD.mid rfl rfl rfl ?_); refine OpV.box rfl rfl rfl ?_; intro _; refine w ?_))
    refine VO.pure rfl rfl (geo_eq (a := a) (b := b) rfl rfl ha hbf rfl) rfl ?_
    (refine w ?_; repeat ((first | refine VO.step rfl rfl ?_ | refine VD.end rfl rfl rfl ?_ | refine VD.mid rfl rfl rfl ?_); refine OpV.box rfl rfl rfl ?_; intro _; refine w ?_))
    ((first | refine VO.split rfl rfl rfl ?_ ?_ | refine VD.split rfl rfl rfl ?_ ?_) <;> intro hb)
    · have h2 : a.members = b.members ∧ a.chunk = b.chunk ∧ a.stripes = b.stripes := of_decide_eq_true hb
      (refine w ?_; repeat ((first | refine VO.step rfl rfl ?_ | refine VD.end rfl rfl rfl ?_ | refine VD.mid rfl rfl rfl ?_); refine OpV.box rfl rfl rfl ?_; intro _; refine w ?_))
      ((first | refine VO.split rfl rfl rfl ?_ ?_ | refine VD.split rfl rfl rfl ?_ ?_) <;> intro hb)
      · have h3 : a.ring = b.ring := by simpa using hb
        (refine w ?_; repeat ((first | refine VO.step rfl rfl ?_ | refine VD.end rfl rfl rfl ?_ | refine VD.mid rfl rfl rfl ?_); refine OpV.box rfl rfl rfl ?_; intro _; refine w ?_))
        (refine VE.done1 rfl ?_ ?_)
        · congr 1; rw [Bool.eq_iff_iff]; simp [h1, h2.1, h2.2.1, h2.2.2, h3]
        · exact Ent.re
      · have h3 : ¬ a.ring = b.ring := by simpa using hb
        (refine w ?_; repeat ((first | refine VO.step rfl rfl ?_ | refine VD.end rfl rfl rfl ?_ | refine VD.mid rfl rfl rfl ?_); refine OpV.box rfl rfl rfl ?_; intro _; refine w ?_))
        (refine VE.done1 rfl ?_ ?_)
        · simp [h3]
        · exact Ent.re
    · have h2 : ¬ (a.members = b.members ∧ a.chunk = b.chunk ∧ a.stripes = b.stripes) := of_decide_eq_false hb
      (refine w ?_; repeat ((first | refine VO.step rfl rfl ?_ | refine VD.end rfl rfl rfl ?_ | refine VD.mid rfl rfl rfl ?_); refine OpV.box rfl rfl rfl ?_; intro _; refine w ?_))
      (refine VE.done1 rfl ?_ ?_)
      · congr 1; symm; exact decide_eq_false (fun h => h2 h.2.1)
      · exact Ent.re
  · have h1 : ¬ a.id = b.id := by have := hb; simp at this; omega
    (refine w ?_; repeat ((first | refine VO.step rfl rfl ?_ | refine VD.end rfl rfl rfl ?_ | refine VD.mid rfl rfl rfl ?_); refine OpV.box rfl rfl rfl ?_; intro _; refine w ?_))
    (refine VE.done1 rfl ?_ ?_)
    · simp [h1]
    · exact Ent.re


/-! ### What is written is read -/
theorem leVal_zero : ∀ {l : List UInt8}, leVal l = 0 → ∀ x ∈ l, x = 0
  | [], _, x, h => by cases h
  | c :: r, h, x, hx => by
    unfold leVal at h
    have h1 : c.toNat = 0 := by omega
    have h2 : leVal r = 0 := by omega
    rcases List.mem_cons.1 hx with rfl | hx
    · exact UInt8.toNat_inj.1 h1
    · exact leVal_zero h2 x hx
theorem firstOdd_none {l : List UInt8} (h : ∀ x ∈ l, x = 0) : firstOdd l = -1 := by
  unfold firstOdd
  rw [show l.findIdx? (· != 0) = none from List.findIdx?_eq_none_iff.2 (fun x hx => by rw [h x hx]; rfl)]
theorem seal_rk {s : SuperD} (h : s.In) : rkAt (sealS s.body) 12 = ⟨sealS s.body, 44, 0, 0⟩ := by
  have hl := enc_length h
  have hn := seal_num h (k := 11) rfl
  generalize sealS s.body = S at *
  have hg := Rk.got_good (k := ⟨S, 42, 0, 0⟩) (n := 2) rfl (by simp only; omega)
  have h1 : (Rk.mk S 42 0 0).got 2 = (S.drop 42).take 2 := hg.1
  have h2 : (Rk.mk S 42 0 0).short 2 = ⟨S, 42, 0, 0⟩ := hg.2.1
  have h3 : firstOdd ((S.drop 42).take 2) = -1 := firstOdd_none (leVal_zero hn)
  unfold rkAt
  rw [if_neg (by decide)]
  unfold Rk.noughts
  rw [if_neg (by decide), show (2 : Int).toNat = 2 from rfl, h1, h2, h3, if_neg (by simp), if_neg (by decide)]
theorem seal_step {S : List UInt8} (hl : S.length = 128) : ∀ i, i ≤ 16 → stepsR ⟨S, 44, 0, 0⟩ i = ⟨S, 44 + i, 0, 0⟩
  | 0, _ => rfl
  | i + 1, h => by
    have ih := seal_step hl i (by omega)
    show (stepsR ⟨S, 44, 0, 0⟩ i).number 1 = _
    rw [ih, (Rk.got_good (k := ⟨S, 44 + i, 0, 0⟩) (n := 1) rfl (by simp only; omega)).2.2]
    rfl
theorem seal_many {s : SuperD} (h : s.In) : manyS (sealS s.body) = s.states.length := by
  unfold manyS
  rw [show numAt (sealS s.body) 33 1 = s.members.toNat from seal_num h (k := 5) rfl]
  have := h.len; have := h.members; omega
theorem seal_states {s : SuperD} (h : s.In) : stsOf (rkAt (sealS s.body) 12) (manyS (sealS s.body)) = s.states := by
  rw [seal_rk h, seal_many h]
  have hl := enc_length h
  apply List.ext_getElem
  · rw [stsOf_length]
  intro i h1 h2
  have hs := seal_state h (List.getElem?_eq_getElem h2)
  have h16 := h.len16
  simp only [stsOf, List.getElem_map, List.getElem_range]
  rw [seal_step hl i (by omega), (Rk.got_good (k := ⟨sealS s.body, 44 + i, 0, 0⟩) (n := 1) rfl (by simp only; omega)).1]
  show UInt8.ofNat (numAt (sealS s.body) (44 + i) 1) = _
  rw [hs]; simp
theorem parse_seal {s : SuperD} (h : s.In) : SuperD.parse (sealS s.body) = s.hold (none, 0) s.states := by
  have n1 := seal_num h (k := 1) rfl
  have n2 := seal_num h (k := 2) rfl
  have n3 := seal_num h (k := 3) rfl
  have n4 := seal_num h (k := 4) rfl
  have n5 := seal_num h (k := 5) rfl
  have n6 := seal_num h (k := 6) rfl
  have n7 := seal_num h (k := 7) rfl
  have n8 := seal_num h (k := 8) rfl
  have n9 := seal_num h (k := 9) rfl
  have n10 := seal_num h (k := 10) rfl
  have ns := seal_states h
  have hf1 : decide (s.flags % 2 = 1) = s.lazy := by unfold SuperD.flags bitN; cases s.lazy <;> cases s.lost <;> rfl
  have hf2 : decide (s.flags / 2 % 2 = 1) = s.lost := by unfold SuperD.flags bitN; cases s.lazy <;> cases s.lost <;> rfl
  generalize sealS s.body = S at *
  obtain ⟨h1, h2, h3, h4, h5, h6, h7, h8, h9, _, _⟩ := h
  unfold SuperD.parse SuperD.hold
  rw [show numAt S 8 8 = _ from n1, show numAt S 16 8 = _ from n2, show numAt S 24 8 = _ from n3, show numAt S 32 1 = _ from n4, show numAt S 33 1 = _ from n5, show numAt S 34 1 = _ from n6, show numAt S 35 1 = _ from n7, show numAt S 36 2 = _ from n8, show numAt S 38 2 = _ from n9, show numAt S 40 2 = _ from n10, ns, hf1, hf2]
  rw [Int.toNat_of_nonneg (by omega), Int.toNat_of_nonneg (by omega), Int.toNat_of_nonneg (by omega), Int.toNat_of_nonneg (by omega), Int.toNat_of_nonneg (by omega), Int.toNat_of_nonneg (by omega)]
theorem sdec_back {s : SuperD} (hok : s.okP) (h : s.In) : sdec (sealS s.body) = (0, s.hold (none, 0) s.states) := by
  have hl := enc_length h
  have he : (SuperD.parse (sealS s.body)).enc = (0, sealS s.body) := by rw [parse_seal h, hold_enc, senc_ok hok]
  unfold sdec
  rw [if_neg (by omega), if_neg (fun q => q seal_head), if_neg (fun q => q (seal_sum h)), if_pos he, parse_seal h]
theorem numAt_one {l : List UInt8} {j : Nat} (h : j < l.length) : numAt l j 1 = l[j].toNat := by
  have e : (l.drop j).take 1 = [l[j]] := by rw [List.drop_eq_getElem_cons h]; rfl
  unfold numAt
  rw [e]
  simp [leVal]

/-! ### What the example fixes -/
def smp : SuperD := ⟨7, 3, 2, 3, 3, 1, 2, 10, true, false, none, 0, [1, 2, 3], 1⟩
theorem smp_ok : smp.okP := by decide +kernel
theorem smp_fit (x : Option Addr × Nat) (h : 3 ≤ x.2) : (smp.hold x smp.states).fit := by
  refine ⟨?_, ?_, ?_, ?_, ?_, ?_, ?_, ?_, ?_, ?_, h⟩ <;> simp [smp, SuperD.hold]
theorem smp_in : smp.In := by
  have h : (smp.hold (none, 3) smp.states).In := okP_in (smp_fit (none, 3) (Nat.le_refl _)) smp_ok
  exact ⟨h.id, h.events, h.safe, h.role, h.members, h.chunk, h.stripes, h.ring, h.cursor, h.len, h.len16⟩
theorem sample_ok {W : World} {R : List SProp} : Does W Try.prog 74 [] R (β := Nat) (fun _ => True) (fun b => .agg (smp.hold (some ⟨b, 0, none⟩, 3) smp.states).cells.toArray) (fun b => Row b 135 (bytes [1, 2, 3]) :: R) := by
  (refine Does.enter Try.func74 Try.ntmps74 rfl rfl ?_)
  (refine w ?_; repeat ((first | refine VO.step rfl rfl ?_ | refine VD.end rfl rfl rfl ?_ | refine VD.mid rfl rfl rfl ?_); refine OpV.box rfl rfl rfl ?_; intro _; refine w ?_))
  ((first | refine VO.step rfl rfl ?_ | refine VD.end rfl rfl rfl ?_ | refine VD.mid rfl rfl rfl ?_); refine OpV.allocS sb_89 rfl ?_; intro n0)
  (refine w ?_; repeat ((first | refine VO.step rfl rfl ?_ | refine VD.end rfl rfl rfl ?_ | refine VD.mid rfl rfl rfl ?_); refine OpV.box rfl rfl rfl ?_; intro _; refine w ?_))
  (apply VO.pure rfl rfl; apply PureAt.build sb_86 rfl; (simp [buildX, setL, Value.cells]; rfl); rfl)
  ((first | refine VO.step rfl rfl ?_ | refine VD.end rfl rfl rfl ?_ | refine VD.mid rfl rfl rfl ?_); refine OpV.buildSlice1 st_87 rfl rfl (by first | (simp; done) | simp [Value.oneCell']) (by decide) rfl ?_; intro nb)
  (apply VO.pure rfl rfl; apply PureAt.build sb_89 rfl; (simp [buildX, setL, Value.cells]; rfl); rfl)
  (first | refine VO.step rfl rfl ?_ | refine VD.end rfl rfl rfl ?_ | refine VD.mid rfl rfl rfl ?_)
  refine OpV.stA (vs := (smp.hold (some ⟨nb, 0, none⟩, 3) smp.states).cells) tab_ok rfl rfl rfl rfl (super_one _) (by (repeat first | exact .head | apply Hole.tail)) (by simp) ?_
  (refine w ?_; repeat ((first | refine VO.step rfl rfl ?_ | refine VD.end rfl rfl rfl ?_ | refine VD.mid rfl rfl rfl ?_); refine OpV.box rfl rfl rfl ?_; intro _; refine w ?_))
  refine VE.results1 (.inl rfl) nb rfl (ResIs.agg (vs := (smp.hold (some ⟨nb, 0, none⟩, 3) smp.states).cells) tab_ok rfl rfl (by (focus repeat first | exact .head _ | apply List.Mem.tail)) rfl rfl) trivial rfl ?_
  show Ent W (Row nb 135 (bytes [1, 2, 3]) :: _ :: R) _
  exact Ent.re
/-- What the example comes to, its sector not looked into. -/
theorem smp_facts : ∃ S : List UInt8, smp.enc = (0, S) ∧ sdec S = (0, smp) ∧ ∃ h : S.length = 128, S[0] = 83 ∧ S[33] = 3 ∧ S[44] = 1 := by
  have hin := smp_in
  have hl := enc_length hin
  refine ⟨sealS smp.body, senc_ok smp_ok, sdec_back smp_ok hin, hl, ?_, ?_, ?_⟩
  · have h := seal_head (s := smp)
    have : ((sealS smp.body).take 8)[0]? = magicS[0]? := by rw [h]
    rw [List.getElem?_take, if_pos (by decide), List.getElem?_eq_getElem (by omega)] at this
    injection this
  · have h := seal_num hin (k := 5) rfl
    rw [show offN 5 = 33 from rfl, numAt_one (by omega)] at h
    exact UInt8.toNat_inj.1 h
  · have h := seal_state hin (i := 0) rfl
    rw [numAt_one (by omega)] at h
    exact UInt8.toNat_inj.1 h
set_option maxHeartbeats 2000000 in
theorem supknown_ok {W : World} {R : List SProp} : Does1 W Try.prog 38 [] R (.bool true) R := by
  obtain ⟨S, hE, hD, hl, e0, e33, e44⟩ := smp_facts
  (refine Does.enter Try.func38 Try.ntmps38 rfl rfl ?_)
  (refine w ?_; repeat ((first | refine VO.step rfl rfl ?_ | refine VD.end rfl rfl rfl ?_ | refine VD.mid rfl rfl rfl ?_); refine OpV.box rfl rfl rfl ?_; intro _; refine w ?_))
  ((first | refine VO.step rfl rfl ?_ | refine VD.end rfl rfl rfl ?_ | refine VD.mid rfl rfl rfl ?_); refine OpV.call rfl rfl (fun _ _ => by simp) (sample_ok) Ent.re rfl ?_)
  intro sb _
  have hsr : Rds W (Row sb 135 (bytes [1, 2, 3]) :: R) 1 (some ⟨sb, 0, none⟩) 3 (bytes [1, 2, 3]) := Rds.row (bytes_one _) (.head _) rfl
  have hfit := smp_fit (some ⟨sb, 0, none⟩, 3) (Nat.le_refl _)
  obtain ⟨T, hT⟩ : ∃ T, T = smp.hold (some ⟨sb, 0, none⟩, 3) smp.states := ⟨_, rfl⟩
  have hTE : T.enc = (0, S) := by rw [hT, hold_enc, hE]
  have hTc : T.check = 0 := by rw [hT]; exact if_pos smp_ok
  have hTr : ∀ H, Row sb 135 (bytes [1, 2, 3]) ∈ H → Rds W H 1 T.so T.states.length (bytes T.states) := fun H hm => by rw [hT]; exact Rds.row (bytes_one _) hm rfl
  have hTs : T.same (smp.hold (none, 0) smp.states) = true := by rw [hT]; exact (same_iff _ _).2 ⟨rfl, rfl, rfl, rfl, ⟨rfl, rfl, rfl⟩, rfl, rfl, rfl, rfl, rfl⟩
  have hTk : T.akin (smp.hold (none, 0) smp.states) = true := by rw [hT]; exact decide_eq_true ⟨rfl, ⟨rfl, rfl, rfl⟩, rfl, rfl⟩
  rw [← hT] at hfit ⊢
  (refine w ?_; repeat ((first | refine VO.step rfl rfl ?_ | refine VD.end rfl rfl rfl ?_ | refine VD.mid rfl rfl rfl ?_); refine OpV.box rfl rfl rfl ?_; intro _; refine w ?_))
  ((first | refine VO.step rfl rfl ?_ | refine VD.end rfl rfl rfl ?_ | refine VD.mid rfl rfl rfl ?_); refine OpV.allocS sb_89 rfl ?_; intro n1)
  (refine w ?_; repeat ((first | refine VO.step rfl rfl ?_ | refine VD.end rfl rfl rfl ?_ | refine VD.mid rfl rfl rfl ?_); refine OpV.box rfl rfl rfl ?_; intro _; refine w ?_))
  (first | refine VO.step rfl rfl ?_ | refine VD.end rfl rfl rfl ?_ | refine VD.mid rfl rfl rfl ?_)
  refine OpV.stA (vs := T.cells) tab_ok rfl rfl rfl rfl (super_one _) (by (repeat first | exact .head | apply Hole.tail)) (by simp) ?_
  refine VO.ent (Ent.re (L := Row n1 89 T.cells :: Row sb 135 (bytes [1, 2, 3]) :: R)) ?_
  (refine w ?_; repeat ((first | refine VO.step rfl rfl ?_ | refine VD.end rfl rfl rfl ?_ | refine VD.mid rfl rfl rfl ?_); refine OpV.box rfl rfl rfl ?_; intro _; refine w ?_))
  ((first | refine VO.step rfl rfl ?_ | refine VD.end rfl rfl rfl ?_ | refine VD.mid rfl rfl rfl ?_); refine OpV.call rfl rfl (fun _ _ => by simp) (sencode_ok T hfit (hTr _ (by (focus repeat first | exact .head _ | apply List.Mem.tail)))) Ent.refl rfl ?_)
  rw [hTE]; dsimp only
  rintro ⟨a1, c1⟩ -
  (refine VO.know (p := a1 = none → (S).length = 0) (fun w hw => hw.ownNone (.head _)) ?_; intro hn1; refine VO.know (p := (S).length ≤ c1) (fun w hw => hw.ownCap (.head _)) ?_; intro hc1)
  (refine w ?_; repeat ((first | refine VO.step rfl rfl ?_ | refine VD.end rfl rfl rfl ?_ | refine VD.mid rfl rfl rfl ?_); refine OpV.box rfl rfl rfl ?_; intro _; refine w ?_))
  ((first | refine VO.step rfl rfl ?_ | refine VD.end rfl rfl rfl ?_ | refine VD.mid rfl rfl rfl ?_); refine OpV.call rfl rfl (fun _ _ => by simp) (sdecode_ok (own_rds (x := (a1, c1)) hn1 (by (focus repeat first | exact .head _ | apply List.Mem.tail))) hc1) Ent.refl rfl ?_)
  unfold sdecG
  rw [hD]; dsimp only
  rintro ⟨a2, c2⟩ -
  refine VO.know (p := smp.states.length ≤ c2) (fun w hw => hw.ownCap (.head _)) ?_
  intro hc2
  have hfit2 := smp_fit (a2, c2) hc2
  obtain ⟨U, hU⟩ : ∃ U, U = smp.hold (a2, c2) smp.states := ⟨_, rfl⟩
  have hUs : T.same U = true := by rw [hU]; exact hTs
  have hUk : T.akin U = true := by rw [hU]; exact hTk
  have hUo : OwnSt (a2, c2) smp.states = Own 135 1 (.slice U.so U.states.length U.sc) U.states.length (bytes U.states) := by rw [hU]; rfl
  refine VO.know (p := a2 = none → smp.states.length = 0) (fun w hw => hw.ownNone (.head _)) ?_
  intro hn2
  have hUr : ∀ H, OwnSt (a2, c2) smp.states ∈ H → Rds W H 1 U.so U.states.length (bytes U.states) := fun H hm => by rw [hU]; exact Rds.own (bytes_one _) hm (by simp [SuperD.hold]) (by simpa [SuperD.hold] using hn2)
  rw [← hU] at hfit2 ⊢
  (refine w ?_; repeat ((first | refine VO.step rfl rfl ?_ | refine VD.end rfl rfl rfl ?_ | refine VD.mid rfl rfl rfl ?_); refine OpV.box rfl rfl rfl ?_; intro _; refine w ?_))
  ((first | refine VO.step rfl rfl ?_ | refine VD.end rfl rfl rfl ?_ | refine VD.mid rfl rfl rfl ?_); refine OpV.allocS sb_89 rfl ?_; intro n4)
  (refine w ?_; repeat ((first | refine VO.step rfl rfl ?_ | refine VD.end rfl rfl rfl ?_ | refine VD.mid rfl rfl rfl ?_); refine OpV.box rfl rfl rfl ?_; intro _; refine w ?_))
  (first | refine VO.step rfl rfl ?_ | refine VD.end rfl rfl rfl ?_ | refine VD.mid rfl rfl rfl ?_)
  refine OpV.stA (vs := U.cells) tab_ok rfl rfl rfl rfl (super_one _) (by (repeat first | exact .head | apply Hole.tail)) (by simp) ?_
  refine VO.ent (Ent.re (L := Row n4 89 U.cells :: OwnSt (a2, c2) smp.states :: OwnB (a1, c1) S :: Row n1 89 T.cells :: Row sb 135 (bytes [1, 2, 3]) :: R)) ?_
  obtain ⟨a, rfl⟩ : ∃ a, a1 = some a := by cases a1 with | none => have := hn1 rfl; omega | some a => exact ⟨a, rfl⟩
  have hb1 : Rds W (Row n4 89 U.cells :: OwnSt (a2, c2) smp.states :: OwnB (some a, c1) S :: Row n1 89 T.cells :: Row sb 135 (bytes [1, 2, 3]) :: R) 1 (some a) S.length (bytes S) := own_rds (x := (some a, c1)) hn1 (by (focus repeat first | exact .head _ | apply List.Mem.tail))
  (refine w ?_; repeat ((first | refine VO.step rfl rfl ?_ | refine VD.end rfl rfl rfl ?_ | refine VD.mid rfl rfl rfl ?_); refine OpV.box rfl rfl rfl ?_; intro _; refine w ?_))
  ((first | refine VO.step rfl rfl ?_ | refine VD.end rfl rfl rfl ?_ | refine VD.mid rfl rfl rfl ?_); refine OpV.call rfl rfl (fun _ _ => by simp) (scheck_ok T hfit (hTr _ (by (focus repeat first | exact .head _ | apply List.Mem.tail)))) Ent.refl rfl ?_)
  intro _ _
  rw [hTc]
  (refine w ?_; repeat ((first | refine VO.step rfl rfl ?_ | refine VD.end rfl rfl rfl ?_ | refine VD.mid rfl rfl rfl ?_); refine OpV.box rfl rfl rfl ?_; intro _; refine w ?_))
  (first | refine VO.gT rfl rfl rfl (by rw [hl]; rfl) ?_ | refine VD.gT rfl rfl rfl (by rw [hl]; rfl) ?_)
  (refine w ?_; repeat ((first | refine VO.step rfl rfl ?_ | refine VD.end rfl rfl rfl ?_ | refine VD.mid rfl rfl rfl ?_); refine OpV.box rfl rfl rfl ?_; intro _; refine w ?_))
  (first | refine VO.gT rfl rfl rfl (by rw [e0]; rfl) ?_ | refine VD.gT rfl rfl rfl (by rw [e0]; rfl) ?_)
  (refine w ?_; repeat ((first | refine VO.step rfl rfl ?_ | refine VD.end rfl rfl rfl ?_ | refine VD.mid rfl rfl rfl ?_); refine OpV.box rfl rfl rfl ?_; intro _; refine w ?_))
  (first | refine VO.gT rfl rfl rfl (by rw [e33]; rfl) ?_ | refine VD.gT rfl rfl rfl (by rw [e33]; rfl) ?_)
  (refine w ?_; repeat ((first | refine VO.step rfl rfl ?_ | refine VD.end rfl rfl rfl ?_ | refine VD.mid rfl rfl rfl ?_); refine OpV.box rfl rfl rfl ?_; intro _; refine w ?_))
  (first | refine VO.gT rfl rfl rfl (by rw [e44]; rfl) ?_ | refine VD.gT rfl rfl rfl (by rw [e44]; rfl) ?_)
  (refine w ?_; repeat ((first | refine VO.step rfl rfl ?_ | refine VD.end rfl rfl rfl ?_ | refine VD.mid rfl rfl rfl ?_); refine OpV.box rfl rfl rfl ?_; intro _; refine w ?_))
  ((first | refine VO.step rfl rfl ?_ | refine VD.end rfl rfl rfl ?_ | refine VD.mid rfl rfl rfl ?_); refine OpV.call rfl rfl (fun _ _ => by simp) (samesup_ok T U hfit hfit2 (hTr _ (by (focus repeat first | exact .head _ | apply List.Mem.tail))) (hUr _ (by (focus repeat first | exact .head _ | apply List.Mem.tail)))) Ent.refl rfl ?_)
  intro _ _
  rw [hUs]
  (refine w ?_; repeat ((first | refine VO.step rfl rfl ?_ | refine VD.end rfl rfl rfl ?_ | refine VD.mid rfl rfl rfl ?_); refine OpV.box rfl rfl rfl ?_; intro _; refine w ?_))
  ((first | refine VO.step rfl rfl ?_ | refine VD.end rfl rfl rfl ?_ | refine VD.mid rfl rfl rfl ?_); refine OpV.call rfl rfl (fun _ _ => by simp) (akin_ok T U hfit hfit2) Ent.refl rfl ?_)
  intro _ _
  rw [hUk]
  (refine w ?_; repeat ((first | refine VO.step rfl rfl ?_ | refine VD.end rfl rfl rfl ?_ | refine VD.mid rfl rfl rfl ?_); refine OpV.box rfl rfl rfl ?_; intro _; refine w ?_))
  (refine VE.done1 rfl ?_ ?_)
  · rfl
  · exact Ent.re
end Go.Proofs.Ytgkpdpoblofehaa
