/- Scan: one batch is read: the walk. -/
import Derived.Test.YtlojjlbngnaphaaNe
set_option maxRecDepth 8000
set_option linter.unusedVariables false
set_option linter.unusedSimpArgs false
set_option linter.unusedSectionVars false
namespace Go.Proofs.Ytlojjlbngnaphaa
open Go.RowKit Go.Sl
attribute [local irreducible] Own

theorem doesPre {W : World} {P : Program} {g : FuncId} {args : List Value} {H H' : List SProp} {β : Type} {A : β → Prop} {r : β → Value} {G : β → List SProp} (e : Ent W H H') (h : Does W P g args H' A r G) : Does W P g args H A r G := by
  unfold Does at h ⊢
  exact fun w hw => h w (e w hw)
/-- What lies in memory between the rounds. -/
structure BBl where
  n7 : Nat
  n8 : Nat
  n9 : Nat
  n10 : Nat
  n11 : Nat
  n12 : Nat
  n13 : Nat
  n14 : Nat
  n15 : Nat
  d : Nat
def bFix (room e s : Nat) (B : BBl) (R : List SProp) : List SProp :=
  Row B.n7 3 [.int .i64 room] :: Row B.n8 22 [.int .u64 e] :: Row B.n9 22 [.int .u64 s] :: Row B.n15 83 [.pointer (some ⟨B.d, 0, none⟩)] :: R
def bMov (sec : SecF) (s : Nat) (B : BBl) (i : Nat) (st : BSt) : List SProp :=
  [Row B.n12 25 [.int .u64 s, .slice st.x.1 st.pats.length st.x.2], Row B.n13 90 st.head.cells, Row B.n14 3 [.int .i64 st.cnt], DigR B.d (crcS (headsF sec ((i + 1) / 2))), PatsO st.x st.pats, PilP st.pats]
def bSt (sec : SecF) (room e s : Nat) (B : BBl) (i : Nat) : SProp := ex fun st : BSt => star (fact (BInv sec room e s i st) :: bMov sec s B i st)
theorem bSt_shut {W : World} {R : List SProp} {sec : SecF} {room e s i : Nat} {B : BBl} {st : BSt} (h : BInv sec room e s i st) : Ent W (bMov sec s B i st ++ R) (bSt sec room e s B i :: R) := fun w hw =>
  Holds.exShut st (Holds.nest (L := fact (BInv sec room e s i st) :: bMov sec s B i st) (Holds.factShut h hw))
theorem bSt_open {W w : World} {R : List SProp} {sec : SecF} {room e s i : Nat} {B : BBl} (h : Holds W (bSt sec room e s B i :: R) w) : ∃ st : { st : BSt // BInv sec room e s i st }, Holds W (bMov sec s B i st.1 ++ R) w := by
  obtain ⟨st, h1⟩ := h.exOpen
  have h2 : Holds W (fact (BInv sec room e s i st) :: (bMov sec s B i st ++ R)) w := h1.join
  exact ⟨⟨st, h2.factOpen⟩, h2.tail⟩
theorem bSt_start {W : World} {R : List SProp} {sec : SecF} {room e s : Nat} {B : BBl} :
    Ent W (Row B.n12 25 [.int .u64 s, .slice none 0 0] :: Row B.n13 90 zeroH.cells :: Row B.n14 3 [.int .i64 0] :: DigR B.d 0#32 :: R) (bSt sec room e s B 0 :: R) := fun w hw => by
  have h1 := (pile_nil (res := PatE.res) hw).ownNil 78 3
  refine bSt_shut (BInv.start sec room e s (none, 0)) w ?_
  have e1 : crcS (headsF sec ((0 + 1) / 2)) = 0#32 := crcM_nil _
  unfold bMov
  rw [e1]
  exact (Ent.re : Ent W _ _) w h1
def bRes (B : BBl) (t : TxnE) (ok : Bool) : List SProp := [Row B.n10 25 t.cells, Row B.n11 4 [.bool ok]]

theorem vfAbsurd {W : World} {n : Nat} {m : Md} {Q : Exit → Act → World → Prop} {e : Exit} {H : List SProp} {f : Fr} (h : ∀ w, Holds W H w → False) : VF W n m Q e H f := by
  unfold VF
  exact fun _ t w hk hw => (h w hw).elim

set_option maxHeartbeats 1000000 in
theorem batch_ok {W : World} {R : List SProp} {la : Addr} {cap n : Nat} {data : List UInt8} (hn : n ≤ 2048) (hcap : n * 128 ≤ cap) (at_ room e s : Nat) (ha : at_ < n) (hroom : room ≤ n) (he : e < 2 ^ 64) (hs : s < 2 ^ 64) (hd : data.length = n * 128) (hr : Rds W R 1 (some la) (n * 128) (bytes data)) (sec : SecF) (hsec : ∀ i, sec i = (data.drop ((at_ + i) % n * 128)).take 128) :
    Does W Try.prog 57 [.slice (some la) (n * 128) cap, .int .i64 at_, .int .i64 room, .int .u64 e, .int .u64 s] R (β := TxnE) (fun t => t.seq = s ∧ ∀ l, batM sec room e s = some l → t.pats.map PatE.D = l) (fun t => .tuple #[.agg t.cells.toArray, .bool (batM sec room e s).isSome]) (fun t => PatsO (t.ao, t.cap) t.pats :: PilP t.pats :: R) := by
  have hsl : ∀ i, (sec i).length = 128 := by
    intro i
    have hm : (at_ + i) % n < n := Nat.mod_lt _ (by omega)
    rw [hsec, List.length_take, List.length_drop, hd]; omega
  have hsr : ∀ i, Rds W R 1 (some (la.add ((at_ + i) % n * 128))) (sec i).length (bytes (sec i)) := by
    intro i
    have hm : (at_ + i) % n < n := Nat.mod_lt _ (by omega)
    have h1 := hr.sub (cap := cap) (l := (at_ + i) % n * 128) (h := (at_ + i) % n * 128 + 128) (by omega) (by omega) hcap
    rw [subA_some (by omega), Nat.add_sub_cancel_left, Nat.mul_one, Nat.mul_one] at h1
    rw [hsl i, hsec]
    have e1 : bytes ((data.drop ((at_ + i) % n * 128)).take 128) = ((bytes data).drop ((at_ + i) % n * 128)).take 128 := by simp [bytes, List.map_take, List.map_drop]
    rw [e1]; exact h1
  (refine Does.enterM Try.func57 Try.ntmps57 rfl rfl ?_)
  (refine wr ?_; repeat ((first | refine VO.step rfl rfl ?_ | refine VD.end rfl rfl rfl ?_ | refine VD.mid rfl rfl rfl ?_); refine OpV.box rfl rfl rfl ?_; intro _; refine wr ?_))
  rename_i n7 n8 n9
  ((first | refine VO.step rfl rfl ?_ | refine VD.end rfl rfl rfl ?_ | refine VD.mid rfl rfl rfl ?_); refine OpV.allocS sb_25 rfl ?_; intro n10)
  (refine wr ?_; repeat ((first | refine VO.step rfl rfl ?_ | refine VD.end rfl rfl rfl ?_ | refine VD.mid rfl rfl rfl ?_); refine OpV.box rfl rfl rfl ?_; intro _; refine wr ?_))
  ((first | refine VO.step rfl rfl ?_ | refine VD.end rfl rfl rfl ?_ | refine VD.mid rfl rfl rfl ?_); refine OpV.alloc (z := .bool false) (fun w => by simp) rfl rfl ?_; intro n11)
  (refine wr ?_; repeat ((first | refine VO.step rfl rfl ?_ | refine VD.end rfl rfl rfl ?_ | refine VD.mid rfl rfl rfl ?_); refine OpV.box rfl rfl rfl ?_; intro _; refine wr ?_))
  (apply VO.pure rfl rfl; apply PureAt.build sb_25 rfl; (simp [buildX, setL, Value.cells]; rfl); rfl)
  ((first | refine VO.step rfl rfl ?_ | refine VD.end rfl rfl rfl ?_ | refine VD.mid rfl rfl rfl ?_); refine OpV.allocS sb_25 rfl ?_; intro n12)
  (refine wr ?_; repeat ((first | refine VO.step rfl rfl ?_ | refine VD.end rfl rfl rfl ?_ | refine VD.mid rfl rfl rfl ?_); refine OpV.box rfl rfl rfl ?_; intro _; refine wr ?_))
  (first | refine VO.step rfl rfl ?_ | refine VD.end rfl rfl rfl ?_ | refine VD.mid rfl rfl rfl ?_)
  refine OpV.stA (vs := [.int .u64 s, .slice none 0 0]) tab_ok rfl rfl rfl rfl (by simp [Value.oneCell']) (by (repeat first | exact .head | apply Hole.tail)) (by simp) ?_
  (refine wr ?_; repeat ((first | refine VO.step rfl rfl ?_ | refine VD.end rfl rfl rfl ?_ | refine VD.mid rfl rfl rfl ?_); refine OpV.box rfl rfl rfl ?_; intro _; refine wr ?_))
  ((first | refine VO.step rfl rfl ?_ | refine VD.end rfl rfl rfl ?_ | refine VD.mid rfl rfl rfl ?_); refine OpV.allocS sb_90 rfl ?_; intro n13)
  (refine wr ?_; repeat ((first | refine VO.step rfl rfl ?_ | refine VD.end rfl rfl rfl ?_ | refine VD.mid rfl rfl rfl ?_); refine OpV.box rfl rfl rfl ?_; intro _; refine wr ?_))
  ((first | refine VO.step rfl rfl ?_ | refine VD.end rfl rfl rfl ?_ | refine VD.mid rfl rfl rfl ?_); refine OpV.alloc (z := .int .i64 0) (fun w => by simp) rfl rfl ?_; intro n14)
  (refine wr ?_; repeat ((first | refine VO.step rfl rfl ?_ | refine VD.end rfl rfl rfl ?_ | refine VD.mid rfl rfl rfl ?_); refine OpV.box rfl rfl rfl ?_; intro _; refine wr ?_))
  ((first | refine VO.step rfl rfl ?_ | refine VD.end rfl rfl rfl ?_ | refine VD.mid rfl rfl rfl ?_); refine OpV.call rfl rfl (fun _ _ => by simp) (dignew_ok) Ent.refl rfl ?_)
  intro d _
  (refine wr ?_; repeat ((first | refine VO.step rfl rfl ?_ | refine VD.end rfl rfl rfl ?_ | refine VD.mid rfl rfl rfl ?_); refine OpV.box rfl rfl rfl ?_; intro _; refine wr ?_))
  ((first | refine VO.step rfl rfl ?_ | refine VD.end rfl rfl rfl ?_ | refine VD.mid rfl rfl rfl ?_); refine OpV.alloc (z := .pointer none) (fun w => by simp) rfl rfl ?_; intro n15)
  (refine wr ?_; repeat ((first | refine VO.step rfl rfl ?_ | refine VD.end rfl rfl rfl ?_ | refine VD.mid rfl rfl rfl ?_); refine OpV.box rfl rfl rfl ?_; intro _; refine wr ?_))
  ((first | refine VO.step rfl rfl ?_ | refine VD.end rfl rfl rfl ?_ | refine VD.mid rfl rfl rfl ?_); refine OpV.call rfl rfl (fun _ _ => by simp) (from_ok at_) Ent.refl rfl ?_)
  rintro ⟨b1, b2⟩ -
  (refine wr ?_; repeat ((first | refine VO.step rfl rfl ?_ | refine VD.end rfl rfl rfl ?_ | refine VD.mid rfl rfl rfl ?_); refine OpV.box rfl rfl rfl ?_; intro _; refine wr ?_))
  refine VR.ent (H' := bSt sec room e s ⟨n7, n8, n9, n10, n11, n12, n13, n14, n15, d⟩ 0 :: Row b1 113 [.slice (some la) (n * 128) cap] :: Row b2 3 [.int .i64 at_] :: Row n10 25 [.int .u64 0, .slice none 0 0] :: Row n11 4 [.bool false] :: bFix room e s ⟨n7, n8, n9, n10, n11, n12, n13, n14, n15, d⟩ R) (Ent.trans ?_ (bSt_start (B := ⟨n7, n8, n9, n10, n11, n12, n13, n14, n15, d⟩))) ?_
  · unfold bFix; exact Ent.re
  refine VR.range (τ := TxnE) (gf := 93) (cap := #[.pointer (some ⟨b1, 0, none⟩), .pointer (some ⟨b2, 0, none⟩)]) (fun t => t.seq = s ∧ ∀ l, batM sec room e s = some l → t.pats.map PatE.D = l)
    (Row b1 113 [.slice (some la) (n * 128) cap] :: Row b2 3 [.int .i64 at_] :: bSt sec room e s (BBl.mk n7 n8 n9 n10 n11 n12 n13 n14 n15 d) n :: Row n10 25 [.int .u64 0, .slice none 0 0] :: Row n11 4 [.bool false] :: bFix room e s (BBl.mk n7 n8 n9 n10 n11 n12 n13 n14 n15 d) R)
    (fun t => bRes (BBl.mk n7 n8 n9 n10 n11 n12 n13 n14 n15 d) t (batM sec room e s).isSome ++ (PatsO (t.ao, t.cap) t.pats :: PilP t.pats :: R)) rfl rfl (fun _ _ => by simp) ?_ ?_ ?_
  · intro l D b h1 h2 h3 h4 h5 hk
    refine doesPre (H' := LoopR l b :: Row b1 113 [.slice (some la) (n * 128) cap] :: Row b2 3 [.int .i64 at_] :: At D (.deferred (some [])) :: bSt sec room e s (BBl.mk n7 n8 n9 n10 n11 n12 n13 n14 n15 d) 0 :: Row n10 25 [.int .u64 0, .slice none 0 0] :: Row n11 4 [.bool false] :: bFix room e s (BBl.mk n7 n8 n9 n10 n11 n12 n13 n14 n15 d) R) Ent.re ?_
    refine Does.mono (from1_ok hn hcap at_ ha l b1 b2 b (fun t : TxnE => t.seq = s ∧ ∀ l, batM sec room e s = some l → t.pats.map PatE.D = l)
      (fun i => At D (.deferred (some [])) :: bSt sec room e s (BBl.mk n7 n8 n9 n10 n11 n12 n13 n14 n15 d) i :: Row n10 25 [.int .u64 0, .slice none 0 0] :: Row n11 4 [.bool false] :: bFix room e s (BBl.mk n7 n8 n9 n10 n11 n12 n13 n14 n15 d) R)
      (fun t => At D (.deferred (some [])) :: (bRes (BBl.mk n7 n8 n9 n10 n11 n12 n13 n14 n15 d) t (batM sec room e s).isSome ++ (PatsO (t.ao, t.cap) t.pats :: PilP t.pats :: R))) ?_) id (fun _ h => h) (fun _ _ => rfl) ?_
    · intro i hi
      refine DoesR.body hk h1 h2 (by rw [h3]; rfl) (by rw [h3]; rfl) ?_
      rw [h3, h4, h5]
      (refine wr ?_; repeat ((first | refine VO.step rfl rfl ?_ | refine VD.end rfl rfl rfl ?_ | refine VD.mid rfl rfl rfl ?_); refine OpV.box rfl rfl rfl ?_; intro _; refine wr ?_))
      refine VF.begin (τ := Unit) (A2 := fun _ => True) (G2 := fun _ => []) (G1 := []) h1 ?_
      refine VR.ent (H' := bSt sec room e s (BBl.mk n7 n8 n9 n10 n11 n12 n13 n14 n15 d) i :: LoopR l (Loop.busy b) :: Row b1 113 [.slice (some la) (n * 128) cap] :: Row b2 3 [.int .i64 at_] :: At D (.deferred (some [])) :: Row n10 25 [.int .u64 0, .slice none 0 0] :: Row n11 4 [.bool false] :: bFix room e s (BBl.mk n7 n8 n9 n10 n11 n12 n13 n14 n15 d) R) Ent.re ?_
      refine VR.obtain (fun w hw => bSt_open hw) ?_
      rintro ⟨st, hI⟩
      obtain ⟨pats, x, hdr, cnt⟩ := st
      dsimp only [bMov, bFix, List.cons_append, List.nil_append]
      refine VR.re 17 (.slice (some (la.add ((at_ + i) % n * 128))) (sec i).length (cap - (at_ + i) % n * 128)) rfl (by rw [hsl i]) ?_
      (refine wr ?_; repeat ((first | refine VO.step rfl rfl ?_ | refine VD.end rfl rfl rfl ?_ | refine VD.mid rfl rfl rfl ?_); refine OpV.box rfl rfl rfl ?_; intro _; refine wr ?_))
      (refine VR.cond rfl rfl ?_ ?_ <;> intro hc)
      · have hz := bat_room0 hI (by have := hc; simp at this; omega)
        ((refine wr ?_; repeat ((first | refine VO.step rfl rfl ?_ | refine VD.end rfl rfl rfl ?_ | refine VD.mid rfl rfl rfl ?_); refine OpV.box rfl rfl rfl ?_; intro _; refine wr ?_)); (first | refine VO.step rfl rfl ?_ | refine VD.end rfl rfl rfl ?_ | refine VD.mid rfl rfl rfl ?_); refine OpV.stA (vs := [.int .u64 s, .slice x.1 pats.length x.2]) tab_ok rfl rfl rfl rfl (by simp [Value.oneCell']) (by (repeat first | exact .head | apply Hole.tail)) (by simp) ?_; (refine wr ?_; repeat ((first | refine VO.step rfl rfl ?_ | refine VD.end rfl rfl rfl ?_ | refine VD.mid rfl rfl rfl ?_); refine OpV.box rfl rfl rfl ?_; intro _; refine wr ?_)); refine VF.stop (⟨s, x.1, x.2, pats⟩ : TxnE) ⟨rfl, fun l hl => by rw [hz] at hl; cases hl⟩ ?_; rw [hz]; exact Ent.re)
      have hne : i ≠ room := by have := hc; simp at this; omega
      clear hc
      have hcb : 0 ≤ cnt ∧ cnt ≤ 1023 := by
        rcases Nat.eq_zero_or_pos i with h0 | h0
        · have := hI.zero h0; simp only at this; omega
        · have := hI.pos h0; simp only at this; omega
      have hmod : (at_ + i) % n < n := Nat.mod_lt _ (by omega)
      have hkc : (sec i).length ≤ cap - (at_ + i) % n * 128 := by rw [hsl]; omega
      refine VR.seq rfl ?_
      refine VR.joinH [(65, .bool (decide (0 < cnt ∧ (i : Int) = 2 * cnt))), (7, .pointer (some ⟨n7, 0, none⟩)), (8, .pointer (some ⟨n8, 0, none⟩)), (9, .pointer (some ⟨n9, 0, none⟩)), (10, .pointer (some ⟨n10, 0, none⟩)), (11, .pointer (some ⟨n11, 0, none⟩)), (12, .pointer (some ⟨n12, 0, none⟩)), (13, .pointer (some ⟨n13, 0, none⟩)), (14, .pointer (some ⟨n14, 0, none⟩)), (15, .pointer (some ⟨n15, 0, none⟩)), (16, .int .i64 i), (17, .slice (some (la.add ((at_ + i) % n * 128))) (sec i).length (cap - (at_ + i) % n * 128))] ?_ ?_
      · intro Q2 jn
        (refine wr ?_; repeat ((first | refine VO.step rfl rfl ?_ | refine VD.end rfl rfl rfl ?_ | refine VD.mid rfl rfl rfl ?_); refine OpV.box rfl rfl rfl ?_; intro _; refine wr ?_))
        ((first | refine VO.split rfl rfl rfl ?_ ?_ | refine VD.split rfl rfl rfl ?_ ?_) <;> intro hb)
        · (refine wr ?_; repeat ((first | refine VO.step rfl rfl ?_ | refine VD.end rfl rfl rfl ?_ | refine VD.mid rfl rfl rfl ?_); refine OpV.box rfl rfl rfl ?_; intro _; refine wr ?_))
          exact jn.to () trivial ⟨asV rfl (by have h0 : 0 < cnt := by simpa using hb
                                              congr 1; rw [Bool.eq_iff_iff]; simp [h0]), rfl, rfl, rfl, rfl, rfl, rfl, rfl, rfl, rfl, rfl, rfl, trivial⟩ Ent.re
        · (refine wr ?_; repeat ((first | refine VO.step rfl rfl ?_ | refine VD.end rfl rfl rfl ?_ | refine VD.mid rfl rfl rfl ?_); refine OpV.box rfl rfl rfl ?_; intro _; refine wr ?_))
          exact jn.to () trivial ⟨asV rfl (by have h0 : ¬ 0 < cnt := by simpa using hb
                                              congr 1; rw [Bool.eq_iff_iff]; simp [h0]), rfl, rfl, rfl, rfl, rfl, rfl, rfl, rfl, rfl, rfl, rfl, trivial⟩ Ent.re
      (refine wr ?_; repeat ((first | refine VO.step rfl rfl ?_ | refine VD.end rfl rfl rfl ?_ | refine VD.mid rfl rfl rfl ?_); refine OpV.box rfl rfl rfl ?_; intro _; refine wr ?_))
      (refine VR.cond rfl rfl ?_ ?_ <;> intro hc)
      · have hcc : 0 < cnt ∧ (i : Int) = 2 * cnt := by simpa using hc
        have hi0 : 0 < i := by omega
        have hcn := (hI.pos hi0).1
        (refine wr ?_; repeat ((first | refine VO.step rfl rfl ?_ | refine VD.end rfl rfl rfl ?_ | refine VD.mid rfl rfl rfl ?_); refine OpV.box rfl rfl rfl ?_; intro _; refine wr ?_))
        ((first | refine VO.step rfl rfl ?_ | refine VD.end rfl rfl rfl ?_ | refine VD.mid rfl rfl rfl ?_); refine OpV.call rfl rfl (fun _ _ => by simp) (decc_ok ((hsr i).ent Ent.re) hkc) Ent.refl rfl ?_)
        intro _ _
        (refine wr ?_; repeat ((first | refine VO.step rfl rfl ?_ | refine VD.end rfl rfl rfl ?_ | refine VD.mid rfl rfl rfl ?_); refine OpV.box rfl rfl rfl ?_; intro _; refine wr ?_))
        ((first | refine VO.step rfl rfl ?_ | refine VD.end rfl rfl rfl ?_ | refine VD.mid rfl rfl rfl ?_); refine OpV.allocS sb_95 rfl ?_; intro n18)
        (refine wr ?_; repeat ((first | refine VO.step rfl rfl ?_ | refine VD.end rfl rfl rfl ?_ | refine VD.mid rfl rfl rfl ?_); refine OpV.box rfl rfl rfl ?_; intro _; refine wr ?_))
        (first | refine VO.step rfl rfl ?_ | refine VD.end rfl rfl rfl ?_ | refine VD.mid rfl rfl rfl ?_)
        refine OpV.stA (vs := (CmtD.dec (sec i)).2.cells) tab_ok rfl rfl rfl rfl (by simp [Value.oneCell']) (by (repeat first | exact .head | apply Hole.tail)) (by simp) ?_
        (refine wr ?_; repeat ((first | refine VO.step rfl rfl ?_ | refine VD.end rfl rfl rfl ?_ | refine VD.mid rfl rfl rfl ?_); refine OpV.box rfl rfl rfl ?_; intro _; refine wr ?_))
        refine VR.ent (H' := DigR d (crcS (headsF sec ((i + 1) / 2))) :: Row n18 95 (CmtD.dec (sec i)).2.cells :: Row n12 25 [.int .u64 s, .slice x.1 pats.length x.2] :: Row n14 3 [.int .i64 cnt] :: PatsO x pats :: PilP pats :: LoopR l (Loop.busy b) :: Row b1 113 [.slice (some la) (n * 128) cap] :: Row b2 3 [.int .i64 at_] :: At D (.deferred (some [])) :: Row n10 25 [.int .u64 0, .slice none 0 0] :: Row n11 4 [.bool false] :: Row n8 22 [.int .u64 e] :: Row n9 22 [.int .u64 s] :: Row n15 83 [.pointer (some ⟨d, 0, none⟩)] :: R) Ent.re ?_
        (refine VR.drawn [9, 13] 14 [0, 1, 2, 3, 4, 5, 6, 7, 8, 9, 10, 11, 12, 13, 14] (DigR d (crcS (headsF sec ((i + 1) / 2))) :: Row n18 95 (CmtD.dec (sec i)).2.cells :: Row n12 25 [.int .u64 s, .slice x.1 pats.length x.2] :: Row n14 3 [.int .i64 cnt] :: Row n8 22 [.int .u64 e] :: Row n9 22 [.int .u64 s] :: Row n15 83 [.pointer (some ⟨d, 0, none⟩)] :: []) rfl (by kernel_rfl) (by kernel_rfl) Ent.re ?_)
        (refine wr ?_; repeat ((first | refine VO.step rfl rfl ?_ | refine VD.end rfl rfl rfl ?_ | refine VD.mid rfl rfl rfl ?_); refine OpV.box rfl rfl rfl ?_; intro _; refine wr ?_))
        obtain ⟨hok, hlist⟩ := bat_end hI hi0 (by rw [← hcn]; exact hcc.2)
        have hcf : (CmtD.dec (sec i)).2.fit := dec_fitC _
        have hio : (i + 1) / 2 = (batN sec).toNat := by rw [← hcn]; simp only; omega
        have hcq : (CmtD.mk e s cnt (crcS (headsF sec ((i + 1) / 2))).toNat).fit := ⟨he, hs, by simp only; omega, (crcS _).isLt⟩
        have hq : (batM sec room e s).isSome = decide (CmtD.dec (sec i) = (0, CmtD.mk e s cnt (crcS (headsF sec ((i + 1) / 2))).toNat)) := by rw [hok, hio, ← hcn]
        ((first | refine VO.split rfl rfl rfl ?_ ?_ | refine VD.split rfl rfl rfl ?_ ?_) <;> intro hb)
        · have h0 : (CmtD.dec (sec i)).1 = 0 := by simpa using hb
          (refine wr ?_; repeat ((first | refine VO.step rfl rfl ?_ | refine VD.end rfl rfl rfl ?_ | refine VD.mid rfl rfl rfl ?_); refine OpV.box rfl rfl rfl ?_; intro _; refine wr ?_))
          ((first | refine VO.step rfl rfl ?_ | refine VD.end rfl rfl rfl ?_ | refine VD.mid rfl rfl rfl ?_); refine OpV.call rfl rfl (fun _ _ => by simp) (digsum_ok d _) Ent.re rfl ?_)
          intro _ _
          refine ⟨Ent.re, ?_⟩
          (refine wr ?_; repeat ((first | refine VO.step rfl rfl ?_ | refine VD.end rfl rfl rfl ?_ | refine VD.mid rfl rfl rfl ?_); refine OpV.box rfl rfl rfl ?_; intro _; refine wr ?_))
          ((first | apply VO.pure rfl rfl | apply VD.take rfl rfl rfl | (refine VD.end rfl rfl rfl ?_; apply OpV.pure)); apply PureAt.build sb_95 rfl; (simp [buildX, setL, Value.cells]; rfl); rfl)
          (refine wr ?_; repeat ((first | refine VO.step rfl rfl ?_ | refine VD.end rfl rfl rfl ?_ | refine VD.mid rfl rfl rfl ?_); refine OpV.box rfl rfl rfl ?_; intro _; refine wr ?_))
          (first | refine VO.pure rfl rfl (cmt_eqN (a := (CmtD.dec (sec i)).2) (b := CmtD.mk e s cnt (crcS (headsF sec ((i + 1) / 2))).toNat) rfl rfl hcf hcq rfl) rfl ?_ | refine VD.take rfl rfl rfl (cmt_eqN (a := (CmtD.dec (sec i)).2) (b := CmtD.mk e s cnt (crcS (headsF sec ((i + 1) / 2))).toNat) rfl rfl hcf hcq rfl) rfl ?_ | refine VQ.pure rfl rfl (cmt_eqN (a := (CmtD.dec (sec i)).2) (b := CmtD.mk e s cnt (crcS (headsF sec ((i + 1) / 2))).toNat) rfl rfl hcf hcq rfl) rfl ?_ | refine VD.end rfl rfl rfl (OpV.pure (cmt_eqN (a := (CmtD.dec (sec i)).2) (b := CmtD.mk e s cnt (crcS (headsF sec ((i + 1) / 2))).toNat) rfl rfl hcf hcq rfl) rfl ?_))
          refine VD.re 90 (.bool (batM sec room e s).isSome) rfl (by
            rw [hq]; congr 1; rw [Bool.eq_iff_iff, decide_eq_true_iff, decide_eq_true_iff]
            constructor
            · intro q; rw [← h0, ← q]
            · intro q; rw [q]) ?_
          (refine wr ?_; repeat ((first | refine VO.step rfl rfl ?_ | refine VD.end rfl rfl rfl ?_ | refine VD.mid rfl rfl rfl ?_); refine OpV.box rfl rfl rfl ?_; intro _; refine wr ?_))
          refine VD.mid rfl rfl rfl ?_
          refine OpV.stA (vs := [.int .u64 s, .slice x.1 pats.length x.2]) tab_ok rfl rfl rfl rfl (by simp [Value.oneCell']) (by (repeat first | exact .head | apply Hole.tail)) (by simp) ?_
          refine ⟨Ent.re, ?_⟩
          (refine wr ?_; repeat ((first | refine VO.step rfl rfl ?_ | refine VD.end rfl rfl rfl ?_ | refine VD.mid rfl rfl rfl ?_); refine OpV.box rfl rfl rfl ?_; intro _; refine wr ?_))
          refine VF.stop (⟨s, x.1, x.2, pats⟩ : TxnE) ⟨rfl, hlist⟩ ?_
          exact Ent.re
        · have h0 : (CmtD.dec (sec i)).1 ≠ 0 := by simpa using hb
          have hq2 : (batM sec room e s).isSome = false := by rw [hq, decide_eq_false_iff_not]; intro q; rw [q] at h0; exact h0 rfl
          (refine wr ?_; repeat ((first | refine VO.step rfl rfl ?_ | refine VD.end rfl rfl rfl ?_ | refine VD.mid rfl rfl rfl ?_); refine OpV.box rfl rfl rfl ?_; intro _; refine wr ?_))
          refine VD.skipM rfl rfl Ent.re rfl rfl rfl ?_
          (refine wr ?_; repeat ((first | refine VO.step rfl rfl ?_ | refine VD.end rfl rfl rfl ?_ | refine VD.mid rfl rfl rfl ?_); refine OpV.box rfl rfl rfl ?_; intro _; refine wr ?_))
          refine VD.mid rfl rfl rfl ?_
          refine OpV.stA (vs := [.int .u64 s, .slice x.1 pats.length x.2]) tab_ok rfl rfl rfl rfl (by simp [Value.oneCell']) (by (repeat first | exact .head | apply Hole.tail)) (by simp) ?_
          refine ⟨Ent.re, ?_⟩
          (refine wr ?_; repeat ((first | refine VO.step rfl rfl ?_ | refine VD.end rfl rfl rfl ?_ | refine VD.mid rfl rfl rfl ?_); refine OpV.box rfl rfl rfl ?_; intro _; refine wr ?_))
          refine VF.stop (⟨s, x.1, x.2, pats⟩ : TxnE) ⟨rfl, hlist⟩ ?_
          rw [hq2]
          exact Ent.re
      have hnc : ¬ (0 < cnt ∧ (i : Int) = 2 * cnt) := by simpa using hc
      clear hc
      (refine wr ?_; repeat ((first | refine VO.step rfl rfl ?_ | refine VD.end rfl rfl rfl ?_ | refine VD.mid rfl rfl rfl ?_); refine OpV.box rfl rfl rfl ?_; intro _; refine wr ?_))
      (first | refine VO.pure rfl rfl (PureAt.rem (a := i) (b := 2) rfl rfl (by decide)) rfl ?_ | refine VD.take rfl rfl rfl (PureAt.rem (a := i) (b := 2) rfl rfl (by decide)) rfl ?_ | refine VQ.pure rfl rfl (PureAt.rem (a := i) (b := 2) rfl rfl (by decide)) rfl ?_ | refine VD.end rfl rfl rfl (OpV.pure (PureAt.rem (a := i) (b := 2) rfl rfl (by decide)) rfl ?_))
      (refine wr ?_; repeat ((first | refine VO.step rfl rfl ?_ | refine VD.end rfl rfl rfl ?_ | refine VD.mid rfl rfl rfl ?_); refine OpV.box rfl rfl rfl ?_; intro _; refine wr ?_))
      (refine VR.cond rfl rfl ?_ ?_ <;> intro hc)
      · obtain ⟨j, rfl⟩ : ∃ j, i = 2 * j := ⟨i / 2, by have := hc; simp at this; omega⟩
        clear hc
        have hn2 : 0 < 2 * j → 2 * j ≠ 2 * (batN sec).toNat := by
          intro h0 h3
          have h4 := hI.pos h0
          simp only at h4
          exact hnc ⟨by omega, by omega⟩
        have hNb : 0 ≤ batN sec ∧ batN sec ≤ 1023 := dec_countB _
        (refine wr ?_; repeat ((first | refine VO.step rfl rfl ?_ | refine VD.end rfl rfl rfl ?_ | refine VD.mid rfl rfl rfl ?_); refine OpV.box rfl rfl rfl ?_; intro _; refine wr ?_))
        ((first | refine VO.step rfl rfl ?_ | refine VD.end rfl rfl rfl ?_ | refine VD.mid rfl rfl rfl ?_); refine OpV.call rfl rfl (fun _ _ => by simp) (dech_ok ((hsr (2 * j)).ent Ent.re) hkc) Ent.refl rfl ?_)
        intro _ _
        (refine wr ?_; repeat ((first | refine VO.step rfl rfl ?_ | refine VD.end rfl rfl rfl ?_ | refine VD.mid rfl rfl rfl ?_); refine OpV.box rfl rfl rfl ?_; intro _; refine wr ?_))
        ((first | refine VO.step rfl rfl ?_ | refine VD.end rfl rfl rfl ?_ | refine VD.mid rfl rfl rfl ?_); refine OpV.allocS sb_90 rfl ?_; intro n20)
        (refine wr ?_; repeat ((first | refine VO.step rfl rfl ?_ | refine VD.end rfl rfl rfl ?_ | refine VD.mid rfl rfl rfl ?_); refine OpV.box rfl rfl rfl ?_; intro _; refine wr ?_))
        (first | refine VO.step rfl rfl ?_ | refine VD.end rfl rfl rfl ?_ | refine VD.mid rfl rfl rfl ?_)
        refine OpV.stA (vs := (HdrD.dec (sec (2 * j))).2.cells) tab_ok rfl rfl rfl rfl (by simp [Value.oneCell']) (by (repeat first | exact .head | apply Hole.tail)) (by simp) ?_
        (refine wr ?_; repeat ((first | refine VO.step rfl rfl ?_ | refine VD.end rfl rfl rfl ?_ | refine VD.mid rfl rfl rfl ?_); refine OpV.box rfl rfl rfl ?_; intro _; refine wr ?_))
        refine VR.join (α := Unit) (fun _ => True) (fun _ => Row n20 90 (HdrD.dec (sec (2 * j))).2.cells :: Row n12 25 [.int .u64 s, .slice x.1 pats.length x.2] :: Row n13 90 hdr.cells :: Row n14 3 [.int .i64 (batN sec)] :: DigR d (crcS (headsF sec ((2 * j + 1) / 2))) :: PatsO x pats :: PilP pats :: LoopR l (Loop.busy b) :: Row b1 113 [.slice (some la) (n * 128) cap] :: Row b2 3 [.int .i64 at_] :: At D (.deferred (some [])) :: Row n10 25 [.int .u64 0, .slice none 0 0] :: Row n11 4 [.bool false] :: Row n7 3 [.int .i64 room] :: Row n8 22 [.int .u64 e] :: Row n9 22 [.int .u64 s] :: Row n15 83 [.pointer (some ⟨d, 0, none⟩)] :: R) (fun _ => [(7, .pointer (some ⟨n7, 0, none⟩)), (8, .pointer (some ⟨n8, 0, none⟩)), (9, .pointer (some ⟨n9, 0, none⟩)), (10, .pointer (some ⟨n10, 0, none⟩)), (11, .pointer (some ⟨n11, 0, none⟩)), (12, .pointer (some ⟨n12, 0, none⟩)), (13, .pointer (some ⟨n13, 0, none⟩)), (14, .pointer (some ⟨n14, 0, none⟩)), (15, .pointer (some ⟨n15, 0, none⟩)), (16, .int .i64 ((2 * j : Nat) : Int)), (17, .slice (some (la.add ((at_ + 2 * j) % n * 128))) (sec (2 * j)).length (cap - (at_ + 2 * j) % n * 128)), (20, .pointer (some ⟨n20, 0, none⟩)), (21, .int .u16 (HdrD.dec (sec (2 * j))).1)]) ?_ (fun _ _ => ?_)
        · intro Q2 jn
          (refine VR.cond rfl rfl ?_ ?_ <;> intro hc)
          · have hj0 : j = 0 := by have := hc; simp at this; omega
            (refine wr ?_; repeat ((first | refine VO.step rfl rfl ?_ | refine VD.end rfl rfl rfl ?_ | refine VD.mid rfl rfl rfl ?_); refine OpV.box rfl rfl rfl ?_; intro _; refine wr ?_))
            refine jn.to () trivial ⟨rfl, rfl, rfl, rfl, rfl, rfl, rfl, rfl, rfl, rfl, rfl, rfl, rfl, trivial⟩ ?_
            rw [show batN sec = (HdrD.dec (sec (2 * j))).2.count by rw [hj0]; rfl]
            exact Ent.re
          · have hj0 : 0 < 2 * j := by have := hc; simp at this; omega
            (refine wr ?_; repeat ((first | refine VO.step rfl rfl ?_ | refine VD.end rfl rfl rfl ?_ | refine VD.mid rfl rfl rfl ?_); refine OpV.box rfl rfl rfl ?_; intro _; refine wr ?_))
            refine jn.to () trivial ⟨rfl, rfl, rfl, rfl, rfl, rfl, rfl, rfl, rfl, rfl, rfl, rfl, rfl, trivial⟩ ?_
            rw [← (hI.pos hj0).1]
            exact Ent.re
        (refine wr ?_; repeat ((first | refine VO.step rfl rfl ?_ | refine VD.end rfl rfl rfl ?_ | refine VD.mid rfl rfl rfl ?_); refine OpV.box rfl rfl rfl ?_; intro _; refine wr ?_))
        have bad : ∀ {p : Prop}, p → (p → ¬ (hdOk sec e s (batN sec) j ∧ 2 * batN sec + 1 ≤ room)) → batM sec room e s = none := fun hp h => bat_head0 hI rfl hn2 (h hp)
        ((first | refine VO.split rfl rfl rfl ?_ ?_ | refine VD.split rfl rfl rfl ?_ ?_) <;> intro hb)
        · have hz := bad hb (fun hb q => by have := hb; simp at this; exact this q.1.1)
          ((refine wr ?_; repeat ((first | refine VO.step rfl rfl ?_ | refine VD.end rfl rfl rfl ?_ | refine VD.mid rfl rfl rfl ?_); refine OpV.box rfl rfl rfl ?_; intro _; refine wr ?_)); (first | refine VO.step rfl rfl ?_ | refine VD.end rfl rfl rfl ?_ | refine VD.mid rfl rfl rfl ?_); refine OpV.stA (vs := [.int .u64 s, .slice x.1 pats.length x.2]) tab_ok rfl rfl rfl rfl (by simp [Value.oneCell']) (by (repeat first | exact .head | apply Hole.tail)) (by simp) ?_; (refine wr ?_; repeat ((first | refine VO.step rfl rfl ?_ | refine VD.end rfl rfl rfl ?_ | refine VD.mid rfl rfl rfl ?_); refine OpV.box rfl rfl rfl ?_; intro _; refine wr ?_)); refine VF.stop (⟨s, x.1, x.2, pats⟩ : TxnE) ⟨rfl, fun l hl => by rw [hz] at hl; cases hl⟩ ?_; rw [hz]; exact Ent.re)
        have g1 : (HdrD.dec (sec (2 * j))).1 = 0 := by simpa using hb
        clear hb
        (refine wr ?_; repeat ((first | refine VO.step rfl rfl ?_ | refine VD.end rfl rfl rfl ?_ | refine VD.mid rfl rfl rfl ?_); refine OpV.box rfl rfl rfl ?_; intro _; refine wr ?_))
        ((first | refine VO.split rfl rfl rfl ?_ ?_ | refine VD.split rfl rfl rfl ?_ ?_) <;> intro hb)
        · have hz := bad hb (fun hb q => by have := hb; simp at this; have := q.1.2.1; omega)
          ((refine wr ?_; repeat ((first | refine VO.step rfl rfl ?_ | refine VD.end rfl rfl rfl ?_ | refine VD.mid rfl rfl rfl ?_); refine OpV.box rfl rfl rfl ?_; intro _; refine wr ?_)); (first | refine VO.step rfl rfl ?_ | refine VD.end rfl rfl rfl ?_ | refine VD.mid rfl rfl rfl ?_); refine OpV.stA (vs := [.int .u64 s, .slice x.1 pats.length x.2]) tab_ok rfl rfl rfl rfl (by simp [Value.oneCell']) (by (repeat first | exact .head | apply Hole.tail)) (by simp) ?_; (refine wr ?_; repeat ((first | refine VO.step rfl rfl ?_ | refine VD.end rfl rfl rfl ?_ | refine VD.mid rfl rfl rfl ?_); refine OpV.box rfl rfl rfl ?_; intro _; refine wr ?_)); refine VF.stop (⟨s, x.1, x.2, pats⟩ : TxnE) ⟨rfl, fun l hl => by rw [hz] at hl; cases hl⟩ ?_; rw [hz]; exact Ent.re)
        have g2 : (HdrD.dec (sec (2 * j))).2.epoch = e := by have := hb; simp at this; omega
        clear hb
        (refine wr ?_; repeat ((first | refine VO.step rfl rfl ?_ | refine VD.end rfl rfl rfl ?_ | refine VD.mid rfl rfl rfl ?_); refine OpV.box rfl rfl rfl ?_; intro _; refine wr ?_))
        ((first | refine VO.split rfl rfl rfl ?_ ?_ | refine VD.split rfl rfl rfl ?_ ?_) <;> intro hb)
        · have hz := bad hb (fun hb q => by have := hb; simp at this; have := q.1.2.2.1; omega)
          ((refine wr ?_; repeat ((first | refine VO.step rfl rfl ?_ | refine VD.end rfl rfl rfl ?_ | refine VD.mid rfl rfl rfl ?_); refine OpV.box rfl rfl rfl ?_; intro _; refine wr ?_)); (first | refine VO.step rfl rfl ?_ | refine VD.end rfl rfl rfl ?_ | refine VD.mid rfl rfl rfl ?_); refine OpV.stA (vs := [.int .u64 s, .slice x.1 pats.length x.2]) tab_ok rfl rfl rfl rfl (by simp [Value.oneCell']) (by (repeat first | exact .head | apply Hole.tail)) (by simp) ?_; (refine wr ?_; repeat ((first | refine VO.step rfl rfl ?_ | refine VD.end rfl rfl rfl ?_ | refine VD.mid rfl rfl rfl ?_); refine OpV.box rfl rfl rfl ?_; intro _; refine wr ?_)); refine VF.stop (⟨s, x.1, x.2, pats⟩ : TxnE) ⟨rfl, fun l hl => by rw [hz] at hl; cases hl⟩ ?_; rw [hz]; exact Ent.re)
        have g3 : (HdrD.dec (sec (2 * j))).2.seq = s := by have := hb; simp at this; omega
        clear hb
        (refine wr ?_; repeat ((first | refine VO.step rfl rfl ?_ | refine VD.end rfl rfl rfl ?_ | refine VD.mid rfl rfl rfl ?_); refine OpV.box rfl rfl rfl ?_; intro _; refine wr ?_))
        (first | refine VO.pure rfl rfl (PureAt.quo (a := 2 * j) (b := 2) rfl rfl (by decide) (IntWalk.i64_in _ ⟨by omega, by omega⟩)) rfl ?_ | refine VD.take rfl rfl rfl (PureAt.quo (a := 2 * j) (b := 2) rfl rfl (by decide) (IntWalk.i64_in _ ⟨by omega, by omega⟩)) rfl ?_ | refine VQ.pure rfl rfl (PureAt.quo (a := 2 * j) (b := 2) rfl rfl (by decide) (IntWalk.i64_in _ ⟨by omega, by omega⟩)) rfl ?_ | refine VD.end rfl rfl rfl (OpV.pure (PureAt.quo (a := 2 * j) (b := 2) rfl rfl (by decide) (IntWalk.i64_in _ ⟨by omega, by omega⟩)) rfl ?_))
        (refine wr ?_; repeat ((first | refine VO.step rfl rfl ?_ | refine VD.end rfl rfl rfl ?_ | refine VD.mid rfl rfl rfl ?_); refine OpV.box rfl rfl rfl ?_; intro _; refine wr ?_))
        ((first | refine VO.split rfl rfl rfl ?_ ?_ | refine VD.split rfl rfl rfl ?_ ?_) <;> intro hb)
        · have hz := bad hb (fun hb q => by have := hb; simp at this; have := q.1.2.2.2.1; omega)
          ((refine wr ?_; repeat ((first | refine VO.step rfl rfl ?_ | refine VD.end rfl rfl rfl ?_ | refine VD.mid rfl rfl rfl ?_); refine OpV.box rfl rfl rfl ?_; intro _; refine wr ?_)); (first | refine VO.step rfl rfl ?_ | refine VD.end rfl rfl rfl ?_ | refine VD.mid rfl rfl rfl ?_); refine OpV.stA (vs := [.int .u64 s, .slice x.1 pats.length x.2]) tab_ok rfl rfl rfl rfl (by simp [Value.oneCell']) (by (repeat first | exact .head | apply Hole.tail)) (by simp) ?_; (refine wr ?_; repeat ((first | refine VO.step rfl rfl ?_ | refine VD.end rfl rfl rfl ?_ | refine VD.mid rfl rfl rfl ?_); refine OpV.box rfl rfl rfl ?_; intro _; refine wr ?_)); refine VF.stop (⟨s, x.1, x.2, pats⟩ : TxnE) ⟨rfl, fun l hl => by rw [hz] at hl; cases hl⟩ ?_; rw [hz]; exact Ent.re)
        have g4 : (HdrD.dec (sec (2 * j))).2.index = j := by have := hb; simp at this; omega
        clear hb
        (refine wr ?_; repeat ((first | refine VO.step rfl rfl ?_ | refine VD.end rfl rfl rfl ?_ | refine VD.mid rfl rfl rfl ?_); refine OpV.box rfl rfl rfl ?_; intro _; refine wr ?_))
        ((first | refine VO.split rfl rfl rfl ?_ ?_ | refine VD.split rfl rfl rfl ?_ ?_) <;> intro hb)
        · have hz := bad hb (fun hb q => by have := hb; simp at this; have := q.1.2.2.2.2; omega)
          ((refine wr ?_; repeat ((first | refine VO.step rfl rfl ?_ | refine VD.end rfl rfl rfl ?_ | refine VD.mid rfl rfl rfl ?_); refine OpV.box rfl rfl rfl ?_; intro _; refine wr ?_)); (first | refine VO.step rfl rfl ?_ | refine VD.end rfl rfl rfl ?_ | refine VD.mid rfl rfl rfl ?_); refine OpV.stA (vs := [.int .u64 s, .slice x.1 pats.length x.2]) tab_ok rfl rfl rfl rfl (by simp [Value.oneCell']) (by (repeat first | exact .head | apply Hole.tail)) (by simp) ?_; (refine wr ?_; repeat ((first | refine VO.step rfl rfl ?_ | refine VD.end rfl rfl rfl ?_ | refine VD.mid rfl rfl rfl ?_); refine OpV.box rfl rfl rfl ?_; intro _; refine wr ?_)); refine VF.stop (⟨s, x.1, x.2, pats⟩ : TxnE) ⟨rfl, fun l hl => by rw [hz] at hl; cases hl⟩ ?_; rw [hz]; exact Ent.re)
        have g5 : (HdrD.dec (sec (2 * j))).2.count = batN sec := by have := hb; simp at this; omega
        clear hb
        (refine wr ?_; repeat ((first | refine VO.step rfl rfl ?_ | refine VD.end rfl rfl rfl ?_ | refine VD.mid rfl rfl rfl ?_); refine OpV.box rfl rfl rfl ?_; intro _; refine wr ?_))
        (refine VR.cond rfl rfl ?_ ?_ <;> intro hc)
        · have hz := bad hc (fun hc q => by have := hc; simp at this; have := q.2; omega)
          ((refine wr ?_; repeat ((first | refine VO.step rfl rfl ?_ | refine VD.end rfl rfl rfl ?_ | refine VD.mid rfl rfl rfl ?_); refine OpV.box rfl rfl rfl ?_; intro _; refine wr ?_)); (first | refine VO.step rfl rfl ?_ | refine VD.end rfl rfl rfl ?_ | refine VD.mid rfl rfl rfl ?_); refine OpV.stA (vs := [.int .u64 s, .slice x.1 pats.length x.2]) tab_ok rfl rfl rfl rfl (by simp [Value.oneCell']) (by (repeat first | exact .head | apply Hole.tail)) (by simp) ?_; (refine wr ?_; repeat ((first | refine VO.step rfl rfl ?_ | refine VD.end rfl rfl rfl ?_ | refine VD.mid rfl rfl rfl ?_); refine OpV.box rfl rfl rfl ?_; intro _; refine wr ?_)); refine VF.stop (⟨s, x.1, x.2, pats⟩ : TxnE) ⟨rfl, fun l hl => by rw [hz] at hl; cases hl⟩ ?_; rw [hz]; exact Ent.re)
        have g6 : 2 * batN sec + 1 ≤ room := by have := hc; simp at this; omega
        clear hc
        (refine wr ?_; repeat ((first | refine VO.step rfl rfl ?_ | refine VD.end rfl rfl rfl ?_ | refine VD.mid rfl rfl rfl ?_); refine OpV.box rfl rfl rfl ?_; intro _; refine wr ?_))
        (first | refine VO.step rfl rfl ?_ | refine VD.end rfl rfl rfl ?_ | refine VD.mid rfl rfl rfl ?_)
        refine OpV.stA (vs := (HdrD.dec (sec (2 * j))).2.cells) tab_ok rfl rfl rfl rfl (by simp [Value.oneCell']) (by (repeat first | exact .head | apply Hole.tail)) (by simp) ?_
        (refine wr ?_; repeat ((first | refine VO.step rfl rfl ?_ | refine VD.end rfl rfl rfl ?_ | refine VD.mid rfl rfl rfl ?_); refine OpV.box rfl rfl rfl ?_; intro _; refine wr ?_))
        refine VO.ent (H' := DigR d (crcS (headsF sec ((2 * j + 1) / 2))) :: Row n12 25 [.int .u64 s, .slice x.1 pats.length x.2] :: Row n13 90 (HdrD.dec (sec (2 * j))).2.cells :: Row n14 3 [.int .i64 (batN sec)] :: PatsO x pats :: PilP pats :: LoopR l (Loop.busy b) :: Row b1 113 [.slice (some la) (n * 128) cap] :: Row b2 3 [.int .i64 at_] :: At D (.deferred (some [])) :: Row n10 25 [.int .u64 0, .slice none 0 0] :: Row n11 4 [.bool false] :: Row n7 3 [.int .i64 room] :: Row n8 22 [.int .u64 e] :: Row n9 22 [.int .u64 s] :: Row n15 83 [.pointer (some ⟨d, 0, none⟩)] :: R) Ent.re ?_
        ((first | refine VO.step rfl rfl ?_ | refine VD.end rfl rfl rfl ?_ | refine VD.mid rfl rfl rfl ?_); refine OpV.call rfl rfl (fun _ _ => by simp) (digadd_ok d (crcS (headsF sec ((2 * j + 1) / 2))) ((hsr (2 * j)).ent Ent.re) (by rw [hsl]; omega)) Ent.refl rfl ?_)
        intro _ _
        (refine wr ?_; repeat ((first | refine VO.step rfl rfl ?_ | refine VD.end rfl rfl rfl ?_ | refine VD.mid rfl rfl rfl ?_); refine OpV.box rfl rfl rfl ?_; intro _; refine wr ?_))
        have hdc := hdr_decO g1
        have h0' : (HdrD.dec (sec 0)).1 = 0 := by
          rcases Nat.eq_zero_or_pos j with q | q
          · rw [q] at g1; exact g1
          · exact (hI.pos (by omega)).2.2.2.1
        have hlt : (j : Int) < batN sec := by have := hdc.2.1.2.2.1; omega
        refine VF.on (τ := TxnE) h1 h2 ?_
        refine Ent.trans (Ent.trans (H' := bMov sec s (BBl.mk n7 n8 n9 n10 n11 n12 n13 n14 n15 d) (2 * j + 1) ⟨pats, x, (HdrD.dec (sec (2 * j))).2, batN sec⟩ ++ (LoopR l (Loop.busy b) :: Row b1 113 [.slice (some la) (n * 128) cap] :: Row b2 3 [.int .i64 at_] :: At D (.deferred (some [])) :: Row n10 25 [.int .u64 0, .slice none 0 0] :: Row n11 4 [.bool false] :: bFix room e s (BBl.mk n7 n8 n9 n10 n11 n12 n13 n14 n15 d) R)) ?_ (bSt_shut (hI.head_next rfl ⟨g1, g2, g3, g4, g5⟩ g6 hlt h0'))) Ent.re
        unfold bMov bFix
        dsimp only [List.cons_append, List.nil_append]
        rw [show crcM (crcS (headsF sec ((2 * j + 1) / 2))) (sec (2 * j)) = crcS (headsF sec ((2 * j + 1 + 1) / 2)) by
          rw [show (2 * j + 1) / 2 = j by omega, show (2 * j + 1 + 1) / 2 = j + 1 by omega]; exact (crcM_append _ _ _).symm]
        exact Ent.re
      obtain ⟨j, rfl⟩ : ∃ j, i = 2 * j + 1 := ⟨i / 2, by have := hc; simp at this; omega⟩
      clear hc
      obtain ⟨hok, hhd⟩ := hI.odd j rfl
      simp only at hhd
      subst hhd
      (refine wr ?_; repeat ((first | refine VO.step rfl rfl ?_ | refine VD.end rfl rfl rfl ?_ | refine VD.mid rfl rfl rfl ?_); refine OpV.box rfl rfl rfl ?_; intro _; refine wr ?_))
      ((first | refine VO.step rfl rfl ?_ | refine VD.end rfl rfl rfl ?_ | refine VD.mid rfl rfl rfl ?_); refine OpV.call rfl rfl (fun _ _ => by simp) (unesc_ok ((hsr (2 * j + 1)).ent Ent.re) hkc (HdrD.dec (sec (2 * j))).2.escaped) Ent.refl rfl ?_)
      rintro ⟨ua, uc⟩ -
      refine VO.know (p := ua = none → (unD (sec (2 * j + 1)) (HdrD.dec (sec (2 * j))).2.escaped).1.length = 0) (fun w hw => hw.ownNone (.head _)) ?_
      intro hun
      (refine wr ?_; repeat ((first | refine VO.step rfl rfl ?_ | refine VD.end rfl rfl rfl ?_ | refine VD.mid rfl rfl rfl ?_); refine OpV.box rfl rfl rfl ?_; intro _; refine wr ?_))
      have bad : ∀ {p : Prop}, p → (p → ¬ ((unD (sec (2 * j + 1)) (HdrD.dec (sec (2 * j))).2.escaped).2 = 0 ∧ (crcS (sec (2 * j + 1))).toNat = (HdrD.dec (sec (2 * j))).2.sum)) → batM sec room e s = none := fun hp h => bat_data0 hI rfl (h hp)
      refine VR.joinH [(47, .bool (decide (¬ ((unD (sec (2 * j + 1)) (HdrD.dec (sec (2 * j))).2.escaped).2 = 0 ∧ (crcS (sec (2 * j + 1))).toNat = (HdrD.dec (sec (2 * j))).2.sum)))), (7, .pointer (some ⟨n7, 0, none⟩)), (8, .pointer (some ⟨n8, 0, none⟩)), (9, .pointer (some ⟨n9, 0, none⟩)), (10, .pointer (some ⟨n10, 0, none⟩)), (11, .pointer (some ⟨n11, 0, none⟩)), (12, .pointer (some ⟨n12, 0, none⟩)), (13, .pointer (some ⟨n13, 0, none⟩)), (14, .pointer (some ⟨n14, 0, none⟩)), (15, .pointer (some ⟨n15, 0, none⟩)), (16, .int .i64 ((2 * j + 1 : Nat) : Int)), (22, .slice ua (unD (sec (2 * j + 1)) (HdrD.dec (sec (2 * j))).2.escaped).1.length uc)] ?_ ?_
      · intro Q2 jn
        (refine VR.drawn [4] 7 [0, 1, 2, 3, 5, 6, 4, 7, 8] _ rfl (by kernel_rfl) (by kernel_rfl) Ent.re ?_)
        (refine wr ?_; repeat ((first | refine VO.step rfl rfl ?_ | refine VD.end rfl rfl rfl ?_ | refine VD.mid rfl rfl rfl ?_); refine OpV.box rfl rfl rfl ?_; intro _; refine wr ?_))
        ((first | refine VO.split rfl rfl rfl ?_ ?_ | refine VD.split rfl rfl rfl ?_ ?_) <;> intro hb)
        · have h0 : (unD (sec (2 * j + 1)) (HdrD.dec (sec (2 * j))).2.escaped).2 ≠ 0 := by simpa using hb
          (refine wr ?_; repeat ((first | refine VO.step rfl rfl ?_ | refine VD.end rfl rfl rfl ?_ | refine VD.mid rfl rfl rfl ?_); refine OpV.box rfl rfl rfl ?_; intro _; refine wr ?_))
          exact jn.to () trivial ⟨asV rfl (by simp [h0]), rfl, rfl, rfl, rfl, rfl, rfl, rfl, rfl, rfl, rfl, rfl, trivial⟩ Ent.re
        · have h0 : (unD (sec (2 * j + 1)) (HdrD.dec (sec (2 * j))).2.escaped).2 = 0 := by simpa using hb
          (refine wr ?_; repeat ((first | refine VO.step rfl rfl ?_ | refine VD.end rfl rfl rfl ?_ | refine VD.mid rfl rfl rfl ?_); refine OpV.box rfl rfl rfl ?_; intro _; refine wr ?_))
          have hle : (sec (2 * j + 1)).length ≤ 1099511627776 := by rw [hsl]; omega
          ((first | refine VO.step rfl rfl ?_ | refine VD.end rfl rfl rfl ?_ | refine VD.mid rfl rfl rfl ?_); refine OpV.call rfl rfl (fun _ _ => by simp) (sum_ok ((hsr (2 * j + 1)).ent (Ent.drop (Ent.drop (Ent.drop (Ent.drop (Ent.drop (Ent.drop (Ent.drop (Ent.drop (Ent.drop (Ent.drop (Ent.drop (Ent.drop (Ent.drop (Ent.drop (Ent.drop (Ent.drop (Ent.drop Ent.refl)))))))))))))))))) hle) Ent.refl rfl ?_)
          intro _ _
          refine ⟨Ent.re, ?_⟩
          (refine wr ?_; repeat ((first | refine VO.step rfl rfl ?_ | refine VD.end rfl rfl rfl ?_ | refine VD.mid rfl rfl rfl ?_); refine OpV.box rfl rfl rfl ?_; intro _; refine wr ?_))
          exact jn.to () trivial ⟨asV rfl (by
            congr 1; rw [Bool.eq_iff_iff]; simp only [h0, true_and, decide_eq_true_iff, bne_iff_ne, ne_eq]
            constructor
            · intro q z; exact q (by rw [z])
            · intro q z; exact q (by omega)), rfl, rfl, rfl, rfl, rfl, rfl, rfl, rfl, rfl, rfl, rfl, trivial⟩ Ent.re
      (refine wr ?_; repeat ((first | refine VO.step rfl rfl ?_ | refine VD.end rfl rfl rfl ?_ | refine VD.mid rfl rfl rfl ?_); refine OpV.box rfl rfl rfl ?_; intro _; refine wr ?_))
      (refine VR.cond rfl rfl ?_ ?_ <;> intro hc)
      · have hz := bad hc (fun hc => of_decide_eq_true hc)
        ((refine wr ?_; repeat ((first | refine VO.step rfl rfl ?_ | refine VD.end rfl rfl rfl ?_ | refine VD.mid rfl rfl rfl ?_); refine OpV.box rfl rfl rfl ?_; intro _; refine wr ?_)); (first | refine VO.step rfl rfl ?_ | refine VD.end rfl rfl rfl ?_ | refine VD.mid rfl rfl rfl ?_); refine OpV.stA (vs := [.int .u64 s, .slice x.1 pats.length x.2]) tab_ok rfl rfl rfl rfl (by simp [Value.oneCell']) (by (repeat first | exact .head | apply Hole.tail)) (by simp) ?_; (refine wr ?_; repeat ((first | refine VO.step rfl rfl ?_ | refine VD.end rfl rfl rfl ?_ | refine VD.mid rfl rfl rfl ?_); refine OpV.box rfl rfl rfl ?_; intro _; refine wr ?_)); refine VF.stop (⟨s, x.1, x.2, pats⟩ : TxnE) ⟨rfl, fun l hl => by rw [hz] at hl; cases hl⟩ ?_; rw [hz]; exact Ent.re)
      have hgd : (unD (sec (2 * j + 1)) (HdrD.dec (sec (2 * j))).2.escaped).2 = 0 ∧ (crcS (sec (2 * j + 1))).toNat = (HdrD.dec (sec (2 * j))).2.sum := by have := hc; simp only [decide_eq_false_iff_not, Decidable.not_not] at this; exact this
      clear hc
      have hpl : pats.length = j := by
        have h5 := congrArg List.length hI.pats
        rw [List.length_map, List.length_map, List.length_range] at h5
        simp only at h5
        omega
      have hjN := (hI.pos (by omega)).2.2.2.2
      (refine wr ?_; repeat ((first | refine VO.step rfl rfl ?_ | refine VD.end rfl rfl rfl ?_ | refine VD.mid rfl rfl rfl ?_); refine OpV.box rfl rfl rfl ?_; intro _; refine wr ?_))
      ((first | apply VO.pure rfl rfl | apply VD.take rfl rfl rfl | (refine VD.end rfl rfl rfl ?_; apply OpV.pure)); apply PureAt.build sb_78 rfl; (simp [buildX, setL, Value.cells]; rfl); rfl)
      (first | refine VO.step rfl rfl ?_ | refine VD.end rfl rfl rfl ?_ | refine VD.mid rfl rfl rfl ?_)
      refine OpV.buildSlice (cs := PatE.cells ⟨(HdrD.dec (sec (2 * j))).2.member, (HdrD.dec (sec (2 * j))).2.row, ⟨ua, uc, (unD (sec (2 * j + 1)) (HdrD.dec (sec (2 * j))).2.escaped).1⟩⟩) st_23 rfl rfl (by simp [Value.cells]) rfl (by decide) rfl ?_
      intro nc
      (first | refine VO.step rfl rfl ?_ | refine VD.end rfl rfl rfl ?_ | refine VD.mid rfl rfl rfl ?_)
      refine OpV.appendRow st_23 rfl rfl (by (repeat first | exact .head | apply Hole.tail)) (by (focus repeat first | exact .head _ | apply List.Mem.tail)) rfl (pat_one _) (by simp only [maxLen]; omega) (by omega) rfl ?_
      intro so sc
      (refine wr ?_; repeat ((first | refine VO.step rfl rfl ?_ | refine VD.end rfl rfl rfl ?_ | refine VD.mid rfl rfl rfl ?_); refine OpV.box rfl rfl rfl ?_; intro _; refine wr ?_))
      refine VF.on (τ := TxnE) h1 h2 ?_
      refine Ent.trans (Ent.re (L := OwnB (ua, uc) (unD (sec (2 * j + 1)) (HdrD.dec (sec (2 * j))).2.escaped).1 :: PilP pats :: Row n12 25 [.int .u64 s, .slice so (pats.length + 1) sc] :: Row n13 90 (HdrD.dec (sec (2 * j))).2.cells :: Row n14 3 [.int .i64 cnt] :: DigR d (crcS (headsF sec ((2 * j + 1 + 1) / 2))) :: Sl.Own 78 3 (.slice so (pats.length + 1) sc) (pats.length + 1) (patCells pats ++ PatE.cells ⟨(HdrD.dec (sec (2 * j))).2.member, (HdrD.dec (sec (2 * j))).2.row, ⟨ua, uc, (unD (sec (2 * j + 1)) (HdrD.dec (sec (2 * j))).2.escaped).1⟩⟩) :: LoopR l (Loop.busy b) :: Row b1 113 [.slice (some la) (n * 128) cap] :: Row b2 3 [.int .i64 at_] :: At D (.deferred (some [])) :: Row n10 25 [.int .u64 0, .slice none 0 0] :: Row n11 4 [.bool false] ::  bFix room e s (BBl.mk n7 n8 n9 n10 n11 n12 n13 n14 n15 d) R)) ?_
      refine Ent.trans (fun w hw => pile_push (res := PatE.res) (a := (⟨(HdrD.dec (sec (2 * j))).2.member, (HdrD.dec (sec (2 * j))).2.row, ⟨ua, uc, (unD (sec (2 * j + 1)) (HdrD.dec (sec (2 * j))).2.escaped).1⟩⟩ : PatE)) hw) ?_
      have hp1 : PatsO (so, sc) (pats ++ [⟨(HdrD.dec (sec (2 * j))).2.member, (HdrD.dec (sec (2 * j))).2.row, ⟨ua, uc, (unD (sec (2 * j + 1)) (HdrD.dec (sec (2 * j))).2.escaped).1⟩⟩]) = Sl.Own 78 3 (.slice so (pats.length + 1) sc) (pats.length + 1) (patCells pats ++ PatE.cells ⟨(HdrD.dec (sec (2 * j))).2.member, (HdrD.dec (sec (2 * j))).2.row, ⟨ua, uc, (unD (sec (2 * j + 1)) (HdrD.dec (sec (2 * j))).2.escaped).1⟩⟩) := by
        show Sl.Own 78 3 (.slice so (pats ++ [(⟨(HdrD.dec (sec (2 * j))).2.member, (HdrD.dec (sec (2 * j))).2.row, ⟨ua, uc, (unD (sec (2 * j + 1)) (HdrD.dec (sec (2 * j))).2.escaped).1⟩⟩ : PatE)]).length sc) (pats ++ [(⟨(HdrD.dec (sec (2 * j))).2.member, (HdrD.dec (sec (2 * j))).2.row, ⟨ua, uc, (unD (sec (2 * j + 1)) (HdrD.dec (sec (2 * j))).2.escaped).1⟩⟩ : PatE)]).length (patCells (pats ++ [(⟨(HdrD.dec (sec (2 * j))).2.member, (HdrD.dec (sec (2 * j))).2.row, ⟨ua, uc, (unD (sec (2 * j + 1)) (HdrD.dec (sec (2 * j))).2.escaped).1⟩⟩ : PatE)])) = _
        rw [List.length_append, show patCells (pats ++ [(⟨(HdrD.dec (sec (2 * j))).2.member, (HdrD.dec (sec (2 * j))).2.row, ⟨ua, uc, (unD (sec (2 * j + 1)) (HdrD.dec (sec (2 * j))).2.escaped).1⟩⟩ : PatE)]) = patCells pats ++ PatE.cells ⟨(HdrD.dec (sec (2 * j))).2.member, (HdrD.dec (sec (2 * j))).2.row, ⟨ua, uc, (unD (sec (2 * j + 1)) (HdrD.dec (sec (2 * j))).2.escaped).1⟩⟩ by simp [patCells]]; rfl
      refine Ent.trans (Ent.trans (H' := bMov sec s (BBl.mk n7 n8 n9 n10 n11 n12 n13 n14 n15 d) (2 * j + 1 + 1) ⟨pats ++ [⟨(HdrD.dec (sec (2 * j))).2.member, (HdrD.dec (sec (2 * j))).2.row, ⟨ua, uc, (unD (sec (2 * j + 1)) (HdrD.dec (sec (2 * j))).2.escaped).1⟩⟩], (so, sc), (HdrD.dec (sec (2 * j))).2, cnt⟩ ++ (LoopR l (Loop.busy b) :: Row b1 113 [.slice (some la) (n * 128) cap] :: Row b2 3 [.int .i64 at_] :: At D (.deferred (some [])) :: Row n10 25 [.int .u64 0, .slice none 0 0] :: Row n11 4 [.bool false] ::  bFix room e s (BBl.mk n7 n8 n9 n10 n11 n12 n13 n14 n15 d) R)) ?_ (bSt_shut (hI.data_next rfl (so, sc) ⟨(HdrD.dec (sec (2 * j))).2.member, (HdrD.dec (sec (2 * j))).2.row, ⟨ua, uc, (unD (sec (2 * j + 1)) (HdrD.dec (sec (2 * j))).2.escaped).1⟩⟩ rfl hgd))) Ent.re
      unfold bMov bFix
      dsimp only [List.cons_append, List.nil_append]
      rw [hp1, List.length_append, show (2 * j + 1 + 1 + 1) / 2 = (2 * j + 1 + 1) / 2 by omega]
      exact Ent.re
    · rintro (_ | t) _
      · exact Ent.re
      · exact Ent.refl
  · intro D
    refine vfAbsurd fun w hw => ?_
    have h1 : Holds W (bSt sec room e s (BBl.mk n7 n8 n9 n10 n11 n12 n13 n14 n15 d) n :: At D (.deferred (some [])) :: []) w := (Ent.re : Ent W _ _) w hw
    obtain ⟨⟨st, hI⟩, _⟩ := bSt_open h1
    have := hI.pos (by omega)
    omega
  · intro D t ht
    (refine wr ?_; repeat ((first | refine VO.step rfl rfl ?_ | refine VD.end rfl rfl rfl ?_ | refine VD.mid rfl rfl rfl ?_); refine OpV.box rfl rfl rfl ?_; intro _; refine wr ?_))
    refine VF.results2 (.inl rfl) t rfl .head (ResIs.agg (vs := t.cells) tab_ok rfl rfl (by unfold bRes; (focus repeat first | exact .head _ | apply List.Mem.tail)) rfl rfl) (ResIs.leaf tab_ok rfl rfl (by unfold bRes; (focus repeat first | exact .head _ | apply List.Mem.tail)) rfl) ht rfl ?_
    unfold bRes
    exact Ent.re
end Go.Proofs.Ytlojjlbngnaphaa
