import Derived.Test.YtjebagmjcdaegaaGreatM9
/-! Text Gn. -/
set_option maxRecDepth 8000
set_option maxHeartbeats 16000000
set_option linter.unusedVariables false
set_option linter.unusedSimpArgs false
set_option linter.unusedSectionVars false
namespace Go.Proofs.YtjebagmjcdaegaaGreat
open Go.RowKit Go.Sl
attribute [local irreducible] Sl.Own
variable {W : World} {R : List SProp}
structure AsmS where
  a : Nat
  r : Nat
  X : ArrX
  Y : RwX
  fr : List Int
structure AsmY where
  e : Int
  s : Option AsmS
  D : BayD
structure AsmS.good (s : AsmS) (b : Nat) (sz : Nat -> Nat) (n : Nat) : Prop where
  X : s.X.ok
  r : s.X.r = some ⟨s.r, 0, none⟩
  Y : s.Y.ok
  m : s.Y.m = s.X.m
  c : s.Y.c = s.X.c
  b : s.Y.b = b
  fine : FineX s.Y s.fr sz n
  s : s.Y.s = s.X.s
structure AsmA (b : Nat) (sz : Nat -> Nat) (n c0 : Nat) (y : AsmY) : Prop where
  qt : Qt y.D sz n (c0 + 3000)
  none : y.s = none ↔ y.e ≠ 0
  good : ∀ s, y.s = some s -> s.good b sz n
def AsmG (b : Nat) (R : List SProp) (y : AsmY) : List SProp := y.s.elim (BayR b y.D :: R) fun s => Row s.a 75 s.X.cells :: RwO s.r s.Y s.fr (BayR b y.D :: R)
abbrev ArrX.rw (X : ArrX) (r : Nat) (w : Option Addr) : ArrX := { X with r := some ⟨r, 0, none⟩, w := w }
theorem ArrX.rw_ok {X : ArrX} (h : X.ok) (r : Nat) (w : Option Addr) : (X.rw r w).ok := ⟨h.m, h.c, h.s, h.st, h.vals, h.cur⟩
abbrev rwY (b : Nat) (X : ArrX) (w : Option Addr) (fa : Nat) : RwX := ⟨b, X.m, X.c, X.s, w, X.lazy, fa⟩
def WalB (b : Nat) (D : BayD) (v : WalD) : Option Nat -> SProp
  | none => BayR b D
  | some w => Sl.star [WalR w b v, BayR b D]
theorem WalB.bay {b : Nat} {D : BayD} {v : WalD} : ∀ {w : Option Nat}, Ent W (WalB b D v w :: R) (BayR b D :: R)
 | none => Ent.refl
 | some w => fun w' h => (show Holds W (WalR w b v :: BayR b D :: R) w' from h.join).tail
theorem assemble_ok {D : BayD} {sz : Nat -> Nat} {n c0 : Nat} (b : Nat) (hq : Qt D sz n c0) (hn : n <= 17) (hz : ∀ i, sz i <= 8192) (hc0 : c0 <= 10000) :
    Does W Tryz.prog 7 [.pointer (some ⟨b, 0, none⟩)] (BayR b D :: R) (β := AsmY) (AsmA b sz n c0) (fun y => .tuple #[.pointer (y.s.map fun s => ⟨s.a, 0, none⟩), .int .u16 y.e]) (AsmG b R) := by
  (refine Does.enterD Tryz.func7 Tryz.ntmps7 rfl rfl ?_)
  refine wr ?_; repeat (refine zq ?_; refine OpV.box rfl rfl rfl ?_; intro _; refine wr ?_)
  (refine zq ?_; refine OpV.alloc (z := (.int .u16 0)) (fun w => by simp) rfl rfl ?_; intro ne)
  refine wr ?_; repeat (refine zq ?_; refine OpV.box rfl rfl rfl ?_; intro _; refine wr ?_)
  ((refine zq ?_; refine zd rfl rfl (bayslots_ok b D) ?_); intro _ _)
  rw [hq.len]
  refine wr ?_; repeat (refine zq ?_; refine OpV.box rfl rfl rfl ?_; intro _; refine wr ?_)
  have fail : ∀ (e : Int) (D' : BayD), e ≠ 0 -> Qt D' sz n (c0 + 3000) -> AsmA b sz n c0 ⟨e, none, D'⟩ := fun e D' he hq' => ⟨hq', ⟨fun _ => he, fun _ => rfl⟩, fun s h => (by cases h)⟩
  (refine VR.cond rfl rfl ?_ ?_ <;> intro hc)
  · refine wr ?_; repeat (refine zq ?_; refine OpV.box rfl rfl rfl ?_; intro _; refine wr ?_)
    exact VF.leave0 (.inl rfl) ⟨1, none, D⟩ rfl (.tmp rfl) (ResIs.leaf tab_ok rfl rfl zm rfl) (fail 1 D (by decide) (hq.mono (by omega))) rfl Ent.re
  have h4 : 4 <= n := by have := of_decide_eq_false hc; omega
  clear hc
  refine wr ?_; repeat (refine zq ?_; refine OpV.box rfl rfl rfl ?_; intro _; refine wr ?_)
  (refine zq ?_; refine zd rfl rfl (ballots_ok (R := Row ne 25 [.int .u16 0] :: R) b hq hn hz) ?_)
  rintro ⟨l, x, D1⟩ ⟨hq1, hl, hb⟩
  dsimp only at hq1 hl hb
  refine wr ?_; repeat (refine zq ?_; refine OpV.box rfl rfl rfl ?_; intro _; refine wr ?_)
  refine VO.know (fun w hw => hw.ownNone (.head _)) ?_
  intro hxn
  have hbals : Bals W (BalsO x l :: pile StB l :: BayR b D1 :: Row ne 25 [.int .u16 0] :: R) x.1 l := ⟨Rds.own (fun u hu => by obtain ⟨b, _, h⟩ := List.mem_flatMap.1 hu; exact bal_one b u h) (.head _) (flat_length l fun _ _ => rfl) hxn, fun z hz => Rds.pile (.tail _ (.head _)) hz fun R hR => by
    obtain ⟨i, hi, rfl⟩ := List.getElem_of_mem hz
    exact Rds.own (bytes_one _) hR (by simp) (hb i hi).nil, fun z hz => by obtain ⟨i, hi, rfl⟩ := List.getElem_of_mem hz; exact (hb i hi).fit⟩
  have hch := choose_ok (W := W) (R := BalsO x l :: pile StB l :: BayR b D1 :: Row ne 25 [.int .u16 0] :: R) (cap := x.2) (by omega) hbals
  obtain ⟨q, hcm⟩ : ∃ q, chooseM l = q := ⟨_, rfl⟩
  rw [hcm] at hch
  obtain ⟨e, v⟩ := q
  (refine zq ?_; refine zd rfl rfl (hch) ?_)
  rintro ⟨vo, vc⟩ -
  refine wr ?_; repeat (refine zq ?_; refine OpV.box rfl rfl rfl ?_; intro _; refine wr ?_)
  refine zq ?_; refine OpV.allocS sb_69 rfl ?_; intro nv
  refine wr ?_; repeat (refine zq ?_; refine OpV.box rfl rfl rfl ?_; intro _; refine wr ?_)
  refine zq ?_
  refine OpV.stA (vs := [.int .u64 v.s.id, .int .u64 v.s.events, .int .u64 v.s.safe, .int .i64 v.s.role, .int .i64 v.s.members, .int .i64 v.s.chunk, .int .i64 v.s.stripes, .int .i64 v.s.ring, .bool v.s.lazy, .bool v.s.lost, .slice vo v.st.length vc, .int .i64 v.cur, .bool v.ch, .bool v.jr]) tab_ok rfl rfl rfl rfl (by simp [Value.oneCell']) zh (by simp) ?_
  refine wr ?_; repeat (refine zq ?_; refine OpV.box rfl rfl rfl ?_; intro _; refine wr ?_)
  (refine VR.cond rfl rfl ?_ ?_ <;> intro hc)
  · have he : e ≠ 0 := by simpa using hc
    clear hc
    refine wr ?_; repeat (refine zq ?_; refine OpV.box rfl rfl rfl ?_; intro _; refine wr ?_)
    refine VR.drawn [] 2 [0, 1, 2] _ rfl (by kernel_rfl) (by kernel_rfl) Ent.re ?_
    refine wr ?_; repeat (refine zq ?_; refine OpV.box rfl rfl rfl ?_; intro _; refine wr ?_)
    exact VF.leave0 (.inl rfl) ⟨e, none, D1⟩ rfl (.tmp rfl) (ResIs.leaf tab_ok rfl rfl zm rfl) (fail e D1 he (hq1.mono (by omega))) rfl Ent.re
  have he : e = 0 := by simpa using hc
  clear hc
  subst he
  have hC := chosen hcm
  have hC2 := chosen2 hcm
  have hst := hC.sts
  have hmem := hC.mem
  have hlen := hC.len
  have hchk := hC.chunk
  have hstr := hC.stripes
  have hcur := hC.cur
  have hring := hC.ring
  refine VR.know (p := vo = none -> v.st.length = 0) (fun w hw => hw.ownNone (.tail _ (.head _))) ?_
  intro hvo
  obtain ⟨so, rfl⟩ : ∃ y, vo = some y := by cases vo with | none => have := hvo rfl; omega | some y => exact ⟨y, rfl⟩
  refine VR.know (p := v.st.length <= vc) (fun w hw => hw.ownCap (.tail _ (.head _))) ?_
  intro hvc
  have ecell : [Value.int .u64 v.s.id, .int .u64 v.s.events, .int .u64 v.s.safe, .int .i64 v.s.role, .int .i64 v.s.members, .int .i64 v.s.chunk, .int .i64 v.s.stripes, .int .i64 v.s.ring, .bool v.s.lazy, .bool v.s.lost, .slice (some so) v.st.length vc, .int .i64 v.cur, .bool v.ch, .bool v.jr]
      = (arrO b v so vc none none v.jr).sup.cells ++ [.bool v.ch, .bool v.jr] := by
    simp only [arrO, ArrX.sup, SuperD.cells, Int.toNat_of_nonneg (show 0 <= v.s.members by omega), Int.toNat_of_nonneg (show 0 <= v.s.chunk by omega), Int.toNat_of_nonneg (show 0 <= v.s.stripes by omega), Int.toNat_of_nonneg (show 0 <= v.s.ring by omega), Int.toNat_of_nonneg hcur.1, List.cons_append, List.nil_append]
  obtain ⟨X, hXd⟩ : ∃ X, X = arrO b v so vc none none v.jr := ⟨_, rfl⟩
  rw [<- hXd] at ecell
  have hX : X.ok := hXd ▸ arr_ok hC
  refine VR.ent (H' := Row nv 69 (X.sup.cells ++ [.bool v.ch, .bool v.jr]) :: StO X :: BayR b D1 :: Row ne 25 [.int .u16 0] :: R) ?_ ?_
  · rw [<- ecell, hXd]; exact Ent.re
  refine wr ?_; repeat (refine zq ?_; refine OpV.box rfl rfl rfl ?_; intro _; refine wr ?_)
  ((first | apply VO.pure rfl rfl | apply VQ.pure rfl rfl | apply VD.take rfl rfl rfl | (refine VD.end rfl rfl rfl ?_; apply OpV.pure)); exact PureAt.build sb_75 rfl (show buildX _ _ _ = some X.cells by subst hXd; simp [buildX, setL, Value.cells]); rfl)
  refine zq ?_
  refine OpV.box (cs := X.cells) rfl (by simp [Value.cells]) rfl ?_
  intro a
  refine wr ?_; repeat (refine zq ?_; refine OpV.box rfl rfl rfl ?_; intro _; refine wr ?_)
  (refine zq ?_; refine OpV.alloc (z := (.pointer none)) (fun w => by simp) rfl rfl ?_; intro nx)
  refine wr ?_; repeat (refine zq ?_; refine OpV.box rfl rfl rfl ?_; intro _; refine wr ?_)
  have hro : X.ro = !v.jr := by rw [hXd]
  have hXb : X.b = b := by rw [hXd]
  have hXr : X.r = none := by rw [hXd]
  have hXw : X.w = none := by rw [hXd]
  have hnm : n = X.m + 1 := by rw [hXd]; dsimp only; omega
  have hfine : ∀ (w' : Option Addr) (fa : Nat), FineX (rwY b X w' fa) (frOf X) sz n := fun w' fa => by rw [hXd]; exact arr_fine hC hl hb fa w'
  cases hj : v.jr with
  | false =>
    rw [hj] at hro
    (refine VR.condTe rfl rfl (hro) ?_)
    refine VR.ent (H' := Row a 75 X.cells :: Row nx 29 [.pointer (some ⟨a, 0, none⟩)] :: StO X :: BayR b D1 :: Row ne 25 [.int .u16 0] :: R) Ent.re ?_
    refine wr ?_; repeat (refine zq ?_; refine OpV.box rfl rfl rfl ?_; intro _; refine wr ?_)
    refine VR.plain (VC.drawnL (levS (Row a 75 X.cells) (Row nx 29 [.pointer (some ⟨a, 0, none⟩)] :: StO X :: BayR b D1 :: R)) [12, 18, 19] [(18, 1), (19, 1)] [(6, 0), (11, 0)] 1 [0, 1, 2, 3, 4, 5, 6, 7, 8, 9, 10, 11, 12, 13, 14, 15, 16, 17, 18, 19] rfl (by kernel_rfl) (by kernel_rfl) Ent.re (levS_step _ _) ?_)
    (iterate 6 (apply VL.take rfl rfl rfl 1 rfl; (exact zp); rfl))
    (apply VL.take rfl rfl rfl 0 rfl; (exact zp); rfl)
    (iterate 4 (apply VL.take rfl rfl rfl 1 rfl; (exact zp); rfl))
    (apply VL.take rfl rfl rfl 0 rfl; (exact zp); rfl)
    refine VL.mid rfl rfl rfl 0 rfl ?_
    refine zd rfl rfl (rnew_ok (R := Row a 75 X.cells :: Row nx 29 [.pointer (some ⟨a, 0, none⟩)] :: StO X :: Row ne 25 [.int .u16 0] :: R) (D := D1) b hX.m hX.c hX.s (hq1.len.trans hnm) none X.lazy) ?_
    rintro ⟨r, fa⟩ -
    refine ⟨Ent.re, ?_⟩
    (iterate 5 (apply VL.take rfl rfl rfl 1 rfl; (exact zp); rfl))
    refine VL.mid rfl rfl rfl 1 rfl ?_
    (apply OpV.st tab_ok rfl rfl rfl rfl (by (repeat first | exact .head | apply Hole.tail); first | done | fail) (by first | (simp; done) | fail))
    refine ⟨Ent.re, ?_⟩
    refine VL.mid rfl rfl rfl 1 rfl ?_
    (apply OpV.st tab_ok rfl rfl rfl rfl (by (repeat first | exact .head | apply Hole.tail); first | done | fail) (by first | (simp; done) | fail))
    refine ⟨Ent.re, ?_⟩
    refine VL.nil ?_
    refine VE.ent (H' := Row a 75 (X.rw r none).cells :: StO X :: RwO r (rwY b X none fa) (List.replicate X.m (-1)) (BayR b D1 :: Row nx 29 [.pointer (some ⟨a, 0, none⟩)] :: Row ne 25 [.int .u16 0] :: R)) (by rw [show (X.rw r none).cells = X.cells.set 13 (.pointer (some ⟨r, 0, none⟩)) by simp [ArrX.cells, hXw]]; exact Ent.re) ?_
    refine wr ?_; repeat (refine zq ?_; refine OpV.box rfl rfl rfl ?_; intro _; refine wr ?_)
    ((refine zq ?_; refine zd rfl rfl (amark_ok a r (X.rw r none) (ArrX.rw_ok hX r none) (rwY b X none fa) rfl rfl (List.replicate X.m (-1)) (List.length_replicate ..)) ?_); intro _ _)
    refine wr ?_; repeat (refine zq ?_; refine OpV.box rfl rfl rfl ?_; intro _; refine wr ?_)
    exact VF.leave0 (.inl rfl) ⟨0, some ⟨a, r, (X.rw r none), (rwY b X none fa), frOf X⟩, D1⟩ rfl (.tmp rfl) (ResIs.leaf tab_ok rfl rfl zm rfl) ⟨hq1.mono (by omega), by simp, fun s h => by cases h; exact ⟨ArrX.rw_ok hX r none, rfl, ⟨hX.m, hX.c, hX.s⟩, rfl, rfl, rfl, hfine _ _, rfl⟩⟩ rfl Ent.re
  | true =>
    rw [hj] at hro
    (refine VR.condFe rfl rfl (hro) ?_)
    refine VR.ent (H' := Row a 75 X.cells :: Row nx 29 [.pointer (some ⟨a, 0, none⟩)] :: StO X :: BayR b D1 :: Row ne 25 [.int .u16 0] :: R) Ent.re ?_
    refine wr ?_; repeat (refine zq ?_; refine OpV.box rfl rfl rfl ?_; intro _; refine wr ?_)
    refine VR.plain (VC.drawnX [2, 8, 13, 14] 16 13 [0, 1, 3, 4, 5, 6, 7, 2, 8, 9, 10, 11, 12, 13, 14, 15, 16] (Row a 75 X.cells :: Row nx 29 [.pointer (some ⟨a, 0, none⟩)] :: StO X :: R) 7 (fun b => Row b 73 [.pointer none]) (fun b => .pointer (some ⟨b, 0, none⟩)) rfl (by kernel_rfl) (by kernel_rfl) Ent.re ?_)
    (repeat (apply VX.take rfl rfl rfl rfl; (exact zp); rfl; rfl; rfl))
    refine VX.callM (K := Row a 75 X.cells) (S := fun _ : Unit => [Row a 75 X.cells]) (H' := Row nx 29 [.pointer (some ⟨a, 0, none⟩)] :: StO X :: BayR b D1 :: Row ne 25 [.int .u16 0] :: R) rfl rfl rfl rfl rfl rfl (fun _ _ => by simp) (fun R => ajournal_ok a X) (by (repeat first | exact .refl | (apply Reord.cons; focus repeat first | exact .head | apply Del.tail) | exact .nil | apply Reord.drop)) rfl (FloatX.allocZ (z := .pointer none) (fun w => by simp) rfl rfl) Ent.re (fun _ _ => Ent.re) rfl rfl rfl ?_
    intro _ _
    have hopen := fun R => walopen_ok (W := W) (R := R) (D := D1) b (X.m : Int) (X.ring : Int)
    have hq2 := hq1.wOpen (X.m : Int) (X.ring : Int)
    have hsome := wOpen_some (D := D1) (slot := (X.m : Int)) (places := (X.ring : Int))
    have hnew := fun v => wOpen_new (D := D1) (slot := (X.m : Int)) (places := (X.ring : Int)) (v := v)
    have hokk := fun v => wOpen_okk (D := D1) (X.m : Int) (X.ring : Int) (fun v hv => (hq1.dev hv).1.ok) (v := v)
    have hin := fun ts => open_in (D := D1) (slot := (X.m : Int)) (places := (X.ring : Int)) (ts := ts)
    have hfew := fun ts => open_few (D := D1) (slot := (X.m : Int)) (places := (X.ring : Int)) (ts := ts)
    generalize wOpen D1 (X.m : Int) (X.ring : Int) = o at *
    obtain ⟨⟨⟨ov, ot⟩, oe⟩, D2⟩ := o
    dsimp only at hopen hq2 hsome hokk hin hfew hnew
    refine VX.callM (K := BayR b D1) (S := fun y : OpnE => [TxnsO y.x y.ts, PilT y.ts, WalB b D2 (ov.getD (fresh0 0 0 0)) y.w]) (H' := Row a 75 X.cells :: Row nx 29 [.pointer (some ⟨a, 0, none⟩)] :: StO X :: Row ne 25 [.int .u16 0] :: R) rfl rfl rfl rfl rfl rfl (fun _ _ => by simp)
      (fun R => Does.mono (hopen R) (fun y => y) (fun _ h => h) (fun _ _ => rfl) (fun y _ => by
        obtain ⟨w, x, ts⟩ := y
        cases w with
        | none => exact Ent.refl
        | some w => exact fun w' h => ((show Holds W (WalR w b (ov.getD (fresh0 0 0 0)) :: BayR b D2 :: TxnsO x ts :: PilT ts :: R) w' from (Ent.re : Ent W _ _) w' h).nest (L := [WalR w b (ov.getD (fresh0 0 0 0)), BayR b D2])).perm (List.perm_middle (l₁ := [TxnsO x ts, PilT ts])).symm)) (by (repeat first | exact .refl | (apply Reord.cons; focus repeat first | exact .head | apply Del.tail) | exact .nil | apply Reord.drop)) rfl (FloatX.allocZ (z := .pointer none) (fun w => by simp) rfl rfl) Ent.re (fun y _ => Ent.re) rfl rfl rfl ?_
    rintro ⟨w, y, ts⟩ ⟨hw, hts⟩
    dsimp only at hw hts
    (repeat (apply VX.take rfl rfl rfl rfl; (exact zp); rfl; rfl; rfl))
    refine VX.float rfl rfl (FloatX.allocZ (z := .pointer none) (fun w => by simp) rfl rfl) Ent.re ?_
    intro nw
    refine wr ?_; repeat (refine zq ?_; refine OpV.box rfl rfl rfl ?_; intro _; refine wr ?_)
    refine VR.ent (H' := WalB b D2 (ov.getD (fresh0 0 0 0)) w :: TxnsO y ts :: PilT ts :: Row nw 73 [.pointer (w.map fun w => ⟨w, 0, none⟩)] :: Row a 75 X.cells :: Row nx 29 [.pointer (some ⟨a, 0, none⟩)] :: StO X :: Row ne 25 [.int .u16 oe] :: R) Ent.re ?_
    (refine VR.cond rfl rfl ?_ ?_ <;> intro hc)
    · have h50 : oe = 50 := by simpa using hc
      clear hc
      refine wr ?_; repeat (refine zq ?_; refine OpV.box rfl rfl rfl ?_; intro _; refine wr ?_)
      refine VR.drawn [] 2 [0, 1, 2] _ rfl (by kernel_rfl) (by kernel_rfl) Ent.re ?_
      refine wr ?_; repeat (refine zq ?_; refine OpV.box rfl rfl rfl ?_; intro _; refine wr ?_)
      exact VF.leave0 (.inl rfl) ⟨oe, none, D2⟩ rfl (.tmp rfl) (ResIs.leaf tab_ok rfl rfl zm rfl) (fail oe D2 (by omega) (hq2.mono (by omega))) rfl (Ent.trans Ent.re WalB.bay)
    clear hc
    refine wr ?_; repeat (refine zq ?_; refine OpV.box rfl rfl rfl ?_; intro _; refine wr ?_)
    (refine VR.cond rfl rfl ?_ ?_ <;> intro hc)
    · clear hc
      refine wr ?_; repeat (refine zq ?_; refine OpV.box rfl rfl rfl ?_; intro _; refine wr ?_)
      exact VF.leave0 (.inl rfl) ⟨153, none, D2⟩ rfl (.tmp rfl) (ResIs.leaf tab_ok rfl rfl zm rfl) (fail 153 D2 (by decide) (hq2.mono (by omega))) rfl (Ent.trans (Ent.re (L := WalB b D2 (ov.getD (fresh0 0 0 0)) w :: R)) WalB.bay)
    have he0 : oe = 0 := by simpa using hc
    clear hc
    subst he0
    obtain ⟨vj, rfl⟩ : ∃ x, ov = some x := Option.isSome_iff_exists.1 (hsome rfl)
    obtain ⟨w, rfl⟩ : ∃ x, w = some x := Option.isSome_iff_exists.1 hw
    obtain ⟨hvo, hvs⟩ := hokk vj rfl
    obtain ⟨hvb, hvu⟩ := hnew vj rfl
    have hin := hin ts hts
    obtain ⟨hf1, hf2, hf3⟩ := hfew ts hts
    refine VR.ent (H' := WalR w b vj :: BayR b D2 :: TxnsO y ts :: PilT ts :: Row nw 73 [.pointer (some ⟨w, 0, none⟩)] :: Row a 75 X.cells :: Row nx 29 [.pointer (some ⟨a, 0, none⟩)] :: StO X :: Row ne 25 [.int .u16 0] :: R) (fun w' h => h.join) ?_
    refine VR.know (p := y.1 = none -> ts.length = 0) (fun w' h => h.ownNone (.tail _ (.tail _ (.head _)))) ?_
    intro hyn
    refine VR.know (p := ∀ t ∈ ts, t.ok) (fun w' h => PilT.know h.tail.tail.tail) ?_
    intro htok
    refine wr ?_; repeat (refine zq ?_; refine OpV.box rfl rfl rfl ?_; intro _; refine wr ?_)
    (refine zq ?_; refine zy rfl rfl (liftnew_ok (r := 0) (by decide)) ?_)
    intro up _
    refine wr ?_; repeat (refine zq ?_; refine OpV.box rfl rfl rfl ?_; intro _; refine wr ?_)
    have hRT : ∀ H : List SProp, TxnsO y ts ∈ H -> PilT ts ∈ H -> RdTxns W H y.1 ts := fun H m1 m2 => RdTxns.own hyn htok m1 m2
    have hstep : ∀ i (h : i < ts.length), (eT (ts.take (i + 1))).length = (eT (ts.take i)).length + ts[i].pats.length := fun i h => by
      rw [List.take_succ_eq_append_getElem h, eT, List.flatMap_append, List.length_append]
      congr 1
      simp [eP]
    have htake : ∀ i, (eT (ts.take i)).length <= 2048 := fun i => by
      have e : (eT ts).length = (eT (ts.take i)).length + (eT (ts.drop i)).length := by rw [<- List.length_append, eT, eT, eT, <- List.flatMap_append, List.take_append_drop]
      omega
    have h4 : X.s * X.c <= 256 * 16 := Nat.mul_le_mul hX.s.2 hX.c.2
    have hXm := hX.m
    refine VR.loop (α := Nat × List PatE) (fun q => q.1 <= ts.length /\ q.2.length <= (eT (ts.take q.1)).length /\ ∀ p ∈ q.2, p.Of (rwY b X none 0)) (fun q => LiftR up 0 q.2 :: WalR w b vj :: BayR b D2 :: TxnsO y ts :: PilT ts :: Row nw 73 [.pointer (some ⟨w, 0, none⟩)] :: Row a 75 X.cells :: Row nx 29 [.pointer (some ⟨a, 0, none⟩)] :: StO X :: Row ne 25 [.int .u16 0] :: R)
      (fun q => [(0, .pointer (some ⟨b, 0, none⟩)), (2, .pointer none), (3, .pointer (some ⟨ne, 0, none⟩)), (6, .pointer (some ⟨nx, 0, none⟩)), (7, .pointer (some ⟨nw, 0, none⟩)), (9, .pointer (some ⟨up, 0, none⟩)), (100, .slice y.1 ts.length y.2), (101, .int .i64 ts.length), (102, .int .i64 q.1)]) (fun q => ts.length - q.1) rfl (0, []) ⟨Nat.zero_le _, Nat.zero_le _, fun p h => absurd h List.not_mem_nil⟩ Ent.re ⟨rfl, rfl, rfl, rfl, rfl, rfl, rfl, rfl, rfl, trivial⟩ ?_
    rintro ⟨i, ps⟩ ⟨hi, hps, hall⟩
    dsimp only at hi hps hall
    refine wr ?_; repeat (refine zq ?_; refine OpV.box rfl rfl rfl ?_; intro _; refine wr ?_)
    (refine VR.cond rfl rfl ?_ ?_ <;> intro hc)
    · have hlt : i < ts.length := by have := of_decide_eq_true hc; omega
      clear hc
      obtain ⟨ta, hta⟩ : ∃ x, y.1 = some x := by cases h : y.1 with | none => have := hyn h; omega | some x => exact ⟨x, rfl⟩
      have hRA := fun H m1 m2 => (hRT H m1 m2).rds
      rw [hta] at hRA
      refine VR.re 100 (.slice (some ta) ts.length y.2) rfl (by rw [hta]) ?_
      refine wr ?_; repeat (refine zq ?_; refine OpV.box rfl rfl rfl ?_; intro _; refine wr ?_)
      ((first | apply VO.pure rfl rfl | apply VQ.pure rfl rfl | apply VD.take rfl rfl rfl | (refine VD.end rfl rfl rfl ?_; apply OpV.pure)); exact PureAt.ldRA tab_ok rfl rfl (hRA _ zm zm) (flat_part ts i hlt (fun _ _ => rfl)) rfl; rfl)
      refine wr ?_; repeat (refine zq ?_; refine OpV.box rfl rfl rfl ?_; intro _; refine wr ?_)
      refine zq ?_; refine OpV.allocS sb_86 rfl ?_; intro n12
      refine wr ?_; repeat (refine zq ?_; refine OpV.box rfl rfl rfl ?_; intro _; refine wr ?_)
      refine zq ?_
      refine OpV.stA (vs := ts[i].cells) tab_ok rfl rfl rfl rfl (txn_one _) zh (by simp) ?_
      refine wr ?_; repeat (refine zq ?_; refine OpV.box rfl rfl rfl ?_; intro _; refine wr ?_)
      have htR : ∀ H : List SProp, TxnsO y ts ∈ H -> PilT ts ∈ H -> RdPats W H ts[i].ao ts[i].pats := fun H m1 m2 => (hRT H m1 m2).each _ (List.getElem_mem hlt)
      have hPin := hin _ (List.getElem_mem hlt)
      have hst1 := hstep i hlt
      have htk := htake (i + 1)
      generalize ts[i] = t at *
      refine VR.loop (α := Nat × List PatE) (fun q => q.1 <= t.pats.length /\ q.2.length <= (eT (ts.take i)).length + q.1 /\ ∀ p ∈ q.2, p.Of (rwY b X none 0)) (fun q => LiftR up 0 q.2 :: WalR w b vj :: BayR b D2 :: TxnsO y ts :: PilT ts :: Row nw 73 [.pointer (some ⟨w, 0, none⟩)] :: Row a 75 X.cells :: Row nx 29 [.pointer (some ⟨a, 0, none⟩)] :: StO X :: Row ne 25 [.int .u16 0] :: R)
        (fun q => [(0, .pointer (some ⟨b, 0, none⟩)), (2, .pointer none), (3, .pointer (some ⟨ne, 0, none⟩)), (6, .pointer (some ⟨nx, 0, none⟩)), (7, .pointer (some ⟨nw, 0, none⟩)), (9, .pointer (some ⟨up, 0, none⟩)), (100, .slice y.1 ts.length y.2), (101, .int .i64 ts.length), (102, .int .i64 i), (107, .slice t.ao t.pats.length t.cap), (108, .int .i64 t.pats.length), (109, .int .i64 q.1)]) (fun q => t.pats.length - q.1) rfl (0, ps) ⟨Nat.zero_le _, hps, hall⟩ Ent.re ⟨rfl, rfl, rfl, rfl, rfl, rfl, asV rfl (by rw [hta]), rfl, rfl, rfl, rfl, rfl, trivial⟩ ?_
      clear hps hall
      rintro ⟨j, ps⟩ ⟨hj2, hps, hall⟩
      dsimp only at hj2 hps hall
      refine wr ?_; repeat (refine zq ?_; refine OpV.box rfl rfl rfl ?_; intro _; refine wr ?_)
      (refine VR.cond rfl rfl ?_ ?_ <;> intro hc)
      · have hlj : j < t.pats.length := by have := of_decide_eq_true hc; omega
        clear hc
        have htR2 := fun H m1 m2 => (htR H m1 m2).rds
        obtain ⟨tb, htb⟩ : ∃ x, t.ao = some x := by cases h : t.ao with | none => (have := (htR [TxnsO y ts, PilT ts] (by simp) (by simp)).rds.nil h; omega) | some x => exact ⟨x, rfl⟩
        rw [htb] at htR2
        refine VR.re 107 (.slice (some tb) t.pats.length t.cap) rfl (by rw [htb]) ?_
        refine wr ?_; repeat (refine zq ?_; refine OpV.box rfl rfl rfl ?_; intro _; refine wr ?_)
        ((first | apply VO.pure rfl rfl | apply VQ.pure rfl rfl | apply VD.take rfl rfl rfl | (refine VD.end rfl rfl rfl ?_; apply OpV.pure)); exact PureAt.ldRA tab_ok rfl rfl (htR2 _ zm zm) (pat_at t.pats j hlj) rfl; rfl)
        refine wr ?_; repeat (refine zq ?_; refine OpV.box rfl rfl rfl ?_; intro _; refine wr ?_)
        refine zq ?_; refine OpV.allocS sb_88 rfl ?_; intro n14
        refine wr ?_; repeat (refine zq ?_; refine OpV.box rfl rfl rfl ?_; intro _; refine wr ?_)
        refine zq ?_
        refine OpV.stA (vs := t.pats[j].cells) tab_ok rfl rfl rfl rfl (pat_one _) zh (by simp) ?_
        refine wr ?_; repeat (refine zq ?_; refine OpV.box rfl rfl rfl ?_; intro _; refine wr ?_)
        have hpi := hPin _ (List.getElem_mem hlj)
        have hpr : ∀ H : List SProp, TxnsO y ts ∈ H -> PilT ts ∈ H -> Rds W H 1 t.pats[j].d.ao t.pats[j].d.data.length (bytes t.pats[j].d.data) := fun H m1 m2 => (htR H m1 m2).each _ (List.getElem_mem hlj)
        generalize t.pats[j] = p at *
        have hprow : p.row < 9223372036854775807 := by have := hpi.r; omega
        refine VR.drawn [9] 16 [0, 1, 2, 3, 4, 5, 6, 7, 8, 9, 10, 11, 12, 13, 14, 15, 16] _ rfl (by kernel_rfl) (by kernel_rfl) Ent.re ?_
        refine wr ?_; repeat (refine zq ?_; refine OpV.box rfl rfl rfl ?_; intro _; refine wr ?_)
        (refine zq ?_; refine zy rfl rfl (gat_ok hX.m hX.c hX.s p.member p.row hprow) ?_)
        rintro ⟨gi, gb⟩ -
        refine ⟨Ent.re, ?_⟩
        refine wr ?_; repeat (refine zq ?_; refine OpV.box rfl rfl rfl ?_; intro _; refine wr ?_)
        by_cases hg : (0 <= p.member /\ p.member < X.m) /\ 0 <= p.row /\ p.row < ((X.s * X.c : Nat) : Int)
        rotate_left
        · (refine VR.condTe rfl rfl (by rw [if_neg hg]; rfl) ?_)
          refine wr ?_; repeat (refine zq ?_; refine OpV.box rfl rfl rfl ?_; intro _; refine wr ?_)
          exact VF.leave0 (.inl rfl) ⟨153, none, D2⟩ rfl (.tmp rfl) (ResIs.leaf tab_ok rfl rfl zm rfl) (fail 153 D2 (by decide) (hq2.mono (by omega))) rfl (Ent.re (L := BayR b D2 :: R))
        (refine VR.condFe rfl rfl (by rw [if_pos hg]; rfl) ?_)
        refine wr ?_; repeat (refine zq ?_; refine OpV.box rfl rfl rfl ?_; intro _; refine wr ?_)
        have hput := liftput_ok (W := W) (R := Row n14 88 p.cells :: WalR w b vj :: BayR b D2 :: TxnsO y ts :: PilT ts :: Row nw 73 [.pointer (some ⟨w, 0, none⟩)] :: Row a 75 X.cells :: Row nx 29 [.pointer (some ⟨a, 0, none⟩)] :: StO X :: Row ne 25 [.int .u16 0] :: R) (b := up) (r := 0) (ps := ps) (p := p) hpi (hpr _ zm zm) (by omega)
        (refine zq ?_; refine zd rfl rfl (hput) ?_)
        intro z _
        refine wr ?_; repeat (refine zq ?_; refine OpV.box rfl rfl rfl ?_; intro _; refine wr ?_)
        refine VF.round (j + 1, putL ps ⟨p.member, p.row, ⟨z.1, z.2, p.d.data⟩⟩) ⟨hlj, ?_, fun q hq' => ?_⟩ (by dsimp only; omega) ⟨rfl, rfl, rfl, rfl, rfl, rfl, asV rfl (by rw [hta]), rfl, rfl, asV rfl (by rw [htb]), rfl, asV rfl (by congr 1), trivial⟩ Ent.re
        · dsimp only
          have := List.length_filter_le (fun x : PatE => decide (x.place ≠ PatE.place ⟨p.member, p.row, ⟨z.1, z.2, p.d.data⟩⟩)) ps
          unfold putL
          rw [List.length_append, List.length_singleton]; omega
        · rcases List.mem_append.1 hq' with h | h
          · exact hall q (List.mem_filter.1 h).1
          · rw [List.mem_singleton.1 h]; exact ⟨hg.1, hg.2, hpi.n⟩
      have hje : j = t.pats.length := by have := of_decide_eq_false hc; omega
      clear hc
      refine wr ?_; repeat (refine zq ?_; refine OpV.box rfl rfl rfl ?_; intro _; refine wr ?_)
      exact VF.round (i + 1, ps) ⟨hlt, by dsimp only; omega, hall⟩ (by dsimp only; omega) ⟨rfl, rfl, rfl, rfl, rfl, rfl, asV rfl (by rw [hta]), rfl, asV rfl (by congr 1), trivial⟩ Ent.re
    have hie : i = ts.length := by have := of_decide_eq_false hc; omega
    clear hc
    have hpl := htake i
    refine VR.ent (H' := LiftR up 0 ps :: WalR w b vj :: BayR b D2 :: Row nw 73 [.pointer (some ⟨w, 0, none⟩)] :: Row a 75 X.cells :: Row nx 29 [.pointer (some ⟨a, 0, none⟩)] :: StO X :: Row ne 25 [.int .u16 0] :: R) Ent.re ?_
    refine wr ?_; repeat (refine zq ?_; refine OpV.box rfl rfl rfl ?_; intro _; refine wr ?_)
    obtain ⟨Xw, hXwd⟩ : ∃ Z : ArrX, Z = { X with w := some ⟨w, 0, none⟩ } := ⟨_, rfl⟩
    refine VR.ent (H' := Row a 75 Xw.cells :: BayR b D2 :: LiftR up 0 ps :: WalR w b vj :: Row nw 73 [.pointer (some ⟨w, 0, none⟩)] :: Row nx 29 [.pointer (some ⟨a, 0, none⟩)] :: StO X :: Row ne 25 [.int .u16 0] :: R) (by rw [hXwd]; exact Ent.re) ?_
    refine VR.plain (VC.drawnL (levS (Row a 75 Xw.cells) (BayR b D2 :: LiftR up 0 ps :: WalR w b vj :: Row nw 73 [.pointer (some ⟨w, 0, none⟩)] :: Row nx 29 [.pointer (some ⟨a, 0, none⟩)] :: StO X :: R)) [13, 19, 20] [(19, 1), (20, 1)] [(6, 0), (12, 0)] 1 [0, 1, 2, 3, 4, 5, 6, 7, 8, 9, 10, 11, 12, 13, 14, 15, 16, 17, 18, 19, 20] rfl (by kernel_rfl) (by kernel_rfl) Ent.re (levS_step _ _) ?_)
    (iterate 6 (apply VL.take rfl rfl rfl 1 rfl; (exact zp); rfl))
    (apply VL.take rfl rfl rfl 0 rfl; (exact zp); rfl)
    (iterate 5 (apply VL.take rfl rfl rfl 1 rfl; (exact zp); rfl))
    (apply VL.take rfl rfl rfl 0 rfl; (exact zp); rfl)
    refine VL.mid rfl rfl rfl 0 rfl ?_
    refine zd rfl rfl (rnew_ok (R := Row a 75 Xw.cells :: LiftR up 0 ps :: WalR w b vj :: Row nw 73 [.pointer (some ⟨w, 0, none⟩)] :: Row nx 29 [.pointer (some ⟨a, 0, none⟩)] :: StO X :: Row ne 25 [.int .u16 0] :: R) (D := D2) b (m := Xw.m) (c := Xw.c) (s := Xw.s) (by rw [hXwd]; exact hX.m) (by rw [hXwd]; exact hX.c) (by rw [hXwd]; exact hX.s) (hq2.len.trans (by rw [hXwd]; exact hnm)) (some ⟨w, 0, none⟩) Xw.lazy) ?_
    rintro ⟨r, fa⟩ -
    refine ⟨Ent.re, ?_⟩
    (iterate 5 (apply VL.take rfl rfl rfl 1 rfl; (exact zp); rfl))
    refine VL.mid rfl rfl rfl 1 rfl ?_
    (apply OpV.st tab_ok rfl rfl rfl rfl (by (repeat first | exact .head | apply Hole.tail); first | done | fail) (by first | (simp; done) | fail))
    refine ⟨Ent.re, ?_⟩
    refine VL.mid rfl rfl rfl 1 rfl ?_
    (apply OpV.st tab_ok rfl rfl rfl rfl (by (repeat first | exact .head | apply Hole.tail); first | done | fail) (by first | (simp; done) | fail))
    refine ⟨Ent.re, ?_⟩
    refine VL.nil ?_
    obtain ⟨Y, hY⟩ : ∃ Y : ArrX, Y = X.rw r (some ⟨w, 0, none⟩) := ⟨_, rfl⟩
    obtain ⟨Z, hZ⟩ : ∃ Z : RwX, Z = rwY b X (some ⟨w, 0, none⟩) fa := ⟨_, rfl⟩
    refine VE.ent (H' := Row a 75 Y.cells :: RwO r Z (List.replicate X.m (-1)) (BayR b D2 :: LiftR up 0 ps :: WalR w b vj :: Row nw 73 [.pointer (some ⟨w, 0, none⟩)] :: Row nx 29 [.pointer (some ⟨a, 0, none⟩)] :: StO Y :: Row ne 25 [.int .u16 0] :: R)) (by rw [hY, hZ, hXwd]; exact Ent.re) ?_
    refine wr ?_; repeat (refine zq ?_; refine OpV.box rfl rfl rfl ?_; intro _; refine wr ?_)
    (refine VR.cond rfl rfl ?_ ?_ <;> intro hc)
    · refine wr ?_; repeat (refine zq ?_; refine OpV.box rfl rfl rfl ?_; intro _; refine wr ?_)
      exact VF.leave0 (.inl rfl) ⟨70, none, D2⟩ rfl (.tmp rfl) (ResIs.leaf tab_ok rfl rfl zm rfl) (fail 70 D2 (by decide) (hq2.mono (by omega))) rfl (Ent.re (L := BayR b D2 :: R))
    have hev : Y.ev < 4611686018427387904 := by have := of_decide_eq_false hc; omega
    clear hc
    have hYok : Y.ok := by rw [hY]; exact ArrX.rw_ok hX _ _
    have hZok : Z.ok := by rw [hZ]; exact ⟨hX.m, hX.c, hX.s⟩
    have hYro : Y.ro = false := by rw [hY]; exact hro
    have hYr : Y.r = some ⟨r, 0, none⟩ := by rw [hY]
    have hYb : Y.b = b := by rw [hY]; exact hXb
    have hZb : Z.b = b := by rw [hZ]
    have hYm : Y.m = X.m := by rw [hY]
    have hZm : Z.m = Y.m := by rw [hZ, hY]
    have hZc : Z.c = Y.c := by rw [hZ, hY]
    have hZs : Z.s = Y.s := by rw [hZ, hY]
    have hFZ : FineX Z (frOf Y) sz n := by rw [hZ, hY]; exact hfine _ _
    have hL : Loudly Y sz n := by
      rw [hY] at hev ⊢
      rw [hXd] at hev ⊢
      exact arr_loud hC hC2 hl hb hj hev hvc
    have hfl : (frOf Y).length = Y.m := by rw [hFZ.len, hZm]
    have hjz : 7 <= sz X.m := by have := arr_jr hC hl hb hj; rw [show X.m = n - 1 by omega]; exact this
    have hall : ∀ p ∈ ps, p.Of Z := fun p hp => by rw [hZ]; exact ⟨(hall p hp).m, (hall p hp).r, (hall p hp).n⟩
    refine wr ?_; repeat (refine zq ?_; refine OpV.box rfl rfl rfl ?_; intro _; refine wr ?_)
    refine VR.deferOnly rfl rfl rfl rfl ?_
    refine wr ?_; repeat (refine zq ?_; refine OpV.box rfl rfl rfl ?_; intro _; refine wr ?_)
    ((refine zq ?_; refine zd rfl rfl (amark_ok a r Y hYok Z hYr hZm (List.replicate X.m (-1)) (by rw [List.length_replicate, hYm])) ?_); intro _ _)
    refine wr ?_; repeat (refine zq ?_; refine OpV.box rfl rfl rfl ?_; intro _; refine wr ?_)
    (refine zq ?_; refine zd rfl rfl (liftall_ok (R := Row a 75 Y.cells :: RwO r Z (frOf Y) (BayR b D2 :: Row nx 29 [.pointer (some ⟨a, 0, none⟩)] :: WalR w b vj :: Row nw 73 [.pointer (some ⟨w, 0, none⟩)] :: StO Y :: Row ne 25 [.int .u16 0] :: R)) (b := up) (r := 0) (ps := ps) (by omega)) ?_)
    rintro ⟨⟨po, pc⟩, l2, r2⟩ hT
    dsimp only at hT
    have hl2 : l2.length <= 2048 := by have := hT.length; omega
    have hin2 : ∀ p ∈ l2, p.Of Z := fun p hp => hall p (hT.mem.1 p hp)
    refine wr ?_; repeat (refine zq ?_; refine OpV.box rfl rfl rfl ?_; intro _; refine wr ?_)
    (refine zq ?_; refine OpV.alloc (z := (.slice none 0 0)) (fun w => by simp) rfl rfl ?_; intro n18)
    refine wr ?_; repeat (refine zq ?_; refine OpV.box rfl rfl rfl ?_; intro _; refine wr ?_)
    refine VO.know (p := po = none -> l2.length = 0) (fun w' h => h.ownNone (.tail _ (.head _))) ?_
    intro hpn
    refine VO.know (p := ∀ p ∈ l2, p.d.ok) (fun w' h => PilP.know h.tail.tail) ?_
    intro hpok
    have hann := announce_ok (W := W) (R := Row nx 29 [.pointer (some ⟨a, 0, none⟩)] :: Row n18 84 [.slice po l2.length pc] :: PatsO (po, pc) l2 :: PilP l2 :: WalR w b vj :: Row nw 73 [.pointer (some ⟨w, 0, none⟩)] :: Row ne 25 [.int .u16 0] :: R) a r Y Z hL hYro hYr hZm (frOf Y) hfl hq2 (by omega)
    rw [hYb] at hann
    (refine zq ?_; refine zd rfl rfl (hann) ?_)
    intro D3 hq3
    obtain ⟨T, hTd⟩ : ∃ T, T = Y.told := ⟨_, rfl⟩
    have hTr : T.r = some ⟨r, 0, none⟩ := by rw [hTd]; exact hYr
    have hTb : T.b = b := by rw [hTd]; exact hYb
    have hTm : T.m = X.m := by rw [hTd]; exact hYm
    rw [<- hTd]
    have h1 := asm1_ok (W := W) (R := PatsO (po, pc) l2 :: PilP l2 :: WalR w b vj :: Row nw 73 [.pointer (some ⟨w, 0, none⟩)] :: StO Y :: Row ne 25 [.int .u16 0] :: R) (cap := pc) nx n18 a r T hTr Z hZok (frOf Y) hFZ hq3 l2 (RdPats.own (x := (po, pc)) hpn hpok (.head _) (.tail _ (.head _))) hin2 (by omega) (by omega)
    rw [hZb] at h1
    refine wr ?_; repeat (refine zq ?_; refine OpV.box rfl rfl rfl ?_; intro _; refine wr ?_)
    ((first | apply VO.pure rfl rfl | apply VQ.pure rfl rfl | apply VD.take rfl rfl rfl | (refine VD.end rfl rfl rfl ?_; apply OpV.pure)); exact PureAt.makeFuncN rfl; rfl)
    refine wr ?_; repeat (refine zq ?_; refine OpV.box rfl rfl rfl ?_; intro _; refine wr ?_)
    refine zq ?_
    refine zd rfl rfl (part_ok a 0 (g := 41) (bnd := #[]) (cap := #[.pointer (some ⟨nx, 0, none⟩), .pointer (some ⟨n18, 0, none⟩)]) (fun _ _ => by simp) h1) ?_
    intro D4 hq4
    have h2 := rbarrier_ok (W := W) (R := Row a 75 T.cells :: Row nx 29 [.pointer (some ⟨a, 0, none⟩)] :: WalR w b vj :: Row nw 73 [.pointer (some ⟨w, 0, none⟩)] :: Row ne 25 [.int .u16 0] :: R) r Z hZok (frOf Y) hFZ hq4
    rw [hZb] at h2
    refine wr ?_; repeat (refine zq ?_; refine OpV.box rfl rfl rfl ?_; intro _; refine wr ?_)
    refine VR.drawn [] 6 [0, 1, 2, 3, 4, 5, 6] _ rfl (by kernel_rfl) (by kernel_rfl) Ent.re ?_
    refine wr ?_; repeat (refine zq ?_; refine OpV.box rfl rfl rfl ?_; intro _; refine wr ?_)
    refine VD.re 179 (.pointer (some ⟨r, 0, none⟩)) rfl (by rw [hTr]) ?_
    ((first | apply VO.pure rfl rfl | apply VQ.pure rfl rfl | apply VD.take rfl rfl rfl | (refine VD.end rfl rfl rfl ?_; apply OpV.pure)); exact PureAt.makeFuncB rfl; rfl)
    refine wr ?_; repeat (refine zq ?_; refine OpV.box rfl rfl rfl ?_; intro _; refine wr ?_)
    refine zq ?_
    refine zd rfl rfl (part_ok a 0 (g := 43) (bnd := #[.pointer (some ⟨r, 0, none⟩)]) (cap := #[]) (fun _ _ => by simp) h2) ?_
    intro D5 hq5
    refine wr ?_; repeat (refine zq ?_; refine OpV.box rfl rfl rfl ?_; intro _; refine wr ?_)
    ((first | apply VO.pure rfl rfl | apply VQ.pure rfl rfl | apply VD.take rfl rfl rfl | (refine VD.end rfl rfl rfl ?_; apply OpV.pure)); exact PureAt.makeFuncN rfl; rfl)
    refine wr ?_; repeat (refine zq ?_; refine OpV.box rfl rfl rfl ?_; intro _; refine wr ?_)
    have h3 := asm2_ok (W := W) (R := RwO r Z (frOf Y) (Row ne 25 [.int .u16 0] :: R)) nx nw a w T vj hvo.ok hq5.capd (by omega)
    rw [hTb] at h3
    obtain ⟨hq6, hcd⟩ := hq5.wEmpty (v := vj) (s := X.m) (vj.epoch + 1) (by rw [hvs]) (by omega) (by omega) hvb hvu
    have hcd2 : (wEmpty (vj, D5) (vj.epoch + 1)).1 = 0 \/ (wEmpty (vj, D5) (vj.epoch + 1)).1 = 80 := by
      rcases hcd with q | q
      · exact .inl q
      · rw [q]; exact chk_code _
    clear hcd
    generalize wEmpty (vj, D5) (vj.epoch + 1) = q at *
    obtain ⟨qe, qv, D6⟩ := q
    dsimp only at hq6 hcd2 h3
    rcases hcd2 with rfl | rfl
    · refine zq ?_
      refine zd rfl rfl (part_ok a T.m (g := 44) (bnd := #[]) (cap := #[.pointer (some ⟨nx, 0, none⟩), .pointer (some ⟨nw, 0, none⟩)]) (fun _ _ => by simp) h3) ?_
      intro _ _
      refine wr ?_; repeat (refine zq ?_; refine OpV.box rfl rfl rfl ?_; intro _; refine wr ?_)
      refine VF.ent (H' := Row ne 25 [.int .u16 0] :: Row a 75 (ArrX.cells { T with young := false }) :: RwO r Z (frOf Y) (BayR b D6 :: R)) Ent.re ?_
      refine VF.leaveRetA (.inl rfl) (fun _ _ => by simp) guard_ret ⟨0, some ⟨a, r, { T with young := false }, Z, frOf Y⟩, D6⟩ rfl (.tmp rfl) (ResIs.leaf tab_ok rfl rfl (.head _) rfl) ⟨hq6.mono (by omega), by simp, fun s h => ?_⟩ rfl (Ent.drop Ent.refl)
      cases h
      exact ⟨by rw [hTd]; exact ⟨hYok.m, hYok.c, hYok.s, hYok.st, hYok.vals, hYok.cur⟩, hTr, hZok, by rw [hTd]; exact hZm, by rw [hTd]; exact hZc, hZb, hFZ, by rw [hTd]; exact hZs⟩
    · refine zq ?_
      refine OpV.callDies rfl rfl (fun _ _ => by simp) (part_dies (G := BayR b D6 :: Row ne 25 [.int .u16 0] :: R) a T (g := 44) (bnd := #[]) (cap := #[.pointer (some ⟨nx, 0, none⟩), .pointer (some ⟨nw, 0, none⟩)]) (fun _ _ => by simp) (Does.mono h3 (fun y => y) (fun _ q => q) (fun _ _ => rfl) (fun _ _ => Ent.re))) Ent.re ?_
      refine VE.sh ?_
      (repeat (first | refine VF.passPanic ?_ | refine VF.blockPanic ?_ | refine VF.loopPanic ?_))
      refine VF.ent (H' := Row ne 25 [.int .u16 0] :: BayR b D6 :: R) Ent.re ?_
      exact VF.leavePanicA (fun _ _ => by simp) (guard_pan 80) ⟨80, none, D6⟩ rfl (.tmp rfl) (ResIs.leaf tab_ok rfl rfl (.head _) rfl) (fail 80 D6 (by decide) (hq6.mono (by omega))) rfl (Ent.drop Ent.refl)
abbrev noSlot : SlotD := ⟨none, none, none⟩
def bayI (ds : List (List UInt8)) (c i : Nat) : BayD := ⟨(ds.take i).map slotI ++ List.replicate (c - i) noSlot, false, -1, ⟨0, 0, 0⟩⟩
theorem bayI_all {ds : List (List UInt8)} {c : Nat} (h : ds.length = c) : bayI ds c c = imgBay ds := by
 unfold bayI imgBay
 rw [List.take_of_length_le (by omega), Nat.sub_self, List.replicate_zero, List.append_nil]
theorem bayI_zero (ds : List (List UInt8)) (c : Nat) : BayD.new (List.replicate c 0) = bayI ds c 0 := by
 unfold bayI BayD.new
 rw [List.map_replicate]; rfl
theorem bayI_step {ds : List (List UInt8)} {c i : Nat} (h : i < c) (hd : i < ds.length) : (bayI ds c (i + 1)).slots = ((ds.take i).map slotI ++ [slotI ds[i]]) ++ List.replicate (c - i - 1) noSlot := by
 unfold bayI
 dsimp only
 rw [List.take_succ_eq_append_getElem hd, List.map_append, show c - (i + 1) = c - i - 1 by omega]; rfl
theorem bayI_skip {ds : List (List UInt8)} {c i : Nat} (h : i < c) (hd : i < ds.length) (he : ds[i] = []) : bayI ds c (i + 1) = bayI ds c i := by
 have h1 := bayI_step h hd
 have h2 : (bayI ds c (i + 1)).slots = (bayI ds c i).slots := by
  rw [h1, he]
  obtain ⟨m, hm⟩ : ∃ m, c - i = m + 1 := ⟨c - i - 1, by omega⟩
  unfold bayI
  dsimp only
  rw [hm, List.append_assoc, Nat.add_sub_cancel]; rfl
 unfold bayI at h2 ⊢
 dsimp only at h2
 rw [h2]
theorem bayI_len {ds : List (List UInt8)} {c i : Nat} (h : i <= c) (hd : ds.length = c) : (bayI ds c i).slots.length = c := by
 unfold bayI
 simp only [List.length_append, List.length_map, List.length_take, List.length_replicate]
 omega
theorem bayI_load {ds : List (List UInt8)} {c i s : Nat} (h : i < c) (hd : ds.length = c) (h1 : (ds[i]'(by omega)).length = s * 128) (h2 : 0 < s) (h3 : s <= 8192) : (bayI ds c i).load (i : Int) (ds[i]'(by omega)) = (0, bayI ds c (i + 1)) := by
 have hl := bayI_len (ds := ds) (c := c) (i := i) (by omega) hd
 have hslot : (bayI ds c i).slot (i : Int) = noSlot := by
  unfold BayD.slot bayI
  dsimp only
  rw [Int.toNat_natCast, List.getElem?_append_right (by simp; omega)]
  simp only [List.length_map, List.length_take, Nat.min_eq_left (show i <= ds.length by omega), Nat.sub_self]
  rw [List.getElem?_replicate, if_pos (by omega)]; rfl
 have hin : inRange (bayI ds c i).slots.length (i : Int) = true := by unfold inRange; rw [hl]; exact decide_eq_true (by omega)
 have hle : loadE (ds[i]'(by omega)).length = 0 := by unfold loadE; rw [h1, if_pos (by omega)]
 have hlay : (bayI ds c i).layE (i : Int) = 0 := by
  unfold BayD.layE
  rw [hin, if_neg (by decide), hslot]; rfl
 unfold BayD.load BayD.lay
 rw [hlay, if_neg (by decide), hle, if_neg (by decide), hslot]
 have hst := bayI_step (ds := ds) h (by omega)
 have hne : ds[i]'(by omega) ≠ [] := by intro e; rw [e] at h1; simp at h1; omega
 have hsl : slotI (ds[i]'(by omega)) = ⟨some ⟨⟨chunks (ds[i]'(by omega)) ((ds[i]'(by omega)).length / 128), [], false⟩, false, 0⟩, none, none⟩ := by unfold slotI; rw [if_neg hne]
 have hset := setNext ((ds.take i).map slotI) noSlot (slotI (ds[i]'(by omega))) (c - i) (by omega)
 rw [show ((ds.take i).map slotI).length = i by rw [List.length_map, List.length_take]; omega] at hset
 rw [<- hst, hsl] at hset
 refine Prod.ext rfl ?_
 show (bayI ds c i).setSlot (i : Int).toNat _ = _
 unfold BayD.setSlot
 rw [Int.toNat_natCast]
 have h5 : (bayI ds c i).slots = (ds.take i).map slotI ++ List.replicate (c - i) noSlot := rfl
 rw [h5, hset]
 rfl
theorem szC_get {n : Nat} {S : List Nat} (i : Nat) (h : i < S.length) : (szC n S)[i]? = some (.int .i64 (S[i] : Int)) := by
 unfold szC ints
 rw [List.getElem?_append_left (by rw [List.length_map]; exact h), List.getElem?_map, List.getElem?_eq_getElem h]; rfl
theorem dsC_get {n : Nat} {Ds : List RowE} (i : Nat) (h : i < Ds.length) : (dsC n Ds)[i]? = some (Ds[i].hdr) := by
 unfold dsC
 rw [List.getElem?_append_left (by rw [List.length_map]; exact h), List.getElem?_map, List.getElem?_eq_getElem h]; rfl
theorem imgload_ok {ao : Option Addr} {cap : Nat} {l : List UInt8} (hr : Rds W R 1 ao l.length (bytes l)) (hcap : l.length <= cap) (hlen : l.length <= 140737488351232) :
    Does W Tryz.prog 5 [.slice ao l.length cap] R (β := Nat) (fun _ => True) (fun b => .tuple #[.pointer ((imgLoad l).2.map fun _ => ⟨b, 0, none⟩), .int .u16 (((imgLoad l).1 : Nat) : Int)]) (fun b => (imgLoad l).2.elim R fun ds => BayR b (imgBay ds) :: R) := by
  (refine Does.enterD Tryz.func5 Tryz.ntmps5 rfl rfl ?_)
  refine wr ?_
  (refine zq ?_; refine OpV.alloc (z := (.pointer none)) (fun w => by simp) rfl rfl ?_; intro n2)
  refine wr ?_
  (refine zq ?_; refine OpV.alloc (z := (.int .u16 0)) (fun w => by simp) rfl rfl ?_; intro n3)
  refine wr ?_
  refine VR.regionD rfl ?_
  refine VO.pure rfl rfl (PureAt.makeFuncN rfl) rfl ?_
  refine VO.deferLast rfl rfl rfl ?_
  refine wr ?_
  have bad : imgForm l = false -> imgLoad l = (210, none) := fun h => by unfold imgLoad; rw [if_pos h]
  refine zg ?_ ?_ <;> intro hb
  rotate_left
  · have h0 : imgForm l = false := by unfold imgForm; rw [decide_eq_false (by have := of_decide_eq_false hb; omega)]; rfl
    have hL := bad h0
    refine wr ?_
    (refine zq ?_; refine OpV.callDies rfl rfl (fun _ _ => by simp) (need_dies 210) Ent.refl ?_; refine VE.sh ?_; (repeat (first | refine VF.passPanic ?_ | refine VF.blockPanic ?_ | refine VF.loopPanic ?_)); refine VF.ent (H' := Row n2 24 [.pointer none] :: Row n3 25 [.int .u16 0] :: R) Ent.re ?_; refine VF.leavePanic (fun _ _ => by simp) (loadD_pan 210) 0 rfl (ResIs.leaf tab_ok rfl rfl (.head _) rfl) (ResIs.leaf tab_ok rfl rfl (.tail _ (.head _)) rfl) trivial ?_ ?_)
    · rw [hL]; rfl
    · rw [hL]; exact Ent.drop (Ent.drop Ent.refl)
  have f1 : l.length <= 33554432 := by have := of_decide_eq_true hb; omega
  clear hb
  refine wr ?_
  refine zg ?_ ?_ <;> intro hb
  rotate_left
  · have h0 : imgForm l = false := by unfold imgForm; rw [decide_eq_false (show ¬ 10 <= l.length by have := of_decide_eq_false hb; omega), Bool.and_false]; rfl
    have hL := bad h0
    refine wr ?_
    (refine zq ?_; refine OpV.callDies rfl rfl (fun _ _ => by simp) (need_dies 210) Ent.refl ?_; refine VE.sh ?_; (repeat (first | refine VF.passPanic ?_ | refine VF.blockPanic ?_ | refine VF.loopPanic ?_)); refine VF.ent (H' := Row n2 24 [.pointer none] :: Row n3 25 [.int .u16 0] :: R) Ent.re ?_; refine VF.leavePanic (fun _ _ => by simp) (loadD_pan 210) 0 rfl (ResIs.leaf tab_ok rfl rfl (.head _) rfl) (ResIs.leaf tab_ok rfl rfl (.tail _ (.head _)) rfl) trivial ?_ ?_)
    · rw [hL]; rfl
    · rw [hL]; exact Ent.drop (Ent.drop Ent.refl)
  have f2 : 10 <= l.length := by have := of_decide_eq_true hb; omega
  clear hb
  obtain ⟨la, rfl⟩ : ∃ x, ao = some x := by cases ao with | none => have := hr.nil rfl; omega | some x => exact ⟨x, rfl⟩
  have hform : imgForm l = decide (l.take 5 = magicI) := by unfold imgForm; rw [decide_eq_true f1, decide_eq_true f2]; rfl
  have hR : Rds W (Row n3 25 [.int .u16 0] :: Row n2 24 [.pointer none] :: R) 1 (some la) l.length (bytes l) := hr.ent (Ent.drop (Ent.drop Ent.refl))
  refine wr ?_
  refine VO.pure rfl rfl (PureAt.toStr (l := l.take 5) tab_ok rfl rfl rfl rfl (rds_head hR 5 (by omega)) rfl) rfl ?_
  refine wr ?_
  refine VO.pure rfl rfl (PureAt.strEq (a := l.take 5) (b := magicI) tab_ok rfl rfl rfl rfl) rfl ?_
  refine wr ?_
  by_cases h5 : l.take 5 = magicI
  rotate_left
  · have hL := bad (by rw [hform, decide_eq_false h5])
    refine VO.re 28 (.bool false) rfl (by rw [decide_eq_false h5]) ?_
    (refine zq ?_; refine OpV.callDies rfl rfl (fun _ _ => by simp) (need_dies 210) Ent.refl ?_; refine VE.sh ?_; (repeat (first | refine VF.passPanic ?_ | refine VF.blockPanic ?_ | refine VF.loopPanic ?_)); refine VF.ent (H' := Row n2 24 [.pointer none] :: Row n3 25 [.int .u16 0] :: R) Ent.re ?_; refine VF.leavePanic (fun _ _ => by simp) (loadD_pan 210) 0 rfl (ResIs.leaf tab_ok rfl rfl (.head _) rfl) (ResIs.leaf tab_ok rfl rfl (.tail _ (.head _)) rfl) trivial ?_ ?_)
    · rw [hL]; rfl
    · rw [hL]; exact Ent.drop (Ent.drop Ent.refl)
  rw [decide_eq_true h5] at hform
  refine VO.re 28 (.bool true) rfl (by rw [decide_eq_true h5]) ?_
  (refine zq ?_; refine zy rfl rfl (need_ok (.int .u16 210) rfl) ?_)
  intro _ _
  refine wr ?_
  refine VO.re 33 (.int .i64 ((l.length - 4 : Nat) : Int)) rfl (by congr 1; omega) ?_
  refine wr ?_
  have hsub : ∀ H : List SProp, Rds W H 1 (some la) l.length (bytes l) -> Rds W H 1 (subA (some la) cap (l.length - 4) 1) (l.length - (l.length - 4)) (bytes (l.drop (l.length - 4))) := fun H h => by
    have h1 := rds_part h (l.length - 4) l.length (by omega) (Nat.le_refl _) hcap
    rwa [List.take_of_length_le (by rw [List.length_drop]; omega)] at h1
  (refine zq ?_; refine zy rfl rfl (read_ok (hsub _ hR) (by omega)) ?_)
  intro r1 _
  refine wr ?_
  (refine zq ?_; refine zy rfl rfl (r32_ok r1 ⟨l.drop (l.length - 4), 0, 0, 0⟩) ?_)
  intro _ _
  have hg4 : (Rk.mk (l.drop (l.length - 4)) 0 0 0).got 4 = l.drop (l.length - 4) := by
    have h1 := (Rk.got_good (k := ⟨l.drop (l.length - 4), 0, 0, 0⟩) rfl (n := 4) (by dsimp only; rw [List.length_drop]; omega)).1
    rw [h1, List.drop_zero, List.take_of_length_le (by rw [List.length_drop]; omega)]
  rw [hg4]
  refine VO.ent (H' := Row n3 25 [.int .u16 0] :: Row n2 24 [.pointer none] :: R) Ent.re ?_
  refine wr ?_
  have hBl : (imgB l).length = l.length - 4 := by rw [List.length_take]; omega
  have hRb : ∀ H : List SProp, Rds W H 1 (some la) l.length (bytes l) -> Rds W H 1 (some la) (imgB l).length (bytes (imgB l)) := fun H h => by rw [hBl]; exact rds_head h (l.length - 4) (by omega)
  have hsum := sum_ok (W := W) (cap := cap) (l := imgB l) (hRb _ hR) (by omega)
  rw [hBl] at hsum
  (refine zq ?_; refine zy rfl rfl (hsum) ?_)
  intro _ _
  refine wr ?_
  have hseq : (((leVal (l.drop (l.length - 4)) : Nat) : Int) == (((crcS (imgB l)).toNat : Nat) : Int)) = imgSum l := by
    unfold imgSum
    rw [Bool.eq_iff_iff, beq_iff_eq, decide_eq_true_iff]
    omega
  refine VO.re 43 (.bool (imgSum l)) rfl (by rw [hseq]) ?_
  cases hsm : imgSum l with
  | false =>
    have hL : imgLoad l = (211, none) := by unfold imgLoad; rw [hform, if_neg (by decide), if_pos hsm]
    (refine zq ?_; refine OpV.callDies rfl rfl (fun _ _ => by simp) (need_dies 211) Ent.refl ?_; refine VE.sh ?_; (repeat (first | refine VF.passPanic ?_ | refine VF.blockPanic ?_ | refine VF.loopPanic ?_)); refine VF.ent (H' := Row n2 24 [.pointer none] :: Row n3 25 [.int .u16 0] :: R) Ent.re ?_; refine VF.leavePanic (fun _ _ => by simp) (loadD_pan 211) 0 rfl (ResIs.leaf tab_ok rfl rfl (.head _) rfl) (ResIs.leaf tab_ok rfl rfl (.tail _ (.head _)) rfl) trivial ?_ ?_)
    · rw [hL]; rfl
    · rw [hL]; exact Ent.drop (Ent.drop Ent.refl)
  | true =>
  (refine zq ?_; refine zy rfl rfl (need_ok (.int .u16 211) rfl) ?_)
  intro _ _
  refine wr ?_
  have hread := read_ok (W := W) (cap := cap) (hRb _ hR) (by omega)
  rw [hBl] at hread
  (refine zq ?_; refine zy rfl rfl (hread) ?_)
  intro r5 _
  refine wr ?_
  (refine zq ?_; refine OpV.alloc (z := (.pointer none)) (fun w => by simp) rfl rfl ?_; intro n5)
  refine wr ?_
  refine VO.ent (H' := ReaderR r5 ⟨imgB l, 0, 0, 0⟩ :: Row n5 43 [.pointer (some ⟨r5, 0, none⟩)] :: Row n3 25 [.int .u16 0] :: Row n2 24 [.pointer none] :: R) Ent.re ?_
  (refine zq ?_; refine zy rfl rfl (rraw_ok r5 ⟨imgB l, 0, 0, 0⟩ 5) ?_)
  rintro ⟨yo, yc⟩ _
  have hk5 : (Rk.mk (imgB l) 0 0 0).raw 5 = ⟨imgB l, 5, 0, 0⟩ := by
    have h1 := (Rk.got_good (k := ⟨imgB l, 0, 0, 0⟩) rfl (n := 5) (by dsimp only; rw [hBl]; omega)).2.2
    exact h1
  rw [hk5]
  refine VO.ent (H' := ReaderR r5 ⟨imgB l, 5, 0, 0⟩ :: Row n5 43 [.pointer (some ⟨r5, 0, none⟩)] :: Row n3 25 [.int .u16 0] :: Row n2 24 [.pointer none] :: R) Ent.re ?_
  refine wr ?_
  (refine zq ?_; refine zy rfl rfl (r8_ok r5 ⟨imgB l, 5, 0, 0⟩) ?_)
  intro _ _
  have hg1 := Rk.got_good (k := ⟨imgB l, 5, 0, 0⟩) rfl (n := 1) (by dsimp only; rw [hBl]; omega)
  have hk6 : (Rk.mk (imgB l) 5 0 0).number 1 = ⟨imgB l, 6, 0, 0⟩ := hg1.2.2
  have hcv : leVal ((Rk.mk (imgB l) 5 0 0).got 1) = imgC l := by
    rw [hg1.1]
    have h6 : 5 < (imgB l).length := by rw [hBl]; omega
    dsimp only
    rw [List.drop_eq_getElem_cons h6]
    simp [leVal, imgC, List.getD, List.getElem?_eq_getElem h6]
  rw [hcv, hk6]
  have hc255 : imgC l < 256 := UInt8.toNat_lt _
  generalize hcc : imgC l = c at *
  refine zq ?_
  refine OpV.makeSlice1 (m := c) st_47 rfl rfl rfl (by omega) (by simp only [maxLen]; omega) rfl ?_
  intro sa0
  refine wr ?_
  (refine zq ?_; refine OpV.alloc (z := (.slice none 0 0)) (fun w => by simp) rfl rfl ?_; intro n6)
  refine wr ?_
  have hLd : imgLoad l = if c < 1 \/ 17 < c then (210, none) else imgOf (imgParse c ((imgB l).drop 6)) := by
    unfold imgLoad
    rw [hform, if_neg (by decide), hsm, if_neg (by decide), hcc]
  refine zg ?_ ?_ <;> intro hb
  rotate_left
  · have hL : imgLoad l = (210, none) := by rw [hLd, if_pos (.inl (by have := of_decide_eq_false hb; omega))]
    refine wr ?_
    (refine zq ?_; refine OpV.callDies rfl rfl (fun _ _ => by simp) (need_dies 210) Ent.refl ?_; refine VE.sh ?_; (repeat (first | refine VF.passPanic ?_ | refine VF.blockPanic ?_ | refine VF.loopPanic ?_)); refine VF.ent (H' := Row n2 24 [.pointer none] :: Row n3 25 [.int .u16 0] :: R) Ent.re ?_; refine VF.leavePanic (fun _ _ => by simp) (loadD_pan 210) 0 rfl (ResIs.leaf tab_ok rfl rfl (.head _) rfl) (ResIs.leaf tab_ok rfl rfl (.tail _ (.head _)) rfl) trivial ?_ ?_)
    · rw [hL]; rfl
    · rw [hL]; exact Ent.drop (Ent.drop Ent.refl)
  have c1 : 1 <= c := by have := of_decide_eq_true hb; omega
  clear hb
  refine wr ?_
  by_cases c17 : c <= 17
  rotate_left
  · have hL : imgLoad l = (210, none) := by rw [hLd, if_pos (.inr (by omega))]
    refine VO.re 59 (.bool false) rfl (by rw [decide_eq_false (by omega)]) ?_
    (refine zq ?_; refine OpV.callDies rfl rfl (fun _ _ => by simp) (need_dies 210) Ent.refl ?_; refine VE.sh ?_; (repeat (first | refine VF.passPanic ?_ | refine VF.blockPanic ?_ | refine VF.loopPanic ?_)); refine VF.ent (H' := Row n2 24 [.pointer none] :: Row n3 25 [.int .u16 0] :: R) Ent.re ?_; refine VF.leavePanic (fun _ _ => by simp) (loadD_pan 210) 0 rfl (ResIs.leaf tab_ok rfl rfl (.head _) rfl) (ResIs.leaf tab_ok rfl rfl (.tail _ (.head _)) rfl) trivial ?_ ?_)
    · rw [hL]; rfl
    · rw [hL]; exact Ent.drop (Ent.drop Ent.refl)
  rw [if_neg (by omega)] at hLd
  refine VO.re 59 (.bool true) rfl (by rw [decide_eq_true (by omega)]) ?_
  (refine zq ?_; refine zy rfl rfl (need_ok (.int .u16 210) rfl) ?_)
  intro _ _
  refine wr ?_
  refine zq ?_
  refine OpV.makeSlice1 (m := c) st_49 rfl rfl rfl (by omega) (by simp only [maxLen]; omega) rfl ?_
  intro da0
  refine wr ?_
  (refine zq ?_; refine OpV.alloc (z := (.slice none 0 0)) (fun w => by simp) rfl rfl ?_; intro n7)
  refine wr ?_
  refine VO.pure rfl rfl (PureAt.makeFuncN rfl) rfl ?_
  refine wr ?_
  obtain ⟨X, hX⟩ : ∃ X : NxX, X = ⟨n5, n6, n7, r5, ⟨sa0, 0, none⟩, ⟨da0, 0, none⟩, c⟩ := ⟨_, rfl⟩
  refine VR.ent (H' := nxO ⟨n5, n6, n7, r5, ⟨sa0, 0, none⟩, ⟨da0, 0, none⟩, c⟩ ⟨imgB l, 6, 0, 0⟩ [] [] (Row n3 25 [.int .u16 0] :: Row n2 24 [.pointer none] :: R)) (Ent.trans (fun w hw => pile_nil (res := RowE.res) hw) Ent.re) ?_
  refine VR.loop (α := Nat × Rk × List Nat × List RowE) (fun y => y.1 <= c /\ LdI (imgB l) c y.1 y.2.1 y.2.2.1 (y.2.2.2.map RowE.data)) (fun y => nxO ⟨n5, n6, n7, r5, ⟨sa0, 0, none⟩, ⟨da0, 0, none⟩, c⟩ y.2.1 y.2.2.1 y.2.2.2 (Row n3 25 [.int .u16 0] :: Row n2 24 [.pointer none] :: R))
    (fun y => [(2, .pointer (some ⟨n2, 0, none⟩)), (3, .pointer (some ⟨n3, 0, none⟩)), (5, .pointer (some ⟨n5, 0, none⟩)), (6, .pointer (some ⟨n6, 0, none⟩)), (7, .pointer (some ⟨n7, 0, none⟩)), (8, .func (.func 19) #[] #[.pointer (some ⟨n5, 0, none⟩), .pointer (some ⟨n6, 0, none⟩), .pointer (some ⟨n7, 0, none⟩)]), (66, .int .i64 c), (67, .int .i64 y.1)]) (fun y => c - y.1) rfl
    (0, ⟨imgB l, 6, 0, 0⟩, [], []) ⟨Nat.zero_le _, rfl, rfl, rfl, .inl ⟨rfl, by dsimp only; rw [hBl]; omega, fun j h => absurd h (by omega), by simp⟩⟩ Ent.refl ⟨rfl, rfl, rfl, rfl, rfl, rfl, rfl, rfl, trivial⟩ ?_
  rintro ⟨i, k, S, Ds⟩ ⟨hi, hI⟩
  dsimp only at hi hI ⊢
  refine wr ?_
  (refine VR.cond rfl rfl ?_ ?_ <;> intro hc)
  · have hlt : i < c := by have := of_decide_eq_true hc; omega
    clear hc
    have hSl := hI.2.1
    have hDl := hI.2.2.1
    rw [List.length_map] at hDl
    refine wr ?_
    by_cases h8 : nxS k <= 8192
    · (refine zq ?_; refine zy rfl rfl (imgnext_ok ⟨n5, n6, n7, r5, ⟨sa0, 0, none⟩, ⟨da0, 0, none⟩, c⟩ k S Ds i hSl hDl hlt c17 h8) ?_)
      rintro ⟨yo2, yc2⟩ _
      refine wr ?_
      refine VF.round (i + 1, nxK k, S ++ [nxS k], Ds ++ [⟨yo2, yc2, nxD k⟩]) ⟨hlt, ?_⟩ (by dsimp only; omega) ⟨rfl, rfl, rfl, rfl, rfl, rfl, rfl, asV rfl (by congr 1), trivial⟩ Ent.refl
      dsimp only
      rw [List.map_append]
      exact hI.next hlt h8
    · have hL : imgLoad l = (210, none) := by rw [hLd, hI.dies hlt (by omega)]; rfl
      refine zq ?_
      refine OpV.callDies rfl rfl (fun _ _ => by simp) (imgnext_dies ⟨n5, n6, n7, r5, ⟨sa0, 0, none⟩, ⟨da0, 0, none⟩, c⟩ k S Ds i hSl hDl hlt c17 (by omega)) Ent.refl ?_
      refine VE.sh ?_
      (repeat (first | refine VF.passPanic ?_ | refine VF.blockPanic ?_ | refine VF.loopPanic ?_))
      refine VF.ent (H' := Row n2 24 [.pointer none] :: Row n3 25 [.int .u16 0] :: R) Ent.re ?_
      refine VF.leavePanic (fun _ _ => by simp) (loadD_pan 210) 0 rfl (ResIs.leaf tab_ok rfl rfl (.head _) rfl) (ResIs.leaf tab_ok rfl rfl (.tail _ (.head _)) rfl) trivial ?_ ?_
      · rw [hL]; rfl
      · rw [hL]; exact Ent.drop (Ent.drop Ent.refl)
  have hge : i = c := by have := of_decide_eq_false hc; omega
  clear hc
  subst hge
  refine wr ?_
  refine VO.know (p := k.ok) (fun w hw => ReaderR.know hw) ?_
  intro hkok
  (refine zq ?_; refine zy rfl rfl (rend_ok r5 k) ?_)
  intro _ _
  have hbadL : k.err ≠ 0 \/ k.at_ < k.b.length -> imgLoad l = (210, none) := fun h => by rw [hLd, hI.bad h]; rfl
  by_cases hend : k.err = 0 /\ k.at_ < k.b.length
  · have hL := hbadL (.inr hend.2)
    rw [if_pos hend]
    refine wr ?_
    (refine zq ?_; refine OpV.callDies rfl rfl (fun _ _ => by simp) (need_dies 210) Ent.refl ?_; refine VE.sh ?_; (repeat (first | refine VF.passPanic ?_ | refine VF.blockPanic ?_ | refine VF.loopPanic ?_)); refine VF.ent (H' := Row n2 24 [.pointer none] :: Row n3 25 [.int .u16 0] :: R) Ent.re ?_; refine VF.leavePanic (fun _ _ => by simp) (loadD_pan 210) 0 rfl (ResIs.leaf tab_ok rfl rfl (.head _) rfl) (ResIs.leaf tab_ok rfl rfl (.tail _ (.head _)) rfl) trivial ?_ ?_)
    · rw [hL]; rfl
    · rw [hL]; exact Ent.drop (Ent.drop Ent.refl)
  rw [if_neg hend]
  by_cases herr : k.err = 0
  rotate_left
  · have hL := hbadL (.inl herr)
    refine wr ?_
    refine VO.re 80 (.bool false) rfl (by rw [beq_eq_false_iff_ne.2 herr]) ?_
    (refine zq ?_; refine OpV.callDies rfl rfl (fun _ _ => by simp) (need_dies 210) Ent.refl ?_; refine VE.sh ?_; (repeat (first | refine VF.passPanic ?_ | refine VF.blockPanic ?_ | refine VF.loopPanic ?_)); refine VF.ent (H' := Row n2 24 [.pointer none] :: Row n3 25 [.int .u16 0] :: R) Ent.re ?_; refine VF.leavePanic (fun _ _ => by simp) (loadD_pan 210) 0 rfl (ResIs.leaf tab_ok rfl rfl (.head _) rfl) (ResIs.leaf tab_ok rfl rfl (.tail _ (.head _)) rfl) trivial ?_ ?_)
    · rw [hL]; rfl
    · rw [hL]; exact Ent.drop (Ent.drop Ent.refl)
  obtain ⟨hparse, hsz⟩ := hI.good herr (fun h => hend ⟨herr, h⟩)
  have hL : imgLoad l = (0, some (Ds.map RowE.data)) := by rw [hLd, hparse]; rfl
  have hSl := hI.2.1
  have hDl := hI.2.2.1
  rw [List.length_map] at hDl
  refine wr ?_
  refine VO.re 80 (.bool true) rfl (by rw [herr]; rfl) ?_
  (refine zq ?_; refine zy rfl rfl (need_ok (.int .u16 210) rfl) ?_)
  intro _ _
  refine wr ?_
  refine zq ?_
  refine OpV.makeSlice1 (m := i) st_47 rfl rfl rfl (by omega) (by simp only [maxLen]; omega) rfl ?_
  intro zb
  refine wr ?_
  have hz : Rds W (Sl.Own 3 1 (.slice (some ⟨zb, 0, none⟩) i i) i (List.replicate i (.int .i64 0)) :: ReaderR r5 k :: nxF ⟨n5, n6, n7, r5, ⟨sa0, 0, none⟩, ⟨da0, 0, none⟩, i⟩ S Ds (Row n3 25 [.int .u16 0] :: Row n2 24 [.pointer none] :: R)) 1 (some ⟨zb, 0, none⟩) (List.replicate i (0 : Int)).length (intsI (List.replicate i 0)) := by
    rw [List.length_replicate, show intsI (List.replicate i 0) = List.replicate i (.int .i64 0) by unfold intsI; rw [List.map_replicate]]
    exact Rds.own (fun u hu => by rw [List.mem_replicate] at hu; rw [hu.2]; rfl) (.head _) (by rw [List.length_replicate, Nat.mul_one]) (fun h => by cases h)
  have hnew := baynew_ok (cap := i) hz (by rw [List.length_replicate]; omega)
  have hE0 : bayE (List.replicate i (0 : Int)) = 0 := by
    unfold bayE
    rw [List.length_replicate, if_neg (by omega), if_pos]
    rw [List.all_eq_true]
    intro u hu
    rw [List.mem_replicate] at hu
    rw [hu.2]; decide
  rw [List.length_replicate, hE0] at hnew
  (refine zq ?_; refine zy rfl rfl (hnew) ?_)
  intro xb hxb
  obtain ⟨b, rfl⟩ : ∃ b, xb = some b := by cases xb with | none => simp at hxb | some b => exact ⟨b, rfl⟩
  rw [Option.elim_some, bayI_zero (Ds.map RowE.data) i]
  refine wr ?_
  refine VR.ent (H' := BayR b (bayI (Ds.map RowE.data) i 0) :: Row n2 24 [.pointer (some ⟨b, 0, none⟩)] :: Row n6 47 [.slice (some ⟨sa0, 0, none⟩) i i] :: Sl.Own 3 1 (.slice (some ⟨sa0, 0, none⟩) i i) i (szC i S) :: Sl.Own 22 1 (.slice (some ⟨da0, 0, none⟩) i i) i (dsC i Ds) :: PilR Ds :: Row n3 25 [.int .u16 0] :: R) Ent.re ?_
  refine VR.loop (α := Nat) (fun j => j <= i) (fun j => BayR b (bayI (Ds.map RowE.data) i j) :: Row n2 24 [.pointer (some ⟨b, 0, none⟩)] :: Row n6 47 [.slice (some ⟨sa0, 0, none⟩) i i] :: Sl.Own 3 1 (.slice (some ⟨sa0, 0, none⟩) i i) i (szC i S) :: Sl.Own 22 1 (.slice (some ⟨da0, 0, none⟩) i i) i (dsC i Ds) :: PilR Ds :: Row n3 25 [.int .u16 0] :: R)
    (fun j => [(2, .pointer (some ⟨n2, 0, none⟩)), (3, .pointer (some ⟨n3, 0, none⟩)), (6, .pointer (some ⟨n6, 0, none⟩)), (89, .slice (some ⟨da0, 0, none⟩) i i), (90, .int .i64 i), (91, .int .i64 j)]) (fun j => i - j) rfl 0 (Nat.zero_le _) Ent.refl ⟨rfl, rfl, rfl, rfl, rfl, rfl, trivial⟩ ?_
  intro j hj
  refine VR.know (p := ∀ d ∈ Ds, d.ok) (fun w hw => PilR.know hw.tail.tail.tail.tail.tail) ?_
  intro hokD
  refine wr ?_
  (refine VR.cond rfl rfl ?_ ?_ <;> intro hc)
  · have hlt : j < i := by have := of_decide_eq_true hc; omega
    clear hc
    have hjD : j < Ds.length := by omega
    have hjS : j < S.length := by omega
    have hs1 := hsz j hjS (by rw [List.length_map]; exact hjD)
    rw [List.getElem_map] at hs1
    have hdR : ∀ H : List SProp, Sl.Own 22 1 (.slice (some ⟨da0, 0, none⟩) i i) i (dsC i Ds) ∈ H -> Rds W H 1 (some ⟨da0, 0, none⟩) i (dsC i Ds) := fun H m => Rds.own (dsC_one _ _) m (by rw [dsC_len (by omega), Nat.mul_one]) (fun h => by cases h)
    have hsR : ∀ H : List SProp, Sl.Own 3 1 (.slice (some ⟨sa0, 0, none⟩) i i) i (szC i S) ∈ H -> Rds W H 1 (some ⟨sa0, 0, none⟩) i (szC i S) := fun H m => Rds.own (szC_one _ _) m (by rw [szC_len (by omega), Nat.mul_one]) (fun h => by cases h)
    refine wr ?_
    refine VO.pure rfl rfl (PureAt.ldR tab_ok rfl rfl (hdR _ zm) (dsC_get j hjD)) rfl ?_
    refine wr ?_
    refine VO.pure rfl rfl (PureAt.ldR tab_ok rfl rfl (hsR _ zm) (szC_get j hjS)) rfl ?_
    refine wr ?_
    (refine VR.cond rfl rfl ?_ ?_ <;> intro hc)
    · have hp : 0 < S[j] := by have := of_decide_eq_true hc; omega
      clear hc
      refine wr ?_
      have hok := hokD _ (List.getElem_mem hjD)
      have hds : ∀ H : List SProp, PilR Ds ∈ H -> Rds W H 1 (Ds[j]).ao (Ds[j]).data.length (bytes (Ds[j]).data) := fun H m => Rds.pile m (List.getElem_mem hjD) (fun R hR => RowE.rds hok hR)
      (refine zq ?_; refine zy rfl rfl (bayloadR_ok (cap := (Ds[j]).cap) b (bayI (Ds.map RowE.data) i j) (j : Int) (hds _ zm) (by omega) hok.cap) ?_)
      intro _ _
      have hld := bayI_load (ds := Ds.map RowE.data) (c := i) (i := j) (s := S[j]) hlt (by rw [List.length_map]; exact hDl) (by rw [List.getElem_map]; exact hs1.1) hp hs1.2
      rw [List.getElem_map] at hld
      rw [hld]
      refine wr ?_
      refine VO.re 105 (.bool true) rfl rfl ?_
      (refine zq ?_; refine zy rfl rfl (need_ok (.int .u16 210) rfl) ?_)
      intro _ _
      refine wr ?_
      refine VF.round (j + 1) hlt (by omega) ⟨rfl, rfl, rfl, rfl, rfl, asV rfl (by congr 1), trivial⟩ Ent.refl
    · have hz : S[j] = 0 := by have := of_decide_eq_false hc; omega
      clear hc
      have hemp : (Ds[j]).data = [] := List.length_eq_zero_iff.1 (by rw [hs1.1, hz])
      refine wr ?_
      refine VF.round (j + 1) hlt (by omega) ⟨rfl, rfl, rfl, rfl, rfl, asV rfl (by congr 1), trivial⟩ ?_
      rw [bayI_skip hlt (by rw [List.length_map]; exact hjD) (by rw [List.getElem_map]; exact hemp)]
      exact Ent.refl
  · have hge2 : j = i := by have := of_decide_eq_false hc; omega
    clear hc
    subst hge2
    rw [bayI_all (by rw [List.length_map]; exact hDl)]
    refine wr ?_
    refine VF.ent (H' := Row n2 24 [.pointer (some ⟨b, 0, none⟩)] :: Row n3 25 [.int .u16 0] :: BayR b (imgBay (Ds.map RowE.data)) :: R) Ent.re ?_
    refine VF.leaveRet (.inl rfl) (fun _ _ => by simp) loadD_ret b rfl (ResIs.leaf tab_ok rfl rfl (.head _) rfl) (ResIs.leaf tab_ok rfl rfl (.tail _ (.head _)) rfl) trivial ?_ ?_
    · rw [hL]; rfl
    · rw [hL]; exact Ent.drop (Ent.drop Ent.refl)
def encD (d : List UInt8) : List UInt8 := lowBytes (d.length / 128) 2 ++ d
def goodD (d : List UInt8) : Prop := d.length % 128 = 0 /\ d.length / 128 <= 8192
theorem imgParse_enc : ∀ (ds : List (List UInt8)), (∀ d ∈ ds, goodD d) -> imgParse ds.length (ds.flatMap encD) = some ds
  | [], _ => rfl
  | d :: t, h => by
    have hd := h d (.head _)
    have ih := imgParse_enc t fun x hx => h x (.tail _ hx)
    have e : (d :: t).flatMap encD = lowBytes (d.length / 128) 2 ++ (d ++ t.flatMap encD) := by rw [List.flatMap_cons, encD, List.append_assoc]
    have h2 : (lowBytes (d.length / 128) 2).length = 2 := lowBytes_length _ _
    have ht : ((d :: t).flatMap encD).take 2 = lowBytes (d.length / 128) 2 := by rw [e, List.take_left' h2]
    have hv : leVal (((d :: t).flatMap encD).take 2) = d.length / 128 := by rw [ht]; exact leVal_low 2 _ (by have := hd.2; omega)
    have hm : d.length / 128 * 128 = d.length := by have := hd.1; omega
    rw [List.length_cons, imgParse, hv, hm]
    rw [if_neg]
    · have e1 : ((d :: t).flatMap encD).drop (2 + d.length) = t.flatMap encD := by
        rw [e, <- List.append_assoc]
        exact List.drop_left' (by rw [List.length_append, h2])
      have e2 : (((d :: t).flatMap encD).drop 2).take d.length = d := by
        rw [e, List.drop_left' h2]
        exact List.take_left' rfl
      rw [e1, e2, ih]; rfl
    · rw [e]
      simp only [List.length_append, h2]
      have := hd.2
      omega
def bodyOfD (ds : List (List UInt8)) : List UInt8 := magicI ++ [UInt8.ofNat ds.length] ++ ds.flatMap encD
theorem bodyOfD_len : ∀ (ds : List (List UInt8)), (∀ d ∈ ds, goodD d) -> (ds.flatMap encD).length <= ds.length * 1048578
  | [], _ => by simp
  | d :: t, h => by
    have ih := bodyOfD_len t fun x hx => h x (.tail _ hx)
    have hd := h d (.head _)
    rw [List.flatMap_cons, List.length_append, encD, List.length_append, lowBytes_length, List.length_cons]
    have := hd.1; have := hd.2
    omega
theorem imgLoad_seal (ds : List (List UInt8)) (h1 : 1 <= ds.length) (h17 : ds.length <= 17) (hg : ∀ d ∈ ds, goodD d) : imgLoad (sealI (bodyOfD ds)) = (0, some ds) := by
 have hbl : (bodyOfD ds).length = 6 + (ds.flatMap encD).length := by unfold bodyOfD; rw [List.length_append]; rfl
 have hmx := bodyOfD_len ds hg
 have h3 : ds.length * 1048578 <= 17 * 1048578 := Nat.mul_le_mul_right _ h17
 have hlow : (lowBytes (crcS (bodyOfD ds)).toNat 4).length = 4 := lowBytes_length _ _
 have hsl : (sealI (bodyOfD ds)).length = (bodyOfD ds).length + 4 := by unfold sealI; rw [List.length_append, hlow]
 have hB : imgB (sealI (bodyOfD ds)) = bodyOfD ds := by
  unfold imgB
  rw [hsl, Nat.add_sub_cancel]
  unfold sealI
  exact List.take_left' rfl
 have hT : (sealI (bodyOfD ds)).drop ((sealI (bodyOfD ds)).length - 4) = lowBytes (crcS (bodyOfD ds)).toNat 4 := by
  rw [hsl, Nat.add_sub_cancel]
  unfold sealI
  exact List.drop_left' rfl
 have hform : imgForm (sealI (bodyOfD ds)) = true := by
  have ht : (sealI (bodyOfD ds)).take 5 = magicI := by
   unfold sealI bodyOfD
   rw [List.append_assoc, List.append_assoc]
   exact List.take_left' rfl
  have hpos : 1 <= (ds.flatMap encD).length := by
   cases ds with
   | nil => simp at h1
   | cons d t => rw [List.flatMap_cons, List.length_append, encD, List.length_append, lowBytes_length]; omega
  unfold imgForm
  rw [ht, decide_eq_true (show (sealI (bodyOfD ds)).length <= 33554432 by omega), decide_eq_true (show 10 <= (sealI (bodyOfD ds)).length by omega)]
  rfl
 have hsum : imgSum (sealI (bodyOfD ds)) = true := by
  unfold imgSum
  rw [hB, hT]
  exact decide_eq_true (leVal_low 4 _ (crcS_lt _))
 have hc : imgC (sealI (bodyOfD ds)) = ds.length := by
  unfold imgC
  rw [hB]
  have : (bodyOfD ds).getD 5 0 = UInt8.ofNat ds.length := by
   unfold bodyOfD
   rw [List.append_assoc]
   simp [magicI, List.getD]
  rw [this]
  simp
  omega
 have hd6 : (bodyOfD ds).drop 6 = ds.flatMap encD := by
  unfold bodyOfD
  exact List.drop_left' rfl
 unfold imgLoad
 rw [hform, if_neg (by decide), hsum, if_neg (by decide), hc, if_neg (by omega), hB, hd6, imgParse_enc ds hg]
 rfl
def disksOf (D : BayD) : List (List UInt8) := (List.range D.slots.length).map (diskB D)
theorem imgBody_disks (D : BayD) : imgBody D = bodyOfD (disksOf D) := by
 unfold imgBody bodyOfD disksOf
 rw [List.length_map, List.length_range, List.flatMap_map]
 rfl
theorem goodD_nil : goodD [] := by constructor <;> decide
theorem imgLoad_cases (l : List UInt8) : (∃ e : Nat, imgLoad l = (e, none) /\ (e = 210 \/ e = 211)) \/ ∃ ds, imgLoad l = (0, some ds) := by
 unfold imgLoad
 split
 · exact .inl ⟨210, rfl, .inl rfl⟩
 ·
  split
  · exact .inl ⟨211, rfl, .inr rfl⟩
  ·
   split
   · exact .inl ⟨210, rfl, .inl rfl⟩
   ·
    cases imgParse (imgC l) ((imgB l).drop 6) with
    | none => exact .inl ⟨210, rfl, .inl rfl⟩
    | some ds => exact .inr ⟨ds, rfl⟩
def knD : BayD := BayD.new [0, 1]
theorem knD_disks : disksOf knD = [[], List.replicate 128 0] := by kernel_rfl
theorem knD_len : (imgS knD).length = 142 /\ (imgS knD).take 10 = [83, 80, 73, 77, 1, 2, 0, 0, 1, 0] := by
 have h : imgBody knD = bodyOfD (disksOf knD) := imgBody_disks knD
 rw [knD_disks] at h
 unfold imgS sealI
 rw [h]
 constructor
 · rw [List.length_append, lowBytes_length]; rfl
 · rw [List.take_append_of_le_length (by decide)]; rfl
theorem knD_load : imgLoad (imgS knD) = (0, some [[], List.replicate 128 0]) := by
 have h1 : bodyOfD (disksOf knD) = bodyOfD [[], List.replicate 128 0] := by rw [knD_disks]
 unfold imgS
 rw [imgBody_disks, h1]
 refine imgLoad_seal _ (by decide) (by decide) ?_
 intro d hd
 rcases List.mem_cons.1 hd with rfl | hd
 · exact goodD_nil
 · rw [List.mem_singleton] at hd; subst hd; constructor <;> decide
theorem imgknown_ok : Does1 W Tryz.prog 6 [] R (.bool true) R := by
 (refine Does.enter Tryz.func6 Tryz.ntmps6 rfl rfl ?_)
 refine w ?_
 (refine zq ?_; refine OpV.buildSlice1 st_47 rfl rfl (by first | (simp; done) | simp [Value.oneCell']) (by decide) rfl ?_; intro nb)
 refine w ?_
 have hz : Rds W (Row nb 3 [.int .i64 0, .int .i64 1] :: R) 1 (some ⟨nb, 0, none⟩) ([0, 1] : List Int).length (intsI [0, 1]) := Rds.row (intsI_one _) (.head _) rfl
 have hnew := baynew_ok (cap := 2) hz (by decide)
 rw [show bayE [0, 1] = 0 by kernel_rfl] at hnew
 (refine zq ?_; refine zy rfl rfl (hnew) ?_)
 intro xb hxb
 obtain ⟨b, rfl⟩ : ∃ b, xb = some b := by cases xb with | none => simp at hxb | some b => exact ⟨b, rfl⟩
 rw [Option.elim_some, show BayD.new [0, 1] = knD from rfl]
 refine w ?_
 (refine zq ?_; refine zy rfl rfl (save_ok b knD) ?_)
 rintro ⟨lo, lc⟩ _
 obtain ⟨k1, k2⟩ := knD_len
 have k3 := knD_load
 generalize imgS knD = L at k1 k2 k3 ⊢
 refine VO.know (p := lo = none -> L.length = 0) (fun w hw => Holds.ownNone hw (.head _)) ?_
 intro hlo
 refine VO.know (p := L.length <= lc) (fun w hw => Holds.ownCap hw (.head _)) ?_
 intro hlc
 obtain ⟨la, rfl⟩ : ∃ x, lo = some x := by cases lo with | none => have := hlo rfl; omega | some x => exact ⟨x, rfl⟩
 have hRL : ∀ H : List SProp, OwnB (some la, lc) L ∈ H -> Rds W H 1 (some la) L.length (bytes L) := fun H m => Rds.own (bytes_one _) m (by simp) hlo
 refine w ?_
 (first | refine VO.gF rfl rfl rfl (by rw [k1]; rfl) ?_ | refine VD.gF rfl rfl rfl (by rw [k1]; rfl) ?_)
 refine w ?_
 refine VO.pure rfl rfl (PureAt.toStr (l := L.take 10) tab_ok rfl rfl rfl rfl (rds_head (hRL _ (.head _)) 10 (by omega)) rfl) rfl ?_
 refine w ?_
 refine VO.pure rfl rfl (PureAt.strEq (a := L.take 10) (b := [83, 80, 73, 77, 1, 2, 0, 0, 1, 0]) tab_ok rfl rfl rfl rfl) rfl ?_
 refine w ?_
 (refine VC.condFe rfl rfl (by rw [decide_eq_true k2]; rfl) ?_)
 refine w ?_
 have hld := imgload_ok (W := W) (cap := lc) (hRL (OwnB (some la, lc) L :: BayR b knD :: Row nb 3 [.int .i64 0, .int .i64 1] :: R) (.head _)) hlc (by omega)
 rw [k3] at hld
 (refine zq ?_; refine zy rfl rfl (hld) ?_)
 intro c _
 rw [Option.elim_some]
 refine w ?_
 (refine zq ?_; refine zy rfl rfl (bayslots_ok c (imgBay [[], List.replicate 128 0])) ?_)
 intro _ _
 refine w ?_
 (refine zq ?_; refine zy rfl rfl (bayhas_ok c (imgBay [[], List.replicate 128 0]) 0) ?_)
 intro _ _
 refine VO.re 52 (.bool false) rfl (by congr 1) ?_
 refine w ?_
 (refine zq ?_; refine zy rfl rfl (bayhas_ok c (imgBay [[], List.replicate 128 0]) 1) ?_)
 intro _ _
 refine VO.re 57 (.bool true) rfl (by congr 1) ?_
 refine w ?_
 (refine zq ?_; refine zy rfl rfl (baysectors_ok c (imgBay [[], List.replicate 128 0]) 1) ?_)
 intro _ _
 refine VO.re 61 (.int .i64 1) rfl (by congr 1) ?_
 refine w ?_
 refine VE.done1 rfl ?_ ?_
 · rfl
 · exact Ent.re
theorem image_qt {l : List UInt8} {ds : List (List UInt8)} (h : imgLoad l = (0, some ds)) : ds.length <= 17 /\ Qt (imgBay ds) (fun i => (ds.getD i []).length / 128) ds.length 0 /\ ∀ i, (ds.getD i []).length / 128 <= 8192 := by
  unfold imgLoad at h
  split at h
  · simp at h
  split at h
  · simp at h
  split at h
  · simp at h
  rename_i hc
  cases hp : imgParse (imgC l) ((imgB l).drop 6) with
  | none => rw [hp] at h; simp [imgOf] at h
  | some d =>
    rw [hp] at h
    obtain rfl : d = ds := by simpa [imgOf] using h
    obtain ⟨h1, h2⟩ := imgParse_len hp
    refine ⟨by omega, qt_image d h2, fun i => ?_⟩
    rw [List.getD_eq_getElem?_getD]
    cases hi : d[i]? with
    | none => simp
    | some x => exact (h2 x (List.mem_of_getElem? hi)).2
theorem noKeeps : Keeps W R none [] := ⟨⟨rfl, fun u hu => (by cases hu), fun _ => rfl, fun w hw a ha => (by cases ha)⟩, fun x hx => (by cases hx)⟩
theorem imgany_law {ao : Option Addr} {cap : Nat} {l : List UInt8} (blk : Nat) (hblk : blk < 65536) (hr : Rds W R 1 ao l.length (bytes l)) (hcap : l.length <= cap) (hlen : l.length <= 140737488351232) :
    Does1 W Tryz.prog 3 [.slice ao l.length cap, .int .u16 blk] R (.bool true) R := by
  (refine Does.enter Tryz.func3 Tryz.ntmps3 rfl rfl ?_)
  refine w ?_
  refine zk ?_ ?_ <;> intro hc
  · refine w ?_
    refine VE.done1 rfl ?_ ?_
    · rfl
    · exact Ent.refl
  clear hc
  refine w ?_
  (refine zq ?_; refine zy rfl rfl (imgload_ok hr hcap hlen) ?_)
  intro b _
  rcases imgLoad_cases l with ⟨e, he, hee⟩ | ⟨ds, hds⟩
  · rw [he]
    refine w ?_
    (first | refine VO.gT rfl rfl rfl (by rcases hee with rfl | rfl <;> rfl) ?_ | refine VD.gT rfl rfl rfl (by rcases hee with rfl | rfl <;> rfl) ?_)
    refine w ?_
    (refine zq ?_; refine zy rfl rfl (imgknown_ok (R := R)) ?_)
    intro _ _
    refine w ?_
    refine VE.done1 rfl ?_ ?_
    · rfl
    · exact Ent.refl
  obtain ⟨h17, hq, hz⟩ := image_qt hds
  rw [hds]
  refine VO.ent (H' := BayR b (imgBay ds) :: R) Ent.refl ?_
  refine w ?_
  (refine zq ?_; refine zy rfl rfl (assemble_ok b hq h17 hz (by decide)) ?_)
  rintro ⟨e, s, D1⟩ ⟨hq1, hne, hgood⟩
  dsimp only at hq1 hne hgood
  cases s with
  | none =>
    have he : e ≠ 0 := hne.1 rfl
    refine VO.ent (H' := BayR b D1 :: R) Ent.refl ?_
    refine w ?_
    refine VO.re 40 (.bool false) rfl (by simp [he]) ?_
    refine w ?_
    (refine zq ?_; refine zy rfl rfl (imgknown_ok (R := BayR b D1 :: R)) ?_)
    intro _ _
    refine w ?_
    refine VE.done1 rfl ?_ ?_
    · rfl
    · exact Ent.re
  | some s =>
    have he : e = 0 := Decidable.byContradiction fun h => by cases hne.2 h
    subst he
    obtain ⟨a, r, X, Y, fr⟩ := s
    obtain ⟨hX, hr2, hY, hm, hc, hb, hF, hs⟩ := hgood _ rfl
    dsimp only at hX hr2 hY hm hc hb hF hs
    have hN : 1 <= X.s * X.c * (X.m - 1) := Nat.mul_pos (Nat.mul_pos hX.s.1 hX.c.1) (by have := hX.m; omega)
    have hN2 : X.s * X.c * (X.m - 1) <= 4096 * 15 := Nat.mul_le_mul (Nat.mul_le_mul hX.s.2 hX.c.2) (by have := hX.m; omega)
    have hbl := ablocks_ok (W := W) (R := RwO r Y fr (BayR b D1 :: R)) a X hX
    have hrd := fun k hk => aread_ok (W := W) (R := R) a r X hX hr2 Y hY hm hc hs fr hF hq1 k hk
    rw [hb] at hrd
    generalize X.s * X.c * (X.m - 1) = N at *
    refine VO.ent (H' := Row a 75 X.cells :: RwO r Y fr (BayR b D1 :: R)) Ent.refl ?_
    refine w ?_
    (refine zq ?_; refine zy rfl rfl (imgknown_ok (R := Row a 75 X.cells :: RwO r Y fr (BayR b D1 :: R))) ?_)
    intro _ _
    refine w ?_
    (refine zq ?_; refine zy rfl rfl (hbl) ?_)
    intro _ _
    refine w ?_
    (refine VC.condTe rfl rfl (decide_eq_true (by omega)) ?_)
    refine w ?_
    refine VO.re 51 (.int .i64 blk) rfl (by rw [IntWalk.i64_in _ ⟨by omega, by omega⟩]) ?_
    refine VO.pure rfl rfl (PureAt.rem (a := blk) (b := N) rfl rfl (by omega)) rfl ?_
    have hk : blk % N < N := Nat.mod_lt _ (by omega)
    generalize blk % N = k at *
    refine w ?_
    (refine zq ?_; refine zy rfl rfl (hrd k hk) ?_)
    rintro ⟨D2, xo, xc⟩ hq2
    dsimp only at hq2
    refine VO.ent (H' := BayR b D2 :: R) Ent.re ?_
    refine w ?_
    (first | refine VO.gF rfl rfl rfl (decide_eq_false (by omega)) ?_ | refine VD.gF rfl rfl rfl (decide_eq_false (by omega)) ?_)
    refine w ?_
    (refine zq ?_; refine zy rfl rfl (baycut_ok (kl := []) b D2 noKeeps) ?_)
    intro _ _
    have hq3 := hq2.cut (([] : List KeepD).map KeepD.l)
    generalize D2.cut (([] : List KeepD).map KeepD.l) = D3 at *
    refine w ?_
    (refine zq ?_; refine zy rfl rfl (assemble_ok b hq3 h17 hz (by decide)) ?_)
    rintro ⟨e, s, D4⟩ ⟨hq4, hne, hgood⟩
    dsimp only at hq4 hne hgood
    refine w ?_
    refine VE.done1 rfl ?_ ?_
    · cases s with
      | none => have he : e ≠ 0 := hne.1 rfl
                simp [he]
      | some s => have he : e = 0 := Decidable.byContradiction fun h => by cases hne.2 h
                  simp [he]
    · cases s with
      | none => exact (Ent.drop Ent.refl : Ent W (BayR b D4 :: R) R)
      | some s => exact (Ent.drop (Ent.drop (Ent.drop (Ent.drop Ent.refl))) : Ent W (Row s.a 75 s.X.cells :: RwO s.r s.Y s.fr (BayR b D4 :: R)) R)
end Go.Proofs.YtjebagmjcdaegaaGreat
/-! Text Gq. -/
namespace Go.Proofs.YtjebagmjcdaegaaGreat
open Go.RowKit Go.Sl
theorem u16_ofI {z : Int} (h : (Lit.int .u16 z).wf = true) : ∃ m : Nat, z = m /\ m < 65536 := by
 simp [Lit.wf, IntKind.min, IntKind.max, IntKind.signed, IntKind.bits] at h
 exact ⟨z.toNat, by omega, by omega⟩
end Go.Proofs.YtjebagmjcdaegaaGreat
