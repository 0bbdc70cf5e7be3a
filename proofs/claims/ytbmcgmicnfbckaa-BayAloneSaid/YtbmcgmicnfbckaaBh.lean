/- The statements of the bay: plain, total, known. -/
import Derived.Test.YtbmcgmicnfbckaaBg
set_option maxRecDepth 8000
set_option linter.unusedVariables false
set_option linter.unusedSimpArgs false
set_option linter.unusedSectionVars false
namespace Go.Proofs.Ytbmcgmicnfbckaa
open Go.RowKit Go.Sl
attribute [local irreducible] Own

def BayD.plain (D : BayD) (kind slot n : Int) (b : List UInt8) : (List UInt8 × Int) × BayD :=
  if kind = 1 then D.read slot n else if kind = 2 then (([], (D.write slot n b).1), (D.write slot n b).2) else (([], (D.flush slot).1), (D.flush slot).2)
theorem plain_ok {W : World} {R : List SProp} (b : Nat) (D : BayD) (o : BopD) (hw : o.wf W) (hcl : (D.dv o.slot).k.cache.length ≤ 1000000) :
    Does W Try.prog 15 [.pointer (some ⟨b, 0, none⟩), .agg o.cells.toArray] (BayR b D :: R) (β := Option Addr × Nat) (fun x => x.1 = none → (D.plain o.kind o.slot o.n o.b).1.1.length = 0)
      (fun x => .tuple #[sliceB x (D.plain o.kind o.slot o.n o.b).1.1, .int .u16 (D.plain o.kind o.slot o.n o.b).1.2]) (fun x => OwnB x (D.plain o.kind o.slot o.n o.b).1.1 :: BayR b (D.plain o.kind o.slot o.n o.b).2 :: R) := by
  have hb := hw.b
  obtain ⟨kind, slot, n, ao, cap, l, ko, kcap, keeps⟩ := o
  dsimp only at hb hcl ⊢
  (refine Does.enter Try.func15 Try.ntmps15 rfl rfl ?_)
  (refine w ?_; repeat ((first | refine VO.step rfl rfl ?_ | refine VD.end rfl rfl rfl ?_ | refine VD.mid rfl rfl rfl ?_); refine OpV.box rfl rfl rfl ?_; intro _; refine w ?_))
  unfold BayD.plain
  (refine VC.cond rfl rfl ?_ ?_ <;> intro hc)
  · have h : kind = 1 := by simpa using hc
    rw [if_pos h]
    (refine w ?_; repeat ((first | refine VO.step rfl rfl ?_ | refine VD.end rfl rfl rfl ?_ | refine VD.mid rfl rfl rfl ?_); refine OpV.box rfl rfl rfl ?_; intro _; refine w ?_))
    ((first | refine VO.step rfl rfl ?_ | refine VD.end rfl rfl rfl ?_ | refine VD.mid rfl rfl rfl ?_); refine OpV.call rfl rfl (fun _ _ => by simp) (bayread_ok b D slot n) Ent.re rfl ?_)
    intro x hx
    (refine w ?_; repeat ((first | refine VO.step rfl rfl ?_ | refine VD.end rfl rfl rfl ?_ | refine VD.mid rfl rfl rfl ?_); refine OpV.box rfl rfl rfl ?_; intro _; refine w ?_))
    exact VE.done x rfl hx rfl Ent.re
  have h : ¬ kind = 1 := by simpa using hc
  rw [if_neg h]
  (refine w ?_; repeat ((first | refine VO.step rfl rfl ?_ | refine VD.end rfl rfl rfl ?_ | refine VD.mid rfl rfl rfl ?_); refine OpV.box rfl rfl rfl ?_; intro _; refine w ?_))
  (refine VC.cond rfl rfl ?_ ?_ <;> intro hc)
  · have h2 : kind = 2 := by simpa using hc
    rw [if_pos h2]
    (refine w ?_; repeat ((first | refine VO.step rfl rfl ?_ | refine VD.end rfl rfl rfl ?_ | refine VD.mid rfl rfl rfl ?_); refine OpV.box rfl rfl rfl ?_; intro _; refine w ?_))
    (((first | refine VO.step rfl rfl ?_ | refine VD.end rfl rfl rfl ?_ | refine VD.mid rfl rfl rfl ?_); refine OpV.call rfl rfl (fun _ _ => by simp) (baywrite_ok (l := l) b D slot n hcl (.inl hb)) Ent.re rfl ?_); intro _ _)
    (refine w ?_; repeat ((first | refine VO.step rfl rfl ?_ | refine VD.end rfl rfl rfl ?_ | refine VD.mid rfl rfl rfl ?_); refine OpV.box rfl rfl rfl ?_; intro _; refine w ?_))
    refine VE.done (none, 0) rfl (fun _ => rfl) rfl (Ent.trans (Ent.re (L := BayR b (D.write slot n l).2 :: R)) fun w hw => hw.ownNil 5 1)
  have h2 : ¬ kind = 2 := by simpa using hc
  rw [if_neg h2]
  (refine w ?_; repeat ((first | refine VO.step rfl rfl ?_ | refine VD.end rfl rfl rfl ?_ | refine VD.mid rfl rfl rfl ?_); refine OpV.box rfl rfl rfl ?_; intro _; refine w ?_))
  (((first | refine VO.step rfl rfl ?_ | refine VD.end rfl rfl rfl ?_ | refine VD.mid rfl rfl rfl ?_); refine OpV.call rfl rfl (fun _ _ => by simp) (bayflush_ok b D slot) Ent.re rfl ?_); intro _ _)
  (refine w ?_; repeat ((first | refine VO.step rfl rfl ?_ | refine VD.end rfl rfl rfl ?_ | refine VD.mid rfl rfl rfl ?_); refine OpV.box rfl rfl rfl ?_; intro _; refine w ?_))
  refine VE.done (none, 0) rfl (fun _ => rfl) rfl (Ent.trans (Ent.re (L := BayR b (D.flush slot).2 :: R)) fun w hw => hw.ownNil 5 1)

def CntD.total (c : CntD) : Int := IntKind.i64.wrap (IntKind.i64.wrap (c.r + c.w) + c.f)
theorem total_ok {W : World} {R : List SProp} (b : Nat) (D : BayD) :
    Does1 W Try.prog 20 [.pointer (some ⟨b, 0, none⟩)] (BayR b D :: R) (.int .i64 D.n.total) (BayR b D :: R) := by
  (refine Does.enter Try.func20 Try.ntmps20 rfl rfl ?_)
  (refine w ?_; repeat ((first | refine VO.step rfl rfl ?_ | refine VD.end rfl rfl rfl ?_ | refine VD.mid rfl rfl rfl ?_); refine OpV.box rfl rfl rfl ?_; intro _; refine w ?_))
  (((first | refine VO.step rfl rfl ?_ | refine VD.end rfl rfl rfl ?_ | refine VD.mid rfl rfl rfl ?_); refine OpV.call rfl rfl (fun _ _ => by simp) (baycounts_ok b D) Ent.re rfl ?_); intro _ _)
  (refine w ?_; repeat ((first | refine VO.step rfl rfl ?_ | refine VD.end rfl rfl rfl ?_ | refine VD.mid rfl rfl rfl ?_); refine OpV.box rfl rfl rfl ?_; intro _; refine w ?_))
  ((first | refine VO.step rfl rfl ?_ | refine VD.end rfl rfl rfl ?_ | refine VD.mid rfl rfl rfl ?_); refine OpV.allocS sb_40 rfl ?_; intro na)
  (refine w ?_; repeat ((first | refine VO.step rfl rfl ?_ | refine VD.end rfl rfl rfl ?_ | refine VD.mid rfl rfl rfl ?_); refine OpV.box rfl rfl rfl ?_; intro _; refine w ?_))
  (first | refine VO.step rfl rfl ?_ | refine VD.end rfl rfl rfl ?_ | refine VD.mid rfl rfl rfl ?_)
  refine OpV.stA (vs := [.int .i64 D.n.r, .int .i64 D.n.w, .int .i64 D.n.f]) tab_ok rfl rfl rfl rfl (by simp [Value.oneCell']) (by (repeat first | exact .head | apply Hole.tail)) (by simp) ?_
  (refine w ?_; repeat ((first | refine VO.step rfl rfl ?_ | refine VD.end rfl rfl rfl ?_ | refine VD.mid rfl rfl rfl ?_); refine OpV.box rfl rfl rfl ?_; intro _; refine w ?_))
  (refine VE.done1 rfl ?_ ?_)
  · rfl
  · exact Ent.re

/-- Counts, compared. -/
theorem cnt_eq {W : World} {n : Nat} {H : List SProp} {f : Fr} {dst : Option Tmp} {ty_ : TypeId} {pos : String} {after : Array Edge} {guard : Option (Nat × Bool)} {op : BinOp} {x y : Operand} {u : TypeId} {c d : CntD} {v : Value} (hx : evalX f x = some (cntV c)) (hy : evalX f y = some (cntV d))
    (hwc : (Lit.int .i64 c.r).wf = true ∧ (Lit.int .i64 c.w).wf = true ∧ (Lit.int .i64 c.f).wf = true) (hwd : (Lit.int .i64 d.r).wf = true ∧ (Lit.int .i64 d.w).wf = true ∧ (Lit.int .i64 d.f).wf = true)
    (hv : eqB op (decide (c.r = d.r ∧ c.w = d.w ∧ c.f = d.f)) = some v) : PureAt W Try.prog n H f { dst, op := .binOp op 40 x y u, type := ty_, pos, after, guard } v := by
  refine PureAt.eqFlat (ks := [some .i64, some .i64, some .i64]) (cs := [.int .i64 c.r, .int .i64 c.w, .int .i64 c.f]) (ds := [.int .i64 d.r, .int .i64 d.w, .int .i64 d.f]) (by kernel_rfl) hx hy rfl rfl rfl rfl ?_ ?_ ?_ hv
  · intro l hl; simp only [List.mem_cons, List.not_mem_nil, or_false] at hl; rcases hl with h | h | h
    · subst h; exact hwc.1
    · subst h; exact hwc.2.1
    · subst h; exact hwc.2.2
  · intro l hl; simp only [List.mem_cons, List.not_mem_nil, or_false] at hl; rcases hl with h | h | h
    · subst h; exact hwd.1
    · subst h; exact hwd.2.1
    · subst h; exact hwd.2.2
  · simp

def kx : List UInt8 := (List.replicate 128 0).set 5 9
def kD0 : BayD := BayD.new [2, 0]
def kD1 : BayD := (kD0.write 0 1 kx).2
def kD2 : BayD := (kD1.flush 0).2
def kD3 : BayD := (kD2.read 1 0).2
def kD4 : BayD := (kD3.trips 1).2
def kD5 : BayD := (kD4.read 0 1).2
def kD6 : BayD := (kD5.read 0 1).2
theorem k1 : (kD0.write 0 1 kx).1 = 0 := by kernel_rfl
theorem k2 : (kD1.flush 0).1 = 0 := by kernel_rfl
theorem k3 : (kD2.read 1 0).1 = ([], 51) := by kernel_rfl
theorem k4 : (kD3.trips 1).1 = 0 := by kernel_rfl
theorem k5 : (kD4.read 0 1).1 = (kx, 0) := by kernel_rfl
theorem k6 : (kD5.read 0 1).1 = ([], 50) := by kernel_rfl
theorem k7 : kD6.n = ⟨2, 1, 1⟩ := by kernel_rfl

set_option maxHeartbeats 2000000 in
theorem bknown_ok {W : World} {R : List SProp} : Does1 W Try.prog 12 [] R (.bool true) R := by
  (refine Does.enter Try.func12 Try.ntmps12 rfl rfl ?_)
  (refine w ?_; repeat ((first | refine VO.step rfl rfl ?_ | refine VD.end rfl rfl rfl ?_ | refine VD.mid rfl rfl rfl ?_); refine OpV.box rfl rfl rfl ?_; intro _; refine w ?_))
  ((first | refine VO.step rfl rfl ?_ | refine VD.end rfl rfl rfl ?_ | refine VD.mid rfl rfl rfl ?_); refine OpV.buildSlice1 st_43 rfl rfl (by first | (simp; done) | simp [Value.oneCell']) (by decide) rfl ?_; intro nb)
  (refine w ?_; repeat ((first | refine VO.step rfl rfl ?_ | refine VD.end rfl rfl rfl ?_ | refine VD.mid rfl rfl rfl ?_); refine OpV.box rfl rfl rfl ?_; intro _; refine w ?_))
  have hr : Rds W (Row nb 3 [.int .i64 2, .int .i64 0] :: R) 1 (some ⟨nb, 0, none⟩) 2 (intsI [2, 0]) := Rds.row (intsI_one _) (.head _) rfl
  ((first | refine VO.step rfl rfl ?_ | refine VD.end rfl rfl rfl ?_ | refine VD.mid rfl rfl rfl ?_); refine OpV.call rfl rfl (fun _ _ => by simp) (baynew_ok (l := [2, 0]) hr (by decide)) Ent.refl rfl ?_)
  intro x hx
  rw [show bayE [2, 0] = 0 from rfl] at hx ⊢
  obtain ⟨b, rfl⟩ : ∃ b, x = some b := by cases x with | none => cases hx | some b => exact ⟨b, rfl⟩
  dsimp only [Option.elim_some]
  (refine w ?_; repeat ((first | refine VO.step rfl rfl ?_ | refine VD.end rfl rfl rfl ?_ | refine VD.mid rfl rfl rfl ?_); refine OpV.box rfl rfl rfl ?_; intro _; refine w ?_))
  ((first | refine VO.step rfl rfl ?_ | refine VD.end rfl rfl rfl ?_ | refine VD.mid rfl rfl rfl ?_); refine OpV.makeSlice1 st_32 rfl rfl rfl ?_ ?_ rfl ?_)
  · decide
  · decide
  intro xb
  (refine w ?_; repeat ((first | refine VO.step rfl rfl ?_ | refine VD.end rfl rfl rfl ?_ | refine VD.mid rfl rfl rfl ?_); refine OpV.box rfl rfl rfl ?_; intro _; refine w ?_))
  refine VO.pure rfl rfl (PureAt.indexAddr (a := ⟨xb, 0, none⟩) (m := 128) (cap := 128) (j := 5) tab_ok rfl rfl rfl rfl (by decide)) rfl ?_
  (first | refine VO.step rfl rfl ?_ | refine VD.end rfl rfl rfl ?_ | refine VD.mid rfl rfl rfl ?_)
  refine OpV.stO2 (xs' := bytes kx) tab_ok rfl rfl rfl rfl (by (repeat first | exact .head | apply Hole.tail)) (by simp) (by kernel_rfl) ?_
  (refine w ?_; repeat ((first | refine VO.step rfl rfl ?_ | refine VD.end rfl rfl rfl ?_ | refine VD.mid rfl rfl rfl ?_); refine OpV.box rfl rfl rfl ?_; intro _; refine w ?_))
  have hxr : ∀ X : List SProp, Rds W (Own 5 1 (.slice (some ⟨xb, 0, none⟩) 128 128) 128 (bytes kx) :: X) 1 (some ⟨xb, 0, none⟩) 128 (bytes kx) := fun X => Rds.own (bytes_one _) (.head _) (by rw [bytes_length]; rfl) (fun h => by cases h)
  refine VO.ent (Ent.re (L := BayR b kD0 :: Own 5 1 (.slice (some ⟨xb, 0, none⟩) 128 128) 128 (bytes kx) :: R)) ?_
  ((first | refine VO.step rfl rfl ?_ | refine VD.end rfl rfl rfl ?_ | refine VD.mid rfl rfl rfl ?_); refine OpV.call rfl rfl (fun _ _ => by simp) (baywrite_ok (l := kx) b kD0 0 1 (by decide) (.inr (hxr R))) Ent.refl rfl ?_)
  intro _ _
  rw [k1]
  (refine w ?_; repeat ((first | refine VO.step rfl rfl ?_ | refine VD.end rfl rfl rfl ?_ | refine VD.mid rfl rfl rfl ?_); refine OpV.box rfl rfl rfl ?_; intro _; refine w ?_))
  (((first | refine VO.step rfl rfl ?_ | refine VD.end rfl rfl rfl ?_ | refine VD.mid rfl rfl rfl ?_); refine OpV.call rfl rfl (fun _ _ => by simp) (bayflush_ok b kD1 0) Ent.re rfl ?_); intro _ _)
  rw [k2]
  (refine w ?_; repeat ((first | refine VO.step rfl rfl ?_ | refine VD.end rfl rfl rfl ?_ | refine VD.mid rfl rfl rfl ?_); refine OpV.box rfl rfl rfl ?_; intro _; refine w ?_))
  ((first | refine VO.step rfl rfl ?_ | refine VD.end rfl rfl rfl ?_ | refine VD.mid rfl rfl rfl ?_); refine OpV.call rfl rfl (fun _ _ => by simp) (bayread_ok b kD2 1 0) Ent.re rfl ?_)
  intro y1 _
  rw [k3]
  (refine w ?_; repeat ((first | refine VO.step rfl rfl ?_ | refine VD.end rfl rfl rfl ?_ | refine VD.mid rfl rfl rfl ?_); refine OpV.box rfl rfl rfl ?_; intro _; refine w ?_))
  (((first | refine VO.step rfl rfl ?_ | refine VD.end rfl rfl rfl ?_ | refine VD.mid rfl rfl rfl ?_); refine OpV.call rfl rfl (fun _ _ => by simp) (baytrip_ok b kD3 1) Ent.re rfl ?_); intro _ _)
  rw [k4]
  (refine w ?_; repeat ((first | refine VO.step rfl rfl ?_ | refine VD.end rfl rfl rfl ?_ | refine VD.mid rfl rfl rfl ?_); refine OpV.box rfl rfl rfl ?_; intro _; refine w ?_))
  ((first | refine VO.step rfl rfl ?_ | refine VD.end rfl rfl rfl ?_ | refine VD.mid rfl rfl rfl ?_); refine OpV.call rfl rfl (fun _ _ => by simp) (bayread_ok b kD4 0 1) Ent.re rfl ?_)
  intro y2 hy2
  rw [k5] at hy2 ⊢
  (refine w ?_; repeat ((first | refine VO.step rfl rfl ?_ | refine VD.end rfl rfl rfl ?_ | refine VD.mid rfl rfl rfl ?_); refine OpV.box rfl rfl rfl ?_; intro _; refine w ?_))
  ((first | refine VO.step rfl rfl ?_ | refine VD.end rfl rfl rfl ?_ | refine VD.mid rfl rfl rfl ?_); refine OpV.call rfl rfl (fun _ _ => by simp) (bayread_ok b kD5 0 1) Ent.re rfl ?_)
  intro y3 _
  rw [k6]
  (refine w ?_; repeat ((first | refine VO.step rfl rfl ?_ | refine VD.end rfl rfl rfl ?_ | refine VD.mid rfl rfl rfl ?_); refine OpV.box rfl rfl rfl ?_; intro _; refine w ?_))
  have hy2' : y2.1 = none → 128 = 0 := hy2
  refine VO.ent (Ent.re (L := Own 5 1 (.slice (some ⟨xb, 0, none⟩) 128 128) 128 (bytes kx) :: Own 5 1 (.slice y2.1 128 y2.2) 128 (bytes kx) :: BayR b kD6 :: R)) ?_
  ((first | refine VO.step rfl rfl ?_ | refine VD.end rfl rfl rfl ?_ | refine VD.mid rfl rfl rfl ?_); refine OpV.call rfl rfl (fun _ _ => by simp) (same_any (a := kx) (b := kx) (hxr _) (Rds.own (bytes_one _) (.tail _ (.head _)) (by rw [bytes_length]; rfl) hy2') (by decide)) Ent.refl rfl ?_; intro _ _)
  (refine w ?_; repeat ((first | refine VO.step rfl rfl ?_ | refine VD.end rfl rfl rfl ?_ | refine VD.mid rfl rfl rfl ?_); refine OpV.box rfl rfl rfl ?_; intro _; refine w ?_))
  (first | refine VO.gT rfl rfl rfl (by simp) ?_ | refine VD.gT rfl rfl rfl (by simp) ?_)
  (refine w ?_; repeat ((first | refine VO.step rfl rfl ?_ | refine VD.end rfl rfl rfl ?_ | refine VD.mid rfl rfl rfl ?_); refine OpV.box rfl rfl rfl ?_; intro _; refine w ?_))
  (((first | refine VO.step rfl rfl ?_ | refine VD.end rfl rfl rfl ?_ | refine VD.mid rfl rfl rfl ?_); refine OpV.call rfl rfl (fun _ _ => by simp) (baycounts_ok b kD6) Ent.re rfl ?_); intro _ _)
  (refine w ?_; repeat ((first | refine VO.step rfl rfl ?_ | refine VD.end rfl rfl rfl ?_ | refine VD.mid rfl rfl rfl ?_); refine OpV.box rfl rfl rfl ?_; intro _; refine w ?_))
  (apply VO.pure rfl rfl; apply PureAt.build sb_40 rfl; (simp [buildX, setL, Value.cells]; rfl); rfl)
  refine VO.pure rfl rfl (cnt_eq (c := kD6.n) (d := ⟨2, 1, 1⟩) rfl rfl (by rw [k7]; decide) (by decide) rfl) rfl ?_
  rw [k7]
  (refine w ?_; repeat ((first | refine VO.step rfl rfl ?_ | refine VD.end rfl rfl rfl ?_ | refine VD.mid rfl rfl rfl ?_); refine OpV.box rfl rfl rfl ?_; intro _; refine w ?_))
  (refine VE.done1 rfl ?_ ?_)
  · rfl
  · exact Ent.re
end Go.Proofs.Ytbmcgmicnfbckaa
