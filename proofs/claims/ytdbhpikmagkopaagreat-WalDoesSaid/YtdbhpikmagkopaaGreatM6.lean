import Derived.Test.YtdbhpikmagkopaaGreatM5
/-! Text Or. -/
set_option maxRecDepth 8000
set_option maxHeartbeats 16000000
set_option linter.unusedVariables false
set_option linter.unusedSimpArgs false
set_option linter.unusedSectionVars false
namespace Go.Proofs.YtdbhpikmagkopaaGreat
open Go.RowKit Go.Sl
attribute [local irreducible] Sl.Own
variable {W : World} {R : List SProp}
def rrest (x : Option Addr × Nat) (sp : List RSlotP) : SProp := Sl.star (rslotsOwn x sp :: sp.map rslotRes)
theorem RBayR.openS {W w : World} {b : Nat} {D : BayD} {R : List SProp} (hw : Holds W (RBayR b D :: R) w) : ∃ x : { x : (Option Addr × Nat) × List RSlotP // D.slots = x.2.map RSlotP.D /\ x.2.length <= 17 }, Holds W (rbayRow b D x.1.1 x.1.2.length :: rrest x.1.1 x.1.2 :: R) w := by
 obtain ⟨x, h⟩ := RBayR.open hw
 refine ⟨x, ?_⟩
 have h1 := h.perm (List.perm_middle (l₁ := rslotsOwn x.1.1 x.1.2 :: x.1.2.map rslotRes)).symm
 have h2 : Holds W (rrest x.1.1 x.1.2 :: rbayRow b D x.1.1 x.1.2.length :: R) w := Holds.nest (L := rslotsOwn x.1.1 x.1.2 :: x.1.2.map rslotRes) h1
 exact h2.perm (List.Perm.swap _ _ _)
theorem RBayR.shutS {b : Nat} {D : BayD} {R : List SProp} {x : Option Addr × Nat} {sp : List RSlotP} (h1 : D.slots = sp.map RSlotP.D) (h2 : sp.length <= 17) : Ent W (rbayRow b D x sp.length :: rrest x sp :: R) (RBayR b D :: R) := fun w hw => by
 refine RBayR.shut (x := x) h1 h2 w ?_
 have h3 := (hw.perm (List.Perm.swap _ _ _)).join
 exact h3.perm (List.perm_middle (l₁ := rslotsOwn x sp :: sp.map rslotRes))
theorem rbaypending_ok (b : Nat) (D : BayD) (k : Int) (hc : ∀ v, D.dev k = some v -> v.k.cache.length <= 1000000000) :
    Does W Tryz.prog 40 [.pointer (some ⟨b, 0, none⟩), .int .i64 k] (RBayR b D :: R) (β := Option Addr × Nat) (fun x => x.1 = none -> ((D.dev k).elim [] fun v => v.k.cache.map (·.1)).length = 0) (fun x => .slice x.1 ((D.dev k).elim [] fun v => v.k.cache.map (·.1)).length x.2)
      (fun x => Sl.Own 3 1 (.slice x.1 ((D.dev k).elim [] fun v => v.k.cache.map (·.1)).length x.2) ((D.dev k).elim [] fun v => v.k.cache.map (·.1)).length (ints ((D.dev k).elim [] fun v => v.k.cache.map (·.1))) :: RBayR b D :: R) := by
  refine DoesA (A := fun _ => True) ?_ (fun x _ w hw => hw.ownNone (.head _))
  refine DoesO (fun w => RBayR.open) ?_
  rintro ⟨⟨x, sp⟩, h1, h2⟩
  dsimp only at h1 h2 ⊢
  (refine Does.enter Tryz.func40 Tryz.ntmps40 rfl rfl ?_)
  refine VC.know (p := x.1 = none -> sp.length = 0) (fun w hw => Holds.ownNone hw (.tail _ (.head _))) ?_
  intro hx
  obtain ⟨xa, xc⟩ := x
  dsimp only at hx
  refine w ?_
  ((refine zq ?_; refine zd rfl rfl (ris_ok (D := D) (x := (xa, xc)) (n := sp.length) b k) ?_); intro _ _)
  rw [rinP_D h1] at hc ⊢
  cases hr : inRange sp.length k
  · rw [rinP_range hr]
    refine w ?_
    refine VE.done (none, 0) rfl trivial rfl fun w hw => (RBayR.shut (x := (xa, xc)) h1 h2 w hw).ownNil 3 1
  obtain ⟨l1, s, l2, rfl, rfl⟩ := rrange_split hr
  have hlt : l1.length < (l1 ++ s :: l2).length := by simp
  obtain ⟨a, rfl⟩ : ∃ a, xa = some a := by cases xa with | none => have := hx rfl; omega | some a => exact ⟨a, rfl⟩
  rw [rinP_mid] at hc ⊢
  have c0 : ((l1 ++ s :: l2).flatMap rslotCells)[l1.length * 6 + 0]? = some (rPtr s.in_) := (rslots_get _ _ 0 hlt (by decide)).trans (by simp [rslotCells])
  refine w ?_
  refine VO.pure rfl rfl (.ldRc tab_ok rfl rfl (rslots_rds zm) c0) rfl ?_
  cases hs : s.in_ with
  | none =>
    refine w ?_
    refine VE.done (none, 0) rfl trivial rfl fun w hw => (RBayR.shut (x := (some a, xc)) h1 h2 w hw).ownNil 3 1
  | some p =>
    have hcp : p.v.k.cache.length <= 1000000000 := hc p.v (by rw [hs]; rfl)
    dsimp only [rPtr, Option.map_some]
    have c1 : ((l1 ++ s :: l2).flatMap rslotCells)[l1.length * 6 + 0]? = some (.pointer (some ⟨p.d, 0, none⟩)) := by rw [c0, hs]; rfl
    refine w ?_
    refine VO.pure rfl rfl (.ldRc tab_ok rfl rfl (rslots_rds zm) c1) rfl ?_
    refine w ?_
    refine VO.ent (rbayOutP hs) ?_
    (refine zq ?_; refine zd rfl rfl (docpending_ok p.d p.v.k hcp) ?_)
    intro y _
    refine w ?_
    have e : ((some p.v : Option DevD).elim [] fun v => v.k.cache.map (·.1)).length = p.v.k.cache.length := by show (p.v.k.cache.map (·.1)).length = _; rw [List.length_map]
    refine VE.done y rfl trivial (by rw [e]) ?_
    rw [e]
    exact rbayShutC h1 h2 hs
end Go.Proofs.YtdbhpikmagkopaaGreat
