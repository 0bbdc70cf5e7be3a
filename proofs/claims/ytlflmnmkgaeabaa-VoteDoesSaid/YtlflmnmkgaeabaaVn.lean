/- The vote laws' ballots. -/
import Derived.Test.YtlflmnmkgaeabaaVm
set_option maxRecDepth 8000
set_option linter.unusedVariables false
set_option linter.unusedSimpArgs false
set_option linter.unusedSectionVars false
namespace Go.Proofs.Ytlflmnmkgaeabaa
open Go.RowKit Go.Sl
attribute [local irreducible] Own

def balOf (e i b : Nat) : BalD := ⟨true, ⟨1, e, 1, i, 3, 1, 2, 10, false, false, some ⟨b, 0, none⟩, 3, [1, 1, 1], 0⟩⟩
def balsOf (e : Nat) (bs : List Nat) : List BalD := bs.mapIdx fun i b => balOf e i b
@[simp] theorem balsOf_length (e : Nat) (bs : List Nat) : (balsOf e bs).length = bs.length := by simp [balsOf]
theorem balsOf_push (e : Nat) (bs : List Nat) (b : Nat) : balsOf e (bs ++ [b]) = balsOf e bs ++ [balOf e bs.length b] := by simp [balsOf, List.mapIdx_append]
abbrev upR (b : Nat) : SProp := Row b 59 (bytes [1, 1, 1])
theorem four {α : Type} {l : List α} (h : l.length = 4) : ∃ a b c d, l = [a, b, c, d] := by
  match l, h with
  | [a, b, c, d], _ => exact ⟨a, b, c, d, rfl⟩
theorem balCells_push (l : List BalD) (b : BalD) : balCells (l ++ [b]) = balCells l ++ b.cells := by simp [balCells]

theorem ballots_ok {W : World} {R : List SProp} (e : Nat) :
    Does W Try.prog 19 [.int .u64 e] R (β := List Nat × Option Addr × Nat) (fun x => x.1.length = 4) (fun x => .slice x.2.1 4 x.2.2)
      (fun x => Own 61 13 (.slice x.2.1 4 x.2.2) 4 (balCells (balsOf e x.1)) :: (x.1.map upR ++ R)) := by
  (refine Does.enter Try.func19 Try.ntmps19 rfl rfl ?_)
  refine VC.ent (H' := Own 61 13 (.slice none 0 0) 0 [] :: R) (fun w hw => hw.ownNil _ _) ?_
  (refine w ?_; repeat ((first | refine VO.step rfl rfl ?_ | refine VD.end rfl rfl rfl ?_ | refine VD.mid rfl rfl rfl ?_); refine OpV.box rfl rfl rfl ?_; intro _; refine w ?_))
  refine VC.loop (α := List Nat × Option Addr × Nat) (fun x => x.1.length ≤ 4) (fun x => Own 61 13 (.slice x.2.1 x.1.length x.2.2) x.1.length (balCells (balsOf e x.1)) :: (x.1.map upR ++ R))
    (fun x => [(0, .int .u64 e), (3, .slice x.2.1 x.1.length x.2.2), (4, .int .i64 x.1.length)]) (fun x => 4 - x.1.length) rfl ([], none, 0) (Nat.zero_le _) Ent.refl ⟨rfl, rfl, rfl, trivial⟩ ?_
  rintro ⟨bs, so, sc⟩ hle
  dsimp only at hle ⊢
  (refine w ?_; repeat ((first | refine VO.step rfl rfl ?_ | refine VD.end rfl rfl rfl ?_ | refine VD.mid rfl rfl rfl ?_); refine OpV.box rfl rfl rfl ?_; intro _; refine w ?_))
  (refine VC.cond rfl rfl ?_ ?_ <;> intro hc)
  · have hlt : bs.length < 4 := by have := of_decide_eq_true hc; omega
    (refine w ?_; repeat ((first | refine VO.step rfl rfl ?_ | refine VD.end rfl rfl rfl ?_ | refine VD.mid rfl rfl rfl ?_); refine OpV.box rfl rfl rfl ?_; intro _; refine w ?_))
    (apply VO.pure rfl rfl; apply PureAt.build sb_27 rfl; (simp [buildX, setL, Value.cells]; rfl); rfl)
    ((first | refine VO.step rfl rfl ?_ | refine VD.end rfl rfl rfl ?_ | refine VD.mid rfl rfl rfl ?_); refine OpV.buildSlice1 st_28 rfl rfl (by first | (simp; done) | simp [Value.oneCell']) (by decide) rfl ?_; intro nb)
    (apply VO.pure rfl rfl; apply PureAt.build sb_30 rfl; (simp [buildX, setL, Value.cells]; rfl); rfl)
    ((first | refine VO.step rfl rfl ?_ | refine VD.end rfl rfl rfl ?_ | refine VD.mid rfl rfl rfl ?_); refine OpV.allocS sb_30 rfl ?_; intro n5)
    (refine w ?_; repeat ((first | refine VO.step rfl rfl ?_ | refine VD.end rfl rfl rfl ?_ | refine VD.mid rfl rfl rfl ?_); refine OpV.box rfl rfl rfl ?_; intro _; refine w ?_))
    (first | refine VO.step rfl rfl ?_ | refine VD.end rfl rfl rfl ?_ | refine VD.mid rfl rfl rfl ?_)
    refine OpV.stA (vs := (balOf e bs.length nb).s.cells) tab_ok rfl rfl rfl rfl (super_one _) (by (repeat first | exact .head | apply Hole.tail)) (by simp) ?_
    refine VO.ent (Reord.ent (L := Row n5 30 (balOf e bs.length nb).s.cells :: upR nb :: Own 61 13 (.slice so bs.length sc) bs.length (balCells (balsOf e bs)) :: (bs.map upR ++ R)) (by (repeat first | exact .refl | (apply Reord.cons; focus repeat first | exact .head | apply Del.tail) | exact .nil | apply Reord.drop))) ?_
    (refine w ?_; repeat ((first | refine VO.step rfl rfl ?_ | refine VD.end rfl rfl rfl ?_ | refine VD.mid rfl rfl rfl ?_); refine OpV.box rfl rfl rfl ?_; intro _; refine w ?_))
    (apply VO.pure rfl rfl; apply PureAt.build sb_61 rfl; (simp [buildX, setL, Value.cells]; rfl); rfl)
    (first | refine VO.step rfl rfl ?_ | refine VD.end rfl rfl rfl ?_ | refine VD.mid rfl rfl rfl ?_)
    refine OpV.buildSlice (cs := (balOf e bs.length nb).cells) st_22 rfl rfl (by simp [Value.cells]) (agg_flat _) (by decide) rfl ?_
    intro nc
    (first | refine VO.step rfl rfl ?_ | refine VD.end rfl rfl rfl ?_ | refine VD.mid rfl rfl rfl ?_)
    refine OpV.appendRow st_22 rfl rfl (by (repeat first | exact .head | apply Hole.tail)) (by (focus repeat first | exact .head _ | apply List.Mem.tail)) rfl (bal_one _) ?_ ?_ rfl ?_
    · simp only [maxLen]; omega
    · omega
    intro so' sc'
    (refine w ?_; repeat ((first | refine VO.step rfl rfl ?_ | refine VD.end rfl rfl rfl ?_ | refine VD.mid rfl rfl rfl ?_); refine OpV.box rfl rfl rfl ?_; intro _; refine w ?_))
    refine VE.round (bs ++ [nb], so', sc') (by simp only [List.length_append, List.length_singleton]; omega) (by simp only [List.length_append, List.length_singleton]; omega) ⟨rfl, asV rfl (by simp), asV rfl (by simp), trivial⟩ ?_
    dsimp only
    rw [balsOf_push, balCells_push, List.length_append, List.length_singleton, List.map_append, List.append_assoc]
    refine Ent.trans (Ent.re (L := Own 61 13 (.slice so' (bs.length + 1) sc') (bs.length + 1) (balCells (balsOf e bs) ++ (balOf e bs.length nb).cells) :: upR nb :: (bs.map upR ++ R))) (fun w hw => hw.perm ?_)
    exact List.Perm.cons _ List.perm_middle.symm
  · have hge : bs.length = 4 := by have := of_decide_eq_false hc; omega
    (refine w ?_; repeat ((first | refine VO.step rfl rfl ?_ | refine VD.end rfl rfl rfl ?_ | refine VD.mid rfl rfl rfl ?_); refine OpV.box rfl rfl rfl ?_; intro _; refine w ?_))
    refine VE.done (bs, so, sc) rfl hge (by rw [hge]) ?_
    rw [hge]; exact Ent.refl

theorem bals_own {W : World} {H : List SProp} {ao : Option Addr} {cap : Nat} (l : List BalD) (m : Own 61 13 (.slice ao l.length cap) l.length (balCells l) ∈ H) (hn : ao = none → l.length = 0)
    (hs : ∀ b ∈ l, ∃ n, b.s.so = some ⟨n, 0, none⟩ ∧ Row n 59 (bytes b.s.states) ∈ H) (hf : ∀ b ∈ l, b.s.fit) : Bals W H ao l where
  rds := Rds.own (fun u hu => by obtain ⟨b, _, h⟩ := List.mem_flatMap.1 hu; exact bal_one b u h) m (flat_length l fun _ _ => rfl) hn
  st := fun b hb => by
    obtain ⟨n, h1, h2⟩ := hs b hb
    rw [h1]
    exact Rds.row (bytes_one _) h2 (by simp)
  fit := hf
theorem balOf_fit (e i b : Nat) (he : e < 18446744073709551616) (hi : i < 100) : (balOf e i b).s.fit := by
  constructor <;> simp [balOf] <;> omega
end Go.Proofs.Ytlflmnmkgaeabaa
