import Derived.Test.YtjebagmjcdaegaaGreatM10
/-! Text Eb, more of it. -/
set_option maxRecDepth 8000
set_option linter.unusedVariables false
set_option linter.unusedSimpArgs false
set_option linter.unusedSectionVars false
namespace Go.Sl
open Go Go.RowKit
section
variable {W : World} {P : Program} {n : Nat} {H : List SProp} {f : Fr} {dst : Option Tmp} {ty_ : TypeId} {pos : String} {after : Array Edge} {guard : Option (Nat × Bool)}
end
end Go.Sl
namespace Go.Proofs.YtjebagmjcdaegaaGreat
open Go.RowKit Go.Sl
attribute [local irreducible] Sl.Own

theorem rthrough_ok {W : World} {R : List SProp} (c : BitVec 32) (k : Nat) (hk : k <= 1000) :
  Does1 W Tryz.prog 111 [.int .u32 (c.toNat : Int), .int .i64 k] R (.int .u32 ((stpN k c).toNat : Int)) R := by
 (refine Does.enter Tryz.func111 Tryz.ntmps111 rfl rfl ?_)
 refine w ?_
 refine VC.loop (α := Nat) (fun i => i <= k) (fun _ => R) (fun i => [(0, .int .u32 ((stpN i c).toNat : Int)), (1, .int .i64 k), (5, .int .i64 i)]) (fun i => k - i) rfl 0 (Nat.zero_le _) Ent.refl ⟨rfl, rfl, rfl, trivial⟩ ?_
 intro i hi
 refine w ?_
 refine zk ?_ ?_ <;> intro hc
 ·
  have hlt : i < k := by have := of_decide_eq_true hc; omega
  have hst : stpN (i + 1) c = stp (stpN i c) := by rw [stpN_add]; rfl
  generalize stpN i c = m at *
  have hand : IntKind.u32.wrap ((BitVec.ofInt IntKind.u32.bits (m.toNat : Int) &&& BitVec.ofInt IntKind.u32.bits 1).toNat : Int) = ((m &&& 1#32).toNat : Int) := and32 m 1#32
  have hb : (((m &&& 1#32).toNat : Int) == 1) = m.getLsbD 0 := by
   have e : m &&& 1#32 = if m.getLsbD 0 then 1#32 else 0#32 := by
    apply BitVec.eq_of_getLsbD_eq
    intro j hj
    rw [BitVec.getLsbD_and]
    cases j with
    | zero => cases m.getLsbD 0 <;> simp
    | succ j => cases m.getLsbD 0 <;> simp
   rw [e]; cases m.getLsbD 0 <;> rfl
  refine w ?_
  refine VC.re 13 (.bool (m.getLsbD 0)) rfl (by rw [hand, hb]) ?_
  have hs1 : (((m.toNat / 2 ^ (1 : Int).toNat : Nat)) : Int) = ((m >>> 1).toNat : Int) := shr32 m 1
  cases hbit : m.getLsbD 0
  ·
   have hst2 : stp m = m >>> 1 := stp_even m hbit
   refine w ?_
   refine VE.round (i + 1) (by omega) (by omega) ⟨asV rfl (by rw [hst, hst2, hs1]), rfl, asV rfl (by congr 1), trivial⟩ Ent.refl
  ·
   have hst2 : stp m = (m >>> 1) ^^^ crcPoly := by unfold stp; rw [hbit]; rfl
   refine w ?_
   refine VE.round (i + 1) (by omega) (by omega) ⟨asV rfl (by rw [hst, hst2, hs1]; exact congrArg (Value.int .u32) (xor32 (m >>> 1) crcPoly)), rfl, asV rfl (by congr 1), trivial⟩ Ent.refl
 ·
  have hge : i = k := by have := of_decide_eq_false hc; omega
  subst hge
  refine w ?_
  refine VE.done1 rfl ?_ ?_
  · rfl
  · exact Ent.refl

theorem rmore_ok {W : World} {R : List SProp} {ao : Option Addr} {cap : Nat} {l : List UInt8} (c : BitVec 32) (hr : Rds W R 1 ao l.length (bytes l)) (hl : l.length <= 1099511627776) :
  Does1 W Tryz.prog 53 [.int .u32 (c.toNat : Int), .slice ao l.length cap] R (.int .u32 ((crcM c l).toNat : Int)) R := by
 (refine Does.enter Tryz.func53 Tryz.ntmps53 rfl rfl ?_)
 refine w ?_
 refine VO.pure rfl rfl (PureAt.not32 (c := c) rfl) rfl ?_
 unfold u32V
 refine w ?_
 refine VC.loop (α := Nat) (fun i => i <= l.length) (fun _ => R) (fun i => [(1, .slice ao l.length cap), (5, .int .u32 ((crcF (~~~c) (l.take i)).toNat : Int)), (6, .int .i64 i)]) (fun i => l.length - i) rfl 0 (Nat.zero_le _) Ent.refl ⟨rfl, rfl, rfl, trivial⟩ ?_
 intro i hi
 refine w ?_
 refine zk ?_ ?_ <;> intro hc
 ·
  have hlt : i < l.length := by have := of_decide_eq_true hc; omega
  obtain ⟨a, rfl⟩ : ∃ a, ao = some a := by cases ao with | none => have := hr.nil rfl; omega | some a => exact ⟨a, rfl⟩
  have hst : crcF (~~~c) (l.take (i + 1)) = crcB (crcF (~~~c) (l.take i)) l[i] := by rw [List.take_succ_eq_append_getElem hlt, crcF_snoc]
  have hb1 := hr
  refine w ?_
  refine VO.re 21 (.int .u32 (((crcF (~~~c) (l.take i)) ^^^ BitVec.ofNat 32 l[i].toNat).toNat : Int)) rfl (by rw [byte32, wrapB32]; exact congrArg (Value.int .u32) (xor32 _ _)) ?_
  (refine zq ?_; refine zy rfl rfl (rthrough_ok _ 8 (by omega)) ?_; intro _ _)
  refine w ?_
  refine VE.round (i + 1) (by omega) (by omega) ⟨rfl, asV rfl (by rw [hst]; rfl), asV rfl (by congr 1), trivial⟩ Ent.refl
 ·
  have hge : i = l.length := by have := of_decide_eq_false hc; omega
  subst hge
  rw [List.take_of_length_le (Nat.le_refl _)]
  refine w ?_
  refine VO.pure rfl rfl (PureAt.not32 (c := crcF (~~~c) l) rfl) rfl ?_
  unfold u32V
  refine w ?_
  refine VE.done1 rfl ?_ ?_
  · rfl
  · exact Ent.refl
theorem rsum_ok {W : World} {R : List SProp} {ao : Option Addr} {cap : Nat} {l : List UInt8} (hr : Rds W R 1 ao l.length (bytes l)) (hl : l.length <= 1099511627776) :
  Does1 W Tryz.prog 11 [.slice ao l.length cap] R (.int .u32 ((crcS l).toNat : Int)) R := by
 (refine Does.enter Tryz.func11 Tryz.ntmps11 rfl rfl ?_)
 refine w ?_
 (refine zq ?_; refine zy rfl rfl (rmore_ok 0#32 hr hl) ?_)
 intro _ _
 refine w ?_
 refine VE.done1 rfl ?_ ?_
 · rfl
 · exact Ent.refl

end Go.Proofs.YtjebagmjcdaegaaGreat

/-! Text Gr. -/

set_option maxRecDepth 8000
set_option linter.unusedVariables false
set_option linter.unusedSimpArgs false
set_option linter.unusedSectionVars false
namespace Go.Proofs.YtjebagmjcdaegaaGreat
open Go.RowKit Go.Sl
attribute [local irreducible] Sl.Own

def shorts (l : List Nat) : List Value := l.map fun n : Nat => .int .u16 (n : Int)
theorem imgforged_law {W : World} {ao so : Option Addr} {cap scap : Nat} {l : List UInt8} {sums : List Nat} (blk : Nat) (hblk : blk < 65536) (hr : RdsA W 1 ao l.length (bytes l)) (hcap : l.length <= cap) (hlen : l.length <= 140737488351232) (hs : RdsA W 1 so sums.length (shorts sums)) (hs16 : ∀ x ∈ sums, x < 65536) (hsl : sums.length <= 140737488351232) :
  Does1 W Tryz.prog 4 [.slice ao l.length cap, .slice so sums.length scap, .int .u16 blk] [] (.bool true) [] := by
 (refine Does.enter Tryz.func4 Tryz.ntmps4 rfl rfl ?_)
 refine w ?_
 refine zg ?_ ?_ <;> intro hb
 ·
  refine w ?_
  refine VE.done1 rfl ?_ ?_
  · rfl
  · exact Ent.refl
 have hl3 : l.length <= 3000000 := by have := of_decide_eq_false hb; omega
 clear hb
 refine w ?_
 refine zk ?_ ?_ <;> intro hc
 ·
  refine w ?_
  refine VE.done1 rfl ?_ ?_
  · rfl
  · exact Ent.refl
 have hs2 : sums.length <= 2000 := by have := of_decide_eq_false hc; omega
 clear hc
 refine w ?_
 refine VO.ent (fun w hw => hw.ownNil 5 1) ?_
 refine zq ?_
 refine OpV.append st_22 rfl rfl zh (fun w hw => ((hr _).sees (cap := cap) hw.tail).src st_22.und) (by simp only [maxLen]; omega) (by omega) rfl ?_
 intro xo xc
 simp only [Nat.zero_add, List.nil_append]
 refine VO.know (p := xo = none -> l.length = 0) (fun w hw => hw.ownNone (.head _)) ?_
 intro hn
 refine VO.know (p := l.length <= xc) (fun w hw => hw.ownCap (.head _)) ?_
 intro hxc
 refine w ?_
 refine VC.loop (α := Nat × List UInt8) (fun y => y.1 <= sums.length /\ y.2.length = l.length) (fun y => Sl.Own 5 1 (.slice xo l.length xc) l.length (bytes y.2) :: [])
  (fun y => [(1, .slice so sums.length scap), (2, .int .u16 blk), (7, .slice xo l.length xc), (8, .int .i64 y.1)]) (fun y => sums.length - y.1) rfl (0, l) ⟨Nat.zero_le _, rfl⟩ Ent.refl ⟨rfl, rfl, rfl, rfl, trivial⟩ ?_
 rintro ⟨i, X⟩ ⟨hi, hX⟩
 dsimp only at hi hX
 refine w ?_
 refine zk ?_ ?_ <;> intro hc
 ·
  have hlt : i < sums.length := by have := of_decide_eq_true hc; omega
  clear hc
  have h16 := hs16 _ (List.getElem_mem hlt)
  have hget : (shorts sums)[i]? = some (.int .u16 (sums[i] : Int)) := by unfold shorts; rw [List.getElem?_map, List.getElem?_eq_getElem hlt]; rfl
  obtain ⟨sa, rfl⟩ : ∃ x, so = some x := by cases so with | none => (have := (hs []).nil rfl; omega) | some x => exact ⟨x, rfl⟩
  refine w ?_
  refine VO.pure rfl rfl (PureAt.ldR tab_ok rfl rfl (hs _) hget) rfl ?_
  generalize sums[i] = s at *
  refine w ?_
  have e1 : IntKind.i64.wrap (s : Int) = s := IntWalk.i64_in _ ⟨by omega, by omega⟩
  refine VC.re 9 (.int .i64 s) rfl (by rw [e1]) ?_
  refine VC.re 40 (.bool (decide (l.length < s + 128))) rfl (by rw [e1, IntWalk.i64_in _ ⟨by omega, by omega⟩]; congr 1; exact decide_eq_decide.2 (by omega)) ?_
  refine zk ?_ ?_ <;> intro hc
  ·
   refine w ?_
   exact VE.round (i + 1, X) ⟨hlt, hX⟩ (by dsimp only; omega) ⟨rfl, rfl, rfl, asV rfl (by congr 1), trivial⟩ Ent.re
  have hle : s + 128 <= l.length := by have := of_decide_eq_false hc; omega
  clear hc
  obtain ⟨xa, rfl⟩ : ∃ x, xo = some x := by cases xo with | none => (have := hn rfl; omega) | some x => exact ⟨x, rfl⟩
  have hXr : ∀ H : List SProp, Sl.Own 5 1 (.slice (some xa) l.length xc) l.length (bytes X) ∈ H -> Rds W H 1 (some xa) l.length (bytes X) := fun H m => Rds.own (bytes_one _) m (by simp [hX]) (by simp)
  refine w ?_
  refine VO.re 45 (.int .i64 ((s + 124 : Nat) : Int)) rfl (by congr 1; omega) ?_
  refine w ?_
  have hpl : ((X.drop s).take (s + 124 - s)).length = s + 124 - s := by rw [List.length_take, List.length_drop]; omega
  have hsum := rsum_ok (W := W) (R := [Sl.Own 5 1 (.slice (some xa) l.length xc) l.length (bytes X)]) (ao := subA (some xa) xc s 1) (cap := xc - s) (l := (X.drop s).take (s + 124 - s)) (by rw [hpl]; exact rds_part (by rw [hX]; exact hXr _ (.head _)) s (s + 124) (by omega) (by omega) (by omega)) (by omega)
  rw [hpl] at hsum
  (refine zq ?_; refine zy rfl rfl (hsum) ?_)
  intro _ _
  have hcr : (crcS ((X.drop s).take (s + 124 - s))).toNat < 4294967296 := (crcS ((X.drop s).take (s + 124 - s))).isLt
  generalize (crcS ((X.drop s).take (s + 124 - s))).toNat = z at *
  refine w ?_
  clear hsum hpl
  refine VC.loop (α := Nat × List UInt8) (fun y => y.1 <= 4 /\ y.2.length = l.length) (fun y => Sl.Own 5 1 (.slice (some xa) l.length xc) l.length (bytes y.2) :: [])
   (fun y => [(1, .slice (some sa) sums.length scap), (2, .int .u16 blk), (7, .slice (some xa) l.length xc), (8, .int .i64 i), (9, .int .i64 s), (10, .int .u32 z), (11, .int .i64 y.1)]) (fun y => 4 - y.1) rfl (0, X) ⟨Nat.zero_le _, hX⟩ Ent.refl ⟨rfl, rfl, rfl, rfl, rfl, rfl, rfl, trivial⟩ ?_
  clear hX hXr
  rintro ⟨k, X⟩ ⟨hk, hX⟩
  dsimp only at hk hX
  refine w ?_
  refine zk ?_ ?_ <;> intro hc
  ·
   have hk4 : k < 4 := by have := of_decide_eq_true hc; omega
   clear hc
   refine w ?_
   refine VO.re 61 (.int .u64 ((8 * k : Nat) : Int)) rfl (by rw [show (8 : Int) * ((k, X).1 : Int) = ((8 * k : Nat) : Int) by dsimp only; omega, wrap64_of (by omega)]) ?_
   refine VO.re 57 (.int .i64 ((s + 124 + k : Nat) : Int)) rfl (by congr 1; dsimp only; omega) ?_
   refine w ?_
   obtain ⟨c, hcd⟩ : ∃ c : UInt8, c = UInt8.ofNat (z / 2 ^ (((8 * k : Nat) : Int)).toNat) := ⟨_, rfl⟩
   refine VO.re 63 (byteV c) rfl (by rw [hcd]; exact congrArg (Value.int .u8) (u8_of _)) ?_
   refine zq ?_
   refine OpV.stO2 (xs' := bytes (X.set (s + 124 + k) c)) tab_ok rfl rfl rfl rfl zh (by rw [bytes_length]; show s + 124 + k < X.length; omega) (by simp [bytes, List.map_set]) ?_
   refine w ?_
   exact VE.round (k + 1, X.set (s + 124 + k) c) ⟨hk4, by dsimp only; rw [List.length_set]; exact hX⟩ (by dsimp only; omega) ⟨rfl, rfl, rfl, rfl, rfl, rfl, asV rfl (by congr 1), trivial⟩ Ent.re
  clear hc
  refine w ?_
  exact VE.round (i + 1, X) ⟨hlt, hX⟩ (by dsimp only; omega) ⟨rfl, rfl, rfl, asV rfl (by congr 1), trivial⟩ Ent.re
 clear hc
 refine w ?_
 refine VC.join (α := List UInt8) (fun X => X.length = l.length) (fun X => Sl.Own 5 1 (.slice xo l.length xc) l.length (bytes X) :: []) (fun X => [(2, .int .u16 blk), (7, .slice xo l.length xc)]) (fun Q2 jn => ?_) (fun X hX => ?_)
 ·
  refine zk ?_ ?_ <;> intro hc
  ·
   have h10 : 10 < l.length := by have := of_decide_eq_true hc; omega
   clear hc
   obtain ⟨xa, rfl⟩ : ∃ x, xo = some x := by cases xo with | none => (have := hn rfl; omega) | some x => exact ⟨x, rfl⟩
   refine w ?_
   refine VO.re 71 (.int .i64 ((l.length - 4 : Nat) : Int)) rfl (by congr 1; omega) ?_
   refine w ?_
   have hpl : (X.take (l.length - 4)).length = l.length - 4 := by rw [List.length_take]; omega
   have hsum := rsum_ok (W := W) (R := [Sl.Own 5 1 (.slice (some xa) l.length xc) l.length (bytes X)]) (ao := some xa) (cap := xc) (l := X.take (l.length - 4)) (by rw [hpl]; exact rds_head (by rw [hX]; exact Rds.own (bytes_one _) (.head _) (by simp [hX]) (by simp)) (l.length - 4) (by omega)) (by omega)
   rw [hpl] at hsum
   (refine zq ?_; refine zy rfl rfl (hsum) ?_)
   intro _ _
   have hcr : (crcS (X.take (l.length - 4))).toNat < 4294967296 := (crcS (X.take (l.length - 4))).isLt
   generalize (crcS (X.take (l.length - 4))).toNat = z at *
   clear hsum hpl
   refine w ?_
   refine VC.loop (α := Nat × List UInt8) (fun y => y.1 <= 4 /\ y.2.length = l.length) (fun y => Sl.Own 5 1 (.slice (some xa) l.length xc) l.length (bytes y.2) :: [])
    (fun y => [(2, .int .u16 blk), (7, .slice (some xa) l.length xc), (12, .int .u32 z), (13, .int .i64 y.1)]) (fun y => 4 - y.1) rfl (0, X) ⟨Nat.zero_le _, hX⟩ Ent.refl ⟨rfl, rfl, rfl, rfl, trivial⟩ ?_
   clear hX
   rintro ⟨k, X⟩ ⟨hk, hX⟩
   dsimp only at hk hX
   refine w ?_
   refine zk ?_ ?_ <;> intro hc
   ·
    have hk4 : k < 4 := by have := of_decide_eq_true hc; omega
    clear hc
    refine w ?_
    refine VO.re 87 (.int .u64 ((8 * k : Nat) : Int)) rfl (by rw [show (8 : Int) * ((k, X).1 : Int) = ((8 * k : Nat) : Int) by dsimp only; omega, wrap64_of (by omega)]) ?_
    refine VO.re 83 (.int .i64 ((l.length - 4 + k : Nat) : Int)) rfl (by congr 1; dsimp only; omega) ?_
    refine w ?_
    obtain ⟨c, hcd⟩ : ∃ c : UInt8, c = UInt8.ofNat (z / 2 ^ (((8 * k : Nat) : Int)).toNat) := ⟨_, rfl⟩
    refine VO.re 89 (byteV c) rfl (by rw [hcd]; exact congrArg (Value.int .u8) (u8_of _)) ?_
    refine zq ?_
    refine OpV.stO2 (xs' := bytes (X.set (l.length - 4 + k) c)) tab_ok rfl rfl rfl rfl zh (by rw [bytes_length]; show l.length - 4 + k < X.length; omega) (by simp [bytes, List.map_set]) ?_
    refine w ?_
    exact VE.round (k + 1, X.set (l.length - 4 + k) c) ⟨hk4, by dsimp only; rw [List.length_set]; exact hX⟩ (by dsimp only; omega) ⟨rfl, rfl, rfl, asV rfl (by congr 1), trivial⟩ Ent.re
   clear hc
   refine w ?_
   exact jn.to X hX ⟨rfl, rfl, trivial⟩ Ent.re
  ·
   refine w ?_
   exact jn.to X hX ⟨rfl, rfl, trivial⟩ Ent.re
 ·
  rw [<- hX] at hxc hlen hn ⊢
  refine w ?_
  (refine zq ?_; refine zy rfl rfl (imgany_law blk hblk (Rds.own (bytes_one _) (.head _) (by simp) hn) hxc hlen) ?_)
  intro _ _
  refine w ?_
  refine VE.done1 rfl ?_ ?_
  · rfl
  · exact Ent.drop Ent.refl
end Go.Proofs.YtjebagmjcdaegaaGreat

/-! Text Gs. -/

set_option maxRecDepth 8000
set_option linter.unusedVariables false
set_option linter.unusedSimpArgs false
set_option linter.unusedSectionVars false
namespace Go.Proofs.YtjebagmjcdaegaaGreat
open Go.RowKit Go.Sl
theorem flatMap_short (l : List Nat) : (l.flatMap fun n : Nat => [Value.int .u16 (n : Int)]) = shorts l := by
 induction l with
 | nil => rfl
 | cons a r ih => rw [List.flatMap_cons, ih]; rfl
theorem shorts_of {W : World} {ao : Option Addr} {n cap : Nat} (h : InT Tryz.prog W 37 [.slice ao n cap]) : ∃ l : List Nat, l.length = n /\ RdsA W 1 ao n (shorts l) /\ n <= 140737488351232 /\ ∀ x ∈ l, x < 65536 := by
 obtain ⟨l, h1, h2, h3, h4, h5⟩ := h.list (fun c : Nat => [Value.int .u16 (c : Int)]) (fun c => c < 65536) 0 Tryz.underlying37 (by kernel_rfl) (fun o _ u hu => by simp at hu; subst hu; rfl) (fun cs hc => by
  obtain ⟨m, rfl, hw⟩ := hc.int_inv Tryz.underlying23
  obtain ⟨c, rfl, hlt⟩ := u16_ofI hw
  exact ⟨c, rfl, hlt⟩)
 have b1 : Tryz.prog.bytesOf 23 = 2 := by kernel_rfl
 rw [b1] at h5
 rw [flatMap_short] at h2
 exact ⟨l, h1, h2, by simp only [reachBytes] at h5; omega, h3⟩
end Go.Proofs.YtjebagmjcdaegaaGreat

