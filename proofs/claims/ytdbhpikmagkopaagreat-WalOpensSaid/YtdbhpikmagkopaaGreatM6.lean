import Derived.Test.YtdbhpikmagkopaaGreatM5
/-! Text Qd. -/
set_option maxRecDepth 8000
set_option maxHeartbeats 16000000
set_option linter.unusedVariables false
set_option linter.unusedSimpArgs false
set_option linter.unusedSectionVars false
namespace Go.Proofs.YtdbhpikmagkopaaGreat
open Go.RowKit Go.Sl
attribute [local irreducible] Own
variable {W : World} {R : List SProp}
namespace Rw
theorem shrI {P : Program} {n : Nat} {H : List SProp} {f : Fr} {dst : Option Tmp} {ty_ : TypeId} {pos : String} {after : Array Edge} {guard : Option (Nat × Bool)} {x y : Operand} {s u : TypeId} {k k' : IntKind} {m : Int} {j : Int} (hx : evalX f x = some (.int k m)) (hy : evalX f y = some (.int k' j)) (h0 : 0 <= j) (hb : j.toNat <= k.bits) :
  PureAt W P n H f { dst, op := .binOp .shr s x y u, type := ty_, pos, after, guard } (.int k (m.fdiv (2 ^ j.toNat))) := by
 unfold PureAt
 intro tm w hk _
 have e1 : ¬ j < 0 := by omega
 simp [execOp, hk.eval hx, hk.eval hy, eqGuard, binOp, Op.shift, e1, Nat.min_eq_left hb]
def ub (z : Int) : UInt8 := UInt8.ofNat (z % 256).toNat
theorem ub_of (z : Int) : byteV (ub z) = Value.int .u8 (IntKind.u8.wrap z) := by
 have h : IntKind.u8.wrap z = z % 256 := by
  simp only [IntKind.wrap, IntKind.bits, IntKind.signed, Bool.false_and, Bool.false_eq_true, if_false]
  omega
 unfold byteV ub
 rw [h]
 congr 1
 have : (z % 256).toNat < 256 := by omega
 rw [UInt8.toNat_ofNat', Nat.mod_eq_of_lt (by simpa using this)]
 omega
def rb (x y k : Int) : List UInt8 := [ub x, ub y, ub k, 5]
theorem rb_bytes (x y k : Int) : bytes (rb x y k) = [.int .u8 (IntKind.u8.wrap x), .int .u8 (IntKind.u8.wrap y), .int .u8 (IntKind.u8.wrap k), .int .u8 5] := by
 show [byteV (ub x), byteV (ub y), byteV (ub k), byteV 5] = _
 rw [ub_of, ub_of, ub_of]; rfl
abbrev rb1 (a k : Nat) : List UInt8 := rb (a : Int) (((a / 2 ^ 8 : Nat)) : Int) (k : Int)
abbrev rb2 (a k : Nat) : List UInt8 := rb (-1 - (a : Int)) ((-1 - (a : Int)).fdiv (2 ^ 8)) (k : Int)
abbrev hd (b : Nat) : Value := .slice (some ⟨b, 0, none⟩) 4 4
abbrev hdrs (bs : List Nat) : List Value := bs.map hd
theorem hdrs_one (bs : List Nat) : ∀ u ∈ hdrs bs, u.oneCell' = true := by
 intro u hu; obtain ⟨b, _, rfl⟩ := List.mem_map.1 hu; rfl
abbrev Pool := List (Nat × List UInt8)
def rowR (x : Nat × List UInt8) : SProp := Row x.1 5 (bytes x.2)
abbrev poolR (p : Pool) : SProp := pile rowR p
theorem pool_rds {H : List SProp} {p : Pool} {b : Nat} {l : List UInt8} (m : poolR p ∈ H) (h : (b, l) ∈ p) : Rds W H 1 (some ⟨b, 0, none⟩) l.length (bytes l) :=
 Rds.pile m h fun R hR => Rds.row (bytes_one _) hR (by simp)
def res (e : ListN) : SProp := Own 65 1 (.slice e.ao e.n e.cap) e.n e.xs
def mkd (E : List ListN) (Bs : List (List Nat)) : List ListN := E.mapIdx fun j e => match Bs[j]? with
  | some bs => ⟨e.ao, e.cap, e.n, hdrs bs⟩
  | none => e
theorem mkd_length (E : List ListN) (Bs : List (List Nat)) : (mkd E Bs).length = E.length := by simp [mkd]
theorem mkd_get (E : List ListN) (Bs : List (List Nat)) (j : Nat) (h : j < E.length) : (mkd E Bs)[j]'(by rw [mkd_length]; exact h) = match Bs[j]? with
 | some bs => ⟨E[j].ao, E[j].cap, E[j].n, hdrs bs⟩
 | none => E[j] := by simp [mkd]
theorem mkd_nil (E : List ListN) : mkd E [] = E := by
 unfold mkd; apply List.ext_getElem (by simp); intro i h1 h2; simp
theorem mkd_set (E : List ListN) (Bs : List (List Nat)) (bs : List Nat) (h : Bs.length < E.length) : (mkd E Bs).set Bs.length ⟨E[Bs.length].ao, E[Bs.length].cap, E[Bs.length].n, hdrs bs⟩ = mkd E (Bs ++ [bs]) := by
 apply List.ext_getElem (by simp [mkd_length])
 intro j h1 h2
 have hj : j < E.length := by simpa [mkd_length] using h2
 rw [List.getElem_set, mkd_get E (Bs ++ [bs]) j hj]
 split
 · rename_i q; subst q; rw [List.getElem?_append_right (Nat.le_refl _)]; simp
 ·
  rename_i q
  rw [mkd_get E Bs j hj]
  by_cases q2 : j < Bs.length
  · rw [List.getElem?_append_left q2]
  · rw [List.getElem?_eq_none (by omega), List.getElem?_eq_none (by simp; omega)]
structure In (a : Nat) (n : Nat) (bs : List Nat) (p : Pool) (g : Nat -> Nat -> List UInt8) : Prop where
  len : bs.length = n
  all : ∀ k b, bs[k]? = some b -> (b, g a k) ∈ p
theorem In.more {a n : Nat} {bs : List Nat} {p : Pool} {g : Nat -> Nat -> List UInt8} (h : In a n bs p g) {q : Pool} (hs : ∀ x ∈ p, x ∈ q) : In a n bs q g := ⟨h.len, fun k b hk => hs _ (h.all k b hk)⟩
theorem In.push {a : Nat} {bs : List Nat} {p : Pool} {g : Nat -> Nat -> List UInt8} (h : In a bs.length bs p g) (b : Nat) : In a (bs ++ [b]).length (bs ++ [b]) (p ++ [(b, g a bs.length)]) g := by
 refine ⟨rfl, fun k c hk => ?_⟩
 by_cases q : k < bs.length
 ·
  rw [List.getElem?_append_left q] at hk
  exact List.mem_append_left _ (h.all k c hk)
 ·
  rw [List.getElem?_append_right (by omega)] at hk
  have hkk : k - bs.length = 0 := by
   cases hz : k - bs.length with
   | zero => rfl
   | succ z => rw [hz] at hk; cases hk
  rw [hkk] at hk
  injection hk with hk
  subst hk
  rw [show k = bs.length by omega]
  simp
abbrev Grn := Option Addr × Nat × List Nat
def twin (e : ListN) (g : Grn) : SProp := TwinR 65 1 e.ao e.cap e.n e.xs g.1 g.2.1 (e.n + g.2.2.length) (e.xs ++ hdrs g.2.2)
def grs (M : List ListN) (Gs : List Grn) : List SProp := M.mapIdx fun j e => match Gs[j]? with
  | some g => twin e g
  | none => res e
theorem grs_length (M : List ListN) (Gs : List Grn) : (grs M Gs).length = M.length := by simp [grs]
theorem grs_nil (M : List ListN) : grs M [] = M.map res := by
 unfold grs; apply List.ext_getElem (by simp); intro i h1 h2; simp
theorem grs_get (M : List ListN) (Gs : List Grn) (j : Nat) (h : j < M.length) : (grs M Gs)[j]'(by rw [grs_length]; exact h) = match Gs[j]? with
 | some g => twin M[j] g
 | none => res M[j] := by simp [grs]
theorem grs_set (M : List ListN) (Gs : List Grn) (g : Grn) (h : Gs.length < M.length) : (grs M Gs).set Gs.length (twin M[Gs.length] g) = grs M (Gs ++ [g]) := by
 apply List.ext_getElem (by simp [grs_length])
 intro j h1 h2
 have hj : j < M.length := by simpa [grs_length] using h2
 rw [List.getElem_set, grs_get M (Gs ++ [g]) j hj]
 split
 · rename_i q; subst q; rw [List.getElem?_append_right (Nat.le_refl _)]; simp
 ·
  rename_i q
  rw [grs_get M Gs j hj]
  by_cases q2 : j < Gs.length
  · rw [List.getElem?_append_left q2]
  · rw [List.getElem?_eq_none (by omega), List.getElem?_eq_none (by simp; omega)]
def longH (M : List ListN) (Gs : List Grn) : List Value := Gs.mapIdx fun j g => .slice g.1 (((M[j]?).map fun e => e.n).getD 0 + g.2.2.length) g.2.1
theorem longH_length (M : List ListN) (Gs : List Grn) : (longH M Gs).length = Gs.length := by simp [longH]
theorem longH_snoc (M : List ListN) (Gs : List Grn) (g : Grn) (h : Gs.length < M.length) : longH M (Gs ++ [g]) = longH M Gs ++ [.slice g.1 (M[Gs.length].n + g.2.2.length) g.2.1] := by
 unfold longH
 rw [List.mapIdx_append]
 congr 1
 simp [List.getElem?_eq_getElem h]
theorem longH_one (M : List ListN) (Gs : List Grn) : ∀ u ∈ longH M Gs, u.oneCell' = true := by
 intro u hu
 obtain ⟨j, hj, rfl⟩ := List.mem_iff_getElem.1 hu
 simp [longH, Value.oneCell']
theorem hdrs_set {bs : List Nat} {xs : List Value} {k : Nat} (hk : bs.length = k) (h : k < xs.length) (b : Nat) : (hdrs bs ++ xs.drop k).set k (hd b) = hdrs (bs ++ [b]) ++ xs.drop (k + 1) := by
 subst hk
 rw [List.set_append_right _ _ (by rw [List.length_map]; exact Nat.le_refl _), List.length_map, Nat.sub_self, List.drop_eq_getElem_cons h, List.set_cons_zero, hdrs, hdrs, List.map_append, List.append_assoc]; rfl
theorem own_ok {lo : Option Addr} {lc : Nat} {E : List ListN} (hn : E.length <= 1000000000) (hl : ∀ e ∈ E, e.n <= 1000000000) :
  Does1 W Tryz.prog 73 [.slice lo E.length lc] (Own 43 1 (.slice lo E.length lc) E.length (E.map ListN.hdr) :: (E.map res ++ R)) (.bool true) R := by
 (refine Does.enter Tryz.func73 Tryz.ntmps73 rfl rfl ?_)
 refine VC.know (p := lo = none -> E.length = 0) (fun w hw => hw.ownNone (.head _)) ?_
 intro hln
 refine w ?_
 refine VC.loop (α := List (List Nat) × Pool) (fun y => y.1.length <= E.length /\ ∀ j bs, y.1[j]? = some bs -> ∀ e, E[j]? = some e -> In j e.n bs y.2 rb1)
  (fun y => Own 43 1 (.slice lo E.length lc) E.length (E.map ListN.hdr) :: poolR y.2 :: ((mkd E y.1).map res ++ R)) (fun y => [(0, .slice lo E.length lc), (3, .int .i64 y.1.length)]) (fun y => E.length - y.1.length) rfl ([], []) ⟨Nat.zero_le _, fun j bs h => (by cases h)⟩
  (by rw [mkd_nil]; exact fun w hw => (pile_nil (res := rowR) hw).swap) ⟨rfl, rfl, trivial⟩ ?_
 rintro ⟨Bs, pool⟩ ⟨ha, hin⟩
 dsimp only at ha hin ⊢
 refine w ?_
 refine zk ?_ ?_ <;> intro hc
 ·
  have hlt : Bs.length < E.length := by have := of_decide_eq_true hc; omega
  obtain ⟨lb, rfl⟩ : ∃ lb, lo = some lb := by cases lo with | none => have := hln rfl; omega | some lb => exact ⟨lb, rfl⟩
  have hla := hl _ (List.getElem_mem hlt)
  have hget : (E.map ListN.hdr)[Bs.length]? = some (.slice E[Bs.length].ao E[Bs.length].n E[Bs.length].cap) := by rw [List.getElem?_map, List.getElem?_eq_getElem hlt]; rfl
  have hmlen : ((mkd E Bs).map res).length = E.length := by rw [List.length_map, mkd_length]
  have hself : (mkd E Bs).map res = ((mkd E Bs).map res).set Bs.length (Own 65 1 (.slice E[Bs.length].ao E[Bs.length].n E[Bs.length].cap) E[Bs.length].n (hdrs [] ++ E[Bs.length].xs.drop 0)) := by
   have e1 : ((mkd E Bs).map res)[Bs.length]'(by rw [hmlen]; exact hlt) = Own 65 1 (.slice E[Bs.length].ao E[Bs.length].n E[Bs.length].cap) E[Bs.length].n (hdrs [] ++ E[Bs.length].xs.drop 0) := by
    rw [List.getElem_map, mkd_get E Bs _ hlt, List.getElem?_eq_none (Nat.le_refl _)]; rfl
   rw [<- e1, List.set_getElem_self]
  have hnext : ∀ bs, ((mkd E Bs).map res).set Bs.length (Own 65 1 (.slice E[Bs.length].ao E[Bs.length].n E[Bs.length].cap) E[Bs.length].n (hdrs bs)) = (mkd E (Bs ++ [bs])).map res := fun bs => by
   rw [<- mkd_set E Bs bs hlt, List.map_set]; rfl
  generalize hL : (mkd E Bs).map res = L at *
  refine w ?_
  refine VC.loop (α := List Nat × Pool) (fun y => y.1.length <= E[Bs.length].n /\ In Bs.length y.1.length y.1 y.2 rb1 /\ ∀ x ∈ pool, x ∈ y.2)
   (fun y => Own 43 1 (.slice (some lb) E.length lc) E.length (E.map ListN.hdr) :: poolR y.2 :: (L.set Bs.length (Own 65 1 (.slice E[Bs.length].ao E[Bs.length].n E[Bs.length].cap) E[Bs.length].n (hdrs y.1 ++ E[Bs.length].xs.drop y.1.length)) ++ R))
   (fun y => [(0, .slice (some lb) E.length lc), (3, .int .i64 Bs.length), (4, .int .i64 y.1.length)]) (fun y => E[Bs.length].n - y.1.length) rfl ([], pool) ⟨Nat.zero_le _, ⟨rfl, fun k b h => (by cases h)⟩, fun _ h => h⟩ (by dsimp only [List.length_nil]; rw [<- hself]; exact Ent.refl) ⟨rfl, rfl, rfl, trivial⟩ ?_
  rintro ⟨bs, pl⟩ ⟨hk, hb, hs⟩
  dsimp only at hk hb hs ⊢
  refine VC.know (p := E[Bs.length].ao = none -> E[Bs.length].n = 0) (fun w hw => Holds.ownNone hw (.tail _ (.tail _ (mem_set L _ _ (by omega))))) ?_
  intro han
  refine VC.know (fun w hw => Holds.ownLen hw (.tail _ (.tail _ (mem_set L _ _ (by omega))))) ?_
  intro hlen
  refine w ?_
  refine VO.pure rfl rfl (PureAt.ldR tab_ok rfl rfl (Rds.own (ListN.hdrs_one E) (.head _) (by rw [List.length_map, Nat.mul_one]) (fun h => by cases h)) hget) rfl ?_
  refine w ?_
  refine zk ?_ ?_ <;> intro hc
  ·
   have hkt : bs.length < E[Bs.length].n := by have := of_decide_eq_true hc; omega
   obtain ⟨xa, hxa⟩ : ∃ xa, E[Bs.length].ao = some xa := by cases h : E[Bs.length].ao with | none => have := han h; omega | some xa => exact ⟨xa, rfl⟩
   rw [hxa] at hget ⊢
   refine w ?_
   refine VO.pure rfl rfl (PureAt.ldR tab_ok rfl rfl (Rds.own (ListN.hdrs_one E) (.head _) (by rw [List.length_map, Nat.mul_one]) (fun h => by cases h)) hget) rfl ?_
   refine w ?_
   (refine zq ?_; refine OpV.buildSlice1 st_65 rfl rfl (by first | (simp; done) | simp [Value.oneCell']) (by decide) rfl ?_; intro nb)
   refine w ?_
   refine zq ?_
   refine OpV.stO tab_ok rfl rfl rfl rfl (.tail (.tail (.tail (hole_set L _ _ (by omega))))) (by rw [hlen]; omega) ?_
   rw [hdrs_set rfl (by rw [List.length_append, List.length_map, List.length_drop] at hlen; omega) nb]
   refine w ?_
   refine VE.round (bs ++ [nb], pl ++ [(nb, rb1 Bs.length bs.length)]) ⟨by simp only [List.length_append, List.length_singleton]; omega, hb.push nb, fun x hx => List.mem_append_left _ (hs x hx)⟩ (by simp only [List.length_append, List.length_singleton]; omega) ⟨rfl, rfl, asV rfl (by simp), trivial⟩ ?_
   dsimp only
   rw [List.length_append, List.length_singleton]
   have hrow : Row nb 5 [.int .u8 (IntKind.u8.wrap (Bs.length : Int)), .int .u8 (IntKind.u8.wrap ((Bs.length / 2 ^ 8 : Nat) : Int)), .int .u8 (IntKind.u8.wrap (bs.length : Int)), .int .u8 5] = rowR (nb, rb1 Bs.length bs.length) := by
    unfold rowR; rw [rb_bytes]
   refine Ent.trans (H' := rowR (nb, rb1 Bs.length bs.length) :: poolR pl :: Own 43 1 (.slice (some lb) E.length lc) E.length (E.map ListN.hdr) :: (L.set Bs.length (Own 65 1 (.slice (some xa) E[Bs.length].n E[Bs.length].cap) E[Bs.length].n (hdrs (bs ++ [nb]) ++ E[Bs.length].xs.drop (bs.length + 1))) ++ R)) (by rw [<- hrow]; exact Ent.re) (fun w hw => (pile_push (res := rowR) hw).swap)
  ·
   have hge : bs.length = E[Bs.length].n := by have := of_decide_eq_false hc; omega
   rw [List.length_append, List.length_map] at hlen
   have hz : E[Bs.length].xs.drop bs.length = [] := List.eq_nil_of_length_eq_zero (by omega)
   rw [hz, List.append_nil, hnext]
   refine w ?_
   refine VE.round (Bs ++ [bs], pl) ⟨by simp only [List.length_append, List.length_singleton]; omega, fun j cs hj e he => ?_⟩ (by simp only [List.length_append, List.length_singleton]; omega) ⟨rfl, asV rfl (by simp), trivial⟩ Ent.refl
   by_cases q : j < Bs.length
   ·
    dsimp only at hj
    rw [List.getElem?_append_left q] at hj
    exact (hin j cs hj e he).more hs
   ·
    dsimp only at hj
    rw [List.getElem?_append_right (by omega)] at hj
    have hz : j - Bs.length = 0 := by
     cases hz : j - Bs.length with
     | zero => rfl
     | succ z => rw [hz] at hj; cases hj
    rw [hz] at hj
    injection hj with hj
    subst hj
    obtain rfl : j = Bs.length := by omega
    rw [List.getElem?_eq_getElem hlt] at he
    injection he with he
    subst he
    exact ⟨hge, hb.all⟩
 have hge : Bs.length = E.length := by have := of_decide_eq_false hc; omega
 clear hc ha
 -- every list has new rows
 obtain ⟨M, hM⟩ : ∃ M, M = mkd E Bs := ⟨_, rfl⟩
 have hML : M.length = E.length := by rw [hM]; exact mkd_length _ _
 have hMg : ∀ j (h : j < M.length), M[j] = ⟨(E[j]'(by omega)).ao, (E[j]'(by omega)).cap, (E[j]'(by omega)).n, hdrs (Bs[j]'(by omega))⟩ := fun j h => by
  subst hM; rw [mkd_get E _ j (by omega), List.getElem?_eq_getElem (by omega)]
 have hMh : E.map ListN.hdr = M.map ListN.hdr := by
  apply List.ext_getElem (by simp [hML])
  intro j h1 h2
  have hj : j < M.length := by simpa using h2
  rw [List.getElem_map, List.getElem_map, hMg j hj]
 have hMl : ∀ j (h : j < M.length), M[j].n <= 1000000000 /\ ∃ bs, M[j].xs = hdrs bs /\ In j M[j].n bs pool rb1 := fun j h => by
  have := hin j (Bs[j]'(by omega)) (List.getElem?_eq_getElem _) (E[j]'(by omega)) (List.getElem?_eq_getElem _)
  rw [hMg j h]; exact ⟨hl (E[j]'(by omega)) (List.getElem_mem _), _, rfl, this⟩
 refine w ?_
 rw [<- hM, hMh, <- hML]
 rw [<- hML] at hln hn
 clear hMh hMg hl hML hM hin hge
 refine VC.ent (H' := Own 43 1 (.slice none 0 0) 0 (longH M []) :: Own 43 1 (.slice lo M.length lc) M.length (M.map ListN.hdr) :: poolR pool :: (grs M [] ++ R)) (fun w hw => by rw [grs_nil]; exact hw.ownNil _ _) ?_
 refine VC.loop (α := List Grn × Pool × Option Addr × Nat) (fun g => g.1.length <= M.length /\ (∀ x ∈ pool, x ∈ g.2.1) /\ ∀ j c, g.1[j]? = some c -> In j 16 c.2.2 g.2.1 rb2)
  (fun g => Own 43 1 (.slice g.2.2.1 g.1.length g.2.2.2) g.1.length (longH M g.1) :: Own 43 1 (.slice lo M.length lc) M.length (M.map ListN.hdr) :: poolR g.2.1 :: (grs M g.1 ++ R))
  (fun g => [(0, .slice lo M.length lc), (5, .slice g.2.2.1 g.1.length g.2.2.2), (6, .int .i64 g.1.length)]) (fun g => M.length - g.1.length) rfl ([], pool, none, 0) ⟨Nat.zero_le _, fun _ h => h, fun j c h => (by cases h)⟩ Ent.refl ⟨rfl, rfl, rfl, trivial⟩ ?_
 rintro ⟨Gs, pl, go, gc⟩ ⟨ha, hsub, hgin⟩
 dsimp only at ha hsub hgin ⊢
 refine w ?_
 refine zk ?_ ?_ <;> intro hc
 ·
  have hlt : Gs.length < M.length := by have := of_decide_eq_true hc; omega
  obtain ⟨lb, rfl⟩ : ∃ lb, lo = some lb := by cases lo with | none => have := hln rfl; omega | some lb => exact ⟨lb, rfl⟩
  obtain ⟨hla, -⟩ := hMl Gs.length hlt
  have hget : (M.map ListN.hdr)[Gs.length]? = some (.slice M[Gs.length].ao M[Gs.length].n M[Gs.length].cap) := by rw [List.getElem?_map, List.getElem?_eq_getElem hlt]; rfl
  have hself : grs M Gs = (grs M Gs).set Gs.length (res M[Gs.length]) := by
   have e1 : (grs M Gs)[Gs.length]'(by rw [grs_length]; exact hlt) = res M[Gs.length] := by
    rw [grs_get M Gs _ hlt, List.getElem?_eq_none (Nat.le_refl _)]
   rw [<- e1, List.set_getElem_self]
  have hnext (g : Grn) := grs_set M Gs g hlt
  have hlnext (g : Grn) := longH_snoc M Gs g hlt
  have hgl := grs_length M Gs
  generalize hL : grs M Gs = L at *
  refine w ?_
  refine VO.pure rfl rfl (PureAt.ldR tab_ok rfl rfl (Rds.own (ListN.hdrs_one M) (.tail _ (.head _)) (by rw [List.length_map, Nat.mul_one]) (fun h => by cases h)) hget) rfl ?_
  refine w ?_
  refine VC.loop (α := Grn × Pool) (fun g => g.1.2.2.length <= 16 /\ In Gs.length g.1.2.2.length g.1.2.2 g.2 rb2 /\ ∀ x ∈ pl, x ∈ g.2)
   (fun g => Own 43 1 (.slice go Gs.length gc) Gs.length (longH M Gs) :: Own 43 1 (.slice (some lb) M.length lc) M.length (M.map ListN.hdr) :: poolR g.2 :: (L.set Gs.length (twin M[Gs.length] g.1) ++ R))
   (fun g => [(0, .slice (some lb) M.length lc), (5, .slice go Gs.length gc), (6, .int .i64 Gs.length), (7, .slice g.1.1 (M[Gs.length].n + g.1.2.2.length) g.1.2.1), (8, .int .i64 g.1.2.2.length)]) (fun g => 16 - g.1.2.2.length) rfl ((M[Gs.length].ao, M[Gs.length].cap, []), pl) ⟨Nat.zero_le _, ⟨rfl, fun k b h => (by cases h)⟩, fun _ h => h⟩
   (by
    rw [hself, List.set_set]
    refine Ent.hole (Hole.tail (Hole.tail (Hole.tail (hole_set L Gs.length _ (by omega))))) (fun R w hw => ?_)
    have := TwinR.start hw
    simpa [twin] using this) ⟨rfl, rfl, rfl, rfl, rfl, trivial⟩ ?_
  rintro ⟨⟨xo, xc, cs⟩, pm⟩ ⟨hk, hb, hs⟩
  dsimp only at hk hb hs ⊢
  refine w ?_
  refine zk ?_ ?_ <;> intro hc
  ·
   have hkt : cs.length < 16 := by have := of_decide_eq_true hc; omega
   refine w ?_
   refine VO.pure rfl rfl (shrI rfl rfl (by decide) (by decide)) rfl ?_
   refine w ?_
   (refine zq ?_; refine OpV.buildSlice1 st_65 rfl rfl (by first | (simp; done) | simp [Value.oneCell']) (by decide) rfl ?_; intro n4)
   (refine zq ?_; refine OpV.buildSlice1 st_43 rfl rfl (by first | (simp; done) | simp [Value.oneCell']) (by decide) rfl ?_; intro nb)
   refine zq ?_
   refine OpV.appendT (news := [hd n4]) (m := 1) st_43 rfl rfl (.tail (.tail (.tail (.tail (.tail (hole_set L Gs.length _ (by omega))))))) (fun w hw => (Sees.row (ys := []) (by simp [Value.oneCell']) rfl hw (.head _)).src st_43.und) ?_ ?_ rfl ?_
   · simp only [maxLen]; omega
   · omega
   intro xo' xc'
   refine w ?_
   refine VE.round ((xo', xc', cs ++ [n4]), pm ++ [(n4, rb2 Gs.length cs.length)]) ⟨by simp only [List.length_append, List.length_singleton]; omega, hb.push n4, fun x hx => List.mem_append_left _ (hs x hx)⟩ (by simp only [List.length_append, List.length_singleton]; omega) ⟨rfl, rfl, rfl, asV rfl (by simp [Nat.add_assoc]), asV rfl (by simp), trivial⟩ ?_
   dsimp only
   have hrow : Row n4 5 [.int .u8 (IntKind.u8.wrap (-1 - (Gs.length : Int))), .int .u8 (IntKind.u8.wrap ((-1 - (Gs.length : Int)).fdiv (2 ^ 8))), .int .u8 (IntKind.u8.wrap (cs.length : Int)), .int .u8 5] = rowR (n4, rb2 Gs.length cs.length) := by
    unfold rowR; rw [rb_bytes]
   have htw : twin M[Gs.length] (xo', xc', cs ++ [n4]) = TwinR 65 1 M[Gs.length].ao M[Gs.length].cap M[Gs.length].n M[Gs.length].xs xo' xc' (M[Gs.length].n + cs.length + 1) (M[Gs.length].xs ++ hdrs cs ++ [hd n4]) := by
    unfold twin
    dsimp only
    rw [List.length_append, List.length_singleton, hdrs, List.map_append, <- List.append_assoc, <- Nat.add_assoc]; rfl
   rw [htw]
   refine Ent.trans (H' := rowR (n4, rb2 Gs.length cs.length) :: poolR pm :: Own 43 1 (.slice go Gs.length gc) Gs.length (longH M Gs) :: Own 43 1 (.slice (some lb) M.length lc) M.length (M.map ListN.hdr) :: (L.set Gs.length (TwinR 65 1 M[Gs.length].ao M[Gs.length].cap M[Gs.length].n M[Gs.length].xs xo' xc' (M[Gs.length].n + cs.length + 1) (M[Gs.length].xs ++ hdrs cs ++ [hd n4])) ++ R)) (by rw [<- hrow]; exact Ent.re) (fun w hw => ?_)
   exact (pile_push (res := rowR) hw).perm ((List.Perm.swap _ _ _).trans ((List.Perm.swap _ _ _).cons _))
  ·
   have hge : cs.length = 16 := by have := of_decide_eq_false hc; omega
   rw [hnext]
   refine w ?_
   (refine zq ?_; refine OpV.buildSlice1 st_51 rfl rfl (by first | (simp; done) | simp [Value.oneCell']) (by decide) rfl ?_; intro nb)
   (refine zq ?_; refine OpV.appendRow st_51 rfl rfl zh zm rfl (by first | (simp; done) | simp [Value.oneCell']) ?_ ?_ rfl ?_)
   · simp only [maxLen]; omega
   · omega
   intro go' gc'
   rw [<- hlnext (xo, xc, cs)]
   refine w ?_
   refine VE.round (Gs ++ [(xo, xc, cs)], pm, go', gc') ⟨by rw [List.length_append]; exact hlt, fun x hx => hs x (hsub x hx), fun j c hj => ?_⟩ (by simp only [List.length_append, List.length_singleton]; omega) ⟨rfl, asV rfl (by rw [List.length_append]; rfl), asV rfl (by rw [List.length_append]; rfl), trivial⟩ ?_
   ·
    dsimp only at hj
    by_cases q : j < Gs.length
    ·
     rw [List.getElem?_append_left q] at hj
     exact (hgin j c hj).more hs
    ·
     rw [List.getElem?_append_right (by omega)] at hj
     have hz : j - Gs.length = 0 := by
      cases hz : j - Gs.length with
      | zero => rfl
      | succ z => rw [hz] at hj; cases hj
     rw [hz] at hj
     injection hj with hj
     subst hj
     obtain rfl : j = Gs.length := by omega
     exact ⟨hge, hb.all⟩
   dsimp only
   rw [List.length_append]
   exact Ent.re
 have hge : Gs.length = M.length := by have := of_decide_eq_false hc; omega
 clear hc ha
 refine w ?_
 refine VC.know (p := go = none -> Gs.length = 0) (fun w hw => Holds.ownNone hw (.head _)) ?_
 intro hgn
 generalize hH : (Own 43 1 (.slice go Gs.length gc) Gs.length (longH M Gs) :: Own 43 1 (.slice lo M.length lc) M.length (M.map ListN.hdr) :: poolR pl :: (grs M Gs ++ R)) = HH
 have hr1 : Rds W HH 1 lo M.length (M.map ListN.hdr) := by subst hH; exact Rds.own (ListN.hdrs_one M) (.tail _ (.head _)) (by rw [List.length_map, Nat.mul_one]) hln
 have hr2 : Rds W HH 1 go Gs.length (longH M Gs) := by subst hH; exact Rds.own (longH_one M Gs) (.head _) (by rw [longH_length, Nat.mul_one]) hgn
 have hpm : poolR pl ∈ HH := by subst hH; exact .tail _ (.tail _ (.head _))
 have hend : Ent W HH R := by
  subst hH
  exact Ent.drop (Ent.drop (Ent.drop (fun w hw => by
   have : ∀ (X : List SProp) w, Holds W (X ++ R) w -> Holds W R w := fun X => by
    induction X with
    | nil => exact fun w h => h
    | cons a r ih => exact fun w h => ih w h.tail
   exact this _ w hw)))
 have htw : ∀ a (h : a < M.length), twin M[a] (Gs[a]'(by omega)) ∈ HH := fun a h => by
  subst hH
  refine .tail _ (.tail _ (.tail _ (List.mem_append_left _ (List.mem_iff_getElem.2 ⟨a, by rw [grs_length]; exact h, ?_⟩))))
  rw [grs_get M Gs a h, List.getElem?_eq_getElem (by omega)]
 have hlg : ∀ a (h : a < M.length), (longH M Gs)[a]? = some (.slice (Gs[a]'(by omega)).1 (M[a].n + (Gs[a]'(by omega)).2.2.length) (Gs[a]'(by omega)).2.1) := fun a h => by
  unfold longH
  rw [List.getElem?_mapIdx, List.getElem?_eq_getElem h, List.getElem?_eq_getElem (l := Gs) (by omega)]; rfl
 clear hH
 refine VC.loop (α := Nat) (fun a => a <= M.length) (fun _ => HH)
  (fun a => [(0, .slice lo M.length lc), (5, .slice go Gs.length gc), (9, .int .i64 a)]) (fun a => M.length - a) rfl 0 (Nat.zero_le _) Ent.refl ⟨rfl, rfl, rfl, trivial⟩ ?_
 intro a ha
 refine w ?_
 refine zk ?_ ?_ <;> intro hc
 ·
  have hlt : a < M.length := by have := of_decide_eq_true hc; omega
  obtain ⟨lb, rfl⟩ : ∃ lb, lo = some lb := by cases lo with | none => have := hln rfl; omega | some lb => exact ⟨lb, rfl⟩
  obtain ⟨gb, rfl⟩ : ∃ gb, go = some gb := by cases go with | none => have := hgn rfl; omega | some gb => exact ⟨gb, rfl⟩
  obtain ⟨hla, bs, hxs, hbs⟩ := hMl a hlt
  have hget : (M.map ListN.hdr)[a]? = some (.slice M[a].ao M[a].n M[a].cap) := by rw [List.getElem?_map, List.getElem?_eq_getElem hlt]; rfl
  have htw := htw a hlt
  have hlg := hlg a hlt
  have hgl : a < Gs.length := by omega
  have hgs := hgin a (Gs[a]'hgl) (List.getElem?_eq_getElem hgl)
  generalize Gs[a] = g at *
  generalize M[a] = e at *
  obtain ⟨g1, g2, cs⟩ := g
  dsimp only at hgs hlg htw
  have hcl := hgs.len
  rw [hcl] at hlg
  have hel : e.xs.length = e.n := by rw [hxs, List.length_map, hbs.len]
  have h1 : ∀ u ∈ e.xs, u.oneCell' = true := by rw [hxs]; exact hdrs_one _
  have h2 : ∀ u ∈ e.xs ++ hdrs cs, u.oneCell' = true := fun u hu => by
   rcases List.mem_append.1 hu with q | q
   · exact h1 u q
   · exact hdrs_one _ u q
  refine VC.know (fun w hw => TwinR.none hw htw) ?_
  rintro ⟨hon, hnn⟩
  dsimp only at hnn
  have ho : Rds W HH 1 e.ao e.n e.xs := TwinR.rdsOld htw h1 (by rw [hel, Nat.mul_one]) hon
  have hw' : Rds W HH 1 g1 (e.n + 16) (e.xs ++ hdrs cs) := by
   have := TwinR.rdsNew (W := W) htw h2 (by rw [List.length_append, List.length_map, hel, Nat.mul_one]) hnn
   dsimp only at this
   rwa [hcl] at this
  obtain ⟨gx, rfl⟩ : ∃ gx, g1 = some gx := by cases h : g1 with | none => have := hnn h; omega | some gx => exact ⟨gx, rfl⟩
  refine w ?_
  refine VO.pure rfl rfl (PureAt.ldR tab_ok rfl rfl hr1 hget) rfl ?_
  refine w ?_
  refine VC.loop (α := Nat) (fun k => k <= e.n) (fun _ => HH)
   (fun k => [(0, .slice (some lb) M.length lc), (5, .slice (some gb) Gs.length gc), (9, .int .i64 a), (10, .int .i64 e.n), (11, .int .i64 k)]) (fun k => e.n - k) rfl 0 (Nat.zero_le _) Ent.refl ⟨rfl, rfl, rfl, rfl, rfl, trivial⟩ ?_
  intro k hk
  refine w ?_
  refine zk ?_ ?_ <;> intro hc
  ·
   have hkt : k < e.n := by have := of_decide_eq_true hc; omega
   obtain ⟨ox, hox⟩ : ∃ ox, e.ao = some ox := by cases h : e.ao with | none => have := hon h; omega | some ox => exact ⟨ox, rfl⟩
   rw [hox] at hget ho
   have hbk : k < bs.length := by rw [hbs.len]; exact hkt
   have hk1 : e.xs[k]? = some (.slice (some ⟨bs[k], 0, none⟩) 4 4) := by rw [hxs, List.getElem?_map, List.getElem?_eq_getElem hbk]; rfl
   have hk2 : (e.xs ++ hdrs cs)[k]? = some (.slice (some ⟨bs[k], 0, none⟩) 4 4) := by rw [List.getElem?_append_left (by omega)]; exact hk1
   have hpk : Rds W HH 1 (some ⟨bs[k], 0, none⟩) 4 (bytes (rb1 a k)) := pool_rds hpm (hsub _ (hbs.all k _ (List.getElem?_eq_getElem hbk)))
   refine w ?_
   refine VO.pure rfl rfl (PureAt.ldR tab_ok rfl rfl hr1 hget) rfl ?_
   refine w ?_
   refine VO.pure rfl rfl (PureAt.ldR tab_ok rfl rfl ho hk1) rfl ?_
   refine w ?_
   (refine zq ?_; refine OpV.buildSlice1 st_65 rfl rfl (by first | (simp; done) | simp [Value.oneCell']) (by decide) rfl ?_; intro n1)
   refine VO.ent (H' := Row n1 5 (bytes (rb1 a k)) :: HH) (by rw [rb_bytes]; exact Ent.refl) ?_
   refine w ?_
   (refine zq ?_; refine zy rfl rfl (same_any (a := rb1 a k) (b := rb1 a k) (hpk.ent (Ent.drop Ent.refl)) (Rds.row (bytes_one _) (.head _) (by simp [rb])) (by decide)) ?_)
   intro _ _
   refine w ?_
   (first | refine VO.gF rfl rfl rfl (by simp) ?_ | refine VD.gF rfl rfl rfl (by simp) ?_)
   refine w ?_
   refine VO.pure rfl rfl (PureAt.ldR tab_ok rfl rfl (hr2.ent (Ent.drop Ent.refl)) hlg) rfl ?_
   refine w ?_
   refine VO.pure rfl rfl (PureAt.ldR tab_ok rfl rfl (hw'.ent (Ent.drop Ent.refl)) hk2) rfl ?_
   refine w ?_
   (refine zq ?_; refine OpV.buildSlice1 st_65 rfl rfl (by first | (simp; done) | simp [Value.oneCell']) (by decide) rfl ?_; intro n2)
   refine VO.ent (H' := Row n2 5 (bytes (rb1 a k)) :: Row n1 5 (bytes (rb1 a k)) :: HH) (by rw [rb_bytes]; exact Ent.refl) ?_
   refine w ?_
   (refine zq ?_; refine zy rfl rfl (same_any (a := rb1 a k) (b := rb1 a k) (hpk.ent (Ent.drop (Ent.drop Ent.refl))) (Rds.row (bytes_one _) (.head _) (by simp [rb])) (by decide)) ?_)
   intro _ _
   refine w ?_
   (refine VC.condFe rfl rfl (by simp) ?_)
   refine w ?_
   exact VE.round (k + 1) hkt (by omega) ⟨rfl, rfl, rfl, rfl, rfl, trivial⟩ (Ent.drop (Ent.drop Ent.refl))
  ·
   refine w ?_
   refine VC.loop (α := Nat) (fun k => k <= 16) (fun _ => HH)
    (fun k => [(0, .slice (some lb) M.length lc), (5, .slice (some gb) Gs.length gc), (9, .int .i64 a), (10, .int .i64 e.n), (12, .int .i64 k)]) (fun k => 16 - k) rfl 0 (Nat.zero_le _) Ent.refl ⟨rfl, rfl, rfl, rfl, rfl, trivial⟩ ?_
   intro k hk
   refine w ?_
   refine zk ?_ ?_ <;> intro hc
   ·
    have hkt : k < 16 := by have := of_decide_eq_true hc; omega
    have hck : k < cs.length := by omega
    have hk2 : (e.xs ++ hdrs cs)[e.n + k]? = some (.slice (some ⟨cs[k], 0, none⟩) 4 4) := by
     rw [List.getElem?_append_right (by omega), hel, Nat.add_sub_cancel_left, List.getElem?_map, List.getElem?_eq_getElem hck]; rfl
    have hpk : Rds W HH 1 (some ⟨cs[k], 0, none⟩) 4 (bytes (rb2 a k)) := pool_rds hpm (hgs.all k _ (List.getElem?_eq_getElem hck))
    refine w ?_
    refine VO.pure rfl rfl (PureAt.ldR tab_ok rfl rfl hr2 hlg) rfl ?_
    refine zv ?_
    refine zv ?_
    refine zv ?_
    refine VO.re 135 (.int .i64 ((e.n + k : Nat) : Int)) rfl (by congr 1) ?_
    refine w ?_
    refine VO.pure rfl rfl (PureAt.ldR tab_ok rfl rfl hw' hk2) rfl ?_
    refine w ?_
    refine VO.pure rfl rfl (shrI rfl rfl (by decide) (by decide)) rfl ?_
    refine w ?_
    (refine zq ?_; refine OpV.buildSlice1 st_65 rfl rfl (by first | (simp; done) | simp [Value.oneCell']) (by decide) rfl ?_; intro n1)
    refine VO.ent (H' := Row n1 5 (bytes (rb2 a k)) :: HH) (by rw [rb_bytes]; exact Ent.refl) ?_
    refine w ?_
    (refine zq ?_; refine zy rfl rfl (same_any (a := rb2 a k) (b := rb2 a k) (hpk.ent (Ent.drop Ent.refl)) (Rds.row (bytes_one _) (.head _) (by simp [rb])) (by decide)) ?_)
    intro _ _
    refine w ?_
    (refine VC.condFe rfl rfl (by simp) ?_)
    refine w ?_
    exact VE.round (k + 1) hkt (by omega) ⟨rfl, rfl, rfl, rfl, rfl, trivial⟩ (Ent.drop Ent.refl)
   ·
    refine w ?_
    exact VE.round (a + 1) hlt (by omega) ⟨rfl, rfl, rfl, trivial⟩ Ent.refl
 ·
  refine w ?_
  refine VE.done1 rfl ?_ ?_
  · rfl
  · exact hend
end Rw
end Go.Proofs.YtdbhpikmagkopaaGreat
/-! Text Or. -/
namespace Go.Proofs.YtdbhpikmagkopaaGreat
open Go.RowKit Go.Sl
attribute [local irreducible] Sl.Own
variable {W : World} {R : List SProp}
def rrest (x : Option Addr × Nat) (sp : List RSlotP) : SProp := Sl.star (rslotsOwn x sp :: sp.map rslotRes)
theorem RBayR.openS {W w : World} {b : Nat} {D : BayD} {R : List SProp} (hw : Holds W (RBayR b D :: R) w) : ∃ x : { x : (Option Addr × Nat) × List RSlotP // D.slots = x.2.map RSlotP.D /\ x.2.length <= 17 }, Holds W (rbayRow b D x.1.1 x.1.2.length :: rrest x.1.1 x.1.2 :: R) w := by
 obtain ⟨x, h⟩ := RBayR.open hw
 refine ⟨x, ?_⟩
 have h1 := h.perm (List.perm_middle (l₁ := rslotsOwn x.1.1 x.1.2 :: x.1.2.map rslotRes)).symm
 have h2 : Holds W (rrest x.1.1 x.1.2 :: rbayRow b D x.1.1 x.1.2.length :: R) w := Holds.nest (L := rslotsOwn x.1.1 x.1.2 :: x.1.2.map rslotRes) h1
 exact h2.perm (List.Perm.swap _ _ _)
theorem RBayR.shutS {b : Nat} {D : BayD} {R : List SProp} {x : Option Addr × Nat} {sp : List RSlotP} (h1 : D.slots = sp.map RSlotP.D) (h2 : sp.length <= 17) : Ent W (rbayRow b D x sp.length :: rrest x sp :: R) (RBayR b D :: R) := fun w hw => by
 refine RBayR.shut (x := x) h1 h2 w ?_
 have h3 := (hw.perm (List.Perm.swap _ _ _)).join
 exact h3.perm (List.perm_middle (l₁ := rslotsOwn x sp :: sp.map rslotRes))
theorem rbaypending_ok (b : Nat) (D : BayD) (k : Int) (hc : ∀ v, D.dev k = some v -> v.k.cache.length <= 1000000000) :
    Does W Tryz.prog 40 [.pointer (some ⟨b, 0, none⟩), .int .i64 k] (RBayR b D :: R) (β := Option Addr × Nat) (fun x => x.1 = none -> ((D.dev k).elim [] fun v => v.k.cache.map (·.1)).length = 0) (fun x => .slice x.1 ((D.dev k).elim [] fun v => v.k.cache.map (·.1)).length x.2)
      (fun x => Sl.Own 3 1 (.slice x.1 ((D.dev k).elim [] fun v => v.k.cache.map (·.1)).length x.2) ((D.dev k).elim [] fun v => v.k.cache.map (·.1)).length (ints ((D.dev k).elim [] fun v => v.k.cache.map (·.1))) :: RBayR b D :: R) := by
  refine DoesA (A := fun _ => True) ?_ (fun x _ w hw => hw.ownNone (.head _))
  refine DoesO (fun w => RBayR.open) ?_
  rintro ⟨⟨x, sp⟩, h1, h2⟩
  dsimp only at h1 h2 ⊢
  (refine Does.enter Tryz.func40 Tryz.ntmps40 rfl rfl ?_)
  refine VC.know (p := x.1 = none -> sp.length = 0) (fun w hw => Holds.ownNone hw (.tail _ (.head _))) ?_
  intro hx
  obtain ⟨xa, xc⟩ := x
  dsimp only at hx
  refine w ?_
  ((refine zq ?_; refine zd rfl rfl (ris_ok (D := D) (x := (xa, xc)) (n := sp.length) b k) ?_); intro _ _)
  rw [rinP_D h1] at hc ⊢
  cases hr : inRange sp.length k
  · rw [rinP_range hr]
    refine w ?_
    refine VE.done (none, 0) rfl trivial rfl fun w hw => (RBayR.shut (x := (xa, xc)) h1 h2 w hw).ownNil 3 1
  obtain ⟨l1, s, l2, rfl, rfl⟩ := rrange_split hr
  have hlt : l1.length < (l1 ++ s :: l2).length := by simp
  obtain ⟨a, rfl⟩ : ∃ a, xa = some a := by cases xa with | none => have := hx rfl; omega | some a => exact ⟨a, rfl⟩
  rw [rinP_mid] at hc ⊢
  have c0 : ((l1 ++ s :: l2).flatMap rslotCells)[l1.length * 6 + 0]? = some (rPtr s.in_) := (rslots_get _ _ 0 hlt (by decide)).trans (by simp [rslotCells])
  refine w ?_
  refine VO.pure rfl rfl (.ldRc tab_ok rfl rfl (rslots_rds zm) c0) rfl ?_
  cases hs : s.in_ with
  | none =>
    refine w ?_
    refine VE.done (none, 0) rfl trivial rfl fun w hw => (RBayR.shut (x := (some a, xc)) h1 h2 w hw).ownNil 3 1
  | some p =>
    have hcp : p.v.k.cache.length <= 1000000000 := hc p.v (by rw [hs]; rfl)
    dsimp only [rPtr, Option.map_some]
    have c1 : ((l1 ++ s :: l2).flatMap rslotCells)[l1.length * 6 + 0]? = some (.pointer (some ⟨p.d, 0, none⟩)) := by rw [c0, hs]; rfl
    refine w ?_
    refine VO.pure rfl rfl (.ldRc tab_ok rfl rfl (rslots_rds zm) c1) rfl ?_
    refine w ?_
    refine VO.ent (rbayOutP hs) ?_
    (refine zq ?_; refine zd rfl rfl (docpending_ok p.d p.v.k hcp) ?_)
    intro y _
    refine w ?_
    have e : ((some p.v : Option DevD).elim [] fun v => v.k.cache.map (·.1)).length = p.v.k.cache.length := by show (p.v.k.cache.map (·.1)).length = _; rw [List.length_map]
    refine VE.done y rfl trivial (by rw [e]) ?_
    rw [e]
    exact rbayShutC h1 h2 hs
end Go.Proofs.YtdbhpikmagkopaaGreat
