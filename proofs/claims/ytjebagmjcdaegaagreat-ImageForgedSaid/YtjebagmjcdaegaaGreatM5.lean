import Derived.Test.YtjebagmjcdaegaaGreatM4
import Derived.WalkKit
import Derived.ProofKit
import Derived.OpenShut
/-! Text Ld. -/
set_option maxRecDepth 8000
set_option maxHeartbeats 16000000
set_option linter.unusedVariables false
set_option linter.unusedSimpArgs false
set_option linter.unusedSectionVars false
namespace Go.Proofs.YtjebagmjcdaegaaGreat
open Go.RowKit Go.Sl
theorem byte_of {n : Int} (h : (Lit.int .u8 n).wf = true) : ∃ c : UInt8, n = (c.toNat : Int) := by
 have hb : 0 <= n /\ n <= 255 := by simpa [Lit.wf, IntKind.min, IntKind.max, IntKind.signed, IntKind.bits] using h
 refine ⟨UInt8.ofNat n.toNat, ?_⟩
 simp; omega
end Go.Proofs.YtjebagmjcdaegaaGreat
/-! Text Eo. -/
namespace Go.Proofs.YtjebagmjcdaegaaGreat
open Go.RowKit Go.Sl
attribute [local irreducible] Own
variable {W : World} {R : List SProp}
theorem hdr_same (a b : HdrD) : a = b ↔ a.epoch = b.epoch /\ a.seq = b.seq /\ a.index = b.index /\ a.count = b.count /\ a.member = b.member /\ a.row = b.row /\ a.escaped = b.escaped /\ a.sum = b.sum := by cases a; cases b; simp
theorem cmt_same (a b : CmtD) : a = b ↔ a.epoch = b.epoch /\ a.seq = b.seq /\ a.count = b.count /\ a.sum = b.sum := by cases a; cases b; simp
theorem chk_same (a b : ChkD) : a = b ↔ a.epoch = b.epoch /\ a.seq = b.seq /\ a.tail = b.tail := by cases a; cases b; simp
instance : DecidableEq HdrD := fun a b => decidable_of_iff _ (hdr_same a b).symm
instance : DecidableEq CmtD := fun a b => decidable_of_iff _ (cmt_same a b).symm
instance : DecidableEq ChkD := fun a b => decidable_of_iff _ (chk_same a b).symm
section
variable {W : World} {n : Nat} {H : List SProp} {f : Fr} {dst : Option Tmp} {ty_ : TypeId} {pos : String} {after : Array Edge} {guard : Option (Nat × Bool)} {op : BinOp} {x y : Operand} {u : TypeId} {v : Value}
end
def h0 : HdrD := ⟨1, 2, 0, 2, 3, 5, false, 9⟩
structure ListE where
  ao : Option Addr
  cap : Nat
  xs : List Value
def ListE.hdr (e : ListE) : Value := .slice e.ao e.xs.length e.cap
def ListE.res (e : ListE) : SProp := Own 5 1 (.slice e.ao e.xs.length e.cap) e.xs.length e.xs
def mk (z : Int) : Value := .int .u8 (IntKind.u8.wrap z)
def marks (a m : Nat) : List Value := (List.range m).map fun (k : Nat) => mk ((a : Int) * 97 + (k : Int) * 13)
def marks2 (a m : Nat) : List Value := (List.range m).map fun (k : Nat) => mk ((-1 - (a : Int)) * 97 + (k : Int) * 13)
@[simp] theorem marks_length (a m : Nat) : (marks a m).length = m := by simp [marks]
@[simp] theorem marks2_length (a m : Nat) : (marks2 a m).length = m := by simp [marks2]
theorem TwinR.none {W w : World} {H : List SProp} {e sz k cap k' cap' : Nat} {ao ao' : Option Addr} {xs ys : List Value} (hw : Holds W H w) (m : TwinR e sz ao cap k xs ao' cap' k' ys ∈ H) : (ao = none -> k = 0) /\ (ao' = none -> k' = 0) := by
 obtain ⟨R, p⟩ := mem_perm m
 rcases TwinR.open (hw.perm p) with ⟨⟨e1, e2, e3, e4⟩, h⟩ | h
 ·
  have := h.ownNone (.head _)
  exact ⟨fun q => by have := this (by rw [e1]; exact q); omega, this⟩
 · exact ⟨h.ownNone (.head _), h.ownNone (.tail _ (.head _))⟩
def lentV (l : List UInt8) : List Value := bytes l ++ [.int .u8 91, .int .u8 92]
theorem lentV_one (l : List UInt8) : ∀ u ∈ lentV l, u.oneCell' = true := by
 intro u hu
 rcases List.mem_append.1 hu with h | h
 · exact bytes_one _ u h
 · simp only [List.mem_cons, List.not_mem_nil, or_false] at h; rcases h with h | h <;> subst h <;> rfl
@[simp] theorem lentV_length (l : List UInt8) : (lentV l).length = l.length + 2 := by simp [lentV]
abbrev LentO (a : Addr) (cap : Nat) (l : List UInt8) : SProp := Own 5 1 (.slice (some a) (l.length + 2) cap) (l.length + 2) (lentV l)
theorem LentO.rds {a : Addr} {cap : Nat} {l : List UInt8} : Rds W (LentO a cap l :: R) 1 (some a) l.length (bytes l) := by
 have h := Rds.take (l := l.length) (Rds.own (W := W) (H := LentO a cap l :: R) (lentV_one l) (.head _) (by rw [lentV_length, Nat.mul_one]) (fun h => by cases h)) (by omega)
 rw [Nat.mul_one, lentV, List.take_left' (by simp)] at h
 exact h
theorem flatMap_byteV (l : List UInt8) : l.flatMap (fun c => [byteV c]) = bytes l := by
 induction l with
 | nil => rfl
 | cons a r ih => simp only [List.flatMap_cons, ih]; rfl
theorem bytesC_of {ao : Option Addr} {n cap : Nat} (h : InT Tryz.prog W 22 [.slice ao n cap]) : ∃ l : List UInt8, l.length = n /\ RdsA W 1 ao n (bytes l) /\ n <= 140737488351232 /\ n <= cap := by
 obtain ⟨l, h1, h2, -, h4, h5⟩ := h.list (fun c : UInt8 => [byteV c]) (fun _ => True) 0 Tryz.underlying22 (by kernel_rfl) (fun o _ u hu => by simp at hu; subst hu; rfl) (fun cs hc => by
  obtain ⟨m, rfl, hw⟩ := hc.int_inv Tryz.underlying5
  obtain ⟨c, rfl⟩ := byte_of hw
  exact ⟨c, rfl, trivial⟩)
 have b1 : Tryz.prog.bytesOf 5 = 1 := by kernel_rfl
 rw [b1] at h5
 rw [flatMap_byteV] at h2
 exact ⟨l, h1, h2, by simp only [reachBytes] at h5; omega, h4⟩
def fullSec (c : UInt8) : List UInt8 := List.replicate 128 c
@[simp] theorem fullSec_length (c : UInt8) : (fullSec c).length = 128 := List.length_replicate
abbrev SecO (b : Nat) (c : UInt8) : SProp := Own 5 1 (.slice (some ⟨b, 0, none⟩) 128 128) 128 (bytes (fullSec c))
theorem SecO.rds {b : Nat} {c : UInt8} : Rds W (SecO b c :: R) 1 (some ⟨b, 0, none⟩) 128 (bytes (fullSec c)) := Rds.own (bytes_one _) (.head _) (by rw [bytes_length, fullSec_length]) (fun h => by cases h)
structure BopD where
  kind : Int
  slot : Int
  n : Int
  ao : Option Addr
  cap : Nat
  b : List UInt8
  ko : Option Addr
  kcap : Nat
  keeps : List KeepD
abbrev BopD.cells (o : BopD) : List Value := [.int .i64 o.kind, .int .i64 o.slot, .int .i64 o.n, .slice o.ao o.b.length o.cap, .slice o.ko o.keeps.length o.kcap]
structure BopD.wf (W : World) (o : BopD) : Prop where
  b : RdsA W 1 o.ao o.b.length (bytes o.b)
  bl : o.b.length <= 140737488351232
  bc : o.b.length <= o.cap
  ks : ∀ R, Keeps W R o.ko o.keeps
  kl : ∀ x ∈ o.keeps, x.l.length <= 140737488351232
  kn : o.keeps.length <= 140737488351232
  n1 : -9223372036854775808 <= o.n
  n2 : o.n <= 9223372036854775807
  s1 : -9223372036854775808 <= o.slot
  s2 : o.slot <= 9223372036854775807
def bopCells (l : List BopD) : List Value := l.flatMap BopD.cells
structure BScr (W : World) (R : List SProp) (ao : Option Addr) (l : List BopD) : Prop where
  rds : Rds W R 5 ao l.length (bopCells l)
  wf : ∀ o ∈ l, o.wf W
theorem BScr.ent {H R : List SProp} {ao : Option Addr} {l : List BopD} (h : BScr W R ao l) (e : Ent W H R) : BScr W H ao l := ⟨h.rds.ent e, h.wf⟩
def BayD.plain (D : BayD) (kind slot n : Int) (b : List UInt8) : (List UInt8 × Int) × BayD :=
  if kind = 1 then D.read slot n else if kind = 2 then (([], (D.write slot n b).1), (D.write slot n b).2) else (([], (D.flush slot).1), (D.flush slot).2)
def CntD.total (c : CntD) : Int := IntKind.i64.wrap (IntKind.i64.wrap (c.r + c.w) + c.f)
def kx : List UInt8 := (List.replicate 128 0).set 5 9
def kD0 : BayD := BayD.new [2, 0]
def kD1 : BayD := (kD0.write 0 1 kx).2
def kD2 : BayD := (kD1.flush 0).2
def kD3 : BayD := (kD2.read 1 0).2
theorem k1 : (kD0.write 0 1 kx).1 = 0 := by kernel_rfl
theorem k2 : (kD1.flush 0).1 = 0 := by kernel_rfl
theorem k3 : (kD2.read 1 0).1 = ([], 51) := by kernel_rfl
theorem k4 : (kD3.trips 1).1 = 0 := by kernel_rfl
end Go.Proofs.YtjebagmjcdaegaaGreat
/-! Text Bm. -/
namespace Go.Proofs.YtjebagmjcdaegaaGreat
open Go.RowKit Go.Sl
def SlotD.capd (s : SlotD) (c : Nat) : Prop := ∀ v, (s.in_ = some v \/ s.aside = some v \/ s.coming = some v) -> v.k.cache.length <= c
def BayD.capd (D : BayD) (c : Nat) : Prop := ∀ s ∈ D.slots, s.capd c
theorem BayD.capd.mono {D : BayD} {c c' : Nat} (h : D.capd c) (hc : c <= c') : D.capd c' := fun s hs v hv => Nat.le_trans (h s hs v hv) hc
theorem noneS_capd (c : Nat) : SlotD.capd ⟨none, none, none⟩ c := fun v hv => by rcases hv with h | h | h <;> cases h
theorem dev_mem {D : BayD} {k : Int} {v : DevD} (h : D.dev k = some v) : ∃ s ∈ D.slots, s.in_ = some v := by
 unfold BayD.dev at h
 split at h
 ·
  obtain ⟨s, h1, h2⟩ := Option.bind_eq_some_iff.1 h
  exact ⟨s, List.mem_of_getElem? h1, h2⟩
 · cases h
theorem use_cap {v : DevD} {c : Nat} (h : v.k.cache.length <= c) : v.use.k.cache.length <= c := by
 unfold DevD.use; split
 · exact h
 ·
  split
  · exact Nat.zero_le _
  · exact h
theorem dv_cap {D : BayD} {c : Nat} (h : D.capd c) (k : Int) : (D.dv k).k.cache.length <= c := by
  unfold BayD.dv
  refine use_cap ?_
  cases hd : D.dev k with
  | none => exact Nat.zero_le _
  | some v =>
    obtain ⟨s, hs, hi⟩ := dev_mem hd
    exact h s hs v (.inl hi)
theorem slot_capd {D : BayD} {c : Nat} (h : D.capd c) (i : Nat) : SlotD.capd ((D.slots[i]?).getD ⟨none, none, none⟩) c := by
 cases hg : D.slots[i]? with
 | none => exact noneS_capd c
 | some s => exact h s (List.mem_of_getElem? hg)
theorem set_capd {D : BayD} {c i : Nat} {s : SlotD} (h : D.capd c) (hs : s.capd c) : (D.setSlot i s).capd c := by
 intro x hx
 rcases List.mem_or_eq_of_mem_set hx with q | q
 · exact h x q
 · subst q; exact hs
theorem setIn_capd {D : BayD} {c i : Nat} {v : DevD} (h : D.capd c) (hv : v.k.cache.length <= c) : (D.setIn i v).capd c := by
 have hg := slot_capd h i
 refine set_capd (s := { (D.slots[i]?.getD ⟨none, none, none⟩) with in_ := some v }) h ?_
 intro x hx
 rcases hx with q | q | q
 · cases q; exact hv
 · exact hg x (.inr (.inl q))
 · exact hg x (.inr (.inr q))
theorem wr_cap {k : DiskD} {a : Int} {b : List UInt8} {c : Nat} (h : k.cache.length <= c) : (k.wr a b).2.cache.length <= c + 1 := by
 unfold DiskD.wr; split
 · exact Nat.le_succ_of_le h
 ·
  split
  · exact Nat.le_succ_of_le h
  ·
   show (k.cache ++ [_]).length <= _
   rw [List.length_append, List.length_singleton]; omega
theorem fl_cap {k : DiskD} {c : Nat} (h : k.cache.length <= c) : k.fl.2.cache.length <= c := by
 unfold DiskD.fl; split
 · exact h
 · exact Nat.zero_le _
def CntD.ok (c : CntD) : Prop := (Lit.int .i64 c.r).wf = true /\ (Lit.int .i64 c.w).wf = true /\ (Lit.int .i64 c.f).wf = true
end Go.Proofs.YtjebagmjcdaegaaGreat
/-! Text Yb. -/
namespace Go.Sl
abbrev Pl := Int × Int
def plt (a b : Pl) : Prop := a.2 < b.2 \/ (a.2 = b.2 /\ a.1 < b.1)
instance (a b : Pl) : Decidable (plt a b) := by unfold plt; infer_instance
theorem plt_irrefl (a : Pl) : ¬ plt a a := by unfold plt; omega
theorem nplt_trans {a b c : Pl} (h1 : ¬ plt b a) (h2 : ¬ plt c b) : ¬ plt c a := by unfold plt at *; omega
theorem plt_asymm {a b : Pl} (h1 : plt a b) : ¬ plt b a := by unfold plt at *; omega
theorem plt_anti {a b : Pl} (h1 : ¬ plt a b) (h2 : ¬ plt b a) : a = b := by
 unfold plt at *
 exact Prod.ext (by omega) (by omega)
def pl (l : List Pl) (i : Nat) : Pl := l.getD i (0, 0)
theorem pl_at {l : List Pl} {i : Nat} (h : i < l.length) : pl l i = l[i] := by unfold pl; rw [List.getD_eq_getElem?_getD, List.getElem?_eq_getElem h]; rfl
def swp (l : List Pl) (i j : Nat) : List Pl := (l.set i (pl l j)).set j (pl l i)
theorem swp_length (l : List Pl) (i j : Nat) : (swp l i j).length = l.length := by simp [swp]
theorem pl_swp {l : List Pl} {i j : Nat} (hi : i < l.length) (hj : j < l.length) (k : Nat) : pl (swp l i j) k = if k = j then pl l i else if k = i then pl l j else pl l k := by
 have gD : ∀ (l : List Pl) (k : Nat), pl l k = (l[k]?).getD (0, 0) := fun l k => by unfold pl; rw [List.getD_eq_getElem?_getD]
 rw [gD (swp l i j)]
 unfold swp
 rw [List.getElem?_set, List.getElem?_set]
 simp only [List.length_set]
 by_cases h1 : j = k
 ·
  subst h1
  rw [if_pos rfl, if_pos hj, if_pos rfl]; rfl
 ·
  by_cases h2 : i = k
  ·
   subst h2
   rw [if_neg h1, if_pos rfl, if_pos hi, if_neg (Ne.symm h1), if_pos rfl]; rfl
  · rw [if_neg h1, if_neg h2, if_neg (Ne.symm h1), if_neg (Ne.symm h2), gD]
theorem swp_perm {l : List Pl} {i j : Nat} (hi : i < l.length) (hj : j < l.length) : List.Perm (swp l i j) l := by
 have h := (Array.swap_perm (xs := l.toArray) (i := i) (j := j) (by simpa using hi) (by simpa using hj)).toList
 have e : (l.toArray.swap i j (by simpa using hi) (by simpa using hj)).toList = swp l i j := by
  unfold swp
  simp [pl_at hi, pl_at hj]
 rw [e] at h
 exact h
def Heap (l : List Pl) (n : Nat) : Prop := ∀ c, 0 < c -> c < n -> ¬ plt (pl l c) (pl l ((c - 1) / 2))
theorem Heap.least {l : List Pl} {n : Nat} (h : Heap l n) : ∀ c, c < n -> ¬ plt (pl l c) (pl l 0) := by
  intro c
  induction c using Nat.strongRecOn with
  | ind c ih =>
    intro hc
    rcases Nat.eq_zero_or_pos c with rfl | hp
    · exact plt_irrefl _
    · exact nplt_trans (ih ((c - 1) / 2) (by omega) (by omega)) (h c hp hc)
theorem Heap.nil : Heap [] 0 := fun c _ h => (by omega)
structure UpInv (l : List Pl) (j : Nat) : Prop where
  at_ : j < l.length
  all : ∀ c, 0 < c -> c < l.length -> c ≠ j -> ¬ plt (pl l c) (pl l ((c - 1) / 2))
  kids : ∀ c, 0 < c -> c < l.length -> (c - 1) / 2 = j -> 0 < j -> ¬ plt (pl l c) (pl l ((j - 1) / 2))
theorem UpInv.start {l : List Pl} (h : Heap l l.length) (x : Pl) : UpInv (l ++ [x]) l.length := by
 have e : ∀ c, c < l.length -> pl (l ++ [x]) c = pl l c := fun c hc => by unfold pl; rw [List.getD_eq_getElem?_getD, List.getD_eq_getElem?_getD, List.getElem?_append_left hc]
 refine ⟨by simp, fun c h0 hc hn => ?_, fun c h0 hc hk _ => ?_⟩
 ·
  simp only [List.length_append, List.length_singleton] at hc
  rw [e c (by omega), e _ (by omega)]
  exact h c h0 (by omega)
 ·
  simp only [List.length_append, List.length_singleton] at hc
  omega
theorem UpInv.step {l : List Pl} {j : Nat} (h : UpInv l j) (hj : 0 < j) (hlt : plt (pl l j) (pl l ((j - 1) / 2))) : UpInv (swp l ((j - 1) / 2) j) ((j - 1) / 2) := by
 obtain ⟨h1, h2, h3⟩ := h
 have hp : (j - 1) / 2 < l.length := by omega
 refine ⟨by rw [swp_length]; exact hp, fun c h0 hc hn => ?_, fun c h0 hc hk hp0 => ?_⟩
 ·
  rw [swp_length] at hc
  rw [pl_swp hp h1, pl_swp hp h1]
  by_cases q : c = j
  ·
   subst q
   rw [if_pos rfl, if_neg (by omega), if_pos rfl]
   exact plt_asymm hlt
  ·
   rw [if_neg q, if_neg hn]
   by_cases q1 : (c - 1) / 2 = j
   ·
    rw [if_pos q1]
    exact h3 c h0 hc q1 hj
   ·
    rw [if_neg q1]
    by_cases q2 : (c - 1) / 2 = (j - 1) / 2
    ·
     rw [if_pos q2]
     exact nplt_trans (plt_asymm hlt) (by have := h2 c h0 hc q; rwa [q2] at this)
    ·
     rw [if_neg q2]
     exact h2 c h0 hc q
 ·
  rw [swp_length] at hc
  have hgp := h2 ((j - 1) / 2) hp0 hp (by omega)
  rw [pl_swp hp h1, pl_swp hp h1, if_neg (c := ((j - 1) / 2 - 1) / 2 = j) (by omega), if_neg (c := ((j - 1) / 2 - 1) / 2 = (j - 1) / 2) (by omega)]
  by_cases q : c = j
  · rw [if_pos q]; exact hgp
  ·
   rw [if_neg q, if_neg (by omega)]
   exact nplt_trans hgp (by have := h2 c h0 hc q; rwa [hk] at this)
theorem UpInv.done {l : List Pl} {j : Nat} (h : UpInv l j) (hd : j = 0 \/ ¬ plt (pl l j) (pl l ((j - 1) / 2))) : Heap l l.length := by
 intro c h0 hc
 by_cases q : c = j
 ·
  subst q
  rcases hd with hd | hd
  · omega
  · exact hd
 · exact h.all c h0 hc q
structure DownInv (l : List Pl) (i n : Nat) : Prop where
  few : n <= l.length
  all : ∀ c, 0 < c -> c < n -> (c - 1) / 2 ≠ i -> ¬ plt (pl l c) (pl l ((c - 1) / 2))
  kids : ∀ c, 0 < c -> c < n -> (c - 1) / 2 = i -> 0 < i -> ¬ plt (pl l c) (pl l ((i - 1) / 2))
theorem DownInv.start {l : List Pl} {n : Nat} (h : Heap l (n + 1)) (hl : n + 1 <= l.length) : DownInv (swp l 0 n) 0 n := by
 refine ⟨by rw [swp_length]; omega, fun c h0 hc hn => ?_, fun c h0 hc _ h => absurd h (by omega)⟩
 rw [pl_swp (by omega) (by omega), pl_swp (by omega) (by omega), if_neg (by omega), if_neg (by omega), if_neg (by omega), if_neg hn]
 exact h c h0 (by omega)
theorem DownInv.step {l : List Pl} {i j n : Nat} (h : DownInv l i n) (hi : j < n) (hj : 0 < j) (hk : (j - 1) / 2 = i) (hleast : ∀ c, 0 < c -> c < n -> (c - 1) / 2 = i -> ¬ plt (pl l c) (pl l j)) (hlt : plt (pl l j) (pl l i)) : DownInv (swp l i j) j n := by
 obtain ⟨h1, h2, h3⟩ := h
 have hi2 : i < l.length := by omega
 have hj2 : j < l.length := by omega
 refine ⟨by rw [swp_length]; omega, fun c h0 hc hn => ?_, fun c h0 hc hk2 _ => ?_⟩
 ·
  rw [pl_swp hi2 hj2, pl_swp hi2 hj2, if_neg hn]
  by_cases q : c = j
  ·
   subst q
   rw [if_pos rfl, if_pos hk]
   exact plt_asymm hlt
  ·
   rw [if_neg q]
   by_cases q1 : c = i
   ·
    subst q1
    rw [if_pos rfl, if_neg (by omega)]
    exact h3 j hj hi hk h0
   ·
    rw [if_neg q1]
    by_cases q2 : (c - 1) / 2 = i
    ·
     rw [if_pos q2]
     exact hleast c h0 hc q2
    ·
     rw [if_neg q2]
     exact h2 c h0 hc q2
 ·
  have hci : c ≠ i := by omega
  have hcj : c ≠ j := by omega
  rw [pl_swp hi2 hj2, pl_swp hi2 hj2, if_neg hcj, if_neg hci, if_neg (by omega), if_pos hk]
  have := h2 c h0 hc (by omega)
  rwa [hk2] at this
theorem DownInv.done {l : List Pl} {i n : Nat} (h : DownInv l i n) (hd : ∀ c, 0 < c -> c < n -> (c - 1) / 2 = i -> ¬ plt (pl l c) (pl l i)) : Heap l n := by
 intro c h0 hc
 by_cases q : (c - 1) / 2 = i
 · rw [q]; exact hd c h0 hc q
 · exact h.all c h0 hc q
theorem Heap.take {l : List Pl} {n : Nat} (h : Heap l n) (hn : n <= l.length) : Heap (l.take n) (l.take n).length := by
 have e : ∀ c, c < n -> pl (l.take n) c = pl l c := fun c hc => by unfold pl; rw [List.getD_eq_getElem?_getD, List.getD_eq_getElem?_getD, List.getElem?_take_of_lt hc]
 intro c h0 hc
 rw [List.length_take] at hc
 rw [e c (by omega), e _ (by omega)]
 exact h c h0 (by omega)
end Go.Sl
/-! Text Yf. -/
namespace Go.Sl
theorem nodup_rest {K A : List Pl} {k : Pl} (h : K.Nodup) (hp : List.Perm K (k :: A)) : List.Perm A (K.filter fun x => x ≠ k) := by
 have hn := hp.nodup h
 rw [List.nodup_cons] at hn
 have h1 := hp.filter (fun x => decide (x ≠ k))
 have h2 : (A.filter fun x => decide (x ≠ k)) = A := List.filter_eq_self.2 (fun x hx => by simp; intro e; exact hn.1 (e ▸ hx))
 rw [List.filter_cons_of_neg (by simp), h2] at h1
 exact h1.symm
theorem nodup_back {K : List Pl} {k : Pl} (h : K.Nodup) (hk : k ∈ K) : List.Perm ((K.filter fun x => x ≠ k) ++ [k]) K := by
 obtain ⟨R, p⟩ : ∃ R, List.Perm K (k :: R) := by
  obtain ⟨s, t, rfl⟩ := List.append_of_mem hk
  exact ⟨s ++ t, List.perm_middle⟩
 exact (List.perm_append_comm (l₂ := [k])).trans (((nodup_rest h p).symm.cons k).trans p.symm)
structure LiftOk (r : Int) (K A B : List Pl) : Prop where
  ahead : List.Perm A (K.filter fun x => r <= x.2)
  below : List.Perm B (K.filter fun x => x.2 < r)
  hA : Heap A A.length
  hB : Heap B B.length
  one : K.Nodup
  pos : ∀ x ∈ K, 0 <= x.2
theorem LiftOk.nil (r : Int) : LiftOk r [] [] [] := ⟨.refl _, .refl _, Heap.nil, Heap.nil, List.nodup_nil, fun x h => (by cases h)⟩
theorem LiftOk.perm {r : Int} {K K' A B : List Pl} (h : LiftOk r K A B) (p : List.Perm K K') : LiftOk r K' A B :=
 ⟨h.ahead.trans (p.filter _), h.below.trans (p.filter _), h.hA, h.hB, p.nodup h.one, fun x hx => h.pos x (p.symm.subset hx)⟩
theorem LiftOk.old {r : Int} {K A B : List Pl} {k : Pl} (h : LiftOk r K A B) (hk : k ∈ K) : LiftOk r ((K.filter fun x => x ≠ k) ++ [k]) A B := h.perm (nodup_back h.one hk).symm
theorem LiftOk.newA {r : Int} {K A B A' : List Pl} {k : Pl} (h : LiftOk r K A B) (hk : k ∉ K) (hr : r <= k.2) (h0 : 0 <= k.2) (hp : List.Perm A' (k :: A)) (hh : Heap A' A'.length) : LiftOk r (K ++ [k]) A' B := by
 refine ⟨?_, ?_, hh, h.hB, ?_, ?_⟩
 ·
  rw [List.filter_append, List.filter_cons_of_pos (by simpa using hr), List.filter_nil]
  exact hp.trans ((h.ahead.cons k).trans (List.perm_append_comm (l₁ := [k])))
 ·
  rw [List.filter_append, List.filter_cons_of_neg (by simp; omega), List.filter_nil, List.append_nil]
  exact h.below
 · exact List.nodup_append.2 ⟨h.one, by simp, fun a ha b hb => by rw [List.mem_singleton] at hb; subst hb; intro e; exact hk (e ▸ ha)⟩
 ·
  intro x hx
  rcases List.mem_append.1 hx with hx | hx
  · exact h.pos x hx
  · rw [List.mem_singleton] at hx; subst hx; exact h0
theorem LiftOk.newB {r : Int} {K A B B' : List Pl} {k : Pl} (h : LiftOk r K A B) (hk : k ∉ K) (hr : k.2 < r) (h0 : 0 <= k.2) (hp : List.Perm B' (k :: B)) (hh : Heap B' B'.length) : LiftOk r (K ++ [k]) A B' := by
 refine ⟨?_, ?_, h.hA, hh, ?_, ?_⟩
 ·
  rw [List.filter_append, List.filter_cons_of_neg (by simp; omega), List.filter_nil, List.append_nil]
  exact h.ahead
 ·
  rw [List.filter_append, List.filter_cons_of_pos (by simpa using hr), List.filter_nil]
  exact hp.trans ((h.below.cons k).trans (List.perm_append_comm (l₁ := [k])))
 · exact List.nodup_append.2 ⟨h.one, by simp, fun a ha b hb => by rw [List.mem_singleton] at hb; subst hb; intro e; exact hk (e ▸ ha)⟩
 ·
  intro x hx
  rcases List.mem_append.1 hx with hx | hx
  · exact h.pos x hx
  · rw [List.mem_singleton] at hx; subst hx; exact h0
theorem notin_filter {K : List Pl} {k : Pl} (hk : k ∉ K) : (K.filter fun x => x ≠ k) = K := List.filter_eq_self.2 fun x hx => by simp; intro e; exact hk (e ▸ hx)
theorem LiftOk.wrap {r : Int} {K B : List Pl} (h : LiftOk r K [] B) : LiftOk 0 K B [] /\ ∀ x ∈ K, x.2 < r := by
 have hall : ∀ x ∈ K, x.2 < r := fun x hx => by
  have := h.ahead.length_eq
  have h2 := List.length_eq_zero_iff.1 this.symm
  have h3 := List.filter_eq_nil_iff.1 h2 x hx
  simpa using h3
 refine ⟨⟨?_, ?_, h.hB, Heap.nil, h.one, h.pos⟩, hall⟩
 ·
  rw [List.filter_eq_self.2 (fun x hx => by simpa using h.pos x hx)]
  have := h.below
  rwa [List.filter_eq_self.2 (fun x hx => by simpa using hall x hx)] at this
 · rw [List.filter_eq_nil_iff.2 (fun x hx => by have := h.pos x hx; simp; omega)]
def base (r : Int) (K : List Pl) : Int := if (K.any fun x => decide (r <= x.2)) then r else 0
structure IsNext (r : Int) (K : List Pl) (k : Pl) : Prop where
  mem : k ∈ K
  low : base r K <= k.2
  least : ∀ x ∈ K, base r K <= x.2 -> ¬ plt x k
theorem IsNext.one {r : Int} {K : List Pl} {k k' : Pl} (h : IsNext r K k) (h' : IsNext r K k') : k = k' := plt_anti (h'.least k h.mem h.low) (h.least k' h'.mem h'.low)
theorem base_pos {r : Int} {K : List Pl} {k : Pl} (hk : k ∈ K) (h : r <= k.2) : base r K = r := by
 unfold base
 rw [if_pos (List.any_eq_true.2 ⟨k, hk, by simpa using h⟩)]
theorem base_neg {r : Int} {K : List Pl} (h : ∀ x ∈ K, x.2 < r) : base r K = 0 := by
 unfold base
 rw [if_neg]
 intro h1
 obtain ⟨x, hx, h2⟩ := List.any_eq_true.1 h1
 have := h x hx
 have h3 : r <= x.2 := by simpa using h2
 omega
theorem LiftOk.next {r : Int} {K A B A' : List Pl} {k : Pl} (h : LiftOk r K A B) (hk : k = pl A 0) (hp : List.Perm (k :: A') A) (hh : Heap A' A'.length) :
  LiftOk k.2 (K.filter fun x => x ≠ k) A' B /\ k ∈ K /\ r <= k.2 /\ ∀ x ∈ K, r <= x.2 -> ¬ plt x k := by
 have hleast : ∀ x ∈ A, ¬ plt x k := by
  intro x hx
  obtain ⟨i, hi, rfl⟩ := List.mem_iff_getElem.1 hx
  rw [<- pl_at hi, hk]
  exact h.hA.least i hi
 have hkA : k ∈ A := hp.subset (.head _)
 have hkK := h.ahead.subset hkA
 rw [List.mem_filter] at hkK
 have hr : r <= k.2 := by simpa using hkK.2
 have hall : ∀ x ∈ K, r <= x.2 -> ¬ plt x k := fun x hx h1 => hleast x (h.ahead.symm.subset (List.mem_filter.2 ⟨hx, by simpa using h1⟩))
 have hge : ∀ x ∈ K, r <= x.2 -> k.2 <= x.2 := fun x hx h1 => by have := hall x hx h1; unfold plt at this; omega
 refine ⟨⟨?_, ?_, hh, h.hB, h.one.filter _, fun x hx => h.pos x (List.mem_filter.1 hx).1⟩, hkK.1, hr, hall⟩
 ·
  have h1 := nodup_rest (h.one.filter _) (h.ahead.symm.trans hp.symm)
  refine h1.trans (.of_eq ?_)
  rw [List.filter_filter, List.filter_filter]
  refine List.filter_congr fun x hx => ?_
  by_cases q : x = k
  · simp [q]
  ·
   have e : (r <= x.2) = (k.2 <= x.2) := propext ⟨hge x hx, fun h => by omega⟩
   simp [q, e]
 ·
  refine h.below.trans (.of_eq ?_)
  rw [List.filter_filter]
  refine List.filter_congr fun x hx => ?_
  have e : (x.2 < r) = (x.2 < k.2 /\ x ≠ k) := propext ⟨fun h => ⟨by omega, fun q => by subst q; omega⟩, fun h => by
   rcases Int.lt_or_le x.2 r with q | q
   · exact q
   · have := hge x hx q; omega⟩
  rw [Bool.eq_iff_iff]
  simp [e]
end Go.Sl
/-! Text Va. -/
namespace Go.Proofs.YtjebagmjcdaegaaGreat
open Go.RowKit Go.Sl
attribute [local irreducible] Own
variable {W : World} {R : List SProp}
structure SuperD where
  id : Nat
  events : Nat
  safe : Nat
  role : Int
  members : Int
  chunk : Int
  stripes : Int
  ring : Int
  lazy : Bool
  lost : Bool
  so : Option Addr
  sc : Nat
  states : List UInt8
  cursor : Int
abbrev SuperD.cells (s : SuperD) : List Value := [.int .u64 s.id, .int .u64 s.events, .int .u64 s.safe, .int .i64 s.role, .int .i64 s.members, .int .i64 s.chunk, .int .i64 s.stripes, .int .i64 s.ring, .bool s.lazy, .bool s.lost, .slice s.so s.states.length s.sc, .int .i64 s.cursor]
structure SuperD.fit (s : SuperD) : Prop where
  id : s.id < 18446744073709551616
  events : s.events < 18446744073709551616
  safe : s.safe < 18446744073709551616
  role : -9223372036854775808 <= s.role /\ s.role <= 9223372036854775807
  members : -9223372036854775808 <= s.members /\ s.members <= 9223372036854775807
  chunk : -9223372036854775808 <= s.chunk /\ s.chunk <= 9223372036854775807
  stripes : -9223372036854775808 <= s.stripes /\ s.stripes <= 9223372036854775807
  ring : -9223372036854775808 <= s.ring /\ s.ring <= 9223372036854775807
  cursor : -9223372036854775808 <= s.cursor /\ s.cursor <= 9223372036854775807
  len : s.states.length <= 140737488351232
  cap : s.states.length <= s.sc
theorem super_one (s : SuperD) : ∀ u ∈ s.cells, u.oneCell' = true := by
 intro u hu; simp only [SuperD.cells, List.mem_cons, List.not_mem_nil, or_false] at hu
 rcases hu with h | h | h | h | h | h | h | h | h | h | h | h <;> subst h <;> rfl
structure BalD where
  has : Bool
  s : SuperD
abbrev BalD.cells (b : BalD) : List Value := .bool b.has :: b.s.cells
theorem bal_one (b : BalD) : ∀ u ∈ b.cells, u.oneCell' = true := by
 intro u hu; rcases List.mem_cons.1 hu with h | h
 · subst h; rfl
 · exact super_one _ u h
def balCells (l : List BalD) : List Value := l.flatMap BalD.cells
theorem bal_get (l : List BalD) (j i : Nat) (h : j < l.length) (hi : i < 13) : (balCells l)[j * 13 + i]? = (l[j].cells)[i]? := flat_at l j i h (fun _ _ => rfl) hi
structure Bals (W : World) (R : List SProp) (ao : Option Addr) (l : List BalD) : Prop where
  rds : Rds W R 13 ao l.length (balCells l)
  st : ∀ b ∈ l, Rds W R 1 b.s.so b.s.states.length (bytes b.s.states)
  fit : ∀ b ∈ l, b.s.fit
theorem Bals.ent {H R : List SProp} {ao : Option Addr} {l : List BalD} (h : Bals W R ao l) (e : Ent W H R) : Bals W H ao l := ⟨h.rds.ent e, fun b hb => (h.st b hb).ent e, h.fit⟩
theorem within_ok (n a b : Int) :
  Does1 W Tryz.prog 192 [.int .i64 n, .int .i64 a, .int .i64 b] R (.bool (decide (a <= n /\ n <= b))) R := by
 (refine Does.enter Tryz.func192 Tryz.ntmps192 rfl rfl ?_)
 refine w ?_
 refine zg ?_ ?_ <;> intro hb
 ·
  have h : a <= n := of_decide_eq_true hb
  refine w ?_
  refine VE.done1 rfl ?_ ?_
  · simp [h]
  · exact Ent.refl
 ·
  have h : ¬ a <= n := of_decide_eq_false hb
  refine w ?_
  refine VE.done1 rfl ?_ ?_
  · simp [h]
  · exact Ent.refl
theorem withinU_ok (n a b : Int) :
  Does1 W Tryz.prog 193 [.int .u64 n, .int .u64 a, .int .u64 b] R (.bool (decide (a <= n /\ n <= b))) R := by
 (refine Does.enter Tryz.func193 Tryz.ntmps193 rfl rfl ?_)
 refine w ?_
 refine zg ?_ ?_ <;> intro hb
 ·
  have h : a <= n := of_decide_eq_true hb
  refine w ?_
  refine VE.done1 rfl ?_ ?_
  · simp [h]
  · exact Ent.refl
 ·
  have h : ¬ a <= n := of_decide_eq_false hb
  refine w ?_
  refine VE.done1 rfl ?_ ?_
  · simp [h]
  · exact Ent.refl
theorem vindex_ok {ao : Option Addr} {cap : Nat} {l : List UInt8} (v : UInt8) (hr : Rds W R 1 ao l.length (bytes l)) (hl : l.length <= 140737488351232) :
  Does W Tryz.prog 233 [.slice ao l.length cap, .int .u8 (v.toNat : Int)] R (β := Int) (fun k => decide (0 <= k) = decide (v ∈ l)) (fun k => .int .i64 k) (fun _ => R) := by
 (refine Does.enter Tryz.func233 Tryz.ntmps233 rfl rfl ?_)
 refine w ?_
 refine VC.loop (α := Nat) (fun i => i <= l.length /\ v ∉ l.take i) (fun _ => R) (fun i => [(0, .slice ao l.length cap), (1, .int .u8 (v.toNat : Int)), (7, .int .i64 l.length), (8, .int .i64 i)]) (fun i => l.length - i) rfl 0 ⟨Nat.zero_le _, by simp⟩ Ent.refl ⟨rfl, rfl, rfl, rfl, trivial⟩ ?_
 rintro i ⟨hi, hno⟩
 refine w ?_
 refine zk ?_ ?_ <;> intro hc
 ·
  have hlt : i < l.length := by have := of_decide_eq_true hc; omega
  obtain ⟨a, rfl⟩ : ∃ a, ao = some a := by cases ao with | none => have := hr.nil rfl; omega | some a => exact ⟨a, rfl⟩
  refine w ?_
  refine VO.pure rfl rfl (PureAt.ldR tab_ok rfl rfl hr (show (bytes l)[i]? = some (.int .u8 (l[i].toNat : Int)) by simp [bytes, hlt]; rfl)) rfl ?_
  refine w ?_
  refine zk ?_ ?_ <;> intro hc
  ·
   have he : v = l[i] := by have h : (v.toNat : Int) = l[i].toNat := (by simpa using hc); exact UInt8.toNat_inj.1 (by omega)
   refine w ?_
   refine VE.done (i : Int) rfl ?_ rfl Ent.refl
   rw [decide_eq_true (by omega), decide_eq_true (by rw [he]; exact List.getElem_mem hlt)]
  ·
   have he : v ≠ l[i] := by
    intro h; subst h; simp at hc
   refine w ?_
   refine VE.round (i + 1) ⟨hlt, ?_⟩ (by omega) ⟨rfl, rfl, rfl, asV rfl (by congr 1), trivial⟩ Ent.refl
   rw [List.take_succ_eq_append_getElem hlt, List.mem_append, List.mem_singleton]
   rintro (h | h)
   · exact hno h
   · exact he h
 ·
  have hge : i = l.length := by have := of_decide_eq_false hc; omega
  subst hge
  rw [List.take_of_length_le (Nat.le_refl _)] at hno
  refine w ?_
  refine VE.done (-1) rfl (by simp [hno]) rfl Ent.refl
def SuperD.akin (a b : SuperD) : Bool := decide (a.id = b.id /\ (a.members = b.members /\ a.chunk = b.chunk /\ a.stripes = b.stripes) /\ a.ring = b.ring /\ a.lazy = b.lazy)
theorem geo_eq {n : Nat} {H : List SProp} {f : Fr} {dst : Option Tmp} {ty_ : TypeId} {pos : String} {after : Array Edge} {guard : Option (Nat × Bool)} {op : BinOp} {x y : Operand} {u : TypeId} {a b : SuperD} {v : Value} (hx : evalX f x = some (.agg #[.int .i64 a.members, .int .i64 a.chunk, .int .i64 a.stripes])) (hy : evalX f y = some (.agg #[.int .i64 b.members, .int .i64 b.chunk, .int .i64 b.stripes]))
  (ha : a.fit) (hb : b.fit) (hv : eqB op (decide (a.members = b.members /\ a.chunk = b.chunk /\ a.stripes = b.stripes)) = some v) : PureAt W Tryz.prog n H f { dst, op := .binOp op 64 x y u, type := ty_, pos, after, guard } v := by
 have w : ∀ z : Int, -9223372036854775808 <= z /\ z <= 9223372036854775807 -> (Lit.int .i64 z).wf = true := fun z h => by simp [Lit.wf, IntKind.min, IntKind.max, IntKind.signed, IntKind.bits]; omega
 refine PureAt.eqFlat (ks := [some .i64, some .i64, some .i64]) (cs := [.int .i64 a.members, .int .i64 a.chunk, .int .i64 a.stripes]) (ds := [.int .i64 b.members, .int .i64 b.chunk, .int .i64 b.stripes]) (by kernel_rfl) hx hy rfl rfl rfl rfl ?_ ?_ ?_ hv
 ·
  intro l hl; simp only [List.mem_cons, List.not_mem_nil, or_false] at hl; rcases hl with h | h | h
  · subst h; exact w _ ha.members
  · subst h; exact w _ ha.chunk
  · subst h; exact w _ ha.stripes
 ·
  intro l hl; simp only [List.mem_cons, List.not_mem_nil, or_false] at hl; rcases hl with h | h | h
  · subst h; exact w _ hb.members
  · subst h; exact w _ hb.chunk
  · subst h; exact w _ hb.stripes
 · simp
theorem akin_ok (a b : SuperD) (ha : a.fit) (hbf : b.fit) :
  Does1 W Tryz.prog 74 [.agg a.cells.toArray, .agg b.cells.toArray] R (.bool (a.akin b)) R := by
 (refine Does.enter Tryz.func74 Tryz.ntmps74 rfl rfl ?_)
 refine w ?_; repeat (refine zj fun _ => ?_; refine w ?_)
 unfold SuperD.akin
 refine zg ?_ ?_ <;> intro hb
 ·
  have h1 : a.id = b.id := by have := hb; simp at this; omega
  refine w ?_; repeat (refine zj fun _ => ?_; refine w ?_)
  refine VO.pure rfl rfl (geo_eq (a := a) (b := b) rfl rfl ha hbf rfl) rfl ?_
  refine w ?_; repeat (refine zj fun _ => ?_; refine w ?_)
  refine zg ?_ ?_ <;> intro hb
  ·
   have h2 : a.members = b.members /\ a.chunk = b.chunk /\ a.stripes = b.stripes := of_decide_eq_true hb
   refine w ?_; repeat (refine zj fun _ => ?_; refine w ?_)
   refine zg ?_ ?_ <;> intro hb
   ·
    have h3 : a.ring = b.ring := by simpa using hb
    refine w ?_; repeat (refine zj fun _ => ?_; refine w ?_)
    refine VE.done1 rfl ?_ ?_
    · congr 1; rw [Bool.eq_iff_iff]; simp [h1, h2.1, h2.2.1, h2.2.2, h3]
    · exact Ent.re
   ·
    have h3 : ¬ a.ring = b.ring := by simpa using hb
    refine w ?_; repeat (refine zj fun _ => ?_; refine w ?_)
    refine VE.done1 rfl ?_ ?_
    · simp [h3]
    · exact Ent.re
  ·
   have h2 : ¬ (a.members = b.members /\ a.chunk = b.chunk /\ a.stripes = b.stripes) := of_decide_eq_false hb
   refine w ?_; repeat (refine zj fun _ => ?_; refine w ?_)
   refine VE.done1 rfl ?_ ?_
   · congr 1; symm; exact decide_eq_false (fun h => h2 h.2.1)
   · exact Ent.re
 ·
  have h1 : ¬ a.id = b.id := by have := hb; simp at this; omega
  refine w ?_; repeat (refine zj fun _ => ?_; refine w ?_)
  refine VE.done1 rfl ?_ ?_
  · simp [h1]
  · exact Ent.re
theorem contains_ok {ao : Option Addr} {cap : Nat} {l : List UInt8} (v : UInt8) (hr : Rds W R 1 ao l.length (bytes l)) (hl : l.length <= 140737488351232) :
  Does1 W Tryz.prog 194 [.slice ao l.length cap, .int .u8 (v.toNat : Int)] R (.bool (decide (v ∈ l))) R := by
 (refine Does.enter Tryz.func194 Tryz.ntmps194 rfl rfl ?_)
 refine w ?_
 (refine zq ?_; refine zy rfl rfl (vindex_ok v hr hl) ?_)
 intro k hk
 refine w ?_
 refine VE.done1 rfl ?_ ?_
 · rw [<- hk]
 · exact Ent.refl
def SuperD.sizes (s : SuperD) : Bool := decide ((3 <= s.members /\ s.members <= 16) /\ (1 <= s.chunk /\ s.chunk <= 16) /\ 1 <= s.stripes /\ s.stripes <= 256)
def SuperD.counts (s : SuperD) : Bool := decide ((1 <= (s.events : Int) /\ (s.events : Int) <= 4611686018427387904) /\ 1 <= (s.safe : Int) /\ (s.safe : Int) <= s.events)
def goodSt (l : List UInt8) (i : Nat) : Prop := ∀ j (h : j < l.length), j < i -> 1 <= l[j].toNat /\ l[j].toNat <= 3 /\ (l[j] = 3 -> (3 : UInt8) ∉ l.take j)
def SuperD.form (s : SuperD) : Prop := s.sizes = true /\ s.counts = true /\ (0 <= s.role /\ s.role <= s.members) /\ (5 <= s.ring /\ s.ring <= 2048) /\ (s.states.length : Int) = s.members
def SuperD.last (s : SuperD) (i : Nat) : Int := if (3 : UInt8) ∈ s.states.take i then s.stripes - 1 else 0
def SuperD.okP (s : SuperD) : Prop := s.form /\ goodSt s.states s.states.length /\ 0 <= s.cursor /\ s.cursor <= s.last s.states.length
def goodB (l : List UInt8) : Nat -> Bool
  | 0 => true
  | i + 1 => goodB l i && (match l[i]? with
    | some x => decide (1 <= x.toNat /\ x.toNat <= 3 /\ (x = 3 -> (3 : UInt8) ∉ l.take i))
    | none => true)
theorem goodB_iff (l : List UInt8) : ∀ i, i <= l.length -> (goodB l i = true ↔ goodSt l i)
  | 0, _ => ⟨fun _ j h hj => absurd hj (by omega), fun _ => rfl⟩
  | i + 1, hi => by
    have hlt : i < l.length := by omega
    rw [goodB, Bool.and_eq_true, goodB_iff l i (by omega), List.getElem?_eq_getElem hlt]
    simp only [decide_eq_true_eq]
    constructor
    · rintro ⟨h1, h2⟩ j hj hji
      by_cases e : j = i
      · subst e; exact h2
      · exact h1 j hj (by omega)
    · exact fun h => ⟨fun j hj hji => h j hj (by omega), h i hlt (by omega)⟩
instance decGood (l : List UInt8) : Decidable (goodSt l l.length) := decidable_of_iff _ (goodB_iff l l.length (Nat.le_refl _))
instance decForm (s : SuperD) : Decidable s.form := by unfold SuperD.form; exact inferInstance
instance decOk (s : SuperD) : Decidable s.okP := by unfold SuperD.okP; exact inferInstance
def SuperD.check (s : SuperD) : Int := if s.okP then 0 else 70
theorem scheck_ok (s : SuperD) (hf : s.fit) (hr : Rds W R 1 s.so s.states.length (bytes s.states)) :
  Does1 W Tryz.prog 128 [.agg s.cells.toArray] R (.int .u16 s.check) R := by
 (refine Does.enter Tryz.func128 Tryz.ntmps128 rfl rfl ?_)
 refine w ?_; repeat (refine zj fun _ => ?_; refine w ?_)
 rename_i b
 refine zq ?_; refine OpV.allocS sb_64 rfl ?_; intro na
 refine w ?_; repeat (refine zj fun _ => ?_; refine w ?_)
 refine zq ?_
 refine OpV.stA (vs := [.int .i64 s.members, .int .i64 s.chunk, .int .i64 s.stripes]) tab_ok rfl rfl rfl rfl (by simp [Value.oneCell']) zh (by simp) ?_
 refine VO.ent (Reord.ent (L := Row na 64 [.int .i64 s.members, .int .i64 s.chunk, .int .i64 s.stripes] :: Row b 67 s.cells :: R) (by (repeat first | exact .refl | (apply Reord.cons; focus repeat first | exact .head | apply Del.tail) | exact .nil | apply Reord.drop))) ?_
 refine VO.nil rfl ?_
 refine VE.next ?_
 refine VC.seq rfl ?_
 refine VC.joinH [(1, .pointer (some ⟨b, 0, none⟩)), (3, .pointer (some ⟨na, 0, none⟩)), (4, .bool s.sizes)] ?_ ?_
 ·
  intro Q2 jn
  refine w ?_; repeat (refine zj fun _ => ?_; refine w ?_)
  ((refine zq ?_; refine zd rfl rfl (within_ok s.members 3 16) ?_); intro _ _)
  refine w ?_; repeat (refine zj fun _ => ?_; refine w ?_)
  refine zg ?_ ?_ <;> intro hb
  ·
   have h1 := of_decide_eq_true hb
   refine w ?_; repeat (refine zj fun _ => ?_; refine w ?_)
   ((refine zq ?_; refine zd rfl rfl (within_ok s.chunk 1 16) ?_); intro _ _)
   refine w ?_; repeat (refine zj fun _ => ?_; refine w ?_)
   refine zg ?_ ?_ <;> intro hb
   ·
    have h2 := of_decide_eq_true hb
    refine w ?_; repeat (refine zj fun _ => ?_; refine w ?_)
    ((refine zq ?_; refine zd rfl rfl (within_ok s.stripes 1 256) ?_); intro _ _)
    refine w ?_; repeat (refine zj fun _ => ?_; refine w ?_)
    exact jn.to () trivial ⟨rfl, rfl, asV rfl (by congr 1; rw [Bool.eq_iff_iff]; simp [SuperD.sizes]; omega), trivial⟩ Ent.re
   ·
    have h2 := of_decide_eq_false hb
    refine w ?_; repeat (refine zj fun _ => ?_; refine w ?_)
    exact jn.to () trivial ⟨rfl, rfl, asV rfl (by congr 1; rw [Bool.eq_iff_iff]; simp [SuperD.sizes]; omega), trivial⟩ Ent.re
  ·
   have h1 := of_decide_eq_false hb
   refine w ?_; repeat (refine zj fun _ => ?_; refine w ?_)
   exact jn.to () trivial ⟨rfl, rfl, asV rfl (by congr 1; rw [Bool.eq_iff_iff]; simp [SuperD.sizes]; omega), trivial⟩ Ent.re
 refine VC.seq rfl ?_
 refine VC.joinH [(1, .pointer (some ⟨b, 0, none⟩)), (3, .pointer (some ⟨na, 0, none⟩)), (4, .bool s.sizes), (5, .bool s.counts)] ?_ ?_
 ·
  intro Q2 jn
  refine w ?_; repeat (refine zj fun _ => ?_; refine w ?_)
  ((refine zq ?_; refine zd rfl rfl (withinU_ok s.events 1 4611686018427387904) ?_); intro _ _)
  refine w ?_; repeat (refine zj fun _ => ?_; refine w ?_)
  refine zg ?_ ?_ <;> intro hb
  ·
   have h1 := of_decide_eq_true hb
   refine w ?_; repeat (refine zj fun _ => ?_; refine w ?_)
   ((refine zq ?_; refine zd rfl rfl (withinU_ok s.safe 1 s.events) ?_); intro _ _)
   refine w ?_; repeat (refine zj fun _ => ?_; refine w ?_)
   exact jn.to () trivial ⟨rfl, rfl, rfl, asV rfl (by congr 1; rw [Bool.eq_iff_iff]; simp [SuperD.counts]; omega), trivial⟩ Ent.re
  ·
   have h1 := of_decide_eq_false hb
   refine w ?_; repeat (refine zj fun _ => ?_; refine w ?_)
   exact jn.to () trivial ⟨rfl, rfl, rfl, asV rfl (by congr 1; rw [Bool.eq_iff_iff]; simp [SuperD.counts]; omega), trivial⟩ Ent.re
 have bad : ¬ s.form -> s.check = 70 := fun h => if_neg (fun h2 => h h2.1)
 cases hz : s.sizes
 ·
  refine w ?_; repeat (refine zj fun _ => ?_; refine w ?_)
  refine VE.done1 rfl ?_ ?_
  · rw [bad (fun h => by rw [h.1] at hz; cases hz)]
  · exact Ent.re
 cases hcn : s.counts
 ·
  refine w ?_; repeat (refine zj fun _ => ?_; refine w ?_)
  refine VE.done1 rfl ?_ ?_
  · rw [bad (fun h => by rw [h.2.1] at hcn; cases hcn)]
  · exact Ent.re
 refine w ?_; repeat (refine zj fun _ => ?_; refine w ?_)
 ((refine zq ?_; refine zd rfl rfl (within_ok s.role 0 s.members) ?_); intro _ _)
 refine w ?_; repeat (refine zj fun _ => ?_; refine w ?_)
 refine zg ?_ ?_ <;> intro hb
 ·
  have h1 : ¬ (0 <= s.role /\ s.role <= s.members) := of_decide_eq_false (by simpa only [Bool.not_eq_true'] using hb)
  refine w ?_; repeat (refine zj fun _ => ?_; refine w ?_)
  refine VE.done1 rfl ?_ ?_
  · rw [bad (fun h => h1 h.2.2.1)]
  · exact Ent.re
 have h1 : 0 <= s.role /\ s.role <= s.members := of_decide_eq_true (by simpa only [Bool.not_eq_false'] using hb)
 refine w ?_; repeat (refine zj fun _ => ?_; refine w ?_)
 ((refine zq ?_; refine zd rfl rfl (within_ok s.ring 5 2048) ?_); intro _ _)
 refine w ?_; repeat (refine zj fun _ => ?_; refine w ?_)
 refine zg ?_ ?_ <;> intro hb
 ·
  have h2 : ¬ (5 <= s.ring /\ s.ring <= 2048) := of_decide_eq_false (by simpa only [Bool.not_eq_true'] using hb)
  refine w ?_; repeat (refine zj fun _ => ?_; refine w ?_)
  refine VE.done1 rfl ?_ ?_
  · rw [bad (fun h => h2 h.2.2.2.1)]
  · exact Ent.re
 have h2 : 5 <= s.ring /\ s.ring <= 2048 := of_decide_eq_true (by simpa only [Bool.not_eq_false'] using hb)
 refine w ?_; repeat (refine zj fun _ => ?_; refine w ?_)
 refine zk ?_ ?_ <;> intro hc
 ·
  have h3 : ¬ (s.states.length : Int) = s.members := by simpa using hc
  refine w ?_; repeat (refine zj fun _ => ?_; refine w ?_)
  refine VE.done1 rfl ?_ ?_
  · rw [bad (fun h => h3 h.2.2.2.2)]
  · exact Ent.re
 have h3 : (s.states.length : Int) = s.members := by simpa using hc
 have hform : s.form := ⟨hz, hcn, h1, h2, h3⟩
 refine w ?_; repeat (refine zj fun _ => ?_; refine w ?_)
 refine VC.loop (α := Nat) (fun i => i <= s.states.length /\ goodSt s.states i) (fun _ => Row na 64 [.int .i64 s.members, .int .i64 s.chunk, .int .i64 s.stripes] :: Row b 67 s.cells :: R)
  (fun i => [(1, .pointer (some ⟨b, 0, none⟩)), (3, .pointer (some ⟨na, 0, none⟩)), (6, .int .i64 (s.last i)), (64, .slice s.so s.states.length s.sc), (65, .int .i64 s.states.length), (66, .int .i64 i)]) (fun i => s.states.length - i) rfl 0 ⟨Nat.zero_le _, fun j h hj => absurd hj (by omega)⟩ Ent.refl ⟨rfl, rfl, asV rfl (by simp [SuperD.last]), rfl, rfl, rfl, trivial⟩ ?_
 rintro i ⟨hi, hgd⟩
 have hlen := hf.len
 have hcp := hf.cap
 refine w ?_; repeat (refine zj fun _ => ?_; refine w ?_)
 refine zk ?_ ?_ <;> intro hc
 ·
  have hlt : i < s.states.length := by have := of_decide_eq_true hc; omega
  obtain ⟨a, ha⟩ : ∃ a, s.so = some a := by cases ho : s.so with | none => have := hr.nil ho; omega | some a => exact ⟨a, rfl⟩
  have hr2 : ∀ A B, Rds W (A :: B :: R) 1 (some a) s.states.length (bytes s.states) := fun A B => by rw [<- ha]; exact hr.ent (Ent.drop (Ent.drop Ent.refl))
  rw [ha]
  refine w ?_; repeat (refine zj fun _ => ?_; refine w ?_)
  refine VO.pure rfl rfl (PureAt.ldR tab_ok rfl rfl (hr2 _ _) (show (bytes s.states)[i]? = some (.int .u8 (s.states[i].toNat : Int)) by simp [bytes, hlt]; rfl)) rfl ?_
  refine w ?_; repeat (refine zj fun _ => ?_; refine w ?_)
  have htl : (s.states.take i).length = i := by rw [List.length_take, Nat.min_eq_left hi]
  have hrt : ∀ A B, Rds W (A :: B :: R) 1 s.so (s.states.take i).length (bytes (s.states.take i)) := fun A B => by
   have h := Rds.take (l := i) (hr.ent (Ent.drop (Ent.drop Ent.refl) : Ent W (A :: B :: R) R)) hi
   rw [Nat.mul_one, show (bytes s.states).take i = bytes (s.states.take i) by simp [bytes]] at h
   rw [htl]; exact h
  refine VO.re 74 (.slice s.so (s.states.take i).length s.sc) rfl (by rw [htl]) ?_
  (refine zq ?_; refine zy rfl rfl (contains_ok (3 : UInt8) (hrt _ _) (by omega)) ?_)
  intro _ _
  have hbadx : ¬ (1 <= s.states[i].toNat /\ s.states[i].toNat <= 3 /\ (s.states[i] = 3 -> (3 : UInt8) ∉ s.states.take i)) -> s.check = 70 := fun h => if_neg (fun h2 => h (h2.2.1 i hlt hlt))
  have hnext : (1 <= s.states[i].toNat /\ s.states[i].toNat <= 3 /\ (s.states[i] = 3 -> (3 : UInt8) ∉ s.states.take i)) -> goodSt s.states (i + 1) := fun h j hj hji => by
   by_cases e : j = i
   · subst e; exact h
   · exact hgd j hj (by omega)
  have hlast : s.last (i + 1) = if s.states[i] = 3 then s.stripes - 1 else s.last i := by
   unfold SuperD.last
   rw [List.take_succ_eq_append_getElem hlt]
   by_cases h3 : s.states[i] = 3
   · rw [if_pos h3, if_pos (List.mem_append_right _ (List.mem_singleton.2 h3.symm))]
   ·
    have : ¬ (3 : UInt8) = s.states[i] := fun h => h3 h.symm
    simp only [List.mem_append, List.mem_singleton, this, or_false, if_neg h3]
  have h3i : ((s.states[i].toNat : Int) == 3) = decide (s.states[i] = 3) := by
   rw [Bool.eq_iff_iff]; simp only [beq_iff_eq, decide_eq_true_eq]
   constructor
   · intro h; exact UInt8.toNat_inj.1 (by show s.states[i].toNat = 3; omega)
   · intro h; rw [h]; rfl
  generalize s.states[i] = x at *
  refine w ?_; repeat (refine zj fun _ => ?_; refine w ?_)
  refine zg ?_ ?_ <;> intro hb
  ·
   have g1 := of_decide_eq_true hb
   refine w ?_; repeat (refine zj fun _ => ?_; refine w ?_)
   refine VE.done1 rfl ?_ ?_
   · rw [hbadx (by omega)]
   · exact Ent.re
  have g1 := of_decide_eq_false hb
  refine w ?_; repeat (refine zj fun _ => ?_; refine w ?_)
  refine zg ?_ ?_ <;> intro hb
  ·
   have g2 := of_decide_eq_true hb
   refine w ?_; repeat (refine zj fun _ => ?_; refine w ?_)
   refine VE.done1 rfl ?_ ?_
   · rw [hbadx (by omega)]
   · exact Ent.re
  have g2 := of_decide_eq_false hb
  refine w ?_; repeat (refine zj fun _ => ?_; refine w ?_)
  refine zg ?_ ?_ <;> intro hb
  ·
   have g3 : x = 3 := of_decide_eq_true (by rw [<- h3i]; exact hb)
   refine w ?_; repeat (refine zj fun _ => ?_; refine w ?_)
   refine zk ?_ ?_ <;> intro hc
   ·
    have g4 : (3 : UInt8) ∈ s.states.take i := of_decide_eq_true hc
    refine w ?_; repeat (refine zj fun _ => ?_; refine w ?_)
    refine VE.done1 rfl ?_ ?_
    · rw [hbadx (fun h => h.2.2 g3 g4)]
    · exact Ent.re
   ·
    have g4 : ¬ (3 : UInt8) ∈ s.states.take i := of_decide_eq_false hc
    refine w ?_; repeat (refine zj fun _ => ?_; refine w ?_)
    (refine VC.condTe rfl rfl (by rw [h3i]; exact decide_eq_true g3) ?_)
    refine w ?_; repeat (refine zj fun _ => ?_; refine w ?_)
    have hst := (of_decide_eq_true hz).2.2
    refine VE.round (i + 1) ⟨hlt, hnext ⟨by omega, by omega, fun _ => g4⟩⟩ (by omega) ⟨rfl, rfl, asV rfl (by rw [hlast, if_pos g3, IntWalk.i64_in _ ⟨by omega, by omega⟩]), rfl, rfl, asV rfl (by congr 1), trivial⟩ Ent.re
  ·
   have g3 : ¬ x = 3 := of_decide_eq_false (by rw [<- h3i]; exact hb)
   refine w ?_; repeat (refine zj fun _ => ?_; refine w ?_)
   (refine VC.condFe rfl rfl (by rw [h3i]; exact decide_eq_false g3) ?_)
   refine w ?_; repeat (refine zj fun _ => ?_; refine w ?_)
   refine VE.round (i + 1) ⟨hlt, hnext ⟨by omega, by omega, fun h => absurd h g3⟩⟩ (by omega) ⟨rfl, rfl, asV rfl (by rw [hlast, if_neg g3]), rfl, rfl, asV rfl (by congr 1), trivial⟩ Ent.re
 ·
  have hge : i = s.states.length := by have := of_decide_eq_false hc; omega
  subst hge
  refine w ?_; repeat (refine zj fun _ => ?_; refine w ?_)
  ((refine zq ?_; refine zd rfl rfl (within_ok s.cursor 0 (s.last s.states.length)) ?_); intro _ _)
  refine w ?_; repeat (refine zj fun _ => ?_; refine w ?_)
  refine zk ?_ ?_ <;> intro hc
  ·
   have h4 : ¬ (0 <= s.cursor /\ s.cursor <= s.last s.states.length) := of_decide_eq_false (by simpa only [Bool.not_eq_true'] using hc)
   refine w ?_; repeat (refine zj fun _ => ?_; refine w ?_)
   refine VE.done1 rfl ?_ ?_
   · rw [show s.check = 70 from if_neg (fun h => h4 ⟨h.2.2.1, h.2.2.2⟩)]
   · exact Ent.re
  ·
   have h4 : 0 <= s.cursor /\ s.cursor <= s.last s.states.length := of_decide_eq_true (by simpa only [Bool.not_eq_false'] using hc)
   refine w ?_; repeat (refine zj fun _ => ?_; refine w ?_)
   refine VE.done1 rfl ?_ ?_
   · rw [show s.check = 0 from if_pos ⟨hform, hgd, h4.1, h4.2⟩]
   · exact Ent.re
def SuperD.flags (s : SuperD) : Nat := bitN s.lazy + 2 * bitN s.lost
def magicS : List UInt8 := [83, 80, 83, 66, 1, 0, 0, 0]
theorem magicS_low : magicS = lowBytes 5407723603 8 := by decide +kernel
def SuperD.nums (s : SuperD) : List (Nat × Nat) := [(5407723603, 8), (s.id, 8), (s.events, 8), (s.safe, 8), (s.role.toNat, 1), (s.members.toNat, 1), (s.chunk.toNat, 1), (s.flags, 1), (s.stripes.toNat, 2), (s.ring.toNat, 2), (s.cursor.toNat, 2), (0, 2)]
def SuperD.had (s : SuperD) (k : Nat) : List UInt8 := flds (s.nums.take k) ++ (if k = 13 then s.states else [])
def SuperD.body (s : SuperD) : List UInt8 := padTo 124 (s.had 13)
def SuperD.enc (s : SuperD) : Int × List UInt8 := if s.okP then (0, sealS s.body) else (70, [])
def offN (k : Nat) : Nat := [0, 8, 16, 24, 32, 33, 34, 35, 36, 38, 40, 42, 44].getD k 0
theorem had_zero (s : SuperD) : s.had 0 = [] := rfl
theorem had_succ (s : SuperD) {k v w : Nat} (hk : k < 12) (h : s.nums[k]? = some (v, w)) : s.had (k + 1) = s.had k ++ lowBytes v w := by
 unfold SuperD.had
 rw [if_neg (by omega), if_neg (by omega), List.append_nil, List.append_nil]
 have : s.nums.take (k + 1) = s.nums.take k ++ [(v, w)] := by
  rw [List.take_add_one, h]; rfl
 rw [this, flds_append]
 simp [flds]
theorem had_last (s : SuperD) : s.had 13 = s.had 12 ++ s.states := by
 unfold SuperD.had
 rw [if_pos rfl, if_neg (by decide), List.append_nil]
 rfl
theorem had_length (s : SuperD) (k : Nat) (hk : k < 13) : (s.had k).length = offN k := by
 unfold SuperD.had
 rw [if_neg (by omega), List.append_nil, flds_length]
 match k, hk with
 | 0, _ => rfl
 | 1, _ => rfl
 | 2, _ => rfl
 | 3, _ => rfl
 | 4, _ => rfl
 | 5, _ => rfl
 | 6, _ => rfl
 | 7, _ => rfl
 | 8, _ => rfl
 | 9, _ => rfl
 | 10, _ => rfl
 | 11, _ => rfl
 | 12, _ => rfl
theorem had_len13 (s : SuperD) : (s.had 13).length = 44 + s.states.length := by
 rw [had_last, List.length_append, had_length s 12 (by decide)]; rfl
theorem offN_le (k : Nat) (hk : k < 13) : offN k <= 44 := by
 rw [<- had_length ⟨0, 0, 0, 0, 0, 0, 0, 0, false, false, none, 0, [], 0⟩ k hk]
 match k, hk with
 | 0, _ => decide +kernel
 | 1, _ => decide +kernel
 | 2, _ => decide +kernel
 | 3, _ => decide +kernel
 | 4, _ => decide +kernel
 | 5, _ => decide +kernel
 | 6, _ => decide +kernel
 | 7, _ => decide +kernel
 | 8, _ => decide +kernel
 | 9, _ => decide +kernel
 | 10, _ => decide +kernel
 | 11, _ => decide +kernel
 | 12, _ => decide +kernel
structure SuperD.In (s : SuperD) : Prop where
  id : s.id < 2 ^ 64
  events : s.events < 2 ^ 64
  safe : s.safe < 2 ^ 64
  role : 0 <= s.role /\ s.role <= 16
  members : 3 <= s.members /\ s.members <= 16
  chunk : 1 <= s.chunk /\ s.chunk <= 16
  stripes : 1 <= s.stripes /\ s.stripes <= 256
  ring : 5 <= s.ring /\ s.ring <= 2048
  cursor : 0 <= s.cursor /\ s.cursor <= 255
  len : (s.states.length : Int) = s.members
  len16 : s.states.length <= 16
theorem okP_in {s : SuperD} (hf : s.fit) (h : s.okP) : s.In := by
 obtain ⟨⟨h1, h2, h3, h4, h5⟩, h6, h7, h8⟩ := h
 unfold SuperD.sizes at h1
 have h1 := of_decide_eq_true h1
 have hl : s.last s.states.length <= 255 := by
  unfold SuperD.last; split <;> omega
 exact ⟨by have := hf.id; omega, by have := hf.events; omega, by have := hf.safe; omega, by omega, by omega, by omega, by omega, by omega, by omega, h5, by omega⟩
theorem SuperD.In.had_le {s : SuperD} (h : s.In) (k : Nat) (hk : k <= 13) : (s.had k).length <= 60 := by
 have := h.len16
 by_cases e : k = 13
 · subst e; rw [had_len13]; omega
 · rw [had_length s k (by omega)]; have := offN_le k (by omega); omega
theorem body_length {s : SuperD} (h : s.In) : s.body.length = 124 := padTo_length (by have := h.had_le 13 (by decide); omega)
theorem enc_length {s : SuperD} (h : s.In) : (sealS s.body).length = 128 := sealS_length (body_length h)
theorem flags_lt (s : SuperD) : s.flags < 4 := by
 unfold SuperD.flags bitN; split <;> split <;> omega
abbrev fnV (g : FuncId) : Value := .func (.func g) #[] #[]
def AtOk (g : FuncId) (off : Nat) : Prop := (∀ a w, (callFunc g a).run Tryz.prog w = .ok (.enter g a) w) /\ ∀ (W : World) (H : List SProp) (b : Nat), Does1 W Tryz.prog g [.pointer (some ⟨b, 0, none⟩)] H (.pointer (some ⟨b, off, none⟩)) H
theorem sbF : StructT Tryz.prog 232 [.nilFunc, .nilFunc] [(0, 1), (1, 1)] := ⟨fun w => by simp, _, Tryz.underlying232, fun w => by simp⟩
theorem stF : SliceT Tryz.prog 227 232 (.agg #[.nilFunc, .nilFunc]) 2 16 := ⟨by kernel_rfl, by kernel_rfl, rfl, by simp [Value.cells, Value.oneCell']⟩
theorem at_id : AtOk 166 0 := by
 refine ⟨fun _ _ => by simp, fun W H b => ?_⟩
 (refine Does.enter Tryz.func166 Tryz.ntmps166 rfl rfl ?_)
 refine w ?_
 refine VE.done1 rfl ?_ ?_
 · rfl
 · exact Ent.refl
theorem at_events : AtOk 167 1 := by
 refine ⟨fun _ _ => by simp, fun W H b => ?_⟩
 (refine Does.enter Tryz.func167 Tryz.ntmps167 rfl rfl ?_)
 refine w ?_
 refine VE.done1 rfl ?_ ?_
 · rfl
 · exact Ent.refl
theorem at_safe : AtOk 168 2 := by
 refine ⟨fun _ _ => by simp, fun W H b => ?_⟩
 (refine Does.enter Tryz.func168 Tryz.ntmps168 rfl rfl ?_)
 refine w ?_
 refine VE.done1 rfl ?_ ?_
 · rfl
 · exact Ent.refl
theorem at_role : AtOk 171 3 := by
 refine ⟨fun _ _ => by simp, fun W H b => ?_⟩
 (refine Does.enter Tryz.func171 Tryz.ntmps171 rfl rfl ?_)
 refine w ?_
 refine VE.done1 rfl ?_ ?_
 · rfl
 · exact Ent.refl
theorem at_members : AtOk 172 4 := by
 refine ⟨fun _ _ => by simp, fun W H b => ?_⟩
 (refine Does.enter Tryz.func172 Tryz.ntmps172 rfl rfl ?_)
 refine w ?_
 refine VE.done1 rfl ?_ ?_
 · rfl
 · exact Ent.refl
theorem at_chunk : AtOk 173 5 := by
 refine ⟨fun _ _ => by simp, fun W H b => ?_⟩
 (refine Does.enter Tryz.func173 Tryz.ntmps173 rfl rfl ?_)
 refine w ?_
 refine VE.done1 rfl ?_ ?_
 · rfl
 · exact Ent.refl
theorem at_stripes : AtOk 179 6 := by
 refine ⟨fun _ _ => by simp, fun W H b => ?_⟩
 (refine Does.enter Tryz.func179 Tryz.ntmps179 rfl rfl ?_)
 refine w ?_
 refine VE.done1 rfl ?_ ?_
 · rfl
 · exact Ent.refl
theorem at_ring : AtOk 180 7 := by
 refine ⟨fun _ _ => by simp, fun W H b => ?_⟩
 (refine Does.enter Tryz.func180 Tryz.ntmps180 rfl rfl ?_)
 refine w ?_
 refine VE.done1 rfl ?_ ?_
 · rfl
 · exact Ent.refl
theorem at_cursor : AtOk 181 11 := by
 refine ⟨fun _ _ => by simp, fun W H b => ?_⟩
 (refine Does.enter Tryz.func181 Tryz.ntmps181 rfl rfl ?_)
 refine w ?_
 refine VE.done1 rfl ?_ ?_
 · rfl
 · exact Ent.refl
theorem number64_ok (p g a : FuncId) :
  Does W Tryz.prog 163 [fnV p, fnV g, fnV a] R (β := Nat × Nat × Nat) (fun _ => True)
   (fun x => .agg #[.func (.func 223) #[] #[.pointer (some ⟨x.1, 0, none⟩), .pointer (some ⟨x.2.2, 0, none⟩)], .func (.func 224) #[] #[.pointer (some ⟨x.2.1, 0, none⟩), .pointer (some ⟨x.2.2, 0, none⟩)]])
   (fun x => Row x.2.2 273 [fnV a] :: Row x.2.1 270 [fnV g] :: Row x.1 268 [fnV p] :: R) := by
 (refine Does.enter Tryz.func163 Tryz.ntmps163 rfl rfl ?_)
 refine w ?_; repeat (refine zj fun _ => ?_; refine w ?_)
 rename_i b1 b2 b3
 refine zq ?_; refine OpV.allocS sbF rfl ?_; intro nz
 refine w ?_; repeat (refine zj fun _ => ?_; refine w ?_)
 refine VO.pure rfl rfl (PureAt.makeFuncN rfl) rfl ?_
 refine w ?_; repeat (refine zj fun _ => ?_; refine w ?_)
 refine VO.pure rfl rfl (PureAt.makeFuncN rfl) rfl ?_
 refine w ?_; repeat (refine zj fun _ => ?_; refine w ?_)
 (apply VO.pure rfl rfl; apply PureAt.build sbF rfl; (simp [buildX, setL, Value.cells]; rfl); rfl)
 refine zq ?_
 refine OpV.stA tab_ok rfl rfl rfl rfl (by simp [Value.oneCell']) zh (by simp) ?_
 refine w ?_; repeat (refine zj fun _ => ?_; refine w ?_)
 refine VE.results1 (.inl rfl) (b1, b2, b3) rfl (ResIs.agg tab_ok rfl rfl zm rfl rfl) trivial rfl Ent.re
theorem put64_ok {pb cb : Nat} {ga : FuncId} {off v p : Nat} {k : Pk} {cs : List Value} (hp : Row pb 268 [fnV 164] ∈ R) (hc : Row cb 273 [fnV ga] ∈ R) (hat : AtOk ga off) (hcs : cs[off]? = some (.int .u64 v)) :
  Does1 W Tryz.prog 223 [.pointer (some ⟨p, 0, none⟩), .agg cs.toArray, .pointer (some ⟨pb, 0, none⟩), .pointer (some ⟨cb, 0, none⟩)] (PackerR p k :: R) (.tuple #[]) (PackerR p (k.number v 8) :: R) := by
 (refine Does.enter Tryz.func223 Tryz.ntmps223 rfl rfl ?_)
 refine w ?_; repeat (refine zj fun _ => ?_; refine w ?_)
 rename_i sb
 (refine VC.drawn [3] 6 [0, 1, 2, 3, 4, 5, 6] _ rfl (by kernel_rfl) (by kernel_rfl) Ent.re ?_)
 ((first | apply VO.pure rfl rfl | apply VQ.pure rfl rfl | apply VD.take rfl rfl rfl | (refine VD.end rfl rfl rfl ?_; apply OpV.pure)); exact PureAt.ld tab_ok rfl rfl (.tail _ (.tail _ hp)) rfl; rfl)
 refine w ?_; repeat (refine zj fun _ => ?_; refine w ?_)
 ((first | apply VO.pure rfl rfl | apply VQ.pure rfl rfl | apply VD.take rfl rfl rfl | (refine VD.end rfl rfl rfl ?_; apply OpV.pure)); exact PureAt.ld tab_ok rfl rfl (.tail _ (.tail _ hc)) rfl; rfl)
 refine zq ?_
 refine OpV.call rfl rfl hat.1 (hat.2 W _ sb) Ent.refl rfl ?_
 intro _ _
 refine w ?_; repeat (refine zj fun _ => ?_; refine w ?_)
 ((first | apply VO.pure rfl rfl | apply VQ.pure rfl rfl | apply VD.take rfl rfl rfl | (refine VD.end rfl rfl rfl ?_; apply OpV.pure)); exact PureAt.ld tab_ok rfl rfl (.head _) hcs; rfl)
 refine w ?_; repeat (refine zj fun _ => ?_; refine w ?_)
 ((refine zq ?_; refine zd rfl rfl (u64_ok p k v) ?_); intro _ _)
 refine w ?_; repeat (refine zj fun _ => ?_; refine w ?_)
 (refine VE.done1N rfl rfl ?_)
 exact Ent.re
theorem get64_ok {gb cb : Nat} {ga : FuncId} {off r sb : Nat} {k : Rk} {cs : List Value} (hg : Row gb 270 [fnV 165] ∈ R) (hc : Row cb 273 [fnV ga] ∈ R) (hat : AtOk ga off) (hoff : off < cs.length) :
  Does1 W Tryz.prog 224 [.pointer (some ⟨r, 0, none⟩), .pointer (some ⟨sb, 0, none⟩), .pointer (some ⟨gb, 0, none⟩), .pointer (some ⟨cb, 0, none⟩)] (ReaderR r k :: Row sb 67 cs :: R) (.tuple #[])
   (ReaderR r (k.number 8) :: Row sb 67 (cs.set off (.int .u64 (leVal (k.got 8)))) :: R) := by
 (refine Does.enter Tryz.func224 Tryz.ntmps224 rfl rfl ?_)
 (refine VC.drawn [2] 5 [0, 1, 3, 4, 2, 5, 6, 7] _ rfl (by kernel_rfl) (by kernel_rfl) Ent.re ?_)
 ((first | apply VO.pure rfl rfl | apply VQ.pure rfl rfl | apply VD.take rfl rfl rfl | (refine VD.end rfl rfl rfl ?_; apply OpV.pure)); exact PureAt.ld tab_ok rfl rfl (.tail _ (.tail _ hc)) rfl; rfl)
 refine w ?_
 ((first | apply VO.pure rfl rfl | apply VQ.pure rfl rfl | apply VD.take rfl rfl rfl | (refine VD.end rfl rfl rfl ?_; apply OpV.pure)); exact PureAt.ld tab_ok rfl rfl (.tail _ (.tail _ hg)) rfl; rfl)
 refine w ?_
 refine zq ?_
 refine OpV.call rfl rfl hat.1 (hat.2 W _ sb) Ent.refl rfl ?_
 intro _ _
 refine w ?_
 ((refine zq ?_; refine zd rfl rfl (r64_ok r k) ?_); intro _ _)
 refine w ?_
 refine w ?_
 refine zq ?_
 refine OpV.st tab_ok rfl rfl rfl rfl zh (by simpa using hoff) ?_
 refine w ?_
 (refine VE.done1N rfl rfl ?_)
 exact Ent.re
theorem number8_ok (p g a : FuncId) :
  Does W Tryz.prog 169 [fnV p, fnV g, fnV a] R (β := Nat × Nat × Nat) (fun _ => True)
   (fun x => .agg #[.func (.func 226) #[] #[.pointer (some ⟨x.1, 0, none⟩), .pointer (some ⟨x.2.2, 0, none⟩)], .func (.func 227) #[] #[.pointer (some ⟨x.2.1, 0, none⟩), .pointer (some ⟨x.2.2, 0, none⟩)]])
   (fun x => Row x.2.2 278 [fnV a] :: Row x.2.1 277 [fnV g] :: Row x.1 275 [fnV p] :: R) := by
 (refine Does.enter Tryz.func169 Tryz.ntmps169 rfl rfl ?_)
 refine w ?_; repeat (refine zj fun _ => ?_; refine w ?_)
 rename_i b1 b2 b3
 refine zq ?_; refine OpV.allocS sbF rfl ?_; intro nz
 refine w ?_; repeat (refine zj fun _ => ?_; refine w ?_)
 refine VO.pure rfl rfl (PureAt.makeFuncN rfl) rfl ?_
 refine w ?_; repeat (refine zj fun _ => ?_; refine w ?_)
 refine VO.pure rfl rfl (PureAt.makeFuncN rfl) rfl ?_
 refine w ?_; repeat (refine zj fun _ => ?_; refine w ?_)
 (apply VO.pure rfl rfl; apply PureAt.build sbF rfl; (simp [buildX, setL, Value.cells]; rfl); rfl)
 refine zq ?_
 refine OpV.stA tab_ok rfl rfl rfl rfl (by simp [Value.oneCell']) zh (by simp) ?_
 refine w ?_; repeat (refine zj fun _ => ?_; refine w ?_)
 refine VE.results1 (.inl rfl) (b1, b2, b3) rfl (ResIs.agg tab_ok rfl rfl zm rfl rfl) trivial rfl Ent.re
theorem put8_ok {pb cb : Nat} {ga : FuncId} {off v p : Nat} {k : Pk} {cs : List Value} (hp : Row pb 275 [fnV 170] ∈ R) (hc : Row cb 278 [fnV ga] ∈ R) (hat : AtOk ga off) (hcs : cs[off]? = some (.int .i64 v)) (hv : v < 2 ^ 8) :
  Does1 W Tryz.prog 226 [.pointer (some ⟨p, 0, none⟩), .agg cs.toArray, .pointer (some ⟨pb, 0, none⟩), .pointer (some ⟨cb, 0, none⟩)] (PackerR p k :: R) (.tuple #[]) (PackerR p (k.number v 1) :: R) := by
 (refine Does.enter Tryz.func226 Tryz.ntmps226 rfl rfl ?_)
 refine w ?_; repeat (refine zj fun _ => ?_; refine w ?_)
 rename_i sb
 (refine VC.drawn [3] 7 [0, 1, 2, 3, 4, 5, 6, 7] _ rfl (by kernel_rfl) (by kernel_rfl) Ent.re ?_)
 ((first | apply VO.pure rfl rfl | apply VQ.pure rfl rfl | apply VD.take rfl rfl rfl | (refine VD.end rfl rfl rfl ?_; apply OpV.pure)); exact PureAt.ld tab_ok rfl rfl (.tail _ (.tail _ hp)) rfl; rfl)
 refine w ?_; repeat (refine zj fun _ => ?_; refine w ?_)
 ((first | apply VO.pure rfl rfl | apply VQ.pure rfl rfl | apply VD.take rfl rfl rfl | (refine VD.end rfl rfl rfl ?_; apply OpV.pure)); exact PureAt.ld tab_ok rfl rfl (.tail _ (.tail _ hc)) rfl; rfl)
 refine zq ?_
 refine OpV.call rfl rfl hat.1 (hat.2 W _ sb) Ent.refl rfl ?_
 intro _ _
 refine w ?_; repeat (refine zj fun _ => ?_; refine w ?_)
 ((first | apply VO.pure rfl rfl | apply VQ.pure rfl rfl | apply VD.take rfl rfl rfl | (refine VD.end rfl rfl rfl ?_; apply OpV.pure)); exact PureAt.ld tab_ok rfl rfl (.head _) hcs; rfl)
 refine w ?_; repeat (refine zj fun _ => ?_; refine w ?_)
 refine VD.re 12 (.int .u8 v) rfl (by rw [wrap8_of, Nat.mod_eq_of_lt hv]) ?_
 ((refine zq ?_; refine zd rfl rfl (u8_ok p k v (by omega)) ?_); intro _ _)
 refine w ?_; repeat (refine zj fun _ => ?_; refine w ?_)
 (refine VE.done1N rfl rfl ?_)
 exact Ent.re
theorem get8_ok {gb cb : Nat} {ga : FuncId} {off r sb : Nat} {k : Rk} {cs : List Value} (hg : Row gb 277 [fnV 18] ∈ R) (hc : Row cb 278 [fnV ga] ∈ R) (hat : AtOk ga off) (hoff : off < cs.length) :
  Does1 W Tryz.prog 227 [.pointer (some ⟨r, 0, none⟩), .pointer (some ⟨sb, 0, none⟩), .pointer (some ⟨gb, 0, none⟩), .pointer (some ⟨cb, 0, none⟩)] (ReaderR r k :: Row sb 67 cs :: R) (.tuple #[])
   (ReaderR r (k.number 1) :: Row sb 67 (cs.set off (.int .i64 (leVal (k.got 1)))) :: R) := by
 (refine Does.enter Tryz.func227 Tryz.ntmps227 rfl rfl ?_)
 (refine VC.drawn [2] 5 [0, 1, 3, 4, 2, 5, 6, 7, 8] _ rfl (by kernel_rfl) (by kernel_rfl) Ent.re ?_)
 ((first | apply VO.pure rfl rfl | apply VQ.pure rfl rfl | apply VD.take rfl rfl rfl | (refine VD.end rfl rfl rfl ?_; apply OpV.pure)); exact PureAt.ld tab_ok rfl rfl (.tail _ (.tail _ hc)) rfl; rfl)
 refine w ?_
 ((first | apply VO.pure rfl rfl | apply VQ.pure rfl rfl | apply VD.take rfl rfl rfl | (refine VD.end rfl rfl rfl ?_; apply OpV.pure)); exact PureAt.ld tab_ok rfl rfl (.tail _ (.tail _ hg)) rfl; rfl)
 refine w ?_
 refine zq ?_
 refine OpV.call rfl rfl hat.1 (hat.2 W _ sb) Ent.refl rfl ?_
 intro _ _
 refine w ?_
 ((refine zq ?_; refine zd rfl rfl (r8_ok r k) ?_); intro _ _)
 refine w ?_
 refine VD.re 12 (.int .i64 (leVal (k.got 1))) rfl (by rw [IntWalk.i64_in _ ⟨by omega, by have := got_lt k 1; omega⟩]) ?_
 refine w ?_
 refine zq ?_
 refine OpV.st tab_ok rfl rfl rfl rfl zh (by simpa using hoff) ?_
 refine w ?_
 (refine VE.done1N rfl rfl ?_)
 exact Ent.re
theorem number16_ok (p g a : FuncId) :
  Does W Tryz.prog 177 [fnV p, fnV g, fnV a] R (β := Nat × Nat × Nat) (fun _ => True)
   (fun x => .agg #[.func (.func 228) #[] #[.pointer (some ⟨x.1, 0, none⟩), .pointer (some ⟨x.2.2, 0, none⟩)], .func (.func 229) #[] #[.pointer (some ⟨x.2.1, 0, none⟩), .pointer (some ⟨x.2.2, 0, none⟩)]])
   (fun x => Row x.2.2 278 [fnV a] :: Row x.2.1 283 [fnV g] :: Row x.1 281 [fnV p] :: R) := by
 (refine Does.enter Tryz.func177 Tryz.ntmps177 rfl rfl ?_)
 refine w ?_; repeat (refine zj fun _ => ?_; refine w ?_)
 rename_i b1 b2 b3
 refine zq ?_; refine OpV.allocS sbF rfl ?_; intro nz
 refine w ?_; repeat (refine zj fun _ => ?_; refine w ?_)
 refine VO.pure rfl rfl (PureAt.makeFuncN rfl) rfl ?_
 refine w ?_; repeat (refine zj fun _ => ?_; refine w ?_)
 refine VO.pure rfl rfl (PureAt.makeFuncN rfl) rfl ?_
 refine w ?_; repeat (refine zj fun _ => ?_; refine w ?_)
 (apply VO.pure rfl rfl; apply PureAt.build sbF rfl; (simp [buildX, setL, Value.cells]; rfl); rfl)
 refine zq ?_
 refine OpV.stA tab_ok rfl rfl rfl rfl (by simp [Value.oneCell']) zh (by simp) ?_
 refine w ?_; repeat (refine zj fun _ => ?_; refine w ?_)
 refine VE.results1 (.inl rfl) (b1, b2, b3) rfl (ResIs.agg tab_ok rfl rfl zm rfl rfl) trivial rfl Ent.re
theorem put16_ok {pb cb : Nat} {ga : FuncId} {off v p : Nat} {k : Pk} {cs : List Value} (hp : Row pb 281 [fnV 178] ∈ R) (hc : Row cb 278 [fnV ga] ∈ R) (hat : AtOk ga off) (hcs : cs[off]? = some (.int .i64 v)) (hv : v < 2 ^ 16) :
  Does1 W Tryz.prog 228 [.pointer (some ⟨p, 0, none⟩), .agg cs.toArray, .pointer (some ⟨pb, 0, none⟩), .pointer (some ⟨cb, 0, none⟩)] (PackerR p k :: R) (.tuple #[]) (PackerR p (k.number v 2) :: R) := by
 (refine Does.enter Tryz.func228 Tryz.ntmps228 rfl rfl ?_)
 refine w ?_; repeat (refine zj fun _ => ?_; refine w ?_)
 rename_i sb
 (refine VC.drawn [3] 7 [0, 1, 2, 3, 4, 5, 6, 7] _ rfl (by kernel_rfl) (by kernel_rfl) Ent.re ?_)
 ((first | apply VO.pure rfl rfl | apply VQ.pure rfl rfl | apply VD.take rfl rfl rfl | (refine VD.end rfl rfl rfl ?_; apply OpV.pure)); exact PureAt.ld tab_ok rfl rfl (.tail _ (.tail _ hp)) rfl; rfl)
 refine w ?_; repeat (refine zj fun _ => ?_; refine w ?_)
 ((first | apply VO.pure rfl rfl | apply VQ.pure rfl rfl | apply VD.take rfl rfl rfl | (refine VD.end rfl rfl rfl ?_; apply OpV.pure)); exact PureAt.ld tab_ok rfl rfl (.tail _ (.tail _ hc)) rfl; rfl)
 refine zq ?_
 refine OpV.call rfl rfl hat.1 (hat.2 W _ sb) Ent.refl rfl ?_
 intro _ _
 refine w ?_; repeat (refine zj fun _ => ?_; refine w ?_)
 ((first | apply VO.pure rfl rfl | apply VQ.pure rfl rfl | apply VD.take rfl rfl rfl | (refine VD.end rfl rfl rfl ?_; apply OpV.pure)); exact PureAt.ld tab_ok rfl rfl (.head _) hcs; rfl)
 refine w ?_; repeat (refine zj fun _ => ?_; refine w ?_)
 refine VD.re 12 (.int .u16 v) rfl (by rw [wrap16_of, Nat.mod_eq_of_lt hv]) ?_
 ((refine zq ?_; refine zd rfl rfl (u16_ok p k v (by omega)) ?_); intro _ _)
 refine w ?_; repeat (refine zj fun _ => ?_; refine w ?_)
 (refine VE.done1N rfl rfl ?_)
 exact Ent.re
theorem get16_ok {gb cb : Nat} {ga : FuncId} {off r sb : Nat} {k : Rk} {cs : List Value} (hg : Row gb 283 [fnV 20] ∈ R) (hc : Row cb 278 [fnV ga] ∈ R) (hat : AtOk ga off) (hoff : off < cs.length) :
  Does1 W Tryz.prog 229 [.pointer (some ⟨r, 0, none⟩), .pointer (some ⟨sb, 0, none⟩), .pointer (some ⟨gb, 0, none⟩), .pointer (some ⟨cb, 0, none⟩)] (ReaderR r k :: Row sb 67 cs :: R) (.tuple #[])
   (ReaderR r (k.number 2) :: Row sb 67 (cs.set off (.int .i64 (leVal (k.got 2)))) :: R) := by
 (refine Does.enter Tryz.func229 Tryz.ntmps229 rfl rfl ?_)
 (refine VC.drawn [2] 5 [0, 1, 3, 4, 2, 5, 6, 7, 8] _ rfl (by kernel_rfl) (by kernel_rfl) Ent.re ?_)
 ((first | apply VO.pure rfl rfl | apply VQ.pure rfl rfl | apply VD.take rfl rfl rfl | (refine VD.end rfl rfl rfl ?_; apply OpV.pure)); exact PureAt.ld tab_ok rfl rfl (.tail _ (.tail _ hc)) rfl; rfl)
 refine w ?_
 ((first | apply VO.pure rfl rfl | apply VQ.pure rfl rfl | apply VD.take rfl rfl rfl | (refine VD.end rfl rfl rfl ?_; apply OpV.pure)); exact PureAt.ld tab_ok rfl rfl (.tail _ (.tail _ hg)) rfl; rfl)
 refine w ?_
 refine zq ?_
 refine OpV.call rfl rfl hat.1 (hat.2 W _ sb) Ent.refl rfl ?_
 intro _ _
 refine w ?_
 ((refine zq ?_; refine zd rfl rfl (r16_ok r k) ?_); intro _ _)
 refine w ?_
 refine VD.re 12 (.int .i64 (leVal (k.got 2))) rfl (by rw [IntWalk.i64_in _ ⟨by omega, by have := got_lt k 2; omega⟩]) ?_
 refine w ?_
 refine zq ?_
 refine OpV.st tab_ok rfl rfl rfl rfl zh (by simpa using hoff) ?_
 refine w ?_
 (refine VE.done1N rfl rfl ?_)
 exact Ent.re
def SuperD.same (a b : SuperD) : Bool := ((a.id : Int) == b.id) && (((a.events : Int) == b.events) && (((a.safe : Int) == b.safe) && ((a.role == b.role) && (decide (a.members = b.members /\ a.chunk = b.chunk /\ a.stripes = b.stripes) && ((a.ring == b.ring) && ((a.lazy == b.lazy) && ((a.lost == b.lost) && ((a.cursor == b.cursor) && decide (a.states = b.states)))))))))
def boxes (x : Nat -> Nat × Nat × Nat) : List SProp := [Row (x 0).1 268 [fnV 164], Row (x 0).2.1 270 [fnV 165], Row (x 0).2.2 273 [fnV 166], Row (x 1).1 268 [fnV 164], Row (x 1).2.1 270 [fnV 165], Row (x 1).2.2 273 [fnV 167], Row (x 2).1 268 [fnV 164], Row (x 2).2.1 270 [fnV 165], Row (x 2).2.2 273 [fnV 168], Row (x 3).1 275 [fnV 170], Row (x 3).2.1 277 [fnV 18], Row (x 3).2.2 278 [fnV 171], Row (x 4).1 275 [fnV 170], Row (x 4).2.1 277 [fnV 18], Row (x 4).2.2 278 [fnV 172], Row (x 5).1 275 [fnV 170], Row (x 5).2.1 277 [fnV 18], Row (x 5).2.2 278 [fnV 173], Row (x 6).1 281 [fnV 178], Row (x 6).2.1 283 [fnV 20], Row (x 6).2.2 278 [fnV 179], Row (x 7).1 281 [fnV 178], Row (x 7).2.1 283 [fnV 20], Row (x 7).2.2 278 [fnV 180], Row (x 8).1 281 [fnV 178], Row (x 8).2.1 283 [fnV 20], Row (x 8).2.2 278 [fnV 181]]
def pairs (x : Nat -> Nat × Nat × Nat) : List (Value × Value) := [(fnV 160, fnV 162), (.func (.func 223) #[] #[.pointer (some ⟨(x 0).1, 0, none⟩), .pointer (some ⟨(x 0).2.2, 0, none⟩)], .func (.func 224) #[] #[.pointer (some ⟨(x 0).2.1, 0, none⟩), .pointer (some ⟨(x 0).2.2, 0, none⟩)]), (.func (.func 223) #[] #[.pointer (some ⟨(x 1).1, 0, none⟩), .pointer (some ⟨(x 1).2.2, 0, none⟩)], .func (.func 224) #[] #[.pointer (some ⟨(x 1).2.1, 0, none⟩), .pointer (some ⟨(x 1).2.2, 0, none⟩)]), (.func (.func 223) #[] #[.pointer (some ⟨(x 2).1, 0, none⟩), .pointer (some ⟨(x 2).2.2, 0, none⟩)], .func (.func 224) #[] #[.pointer (some ⟨(x 2).2.1, 0, none⟩), .pointer (some ⟨(x 2).2.2, 0, none⟩)]), (.func (.func 226) #[] #[.pointer (some ⟨(x 3).1, 0, none⟩), .pointer (some ⟨(x 3).2.2, 0, none⟩)], .func (.func 227) #[] #[.pointer (some ⟨(x 3).2.1, 0, none⟩), .pointer (some ⟨(x 3).2.2, 0, none⟩)]), (.func (.func 226) #[] #[.pointer (some ⟨(x 4).1, 0, none⟩), .pointer (some ⟨(x 4).2.2, 0, none⟩)], .func (.func 227) #[] #[.pointer (some ⟨(x 4).2.1, 0, none⟩), .pointer (some ⟨(x 4).2.2, 0, none⟩)]), (.func (.func 226) #[] #[.pointer (some ⟨(x 5).1, 0, none⟩), .pointer (some ⟨(x 5).2.2, 0, none⟩)], .func (.func 227) #[] #[.pointer (some ⟨(x 5).2.1, 0, none⟩), .pointer (some ⟨(x 5).2.2, 0, none⟩)]), (fnV 174, fnV 176), (.func (.func 228) #[] #[.pointer (some ⟨(x 6).1, 0, none⟩), .pointer (some ⟨(x 6).2.2, 0, none⟩)], .func (.func 229) #[] #[.pointer (some ⟨(x 6).2.1, 0, none⟩), .pointer (some ⟨(x 6).2.2, 0, none⟩)]), (.func (.func 228) #[] #[.pointer (some ⟨(x 7).1, 0, none⟩), .pointer (some ⟨(x 7).2.2, 0, none⟩)], .func (.func 229) #[] #[.pointer (some ⟨(x 7).2.1, 0, none⟩), .pointer (some ⟨(x 7).2.2, 0, none⟩)]), (.func (.func 228) #[] #[.pointer (some ⟨(x 8).1, 0, none⟩), .pointer (some ⟨(x 8).2.2, 0, none⟩)], .func (.func 229) #[] #[.pointer (some ⟨(x 8).2.1, 0, none⟩), .pointer (some ⟨(x 8).2.2, 0, none⟩)]), (fnV 182, fnV 183), (fnV 185, fnV 186)]
theorem pairs_length (x : Nat -> Nat × Nat × Nat) : (pairs x).length = 13 := rfl
def fieldCells (x : Nat -> Nat × Nat × Nat) : List Value := (pairs x).flatMap fun p => [p.1, p.2]
theorem fieldCells_one (x : Nat -> Nat × Nat × Nat) : ∀ u ∈ fieldCells x, u.oneCell' = true := by
 intro u hu; simp [fieldCells, pairs] at hu; rcases hu with rfl | rfl | rfl | rfl | rfl | rfl | rfl | rfl | rfl | rfl | rfl | rfl | rfl | rfl | rfl | rfl | rfl | rfl | rfl | rfl | rfl | rfl | rfl | rfl | rfl | rfl <;> rfl
theorem fieldCells_at (x : Nat -> Nat × Nat × Nat) (k : Nat) (hk : k < 13) : ((fieldCells x).drop (k * 2)).take 2 = [((pairs x)[k]'(by rw [pairs_length]; exact hk)).1, ((pairs x)[k]'(by rw [pairs_length]; exact hk)).2] :=
 flat_part (pairs x) k (by rw [pairs_length]; exact hk) (fun _ _ => rfl)
theorem fields_ok :
  Does W Tryz.prog 124 [] R (β := (Nat -> Nat × Nat × Nat) × Nat) (fun _ => True) (fun y => .slice (some ⟨y.2, 0, none⟩) 13 13) (fun y => Row y.2 232 (fieldCells y.1) :: (boxes y.1 ++ R)) := by
 (refine Does.enter Tryz.func124 Tryz.ntmps124 rfl rfl ?_)
 refine w ?_
 (apply VO.pure rfl rfl; apply PureAt.build sbF rfl; (simp [buildX, setL, Value.cells]; rfl); rfl)
 refine w ?_
 (refine zq ?_; refine zy rfl rfl (number64_ok 164 165 166) ?_)
 rintro ⟨p0, g0, a0⟩ -
 refine w ?_
 (refine zq ?_; refine zy rfl rfl (number64_ok 164 165 167) ?_)
 rintro ⟨p1, g1, a1⟩ -
 refine w ?_
 (refine zq ?_; refine zy rfl rfl (number64_ok 164 165 168) ?_)
 rintro ⟨p2, g2, a2⟩ -
 refine w ?_
 (refine zq ?_; refine zy rfl rfl (number8_ok 170 18 171) ?_)
 rintro ⟨p3, g3, a3⟩ -
 refine w ?_
 (refine zq ?_; refine zy rfl rfl (number8_ok 170 18 172) ?_)
 rintro ⟨p4, g4, a4⟩ -
 refine w ?_
 (refine zq ?_; refine zy rfl rfl (number8_ok 170 18 173) ?_)
 rintro ⟨p5, g5, a5⟩ -
 refine w ?_
 (apply VO.pure rfl rfl; apply PureAt.build sbF rfl; (simp [buildX, setL, Value.cells]; rfl); rfl)
 refine w ?_
 (refine zq ?_; refine zy rfl rfl (number16_ok 178 20 179) ?_)
 rintro ⟨p6, g6, a6⟩ -
 refine w ?_
 (refine zq ?_; refine zy rfl rfl (number16_ok 178 20 180) ?_)
 rintro ⟨p7, g7, a7⟩ -
 refine w ?_
 (refine zq ?_; refine zy rfl rfl (number16_ok 178 20 181) ?_)
 rintro ⟨p8, g8, a8⟩ -
 refine w ?_
 (apply VO.pure rfl rfl; apply PureAt.build sbF rfl; (simp [buildX, setL, Value.cells]; rfl); rfl)
 refine w ?_
 (apply VO.pure rfl rfl; apply PureAt.build sbF rfl; (simp [buildX, setL, Value.cells]; rfl); rfl)
 refine w ?_
 refine zq ?_
 refine OpV.buildSlice (cs := fieldCells (fun i => [(p0, g0, a0), (p1, g1, a1), (p2, g2, a2), (p3, g3, a3), (p4, g4, a4), (p5, g5, a5), (p6, g6, a6), (p7, g7, a7), (p8, g8, a8)].getD i (0, 0, 0))) stF rfl rfl (by simp [Value.cells]) rfl (by decide) rfl ?_
 intro nb
 refine w ?_
 refine VE.done (fun i => [(p0, g0, a0), (p1, g1, a1), (p2, g2, a2), (p3, g3, a3), (p4, g4, a4), (p5, g5, a5), (p6, g6, a6), (p7, g7, a7), (p8, g8, a8)].getD i (0, 0, 0), nb) rfl trivial rfl ?_
 show Ent W _ (Row nb 232 _ :: ([Row p0 268 [fnV 164], Row g0 270 [fnV 165], Row a0 273 [fnV 166], Row p1 268 [fnV 164], Row g1 270 [fnV 165], Row a1 273 [fnV 167], Row p2 268 [fnV 164], Row g2 270 [fnV 165], Row a2 273 [fnV 168], Row p3 275 [fnV 170], Row g3 277 [fnV 18], Row a3 278 [fnV 171], Row p4 275 [fnV 170], Row g4 277 [fnV 18], Row a4 278 [fnV 172], Row p5 275 [fnV 170], Row g5 277 [fnV 18], Row a5 278 [fnV 173], Row p6 281 [fnV 178], Row g6 283 [fnV 20], Row a6 278 [fnV 179], Row p7 281 [fnV 178], Row g7 283 [fnV 20], Row a7 278 [fnV 180], Row p8 281 [fnV 178], Row g8 283 [fnV 20], Row a8 278 [fnV 181]] ++ R))
 exact Ent.re
theorem magicS_ok : Does W Tryz.prog 123 [] R (β := Nat) (fun _ => True) (fun b => .slice (some ⟨b, 0, none⟩) 8 8) (fun b => MRow b 5 (bytes magicS) :: R) := by
 (refine Does.enter Tryz.func123 Tryz.ntmps123 rfl rfl ?_)
 refine w ?_
 (refine zq ?_; refine OpV.buildSlice1 st_22 rfl rfl (by first | (simp; done) | simp [Value.oneCell']) (by decide) rfl ?_; intro nb)
 refine zq ?_
 refine OpV.markConst tab_ok rfl rfl rfl zh rfl ?_
 refine w ?_
 refine VE.done nb rfl trivial rfl ?_
 exact Ent.refl
theorem bits_ok (s : SuperD) : Does1 W Tryz.prog 175 [.agg s.cells.toArray] R (.int .u8 s.flags) R := by
 (refine Does.enter Tryz.func175 Tryz.ntmps175 rfl rfl ?_)
 refine w ?_; repeat (refine zj fun _ => ?_; refine w ?_)
 rename_i b
 have hfl : s.flags = bitN s.lazy + 2 * bitN s.lost := rfl
 refine VC.joinH [(1, .pointer (some ⟨b, 0, none⟩)), (3, .int .u8 (bitN s.lazy))] (fun Q2 jn => ?_) ?_
 ·
  refine zk ?_ ?_ <;> intro hc
  ·
   refine w ?_; repeat (refine zj fun _ => ?_; refine w ?_)
   refine jn.to () trivial ⟨rfl, asV rfl (by rw [hc]; rfl), trivial⟩ Ent.refl
  ·
   refine w ?_; repeat (refine zj fun _ => ?_; refine w ?_)
   refine jn.to () trivial ⟨rfl, asV rfl (by rw [hc]; rfl), trivial⟩ Ent.refl
 refine w ?_; repeat (refine zj fun _ => ?_; refine w ?_)
 refine VC.joinH [(3, .int .u8 s.flags)] (fun Q2 jn => ?_) ?_
 ·
  refine zk ?_ ?_ <;> intro hc
  ·
   refine w ?_; repeat (refine zj fun _ => ?_; refine w ?_)
   refine jn.to () trivial ⟨asV rfl (by rw [hfl, hc]; cases s.lazy <;> rfl), trivial⟩ Ent.refl
  ·
   refine w ?_; repeat (refine zj fun _ => ?_; refine w ?_)
   refine jn.to () trivial ⟨asV rfl (by rw [hfl, hc]; cases s.lazy <;> rfl), trivial⟩ Ent.refl
 refine w ?_; repeat (refine zj fun _ => ?_; refine w ?_)
 refine VE.done1 rfl ?_ ?_
 · rfl
 · exact Ent.re
def PutS (W : World) (s : SuperD) (R : List SProp) (k : Nat) (v : Value) : Prop :=
  ∃ (g : FuncId) (cap : Array Value), v = .func (.func g) #[] cap /\ (∀ a w, (callFunc g a).run Tryz.prog w = .ok (.enter g a) w) /\
    ∀ p, Does1 W Tryz.prog g ([.pointer (some ⟨p, 0, none⟩), .agg s.cells.toArray] ++ cap.toList) (PackerR p ⟨128, s.had k, 0⟩ :: R) (.tuple #[]) (PackerR p ⟨128, s.had (k + 1), 0⟩ :: R)
theorem num_had {s : SuperD} (h : s.In) {k v w : Nat} (hk : k < 12) (hw : w <= 8) (hn : s.nums[k]? = some (v, w)) : (Pk.mk 128 (s.had k) 0).number v w = ⟨128, s.had (k + 1), 0⟩ := by
 rw [Pk.number_good rfl (by have := h.had_le k (by omega); simp only; omega), had_succ s hk hn]
theorem cell_nat {z : Int} (h : 0 <= z) : some (Value.int .i64 z) = some (Value.int .i64 ((z.toNat : Nat) : Int)) := by rw [Int.toNat_of_nonneg h]
section
variable {W : World} {s : SuperD} {R : List SProp} {x : Nat -> Nat × Nat × Nat}
theorem puts_id (h : s.In) (hb : ∀ q ∈ boxes x, q ∈ R) : PutS W s R 1 ((pairs x)[1]'(by rw [pairs_length]; decide)).1 := by
 refine ⟨_, _, rfl, fun _ _ => by simp, fun p => ?_⟩
 have q := put64_ok (W := W) (R := R) (v := s.id) (p := p) (k := ⟨128, s.had 1, 0⟩) (cs := s.cells) (hb (Row (x 0).1 _ _) (by simp [boxes])) (hb (Row (x 0).2.2 _ _) (by simp [boxes])) at_id rfl
 rw [num_had h (by decide) (by decide) rfl] at q
 exact q
theorem puts_events (h : s.In) (hb : ∀ q ∈ boxes x, q ∈ R) : PutS W s R 2 ((pairs x)[2]'(by rw [pairs_length]; decide)).1 := by
 refine ⟨_, _, rfl, fun _ _ => by simp, fun p => ?_⟩
 have q := put64_ok (W := W) (R := R) (v := s.events) (p := p) (k := ⟨128, s.had 2, 0⟩) (cs := s.cells) (hb (Row (x 1).1 _ _) (by simp [boxes])) (hb (Row (x 1).2.2 _ _) (by simp [boxes])) at_events rfl
 rw [num_had h (by decide) (by decide) rfl] at q
 exact q
theorem puts_safe (h : s.In) (hb : ∀ q ∈ boxes x, q ∈ R) : PutS W s R 3 ((pairs x)[3]'(by rw [pairs_length]; decide)).1 := by
 refine ⟨_, _, rfl, fun _ _ => by simp, fun p => ?_⟩
 have q := put64_ok (W := W) (R := R) (v := s.safe) (p := p) (k := ⟨128, s.had 3, 0⟩) (cs := s.cells) (hb (Row (x 2).1 _ _) (by simp [boxes])) (hb (Row (x 2).2.2 _ _) (by simp [boxes])) at_safe rfl
 rw [num_had h (by decide) (by decide) rfl] at q
 exact q
theorem puts_role (h : s.In) (hb : ∀ q ∈ boxes x, q ∈ R) : PutS W s R 4 ((pairs x)[4]'(by rw [pairs_length]; decide)).1 := by
 refine ⟨_, _, rfl, fun _ _ => by simp, fun p => ?_⟩
 have q := put8_ok (W := W) (R := R) (v := s.role.toNat) (p := p) (k := ⟨128, s.had 4, 0⟩) (cs := s.cells) (hb (Row (x 3).1 _ _) (by simp [boxes])) (hb (Row (x 3).2.2 _ _) (by simp [boxes])) at_role (cell_nat (by have := h.role; omega)) (by have := h.role; omega)
 rw [num_had h (by decide) (by decide) rfl] at q
 exact q
theorem puts_members (h : s.In) (hb : ∀ q ∈ boxes x, q ∈ R) : PutS W s R 5 ((pairs x)[5]'(by rw [pairs_length]; decide)).1 := by
 refine ⟨_, _, rfl, fun _ _ => by simp, fun p => ?_⟩
 have q := put8_ok (W := W) (R := R) (v := s.members.toNat) (p := p) (k := ⟨128, s.had 5, 0⟩) (cs := s.cells) (hb (Row (x 4).1 _ _) (by simp [boxes])) (hb (Row (x 4).2.2 _ _) (by simp [boxes])) at_members (cell_nat (by have := h.members; omega)) (by have := h.members; omega)
 rw [num_had h (by decide) (by decide) rfl] at q
 exact q
theorem puts_chunk (h : s.In) (hb : ∀ q ∈ boxes x, q ∈ R) : PutS W s R 6 ((pairs x)[6]'(by rw [pairs_length]; decide)).1 := by
 refine ⟨_, _, rfl, fun _ _ => by simp, fun p => ?_⟩
 have q := put8_ok (W := W) (R := R) (v := s.chunk.toNat) (p := p) (k := ⟨128, s.had 6, 0⟩) (cs := s.cells) (hb (Row (x 5).1 _ _) (by simp [boxes])) (hb (Row (x 5).2.2 _ _) (by simp [boxes])) at_chunk (cell_nat (by have := h.chunk; omega)) (by have := h.chunk; omega)
 rw [num_had h (by decide) (by decide) rfl] at q
 exact q
theorem puts_stripes (h : s.In) (hb : ∀ q ∈ boxes x, q ∈ R) : PutS W s R 8 ((pairs x)[8]'(by rw [pairs_length]; decide)).1 := by
 refine ⟨_, _, rfl, fun _ _ => by simp, fun p => ?_⟩
 have q := put16_ok (W := W) (R := R) (v := s.stripes.toNat) (p := p) (k := ⟨128, s.had 8, 0⟩) (cs := s.cells) (hb (Row (x 6).1 _ _) (by simp [boxes])) (hb (Row (x 6).2.2 _ _) (by simp [boxes])) at_stripes (cell_nat (by have := h.stripes; omega)) (by have := h.stripes; omega)
 rw [num_had h (by decide) (by decide) rfl] at q
 exact q
theorem puts_ring (h : s.In) (hb : ∀ q ∈ boxes x, q ∈ R) : PutS W s R 9 ((pairs x)[9]'(by rw [pairs_length]; decide)).1 := by
 refine ⟨_, _, rfl, fun _ _ => by simp, fun p => ?_⟩
 have q := put16_ok (W := W) (R := R) (v := s.ring.toNat) (p := p) (k := ⟨128, s.had 9, 0⟩) (cs := s.cells) (hb (Row (x 7).1 _ _) (by simp [boxes])) (hb (Row (x 7).2.2 _ _) (by simp [boxes])) at_ring (cell_nat (by have := h.ring; omega)) (by have := h.ring; omega)
 rw [num_had h (by decide) (by decide) rfl] at q
 exact q
theorem puts_cursor (h : s.In) (hb : ∀ q ∈ boxes x, q ∈ R) : PutS W s R 10 ((pairs x)[10]'(by rw [pairs_length]; decide)).1 := by
 refine ⟨_, _, rfl, fun _ _ => by simp, fun p => ?_⟩
 have q := put16_ok (W := W) (R := R) (v := s.cursor.toNat) (p := p) (k := ⟨128, s.had 10, 0⟩) (cs := s.cells) (hb (Row (x 8).1 _ _) (by simp [boxes])) (hb (Row (x 8).2.2 _ _) (by simp [boxes])) at_cursor (cell_nat (by have := h.cursor; omega)) (by have := h.cursor; omega)
 rw [num_had h (by decide) (by decide) rfl] at q
 exact q
theorem puts_magic (h : s.In) : PutS W s R 0 ((pairs x)[0]'(by rw [pairs_length]; decide)).1 := by
 refine ⟨_, _, rfl, fun _ _ => by simp, fun p => ?_⟩
 (refine Does.enter Tryz.func160 Tryz.ntmps160 rfl rfl ?_)
 refine w ?_; repeat (refine zj fun _ => ?_; refine w ?_)
 (refine zq ?_; refine zd rfl rfl (magicS_ok) ?_)
 intro b _
 refine zq ?_
 refine zd rfl rfl (rawR_ok (R := MRow b 5 (bytes magicS) :: R) (l := magicS) p ⟨128, s.had 0, 0⟩ (Rds.mrow (bytes_one _) (.head _) rfl)) ?_
 intro _ _
 rw [Pk.raw_good rfl (by rw [had_zero]; decide)]
 dsimp only
 rw [magicS_low, <- had_succ s (k := 0) (by decide) rfl]
 refine w ?_; repeat (refine zj fun _ => ?_; refine w ?_)
 (refine VE.done1N rfl rfl ?_)
 exact Ent.re
theorem puts_bits (h : s.In) : PutS W s R 7 ((pairs x)[7]'(by rw [pairs_length]; decide)).1 := by
 refine ⟨_, _, rfl, fun _ _ => by simp, fun p => ?_⟩
 have hf := flags_lt s
 (refine Does.enter Tryz.func174 Tryz.ntmps174 rfl rfl ?_)
 refine w ?_; repeat (refine zj fun _ => ?_; refine w ?_)
 (refine zq ?_; refine zy rfl rfl (bits_ok s) ?_)
 intro _ _
 refine w ?_; repeat (refine zj fun _ => ?_; refine w ?_)
 ((refine zq ?_; refine zd rfl rfl (u8_ok p ⟨128, s.had 7, 0⟩ s.flags (by omega)) ?_); intro _ _)
 rw [num_had h (by decide) (by decide) rfl]
 refine w ?_; repeat (refine zj fun _ => ?_; refine w ?_)
 (refine VE.done1N rfl rfl ?_)
 exact Ent.re
theorem puts_zero (h : s.In) : PutS W s R 11 ((pairs x)[11]'(by rw [pairs_length]; decide)).1 := by
 refine ⟨_, _, rfl, fun _ _ => by simp, fun p => ?_⟩
 (refine Does.enter Tryz.func182 Tryz.ntmps182 rfl rfl ?_)
 refine w ?_; repeat (refine zj fun _ => ?_; refine w ?_)
 ((refine zq ?_; refine zd rfl rfl (u16_ok p ⟨128, s.had 11, 0⟩ 0 (by omega)) ?_); intro _ _)
 rw [num_had h (by decide) (by decide) rfl]
 refine w ?_; repeat (refine zj fun _ => ?_; refine w ?_)
 (refine VE.done1N rfl rfl ?_)
 exact Ent.re
theorem low1 (c : UInt8) : lowBytes c.toNat 1 = [c] := by simp [lowBytes]
theorem puts_states (h : s.In) (hr : Rds W R 1 s.so s.states.length (bytes s.states)) : PutS W s R 12 ((pairs x)[12]'(by rw [pairs_length]; decide)).1 := by
 refine ⟨_, _, rfl, fun _ _ => by simp, fun p => ?_⟩
 have h16 := h.len16
 have h12 := had_length s 12 (by decide)
 rw [show offN 12 = 44 from rfl] at h12
 (refine Does.enter Tryz.func185 Tryz.ntmps185 rfl rfl ?_)
 refine w ?_; repeat (refine zj fun _ => ?_; refine w ?_)
 rename_i b
 refine VC.loop (α := Nat) (fun i => i <= s.states.length) (fun i => Row b 67 s.cells :: PackerR p ⟨128, s.had 12 ++ s.states.take i, 0⟩ :: R)
  (fun i => [(0, .pointer (some ⟨p, 0, none⟩)), (7, .slice s.so s.states.length s.sc), (8, .int .i64 s.states.length), (9, .int .i64 i)]) (fun i => s.states.length - i) rfl 0 (Nat.zero_le _) (by rw [List.take_zero, List.append_nil]; exact Ent.refl) ⟨rfl, rfl, rfl, rfl, trivial⟩ ?_
 intro i hi
 refine w ?_; repeat (refine zj fun _ => ?_; refine w ?_)
 refine zk ?_ ?_ <;> intro hc
 ·
  have hlt : i < s.states.length := by have := of_decide_eq_true hc; omega
  obtain ⟨a, ha⟩ : ∃ a, s.so = some a := by cases hs : s.so with | none => have := hr.nil hs; omega | some a => exact ⟨a, rfl⟩
  rw [ha] at hr
  have hb1 : Rds W (Row b 67 s.cells :: PackerR p ⟨128, s.had 12 ++ s.states.take i, 0⟩ :: R) 1 (some a) s.states.length (bytes s.states) := hr.ent (Ent.drop (Ent.drop Ent.refl))
  refine VC.re 7 (.slice (some a) s.states.length s.sc) rfl (by rw [ha]) ?_
  refine w ?_; repeat (refine zj fun _ => ?_; refine w ?_)
  ((refine zq ?_; refine zd rfl rfl (u8_ok p ⟨128, s.had 12 ++ s.states.take i, 0⟩ s.states[i].toNat (by have := s.states[i].toNat_lt; omega)) ?_); intro _ _)
  rw [Pk.number_good rfl (by simp only [List.length_append, List.length_take]; omega)]
  dsimp only
  rw [low1, List.append_assoc, <- List.take_succ_eq_append_getElem hlt]
  refine w ?_; repeat (refine zj fun _ => ?_; refine w ?_)
  refine VE.round (i + 1) (by omega) (by omega) ⟨rfl, asV rfl (by rw [ha]), rfl, asV rfl (by congr 1), trivial⟩ ?_
  exact Ent.re
 ·
  have hge : i = s.states.length := by have := of_decide_eq_false hc; omega
  subst hge
  refine w ?_; repeat (refine zj fun _ => ?_; refine w ?_)
  (refine VE.done1N rfl rfl ?_)
  rw [List.take_length, <- had_last]
  exact Ent.re
theorem puts_all (h : s.In) (hb : ∀ q ∈ boxes x, q ∈ R) (hr : Rds W R 1 s.so s.states.length (bytes s.states)) : ∀ k (hk : k < 13), PutS W s R k ((pairs x)[k]'(by rw [pairs_length]; exact hk)).1
 | 0, _ => puts_magic h
 | 1, _ => puts_id h hb
 | 2, _ => puts_events h hb
 | 3, _ => puts_safe h hb
 | 4, _ => puts_role h hb
 | 5, _ => puts_members h hb
 | 6, _ => puts_chunk h hb
 | 7, _ => puts_bits h
 | 8, _ => puts_stripes h hb
 | 9, _ => puts_ring h hb
 | 10, _ => puts_cursor h hb
 | 11, _ => puts_zero h
 | 12, _ => puts_states h hr
end
theorem append_drop : ∀ (L : List SProp) {R : List SProp}, Reord (L ++ R) R
 | [], _ => .refl
 | _ :: L, _ => .drop (append_drop L)
theorem drop_append : ∀ (R L : List SProp), Reord (R ++ L) R
 | [], _ => .nil
 | _ :: R, L => .cons .head (drop_append R L)
theorem fill_pad (X : List UInt8) (h : X.length <= 100) : (Pk.mk 128 X 0).fill (124 - X.length) 0 = ⟨128, padTo 124 X, 0⟩ := by
 have hr : (Pk.mk 128 X 0).room (124 - X.length) = ⟨128, X, 0⟩ := by
  unfold Pk.room; rw [if_neg]; rintro ⟨_, h2⟩; simp only at h2; omega
 have e : ((124 : Int) - X.length).toNat = 124 - X.length := by omega
 unfold Pk.fill
 rw [if_neg (by omega), hr, if_pos rfl, e]
 rfl
theorem senc_ok {s : SuperD} (h : s.okP) : s.enc = (0, sealS s.body) := if_pos h
theorem senc_bad {s : SuperD} (h : ¬ s.okP) : s.enc = (70, []) := if_neg h
theorem sencode_ok (s : SuperD) (hf : s.fit) (hr : Rds W R 1 s.so s.states.length (bytes s.states)) :
  Does W Tryz.prog 125 [.agg s.cells.toArray] R (β := Option Addr × Nat) (fun _ => True) (fun x => .tuple #[.slice x.1 s.enc.2.length x.2, .int .u16 s.enc.1]) (fun x => OwnB x s.enc.2 :: R) := by
 (refine Does.enter Tryz.func125 Tryz.ntmps125 rfl rfl ?_)
 refine w ?_; repeat (refine zj fun _ => ?_; refine w ?_)
 rename_i sb
 (refine zq ?_; refine zy rfl rfl (scheck_ok s hf (hr.ent (Ent.drop Ent.refl))) ?_)
 intro _ _
 refine w ?_; repeat (refine zj fun _ => ?_; refine w ?_)
 by_cases hok : s.okP
 case neg =>
  rw [show s.check = 70 from if_neg hok]
  refine w ?_; repeat (refine zj fun _ => ?_; refine w ?_)
  refine VE.done (none, 0) rfl trivial (by rw [senc_bad hok]; rfl) ?_
  rw [senc_bad hok]; exact Ent.trans (Ent.re (L := R)) (fun w hw => hw.ownNil _ _)
 rw [show s.check = 0 from if_pos hok, senc_ok hok]
 have hin := okP_in hf hok
 refine w ?_; repeat (refine zj fun _ => ?_; refine w ?_)
 (refine zq ?_; refine zd rfl rfl (new_ok 128 (by decide)) ?_)
 intro p _
 refine w ?_; repeat (refine zj fun _ => ?_; refine w ?_)
 (refine zq ?_; refine zy rfl rfl (fields_ok) ?_)
 rintro ⟨bx, fb⟩ -
 dsimp only
 refine w ?_; repeat (refine zj fun _ => ?_; refine w ?_)
 refine VC.loop (α := Nat) (fun k => k <= 13) (fun k => PackerR p ⟨128, s.had k, 0⟩ :: Row fb 232 (fieldCells bx) :: Row sb 67 s.cells :: (boxes bx ++ R))
  (fun k => [(1, .pointer (some ⟨sb, 0, none⟩)), (5, .pointer (some ⟨p, 0, none⟩)), (22, .slice (some ⟨fb, 0, none⟩) 13 13), (23, .int .i64 13), (24, .int .i64 k)]) (fun k => 13 - k) rfl 0 (by decide) ?_ ⟨rfl, rfl, rfl, rfl, rfl, trivial⟩ ?_
 ·
  rw [had_zero]
  intro w hw
  refine hw.perm ?_
  exact (List.Perm.cons _ ((List.perm_append_comm (l₁ := boxes bx) (l₂ := [PackerR p ⟨128, [], 0⟩, Row sb 67 s.cells] ++ R)).trans (by simp only [List.cons_append, List.nil_append]; exact List.Perm.cons _ (List.Perm.cons _ List.perm_append_comm)))).trans (List.Perm.swap ..)
 intro k hk
 refine w ?_; repeat (refine zj fun _ => ?_; refine w ?_)
 refine zk ?_ ?_ <;> intro hc
 ·
  have hlt : k < 13 := by have := of_decide_eq_true hc; omega
  have hput := puts_all (W := W) (s := s) (R := Row fb 232 (fieldCells bx) :: Row sb 67 s.cells :: (boxes bx ++ R)) (x := bx) hin (fun q hq => .tail _ (.tail _ (List.mem_append_left _ hq))) (hr.ent (Ent.drop (Ent.drop (fun w hw => hw.reord (append_drop _)))))  k hlt
  have hat := fieldCells_at bx k hlt
  generalize hpq : (pairs bx)[k]'(by rw [pairs_length]; exact hlt) = pq at hput hat
  obtain ⟨vp, vg⟩ := pq
  have hone : ∀ u ∈ [vp, vg], u.oneCell' = true := fun u hu => fieldCells_one bx u (List.drop_subset _ _ (List.take_subset _ _ (by rw [hat]; exact hu)))
  dsimp only at hput hat
  obtain ⟨g, cap, rfl, hc1, spec⟩ := hput
  have hrow : Rds W (PackerR p ⟨128, s.had k, 0⟩ :: Row fb 232 (fieldCells bx) :: Row sb 67 s.cells :: (boxes bx ++ R)) 2 (some ⟨fb, 0, none⟩) 13 (fieldCells bx) := Rds.row (fieldCells_one bx) zm rfl
  refine w ?_; repeat (refine zj fun _ => ?_; refine w ?_)
  refine VO.pure rfl rfl (PureAt.ldRA tab_ok rfl rfl hrow hat rfl) rfl ?_
  refine w ?_; repeat (refine zj fun _ => ?_; refine w ?_)
  refine zq ?_; refine OpV.allocS sbF rfl ?_; intro n8
  refine zq ?_
  refine OpV.stA tab_ok rfl rfl rfl rfl hone zh (by simp) ?_
  refine w ?_; repeat (refine zj fun _ => ?_; refine w ?_)
  refine zq ?_
  refine OpV.call rfl rfl hc1 (spec p) Ent.re rfl ?_
  intro _ _
  refine w ?_; repeat (refine zj fun _ => ?_; refine w ?_)
  refine VE.round (k + 1) (by omega) (by omega) ⟨rfl, rfl, rfl, rfl, asV rfl (by congr 1), trivial⟩ ?_
  exact Ent.re
 ·
  have hge : k = 13 := by have := of_decide_eq_false hc; omega
  subst hge
  have h13 := had_len13 s
  have h16 := hin.len16
  have hbl := body_length hin
  have hel := enc_length hin
  have hbody : s.body = padTo 124 (s.had 13) := rfl
  generalize s.had 13 = X at *
  refine VC.ent (Ent.re (L := PackerR p ⟨128, X, 0⟩ :: (boxes bx ++ R))) ?_
  refine VC.ent (fun w hw => hw.perm (List.Perm.cons _ List.perm_append_comm)) ?_
  refine VC.ent (fun w hw => hw.reord (Reord.cons .head (drop_append _ _))) ?_
  refine w ?_; repeat (refine zj fun _ => ?_; refine w ?_)
  ((refine zq ?_; refine zd rfl rfl (at_ok p ⟨128, X, 0⟩) ?_); intro _ _)
  dsimp only
  refine w ?_; repeat (refine zj fun _ => ?_; refine w ?_)
  ((refine zq ?_; refine zd rfl rfl (fill_ok p ⟨128, X, 0⟩ (124 - (X).length) 0) ?_); intro _ _)
  rw [fill_pad X (by omega), <- hbody]
  refine w ?_; repeat (refine zj fun _ => ?_; refine w ?_)
  (refine zq ?_; refine zd rfl rfl (bytes_ok p ⟨128, s.body, 0⟩ rfl) ?_)
  intro b _
  rw [image_pad]
  dsimp only
  generalize s.body = B at *
  refine w ?_; repeat (refine zj fun _ => ?_; refine w ?_)
  have hrB : Rds W (Own 5 1 (.slice (some ⟨b, 0, none⟩) 128 128) 128 (bytes (padTo 128 B)) :: PackerR p ⟨128, B, 0⟩ :: R) 1 (some ⟨b, 0, none⟩) 128 (bytes (padTo 128 B)) := Rds.own (bytes_one _) (.head _) (by rw [bytes_length, padTo_length (by omega)]) (by simp)
  have hp : (padTo 128 B).length = 128 := padTo_length (by omega)
  have hr4 := rds_head (l := padTo 128 B) (by rw [hp]; exact hrB) 124 (by omega)
  rw [show (padTo 128 B).take 124 = B from List.take_left' hbl] at hr4
  have hsum := sum_ok (W := W) (cap := 128) (l := B) (ao := some ⟨b, 0, none⟩) (by rw [hbl]; exact hr4) (by omega)
  rw [hbl] at hsum
  (refine zq ?_; refine zy rfl rfl (hsum) ?_)
  intro _ _
  refine w ?_; repeat (refine zj fun _ => ?_; refine w ?_)
  have hcr := (crcS B).isLt
  ((refine zq ?_; refine zd rfl rfl (u32_ok p ⟨128, B, 0⟩ (crcS B).toNat (by omega)) ?_); intro _ _)
  rw [Pk.number_good rfl (by simp only; omega)]
  dsimp only
  rw [show B ++ lowBytes (crcS B).toNat 4 = sealS B from rfl]
  refine w ?_; repeat (refine zj fun _ => ?_; refine w ?_)
  (refine zq ?_; refine zd rfl rfl (bytes_ok p ⟨128, sealS B, 0⟩ rfl) ?_)
  intro b2 _
  rw [image_pad, show padTo 128 (sealS B) = sealS B by unfold padTo; rw [hel]; simp]
  dsimp only
  refine w ?_; repeat (refine zj fun _ => ?_; refine w ?_)
  refine VE.done (some ⟨b2, 0, none⟩, 128) rfl trivial (by rw [hel]; rfl) ?_
  rw [show OwnB (some ⟨b2, 0, none⟩, 128) (sealS B) = Own 5 1 (.slice (some ⟨b2, 0, none⟩) 128 128) 128 (bytes (sealS B)) by unfold OwnB; rw [hel]]
  exact Ent.re
theorem bit8 : ∀ v : Fin 256, ((IntKind.u8.wrap ((BitVec.ofInt IntKind.u8.bits (v.val : Int) &&& BitVec.ofInt IntKind.u8.bits 1).toNat : Int)) != 0) = decide (v.val % 2 = 1) /\ ((IntKind.u8.wrap ((BitVec.ofInt IntKind.u8.bits (v.val : Int) &&& BitVec.ofInt IntKind.u8.bits 2).toNat : Int)) != 0) = decide (v.val / 2 % 2 = 1) := by decide +kernel
def stepsR (k : Rk) : Nat -> Rk
  | 0 => k
  | i + 1 => (stepsR k i).number 1
def stsOf (k : Rk) (n : Nat) : List UInt8 := (List.range n).map fun i => UInt8.ofNat (leVal ((stepsR k i).got 1))
theorem stsOf_length (k : Rk) (n : Nat) : (stsOf k n).length = n := by simp [stsOf]
theorem stsOf_succ (k : Rk) (n : Nat) : stsOf k (n + 1) = stsOf k n ++ [UInt8.ofNat (leVal ((stepsR k n).got 1))] := by simp [stsOf, List.range_succ]
def rkAt (l : List UInt8) (k : Nat) : Rk := if k <= 11 then ⟨l, offN k, 0, 0⟩ else (Rk.mk l 42 0 0).noughts 2
def manyS (l : List UInt8) : Nat := min (numAt l 33 1) 16
def SuperD.parse (l : List UInt8) : SuperD where
  id := numAt l 8 8
  events := numAt l 16 8
  safe := numAt l 24 8
  role := numAt l 32 1
  members := numAt l 33 1
  chunk := numAt l 34 1
  stripes := numAt l 36 2
  ring := numAt l 38 2
  lazy := decide (numAt l 35 1 % 2 = 1)
  lost := decide (numAt l 35 1 / 2 % 2 = 1)
  so := none
  sc := 0
  states := stsOf (rkAt l 12) (manyS l)
  cursor := numAt l 40 2
def SuperD.upto (p : SuperD) (k : Nat) : SuperD where
  id := if 1 < k then p.id else 0
  events := if 2 < k then p.events else 0
  safe := if 3 < k then p.safe else 0
  role := if 4 < k then p.role else 0
  members := if 5 < k then p.members else 0
  chunk := if 6 < k then p.chunk else 0
  stripes := if 8 < k then p.stripes else 0
  ring := if 9 < k then p.ring else 0
  lazy := if 7 < k then p.lazy else false
  lost := if 7 < k then p.lost else false
  so := none
  sc := 0
  states := []
  cursor := if 10 < k then p.cursor else 0
def SuperD.hold (p : SuperD) (x : Option Addr × Nat) (st : List UInt8) : SuperD := { p with so := x.1, sc := x.2, states := st }
theorem hold_set (p : SuperD) (x y : Option Addr × Nat) (X : List UInt8) (c : UInt8) : (p.hold y (X ++ [c])).cells = (p.hold x X).cells.set 10 (.slice y.1 (X.length + 1) y.2) := by
 simp [SuperD.hold]
abbrev OwnSt (x : Option Addr × Nat) (l : List UInt8) : SProp := Own 144 1 (.slice x.1 l.length x.2) l.length (bytes l)
def GetS (W : World) (l : List UInt8) (R : List SProp) (k : Nat) (v : Value) : Prop :=
  ∃ (g : FuncId) (cap : Array Value), v = .func (.func g) #[] cap /\ (∀ a w, (callFunc g a).run Tryz.prog w = .ok (.enter g a) w) /\
    ∀ r sb, Does1 W Tryz.prog g ([.pointer (some ⟨r, 0, none⟩), .pointer (some ⟨sb, 0, none⟩)] ++ cap.toList) (ReaderR r (rkAt l k) :: Row sb 67 ((SuperD.parse l).upto k).cells :: R) (.tuple #[])
      (ReaderR r (rkAt l (k + 1)) :: Row sb 67 ((SuperD.parse l).upto (k + 1)).cells :: R)
theorem rk_num {l : List UInt8} (hl : l.length = 128) {k w : Nat} (hk : k <= 10) (hw : offN k + w = offN (k + 1)) : (rkAt l k).number w = rkAt l (k + 1) /\ leVal ((rkAt l k).got w) = numAt l (offN k) w := by
 have h44 := offN_le (k + 1) (by omega)
 unfold rkAt
 rw [if_pos (by omega), if_pos (by omega)]
 have hg := Rk.got_good (k := ⟨l, offN k, 0, 0⟩) (n := w) rfl (by simp only; omega)
 rw [hg.2.2, hg.1]
 exact ⟨by simp only [hw], rfl⟩
section
variable {W : World} {l : List UInt8} {R : List SProp} {x : Nat -> Nat × Nat × Nat}
theorem gets_id (hl : l.length = 128) (hb : ∀ q ∈ boxes x, q ∈ R) : GetS W l R 1 ((pairs x)[1]'(by rw [pairs_length]; decide)).2 := by
 refine ⟨_, _, rfl, fun _ _ => by simp, fun r sb => ?_⟩
 have q := get64_ok (W := W) (R := R) (r := r) (sb := sb) (k := rkAt l 1) (cs := ((SuperD.parse l).upto 1).cells) (hb (Row (x 0).2.1 _ _) (by simp [boxes])) (hb (Row (x 0).2.2 _ _) (by simp [boxes])) at_id (by simp)
 rw [(rk_num hl (k := 1) (w := 8) (by decide) rfl).1, (rk_num hl (k := 1) (w := 8) (by decide) rfl).2] at q
 exact q
theorem gets_events (hl : l.length = 128) (hb : ∀ q ∈ boxes x, q ∈ R) : GetS W l R 2 ((pairs x)[2]'(by rw [pairs_length]; decide)).2 := by
 refine ⟨_, _, rfl, fun _ _ => by simp, fun r sb => ?_⟩
 have q := get64_ok (W := W) (R := R) (r := r) (sb := sb) (k := rkAt l 2) (cs := ((SuperD.parse l).upto 2).cells) (hb (Row (x 1).2.1 _ _) (by simp [boxes])) (hb (Row (x 1).2.2 _ _) (by simp [boxes])) at_events (by simp)
 rw [(rk_num hl (k := 2) (w := 8) (by decide) rfl).1, (rk_num hl (k := 2) (w := 8) (by decide) rfl).2] at q
 exact q
theorem gets_safe (hl : l.length = 128) (hb : ∀ q ∈ boxes x, q ∈ R) : GetS W l R 3 ((pairs x)[3]'(by rw [pairs_length]; decide)).2 := by
 refine ⟨_, _, rfl, fun _ _ => by simp, fun r sb => ?_⟩
 have q := get64_ok (W := W) (R := R) (r := r) (sb := sb) (k := rkAt l 3) (cs := ((SuperD.parse l).upto 3).cells) (hb (Row (x 2).2.1 _ _) (by simp [boxes])) (hb (Row (x 2).2.2 _ _) (by simp [boxes])) at_safe (by simp)
 rw [(rk_num hl (k := 3) (w := 8) (by decide) rfl).1, (rk_num hl (k := 3) (w := 8) (by decide) rfl).2] at q
 exact q
theorem gets_role (hl : l.length = 128) (hb : ∀ q ∈ boxes x, q ∈ R) : GetS W l R 4 ((pairs x)[4]'(by rw [pairs_length]; decide)).2 := by
 refine ⟨_, _, rfl, fun _ _ => by simp, fun r sb => ?_⟩
 have q := get8_ok (W := W) (R := R) (r := r) (sb := sb) (k := rkAt l 4) (cs := ((SuperD.parse l).upto 4).cells) (hb (Row (x 3).2.1 _ _) (by simp [boxes])) (hb (Row (x 3).2.2 _ _) (by simp [boxes])) at_role (by simp)
 rw [(rk_num hl (k := 4) (w := 1) (by decide) rfl).1, (rk_num hl (k := 4) (w := 1) (by decide) rfl).2] at q
 exact q
theorem gets_members (hl : l.length = 128) (hb : ∀ q ∈ boxes x, q ∈ R) : GetS W l R 5 ((pairs x)[5]'(by rw [pairs_length]; decide)).2 := by
 refine ⟨_, _, rfl, fun _ _ => by simp, fun r sb => ?_⟩
 have q := get8_ok (W := W) (R := R) (r := r) (sb := sb) (k := rkAt l 5) (cs := ((SuperD.parse l).upto 5).cells) (hb (Row (x 4).2.1 _ _) (by simp [boxes])) (hb (Row (x 4).2.2 _ _) (by simp [boxes])) at_members (by simp)
 rw [(rk_num hl (k := 5) (w := 1) (by decide) rfl).1, (rk_num hl (k := 5) (w := 1) (by decide) rfl).2] at q
 exact q
theorem gets_chunk (hl : l.length = 128) (hb : ∀ q ∈ boxes x, q ∈ R) : GetS W l R 6 ((pairs x)[6]'(by rw [pairs_length]; decide)).2 := by
 refine ⟨_, _, rfl, fun _ _ => by simp, fun r sb => ?_⟩
 have q := get8_ok (W := W) (R := R) (r := r) (sb := sb) (k := rkAt l 6) (cs := ((SuperD.parse l).upto 6).cells) (hb (Row (x 5).2.1 _ _) (by simp [boxes])) (hb (Row (x 5).2.2 _ _) (by simp [boxes])) at_chunk (by simp)
 rw [(rk_num hl (k := 6) (w := 1) (by decide) rfl).1, (rk_num hl (k := 6) (w := 1) (by decide) rfl).2] at q
 exact q
theorem gets_stripes (hl : l.length = 128) (hb : ∀ q ∈ boxes x, q ∈ R) : GetS W l R 8 ((pairs x)[8]'(by rw [pairs_length]; decide)).2 := by
 refine ⟨_, _, rfl, fun _ _ => by simp, fun r sb => ?_⟩
 have q := get16_ok (W := W) (R := R) (r := r) (sb := sb) (k := rkAt l 8) (cs := ((SuperD.parse l).upto 8).cells) (hb (Row (x 6).2.1 _ _) (by simp [boxes])) (hb (Row (x 6).2.2 _ _) (by simp [boxes])) at_stripes (by simp)
 rw [(rk_num hl (k := 8) (w := 2) (by decide) rfl).1, (rk_num hl (k := 8) (w := 2) (by decide) rfl).2] at q
 exact q
theorem gets_ring (hl : l.length = 128) (hb : ∀ q ∈ boxes x, q ∈ R) : GetS W l R 9 ((pairs x)[9]'(by rw [pairs_length]; decide)).2 := by
 refine ⟨_, _, rfl, fun _ _ => by simp, fun r sb => ?_⟩
 have q := get16_ok (W := W) (R := R) (r := r) (sb := sb) (k := rkAt l 9) (cs := ((SuperD.parse l).upto 9).cells) (hb (Row (x 7).2.1 _ _) (by simp [boxes])) (hb (Row (x 7).2.2 _ _) (by simp [boxes])) at_ring (by simp)
 rw [(rk_num hl (k := 9) (w := 2) (by decide) rfl).1, (rk_num hl (k := 9) (w := 2) (by decide) rfl).2] at q
 exact q
theorem gets_cursor (hl : l.length = 128) (hb : ∀ q ∈ boxes x, q ∈ R) : GetS W l R 10 ((pairs x)[10]'(by rw [pairs_length]; decide)).2 := by
 refine ⟨_, _, rfl, fun _ _ => by simp, fun r sb => ?_⟩
 have q := get16_ok (W := W) (R := R) (r := r) (sb := sb) (k := rkAt l 10) (cs := ((SuperD.parse l).upto 10).cells) (hb (Row (x 8).2.1 _ _) (by simp [boxes])) (hb (Row (x 8).2.2 _ _) (by simp [boxes])) at_cursor (by simp)
 rw [(rk_num hl (k := 10) (w := 2) (by decide) rfl).1, (rk_num hl (k := 10) (w := 2) (by decide) rfl).2] at q
 exact q
theorem gets_magic (hl : l.length = 128) : GetS W l R 0 ((pairs x)[0]'(by rw [pairs_length]; decide)).2 := by
 refine ⟨_, _, rfl, fun _ _ => by simp, fun r sb => ?_⟩
 (refine Does.enter Tryz.func162 Tryz.ntmps162 rfl rfl ?_)
 refine w ?_
 (refine zq ?_; refine zd rfl rfl (magicS_ok) ?_)
 intro b _
 refine w ?_
 (refine zq ?_; refine zd rfl rfl (rraw_ok r (rkAt l 0) 8) ?_)
 rintro ⟨ra, rc⟩ -
 rw [show (rkAt l 0).raw 8 = rkAt l 1 by unfold Rk.raw; rw [if_neg (by decide)]; exact (rk_num hl (k := 0) (w := 8) (by decide) rfl).1]
 refine w ?_
 (refine VE.done1N rfl rfl ?_)
 show Ent W _ (ReaderR r (rkAt l 1) :: Row sb 67 ((SuperD.parse l).upto 0).cells :: R)
 exact Ent.re
theorem gets_bits (hl : l.length = 128) : GetS W l R 7 ((pairs x)[7]'(by rw [pairs_length]; decide)).2 := by
 refine ⟨_, _, rfl, fun _ _ => by simp, fun r sb => ?_⟩
 have hlt : numAt l 35 1 < 256 := numAt_lt l 35 1
 have hb := bit8 ⟨numAt l 35 1, hlt⟩
 dsimp only at hb
 (refine Does.enter Tryz.func176 Tryz.ntmps176 rfl rfl ?_)
 refine w ?_
 ((refine zq ?_; refine zd rfl rfl (r8_ok r (rkAt l 7)) ?_); intro _ _)
 rw [(rk_num hl (k := 7) (w := 1) (by decide) rfl).1, (rk_num hl (k := 7) (w := 1) (by decide) rfl).2, show offN 7 = 35 from rfl]
 refine w ?_
 (refine VE.done1N rfl rfl ?_)
 rw [hb.1, hb.2]
 exact Ent.refl
theorem gets_zero (hl : l.length = 128) : GetS W l R 11 ((pairs x)[11]'(by rw [pairs_length]; decide)).2 := by
 refine ⟨_, _, rfl, fun _ _ => by simp, fun r sb => ?_⟩
 (refine Does.enter Tryz.func183 Tryz.ntmps183 rfl rfl ?_)
 refine w ?_
 ((refine zq ?_; refine zd rfl rfl (rnoughts_ok r (rkAt l 11) 2) ?_); intro _ _)
 refine w ?_
 (refine VE.done1N rfl rfl ?_)
 exact Ent.refl
theorem gets_all (hl : l.length = 128) (hb : ∀ q ∈ boxes x, q ∈ R) : ∀ k (hk : k < 12), GetS W l R k ((pairs x)[k]'(by rw [pairs_length]; omega)).2
 | 0, _ => gets_magic hl
 | 1, _ => gets_id hl hb
 | 2, _ => gets_events hl hb
 | 3, _ => gets_safe hl hb
 | 4, _ => gets_role hl hb
 | 5, _ => gets_members hl hb
 | 6, _ => gets_chunk hl hb
 | 7, _ => gets_bits hl
 | 8, _ => gets_stripes hl hb
 | 9, _ => gets_ring hl hb
 | 10, _ => gets_cursor hl hb
 | 11, _ => gets_zero hl
theorem gets_states (hl : l.length = 128) (r sb : Nat) :
  Does W Tryz.prog 186 [.pointer (some ⟨r, 0, none⟩), .pointer (some ⟨sb, 0, none⟩)] (ReaderR r (rkAt l 12) :: Row sb 67 ((SuperD.parse l).upto 12).cells :: R) (β := Option Addr × Nat) (fun _ => True) (fun _ => .tuple #[])
   (fun y => OwnSt y (SuperD.parse l).states :: Row sb 67 ((SuperD.parse l).hold y (SuperD.parse l).states).cells :: R) := by
 have hlt : numAt l 33 1 < 256 := numAt_lt l 33 1
 have hm : manyS l <= 16 := Nat.min_le_right _ _
 (refine Does.enter Tryz.func186 Tryz.ntmps186 rfl rfl ?_)
 refine w ?_
 refine VC.re 9 (.int .i64 (manyS l : Nat)) rfl (by show Value.int .i64 (min ((numAt l 33 1 : Nat) : Int) 16) = _; unfold manyS; congr 1; omega) ?_
 refine VC.loop (α := Nat × Option Addr × Nat) (fun y => y.1 <= manyS l) (fun y => OwnSt y.2 (stsOf (rkAt l 12) y.1) :: ReaderR r (stepsR (rkAt l 12) y.1) :: Row sb 67 ((SuperD.parse l).hold y.2 (stsOf (rkAt l 12) y.1)).cells :: R)
  (fun y => [(0, .pointer (some ⟨r, 0, none⟩)), (1, .pointer (some ⟨sb, 0, none⟩)), (9, .int .i64 (manyS l : Nat)), (10, .int .i64 y.1)]) (fun y => manyS l - y.1) rfl (0, none, 0) (Nat.zero_le _) (fun w hw => hw.ownNil _ _) ⟨rfl, rfl, rfl, rfl, trivial⟩ ?_
 rintro ⟨i, so, sc⟩ hi
 dsimp only at hi ⊢
 refine w ?_
 refine zk ?_ ?_ <;> intro hc
 ·
  have hi2 : i < manyS l := by have := of_decide_eq_true hc; omega
  have hg := got_lt (stepsR (rkAt l 12) i) 1
  have hsl := stsOf_length (rkAt l 12) i
  refine w ?_
  (refine VC.drawn [6, 7, 8] 9 [0, 1, 2, 3, 4, 5, 6, 7, 8, 9, 10, 11] (Row sb 67 ((SuperD.parse l).hold (so, sc) (stsOf (rkAt l 12) i)).cells :: R) rfl (by kernel_rfl) (by kernel_rfl) Ent.re ?_)
  refine w ?_
  ((refine zq ?_; refine zd rfl rfl (r8_ok r (stepsR (rkAt l 12) i)) ?_); intro _ _)
  rw [show (stepsR (rkAt l 12) i).number 1 = stepsR (rkAt l 12) (i + 1) from rfl]
  refine w ?_
  refine VD.re 18 (byteV (UInt8.ofNat (leVal ((stepsR (rkAt l 12) i).got 1)))) rfl (by unfold byteV; rw [UInt8.toNat_ofNat', Nat.mod_eq_of_lt (by omega)]) ?_
  (refine zq ?_; refine OpV.buildSlice1 st_65 rfl rfl (by first | (simp; done) | simp [Value.oneCell']) (by decide) rfl ?_; intro nb)
  refine w ?_
  (refine zq ?_; refine OpV.appendRow st_65 rfl rfl zh zm rfl (by first | (simp; done) | simp [Value.oneCell']) ?_ ?_ rfl ?_)
  · simp only [maxLen]; omega
  · omega
  intro so' sc'
  refine w ?_
  refine VE.round (i + 1, so', sc') hi2 (by simp only; omega) ⟨rfl, rfl, rfl, asV rfl (by congr 1), trivial⟩ ?_
  dsimp only
  have hs := stsOf_succ (rkAt l 12) i
  generalize stsOf (rkAt l 12) i = X at *
  generalize stsOf (rkAt l 12) (i + 1) = Y at *
  subst hs
  unfold OwnSt
  rw [bytes_append, List.length_append, List.length_singleton]
  rw [<- hold_set _ (so, sc) (so', sc')]
  exact Ent.re
 ·
  have hge : i = manyS l := by have := of_decide_eq_false hc; omega
  subst hge
  refine w ?_
  refine VE.doneN (so, sc) rfl trivial rfl ?_
  show Ent W _ (OwnSt (so, sc) (stsOf (rkAt l 12) (manyS l)) :: Row sb 67 ((SuperD.parse l).hold (so, sc) (stsOf (rkAt l 12) (manyS l))).cells :: R)
  exact Ent.re
end
def noSup : SuperD := ⟨0, 0, 0, 0, 0, 0, 0, 0, false, false, none, 0, [], 0⟩
instance decEnc (l : List UInt8) (s : SuperD) : Decidable (s.enc = (0, l)) := inferInstance
def sdec (l : List UInt8) : Int × SuperD :=
  if l.length ≠ 128 then (4, noSup) else if l.take 8 ≠ magicS then (70, noSup) else if numAt l 124 4 ≠ (crcS (l.take 124)).toNat then (71, noSup) else
  if (SuperD.parse l).enc = (0, l) then (0, SuperD.parse l) else (70, noSup)
theorem hold_enc (s : SuperD) (x : Option Addr × Nat) : (s.hold x s.states).enc = s.enc := by
 have h : (s.hold x s.states).okP ↔ s.okP := Iff.rfl
 unfold SuperD.enc
 by_cases hk : s.okP
 · rw [if_pos hk, if_pos (h.2 hk)]; rfl
 · rw [if_neg hk, if_neg (fun q => hk (h.1 q))]
theorem parse_fit (l : List UInt8) (x : Option Addr × Nat) (hx : (SuperD.parse l).states.length <= x.2) : ((SuperD.parse l).hold x (SuperD.parse l).states).fit := by
 have h := numAt_lt l
 have hm : (SuperD.parse l).states.length <= 16 := by
  show (stsOf _ _).length <= 16
  rw [stsOf_length]; exact Nat.min_le_right _ _
 have h1 := h 8 8; have h2 := h 16 8; have h3 := h 24 8; have h4 := h 32 1; have h5 := h 33 1; have h6 := h 34 1; have h7 := h 36 2; have h8 := h 38 2; have h9 := h 40 2
 refine ⟨h1, h2, h3, ?_, ?_, ?_, ?_, ?_, ?_, by show (SuperD.parse l).states.length <= _; omega, hx⟩ <;> (simp only [SuperD.hold, SuperD.parse]; omega)
theorem hasprefix_ok {ao ao' : Option Addr} {cap cap' : Nat} {a m : List UInt8} (ha : Rds W R 1 ao a.length (bytes a)) (hm : Rds W R 1 ao' m.length (bytes m)) (hle : m.length <= a.length) (hcap : a.length <= cap) :
  Does1 W Tryz.prog 122 [.slice ao a.length cap, .slice ao' m.length cap'] R (.bool (decide (a.take m.length = m))) R := by
 have hh := rds_head ha m.length hle
 have e : (a.take m.length).length = m.length := by rw [List.length_take]; omega
 (refine Does.enter Tryz.func122 Tryz.ntmps122 rfl rfl ?_)
 refine w ?_
 (first | refine VO.gT rfl rfl rfl (by simpa using hle) ?_ | refine VD.gT rfl rfl rfl (by simpa using hle) ?_)
 refine w ?_
 have q := equal_ok (W := W) (R := R) (cap := cap) (cap' := cap') (by rw [e]; exact hh) hm
 rw [e] at q
 (refine zq ?_; refine zy rfl rfl (q) ?_)
 intro _ _
 refine w ?_
 refine VE.done1 rfl ?_ ?_
 · rfl
 · exact Ent.refl
abbrev sdecG (l : List UInt8) (R : List SProp) (x : Option Addr × Nat) : List SProp := OwnSt x (sdec l).2.states :: R
theorem sdecode_ok {ao : Option Addr} {cap : Nat} {l : List UInt8} (hr : Rds W R 1 ao l.length (bytes l)) (hcap : l.length <= cap) :
  Does W Tryz.prog 69 [.slice ao l.length cap] R (β := Option Addr × Nat) (fun _ => True) (fun x => .tuple #[.agg ((sdec l).2.hold x (sdec l).2.states).cells.toArray, .int .u16 (sdec l).1]) (sdecG l R) := by
 (refine Does.enter Tryz.func69 Tryz.ntmps69 rfl rfl ?_)
 refine w ?_
 refine zq ?_; refine OpV.allocS sb_67 rfl ?_; intro nz
 refine w ?_
 refine zk ?_ ?_ <;> intro hc
 ·
  have hb : l.length ≠ 128 := by have := hc; simp at this; omega
  have e : sdec l = (4, noSup) := if_pos hb
  refine w ?_
  (apply VO.pure rfl rfl; apply PureAt.build sb_67 (pv := []) rfl; rfl; rfl)
  refine zq ?_
  refine OpV.stA tab_ok rfl rfl rfl rfl (super_one noSup) zh (by simp) ?_
  refine w ?_
  refine VE.results2 (.inl rfl) (none, 0) rfl (ResIs.agg (vs := noSup.cells) tab_ok rfl rfl zm rfl rfl) (.tmp rfl) trivial (by rw [e]; rfl) ?_
  unfold sdecG; rw [e]
  exact Ent.trans (Ent.re (L := R)) (fun w hw => hw.ownNil _ _)
 have h128 : l.length = 128 := by have := hc; simp at this; omega
 obtain ⟨a, rfl⟩ : ∃ a, ao = some a := by cases ao with | none => have := hr.nil rfl; omega | some a => exact ⟨a, rfl⟩
 refine w ?_
 (refine zq ?_; refine zd rfl rfl (magicS_ok) ?_)
 intro mb _
 refine w ?_
 have hr0 : Rds W (MRow mb 5 (bytes magicS) :: Row nz 67 noSup.cells :: R) 1 (some a) l.length (bytes l) := hr.ent (Ent.drop (Ent.drop Ent.refl))
 refine zq ?_
 refine zy rfl rfl (hasprefix_ok (m := magicS) hr0 (Rds.mrow (bytes_one _) (.head _) rfl) (by rw [h128]; decide) hcap) ?_
 intro _ _
 rw [show magicS.length = 8 from rfl]
 refine w ?_
 refine zk ?_ ?_ <;> intro hc
 ·
  have hb : l.take 8 ≠ magicS := by simpa using hc
  have e : sdec l = (70, noSup) := by unfold sdec; rw [if_neg (by omega), if_pos hb]
  refine w ?_
  (apply VO.pure rfl rfl; apply PureAt.build sb_67 (pv := []) rfl; rfl; rfl)
  refine zq ?_
  refine OpV.stA tab_ok rfl rfl rfl rfl (super_one noSup) zh (by simp) ?_
  refine w ?_
  refine VE.results2 (.inl rfl) (none, 0) rfl (ResIs.agg (vs := noSup.cells) tab_ok rfl rfl zm rfl rfl) (.tmp rfl) trivial (by rw [e]; rfl) ?_
  unfold sdecG; rw [e]
  exact Ent.trans (Ent.re (L := R)) (fun w hw => hw.ownNil _ _)
 have hmag : l.take 8 = magicS := by simpa using hc
 have hp := rds_part hr 124 128 (by omega) (by omega) hcap
 rw [show 128 - 124 = 4 from rfl] at hp
 have hlt := numAt_lt l 124 4
 have h124 : (l.take 124).length = 124 := by rw [List.length_take]; omega
 refine VC.ent (Ent.re (L := Row nz 67 noSup.cells :: R)) ?_
 refine w ?_
 have hg := Rk.got_good (k := ⟨(l.drop 124).take 4, 0, 0, 0⟩) (n := 4) rfl (by simp; omega)
 have hsum : ∀ q, Does1 W Tryz.prog 16 [.slice (some a) 124 cap] (ReaderR q ⟨(l.drop 124).take 4, 4, 0, 0⟩ :: Row nz 67 noSup.cells :: R) (.int .u32 ((crcS (l.take 124)).toNat : Int)) (ReaderR q ⟨(l.drop 124).take 4, 4, 0, 0⟩ :: Row nz 67 noSup.cells :: R) := by
  intro q
  have := sum_ok (cap := cap) (l := l.take 124) (W := W) (R := ReaderR q ⟨(l.drop 124).take 4, 4, 0, 0⟩ :: Row nz 67 noSup.cells :: R) (ao := some a) (by rw [h124]; exact rds_head (hr.ent (Ent.drop (Ent.drop Ent.refl))) 124 (by omega)) (by omega)
  rwa [h124] at this
 (refine VC.drawn [2, 3] 6 [0, 1, 4, 5, 2, 3, 6, 7] (Row nz 67 noSup.cells :: R) rfl (by kernel_rfl) (by kernel_rfl) Ent.re ?_)
 refine w ?_
 refine VD.re 20 (.slice (subA (some a) cap 124 1) 4 (cap - 124)) rfl (by rw [h128]) ?_
 refine zq ?_
 refine zd rfl rfl (read_ok (R := Row nz 67 noSup.cells :: R) (hp.ent (Ent.drop Ent.refl)) (by omega)) ?_
 intro q _
 refine w ?_
 ((refine zq ?_; refine zd rfl rfl (r32_ok q ⟨(l.drop 124).take 4, 0, 0, 0⟩) ?_); intro _ _)
 rw [hg.1, hg.2.2]
 dsimp only
 rw [show leVal (List.take 4 (List.drop 0 (List.take 4 (List.drop 124 l)))) = numAt l 124 4 by unfold numAt; rw [List.drop_zero, List.take_take]; rfl, Nat.zero_add]
 refine w ?_
 (refine zq ?_; refine zy rfl rfl (hsum q) ?_)
 intro _ _
 refine w ?_
 refine zk ?_ ?_ <;> intro hc
 ·
  have hb : numAt l 124 4 ≠ (crcS (l.take 124)).toNat := by have := hc; simp at this; omega
  have e : sdec l = (71, noSup) := by unfold sdec; rw [if_neg (by omega), if_neg (fun h => h hmag), if_pos hb]
  refine w ?_
  (apply VO.pure rfl rfl; apply PureAt.build sb_67 (pv := []) rfl; rfl; rfl)
  refine zq ?_
  refine OpV.stA tab_ok rfl rfl rfl rfl (super_one noSup) zh (by simp) ?_
  refine w ?_
  refine VE.results2 (.inl rfl) (none, 0) rfl (ResIs.agg (vs := noSup.cells) tab_ok rfl rfl zm rfl rfl) (.tmp rfl) trivial (by rw [e]; rfl) ?_
  unfold sdecG; rw [e]
  exact Ent.trans (Ent.re (L := R)) (fun w hw => hw.ownNil _ _)
 have hcrc : numAt l 124 4 = (crcS (l.take 124)).toNat := by have := hc; simp at this; omega
 have hdecT : (SuperD.parse l).enc = (0, l) -> sdec l = (0, SuperD.parse l) := by
  intro h; unfold sdec; rw [if_neg (by omega), if_neg (fun h => h hmag), if_neg (fun h => h hcrc), if_pos h]
 have hdecF : (SuperD.parse l).enc ≠ (0, l) -> sdec l = (70, noSup) := by
  intro h; unfold sdec; rw [if_neg (by omega), if_neg (fun h => h hmag), if_neg (fun h => h hcrc), if_neg h]
 refine VC.ent (Ent.re (L := Row nz 67 noSup.cells :: R)) ?_
 refine w ?_
 refine zq ?_; refine OpV.allocS sb_67 rfl ?_; intro ns
 refine w ?_
 refine VO.ent (Ent.re (L := Row ns 67 noSup.cells :: Row nz 67 noSup.cells :: R)) ?_
 (refine zq ?_; refine zy rfl rfl (read_ok (hr.ent (Ent.drop (Ent.drop Ent.refl))) (by omega)) ?_)
 intro r _
 refine w ?_
 (refine zq ?_; refine zy rfl rfl (fields_ok) ?_)
 rintro ⟨bx, fb⟩ -
 dsimp only
 refine w ?_
 refine VC.loop (α := Nat × Option Addr × Nat) (fun y => y.1 <= 13) (fun y => if y.1 = 13 then OwnSt y.2 (SuperD.parse l).states :: Row ns 67 ((SuperD.parse l).hold y.2 (SuperD.parse l).states).cells :: Row nz 67 noSup.cells :: R
   else ReaderR r (rkAt l y.1) :: Row ns 67 ((SuperD.parse l).upto y.1).cells :: Row fb 232 (fieldCells bx) :: Row nz 67 noSup.cells :: (boxes bx ++ R))
  (fun y => [(0, .slice (some a) l.length cap), (2, .pointer (some ⟨nz, 0, none⟩)), (4, .pointer (some ⟨ns, 0, none⟩)), (5, .pointer (some ⟨r, 0, none⟩)), (30, .slice (some ⟨fb, 0, none⟩) 13 13), (31, .int .i64 13), (32, .int .i64 y.1)]) (fun y => 13 - y.1) rfl (0, none, 0) (by decide) ?_ ⟨rfl, rfl, rfl, rfl, rfl, rfl, rfl, trivial⟩ ?_
 ·
  dsimp only
  rw [if_neg (by decide)]
  refine Ent.trans (H' := Row fb 232 (fieldCells bx) :: (ReaderR r ⟨l, 0, 0, 0⟩ :: Row ns 67 noSup.cells :: Row nz 67 noSup.cells :: (boxes bx ++ R))) (fun w hw => hw.perm (List.Perm.cons _ ?_)) ?_
  · exact (List.perm_append_comm (l₁ := boxes bx) (l₂ := [ReaderR r ⟨l, 0, 0, 0⟩, Row ns 67 noSup.cells, Row nz 67 noSup.cells] ++ R)).trans (by simp only [List.cons_append, List.nil_append]; exact List.Perm.cons _ (List.Perm.cons _ (List.Perm.cons _ List.perm_append_comm)))
  ·
   show Ent W _ (ReaderR r ⟨l, 0, 0, 0⟩ :: Row ns 67 noSup.cells :: Row fb 232 (fieldCells bx) :: Row nz 67 noSup.cells :: (boxes bx ++ R))
   exact Ent.re
 rintro ⟨k, x⟩ hk
 dsimp only at hk ⊢
 by_cases h13 : k = 13
 ·
  subst h13
  rw [if_pos rfl]
  refine w ?_
  refine VO.know (p := x.1 = none -> (SuperD.parse l).states.length = 0) (fun w hw => hw.ownNone (.head _)) ?_
  intro hn
  refine VO.know (p := (SuperD.parse l).states.length <= x.2) (fun w hw => hw.ownCap (.head _)) ?_
  intro hcx
  have hfit := parse_fit l x hcx
  (refine zq ?_; refine zy rfl rfl (sencode_ok _ hfit (Rds.own (bytes_one _) (.head _) (by simp [SuperD.hold]) (by simpa [SuperD.hold] using hn))) ?_)
  rw [hold_enc]
  rintro ⟨ea, ec⟩ -
  generalize hE : (SuperD.parse l).enc = E at *
  obtain ⟨e1, e2⟩ := E
  dsimp only
  refine VO.know (p := ea = none -> e2.length = 0) (fun w hw => hw.ownNone (.head _)) ?_
  intro hne
  refine w ?_
  by_cases hgood : (e1, e2) = (0, l)
  ·
   cases hgood
   have hdec := hdecT rfl
   refine w ?_
   (refine zq ?_; refine zy rfl rfl (equal_ok (own_rds (x := (ea, ec)) hne zm) (hr.ent (Ent.drop (Ent.drop (Ent.drop (Ent.drop Ent.refl)))))) ?_)
   intro _ _
   rw [decide_eq_true (rfl : l = l)]
   refine w ?_
   refine zq ?_
   refine OpV.stA (vs := ((SuperD.parse l).hold x (SuperD.parse l).states).cells) tab_ok rfl rfl rfl rfl (super_one _) zh (by simp) ?_
   refine w ?_
   refine VE.results2 (.inl rfl) x rfl (ResIs.agg (vs := ((SuperD.parse l).hold x (SuperD.parse l).states).cells) tab_ok rfl rfl zm rfl rfl) (.tmp rfl) trivial (by rw [hdec]) ?_
   unfold sdecG; rw [hdec]
   exact Ent.re
  ·
   have hdec := hdecF hgood
   refine zg ?_ ?_ <;> intro hb
   ·
    refine w ?_
    (apply VO.pure rfl rfl; apply PureAt.build sb_67 (pv := []) rfl; rfl; rfl)
    refine zq ?_
    refine OpV.stA tab_ok rfl rfl rfl rfl (super_one noSup) zh (by simp) ?_
    refine w ?_
    refine VE.results2 (.inl rfl) (none, 0) rfl (ResIs.agg (vs := noSup.cells) tab_ok rfl rfl zm rfl rfl) (.tmp rfl) trivial (by rw [hdec]; rfl) ?_
    unfold sdecG; rw [hdec]
    exact Ent.trans (Ent.re (L := R)) (fun w hw => hw.ownNil _ _)
   ·
    have he1 : e1 = 0 := by simpa using hb
    have hne2 : e2 ≠ l := fun h => hgood (by rw [he1, h])
    refine w ?_
    (refine zq ?_; refine zy rfl rfl (equal_ok (own_rds (x := (ea, ec)) hne zm) (hr.ent (Ent.drop (Ent.drop (Ent.drop (Ent.drop Ent.refl)))))) ?_)
    intro _ _
    rw [decide_eq_false hne2]
    refine w ?_
    (apply VO.pure rfl rfl; apply PureAt.build sb_67 (pv := []) rfl; rfl; rfl)
    refine zq ?_
    refine OpV.stA tab_ok rfl rfl rfl rfl (super_one noSup) zh (by simp) ?_
    refine w ?_
    refine VE.results2 (.inl rfl) (none, 0) rfl (ResIs.agg (vs := noSup.cells) tab_ok rfl rfl zm rfl rfl) (.tmp rfl) trivial (by rw [hdec]; rfl) ?_
    unfold sdecG; rw [hdec]
    exact Ent.trans (Ent.re (L := R)) (fun w hw => hw.ownNil _ _)
 ·
  have hlt13 : k < 13 := by omega
  rw [if_neg h13]
  refine w ?_
  (refine VC.condTe rfl rfl (decide_eq_true (by omega)) ?_)
  have hat := fieldCells_at bx k hlt13
  have hone : ∀ u ∈ [((pairs bx)[k]'(by rw [pairs_length]; exact hlt13)).1, ((pairs bx)[k]'(by rw [pairs_length]; exact hlt13)).2], u.oneCell' = true := fun u hu => fieldCells_one bx u (List.drop_subset _ _ (List.take_subset _ _ (by rw [hat]; exact hu)))
  have hrow : Rds W (ReaderR r (rkAt l k) :: Row ns 67 ((SuperD.parse l).upto k).cells :: Row fb 232 (fieldCells bx) :: Row nz 67 noSup.cells :: (boxes bx ++ R)) 2 (some ⟨fb, 0, none⟩) 13 (fieldCells bx) := Rds.row (fieldCells_one bx) zm rfl
  by_cases h12 : k = 12
  ·
   refine w ?_
   ((first | apply VO.pure rfl rfl | apply VQ.pure rfl rfl | apply VD.take rfl rfl rfl | (refine VD.end rfl rfl rfl ?_; apply OpV.pure)); exact PureAt.ldRA tab_ok rfl rfl hrow hat rfl; rfl)
   refine w ?_
   refine zq ?_; refine OpV.allocS sbF rfl ?_; intro n7
   refine zq ?_
   refine OpV.stA tab_ok rfl rfl rfl rfl hone zh (by simp) ?_
   subst h12
   refine w ?_
   (refine zq ?_; refine zd rfl rfl (gets_states h128 r ns) ?_)
   intro y _
   refine w ?_
   refine VE.round (13, y) (Nat.le_refl _) (by show 13 - 13 < 13 - 12; omega) ⟨rfl, rfl, rfl, rfl, rfl, rfl, rfl, trivial⟩ ?_
   dsimp only
   rw [if_pos rfl]
   refine Ent.trans (Ent.re (L := OwnSt y (SuperD.parse l).states :: Row ns 67 ((SuperD.parse l).hold y (SuperD.parse l).states).cells :: Row nz 67 noSup.cells :: (boxes bx ++ R))) (fun w hw => hw.reord (Reord.cons .head (Reord.cons .head (Reord.cons .head (append_drop _)))))
  ·
   have hlt12 : k < 12 := by omega
   have hget := gets_all (W := W) (R := Row fb 232 (fieldCells bx) :: Row nz 67 noSup.cells :: (boxes bx ++ R)) (x := bx) h128 (fun q hq => .tail _ (.tail _ (List.mem_append_left _ hq))) k hlt12
   generalize hpq : (pairs bx)[k]'(by rw [pairs_length]; exact hlt13) = pq at hget hat hone
   obtain ⟨vp, vg⟩ := pq
   dsimp only at hget hat hone
   obtain ⟨g, gcap, rfl, hc1, spec⟩ := hget
   refine w ?_
   ((first | apply VO.pure rfl rfl | apply VQ.pure rfl rfl | apply VD.take rfl rfl rfl | (refine VD.end rfl rfl rfl ?_; apply OpV.pure)); exact PureAt.ldRA tab_ok rfl rfl hrow hat rfl; rfl)
   refine w ?_
   refine zq ?_; refine OpV.allocS sbF rfl ?_; intro n7
   refine zq ?_
   refine OpV.stA tab_ok rfl rfl rfl rfl hone zh (by simp) ?_
   refine w ?_
   refine zq ?_
   refine OpV.call rfl rfl hc1 (spec r ns) Ent.re rfl ?_
   intro _ _
   refine w ?_
   refine VE.round (k + 1, x) (by omega) (by simp only; omega) ⟨rfl, rfl, rfl, rfl, rfl, rfl, asV rfl (by congr 1), trivial⟩ ?_
   dsimp only
   rw [if_neg (by omega)]
   exact Ent.re
theorem equalst_ok {ao bo : Option Addr} {ac bc : Nat} {l m : List UInt8} (hl : Rds W R 1 ao l.length (bytes l)) (hm : Rds W R 1 bo m.length (bytes m)) (hn : l.length <= 140737488351232) :
  Does1 W Tryz.prog 195 [.slice ao l.length ac, .slice bo m.length bc] R (.bool (decide (l = m))) R := by
 (refine Does.enter Tryz.func195 Tryz.ntmps195 rfl rfl ?_)
 refine w ?_
 refine zk ?_ ?_ <;> intro hc
 ·
  have h : ¬ l.length = m.length := by have : ¬ (l.length : Int) = m.length := (by simpa using hc); omega
  refine w ?_
  refine VE.done1 rfl ?_ ?_
  · congr 1; symm; exact decide_eq_false (fun e => h (by rw [e]))
  · exact Ent.refl
 have h : l.length = m.length := by have : (l.length : Int) = m.length := (by simpa using hc); omega
 refine w ?_
 refine VC.loop (α := Nat) (fun i => i <= l.length /\ l.take i = m.take i) (fun _ => R) (fun i => [(0, .slice ao l.length ac), (1, .slice bo m.length bc), (12, .int .i64 l.length), (13, .int .i64 i)]) (fun i => l.length - i) rfl 0 ⟨Nat.zero_le _, by simp⟩ Ent.refl ⟨rfl, rfl, rfl, rfl, trivial⟩ ?_
 rintro i ⟨hi, he⟩
 refine w ?_
 refine zk ?_ ?_ <;> intro hc
 ·
  have hlt : i < l.length := by have := of_decide_eq_true hc; omega
  have hlt2 : i < m.length := by omega
  obtain ⟨a, rfl⟩ : ∃ a, ao = some a := by cases ao with | none => have := hl.nil rfl; omega | some a => exact ⟨a, rfl⟩
  obtain ⟨b, rfl⟩ : ∃ b, bo = some b := by cases bo with | none => have := hm.nil rfl; omega | some b => exact ⟨b, rfl⟩
  refine w ?_
  ((refine VC.quiet rfl (by kernel_rfl) (by kernel_rfl) ?_); refine w ?_)
  ((first | apply VO.pure rfl rfl | apply VQ.pure rfl rfl | apply VD.take rfl rfl rfl | (refine VD.end rfl rfl rfl ?_; apply OpV.pure)); exact PureAt.ldR tab_ok rfl rfl hl (show (bytes l)[i]? = some (.int .u8 (l[i].toNat : Int)) by simp [bytes, hlt]; rfl); rfl)
  refine w ?_
  ((first | apply VO.pure rfl rfl | apply VQ.pure rfl rfl | apply VD.take rfl rfl rfl | (refine VD.end rfl rfl rfl ?_; apply OpV.pure)); exact PureAt.ldR tab_ok rfl rfl hm (show (bytes m)[i]? = some (.int .u8 (m[i].toNat : Int)) by simp [bytes, hlt2]; rfl); rfl)
  refine w ?_
  refine zk ?_ ?_ <;> intro hc
  ·
   have hx : l[i] ≠ m[i] := by intro h; rw [h] at hc; simp at hc
   refine w ?_
   refine VE.done1 rfl ?_ ?_
   · congr 1; symm; exact decide_eq_false (fun e => hx (by subst e; rfl))
   · exact Ent.refl
  ·
   have hx : l[i] = m[i] := by have h : (l[i].toNat : Int) = m[i].toNat := (by simpa using hc); exact UInt8.toNat_inj.1 (by omega)
   refine w ?_
   refine VE.round (i + 1) ⟨hlt, by rw [List.take_succ_eq_append_getElem hlt, List.take_succ_eq_append_getElem hlt2, he, hx]⟩ (by omega) ⟨rfl, rfl, rfl, asV rfl (by congr 1), trivial⟩ Ent.refl
 ·
  have hge : i = l.length := by have := of_decide_eq_false hc; omega
  subst hge
  rw [List.take_of_length_le (Nat.le_refl _), List.take_of_length_le (by omega)] at he
  refine w ?_
  refine VE.done1 rfl ?_ ?_
  · rw [he]; simp
  · exact Ent.refl
def SuperD.alike (a b : SuperD) : Bool := a.akin b && decide (a.states = b.states /\ a.events = b.events /\ a.safe = b.safe /\ a.lost = b.lost /\ a.cursor = b.cursor)
theorem alike_ok (a b : SuperD) (ha : a.fit) (hbf : b.fit) (hra : Rds W R 1 a.so a.states.length (bytes a.states)) (hrb : Rds W R 1 b.so b.states.length (bytes b.states)) :
  Does1 W Tryz.prog 132 [.agg a.cells.toArray, .agg b.cells.toArray] R (.bool (a.alike b)) R := by
 have hlen := ha.len
 have e2 : ∀ A B, Ent W (A :: B :: R) R := fun A B => Ent.drop (Ent.drop Ent.refl)
 (refine Does.enter Tryz.func132 Tryz.ntmps132 rfl rfl ?_)
 refine w ?_; repeat (refine zj fun _ => ?_; refine w ?_)
 (refine zq ?_; refine zy rfl rfl (equalst_ok (hra.ent (e2 _ _)) (hrb.ent (e2 _ _)) hlen) ?_; intro _ _)
 refine w ?_; repeat (refine zj fun _ => ?_; refine w ?_)
 (refine zq ?_; refine zy rfl rfl (akin_ok a b ha hbf) ?_; intro _ _)
 unfold SuperD.alike
 refine w ?_; repeat (refine zj fun _ => ?_; refine w ?_)
 cases hk : a.akin b
 ·
  refine w ?_; repeat (refine zj fun _ => ?_; refine w ?_)
  refine VE.done1 rfl ?_ ?_
  · rfl
  · exact Ent.re
 refine w ?_; repeat (refine zj fun _ => ?_; refine w ?_)
 refine zg ?_ ?_ <;> intro hb
 ·
  have h1 : a.states = b.states := of_decide_eq_true hb
  refine w ?_; repeat (refine zj fun _ => ?_; refine w ?_)
  refine zg ?_ ?_ <;> intro hb
  ·
   have h2 : a.events = b.events := by have := hb; simp at this; omega
   refine w ?_; repeat (refine zj fun _ => ?_; refine w ?_)
   refine zg ?_ ?_ <;> intro hb
   ·
    have h3 : a.safe = b.safe := by have := hb; simp at this; omega
    refine w ?_; repeat (refine zj fun _ => ?_; refine w ?_)
    refine zg ?_ ?_ <;> intro hb
    ·
     have h4 : a.lost = b.lost := by simpa using hb
     refine w ?_; repeat (refine zj fun _ => ?_; refine w ?_)
     refine VE.done1 rfl ?_ ?_
     · congr 1; rw [Bool.eq_iff_iff]; simp [h1, h2, h3, h4]
     · exact Ent.re
    ·
     have h4 : ¬ a.lost = b.lost := by simpa using hb
     refine w ?_; repeat (refine zj fun _ => ?_; refine w ?_)
     refine VE.done1 rfl ?_ ?_
     · simp [h4]
     · exact Ent.re
   ·
    have h3 : ¬ a.safe = b.safe := by have := hb; simp at this; omega
    refine w ?_; repeat (refine zj fun _ => ?_; refine w ?_)
    refine VE.done1 rfl ?_ ?_
    · simp [h3]
    · exact Ent.re
  ·
   have h2 : ¬ a.events = b.events := by have := hb; simp at this; omega
   refine w ?_; repeat (refine zj fun _ => ?_; refine w ?_)
   refine VE.done1 rfl ?_ ?_
   · simp [h2]
   · exact Ent.re
 ·
  have h1 : ¬ a.states = b.states := of_decide_eq_false hb
  refine w ?_; repeat (refine zj fun _ => ?_; refine w ?_)
  refine VE.done1 rfl ?_ ?_
  · simp [h1]
  · exact Ent.re
def countsB (l : List BalD) (i : Nat) : Bool := match l[i]? with
  | some b => b.has && decide (b.s.okP /\ b.s.members = (l.length : Int) - 1 /\ b.s.role = (i : Int))
  | none => false
theorem countf_ok {ao : Option Addr} {cap bx : Nat} {l : List BalD} (i : Nat) (hi : i < l.length) (hlen : l.length <= 140737488351232) (hm : Row bx 59 [.slice ao l.length cap] ∈ R) (hb : Bals W R ao l) :
  Does1 W Tryz.prog 127 [.int .i64 i, .pointer (some ⟨bx, 0, none⟩)] R (.bool (countsB l i)) R := by
 obtain ⟨a, rfl⟩ : ∃ a, ao = some a := by cases ao with | none => have := hb.rds.nil rfl; omega | some a => exact ⟨a, rfl⟩
 have hmem := List.getElem_mem hi
 have hst := hb.st _ hmem
 have hfit := hb.fit _ hmem
 unfold countsB
 rw [List.getElem?_eq_getElem hi]
 dsimp only
 (refine Does.enter Tryz.func127 Tryz.ntmps127 rfl rfl ?_)
 refine w ?_
 refine VO.pure rfl rfl (PureAt.ld tab_ok rfl rfl hm rfl) rfl ?_
 refine w ?_
 refine VO.pure rfl rfl (.ldRA tab_ok rfl rfl hb.rds (flat_part l i hi (fun _ _ => rfl)) rfl) rfl ?_
 generalize l[i] = b at *
 have hck : (b.s.check == 0) = decide b.s.okP := by
  unfold SuperD.check; split
  · rename_i h; simp [h]
  · rename_i h; simp [h]
 refine zq ?_; refine OpV.allocS sb_134 rfl ?_; intro na
 refine w ?_
 refine zq ?_
 refine OpV.stA (vs := b.cells) tab_ok rfl rfl rfl rfl (bal_one _) zh (by simp) ?_
 refine VO.ent (Reord.ent (L := Row na 134 b.cells :: R) (by (repeat first | exact .refl | (apply Reord.cons; focus repeat first | exact .head | apply Del.tail) | exact .nil | apply Reord.drop))) ?_
 refine w ?_
 cases hh : b.has
 ·
  refine w ?_
  refine VE.done1 rfl ?_ ?_
  · rfl
  · exact Ent.drop Ent.refl
 refine w ?_
 (refine zq ?_; refine zy rfl rfl (scheck_ok b.s hfit (hst.ent (Ent.drop Ent.refl))) ?_)
 intro _ _
 refine w ?_
 refine zg ?_ ?_ <;> intro hb
 ·
  have h1 : b.s.okP := of_decide_eq_true (by rw [<- hck]; exact hb)
  refine w ?_
  refine VO.pure rfl rfl (PureAt.ld tab_ok rfl rfl (.tail _ hm) rfl) rfl ?_
  refine w ?_
  refine zg ?_ ?_ <;> intro hb
  ·
   have h2 : b.s.members = (l.length : Int) - 1 := by simpa using hb
   refine w ?_
   refine VE.done1 rfl ?_ ?_
   · congr 1; rw [Bool.eq_iff_iff]; simp [h1, h2]
   · exact Ent.drop Ent.refl
  ·
   have h2 : ¬ b.s.members = (l.length : Int) - 1 := by simpa using hb
   refine w ?_
   refine VE.done1 rfl ?_ ?_
   · simp [h2]
   · exact Ent.drop Ent.refl
 ·
  have h1 : ¬ b.s.okP := of_decide_eq_false (by rw [<- hck]; exact hb)
  refine w ?_
  refine VE.done1 rfl ?_ ?_
  · simp [h1]
  · exact Ent.drop Ent.refl
def supCells (l : List SuperD) : List Value := l.flatMap SuperD.cells
theorem sup_one (l : List SuperD) : ∀ u ∈ supCells l, u.oneCell' = true := by
 intro u hu
 obtain ⟨s, _, h⟩ := List.mem_flatMap.1 hu
 exact super_one s u h
theorem sup_len (l : List SuperD) : (supCells l).length = l.length * 12 := flat_length l fun _ _ => rfl
theorem sup_part (l : List SuperD) (i : Nat) (h : i < l.length) : ((supCells l).drop (i * 12)).take 12 = l[i].cells := flat_part l i h fun _ _ => rfl
def IsIdx (p : SuperD -> Bool) (l : List SuperD) (k : Int) : Prop := (k = -1 /\ ∀ s ∈ l, p s = false) \/ ∃ (i : Nat) (h : i < l.length), k = (i : Int) /\ p l[i] = true /\ ∀ s ∈ l.take i, p s = false
theorem indexfunc_ok {ao : Option Addr} {cap : Nat} {l : List SuperD} {g : FuncId} {cp : Array Value} (p : SuperD -> Bool) (hl : l.length <= 1000000) (hr : Rds W R 12 ao l.length (supCells l)) (hcf : ∀ a w, (callFunc g a).run Tryz.prog w = .ok (.enter g a) w)
  (hp : ∀ s ∈ l, Does1 W Tryz.prog g (.agg s.cells.toArray :: cp.toList) R (.bool (p s)) R) :
  Does W Tryz.prog 129 [.slice ao l.length cap, .func (.func g) #[] cp] R (β := Int) (IsIdx p l) (fun k => .int .i64 k) (fun _ => R) := by
 (refine Does.enter Tryz.func129 Tryz.ntmps129 rfl rfl ?_)
 refine w ?_
 refine VC.loop (α := Nat) (fun i => i <= l.length /\ ∀ s ∈ l.take i, p s = false) (fun _ => R) (fun i => [(0, .slice ao l.length cap), (1, .func (.func g) #[] cp), (7, .int .i64 l.length), (8, .int .i64 i)]) (fun i => l.length - i) rfl 0 ⟨Nat.zero_le _, by simp⟩ Ent.refl ⟨rfl, rfl, rfl, rfl, trivial⟩ ?_
 rintro i ⟨hi, hno⟩
 refine w ?_
 refine zk ?_ ?_ <;> intro hc
 ·
  have hlt : i < l.length := by have := of_decide_eq_true hc; omega
  obtain ⟨a, rfl⟩ : ∃ a, ao = some a := by cases ao with | none => have := hr.nil rfl; omega | some a => exact ⟨a, rfl⟩
  refine w ?_
  refine VO.pure rfl rfl (.ldRA tab_ok rfl rfl hr (sup_part l i hlt) rfl) rfl ?_
  refine zq ?_
  refine OpV.call rfl rfl hcf (hp l[i] (List.getElem_mem hlt)) Ent.refl rfl ?_
  intro _ _
  refine w ?_
  cases hpi : p l[i]
  ·
   refine w ?_
   refine VE.round (i + 1) ⟨hlt, ?_⟩ (by omega) ⟨rfl, rfl, rfl, asV rfl (by congr 1), trivial⟩ Ent.refl
   intro s hs
   rw [List.take_succ_eq_append_getElem hlt, List.mem_append, List.mem_singleton] at hs
   rcases hs with h | h
   · exact hno s h
   · rw [h]; exact hpi
  ·
   refine w ?_
   exact VE.done (i : Int) rfl (.inr ⟨i, hlt, rfl, hpi, hno⟩) rfl Ent.refl
 ·
  have hge : i = l.length := by have := of_decide_eq_false hc; omega
  subst hge
  rw [List.take_of_length_le (Nat.le_refl _)] at hno
  refine w ?_
  exact VE.done (-1) rfl (.inl ⟨rfl, hno⟩) rfl Ent.refl
theorem containsfunc_ok {ao : Option Addr} {cap : Nat} {l : List SuperD} {g : FuncId} {cp : Array Value} (p : SuperD -> Bool) (hl : l.length <= 1000000) (hr : Rds W R 12 ao l.length (supCells l)) (hcf : ∀ a w, (callFunc g a).run Tryz.prog w = .ok (.enter g a) w)
  (hp : ∀ s ∈ l, Does1 W Tryz.prog g (.agg s.cells.toArray :: cp.toList) R (.bool (p s)) R) :
  Does1 W Tryz.prog 72 [.slice ao l.length cap, .func (.func g) #[] cp] R (.bool (l.any p)) R := by
 (refine Does.enter Tryz.func72 Tryz.ntmps72 rfl rfl ?_)
 refine w ?_
 (refine zq ?_; refine zy rfl rfl (indexfunc_ok p hl hr hcf hp) ?_)
 intro k hk
 refine w ?_
 refine VE.done1 rfl ?_ ?_
 ·
  congr 1
  rcases hk with ⟨rfl, h⟩ | ⟨i, hi, rfl, h1, h2⟩
  · symm; rw [decide_eq_false (by omega), List.any_eq_false]; intro s hs; simp [h s hs]
  · symm; rw [decide_eq_true (by omega), List.any_eq_true]; exact ⟨_, List.getElem_mem hi, h1⟩
 · exact Ent.refl
theorem choose1_ok {a : Addr} {cap bx : Nat} {l : List SuperD} (s : SuperD) (h0 : 0 < l.length) (hs : s.fit) (hl : l[0].fit) (hr : Rds W R 12 (some a) l.length (supCells l)) (hm : Row bx 138 [.slice (some a) l.length cap] ∈ R) :
  Does1 W Tryz.prog 73 [.agg s.cells.toArray, .pointer (some ⟨bx, 0, none⟩)] R (.bool (!s.akin l[0])) R := by
 (refine Does.enter Tryz.func73 Tryz.ntmps73 rfl rfl ?_)
 refine w ?_; repeat (refine zj fun _ => ?_; refine w ?_)
 (refine VC.drawn [] 4 [0, 1, 2, 3, 4, 5, 6] _ rfl (by kernel_rfl) (by kernel_rfl) Ent.re ?_)
 refine w ?_; repeat (refine zj fun _ => ?_; refine w ?_)
 ((first | apply VO.pure rfl rfl | apply VQ.pure rfl rfl | apply VD.take rfl rfl rfl | (refine VD.end rfl rfl rfl ?_; apply OpV.pure)); exact PureAt.ld tab_ok rfl rfl (.tail _ hm) rfl; rfl)
 refine w ?_; repeat (refine zj fun _ => ?_; refine w ?_)
 ((first | apply VO.pure rfl rfl | apply VQ.pure rfl rfl | apply VD.take rfl rfl rfl | (refine VD.end rfl rfl rfl ?_; apply OpV.pure)); exact .ldRA tab_ok rfl rfl (hr.ent (Ent.drop Ent.refl)) (sup_part l 0 h0) rfl; rfl)
 refine w ?_; repeat (refine zj fun _ => ?_; refine w ?_)
 (refine zq ?_; refine zy rfl rfl (akin_ok s l[0] hs hl) ?_; intro _ _)
 refine w ?_; repeat (refine zj fun _ => ?_; refine w ?_)
 refine VE.done1 rfl ?_ ?_
 · rfl
 · exact Ent.drop Ent.refl
theorem members1_ok {bx : Nat} {e : Nat} (s : SuperD) (hs : s.fit) (hm : Row bx 62 [.int .u64 e] ∈ R) :
  Does1 W Tryz.prog 131 [.agg s.cells.toArray, .pointer (some ⟨bx, 0, none⟩)] R (.bool (!decide (s.events = e))) R := by
 (refine Does.enter Tryz.func131 Tryz.ntmps131 rfl rfl ?_)
 refine w ?_; repeat (refine zj fun _ => ?_; refine w ?_)
 refine VO.pure rfl rfl (PureAt.ld tab_ok rfl rfl (.tail _ hm) rfl) rfl ?_
 refine w ?_; repeat (refine zj fun _ => ?_; refine w ?_)
 refine VE.done1 rfl ?_ ?_
 ·
  congr 1
  by_cases h : s.events = e
  · simp [h]
  ·
   have h2 : ¬ (s.events : Int) = (e : Int) := by omega
   simp [h, h2]
 · exact Ent.drop Ent.refl
theorem supCells_take (l : List SuperD) (i : Nat) : (supCells l).take (i * 12) = supCells (l.take i) := by
 have h := sup_len (l.take i)
 by_cases hi : i <= l.length
 ·
  conv => lhs; rw [<- List.take_append_drop i l]
  rw [supCells, List.flatMap_append, List.take_append_of_le_length (by show _ <= (supCells _).length; rw [h, List.length_take]; omega)]
  rw [List.take_of_length_le (by show (supCells _).length <= _; rw [h, List.length_take]; omega)]; rfl
 · rw [List.take_of_length_le (by rw [sup_len]; omega), List.take_of_length_le (by omega)]
theorem supCells_set (l : List SuperD) (i : Nat) (s : SuperD) (h : i < l.length) : (supCells l).take (i * 12) ++ s.cells ++ (supCells l).drop (i * 12 + 12) = supCells (l.set i s) := by
 have hd : (supCells l).drop (i * 12 + 12) = supCells (l.drop (i + 1)) := by
  have e : supCells l = supCells (l.take (i + 1)) ++ supCells (l.drop (i + 1)) := by
   simp only [supCells]; rw [<- List.flatMap_append, List.take_append_drop]
  rw [e, <- show (supCells (l.take (i + 1))).length = i * 12 + 12 by rw [sup_len, List.length_take]; omega, List.drop_left]
 rw [supCells_take, hd, List.set_eq_take_append_cons_drop, if_pos h]
 simp [supCells]
theorem Holds.ownCut {W w : World} {e sz k k' cap : Nat} {ao : Option Addr} {ys : List Value} {R : List SProp} (hw : Holds W (Own e sz (.slice ao k' cap) k' ys :: R) w) (hk : k <= k') : Holds W (Own e sz (.slice ao k cap) k (ys.take (k * sz)) :: R) w := Holds.ownShort hw hk
def keptN (p : SuperD -> Bool) (l : List SuperD) (j : Nat) : List SuperD := (l.take j).filter fun s => !p s
theorem keptN_le (p : SuperD -> Bool) (l : List SuperD) (j : Nat) : (keptN p l j).length <= j := by
 unfold keptN; exact Nat.le_trans (List.length_filter_le _ _) (by rw [List.length_take]; omega)
theorem keptN_succ (p : SuperD -> Bool) (l : List SuperD) (j : Nat) (h : j < l.length) : keptN p l (j + 1) = keptN p l j ++ (if p l[j] then [] else [l[j]]) := by
 unfold keptN
 rw [List.take_succ_eq_append_getElem h, List.filter_append]
 congr 1
 cases hp : p l[j] <;> simp [hp]
theorem deletefunc_ok {ao : Option Addr} {cap : Nat} {l : List SuperD} {g : FuncId} {cp : Array Value} (p : SuperD -> Bool) (hl : l.length <= 1000000) (hcf : ∀ a w, (callFunc g a).run Tryz.prog w = .ok (.enter g a) w)
  (hp : ∀ s ∈ l, ∀ H : List SProp, (∀ x ∈ R, x ∈ H) -> Does1 W Tryz.prog g (.agg s.cells.toArray :: cp.toList) H (.bool (p s)) H) (hn : ao = none -> l.length = 0) (hcap : l.length <= cap) :
  Does1 W Tryz.prog 130 [.slice ao l.length cap, .func (.func g) #[] cp] (Own 67 12 (.slice ao l.length cap) l.length (supCells l) :: R)
   (.slice ao (l.filter fun s => !p s).length cap) (Own 67 12 (.slice ao (l.filter fun s => !p s).length cap) (l.filter fun s => !p s).length (supCells (l.filter fun s => !p s)) :: R) := by
 (refine Does.enter Tryz.func130 Tryz.ntmps130 rfl rfl ?_)
 refine w ?_
 (refine zq ?_; refine zy rfl rfl (indexfunc_ok p hl (Rds.own (sup_one l) (.head _) (sup_len l) hn) hcf (fun s hs => hp s hs _ fun x hx => .tail _ hx)) ?_)
 intro k hk
 refine w ?_
 rcases hk with ⟨rfl, hno⟩ | ⟨i0, hi0, rfl, hp0, hno⟩
 ·
  have hf : (l.filter fun s => !p s) = l := List.filter_eq_self.2 fun s hs => by simp [hno s hs]
  refine w ?_
  refine VE.done1 rfl ?_ ?_
  · rw [hf]
  · rw [hf]; exact Ent.refl
 refine w ?_
 have hkeep0 : keptN p l (i0 + 1) = l.take i0 := by
  rw [keptN_succ p l i0 hi0, hp0, if_pos rfl, List.append_nil]
  exact List.filter_eq_self.2 fun s hs => by simp [hno s hs]
 have hkl0 : (keptN p l (i0 + 1)).length = i0 := by rw [hkeep0, List.length_take]; omega
 obtain ⟨a, rfl⟩ : ∃ a, ao = some a := by cases ao with | none => have := hn rfl; omega | some a => exact ⟨a, rfl⟩
 refine VC.loop (α := List SuperD × Nat) (fun y => y.2 <= l.length /\ y.1.length = l.length /\ y.1.take (keptN p l y.2).length = keptN p l y.2 /\ y.1.drop y.2 = l.drop y.2 /\ (keptN p l y.2).length < y.2)
  (fun y => Own 67 12 (.slice (some a) l.length cap) l.length (supCells y.1) :: R)
  (fun y => [(0, .slice (some a) l.length cap), (1, .func (.func g) #[] cp), (5, .int .i64 (keptN p l y.2).length), (6, .int .i64 y.2)]) (fun y => l.length - y.2) rfl (l, i0 + 1) ⟨hi0, rfl, by rw [hkl0, hkeep0], rfl, by rw [hkl0]; omega⟩ Ent.refl ⟨rfl, rfl, asV rfl (by congr 1; simp [hkl0]), asV rfl (by congr 1), trivial⟩ ?_
 rintro ⟨M, j⟩ ⟨h1, h2, h3, h4, h5⟩
 dsimp only at h1 h2 h3 h4 h5 ⊢
 refine w ?_
 refine zk ?_ ?_ <;> intro hc
 ·
  have hlt : j < l.length := by have := of_decide_eq_true hc; omega
  have hMj : M[j]'(by omega) = l[j] := by
   have e := congrArg (fun x => x[0]?) h4
   simpa [hlt, h2] using e
  have hrM : Rds W (Own 67 12 (.slice (some a) l.length cap) l.length (supCells M) :: R) 12 (some a) l.length (supCells M) := Rds.own (sup_one M) (.head _) (by rw [sup_len, h2]) (by simp)
  refine w ?_
  refine VO.pure rfl rfl (.ldRA tab_ok rfl rfl hrM (sup_part M j (by omega)) rfl) rfl ?_
  refine w ?_
  refine zq ?_; refine OpV.allocS sb_67 rfl ?_; intro na
  refine w ?_
  refine zq ?_
  refine OpV.stA (vs := M[j].cells) tab_ok rfl rfl rfl rfl (super_one _) zh (by simp) ?_
  rw [hMj]
  refine VO.ent (Reord.ent (L := Row na 67 l[j].cells :: Own 67 12 (.slice (some a) l.length cap) l.length (supCells M) :: R) (by (repeat first | exact .refl | (apply Reord.cons; focus repeat first | exact .head | apply Del.tail) | exact .nil | apply Reord.drop))) ?_
  refine w ?_
  refine zq ?_
  refine OpV.call rfl rfl hcf (hp l[j] (List.getElem_mem hlt) _ fun x hx => .tail _ (.tail _ hx)) Ent.refl rfl ?_
  intro _ _
  have hks := keptN_succ p l j hlt
  have hkle := keptN_le p l j
  have hM1 : M.drop (j + 1) = l.drop (j + 1) := by rw [<- List.drop_drop, <- List.drop_drop, h4]
  refine w ?_
  cases hpj : p l[j]
  ·
   rw [hpj] at hks
   simp only [Bool.false_eq_true, if_false] at hks
   refine w ?_
   refine zq ?_
   refine OpV.stOA (vs := l[j].cells) tab_ok rfl rfl rfl rfl (super_one _) zh (by rw [sup_len]; omega) ?_
   rw [supCells_set M _ _ (by omega)]
   refine w ?_
   refine VE.round (M.set (keptN p l j).length l[j], j + 1) ⟨by simp only; omega, by simp only [List.length_set]; exact h2, ?_, ?_, ?_⟩ (by simp only; omega) ⟨rfl, rfl, asV rfl (by congr 1; rw [hks]; simp), asV rfl (by congr 1), trivial⟩ ?_
   ·
    simp only
    rw [hks, List.length_append, List.length_singleton, List.take_succ_eq_append_getElem (by rw [List.length_set]; omega), List.take_set_of_le (Nat.le_refl _), h3, List.getElem_set_self]
   ·
    simp only
    rw [List.drop_set_of_lt (by omega), hM1]
   ·
    simp only
    rw [hks, List.length_append, List.length_singleton]; omega
   · exact Ent.re
  ·
   rw [hpj] at hks
   simp only [if_true, List.append_nil] at hks
   refine w ?_
   refine VE.round (M, j + 1) ⟨by simp only; omega, h2, by simp only; rw [hks]; exact h3, hM1, by simp only; rw [hks]; omega⟩ (by simp only; omega) ⟨rfl, rfl, asV rfl (by rw [hks]), asV rfl (by congr 1), trivial⟩ Ent.re
 ·
  have hge : j = l.length := by have := of_decide_eq_false hc; omega
  subst hge
  have hfin : keptN p l l.length = l.filter fun s => !p s := by unfold keptN; rw [List.take_of_length_le (Nat.le_refl _)]
  rw [hfin] at h3 h5 ⊢
  have hcm : (l.filter fun s => !p s).length <= l.length := by omega
  refine w ?_
  refine zq ?_
  refine OpV.clearOwn st_138 rfl zh hcm ?_
  intro ys hys
  refine w ?_
  refine VE.done1 rfl ?_ ?_
  · rfl
  ·
   refine Ent.trans (fun w hw => Holds.ownCut (k := (l.filter fun s => !p s).length) hw hcm) ?_
   rw [supCells_take, h3, List.take_left' (by rw [sup_len])]
   exact Ent.refl
def zeroSup : SuperD := ⟨0, 0, 0, 0, 0, 0, 0, 0, false, false, none, 0, [], 0⟩
def oddOne (l : List SuperD) (s : SuperD) : Bool := l.any fun t => !s.alike t
def membersM (l : List SuperD) : Int × SuperD :=
  if l.any (fun s => !s.lost) then (153, zeroSup) else if l.any (oddOne l) then (151, zeroSup) else (0, l.headD zeroSup)
def bestN (l : List SuperD) (e : Nat) : List SuperD := l.filter fun s => !(!decide (s.events = e))
theorem members_ok {ao : Option Addr} {cap : Nat} {l : List SuperD} {e : Nat} (hl : l.length <= 1000000) (hf : ∀ s ∈ l, s.fit) (hst : ∀ s ∈ l, Rds W R 1 s.so s.states.length (bytes s.states)) (hne : ∃ s ∈ l, s.events = e) (hn : ao = none -> l.length = 0) (hcap : l.length <= cap) :
  Does1 W Tryz.prog 75 [.slice ao l.length cap, .int .u64 e] (Own 67 12 (.slice ao l.length cap) l.length (supCells l) :: R)
   (.tuple #[.agg (membersM (bestN l e)).2.cells.toArray, .int .u16 (membersM (bestN l e)).1]) R := by
 (refine Does.enter Tryz.func75 Tryz.ntmps75 rfl rfl ?_)
 refine w ?_; repeat (refine zj fun _ => ?_; refine w ?_)
 rename_i b
 refine zq ?_; refine OpV.allocS sb_67 rfl ?_; intro na
 refine w ?_; repeat (refine zj fun _ => ?_; refine w ?_)
 refine VO.pure rfl rfl (PureAt.makeFunc1 rfl) rfl ?_
 (refine zq ?_; refine zd rfl rfl (deletefunc_ok (R := Row na 67 zeroSup.cells :: Row b 62 [.int .u64 e] :: R) (fun s => !decide (s.events = e)) hl (fun _ _ => by simp) (fun s hs H hH => members1_ok s (hf s hs) (hH _ (.tail _ (.head _)))) hn hcap) ?_)
 intro _ _
 have hb : ∀ s ∈ bestN l e, s ∈ l := fun s hs => (List.mem_filter.1 hs).1
 have hbl : (bestN l e).length <= l.length := List.length_filter_le _ _
 have hpos : 0 < (bestN l e).length := by
  obtain ⟨s, hs, he⟩ := hne
  exact List.length_pos_of_mem (List.mem_filter.2 ⟨hs, by simp [he]⟩)
 obtain ⟨a, rfl⟩ : ∃ a, ao = some a := by cases ao with | none => have := hn rfl; omega | some a => exact ⟨a, rfl⟩
 change VO _ _ _ _ _ _ (Own 67 12 (.slice (some a) (bestN l e).length cap) (bestN l e).length (supCells (bestN l e)) :: Row na 67 zeroSup.cells :: Row b 62 [.int .u64 e] :: R) ((14, .slice (some a) (bestN l e).length cap) :: _)
 generalize bestN l e = B at *
 refine w ?_; repeat (refine zj fun _ => ?_; refine w ?_)
 have hfB : ∀ s ∈ B, s.fit := fun s hs => hf s (hb s hs)
 have hstB : ∀ s ∈ B, Rds W R 1 s.so s.states.length (bytes s.states) := fun s hs => hst s (hb s hs)
 have hrB : ∀ X : List SProp, Rds W (X ++ Own 67 12 (.slice (some a) B.length cap) B.length (supCells B) :: Row na 67 zeroSup.cells :: Row b 62 [.int .u64 e] :: R) 12 (some a) B.length (supCells B) := fun X => Rds.own (sup_one B) (List.mem_append_right _ (.head _)) (sup_len B) (by simp)
 refine VC.loop (α := Nat × Bool) (fun y => y.1 <= B.length /\ (∀ s ∈ B.take y.1, s.lost = true) /\ y.2 = (B.take y.1).any (oddOne B))
  (fun _ => Own 67 12 (.slice (some a) B.length cap) B.length (supCells B) :: Row na 67 zeroSup.cells :: Row b 62 [.int .u64 e] :: R)
  (fun y => [(4, .pointer (some ⟨na, 0, none⟩)), (5, .int .u16 0), (6, .slice (some a) B.length cap), (7, .bool y.2), (15, .slice (some a) B.length cap), (16, .int .i64 B.length), (17, .int .i64 y.1)]) (fun y => B.length - y.1) rfl (0, false) ⟨Nat.zero_le _, by simp, by simp⟩ Ent.refl ⟨rfl, rfl, rfl, rfl, rfl, rfl, rfl, trivial⟩ ?_
 rintro ⟨i, sp⟩ ⟨hi, hlost, hsp⟩
 dsimp only at hi hlost hsp ⊢
 refine w ?_; repeat (refine zj fun _ => ?_; refine w ?_)
 refine zk ?_ ?_ <;> intro hc
 ·
  have hlt : i < B.length := by have := of_decide_eq_true hc; omega
  have htk := List.take_succ_eq_append_getElem hlt
  have hfi := hfB _ (List.getElem_mem hlt)
  have hsti := hstB _ (List.getElem_mem hlt)
  refine w ?_; repeat (refine zj fun _ => ?_; refine w ?_)
  refine VO.pure rfl rfl (.ldRA tab_ok rfl rfl (hrB []) (sup_part B i hlt) rfl) rfl ?_
  refine zq ?_; refine OpV.allocS sb_67 rfl ?_; intro n9
  refine w ?_; repeat (refine zj fun _ => ?_; refine w ?_)
  refine zq ?_
  refine OpV.stA (vs := B[i].cells) tab_ok rfl rfl rfl rfl (super_one _) zh (by simp) ?_
  refine VO.ent (Reord.ent (L := Row n9 67 B[i].cells :: Own 67 12 (.slice (some a) B.length cap) B.length (supCells B) :: Row na 67 zeroSup.cells :: Row b 62 [.int .u64 e] :: R) (by (repeat first | exact .refl | (apply Reord.cons; focus repeat first | exact .head | apply Del.tail) | exact .nil | apply Reord.drop))) ?_
  refine w ?_; repeat (refine zj fun _ => ?_; refine w ?_)
  cases hlo : B[i].lost
  ·
   refine w ?_; repeat (refine zj fun _ => ?_; refine w ?_)
   (apply VO.pure rfl rfl; apply PureAt.build sb_67 rfl; (simp [buildX, setL, Value.cells]; rfl); rfl)
   refine zq ?_
   refine OpV.stA (vs := zeroSup.cells) tab_ok rfl rfl rfl rfl (super_one _) zh (by simp) ?_
   refine w ?_; repeat (refine zj fun _ => ?_; refine w ?_)
   refine VE.results2 (.inl rfl) () rfl (ResIs.agg (vs := zeroSup.cells) tab_ok rfl rfl zm rfl rfl) (.tmp rfl) trivial ?_ (by exact Ent.re)
   rw [show membersM B = (153, zeroSup) from if_pos (List.any_eq_true.2 ⟨_, List.getElem_mem hlt, by simp [hlo]⟩)]
  ·
   refine w ?_; repeat (refine zj fun _ => ?_; refine w ?_)
   refine VC.loop (α := Nat) (fun k => k <= B.length /\ ∀ t ∈ B.take k, B[i].alike t = true)
    (fun _ => Row n9 67 B[i].cells :: Own 67 12 (.slice (some a) B.length cap) B.length (supCells B) :: Row na 67 zeroSup.cells :: Row b 62 [.int .u64 e] :: R)
    (fun k => [(4, .pointer (some ⟨na, 0, none⟩)), (5, .int .u16 0), (6, .slice (some a) B.length cap), (7, .bool sp), (9, .pointer (some ⟨n9, 0, none⟩)), (15, .slice (some a) B.length cap), (16, .int .i64 B.length), (17, .int .i64 i), (25, .slice (some a) B.length cap), (26, .int .i64 B.length), (27, .int .i64 k)]) (fun k => B.length - k) rfl 0 ⟨Nat.zero_le _, by simp⟩ Ent.refl ⟨rfl, rfl, rfl, rfl, rfl, rfl, rfl, rfl, rfl, rfl, rfl, trivial⟩ ?_
   rintro k ⟨hk, hal⟩
   have hlost2 : ∀ s ∈ B.take (i + 1), s.lost = true := by
    intro s hs
    rw [htk, List.mem_append, List.mem_singleton] at hs
    rcases hs with h | h
    · exact hlost s h
    · rw [h]; exact hlo
   have hany : (B.take (i + 1)).any (oddOne B) = (sp || oddOne B B[i]) := by rw [htk, List.any_append, <- hsp]; simp
   refine w ?_; repeat (refine zj fun _ => ?_; refine w ?_)
   refine zk ?_ ?_ <;> intro hc
   ·
    have hkt : k < B.length := by have := of_decide_eq_true hc; omega
    refine w ?_; repeat (refine zj fun _ => ?_; refine w ?_)
    refine VO.pure rfl rfl (.ldRA tab_ok rfl rfl (hrB [_]) (sup_part B k hkt) rfl) rfl ?_
    refine zq ?_; refine OpV.allocS sb_67 rfl ?_; intro n11
    refine w ?_; repeat (refine zj fun _ => ?_; refine w ?_)
    refine zq ?_
    refine OpV.stA (vs := B[k].cells) tab_ok rfl rfl rfl rfl (super_one _) zh (by simp) ?_
    refine VO.ent (Reord.ent (L := Row n11 67 B[k].cells :: Row n9 67 B[i].cells :: Own 67 12 (.slice (some a) B.length cap) B.length (supCells B) :: Row na 67 zeroSup.cells :: Row b 62 [.int .u64 e] :: R) (by (repeat first | exact .refl | (apply Reord.cons; focus repeat first | exact .head | apply Del.tail) | exact .nil | apply Reord.drop))) ?_
    refine w ?_; repeat (refine zj fun _ => ?_; refine w ?_)
    have eR : ∀ A C D E F : SProp, Ent W (A :: C :: D :: E :: F :: R) R := fun A C D E F => Ent.drop (Ent.drop (Ent.drop (Ent.drop (Ent.drop Ent.refl))))
    (refine zq ?_; refine zy rfl rfl (alike_ok B[i] B[k] hfi (hfB _ (List.getElem_mem hkt)) (hsti.ent (eR _ _ _ _ _)) ((hstB _ (List.getElem_mem hkt)).ent (eR _ _ _ _ _))) ?_; intro _ _)
    refine w ?_; repeat (refine zj fun _ => ?_; refine w ?_)
    cases hak : B[i].alike B[k]
    ·
     refine w ?_; repeat (refine zj fun _ => ?_; refine w ?_)
     refine VE.round (i + 1, true) ⟨by simp only; omega, hlost2, ?_⟩ (by simp only; omega) ⟨rfl, rfl, rfl, rfl, rfl, rfl, asV rfl (by congr 1), trivial⟩ Ent.re
     simp only
     rw [hany, show oddOne B B[i] = true from List.any_eq_true.2 ⟨_, List.getElem_mem hkt, by simp [hak]⟩, Bool.or_true]
    ·
     refine w ?_; repeat (refine zj fun _ => ?_; refine w ?_)
     refine VE.round (k + 1) ⟨by omega, ?_⟩ (by omega) ⟨rfl, rfl, rfl, rfl, rfl, rfl, rfl, rfl, rfl, rfl, asV rfl (by congr 1), trivial⟩ Ent.re
     intro t ht
     rw [List.take_succ_eq_append_getElem hkt, List.mem_append, List.mem_singleton] at ht
     rcases ht with h | h
     · exact hal t h
     · rw [h]; exact hak
   ·
    have hge : k = B.length := by have := of_decide_eq_false hc; omega
    subst hge
    rw [List.take_of_length_le (Nat.le_refl _)] at hal
    refine w ?_; repeat (refine zj fun _ => ?_; refine w ?_)
    refine VE.round (i + 1, sp) ⟨by simp only; omega, hlost2, ?_⟩ (by simp only; omega) ⟨rfl, rfl, rfl, rfl, rfl, rfl, asV rfl (by congr 1), trivial⟩ Ent.re
    simp only
    rw [hany, show oddOne B B[i] = false from List.any_eq_false.2 fun t ht => by simp [hal t ht], Bool.or_false]
 ·
  have hge : i = B.length := by have := of_decide_eq_false hc; omega
  subst hge
  rw [List.take_of_length_le (Nat.le_refl _)] at hlost hsp
  have hnl : ¬ B.any (fun s => !s.lost) = true := by
   intro h; obtain ⟨s, hs, h2⟩ := List.any_eq_true.1 h; rw [hlost s hs] at h2; cases h2
  cases hsv : sp
  ·
   rw [hsv] at hsp
   refine w ?_; repeat (refine zj fun _ => ?_; refine w ?_)
   refine VO.pure rfl rfl (.ldRA tab_ok rfl rfl (hrB []) (sup_part B 0 hpos) rfl) rfl ?_
   refine zq ?_
   refine OpV.stA (vs := B[0].cells) tab_ok rfl rfl rfl rfl (super_one _) zh (by simp) ?_
   refine w ?_; repeat (refine zj fun _ => ?_; refine w ?_)
   refine VE.results2 (.inl rfl) () rfl (ResIs.agg (vs := B[0].cells) tab_ok rfl rfl zm rfl rfl) (.tmp rfl) trivial ?_ (by exact Ent.re)
   rw [show membersM B = (0, B.headD zeroSup) from (if_neg hnl).trans (if_neg (by rw [<- hsp]; simp))]
   rw [show B.headD zeroSup = B[0] by cases B with | nil => simp at hpos | cons x r => rfl]
  ·
   rw [hsv] at hsp
   refine w ?_; repeat (refine zj fun _ => ?_; refine w ?_)
   (apply VO.pure rfl rfl; apply PureAt.build sb_67 rfl; (simp [buildX, setL, Value.cells]; rfl); rfl)
   refine zq ?_
   refine OpV.stA (vs := zeroSup.cells) tab_ok rfl rfl rfl rfl (super_one _) zh (by simp) ?_
   refine w ?_; repeat (refine zj fun _ => ?_; refine w ?_)
   refine VE.results2 (.inl rfl) () rfl (ResIs.agg (vs := zeroSup.cells) tab_ok rfl rfl zm rfl rfl) (.tmp rfl) trivial ?_ (by exact Ent.re)
   rw [show membersM B = (151, zeroSup) from (if_neg hnl).trans (if_pos hsp.symm)]
theorem clonest_ok {ao : Option Addr} {n cap : Nat} {xs : List Value} (ha : Rds W R 1 ao n xs) (hn : n <= 1099511627776) :
    Does W Tryz.prog 76 [.slice ao n cap] R (β := Option Addr × Nat) (fun _ => True) (fun x => .slice x.1 n x.2) (fun x => Own 144 1 (.slice x.1 n x.2) n xs :: R) := by
  (refine Does.enter Tryz.func76 Tryz.ntmps76 rfl rfl ?_)
  refine w ?_
  cases ao with
  | none =>
    have h0 := ha.nil rfl
    subst h0
    have hx : xs = [] := List.eq_nil_of_length_eq_zero (by simpa using ha.len)
    subst hx
    (refine VC.condTe rfl rfl (rfl) ?_)
    refine w ?_
    exact VE.done (none, 0) rfl trivial rfl fun w hw => hw.ownNil _ _
  | some a =>
    (refine VC.condFe rfl rfl (rfl) ?_)
    refine w ?_
    (refine zq ?_; refine OpV.buildSlice1 st_65 rfl rfl (by first | (simp; done) | simp [Value.oneCell']) (by decide) rfl ?_; intro nb)
    refine VO.ent (H' := Own 144 1 (.slice (some ⟨nb, 0, none⟩) 0 0) 0 [] :: R) (fun w hw => Holds.ownShut rfl (Nat.le_refl _) (by decide) rfl hw) ?_
    refine w ?_
    refine VO.step rfl rfl ?_
    refine OpV.append st_65 rfl rfl .head (fun w hw => (ha.sees (cap := cap) hw.tail).src st_65.und) (by simp only [maxLen]; omega) (by omega) rfl ?_
    intro ao' cap'
    simp only [Nat.zero_add, List.nil_append]
    refine w ?_
    exact VE.done (ao', cap') rfl trivial rfl Ent.refl
theorem counting_ok {ao : Option Addr} {n cap : Nat} :
  Does W Tryz.prog 71 [.slice ao n cap] R (β := Nat) (fun _ => True) (fun x => .func (.func 127) #[] #[.pointer (some ⟨x, 0, none⟩)]) (fun x => Row x 59 [.slice ao n cap] :: R) := by
 (refine Does.enter Tryz.func71 Tryz.ntmps71 rfl rfl ?_)
 refine w ?_; repeat (refine zj fun _ => ?_; refine w ?_)
 rename_i b
 refine VO.pure rfl rfl (PureAt.makeFunc1 rfl) rfl ?_
 refine w ?_; repeat (refine zj fun _ => ?_; refine w ?_)
 exact VE.done b rfl trivial rfl Ent.refl
def evs (l : List BalD) (m : Nat) : Nat := match l[m]? with
  | some b => b.s.events
  | none => 0
def stAt (st : List UInt8) (m : Nat) : UInt8 := st.getD m 0
def fitM (l : List BalD) (safe : Nat) (st : List UInt8) (m : Nat) : Bool := stAt st m != 2 && (countsB l m && decide (safe <= evs l m))
def goneM (l : List BalD) (safe : Nat) (st : List UInt8) (m : Nat) : Bool := stAt st m != 2 && !fitM l safe st m
def awayM (l : List BalD) (safe : Nat) (st : List UInt8) : Nat -> Nat
  | 0 => 0
  | m + 1 => awayM l safe st m + (if (stAt st m != 1 || !fitM l safe st m) = true then 1 else 0)
def turnM (l : List BalD) (safe : Nat) (st : List UInt8) : Nat -> Bool
  | 0 => false
  | m + 1 => turnM l safe st m || goneM l safe st m
def wipeM (l : List BalD) (safe : Nat) (st : List UInt8) : Nat -> Bool
  | 0 => false
  | m + 1 => wipeM l safe st m || (goneM l safe st m && stAt st m == 3)
def newSt (l : List BalD) (safe : Nat) (st : List UInt8) (i : Nat) : List UInt8 := st.mapIdx fun m x => if m < i /\ goneM l safe st m = true then 2 else x
@[simp] theorem newSt_length (l : List BalD) (safe : Nat) (st : List UInt8) (i : Nat) : (newSt l safe st i).length = st.length := by simp [newSt]
theorem newSt_zero (l : List BalD) (safe : Nat) (st : List UInt8) : newSt l safe st 0 = st := by
 apply List.ext_getElem (by simp)
 intro j h1 h2
 simp [newSt]
theorem newSt_get (l : List BalD) (safe : Nat) (st : List UInt8) (i : Nat) (h : i < st.length) : (newSt l safe st i)[i]'(by simpa using h) = stAt st i := by simp [newSt, stAt, h]
theorem newSt_stay (l : List BalD) (safe : Nat) (st : List UInt8) (i : Nat) (h : goneM l safe st i = false) : newSt l safe st (i + 1) = newSt l safe st i := by
 apply List.ext_getElem (by simp)
 intro j h1 h2
 simp only [newSt, List.getElem_mapIdx]
 by_cases e : j = i
 · subst e; simp [h]
 ·
  have : j < i + 1 ↔ j < i := by omega
  simp only [this]
theorem newSt_gone (l : List BalD) (safe : Nat) (st : List UInt8) (i : Nat) (h : goneM l safe st i = true) : newSt l safe st (i + 1) = (newSt l safe st i).set i 2 := by
 apply List.ext_getElem (by simp)
 intro j h1 h2
 simp only [newSt, List.getElem_mapIdx, List.getElem_set]
 by_cases e : i = j
 · subst e; simp [h]
 ·
  rw [if_neg e]
  have : j < i + 1 ↔ j < i := by omega
  simp only [this]
def vCells (s : SuperD) (so : Option Addr) (n sc : Nat) (cur : Int) (ch jr : Bool) : List Value := [.int .u64 s.id, .int .u64 s.events, .int .u64 s.safe, .int .i64 s.role, .int .i64 s.members, .int .i64 s.chunk, .int .i64 s.stripes, .int .i64 s.ring, .bool s.lazy, .bool s.lost, .slice so n sc, .int .i64 cur, .bool ch, .bool jr]
def fitG (v : Nat) (s : SuperD) (a : Addr) (sc : Nat) (jr : Bool) (l : List BalD) (st : List UInt8) (i : Nat) (R : List SProp) : List SProp :=
  Row v 69 (vCells s (some a) st.length sc (if wipeM l s.safe st i = true then 0 else s.cursor) (turnM l s.safe st i) jr) :: Own 144 1 (.slice (some a) st.length sc) st.length (bytes (newSt l s.safe st i)) :: R
theorem bytes_set8 (l : List UInt8) (i : Nat) (c : UInt8) : (bytes l).set i (.int .u8 (c.toNat : Int)) = bytes (l.set i c) := by simp [bytes, List.map_set]; rfl
theorem ne_nat8 (x : UInt8) (k : Nat) (hk : k < 256) : ((x.toNat : Int) != (k : Int)) = (x != UInt8.ofNat k) := by
 rw [Bool.eq_iff_iff]; simp only [bne_iff_ne, ne_eq]
 constructor
 · intro h e; apply h; subst e; simp [Nat.mod_eq_of_lt hk]
 · intro h e; apply h; apply UInt8.toNat_inj.1; simp [Nat.mod_eq_of_lt hk]; omega
theorem eq_nat8 (x : UInt8) (k : Nat) (hk : k < 256) : ((x.toNat : Int) == (k : Int)) = (x == UInt8.ofNat k) := by
 have h := ne_nat8 x k hk
 simp only [bne] at h
 exact Bool.not_inj h
theorem fitted_ok {a : Addr} {ao : Option Addr} {cap sc v bx : Nat} {l : List BalD} (s : SuperD) (jr : Bool) (st : List UInt8) (hlen : l.length <= 1000000) (hst : st.length + 1 = l.length) (hm : Row bx 59 [.slice ao l.length cap] ∈ R) (hb : Bals W R ao l) :
  Does1 W Tryz.prog 77 [.pointer (some ⟨v, 0, none⟩), .slice ao l.length cap, .func (.func 127) #[] #[.pointer (some ⟨bx, 0, none⟩)]]
   (Row v 69 (vCells s (some a) st.length sc s.cursor false jr) :: Own 144 1 (.slice (some a) st.length sc) st.length (bytes st) :: R)
   (.int .i64 (awayM l s.safe st st.length)) (fitG v s a sc jr l st st.length R) := by
 obtain ⟨la, rfl⟩ : ∃ a, ao = some a := by cases ao with | none => have := hb.rds.nil rfl; omega | some a => exact ⟨a, rfl⟩
 (refine Does.enter Tryz.func77 Tryz.ntmps77 rfl rfl ?_)
 unfold vCells
 refine w ?_
 refine VC.loop (α := Nat) (fun i => i <= st.length) (fun i => fitG v s a sc jr l st i R)
  (fun i => [(0, .pointer (some ⟨v, 0, none⟩)), (1, .slice (some la) l.length cap), (2, .func (.func 127) #[] #[.pointer (some ⟨bx, 0, none⟩)]), (7, .int .i64 (awayM l s.safe st i)), (15, .slice (some a) st.length sc), (16, .int .i64 st.length), (17, .int .i64 i)]) (fun i => st.length - i) rfl 0 (Nat.zero_le _) ?_ ⟨rfl, rfl, rfl, rfl, rfl, rfl, rfl, trivial⟩ ?_
 · unfold fitG; rw [newSt_zero]; exact Ent.refl
 intro i hi
 unfold fitG vCells
 refine w ?_
 refine zk ?_ ?_ <;> intro hc
 ·
  have hlt : i < st.length := by have := of_decide_eq_true hc; omega
  have hlt2 : i < l.length := by omega
  have hrs : ∀ X : List SProp, Rds W (X ++ Own 144 1 (.slice (some a) st.length sc) st.length (bytes (newSt l s.safe st i)) :: R) 1 (some a) st.length (bytes (newSt l s.safe st i)) := fun X => Rds.own (bytes_one _) (List.mem_append_right _ (.head _)) (by simp) (by simp)
  refine w ?_
  ((first | apply VO.pure rfl rfl | apply VQ.pure rfl rfl | apply VD.take rfl rfl rfl | (refine VD.end rfl rfl rfl ?_; apply OpV.pure)); exact PureAt.ldR tab_ok rfl rfl (hrs [_]) (show (bytes (newSt l s.safe st i))[i]? = some (.int .u8 ((stAt st i).toNat : Int)) by rw [<- newSt_get l s.safe st i hlt]; simp [bytes, hlt]; rfl); rfl)
  refine w ?_
  refine VC.joinH [(0, .pointer (some ⟨v, 0, none⟩)), (1, .slice (some la) l.length cap), (2, .func (.func 127) #[] #[.pointer (some ⟨bx, 0, none⟩)]), (7, .int .i64 (awayM l s.safe st i)), (8, .int .i64 i), (9, .int .u8 ((stAt st i).toNat : Int)), (10, .bool (fitM l s.safe st i)), (15, .slice (some a) st.length sc), (16, .int .i64 st.length), (17, .int .i64 i)] ?_ ?_
  ·
   intro Q2 jn
   (refine VC.drawn [5] 19 [0, 1, 2, 3, 4, 5, 6, 7, 8, 9, 10, 11, 12, 13, 14, 15, 16, 17, 18, 19, 20, 21] _ rfl (by kernel_rfl) (by kernel_rfl) Ent.re ?_)
   refine w ?_
   refine VD.re 24 (.bool (stAt st i != 2)) rfl (congrArg Value.bool (ne_nat8 _ 2 (by decide))) ?_
   cases h2 : stAt st i != 2
   ·
    refine w ?_
    exact jn.to () trivial ⟨rfl, rfl, rfl, rfl, rfl, rfl, asV rfl (by simp [fitM, h2]), rfl, rfl, rfl, trivial⟩ Ent.re
   refine w ?_
   (refine zq ?_; refine zy rfl rfl (countf_ok i hlt2 (by omega) (.tail _ (.tail _ hm)) (hb.ent (Ent.drop (Ent.drop Ent.refl)))) ?_; intro _ _)
   cases h3 : countsB l i
   ·
    refine w ?_
    exact jn.to () trivial ⟨rfl, rfl, rfl, rfl, rfl, rfl, asV rfl (by simp [fitM, h3]), rfl, rfl, rfl, trivial⟩ Ent.re
   refine w ?_
   ((first | apply VO.pure rfl rfl | apply VQ.pure rfl rfl | apply VD.take rfl rfl rfl | (refine VD.end rfl rfl rfl ?_; apply OpV.pure)); exact PureAt.ldRc tab_ok rfl rfl (hb.rds.ent (Ent.drop (Ent.drop Ent.refl))) (bal_get l i 2 hlt2 (by decide)); rfl)
   refine w ?_
   refine jn.to () trivial ⟨rfl, rfl, rfl, rfl, rfl, rfl, asV rfl (by simp [fitM, h2, h3, evs, hlt2]), rfl, rfl, rfl, trivial⟩ Ent.re
  have haw : awayM l s.safe st (i + 1) = awayM l s.safe st i + (if (stAt st i != 1 || !fitM l s.safe st i) = true then 1 else 0) := rfl
  have htn : turnM l s.safe st (i + 1) = (turnM l s.safe st i || goneM l s.safe st i) := rfl
  have hwp : wipeM l s.safe st (i + 1) = (wipeM l s.safe st i || (goneM l s.safe st i && stAt st i == 3)) := rfl
  have hgn : goneM l s.safe st i = (stAt st i != 2 && !fitM l s.safe st i) := rfl
  have hab : awayM l s.safe st i <= i := by
   clear haw htn hwp hgn hc hrs hlt hlt2 hi
   induction i with
   | zero => exact Nat.le_refl _
   | succ k ih => rw [awayM]; split <;> omega
  refine VC.seq rfl ?_
  refine VC.joinH [(0, .pointer (some ⟨v, 0, none⟩)), (1, .slice (some la) l.length cap), (2, .func (.func 127) #[] #[.pointer (some ⟨bx, 0, none⟩)]), (7, .int .i64 (awayM l s.safe st (i + 1))), (8, .int .i64 i), (9, .int .u8 ((stAt st i).toNat : Int)), (10, .bool (fitM l s.safe st i)), (15, .slice (some a) st.length sc), (16, .int .i64 st.length), (17, .int .i64 i)] ?_ ?_
  ·
   intro Q2 jn
   refine w ?_
   refine VO.re 45 (.bool (stAt st i != 1)) rfl (congrArg Value.bool (ne_nat8 _ 1 (by decide))) ?_
   cases h1 : stAt st i != 1
   ·
    refine w ?_
    cases hf : fitM l s.safe st i
    ·
     refine w ?_
     exact jn.to () trivial ⟨rfl, rfl, rfl, asV rfl (by simp [haw, h1, hf]), rfl, rfl, asV rfl (by rw [hf]), rfl, rfl, rfl, trivial⟩ Ent.re
    ·
     refine w ?_
     exact jn.to () trivial ⟨rfl, rfl, rfl, asV rfl (by simp [haw, h1, hf]), rfl, rfl, asV rfl (by rw [hf]), rfl, rfl, rfl, trivial⟩ Ent.re
   ·
    refine w ?_
    exact jn.to () trivial ⟨rfl, rfl, rfl, asV rfl (by simp [haw, h1]), rfl, rfl, rfl, rfl, rfl, rfl, trivial⟩ Ent.re
  cases hf : fitM l s.safe st i
  ·
   rw [hf] at hgn
   refine w ?_
   refine VC.re 55 (.bool (stAt st i == 2)) rfl (congrArg Value.bool (eq_nat8 _ 2 (by decide))) ?_
   cases h2 : stAt st i == 2
   ·
    have hg : goneM l s.safe st i = true := by rw [hgn, bne, h2]; rfl
    rw [hg] at htn hwp
    rw [Bool.or_true] at htn
    have hss := newSt_gone l s.safe st i hg
    refine w ?_
    refine VC.re 57 (.bool (stAt st i == 3)) rfl (congrArg Value.bool (eq_nat8 _ 3 (by decide))) ?_
    cases h3 : stAt st i == 3
    ·
     rw [h3] at hwp
     rw [Bool.and_false, Bool.or_false] at hwp
     refine w ?_
     refine zq ?_
     refine OpV.stO tab_ok rfl rfl rfl rfl (.tail .head) (by simp; omega) ?_
     rw [show (.int .u8 2 : Value) = .int .u8 ((2 : UInt8).toNat : Int) from rfl, bytes_set8, <- hss]
     refine w ?_
     refine VE.round (i + 1) (by omega) (by omega) ⟨rfl, rfl, rfl, rfl, rfl, rfl, asV rfl (by congr 1), trivial⟩ ?_
     (try unfold fitG vCells)
     rw [htn, hwp]
     exact Ent.re
    ·
     rw [h3] at hwp
     rw [Bool.and_true, Bool.or_true] at hwp
     refine w ?_
     refine zq ?_
     refine OpV.stO tab_ok rfl rfl rfl rfl (.tail .head) (by simp; omega) ?_
     rw [show (.int .u8 2 : Value) = .int .u8 ((2 : UInt8).toNat : Int) from rfl, bytes_set8, <- hss]
     refine w ?_
     refine VE.round (i + 1) (by omega) (by omega) ⟨rfl, rfl, rfl, rfl, rfl, rfl, asV rfl (by congr 1), trivial⟩ ?_
     (try unfold fitG vCells)
     rw [htn, hwp]
     exact Ent.re
   ·
    have hg : goneM l s.safe st i = false := by rw [hgn, bne, h2]; rfl
    rw [hg] at htn hwp
    rw [Bool.or_false] at htn
    rw [Bool.false_and, Bool.or_false] at hwp
    refine w ?_
    refine VE.round (i + 1) (by omega) (by omega) ⟨rfl, rfl, rfl, rfl, rfl, rfl, asV rfl (by congr 1), trivial⟩ ?_
    (try unfold fitG vCells)
    rw [htn, hwp, newSt_stay l s.safe st i hg]
    exact Ent.re
  ·
   have hg : goneM l s.safe st i = false := by rw [hgn, hf]; simp
   rw [hg] at htn hwp
   rw [Bool.or_false] at htn
   rw [Bool.false_and, Bool.or_false] at hwp
   refine w ?_
   refine VE.round (i + 1) (by omega) (by omega) ⟨rfl, rfl, rfl, rfl, rfl, rfl, asV rfl (by congr 1), trivial⟩ ?_
   (try unfold fitG vCells)
   rw [htn, hwp, newSt_stay l s.safe st i hg]
   exact Ent.re
 ·
  have hge : i = st.length := by have := of_decide_eq_false hc; omega
  subst hge
  refine w ?_
  refine VE.done1 rfl ?_ ?_
  · rfl
  · exact Ent.refl
def supAt (l : List BalD) (i : Nat) : SuperD := match l[i]? with
  | some b => b.s
  | none => zeroSup
theorem supAt_get (l : List BalD) (i : Nat) (h : i < l.length) : supAt l i = l[i].s := by simp [supAt, h]
def votesN (l : List BalD) : Nat -> List SuperD
  | 0 => []
  | i + 1 => votesN l i ++ (if countsB l i = true then [supAt l i] else [])
def topN (l : List BalD) : Nat -> Nat
  | 0 => 0
  | i + 1 => if countsB l i = true then max (topN l i) (evs l i) else topN l i
theorem votes_mem (l : List BalD) : ∀ i s, s ∈ votesN l i -> ∃ j, j < i /\ countsB l j = true /\ supAt l j = s
  | 0, s, h => by cases h
  | i + 1, s, h => by
    rcases List.mem_append.1 h with h | h
    · obtain ⟨j, a, b, c⟩ := votes_mem l i s h
      exact ⟨j, by omega, b, c⟩
    · by_cases hc : countsB l i = true
      · rw [if_pos hc, List.mem_singleton] at h
        exact ⟨i, by omega, hc, h.symm⟩
      · rw [if_neg hc] at h; cases h
theorem votes_len (l : List BalD) : ∀ i, (votesN l i).length <= i
 | 0 => Nat.le_refl _
 | i + 1 => by have := votes_len l i; rw [votesN, List.length_append]; split <;> simp <;> omega
theorem counts_lt (l : List BalD) (i : Nat) (h : countsB l i = true) : i < l.length := by
 rcases Nat.lt_or_ge i l.length with h' | h'
 · exact h'
 · unfold countsB at h; rw [List.getElem?_eq_none h'] at h; cases h
theorem counts_iff (l : List BalD) (i : Nat) (hi : i < l.length) : countsB l i = true ↔ l[i].has = true /\ l[i].s.okP /\ l[i].s.members = (l.length : Int) - 1 /\ l[i].s.role = (i : Int) := by
 unfold countsB; rw [List.getElem?_eq_getElem hi]; simp
theorem counts_states (l : List BalD) (i : Nat) (h : countsB l i = true) : (supAt l i).states.length + 1 = l.length := by
 have hi := counts_lt l i h
 rw [supAt_get l i hi]
 obtain ⟨-, h2, h3, -⟩ := (counts_iff l i hi).1 h
 have := h2.1.2.2.2.2
 omega
theorem top_att (l : List BalD) : ∀ i, votesN l i ≠ [] -> ∃ s ∈ votesN l i, s.events = topN l i
  | 0, h => absurd rfl h
  | i + 1, h => by
    rw [votesN, topN] at *
    by_cases hc : countsB l i = true
    · have hi := counts_lt l i hc
      have he : evs l i = (supAt l i).events := by simp [evs, supAt, hi]
      rw [if_pos hc] at *
      rw [if_pos hc]
      by_cases hm : topN l i <= evs l i
      · exact ⟨supAt l i, by simp, by omega⟩
      · have hne : votesN l i ≠ [] := by
          intro e
          have : topN l i = 0 := by
            clear hm h hc he hi
            induction i with
            | zero => rfl
            | succ k ih =>
              rw [votesN] at e
              have e1 := List.append_eq_nil_iff.1 e
              rw [topN]
              by_cases hk : countsB l k = true
              · rw [if_pos hk] at e1; exact absurd e1.2 (by simp)
              · rw [if_neg hk]; exact ih e1.1
          omega
        obtain ⟨s, hs, he2⟩ := top_att l i hne
        exact ⟨s, List.mem_append_left _ hs, by omega⟩
    · rw [if_neg hc] at *
      rw [if_neg hc]
      rw [List.append_nil] at *
      exact top_att l i h
structure VerD where
  s : SuperD
  st : List UInt8
  cur : Int
  ch : Bool
  jr : Bool
def VerD.cells (v : VerD) (x : Option Addr × Nat) : List Value := vCells v.s x.1 v.st.length x.2 v.cur v.ch v.jr
def noneV : VerD := ⟨zeroSup, [], 0, false, false⟩
def guideM (l : List BalD) : Int × SuperD :=
  if countsB l (l.length - 1) = true then (0, supAt l (l.length - 1)) else membersM (bestN (votesN l l.length) (topN l l.length))
def fullV (l : List BalD) (s : SuperD) : VerD :=
  ⟨{ s with role := 0, lost := s.lost && !countsB l (l.length - 1), events := topN l l.length }, newSt l s.safe s.states s.states.length, if wipeM l s.safe s.states s.states.length = true then 0 else s.cursor, turnM l s.safe s.states s.states.length, countsB l (l.length - 1)⟩
def chooseM (l : List BalD) : Int × VerD :=
  if l.length < 4 \/ 17 < l.length then (1, noneV)
  else if votesN l l.length = [] then (150, noneV)
  else if (votesN l l.length).any (fun s => !s.akin ((votesN l l.length).headD zeroSup)) = true then (151, noneV)
  else if (guideM l).1 ≠ 0 then ((guideM l).1, noneV)
  else if 1 < awayM l (guideM l).2.safe (guideM l).2.states (guideM l).2.states.length then (152, noneV)
  else (0, fullV l (guideM l).2)
theorem guide_states (l : List BalD) (h0 : (guideM l).1 = 0) (hne : votesN l l.length ≠ []) : ∃ i, countsB l i = true /\ (guideM l).2 = supAt l i := by
 unfold guideM at *
 by_cases h : countsB l (l.length - 1) = true
 · rw [if_pos h]; exact ⟨_, h, rfl⟩
 ·
  rw [if_neg h] at *
  unfold membersM at *
  split
  · rename_i h1; rw [if_pos h1] at h0; cases h0
  ·
   rename_i h1
   rw [if_neg h1] at h0
   split
   · rename_i h2; rw [if_pos h2] at h0; cases h0
   ·
    obtain ⟨s, hs, he⟩ := top_att l l.length hne
    have hb : bestN (votesN l l.length) (topN l l.length) ≠ [] := List.ne_nil_of_mem (List.mem_filter.2 ⟨hs, by simp [he]⟩)
    obtain ⟨x, r, hx⟩ := List.exists_cons_of_ne_nil hb
    have hm0 : x ∈ bestN (votesN l l.length) (topN l l.length) := by rw [hx]; exact .head _
    have hm : x ∈ votesN l l.length := (List.mem_filter.1 hm0).1
    obtain ⟨j, -, h3, h4⟩ := votes_mem l _ _ hm
    exact ⟨j, h3, by simp only [hx, List.headD_cons]; exact h4.symm⟩
def zeroV : List Value := vCells zeroSup none 0 0 0 false false
theorem vCells_one (s : SuperD) (so : Option Addr) (n sc : Nat) (cur : Int) (ch jr : Bool) : ∀ u ∈ vCells s so n sc cur ch jr, u.oneCell' = true := by
 intro u hu; simp only [vCells, List.mem_cons, List.not_mem_nil, or_false] at hu
 rcases hu with h | h | h | h | h | h | h | h | h | h | h | h | h | h <;> subst h <;> rfl
abbrev cfV (bx : Nat) : Value := .func (.func 127) #[] #[.pointer (some ⟨bx, 0, none⟩)]
theorem bal_sup (l : List BalD) (i : Nat) (h : i < l.length) : ((balCells l).drop (i * 13 + 1)).take 12 = l[i].s.cells := by
 have h1 : ((balCells l).drop (i * 13)).take 13 = l[i].cells := flat_part l i h (fun _ _ => rfl)
 have h2 := congrArg (List.drop 1) h1
 rw [List.drop_take, List.drop_drop] at h2
 exact h2
def withL (s : SuperD) (lb : Bool) : SuperD := { s with role := 0, lost := lb }
def withE (s : SuperD) (lb : Bool) (e : Nat) : SuperD := { s with role := 0, lost := lb, events := e }
theorem agg_flat (cs : List Value) : [Value.agg cs.toArray].flatMap (·.cells.toList) = cs := by simp [Value.cells]
theorem choose_ok {ao : Option Addr} {cap : Nat} {l : List BalD} (hlen : l.length <= 1000000) (hb : Bals W R ao l) :
  Does W Tryz.prog 29 [.slice ao l.length cap] R (β := Option Addr × Nat) (fun _ => True) (fun x => .tuple #[.agg ((chooseM l).2.cells x).toArray, .int .u16 (chooseM l).1])
   (fun x => Own 144 1 (.slice x.1 (chooseM l).2.st.length x.2) (chooseM l).2.st.length (bytes (chooseM l).2.st) :: R) := by
 (refine Does.enter Tryz.func29 Tryz.ntmps29 rfl rfl ?_)
 refine w ?_
 refine zq ?_; refine OpV.allocS sb_69 rfl ?_; intro n2
 refine w ?_
 (apply VO.pure rfl rfl; apply PureAt.build sb_69 rfl; (simp [buildX, setL, Value.cells]; rfl); rfl)
 refine zq ?_; refine OpV.allocS sb_69 rfl ?_; intro n4
 refine w ?_
 refine zq ?_
 refine OpV.stA (vs := zeroV) tab_ok rfl rfl rfl rfl (vCells_one _ _ _ _ _ _ _) zh (by simp) ?_
 refine VO.ent (Reord.ent (L := Row n4 69 zeroV :: Row n2 69 zeroV :: R) (by (repeat first | exact .refl | (apply Reord.cons; focus repeat first | exact .head | apply Del.tail) | exact .nil | apply Reord.drop))) ?_
 refine w ?_
 refine zg ?_ ?_ <;> intro hb
 ·
  have hcm : chooseM l = (1, noneV) := if_pos (.inl (by have := of_decide_eq_true hb; omega))
  (refine w ?_; (refine zq ?_); refine OpV.stA (vs := zeroV) tab_ok rfl rfl rfl rfl (vCells_one _ _ _ _ _ _ _) zh (by simp [zeroV, vCells]) ?_; refine w ?_; refine VE.results2 (.inl rfl) (none, 0) rfl (ResIs.agg (vs := zeroV) tab_ok rfl rfl zm rfl rfl) (.tmp rfl) trivial (by rw [hcm]; rfl) (by rw [hcm]; exact Ent.trans (Ent.re (L := R)) (fun w hw => hw.ownNil _ _)))
 have h4 : 4 <= l.length := by have := of_decide_eq_false hb; omega
 refine w ?_
 refine zk ?_ ?_ <;> intro hc
 ·
  have hcm : chooseM l = (1, noneV) := if_pos (.inr (by have := of_decide_eq_true hc; omega))
  (refine w ?_; (refine zq ?_); refine OpV.stA (vs := zeroV) tab_ok rfl rfl rfl rfl (vCells_one _ _ _ _ _ _ _) zh (by simp [zeroV, vCells]) ?_; refine w ?_; refine VE.results2 (.inl rfl) (none, 0) rfl (ResIs.agg (vs := zeroV) tab_ok rfl rfl zm rfl rfl) (.tmp rfl) trivial (by rw [hcm]; rfl) (by rw [hcm]; exact Ent.trans (Ent.re (L := R)) (fun w hw => hw.ownNil _ _)))
 have h17 : l.length <= 17 := by have := of_decide_eq_false hc; omega
 have hcm0 := show chooseM l = _ from if_neg (by omega)
 refine w ?_
 refine VO.re 5 (.int .i64 ((l.length - 1 : Nat) : Int)) rfl (by congr 1; omega) ?_
 refine w ?_
 (refine zq ?_; refine zy rfl rfl (counting_ok) ?_)
 intro bx _
 refine w ?_
 refine zq ?_
 refine OpV.alloc ze_138 rfl rfl ?_
 intro n7
 refine VO.ent (H' := Row n7 138 [.slice none 0 0] :: Own 67 12 (.slice none 0 0) 0 [] :: Row bx 59 [.slice ao l.length cap] :: Row n4 69 zeroV :: Row n2 69 zeroV :: R) (fun w hw => (hw.ownNil _ _).swap) ?_
 refine w ?_
 refine VC.loop (α := Nat × Option Addr × Nat) (fun y => y.1 <= l.length) (fun y => Row n7 138 [.slice y.2.1 (votesN l y.1).length y.2.2] :: Own 67 12 (.slice y.2.1 (votesN l y.1).length y.2.2) (votesN l y.1).length (supCells (votesN l y.1)) :: Row bx 59 [.slice ao l.length cap] :: Row n4 69 zeroV :: Row n2 69 zeroV :: R)
  (fun y => [(0, .slice ao l.length cap), (2, .pointer (some ⟨n2, 0, none⟩)), (3, .int .u16 0), (4, .pointer (some ⟨n4, 0, none⟩)), (5, .int .i64 ((l.length - 1 : Nat) : Int)), (6, cfV bx), (7, .pointer (some ⟨n7, 0, none⟩)), (8, .int .u64 (topN l y.1)), (29, .int .i64 l.length), (30, .int .i64 y.1)]) (fun y => l.length - y.1) rfl (0, none, 0) (Nat.zero_le _) Ent.refl ⟨rfl, rfl, rfl, rfl, rfl, rfl, rfl, rfl, rfl, rfl, trivial⟩ ?_
 rintro ⟨i, so, sc⟩ hi
 dsimp only at hi ⊢
 have hvl := votes_len l i
 obtain ⟨la, rfl⟩ : ∃ a, ao = some a := by cases ao with | none => have := hb.rds.nil rfl; omega | some a => exact ⟨a, rfl⟩
 refine w ?_
 refine zk ?_ ?_ <;> intro hc
 ·
  have hlt : i < l.length := by have := of_decide_eq_true hc; omega
  have eR : ∀ A B C D E : SProp, Ent W (A :: B :: C :: D :: E :: R) R := fun _ _ _ _ _ => Ent.drop (Ent.drop (Ent.drop (Ent.drop (Ent.drop Ent.refl))))
  refine w ?_
  (refine zq ?_; refine zy rfl rfl (countf_ok i hlt (by omega) zm (hb.ent (eR _ _ _ _ _))) ?_; intro _ _)
  refine w ?_
  have hvs : votesN l (i + 1) = votesN l i ++ (if countsB l i = true then [supAt l i] else []) := rfl
  have htp : topN l (i + 1) = if countsB l i = true then max (topN l i) (evs l i) else topN l i := rfl
  cases hct : countsB l i
  ·
   rw [hct] at hvs htp
   simp only [Bool.false_eq_true, if_false, List.append_nil] at hvs htp
   refine w ?_
   refine VE.round (i + 1, so, sc) hlt (by simp only; omega) ⟨rfl, rfl, rfl, rfl, rfl, rfl, rfl, asV rfl (by rw [htp]), rfl, asV rfl (by congr 1), trivial⟩ ?_
   dsimp only
   rw [hvs]
   exact Ent.re
  ·
   rw [hct] at hvs htp
   simp only [if_true] at hvs htp
   refine w ?_
   (refine VC.drawn [6] 7 [0, 1, 2, 3, 4, 5, 6, 7, 8] _ rfl (by kernel_rfl) (by kernel_rfl) Ent.re ?_)
   refine w ?_
   ((first | apply VO.pure rfl rfl | apply VQ.pure rfl rfl | apply VD.take rfl rfl rfl | (refine VD.end rfl rfl rfl ?_; apply OpV.pure)); exact .ldRA tab_ok rfl rfl (hb.rds.ent (eR _ _ _ _ _)) ((bal_sup l i hlt).trans (by rw [<- supAt_get l i hlt])) rfl; rfl)
   refine zq ?_
   refine OpV.buildSlice (cs := (supAt l i).cells) st_138 rfl rfl (by simp [Value.cells]) (agg_flat _) (by decide) rfl ?_
   intro nb
   refine w ?_
   refine zq ?_
   refine OpV.appendRow st_138 rfl rfl zh zm rfl (super_one _) ?_ ?_ rfl ?_
   · simp only [maxLen]; omega
   · omega
   intro so' sc'
   refine w ?_
   ((first | apply VO.pure rfl rfl | apply VQ.pure rfl rfl | apply VD.take rfl rfl rfl | (refine VD.end rfl rfl rfl ?_; apply OpV.pure)); exact PureAt.ldRc tab_ok rfl rfl ((hb.rds.ent (eR _ _ _ _ _)).ent Ent.re) (bal_get l i 2 hlt (by decide)); rfl)
   refine w ?_
   refine VE.round (i + 1, so', sc') hlt (by simp only; omega) ⟨rfl, rfl, rfl, rfl, rfl, rfl, rfl, asV rfl ?_, rfl, asV rfl (by congr 1), trivial⟩ ?_
   · rw [htp]; simp only [evs, List.getElem?_eq_getElem hlt]; congr 1; omega
   ·
    dsimp only
    rw [hvs, List.length_append, List.length_singleton, show supCells (votesN l i ++ [supAt l i]) = supCells (votesN l i) ++ (supAt l i).cells by simp [supCells]]
    exact Ent.re
 have hge : i = l.length := by have := of_decide_eq_false hc; omega
 subst hge
 have hvf : ∀ s ∈ votesN l l.length, s.fit := fun s hs => by
  obtain ⟨j, h1, h2, rfl⟩ := votes_mem l _ s hs
  rw [supAt_get l j h1]; exact hb.fit _ (List.getElem_mem h1)
 have hvst : ∀ s ∈ votesN l l.length, Rds W R 1 s.so s.states.length (bytes s.states) := fun s hs => by
  obtain ⟨j, h1, h2, rfl⟩ := votes_mem l _ s hs
  rw [supAt_get l j h1]; exact hb.st _ (List.getElem_mem h1)
 have hta := top_att l l.length
 have hgs := guide_states l
 have h150 : votesN l l.length = [] -> chooseM l = (150, noneV) := fun h => (if_neg (by omega)).trans (if_pos h)
 have h151 : votesN l l.length ≠ [] -> (votesN l l.length).any (fun s => !s.akin ((votesN l l.length).headD zeroSup)) = true -> chooseM l = (151, noneV) := fun h h2 => (if_neg (by omega)).trans ((if_neg h).trans (if_pos h2))
 have hgg : votesN l l.length ≠ [] -> ¬ (votesN l l.length).any (fun s => !s.akin ((votesN l l.length).headD zeroSup)) = true -> (guideM l).1 ≠ 0 -> chooseM l = ((guideM l).1, noneV) := fun h h2 h3 => (if_neg (by omega)).trans ((if_neg h).trans ((if_neg h2).trans (if_pos h3)))
 have h152 : votesN l l.length ≠ [] -> ¬ (votesN l l.length).any (fun s => !s.akin ((votesN l l.length).headD zeroSup)) = true -> (guideM l).1 = 0 -> 1 < awayM l (guideM l).2.safe (guideM l).2.states (guideM l).2.states.length -> chooseM l = (152, noneV) := fun h h2 h3 h4 => (if_neg (by omega)).trans ((if_neg h).trans ((if_neg h2).trans ((if_neg (by omega)).trans (if_pos h4))))
 have h000 : votesN l l.length ≠ [] -> ¬ (votesN l l.length).any (fun s => !s.akin ((votesN l l.length).headD zeroSup)) = true -> (guideM l).1 = 0 -> ¬ 1 < awayM l (guideM l).2.safe (guideM l).2.states (guideM l).2.states.length -> chooseM l = (0, fullV l (guideM l).2) := fun h h2 h3 h4 => (if_neg (by omega)).trans ((if_neg h).trans ((if_neg h2).trans ((if_neg (by omega)).trans (if_neg h4))))
 have hgd : guideM l = if countsB l (l.length - 1) = true then (0, supAt l (l.length - 1)) else membersM (bestN (votesN l l.length) (topN l l.length)) := rfl
 generalize votesN l l.length = V at *
 refine VC.know (p := so = none -> V.length = 0) (fun w hw => Holds.ownNone hw (.tail _ (.head _))) ?_
 intro hon
 refine VC.know (p := V.length <= sc) (fun w hw => Holds.ownCap hw (.tail _ (.head _))) ?_
 intro hcap
 refine w ?_
 refine zk ?_ ?_ <;> intro hc
 ·
  have hV0 : V = [] := List.eq_nil_of_length_eq_zero (by have := hc; simp at this; rw [this]; rfl)
  (refine w ?_; (refine zq ?_); refine OpV.stA (vs := zeroV) tab_ok rfl rfl rfl rfl (vCells_one _ _ _ _ _ _ _) zh (by simp [zeroV, vCells]) ?_; refine w ?_; refine VE.results2 (.inl rfl) (none, 0) rfl (ResIs.agg (vs := zeroV) tab_ok rfl rfl zm rfl rfl) (.tmp rfl) trivial (by rw [h150 hV0]; rfl) (by rw [h150 hV0]; exact Ent.trans (Ent.re (L := R)) (fun w hw => hw.ownNil _ _)))
 have hV0 : V ≠ [] := fun h => by rw [h] at hc; simp at hc
 have hpos : 0 < V.length := List.length_pos_iff.2 hV0
 obtain ⟨sa, rfl⟩ : ∃ a, so = some a := by cases so with | none => have := hon rfl; omega | some a => exact ⟨a, rfl⟩
 have hhd : V.headD zeroSup = V[0] := by cases V with | nil => exact absurd rfl hV0 | cons x r => rfl
 rw [hhd] at h151 hgg h152 h000
 refine w ?_
 refine VO.pure rfl rfl (PureAt.makeFunc1 rfl) rfl ?_
 have hrV : ∀ X Y : List SProp, Rds W (X ++ Own 67 12 (.slice (some sa) V.length sc) V.length (supCells V) :: Y) 12 (some sa) V.length (supCells V) := fun X Y => Rds.own (sup_one V) (List.mem_append_right _ (.head _)) (sup_len V) (by simp)
 (refine zq ?_; refine zy rfl rfl (containsfunc_ok (fun s => !s.akin V[0]) (by omega) (hrV [_] _) (fun _ _ => by simp) (fun s hs => choose1_ok s hpos (hvf s hs) (hvf _ (List.getElem_mem hpos)) (hrV [_] _) (.head _))) ?_)
 intro _ _
 refine w ?_
 refine zk ?_ ?_ <;> intro hc
 · (refine w ?_; (refine zq ?_); refine OpV.stA (vs := zeroV) tab_ok rfl rfl rfl rfl (vCells_one _ _ _ _ _ _ _) zh (by simp [zeroV, vCells]) ?_; refine w ?_; refine VE.results2 (.inl rfl) (none, 0) rfl (ResIs.agg (vs := zeroV) tab_ok rfl rfl zm rfl rfl) (.tmp rfl) trivial (by rw [h151 hV0 hc]; rfl) (by rw [h151 hV0 hc]; exact Ent.trans (Ent.re (L := R)) (fun w hw => hw.ownNil _ _)))
 have hany : ¬ V.any (fun s => !s.akin V[0]) = true := by rw [hc]; simp
 have hlast : l.length - 1 < l.length := by omega
 refine w ?_
 (refine zq ?_; refine zy rfl rfl (countf_ok (l.length - 1) hlast (by omega) zm (hb.ent (Ent.drop (Ent.drop (Ent.drop (Ent.drop (Ent.drop Ent.refl))))))) ?_; intro _ _)
 generalize hjr : countsB l (l.length - 1) = jr at *
 (apply VO.pure rfl rfl; apply PureAt.build sb_69 rfl; (simp [buildX, setL, Value.cells]; rfl); rfl)
 refine zq ?_; refine OpV.allocS sb_69 rfl ?_; intro n10
 refine w ?_
 refine zq ?_
 refine OpV.stA (vs := vCells zeroSup none 0 0 0 false jr) tab_ok rfl rfl rfl rfl (vCells_one _ _ _ _ _ _ _) zh (by simp) ?_
 refine VO.ent (Reord.ent (L := Row n10 69 (vCells zeroSup none 0 0 0 false jr) :: Row n7 138 [.slice (some sa) V.length sc] :: Own 67 12 (.slice (some sa) V.length sc) V.length (supCells V) :: Row bx 59 [.slice (some la) l.length cap] :: Row n4 69 zeroV :: Row n2 69 zeroV :: R) (by (repeat first | exact .refl | (apply Reord.cons; focus repeat first | exact .head | apply Del.tail) | exact .nil | apply Reord.drop))) ?_
 refine VO.nil rfl ?_
 refine VE.next ?_
 refine VC.seq rfl ?_
 refine VC.join (α := Unit) (fun _ => (guideM l).1 = 0) (fun _ => Row n10 69 (vCells (guideM l).2 (guideM l).2.so (guideM l).2.states.length (guideM l).2.sc (guideM l).2.cursor false jr) :: Row bx 59 [.slice (some la) l.length cap] :: Row n4 69 zeroV :: Row n2 69 zeroV :: R)
  (fun _ => [(0, .slice (some la) l.length cap), (2, .pointer (some ⟨n2, 0, none⟩)), (3, .int .u16 0), (4, .pointer (some ⟨n4, 0, none⟩)), (6, cfV bx), (8, .int .u64 (topN l l.length)), (10, .pointer (some ⟨n10, 0, none⟩))]) ?_ ?_
 ·
  intro Q2 jn
  unfold vCells
  refine w ?_
  cases jr
  ·
   simp only [Bool.false_eq_true, if_false] at hgd
   refine w ?_
   (refine zq ?_; refine zd rfl rfl (members_ok (R := Row n10 69 (vCells zeroSup none 0 0 0 false false) :: Row n7 138 [.slice (some sa) V.length sc] :: Row bx 59 [.slice (some la) l.length cap] :: Row n4 69 zeroV :: Row n2 69 zeroV :: R) (by omega) hvf (fun s hs => (hvst s hs).ent (Ent.drop (Ent.drop (Ent.drop (Ent.drop (Ent.drop Ent.refl)))))) (hta hV0) hon hcap) ?_)
   intro _ _
   rw [<- hgd]
   refine w ?_
   refine zq ?_; refine OpV.allocS sb_67 rfl ?_; intro n11
   refine w ?_
   refine zq ?_
   refine OpV.stA (vs := (guideM l).2.cells) tab_ok rfl rfl rfl rfl (super_one _) zh (by simp) ?_
   refine w ?_
   refine zk ?_ ?_ <;> intro hc
   ·
    have hg0 : (guideM l).1 ≠ 0 := by simpa using hc
    (refine w ?_; (refine zq ?_); refine OpV.stA (vs := zeroV) tab_ok rfl rfl rfl rfl (vCells_one _ _ _ _ _ _ _) zh (by simp [zeroV, vCells]) ?_; refine w ?_; refine jn.ret ?_; refine w ?_; refine VE.results2 (.inl rfl) (none, 0) rfl (ResIs.agg (vs := zeroV) tab_ok rfl rfl zm rfl rfl) (.tmp rfl) trivial (by rw [hgg hV0 hany hg0]; rfl) (by rw [hgg hV0 hany hg0]; exact Ent.trans (Ent.re (L := R)) (fun w hw => hw.ownNil _ _)))
   ·
    have hg0 : (guideM l).1 = 0 := by simpa using hc
    refine w ?_
    refine zq ?_
    refine OpV.stA (vs := (guideM l).2.cells) tab_ok rfl rfl rfl rfl (super_one _) zh (by simp [vCells]) ?_
    refine w ?_
    exact jn.to () hg0 ⟨rfl, rfl, rfl, rfl, rfl, rfl, rfl, trivial⟩ Ent.re
  ·
   simp only [if_true] at hgd
   refine w ?_
   ((first | apply VO.pure rfl rfl | apply VQ.pure rfl rfl | apply VD.take rfl rfl rfl | (refine VD.end rfl rfl rfl ?_; apply OpV.pure)); exact .ldRA tab_ok rfl rfl (hb.rds.ent (Ent.drop (Ent.drop (Ent.drop (Ent.drop (Ent.drop (Ent.drop Ent.refl))))))) ((bal_sup l (l.length - 1) hlast).trans (show _ = (guideM l).2.cells by rw [hgd, supAt_get l _ hlast])) rfl; rfl)
   refine w ?_
   refine zq ?_
   refine OpV.stA (vs := (guideM l).2.cells) tab_ok rfl rfl rfl rfl (super_one _) zh (by simp [vCells]) ?_
   refine w ?_
   exact jn.to () (by rw [hgd]) ⟨rfl, rfl, rfl, rfl, rfl, rfl, rfl, trivial⟩ Ent.re
 rintro ⟨⟩ hg0
 obtain ⟨gi, hgi, hgs2⟩ := hgs hg0 hV0
 have hgl := counts_lt l gi hgi
 have hstl := counts_states l gi hgi
 have hsf : (guideM l).2.fit := by rw [hgs2, supAt_get l gi hgl]; exact hb.fit _ (List.getElem_mem hgl)
 have hsr : Rds W R 1 (guideM l).2.so (guideM l).2.states.length (bytes (guideM l).2.states) := by rw [hgs2, supAt_get l gi hgl]; exact hb.st _ (List.getElem_mem hgl)
 rw [<- hgs2] at hstl
 have hfull := show fullV l (guideM l).2 = _ from rfl
 have h152' := h152 hV0 hany hg0
 have h000' := h000 hV0 hany hg0
 clear h150 h151 hgg h152 h000 hgd hgs hgs2 hta
 generalize (guideM l).2 = s at *
 unfold vCells
 refine w ?_
 have hslen := hsf.len
 (refine zq ?_; refine zy rfl rfl (clonest_ok (hsr.ent (Ent.drop (Ent.drop (Ent.drop (Ent.drop Ent.refl))))) (by omega)) ?_)
 rintro ⟨co, cc⟩ _
 dsimp only
 refine VO.know (p := co = none -> s.states.length = 0) (fun w hw => Holds.ownNone hw (.head _)) ?_
 intro hcn
 obtain ⟨ca, rfl⟩ : ∃ a, co = some a := by cases co with | none => have := hcn rfl; omega | some a => exact ⟨a, rfl⟩
 refine w ?_
 obtain ⟨lb, hlb⟩ : ∃ lb, lb = (s.lost && !jr) := ⟨_, rfl⟩
 refine VO.joinR (α := Unit) (fun _ => True) (fun _ => Row n10 69 (vCells (withL s lb) (some ca) s.states.length cc s.cursor false jr) :: Own 144 1 (.slice (some ca) s.states.length cc) s.states.length (bytes s.states) :: Row bx 59 [.slice (some la) l.length cap] :: Row n4 69 zeroV :: Row n2 69 zeroV :: R)
  (fun _ => [(0, .slice (some la) l.length cap), (2, .pointer (some ⟨n2, 0, none⟩)), (3, .int .u16 0), (4, .pointer (some ⟨n4, 0, none⟩)), (6, cfV bx), (8, .int .u64 (topN l l.length)), (10, .pointer (some ⟨n10, 0, none⟩))]) ?_ ?_
 ·
  intro Q2 jn
  cases hlo : s.lost
  ·
   rw [hlo] at hlb; subst hlb
   refine w ?_
   exact jn.to () trivial ⟨rfl, rfl, rfl, rfl, rfl, rfl, rfl, trivial⟩ Ent.re
  ·
   rw [hlo] at hlb; subst hlb
   refine w ?_
   exact jn.to () trivial ⟨rfl, rfl, rfl, rfl, rfl, rfl, rfl, trivial⟩ Ent.re
 rintro ⟨⟩ -
 have hfull : fullV l s = ⟨(withE s lb (topN l l.length)), newSt l s.safe s.states s.states.length, if wipeM l s.safe s.states s.states.length = true then 0 else s.cursor, turnM l s.safe s.states s.states.length, jr⟩ := by rw [hlb]; simp only [fullV, hjr, withE]
 unfold vCells
 refine w ?_
 (refine zq ?_; refine zy rfl rfl (fitted_ok (R := Row bx 59 [.slice (some la) l.length cap] :: Row n4 69 zeroV :: Row n2 69 zeroV :: R) (withE s lb (topN l l.length)) jr s.states (by omega) hstl (.head _) (hb.ent (Ent.drop (Ent.drop (Ent.drop Ent.refl))))) ?_; intro _ _)
 unfold fitG
 refine w ?_
 refine zk ?_ ?_ <;> intro hc
 ·
  have hcm := h152' (by have := of_decide_eq_true hc; simp only [withE] at this; omega)
  (refine w ?_; (refine zq ?_); refine OpV.stA (vs := zeroV) tab_ok rfl rfl rfl rfl (vCells_one _ _ _ _ _ _ _) zh (by simp [zeroV, vCells]) ?_; refine w ?_; refine VE.results2 (.inl rfl) (none, 0) rfl (ResIs.agg (vs := zeroV) tab_ok rfl rfl zm rfl rfl) (.tmp rfl) trivial (by rw [hcm]; rfl) (by rw [hcm]; exact Ent.trans (Ent.re (L := R)) (fun w hw => hw.ownNil _ _)))
 have hcm := h000' (by have := of_decide_eq_false hc; simp only [withE] at this; omega)
 rw [hfull] at hcm
 refine w ?_
 refine zq ?_
 refine OpV.stA (vs := vCells (withE s lb (topN l l.length)) (some ca) s.states.length cc (if wipeM l s.safe s.states s.states.length = true then 0 else s.cursor) (turnM l s.safe s.states s.states.length) jr) tab_ok rfl rfl rfl rfl (vCells_one _ _ _ _ _ _ _) zh (by simp [zeroV, vCells]) ?_
 refine w ?_
 refine VE.results2 (.inl rfl) (some ca, cc) rfl (ResIs.agg (vs := vCells (withE s lb (topN l l.length)) (some ca) s.states.length cc (if wipeM l s.safe s.states s.states.length = true then 0 else s.cursor) (turnM l s.safe s.states s.states.length) jr) tab_ok rfl rfl zm rfl rfl) (.tmp rfl) trivial ?_ ?_
 · rw [hcm]; simp only [VerD.cells, newSt_length]
 · rw [hcm]; simp only [newSt_length]; exact Ent.re
theorem votes_has (l : List BalD) : ∀ i j, j < i -> countsB l j = true -> supAt l j ∈ votesN l i
  | 0, j, h, _ => absurd h (by omega)
  | i + 1, j, h, hc => by
    rw [votesN]
    rcases Nat.lt_or_ge j i with q | q
    · exact List.mem_append_left _ (votes_has l i j q hc)
    · obtain rfl : j = i := by omega
      rw [if_pos hc]; exact List.mem_append_right _ (.head _)
def awayP (l : List BalD) (safe : Nat) (st : List UInt8) (m : Nat) : Prop := (stAt st m != 1 || !fitM l safe st m) = true
theorem away_one (l : List BalD) (safe : Nat) (st : List UInt8) : ∀ i m, m < i -> awayP l safe st m -> 1 <= awayM l safe st i
  | 0, m, h, _ => absurd h (by omega)
  | i + 1, m, h, hc => by
    rw [awayM]
    rcases Nat.lt_or_ge m i with q | q
    · have := away_one l safe st i m q hc; omega
    · obtain rfl : m = i := by omega
      rw [if_pos (show (stAt st m != 1 || !fitM l safe st m) = true from hc)]; omega
theorem away_two (l : List BalD) (safe : Nat) (st : List UInt8) : ∀ i m m', m < m' -> m' < i -> awayP l safe st m -> awayP l safe st m' -> 2 <= awayM l safe st i
  | 0, m, m', _, h, _, _ => absurd h (by omega)
  | i + 1, m, m', h0, h, hc, hc' => by
    rw [awayM]
    rcases Nat.lt_or_ge m' i with q | q
    · have := away_two l safe st i m m' h0 q hc hc'; omega
    · obtain rfl : m' = i := by omega
      have := away_one l safe st m' m h0 hc
      rw [if_pos (show (stAt st m' != 1 || !fitM l safe st m') = true from hc')]; omega
structure Chosen (l : List BalD) (v : VerD) : Prop where
  len : 4 <= l.length /\ l.length <= 17
  mem : v.s.members = (l.length : Int) - 1
  chunk : 1 <= v.s.chunk /\ v.s.chunk <= 16
  stripes : 1 <= v.s.stripes /\ v.s.stripes <= 256
  ring : 5 <= v.s.ring /\ v.s.ring <= 2048
  sts : v.st.length + 1 = l.length
  vals : ∀ x ∈ v.st, x = 1 \/ x = 2 \/ x = 3
  cur : 0 <= v.cur /\ v.cur <= 255
  up : ∀ m (h : m < v.st.length), v.st[m] ≠ 2 -> ∃ b, l[m]? = some b /\ b.has = true /\ b.s.members = v.s.members /\ b.s.chunk = v.s.chunk /\ b.s.stripes = v.s.stripes
  one : ∀ m m' (h : m < v.st.length) (h' : m' < v.st.length), v.st[m] ≠ 1 -> v.st[m'] ≠ 1 -> m = m'
  jr : v.jr = true -> ∃ b, l[l.length - 1]? = some b /\ b.has = true /\ b.s.ring = v.s.ring
theorem chosen {l : List BalD} {v : VerD} (h : chooseM l = (0, v)) : Chosen l v := by
 unfold chooseM at h
 split at h
 · cases h
 rename_i hlen
 split at h
 · cases h
 rename_i hne
 split at h
 · cases h
 rename_i hak
 split at h
 · rename_i hg; exact absurd (congrArg Prod.fst h) hg
 rename_i hg
 split at h
 · cases h
 rename_i haw
 have hv : v = fullV l (guideM l).2 := (congrArg Prod.snd h).symm
 obtain ⟨i, hi, hs⟩ := guide_states l (Decidable.of_not_not hg) hne
 have hil := counts_lt l i hi
 obtain ⟨-, hok, hmem, -⟩ := (counts_iff l i hil).1 hi
 rw [<- supAt_get l i hil, <- hs] at hok hmem
 have hin := votes_has l l.length i hil hi
 rw [<- hs] at hin
 have hall : ∀ s ∈ votesN l l.length, s.akin ((votesN l l.length).headD zeroSup) = true := fun s hs => by
  cases e : s.akin ((votesN l l.length).headD zeroSup) with
  | true => rfl
  | false => exact absurd (List.any_eq_true.2 ⟨s, hs, by rw [e]; rfl⟩) hak
 have hk : ∀ j, countsB l j = true -> (supAt l j).members = (guideM l).2.members /\ (supAt l j).chunk = (guideM l).2.chunk /\ (supAt l j).stripes = (guideM l).2.stripes /\ (supAt l j).ring = (guideM l).2.ring := fun j hj => by
  have h1 := of_decide_eq_true (hall _ (votes_has l l.length j (counts_lt l j hj) hj))
  have h2 := of_decide_eq_true (hall _ hin)
  exact ⟨h1.2.1.1.trans h2.2.1.1.symm, h1.2.1.2.1.trans h2.2.1.2.1.symm, h1.2.1.2.2.trans h2.2.1.2.2.symm, h1.2.2.1.trans h2.2.2.1.symm⟩
 generalize (guideM l).2 = s at *
 subst hv
 obtain ⟨⟨hsz, -, -, hrg, hst⟩, hgs, hc1, hc2⟩ := hok
 have hsz := of_decide_eq_true hsz
 have hle : s.states.length + 1 = l.length := by omega
 have hnl : (newSt l s.safe s.states s.states.length).length = s.states.length := newSt_length _ _ _ _
 have hat : ∀ m (h : m < s.states.length), (newSt l s.safe s.states s.states.length)[m]'(by rw [hnl]; exact h) = if goneM l s.safe s.states m = true then 2 else s.states[m] := fun m h => by
  simp only [newSt, List.getElem_mapIdx, h, true_and]
 have hsa : ∀ m (h : m < s.states.length), stAt s.states m = s.states[m] := fun m h => by simp [stAt, h]
 refine ⟨by omega, hmem, hsz.2.1, hsz.2.2, hrg, by show (newSt l s.safe s.states s.states.length).length + 1 = _; omega, ?_, ?_, ?_, ?_, ?_⟩
 ·
  intro x hx
  obtain ⟨m, hm, rfl⟩ := List.getElem_of_mem hx
  have hm : m < s.states.length := by rw [<- hnl]; exact hm
  have e := hat m hm
  have q := hgs m hm hm
  have e' : (fullV l s).st[m]'(by show m < (newSt l s.safe s.states s.states.length).length; rw [hnl]; exact hm) = if goneM l s.safe s.states m = true then 2 else s.states[m] := e
  rw [e']
  split
  · exact .inr (.inl rfl)
  ·
   generalize s.states[m] = x at *
   have : x.toNat = 1 \/ x.toNat = 2 \/ x.toNat = 3 := by omega
   rcases this with q | q | q
   · exact .inl (UInt8.toNat_inj.1 q)
   · exact .inr (.inl (UInt8.toNat_inj.1 q))
   · exact .inr (.inr (UInt8.toNat_inj.1 q))
 ·
  show 0 <= (if wipeM l s.safe s.states s.states.length = true then 0 else s.cursor) /\ (if wipeM l s.safe s.states s.states.length = true then 0 else s.cursor) <= 255
  unfold SuperD.last at hc2
  have : s.cursor <= 255 := by split at hc2 <;> omega
  split <;> omega
 ·
  intro m hm h2
  have hm : m < s.states.length := by rw [<- hnl]; exact hm
  have h2 : (newSt l s.safe s.states s.states.length)[m]'(by rw [hnl]; exact hm) ≠ 2 := h2
  rw [hat m hm] at h2
  split at h2
  · exact absurd rfl h2
  rename_i hgo
  have hc : countsB l m = true := by
   have : goneM l s.safe s.states m = false := by simpa using hgo
   unfold goneM fitM at this
   rw [hsa m hm, bne_iff_ne.2 h2] at this
   simp only [Bool.true_and, Bool.not_eq_false', Bool.and_eq_true] at this
   exact this.1
  have hml := counts_lt l m hc
  obtain ⟨hh, -, -, -⟩ := (counts_iff l m hml).1 hc
  obtain ⟨k1, k2, k3, -⟩ := hk m hc
  rw [supAt_get l m hml] at k1 k2 k3
  exact ⟨l[m], List.getElem?_eq_getElem hml, hh, k1, k2, k3⟩
 ·
  intro m m' hm hm' h1 h1'
  have hm : m < s.states.length := by rw [<- hnl]; exact hm
  have hm' : m' < s.states.length := by rw [<- hnl]; exact hm'
  have aw : ∀ j (hj : j < s.states.length), (newSt l s.safe s.states s.states.length)[j]'(by rw [hnl]; exact hj) ≠ 1 -> awayP l s.safe s.states j := fun j hj h1 => by
   rw [hat j hj] at h1
   unfold awayP
   rw [hsa j hj]
   split at h1
   ·
    rename_i hgo
    unfold goneM at hgo
    simp only [Bool.and_eq_true] at hgo
    rw [hgo.2]; simp
   · simp [h1]
  have a1 := aw m hm h1
  have a2 := aw m' hm' h1'
  rcases Nat.lt_trichotomy m m' with q | q | q
  · have := away_two l s.safe s.states _ m m' q hm' a1 a2; omega
  · exact q
  · have := away_two l s.safe s.states _ m' m q hm a2 a1; omega
 ·
  intro hj
  have hj : countsB l (l.length - 1) = true := hj
  have hml := counts_lt l _ hj
  obtain ⟨hh, -, -, -⟩ := (counts_iff l _ hml).1 hj
  obtain ⟨-, -, -, k4⟩ := hk _ hj
  rw [supAt_get l _ hml] at k4
  exact ⟨_, List.getElem?_eq_getElem hml, hh, k4⟩
theorem top_le (l : List BalD) : ∀ i j, j < i -> countsB l j = true -> evs l j <= topN l i
  | 0, j, h, _ => absurd h (by omega)
  | i + 1, j, h, hc => by
    rw [topN]
    rcases Nat.lt_or_ge j i with q | q
    · have := top_le l i j q hc
      split <;> omega
    · obtain rfl : j = i := by omega
      rw [if_pos hc]; omega
theorem wipe_has (l : List BalD) (safe : Nat) (st : List UInt8) : ∀ i m, m < i -> goneM l safe st m = true -> stAt st m = 3 -> wipeM l safe st i = true
  | 0, m, h, _, _ => absurd h (by omega)
  | i + 1, m, h, hg, h3 => by
    rw [wipeM]
    rcases Nat.lt_or_ge m i with q | q
    · rw [wipe_has l safe st i m q hg h3]; rfl
    · obtain rfl : m = i := by omega
      rw [hg, h3]; simp
structure Chosen2 (l : List BalD) (v : VerD) : Prop where
  src : ∃ b ∈ l, v.s.id = b.s.id
  safe : 1 <= v.s.safe /\ v.s.safe <= v.s.events
  good : goodSt v.st v.st.length
  last : v.cur <= (if (3 : UInt8) ∈ v.st then v.s.stripes - 1 else 0)
theorem chosen2 {l : List BalD} {v : VerD} (h : chooseM l = (0, v)) : Chosen2 l v := by
 have hch := chosen h
 unfold chooseM at h
 split at h
 · cases h
 split at h
 · cases h
 rename_i hne
 split at h
 · cases h
 split at h
 · rename_i hg; exact absurd (congrArg Prod.fst h) hg
 rename_i hg
 split at h
 · cases h
 have hv : v = fullV l (guideM l).2 := (congrArg Prod.snd h).symm
 obtain ⟨i, hi, hs⟩ := guide_states l (Decidable.of_not_not hg) hne
 have hil := counts_lt l i hi
 obtain ⟨-, hok, hmem, -⟩ := (counts_iff l i hil).1 hi
 rw [<- supAt_get l i hil, <- hs] at hok hmem
 have htop := top_le l l.length i hil hi
 have hev : evs l i = (guideM l).2.events := by
  unfold evs; rw [List.getElem?_eq_getElem hil]; dsimp only
  rw [hs, supAt_get l i hil]
 have hsrc : ∃ b ∈ l, (guideM l).2.id = b.s.id := ⟨l[i], List.getElem_mem hil, by rw [hs, supAt_get l i hil]⟩
 generalize (guideM l).2 = s at *
 subst hv
 obtain ⟨⟨hsz, hcn, -, hrg, hst⟩, hgs, hc1, hc2⟩ := hok
 have hcn := of_decide_eq_true hcn
 have hnl : (newSt l s.safe s.states s.states.length).length = s.states.length := newSt_length _ _ _ _
 have hat : ∀ m (h : m < s.states.length), (newSt l s.safe s.states s.states.length)[m]'(by rw [hnl]; exact h) = if goneM l s.safe s.states m = true then 2 else s.states[m] := fun m h => by
  simp only [newSt, List.getElem_mapIdx, h, true_and]
 have hsa : ∀ m (h : m < s.states.length), stAt s.states m = s.states[m] := fun m h => by simp [stAt, h]
 refine ⟨hsrc, ⟨by show 1 <= s.safe; omega, by show s.safe <= topN l l.length; omega⟩, ?_, ?_⟩
 ·
  intro j hj _
  have hx := hch.vals _ (List.getElem_mem hj)
  refine ⟨?_, ?_, fun h3 hin => ?_⟩
  · rcases hx with e | e | e <;> rw [e] <;> decide
  · rcases hx with e | e | e <;> rw [e] <;> decide
  ·
   obtain ⟨m, hm, e⟩ := List.getElem_of_mem hin
   have hm2 : m < j := by rw [List.length_take] at hm; omega
   rw [List.getElem_take] at e
   have := hch.one m j (by omega) hj (by rw [e]; decide) (by rw [h3]; decide)
   omega
 ·
  show (if wipeM l s.safe s.states s.states.length = true then 0 else s.cursor) <= (if (3 : UInt8) ∈ newSt l s.safe s.states s.states.length then s.stripes - 1 else 0)
  unfold SuperD.last at hc2
  rw [List.take_of_length_le (Nat.le_refl _)] at hc2
  have hsz := of_decide_eq_true hsz
  split
  · split <;> omega
  ·
   rename_i hw
   split
   · split at hc2 <;> omega
   ·
    rename_i hno
    by_cases h3 : (3 : UInt8) ∈ s.states
    ·
     obtain ⟨m, hm, e⟩ := List.getElem_of_mem h3
     by_cases hgo : goneM l s.safe s.states m = true
     · exact absurd (wipe_has l s.safe s.states _ m hm hgo (by rw [hsa m hm, e])) hw
     · exact absurd (by rw [<- e, <- (hat m hm).trans (if_neg hgo)]; exact List.getElem_mem _) hno
    · rw [if_neg h3] at hc2; exact hc2
structure ListI where
  ao : Option Addr
  cap : Nat
  xs : List Value
def ListI.hdr (e : ListI) : Value := .slice e.ao e.xs.length e.cap
def ListI.res (e : ListI) : SProp := Own 3 1 (.slice e.ao e.xs.length e.cap) e.xs.length e.xs
def mkI (z : Int) : Value := .int .i64 z
def marksI (a m : Nat) : List Value := (List.range m).map fun (k : Nat) => mkI ((a : Int) * 1000 + (k : Int))
def marksITwo (a m : Nat) : List Value := (List.range m).map fun (k : Nat) => mkI ((-1 - (a : Int)) * 1000 + (k : Int))
@[simp] theorem marksI_length (a m : Nat) : (marksI a m).length = m := by simp [marksI]
@[simp] theorem marksITwo_length (a m : Nat) : (marksITwo a m).length = m := by simp [marksITwo]
def lentVB (l : List Bool) : List Value := bools l ++ [.bool true, .bool false]
theorem lentVB_one (l : List Bool) : ∀ u ∈ lentVB l, u.oneCell' = true := by
 intro u hu
 rcases List.mem_append.1 hu with h | h
 · exact bools_one _ u h
 · simp only [List.mem_cons, List.not_mem_nil, or_false] at h; rcases h with h | h <;> subst h <;> rfl
@[simp] theorem lentVB_length (l : List Bool) : (lentVB l).length = l.length + 2 := by simp [lentVB]
abbrev LentB (a : Addr) (cap : Nat) (l : List Bool) : SProp := Own 4 1 (.slice (some a) (l.length + 2) cap) (l.length + 2) (lentVB l)
theorem LentB.rds {a : Addr} {cap : Nat} {l : List Bool} : Rds W (LentB a cap l :: R) 1 (some a) l.length (bools l) := by
 have h := Rds.take (l := l.length) (Rds.own (W := W) (H := LentB a cap l :: R) (lentVB_one l) (.head _) (by rw [lentVB_length, Nat.mul_one]) (fun h => by cases h)) (by omega)
 rw [Nat.mul_one, lentVB, List.take_left' (by simp)] at h
 exact h
structure ActD where
  kind : UInt8
  at_ : Int
  dao : Option Addr
  dcap : Nat
  data : List UInt8
  kao : Option Addr
  kcap : Nat
  keep : List Bool
abbrev ActD.cells (o : ActD) : List Value := [.int .u8 (o.kind.toNat : Int), .int .i64 o.at_, .slice o.dao o.data.length o.dcap, .slice o.kao o.keep.length o.kcap]
structure ActD.wf (W : World) (o : ActD) : Prop where
  data : RdsA W 1 o.dao o.data.length (bytes o.data)
  keep : RdsA W 1 o.kao o.keep.length (bools o.keep)
  dl : o.data.length <= 140737488355328
  kl : o.keep.length <= 140737488355328
theorem flat_get {α β : Type} {g : α -> List β} {w : Nat} (l : List α) (j i : Nat) (h : j < l.length) (hw : ∀ a ∈ l, (g a).length = w) (hi : i < w) : (l.flatMap g)[j * w + i]? = (g l[j])[i]? := by
 rw [<- flat_part l j h hw, List.getElem?_take, if_pos hi, List.getElem?_drop]
def Inv (c : Nat) (k : DiskD) (E : List ListE) (F : List ListI) : Prop := k.cache.length <= c /\ E.length <= c /\ F.length <= c /\ (∀ e ∈ E, e.xs.length <= 1000000000) /\ ∀ e ∈ F, e.xs.length <= 1000000000
theorem Inv.up {c : Nat} {k : DiskD} {E : List ListE} {F : List ListI} (h : Inv c k E F) : Inv (c + 1) k E F := by
 obtain ⟨h1, h2, h3, h4, h5⟩ := h; exact ⟨by omega, by omega, by omega, h4, h5⟩
theorem Inv.disk {c : Nat} {k k' : DiskD} {E : List ListE} {F : List ListI} (h : Inv c k E F) (hk : k'.cache.length <= c + 1) : Inv (c + 1) k' E F := by
 obtain ⟨h1, h2, h3, h4, h5⟩ := h; exact ⟨hk, by omega, by omega, h4, h5⟩
theorem Inv.bytes {c : Nat} {k : DiskD} {E : List ListE} {F : List ListI} {e : ListE} (h : Inv c k E F) (he : e.xs.length <= 1000000000) : Inv (c + 1) k (E ++ [e]) F := by
 obtain ⟨h1, h2, h3, h4, h5⟩ := h
 refine ⟨by omega, by rw [List.length_append, List.length_singleton]; omega, by omega, fun x hx => ?_, h5⟩
 rcases List.mem_append.1 hx with q | q
 · exact h4 x q
 · rw [List.mem_singleton] at q; subst q; exact he
theorem Inv.ints {c : Nat} {k : DiskD} {E : List ListE} {F : List ListI} {e : ListI} (h : Inv c k E F) (he : e.xs.length <= 1000000000) : Inv (c + 1) k E (F ++ [e]) := by
 obtain ⟨h1, h2, h3, h4, h5⟩ := h
 refine ⟨by omega, by omega, by rw [List.length_append, List.length_singleton]; omega, h4, fun x hx => ?_⟩
 rcases List.mem_append.1 hx with q | q
 · exact h5 x q
 · rw [List.mem_singleton] at q; subst q; exact he
theorem DiskD.img_len {k : DiskD} (hk : k.ok) : k.img.length <= 1048576 := by
 unfold DiskD.img; split
 · simp
 · have := Go.Proofs.YtjebagmjcdaegaaGreat.img_len hk; have := hk.size; omega
structure RDevP where
  d : Nat
  v : DevD
structure RSlotP where
  in_ : Option RDevP
  aside : Option RDevP
  coming : Option RDevP
def RSlotP.D (s : RSlotP) : SlotD := ⟨s.in_.map RDevP.v, s.aside.map RDevP.v, s.coming.map RDevP.v⟩
theorem dev_slots {D E : BayD} (h : E.slots = D.slots) (k : Int) : E.dev k = D.dev k := by unfold BayD.dev; rw [h]
theorem setIn_dev {D : BayD} {k : Int} {u v : DevD} (h : D.dev k = some u) : (D.setIn k.toNat v).dev k = some v := by
 unfold BayD.dev at h ⊢
 split at h
 ·
  rename_i h0
  rw [if_pos h0]
  obtain ⟨s, h1, h2⟩ := Option.bind_eq_some_iff.1 h
  obtain ⟨hi, e⟩ := List.getElem?_eq_some_iff.1 h1
  unfold BayD.setIn
  dsimp only
  rw [List.getElem?_set_self hi]; rfl
 · cases h
theorem refuse_dev {D : BayD} {k : Int} (h : D.refuse k = 0) : inRange D.slots.length k = true /\ D.pow.dark = false /\ ∃ v, D.dev k = some v := by
 unfold BayD.refuse at h
 split at h
 · cases h
 ·
  rename_i h1
  split at h
  · cases h
  ·
   rename_i h2
   have h1 : inRange D.slots.length k = true := by simpa using h1
   refine ⟨h1, by simpa using h2, ?_⟩
   unfold thereE at h
   rw [if_pos h1] at h
   cases hd : D.dev k with
   | none => rw [hd] at h; cases h
   | some v => exact ⟨v, rfl⟩
end Go.Proofs.YtjebagmjcdaegaaGreat
/-! Text Oi. -/
namespace Go.Proofs.YtjebagmjcdaegaaGreat
open Go.RowKit Go.Sl
structure CntIn (n : CntD) (c : Nat) : Prop where
  r : 0 <= n.r /\ n.r <= c
  w : 0 <= n.w /\ n.w <= c
  f : 0 <= n.f /\ n.f <= c
structure Calm (D : BayD) (m c : Nat) : Prop where
  len : D.slots.length = m
  dark : D.dark = false
  trip : D.trip = -1
  worn : ∀ s ∈ D.slots, ∀ v, s.in_ = some v -> v.worn = false
  cap : D.capd c
  n : CntIn D.n c
theorem CntIn.mono {n : CntD} {c c' : Nat} (h : CntIn n c) (hc : c <= c') : CntIn n c' := ⟨⟨h.r.1, by have := h.r.2; omega⟩, ⟨h.w.1, by have := h.w.2; omega⟩, ⟨h.f.1, by have := h.f.2; omega⟩⟩
theorem CntIn.inc {n : CntD} {c : Nat} (h : CntIn n c) (hc : c < 1000000000) (j : Nat) : CntIn (n.inc j) (c + 1) := by
 have h1 := h.r; have h2 := h.w; have h3 := h.f
 have e : ∀ x : Int, 0 <= x /\ x <= c -> IntKind.i64.wrap (x + 1) = x + 1 := fun x hx => IntWalk.i64_in _ ⟨by omega, by omega⟩
 unfold CntD.inc
 split
 · exact ⟨by dsimp only; rw [e _ h1]; omega, by dsimp only; omega, by dsimp only; omega⟩
 · exact ⟨by dsimp only; omega, by dsimp only; rw [e _ h2]; omega, by dsimp only; omega⟩
 · exact ⟨by dsimp only; omega, by dsimp only; omega, by dsimp only; rw [e _ h3]; omega⟩
theorem Calm.pow {D : BayD} {m c : Nat} (h : Calm D m c) : D.pow = D := by unfold BayD.pow; rw [if_neg (by rw [h.trip]; decide)]
theorem Calm.ahead {D : BayD} {m c : Nat} (h : Calm D m c) (hc : c < 1000000000) (k : Int) (j : Nat) : Calm (D.ahead k j) m (c + 1) := by
 unfold BayD.ahead
 split
 · exact ⟨h.len, h.dark, h.trip, h.worn, h.cap.mono (Nat.le_succ _), h.n.mono (Nat.le_succ _)⟩
 ·
  rw [h.pow, if_neg (by rw [h.dark]; decide)]
  refine ⟨h.len, h.dark, ?_, h.worn, h.cap.mono (Nat.le_succ _), h.n.inc hc j⟩
  show (if 0 < D.trip then _ else D.trip) = -1
  rw [h.trip]; rfl
theorem Calm.dev {D : BayD} {m c : Nat} (h : Calm D m c) {k : Int} {v : DevD} (hv : D.dev k = some v) : v.worn = false /\ v.k.cache.length <= c /\ D.dv k = v := by
 obtain ⟨s, hs, hi⟩ := dev_mem hv
 have hw := h.worn s hs v hi
 refine ⟨hw, h.cap s hs v (.inl hi), ?_⟩
 unfold BayD.dv
 rw [hv]
 show v.use = v
 unfold DevD.use; rw [if_pos hw]
theorem Calm.setIn {D : BayD} {m c : Nat} (h : Calm D m c) (i : Nat) {v : DevD} (hw : v.worn = false) (hc : v.k.cache.length <= c) : Calm (D.setIn i v) m c := by
 refine ⟨by unfold BayD.setIn; rw [List.length_set]; exact h.len, h.dark, h.trip, fun s hs u hu => ?_, setIn_capd h.cap hc, h.n⟩
 rcases List.mem_or_eq_of_mem_set hs with q | q
 · exact h.worn s q u hu
 ·
  subst q
  have hu : some v = some u := hu
  cases hu; exact hw
theorem Calm.mono {D : BayD} {m c c' : Nat} (h : Calm D m c) (hc : c <= c') : Calm D m c' := ⟨h.len, h.dark, h.trip, h.worn, h.cap.mono hc, h.n.mono hc⟩
theorem Calm.write {D : BayD} {m c : Nat} (h : Calm D m c) (hc : c < 1000000000) (k a : Int) (b : List UInt8) : Calm (D.write k a b).2 m (c + 1) := by
 unfold BayD.write
 split
 ·
  rename_i hr
  obtain ⟨_, _, v, hv⟩ := refuse_dev hr
  obtain ⟨h1, h2, h3⟩ := h.dev hv
  rw [h3]
  exact (h.ahead hc k 1).setIn _ h1 (wr_cap h2)
 · exact h.ahead hc k 1
theorem Calm.flush {D : BayD} {m c : Nat} (h : Calm D m c) (hc : c < 1000000000) (k : Int) : Calm (D.flush k).2 m (c + 1) := by
 unfold BayD.flush
 split
 ·
  rename_i hr
  obtain ⟨_, _, v, hv⟩ := refuse_dev hr
  obtain ⟨h1, h2, h3⟩ := h.dev hv
  rw [h3]
  exact (h.ahead hc k 2).setIn _ h1 (Nat.le_succ_of_le (fl_cap h2))
 · exact h.ahead hc k 2
theorem Calm.fail {D : BayD} {m c : Nat} (h : Calm D m c) (k : Int) : Calm (D.fail k).2 m c := by
 unfold BayD.fail
 split
 ·
  rename_i v hv
  exact h.setIn _ (h.dev hv).1 (Nat.zero_le _)
 · exact h
theorem Calm.new {l : List Int} : Calm (BayD.new l) l.length 0 := by
 refine ⟨by unfold BayD.new; simp, rfl, rfl, fun s hs v hv => ?_, fun s hs v hv => ?_, (show CntIn ⟨0, 0, 0⟩ 0 from ⟨⟨by decide, by decide⟩, ⟨by decide, by decide⟩, ⟨by decide, by decide⟩⟩)⟩
 ·
  obtain ⟨n, _, rfl⟩ := List.mem_map.1 hs
  unfold slotOf at hv
  split at hv
  · cases hv
  · cases hv; rfl
 ·
  obtain ⟨n, _, rfl⟩ := List.mem_map.1 hs
  unfold slotOf at hv
  split at hv
  · rcases hv with h | h | h <;> cases h
  ·
   rcases hv with h | h | h
   · cases h; exact Nat.zero_le _
   · cases h
   · cases h
end Go.Proofs.YtjebagmjcdaegaaGreat
/-! Text Oj. -/
namespace Go.Proofs.YtjebagmjcdaegaaGreat
open Go.RowKit Go.Sl
attribute [local irreducible] Sl.Own
variable {W : World} {R : List SProp}
def CntD.fits (c : CntD) : Prop := (-9223372036854775808 <= c.r /\ c.r <= 9223372036854775807) /\ (-9223372036854775808 <= c.w /\ c.w <= 9223372036854775807) /\ (-9223372036854775808 <= c.f /\ c.f <= 9223372036854775807)
theorem CntD.fits.inc {c : CntD} (h : c.fits) (j : Nat) : (c.inc j).fits := by
 have hr : ∀ x : Int, -9223372036854775808 <= IntKind.i64.wrap x /\ IntKind.i64.wrap x <= 9223372036854775807 := fun x => by rw [IntKind.wrap_i64]; omega
 unfold CntD.inc
 split
 · exact ⟨hr _, h.2.1, h.2.2⟩
 · exact ⟨h.1, hr _, h.2.2⟩
 · exact ⟨h.1, h.2.1, hr _⟩
theorem CntD.fits.wf {c : CntD} (h : c.fits) : (Lit.int .i64 c.r).wf = true /\ (Lit.int .i64 c.w).wf = true /\ (Lit.int .i64 c.f).wf = true := by
 have hw : ∀ x : Int, -9223372036854775808 <= x /\ x <= 9223372036854775807 -> (Lit.int .i64 x).wf = true := fun x hx => by
  simp [Lit.wf, IntKind.min, IntKind.max, IntKind.signed, IntKind.bits]; omega
 exact ⟨hw _ h.1, hw _ h.2.1, hw _ h.2.2⟩
structure BayD.sane (D : BayD) : Prop where
  cw : D.n.fits
  dk : D.dark = true -> D.trip ≠ 0
  slot : ∀ s ∈ D.slots, s.coming = none /\ ∀ v, s.in_ = some v -> v.worn = true -> 0 <= v.left /\ v.left <= 9223372036854775807
theorem BayD.dev_mem {D : BayD} {k : Int} {v : DevD} (h : D.dev k = some v) : ∃ s ∈ D.slots, s.in_ = some v := by
 unfold BayD.dev at h
 split at h
 ·
  obtain ⟨s, h1, h2⟩ := Option.bind_eq_some_iff.1 h
  exact ⟨s, List.mem_of_getElem? h1, h2⟩
 · cases h
theorem BayD.sane.dev {D : BayD} (h : D.sane) (k : Int) : ∀ v, D.dev k = some v -> v.worn = true -> 0 <= v.left := fun v hv hw => by
 obtain ⟨s, hs, e⟩ := BayD.dev_mem hv
 exact ((h.slot s hs).2 v e hw).1
theorem BayD.sane.dv {D : BayD} (h : D.sane) (k : Int) : (D.dv k).worn = true -> 0 <= (D.dv k).left /\ (D.dv k).left <= 9223372036854775807 := by
  unfold BayD.dv
  cases hd : D.dev k with
  | none => intro q; revert q; show (DevD.use ⟨⟨[], [], false⟩, false, 0⟩).worn = true -> _; unfold DevD.use; simp
  | some v =>
    obtain ⟨s, hs, e⟩ := BayD.dev_mem hd
    have hv := (h.slot s hs).2 v e
    show v.use.worn = true -> 0 <= v.use.left /\ v.use.left <= 9223372036854775807
    unfold DevD.use
    split
    · exact hv
    · rename_i hw
      split
      · intro q; cases q
      · rename_i h0
        intro _
        have := hv (by simpa using hw)
        have e : IntKind.i64.wrap (v.left - 1) = v.left - 1 := IntWalk.i64_in _ ⟨by omega, by omega⟩
        show 0 <= IntKind.i64.wrap (v.left - 1) /\ IntKind.i64.wrap (v.left - 1) <= 9223372036854775807
        rw [e]; omega
theorem BayD.sane.ahead {D : BayD} (h : D.sane) (k : Int) (j : Nat) : (D.ahead k j).sane := by
 have hs : ∀ E : BayD, E.slots = D.slots -> (E.dark = true -> E.trip ≠ 0) -> E.n.fits -> E.sane := fun E e d c => ⟨c, d, fun s hs => h.slot s (by rw [<- e]; exact hs)⟩
 have hn : D.pow.n = D.n := by unfold BayD.pow; split <;> rfl
 unfold BayD.ahead
 split
 · exact h
 ·
  have hp : D.pow.dark = true -> D.pow.trip ≠ 0 := by
   unfold BayD.pow
   split
   · intro _; show (-1 : Int) ≠ 0; decide
   · exact h.dk
  split
  · exact hs _ D.pow_slots hp (by rw [hn]; exact h.cw)
  ·
   rename_i hd
   exact hs _ D.pow_slots (fun q => absurd q hd) (by show (D.pow.n.inc j).fits; rw [hn]; exact h.cw.inc j)
theorem BayD.sane.setIn {D : BayD} (h : D.sane) (i : Nat) (v : DevD) (hv : v.worn = true -> 0 <= v.left /\ v.left <= 9223372036854775807) : (D.setIn i v).sane := by
 refine ⟨h.cw, h.dk, fun s hs => ?_⟩
 unfold BayD.setIn at hs
 rcases List.mem_or_eq_of_mem_set hs with q | q
 · exact h.slot s q
 ·
  subst q
  by_cases hi : i < D.slots.length
  ·
   rw [List.getElem?_eq_getElem hi]
   refine ⟨(h.slot _ (List.getElem_mem hi)).1, fun u hu hw => ?_⟩
   cases hu; exact hv hw
  ·
   rw [List.getElem?_eq_none (by omega)]
   refine ⟨rfl, fun u hu hw => ?_⟩
   cases hu; exact hv hw
theorem BayD.sane.write {D : BayD} (h : D.sane) (k a : Int) (l : List UInt8) : (D.write k a l).2.sane := by
 unfold BayD.write
 split
 · exact (h.ahead k 1).setIn _ _ (h.dv k)
 · exact h.ahead k 1
theorem BayD.sane.flush {D : BayD} (h : D.sane) (k : Int) : (D.flush k).2.sane := by
 unfold BayD.flush
 split
 · exact (h.ahead k 2).setIn _ _ (h.dv k)
 · exact h.ahead k 2
theorem BayD.sane.read {D : BayD} (h : D.sane) (k a : Int) : (D.read k a).2.sane := by
 unfold BayD.read
 split
 · exact (h.ahead k 0).setIn _ _ (h.dv k)
 · exact h.ahead k 0
theorem BayD.sane.fail {D : BayD} (h : D.sane) (k : Int) : (D.fail k).2.sane := by
  unfold BayD.fail
  cases hd : D.dev k with
  | none => exact h
  | some v =>
    obtain ⟨s, hs, e⟩ := BayD.dev_mem hd
    exact h.setIn _ _ (fun q => (h.slot s hs).2 v e q)
theorem BayD.sane.wear {D : BayD} (h : D.sane) (k n : Int) (hn : n <= 9223372036854775807) : (D.wear k n).2.sane := by
 unfold BayD.wear
 split
 · exact h
 ·
  rename_i h0
  cases hd : D.dev k with
  | none => exact h
  | some v => exact h.setIn _ _ (fun _ => ⟨by show 0 <= n; omega, hn⟩)
theorem BayD.sane.trips {D : BayD} (h : D.sane) (n : Int) : (D.trips n).2.sane := by
 unfold BayD.trips
 split
 · exact h
 ·
  split
  · exact h
  ·
   rename_i hd
   exact ⟨h.cw, fun q => absurd q hd, h.slot⟩
theorem BayD.sane.cut {D : BayD} (h : D.sane) (kl : List (List Bool)) : (D.cut kl).sane := by
  refine ⟨h.cw, fun q => (by cases q), fun s hs => ?_⟩
  unfold BayD.cut at hs
  obtain ⟨i, hi, rfl⟩ := List.mem_iff_getElem.1 hs
  have hi' : i < D.slots.length := by simpa using hi
  have h0 := h.slot _ (List.getElem_mem hi')
  simp only [List.getElem_mapIdx]
  unfold SlotD.cut
  rw [h0.1]
  refine ⟨rfl, fun v hv hw => ?_⟩
  simp only [Option.isSome_none, Bool.false_eq_true, if_false] at hv
  cases hin : D.slots[i].in_ with
  | none => rw [hin] at hv; cases hv
  | some u =>
    rw [hin] at hv
    cases hv
    exact h0.2 u hin hw
theorem BayD.sane.new (l : List Int) : (BayD.new l).sane := by
 refine ⟨(show CntD.fits ⟨0, 0, 0⟩ from ⟨⟨by decide, by decide⟩, ⟨by decide, by decide⟩, ⟨by decide, by decide⟩⟩), fun q => (by cases q), fun s hs => ?_⟩
 obtain ⟨n, _, rfl⟩ := List.mem_map.1 hs
 unfold slotOf
 split
 · exact ⟨rfl, fun v hv => by cases hv⟩
 ·
  refine ⟨rfl, fun v hv hw => ?_⟩
  cases hv; cases hw
structure ListN where
  ao : Option Addr
  cap : Nat
  n : Nat
  xs : List Value
abbrev ListN.hdr (e : ListN) : Value := .slice e.ao e.n e.cap
namespace Pt
def mk (z : Int) : List Value := [.int .i64 0, .int .i64 z, .slice none 0 0]
abbrev val (z : Int) : Value := .int .i64 z
def marks (a m : Nat) : List Value := (List.range m).flatMap fun (k : Nat) => mk ((a : Int) * 1000 + (k : Int))
def marks2 (a m : Nat) : List Value := (List.range m).flatMap fun (k : Nat) => mk ((-1 - (a : Int)) * 1000 + (k : Int))
theorem marks_length (a m : Nat) : (marks a m).length = m * 3 := by
 have := flat_length (w := 3) (g := fun (k : Nat) => mk ((a : Int) * 1000 + (k : Int))) (List.range m) (fun _ _ => rfl); rwa [List.length_range] at this
theorem marks2_length (a m : Nat) : (marks2 a m).length = m * 3 := by
 have := flat_length (w := 3) (g := fun (k : Nat) => mk ((-1 - (a : Int)) * 1000 + (k : Int))) (List.range m) (fun _ _ => rfl); rwa [List.length_range] at this
def res (e : ListN) : SProp := Own 88 3 (.slice e.ao e.n e.cap) e.n e.xs
end Pt
end Go.Proofs.YtjebagmjcdaegaaGreat
/-! Text Qc. -/
namespace Go.Proofs.YtjebagmjcdaegaaGreat
open Go.RowKit Go.Sl
attribute [local irreducible] Own
variable {W : World} {R : List SProp}
namespace Tx
def mk (z : Int) : List Value := [.int .u64 (IntKind.u64.wrap z), .slice none 0 0]
abbrev val (z : Int) : Value := .int .u64 (IntKind.u64.wrap z)
def marks (a m : Nat) : List Value := (List.range m).flatMap fun (k : Nat) => mk ((a : Int) * 1000 + (k : Int) + 7000000)
def marks2 (a m : Nat) : List Value := (List.range m).flatMap fun (k : Nat) => mk ((-1 - (a : Int)) * 1000 + (k : Int) + 7000000)
theorem marks_length (a m : Nat) : (marks a m).length = m * 2 := by
 have := flat_length (w := 2) (g := fun (k : Nat) => mk ((a : Int) * 1000 + (k : Int) + 7000000)) (List.range m) (fun _ _ => rfl); rwa [List.length_range] at this
theorem marks2_length (a m : Nat) : (marks2 a m).length = m * 2 := by
 have := flat_length (w := 2) (g := fun (k : Nat) => mk ((-1 - (a : Int)) * 1000 + (k : Int) + 7000000)) (List.range m) (fun _ _ => rfl); rwa [List.length_range] at this
def res (e : ListN) : SProp := Own 86 2 (.slice e.ao e.n e.cap) e.n e.xs
end Tx
end Go.Proofs.YtjebagmjcdaegaaGreat
/-! Text Qd. -/
namespace Go.Proofs.YtjebagmjcdaegaaGreat
open Go.RowKit Go.Sl
attribute [local irreducible] Own
variable {W : World} {R : List SProp}
namespace Rw
abbrev hd (b : Nat) : Value := .slice (some ⟨b, 0, none⟩) 4 4
abbrev Pool := List (Nat × List UInt8)
def res (e : ListN) : SProp := Own 22 1 (.slice e.ao e.n e.cap) e.n e.xs
structure In (a : Nat) (n : Nat) (bs : List Nat) (p : Pool) (g : Nat -> Nat -> List UInt8) : Prop where
  len : bs.length = n
  all : ∀ k b, bs[k]? = some b -> (b, g a k) ∈ p
theorem In.more {a n : Nat} {bs : List Nat} {p : Pool} {g : Nat -> Nat -> List UInt8} (h : In a n bs p g) {q : Pool} (hs : ∀ x ∈ p, x ∈ q) : In a n bs q g := ⟨h.len, fun k b hk => hs _ (h.all k b hk)⟩
theorem In.push {a : Nat} {bs : List Nat} {p : Pool} {g : Nat -> Nat -> List UInt8} (h : In a bs.length bs p g) (b : Nat) : In a (bs ++ [b]).length (bs ++ [b]) (p ++ [(b, g a bs.length)]) g := by
 refine ⟨rfl, fun k c hk => ?_⟩
 by_cases q : k < bs.length
 ·
  rw [List.getElem?_append_left q] at hk
  exact List.mem_append_left _ (h.all k c hk)
 ·
  rw [List.getElem?_append_right (by omega)] at hk
  have hkk : k - bs.length = 0 := by
   cases hz : k - bs.length with
   | zero => rfl
   | succ z => rw [hz] at hk; cases hk
  rw [hkk] at hk
  injection hk with hk
  subst hk
  rw [show k = bs.length by omega]
  simp
end Rw
end Go.Proofs.YtjebagmjcdaegaaGreat
/-! Text Es. -/
namespace Go.Proofs.YtjebagmjcdaegaaGreat
open Go.RowKit Go.Sl
end Go.Proofs.YtjebagmjcdaegaaGreat
