import Derived.Test.YtldolcbbmnmjoaaGreatM1
import Derived.WalkKit
import Derived.WalkSpells
import Derived.WalkLawsBesides
import Derived.Deep.Draws
import Derived.Deep.QuietTactic
import Derived.BigQuiet
import Derived.Deep.AppendSrc
import Derived.OrdersHeld
import Derived.Deep.LoopGhost
set_option maxRecDepth 8000
set_option maxHeartbeats 16000000
set_option linter.unusedVariables false
set_option linter.unusedSimpArgs false
set_option linter.unusedSectionVars false
set_option linter.defProp false
namespace Go.Sl
open Go.RowKit
abbrev ik(b:Nat):Option Addr:=some ⟨b,0,none⟩
abbrev ip(b:Nat):Value:= .pointer (some ⟨b,0,none⟩)
abbrev ii(x:Int):Value:= .int .i64 x
abbrev i6(x:Int):Value:= .int .u16 x
abbrev i8(x:Int):Value:= .int .u64 x
abbrev ib(x:Int):Value:= .int .u8 x
def fL:=@List.getElem?_eq_getElem
def c9:=@List.length_append
def ew:=@List.length_map
def j0:=@List.length_replicate
def ie:=@List.length_singleton
def fF:=@List.getElem_mem
def nZ:=@List.take_succ_eq_append_getElem
def c7:=@Nat.zero_le
def eI:=@Nat.le_refl
def ju:=@List.mem_singleton
def fG:=@List.mem_map
def j1:=@List.length_take
def jv:=@List.map_append
def lx:=@List.append_assoc
def qy:=@List.take_of_length_le
def mn:=@List.append_nil
def l0:=@List.mem_append
def mV:=@Bool.and_eq_true
def cI:=@of_decide_eq_true
def dx:=@of_decide_eq_false
def ky:=@decide_eq_true
def gx:=@decide_eq_false
def lam:=@if_pos
def aE:=@if_neg
def CC:=@List.length_drop
def tc:=@List.length_cons
def Ah:=@List.getElem?_append_left
def Ob:=@List.getElem?_append_right
def Ry:=@List.getElem?_eq_none
def KN:=@List.length_range
def HC:=@List.mem_range
def Jz:=@List.getElem_map
def law:=@List.getElem?_map
def lax:=@List.getElem_of_mem
def lay:=@List.mem_of_getElem?
def TV:=@List.getElem_append_left
def Ub:=@List.length_set
def vD:=@List.getElem?_set_ne
def HD:=@List.getElem?_set_self
def Oc:=@List.getElem?_take
def Od:=@List.getElem?_drop
def QB:=@List.take_append_drop
def FZ:=@List.map_map
def oS:=@List.filter_append
def Oe:=@List.getElem?_replicate
def Og:=@List.eq_of_mem_replicate
def HE:=@List.getElem?_eq_some_iff
def vE:=@List.drop_eq_getElem_cons
def E5:=@List.flatMap_append
def Ai:=@List.mem_flatMap
def Mx:=@List.map_congr_left
def HF:=@Option.some.inj
def CD:=@List.length_pos_iff
def KO:=@List.mem_filter
def te:=@List.length_eq_zero_iff
def QC:=@List.drop_drop
def Tj:=@List.take_append_of_le_length
def Oh:=@List.drop_append_of_le_length
def SP:=@List.take_length
def DK:=@List.take_zero
def KP:=@List.drop_zero
def E6:=@List.ext_getElem
def BF:=@Int.toNat_of_nonneg
def RA:=@Int.eq_ofNat_of_zero_le
def w8:=@Nat.lt_of_lt_of_le
def RB:=@Nat.le_trans
def qX:=@Nat.mod_lt
def nE:=@Nat.mod_eq_of_lt
def u0:=@Nat.mul_le_mul_right
def RC:=@Nat.mul_le_mul
def w9:=@Nat.lt_or_ge
def mo:=@Nat.div_lt_of_lt_mul
def Aj:=@Nat.mul_comm
def Tk:=@Nat.add_mul
def BG:=@Nat.add_comm
def ux:=@Nat.add_assoc
def E7:=@Nat.sub_self
def PA:=@Nat.zero_add
def BH:=@Nat.add_zero
def ou:=@List.nil_append
def QD:=@List.cons_append
def BI:=@List.map_cons
def HG:=@List.map_nil
def pS:=@List.take_succ_cons
def DL:=@List.take_left'
def SQ:=@List.drop_eq_nil_of_le
def Oi:=@List.flatMap_cons
def Tl:=@List.mem_of_mem_take
def xb:=@List.perm_middle
def RD:=@Option.map_some
def qY:=@Option.map_map
def SR:=@List.reverse_append
def Tm:=@List.find?_eq_none
def TW:=@List.not_mem_nil
def lcm:=@List.sum_append
def uy:=@List.length_filter_le
def HH:=@List.mem_reverse
def KQ:=@List.range_succ
def KR:=@List.set_append_right
def JB:=@congrArg
def lcs:=@absurd
def cN:=@decide_eq_decide
theorem zB{A:Prop}(h:A:=by repeat (first|exact trivial|refine⟨rfl,?_⟩)):A:=h
theorem zO{A:Prop}(h:A:=by omega):A:=h
abbrev ir:=Nat->Option Obj
abbrev ab:=ir->Prop
def ir.sub(a b:ir):Prop:=∀k o,a k=some o->b k=some o
def ir.T9(a b:ir):Prop:=∀k,a k=none\/b k=none
theorem ir.sub.refl(a:ir):ir.sub a a:=λ_ _ h=>h
theorem ir.sub.trans{a b c:ir}(h:ir.sub a b)(k:ir.sub b c):ir.sub a c:=λx o e=>k x o (h x o e)
def star:List ab->ab
  |[],_=>True
  |P::H,h=>∃b e,ir.sub b h/\ir.sub e h/\ir.T9 b e/\P b/\star H e
theorem star.up:∀{H:List ab}{h g:ir},ir.sub h g->star H h->star H g
 |[],_,_,_,_=>trivial
 |_::_,_,_,i,⟨j,k,a,b,c,d,e⟩=>⟨j,k,a.trans i,b.trans i,c,d,e⟩
theorem star.swap{P Q:ab}{H:List ab}{h:ir}:star (P::Q::H) h->star (Q::P::H) h:=by
 rintro⟨m,r,a,b,c,d,p,j,l,b',c',q,e⟩;refine⟨p,λk=>(m k).or (j k),l.trans b,?_,?_,q,m,j,?_,?_,?_,d,e⟩
 ·
  intro x o g;simp only[Option.or_eq_some_iff]at g;rcases g with g|⟨_,g⟩
  · exact a x o g
  · exact b x o (b' x o g)
 ·
  intro x;rcases c' x with hk|hk
  · exact .inl hk
  ·
   rcases i:p x with _|o
   · exact .inl rfl
   ·
    right;rcases c x with h|h
    · simp[h,hk]
    · rw[l x o i]at h;cases h
 · intro x o g;simp[g]
 ·
  intro x o g;rcases c x with h|h
  · simp[h,g]
  · rw[b' x o g]at h;cases h
 ·
  intro x;rcases c x with h|h
  · exact .inl h
  ·
   right;rcases i:j x with _|o
   · rfl
   · rw[b' x o i]at h;cases h
theorem star.cons{P P':ab}{H H':List ab}{h:ir}(l:∀k,P k->P' k)(j:∀k,star H k->star H' k):star (P::H) h->star (P'::H') h:=by
 rintro⟨g,i,a,b,c,d,e⟩;exact⟨g,i,a,b,c,l _ d,j _ e⟩
theorem star.perm{H H':List ab}(p:List.Perm H H'):∀{h:ir},star H h->star H' h:=by
 induction p with
 |nil=>exact λh=>h
 |cons x _ g=>exact λh=>star.cons (λ_ k=>k) (λ_ k=>g k) h
 |swap x y l=>exact λh=>star.swap h
 |trans _ _ b e=>exact λh=>e (b h)
theorem star.tail{P:ab}{H:List ab}{h:ir}:star (P::H) h->star H h:=λ⟨_,_,_,b,_,_,e⟩=>star.up b e
theorem star.join:∀{L R:List ab}{h:ir},star (star L::R) h->star (L++R) h
  |[],_,_,h=>star.tail h
  |P::L,R,h,⟨r,m,a,b,c,⟨p,j,l,b',c',q,e'⟩,e⟩=>by
    refine⟨p,λk=>(j k).or (m k),l.trans a,?_,?_,q,star.join ⟨j,m,?_,?_,?_,e',e⟩⟩
    · intro x o g
      simp only[Option.or_eq_some_iff]at g
      rcases g with g|⟨_,g⟩
      · exact a x o (b' x o g)
      · exact b x o g
    · intro x
      rcases c' x with hk|hk
      · exact .inl hk
      · rcases i:p x with _|o
        · exact .inl rfl
        · right
          rcases c x with h|h
          · rw[l x o i]at h;cases h
          · simp[h,hk]
    · intro x o g;simp[g]
    · intro x o g
      rcases i:j x with _|o'
      · simp[g,i]
      · rcases c x with h|h
        · rw[b' x o' i]at h;cases h
        · rw[g]at h;cases h
    · intro x
      rcases c x with h|h
      · rcases i:j x with _|o'
        · exact .inl rfl
        · rw[b' x o' i]at h;cases h
      · exact .inr h
theorem star.nest:∀{L R:List ab}{h:ir},star (L++R) h->star (star L::R) h
  |[],R,h,e=>⟨λ_=>none,h,(λ_ _ x=>by cases x),ir.sub.refl _,(λ_=>.inl rfl),trivial,e⟩
  |P::L,R,h,⟨l,r,a,b,c,d,e⟩=>by
    obtain⟨m,p,j,b',c',q,e'⟩:=star.nest e;refine⟨λk=>(l k).or (m k),p,?_,b'.trans b,?_,⟨l,m,?_,?_,?_,d,q⟩,e'⟩
    · intro x o g
      simp only[Option.or_eq_some_iff]at g
      rcases g with g|⟨_,g⟩
      · exact a x o g
      · exact b x o (j x o g)
    · intro x
      rcases c' x with hk|hk
      · rcases c x with h|h
        · left;simp[h,hk]
        · right
          rcases i:p x with _|o
          · rfl
          · rw[b' x o i]at h;cases h
      · exact .inr hk
    · intro x o g;simp[g]
    · intro x o g
      rcases i:l x with _|o'
      · simp[g,i]
      · rcases c x with h|h
        · rw[h]at i;cases i
        · rw[j x o g]at h;cases h
    · intro x
      rcases c x with h|h
      · exact .inl h
      · right
        rcases i:m x with _|o
        · rfl
        · rw[j x o i]at h;cases h
def Jh(W w:World):ir:=λk=>if k<W.heap.size then none else w.heap[k]?
structure Holds(W:World)(H:List ab)(w:World):Prop where
  below:Below W.heap.size W w
  star:star H (Jh W w)
def At(b:Nat)(o:Obj):ab:=λh=>h b=some o
abbrev Row(b:Nat)(T:TypeId)(cs:List Value):ab:=At b (.cells cs.toArray T (0,0))
def fact(p:Prop):ab:=λ_=>p
def ex{α:Type}(P:α->ab):ab:=λh=>∃x,P x h
section
variable{W w:World}{H H' R L:List ab}{P P' Q:ab}
theorem Holds.start(W:World):Holds W [] W:=⟨Below.refl _ _,trivial⟩
theorem Holds.perm(p:List.Perm H H')(h:Holds W H w):Holds W H' w:=⟨h.below,star.perm p h.star⟩
theorem Holds.tail(h:Holds W (P::R) w):Holds W R w:=⟨h.below,star.tail h.star⟩
theorem Holds.cons(b:∀k,P k->P' k)(h:Holds W (P::R) w):Holds W (P'::R) w:=⟨h.below,star.cons b (λ_ k=>k) h.star⟩
theorem Holds.join(h:Holds W (Sl.star L::R) w):Holds W (L++R) w:=⟨h.below,star.join h.star⟩
theorem Holds.nest(h:Holds W (L++R) w):Holds W (Sl.star L::R) w:=⟨h.below,star.nest h.star⟩
theorem Holds.swap(h:Holds W (P::Q::R) w):Holds W (Q::P::R) w:=⟨h.below,star.swap h.star⟩
theorem Holds.gW{α:Type}{P:α->ab}(h:Holds W (ex P::R) w):∃x,Holds W (P x::R) w:=by
 obtain⟨j,g,i,a,b,c,⟨x,d⟩,e⟩:=h;exact⟨x,j,g,i,a,b,c,d,e⟩
theorem Holds.dU{α:Type}{P:α->ab}(x:α)(h:Holds W (P x::R) w):Holds W (ex P::R) w:=by
 obtain⟨j,g,i,a,b,c,d,e⟩:=h;exact⟨j,g,i,a,b,c,⟨x,d⟩,e⟩
theorem Holds.iX{p:Prop}(h:Holds W (fact p::R) w):p:=by
 obtain⟨_,_,_,_,_,_,d,_⟩:=h;exact d
theorem Holds.gG{p:Prop}(b:p)(h:Holds W R w):Holds W (fact p::R) w:=
 ⟨h.below,λ_=>none,Jh W w,(λ_ _ x=>by cases x),ir.sub.refl _,(λ_=>.inl rfl),b,h.star⟩
theorem Holds.drew(h:Holds W H w):Holds W H w.drew:=⟨h.below.drew,h.star⟩
theorem Holds.drewN(n:Nat)(h:Holds W H w):Holds W H (w.drewN n):=
 ⟨⟨h.below.os,h.below.tape,h.below.output,h.below.size,h.below.block⟩,h.star⟩
theorem Holds.open(h:Holds W (P::R) w):
  ∃j:ir,P j/\(∀k o,j k=some o->W.heap.size<=k/\w.heap[k]?=some o)/\
   ∀(p:World)(P':ab)(g:ir),P' g->p.os=w.os->p.tape=w.tape->p.output=w.output->w.heap.size<=p.heap.size->
    (∀k,k<w.heap.size->j k=none->p.heap[k]?=w.heap[k]?)->
    (∀k o,g k=some o->p.heap[k]?=some o/\(w.heap.size<=k\/(j k).isSome=true))->Holds W (P'::R) p:=by
 obtain⟨q,j,y,a,b,c,d,e⟩:=h;have own:∀k o,j k=some o->W.heap.size<=k/\w.heap[k]?=some o:=by
  intro k o i;have:=a k o i;unfold Jh at this;split at this
  · cases this
  · exact⟨by omega,this⟩
 refine⟨j,d,own,?_⟩;intro p P' g z os tape output size m new;have r:∀k o,g k=some o->W.heap.size<=k:=by
  intro k o i;rcases(new k o i).2 with h|h
  · exact RB q.size h
  ·
   obtain⟨o',v⟩:=Option.isSome_iff_exists.1 h;exact(own k o' v).1
 refine⟨⟨os.trans q.os,tape.trans q.tape,output.trans q.output,RB q.size size,?_⟩,g,y,?_,?_,?_,z,e⟩
 ·
  intro k i;have u:j k=none:=by
   rcases x:j k with _|o
   · rfl
   · have:=(own k o x).1;omega
  rw[m k (w8 i q.size) u];exact q.block k i
 ·
  intro k o i;have:=r k o i;unfold Jh;rw[aE zO];exact(new k o i).1
 ·
  intro k o i;have l:=b k o i;unfold Jh at l⊢;split at l
  · cases l
  ·
   rename_i t;rw[aE t];have u:j k=none:=by
    rcases c k with h|h
    · exact h
    · rw[i]at h;cases h
   rw[m k (by rcases w9 k w.heap.size with h|h;exact h;simp[Array.getElem?_eq_none h]at l) u];exact l
 ·
  intro k;rcases x:g k with _|o
  · exact .inl rfl
  ·
   right;rcases s:y k with _|o2
   · rfl
   ·
    exfalso;rcases(new k o x).2 with h|h
    ·
     have l:=b k o2 s;unfold Jh at l;split at l
     · cases l
     · simp[Array.getElem?_eq_none h]at l
    ·
     rcases c k with h'|h'
     · rw[h']at h;cases h
     · rw[s]at h';cases h'
theorem Holds.new(h:Holds W R w)(b:World)(P':ab)(e:ir)(l:P' e)(os:b.os=w.os)(tape:b.tape=w.tape)(output:b.output=w.output)
  (size:w.heap.size<=b.heap.size)(g:∀k,k<w.heap.size->b.heap[k]?=w.heap[k]?)(new:∀k o,e k=some o->b.heap[k]?=some o/\w.heap.size<=k):Holds W (P'::R) b:=by
 have j:Holds W (fact True::R) w:=h.gG trivial;obtain⟨m,_,_,up⟩:=j.open;exact up b P' e l os tape output size (λk i _=>g k i) (λk o i=>⟨(new k o i).1,.inl (new k o i).2⟩)
inductive eQ:List ab->ab->(ab->List ab)->Prop
  |head {P:ab} {H:List ab}:eQ (P::H) P (λX=>X::H)
  |tail {Q P:ab} {H:List ab} {C:ab->List ab}:eQ H P C->eQ (Q::H) P (λX=>Q::C X)
theorem eQ.perm{P:ab}{H:List ab}{C:ab->List ab}(u:eQ H P C):∃R,List.Perm H (P::R)/\∀X,List.Perm (X::R) (C X):=by
  induction u with
  |head=>exact⟨_,.refl _,λ_=>.refl _⟩
  |@tail Q P H C _ e=>
    obtain⟨R,a,b⟩:=e;exact⟨Q::R,(a.cons Q).trans (.swap ..),λX=>(List.Perm.swap ..).trans ((b X).cons Q)⟩
inductive nW:List ab->ab->List ab->Prop
  |head {P:ab} {H:List ab}:nW (P::H) P H
  |tail {Q P:ab} {H R:List ab}:nW H P R->nW (Q::H) P (Q::R)
theorem nW.perm{P:ab}{H R:List ab}(u:nW H P R):List.Perm H (P::R):=by
 induction u with
 |head=>exact .refl _
 |@tail Q P H R _ b=>exact(b.cons Q).trans (.swap ..)
inductive aP:List ab->List ab->Prop
  |refl {H:List ab}:aP H H
  |nil {H:List ab}:aP H []
  |cons {H R L:List ab} {P:ab}:nW H P R->aP R L->aP H (P::L)
  |drop {H L:List ab} {P:ab}:aP H L->aP (P::H) L
theorem aP.star{H L:List ab}(r:aP H L):∀{h:ir},Sl.star H h->Sl.star L h:=by
 induction r with
 |refl=>exact λh=>h
 |nil=>exact λ_=>trivial
 |cons d _ b=>exact λh=>star.cons (λ_ k=>k) (λ_ k=>b k) (star.perm d.perm h)
 |drop _ b=>exact λh=>b (star.tail h)
theorem Holds.fk{H L:List ab}(r:aP H L)(h:Holds W H w):Holds W L w:=⟨h.below,r.star h.star⟩
theorem ja{P:ab}{H:List ab}(m:P∈H):∃R,List.Perm H (P::R):=by
  induction m with
  |head l=>exact⟨_,.refl _⟩
  |@tail b l _ e=>
    obtain⟨R,a⟩:=e;exact⟨b::R,(a.cons b).trans (.swap ..)⟩
theorem Holds.at{b:Nat}{o:Obj}(h:Holds W H w)(m:At b o∈H):W.heap.size<=b/\w.heap[b]?=some o:=by
 obtain⟨R,p⟩:=ja m;obtain⟨e,d,own,_⟩:=(h.perm p).open
 exact own b o d
theorem Holds.lt{b:Nat}{o:Obj}(h:Holds W H w)(m:At b o∈H):b<w.heap.size:=by
 have:=(h.at m).2;rcases w9 b w.heap.size with h'|h'
 · exact h'
 · simp[Array.getElem?_eq_none h']at this
theorem Holds.cell{b off:Nat}{T:TypeId}{cs:List Value}{v:Value}(h:Holds W H w)(m:Row b T cs∈H)(e:cs[off]?=some v):w.cell? ⟨b,off,none⟩=some v:=by
 have:=(h.at m).2;simp[World.cell?,this,e]
theorem Holds.free{b off:Nat}{T:TypeId}{cs:List Value}(h:Holds W H w)(m:Row b T cs∈H):w.frozen? ⟨b,off,none⟩=false:=by
 have:=(h.at m).2;simp[World.frozen?,this]
theorem Holds.ro{a:Addr}{v:Value}(h:Holds W H w)(b:W.cell? a=some v):w.cell? a=some v:=by
 rw[h.below.cell (World.block_lt_of_cell? W a b)];exact b
theorem Holds.put{b:Nat}{o o':Obj}{g:World}{C:ab->List ab}(h:Holds W H w)(u:eQ H (At b o) C)(os:g.os=w.os)(tape:g.tape=w.tape)(output:g.output=w.output)
  (size:g.heap.size=w.heap.size)(i:∀k,k≠b->g.heap[k]?=w.heap[k]?)(new:g.heap[b]?=some o'):Holds W (C (At b o')) g:=by
 obtain⟨R,p,q⟩:=u.perm;obtain⟨l,d,own,up⟩:=(h.perm p).open
 refine(up g (At b o') (λk=>if k=b then some o' else none) (by simp[At]) os tape output zO ?_ ?_).perm (q _)
 ·
  intro k j m;refine i k (λe=>?_);subst e;rw[show l k=some o from d]at m;cases m
 ·
  intro k r j;split at j
  ·
   rename_i e;subst e;cases j;exact⟨new,.inr (by rw[show l k=some o from d];rfl)⟩
  · cases j
theorem Holds.store{b off:Nat}{T:TypeId}{cs:List Value}{C:ab->List ab}(v:Value)(h:Holds W H w)(u:eQ H (Row b T cs) C):
  Holds W (C (Row b T (cs.set off v))) (w.setCell ⟨b,off,none⟩ v):=by
 obtain⟨R,p,q⟩:=u.perm;have e:=((h.perm p).at (.head _)).2;refine h.put u rfl rfl rfl (by simp) (λk g=>heap_setCell_other w _ k v g) ?_;rw[heap_setCell_same w b off _ T v e];simp
theorem Holds.alloc{T:TypeId}{cs:List Value}(h:Holds W H w):Holds W (Row w.heap.size T cs::H) (w.alloc (.cells cs.toArray T)):=by
 refine h.new _ _ (λk=>if k=w.heap.size then some (.cells cs.toArray T (0,0))else none) (by simp[At]) rfl rfl rfl (by simp) (λk b=>Below.heap_alloc _ _ _ b) ?_;intro k o b;split at b
 ·
  rename_i e;subst e;cases b;exact⟨heap_alloc_new w _,eI _⟩
 · cases b
theorem Holds.oE{o:Obj}(h:Holds W H w):Holds W (At w.heap.size o::H) (w.alloc o):=by
 refine h.new _ _ (λk=>if k=w.heap.size then some o else none) (by simp[At]) rfl rfl rfl (by simp) (λk b=>Below.heap_alloc _ _ _ b) ?_;intro k o b;split at b
 ·
  rename_i e;subst e;cases b;exact⟨heap_alloc_new w _,eI _⟩
 · cases b
end
end Go.Sl
namespace Go.Sl
open Go.RowKit
section
variable{P:Program}{W w:World}{H H':List ab}{ops:Array Oper}{rest:List Oper}{a:Act}{Q:Exit->Act->World->Prop}{K:Act->World->Prop}
theorem Qk{o:Oper}(b:Region.wanted o (yielded ops a.tmps)=true)(h:∀K:Act->World->Prop,(∀a w,wpList P ops Q rest a w->K a w)->o.wp P a w K Q):wpList P ops Q (o::rest) a w:=
 BigFrame.wpList_want b h
theorem tN{t:TypeId}{b:Addr}{v:Value}(e:∀w,(isAgg t).run P w= .ok false w)(g:w.cell? b=some v):(loadVar t b).run P w= .ok v w:=by
 simp[loadVar,Sem.run_bind,e,load,Sem.run,g]
theorem yU{t:TypeId}{b off:Nat}{v u:Value}(i:v.oneCell'=true)(h:∀w,(sizeOf t).run P w= .ok 1 w)(j:w.cell? ⟨b,off,none⟩=some u)(k:w.frozen? ⟨b,off,none⟩=false):
  (storeVar t ⟨b,off,none⟩ v).run P w= .ok () (w.setCell ⟨b,off,none⟩ v):=by
 have e:v.cells=#[v]:=by cases v<;>simp_all [Value.oneCell',Value.cells]
 have g:(⟨b,off,none⟩:Addr).add 0=⟨b,off,none⟩:=rfl;simp only[storeVar,Sem.run_bind,h,Result.andThen_ok,e,List.size_toArray,tc,List.length_nil,PA,ne_eq,not_true_eq_false,if_false,storeCells,g];cases v<;>simp_all [store,Sem.run,Value.oneCell',pure,Result.andThen]
structure cH(P:Program)(t e:TypeId)(z:Value)(size bytes:Nat):Prop where
  tZ:P.underlying t=some (.slice e)
  info:(P.info? e).map (λi=>(i.zero,i.size,i.bytes))=some (some z,size,bytes)
  zs:z.cells.size=size
  z1:∀u∈z.cells.toList,u.oneCell'=true
def Own(e:TypeId)(sz:Nat)(v:Value)(n:Nat)(xs:List Value):ab:=λh=>
  xs.length=n*sz/\((v= .slice none 0 0/\n=0)\/
    ∃b cap spare,v= .slice (ik b) n cap/\n<=cap/\cap<=maxLen/\(xs++spare).length=cap*sz/\Row b e (xs++spare) h)
theorem Holds.aZ(e:TypeId)(sz:Nat)(b:Holds W H w):Holds W (Own e sz (.slice none 0 0) 0 []::H) w:=
 b.new w _ (λ_=>none) ⟨by simp,.inl ⟨rfl,rfl⟩⟩ rfl rfl rfl (eI _) (λ_ _=>rfl) (λ_ _ h=>by cases h)
theorem Holds.gy{e:TypeId}{sz n:Nat}{v:Value}{xs:List Value}{R:List ab}(r:Holds W (Own e sz v n xs::R) w):
  xs.length=n*sz/\((v= .slice none 0 0/\n=0/\Holds W R w)\/
  ∃b cap spare,v= .slice (ik b) n cap/\n<=cap/\cap<=maxLen/\(xs++spare).length=cap*sz/\Holds W (Row b e (xs++spare)::R) w):=by
 obtain⟨h,i,j,a,b,c,⟨l,d⟩,k⟩:=r;refine⟨l,?_⟩;rcases d with⟨rfl,rfl⟩|⟨g,cap,spare,rfl,o,m,q,p⟩
 · exact .inl ⟨rfl,rfl,h,star.up b k⟩
 · exact .inr ⟨g,cap,spare,rfl,o,m,q,h,i,j,a,b,c,p,k⟩
theorem Holds.MX{e:TypeId}{sz n:Nat}{v:Value}{xs:List Value}{R:List ab}(g:Holds W (Own e sz v n xs::R) w):∃ao cap,v= .slice ao n cap:=by
 rcases g.gy.2 with⟨rfl,rfl,_⟩|⟨b,cap,_,rfl,_⟩
 · exact⟨_,_,rfl⟩
 · exact⟨_,_,rfl⟩
theorem Holds.fS{e:TypeId}{sz n b cap:Nat}{xs spare:List Value}{R:List ab}(g:xs.length=n*sz)(j:n<=cap)(i:cap<=maxLen)(k:(xs++spare).length=cap*sz)
  (l:Holds W (Row b e (xs++spare)::R) w):Holds W (Own e sz (.slice (ik b) n cap) n xs::R) w:=
 l.cons λ_ h=>⟨g,.inr ⟨b,cap,spare,rfl,j,i,k,h⟩⟩
structure jW(w:World)(sz:Nat)(v:Value)(n:Nat)(xs:List Value):Prop where
  len:xs.length=n*sz
  one:∀u∈xs,u.oneCell'=true
  at_:(∃c,v= .slice none 0 c/\n=0)\/∃a c,v= .slice (some a) n c/\∀j u,xs[j]?=some u->w.cell? (a.add j)=some u
theorem jW.own{e:TypeId}{sz n:Nat}{v:Value}{xs:List Value}(i:∀u∈xs,u.oneCell'=true)(l:Holds W H w)(m:Own e sz v n xs∈H):jW w sz v n xs:=by
 obtain⟨R,p⟩:=ja m;obtain⟨k,h⟩:=(l.perm p).gy;refine⟨k,i,?_⟩;rcases h with⟨rfl,rfl,_⟩|⟨b,cap,spare,rfl,_,_,_,h⟩
 · exact .inl ⟨0,rfl,rfl⟩
 ·
  refine .inr ⟨_,cap,rfl,λj u g=>?_⟩;have o:=h.cell (off:=j) (v:=u) (.head _) (by rw[Ah (HE.1 g).1];exact g);rwa [show(⟨b,0,none⟩:Addr).add j=⟨b,j,none⟩by unfold Addr.add;split<;>simp_all]
theorem jW.row{e:TypeId}{sz n b cap:Nat}{xs ys:List Value}(h:∀u∈xs,u.oneCell'=true)(i:xs.length=n*sz)(k:Holds W H w)(m:Row b e (xs++ys)∈H):jW w sz (.slice (ik b) n cap) n xs:=by
 refine⟨i,h,.inr ⟨_,cap,rfl,λj u g=>?_⟩⟩;have l:=k.cell (off:=j) (v:=u) m (by rw[Ah (HE.1 g).1];exact g);rwa [show(⟨b,0,none⟩:Addr).add j=⟨b,j,none⟩by unfold Addr.add;split<;>simp_all]
theorem jW.src{sz n:Nat}{v:Value}{xs:List Value}(i:jW w sz v n xs){tx e':TypeId}(b:P.underlying tx=some (.slice e')):Src P sz tx v n xs w:=by
 obtain⟨e,g,h⟩:=i;rcases h with⟨c,rfl,rfl⟩|⟨a,c,rfl,h⟩
 ·
  have:xs=[]:=List.eq_nil_of_length_eq_zero (by simpa using e);subst this;exact Src.ofNil w b c
 · exact Src.ofSlice w b a n c xs e h g
theorem sv{b:Nat}{T:TypeId}:∀(vs:List Value)(o:Nat)(cs:List Value)(w:World),w.heap[b]?=some (.cells cs.toArray T (0,0))->o+vs.length<=cs.length->
    (w.setCells b o vs).heap[b]?=some (.cells (cs.take o++vs++cs.drop (o+vs.length)).toArray T (0,0))/\(∀k,k≠b->(w.setCells b o vs).heap[k]?=w.heap[k]?)/\
      (w.setCells b o vs).heap.size=w.heap.size/\(w.setCells b o vs).os=w.os/\(w.setCells b o vs).tape=w.tape/\(w.setCells b o vs).output=w.output
  |[],o,cs,w,h,_=>by simp[World.setCells,h]
  |v::r,o,cs,w,h,q=>by
    have g:=heap_setCell_same w b o cs.toArray T v h;simp only[List.setIfInBounds_toArray]at g;simp only[tc]at q;obtain⟨j,a2,a3,a4,a5,l⟩:=sv r (o+1) (cs.set o v) _ g (by simp;omega);refine⟨?_,λk i=>?_,?_,a4,a5,l⟩
    · rw[World.setCells,j]
      congr 3
      have e:o<cs.length:=by omega
      have m:(cs.set o v).take (o+1)=cs.take o++[v]:=by
        rw[nZ (by simpa using e)];simp[List.take_set_of_le]
      have p:(cs.set o v).drop (o+1+r.length)=cs.drop (o+(v::r).length):=by
        rw[List.drop_set_of_lt zO];simp;congr 1;omega
      rw[m,p];simp
    · rw[World.setCells,a2 k i];exact heap_setCell_other w _ k v i
    · rw[World.setCells,a3];simp
theorem Holds.setCells{b o:Nat}{T:TypeId}{cs vs:List Value}{C:ab->List ab}(h:Holds W H w)(u:eQ H (Row b T cs) C)(j:o+vs.length<=cs.length):
  Holds W (C (Row b T (cs.take o++vs++cs.drop (o+vs.length)))) (w.setCells b o vs):=by
 obtain⟨R,p,q⟩:=u.perm;have i:=((h.perm p).at (.head _)).2;obtain⟨e,a2,a3,a4,a5,g⟩:=sv vs o cs w i j;exact h.put u a4 a5 g a3 a2 e
theorem Holds.append{t tx e ty:TypeId}{z:Value}{sz q n m:Nat}{v x:Value}{xs news:List Value}{R:List ab}(st:cH P t e z sz q)(X:Holds W (Own e sz v n xs::R) w)(l:Src P sz tx x m news w)
  (r:n+m<=maxLen)(O:(n+m)*q<=140737488355328):
  ∃v' Z,(Builtin.append_ #[t,tx] ty #[v,x]).run P w= .ok v' Z/\Holds W (Own e sz v' (n+m) (xs++news)::R) Z:=by
 obtain⟨i,s,Y,J,D⟩:=info_parts st.info;subst J;subst D;have B:n+m<=9223372036854775807:=by simp only[maxLen]at r;omega
 obtain⟨A,hv⟩:=X.gy;have h:(xs++news).length=(n+m)*i.size:=by rw[c9,A,l.newsLen,Tk]
 -- a new row
 have grown:∀CE,CE<n+m->Holds W R w->Holds W (Own e i.size (.slice (ik w.heap.size) (n+m) (grownCap w (n+m) CE e)) (n+m) (xs++news)::R)
   (w.drew.alloc (.cells ((xs++news).toArray++Builtin.zeroCells z.cells (grownCap w (n+m) CE e-(n+m))) e)):=by
  intro CE ho k;have G:=grownCap_ge w (n+m) CE e;have E:grownCap w (n+m) CE e<=maxLen:=grownCap_le_maxLen w (n+m) CE e r;have ha:=(k.drew).alloc (T:=e) (cs:=(xs++news)++(Builtin.zeroCells z.cells (grownCap w (n+m) CE e-(n+m))).toList);have ee:((xs++news)++(Builtin.zeroCells z.cells (grownCap w (n+m) CE e-(n+m))).toList).toArray=(xs++news).toArray++Builtin.zeroCells z.cells (grownCap w (n+m) CE e-(n+m)):=by
   apply Array.ext';simp
  rw[<-ee];refine Holds.fS h G E ?_ ha;rw[c9,h];simp only[Array.length_toList,size_zeroCells,st.zs,<-Tk];congr 1;omega
 rcases hv with⟨rfl,rfl,k⟩|⟨b,cap,spare,rfl,V,hm,U,k⟩
 ·
  have hx:xs=[]:=List.eq_nil_of_length_eq_zero (by simpa using A);subst hx;by_cases h0:m=0
  ·
   subst h0;have V:news=[]:=List.eq_nil_of_length_eq_zero (by simpa using l.newsLen);subst V;refine⟨.slice none 0 0,w,?_,by simpa using X⟩;rcases l.kind with⟨e',hk⟩|hk<;>simp[Builtin.append_,run_underlying st.tZ,run_underlying hk,sizeOf,typeInfo,s,l.len,l.cells]
  ·
   refine⟨_,_,run_append_grow_src w t tx ty e i z st.tZ s Y none 0 0 [] (run_firstCells_none _ _ _ _ _) x m news l zO zO (growslice_fits zO O),?_⟩;exact grown 0 zO k
 ·
  by_cases g:n+m<=cap
  ·
   have p:n*i.size+news.length<=(xs++spare).length:=by rw[l.newsLen,U,<-Tk];exact u0 _ g
   refine⟨_,_,run_append_room_src w t tx ty e i st.tZ s b 0 n cap x m news l g (λj y=>?_) (λj y=>k.free (.head _)),?_⟩
   ·
    have I:0+n*i.size+j<(xs++spare).length:=by omega
    rw[k.cell (.head _) (fL I)];rfl
   ·
    have M:=k.setCells (o:=n*i.size) (vs:=news) .head p;have e1:(xs++spare).take (n*i.size)=xs:=by rw[<-A];simp
    rw[e1]at M;rw[PA];refine Holds.fS h g hm ?_ M;rw[<-U];simp only[c9,CC]at p⊢;omega
  ·
   have hold:(Builtin.firstCells i.size n (.slice (ik b) n cap)).run P w.drew= .ok xs.toArray w.drew:=by
    refine run_firstCells_some w.drew i.size n _ n cap xs A λj u y=>?_;have:=k.cell (off:=j) (v:=u) (.head _) (by rw[Ah (HE.1 y).1];exact y);rwa [show(⟨b,0,none⟩:Addr).add j=⟨b,j,none⟩by unfold Addr.add;split<;>simp_all]
   refine⟨_,_,run_append_grow_src w t tx ty e i z st.tZ s Y _ n cap xs hold x m news l zO zO (growslice_fits zO O),?_⟩;exact grown cap zO k.tail
end
end Go.Sl
namespace Go.Sl
open Go.RowKit
def wJ(P:Program)(s i:Nat):Option Nat:=
  match P.underlying s with
  |some (.struct b)=>match b[i]? with
    |some fd=>if P.cellsOf fd.type=0 then none else some fd.offset
    |none=>none
  |_=>none
def assoc{α:Type}:List (Nat×α)->Nat->Option α
  |[],_=>none
  |(k,v)::r,d=>bif Nat.beq k d then some v else assoc r d
theorem jG{α:Type}:∀{l:List (Nat×α)}{d:Nat}{v:α},assoc l d=some v->(d,v)∈l
  |(k,u)::r,d,v,h=>by
    unfold assoc at h;cases b:Nat.beq k d with
    |true=>
      have:k=d:=by simpa using b
      subst this;rw[b]at h;cases h;exact .head _
    |false=>rw[b]at h;exact .tail _ (jG h)
def QE(P:Program)(t:Nat):Bool:=
  match P.underlying t with
  |some (.struct _)|some (.array _ _)|none=>false
  |some _=>P.cellsOf t==1
def Ta(P:Program)(t n:Nat):Bool:=
  match P.underlying t with
  |some (.struct _)|some (.array _ _)=>P.cellsOf t==n&&(P.info? t).isSome
  |_=>false
def sliceB(P:Program)(t e:Nat):Bool:=
  match P.underlying t with
  |some (.slice d)=>Nat.beq d e
  |_=>false
def Tg(P:Program)(t:Nat)(k:IntKind):Bool:=
  match P.underlying t with
  |some (.int j)=>decide (j=k)
  |_=>false
def Dc(P:Program)(t c e:Nat):Bool:=
  match P.underlying t with
  |some (.pointer d)=>Nat.beq c 0&&Nat.beq d e
  |some .bool=>Nat.beq c 1
  |some .string=>Nat.beq c 2
  |_=>false
structure aI where
  fq:List (Nat×List Nat)
  leaf:List (Nat×Unit)
  vX:List (Nat×Nat)
  H7:List (Nat×Nat)
  ints:List (Nat×IntKind)
  nY:List (Nat×Nat×Nat)
def aI.ok(T:aI)(P:Program):Bool:=
  (T.fq.all λx=>x.2.zipIdx.all λy=>wJ P x.1 y.2==some y.1)&&(T.leaf.all λx=>QE P x.1)&&(T.vX.all λx=>Ta P x.1 x.2)&&(T.H7.all λx=>sliceB P x.1 x.2)&&(T.ints.all λx=>Tg P x.1 x.2)&&T.nY.all λx=>Dc P x.1 x.2.1 x.2.2
def aI.Tf(T:aI)(s i:Nat):Option Nat:=(assoc T.fq s).bind (·[i]?)
theorem aI.L9{T:aI}{P:Program}(h:T.ok P=true){s i off:Nat}(b:T.Tf s i=some off):wJ P s i=some off:=by
 simp only[aI.ok,mV,List.all_eq_true]at h;unfold aI.Tf at b;obtain⟨l,e,g⟩:=Option.bind_eq_some_iff.1 b;have:=h.1.1.1.1.1 _ (jG e) (off,i) (by rw[List.mk_mem_zipIdx_iff_getElem?];exact g);simpa using this
theorem aI.l3{T:aI}{P:Program}(h:T.ok P=true){t:Nat}(j:assoc T.leaf t=some ()):(∀w,(isAgg t).run P w= .ok false w)/\∀w,(sizeOf t).run P w= .ok 1 w:=by
  simp only[aI.ok,mV,List.all_eq_true]at h;have:=h.1.1.1.1.2 _ (jG j);unfold QE at this;cases g:P.underlying t with
  |none=>simp[g]at this
  |some d=>
    rw[g]at this;have e:P.cellsOf t=1:=by cases d<;>simp_all
    refine⟨λw=>?_,λw=>?_⟩
    · unfold isAgg
      rw[Sem.run_bind,run_underlying g w]
      cases d<;>simp_all
    · unfold Program.cellsOf at e
      cases b:P.info? t with
      |none=>simp[b]at e
      |some i=>
        have:i.size=1:=by simpa[b]using e
        simp[sizeOf,typeInfo,b,this]
theorem aI.sM{T:aI}{P:Program}(h:T.ok P=true){t n:Nat}(j:assoc T.vX t=some n):(∀w,(isAgg t).run P w= .ok true w)/\∀w,(sizeOf t).run P w= .ok n w:=by
  simp only[aI.ok,mV,List.all_eq_true]at h;have:=h.1.1.1.2 _ (jG j);unfold Ta at this;cases e:P.underlying t with
  |none=>simp[e]at this
  |some d=>
    rw[e]at this;have b:P.cellsOf t=n/\(P.info? t).isSome=true:=by cases d<;>simp_all
    refine⟨λw=>?_,λw=>?_⟩
    · unfold isAgg
      rw[Sem.run_bind,run_underlying e w]
      cases d<;>simp_all
    · obtain⟨i,g⟩:=Option.isSome_iff_exists.1 b.2
      have b:=b.1
      unfold Program.cellsOf at b
      have:i.size=n:=by simpa[g]using b
      simp[sizeOf,typeInfo,g,this]
theorem aI.jh{T:aI}{P:Program}(h:T.ok P=true){t e:Nat}(g:assoc T.H7 t=some e):P.underlying t=some (.slice e):=by
 simp only[aI.ok,mV,List.all_eq_true]at h;have:=h.1.1.2 _ (jG g);unfold sliceB at this;split at this
 ·
  rename_i d b;have:d=e:=by simpa using this
  rw[b,this]
 · cases this
theorem aI.wW{T:aI}{P:Program}(h:T.ok P=true){t:Nat}{k:IntKind}(e:assoc T.ints t=some k):P.underlying t=some (.int k):=by
 simp only[aI.ok,mV,List.all_eq_true]at h;have:=h.1.2 _ (jG e);unfold Tg at this;split at this
 ·
  rename_i d b;have:d=k:=by simpa using this
  rw[b,this]
 · cases this
theorem aI.Bk{T:aI}{P:Program}(h:T.ok P=true){t c e:Nat}(b:assoc T.nY t=some (c,e)):Dc P t c e=true:=by
 simp only[aI.ok,mV,List.all_eq_true]at h;exact h.2 _ (jG b)
theorem aI.R5{T:aI}{P:Program}(h:T.ok P=true){t e:Nat}(g:assoc T.nY t=some (0,e)):P.underlying t=some (.pointer e):=by
 have:=T.Bk h g;unfold Dc at this;split at this
 ·
  rename_i d b;have:d=e:=by simpa using this
  rw[b,this]
 all_goals simp at this
theorem aI.OJ{T:aI}{P:Program}(h:T.ok P=true){t e:Nat}(b:assoc T.nY t=some (1,e)):P.underlying t=some .bool:=by
 have:=T.Bk h b;unfold Dc at this;split at this
 · simp at this
 · assumption
 all_goals simp at this
theorem aI.AI{T:aI}{P:Program}(h:T.ok P=true){t e:Nat}(b:assoc T.nY t=some (2,e)):P.underlying t=some .string:=by
 have:=T.Bk h b;unfold Dc at this;split at this
 · simp at this
 · simp at this
 · assumption
 all_goals simp at this
abbrev Fr:=List (Nat×Value)
def look:Fr->Nat->Option Value
  |[],_=>none
  |(k,v)::r,d=>bif Nat.beq k d then some v else look r d
structure bS(n:Nat)(f:Fr)(t:Array Value):Prop where
  size:t.size=n
  get:∀d v,look f d=some v->t[d]?=some v
def aD(f:Fr):Operand->Option Value
  | .tmp t=>look f t
  | .const v=>some v
  | .global g=>some (ip g)
  | .func g=>some (.func (.func g) #[] #[])
def jo(f:Fr):List Operand->Option (List Value)
  |[]=>some []
  |x::r=>match aD f x,jo f r with
    |some v,some vs=>some (v::vs)
    |_,_=>none
theorem bS.eval{n:Nat}{f:Fr}{t:Array Value}(h:bS n f t){x:Operand}{v:Value}(b:aD f x=some v):Act.eval ⟨t,[]⟩ x=v:=by
  cases x with
  |tmp d=>
    have:=h.get d v b;simp[Act.eval,this]
  |const u=>simpa[aD,Act.eval]using b
  |global g=>simpa[aD,Act.eval]using b
  |func g=>simpa[aD,Act.eval]using b
theorem bS.args{n:Nat}{f:Fr}{t:Array Value}(h:bS n f t):∀{xs:List Operand}{vs:List Value},jo f xs=some vs->xs.map (Act.eval ⟨t,[]⟩)=vs
  |[],vs,e=>by simp[jo]at e;simp[e]
  |x::r,vs,e=>by
    unfold jo at e;split at e
    · rename_i v ws b g
      cases e
      simp[h.eval b,h.args g]
    · cases e
theorem bS.put{n d:Nat}{f:Fr}{t:Array Value}{v:Value}(h:bS n f t)(k:Nat.blt d n=true):bS n ((d,v)::f) (t.setIfInBounds d v):=by
  refine⟨by simp[h.size],λe u g=>?_⟩;unfold look at g;cases i:Nat.beq d e with
  |true=>
    have b:d=e:=by simpa using i
    subst b;rw[i]at g;cases g;have:d<t.size:=by rw[h.size];simpa[Nat.blt_eq]using k
    simp[this]
  |false=>
    have b:d≠e:=by intro j;subst j;simp at i
    rw[i]at g;rw[Array.getElem?_setIfInBounds_ne b];exact h.get e u g
theorem bS.again{n d:Nat}{f:Fr}{t:Array Value}{v:Value}(h:bS n f t)(j:look f d=some v):bS n ((d,v)::f) t:=by
  refine⟨h.size,λe u b=>?_⟩;unfold look at b;cases g:Nat.beq d e with
  |true=>
    have i:d=e:=by simpa using g
    subst i;rw[g]at b;cases b;exact h.get d _ j
  |false=>rw[g]at b;exact h.get e u b
def yF:Fr->Fr->Prop
  |[],_=>True
  |(d,v)::r,f=>look f d=some v/\yF r f
theorem b7{f:Fr}{d:Nat}{u v:Value}(h:look f d=some u)(e:u=v):look f d=some v:=e▸h
theorem bS.sub{n:Nat}{f:Fr}{t:Array Value}(h:bS n f t):∀{F:Fr},yF F f->bS n F t
  |[],_=>⟨h.size,λ_ _ e=>by cases e⟩
  |(d,v)::r,⟨j,k⟩=>by
    have l:=h.sub k;refine⟨h.size,λe u b=>?_⟩;unfold look at b;cases g:Nat.beq d e with
    |true=>
      have i:d=e:=by simpa using g
      subst i;rw[g]at b;cases b;exact h.get d _ j
    |false=>rw[g]at b;exact l.get e u b
def vZ:Nat->List Value->Fr
  |_,[]=>[]
  |i,v::r=>(i,v)::vZ (i+1) r
theorem Ak:∀(vs:List Value)(i d:Nat)(v:Value),look (vZ i vs) d=some v->i<=d/\vs[d-i]?=some v
  |[],_,_,_,h=>by cases h
  |u::r,i,d,v,h=>by
    unfold vZ look at h;cases b:Nat.beq i d with
    |true=>
      have:i=d:=by simpa using b
      subst this;rw[b]at h;cases h;simp
    |false=>
      have j:i≠d:=by intro e;subst e;simp at b
      rw[b]at h;obtain⟨k,g⟩:=Ak r (i+1) d v h;refine⟨by omega,?_⟩;rw[show d-i=d-(i+1)+1 by omega];simpa using g
theorem bS.start(vs:List Value)(n:Nat)(h:vs.length<=n):bS n (vZ 0 vs) (vs.toArray++Array.replicate (n-vs.toArray.size) undef):=by
 refine⟨by simp;omega,λd v g=>?_⟩;obtain⟨_,b⟩:=Ak vs 0 d v g;simp only[Nat.sub_zero]at b;have e:=(HE.1 b).1;rw[Array.getElem?_append_left (by simpa using e)];simpa using b
def Cd.l:Code->Code
  | .seq a _=>a| .block _ b=>b| .loop b=>b| .cond _ a _=>a| .scope b=>b|c=>c
def Cd.r:Code->Code
  | .seq _ b=>b| .cond _ _ b=>b|c=>c
def Ad:Code->Bool| .seq _ _=>true|_=>false
def BD:Code->Bool| .skip=>true|_=>false
def Hy:Code->Bool| .ret=>true|_=>false
def gX:Code->Bool| .cond _ _ _=>true|_=>false
def s9:Code->Bool| .loop _=>true|_=>false
def va:Code->Option Nat| .block i _=>some i|_=>none
def Bo:Code->Option Nat| .exit i=>some i|_=>none
def mj:Code->Operand| .cond c _ _=>c|_=>.const undef
def dg:Code->Option Bool| .region _ _ d=>some d|_=>none
def aG:Code->List Oper| .region _ ops _=>ops.toList|_=>[]
def gq(fn:Func):Code:=fn.body.getD .skip
def gA(ops:List Oper)(g:Option (Nat×Bool))(f:Fr):Option Bool:=
  match g with
  |none=>some true
  |some (j,want)=>match(ops[j]?).bind (·.dst)with
    |none=>some false
    |some t=>match look f t with
      |some (.bool b)=>some (b==want)
      |some _=>some false
      |none=>none
def kT(ops:List Oper)(g:Option (Nat×Bool)):Option Nat:=g.bind λj=>(ops[j.1]?).bind (·.dst)
theorem bS.wanted{n:Nat}{f:Fr}{t:Array Value}(h:bS n f t){ops:List Oper}{o:Oper}{b:Bool}(e:gA ops o.guard f=some b):Region.wanted o (yielded ops.toArray t)=b:=by
  unfold gA at e;unfold Region.wanted;cases k:o.guard with
  |none=>simp[k]at e;simp[e]
  |some l=>
    obtain⟨j,want⟩:=l;simp only[k]at e⊢;unfold yielded;simp only[List.getElem?_toArray];cases i:(ops[j]?).bind (·.dst)with
    |none=>simp[i]at e;simp[e]
    |some s=>
      simp only[i]at e;simp only[Option.bind_some];cases g:look f s with
      |none=>simp[g]at e
      |some v=>
        rw[g]at e;rw[h.get s v g];cases v<;>simp_all
section
variable{W:World}{P:Program}{n:Nat}{c:Code}{Q:Exit->Act->World->Prop}{H H' L S:List ab}{f F:Fr}
def ae(W:World)(H L:List ab):Prop:=∀w,Holds W H w->Holds W L w
theorem aP.aR(r:aP H L):ae W H L:=λ_ h=>h.fk r
theorem ae.drop{p:ab}(h:ae W H L):ae W (p::H) L:=λ_ k=>h _ k.tail
theorem ae.refl:ae W H H:=λ_ h=>h
theorem ae.trans(a:ae W H H')(b:ae W H' L):ae W H L:=λw h=>b w (a w h)
def VC(W:World)(P:Program)(n:Nat)(c:Code)(Q:Exit->Act->World->Prop)(H:List ab)(f:Fr):Prop:=
  ∀t w,bS n f t->Holds W H w->c.wp P Q ⟨t,[]⟩ w
def VO(W:World)(P:Program)(n:Nat)(c:Code)(k:Nat)(Q:Exit->Act->World->Prop)(H:List ab)(f:Fr):Prop:=
  ∀t w,bS n f t->Holds W H w->wpList P (aG c).toArray Q ((aG c).drop k) ⟨t,[]⟩ w
def VE(W:World)(n:Nat)(Q:Exit->Act->World->Prop)(e:Exit)(H:List ab)(f:Fr):Prop:=
  ∀t w,bS n f t->Holds W H w->Q e ⟨t,[]⟩ w
def ay(W:World)(P:Program)(n:Nat)(o:Oper)(Q:Exit->Act->World->Prop)(H:List ab)(f:Fr)(N:List ab->Fr->Prop):Prop:=
  ∀t w,bS n f t->Holds W H w->∀K:Act->World->Prop,(∀H' b,N H' b->∀t' e,bS n b t'->Holds W H' e->K ⟨t',[]⟩ e)->o.wp P ⟨t,[]⟩ w K Q
def mQ(P:Program)(c:Code)(Q:Exit->Act->World->Prop):Exit->Act->World->Prop:=Exit.then (c.wp P Q) Q
def mi(i:Nat)(Q:Exit->Act->World->Prop):Exit->Act->World->Prop:=Exit.inBlock i Q
def xl{α:Type}(W:World)(n:Nat)(A:α->Prop)(G:α->List ab)(F:α->Fr)(m:α->Nat)(k:Nat)(Q:Exit->Act->World->Prop):Exit->Act->World->Prop:=
  Exit.then (λb e=>∃y t',b=⟨t',[]⟩/\A y/\m y<k/\bS n (F y) t'/\Holds W (G y) e) Q
theorem VC.seq(b:Ad c=true)(h:VC W P n (Cd.l c) (mQ P (Cd.r c) Q) H f):VC W P n c Q H f:=by
 cases c<;>simp[Ad]at b;exact λt w e g=>wp_seq (h t w e g)
theorem VC.skip(b:BD c=true)(h:VE W n Q .normal H f):VC W P n c Q H f:=by
 cases c<;>simp[BD]at b;exact λt w e g=>wp_skip (h t w e g)
theorem VC.ret(b:Hy c=true)(h:VE W n Q .ret H f):VC W P n c Q H f:=by
 cases c<;>simp[Hy]at b;exact λt w e g=>wp_ret (h t w e g)
theorem VC.exit{i:Nat}(b:Bo c=some i)(h:VE W n Q (.exit i) H f):VC W P n c Q H f:=by
 cases c<;>simp[Bo]at b;subst b;exact λt w e g=>wp_exit (h t w e g)
theorem VC.block{i:Nat}(b:va c=some i)(h:VC W P n (Cd.l c) (mi i Q) H f):VC W P n c Q H f:=by
 cases c<;>simp[va]at b;subst b;exact λt w e g=>wp_block (h t w e g)
theorem VC.zC(e:gX c=true)(g:aD f (mj c)=some (.bool true))(h:VC W P n (Cd.l c) Q H f):VC W P n c Q H f:=by
 cases c<;>simp[gX]at e;exact λt w b i=>wp_cond_true (b.eval g) (h t w b i)
theorem VC.zA(e:gX c=true)(g:aD f (mj c)=some (.bool false))(h:VC W P n (Cd.r c) Q H f):VC W P n c Q H f:=by
 cases c<;>simp[gX]at e;exact λt w b i=>wp_cond_false (b.eval g) (h t w b i)
theorem VC.cond{b:Bool}(i:gX c=true)(l:aD f (mj c)=some (.bool b))(k:b=true->VC W P n (Cd.l c) Q H f)(j:b=false->VC W P n (Cd.r c) Q H f):VC W P n c Q H f:=by
 cases c<;>simp[gX]at i;exact λt w g h=>wp_cond_split (g.eval l) (λe=>k e t w g h) (λe=>j e t w g h)
theorem VC.cU{b:Bool}(g:gX c=true)(i:aD f (mj c)=some (.bool b))(e:b=true)(h:VC W P n (Cd.l c) Q H f):VC W P n c Q H f:=VC.zC g (e▸i) h
theorem VC.aK{b:Bool}(g:gX c=true)(i:aD f (mj c)=some (.bool b))(e:b=false)(h:VC W P n (Cd.r c) Q H f):VC W P n c Q H f:=VC.zA g (e▸i) h
theorem VC.region(b:dg c=some false)(h:VO W P n c 0 Q H f):VC W P n c Q H f:=by
 cases c<;>simp[dg]at b;subst b;intro t w e g;have:=h t w e g;simp only[aG,KP,Array.toArray_toList]at this;exact wp_region_list this
theorem VC.SI(b:yF F f)(e:ae W H H')(h:VC W P n c Q H' F):VC W P n c Q H f:=λt w g i=>h t w (g.sub b) (e w i)
theorem VC.aR(b:ae W H H')(h:VC W P n c Q H' f):VC W P n c Q H f:=λt w e g=>h t w e (b w g)
theorem VO.aR{k:Nat}(b:ae W H H')(h:VO W P n c k Q H' f):VO W P n c k Q H f:=λt w e g=>h t w e (b w g)
theorem VE.aR{e:Exit}(b:ae W H H')(h:VE W n Q e H' f):VE W n Q e H f:=λt w g i=>h t w g (b w i)
theorem VC.obtain{α:Sort _}{G:α->List ab}(b:∀w,Holds W H w->∃x,Holds W (G x) w)(h:∀x,VC W P n c Q (G x) f):VC W P n c Q H f:=
 λt w e g=>let⟨x,i⟩:=b w g;h x t w e i
theorem VO.obtain{α:Sort _}{k:Nat}{G:α->List ab}(b:∀w,Holds W H w->∃x,Holds W (G x) w)(h:∀x,VO W P n c k Q (G x) f):VO W P n c k Q H f:=
 λt w e g=>let⟨x,i⟩:=b w g;h x t w e i
theorem VC.bH{p:Prop}(e:∀w,Holds W H w->p)(h:p->VC W P n c Q H f):VC W P n c Q H f:=λt w g b=>h (e w b) t w g b
theorem VO.bH{k:Nat}{p:Prop}(e:∀w,Holds W H w->p)(h:p->VO W P n c k Q H f):VO W P n c k Q H f:=λt w g b=>h (e w b) t w g b
theorem VC.re{v:Value}(d:Nat)(v':Value)(g:look f d=some v)(e:v=v')(h:VC W P n c Q H ((d,v')::f)):VC W P n c Q H f:=λt w b i=>h t w (b.again (e▸g)) i
theorem VO.re{v:Value}{k:Nat}(d:Nat)(v':Value)(g:look f d=some v)(e:v=v')(h:VO W P n c k Q H ((d,v')::f)):VO W P n c k Q H f:=λt w b i=>h t w (b.again (e▸g)) i
theorem VE.next(h:VC W P n c Q H f):VE W n (mQ P c Q) .normal H f:=h
theorem VE.pY(h:VE W n Q .ret H f):VE W n (mQ P c Q) .ret H f:=h
theorem VE.mI{i:Nat}(h:VE W n Q (.exit i) H f):VE W n (mQ P c Q) (.exit i) H f:=h
theorem VE.vF{α:Type}{A:α->Prop}{G:α->List ab}{F:α->Fr}{m:α->Nat}{k:Nat}(h:VE W n Q .ret H f):VE W n (xl W n A G F m k Q) .ret H f:=h
theorem VE.r6{α:Type}{A:α->Prop}{G:α->List ab}{F:α->Fr}{m:α->Nat}{k i:Nat}(h:VE W n Q (.exit i) H f):VE W n (xl W n A G F m k Q) (.exit i) H f:=h
theorem VE.lV{i:Nat}(h:VE W n Q .normal H f):VE W n (mi i Q) .normal H f:=h
theorem VE.rM{i:Nat}(h:VE W n Q .ret H f):VE W n (mi i Q) .ret H f:=h
theorem VE.rL{i:Nat}(h:VE W n Q .normal H f):VE W n (mi i Q) (.exit i) H f:=λt w b e=>by
 have:=h t w b e;simpa[mi,Exit.inBlock]using this
theorem VE.sO{i j:Nat}(g:Nat.beq j i=false)(h:VE W n Q (.exit j) H f):VE W n (mi i Q) (.exit j) H f:=λt w k l=>by
 have:=h t w k l;have b:j≠i:=by intro e;subst e;simp at g
 simpa[mi,Exit.inBlock,b]using this
theorem VC.loop{α:Type}(A:α->Prop)(G:α->List ab)(F:α->Fr)(m:α->Nat)(z:s9 c=true)(b:α)(j:A b)(v:ae W H (G b))(u:yF (F b) f)
    (round:∀x,A x->VC W P n (Cd.l c) (xl W n A G F m (m x) Q) (G x) (F x)):VC W P n c Q H f:=by
  cases c<;>simp[s9]at z;intro t w B D;refine wp_loop_ghost (λk a w=>∃x t',a=⟨t',[]⟩/\A x/\m x=k/\bS n (F x) t'/\Holds W (G x) w) (m b) ⟨b,t,rfl,j,rfl,B.sub u,v w D⟩ ?_;rintro k a w ⟨x,t',rfl,s,rfl,g,h⟩;refine Code.wp_mono ?_ (round x s t' w g h);intro e a w q;cases e with
  |normal=>
    obtain⟨y,i,rfl,l,o,p,r⟩:=q;exact⟨m y,o,y,i,rfl,l,rfl,p,r⟩
  |_=>exact q
theorem VE.round{α:Type}{A:α->Prop}{G:α->List ab}{F:α->Fr}{m:α->Nat}{k:Nat}(y:α)(b:A y)(i:m y<k)(e:yF (F y) f)(g:ae W H (G y)):
  VE W n (xl W n A G F m k Q) .normal H f:=
 λt w h j=>⟨y,t,rfl,b,i,h.sub e,g w j⟩
theorem VO.nil{k:Nat}(e:(aG c)[k]?=none)(h:VE W n Q .normal H f):VO W P n c k Q H f:=by
 intro t w b g;rw[SQ (by simpa using e)];exact wpList_nil (h t w b g)
theorem lX{k:Nat}{o:Oper}{l:List Oper}(g:l[k]?=some o):l.drop k=o::l.drop (k+1):=by
 obtain⟨b,e⟩:=HE.1 g;rw[vE b,e]
theorem VO.step{k:Nat}{o:Oper}(p:(aG c)[k]?=some o)(m:gA (aG c) o.guard f=some true)(h:ay W P n o Q H f (λH' g=>VO W P n c (k+1) Q H' g)):VO W P n c k Q H f:=by
 intro t w i q;rw[lX p];refine Qk (a:=⟨t,[]⟩) (i.wanted m) λK j=>h t w i q K λH' g l t' r b e=>j _ _ (l t' r b e)
theorem VO.skip{k d:Nat}{o:Oper}(l:(aG c)[k]?=some o)(i:gA (aG c) o.guard f=some false)(g:o.dst=some d)(j:Nat.blt d n=true)(h:VO W P n c (k+1) Q H ((d,undef)::f)):VO W P n c k Q H f:=by
 intro t w b m;rw[lX l];refine wpList_step λK e=>?_;rw[aE (by rw[show Region.wanted o (yielded (aG c).toArray (Act.mk t []).tmps)=false from b.wanted i];simp),g];exact e _ _ (h _ _ (b.put j) m)
theorem VO.split{k s:Nat}{o:Oper}{b:Bool}(l:(aG c)[k]?=some o)(m:kT (aG c) o.guard=some s)(g:look f s=some (.bool b))
  (j:b=true->VO W P n c k Q H ((s,.bool true)::f))(i:b=false->VO W P n c k Q H ((s,.bool false)::f)):VO W P n c k Q H f:=by
 intro t w e h;cases b with
 |true=>exact j rfl t w (e.again g) h
 |false=>exact i rfl t w (e.again g) h
theorem VO.gT{k s:Nat}{o:Oper}{b:Bool}(j:(aG c)[k]?=some o)(l:kT (aG c) o.guard=some s)(i:look f s=some (.bool b))(g:b=true)(h:VO W P n c k Q H ((s,.bool true)::f)):VO W P n c k Q H f:=
 VO.split j l i (λ_=>h) (λe=>by rw[g]at e;cases e)
theorem VO.gF{k s:Nat}{o:Oper}{b:Bool}(j:(aG c)[k]?=some o)(l:kT (aG c) o.guard=some s)(i:look f s=some (.bool b))(g:b=false)(h:VO W P n c k Q H ((s,.bool false)::f)):VO W P n c k Q H f:=
 VO.split j l i (λe=>by rw[g]at e;cases e) (λ_=>h)
def af(W:World)(P:Program)(n:Nat)(H:List ab)(f:Fr)(o:Oper)(v:Value):Prop:=
  ∀t w,bS n f t->Holds W H w->(execOp (Act.eval ⟨t,[]⟩) o).run P w= .ok (.value v) w
variable{N:List ab->Fr->Prop}{dst:Option Tmp}{d:Nat}{ty_:TypeId}{pos:String}{after:Array Edge}{guard:Option (Nat×Bool)}
theorem ay.pure{op:Op}{v:Value}(j:af W P n H f {dst:=some d,op,type:=ty_,pos,after,guard} v)(i:Nat.blt d n=true)(h:N H ((d,v)::f)):
  ay W P n {dst:=some d,op,type:=ty_,pos,after,guard} Q H f N:=by
 intro t w b e K g;unfold Oper.wp;rw[j t w b e];exact g _ _ h _ _ (b.put i) e
theorem VO.pure{k:Nat}{op:Op}{v:Value}(g:(aG c)[k]?=some {dst:=some d,op,type:=ty_,pos,after,guard})(e:gA (aG c) guard f=some true)
  (i:af W P n H f {dst:=some d,op,type:=ty_,pos,after,guard} v)(b:Nat.blt d n=true)(h:VO W P n c (k+1) Q H ((d,v)::f)):VO W P n c k Q H f:=
 VO.step g e (ay.pure i b h)
theorem af.move{x:Operand}{v:Value}(e:aD f x=some v):af W P n H f {dst,op:= .move x,type:=ty_,pos,after,guard} v:=
 λt w b _=>by simp only[execOp,b.eval e,Sem.run_pure]
theorem af.assign{x:Operand}{v:Value}(e:aD f x=some v):af W P n H f {dst,op:= .assign x,type:=ty_,pos,after,guard} v:=
 λt w b _=>by simp only[execOp,b.eval e,Sem.run_pure]
theorem af.Tz{x y z:Operand}{v:Value}(e:aD f x=some (.bool true))(g:aD f y=some v):af W P n H f {dst,op:= .pick x y z,type:=ty_,pos,after,guard} v:=
 λt w b _=>by simp[execOp,b.eval e,b.eval g,asBool]
theorem af.Ty{x y z:Operand}{v:Value}(e:aD f x=some (.bool false))(g:aD f z=some v):af W P n H f {dst,op:= .pick x y z,type:=ty_,pos,after,guard} v:=
 λt w b _=>by simp[execOp,b.eval e,b.eval g,asBool]
theorem af.RO{x:Operand}{a:Addr}(e:aD f x=some (.pointer (some a))):af W P n H f {dst,op:= .nilCheck x,type:=ty_,pos,after,guard} (.pointer (some a)):=
 λt w b _=>by simp[execOp,b.eval e]
theorem af.nilFunc{x:Operand}{g:FuncId}{p q:Array Value}(e:aD f x=some (.func (.func g) p q)):af W P n H f {dst,op:= .nilCheck x,type:=ty_,pos,after,guard} (.func (.func g) p q):=
 λt w b _=>by simp[execOp,b.eval e]
theorem af.FI{x:Operand}{b o off:Nat}{s:TypeId}{i:Nat}(p:aD f x=some (.pointer (some ⟨b,o,none⟩)))(e:wJ P s i=some off):
  af W P n H f {dst,op:= .fieldAddr s x i,type:=ty_,pos,after,guard} (.pointer (some ⟨b,o+off,none⟩)):=by
 intro t w k _;unfold wJ at e;split at e
 ·
  rename_i q m;split at e
  ·
   rename_i fd g;split at e
   · cases e
   ·
    rename_i h;cases e;have l:(sizeOf fd.type).run P w= .ok (P.cellsOf fd.type) w:=by
     unfold Program.cellsOf at h⊢;cases j:P.info? fd.type with
     |none=>simp[j]at h
     |some r=>simp[sizeOf,typeInfo,j]
    simp[execOp,k.eval p,Instr.fieldAt,run_underlying m,g,Instr.sureAddr,fieldPlace,l,h,Addr.add_lit]
  · cases e
 · cases e
theorem af.fieldAddr{T:aI}{x:Operand}{b o off:Nat}{s:TypeId}{i:Nat}(g:T.ok P=true)(h:aD f x=some (.pointer (some ⟨b,o,none⟩)))(e:T.Tf s i=some off):
  af W P n H f {dst,op:= .fieldAddr s x i,type:=ty_,pos,after,guard} (.pointer (some ⟨b,o+off,none⟩)):=af.FI h (T.L9 g e)
theorem af.load{x:Operand}{s T:TypeId}{b off:Nat}{cs:List Value}{v:Value}(j:aD f x=some (.pointer (some ⟨b,off,none⟩)))(m:Row b T cs∈H)(h:cs[off]?=some v)(e:∀w,(isAgg s).run P w= .ok false w):
  af W P n H f {dst,op:= .load s x,type:=ty_,pos,after,guard} v:=
 λt w g i=>by simp[execOp,g.eval j,Instr.loadAt,Instr.sureAddr,tN e (i.cell m h)]
theorem af.Tp{x:Operand}{s:TypeId}{b:Addr}{v:Value}(j:aD f x=some (.pointer (some b)))(h:∀w,Holds W H w->w.cell? b=some v)(e:∀w,(isAgg s).run P w= .ok false w):
  af W P n H f {dst,op:= .load s x,type:=ty_,pos,after,guard} v:=
 λt w g i=>by simp[execOp,g.eval j,Instr.loadAt,Instr.sureAddr,tN e (h w i)]
theorem af.ld{T:aI}{x:Operand}{s U:TypeId}{b off:Nat}{cs:List Value}{v:Value}(e:T.ok P=true)(i:aD f x=some (.pointer (some ⟨b,off,none⟩)))(g:assoc T.leaf s=some ())(m:Row b U cs∈H)(h:cs[off]?=some v):
  af W P n H f {dst,op:= .load s x,type:=ty_,pos,after,guard} v:=af.load i m h (T.l3 e g).1
theorem af.Uu{T:aI}{x:Operand}{s:TypeId}{b:Addr}{v:Value}(e:T.ok P=true)(i:aD f x=some (.pointer (some b)))(g:assoc T.leaf s=some ())(h:∀w,Holds W H w->w.cell? b=some v):
  af W P n H f {dst,op:= .load s x,type:=ty_,pos,after,guard} v:=af.Tp i h (T.l3 e g).1
theorem af.extract{x:Operand}{i:Nat}{vs:Array Value}{v:Value}(g:aD f x=some (.tuple vs))(e:vs[i]?=some v):af W P n H f {dst,op:= .extract x i,type:=ty_,pos,after,guard} v:=
 λt w b _=>by simp[execOp,b.eval g,Instr.extract,e]
theorem af.len{T:aI}{x:Operand}{t e:TypeId}{ao:Option Addr}{k cap:Nat}(b:T.ok P=true)(i:aD f x=some (.slice ao k cap))(h:assoc T.H7 t=some e):
  af W P n H f {dst,op:= .call {callee:= .builtin .len,args:=#[x],argTypes:=#[t]},type:=ty_,pos,after,guard} (ii (k:Int)):=
 λj w g _=>by
  unfold execOp;simp[resolve,invoke,builtin,g.eval i,Builtin.len_,run_underlying (T.jh b h),goInt]
theorem af.cap{T:aI}{x:Operand}{t e:TypeId}{ao:Option Addr}{k cap:Nat}(b:T.ok P=true)(i:aD f x=some (.slice ao k cap))(h:assoc T.H7 t=some e):
  af W P n H f {dst,op:= .call {callee:= .builtin .cap,args:=#[x],argTypes:=#[t]},type:=ty_,pos,after,guard} (ii (cap:Int)):=
 λj w g _=>by
  unfold execOp;simp[resolve,invoke,builtin,g.eval i,Builtin.cap_,run_underlying (T.jh b h),goInt]
theorem af.convert{T:aI}{x:Operand}{s t:TypeId}{l k b:IntKind}{a:Int}(e:T.ok P=true)(j:aD f x=some (.int k a))(h:assoc T.ints s=some l)(i:assoc T.ints t=some b):
  af W P n H f {dst,op:= .convert s t x,type:=ty_,pos,after,guard} (.int b (b.wrap a)):=
 λm w g _=>by
  unfold execOp;simp[g.eval j,Go.convert,run_underlying (T.wW e h),run_underlying (T.wW e i),Conv.intToInt]
theorem af.shr{x y:Operand}{s u:TypeId}{k o:IntKind}{m:Nat}{j:Int}(i:aD f x=some (.int k (m:Int)))(l:aD f y=some (.int o j))(p:0<=j)(h:j.toNat<=k.bits):
  af W P n H f {dst,op:= .binOp .shr s x y u,type:=ty_,pos,after,guard} (.int k ((m/2^j.toNat:Nat):Int)):=
 λq w b _=>by
  have e:¬j<0:=by omega
  have g:(m:Int).fdiv (2^j.toNat)=((m/2^j.toNat:Nat):Int):=by
   rw[Int.fdiv_eq_ediv_of_nonneg _ (by exact Int.pow_nonneg zO)];simp
  simp[execOp,b.eval i,b.eval l,eqGuard,binOp,Op.shift,e,Nat.min_eq_left h,g]
theorem af.shl{x y:Operand}{s u:TypeId}{k i:IntKind}{m j:Int}(g:aD f x=some (.int k m))(h:aD f y=some (.int i j))(l:0<=j):
  af W P n H f {dst,op:= .binOp .shl s x y u,type:=ty_,pos,after,guard} (.int k (k.wrap (m*2^min j.toNat k.bits))):=
 λo w b _=>by
  have e:¬j<0:=by omega
  simp[execOp,b.eval g,b.eval h,eqGuard,binOp,Op.shift,e]
theorem af.quo{x y:Operand}{s u:TypeId}{k:IntKind}{a b:Nat}(j:aD f x=some (.int k (a:Int)))(l:aD f y=some (.int k (b:Int)))(m:0<b)(h:k.wrap ((a/b:Nat):Int)=((a/b:Nat):Int)):
  af W P n H f {dst,op:= .binOp .quo s x y u,type:=ty_,pos,after,guard} (.int k ((a/b:Nat):Int)):=
 λo w g _=>by
  have i:¬b=0:=by omega
  have e:(a:Int).tdiv b=((a/b:Nat):Int):=by simp
  simp only[execOp,g.eval j,g.eval l,eqGuard,binOp,Op.intDiv,e,h];simp[i,e,h]
theorem af.rem{x y:Operand}{s u:TypeId}{k:IntKind}{a b:Nat}(i:aD f x=some (.int k (a:Int)))(j:aD f y=some (.int k (b:Int)))(l:0<b):
  af W P n H f {dst,op:= .binOp .rem s x y u,type:=ty_,pos,after,guard} (.int k ((a%b:Nat):Int)):=
 λm w e _=>by
  have g:¬b=0:=by omega
  have h:(a:Int).tmod b=((a%b:Nat):Int):=by rw[Int.tmod_eq_emod_of_nonneg zO];simp
  simp[execOp,e.eval i,e.eval j,eqGuard,binOp,Op.intDiv,g,h]
theorem af.not{x:Operand}{s:TypeId}{b:Bool}(g:aD f x=some (.bool b)):af W P n H f {dst,op:= .unOp .not s x,type:=ty_,pos,after,guard} (.bool (!b)):=
 λt w e _=>by simp[execOp,e.eval g,Op.unary]
def OE(op:BinOp)(k:IntKind)(x y:Int):Option Value:=
  match op with
  | .add=>some (.int k (k.wrap (x+y)))
  | .sub=>some (.int k (k.wrap (x-y)))
  | .mul=>some (.int k (k.wrap (x*y)))
  | .and=>some (.int k (k.wrap (BitVec.ofInt k.bits x&&& BitVec.ofInt k.bits y).toNat))
  | .or=>some (.int k (k.wrap (BitVec.ofInt k.bits x|||BitVec.ofInt k.bits y).toNat))
  | .xor=>some (.int k (k.wrap (BitVec.ofInt k.bits x^^^BitVec.ofInt k.bits y).toNat))
  | .eql=>some (.bool (x==y))
  | .neq=>some (.bool (x != y))
  | .lss=>some (.bool (decide (x<y)))
  | .leq=>some (.bool (decide (x<=y)))
  | .gtr=>some (.bool (decide (y<x)))
  | .geq=>some (.bool (decide (y<=x)))
  |_=>none
theorem af.bin{op:BinOp}{x y:Operand}{s u:TypeId}{k:IntKind}{a b:Int}{v:Value}(j:aD f x=some (.int k a))(l:aD f y=some (.int k b))(g:OE op k a b=some v):
  af W P n H f {dst,op:= .binOp op s x y u,type:=ty_,pos,after,guard} v:=by
 intro t w e _;have h:=e.eval j;have i:=e.eval l
 cases op<;>simp only[OE,Option.some.injEq,reduceCtorEq]at g<;>subst g<;>
  simp[execOp,h,i,eqGuard,binOp,Op.intArith,Op.intBits,Op.intCmp]
def Ur(op:BinOp)(x y:Int):Option Int:=
  match op with
  | .add=>some (x+y)
  | .sub=>some (x-y)
  | .mul=>some (x*y)
  |_=>none
theorem af.Q0{op:BinOp}{x y:Operand}{s u:TypeId}{a b z:Int}(i:aD f x=some (ii a))(j:aD f y=some (ii b))(g:Ur op a b=some z)(h:-9223372036854775808<=z/\z<=9223372036854775807):
  af W P n H f {dst,op:= .binOp op s x y u,type:=ty_,pos,after,guard} (ii z):=by
 refine af.bin i j ?_;have e:IntKind.i64.wrap z=z:=IntWalk.i64_in z h;cases op<;>simp only[Ur,Option.some.injEq,reduceCtorEq]at g<;>subst g<;>simp only[OE,e]
end
section
variable{W:World}{P:Program}{n:Nat}{c:Code}{Q:Exit->Act->World->Prop}{H H' L S:List ab}{f F:Fr}{C:ab->List ab}
variable{N:List ab->Fr->Prop}{dst:Option Tmp}{d:Nat}{ty_:TypeId}{pos:String}{after:Array Edge}{guard:Option (Nat×Bool)}
theorem ay.run{op:Op}{α:Sort _}{v:α->Value}{G:α->List ab}(j:Nat.blt d n=true)
  (b:∀t w,bS n f t->Holds W H w->∃x e,(execOp (Act.eval ⟨t,[]⟩) {dst:=some d,op,type:=ty_,pos,after,guard}).run P w= .ok (.value (v x)) e/\Holds W (G x) e)
  (h:∀x,N (G x) ((d,v x)::f)):ay W P n {dst:=some d,op,type:=ty_,pos,after,guard} Q H f N:=by
 intro t w g l K i;obtain⟨x,e,b,k⟩:=b t w g l;unfold Oper.wp;rw[b];exact i _ _ (h x) _ _ (g.put j) k
theorem ay.store{t:TypeId}{x y:Operand}{b off:Nat}{v:Value}{T:TypeId}{cs:List Value}(s:aD f x=some (.pointer (some ⟨b,off,none⟩)))(z:aD f y=some v)(r:v.oneCell'=true)
  (u:eQ H (Row b T cs) C)(e:off<cs.length)(l:∀w,(sizeOf t).run P w= .ok 1 w)(h:N (C (Row b T (cs.set off v))) f):
  ay W P n {dst:=none,op:= .store t x y,type:=ty_,pos,after,guard} Q H f N:=by
 intro A w i j K k;obtain⟨R,p,q⟩:=u.perm;have g:=j.perm p;have m:=g.cell (off:=off) (.head _) (fL e);have o:=g.free (off:=off) (.head _);unfold Oper.wp execOp;simp only[i.eval s,i.eval z,Instr.storeAt,Instr.sureAddr,Sem.run_bind,Sem.run_pure,Result.andThen_ok,yU r l m o];exact k _ _ h _ _ i (j.store _ u)
theorem ay.st{T:aI}{t:TypeId}{x y:Operand}{b off:Nat}{v:Value}{U:TypeId}{cs:List Value}(g:T.ok P=true)(k:aD f x=some (.pointer (some ⟨b,off,none⟩)))(l:aD f y=some v)(j:v.oneCell'=true)(i:assoc T.leaf t=some ())
  (u:eQ H (Row b U cs) C)(e:off<cs.length)(h:N (C (Row b U (cs.set off v))) f):
  ay W P n {dst:=none,op:= .store t x y,type:=ty_,pos,after,guard} Q H f N:=ay.store k l j u e (T.l3 g i).2 h
theorem ay.box{t:TypeId}{x:Operand}{v:Value}{cs:List Value}(k:aD f x=some v)(e:v.cells=cs.toArray)(g:Nat.blt d n=true)
  (h:∀b,N (Row b t cs::H) ((d,ip b)::f)):ay W P n {dst:=some d,op:= .box t x,type:=ty_,pos,after,guard} Q H f N:=by
 refine ay.run g (λl w i j=>⟨w.heap.size,_,?_,j.alloc (T:=t) (cs:=cs)⟩) h;unfold execOp;simp only[i.eval k,Instr.box,newVar,newRow,newObj,Sem.run_bind,Sem.run,Result.andThen_ok,Sem.run_pure,e];rfl
theorem ay.alloc{t:TypeId}{z:Value}{cs:List Value}(j:∀w,(zeroValue t).run P w= .ok z w)(e:z.cells=cs.toArray)(g:Nat.blt d n=true)
  (h:∀b,N (Row b t cs::H) ((d,ip b)::f)):ay W P n {dst:=some d,op:= .alloc t,type:=ty_,pos,after,guard} Q H f N:=by
 refine ay.run g (λl w k i=>⟨w.heap.size,_,?_,i.alloc (T:=t) (cs:=cs)⟩) h;unfold execOp;simp only[Instr.alloc,newVar,newRow,newObj,Sem.run_bind,j,Sem.run,Result.andThen_ok,Sem.run_pure,e];rfl
theorem ay.append{s x:Operand}{t tx e:TypeId}{z:Value}{sz b k m:Nat}{v r:Value}{xs news:List Value}(st:cH P t e z sz b)(E:aD f s=some v)(I:aD f x=some r)
  (u:eQ H (Own e sz v k xs) C)(g:∀w,Holds W H w->Src P sz tx r m news w)(i:k+m<=maxLen)(A:(k+m)*b<=140737488355328)(B:Nat.blt d n=true)
  (h:∀ao cap,N (C (Own e sz (.slice ao (k+m) cap) (k+m) (xs++news))) ((d,.slice ao (k+m) cap)::f)):
  ay W P n {dst:=some d,op:= .call {callee:= .builtin .append,args:=#[s,x],argTypes:=#[t,tx]},type:=ty_,pos,after,guard} Q H f N:=by
 refine ay.run (α:=Option Addr×Nat) (v:=λy=>.slice y.1 (k+m) y.2) (G:=λy=>C (Own e sz (.slice y.1 (k+m) y.2) (k+m) (xs++news))) B (λM w l o=>?_) (λy=>h y.1 y.2);obtain⟨R,p,q⟩:=u.perm;obtain⟨v',J,D,j⟩:=Holds.append (ty:=ty_) st (o.perm p) (g w o) i A;obtain⟨ao,cap,rfl⟩:=j.MX;refine⟨(ao,cap),J,?_,j.perm (q _)⟩;unfold execOp;simp only[resolve,invoke,builtin,Sem.run_bind,Sem.run_pure,Result.andThen_ok,List.map_toArray,BI,HG,l.eval E,l.eval I,D]
def tu(f:Fr):Nat->List (Nat×Operand)->Option (List Value)
  |_,[]=>some []
  |i,(j,x)::r=>bif Nat.beq j i then
      match aD f x,tu f (i+1) r with
      |some v,some vs=>some (v::vs)
      |_,_=>none
    else none
def Dh:Nat->List Value->List (Nat×Value)
  |_,[]=>[]
  |i,v::r=>(i,v)::Dh (i+1) r
theorem uB{t:Array Value}(g:bS n f t):∀{ps:List (Nat×Operand)}{i:Nat}{vs:List Value},tu f i ps=some vs->ps.map (λp=>(p.1,Act.eval ⟨t,[]⟩ p.2))=Dh i vs
  |[],i,vs,e=>by simp[tu]at e;subst e;rfl
  |(j,x)::r,i,vs,e=>by
    unfold tu at e;cases b:Nat.beq j i with
    |false=>rw[b]at e;cases e
    |true=>
      have l:j=i:=by simpa using b
      subst l;rw[b]at e;simp only[cond_true]at e;split at e
      · rename_i v ws h k
        cases e
        simp[Dh,g.eval h,uB g k]
      · cases e
theorem Jg(vs:List Value):∀(o:Nat)(cs:Array Value),o+vs.length<=cs.size->
    ((vs.zipIdx o).foldl (λcs (x:Value×Nat)=>cs.setIfInBounds x.2 x.1) cs).toList=cs.toList.take o++vs++cs.toList.drop (o+vs.length):=by
  induction vs with
  |nil=>intro o cs _;simp
  |cons v r i=>
    intro o cs h;simp only[tc]at h;simp only[List.zipIdx_cons,List.foldl_cons];rw[i (o+1) _ (by simp;omega)];have g:o<cs.toList.length:=by simp;omega
    simp only[Array.toList_setIfInBounds];have b:(cs.toList.set o v).take (o+1)=cs.toList.take o++[v]:=by
      rw[nZ (by simpa using g)];simp[List.take_set_of_le]
    have e:(cs.toList.set o v).drop (o+1+r.length)=cs.toList.drop (o+(v::r).length):=by
      rw[List.drop_set_of_lt zO];simp;congr 1;omega
    rw[b,e];simp
theorem Dl(sz:Nat):∀(vs:List Value)(i:Nat)(cs:Array Value),(∀v∈vs,v.cells.size=sz)->cs.size=(i+vs.length)*sz->
    ∃out,Instr.fill (λj=>some (j*sz,sz)) cs (Dh i vs)=some out/\out.toList=cs.toList.take (i*sz)++vs.flatMap (·.cells.toList):=by
  intro vs;induction vs with
  |nil=>
    intro i cs _ h;refine⟨cs,rfl,?_⟩;simp only[List.length_nil,BH]at h;rw[<-h];simp[qy]
  |cons v r t=>
    intro i cs k h;have e:=k v (.head _);have g:cs.size=i*sz+(r.length*sz+sz):=by rw[h];simp[Tk]
    have m:¬(v.cells.size≠sz||decide (i*sz+v.cells.size>cs.size))=true:=by
      simp[e];omega
    have l:∀(c:Array Value),(v.cells.zipIdx.foldl (λcs (x:Value×Nat)=>cs.setIfInBounds (i*sz+x.2) x.1) c)=((v.cells.toList.zipIdx (i*sz)).foldl (λcs (x:Value×Nat)=>cs.setIfInBounds x.2 x.1) c):=by
      intro c;rw[<-Array.foldl_toList,Array.toList_zipIdx];have:v.cells.toList.zipIdx (i*sz)=v.cells.toList.zipIdx.map λx=>(x.1,i*sz+x.2):=by
        apply List.ext_getElem?;intro q;simp only[List.getElem?_zipIdx,law];cases v.cells.toList[q]?<;>simp
      rw[this,List.foldl_map]
    have b:=Jg v.cells.toList (i*sz) cs (by simp[e];omega)
    obtain⟨out,p,o⟩:=t (i+1) ((v.cells.toList.zipIdx (i*sz)).foldl (λcs (x:Value×Nat)=>cs.setIfInBounds x.2 x.1) cs) (λu s=>k u (.tail _ s)) (by
      rw[<-Array.length_toList,b]
      simp[e,g,Tk];omega)
    refine⟨out,?_,?_⟩
    · show(if(v.cells.size≠sz||decide (i*sz+v.cells.size>cs.size))=true then none else _)=_
      rw[aE m,l]
      exact p
    · rw[o,b]
      have:(cs.toList.take (i*sz)++v.cells.toList++cs.toList.drop (i*sz+v.cells.toList.length)).take ((i+1)*sz)=cs.toList.take (i*sz)++v.cells.toList:=by
        rw[Tj (by simp[e,Tk];omega),qy (by simp[e,Tk];omega)]
      rw[this];simp
theorem ay.buildSlice{t e len:Nat}{ps:Array (Nat×Operand)}{z:Value}{sz s:Nat}{vs cs:List Value}(st:cH P t e z sz s)(I:tu f 0 ps.toList=some vs)(m:len=vs.length)(q:∀v∈vs,v.cells.size=sz)
  (l:vs.flatMap (·.cells.toList)=cs)(A:len*sz<=2^24)(D:Nat.blt d n=true)(h:∀b,N (Row b e cs::H) ((d,.slice (ik b) len len)::f)):
  ay W P n {dst:=some d,op:= .buildSlice t len ps,type:=ty_,pos,after,guard} Q H f N:=by
 refine ay.run (v:=λb=>.slice (ik b) len len) (G:=λb=>Row b e cs::H) D (λU w E M=>⟨w.heap.size,_,?_,M.alloc (T:=e) (cs:=cs)⟩) h;obtain⟨i,B,O,J,V⟩:=info_parts st.info;subst J;subst m;have x:=uB E I;have o:(ps.map λp=>(p.1,Act.eval ⟨U,[]⟩ p.2)).toList=Dh 0 vs:=by rw[<-x];simp
 have k:¬vs.length*i.size>2^24:=by omega
 unfold execOp;by_cases u:vs.length*i.size=0
 ·
  obtain⟨out,r,y⟩:=Dl i.size vs 0 ((Array.range (vs.length*i.size)).map λj=>(#[]:Array Value)[j% (#[]:Array Value).size]!) q (by simp);have g:out=cs.toArray:=by apply Array.ext';rw[y];simp[l]
  simp only[Instr.buildSlice,Sem.run_bind,run_underlying st.tZ,Result.andThen_ok,sizeOf,typeInfo,program,Sem.run,B,Sem.run_pure,u,show ¬((0:Nat)>2^24)by omega,if_false,if_true,newRow,newObj,o];rw[u]at r;simp only[r,g,Sem.run,Sem.run_bind,Result.andThen_ok,Sem.run_pure];rfl
 ·
  obtain⟨out,r,y⟩:=Dl i.size vs 0 ((Array.range (vs.length*i.size)).map λj=>z.cells[j%z.cells.size]!) q (by simp);have g:out=cs.toArray:=by apply Array.ext';rw[y];simp[l]
  simp only[Instr.buildSlice,Sem.run_bind,run_underlying st.tZ,Result.andThen_ok,sizeOf,typeInfo,program,Sem.run,B,Sem.run_pure,k,if_false,u,zeroValue,O,newRow,newObj,o];simp only[r,g,Sem.run,Sem.run_bind,Result.andThen_ok,Sem.run_pure];rfl
theorem cells_one{v:Value}(h:v.oneCell'=true):v.cells=#[v]:=by cases v<;>simp_all [Value.oneCell',Value.cells]
theorem ay.bP{t e len:Nat}{ps:Array (Nat×Operand)}{z:Value}{j:Nat}{vs:List Value}(st:cH P t e z 1 j)(l:tu f 0 ps.toList=some vs)(g:len=vs.length)(k:∀v∈vs,v.oneCell'=true)
  (i:len*1<=2^24)(m:Nat.blt d n=true)(h:∀b,N (Row b e vs::H) ((d,.slice (ik b) len len)::f)):
  ay W P n {dst:=some d,op:= .buildSlice t len ps,type:=ty_,pos,after,guard} Q H f N:=by
 refine ay.buildSlice st l g (λv p=>by rw[cells_one (k v p)];rfl) ?_ i m h;clear l g h;induction vs with
 |nil=>rfl
 |cons v r q=>rw[Oi,cells_one (k v (.head _)),q (λu o=>k u (.tail _ o))];rfl
theorem ay.cg{s x:Operand}{t e:TypeId}{z:Value}{sz g k m c' b:Nat}{v:Value}{xs news:List Value}(st:cH P t e z sz g)(r:aD f s=some v)(A:aD f x=some (.slice (ik b) m c'))
  (u:eQ H (Own e sz v k xs) C)(q:Row b e news∈H)(p:news.length=m*sz)(j:∀u∈news,u.oneCell'=true)(i:k+m<=maxLen)(l:(k+m)*g<=140737488355328)(o:Nat.blt d n=true)
  (h:∀ao cap,N (C (Own e sz (.slice ao (k+m) cap) (k+m) (xs++news))) ((d,.slice ao (k+m) cap)::f)):
  ay W P n {dst:=some d,op:= .call {callee:= .builtin .append,args:=#[s,x],argTypes:=#[t,t]},type:=ty_,pos,after,guard} Q H f N:=
 ay.append st r A u (λw y=>(jW.row (ys:=[]) j p y (by simpa using q)).src st.tZ) i l o h
structure aV(W:World)(R:List ab)(sz:Nat)(ao:Option Addr)(n:Nat)(xs:List Value):Prop where
  len:xs.length=n*sz
  one:∀u∈xs,u.oneCell'=true
  nil:ao=none->n=0
  cell:∀w,Holds W R w->∀a,ao=some a->∀j u,xs[j]?=some u->w.cell? (a.add j)=some u
theorem aV.aR{sz k:Nat}{ao:Option Addr}{xs:List Value}(h:aV W L sz ao k xs)(e:ae W H L):aV W H sz ao k xs:=⟨h.len,h.one,h.nil,λw b=>h.cell w (e w b)⟩
theorem aV.Kh{sz k cap:Nat}{ao:Option Addr}{xs:List Value}{w:World}(h:aV W H sz ao k xs)(b:Holds W H w):jW w sz (.slice ao k cap) k xs:=by
 refine⟨h.len,h.one,?_⟩;cases ao with
 |none=>obtain rfl:=h.nil rfl;exact .inl ⟨cap,rfl,rfl⟩
 |some a=>exact .inr ⟨a,cap,rfl,h.cell w b a rfl⟩
theorem aV.own{e sz k cap:Nat}{ao:Option Addr}{xs:List Value}(g:∀u∈xs,u.oneCell'=true)(m:Own e sz (.slice ao k cap) k xs∈H)(o:xs.length=k*sz)(p:ao=none->k=0):aV W H sz ao k xs:=by
 refine⟨o,g,p,?_⟩;intro w r a h j u l;obtain⟨_,_,q⟩:=jW.own g r m;rcases q with⟨c,b,_⟩|⟨s,c,b,i⟩
 · cases b;cases h
 · cases b;cases h;exact i j u l
theorem aV.row{e sz k b:Nat}{xs:List Value}(g:∀u∈xs,u.oneCell'=true)(m:Row b e xs∈H)(o:xs.length=k*sz):aV W H sz (ik b) k xs:=by
 refine⟨o,g,(λh=>by cases h),?_⟩;intro w p a i j u l;cases i;have:=p.cell m l;rwa [show(⟨b,0,none⟩:Addr).add j=⟨b,j,none⟩by unfold Addr.add;split<;>simp_all]
theorem Holds.bn{e sz k cap:Nat}{ao:Option Addr}{xs:List Value}{w:World}(g:Holds W H w)(m:Own e sz (.slice ao k cap) k xs∈H):ao=none->k=0:=by
 obtain⟨R,p⟩:=ja m;rcases(g.perm p).gy.2 with⟨_,h,_⟩|⟨b,c,s,h,_⟩
 · exact λ_=>h
 · intro e;subst e;cases h
theorem Holds.jd{e sz k cap:Nat}{ao:Option Addr}{xs:List Value}{w:World}(i:Holds W H w)(m:Own e sz (.slice ao k cap) k xs∈H):k<=cap:=by
 obtain⟨R,p⟩:=ja m;rcases(i.perm p).gy.2 with⟨h,rfl,_⟩|⟨b,c,s,h,g,_⟩
 · exact c7 _
 · cases h;exact g
theorem af.indexAddr{T:aI}{x y:Operand}{t e:TypeId}{k:IntKind}{a:Addr}{m cap j:Nat}(b:T.ok P=true)(p:aD f x=some (.slice (some a) m cap))(q:aD f y=some (.int k (j:Int)))(o:assoc T.H7 t=some e)
  (l:assoc T.leaf e=some ())(r:j<m):af W P n H f {dst,op:= .indexAddr t x y,type:=ty_,pos,after,guard} (.pointer (some (a.add j))):=
 λs w g _=>by
  have i:(0:Int)<=j/\(j:Int)<m:=⟨by omega,by omega⟩;simp[execOp,g.eval p,g.eval q,Instr.indexAt,asIntOf,run_underlying (T.jh b o),(T.l3 b l).2,i];intro h;omega
theorem af.qW{T:aI}{x y:Operand}{t e sz:TypeId}{k:IntKind}{a:Addr}{m cap j:Nat}(b:T.ok P=true)(p:aD f x=some (.slice (some a) m cap))(q:aD f y=some (.int k (j:Int)))(o:assoc T.H7 t=some e)
  (l:assoc T.vX e=some sz)(r:j<m):af W P n H f {dst,op:= .indexAddr t x y,type:=ty_,pos,after,guard} (.pointer (some (a.add (j*sz)))):=
 λs w g _=>by
  have i:(0:Int)<=j/\(j:Int)<m:=⟨by omega,by omega⟩;simp[execOp,g.eval p,g.eval q,Instr.indexAt,asIntOf,run_underlying (T.jh b o),(T.sM b l).2,i];intro h;omega
theorem af.rZ{T:aI}{x:Operand}{s:TypeId}{a:Addr}{k j:Nat}{xs:List Value}{v:Value}(b:T.ok P=true)(l:aD f x=some (.pointer (some (a.add j))))(g:assoc T.leaf s=some ())(h:aV W H 1 (some a) k xs)(e:xs[j]?=some v):
  af W P n H f {dst,op:= .load s x,type:=ty_,pos,after,guard} v:=af.Uu b l g λw i=>h.cell w i a rfl j v e
theorem mW(a:Addr)(i j:Nat):(a.add i).add j=a.add (i+j):=by
 unfold Addr.add;by_cases b:i=0
 · subst b;simp
 ·
  by_cases e:j=0
  · subst e;simp[b]
  · simp[b,e,ux]
def jO(ao:Option Addr)(cap b sz:Nat):Option Addr:=if cap=b then ao else ao.map (·.add (b*sz))
theorem qi{a:Addr}{cap b sz:Nat}(h:b<cap):jO (some a) cap b sz=some (a.add (b*sz)):=by unfold jO;rw[aE zO];rfl
def aI.N9(T:aI)(t:Nat):Option Nat:=(assoc T.H7 t).bind λe=>match assoc T.leaf e with
  |some _=>some 1
  |none=>assoc T.vX e
theorem aI.FG{T:aI}{P:Program}(h:T.ok P=true){t sz:Nat}(g:T.N9 t=some sz):∃e,P.underlying t=some (.slice e)/\∀w,(sizeOf e).run P w= .ok sz w:=by
 unfold aI.N9 at g;obtain⟨e,i,b⟩:=Option.bind_eq_some_iff.1 g;refine⟨e,T.jh h i,?_⟩;split at b
 ·
  rename_i u j;cases b;exact(T.l3 h j).2
 · exact(T.sM h b).2
theorem af.sw{T:aI}{x y z:Operand}{t sz:TypeId}{ao:Option Addr}{m cap l h:Nat}{k v:IntKind}(j:T.ok P=true)(r:aD f x=some (.slice ao m cap))(s:aD f y=some (.int k (l:Int)))(u:aD f z=some (.int v (h:Int)))
  (p:T.N9 t=some sz)(A:l<=h)(B:h<=cap):af W P n H f {dst,op:= .slice t x (some y) (some z) none,type:=ty_,pos,after,guard} (.slice (jO ao cap l sz) (h-l) (cap-l)):=
 λD w b _=>by
  obtain⟨e,q,o⟩:=T.FG j p;have g:(0:Int)<=h/\(h:Int)<=cap:=⟨by omega,by omega⟩;have i:(0:Int)<=l/\(l:Int)<=h:=⟨by omega,by omega⟩;unfold execOp;simp only[RD,Option.map_none,b.eval r,b.eval s,b.eval u,Instr.sliceAt,Sem.run_bind,run_underlying q,Result.andThen_ok,Instr.slice,Instr.sliceBounds,Instr.sliceBound,asIntOf,Sem.run_pure,g,i,and_self,if_true,Int.toNat_natCast,o,jO]
theorem af.Ch{T:aI}{x z:Operand}{t sz:TypeId}{ao:Option Addr}{m cap h:Nat}{q:IntKind}(i:T.ok P=true)(o:aD f x=some (.slice ao m cap))(p:aD f z=some (.int q (h:Int)))
  (k:T.N9 t=some sz)(r:h<=cap):af W P n H f {dst,op:= .slice t x none (some z) none,type:=ty_,pos,after,guard} (.slice ao h cap):=
 λs w b _=>by
  obtain⟨e,l,j⟩:=T.FG i k;have g:(0:Int)<=h/\(h:Int)<=cap:=⟨by omega,by omega⟩;unfold execOp;simp only[RD,Option.map_none,b.eval o,b.eval p,Instr.sliceAt,Sem.run_bind,run_underlying l,Result.andThen_ok,Instr.slice,Instr.sliceBounds,Instr.sliceBound,asIntOf,Sem.run_pure,g,and_self,if_true,Int.toNat_natCast,j];cases ao<;>simp[Addr.add]
theorem af.Cj{T:aI}{x y:Operand}{t sz:TypeId}{ao:Option Addr}{m cap l:Nat}{k:IntKind}(h:T.ok P=true)(p:aD f x=some (.slice ao m cap))(q:aD f y=some (.int k (l:Int)))
  (j:T.N9 t=some sz)(r:l<=m):af W P n H f {dst,op:= .slice t x (some y) none none,type:=ty_,pos,after,guard} (.slice (jO ao cap l sz) (m-l) (cap-l)):=
 λs w b _=>by
  obtain⟨e,o,i⟩:=T.FG h j;have g:(0:Int)<=l/\(l:Int)<=m:=⟨by omega,by omega⟩;unfold execOp;simp only[RD,Option.map_none,b.eval p,b.eval q,Instr.sliceAt,Sem.run_bind,run_underlying o,Result.andThen_ok,Instr.slice,Instr.sliceBounds,Instr.sliceBound,asIntOf,Sem.run_pure,g,and_self,if_true,Int.toNat_natCast,i,jO]
theorem aV.sub{sz m cap l h:Nat}{ao:Option Addr}{xs:List Value}(r:aV W H sz ao m xs)(q:l<=h)(s:h<=m)(t:m<=cap):aV W H sz (jO ao cap l sz) (h-l) ((xs.drop (l*sz)).take ((h-l)*sz)):=by
  refine⟨?_,λu o=>r.one u (List.mem_of_mem_drop (Tl o)),?_,?_⟩
  · rw[j1,CC,r.len,<-Nat.sub_mul]
    exact Nat.min_eq_left (u0 _ zO)
  · intro e
    have:ao=none:=by
      unfold jO at e;split at e
      · exact e
      · simpa using e
    have:=r.nil this
    omega
  · intro w p a g j u b
    rw[Oc]at b
    split at b
    · rename_i i
      rw[Od]at b
      unfold jO at g
      split at g
      · rename_i k
        have:h-l=0:=by omega
        rw[this]at i;omega
      · cases ao with
        |none=>cases g
        |some a0=>
          cases g
          rw[mW]
          exact r.cell w p a0 rfl _ u b
    · cases b
def CA(op:BinOp)(b:Bool):Option Value:=
  match op with
  | .eql=>some (.bool b)
  | .neq=>some (.bool (!b))
  |_=>none
theorem oM{op:BinOp}{s u:TypeId}{x y:Operand}{e g v:Value}{b:Bool}{p:Array Value}{w:World}(h:bS n f p)(l:aD f x=some e)(m:aD f y=some g)(k:CA op b=some v)
  (i:∀o,(o= .eql\/o= .neq)->eqGuard o s x y e g=Pure.pure ())(q:binOp .eql s e g=(do Pure.pure (.bool (<-Op.equal s e g))))(r:binOp .neq s e g=(do Pure.pure (.bool (!(<-Op.equal s e g)))))
  (j:(Op.equal s e g).run P w= .ok b w):(execOp (Act.eval ⟨p,[]⟩) {dst,op:= .binOp op s x y u,type:=ty_,pos,after,guard}).run P w= .ok (.value v) w:=by
 cases op<;>simp only[CA,Option.some.injEq,reduceCtorEq]at k<;>subst k<;>unfold execOp
 · simp only[h.eval l,h.eval m,i .eql (.inl rfl),q,Sem.run_bind,Sem.run_pure,Result.andThen_ok,j]
 · simp only[h.eval l,h.eval m,i .neq (.inr rfl),r,Sem.run_bind,Sem.run_pure,Result.andThen_ok,j]
theorem af.R4{T:aI}{op:BinOp}{x y:Operand}{s u e:TypeId}{a:Option Addr}{v:Value}(b:T.ok P=true)(j:aD f x=some (.pointer a))(k:aD f y=some (.pointer none))(h:assoc T.nY s=some (0,e))(i:CA op a.isNone=some v):
  af W P n H f {dst,op:= .binOp op s x y u,type:=ty_,pos,after,guard} v:=by
 intro l w g _;refine oM g j k i (by rintro o (rfl|rfl)<;>rfl) rfl rfl ?_;show(Op.equalIn (9999+1) s _ _).run P w=_;unfold Op.equalIn;rw[Sem.run_bind,run_underlying (T.R5 b h)];cases a<;>rfl
theorem af.Nw{T:aI}{op:BinOp}{x y:Operand}{s u e:TypeId}{a:Option Addr}{l c m c':Nat}{v:Value}(b:T.ok P=true)(j:aD f x=some (.slice a l c))(k:aD f y=some (.slice none m c'))(h:assoc T.H7 s=some e)(i:CA op a.isNone=some v):
  af W P n H f {dst,op:= .binOp op s x y u,type:=ty_,pos,after,guard} v:=by
 intro p w g _;refine oM g j k i (by rintro o (rfl|rfl)<;>rfl) rfl rfl ?_;show(Op.equalIn (9999+1) s _ _).run P w=_;unfold Op.equalIn;rw[Sem.run_bind,run_underlying (T.jh b h)];cases a<;>rfl
theorem af.Q9{T:aI}{op:BinOp}{x y:Operand}{s u e:TypeId}{a b:Bool}{v:Value}(g:T.ok P=true)(k:aD f x=some (.bool a))(l:aD f y=some (.bool b))(i:assoc T.nY s=some (1,e))(j:CA op (a==b)=some v):
  af W P n H f {dst,op:= .binOp op s x y u,type:=ty_,pos,after,guard} v:=by
 intro m w h _;refine oM h k l j (by rintro o (rfl|rfl)<;>rfl) rfl rfl ?_;show(Op.equalIn (9999+1) s _ _).run P w=_;unfold Op.equalIn;rw[Sem.run_bind,run_underlying (T.OJ g i)];rfl
structure bM(P:Program)(t:TypeId)(zs:List Value)(pls:List (Nat×Nat)):Prop where
  zero:∀w,(zeroValue t).run P w= .ok (.agg zs.toArray) w
  tZ:∃fs,P.underlying t=some (.struct fs)/\∀w,(fs.mapM λ(f:Field)=>do Pure.pure (f.offset,<-sizeOf f.type)).run P w= .ok pls.toArray w
def bR:List Value->Nat->List Value->List Value
  |cs,_,[]=>cs
  |cs,o,v::r=>bR (cs.set o v) (o+1) r
def aC(b:List (Nat×Nat)):List Value->List (Nat×Value)->Option (List Value)
  |cs,[]=>some cs
  |cs,(i,v)::r=>match b[i]? with
    |none=>none
    |some (o,s)=>if v.cells.size≠s||o+v.cells.size>cs.length then none else aC b (bR cs o v.cells.toList) r
def xE(f:Fr):List (Nat×Operand)->Option (List (Nat×Value))
  |[]=>some []
  |(i,x)::r=>match aD f x,xE f r with
    |some v,some vs=>some ((i,v)::vs)
    |_,_=>none
theorem uA{t:Array Value}(b:bS n f t):∀{ps:List (Nat×Operand)}{vs:List (Nat×Value)},xE f ps=some vs->ps.map (λp=>(p.1,Act.eval ⟨t,[]⟩ p.2))=vs
  |[],vs,e=>by simp[xE]at e;subst e;rfl
  |(j,x)::r,vs,e=>by
    unfold xE at e;split at e
    · rename_i v ws g h
      cases e
      simp[b.eval g,uA b h]
    · cases e
theorem GF(vs:List Value):∀(o i:Nat)(cs:Array Value),((vs.zipIdx i).foldl (λcs (x:Value×Nat)=>cs.setIfInBounds (o+x.2) x.1) cs)=(bR cs.toList (o+i) vs).toArray:=by
  induction vs with
  |nil=>intro o i cs;simp[bR]
  |cons v r b=>
    intro o i cs;simp only[List.zipIdx_cons,List.foldl_cons,bR];rw[b o (i+1)];simp[ux]
theorem uJ:∀(vs:List Value)(cs:List Value)(o:Nat),(bR cs o vs).length=cs.length
 |[],_,_=>rfl
 |_::r,cs,o=>by rw[bR,uJ r];simp
theorem wF(b:List (Nat×Nat)):∀(pv:List (Nat×Value))(cs out:List Value),aC b cs pv=some out->Instr.fill (b.toArray[·]?) cs.toArray pv=some out.toArray
  |[],cs,out,h=>by cases h;rfl
  |(i,v)::r,cs,out,h=>by
    unfold aC at h;unfold Instr.fill;simp only[List.getElem?_toArray];split at h
    · cases h
    · rename_i o s g
      simp only[g]
      split at h
      · cases h
      · rename_i e
        rw[aE (by simpa using e)]
        rw[<-Array.foldl_toList,Array.toList_zipIdx]
        rw[GF v.cells.toList o 0]
        have:=wF b r _ out h
        simpa using this
theorem af.build{t:TypeId}{ps:Array (Nat×Operand)}{i cs:List Value}{b:List (Nat×Nat)}{pv:List (Nat×Value)}(sb:bM P t i b)(m:xE f ps.toList=some pv)(e:aC b i pv=some cs):
  af W P n H f {dst,op:= .build t ps,type:=ty_,pos,after,guard} (.agg cs.toArray):=
 λq w k _=>by
  obtain⟨r,o,l⟩:=sb.tZ;have g:=uA k m;have h:(ps.map λp=>(p.1,Act.eval ⟨q,[]⟩ p.2)).toList=pv:=by rw[<-g];simp
  have j:=wF b pv i cs e;unfold execOp;simp only[Instr.build,Sem.run_bind,sb.zero,Result.andThen_ok,Value.cells,run_underlying o,l,h,j,Sem.run_pure]
theorem yP(z:Value)(m:Nat):(madeCells #[z] m).toList=List.replicate m z:=by
 apply E6
 · simp[madeCells]
 ·
  intro i b e;simp[madeCells,Nat.mod_one]
theorem ay.makeSlice{l c':Operand}{t e:TypeId}{z:Value}{sz g m:Nat}{u x:IntKind}(st:cH P t e z sz g)(D:aD f l=some (.int u (m:Int)))(y:aD f c'=some (.int x (m:Int)))
  (M:g*m<=281474976710656)(j:m<=maxLen)(A:Nat.blt d n=true)
  (h:∀b,N (Own e sz (.slice (ik b) m m) m (madeCells z.cells (m*sz)).toList::H) ((d,.slice (ik b) m m)::f)):
  ay W P n {dst:=some d,op:= .makeSlice t l c',type:=ty_,pos,after,guard} Q H f N:=by
 obtain⟨i,B,J,E,p⟩:=info_parts st.info;subst E;subst p;refine ay.run (v:=λb=>.slice (ik b) m m) (G:=λb=>Own e i.size (.slice (ik b) m m) m (madeCells z.cells (m*i.size)).toList::H) A (λO w r I=>⟨w.heap.size,w.alloc (.cells (madeCells z.cells (m*i.size)) e),?_,?_⟩) h
 ·
  have o:(i.bytes:Int)* (m:Int)<=281474976710656:=by
   have h:((i.bytes*m:Nat):Int)<=281474976710656:=by omega
   rwa [Int.natCast_mul]at h
  have k:(m:Int)<=9223372036854775807:=by have h:=j;simp[maxLen]at h;omega
  have s:=run_make (P:=P) w t e i z st.tZ B J u x m m zO (Int.le_refl _) o k;simp only[Int.toNat_natCast]at s;unfold execOp;simp only[r.eval D,r.eval y,Sem.run_bind,s,Result.andThen_ok,Sem.run_pure]
 ·
  have q:=I.alloc (T:=e) (cs:=(madeCells z.cells (m*i.size)).toList++[]);simp only[mn,Array.toArray_toList]at q;have:=Holds.fS (sz:=i.size) (n:=m) (cap:=m) (spare:=[]) (xs:=(madeCells z.cells (m*i.size)).toList) (by simp[madeCells]) (eI _) j (by simp[madeCells]) (by simpa using q);exact this
theorem ay.dd{l c':Operand}{t e:TypeId}{z:Value}{g m:Nat}{r s:IntKind}(st:cH P t e z 1 g)(q:z.cells=#[z])(p:aD f l=some (.int r (m:Int)))(k:aD f c'=some (.int s (m:Int)))
  (j:g*m<=281474976710656)(i:m<=maxLen)(o:Nat.blt d n=true)
  (h:∀b,N (Own e 1 (.slice (ik b) m m) m (List.replicate m z)::H) ((d,.slice (ik b) m m)::f)):
  ay W P n {dst:=some d,op:= .makeSlice t l c',type:=ty_,pos,after,guard} Q H f N:=
 ay.makeSlice st p k j i o (by rw[q,Nat.mul_one,yP];exact h)
theorem ay.PE{l c':Operand}{t e:TypeId}{z:Value}{sz g m:Nat}{u x:IntKind}(st:cH P t e z sz g)(D:aD f l=some (.int u 0))(y:aD f c'=some (.int x (m:Int)))
  (M:g*m<=281474976710656)(j:m<=maxLen)(A:Nat.blt d n=true)
  (h:∀b,N (Own e sz (.slice (ik b) 0 m) 0 []::H) ((d,.slice (ik b) 0 m)::f)):
  ay W P n {dst:=some d,op:= .makeSlice t l c',type:=ty_,pos,after,guard} Q H f N:=by
 obtain⟨i,B,J,E,p⟩:=info_parts st.info;subst E;subst p;refine ay.run (v:=λb=>.slice (ik b) 0 m) (G:=λb=>Own e i.size (.slice (ik b) 0 m) 0 []::H) A (λO w r I=>⟨w.heap.size,w.alloc (.cells (madeCells z.cells (m*i.size)) e),?_,?_⟩) h
 ·
  have o:(i.bytes:Int)* (m:Int)<=281474976710656:=by
   have h:((i.bytes*m:Nat):Int)<=281474976710656:=by omega
   rwa [Int.natCast_mul]at h
  have k:(m:Int)<=9223372036854775807:=by have h:=j;simp[maxLen]at h;omega
  have s:=run_make (P:=P) w t e i z st.tZ B J u x 0 m (Int.le_refl _) zO o k;simp only[Int.toNat_natCast,Int.toNat_zero]at s;unfold execOp;simp only[r.eval D,r.eval y,Sem.run_bind,s,Result.andThen_ok,Sem.run_pure]
 ·
  have q:=I.alloc (T:=e) (cs:=[]++(madeCells z.cells (m*i.size)).toList);simp only[ou,Array.toArray_toList]at q;have:=Holds.fS (sz:=i.size) (n:=0) (cap:=m) (xs:=[]) (spare:=(madeCells z.cells (m*i.size)).toList) (by simp) (c7 _) j (by simp[madeCells]) (by simpa using q);exact this
theorem Holds.copy{t tx e ty:TypeId}{z:Value}{sz A m k cap:Nat}{ao:Option Addr}{y:Value}{xs news:List Value}{R:List ab}{w:World}(st:cH P t e z sz A)(T:Holds W (Own e sz (.slice ao m cap) m xs::R) w)(s:jW w sz y k news):
  ∃U,(Builtin.copy_ #[t,tx] ty #[.slice ao m cap,y]).run P w= .ok (ii ((min k m:Nat):Int)) U/\Holds W (Own e sz (.slice ao m cap) m (news.take (min k m*sz)++xs.drop (min k m*sz))::R) U:=by
 obtain⟨i,O,hz,I,V⟩:=info_parts st.info;subst I;obtain⟨E,J⟩:=T.gy;have l:(Builtin.lenOf y).run P w= .ok k w:=by
  rcases s.at_ with⟨c,rfl,rfl⟩|⟨a,c,rfl,_⟩<;>rfl
 have q:(Builtin.firstCells i.size (min k m) y).run P w= .ok (news.take (min k m*i.size)).toArray w:=by
  rcases s.at_ with⟨c,rfl,rfl⟩|⟨a,c,rfl,h⟩
  ·
   have:=s.len;simp at this;subst this;rw[run_firstCells_none];simp
  ·
   refine run_firstCells_some w i.size (min k m) a k c _ ?_ λj v r=>?_
   · rw[j1,s.len];exact Nat.min_eq_left (u0 _ (Nat.min_le_left _ _))
   ·
    rw[Oc]at r;split at r
    · exact h j v r
    · cases r
 have p:Nat.min k m=min k m:=rfl;rcases J with⟨B,rfl,x⟩|⟨b,cap',spare,B,hn,Z,X,x⟩
 ·
  cases B;refine⟨w,?_,by simpa using T⟩;simp only[Nat.min_zero]at q;simp[Builtin.copy_,run_underlying st.tZ,l,sizeOf,typeInfo,O,p,q,goInt]
 ·
  cases B;have g:(news.take (min k m*i.size)).length=min k m*i.size:=by
   rw[j1,s.len];exact Nat.min_eq_left (u0 _ (Nat.min_le_left _ _))
  have Y:min k m*i.size<=m*i.size:=u0 _ (Nat.min_le_right _ _);have u:0+(news.take (min k m*i.size)).length<=(xs++spare).length:=by rw[g,c9,E];omega
  have G:=run_storeCells_cells (P:=P) b 0 (news.take (min k m*i.size)) 0 w (λj r=>by
    have D:0+0+j<(xs++spare).length:=by omega
    rw[x.cell (.head _) (fL D)];rfl) (λj r=>x.free (.head _)) (λv J=>s.one v (Tl J))
  refine⟨w.setCells b 0 (news.take (min k m*i.size)),?_,?_⟩
  · simp[Builtin.copy_,run_underlying st.tZ,l,sizeOf,typeInfo,O,p,q,G,goInt]
  ·
   have M:=x.setCells (o:=0) (vs:=news.take (min k m*i.size)) .head u;have e:(xs++spare).take 0++news.take (min k m*i.size)++(xs++spare).drop (0+(news.take (min k m*i.size)).length)=(news.take (min k m*i.size)++xs.drop (min k m*i.size))++spare:=by
    rw[g,PA,Oh zO];simp
   rw[e]at M;refine Holds.fS ?_ hn Z ?_ M
   · rw[c9,g,CC,E];omega
   · rw[<-X];simp only[c9,CC,g,E];omega
theorem ay.copy{s x:Operand}{t tx e:TypeId}{z:Value}{sz g m k cap:Nat}{ao:Option Addr}{l:Value}{xs news:List Value}(st:cH P t e z sz g)(A:aD f s=some (.slice ao m cap))(B:aD f x=some l)
  (u:eQ H (Own e sz (.slice ao m cap) m xs) C)(b:∀w,Holds W H w->jW w sz l k news)(r:Nat.blt d n=true)
  (h:N (C (Own e sz (.slice ao m cap) m (news.take (min k m*sz)++xs.drop (min k m*sz)))) ((d,ii ((min k m:Nat):Int))::f)):
  ay W P n {dst:=some d,op:= .call {callee:= .builtin .copy,args:=#[s,x],argTypes:=#[t,tx]},type:=ty_,pos,after,guard} Q H f N:=by
 refine ay.run (α:=Unit) (v:=λ_=>ii ((min k m:Nat):Int)) (G:=λ_=>C (Own e sz (.slice ao m cap) m (news.take (min k m*sz)++xs.drop (min k m*sz)))) r (λE w i j=>?_) (λ_=>h);obtain⟨R,p,q⟩:=u.perm;obtain⟨D,y,o⟩:=Holds.copy (ty:=ty_) (tx:=tx) st (j.perm p) (b w j);refine⟨(),D,?_,o.perm (q _)⟩;unfold execOp;simp only[resolve,invoke,builtin,Sem.run_bind,Sem.run_pure,Result.andThen_ok,List.map_toArray,BI,HG,i.eval A,i.eval B,y]
def lh{β:Type}(W:World)(A:β->Prop)(r:β->Value)(G:β->List ab):Ending->World->Prop:=λe b=>∃x,A x/\e= .returned (r x)/\Holds W (G x) b
def aq(W:World)(P:Program)(g:FuncId)(args:List Value)(H:List ab){β:Type}(A:β->Prop)(r:β->Value)(G:β->List ab):Prop:=
  ∀w,Holds W H w->Calls P g args.toArray w (lh W A r G)
abbrev az(W:World)(P:Program)(g:FuncId)(args:List Value)(H:List ab)(r:Value)(G:List ab):Prop:=
  aq W P g args H (β:=Unit) (λ_=>True) (λ_=>r) (λ_=>G)
theorem aq.enter{g:FuncId}{fn:Func}{args:List Value}{β:Type}{A:β->Prop}{r:β->Value}{G:β->List ab}(i:P.funcs[g]?=some fn)(l:fn.ntmps=n)(e:fn.body.isSome=true)(k:Nat.ble args.length n=true)
  (h:VC W P n (gq fn) (bodyPost P fn (lh W A r G)) H (vZ 0 args)):aq W P g args H A r G:=by
 intro w m;obtain⟨c,b⟩:=Option.isSome_iff_exists.1 e;refine calls_of_wp i b ?_;have j:=bS.start args n (by simpa[Nat.ble_eq]using k);rw[l];have:=h _ w j m;rw[gq,b]at this;exact this
def qA(f:Fr):List ResultVar->Option Value
  |[]=>some (.tuple #[])
  |[.tmp a]=>look f a
  |[.tmp a,.tmp b]=>match look f a,look f b with
    |some u,some v=>some (.tuple #[u,v])
    |_,_=>none
  |[.tmp a,.tmp b,.tmp c]=>match look f a,look f b,look f c with
    |some u,some v,some x=>some (.tuple #[u,v,x])
    |_,_,_=>none
  |_=>none
theorem tI{fn:Func}{t:Array Value}{v:Value}(i:bS n f t)(e:qA f fn.results.toList=some v)(w:World):(results fn t).run P w= .ok v w:=by
 have g:fn.results=fn.results.toList.toArray:=by simp
 unfold qA at e;split at e
 · rename_i h;rw[h]at g;cases e;simp[results,g]
 ·
  rename_i a h;rw[h]at g;have:=i.get a v e;simp[results,g,this]
 ·
  rename_i a b h;rw[h]at g;split at e
  ·
   rename_i u x j k;cases e;have:=i.get a u j;have:=i.get b x k;simp[results,g, *]
  · cases e
 ·
  rename_i a b c h;rw[h]at g;split at e
  ·
   rename_i u x y j k l;cases e;have:=i.get a u j;have:=i.get b x k;have:=i.get c y l;simp[results,g, *]
  · cases e
 · cases e
theorem VE.result{fn:Func}{R:Ending->World->Prop}{v:Value}{e:Exit}(b:e= .ret\/e= .normal)(i:qA f fn.results.toList=some v)(h:∀w,Holds W H w->R (.returned v) w):VE W n (bodyPost P fn R) e H f:=by
 intro t w g j;rcases b with rfl|rfl<;>exact⟨rfl,_,tI g i w,h w j⟩
theorem VE.done{fn:Func}{β:Type}{A:β->Prop}{r:β->Value}{G:β->List ab}{v:Value}(x:β)(g:qA f fn.results.toList=some v)(b:A x)(h:v=r x)(e:ae W H (G x)):VE W n (bodyPost P fn (lh W A r G)) .ret H f:=
 VE.result (.inl rfl) g λw i=>⟨x,b,by rw[h],e w i⟩
theorem VE.qv{fn:Func}{β:Type}{A:β->Prop}{r:β->Value}{G:β->List ab}{v:Value}(x:β)(g:qA f fn.results.toList=some v)(b:A x)(h:v=r x)(e:ae W H (G x)):VE W n (bodyPost P fn (lh W A r G)) .normal H f:=
 VE.result (.inr rfl) g λw i=>⟨x,b,by rw[h],e w i⟩
theorem VE.ax{fn:Func}{r v:Value}{G:List ab}(e:qA f fn.results.toList=some v)(g:v=r)(b:ae W H G):VE W n (bodyPost P fn (lh W (λ_:Unit=>True) (λ_=>r) (λ_=>G))) .ret H f:=
 VE.result (.inl rfl) e λw h=>⟨(),trivial,by rw[g],b w h⟩
theorem VE.b9{fn:Func}{r v:Value}{G:List ab}(e:qA f fn.results.toList=some v)(g:v=r)(b:ae W H G):VE W n (bodyPost P fn (lh W (λ_:Unit=>True) (λ_=>r) (λ_=>G))) .normal H f:=
 VE.result (.inr rfl) e λw h=>⟨(),trivial,by rw[g],b w h⟩
theorem ay.call{x:Operand}{xs:Array Operand}{ats:Array TypeId}{g:FuncId}{cap:Array Value}{vs:List Value}{β:Type}{A:β->Prop}{r:β->Value}{G:β->List ab}
  (v:aD f x=some (.func (.func g) #[] cap))(o:jo f xs.toList=some vs)(p:∀a w,(callFunc g a).run P w= .ok (.enter g a) w)(spec:aq W P g (vs++cap.toList) L A r G)
  (m:ae W H L)(q:Nat.blt d n=true)(h:∀y,A y->N (G y) ((d,r y)::f)):
  ay W P n {dst:=some d,op:= .call {callee:= .value x,args:=xs,argTypes:=ats},type:=ty_,pos,after,guard} Q H f N:=by
 intro t w i u K l;have b:xs.map (Act.eval ⟨t,[]⟩)=vs.toArray:=by
  have:=i.args o;apply Array.ext';simpa using this
 have s:=spec w (m w u);unfold Oper.wp execOp;simp only[resolve,i.eval v,b,Deferred.ofValue,invoke,Sem.run_bind,Sem.run_pure,Result.andThen_ok,p,Oper.upon];have e:#[]++vs.toArray++cap=(vs++cap.toList).toArray:=by simp
 rw[e];refine Calls.mono s ?_;rintro e z ⟨y,j,rfl,k⟩;exact l _ _ (h y j) _ _ (i.put q) k
def VQ(W:World)(P:Program)(n:Nat)(c:Code)(k:Nat)(Q:Exit->Act->World->Prop)(H:List ab)(f:Fr):Prop:=
  ∀t,bS n f t->wpQuiet P (aG c).toArray (Holds W H) (λe=>∀b,Holds W H b->Q .normal e b) ((aG c).drop k) ⟨t,[]⟩
theorem VC.quiet(g:dg c=some true)(j:P.follows .mixedOrders=true)(e:Region.lexB .any (aG c).toArray=true)(h:VQ W P n c 0 Q H f):VC W P n c Q H f:=by
 cases c<;>simp[dg]at g;subst g;intro t w i k;have b:=h t i;simp only[aG,KP,Array.toArray_toList]at b e;exact wp_region_quiet (C:=Holds W H) j e k.drew b
theorem VQ.nil{k:Nat}(e:(aG c)[k]?=none)(h:VE W n Q .normal H f):VQ W P n c k Q H f:=by
 intro t b;rw[SQ (by simpa using e)];exact wpQuiet_nil λw g=>h t w b g
theorem VQ.pure{k:Nat}{op:Op}{v:Value}(j:(aG c)[k]?=some {dst:=some d,op,type:=ty_,pos,after,guard})(i:gA (aG c) guard f=some true)
  (l:af W P n H f {dst:=some d,op,type:=ty_,pos,after,guard} v)(g:Nat.blt d n=true)(h:VQ W P n c (k+1) Q H ((d,v)::f)):VQ W P n c k Q H f:=by
 intro t b;rw[lX j];refine BigFrame.wpQuiet_want (b.wanted (o:={dst:=some d,op,type:=ty_,pos,after,guard}) i) λK e=>⟨v,λw m=>?_,e _ (h _ (b.put g))⟩;unfold Oper.quietAt;rw[l t w b m];exact⟨rfl,rfl⟩
theorem VQ.call{k:Nat}{x:Operand}{xs:Array Operand}{ats:Array TypeId}{g:FuncId}{cap:Array Value}{vs:List Value}{r:Value}
  (y:(aG c)[k]?=some {dst:=some d,op:= .call {callee:= .value x,args:=xs,argTypes:=ats},type:=ty_,pos,after,guard})(v:gA (aG c) guard f=some true)
  (B:aD f x=some (.func (.func g) #[] cap))(q:jo f xs.toList=some vs)(s:∀a w,(callFunc g a).run P w= .ok (.enter g a) w)(spec:az W P g (vs++cap.toList) L r L)
  (m:ae W H L)(p:ae W L H)(u:Nat.blt d n=true)(h:VQ W P n c (k+1) Q H ((d,r)::f)):VQ W P n c k Q H f:=by
 intro t i;rw[lX y];refine BigFrame.wpQuiet_want (i.wanted (o:={dst:=some d,op:= .call {callee:= .value x,args:=xs,argTypes:=ats},type:=ty_,pos,after,guard}) v) λK l=>⟨r,λw A=>?_,l _ (h _ (i.put u))⟩;have b:xs.map (Act.eval ⟨t,[]⟩)=vs.toArray:=by
  have:=i.args q;apply Array.ext';simpa using this
 have z:=spec w (m w A);have e:#[]++vs.toArray++cap=(vs++cap.toList).toArray:=by simp
 unfold Oper.quietAt execOp;simp only[resolve,i.eval B,b,Deferred.ofValue,invoke,Sem.run_bind,Sem.run_pure,Result.andThen_ok,s];rw[e];refine⟨rfl,Calls.mono z ?_⟩;rintro e D ⟨_,_,rfl,j⟩;exact⟨rfl,p D j⟩
theorem VQ.skip{k:Nat}{o:Oper}(j:(aG c)[k]?=some o)(g:gA (aG c) o.guard f=some false)(e:o.dst=some d)(i:Nat.blt d n=true)(h:VQ W P n c (k+1) Q H ((d,undef)::f)):VQ W P n c k Q H f:=by
 intro t b;rw[lX j];refine BigFrame.wpQuiet_skip (by exact b.wanted g) ?_;rw[e];exact h _ (b.put i)
theorem VQ.gT{k s:Nat}{o:Oper}{b:Bool}(j:(aG c)[k]?=some o)(l:kT (aG c) o.guard=some s)(i:look f s=some (.bool b))(e:b=true)(h:VQ W P n c k Q H ((s,.bool true)::f)):VQ W P n c k Q H f:=
 λt g=>h t (g.again (e▸i))
theorem VQ.gF{k s:Nat}{o:Oper}{b:Bool}(j:(aG c)[k]?=some o)(l:kT (aG c) o.guard=some s)(i:look f s=some (.bool b))(e:b=false)(h:VQ W P n c k Q H ((s,.bool false)::f)):VQ W P n c k Q H f:=
 λt g=>h t (g.again (e▸i))
theorem aq.calls{g:FuncId}{args:List Value}{β:Type}{A:β->Prop}{r:β->Value}{G:β->List ab}(h:aq W P g args [] A r G):Calls P g args.toArray W λe k=>(∃x,A x/\e= .returned (r x))/\Below W.heap.size W k:=
 (h W (Holds.start W)).mono λ_ _ ⟨x,b,i,j⟩=>⟨⟨x,b,i⟩,j.below⟩
end
attribute [irreducible] VC VO VE VQ ay af aq mQ mi xl
end Go.Sl
