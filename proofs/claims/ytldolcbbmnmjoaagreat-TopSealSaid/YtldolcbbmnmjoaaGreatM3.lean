import Derived.Test.YtldolcbbmnmjoaaGreatM2
import Derived.StillTail
import Derived.Scope
import Derived.MapKept
import Derived.Carry
import Derived.SizedLaws
import Derived.Deep.Slices
import Derived.DeepKeys
import Derived.Lib.ConvBytes
import Derived.Laws.IdiomStrings
set_option maxRecDepth 8000
set_option maxHeartbeats 16000000
set_option linter.unusedVariables false
set_option linter.unusedSimpArgs false
set_option linter.unusedSectionVars false
set_option linter.defProp false
namespace Go.Sl
open Go.RowKit
section
variable{P:Program}{ops:Array Oper}{Q:Exit->Act->World->Prop}{md:Region.Mode}{S:World->Prop}
def pH(P:Program)(md:Region.Mode)(ops:Array Oper)(Q:Exit->Act->World->Prop)(S:World->Prop)(n:Nat):Nat->Array Bool->Act->World->Prop
  |0,b,a,w=>Region.ready md ops b=[]/\Q .normal a w
  |fuel+1,b,a,w=>
    (Region.ready md ops b=[]->Q .normal a w)/\
    ∀i∈Region.ready md ops b,wpOp P ops Q i (λj h=>(i<n->S h)/\pH P md ops Q S n fuel (b.setIfInBounds i true) j h) a w
theorem lL{n:Nat}:∀(fuel:Nat)(b:Array Bool)(a:Act)(w:World),pH P md ops Q S n fuel b a w->wpAny P md ops Q fuel b a w
 |0,_,_,_,h=>h
 |fuel+1,_,_,_,h=>⟨h.1,λi l=>wpOp_mono (λj m k=>lL fuel _ j m k.2) (h.2 i l)⟩
def nj(md:Region.Mode)(ops:Array Oper)(n:Nat):Prop:=ops.size<=n\/(Region.sinkB md ops n=true/\Region.chainB md ops n=true/\n<ops.size)
theorem Gq{n i j:Nat}{a:Array Bool}(t:nj md ops n)(inv:HeadInv md ops n a)(m:i<n)(b:a.getD i true=false)(k:j∈Region.ready md ops a):j<n:=by
 rcases t with h|⟨s,l,p⟩
 ·
  obtain⟨_,o,q,_⟩:=mem_ready.1 k;have:=(Array.getElem?_eq_some_iff.1 q).1;omega
 ·
  rcases w9 j n with h|h
  · exact h
  · exact lcs k (tail_waits s l p inv _ i rfl m b j h)
theorem nU{n i:Nat}{B:Oper}{v:Value}(ht:nj md ops n)(V:ops[i]?=some B)(u:∀(j:Nat)(o:Oper) cs b,ops[j]?=some o->o.op≠.select cs b)
    (hQ:∀c a w,¬Q (.panic c) a w)(Y:i<n):
    ∀(fuel:Nat)(l:Array Bool)(a:Act)(w:World),HeadInv md ops n l->
      (∀j z,ops[j]?=some z->j≠i->l.getD j true=false->(∀e∈z.after,Region.binds md e=true->e.on≠i)->B.apart ops z=true)->
      i∈Region.ready md ops l->YieldsIf P ops S B v a->S w->
      pH P md ops Q S n fuel (l.setIfInBounds i true) (a.put B.dst v) w->pH P md ops Q S n (fuel+1) l a w:=by
  intro fuel;induction fuel with
  |zero=>
    intro l a w inv _ t T E H;refine⟨λh=>(by rw[h]at t;cases t),λj A=>?_⟩;by_cases m:j=i
    · subst m;exact T.wpOp V E ⟨λ_=>E,H⟩
    · have:=ready_mono A m
      rw[H.1]at this
      cases this
  |succ fuel ih=>
    intro l a w inv p t T E H;refine⟨λh=>(by rw[h]at t;cases t),λj A=>?_⟩;by_cases m:j=i
    · subst m;exact T.wpOp V E ⟨λ_=>E,H⟩
    · have J:=Gq ht inv Y (mem_ready.1 t).1 A
      have D:=H.2 j (ready_mono A m)
      obtain⟨s,z,y,G⟩:=mem_ready.1 A
      have K:∀e∈z.after,Region.binds md e=true->e.on≠i:=λe he hb U=>by
        have D:=G e he hb;have h0:=(mem_ready.1 t).1;rw[U]at D;rw[getD_both h0]at D;cases D
      have h2:=wpOp_putIf y (p j z y m s K) (λcs b=>u i B cs b V) (λcs b=>u j z cs b y) (λc a w h=>lcs h (hQ c _ w)) T D
      have q:∀k ok,ops[k]?=some ok->k≠i->(l.setIfInBounds j true).getD k true=false->
          (∀e∈ok.after,Region.binds md e=true->e.on≠i)->B.apart ops ok=true:=λk ok hk Z M aa=>by
        refine p k ok hk Z ?_ aa;by_cases I:j=k
        · subst I;exact s
        · rw[getD_set_ne true I]at M;exact M
      refine wpOp_mono (λa' w' O=>⟨O.2.1,ih (l.setIfInBounds j true) a' w' (inv.set A J) q (ready_mono t (Ne.symm m)) O.1 (O.2.1 J) ?_⟩) h2
      rw[Array.setIfInBounds_comm _ _ m]
      exact O.2.2
def BK(mv:List Nat)(tl i:Nat):Bool:=mv.contains i||Nat.ble tl i
def JN(ops:Array Oper)(a:Array Bool)(i:Nat):Bool:=
  match Region.ready .any ops a with
  |[j]=>Nat.beq i j
  |_=>false
theorem pX{a:Array Bool}{i:Nat}(h:JN ops a i=true):Region.ready .any ops a=[i]:=by
 unfold JN at h;split at h
 ·
  rename_i j b;have:i=j:=by simpa using h
  rw[b,this]
 · cases h
def EP(ops:Array Oper):List Nat->Array Bool->Bool
  |[],a=>(Region.ready .any ops a).isEmpty
  |i::r,a=>JN ops a i&&EP ops r (a.setIfInBounds i true)
def rV(ops:Array Oper)(mv:List Nat)(tl:Nat):List Nat->Array Bool->Bool
  |[],a=>(Region.ready .any ops a).isEmpty
  |i::r,a=>
    bif Nat.ble tl i then EP ops (i::r) a&&r.all (Nat.ble tl ·)else
    bif mv.contains i then JN ops a i&&rV ops mv tl r (a.setIfInBounds i true)else
    Region.free .any ops a i&&(Region.ready .any ops a).contains i&&rV ops mv tl r (a.setIfInBounds i true)
def zJ(ops:Array Oper)(mv:List Nat)(tl:Nat)(ord:List Nat):Bool:=
  Nat.beq ord.length ops.size&&Region.noSelect ops&&(Nat.ble ops.size tl||(Region.sinkB .any ops tl&&Region.chainB .any ops tl&&Nat.blt tl ops.size))&&rV ops mv tl ord (Array.replicate ops.size false)
def eF(Q:Exit->Act->World->Prop):Exit->Act->World->Prop:=λe a w=>e= .normal/\Q .normal a w
def fo(P:Program)(ops:Array Oper)(Q:Exit->Act->World->Prop)(S:World->Prop)(mv:List Nat)(tl:Nat):List Nat->Act->World->Prop
  |[],a,w=>Q .normal a w
  |i::r,a,w=>
    (BK mv tl i=true/\wpOp P ops (eF Q) i (λh b=>(i<tl->S b)/\fo P ops Q S mv tl r h b) a w)\/
    (BK mv tl i=false/\∃o v,ops[i]?=some o/\YieldsIf P ops S o v a/\fo P ops Q S mv tl r (a.put o.dst v) w)
theorem oW{mv:List Nat}{tl i:Nat}(h:Nat.ble tl i=true):BK mv tl i=true:=by simp[BK,h]
theorem x1{mv:List Nat}{tl:Nat}:∀(r:List Nat)(b:Array Bool)(a:Act)(w:World),EP ops r b=true->r.all (Nat.ble tl ·)=true->fo P ops Q S mv tl r a w->pH P .any ops (eF Q) S tl r.length b a w
  |[],b,a,w,h,_,k=>by
    simp only[EP,List.isEmpty_iff]at h;exact⟨h,rfl,k⟩
  |i::r,b,a,w,h,l,k=>by
    simp only[EP,mV]at h;simp only[List.all_cons,mV]at l;have s:=pX h.1;rcases k with⟨_,k⟩|⟨q,_⟩
    · refine⟨λo=>(by rw[s]at o;cases o),λj p=>?_⟩
      rw[s,ju]at p
      subst p
      exact wpOp_mono (λt u m=>⟨m.1,x1 r _ t u h.2 l.2 m.2⟩) k
    · rw[oW l.1]at q;cases q
theorem iy{mv:List Nat}{tl:Nat}(y:nj .any ops tl)(u:Region.noSelect ops=true):∀(r:List Nat)(b:Array Bool)(a:Act)(w:World),HeadInv .any ops tl b->rV ops mv tl r b=true->S w->fo P ops Q S mv tl r a w->pH P .any ops (eF Q) S tl r.length b a w
  |[],b,a,w,_,h,_,l=>by
    simp only[rV,List.isEmpty_iff]at h;exact⟨h,rfl,l⟩
  |i::r,b,a,w,inv,h,A,l=>by
    unfold rV at h;cases m:Nat.ble tl i with
    |true=>
      rw[m]at h;simp only[cond_true,mV]at h;exact x1 (i::r) b a w h.1 (by simp only[List.all_cons,m,h.2,Bool.and_self]) l
    |false=>
      have k:i<tl:=by
        rcases w9 i tl with h'|h'
        · exact h'
        · rw[Nat.ble_eq_true_of_le h']at m;cases m
      rw[m]at h;cases t:mv.contains i with
      |true=>
        rw[t]at h;simp only[cond_true,cond_false,mV]at h;have s:=pX h.1;rcases l with⟨_,l⟩|⟨q,_⟩
        · refine⟨λz=>(by rw[s]at z;cases z),λj B=>?_⟩
          have p:=B
          rw[s,ju]at p
          subst p
          exact wpOp_mono (λE J h'=>⟨h'.1,iy y u r _ E J (inv.set B k) h.2 (h'.1 k) h'.2⟩) l
        · simp only[BK,t,Bool.true_or]at q;cases q
      |false=>
        rw[t]at h;simp only[cond_false,mV]at h;have s:i∈Region.ready .any ops b:=by simpa using h.1.2
        rcases l with⟨q,_⟩|⟨_,o,v,D,I,l⟩
        · simp only[BK,m,t,Bool.or_self]at q;cases q
        · exact nU y D (Region.noSelect_spec u) (λc a w G=>by cases G.1) k r.length b a w inv (Region.free_spec D h.1.1) s I A (iy y u r _ _ w (inv.set s k) h.2 A l)
theorem HeadInv.start(n:Nat):HeadInv md ops n (Array.replicate ops.size false):=by
 refine⟨by simp,λj b _ h=>?_,λt _ a=>by simp[a]⟩;rw[getD_replicate_false]at h;cases h
theorem u5{id:Nat}{mv:List Nat}{tl:Nat}{ord:List Nat}{a:Act}{w:World}(t:P.follows .mixedOrders=true)(l:zJ ops mv tl ord=true)(p:S w.drew)
  (h:fo P ops Q S mv tl ord a w.drew):(Code.region id ops true).wp P Q a w:=by
 simp only[zJ,mV,Bool.or_eq_true]at l;obtain⟨⟨⟨s,v⟩,y⟩,q⟩:=l;have j:ord.length=ops.size:=by simpa using s
 have k:nj .any ops tl:=by
  rcases y with h|⟨⟨b,m⟩,o⟩
  · exact .inl (Nat.le_of_ble_eq_true h)
  · exact .inr ⟨b,m,by simpa[Nat.blt_eq]using o⟩
 have b:=iy (P:=P) (Q:=Q) (S:=S) k v ord _ a w.drew (HeadInv.start tl) q p h;rw[j]at b;refine Code.wp_mono ?_ (wp_region_any (Q:=eF Q) t (lL _ _ _ _ b));rintro e a w ⟨rfl,u⟩;exact u
end
section
variable{W:World}{P:Program}{n:Nat}{c:Code}{Q:Exit->Act->World->Prop}{H H' L R:List ab}{f F:Fr}{mv ord r:List Nat}{tl i:Nat}
variable{dst:Option Tmp}{d:Nat}{ty_:TypeId}{pos:String}{after:Array Edge}{guard:Option (Nat×Bool)}
def VD(W:World)(P:Program)(n:Nat)(c:Code)(R:List ab)(mv:List Nat)(tl:Nat)(r:List Nat)(Q:Exit->Act->World->Prop)(H:List ab)(f:Fr):Prop:=
  ∀t w,bS n f t->Holds W H w->fo P (aG c).toArray Q (Holds W R) mv tl r ⟨t,[]⟩ w
theorem VC.drawn(mv:List Nat)(tl:Nat)(ord:List Nat)(R:List ab)(j:dg c=some true)(o:P.follows .mixedOrders=true)(b:zJ (aG c).toArray mv tl ord=true)(l:ae W H R)
  (h:VD W P n c R mv tl ord Q H f):VC W P n c Q H f:=by
 unfold VC;cases c<;>simp[dg]at j;subst j;intro t w m k;have a:=h t w.drew m k.drew;simp only[aG,Array.toArray_toList]at a b;exact u5 o b (l _ k.drew) a
theorem VD.nil(h:VE W n Q .normal H f):VD W P n c R mv tl [] Q H f:=by
 unfold VE at h;exact λt w a b=>h t w a b
theorem VD.take{op:Op}{v:Value}(p:(aG c)[i]?=some {dst:=some d,op,type:=ty_,pos,after,guard})(m:BK mv tl i=false)(l:gA (aG c) guard f=some true)
  (b:af W P n R f {dst:=some d,op,type:=ty_,pos,after,guard} v)(k:Nat.blt d n=true)(h:VD W P n c R mv tl r Q H ((d,v)::f)):VD W P n c R mv tl (i::r) Q H f:=by
 unfold af at b;intro t w a q;refine .inr ⟨m,_,v,by simpa using p,.inl ⟨a.wanted (o:={dst:=some d,op,type:=ty_,pos,after,guard}) l,λw j=>b t w a j⟩,h _ w (a.put k) q⟩
theorem VD.skip{o:Oper}(m:(aG c)[i]?=some o)(k:BK mv tl i=false)(j:gA (aG c) o.guard f=some false)(b:o.dst=some d)(l:Nat.blt d n=true)(h:VD W P n c R mv tl r Q H ((d,undef)::f)):VD W P n c R mv tl (i::r) Q H f:=by
 intro t w a p;refine .inr ⟨k,_,undef,by simpa using m,.inr ⟨a.wanted j,rfl⟩,?_⟩;rw[b];exact h _ w (a.put l) p
theorem VD.H6{o:Oper}(q:(aG c)[i]?=some o)(m:BK mv tl i=true)(j:ae W H R)(l:gA (aG c) o.guard f=some false)(k:o.dst=some d)(p:Nat.blt d n=true)(h:VD W P n c R mv tl r Q H ((d,undef)::f)):VD W P n c R mv tl (i::r) Q H f:=by
 intro t w a b;refine .inl ⟨m,?_⟩;unfold wpOp;simp only[List.getElem?_toArray,q];rw[aE (by rw[show Region.wanted o (yielded (aG c).toArray (Act.mk t []).tmps)=false from a.wanted l];simp),k];exact⟨λ_=>j _ b,h _ _ (a.put p) b⟩
theorem VD.yC{o:Oper}(q:(aG c)[i]?=some o)(p:BK mv tl i=true)(m:gA (aG c) o.guard f=some true)(h:ay W P n o (eF Q) H f (λH' j=>ae W H' R/\VD W P n c R mv tl r Q H' j)):
  VD W P n c R mv tl (i::r) Q H f:=by
 unfold ay at h;intro t w l s;refine .inl ⟨p,?_⟩;unfold wpOp;simp only[List.getElem?_toArray,q];rw[lam (l.wanted m)];exact .inl (h t w l s _ λH' j k t' u b a=>⟨λ_=>k.1 _ a,k.2 t' u b a⟩)
theorem VD.end{o:Oper}(s:(aG c)[i]?=some o)(m:Nat.ble tl i=true)(q:gA (aG c) o.guard f=some true)(h:ay W P n o (eF Q) H f (λH' k=>VD W P n c R mv tl r Q H' k)):
  VD W P n c R mv tl (i::r) Q H f:=by
 unfold ay at h;intro t w l u;refine .inl ⟨oW m,?_⟩;unfold wpOp;simp only[List.getElem?_toArray,s];rw[lam (l.wanted q)];exact .inl (h t w l u _ λH' k p t' v a j=>⟨λb=>lcs b (Nat.not_lt.2 (Nat.le_of_ble_eq_true m)),p t' v a j⟩)
theorem VD.split{s:Nat}{o:Oper}{b:Bool}(m:(aG c)[i]?=some o)(p:kT (aG c) o.guard=some s)(h:look f s=some (.bool b))
  (l:b=true->VD W P n c R mv tl (i::r) Q H ((s,.bool true)::f))(k:b=false->VD W P n c R mv tl (i::r) Q H ((s,.bool false)::f)):VD W P n c R mv tl (i::r) Q H f:=by
 intro t w a j;cases b with
 |true=>exact l rfl t w (a.again h) j
 |false=>exact k rfl t w (a.again h) j
theorem VD.gT{s:Nat}{o:Oper}{b:Bool}(m:(aG c)[i]?=some o)(p:kT (aG c) o.guard=some s)(k:look f s=some (.bool b))(a:b=true)(h:VD W P n c R mv tl (i::r) Q H ((s,.bool true)::f)):VD W P n c R mv tl (i::r) Q H f:=
 λt w j l=>h t w (j.again (a▸k)) l
theorem VD.gF{s:Nat}{o:Oper}{b:Bool}(m:(aG c)[i]?=some o)(p:kT (aG c) o.guard=some s)(k:look f s=some (.bool b))(a:b=false)(h:VD W P n c R mv tl (i::r) Q H ((s,.bool false)::f)):VD W P n c R mv tl (i::r) Q H f:=
 λt w j l=>h t w (j.again (a▸k)) l
theorem VD.re{v:Value}(d:Nat)(v':Value)(b:look f d=some v)(e:v=v')(h:VD W P n c R mv tl r Q H ((d,v')::f)):VD W P n c R mv tl r Q H f:=λt w a j=>h t w (a.again (e▸b)) j
theorem VD.bH{p:Prop}(b:∀w,Holds W H w->p)(h:p->VD W P n c R mv tl r Q H f):VD W P n c R mv tl r Q H f:=λt w j a=>h (b w a) t w j a
theorem VD.aR(a:ae W H H')(h:VD W P n c R mv tl r Q H' f):VD W P n c R mv tl r Q H f:=λt w b j=>h t w b (a w j)
theorem af.QF{T:aI}{x:Operand}{s sz:TypeId}{a:Addr}{cs:List Value}(k:T.ok P=true)(u:aD f x=some (.pointer (some a)))(p:assoc T.vX s=some sz)(o:cs.length=sz)
  (l:∀w,Holds W H w->∀j v,cs[j]?=some v->w.cell? (a.add j)=some v):af W P n H f {dst,op:= .load s x,type:=ty_,pos,after,guard} (.agg cs.toArray):=by
  unfold af
  intro t w m q
  obtain⟨b,h⟩:=T.sM k p
  subst o
  simp[execOp,m.eval u,Instr.loadAt,Instr.sureAddr,loadVar,Sem.run_bind,b,h,run_loadCells_list w a cs (l w q)]
theorem af.Tn{T:aI}{x:Operand}{s U sz:TypeId}{b off:Nat}{cs vs:List Value}(h:T.ok P=true)(q:aD f x=some (.pointer (some ⟨b,off,none⟩)))(l:assoc T.vX s=some sz)(m:Row b U cs∈H)(o:(cs.drop off).take sz=vs)(k:vs.length=sz):
  af W P n H f {dst,op:= .load s x,type:=ty_,pos,after,guard} (.agg vs.toArray):=
 af.QF h q l k λw p j v a=>by
  rw[Addr.add_lit];refine p.cell m ?_;rw[<-o,Oc]at a;split at a
  · rw[Od]at a;exact a
  · cases a
theorem af.gY{T:aI}{x:Operand}{s sz:TypeId}{a:Addr}{z k j:Nat}{xs vs:List Value}(h:T.ok P=true)(t:aD f x=some (.pointer (some (a.add j))))(o:assoc T.vX s=some sz)(m:aV W H z (some a) k xs)(p:(xs.drop j).take sz=vs)(l:vs.length=sz):
  af W P n H f {dst,op:= .load s x,type:=ty_,pos,after,guard} (.agg vs.toArray):=
 af.QF h t o l λw q i v b=>by
  rw[mW];refine m.cell w q a rfl _ _ ?_;rw[<-p,Oc]at b;split at b
  · rw[Od]at b;exact b
  · cases b
theorem af.fH{T:aI}{x:Operand}{s:TypeId}{a:Addr}{z k j:Nat}{xs:List Value}{v:Value}(b:T.ok P=true)(p:aD f x=some (.pointer (some (a.add j))))(l:assoc T.leaf s=some ())(m:aV W H z (some a) k xs)(h:xs[j]?=some v):
  af W P n H f {dst,op:= .load s x,type:=ty_,pos,after,guard} v:=af.Uu b p l λw o=>m.cell w o a rfl j v h
theorem af.qQ{T:aI}{x:Operand}{a:Addr}{j off:Nat}{s:TypeId}{i:Nat}(m:T.ok P=true)(u:aD f x=some (.pointer (some (a.add j))))(b:T.Tf s i=some off):
  af W P n H f {dst,op:= .fieldAddr s x i,type:=ty_,pos,after,guard} (.pointer (some (a.add (j+off)))):=by
 unfold af;intro t w o _;have b:=T.L9 m b;unfold wJ at b;split at b
 ·
  rename_i v q;split at b
  ·
   rename_i fd h;split at b
   · cases b
   ·
    rename_i k;cases b;have p:(sizeOf fd.type).run P w= .ok (P.cellsOf fd.type) w:=by
     unfold Program.cellsOf at k⊢;cases l:P.info? fd.type with
     |none=>simp[l]at k
     |some y=>simp[sizeOf,typeInfo,l]
    simp[execOp,o.eval u,Instr.fieldAt,run_underlying q,h,Instr.sureAddr,fieldPlace,p,k,mW]
  · cases b
 · cases b
theorem af.min2{x y:Operand}{t:Array TypeId}{k m:IntKind}{a b:Int}(j:aD f x=some (.int k a))(l:aD f y=some (.int m b)):
  af W P n H f {dst,op:= .call {callee:= .builtin .min,args:=#[x,y],argTypes:=t},type:=ty_,pos,after,guard} (.int k (min a b)):=by
  unfold af
  intro o w h _
  unfold execOp
  simp[resolve,invoke,builtin,h.eval j,h.eval l,Builtin.min_,Builtin.min2]
  split<;>omega
theorem af.max2{x y:Operand}{t:Array TypeId}{k m:IntKind}{a b:Int}(j:aD f x=some (.int k a))(l:aD f y=some (.int m b)):
  af W P n H f {dst,op:= .call {callee:= .builtin .max,args:=#[x,y],argTypes:=t},type:=ty_,pos,after,guard} (.int k (max a b)):=by
  unfold af
  intro o w h _
  unfold execOp
  simp[resolve,invoke,builtin,h.eval j,h.eval l,Builtin.max_,Builtin.max2]
  split<;>omega
def Rb(T:aI)(op:BinOp)(s:TypeId)(u v:Value):Option Value:=
  match u,v with
  | .int k a,.int h b=>if k=h then OE op k a b else none
  | .pointer a,.pointer none=>match assoc T.nY s with
    |some (0,_)=>CA op a.isNone
    |_=>none
  | .slice a _ _,.slice none _ _=>match assoc T.H7 s with
    |some _=>CA op a.isNone
    |none=>none
  | .bool a,.bool b=>match assoc T.nY s with
    |some (1,_)=>CA op (a==b)
    |_=>none
  |_,_=>none
def Ft(T:aI)(b:Builtin)(f:Fr):List Operand->List TypeId->Option Value
  |[x],[t]=>match b,aD f x,assoc T.H7 t with
    | .len,some (.slice _ k _),some _=>some (ii (k:Int))
    | .cap,some (.slice _ _ k),some _=>some (ii (k:Int))
    |_,_,_=>none
  |[x,y],_=>match b,aD f x,aD f y with
    | .min,some (.int k a),some (.int _ b)=>some (.int k (min a b))
    | .max,some (.int k a),some (.int _ b)=>some (.int k (max a b))
    |_,_,_=>none
  |_,_=>none
def QJ(T:aI)(f:Fr):Op->Option Value
  | .move x=>aD f x
  | .assign x=>aD f x
  | .nilCheck x=>match aD f x with
    |some (.pointer (some a))=>some (.pointer (some a))
    |some (.func (.func g) p q)=>some (.func (.func g) p q)
    |_=>none
  | .pick x y z=>match aD f x with
    |some (.bool true)=>aD f y
    |some (.bool false)=>aD f z
    |_=>none
  | .extract x i=>match aD f x with
    |some (.tuple vs)=>vs[i]?
    |_=>none
  | .fieldAddr s x i=>match aD f x,T.Tf s i with
    |some (.pointer (some ⟨b,o,none⟩)),some off=>some (.pointer (some ⟨b,o+off,none⟩))
    |_,_=>none
  | .convert s t x=>match aD f x,assoc T.ints s,assoc T.ints t with
    |some (.int _ a),some _,some h=>some (.int h (h.wrap a))
    |_,_,_=>none
  | .unOp .not _ x=>match aD f x with
    |some (.bool b)=>some (.bool (!b))
    |_=>none
  | .binOp op s x y _=>match aD f x,aD f y with
    |some u,some v=>Rb T op s u v
    |_,_=>none
  | .call {callee:= .builtin b,args:=xs,argTypes:=ts}=>Ft T b f xs.toList ts.toList
  |_=>none
theorem OO{T:aI}(l:T.ok P=true){op:BinOp}{s u:TypeId}{x y:Operand}{a b v:Value}(j:aD f x=some a)(k:aD f y=some b)(h:Rb T op s a b=some v):
  af W P n H f {dst,op:= .binOp op s x y u,type:=ty_,pos,after,guard} v:=by
 unfold Rb at h;split at h
 ·
  split at h
  · rename_i e;subst e;exact .bin j k h
  · cases h
 ·
  split at h
  · rename_i e;exact .R4 l j k e h
  · cases h
 ·
  split at h
  · rename_i e;exact .Nw l j k e h
  · cases h
 ·
  split at h
  · rename_i e;exact .Q9 l j k e h
  · cases h
 · cases h
theorem IP{T:aI}(k:T.ok P=true){b:Builtin}{xs:List Operand}{ts:List TypeId}{v:Value}(h:Ft T b f xs ts=some v):
  af W P n H f {dst,op:= .call {callee:= .builtin b,args:=xs.toArray,argTypes:=ts.toArray},type:=ty_,pos,after,guard} v:=by
 unfold Ft at h;split at h
 ·
  split at h
  · rename_i a j;cases h;exact .len k a j
  · rename_i a j;cases h;exact .cap k a j
  · cases h
 ·
  split at h
  · rename_i a j;cases h;exact .min2 a j
  · rename_i a j;cases h;exact .max2 a j
  · cases h
 · cases h
theorem af.eval{T:aI}(j:T.ok P=true){op:Op}{v:Value}(h:QJ T f op=some v):af W P n H f {dst,op,type:=ty_,pos,after,guard} v:=by
 unfold QJ at h;split at h
 · exact .move h
 · exact .assign h
 ·
  split at h
  · rename_i e;cases h;exact .RO e
  · rename_i e;cases h;exact .nilFunc e
  · cases h
 ·
  split at h
  · rename_i e;exact .Tz e h
  · rename_i e;exact .Ty e h
  · cases h
 ·
  split at h
  · rename_i e;exact .extract e h
  · cases h
 ·
  split at h
  · rename_i a b;cases h;exact .fieldAddr j a b
  · cases h
 ·
  split at h
  · rename_i a b k;cases h;exact .convert j a b k
  · cases h
 ·
  split at h
  · rename_i e;cases h;exact .not e
  · cases h
 ·
  split at h
  · rename_i a b;exact OO j a b h
  · cases h
 ·
  have:=IP (W:=W) (n:=n) (H:=H) (dst:=dst) (ty_:=ty_) (pos:=pos) (after:=after) (guard:=guard) j h;simpa using this
 · cases h
abbrev Im(W:World)(sz:Nat)(ao:Option Addr)(k:Nat)(xs:List Value):Prop:=∀H:List ab,aV W H sz ao k xs
theorem tY{ao:Option Addr}{cap sz:Nat}:jO ao cap 0 sz=ao:=by
 unfold jO;split
 · rfl
 ·
  cases ao with
  |none=>rfl
  |some a=>simp[Addr.add]
theorem aV.take{sz m l:Nat}{ao:Option Addr}{xs:List Value}(r:aV W H sz ao m xs)(a:l<=m):aV W H sz ao l (xs.take (l*sz)):=by
 have:=r.sub (cap:=m) (c7 l) a (eI m);rw[tY]at this;simpa using this
theorem Holds.OU{t tx e U ty:TypeId}{z:Value}{sz D m k cap b o:Nat}{vx:Value}{cs news:List Value}{w:World}{C:ab->List ab}(st:cH P t e z sz D)(O:Holds W H w)(u:eQ H (Row b U cs) C)(ho:o+min k m*sz<=cs.length)(s:jW w sz vx k news):
  ∃T,(Builtin.copy_ #[t,tx] ty #[.slice (some ⟨b,o,none⟩) m cap,vx]).run P w= .ok (ii ((min k m:Nat):Int)) T/\Holds W (C (Row b U (cs.take o++news.take (min k m*sz)++cs.drop (o+min k m*sz)))) T:=by
 obtain⟨i,Y,hz,K,V⟩:=info_parts st.info;subst K;have y:(Builtin.lenOf vx).run P w= .ok k w:=by
  rcases s.at_ with⟨c,rfl,rfl⟩|⟨a,c,rfl,_⟩<;>rfl
 have E:(Builtin.firstCells i.size (min k m) vx).run P w= .ok (news.take (min k m*i.size)).toArray w:=by
  rcases s.at_ with⟨c,rfl,rfl⟩|⟨a,c,rfl,h⟩
  ·
   have:=s.len;simp at this;subst this;rw[run_firstCells_none];simp
  ·
   refine run_firstCells_some w i.size (min k m) a k c _ ?_ λj v l=>?_
   · rw[j1,s.len];exact Nat.min_eq_left (u0 _ (Nat.min_le_left _ _))
   ·
    rw[Oc]at l;split at l
    · exact h j v l
    · cases l
 have A:Nat.min k m=min k m:=rfl;have I:(news.take (min k m*i.size)).length=min k m*i.size:=by
  rw[j1,s.len];exact Nat.min_eq_left (u0 _ (Nat.min_le_left _ _))
 obtain⟨R,p,q⟩:=u.perm;have B:=O.perm p;have J:=run_storeCells_cells (P:=P) b o (news.take (min k m*i.size)) 0 w (λj l=>by
   have G:o+0+j<cs.length:=by omega
   rw[B.cell (.head _) (fL G)];rfl) (λj l=>B.free (.head _)) (λv Z=>s.one v (Tl Z))
 refine⟨w.setCells b o (news.take (min k m*i.size)),?_,?_⟩
 · simp[Builtin.copy_,run_underlying st.tZ,y,sizeOf,typeInfo,Y,A,E,J,goInt]
 ·
  have M:=O.setCells u (o:=o) (vs:=news.take (min k m*i.size)) zO;rw[I]at M;exact M
theorem ay.Bg{s x:Operand}{t tx e:TypeId}{z:Value}{sz y m k cap a:Nat}{ao:Option Addr}{vx:Value}{xs news:List Value}{C:ab->List ab}{N:List ab->Fr->Prop}(st:cH P t e z sz y)(K:aD f s=some (.slice (jO ao cap a sz) (m-a) (cap-a)))(hx:aD f x=some vx)
  (u:eQ H (Own e sz (.slice ao m cap) m xs) C)(Y:a<m)(o:∀w,Holds W H w->jW w sz vx k news)(U:Nat.blt d n=true)
  (h:N (C (Own e sz (.slice ao m cap) m (xs.take (a*sz)++news.take (min k (m-a)*sz)++xs.drop (a*sz+min k (m-a)*sz)))) ((d,ii ((min k (m-a):Nat):Int))::f)):
  ay W P n {dst:=some d,op:= .call {callee:= .builtin .copy,args:=#[s,x],argTypes:=#[t,tx]},type:=ty_,pos,after,guard} Q H f N:=by
 refine ay.run (α:=Unit) (v:=λ_=>ii ((min k (m-a):Nat):Int)) (G:=λ_=>C (Own e sz (.slice ao m cap) m (xs.take (a*sz)++news.take (min k (m-a)*sz)++xs.drop (a*sz+min k (m-a)*sz)))) U (λtm w J M=>?_) (λ_=>h);obtain⟨R,p,q⟩:=u.perm;have j:=o w M;obtain⟨A,hv⟩:=(M.perm p).gy;rcases hv with⟨I,rfl,E⟩|⟨b,cap',spare,I,hn,Z,T,E⟩
 · omega
 ·
  cases I;have O:jO (some (⟨b,0,none⟩:Addr)) cap a sz=some ⟨b,a*sz,none⟩:=by
   rw[qi zO,Addr.add_lit,PA]
  rw[O]at K;have V:a*sz+min k (m-a)*sz<=m*sz:=by
   rw[<-Tk];exact u0 _ zO
  have l:a*sz+min k (m-a)*sz<=(xs++spare).length:=by rw[c9,A];omega
  obtain⟨w',hr,D⟩:=Holds.OU (ty:=ty_) (tx:=tx) (cap:=cap-a) (m:=m-a) st E .head l j;refine⟨(),w',?_,?_⟩
  ·
   unfold execOp;simp only[resolve,invoke,builtin,Sem.run_bind,Sem.run_pure,Result.andThen_ok,List.map_toArray,BI,HG,J.eval K,J.eval hx,hr]
  ·
   refine Holds.perm (q _) ?_;have B:(news.take (min k (m-a)*sz)).length=min k (m-a)*sz:=by
    rw[j1,j.len];exact Nat.min_eq_left (u0 _ (Nat.min_le_left _ _))
   have e:(xs++spare).take (a*sz)++news.take (min k (m-a)*sz)++(xs++spare).drop (a*sz+min k (m-a)*sz)=(xs.take (a*sz)++news.take (min k (m-a)*sz)++xs.drop (a*sz+min k (m-a)*sz))++spare:=by
    rw[Tj zO,Oh zO];simp
   rw[e]at D;refine Holds.fS ?_ hn Z ?_ D
   · simp only[c9,j1,CC,A,B]at*;omega
   · rw[<-T];simp only[c9,j1,CC,A]at*;omega
end
attribute [irreducible] VD
end Go.Sl
namespace Go.Sl
open Go
variable{W:World}{P:Program}{n:Nat}{c c1 c2:Code}{Q:Exit->Act->World->Prop}{H:List ab}{f:Fr}
structure Met(W:World)(n:Nat)(Q Q2:Exit->Act->World->Prop){α:Type}(A:α->Prop)(G:α->List ab)(F:α->Fr):Prop where
  to:∀(x:α){f:Fr}{H:List ab},A x->yF (F x) f->ae W H (G x)->VE W n Q2 .normal H f
  ret:∀{f:Fr}{H:List ab},VE W n Q .ret H f->VE W n Q2 .ret H f
  exit:∀{f:Fr}{H:List ab}{i:Nat},VE W n Q (.exit i) H f->VE W n Q2 (.exit i) H f
theorem Met.of{α:Type}{A:α->Prop}{G:α->List ab}{F:α->Fr}(a:∀x,A x->VC W P n c2 Q (G x) (F x)):Met W n Q (mQ P c2 Q) A G F:=
 ⟨λx _ _ b j k=>VE.next ((a x b).SI j k),λh=>VE.pY h,λh=>VE.mI h⟩
theorem VO.join{α:Type}{k:Nat}(A:α->Prop)(G:α->List ab)(F:α->Fr)(b:∀a,Met W n Q a A G F->VO W P n c k (mQ P c1 a) H f)(h:∀x,A x->VC W P n c2 Q (G x) (F x)):
  VO W P n c k (mQ P c1 (mQ P c2 Q)) H f:=b _ (Met.of h)
theorem VC.join{α:Type}(A:α->Prop)(G:α->List ab)(F:α->Fr)(b:∀a,Met W n Q a A G F->VC W P n c a H f)(h:∀x,A x->VC W P n c2 Q (G x) (F x)):
  VC W P n c (mQ P c2 Q) H f:=b _ (Met.of h)
theorem VC.Qx{α:Type}{i:Nat}(A:α->Prop)(G:α->List ab)(F:α->Fr)(b:∀a,Met W n Q a A G F->VC W P n c (mi i a) H f)(h:∀x,A x->VC W P n c2 Q (G x) (F x)):
  VC W P n c (mi i (mQ P c2 Q)) H f:=b _ (Met.of h)
def Gx(Q:Exit->Act->World->Prop):Exit->Act->World->Prop:=Exit.noGoto Q
def Hz:Code->Bool| .scope _=>true|_=>false
def Hx:Code->Bool| .label _=>true|_=>false
theorem VC.scope(a:Hz c=true)(h:VC W P n (Cd.l c) (Gx Q) H f):VC W P n c Q H f:=by
 unfold VC at*;intro t w b j;cases c<;>simp[Hz]at a;exact wp_scope_straight (h t w b j)
theorem VC.label(a:Hx c=true)(h:VE W n Q .normal H f):VC W P n c Q H f:=by
 unfold VC VE at*;intro t w b j;cases c<;>simp[Hx]at a;exact wp_label (h t w b j)
theorem VE.EB(h:VE W n Q .ret H f):VE W n (Gx Q) .ret H f:=by unfold VE at*;exact h
attribute [irreducible] Gx
theorem aq.mono{g:FuncId}{args:List Value}{β γ:Type}{A:β->Prop}{r:β->Value}{G:β->List ab}{b:γ->Prop}{k:γ->Value}{j:γ->List ab}
  (h:aq W P g args H A r G)(φ:β->γ)(l:∀x,A x->b (φ x))(q:∀x,A x->r x=k (φ x))(m:∀x,A x->ae W (G x) (j (φ x))):aq W P g args H b k j:=by
 unfold aq at h⊢;exact λw s=>(h w s).mono λ_ _ ⟨x,a,o,p⟩=>⟨φ x,l x a,by rw[o,q x a],m x a _ p⟩
end Go.Sl
namespace Go.Sl
open Go Go.RowKit
section
variable{W:World}{P:Program}{n:Nat}{c:Code}{Q:Exit->Act->World->Prop}{H H' L S:List ab}{f F:Fr}{C:ab->List ab}
variable{N:List ab->Fr->Prop}{dst:Option Tmp}{d:Nat}{ty_:TypeId}{pos:String}{after:Array Edge}{guard:Option (Nat×Bool)}
theorem Holds.EK{t U:TypeId}{b off:Nat}{v:Value}{vs cs:List Value}{w:World}(A:v.cells=vs.toArray)(o:∀u∈vs,u.oneCell'=true)(s:∀w,(sizeOf t).run P w= .ok vs.length w)
  (l:Holds W H w)(u:eQ H (Row b U cs) C)(z:off+vs.length<=cs.length):
  ∃m,(storeVar t ⟨b,off,none⟩ v).run P w= .ok () m/\Holds W (C (Row b U (cs.take off++vs++cs.drop (off+vs.length)))) m:=by
 obtain⟨R,p,q⟩:=u.perm;have a:=l.perm p;have k:=run_storeCells_cells (P:=P) b off vs 0 w (λj y=>by
   have h:off+0+j<cs.length:=by omega
   rw[a.cell (.head _) (fL h)];rfl) (λj y=>a.free (.head _)) o
 refine⟨w.setCells b off vs,?_,l.setCells u z⟩;simp only[storeVar,Sem.run_bind,s,Result.andThen_ok,A,List.size_toArray,ne_eq,not_true_eq_false,if_false,List.toList_toArray];simpa[Sem.run,pure,Result.andThen]using k
theorem ay.SB{t U:TypeId}{x y:Operand}{b off:Nat}{v:Value}{vs cs:List Value}(z:aD f x=some (.pointer (some ⟨b,off,none⟩)))(A:aD f y=some v)(q:v.cells=vs.toArray)(j:∀u∈vs,u.oneCell'=true)
  (m:∀w,(sizeOf t).run P w= .ok vs.length w)(u:eQ H (Row b U cs) C)(o:off+vs.length<=cs.length)(h:N (C (Row b U (cs.take off++vs++cs.drop (off+vs.length)))) f):
  ay W P n {dst:=none,op:= .store t x y,type:=ty_,pos,after,guard} Q H f N:=by
 unfold ay;intro B w a s K l;obtain⟨D,p,k⟩:=Holds.EK q j m s u o;unfold Oper.wp execOp;simp only[a.eval z,a.eval A,Instr.storeAt,Instr.sureAddr,Sem.run_bind,Sem.run_pure,Result.andThen_ok,p];exact l _ _ h _ _ a k
theorem ay.gL{T:aI}{t U sz:TypeId}{x y:Operand}{b off:Nat}{vs cs:List Value}(j:T.ok P=true)(o:aD f x=some (.pointer (some ⟨b,off,none⟩)))(p:aD f y=some (.agg vs.toArray))(m:assoc T.vX t=some sz)(k:vs.length=sz)(a:∀u∈vs,u.oneCell'=true)
  (u:eQ H (Row b U cs) C)(l:off+sz<=cs.length)(h:N (C (Row b U (cs.take off++vs++cs.drop (off+sz)))) f):
  ay W P n {dst:=none,op:= .store t x y,type:=ty_,pos,after,guard} Q H f N:=by
 subst k;exact ay.SB o p rfl a (T.sM j m).2 u l h
theorem ay.NK{t e:TypeId}{x y:Operand}{a:Addr}{sz m cap j:Nat}{v:Value}{vs xs:List Value}(B:aD f x=some (.pointer (some (a.add j))))(V:aD f y=some v)(T:v.cells=vs.toArray)(D:∀u∈vs,u.oneCell'=true)
  (G:∀w,(sizeOf t).run P w= .ok vs.length w)(u:eQ H (Own e sz (.slice (some a) m cap) m xs) C)(Z:j+vs.length<=xs.length)(h:N (C (Own e sz (.slice (some a) m cap) m (xs.take j++vs++xs.drop (j+vs.length)))) f):
  ay W P n {dst:=none,op:= .store t x y,type:=ty_,pos,after,guard} Q H f N:=by
 unfold ay;intro tm w o U K E;obtain⟨R,p,q⟩:=u.perm;obtain⟨Y,s⟩:=(U.perm p).gy;rcases s with⟨l,rfl,A⟩|⟨b,cap',spare,l,M,J,I,A⟩
 · cases l
 ·
  cases l;rw[Addr.add_lit,PA]at B;have k:j+vs.length<=(xs++spare).length:=by rw[c9];omega
  obtain⟨w',O,z⟩:=Holds.EK T D G A .head k;unfold Oper.wp execOp;simp only[o.eval B,o.eval V,Instr.storeAt,Instr.sureAddr,Sem.run_bind,Sem.run_pure,Result.andThen_ok,O];refine E _ _ h _ _ o (Holds.perm (q _) ?_);have e:(xs++spare).take j++vs++(xs++spare).drop (j+vs.length)=(xs.take j++vs++xs.drop (j+vs.length))++spare:=by
   rw[Tj zO,Oh zO];simp
  rw[e]at z;refine Holds.fS ?_ M J ?_ z
  · simp only[c9,j1,CC];omega
  · rw[<-I];simp only[c9,j1,CC];omega
theorem yW{α:Type}(xs:List α)(j:Nat)(v:α)(h:j<xs.length):xs.take j++[v]++xs.drop (j+1)=xs.set j v:=by
 rw[List.set_eq_take_append_cons_drop,lam h];simp
theorem ay.EJ{T:aI}{t e:TypeId}{x y:Operand}{a:Addr}{sz m cap j:Nat}{v:Value}{xs:List Value}(l:T.ok P=true)(p:aD f x=some (.pointer (some (a.add j))))(q:aD f y=some v)(k:v.oneCell'=true)(o:assoc T.leaf t=some ())
  (u:eQ H (Own e sz (.slice (some a) m cap) m xs) C)(b:j<xs.length)(h:N (C (Own e sz (.slice (some a) m cap) m (xs.set j v))) f):
  ay W P n {dst:=none,op:= .store t x y,type:=ty_,pos,after,guard} Q H f N:=
 ay.NK (vs:=[v]) p q (cells_one k) (by simpa using k) (T.l3 l o).2 u b (by rw[ie,yW _ _ _ b];exact h)
theorem ay.P7{T:aI}{t e s:TypeId}{x y:Operand}{a:Addr}{sz m cap j:Nat}{vs xs:List Value}(k:T.ok P=true)(q:aD f x=some (.pointer (some (a.add j))))(v:aD f y=some (.agg vs.toArray))(p:assoc T.vX t=some s)(l:vs.length=s)(b:∀u∈vs,u.oneCell'=true)
  (u:eQ H (Own e sz (.slice (some a) m cap) m xs) C)(o:j+s<=xs.length)(h:N (C (Own e sz (.slice (some a) m cap) m (xs.take j++vs++xs.drop (j+s)))) f):
  ay W P n {dst:=none,op:= .store t x y,type:=ty_,pos,after,guard} Q H f N:=by
 subst l;exact ay.NK q v rfl b (T.sM k p).2 u o h
theorem ay.aB{t:TypeId}{j:List Value}{a:List (Nat×Nat)}(sb:bM P t j a)(k:Nat.blt d n=true)
  (h:∀b,N (Row b t j::H) ((d,ip b)::f)):ay W P n {dst:=some d,op:= .alloc t,type:=ty_,pos,after,guard} Q H f N:=
 ay.alloc (z:= .agg j.toArray) sb.zero rfl k h
end
end Go.Sl
namespace Go.Sl
open Go Go.RowKit Go.MapKept
section
variable{W:World}{P:Program}{n:Nat}{c:Code}{Q:Exit->Act->World->Prop}{H H' L S:List ab}{f F:Fr}{C:ab->List ab}
variable{N:List ab->Fr->Prop}{dst:Option Tmp}{d:Nat}{ty_:TypeId}{pos:String}{after:Array Edge}{guard:Option (Nat×Bool)}
structure fc(l:List MapEntry)(m:Int->Option Int):Prop where
  each:∀e∈l,∃a v,e.key=ii a/\e.val=ii v/\m a=some v
  all:∀a v,m a=some v->∃e∈l,e.key=ii a
  one:∀(i j:Nat)(e e':MapEntry),l[i]?=some e->l[j]?=some e'->e.key=e'.key->i=j
def mc(b:Nat)(m:Int->Option Int):ab:=ex λx:Array MapEntry×Nat=>Sl.star [fact (fc x.1.toList m),At b (.map x.1 x.2)]
theorem mc.open{w:World}{b:Nat}{m:Int->Option Int}{R:List ab}(a:Holds W (mc b m::R) w):∃es cl,fc es.toList m/\Holds W (At b (.map es cl)::R) w:=by
 obtain⟨⟨es,cl⟩,h⟩:=a.gW;have h:=h.join;exact⟨es,cl,h.iX,h.tail⟩
theorem mc.shut{b:Nat}{m:Int->Option Int}{R:List ab}{w:World}{es:Array MapEntry}{cl:Nat}(a:fc es.toList m)(h:Holds W (At b (.map es cl)::R) w):Holds W (mc b m::R) w:=
 Holds.dU (es,cl) (Holds.nest (L:=[_,_]) (h.gG a))
theorem fc.nil:fc [] (λ_=>none):=by
 constructor
 · intro e h;cases h
 · intro a v h;cases h
 · intro i j e e' h;simp at h
theorem fc.find{l:List MapEntry}{m:Int->Option Int}(h:fc l m)(k:Int):
  (Instr.findNow (.int .i64) (ii k) l 0=some none/\m k=none/\∀e∈l,e.key≠ii k)\/
  ∃j e v,Instr.findNow (.int .i64) (ii k) l 0=some (some (j,ii v))/\m k=some v/\l[j]?=some e/\e.key=ii k:=by
 rcases findNow_spec (d:= .int .i64) (k:=ii k) rfl l 0 (λe p=>by obtain⟨a,v,b,_,_⟩:=h.each e p;rw[b];rfl)with⟨b,o⟩|⟨j,e,b,o,q⟩
 ·
  refine .inl ⟨b,?_,o⟩;cases u:m k with
  |none=>rfl
  |some v=>obtain⟨e,p,t⟩:=h.all k v u;exact lcs t (o e p)
 ·
  obtain⟨a,v,s,y,z⟩:=h.each e (lay o);rw[q]at s;cases s;exact .inr ⟨j,e,v,by rw[b,PA,y],z,o,q⟩
theorem ay.makeMap{t:TypeId}(a:Nat.blt d n=true)(h:∀b,N (mc b (λ_=>none)::H) ((d,.map (some b))::f)):
  ay W P n {dst:=some d,op:= .makeMap t none,type:=ty_,pos,after,guard} Q H f N:=by
 refine ay.run a (λl w k j=>⟨w.heap.size,_,?_,mc.shut (es:=#[]) (cl:=0) fc.nil j.oE⟩) h;unfold execOp;simp only[Option.map_none,Sem.run_bind,run_makeMap,Result.andThen_ok,Sem.run_pure]
theorem Holds.ME{b:Nat}{m:Int->Option Int}{w:World}(k:Holds W H w)(j:mc b m∈H):∃es cl,fc es.toList m/\w.heap[b]?=some (.map es cl):=by
 obtain⟨R,p⟩:=ja j;obtain⟨es,cl,a,h⟩:=mc.open (k.perm p);exact⟨es,cl,a,(h.at (.head _)).2⟩
theorem af.lookup{t kt s:TypeId}{x y:Operand}{b:Nat}{k:Int}{m:Int->Option Int}(z:P.underlying t=some (.map kt s))(a:P.underlying kt=some (.int .i64))(I:∀w,(zeroValue s).run P w= .ok (ii 0) w)
  (A:aD f x=some (.map (some b)))(B:aD f y=some (ii k))(D:mc b m∈H):
  af W P n H f {dst,op:= .lookup t x y true,type:=ty_,pos,after,guard} (.tuple #[ii ((m k).getD 0),.bool (m k).isSome]):=by
 unfold af;intro J w l G;obtain⟨es,cl,E,u⟩:=G.ME D;have h:=Go.MapKept.run_checkKey (P:=P) (w:=w) (kt:=kt) (k:=ii k) a rfl es.isEmpty 9999;rcases E.find k with⟨o,p,_⟩|⟨j,e,v,o,p,_,_⟩
 ·
  have q:=Go.MapKept.run_findKey (P:=P) (w:=w) (kt:=kt) a o;simp[execOp,Instr.lookup,l.eval A,l.eval B,Sem.run_bind,run_underlying z,Go.MapKept.run_getObj_map u,h,q,I,p]
 ·
  have q:=Go.MapKept.run_findKey (P:=P) (w:=w) (kt:=kt) a o;simp[execOp,Instr.lookup,l.eval A,l.eval B,Sem.run_bind,run_underlying z,Go.MapKept.run_getObj_map u,h,q,p]
def ub(m:Int->Option Int)(k v:Int):Int->Option Int:=λa=>if a=k then some v else m a
theorem fc.push{l:List MapEntry}{m:Int->Option Int}(h:fc l m)(k v:Int)(cl:Nat)(y:∀e∈l,e.key≠ii k):fc (l++[⟨ii k,ii v,cl⟩]) (ub m k v):=by
 refine⟨λe he=>?_,λa u z=>?_,λi j e e' b o t=>?_⟩
 ·
  rcases l0.1 he with he|he
  ·
   obtain⟨a,u,A,B,D⟩:=h.each e he;refine⟨a,u,A,B,?_⟩;unfold ub;rw[aE (λq=>y e he (by rw[A,q]))];exact D
  ·
   rw[ju]at he;subst he;exact⟨k,v,rfl,rfl,by simp[ub]⟩
 ·
  by_cases q:a=k
  · subst q;exact⟨_,List.mem_append_right _ (ju.2 rfl),rfl⟩
  ·
   unfold ub at z;rw[aE q]at z;obtain⟨e,he,t⟩:=h.all a u z;exact⟨e,List.mem_append_left _ he,t⟩
 ·
  by_cases s:i<l.length
  ·
   by_cases p:j<l.length
   ·
    rw[Ah s]at b;rw[Ah p]at o;exact h.one i j e e' b o t
   ·
    rw[Ah s]at b;rw[Ob zO]at o;have:e'=⟨ii k,ii v,cl⟩:=by
     have:=lay o;simpa using this
    subst this;exact lcs t (y e (lay b))
  ·
   by_cases p:j<l.length
   ·
    rw[Ah p]at o;rw[Ob zO]at b;have:e=⟨ii k,ii v,cl⟩:=by
     have:=lay b;simpa using this
    subst this;exact lcs t.symm (y e' (lay o))
   ·
    rw[Ob zO]at b o;have:=(HE.1 b).1;have:=(HE.1 o).1;simp at*;omega
theorem fc.set{l:List MapEntry}{m:Int->Option Int}(h:fc l m)(k v:Int){j:Nat}{y:MapEntry}(s:l[j]?=some y)(o:y.key=ii k):
  fc (l.modify j λe=>{e with key:=ii k,val:=ii v}) (ub m k v):=by
 have B (i:Nat) (e:MapEntry) (b:(l.modify j λe=>{e with key:=ii k,val:=ii v})[i]?=some e):
   (i=j/\e.key=ii k/\e.val=ii v)\/(i≠j/\l[i]?=some e):=by
  rw[List.getElem?_modify]at b;by_cases q:j=i
  ·
   subst q;rw[s]at b;simp at b;subst b;exact .inl ⟨rfl,rfl,rfl⟩
  ·
   simp[q]at b;exact .inr ⟨λr=>q r.symm,b⟩
 refine⟨λe A=>?_,λa u G=>?_,λi I e e' b D t=>?_⟩
 ·
  obtain⟨i,b⟩:=List.getElem?_of_mem A;rcases B i e b with⟨_,p,z⟩|⟨E,p⟩
  · exact⟨k,v,p,z,by simp[ub]⟩
  ·
   obtain⟨a,u,J,M,O⟩:=h.each e (lay p);refine⟨a,u,J,M,?_⟩;unfold ub;rw[aE];exact O;intro q;subst q;exact E (h.one i j e y p s (by rw[J,o]))
 ·
  have K:=(HE.1 s).1;by_cases q:a=k
  ·
   subst q;refine⟨{y with key:=ii a,val:=ii v},lay (i:=j) ?_,rfl⟩;rw[List.getElem?_modify,s];simp
  ·
   unfold ub at G;rw[aE q]at G;obtain⟨e,A,t⟩:=h.all a u G;obtain⟨i,b⟩:=List.getElem?_of_mem A;refine⟨e,lay (i:=i) ?_,t⟩;rw[List.getElem?_modify,b];have:j≠i:=by
    intro r;subst r;rw[s]at b;cases b;rw[o]at t;cases t;exact q rfl
   simp[this]
 ·
  rcases B i e b with⟨p,z,_⟩|⟨p,z⟩<;>rcases B I e' D with⟨g1,g2,_⟩|⟨g1,g2⟩
  · omega
  · exact lcs (h.one I j e' y g2 s (by rw[<-t,z,o])) g1
  · exact lcs (h.one i j e y z s (by rw[t,g2,o])) p
  · exact h.one i I e e' z g2 t
theorem Holds.GG{w:World}{b:Nat}{m l:Int->Option Int}{es:Array MapEntry}{cl h:Nat}{a:Array MapEntry}(z:Holds W H w)(u:eQ H (mc b m) C)(t:w.heap[b]?=some (.map es cl))(y:fc a.toList l):
  Holds W (C (mc b l)) {w with heap:=w.heap.setIfInBounds b (.map a h)}:=by
 obtain⟨R,p,q⟩:=u.perm;obtain⟨s,o,_,j⟩:=mc.open (z.perm p);have hb2:=(j.at (.head _)).2;obtain⟨s1,s2⟩:=Go.MapKept.heap_set (o':= .map a h) t;refine Holds.perm (q _) (mc.shut y (j.put .head rfl rfl rfl (by simp) (λk v=>s2 k v) s1))
theorem ay.mapUpdate{t kt Y:TypeId}{x y z:Operand}{b:Nat}{k v:Int}{m:Int->Option Int}(O:P.underlying t=some (.map kt Y))(l:P.underlying kt=some (.int .i64))
  (T:aD f x=some (.map (some b)))(U:aD f y=some (ii k))(V:aD f z=some (ii v))(u:eQ H (mc b m) C)(h:N (C (mc b (ub m k v))) f):
  ay W P n {dst:=none,op:= .mapUpdate t x y z,type:=ty_,pos,after,guard} Q H f N:=by
 unfold ay;intro tm w a I K M;obtain⟨R,p,q⟩:=u.perm;obtain⟨es,cl,G,o⟩:=(I.perm p).ME (.head _);have A:=Go.MapKept.run_checkKey (P:=P) (w:=w) (kt:=kt) (k:=ii k) l rfl false 9999;unfold Oper.wp execOp;rcases G.find k with⟨B,Z,s⟩|⟨j,e,v0,B,Z,s,J⟩
 ·
  have D:=Go.MapKept.run_findKey (P:=P) (w:=w) (kt:=kt) l B;simp only[Instr.mapUpdate,a.eval T,a.eval U,a.eval V,Sem.run_bind,run_underlying O,Go.MapKept.run_getObj_map o,A,D,Result.andThen_ok,Go.MapKept.run_setObj_map _ o,Sem.run_pure];refine M _ _ h _ _ a (I.GG u o ?_);have:=G.push k v cl s;simpa using this
 ·
  have D:=Go.MapKept.run_findKey (P:=P) (w:=w) (kt:=kt) l B;have E:(Instr.keyThatStays (((es[j]?).map (·.key)).getD (ii k)) (ii k)).run P w= .ok (ii k) w:=by
   rw[Array.getElem?_toList]at s;simp[s,J,Instr.keyThatStays,Instr.sameBits]
  simp only[Instr.mapUpdate,a.eval T,a.eval U,a.eval V,Sem.run_bind,run_underlying O,Go.MapKept.run_getObj_map o,A,D,E,Result.andThen_ok,Go.MapKept.run_setObj_map _ o,Sem.run_pure];refine M _ _ h _ _ a (I.GG u o ?_);have:=G.set k v s J;simpa using this
theorem ay.LI{t kt l:TypeId}{x:Operand}{b:Nat}{m:Int->Option Int}(v:P.underlying t=some (.map kt l))
  (y:aD f x=some (.map (some b)))(u:eQ H (mc b m) C)(h:N (C (mc b (λ_=>none))) f):
  ay W P n {dst:=none,op:= .call {callee:= .builtin .clear,args:=#[x],argTypes:=#[t]},type:=ty_,pos,after,guard} Q H f N:=by
 unfold ay;intro A w j k K o;obtain⟨R,p,q⟩:=u.perm;obtain⟨es,cl,z,a⟩:=(k.perm p).ME (.head _);have s:(Builtin.clear_ #[t] ty_ #[.map (some b)]).run P w= .ok (.tuple #[]) {w with heap:=w.heap.setIfInBounds b (.map #[] cl)}:=by
  simp[Builtin.clear_,Sem.run_bind,run_underlying v,Go.MapKept.run_getObj_map a,Go.MapKept.run_setObj_map _ a]
 unfold Oper.wp execOp;simp only[resolve,invoke,builtin,Sem.run_bind,Sem.run_pure,Result.andThen_ok,List.map_toArray,BI,HG,j.eval y,s];exact o _ _ h _ _ j (k.GG u a fc.nil)
theorem af.pU{g:FuncId}{x:Operand}{v:Value}(b:aD f x=some v):af W P n H f {dst,op:= .makeFunc (.func g) #[] #[x],type:=ty_,pos,after,guard} (.func (.func g) #[] #[v]):=by
 unfold af;intro j w a h;simp[execOp,Instr.makeFunc,a.eval b]
theorem af.toArray{t e:TypeId}{x:Operand}{a:Option Addr}{m len cap:Nat}(j:P.underlying t=some (.array m e))(k:aD f x=some (.slice a len cap))(h:m<=len):
  af W P n H f {dst,op:= .sliceToArrayPointer t x,type:=ty_,pos,after,guard} (.pointer a):=by
 unfold af;intro o w b l;simp[execOp,Instr.arrayAt,b.eval k,Sem.run_bind,run_underlying j,Nat.not_lt.2 h]
theorem af.Nv{t e sz:TypeId}{x:Operand}{a:Addr}{m:Nat}(k:P.underlying t=some (.array m e))(h:m≠0)(j:∀w,(sizeOf e).run P w= .ok sz w)(l:aD f x=some (.pointer (some a))):
  af W P n H f {dst,op:= .slice t x none none none,type:=ty_,pos,after,guard} (.slice (some (a.add 0)) m m):=by
 unfold af;intro p w b o;simp[execOp,Instr.sliceAt,Instr.sureAddr,Instr.sliceBounds,b.eval l,Sem.run_bind,run_underlying k,j,h]
theorem ay.QY{t e:TypeId}{z:Value}{sz a:Nat}{cs:List Value}(st:cH P t e z sz a)(j:z.cells=cs.toArray)(l:Nat.blt d n=true)
  (h:∀b,N (Row b e cs::H) ((d,ip b)::f)):ay W P n {dst:=some d,op:= .alloc e,type:=ty_,pos,after,guard} Q H f N:=by
 refine ay.alloc (z:=z) (λw=>?_) j l h;obtain⟨i,m,p,o,k⟩:=info_parts st.info;simp[zeroValue,typeInfo,m,p]
end
theorem Holds.RW{W w:World}{H:List ab}{e sz k:Nat}{v:Value}{xs:List Value}(h:Holds W H w)(m:Own e sz v k xs∈H):k<=maxLen:=by
 obtain⟨R,p⟩:=ja m;obtain⟨q,a⟩:=(h.perm p).gy;rcases a with⟨_,rfl,_⟩|⟨b,cap',spare,o,t,s,l,j⟩
 · exact c7 _
 · omega
section
variable{α β:Type}
theorem cW{g:α->List β}{w:Nat}:∀(l:List α),(∀a∈l,(g a).length=w)->(l.flatMap g).length=l.length*w
  |[],_=>by simp
  |a::r,h=>by
    rw[Oi,c9,h a (.head _),cW r (λx b=>h x (.tail _ b)),tc,Tk];omega
theorem dW{g:α->List β}{w:Nat}:∀(l:List α)(j:Nat)(h:j<l.length),(∀a∈l,(g a).length=w)->((l.flatMap g).drop (j*w)).take w=g l[j]
  |a::r,0,_,h=>by
    rw[Oi,Nat.zero_mul,KP,Tj (by rw[h a (.head _)];exact eI _),qy (by rw[h a (.head _)];exact eI _)];rfl
  |a::r,j+1,b,h=>by
    have:=dW r j (by simpa using b) (λx k=>h x (.tail _ k));rw[Oi,Tk,Nat.one_mul,BG (j*w) w,<-h a (.head _),List.drop_append,h a (.head _)];rw[show(g a).drop (w+j*w)=[]from List.drop_of_length_le (by rw[h a (.head _)];omega),ou,Nat.add_sub_cancel_left];simpa using this
theorem wI{g:α->List β}{w:Nat}(b:α):∀(l:List α)(j:Nat),j<l.length->(∀a∈l,(g a).length=w)->(l.flatMap g).take (j*w)++g b++(l.flatMap g).drop (j*w+w)=(l.set j b).flatMap g
  |a::r,0,_,h=>by
    rw[Oi,Nat.zero_mul,DK,ou,PA,List.drop_append,h a (.head _),List.drop_of_length_le (by rw[h a (.head _)];exact eI _)];simp
  |a::r,j+1,o,h=>by
    have:=wI b r j (by simpa using o) (λx p=>h x (.tail _ p));have k:(g a++r.flatMap g).take ((j+1)*w)=g a++(r.flatMap g).take (j*w):=by
      rw[List.take_append,qy (by rw[h a (.head _),Tk];omega),h a (.head _),Tk,Nat.one_mul,Nat.add_sub_cancel]
    have m:(g a++r.flatMap g).drop ((j+1)*w+w)=(r.flatMap g).drop (j*w+w):=by
      rw[List.drop_append,List.drop_of_length_le (by rw[h a (.head _),Tk];omega),h a (.head _),ou];congr 1;rw[Tk];omega
    rw[Oi,k,m,List.set_cons_succ,Oi,<-this];simp
end
attribute [irreducible] mc
end Go.Sl
namespace Go.Sl
open Go.RowKit
inductive jA(P:Program)(W:World):TypeId->List Value->Prop
  |int {t:TypeId} {k:IntKind} {n:Int} (hu:P.underlying t=some (.int k)) (hw:(Lit.int k n).wf=true):jA P W t [.int k n]
  |bool {t:TypeId} {b:Bool} (hu:P.underlying t=some .bool):jA P W t [.bool b]
  |nil {t e:TypeId} (hu:P.underlying t=some (.slice e)):jA P W t [.slice none 0 0]
  |slice {t e:TypeId} {a:Addr} {n cap:Nat} (hu:P.underlying t=some (.slice e)) (h1:n<=cap) (h2:cap<=maxLen) (h3:cap*P.bytesOf e<=reachBytes) (row:Nat->List Value)
      (hl:∀i,i<cap->(row i).length=P.cellsOf e) (hc:∀i,i<cap->∀j,j<P.cellsOf e->W.cell? (a.add (i*P.cellsOf e+j))=(row i)[j]?) (hi:∀i,i<cap->jA P W e (row i)):jA P W t [.slice (some a) n cap]
  |struct {t:TypeId} {fs:Array Field} {cs:List Value} (hu:P.underlying t=some (.struct fs)) (hl:cs.length=P.cellsOf t)
      (hf:∀(i:Nat)(f:Field),fs[i]?=some f->jA P W f.type ((cs.drop f.offset).take (P.cellsOf f.type))):jA P W t cs
  |other {t:TypeId} {d:TypeDesc} {cs:List Value} (hu:P.underlying t=some d) (hd:(match d with| .int _| .bool| .slice _| .struct _=>false|_=>true)=true):jA P W t cs
section
variable{H:Type}{enc:TypeId×Value->H}{P:Program}{W:World}
theorem lK{e:TypeId}:∀{l:List (DataW H)}{d:DataW H}{n:Nat},d∈l->n∈d.weights P e->n∈DataW.weightsAll P e l
  |d0::r,d,n,b,a=>by
    simp only[DataW.weightsAll,l0];cases b with
    |head=>exact .inl a
    |tail _ h=>exact .inr (lK h a)
theorem kp{a:List TypeId}{ds:List (DataW H)}{j:Nat}{t:TypeId}{d:DataW H}(k:a[j]?=some t)(b:ds[j]?=some d){n:Nat}(h:n∈d.weights P t):n∈DataW.weightsEach P a ds:=DataW.weights_mem_each k b n h
theorem jA.HR:∀(fuel:Nat)(t:TypeId)(cs:List Value)(x:DataW H×List MemPlace),DataW.trod enc P W 0 (λ_=>true) true fuel t cs=some x->(∀n∈x.1.weights P t,n<=reachBytes)->jA P W t cs:=by
  intro fuel;induction fuel with
  |zero=>intro t cs x h;simp[DataW.trod]at h
  |succ fuel U=>
    intro t cs x h J;cases b:P.underlying t with
    |none=>unfold DataW.trod at h;rw[b]at h;simp at h
    |some d=>
      cases d with
      |int k=>
        unfold DataW.trod at h;rw[b]at h;split at h<;>simp_all;obtain⟨⟨rfl,K⟩,_⟩:=h;exact .int b K
      |bool=>
        unfold DataW.trod at h;rw[b]at h;split at h<;>simp_all;exact .bool b
      |slice e=>
        rcases DataW.trod_slice b h with⟨rfl,_⟩|⟨a,len,cap,elems,rest,n,o,rfl,rfl,hb,T,hm,u,D,I,_⟩
        · exact .nil b
        · cases o
          obtain⟨hr,G⟩:=I rfl
          have M:∀d∈elems.map (·.1)++rest.map (·.1),∀n∈d.weights P e,n<=reachBytes:=by
            intro d V n o;refine J n ?_;simp only[DataW.weights,b,List.mem_cons,l0];rcases l0.1 V with h|h
            · exact .inr (.inl (lK h o))
            · exact .inr (.inr (lK h o))
          have q:cap*P.bytesOf e<=reachBytes:=by
            have:=J ((elems.length+rest.length)*P.bytesOf e) (by simp[DataW.weights,b]);rwa [u,hr,Nat.add_sub_cancel' T]at this
          have each:∀i,i<cap->∃row:List Value,row.length=P.cellsOf e/\(∀j,j<P.cellsOf e->W.cell? (a.add (i*P.cellsOf e+j))=row[j]?)/\jA P W e row:=by
            intro i m;have key:∃y,(W.cells? 0 (a.add (i*P.cellsOf e)) (P.cellsOf e)).bind (DataW.trod enc P W 0 (λ_=>true) true fuel e)=some y/\y.1∈elems.map (·.1)++rest.map (·.1):=by
              by_cases E:i<len
              · refine⟨elems[i]'zO,by rw[D i E,fL],?_⟩
                exact List.mem_append_left _ (fG.2 ⟨_,fF _,rfl⟩)
              · have A:=G (i-len) zO
                rw[show len+(i-len)=i by omega]at A
                refine⟨rest[i-len]'zO,by rw[A,fL],?_⟩
                exact List.mem_append_right _ (fG.2 ⟨_,fF _,rfl⟩)
            obtain⟨y,hy,v⟩:=key;obtain⟨row,z,A⟩:=Option.bind_eq_some_iff.1 hy;obtain⟨_,p,B⟩:=World.cells?_some z;refine⟨row,p,λj Z=>?_,U e row y A (M _ v)⟩;rw[<-B j Z,Go.Deep.add_add]
          obtain⟨row,l⟩:=Go.Deep.choose_lt each
          exact .slice b T hm q row (λi m=>(l i m).1) (λi m=>(l i m).2.1) (λi m=>(l i m).2.2)
      |struct fs=>
        obtain⟨xs,n,o,rfl,p,O,Y⟩:=DataW.trod_struct b h;cases o;refine .struct b p λi f m=>?_;have z:=Y i f m;have s:i<xs.length:=by rw[O];exact(Array.getElem?_eq_some_iff.1 m).1
        rw[fL s]at z;refine U f.type _ _ z λn o=>J n ?_;simp only[DataW.weights,b];exact kp (j:=i) (t:=f.type) (by simp[m]) (by simp[s]) o
      |_=>exact .other b rfl
theorem jA.kL{t:TypeId}{k:IntKind}{cs:List Value}(h:jA P W t cs)(b:P.underlying t=some (.int k)):∃n,cs=[.int k n]/\(Lit.int k n).wf=true:=by
 cases h with
 |int a l=>rw[b]at a;cases a;exact⟨_,rfl,l⟩
 |bool a=>rw[b]at a;cases a
 |nil a=>rw[b]at a;cases a
 |slice a=>rw[b]at a;cases a
 |struct a=>rw[b]at a;cases a
 |other a j=>rw[b]at a;cases a;cases j
theorem jA.CY{t:TypeId}{cs:List Value}(h:jA P W t cs)(j:P.underlying t=some .bool):∃b,cs=[.bool b]:=by
 cases h with
 |int a l=>rw[j]at a;cases a
 |bool a=>exact⟨_,rfl⟩
 |nil a=>rw[j]at a;cases a
 |slice a=>rw[j]at a;cases a
 |struct a=>rw[j]at a;cases a
 |other a k=>rw[j]at a;cases a;cases k
theorem jA.nQ{t:TypeId}{j:Array Field}{cs:List Value}(h:jA P W t cs)(b:P.underlying t=some (.struct j)):
  cs.length=P.cellsOf t/\∀(i:Nat)(f:Field),j[i]?=some f->jA P W f.type ((cs.drop f.offset).take (P.cellsOf f.type)):=by
 cases h with
 |int a o=>rw[b]at a;cases a
 |bool a=>rw[b]at a;cases a
 |nil a=>rw[b]at a;cases a
 |slice a=>rw[b]at a;cases a
 |struct a m l=>rw[b]at a;cases a;exact⟨m,l⟩
 |other a k=>rw[b]at a;cases a;cases k
theorem jA.field{t t':TypeId}{a:Array Field}{cs:List Value}{i off sz:Nat}{f:Field}(h:jA P W t cs)(m:P.underlying t=some (.struct a))(j:a[i]?=some f)(l:f.type=t')(k:f.offset=off)(b:P.cellsOf t'=sz):
  jA P W t' ((cs.drop off).take sz):=by
 subst l k b;exact(h.nQ m).2 i f j
theorem jA.kX{t e:TypeId}{cs:List Value}(h:jA P W t cs)(k:P.underlying t=some (.slice e)):
    ∃(ao:Option Addr)(n cap:Nat)(row:Nat->List Value),cs=[.slice ao n cap]/\(ao=none->cap=0)/\n<=cap/\cap<=maxLen/\cap*P.bytesOf e<=reachBytes/\(∀i,i<cap->(row i).length=P.cellsOf e)/\
      (∀a,ao=some a->∀i,i<cap->∀j,j<P.cellsOf e->W.cell? (a.add (i*P.cellsOf e+j))=(row i)[j]?)/\∀i,i<cap->jA P W e (row i):=by
  cases h with
  |int b y=>rw[k]at b;cases b
  |bool b=>rw[k]at b;cases b
  |nil b=>exact⟨none,0,0,λ_=>[],rfl,λ_=>rfl,eI _,c7 _,by simp,λ_ h=>lcs h zO,(λ_ h=>by cases h),λ_ h=>lcs h zO⟩
  |slice b l m o row v q u=>
    rw[k]at b;cases b;exact⟨some _,_,_,row,rfl,(λh=>by cases h),l,m,o,v,(λa p=>by cases p;exact q),u⟩
  |struct b=>rw[k]at b;cases b
  |other b s=>rw[k]at b;cases b;cases s
theorem Dq{sz:Nat}{row:Nat->List Value}:∀{m:Nat},(∀i,i<m->(row i).length=sz)->((List.range m).flatMap row).length=m*sz/\∀i,i<m->∀j,j<sz->((List.range m).flatMap row)[i*sz+j]?=(row i)[j]?
  |0,_=>⟨by simp,λi h=>lcs h (by omega)⟩
  |m+1,h=>by
    obtain⟨b,k⟩:=Dq (m:=m) λi l=>h i zO;rw[KQ,E5];simp only[Oi,List.flatMap_nil,mn];refine⟨by rw[c9,b,h m zO,Tk];omega,λi l j o=>?_⟩;by_cases a:i<m
    · have:i*sz+j<m*sz:=by
        have:(i+1)*sz<=m*sz:=u0 _ zO;rw[Tk]at this;omega
      rw[Ah zO]
      exact k i a j o
    · have:i=m:=by omega
      subst this
      rw[Ob zO,b]
      congr 1;omega
theorem AF{sz cap m:Nat}{ao:Option Addr}{row:Nat->List Value}(y:ao=none->cap=0)(I:m<=cap)(D:∀i,i<cap->(row i).length=sz)(z:∀i,i<cap->∀u∈row i,u.oneCell'=true)
    (B:∀a,ao=some a->∀i,i<cap->∀j,j<sz->W.cell? (a.add (i*sz+j))=(row i)[j]?){R:List ab}:aV W R sz ao m ((List.range m).flatMap row):=by
  obtain⟨b,p⟩:=Dq (m:=m) (row:=row) (sz:=sz) λi s=>D i zO;refine⟨b,λu E=>?_,λh=>by have:=y h;omega,?_⟩
  · obtain⟨i,s,t⟩:=Ai.1 E
    exact z i (by have:=HC.1 s;omega) u t
  · intro w G a A j u v
    have k:=(HE.1 v).1
    rw[b]at k
    have l:0<sz:=by rcases Nat.eq_zero_or_pos sz with h|h;· subst h;simp at k
                    · exact h
    have s:j/sz<m:=by rw[Nat.div_lt_iff_lt_mul l];exact k
    have q:=p (j/sz) s (j%sz) (qX _ l)
    have o:=B a A (j/sz) zO (j%sz) (qX _ l)
    have e:j/sz*sz+j%sz=j:=by rw[Aj];exact Nat.div_add_mod j sz
    rw[e]at q o
    refine G.ro ?_
    rw[o,<-q,v]
end
theorem Gh{P:Program}{W:World}{r:Reach}{base:Nat}{t:TypeId}{v:Value}{a:Array Field}(b:P.underlying t=some (.struct a))(h:Value.okWide P W r base t v):∃cs:List Value,v= .agg cs.toArray:=by
 unfold Value.okWide at h;rw[b]at h;obtain⟨cs,rfl,_⟩:=h;exact⟨cs.toList,by simp⟩
end Go.Sl
namespace Go.Sl
open Go Go.RowKit
section
variable{W:World}{P:Program}{n:Nat}{c:Code}{Q:Exit->Act->World->Prop}{H H' L S R:List ab}{f F:Fr}{C:ab->List ab}
variable{N:List ab->Fr->Prop}{dst:Option Tmp}{d:Nat}{ty_:TypeId}{pos:String}{after:Array Edge}{guard:Option (Nat×Bool)}
theorem VC.once(m:s9 c=true)(h:VC W P n (Cd.l c) (xl W n (λ_:Unit=>False) (λ_=>[]) (λ_=>[]) (λ_=>0) 0 Q) H f):VC W P n c Q H f:=by
  cases c<;>simp[s9]at m;unfold VC at h⊢;intro t w o p;refine wp_loop_ghost (λ_ a w=>∃t',a=⟨t',[]⟩/\bS n f t'/\Holds W H w) 0 ⟨t,rfl,o,p⟩ ?_;rintro k a w ⟨t',rfl,b,j⟩;refine Code.wp_mono ?_ (h t' w b j);unfold xl;intro e a w q;cases e with
  |normal=>
    obtain⟨y,s,rfl,l,u,v,z⟩:=q;exact l.elim
  |_=>exact q
theorem Holds.xD{e sz k a cap:Nat}{ao:Option Addr}{ys:List Value}{w:World}(t:Holds W (Own e sz (.slice ao a cap) a ys::R) w)(o:k<=a):Holds W (Own e sz (.slice ao k cap) k (ys.take (k*sz))::R) w:=by
 obtain⟨u,s⟩:=t.gy;have p:k*sz<=a*sz:=u0 _ o;rcases s with⟨j,rfl,h⟩|⟨b,l,spare,j,v,q,m,h⟩
 ·
  cases j;obtain rfl:k=0:=by omega
  rw[Nat.zero_mul,DK];exact h.aZ _ _
 ·
  cases j;refine Holds.fS (spare:=ys.drop (k*sz)++spare) (by rw[j1];omega) zO q ?_ ?_
  · rw[<-lx,QB];exact m
  · rw[<-lx,QB];exact h
end
end Go.Sl
namespace Go.Sl
open Go.RowKit
section
variable{W:World}{P:Program}{H:List ab}{g:FuncId}{args:List Value}
theorem G3{β:Type}{A:β->Prop}{r:β->Value}{G:β->List ab}{p:Prop}(b:∀w,Holds W H w->p)(h:p->aq W P g args H A r G):aq W P g args H A r G:=by unfold aq at h⊢;exact λw a=>h (b w a) w a
theorem fX{β:Type}{A:β->Prop}{r:β->Value}{G:β->List ab}{H':List ab}(a:ae W H H')(h:aq W P g args H' A r G):aq W P g args H A r G:=by unfold aq at h⊢;exact λw b=>h w (a w b)
theorem rC{α:Sort _}{β:Type}{A:β->Prop}{r:β->Value}{G:β->List ab}{H':α->List ab}(a:∀w,Holds W H w->∃x,Holds W (H' x) w)(h:∀x,aq W P g args (H' x) A r G):aq W P g args H A r G:=by
 unfold aq at h⊢;exact λw b=>let⟨x,j⟩:=a w b;h x w j
theorem K3{γ:Type}{v:Value}{L:List ab}{a:γ->Prop}{j:γ->Value}{b:γ->List ab}(h:az W P g args H v L)(x:γ)(k:a x)(m:v=j x)(l:ae W L (b x)):aq W P g args H a j b:=
 aq.mono h (λ_=>x) (λ_ _=>k) (λ_ _=>m) λ_ _=>l
theorem QS{v:Value}{L L':List ab}(h:az W P g args H v L)(a:ae W L L'):az W P g args H v L':=K3 h () trivial rfl a
end
theorem ae.ctx{W:World}{X L L' R:List ab}(h:ae W (L++(X++R)) (L'++(X++R))):ae W (X++(L++R)) (X++(L'++R)):=λw a=>by
 have p:∀M:List ab,(X++(M++R)).Perm (M++(X++R)):=λM=>by
  rw[<-lx,<-lx];exact List.perm_append_comm.append_right R
 exact(h w (a.perm (p L))).perm (p L').symm
section
variable{W:World}{P:Program}{n:Nat}{c c1 c2:Code}{Q:Exit->Act->World->Prop}{H:List ab}{f:Fr}
theorem VC.qx(F:Fr)(b:∀a,Met W n Q a (λ_:Unit=>True) (λ_=>H) (λ_=>F)->VC W P n c a H f)(h:VC W P n c2 Q H F):VC W P n c (mQ P c2 Q) H f:=
 VC.join (λ_=>True) (λ_=>H) (λ_=>F) b λ_ _=>h
end
end Go.Sl
namespace Go.Sl
open Go Go.RowKit
section
variable{W:World}{P:Program}{n:Nat}{H:List ab}{f:Fr}{dst:Option Tmp}{ty_:TypeId}{pos:String}{after:Array Edge}{guard:Option (Nat×Bool)}
theorem toNatLit(n:Nat):(@OfNat.ofNat Int n instOfNat).toNat=@OfNat.ofNat Nat n (instOfNatNat n):=rfl
theorem toNat_cast{j:Int}{a:Nat}(h:j.toNat=a)(b:0<=j):j=(a:Int):=by omega
theorem af.qV{T:aI}{x y:Operand}{t e:TypeId}{k:IntKind}{a:Addr}{m cap b:Nat}{j:Int}(o:T.ok P=true)(v:aD f x=some (.slice (some a) m cap))(h:aD f y=some (.int k j))(u:assoc T.H7 t=some e)
  (q:assoc T.leaf e=some ())(s:j.toNat=b)(l:0<=j)(p:b<m):af W P n H f {dst,op:= .indexAddr t x y,type:=ty_,pos,after,guard} (.pointer (some (a.add b))):=by
 rw[toNat_cast s l]at h;exact .indexAddr o v h u q p
theorem af.Ci{T:aI}{x z:Operand}{t sz:TypeId}{ao:Option Addr}{m cap a:Nat}{h:Int}{s:IntKind}(l:T.ok P=true)(q:aD f x=some (.slice ao m cap))(b:aD f z=some (.int s h))
  (p:T.N9 t=some sz)(o:h.toNat=a)(j:0<=h)(k:a<=cap):af W P n H f {dst,op:= .slice t x none (some z) none,type:=ty_,pos,after,guard} (.slice ao a cap):=by
 rw[toNat_cast o j]at b;exact .Ch l q b p k
theorem af.Ck{T:aI}{x y:Operand}{t sz:TypeId}{ao:Option Addr}{m cap a:Nat}{l:Int}{k:IntKind}(o:T.ok P=true)(s:aD f x=some (.slice ao m cap))(b:aD f y=some (.int k l))
  (q:T.N9 t=some sz)(p:l.toNat=a)(h:0<=l)(j:a<=m):af W P n H f {dst,op:= .slice t x (some y) none none,type:=ty_,pos,after,guard} (.slice (jO ao cap a sz) (m-a) (cap-a)):=by
 rw[toNat_cast p h]at b;exact .Cj o s b q j
end
end Go.Sl
namespace Go.Sl
theorem ae.re{W:World}{H L:List ab}(h:aP H L:=by(repeat first|exact .refl|(apply aP.cons;focus repeat first|exact .head|apply nW.tail)|exact .nil|apply aP.drop)):ae W H L:=aP.aR h
structure Hid(B:Prop):Prop where
  out:B
theorem w{A B:Prop}(b:B)(a:Hid B→A:=by intro zz;(repeat (first|(first|refine VO.nil rfl ?_|refine VQ.nil rfl ?_|refine VD.nil ?_|((first|apply VO.pure rfl rfl|apply VQ.pure rfl rfl|apply VD.take rfl rfl rfl|(refine VD.end rfl rfl rfl ?_;apply ay.pure));(first|(apply af.Q0 rfl rfl rfl;omega)|exact .eval ah rfl|(apply af.ld ah rfl rfl;(focus repeat first|exact .head _|apply List.Mem.tail);rfl)|(apply af.shr rfl rfl (by decide) (by decide))|(apply af.shr rfl rfl (by omega) (by simp only[IntKind.bits];omega))|exact .qQ ah rfl rfl|exact .sw ah rfl rfl rfl rfl (by omega) (by omega)|exact .Ch ah rfl rfl rfl (by omega)|exact .Cj ah rfl rfl rfl (by omega)|(first|exact .indexAddr ah rfl rfl rfl rfl (by omega)|exact .qW ah rfl rfl rfl rfl (by omega)|exact .qV ah rfl rfl rfl rfl (toNatLit _) (by decide) (by omega)|exact .indexAddrNI ah rfl rfl rfl rfl (toNatLit _) (by decide) (by omega)|exact .rZ ah rfl rfl hr1 (fL (by omega))|exact .rZ ah rfl rfl hr2 (fL (by omega))|exact RE ah rfl rfl hb1 (by omega)|exact RE ah rfl rfl hb2 (by omega))|exact .Ci ah rfl rfl rfl (toNatLit _) (by decide) (by omega)|exact .Ck ah rfl rfl rfl (toNatLit _) (by decide) (by omega)|(apply af.Tn ah rfl rfl;(focus repeat first|exact .head _|apply List.Mem.tail);rfl;rfl)|exact .ldro ah rfl rfl (by assumption));rfl)|refine VO.skip rfl rfl rfl rfl ?_|refine VQ.skip rfl rfl rfl rfl ?_|refine VD.skip rfl rfl rfl rfl rfl ?_|refine VD.H6 rfl rfl ae.refl rfl rfl rfl ?_|((first|refine VO.step rfl rfl ?_|refine VD.end rfl rfl rfl ?_|refine VD.yC rfl rfl rfl ?_);(apply ay.st ah rfl rfl rfl rfl (by(repeat first|exact .head|apply eQ.tail);first|done|fail) (by first|(simp;done)|fail)))|refine⟨ae.re,?_⟩)|(first|refine VC.seq rfl ?_|refine VC.region rfl ?_|refine VC.zC rfl rfl ?_|refine VC.zA rfl rfl ?_|refine VC.block rfl ?_|refine VC.skip rfl ?_|refine VC.ret rfl ?_|refine VC.exit rfl ?_|refine VC.scope rfl ?_|refine VC.label rfl ?_)|(first|refine VE.next ?_|refine VE.pY ?_|refine VE.mI ?_|refine VE.lV ?_|refine VE.rL ?_|refine VE.sO rfl ?_|refine VE.rM ?_|refine VE.vF ?_|refine VE.r6 ?_|refine VE.scopeNormal ?_|refine VE.EB ?_|refine VE.scopeExit ?_)));exact zz.out):A:=a ⟨b⟩
theorem zq{A B:Prop}(b:B)(a:Hid B→A:=by intro zz;first|exact VO.step rfl rfl zz.out|exact VD.end rfl rfl rfl zz.out|exact VD.yC rfl rfl rfl zz.out):A:=a ⟨b⟩
theorem zj{A:Prop}{C:Nat→Prop}(b:∀x,C x)(a:Hid (∀x,C x)→A:=by intro zz;first|exact VO.step rfl rfl (ay.box rfl rfl rfl zz.out)|exact VD.end rfl rfl rfl (ay.box rfl rfl rfl zz.out)|exact VD.yC rfl rfl rfl (ay.box rfl rfl rfl zz.out)):A:=a ⟨b⟩
theorem zv{A B:Prop}(b:B)(a:Hid B→A:=by intro zz;(first|(first|refine VO.nil rfl ?_|refine VQ.nil rfl ?_|refine VD.nil ?_|((first|apply VO.pure rfl rfl|apply VQ.pure rfl rfl|apply VD.take rfl rfl rfl|(refine VD.end rfl rfl rfl ?_;apply ay.pure));(first|(apply af.Q0 rfl rfl rfl;omega)|exact .eval ah rfl|(apply af.ld ah rfl rfl;(focus repeat first|exact .head _|apply List.Mem.tail);rfl)|(apply af.shr rfl rfl (by decide) (by decide))|(apply af.shr rfl rfl zO (by simp only[IntKind.bits];omega))|exact .qQ ah rfl rfl|exact .sw ah rfl rfl rfl rfl zO zO|exact .Ch ah rfl rfl rfl zO|exact .Cj ah rfl rfl rfl zO|(first|exact .indexAddr ah rfl rfl rfl rfl zO|exact .qW ah rfl rfl rfl rfl zO|exact .qV ah rfl rfl rfl rfl (toNatLit _) (by decide) zO|exact .indexAddrNI ah rfl rfl rfl rfl (toNatLit _) (by decide) zO|exact .rZ ah rfl rfl hr1 (fL zO)|exact .rZ ah rfl rfl hr2 (fL zO)|exact RE ah rfl rfl hb1 zO|exact RE ah rfl rfl hb2 zO)|exact .Ci ah rfl rfl rfl (toNatLit _) (by decide) zO|exact .Ck ah rfl rfl rfl (toNatLit _) (by decide) zO|(apply af.Tn ah rfl rfl;(focus repeat first|exact .head _|apply List.Mem.tail);rfl;rfl)|exact .ldro ah rfl rfl (by assumption));rfl)|refine VO.skip rfl rfl rfl rfl ?_|refine VQ.skip rfl rfl rfl rfl ?_|refine VD.skip rfl rfl rfl rfl rfl ?_|refine VD.H6 rfl rfl ae.refl rfl rfl rfl ?_|((first|refine VO.step rfl rfl ?_|refine VD.end rfl rfl rfl ?_|refine VD.yC rfl rfl rfl ?_);(first|(apply ay.st ah rfl rfl rfl rfl (by(repeat first|exact .head|apply eQ.tail);first|done|fail) (by first|(simp;done)|fail))|(refine ay.box rfl rfl rfl ?_;intro _)))|refine⟨ae.re,?_⟩)|(first|refine VC.seq rfl ?_|refine VC.region rfl ?_|refine VC.zC rfl rfl ?_|refine VC.zA rfl rfl ?_|refine VC.block rfl ?_|refine VC.skip rfl ?_|refine VC.ret rfl ?_|refine VC.exit rfl ?_|refine VC.scope rfl ?_|refine VC.label rfl ?_)|(first|refine VE.next ?_|refine VE.pY ?_|refine VE.mI ?_|refine VE.lV ?_|refine VE.rL ?_|refine VE.sO rfl ?_|refine VE.rM ?_|refine VE.vF ?_|refine VE.r6 ?_|refine VE.scopeNormal ?_|refine VE.EB ?_|refine VE.scopeExit ?_));exact zz.out):A:=a ⟨b⟩
theorem zp{A:Prop}(h:A:=by(first|(apply af.Q0 rfl rfl rfl;omega)|exact .eval ah rfl|(apply af.ld ah rfl rfl;(focus repeat first|exact .head _|apply List.Mem.tail);rfl)|(apply af.shr rfl rfl (by decide) (by decide))|(apply af.shr rfl rfl zO (by simp only[IntKind.bits];omega))|exact .qQ ah rfl rfl|exact .sw ah rfl rfl rfl rfl zO zO|exact .Ch ah rfl rfl rfl zO|exact .Cj ah rfl rfl rfl zO|(first|exact .indexAddr ah rfl rfl rfl rfl zO|exact .qW ah rfl rfl rfl rfl zO|exact .qV ah rfl rfl rfl rfl (toNatLit _) (by decide) zO|exact .indexAddrNI ah rfl rfl rfl rfl (toNatLit _) (by decide) zO|exact .rZ ah rfl rfl hr1 (fL zO)|exact .rZ ah rfl rfl hr2 (fL zO)|exact RE ah rfl rfl hb1 zO|exact RE ah rfl rfl hb2 zO)|exact .Ci ah rfl rfl rfl (toNatLit _) (by decide) zO|exact .Ck ah rfl rfl rfl (toNatLit _) (by decide) zO|(apply af.Tn ah rfl rfl;(focus repeat first|exact .head _|apply List.Mem.tail);rfl;rfl)|exact .ldro ah rfl rfl (by assumption))):A:=h
theorem zm{α:Type}{a:α}{L:List α}(h:List.Mem a L:=by(focus repeat first|exact .head _|apply List.Mem.tail)):List.Mem a L:=h
theorem zg{A B C:Prop}(b:B)(h:C)(a:Hid B→Hid C→A:=by intro z1 z2;first|exact VO.split rfl rfl rfl z1.out z2.out|exact VD.split rfl rfl rfl z1.out z2.out):A:=a ⟨b⟩ ⟨h⟩
theorem zk{A B C:Prop}(b:B)(h:C)(a:Hid B→Hid C→A:=by intro z1 z2;exact VC.cond rfl rfl z1.out z2.out):A:=a ⟨b⟩ ⟨h⟩
theorem zh{H:List ab}{X:ab}{C:ab→List ab}(h:eQ H X C:=by(repeat first|exact .head|apply eQ.tail)):eQ H X C:=h
theorem zy{W:World}{P:Program}{n d:Nat}{Q:Exit→Act→World→Prop}{L:List ab}{f:Fr}{N:List ab→Fr→Prop}{ty_:TypeId}{pos:String}{after:Array Edge}{guard:Option (Nat×Bool)}{x:Operand}{xs:Array Operand}{ats:Array TypeId}{g:FuncId}{cap:Array Value}{vs:List Value}{β:Type}{A:β→Prop}{r:β→Value}{G:β→List ab}
    (l:aD f x=some (.func (.func g) #[] cap))(b:jo f xs.toList=some vs)(spec:aq W P g (vs++cap.toList) L A r G)(h:∀y,A y→N (G y) ((d,r y)::f))(j:∀a w,(callFunc g a).run P w= .ok (.enter g a) w:=by intro _ _;simp)(k:Nat.blt d n=true:=by rfl):
    ay W P n {dst:=some d,op:= .call {callee:= .value x,args:=xs,argTypes:=ats},type:=ty_,pos,after,guard} Q L f N:=ay.call l b j spec ae.refl k h
theorem zd{W:World}{P:Program}{n d:Nat}{Q:Exit→Act→World→Prop}{H L:List ab}{f:Fr}{N:List ab→Fr→Prop}{ty_:TypeId}{pos:String}{after:Array Edge}{guard:Option (Nat×Bool)}{x:Operand}{xs:Array Operand}{ats:Array TypeId}{g:FuncId}{cap:Array Value}{vs:List Value}{β:Type}{A:β→Prop}{r:β→Value}{G:β→List ab}
    (m:aD f x=some (.func (.func g) #[] cap))(b:jo f xs.toList=some vs)(spec:aq W P g (vs++cap.toList) L A r G)(h:∀y,A y→N (G y) ((d,r y)::f))(l:aP H L:=by(repeat first|exact .refl|(apply aP.cons;focus repeat first|exact .head|apply nW.tail)|exact .nil|apply aP.drop))(j:∀a w,(callFunc g a).run P w= .ok (.enter g a) w:=by intro _ _;simp)(k:Nat.blt d n=true:=by rfl):
    ay W P n {dst:=some d,op:= .call {callee:= .value x,args:=xs,argTypes:=ats},type:=ty_,pos,after,guard} Q H f N:=ay.call m b j spec (aP.aR l) k h
theorem zw{A B:Prop}(b:B)(a:Hid B->A:=by intro zz;refine w ?_;refine zq ?_;exact zz.out):A:=a ⟨b⟩
theorem ze{W:World}{P:Program}{n:Nat}{H:List ab}{g:FuncId}{fn:Func}{args:List Value}{β:Type}{A:β->Prop}{r:β->Value}{G:β->List ab}{C:Prop}(b:P.funcs[g]?=some fn)(k:fn.ntmps=n)(h:C)(l:Hid C->VC W P n (gq fn) (bodyPost P fn (lh W A r G)) H (vZ 0 args):=by intro zz;refine w ?_;exact zz.out)(a:fn.body.isSome=true:=by rfl)(j:Nat.ble args.length n=true:=by rfl):aq W P g args H A r G:=aq.enter b k a j (l ⟨h⟩)
theorem zr{W:World}{P:Program}{g:FuncId}{vs:List Value}{L:List ab}{β:Type}{a:β->Prop}{r:β->Value}{G:β->List ab}{A:Prop}{C:β->Prop}(b:Hid (aq W P g vs L a r G)->Hid (∀y,a y->C y)->A:=by intro z1 z2;refine w ?_;refine zq ?_;refine zd rfl rfl z1.out ?_;exact z2.out)(s:aq W P g vs L a r G)(h:∀y,a y->C y):A:=b ⟨s⟩ ⟨h⟩
theorem zt{W:World}{P:Program}{g:FuncId}{vs:List Value}{L:List ab}{β:Type}{a:β->Prop}{r:β->Value}{G:β->List ab}{A:Prop}{C:β->Prop}(b:Hid (aq W P g vs L a r G)->Hid (∀y,a y->C y)->A:=by intro z1 z2;refine w ?_;refine zq ?_;refine zy rfl rfl z1.out ?_;exact z2.out)(s:aq W P g vs L a r G)(h:∀y,a y->C y):A:=b ⟨s⟩ ⟨h⟩
theorem zl{A B:Prop}(vs:List Value)(h:∀u∈vs,u.oneCell'=true)(b:B)(a:Hid (∀u∈vs,u.oneCell'=true)->Hid B->A:=by intro z1 z2;refine w ?_;refine zq ?_;refine ay.gL ah rfl rfl rfl rfl z1.out zh (by simp) ?_;refine w ?_;exact z2.out):A:=a ⟨h⟩ ⟨b⟩
theorem zS{A B:Prop}(vs:List Value)(b:B)(a:Hid B->A:=by intro z2;refine zl _ ?_ ?_;rotate_left;exact z2.out;simp[Value.oneCell']):A:=a ⟨b⟩
theorem zx{W:World}{P:Program}{n:Nat}{c:Code}{Q:Exit->Act->World->Prop}{H:List ab}{f:Fr}(mv:List Nat)(tl:Nat)(ord:List Nat)(R:List ab)(h:VD W P n c R mv tl ord Q H f)(b:ae W H R:=by exact ae.re)(j:dg c=some true:=by rfl)(k:P.follows .mixedOrders=true:=by kernel_rfl)(a:zJ (aG c).toArray mv tl ord=true:=by kernel_rfl):VC W P n c Q H f:=VC.drawn mv tl ord R j k a b h
end Go.Sl
namespace Go.Sl
open Go.RowKit
def Dp(k:Option IntKind)(v:Value):Option Lit:=
  match k,v with
  |some q,.int a n=>if a=q then some (.int q n)else none
  |none,.bool b=>some (.bool b)
  |_,_=>none
def HK:Lit->Bool
  | .int q n=>(Lit.int q n).wf
  |_=>true
def gO:List (Option IntKind)->List Value->Option (List Lit)
  |[],[]=>some []
  |k::ks,v::vs=>match Dp k v,gO ks vs with
    |some l,some ls=>some (l::ls)
    |_,_=>none
  |_,_=>none
def sX(P:Program)(k:Option IntKind)(i:Nat)(f:Field):Bool:=
  f.name != "_" &&Nat.beq f.offset i&&Nat.beq (P.cellsOf f.type) 1&&(match P.underlying f.type,k with
    |some (.int q),some a=>decide (q=a)
    |some .bool,none=>true
    |_,_=>false)
def fR(P:Program):List (Option IntKind)->Nat->List Field->Bool
  |[],_,[]=>true
  |k::ks,i,f::a=>sX P k i f&&fR P ks (i+1) a
  |_,_,_=>false
def wG(P:Program)(t:TypeId)(ks:List (Option IntKind)):Bool:=
  (match P.underlying t with
  |some (.struct a)=>Nat.beq (P.cellsOf t) ks.length&&fR P ks 0 a.toList
  |_=>false)&&P.keyTypeAt 2 t&&!(P.eqGuardType P.depth t)
theorem zP{P:Program}{cs:List Value}:∀{ks:List (Option IntKind)}{vs:List Value}{i:Nat}{p:List Field}{ls:List Lit},fR P ks i p=true->cs.drop i=vs->gO ks vs=some ls->(∀l∈ls,HK l=true)->
    ∃m:List (List Lit),p.mapM (λf=>P.keyLits 1 f.type ((cs.drop f.offset).take (P.cellsOf f.type)))=some m/\m.flatten=ls
  |[],[],_,[],ls,_,_,h,_=>by simp[gO]at h;subst h;exact⟨[],by simp,rfl⟩
  |[],_::_,_,_,_,_,_,h,_=>by simp[gO]at h
  |[],[],_,_::_,_,h,_,_,_=>by simp[fR]at h
  |_::_,[],_,_,_,_,_,h,_=>by simp[gO]at h
  |_::_,_::_,_,[],_,h,_,_,_=>by simp[fR]at h
  |k::ks,v::vs,i,f::p,ls,B,A,o,D=>by
    simp only[fR,sX,mV,bne_iff_ne,ne_eq]at B;obtain⟨⟨⟨⟨V,s⟩,t⟩,b⟩,M⟩:=B;have s:=Nat.eq_of_beq_eq_true s;have t:=Nat.eq_of_beq_eq_true t;unfold gO at o;split at o
    · rename_i l T a G
      cases o
      have u:cs.drop (i+1)=vs:=by rw[<-QC,A];rfl
      obtain⟨m,I,y⟩:=zP M u G λx O=>D x (.tail _ O)
      have e:P.keyLits 1 f.type ((cs.drop f.offset).take (P.cellsOf f.type))=some [l]:=by
        rw[s,t,A];have J:=D l (.head _);unfold Dp at a;split at a
        · split at a
          · rename_i q U n K;cases a;subst K
            split at b
            · rename_i E Y z j;cases j
              have:E=U:=cI b
              subst this
              unfold Program.keyLits
              rw[z]
              simp only[pS,DK,true_and]
              rw[lam (show(Lit.int E n).wf=true from J)]
            · rename_i j;cases j
            · cases b
          · cases a
        · cases a
          split at b
          · rename_i j;cases j
          · rename_i z _
            unfold Program.keyLits
            rw[z]
            rfl
          · cases b
        · cases a
      refine⟨[l]::m,?_,by simp[y]⟩
      rw[List.mapM_cons,e,I]
      rfl
    · cases o
theorem sY{P:Program}{t:TypeId}{ks:List (Option IntKind)}{cs:List Value}{ls:List Lit}(h:wG P t ks=true)(v:gO ks cs=some ls)(p:cs.length=ks.length)(z:∀l∈ls,HK l=true):P.keyLits 2 t cs=some ls/\(Value.agg cs.toArray).formed P t=true:=by
  simp only[wG,mV]at h;obtain⟨⟨h,_⟩,_⟩:=h;split at h
  · rename_i s q
    simp only[mV]at h
    obtain⟨b,o⟩:=h
    have b:=Nat.eq_of_beq_eq_true b
    have y:s.all (·.name != "_")=true:=by
      rw[Array.all_eq_true_iff_forall_mem];intro f a;have:∀(ks:List (Option IntKind))(i:Nat)(l:List Field),fR P ks i l=true->∀f∈l,(f.name != "_")=true:=by
        intro ks i l;induction l generalizing ks i with
        |nil=>intro _ f a;cases a
        |cons g r A=>
          intro j f a;cases ks with
          |nil=>simp[fR]at j
          |cons k ks=>
            simp only[fR,sX,mV]at j;cases a with
            |head=>exact j.1.1.1.1
            |tail _ a=>exact A _ _ j.2 f a
      exact this _ _ _ o f (Array.mem_toList_iff.2 a)
    obtain⟨B,u,m⟩:=zP (cs:=cs) o rfl v z
    refine⟨?_,?_⟩
    · unfold Program.keyLits
      rw[q]
      show(if cs.length=P.cellsOf t/\_ then _ else _)=_
      rw[lam ⟨by rw[p,b],y⟩,u]
      simp[m]
    · simp[Value.formed,q,p,b]
  · cases h
section
variable{W:World}{P:Program}{n:Nat}{H:List ab}{f:Fr}{dst:Option Tmp}{d:Nat}{ty_:TypeId}{pos:String}{after:Array Edge}{guard:Option (Nat×Bool)}
theorem af.L3{op:BinOp}{x y:Operand}{t u:TypeId}{ks:List (Option IntKind)}{cs ds:List Value}{m o:List Lit}{v:Value}{b:Bool}(a:wG P t ks=true)(E:aD f x=some (.agg cs.toArray))(G:aD f y=some (.agg ds.toArray))
  (O:gO ks cs=some m)(T:gO ks ds=some o)(U:cs.length=ks.length)(q:ds.length=ks.length)(z:∀l∈m,HK l=true)(A:∀l∈o,HK l=true)(M:b=true↔m=o)(D:CA op b=some v):
  af W P n H f {dst,op:= .binOp op t x y u,type:=ty_,pos,after,guard} v:=by
 unfold af;intro Y w k _;obtain⟨I,a2⟩:=sY a O U z;obtain⟨J,K⟩:=sY a T q A;have p:P.keyTypeAt 2 t=true:=by simp only[wG,mV]at a;exact a.1.2
 have j:P.eqGuardType P.depth t=false:=by simp only[wG,mV,Bool.not_eq_true']at a;exact a.2
 obtain⟨r,V,h⟩:=Go.run_equalIn_deep 9998 2 t p w 2 2 (.agg cs.toArray) (.agg ds.toArray) m o a2 K I J;have s:r=b:=by rw[Bool.eq_iff_iff,h,M]
 have B:(Op.equal t (.agg cs.toArray) (.agg ds.toArray)).run P w= .ok b w:=by rw[<-s];exact V
 cases op<;>simp only[CA,Option.some.injEq,reduceCtorEq]at D<;>subst D<;>unfold execOp
 ·
  simp only[k.eval E,k.eval G,eqGuard,binOp,Sem.run_bind,Sem.run,Result.andThen_ok,j];simp[B,j,Sem.run_bind,Sem.run];done
 ·
  simp only[k.eval E,k.eval G,eqGuard,binOp,Sem.run_bind,Sem.run,Result.andThen_ok,j];simp[B,j,Sem.run_bind,Sem.run];done
theorem ay.NB{Q:Exit->Act->World->Prop}{C:ab->List ab}{N:List ab->Fr->Prop}{T:aI}{t e:TypeId}{x y:Operand}{a:Addr}{sz m cap j:Nat}{v:Value}{xs xs':List Value}(b:T.ok P=true)(q:aD f x=some (.pointer (some (a.add j))))(s:aD f y=some v)(p:v.oneCell'=true)(k:assoc T.leaf t=some ())
  (u:eQ H (Own e sz (.slice (some a) m cap) m xs) C)(l:j<xs.length)(o:xs.set j v=xs')(h:N (C (Own e sz (.slice (some a) m cap) m xs')) f):
  ay W P n {dst:=none,op:= .store t x y,type:=ty_,pos,after,guard} Q H f N:=
 ay.EJ b q s p k u l (by rw[o];exact h)
theorem af.bB{g:FuncId}{xs:Array Operand}{vs:List Value}(h:jo f xs.toList=some vs):af W P n H f {dst,op:= .makeFunc (.func g) #[] xs,type:=ty_,pos,after,guard} (.func (.func g) #[] vs.toArray):=by
 unfold af;intro j w b k;have a:xs.map (Act.eval ⟨j,[]⟩)=vs.toArray:=by
  have:=b.args h;apply Array.ext';simpa using this
 simp[execOp,Instr.makeFunc,a]
inductive aL(W:World)(P:Program)(H:List ab)(f:Fr):ResultVar->Value->Prop
  |tmp {a:Nat} {v:Value} (h:look f a=some v):aL W P H f (.tmp a) v
  |cell {a:Nat} {t:TypeId} {ad:Addr} {v:Value} (h:look f a=some (.pointer (some ad))) (hv:∀w,Holds W H w->(loadVar t ad).run P w= .ok v w):aL W P H f (.cell a t) v
theorem aL.leaf{T:aI}{a:Nat}{t U:TypeId}{b off:Nat}{cs:List Value}{v:Value}(j:T.ok P=true)(h:look f a=some (.pointer (some ⟨b,off,none⟩)))(k:assoc T.leaf t=some ())(m:Row b U cs∈H)(l:cs[off]?=some v):aL W P H f (.cell a t) v:=
 .cell h λw o=>tN (T.l3 j k).1 (o.cell m l)
theorem aL.agg{T:aI}{a:Nat}{t U sz:TypeId}{b off:Nat}{cs vs:List Value}(p:T.ok P=true)(h:look f a=some (.pointer (some ⟨b,off,none⟩)))(u:assoc T.vX t=some sz)(m:Row b U cs∈H)(y:(cs.drop off).take sz=vs)(s:vs.length=sz):aL W P H f (.cell a t) (.agg vs.toArray):=
 .cell h λw z=>by
  obtain⟨l,o⟩:=T.sM p u;subst s;have q:∀j v,vs[j]?=some v->w.cell? ((⟨b,off,none⟩:Addr).add j)=some v:=by
   intro j v k;rw[Addr.add_lit];refine z.cell m ?_;rw[<-y,Oc]at k;split at k
   · rw[Od]at k;exact k
   · cases k
  simp[loadVar,Sem.run_bind,l,o,run_loadCells_list w _ vs q]
theorem aL.run{j:ResultVar}{v:Value}(h:aL W P H f j v){t:Array Value}(b:bS n f t){w:World}(l:Holds W H w):
  ((match j with| .tmp a=>Pure.pure (t.getD a undef)| .cell a ty=>do loadVar ty (<-asAddr (t.getD a undef))):Sem Value).run P w= .ok v w:=by
 cases h with
 |tmp h=>have:=b.get _ _ h;simp[this]
 |cell h k=>have:=b.get _ _ h;simp[this,asAddr,k w l]
theorem VE.results1{fn:Func}{β:Type}{A:β->Prop}{r:β->Value}{G:β->List ab}{a:ResultVar}{v:Value}{e:Exit}(l:e= .ret\/e= .normal)(x:β)(q:fn.results=#[a])(h:aL W P H f a v)(j:A x)(p:v=r x)(k:ae W H (G x)):VE W n (bodyPost P fn (lh W A r G)) e H f:=by
 unfold VE;intro t w m b;have o:(results fn t).run P w= .ok v w:=by
  have:=h.run m b;cases a<;>simp_all [results]
 rcases l with rfl|rfl<;>exact⟨rfl,_,o,x,j,by rw[p],k w b⟩
theorem VE.results2{fn:Func}{β:Type}{A:β->Prop}{r:β->Value}{G:β->List ab}{q j:ResultVar}{v v2:Value}{e:Exit}(z:e= .ret\/e= .normal)(x:β)(k:fn.results=#[q,j])(s:aL W P H f q v)(o:aL W P H f j v2)(u:A x)(D:.tuple #[v,v2]=r x)(y:ae W H (G x)):VE W n (bodyPost P fn (lh W A r G)) e H f:=by
  unfold VE;intro t w b h;have B:(results fn t).run P w= .ok (.tuple #[v,v2]) w:=by
    cases s with
    |tmp l=>
      have g1:=b.get _ _ l;cases o with
      |tmp a=>have g2:=b.get _ _ a;simp[results,k,g1,g2]
      |cell a m=>have g2:=b.get _ _ a;simp[results,k,g1,g2,asAddr,m w h]
    |cell l p=>
      have g1:=b.get _ _ l;cases o with
      |tmp a=>have g2:=b.get _ _ a;simp[results,k,g1,g2,asAddr,p w h]
      |cell a m=>have g2:=b.get _ _ a;simp[results,k,g1,g2,asAddr,p w h,m w h]
  rcases z with rfl|rfl<;>exact⟨rfl,_,B,x,u,by rw[D],y w h⟩
end
end Go.Sl
namespace Go.Sl
open Go.RowKit
theorem jA.list{α:Type}{P:Program}{W:World}{t e:TypeId}{ao:Option Addr}{n cap sz:Nat}(cells:α->List Value)(wf:α->Prop)(d:α)(j:P.underlying t=some (.slice e))(p:P.cellsOf e=sz)(b:∀o:α,wf o->∀u∈cells o,u.oneCell'=true)
    (dec:∀cs,jA P W e cs->∃o,cs=cells o/\wf o)(h:jA P W t [.slice ao n cap]):
    ∃l:List α,l.length=n/\Im W sz ao n (l.flatMap cells)/\(∀o∈l,wf o)/\n<=cap/\cap*P.bytesOf e<=reachBytes:=by
  obtain⟨z,V,cap',row,I,B,v,U,M,s,q,J⟩:=h.kX j;cases I;rw[p]at s q;have G:∀i,∃o:α,i<cap->row i=cells o/\wf o:=λi=>by
    by_cases h:i<cap
    · obtain⟨o,D,E⟩:=dec _ (J i h)
      exact⟨o,λ_=>⟨D,E⟩⟩
    · exact⟨d,λA=>lcs A h⟩
  obtain⟨c,a⟩:=Classical.axiomOfChoice G;have e:(List.range n).flatMap row=((List.range n).map c).flatMap cells:=by
    have:∀k,k<=n->(List.range k).flatMap row=((List.range k).map c).flatMap cells:=by
      intro k;induction k with
      |zero=>intro _;rfl
      |succ k O=>
        intro T;rw[KQ,E5,jv,O zO];simp[(a k zO).1]
    exact this n (eI _)
  refine⟨(List.range n).map c,by simp,λR=>?_,λo K=>?_,v,M⟩
  · have y:=AF (R:=R) B v s (λi h u j=>by rw[(a i h).1]at j;exact b _ (a i h).2 u j) q
    rw[e]at y
    exact y
  · obtain⟨i,m,rfl⟩:=fG.1 K
    exact(a i (by have:=HC.1 m;omega)).2
theorem vA{α β:Type}{g:α->List β}{w:Nat}(l:List α)(j i:Nat)(h:j<l.length)(k:∀a∈l,(g a).length=w)(b:i<w):(l.flatMap g)[j*w+i]?=(g l[j])[i]? :=by
 rw[<-dW l j h k,Oc,lam b,Od]
theorem wH{α β:Type}(g:α->β)(l:List α):l.flatMap (λx=>[g x])=l.map g:=by induction l with|nil=>rfl|cons a r b=>simp[b]
end Go.Sl
namespace Go.Sl
open Go Go.RowKit
section
variable{W:World}{P:Program}{n:Nat}{Q:Exit->Act->World->Prop}{H:List ab}{f:Fr}{C:ab->List ab}
variable{N:List ab->Fr->Prop}{ty_:TypeId}{pos:String}{after:Array Edge}{guard:Option (Nat×Bool)}
theorem qG{z:Value}{k:Nat}(j:∀u∈z.cells.toList,u.oneCell'=true):∀u∈(Builtin.zeroCells z.cells k).toList,u.oneCell'=true:=by
 intro u b;simp only[Builtin.zeroCells,Array.toList_map,fG,Array.mem_toList_iff,Array.mem_range]at b;obtain⟨i,l,rfl⟩:=b;have m:0<z.cells.size:=by
  rcases Nat.eq_zero_or_pos z.cells.size with h|h
  · rw[h,Nat.mul_zero]at l;omega
  · exact h
 have a:i%z.cells.size<z.cells.size:=qX _ m;rw[getElem!_pos z.cells _ a];exact j _ (by simp)
theorem ay.LJ{s:Operand}{t e:TypeId}{z:Value}{sz G m cap k:Nat}{ao:Option Addr}{xs:List Value}(st:cH P t e z sz G)(E:aD f s=some (.slice (jO ao cap k sz) (m-k) (cap-k)))
  (u:eQ H (Own e sz (.slice ao m cap) m xs) C)(ad:k<=m)
  (h:∀ys:List Value,ys.length=(m-k)*sz->N (C (Own e sz (.slice ao m cap) m (xs.take (k*sz)++ys))) f):
  ay W P n {dst:=none,op:= .call {callee:= .builtin .clear,args:=#[s],argTypes:=#[t]},type:=ty_,pos,after,guard} Q H f N:=by
 unfold ay;intro tm w D hw K V;obtain⟨R,p,q⟩:=u.perm;obtain⟨y,hv⟩:=(hw.perm p).gy;by_cases hz:k=m
 ·
  subst hz;have I:∀a,(Builtin.clear_ #[t] ty_ #[.slice a (k-k) (cap-k)]).run P w= .ok (.tuple #[]) w:=by
   intro a;rw[E7];cases a<;>simp[Builtin.clear_,Sem.run_bind,run_underlying st.tZ]
  have Y:=h [] (by simp);rw[mn,qy zO]at Y;unfold Oper.wp execOp;simp only[resolve,invoke,builtin,Sem.run_bind,Sem.run_pure,Result.andThen_ok,List.map_toArray,BI,HG,D.eval E,I];exact V _ _ Y _ _ D (Holds.perm (q _) (hw.perm p))
 ·
  rcases hv with⟨Z,rfl,B⟩|⟨b,cap',spare,Z,hn,hm,I,B⟩
  · omega
  ·
   cases Z;have e0:jO (some (⟨b,0,none⟩:Addr)) cap k sz=some ⟨b,k*sz,none⟩:=by
    rw[qi zO,Addr.add_lit,PA]
   rw[e0]at E;obtain⟨d,rfl⟩:∃d,m=k+(d+1):=⟨m-k-1,by omega⟩;have e1:k+(d+1)-k=d+1:=by omega
   rw[e1]at E h;have o:(Builtin.zeroCells z.cells (d+1)).toList.length=(d+1)*sz:=by simp[Builtin.zeroCells,st.zs]
   have l:(k+(d+1))*sz=k*sz+(d+1)*sz:=Tk _ _ _;have v:k*sz+(Builtin.zeroCells z.cells (d+1)).toList.length<=(xs++spare).length:=by rw[c9,y,o,l];omega
   have A:=run_storeCells_cells (P:=P) b (k*sz) (Builtin.zeroCells z.cells (d+1)).toList 0 w (λj hj=>by
     have M:k*sz+0+j<(xs++spare).length:=by omega
     rw[B.cell (.head _) (fL M)];rfl) (λj hj=>B.free (.head _)) (qG st.z1)
   simp only[BH]at A;obtain⟨i,hi,T,ag,aa⟩:=info_parts st.info;have O:(zeroValue e).run P w= .ok z w:=by simp[zeroValue,typeInfo,hi,T]
   have J:(Builtin.clear_ #[t] ty_ #[.slice (some ⟨b,k*sz,none⟩) (d+1) (cap-k)]).run P w= .ok (.tuple #[]) (w.setCells b (k*sz) (Builtin.zeroCells z.cells (d+1)).toList):=by
    simp[Builtin.clear_,Sem.run_bind,run_underlying st.tZ,O,A]
   have U:=B.setCells .head v;unfold Oper.wp execOp;simp only[resolve,invoke,builtin,Sem.run_bind,Sem.run_pure,Result.andThen_ok,List.map_toArray,BI,HG,D.eval E,J];refine V _ _ (h _ o) _ _ D (Holds.perm (q _) ?_);have e:(xs++spare).take (k*sz)++(Builtin.zeroCells z.cells (d+1)).toList++(xs++spare).drop (k*sz+(Builtin.zeroCells z.cells (d+1)).toList.length)=(xs.take (k*sz)++(Builtin.zeroCells z.cells (d+1)).toList)++spare:=by
    rw[Tj (by rw[y,l];omega),o,<-l,<-y,List.drop_left]
   rw[e]at U;refine Holds.fS ?_ hn hm ?_ U
   · rw[c9,j1,y,o,l];omega
   · rw[<-I];simp only[c9,j1,y,o,l];omega
end
section
variable{W:World}{P:Program}{n:Nat}{c c2:Code}{Q:Exit->Act->World->Prop}{H:List ab}{f:Fr}
theorem VO.Ti{α:Type}{k:Nat}(A:α->Prop)(G:α->List ab)(F:α->Fr)(b:∀a,Met W n Q a A G F->VO W P n c k a H f)(h:∀x,A x->VC W P n c2 Q (G x) (F x)):
  VO W P n c k (mQ P c2 Q) H f:=b _ (Met.of h)
theorem VQ.re{k:Nat}{v:Value}(d:Nat)(v':Value)(b:look f d=some v)(e:v=v')(h:VQ W P n c k Q H ((d,v')::f)):VQ W P n c k Q H f:=by
 unfold VQ at*;intro t a;subst e;exact h t (a.again b)
end
end Go.Sl
namespace Go.Sl
open Go Go.RowKit
section
variable{W:World}{P:Program}{n:Nat}{c:Code}{Q:Exit->Act->World->Prop}{H:List ab}{f:Fr}{C:ab->List ab}
variable{N:List ab->Fr->Prop}{dst:Option Tmp}{d:Nat}{ty_:TypeId}{pos:String}{after:Array Edge}{guard:Option (Nat×Bool)}
def Cn(l:List UInt8):Value:= .string ⟨l.toArray⟩
theorem af.toStr{T:aI}{x:Operand}{s t e k:TypeId}{ao:Option Addr}{cap m:Nat}{l:List UInt8}{xs:List Value}(b:T.ok P=true)(y:aD f x=some (.slice ao m cap))(u:assoc T.H7 s=some e)(p:assoc T.ints e=some .u8)(v:assoc T.nY t=some (2,k))
    (h:aV W H 1 ao m xs)(o:xs=l.map λ(c:UInt8)=>Value.int .u8 (c.toNat:Int)):af W P n H f {dst,op:= .convert s t x,type:=ty_,pos,after,guard} (Cn l):=by
  unfold af;intro E w q D;subst o;have B:l.length=m:=by have:=h.len;simpa using this
  subst B;unfold execOp;cases ao with
  |none=>
    have z:=h.nil rfl;obtain rfl:l=[]:=List.eq_nil_of_length_eq_zero z;simp[q.eval y,Go.convert,run_underlying (T.jh b u),run_underlying (T.wW b p),run_underlying (T.AI b v),Conv.bytesToString,Cn];rfl
  |some a=>
    have:=run_convert_bytes_back (P:=P) w s t e a cap l (T.jh b u) (T.wW b p) (T.AI b v) (λj A=>h.cell w D a rfl j _ (by simp[A]));simp only[q.eval y,Sem.run_bind,this,Result.andThen_ok,Sem.run_pure];rfl
theorem af.EN{T:aI}{op:BinOp}{x y:Operand}{s u e:TypeId}{a b:List UInt8}{v:Value}(z:T.ok P=true)(q:aD f x=some (Cn a))(t:aD f y=some (Cn b))(A:assoc T.nY s=some (2,e))(p:CA op (decide (a=b))=some v):
  af W P n H f {dst,op:= .binOp op s x y u,type:=ty_,pos,after,guard} v:=by
 unfold af;intro B w j _;have key:∀o,(o= .eql\/o= .neq)->CA o (decide (a=b))=some v->(Op.stringOp o ⟨a.toArray⟩ ⟨b.toArray⟩).run P w= .ok v w:=by
  have k:(a==b)=decide (a=b):=by rw[Bool.eq_iff_iff];simp
  have l:∀c:List UInt8,(⟨c.toArray⟩:ByteArray).toList=c:=λc=>by simp[ByteArray.toList_eq]
  rintro o (rfl|rfl) h
  ·
   simp only[CA,Option.some.injEq]at h;subst h;simp[Op.stringOp,l,k]
  ·
   simp only[CA,Option.some.injEq]at h;subst h;simp[Op.stringOp,l,k]
 have m:op= .eql\/op= .neq:=by cases op<;>simp[CA]at p<;>simp
 have:=key op m p;unfold execOp;rcases m with rfl|rfl
 ·
  simp only[j.eval q,j.eval t,Cn]at this⊢;simp[eqGuard,binOp,this]
 ·
  simp only[j.eval q,j.eval t,Cn]at this⊢;simp[eqGuard,binOp,this]
def Fb(b:Nat)(e:TypeId)(xs:List Value):ab:=λh=>∃spare,At b (.cells (xs++spare).toArray e ((xs++spare).length,(xs++spare).length+1)) h
theorem aV.RK{b:Nat}{e:TypeId}{xs:List Value}{m:Nat}(o:∀u∈xs,u.oneCell'=true)(s:Fb b e xs∈H)(v:xs.length=m):aV W H 1 (ik b) m xs:=by
 refine⟨by omega,o,λh=>(by cases h),λw t a q j u k=>?_⟩;cases q;obtain⟨R,p⟩:=ja s;obtain⟨h,⟨spare,d⟩,own,-⟩:=(t.perm p).open
 have:=(own b _ d).2;have l:(⟨b,0,none⟩:Addr).add j=⟨b,j,none⟩:=by unfold Addr.add;split<;>simp_all
 rw[l];simp only[World.cell?,this];simp[Ah (HE.1 k).1,k]
end
end Go.Sl
namespace Go.Sl
open Go Go.RowKit
section
variable{W:World}{P:Program}{n:Nat}{Q:Exit->Act->World->Prop}{H:List ab}{f:Fr}{C:ab->List ab}
variable{N:List ab->Fr->Prop}{d:Nat}{ty_:TypeId}{pos:String}{after:Array Edge}{guard:Option (Nat×Bool)}
theorem ay.IT{s:Operand}{t e:TypeId}{z:Value}{sz y m cap k c':Nat}{ao:Option Addr}{xs:List Value}(st:cH P t e z sz y)(hs:aD f s=some (.slice ao (k+1) c'))
  (u:eQ H (Own e sz (.slice ao m cap) m xs) C)(E:k+1<=m)
  (h:N (C (Own e sz (.slice ao m cap) m ((Builtin.zeroCells z.cells (k+1)).toList++xs.drop ((k+1)*sz)))) f):
  ay W P n {dst:=none,op:= .call {callee:= .builtin .clear,args:=#[s],argTypes:=#[t]},type:=ty_,pos,after,guard} Q H f N:=by
 unfold ay;intro tm w O hw K T;obtain⟨R,p,q⟩:=u.perm;obtain⟨D,hv⟩:=(hw.perm p).gy;rcases hv with⟨M,rfl,v⟩|⟨b,cap',spare,M,hn,hm,V,v⟩
 · omega
 ·
  cases M;have a:(Builtin.zeroCells z.cells (k+1)).toList.length=(k+1)*sz:=by simp[Builtin.zeroCells,st.zs]
  have aa:(k+1)*sz<=m*sz:=u0 _ E;have l:0+(Builtin.zeroCells z.cells (k+1)).toList.length<=(xs++spare).length:=by rw[c9,D,a];omega
  have o:=run_storeCells_cells (P:=P) b 0 (Builtin.zeroCells z.cells (k+1)).toList 0 w (λj Z=>by
    have B:0+0+j<(xs++spare).length:=by omega
    rw[v.cell (.head _) (fL B)];rfl) (λj Z=>v.free (.head _)) (qG st.z1)
  simp only[BH]at o;obtain⟨i,Y,I,ad,U⟩:=info_parts st.info;have G:(zeroValue e).run P w= .ok z w:=by simp[zeroValue,typeInfo,Y,I]
  have A:(Builtin.clear_ #[t] ty_ #[.slice (ik b) (k+1) c']).run P w= .ok (.tuple #[]) (w.setCells b 0 (Builtin.zeroCells z.cells (k+1)).toList):=by
   simp[Builtin.clear_,Sem.run_bind,run_underlying st.tZ,G,o]
  have J:=v.setCells .head l;unfold Oper.wp execOp;simp only[resolve,invoke,builtin,Sem.run_bind,Sem.run_pure,Result.andThen_ok,List.map_toArray,BI,HG,O.eval hs,A];refine T _ _ h _ _ O (Holds.perm (q _) ?_);have e:(xs++spare).take 0++(Builtin.zeroCells z.cells (k+1)).toList++(xs++spare).drop (0+(Builtin.zeroCells z.cells (k+1)).toList.length)=((Builtin.zeroCells z.cells (k+1)).toList++xs.drop ((k+1)*sz))++spare:=by
   rw[PA,a,Oh zO];simp
  rw[e]at J;refine Holds.fS ?_ hn hm ?_ J
  · rw[c9,CC,D,a];omega
  · rw[<-V];simp only[c9,CC,D,a];omega
theorem ay.OV{s x:Operand}{t tx e:TypeId}{z:Value}{M m cap:Nat}{ao:Option Addr}{xs:List Value}{l:List UInt8}(st:cH P t e z 1 M)(hs:aD f s=some (.slice ao m cap))(hx:aD f x=some (Cn l))
  (u:eQ H (Own e 1 (.slice ao m cap) m xs) C)(hm:l.length<=m)(hd:Nat.blt d n=true)
  (h:N (C (Own e 1 (.slice ao m cap) m ((l.map λ(c:UInt8)=>Value.int .u8 (c.toNat:Int))++xs.drop l.length))) ((d,ii (l.length:Int))::f)):
  ay W P n {dst:=some d,op:= .call {callee:= .builtin .copy,args:=#[s,x],argTypes:=#[t,tx]},type:=ty_,pos,after,guard} Q H f N:=by
 refine ay.run (α:=Unit) (v:=λ_=>ii (l.length:Int)) (G:=λ_=>C (Own e 1 (.slice ao m cap) m ((l.map λ(c:UInt8)=>Value.int .u8 (c.toNat:Int))++xs.drop l.length))) hd (λtm w J hw=>?_) (λ_=>h);obtain⟨R,p,q⟩:=u.perm;obtain⟨i,hi,hz,ag,ad⟩:=info_parts st.info;obtain⟨K,hv⟩:=(hw.perm p).gy;rw[Nat.mul_one]at K;have y:(⟨l.toArray⟩:ByteArray).size=l.length:=by simp[ByteArray.size]
 have a:Nat.min (⟨l.toArray⟩:ByteArray).size m=(⟨l.toArray⟩:ByteArray).size:=Nat.min_eq_left (by rw[y];exact hm);have k:=Lib.run_firstCells_string (P:=P) w i.size ⟨l.toArray⟩;have O:Lib.strCells ⟨l.toArray⟩=l.map λ(c:UInt8)=>Value.int .u8 (c.toNat:Int):=by simp[Lib.strCells]
 rw[O]at k;have B:∀u∈(l.map λ(c:UInt8)=>Value.int .u8 (c.toNat:Int)),u.oneCell'=true:=by
  intro u hu;obtain⟨_,_,rfl⟩:=fG.1 hu;rfl
 rcases hv with⟨T,h0,I⟩|⟨b,cap',spare,T,hn,Y,hc,I⟩
 ·
  cases T;have V:l=[]:=List.eq_nil_of_length_eq_zero zO;subst V;refine⟨(),w,?_,Holds.perm (q _) (by simpa using hw.perm p)⟩;unfold execOp;simp only[resolve,invoke,builtin,Sem.run_bind,Sem.run_pure,Result.andThen_ok,List.map_toArray,BI,HG,J.eval hs,J.eval hx,Cn];have Z:(Builtin.copy_ #[t,tx] ty_ #[.slice none 0 0,.string ⟨#[]⟩]).run P w= .ok (ii 0) w:=by
   simp[Builtin.copy_,run_underlying st.tZ,Builtin.lenOf,sizeOf,typeInfo,hi,Builtin.firstCells,goInt,ByteArray.size]
  have aa:(Builtin.copy_ #[t,tx] ty_ #[.slice none 0 0,.string ⟨([]:List UInt8).toArray⟩]).run P w= .ok (ii 0) w:=Z;rw[aa];rfl
 ·
  cases T;rw[Nat.mul_one]at hc;have o:(l.map λ(c:UInt8)=>Value.int .u8 (c.toNat:Int)).length=l.length:=by simp
  have A:0+(l.map λ(c:UInt8)=>Value.int .u8 (c.toNat:Int)).length<=(xs++spare).length:=by rw[o,c9,K];omega
  have E:=run_storeCells_cells (P:=P) b 0 (l.map λ(c:UInt8)=>Value.int .u8 (c.toNat:Int)) 0 w (λj hj=>by
    have U:0+0+j<(xs++spare).length:=by omega
    rw[I.cell (.head _) (fL U)];rfl) (λj hj=>I.free (.head _)) B
  simp only[BH]at E;refine⟨(),w.setCells b 0 (l.map λ(c:UInt8)=>Value.int .u8 (c.toNat:Int)),?_,Holds.perm (q _) ?_⟩
  ·
   unfold execOp;simp only[resolve,invoke,builtin,Sem.run_bind,Sem.run_pure,Result.andThen_ok,List.map_toArray,BI,HG,J.eval hs,J.eval hx,Cn];have Z:(Builtin.copy_ #[t,tx] ty_ #[.slice (ik b) m cap,.string ⟨l.toArray⟩]).run P w= .ok (ii (l.length:Int)) (w.setCells b 0 (l.map λ(c:UInt8)=>Value.int .u8 (c.toNat:Int))):=by
    rw[y]at a k;have D:(⟨l.toArray⟩:ByteArray).size=l.length:=y;simp only[Builtin.copy_,List.getElem?_toArray,List.getElem?_cons_zero,List.getElem?_cons_succ,Sem.run_bind,run_underlying st.tZ,Result.andThen_ok,Builtin.lenOf,Sem.run_pure];simp[sizeOf,typeInfo,hi,a,k,E,goInt,D]
   rw[Z];rfl
  ·
   have h2:=I.setCells .head A;have e:(xs++spare).take 0++(l.map λ(c:UInt8)=>Value.int .u8 (c.toNat:Int))++(xs++spare).drop (0+(l.map λ(c:UInt8)=>Value.int .u8 (c.toNat:Int)).length)=((l.map λ(c:UInt8)=>Value.int .u8 (c.toNat:Int))++xs.drop l.length)++spare:=by
    rw[PA,o,Oh zO];simp
   rw[e]at h2;refine Holds.fS ?_ hn Y ?_ h2
   · rw[c9,o,CC,K];omega
   · rw[<-hc];simp only[c9,ew,CC,K];omega
theorem ay.Am{T:aI}{x:Operand}{t e:TypeId}{b m c':Nat}{xs:List Value}(z:T.ok P=true)(M:aD f x=some (.slice (ik b) m c'))(K:assoc T.H7 t=some e)(E:assoc T.ints e=some .u8)
  (u:eQ H (Row b e xs) C)(D:Nat.blt d n=true)(h:N (C (Fb b e xs)) ((d,.slice (ik b) m c')::f)):
  ay W P n {dst:=some d,op:= .convert t t x,type:=ty_,pos,after,guard} Q H f N:=by
 refine ay.run (α:=Unit) (v:=λ_=>.slice (ik b) m c') (G:=λ_=>C (Fb b e xs)) D (λO w j y=>⟨(),w.freeze ⟨b,xs.length,none⟩ 1,?_,?_⟩) (λ_=>h)
 all_goals
  obtain⟨R,p,q⟩:=u.perm;have a:=((y.perm p).at (.head _)).2;have I:=(y.perm p).lt (.head _)
 ·
  have s:w.shape? b=some (e,xs.length):=by unfold World.shape?;rw[a];simp
  have J:(convert t t (.slice (ik b) m c')).run P w= .ok (.slice (ik b) m c') (w.freeze ⟨b,xs.length,none⟩ 1):=by
   simp[convert,run_underlying (T.jh z K),run_underlying (T.wW z E),markStringish,s]
  unfold execOp;simp only[j.eval M,Sem.run_bind,J,Result.andThen_ok,Sem.run_pure]
 ·
  have l:w.freeze ⟨b,xs.length,none⟩ 1={w with heap:=w.heap.modify b λ| .cells c elem (B,A)=>.cells c elem (if B==A then(xs.length,xs.length+1)else(min B xs.length,max A (xs.length+1)))|o=>o}:=by
   unfold World.freeze;rw[aE (by decide)];rfl
  rw[l];refine Holds.perm (q _) (Holds.cons (P:=At b (.cells xs.toArray e (xs.length,xs.length+1))) (λk j=>⟨[],by simpa using j⟩) ?_);refine Holds.put (C:=λX=>X::R) (y.perm p) .head rfl rfl rfl (by simp) (λk j=>?_) ?_
  ·
   show(w.heap.modify b _)[k]?=_;rw[Array.getElem?_modify];rw[aE (Ne.symm j)]
  ·
   show(w.heap.modify b _)[b]?=_;rw[Array.getElem?_modify,lam rfl,a];rfl
end
end Go.Sl
namespace Go.Sl
open Go Go.RowKit
section
variable{P:Program}{ops:Array Oper}{Q:Exit->Act->World->Prop}{S:World->Prop}
def pI(P:Program)(ops:Array Oper)(Q:Exit->Act->World->Prop)(S:World->Prop)(mv:List Nat)(tl x:Nat):List Nat->Act->World->Prop
  |[],_,_=>False
  |i::r,a,w=>
    (i=x/\wpOp P ops (eF Q) x (λh b=>S b/\fo P ops Q S mv tl r h b) a w)\/
    (i≠x/\mv.contains i=true/\wpOp P ops (eF Q) i (λh b=>S b/\pI P ops Q S mv tl x r h b) a w/\wpOp P ops (eF Q) x (λh b=>S b/\fo P ops Q S mv tl (i::r.erase x) h b) a w)\/
    (mv.contains i=false/\∃o v,ops[i]?=some o/\YieldsIf P ops S o v a/\pI P ops Q S mv tl x r (a.put o.dst v) w)
def SG(ops:Array Oper)(h:Array Bool)(i x:Nat):Bool:=
  match Region.ready .any ops h with
  |[a,b]=>(Nat.beq a i&&Nat.beq b x)||(Nat.beq a x&&Nat.beq b i)
  |_=>false
theorem Kv{k:Array Bool}{i x:Nat}(h:SG ops k i x=true):Region.ready .any ops k≠[]/\∀j∈Region.ready .any ops k,j=i\/j=x:=by
 unfold SG at h;split at h
 ·
  rename_i a b e;rw[e];simp only[Bool.or_eq_true,mV]at h;refine⟨by simp,λj l=>?_⟩;simp only[List.mem_cons,TW,or_false]at l;rcases h with⟨m,o⟩|⟨m,o⟩
  · rw[Nat.eq_of_beq_eq_true m,Nat.eq_of_beq_eq_true o]at l;exact l
  · rw[Nat.eq_of_beq_eq_true m,Nat.eq_of_beq_eq_true o]at l;exact l.symm
 · cases h
def wQ(ops:Array Oper)(mv:List Nat)(tl x:Nat):List Nat->Array Bool->Bool
  |[],_=>false
  |i::r,a=>
    bif Nat.beq i x then JN ops a x&&rV ops mv tl r (a.setIfInBounds x true)
    else bif mv.contains i then Nat.blt i tl&&SG ops a i x&&wQ ops mv tl x r (a.setIfInBounds i true)&&rV ops mv tl (i::r.erase x) (a.setIfInBounds x true)
    else Nat.blt i tl&&Region.free .any ops a i&&(Region.ready .any ops a).contains i&&wQ ops mv tl x r (a.setIfInBounds i true)
theorem s8{mv:List Nat}{tl x:Nat}:∀(r:List Nat)(a:Array Bool),wQ ops mv tl x r a=true->x∈r
  |[],_,h=>by cases h
  |i::r,a,h=>by
    unfold wQ at h;cases b:Nat.beq i x with
    |true=>have:i=x:=by simpa using b
           subst this;exact .head _
    |false=>
      rw[b]at h;cases j:mv.contains i with
      |true=>
        rw[j]at h;simp only[cond_true,cond_false,mV]at h;exact .tail _ (s8 r _ h.1.2)
      |false=>
        rw[j]at h;simp only[cond_false,mV]at h;exact .tail _ (s8 r _ h.2)
theorem Cf{mv:List Nat}{tl x:Nat}(G:nj .any ops tl)(E:Region.noSelect ops=true)(p:x<tl)(z:mv.contains x=true):∀(r:List Nat)(b:Array Bool)(a:Act)(w:World),HeadInv .any ops tl b->wQ ops mv tl x r b=true->S w->
    pI P ops Q S mv tl x r a w->pH P .any ops (eF Q) S tl r.length b a w
  |[],_,_,_,_,h,_,_=>by cases h
  |i::r,b,a,w,inv,h,V,y=>by
    have D:=s8 (i::r) b h;unfold wQ at h;cases K:Nat.beq i x with
    |true=>
      have e:i=x:=by simpa using K
      subst e;rw[K]at h;simp only[cond_true,mV]at h;have u:=pX h.1;have O:wpOp P ops (eF Q) i (λt s=>S s/\fo P ops Q S mv tl r t s) a w:=by
        rcases y with⟨_,y⟩|⟨l,_⟩|⟨q,_⟩
        · exact y
        · exact lcs rfl l
        · rw[z]at q;cases q
      refine⟨λJ=>(by rw[u]at J;cases J),λj A=>?_⟩;have B:=A;rw[u,ju]at B;subst B;exact wpOp_mono (λt s k=>⟨λ_=>k.1,iy G E r _ t s (inv.set A p) h.2 k.1 k.2⟩) O
    |false=>
      have l:i≠x:=by intro e;subst e;simp at K
      have I:x∈r:=by rcases List.mem_cons.1 D with e|e;exact lcs e.symm l;exact e
      rw[K]at h;cases M:mv.contains i with
      |true=>
        rw[M]at h;simp only[cond_true,cond_false,mV]at h;have m:i<tl:=by have:=h.1.1.1;simpa[Nat.blt_eq]using this
        obtain⟨hn,u⟩:=Kv h.1.1.2;rcases y with⟨e,_⟩|⟨_,_,T,U⟩|⟨q,_⟩
        · exact lcs e l
        · refine⟨λJ=>lcs J hn,λj A=>?_⟩
          rcases u j A with e|e
          · subst e
            exact wpOp_mono (λt s k=>⟨λ_=>k.1,Cf G E p z r _ t s (inv.set A m) h.1.2 k.1 k.2⟩) T
          · subst e
            have hl:r.length=(i::r.erase j).length:=by
              rw[tc,List.length_erase_of_mem I];have:=List.length_pos_of_mem I;omega
            refine wpOp_mono (λt s k=>⟨λ_=>k.1,?_⟩) U
            rw[hl]
            exact iy G E (i::r.erase j) _ t s (inv.set A p) h.2 k.1 k.2
        · rw[M]at q;cases q
      |false=>
        rw[M]at h;simp only[cond_false,mV]at h;have m:i<tl:=by have:=h.1.1.1;simpa[Nat.blt_eq]using this
        have u:i∈Region.ready .any ops b:=by simpa using h.1.2
        rcases y with⟨e,_⟩|⟨_,q,_⟩|⟨_,o,v,Y,hy,y⟩
        · exact lcs e l
        · rw[M]at q;cases q
        · exact nU G Y (Region.noSelect_spec E) (λc a w Z=>by cases Z.1) m r.length b a w inv (Region.free_spec Y h.1.1.2) u hy V (Cf G E p z r _ _ w (inv.set u m) h.2 V y)
def FD(ops:Array Oper)(mv:List Nat)(tl x:Nat)(ord:List Nat):Bool:=
  Nat.beq ord.length ops.size&&Region.noSelect ops&&(Nat.ble ops.size tl||(Region.sinkB .any ops tl&&Region.chainB .any ops tl&&Nat.blt tl ops.size))&&Nat.blt x tl&&mv.contains x&&wQ ops mv tl x ord (Array.replicate ops.size false)
theorem ue{id:Nat}{mv:List Nat}{tl x:Nat}{ord:List Nat}{a:Act}{w:World}(u:P.follows .mixedOrders=true)(m:FD ops mv tl x ord=true)(q:S w.drew)
  (h:pI P ops Q S mv tl x ord a w.drew):(Code.region id ops true).wp P Q a w:=by
 simp only[FD,mV,Bool.or_eq_true]at m;obtain⟨⟨⟨⟨⟨t,y⟩,z⟩,A⟩,l⟩,s⟩:=m;have j:ord.length=ops.size:=by simpa using t
 have k:nj .any ops tl:=by
  rcases z with h|⟨⟨b,o⟩,p⟩
  · exact .inl (Nat.le_of_ble_eq_true h)
  · exact .inr ⟨b,o,by simpa[Nat.blt_eq]using p⟩
 have b:=Cf (P:=P) (Q:=Q) (S:=S) k y (by simpa[Nat.blt_eq]using A) l ord _ a w.drew (HeadInv.start tl) s q h;rw[j]at b;refine Code.wp_mono ?_ (wp_region_any (Q:=eF Q) u (lL _ _ _ _ b));rintro e a w ⟨rfl,v⟩;exact v
end
section
variable{W:World}{P:Program}{n:Nat}{c:Code}{Q:Exit->Act->World->Prop}{H H' L R:List ab}{f F:Fr}{mv ord r:List Nat}{tl i x:Nat}
variable{dst:Option Tmp}{d e:Nat}{ty_:TypeId}{pos:String}{after:Array Edge}{guard:Option (Nat×Bool)}{X:Nat->ab}{vx:Nat->Value}
theorem bS.swap{a b n:Nat}{u v:Value}{f:Fr}{t:Array Value}(h:bS n ((a,u)::(b,v)::f) t)(m:Nat.beq a b=false):bS n ((b,v)::(a,u)::f) t:=by
  refine⟨h.size,λk z j=>h.get k z ?_⟩;unfold look at j⊢;cases l:Nat.beq b k with
  |true=>
    have:b=k:=by simpa using l
    subst this;rw[l]at j;rw[m];simp only[cond_false,cond_true]at j⊢;unfold look;rw[l];exact j
  |false=>
    rw[l]at j;simp only[cond_false]at j;unfold look at j;cases o:Nat.beq a k with
    |true=>rw[o]at j;exact j
    |false=>
      rw[o]at j;simp only[cond_false]at j⊢;unfold look;rw[l];exact j
theorem bS.under{d n:Nat}{u:Value}{f:Fr}{t:Array Value}(h:bS n ((d,u)::f) t)(j:look f d=none):bS n f t:=by
  refine⟨h.size,λk z a=>h.get k z ?_⟩;unfold look;cases b:Nat.beq d k with
  |true=>have:d=k:=by simpa using b
         subst this;rw[j]at a;cases a
  |false=>exact a
structure dG(W:World)(P:Program)(n:Nat)(o:Oper)(d:Nat)(X:Nat->ab)(vx:Nat->Value):Prop where
  run:∀(Q:Exit->Act->World->Prop)(H:List ab)(f:Fr)(N:List ab->Fr->Prop),(∀b,N (X b::H) ((d,vx b)::f))->ay W P n o Q H f N
  guard:o.guard=none
def VX(W:World)(P:Program)(n:Nat)(c:Code)(R:List ab)(mv:List Nat)(tl x d:Nat)(X:Nat->ab)(vx:Nat->Value)(r:List Nat)(Q:Exit->Act->World->Prop)(H:List ab)(f:Fr):Prop:=
  (∀t w,bS n f t->Holds W H w->pI P (aG c).toArray Q (Holds W R) mv tl x r ⟨t,[]⟩ w)/\
  (∀b t w,bS n ((d,vx b)::f) t->Holds W (X b::H) w->fo P (aG c).toArray Q (Holds W R) mv tl (r.erase x) ⟨t,[]⟩ w)
theorem VC.qO(mv:List Nat)(tl x:Nat)(ord:List Nat)(R:List ab)(d:Nat)(X:Nat->ab)(vx:Nat->Value)(j:dg c=some true)(o:P.follows .mixedOrders=true)(b:FD (aG c).toArray mv tl x ord=true)(l:ae W H R)
  (h:VX W P n c R mv tl x d X vx ord Q H f):VC W P n c Q H f:=by
 unfold VC;cases c<;>simp[dg]at j;subst j;intro t w m k;have a:=h.1 t w.drew m k.drew;simp only[aG,Array.toArray_toList]at a b;exact ue o b (l _ k.drew) a
theorem VX.take{op:Op}{v:Value}(E:(aG c)[i]?=some {dst:=some e,op,type:=ty_,pos,after,guard})(s:Nat.beq i x=false)(k:BK mv tl i=false)(D:gA (aG c) guard f=some true)
  (z:af W P n R f {dst:=some e,op,type:=ty_,pos,after,guard} v)(B:Nat.blt e n=true)(p:look f d=none)(m:Nat.beq e d=false)(h:VX W P n c R mv tl x d X vx r Q H ((e,v)::f)):VX W P n c R mv tl x d X vx (i::r) Q H f:=by
 unfold af at z;have y:i≠x:=by intro q;subst q;simp at s
 have u:mv.contains i=false:=by unfold BK at k;cases G:mv.contains i with|true=>rw[G]at k;cases k|false=>rfl
 refine⟨λt w a A=>.inr (.inr ⟨u,_,v,by simpa using E,.inl ⟨a.wanted (o:={dst:=some e,op,type:=ty_,pos,after,guard}) D,λw l=>z t w a l⟩,h.1 _ w (a.put B) A⟩),λb t w a A=>?_⟩;have j:=a.under p;rw[List.erase_cons_tail (by simpa using y)];exact .inr ⟨k,_,v,by simpa using E,.inl ⟨j.wanted (o:={dst:=some e,op,type:=ty_,pos,after,guard}) D,λw l=>z t w j l⟩,h.2 b _ w ((a.put B).swap m) A⟩
theorem VX.call{ox:Oper}{y:Operand}{xs:Array Operand}{ats:Array TypeId}{g:FuncId}{cap:Array Value}{vs:List Value}{A:Value}
  (ho:(aG c)[i]?=some {dst:=some e,op:= .call {callee:= .value y,args:=xs,argTypes:=ats},type:=ty_,pos,after,guard})(K:Nat.beq i x=false)(Z:mv.contains i=true)(Y:gA (aG c) guard f=some true)
  (O:aD f y=some (.func (.func g) #[] cap))(D:jo f xs.toList=some vs)(E:∀a w,(callFunc g a).run P w= .ok (.enter g a) w)(spec:∀L,ae W L H->az W P g (vs++cap.toList) L A L)
  (M:(aG c)[x]?=some ox)(T:dG W P n ox d X vx)(B:ae W H R)(G:Nat.blt e n=true)(J:look f d=none)(I:Nat.beq e d=false)(h:VX W P n c R mv tl x d X vx r Q H ((e,A)::f)):VX W P n c R mv tl x d X vx (i::r) Q H f:=by
 have u:i≠x:=by intro q;subst q;simp at K
 have second:∀b t w,bS n ((d,vx b)::f) t->Holds W (X b::H) w->fo P (aG c).toArray Q (Holds W R) mv tl (i::r.erase x) ⟨t,[]⟩ w:=by
  intro b t w l s;have j:=l.under J;refine .inl ⟨by unfold BK;rw[Z];rfl,?_⟩;unfold wpOp;simp only[List.getElem?_toArray,ho];rw[lam (j.wanted (o:={dst:=some e,op:= .call {callee:= .value y,args:=xs,argTypes:=ats},type:=ty_,pos,after,guard}) Y)];have U:ae W (X b::H) H:=ae.drop ae.refl;have:=ay.call (W:=W) (n:=n) (d:=e) (ty_:=ty_) (pos:=pos) (after:=after) (guard:=guard) (ats:=ats) (Q:=eF Q) (f:=f) (H:=X b::H) (N:=λH' m=>H'=X b::H/\m=(e,A)::f) O D E (spec _ U) ae.refl G (λ_ _=>⟨rfl,rfl⟩);have z:=spec _ U;refine .inl ?_;have p:xs.map (Act.eval ⟨t,[]⟩)=vs.toArray:=by
   have:=j.args D;apply Array.ext';simpa using this
  unfold az aq at z;have z:=z w s;unfold Oper.wp execOp;simp only[resolve,j.eval O,p,Deferred.ofValue,invoke,Sem.run_bind,Sem.run_pure,Result.andThen_ok,E,Oper.upon];have e9:#[]++vs.toArray++cap=(vs++cap.toList).toArray:=by simp
  rw[e9];refine Calls.mono z ?_;rintro e8 v ⟨_,_,rfl,V⟩;exact⟨λ_=>B _ V.tail,h.2 b _ v ((l.put G).swap I) V⟩
 refine⟨λt w l s=>.inr (.inl ⟨u,Z,?_,?_⟩),λb t w l s=>by rw[List.erase_cons_tail (by simpa using u)];exact second b t w l s⟩
 ·
  unfold wpOp;simp only[List.getElem?_toArray,ho];rw[lam (l.wanted (o:={dst:=some e,op:= .call {callee:= .value y,args:=xs,argTypes:=ats},type:=ty_,pos,after,guard}) Y)];have:=ay.call (W:=W) (n:=n) (d:=e) (ty_:=ty_) (pos:=pos) (after:=after) (guard:=guard) (ats:=ats) (Q:=eF Q) (f:=f) (H:=H) (N:=λH' m=>H'=H/\m=(e,A)::f) O D E (spec _ ae.refl) ae.refl G (λ_ _=>⟨rfl,rfl⟩);unfold ay at this;refine .inl (this t w l s _ ?_);rintro H' m ⟨rfl,rfl⟩ t' v j k;exact⟨B _ k,h.1 t' v j k⟩
 ·
  unfold wpOp;simp only[List.getElem?_toArray,M];rw[lam (by unfold Region.wanted;rw[T.guard])];have:=T.run (eF Q) H f (λH' m=>∃b,H'=X b::H/\m=(d,vx b)::f) (λb=>⟨b,rfl,rfl⟩);unfold ay at this;refine .inl (this t w l s _ ?_);rintro H' m ⟨b,rfl,rfl⟩ t' v j k;exact⟨B _ k.tail,second b t' v j k⟩
theorem VX.float{s:Oper}(j:Nat.beq i x=true)(m:(aG c)[x]?=some s)(q:dG W P n s d X vx)(u:ae W H R)(h:∀b,VD W P n c R mv tl r Q (X b::H) ((d,vx b)::f)):VX W P n c R mv tl x d X vx (i::r) Q H f:=by
 have e:i=x:=by simpa using j
 subst e;unfold VD at h;refine⟨λt w k o=>.inl ⟨rfl,?_⟩,λb t w k o=>by rw[List.erase_cons_head];exact h b t w k o⟩;unfold wpOp;simp only[List.getElem?_toArray,m];rw[lam (by unfold Region.wanted;rw[q.guard])];have:=q.run (eF Q) H f (λH' p=>∃b,H'=X b::H/\p=(d,vx b)::f) (λb=>⟨b,rfl,rfl⟩);unfold ay at this;refine .inl (this t w k o _ ?_);rintro H' p ⟨b,rfl,rfl⟩ t' v l a;exact⟨u _ a.tail,h b t' v l a⟩
theorem VX.re{v:Value}(k:Nat)(v':Value)(m:look f k=some v)(q:v=v')(a:Nat.beq k d=false)(p:look f d=none)(h:VX W P n c R mv tl x d X vx r Q H ((k,v')::f)):VX W P n c R mv tl x d X vx r Q H f:=
 ⟨λt w j l=>h.1 t w (j.again (q▸m)) l,λb t w j l=>h.2 b t w ((j.again (d:=k) (v:=v') (by unfold look;cases o:Nat.beq d k with|true=>(have:d=k:=by simpa using o);subst this;simp at a|false=>exact q▸m)).swap a) l⟩
theorem dG.alloc{t:TypeId}{j:List Value}{a:List (Nat×Nat)}(sb:bM P t j a)(k:Nat.blt d n=true):dG W P n {dst:=some d,op:= .alloc t,type:=ty_,pos,after,guard:=none} d (λb=>Row b t j) (λb=>ip b):=
 ⟨λQ H f N h=>ay.aB sb k h,rfl⟩
end
attribute [irreducible] VX
end Go.Sl
