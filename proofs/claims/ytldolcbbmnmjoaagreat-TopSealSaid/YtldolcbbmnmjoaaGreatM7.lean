import Derived.Test.YtldolcbbmnmjoaaGreatM6
import Derived.RangeFuncNested
import Derived.RangeFuncCalls
import Derived.OrdersIn
set_option maxRecDepth 8000
set_option maxHeartbeats 16000000
set_option linter.unusedVariables false
set_option linter.unusedSimpArgs false
set_option linter.unusedSectionVars false
set_option linter.defProp false
namespace Go.Sl
open Go Go.RowKit
structure Md where
  r:Option Nat
  df:List Deferred
def CB:Option Nat->Fence
  |none=>Fence.wide
  |some l=>Fence.wide.inRound l
theorem wE(r:Option Nat)(f:FuncId):(CB r).fn f:=by cases r<;>trivial
theorem I8(r:Option Nat):(CB r).round=r:=by cases r<;>rfl
theorem sW(r:Option Nat):(CB r).depth=none:=by cases r<;>rfl
theorem I7{r:Option Nat}{n:Nat}{P:Program}{f:FuncId}{args:Array Value}{w:World}{R:Ending->World->Prop}(h:Calls P f args w R):CallsIn (CB r) n P f args w R:=by
 cases r with
 |none=>exact callsIn_wide.2 h
 |some l=>exact CallsIn.inRound l (callsIn_wide.2 h)
theorem FH(r:Option Nat)(P:Program):Machine.fenced P (CB r)=Machine.fenced P Fence.wide:=by cases r<;>rfl
theorem L7{r:Option Nat}{n:Nat}{P:Program}{row:String}{args:Array Value}{w:World}{R:Value->World->Prop}(h:Rows P row args w R):RowsIn (CB r) n P row args w R:=by
 intro c cs _;obtain⟨v,d,a,b⟩:=h c cs;exact⟨v,d,a,by rw[FH];exact stepsIn_wide.2 b⟩
def gj(a:Act)(df:List Deferred):Act:={a with defers:=a.defers++df}
theorem xI(a:Act)(df:List Deferred):(gj a df).eval=a.eval:=by
 funext x;cases x<;>rfl
theorem jK(a:Act)(df:List Deferred)(d:Option Tmp)(v:Value):(gj a df).put d v=gj (a.put d v) df:=by
 cases d<;>rfl
def jb(ops:List Oper):Bool:=ops.all λo=>match o.op with
  | .defer _=>false
  |_=>true
theorem r9{o:Oper}{l:List Oper}(h:jb (o::l)=true):(∀c,o.op≠.defer c)/\jb l=true:=by
 unfold jb at h;simp only[List.all_cons,mV]at h;exact⟨λc e=>by rw[e]at h;exact lcs h.1 (by simp),h.2⟩
section
variable{P:Program}{ops:Array Oper}{Q Q':Exit->Act->World->Prop}{r:Option Nat}{df:List Deferred}
theorem RT{o:Oper}{a:Act}{w:World}{K p:Act->World->Prop}(k:∀c,o.op≠.defer c)(g:∀a w,K a w->p (gj a df) w)(j:∀e a w,Q e a w->Q' e (gj a df) w)(h:o.wp P a w K Q):
    o.wpIn (CB r) 0 P (gj a df) w p Q':=by
  unfold Oper.wpIn;refine⟨λ_ _=>wE r _,?_⟩;rw[Oper.semAt_eq _ _ _ k,xI];unfold Oper.wp at h;generalize(execOp a.eval o).run P w=res at*;have s:LetsOut Q->LetsOut Q':=λ⟨a,w,q⟩=>⟨_,w,j _ _ _ q⟩;cases res with
  |ok x t=>
    cases x with
    |value v=>simp only[Oper.upon,Oper.uponIn]at h⊢;rw[jK];exact g _ _ h
    |skip=>simp only[Oper.upon,Oper.uponIn]at h⊢;rw[jK];exact g _ _ h
    |defer d=>
      simp only[Oper.upon,Oper.uponIn]at h⊢;have e:({(gj a df)with defers:=d::(gj a df).defers}:Act)=gj {a with defers:=d::a.defers} df:=rfl;rw[e,jK];exact g _ _ h
    |enter f args=>
      simp only[Oper.upon,Oper.uponIn]at h⊢;refine⟨(λi=>by rw[sW]at i;cases i),I7 (Calls.mono h λe l b=>?_)⟩;cases e with
      |returned v=>simp only at b⊢;rw[jK];exact g _ _ b
      |panicked chain=>exact j _ _ _ b
      |outgrown=>exact s b
    |row row args=>
      simp only[Oper.upon,Oper.uponIn]at h⊢;refine⟨(λi=>by rw[sW]at i;cases i),L7 (Rows.mono h λv l b=>?_)⟩;rw[jK];exact g _ _ b
    |_=>simp only[Oper.upon]at h
  |halt x t=>
    cases x with
    |panic v=>simp only[Oper.upon,Oper.uponIn]at h⊢;exact j _ _ _ h
    |_=>simp only[Oper.upon]at h
theorem F2(b:¬LetsOut Q)(d:∀e a w,Q e a w->Q' e (gj a df) w):∀(l:List Oper),jb l=true->∀(a:Act)(w:World),wpList P ops Q l a w->wpListIn (CB r) 0 P ops Q' l (gj a df) w
  |[],_,a,w,h=>d _ _ _ h
  |o::rest,k,a,w,h=>by
    obtain⟨j,i⟩:=r9 k;have p:(gj a df).tmps=a.tmps:=rfl;unfold wpList at h;unfold wpListIn;rw[p];split
    · rename_i g
      rw[lam g]at h
      rcases h with h|h
      · exact RT j (F2 b d rest i) d h
      · exact lcs h.2 b
    · rename_i g
      rw[aE g]at h
      rw[jK]
      exact⟨λ_ _=>wE r _,F2 b d rest i _ _ h⟩
theorem Tv{i:Nat}{a:Act}{w:World}{K l:Act->World->Prop}(g:¬LetsOut Q)(d:jb ops.toList=true)(q:∀e a w,Q e a w->Q' e (gj a df) w)(b:∀a w,K a w->l (gj a df) w)(h:wpOp P ops Q i K a w):
    wpOpIn (CB r) 0 P ops Q' i l (gj a df) w:=by
  have t:(gj a df).tmps=a.tmps:=rfl;unfold wpOp at h;unfold wpOpIn;rw[t];cases j:ops[i]? with
  |none=>simp only[j]at h;exact b _ _ h
  |some o=>
    simp only[j]at h;simp only;split
    · rename_i k
      rw[lam k]at h
      rcases h with h|h
      · refine RT (λc e=>?_) b q h
        have s:o∈ops.toList:=by obtain⟨u,p⟩:=Array.getElem?_eq_some_iff.1 j;rw[<-p];simp
        have:=List.all_eq_true.1 d o s
        rw[e]at this;exact lcs this (by simp)
      · exact lcs h.2 g
    · rename_i k
      rw[aE k]at h
      rw[jK]
      exact⟨λ_ _=>wE r _,b _ _ h⟩
theorem Lg{md:Region.Mode}(g:¬LetsOut Q)(d:jb ops.toList=true)(j:∀e a w,Q e a w->Q' e (gj a df) w):∀(fuel:Nat)(b:Array Bool)(a:Act)(w:World),wpAny P md ops Q fuel b a w->
  wpAnyIn (CB r) 0 P md ops Q' fuel b (gj a df) w
 |0,_,_,_,h=>⟨h.1,j _ _ _ h.2⟩
 |fuel+1,b,a,w,h=>⟨λk=>j _ _ _ (h.1 k),λi l=>Tv g d j (λa w q=>Lg g d j fuel _ a w q) (h.2 i l)⟩
end
section
variable{W:World}{P:Program}{n:Nat}{m:Md}{c:Code}{Q:Exit->Act->World->Prop}{H H' L R:List ab}{f F:Fr}
def VR(W:World)(P:Program)(n:Nat)(m:Md)(c:Code)(Q:Exit->Act->World->Prop)(H:List ab)(f:Fr):Prop:=
  (∀a w,¬Q .outgrown a w)->∀t w,bS n f t->Holds W H w->c.wpIn (CB m.r) 0 P Q ⟨t,m.df⟩ w
def VF(W:World)(n:Nat)(m:Md)(Q:Exit->Act->World->Prop)(e:Exit)(H:List ab)(f:Fr):Prop:=
  (∀a w,¬Q .outgrown a w)->∀t w,bS n f t->Holds W H w->Q e ⟨t,m.df⟩ w
def yl(r:Option Nat)(P:Program)(c:Code)(Q:Exit->Act->World->Prop):Exit->Act->World->Prop:=Exit.then (c.wpIn (CB r) 0 P Q) Q
def sP(i:Nat)(Q:Exit->Act->World->Prop):Exit->Act->World->Prop:=Exit.inBlock i Q
def EE(df:List Deferred)(Q:Exit->Act->World->Prop):Exit->Act->World->Prop:=λe a w=>(∀a w,¬Q .outgrown a w)->Q e (gj a df) w
theorem VR.seq(b:Ad c=true)(h:VR W P n m (Cd.l c) (yl m.r P (Cd.r c) Q) H f):VR W P n m c Q H f:=by
 cases c<;>simp[Ad]at b;exact λa t w d e=>wpIn_seq (h a t w d e)
theorem VR.skip(b:BD c=true)(h:VF W n m Q .normal H f):VR W P n m c Q H f:=by
 cases c<;>simp[BD]at b;exact λa t w d e=>wpIn_skip (h a t w d e)
theorem VR.ret(b:Hy c=true)(h:VF W n m Q .ret H f):VR W P n m c Q H f:=by
 cases c<;>simp[Hy]at b;exact λa t w d e=>wpIn_ret (h a t w d e)
theorem VR.exit{i:Nat}(b:Bo c=some i)(h:VF W n m Q (.exit i) H f):VR W P n m c Q H f:=by
 cases c<;>simp[Bo]at b;subst b;exact λa t w d e=>wpIn_exit (h a t w d e)
theorem VR.block{i:Nat}(b:va c=some i)(h:VR W P n m (Cd.l c) (sP i Q) H f):VR W P n m c Q H f:=by
 cases c<;>simp[va]at b;subst b;exact λa t w d e=>wpIn_block (h a t w d e)
theorem Ht{df:List Deferred}{t:Array Value}(h:bS n f t){x:Operand}{v:Value}(a:aD f x=some v):Act.eval ⟨t,df⟩ x=v:=by
 have:=h.eval a;rw[<-this];cases x<;>rfl
theorem VR.zC(d:gX c=true)(e:aD f (mj c)=some (.bool true))(h:VR W P n m (Cd.l c) Q H f):VR W P n m c Q H f:=by
 cases c<;>simp[gX]at d;exact λa t w b g=>wpIn_cond_true (Ht b e) (h a t w b g)
theorem VR.zA(d:gX c=true)(e:aD f (mj c)=some (.bool false))(h:VR W P n m (Cd.r c) Q H f):VR W P n m c Q H f:=by
 cases c<;>simp[gX]at d;exact λa t w b g=>wpIn_cond_false (Ht b e) (h a t w b g)
theorem VR.cond{b:Bool}(h:gX c=true)(k:aD f (mj c)=some (.bool b))(j:b=true->VR W P n m (Cd.l c) Q H f)(i:b=false->VR W P n m (Cd.r c) Q H f):VR W P n m c Q H f:=by
 cases c<;>simp[gX]at h;exact λa t w d g=>wpIn_cond_split (Ht d k) (λe=>j e a t w d g) (λe=>i e a t w d g)
theorem VR.aK{b:Bool}(d:gX c=true)(e:aD f (mj c)=some (.bool b))(a:b=false)(h:VR W P n m (Cd.r c) Q H f):VR W P n m c Q H f:=VR.zA d (a▸e) h
theorem VR.SI(b:yF F f)(d:ae W H H')(h:VR W P n m c Q H' F):VR W P n m c Q H f:=λa t w e g=>h a t w (e.sub b) (d w g)
theorem VR.aR(b:ae W H H')(h:VR W P n m c Q H' f):VR W P n m c Q H f:=λa t w d e=>h a t w d (b w e)
theorem VF.aR{e:Exit}(b:ae W H H')(h:VF W n m Q e H' f):VF W n m Q e H f:=λa t w d g=>h a t w d (b w g)
theorem VR.obtain{α:Sort _}{G:α->List ab}(b:∀w,Holds W H w->∃x,Holds W (G x) w)(h:∀x,VR W P n m c Q (G x) f):VR W P n m c Q H f:=
 λa t w d e=>let⟨x,g⟩:=b w e;h x a t w d g
theorem VR.re{v:Value}(d:Nat)(v':Value)(g:look f d=some v)(e:v=v')(h:VR W P n m c Q H ((d,v')::f)):VR W P n m c Q H f:=λa t w b i=>h a t w (b.again (e▸g)) i
theorem Su{df:List Deferred}(b:∀a w,¬Q .outgrown a w):¬LetsOut (EE df Q):=λ⟨_,_,h⟩=>b _ _ (h b)
theorem VR.region(g:dg c=some false)(h:VO W P n c 0 (EE m.df Q) H f)(d:jb (aG c)=true:=by rfl):VR W P n m c Q H f:=by
 unfold VO at h;cases c<;>simp[dg]at g;subst g;intro b t w i j;have:=h t w i j;simp only[aG,KP,Array.toArray_toList]at this;exact wpIn_region_list (F2 (Su b) (λe a w q=>q b) _ d ⟨t,[]⟩ w this)
theorem VR.drawn(mv:List Nat)(g:Nat)(ord:List Nat)(R:List ab)(p:dg c=some true)(B:P.follows .mixedOrders=true)(i:zJ (aG c).toArray mv g ord=true)(x:ae W H R)
  (h:VD W P n c R mv g ord (EE m.df Q) H f)(b:jb (aG c)=true:=by rfl):VR W P n m c Q H f:=by
 unfold VD at h;cases c<;>simp[dg]at p;rename_i id ops E;subst p;intro k t w z s;have o:=h t w.drew z s.drew;simp only[aG,Array.toArray_toList]at o i b;simp only[zJ,mV,Bool.or_eq_true]at i;obtain⟨⟨⟨A,C⟩,D⟩,y⟩:=i;have j:ord.length=ops.size:=by simpa using A
 have l:nj .any ops g:=by
  rcases D with h|⟨⟨d,u⟩,v⟩
  · exact .inl (Nat.le_of_ble_eq_true h)
  · exact .inr ⟨d,u,by simpa[Nat.blt_eq]using v⟩
 have d:=iy (P:=P) (Q:=EE m.df Q) (S:=Holds W R) l C ord _ _ w.drew (HeadInv.start g) y (x _ s.drew) o;rw[j]at d;refine wpIn_region_any B ?_;exact Lg (Q:=eF (EE m.df Q)) (Q':=Q) (λ⟨_,_,q⟩=>by cases q.1) b (λe a w q=>by obtain⟨rfl,q⟩:=q;exact q k) _ _ ⟨t,[]⟩ _ (lL _ _ _ _ d)
theorem VR.quiet(o:dg c=some true)(x:P.follows .mixedOrders=true)(d:Region.lexB .any (aG c).toArray=true)(h:VQ W P n c 0 (EE m.df Q) H f)(b:jb (aG c)=true:=by rfl):VR W P n m c Q H f:=by
 unfold VQ at h;cases c<;>simp[dg]at o;rename_i id ops z;subst o;intro i t w v y;have k:=h t v;simp only[aG,KP,Array.toArray_toList]at k d b;simp only[Region.lexB,mV]at d;have s:=wpAnyQ_lex (C:=Holds W H) (md:= .any) d.1 ops.toList 0 (Array.replicate ops.size false) ⟨t,[]⟩ (by simp) (by simpa using d.2) k;have u:=wpAny_of_quiet (C:=Holds W H) (Q:=λp=>∀g,Holds W H g->EE m.df Q .normal p g) (Q':=eF (EE m.df Q)) (λ_ g j h=>⟨rfl,h g j⟩) _ _ _ w.drew y.drew s;refine wpIn_region_any x ?_;have l:=Lg (r:=m.r) (df:=m.df) (Q:=eF (EE m.df Q)) (Q':=Q) (λ⟨_,_,q⟩=>by cases q.1) b (λe a w q=>by obtain⟨rfl,q⟩:=q;exact q i) _ _ _ _ u;have e:gj ⟨t,[]⟩ m.df=⟨t,m.df⟩:=rfl;rw[e]at l;simpa using l
theorem VE.sh{e:Exit}(h:VF W n m Q e H f):VE W n (EE m.df Q) e H f:=by
 unfold VE;exact λt w b d a=>h a t w b d
theorem VF.next(h:VR W P n m c Q H f):VF W n m (yl m.r P c Q) .normal H f:=λa t w b d=>h a t w b d
theorem VF.pY{r:Option Nat}(h:VF W n m Q .ret H f):VF W n m (yl r P c Q) .ret H f:=λa t w b d=>h a t w b d
theorem VF.mI{r:Option Nat}{i:Nat}(h:VF W n m Q (.exit i) H f):VF W n m (yl r P c Q) (.exit i) H f:=λa t w b d=>h a t w b d
theorem VF.lV{i:Nat}(h:VF W n m Q .normal H f):VF W n m (sP i Q) .normal H f:=λa t w b d=>h a t w b d
theorem VF.rM{i:Nat}(h:VF W n m Q .ret H f):VF W n m (sP i Q) .ret H f:=λa t w b d=>h a t w b d
theorem VF.rL{i:Nat}(h:VF W n m Q .normal H f):VF W n m (sP i Q) (.exit i) H f:=λa t w b d=>by
 have:=h a t w b d;simpa[sP,Exit.inBlock]using this
def r7(D:Nat):Deferred:={target:= .collected D,args:=#[]}
theorem aq.L2{g:FuncId}{fn:Func}{args:List Value}{β:Type}{A:β->Prop}{r:β->Value}{G:β->List ab}(j:P.funcs[g]?=some fn)(l:fn.ntmps=n)(i:fn.body.isSome=true)(k:Nat.ble args.length n=true)
  (h:VR W P n ⟨none,[]⟩ (gq fn) (bodyPostM Fence.wide 0 P fn (lh W A r G)) H (vZ 0 args)):aq W P g args H A r G:=by
 unfold aq;intro w o;obtain⟨c,d⟩:=Option.isSome_iff_exists.1 i;refine callsIn_wide.1 (callsIn_of_wp_marks (F:=Fence.wide) (n:=0) j d trivial ?_);have b:=h (λa w q=>by obtain⟨_,_,e,_⟩:=q;cases e) _ w (bS.start args n (Nat.le_of_ble_eq_true k)) o;rw[<-l]at b;simpa[gq,d,CB]using b
theorem Ey{D:Nat}{w:World}(h:w.heap[D]?=some (.deferred (some []))):(Instr.takeDeferred D).run P w= .ok [] (w.putObj D (.deferred none)):=run_takeDeferred h
theorem Holds.Gl{b:Nat}{o o':Obj}{w:World}{C:ab->List ab}(h:Holds W H w)(u:eQ H (At b o) C):Holds W (C (At b o')) (w.putObj b o'):=by
 obtain⟨R,p,q⟩:=u.perm;have d:=((h.perm p).at (.head _)).2;have a:b<w.heap.size:=(Array.getElem?_eq_some_iff.1 d).1;exact h.put u rfl rfl rfl (by simp) (λk e=>World.putObj_heap_other e) (World.putObj_heap_same a)
theorem VF.results2{fn:Func}{β:Type}{A:β->Prop}{r:β->Value}{G:β->List ab}{y h:ResultVar}{v v2:Value}{e:Exit}{D:Nat}{C:ab->List ab}(J:e= .ret\/e= .normal)(x:β)(i:fn.results=#[y,h])(u:eQ H (At D (.deferred (some []))) C)
    (z:aL W P (C (At D (.deferred none))) f y v)(l:aL W P (C (At D (.deferred none))) f h v2)(B:A x)(M:.tuple #[v,v2]=r x)(E:ae W (C (At D (.deferred none))) (G x)):
    VF W n ⟨none,[r7 D]⟩ (bodyPostM Fence.wide 0 P fn (lh W A r G)) e H f:=by
  intro _ t w g o;obtain⟨R,p,q⟩:=u.perm;have I:=((o.perm p).at (.head _)).2;have a:=o.Gl (o':= .deferred none) u;have K:(results fn t).run P (w.putObj D (.deferred none))= .ok (.tuple #[v,v2]) (w.putObj D (.deferred none)):=by
    cases z with
    |tmp j=>
      have g1:=g.get _ _ j;cases l with
      |tmp d=>have g2:=g.get _ _ d;simp[results,i,g1,g2]
      |cell d k=>have g2:=g.get _ _ d;simp[results,i,g1,g2,asAddr,k _ a]
    |cell j s=>
      have g1:=g.get _ _ j;cases l with
      |tmp d=>have g2:=g.get _ _ d;simp[results,i,g1,g2,asAddr,s _ a]
      |cell d k=>have g2:=g.get _ _ d;simp[results,i,g1,g2,asAddr,s _ a,k _ a]
  have b:LeavesInM Fence.wide 0 P fn t (lh W A r G) [r7 D] .returning w:=by
    refine⟨by simp,.inl ⟨D,_,rfl,Ey I,?_⟩⟩;exact⟨_,K,x,B,by rw[M],E _ a⟩
  rcases J with rfl|rfl
  · exact b
  · exact b
theorem VF.result{fn:Func}{β:Type}{A:β->Prop}{r:β->Value}{G:β->List ab}{v:Value}{e:Exit}{D:Nat}{C:ab->List ab}(j:e= .ret\/e= .normal)(x:β)(l:qA f fn.results.toList=some v)(u:eQ H (At D (.deferred (some []))) C)
  (g:A x)(o:v=r x)(h:ae W (C (At D (.deferred none))) (G x)):
  VF W n ⟨none,[r7 D]⟩ (bodyPostM Fence.wide 0 P fn (lh W A r G)) e H f:=by
 intro _ t w k d;obtain⟨R,p,q⟩:=u.perm;have i:=((d.perm p).at (.head _)).2;have b:=d.Gl (o':= .deferred none) u;have a:LeavesInM Fence.wide 0 P fn t (lh W A r G) [r7 D] .returning w:=by
  refine⟨by simp,.inl ⟨D,_,rfl,Ey i,?_⟩⟩;exact⟨_,tI k l _,x,g,by rw[o],h _ b⟩
 rcases j with rfl|rfl
 · exact a
 · exact a
abbrev cR(l:Nat)(b:Loop):ab:=At l (.loop b)
def Loop.done(b:Loop):Loop:={b with state:= .done,pending:=some .ret}
def Loop.busy(b:Loop):Loop:={b with state:= .busy}
def rD(W:World)(P:Program)(l:Nat)(vs:List Value)(H:List ab){τ:Type}(G1:List ab)(A2:τ->Prop)(G2:τ->List ab):Prop:=
  ∀w,Holds W H w->∃fn tmps assign body,(Instr.yield l vs.toArray).run P w= .ok (.round l fn tmps assign body) w/\
    RoundIn Fence.wide 0 P l fn tmps assign body w λe a=>(e= .returned (.bool true)/\Holds W G1 a)\/(∃x,A2 x/\e= .returned (.bool false)/\Holds W (G2 x) a)
def HW(W:World)(G1:List ab){τ:Type}(A2:τ->Prop)(G2:τ->List ab):Ending->World->Prop:=λe a=>(e= .returned (.bool true)/\Holds W G1 a)\/(∃x,A2 x/\e= .returned (.bool false)/\Holds W (G2 x) a)
def B8(P:Program)(l:Nat)(R:Ending->World->Prop):Exit->Act->World->Prop:=roundPost P l R
def Q5(P:Program)(l:Nat)(body:Code)(R:Ending->World->Prop):Exit->Act->World->Prop:=
  Exit.then (λb d=>∃a,(Instr.beginRound l).run P d= .ok () a/\body.wpIn (Fence.wide.inRound l) 0 P (roundPost P l R) b a) (λ_ _ _=>False)
def Lu:List Tmp->List Value->Fr->Fr
  |d::ds,v::vs,f=>Lu ds vs ((d,v)::f)
  |_,_,f=>f
theorem wZ:∀(ds:List Tmp)(vs:List Value)(f:Fr)(t:Array Value),(ds.all λd=>Nat.blt d n)=true->bS n f t->bS n (Lu ds vs f) ((ds.zip vs).foldl (λt x=>t.setIfInBounds x.1 x.2) t)
  |[],_,_,_,_,h=>h
  |_::_,[],_,_,_,h=>h
  |d::ds,v::vs,f,t,a,h=>by
    simp only[List.all_cons,mV]at a;exact wZ ds vs _ _ a.2 (h.put a.1)
theorem rD.body{τ:Type}{A2:τ->Prop}{G2:τ->List ab}{G1:List ab}{l:Nat}{b:Loop}{vs:List Value}(s:bS n f b.tmps)(z:b.state= .ready)(y:b.pending=none)(j:vs.length=b.params.size)(g:(b.params.toList.all λd=>Nat.blt d n)=true)
  (h:VR W P n ⟨some l,[]⟩ b.assign (Q5 P l b.body (HW W (cR l b::G1) A2 (λx=>cR l (Loop.done b)::G2 x))) (cR l b::H) (Lu b.params.toList vs f)):
  rD W P l vs (cR l b::H) (cR l b::G1) A2 (λx=>cR l (Loop.done b)::G2 x):=by
 intro w k;have u:=(k.at (.head _)).2;have v:=run_yield (P:=P) (args:=vs.toArray) u (by simpa using j);refine⟨_,_,_,_,v,?_⟩;refine roundIn_of_wpIn (F:=Fence.wide) (n:=0) trivial ?_;have i:=wZ b.params.toList vs f b.tmps g s;have e:((b.params.zip vs.toArray).foldl (λtmps (x:Nat×Value)=>tmps.setIfInBounds x.1 x.2) b.tmps)=(b.params.toList.zip vs).foldl (λt x=>t.setIfInBounds x.1 x.2) b.tmps:=by
  rw[<-Array.foldl_toList];simp
 have p:=h (λ_ _ q=>q) _ w i k;have o:((b.params.zip vs.toArray).foldl (λtmps (t,a)=>tmps.setIfInBounds t a) b.tmps)=(b.params.toList.zip vs).foldl (λt x=>t.setIfInBounds x.1 x.2) b.tmps:=e;rw[o];exact p
theorem VF.begin{τ:Type}{A2:τ->Prop}{G2:τ->List ab}{G1:List ab}{l:Nat}{b:Loop}{body:Code}{R:Ending->World->Prop}(g:b.state= .ready)(h:VR W P n ⟨some l,[]⟩ body (B8 P l R) (cR l (Loop.busy b)::H) f):
  VF W n ⟨some l,[]⟩ (Q5 P l body R) .normal (cR l b::H) f:=by
 intro _ t w d a;have e:=(a.at (.head _)).2;exact⟨_,run_beginRound e g,h (λ_ _ q=>q) t _ d (a.Gl .head)⟩
theorem VF.on{τ:Type}{A2:τ->Prop}{G2:τ->List ab}{G1:List ab}{l:Nat}{b:Loop}(j:b.state= .ready)(i:b.pending=none)(d:ae W H (cR l (Loop.busy b)::G1)):
  VF W n ⟨some l,[]⟩ (B8 P l (HW W (cR l b::G1) A2 G2)) .normal H f:=by
 intro _ t w h a;have a:=d w a;have g:=(a.at (.head _)).2;have e:({Loop.busy b with state:= .ready,pending:=none}:Loop)=b:=by cases b;simp_all [Loop.busy]
 refine⟨_,_,run_endRound (P:=P) none g,.inl ⟨rfl,?_⟩⟩;simp only[Option.isNone_none,if_true];rw[e];exact a.Gl .head
theorem VF.stop{τ:Type}{A2:τ->Prop}{G2:τ->List ab}{G1:List ab}{l:Nat}{b:Loop}(x:τ)(d:A2 x)(e:ae W H (cR l (Loop.busy b)::G2 x)):
  VF W n ⟨some l,[]⟩ (B8 P l (HW W G1 A2 (λx=>cR l (Loop.done b)::G2 x))) .ret H f:=by
 intro _ t w h a;have a:=e w a;have g:=(a.at (.head _)).2;refine⟨_,_,run_endRound (P:=P) (some .ret) g,.inr ⟨x,d,rfl,?_⟩⟩;simp only[Option.isNone_some,Bool.false_eq_true,if_false];exact a.Gl .head
def M6:Code->Option Operand| .rangeFunc g _ _ _=>some g|_=>none
def Sb:Code->Array Tmp| .rangeFunc _ ps _ _=>ps|_=>#[]
def R9:Code->Code| .rangeFunc _ _ a _=>a|c=>c
def Sa:Code->Code| .rangeFunc _ _ _ b=>b|c=>c
theorem VR.range{τ:Type}{g:Operand}{gf:FuncId}{cap:Array Value}(A2:τ->Prop)(G1:List ab)(G2:τ->List ab)(C:M6 c=some g)(O:aD f g=some (.func (.func gf) #[] cap))(z:∀a w,(callFunc gf a).run P w= .ok (.enter gf a) w)
    (iter:∀(l D:Nat)(b:Loop),b.state= .ready->b.pending=none->b.params=Sb c->b.assign=R9 c->b.body=Sa c->bS n f b.tmps->
      aq W P gf (.func (.yield l) #[] #[]::cap.toList) (cR l b::At D (.deferred (some []))::H) (β:=Option τ) (λo=>o.elim True A2) (λ_=>.tuple #[]) (λo=>o.elim (cR l b::At D (.deferred (some []))::G1) λx=>cR l (Loop.done b)::At D (.deferred (some []))::G2 x))
    (j:∀D,VF W n ⟨none,[r7 D]⟩ Q .normal (At D (.deferred (some []))::G1) f)(p:∀D x,A2 x->VF W n ⟨none,[r7 D]⟩ Q .ret (At D (.deferred (some []))::G2 x) f):
    VR W P n ⟨none,[]⟩ c Q H f:=by
  cases c<;>simp[M6]at C;rename_i J ps assign body;subst C;intro u t w y S;refine wpIn_rangeFunc ?_;intro fn N;have A:Act.eval ⟨t,[]⟩ J= .func (.func gf) #[] cap:=Ht y O;obtain⟨b,i⟩:∃b:Loop,b={state:= .ready,pending:=none,fn,tmps:=t,params:=ps,assign,body,defers:=w.heap.size}:=⟨_,rfl⟩;have hb1:b.state= .ready:=by rw[i]
  have hb2:b.pending=none:=by rw[i]
  have v:Holds W (cR (w.alloc (.deferred (some []))).heap.size b::At w.heap.size (.deferred (some []))::H) ((w.alloc (.deferred (some []))).alloc (.loop b)):=(S.oE).oE;obtain⟨q,s⟩:∃q,q=(w.alloc (.deferred (some []))).alloc (.loop b):=⟨_,rfl⟩;obtain⟨l,E⟩:∃l,l=(w.alloc (.deferred (some []))).heap.size:=⟨_,rfl⟩;have B:l=w.heap.size+1:=by rw[E];exact World.size_alloc ..
  rw[<-s,<-E]at v;refine⟨l,[r7 w.heap.size],q,{target:= .fn (.func gf) cap,args:=#[.func (.yield l) #[] #[]]},q,gf,#[.func (.yield l) #[] #[]]++cap,q,?_,?_,?_,?_,λM=>by simp[CB,Fence.wide]at M,?_⟩
  · rw[s,i,B];exact run_enterLoop_outer _ _ _ _ _
  · simp only[resolve,A]
    simp[go_sem]
  · intro T _;trivial
  · simp[invoke,go_sem,z]
  · refine callsIn_wide.2 ?_
    have d:=iter l w.heap.size b hb1 hb2 (by rw[i];rfl) (by rw[i];rfl) (by rw[i];rfl) (by rw[i];exact y)
    unfold aq at d
    have d:=d q v
    have I:(Value.func (.yield l) #[] #[]::cap.toList).toArray=#[.func (.yield l) #[] #[]]++cap:=by
      apply Array.ext';simp
    rw[I]at d
    refine Calls.mono d ?_
    rintro e G ⟨o,K,rfl,h⟩
    cases o with
    |none=>
      have h:Holds W (cR l b::At w.heap.size (.deferred (some []))::G1) G:=h
      have k:=(h.at (.head _)).2
      refine⟨none,_,by have:=run_endLoop (P:=P) k (by rw[hb1];simp);rw[hb2]at this;exact this,?_⟩
      exact j w.heap.size u t _ y (h.Gl .head).tail
    |some x=>
      have h:Holds W (cR l (Loop.done b)::At w.heap.size (.deferred (some []))::G2 x) G:=h
      have k:=(h.at (.head _)).2
      refine⟨some .ret,_,by have:=run_endLoop (P:=P) k (by simp[Loop.done]);exact this,?_⟩
      exact wpIn_ret (p w.heap.size x K u t _ y (h.Gl .head).tail)
end
attribute [irreducible] VR VF yl sP EE rD B8 Q5 HW
end Go.Sl
