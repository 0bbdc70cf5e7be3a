import Derived.Test.YtldolcbbmnmjoaaGreatM7
import Derived.ControlIn
import Derived.WalkKit
import Derived.ProofKit
import Derived.OpenShut
set_option maxRecDepth 8000
set_option maxHeartbeats 16000000
set_option linter.unusedVariables false
set_option linter.unusedSimpArgs false
set_option linter.unusedSectionVars false
set_option linter.defProp false
namespace Go.Sl
open Go Go.RowKit
section
variable{W:World}{P:Program}{n:Nat}{m:Md}{c:Code}{Q:Exit->Act->World->Prop}{H H' L R:List ab}{f F:Fr}
def DS{α:Type}(W:World)(n:Nat)(m:Md)(A:α->Prop)(G:α->List ab)(F:α->Fr)(μ:α->Nat)(k:Nat)(Q:Exit->Act->World->Prop):Exit->Act->World->Prop:=
  Exit.then (λa b=>∃y t',a=⟨t',m.df⟩/\A y/\μ y<k/\bS n (F y) t'/\Holds W (G y) b) Q
theorem VR.loop{α:Type}(A:α->Prop)(G:α->List ab)(F:α->Fr)(μ:α->Nat)(M:s9 c=true)(g:α)(D:A g)(K:ae W H (G g))(J:yF (F g) f)
    (round:∀x,A x->VR W P n m (Cd.l c) (DS W n m A G F μ (μ x) Q) (G x) (F x)):VR W P n m c Q H f:=by
  unfold VR at*;cases c<;>simp[s9]at M;intro u t w N S;refine wpIn_loop (λa w=>∃x t',a=⟨t',m.df⟩/\A x/\bS n (F x) t'/\Holds W (G x) w) (λa w=>leastOf (λk=>∃x t',a=⟨t',m.df⟩/\A x/\μ x=k/\bS n (F x) t'/\Holds W (G x) w)) ⟨g,t,rfl,D,N.sub J,K w S⟩ ?_;rintro a w ⟨x',t',rfl,o,r,v⟩;obtain⟨⟨x,t2,h,I,O,s,z⟩,B⟩:=leastOf_spec (p:=λk=>∃x b,(⟨t',m.df⟩:Act)=⟨b,m.df⟩/\A x/\μ x=k/\bS n (F x) b/\Holds W (G x) w) ⟨μ x',x',t',rfl,o,rfl,r,v⟩;have C:t2=t':=by injection h with h;exact h.symm
  subst C;refine wpIn_mono (round x I (λa w q=>u a w q) t2 w s z) ?_;intro e a T q;cases e with
  |normal=>
    obtain⟨y,b,rfl,i,E,j,l⟩:=q;refine⟨⟨y,b,rfl,i,j,l⟩,?_⟩;refine Nat.lt_of_le_of_lt ((leastOf_spec (p:=λk=>∃x t',(⟨b,m.df⟩:Act)=⟨t',m.df⟩/\A x/\μ x=k/\bS n (F x) t'/\Holds W (G x) T) ⟨μ y,y,b,rfl,i,rfl,j,l⟩).2 (μ y) ⟨y,b,rfl,i,rfl,j,l⟩) ?_;rw[<-O];exact E
  |_=>exact q
theorem VF.round{α:Type}{A:α->Prop}{G:α->List ab}{F:α->Fr}{μ:α->Nat}{k:Nat}(y:α)(a:A y)(h:μ y<k)(b:yF (F y) f)(e:ae W H (G y)):
  VF W n m (DS W n m A G F μ k Q) .normal H f:=by
 unfold VF;exact λ_ t w g i=>⟨y,t,rfl,a,h,g.sub b,e w i⟩
theorem VF.vF{α:Type}{A:α->Prop}{G:α->List ab}{F:α->Fr}{μ:α->Nat}{k:Nat}(h:VF W n m Q .ret H f):VF W n m (DS W n m A G F μ k Q) .ret H f:=by
 unfold VF at*;exact λa t w b e=>h a t w b e
theorem VF.r6{α:Type}{A:α->Prop}{G:α->List ab}{F:α->Fr}{μ:α->Nat}{k i:Nat}(h:VF W n m Q (.exit i) H f):VF W n m (DS W n m A G F μ k Q) (.exit i) H f:=by
 unfold VF at*;exact λa t w b e=>h a t w b e
attribute [irreducible] DS
theorem aq.L1{g:FuncId}{fn:Func}{args:List Value}{β:Type}{A:β->Prop}{r:β->Value}{G:β->List ab}(l:P.funcs[g]?=some fn)(p:fn.ntmps=n)(k:fn.body.isSome=true)(o:Nat.ble args.length n=true)
  (h:VR W P n ⟨none,[]⟩ (gq fn) (bodyPost P fn (lh W A r G)) H (vZ 0 args)):aq W P g args H A r G:=by
 unfold aq;unfold VR at h;intro w s;obtain⟨c,i⟩:=Option.isSome_iff_exists.1 k;refine calls_of_wp l i ?_;have b:=h (λa w q=>by obtain⟨_,_,e,_⟩:=q;cases e) _ w (bS.start args n (Nat.le_of_ble_eq_true o)) s;rw[<-p]at b;have j:=wpIn_wide.1 b;simpa[gq,i]using j
theorem VF.done{fn:Func}{β:Type}{A:β->Prop}{r:β->Value}{G:β->List ab}{v:Value}{e:Exit}(g:e= .ret\/e= .normal)(x:β)(i:qA f fn.results.toList=some v)(a:A x)(j:v=r x)(b:ae W H (G x)):
  VF W n ⟨none,[]⟩ (bodyPost P fn (lh W A r G)) e H f:=by
 unfold VF;intro _ t w h k;rcases g with rfl|rfl<;>exact⟨rfl,_,tI h i _,x,a,by rw[j],b w k⟩
theorem q8:qA f []=some (.tuple #[]):=rfl
def VI(W:World)(P:Program)(n:Nat)(m:Md)(c:Code)(k:Nat)(Q:Exit->Act->World->Prop)(H:List ab)(f:Fr):Prop:=
  (∀a w,¬Q .outgrown a w)->∀t w,bS n f t->Holds W H w->wpListIn (CB m.r) 0 P (aG c).toArray Q ((aG c).drop k) ⟨t,m.df⟩ w
theorem VR.HX(b:dg c=some false)(h:VI W P n m c 0 Q H f):VR W P n m c Q H f:=by
 unfold VR;cases c<;>simp[dg]at b;subst b;intro a t w e g;have:=h a t w e g;simp only[aG,KP,Array.toArray_toList]at this;exact wpIn_region_list this
theorem VI.nil{k:Nat}(e:(aG c)[k]?=none)(h:VF W n m Q .normal H f):VI W P n m c k Q H f:=by
 unfold VF at h;intro a t w b g;rw[SQ (by simpa using e)];exact h a t w b g
variable{dst:Option Tmp}{d:Nat}{ty_:TypeId}{pos:String}{after:Array Edge}{guard:Option (Nat×Bool)}
theorem Ig{o:Oper}{ops:List Oper}{t:Array Value}{df:List Deferred}{b:Bool}(e:bS n f t)(a:gA ops o.guard f=some b):Region.wanted o (yielded ops.toArray (Act.mk t df).tmps)=b:=e.wanted a
theorem VI.step{k:Nat}{o:Oper}(u:(aG c)[k]?=some o)(s:gA (aG c) o.guard f=some true)(h:ay W P n o (λ_ _ _=>False) H f (λH' j=>VI W P n m c (k+1) Q H' j))(e:jb [o]=true:=by rfl):VI W P n m c k Q H f:=by
 unfold ay at h;intro g t w l v;rw[lX u];unfold wpListIn;rw[lam (by rw[Ig l s])];have p:=h t w l v (λa w=>wpListIn (CB m.r) 0 P (aG c).toArray Q ((aG c).drop (k+1)) (gj a m.df) w) (λH' j r t' x b i=>r g t' x b i);exact RT (a:=⟨t,[]⟩) (r9 e).1 (λ_ _ q=>q) (λ_ _ _ q=>q.elim) p
theorem VI.pure{k:Nat}{op:Op}{v:Value}(g:(aG c)[k]?=some {dst:=some d,op,type:=ty_,pos,after,guard})(e:gA (aG c) guard f=some true)
  (i:af W P n H f {dst:=some d,op,type:=ty_,pos,after,guard} v)(b:Nat.blt d n=true)(h:VI W P n m c (k+1) Q H ((d,v)::f))(a:jb [{dst:=some d,op,type:=ty_,pos,after,guard}]=true:=by rfl):VI W P n m c k Q H f:=
 VI.step g e (ay.pure i b h) a
theorem VI.yield{k l:Nat}{x:Operand}{xs:Array Operand}{ats:Array TypeId}{vs:List Value}{τ:Type}{A2:τ->Prop}{G1:List ab}{G2:τ->List ab}
  (y:(aG c)[k]?=some {dst:=some d,op:= .call {callee:= .value x,args:=xs,argTypes:=ats},type:=ty_,pos,after,guard})(v:gA (aG c) guard f=some true)
  (B:aD f x=some (.func (.yield l) #[] #[]))(u:jo f xs.toList=some vs)(spec:rD W P l vs L G1 A2 G2)(r:ae W H L)(b:Nat.blt d n=true)
  (j:VI W P n m c (k+1) Q G1 ((d,.bool true)::f))(p:∀x,A2 x->VI W P n m c (k+1) Q (G2 x) ((d,.bool false)::f))(z:m=⟨none,[]⟩:=by rfl):VI W P n m c k Q H f:=by
 subst z;unfold rD at spec;intro h t w g A;rw[lX y];unfold wpListIn;rw[lam (by rw[Ig (o:={dst:=some d,op:= .call {callee:= .value x,args:=xs,argTypes:=ats},type:=ty_,pos,after,guard}) g v])];obtain⟨fn,tmps,assign,body,C,s⟩:=spec w (r w A);have a:xs.map (Act.eval ⟨t,[]⟩)=vs.toArray:=by
  have:=g.args u;apply Array.ext';simpa using this
 unfold Oper.wpIn;refine⟨λ_ _=>wE _ _,?_⟩;have e:(Oper.semAt (CB none).round (Act.eval ⟨t,[]⟩) {dst:=some d,op:= .call {callee:= .value x,args:=xs,argTypes:=ats},type:=ty_,pos,after,guard}).run P w= .ok (.round l fn tmps assign body) w:=by
  rw[Oper.semAt_eq _ _ _ (λc e=>by cases e)];unfold execOp;simp only[resolve,g.eval B,a,Deferred.ofValue,invoke,Sem.run_bind,Sem.run_pure,Result.andThen_ok,Array.append_empty,Array.empty_append];exact C
 rw[e];simp only[Oper.uponIn];refine⟨(λb=>by rw[sW]at b;cases b),RoundIn.mono s ?_⟩;rintro e D (⟨rfl,i⟩|⟨x,q,rfl,i⟩)
 · exact j h _ _ (g.put b) i
 · exact p x q h _ _ (g.put b) i
structure SZ(W:World)(n:Nat)(m:Md)(Q Q2:Exit->Act->World->Prop){α:Type}(A:α->Prop)(G:α->List ab)(F:α->Fr):Prop where
  to:∀(x:α){f:Fr}{H:List ab},A x->yF (F x) f->ae W H (G x)->VF W n m Q2 .normal H f
  ret:∀{f:Fr}{H:List ab},VF W n m Q .ret H f->VF W n m Q2 .ret H f
  exit:∀{f:Fr}{H:List ab}{i:Nat},VF W n m Q (.exit i) H f->VF W n m Q2 (.exit i) H f
theorem VR.join{α:Type}{c2:Code}(A:α->Prop)(G:α->List ab)(F:α->Fr)(b:∀a,SZ W n m Q a A G F->VR W P n m c a H f)(e:∀x,A x->VR W P n m c2 Q (G x) (F x)):
  VR W P n m c (yl m.r P c2 Q) H f:=by
 refine b _ ⟨λx f H g j i=>VF.next (VR.SI j i (e x g)),λh=>VF.pY h,λh=>VF.mI h⟩
theorem VR.qx{c2:Code}(F:Fr)(b:∀a,SZ W n m Q a (λ_:Unit=>True) (λ_=>H) (λ_=>F)->VR W P n m c a H f)(e:VR W P n m c2 Q H F):VR W P n m c (yl m.r P c2 Q) H f:=
 VR.join _ _ _ b (λ_ _=>e)
end
attribute [irreducible] VI
theorem wr{A B:Prop}(b:B)(a:Hid B->A:=by intro zz;(repeat (first|(first|refine VO.nil rfl ?_|refine VQ.nil rfl ?_|refine VD.nil ?_|((first|apply VO.pure rfl rfl|apply VQ.pure rfl rfl|apply VD.take rfl rfl rfl|(refine VD.end rfl rfl rfl ?_;apply ay.pure));(exact zp);rfl)|refine VO.skip rfl rfl rfl rfl ?_|refine VQ.skip rfl rfl rfl rfl ?_|refine VD.skip rfl rfl rfl rfl rfl ?_|refine VD.H6 rfl rfl ae.refl rfl rfl rfl ?_|(refine zq ?_;(apply ay.st ah rfl rfl rfl rfl (by(repeat first|exact .head|apply eQ.tail);first|done|fail) (by first|(simp;done)|fail)))|refine⟨ae.re,?_⟩)|(first|refine VR.seq rfl ?_|refine VR.region rfl ?_|refine VR.zC rfl rfl ?_|refine VR.zA rfl rfl ?_|refine VR.block rfl ?_|refine VR.skip rfl ?_|refine VR.ret rfl ?_|refine VR.exit rfl ?_)|(first|refine VE.sh ?_|refine VF.next ?_|refine VF.pY ?_|refine VF.mI ?_|refine VF.lV ?_|refine VF.rL ?_|refine VF.sO rfl ?_|refine VF.rM ?_|refine VF.vF ?_|refine VF.r6 ?_)));exact zz.out):A:=a ⟨b⟩
end Go.Sl
namespace Go.Proofs.YtldolcbbmnmjoaaGreat
open Go.RowKit Go.Sl
attribute [local irreducible] Own
theorem BX{W:World}{P:Program}{n:Nat}{α:Type}{F:α->ab}{R:List ab}{f:Fr}{o:Oper}{v:Value}(h:∀x,af W P n (F x::R) f o v):af W P n (ex F::R) f o v:=by
 unfold af at h⊢;intro t w a b;obtain⟨x,c⟩:=b.gW;exact h x t w a c
def mY(d:Nat)(c:BitVec 32):ab:=ex λm:Int=>Row d 434 [.int .u32 (c.toNat:Int),ii m]
theorem zH{W:World}{R:List ab}:aq W Tryz.prog 301 [] R (β:=Nat) (λ_=>True) (λd=>ip d) (λd=>mY d 0#32::R):=by
 refine ze Tryz.func301 Tryz.ntmps301 ?_;apply VO.pure rfl rfl;apply af.build sb_434 (pv:=[]) rfl;rfl;rfl;refine w ?_;refine zj λ_=>?_;refine w ?_;rename_i d;refine VE.done d rfl trivial rfl ?_;exact λw a=>Holds.dU (P:=λm:Int=>Row d 434 [.int .u32 ((0#32:BitVec 32).toNat:Int),ii m]) 0 a
theorem zG{W:World}{R:List ab}{ao:Option Addr}{cap:Nat}{l:List UInt8}(d:Nat)(c:BitVec 32)(e:aV W R 1 ao l.length (bytes l))(b:l.length<=1099511627776):
  aq W Tryz.prog 306 [ip d,.slice ao l.length cap] (mY d c::R) (β:=Int) (λ_=>True) (λk=>ii k) (λ_=>mY d (sT c l)::R):=by
 refine rC (α:=Int) (H':=λm=>Row d 434 [.int .u32 (c.toNat:Int),ii m]::R) (λw a=>Holds.gW a) (λm=>?_);refine ze Tryz.func306 Tryz.ntmps306 ?_;refine VC.drawn [5,7,17] 18 [0,1,2,3,4,6,8,9,10,11,12,13,14,5,7,15,16,17,18,19,20] ((ex λx:Int=>Row d 434 [.int .u32 x,ii m])::R) rfl (by kernel_rfl) (by kernel_rfl) (λw a=>Holds.dU (P:=λx:Int=>Row d 434 [.int .u32 x,ii m]) _ a) ?_;refine w ?_;refine VD.take rfl rfl rfl (BX λx=>af.ld ah rfl rfl (.head _) rfl) rfl ?_;refine w ?_;refine VD.yC rfl rfl rfl (ay.pure (af.ld ah rfl rfl (.head _) rfl) rfl ⟨λw a=>Holds.dU (P:=λx:Int=>Row d 434 [.int .u32 x,ii m]) _ a,?_⟩);refine zt (s:=HN c (e.aR (ae.drop ae.refl)) b) (h:=?_);intro _ _;refine⟨λw a=>Holds.dU (P:=λx:Int=>Row d 434 [.int .u32 x,ii m]) _ a,?_⟩;iterate 2 (apply VD.take rfl rfl rfl;exact zp;rfl)
 refine VD.yC rfl rfl rfl ?_;apply ay.st ah rfl rfl rfl rfl zh (by simp);refine⟨λw a=>Holds.dU (P:=λx:Int=>Row d 434 [.int .u32 x,ii m]) _ a,?_⟩;refine w ?_;refine VE.done (IntKind.i64.wrap (m+(l.length:Int))) rfl trivial rfl ?_;exact λw a=>Holds.dU (P:=λm:Int=>Row d 434 [.int .u32 ((sT c l).toNat:Int),ii m]) (IntKind.i64.wrap (m+(l.length:Int))) a
theorem zI{W:World}{R:List ab}(d:Nat)(c:BitVec 32):az W Tryz.prog 304 [ip d] (mY d c::R) (.int .u32 (c.toNat:Int)) (mY d c::R):=by
 refine rC (α:=Int) (H':=λm=>Row d 434 [.int .u32 (c.toNat:Int),ii m]::R) (λw a=>Holds.gW a) (λm=>?_);refine ze Tryz.func304 Tryz.ntmps304 ?_;refine VE.ax rfl ?_ ?_
 · rfl
 · exact λw a=>Holds.dU (P:=λm:Int=>Row d 434 [.int .u32 (c.toNat:Int),ii m]) m a
abbrev aj.D(p:aj):bK:=⟨p.av,p.row,p.d.data⟩
structure aj.fit(p:aj):Prop where
  av:-9223372036854775808<=p.av/\p.av<=9223372036854775807
  row:-9223372036854775808<=p.row/\p.row<=9223372036854775807
  len:p.d.data.length<=140737488351232
def kJ(l:List aj):Nat->Int
  |0=>0
  |i+1=>match l[i]? with
    |none=>kJ l i
    |some p=>if p.D.qP then 3 else if kJ l i=0/\p.d.data.length≠128 then 4 else kJ l i
theorem Hs(l:List aj):∀i,i<=l.length->kJ l i=if ∃p∈l.take i,p.D.qP then 3 else if ∃p∈l.take i,p.d.data.length≠128 then 4 else 0
  |0,_=>by simp[kJ]
  |i+1,h=>by
    have k:=Hs l i zO;have j:i<l.length:=by omega
    have a:l[i]?=some l[i]:=fL j;have f:(∃p∈l.take (i+1),p.D.qP)↔(∃p∈l.take i,p.D.qP)\/l[i].D.qP:=by
      rw[nZ j];simp only[l0,ju];constructor
      · rintro⟨p,hp|hp,hf⟩;exact .inl ⟨p,hp,hf⟩;exact .inr (hp▸hf)
      · rintro(⟨p,hp,hf⟩|hf);exact⟨p,.inl hp,hf⟩;exact⟨_,.inr rfl,hf⟩
    have g:(∃p∈l.take (i+1),p.d.data.length≠128)↔(∃p∈l.take i,p.d.data.length≠128)\/l[i].d.data.length≠128:=by
      rw[nZ j];simp only[l0,ju];constructor
      · rintro⟨p,hp|hp,hf⟩;exact .inl ⟨p,hp,hf⟩;exact .inr (hp▸hf)
      · rintro(⟨p,hp,hf⟩|hf);exact⟨p,.inl hp,hf⟩;exact⟨_,.inr rfl,hf⟩
    unfold kJ;rw[a];dsimp only;by_cases hf:l[i].D.qP
    · rw[lam hf,lam (f.2 (.inr hf))]
    · rw[aE hf,k]
      by_cases b:∃p∈l.take i,p.D.qP
      · rw[lam b,lam (f.2 (.inl b)),aE (by rintro⟨h,_⟩;cases h)]
      · rw[aE b,aE (λq=>(f.1 q).elim b hf)]
        by_cases e:∃p∈l.take i,p.d.data.length≠128
        · rw[lam e,lam (g.2 (.inl e)),aE (by rintro⟨h,_⟩;cases h)]
        · rw[aE e]
          by_cases c:l[i].d.data.length≠128
          · rw[lam ⟨rfl,c⟩,lam (g.2 (.inr c))]
          · rw[aE (λq=>c q.2),aE (λq=>(g.1 q).elim e c)]
theorem L4{e s:Nat}{l:List aj}(o:1<=l.length/\l.length<=1023):(if dJ e s then kJ l l.length else 3)=(dZ e s (l.map aj.D)).1:=by
 have g:=Hs l l.length (eI _);rw[SP]at g
 have j:(∃p∈l.map aj.D,p.qP)↔∃p∈l,p.D.qP:=
  ⟨λ⟨p,a,h⟩=>by obtain⟨q,i,rfl⟩:=fG.1 a;exact⟨q,i,h⟩,λ⟨p,a,h⟩=>⟨p.D,List.mem_map_of_mem a,h⟩⟩
 have k:(∃p∈l.map aj.D,p.data.length≠128)↔∃p∈l,p.d.data.length≠128:=
  ⟨λ⟨p,a,h⟩=>by obtain⟨q,i,rfl⟩:=fG.1 a;exact⟨q,i,h⟩,λ⟨p,a,h⟩=>⟨p.D,List.mem_map_of_mem a,h⟩⟩
 have n:(l.map aj.D).length=l.length:=ew ..;have m:(dZ e s (l.map aj.D)).1=if ¬dJ e s\/∃p∈l.map aj.D,p.qP then 3 else if ∃p∈l.map aj.D,p.data.length≠128 then 4 else 0:=by
  unfold dZ;rw[aE (by rw[n];omega)];split
  · rfl
  · split<;>rfl
 rw[m,g];clear m g;by_cases d:dJ e s
 ·
  rw[lam d];by_cases c:∃p∈l,p.D.qP
  ·
   have b:¬dJ e s\/∃p∈l.map aj.D,p.qP:= .inr (j.2 c);rw[lam c,lam b]
  ·
   have b:¬(¬dJ e s\/∃p∈l.map aj.D,p.qP):=λq=>q.elim (λz=>z d) (λz=>c (j.1 z));rw[aE c,aE b];by_cases f:∃p∈l,p.d.data.length≠128
   · rw[lam f,lam (k.2 f)]
   · rw[aE f,aE (λq=>f (k.1 q))]
 ·
  have b:¬dJ e s\/∃p∈l.map aj.D,p.qP:= .inl d;rw[aE d,lam b]
theorem sV{l:List aj}{i:Nat}(h:i<l.length):kJ l (i+1)=if l[i].D.qP then 3 else if kJ l i=0/\l[i].d.data.length≠128 then 4 else kJ l i:=by
 show(match l[i]? with|none=>kJ l i|some p=>if p.D.qP then 3 else if kJ l i=0/\p.d.data.length≠128 then 4 else kJ l i)=_;rw[fL h]
theorem Dj{l:List aj}{i:Nat}(h:i<l.length)(a:l[i].D.qP):kJ l (i+1)=3:=by rw[sV h,lam a]
theorem I5{l:List aj}{i:Nat}(h:i<l.length)(b:¬l[i].D.qP)(a:kJ l i=0)(c:l[i].d.data.length≠128):kJ l (i+1)=4:=by rw[sV h,aE b,lam ⟨a,c⟩]
theorem zK{l:List aj}{i:Nat}(h:i<l.length)(b:¬l[i].D.qP)(a:¬(kJ l i=0/\l[i].d.data.length≠128)):kJ l (i+1)=kJ l i:=by rw[sV h,aE b,aE a]
theorem DC{e s n i:Nat}{D:List bK}(h:i<D.length):eh e s n (D.take (i+1)) 0=eh e s n (D.take i) 0++gw e s n i D[i]:=by
 rw[nZ h,ml,j1,Nat.min_eq_left zO,PA];simp[eh]
theorem Eb{e s n i:Nat}{D:List bK}(h:i<D.length):dp e s n (D.take (i+1)) 0=dp e s n (D.take i) 0++[gw e s n i D[i],gV D[i].data]:=by
 rw[nZ h,qz,j1,Nat.min_eq_left zO,PA];simp[dp]
theorem MY{W:World}{R:List ab}{y:List aU}(a b:aU):ae W (a.res::cP y::b.res::R) (cP (y++[a,b])::R):=λw e=>by
 have d:=du (res:=aU.res) e;have c:=du (res:=aU.res) d.swap;rw[lx]at c;exact c
theorem J9{y:List aU}(a b:aU)(d:Option Addr)(c:Nat):iC (d,c) (y++[a,b])=Sl.Own 38 1 (.slice d (y.length+2) c) (y.length+2) (y.map aU.ei++[a.ei,b.ei]):=by
 show Sl.Own 38 1 (.slice d (y++[a,b]).length c) (y++[a,b]).length ((y++[a,b]).map aU.ei)=_;rw[c9,jv];rfl
theorem J8{y:List aU}(a:aU)(c:Option Addr)(b:Nat):iC (c,b) (y++[a])=Sl.Own 38 1 (.slice c (y.length+1) b) (y.length+1) (y.map aU.ei++[a.ei]):=by
 show Sl.Own 38 1 (.slice c (y++[a]).length b) (y++[a]).length ((y++[a]).map aU.ei)=_;rw[c9,jv];rfl
theorem GD{W:World}{R:List ab}{ao:Option Addr}{cap:Nat}{l:List aj}(e s:Nat)(he:e<2^64)(hs:s<2^64)(hp:bq W R ao l)(I:∀p∈l,p.fit)(bt:l.length<=140737488351232):
  aq W Tryz.prog 295 [i8 e,.agg #[i8 s,.slice ao l.length cap]] R (β:=(Option Addr×Nat)×List aU) (λy=>y.2.map aU.data=(dZ e s (l.map aj.D)).2) (λy=>.tuple #[.slice y.1.1 y.2.length y.1.2,i6 (dZ e s (l.map aj.D)).1]) (λy=>iC y.1 y.2::cP y.2::R):=by
 have j:(l.map aj.D).length=l.length:=ew ..;refine ze Tryz.func295 Tryz.ntmps295 ?_;refine zj λ_=>?_;refine w ?_;rename_i r
 have g:∀k:Int,dZ e s (l.map aj.D)=(k,[])->ae W (Row r 205 [i8 s,.slice ao l.length cap]::R) (iC (none,0) []::cP []::R):=λ_ _=>
  ae.trans (ae.re (L:=R)) (λw E=>(di (res:=aU.res) E).aZ _ _)
 refine zg ?_ ?_<;>intro z
 ·
  have T:l.length<1:=by have:=z;simp at this;omega
  have f:dZ e s (l.map aj.D)=(1,[]):=by unfold dZ;rw[lam (.inl (by rw[j];exact T))]
  refine w ?_;refine VE.done ((none,0),[]) rfl (by rw[f];rfl) (by rw[f];rfl) (g _ f)
 have bp:1<=l.length:=by have:=z;simp at this;omega
 refine w ?_;refine zk ?_ ?_<;>intro c
 ·
  have U:1023<l.length:=by have:=c;simp at this;omega
  have f:dZ e s (l.map aj.D)=(1,[]):=by unfold dZ;rw[lam (.inr (by rw[j];exact U))]
  refine w ?_;refine VE.done ((none,0),[]) rfl (by rw[f];rfl) (by rw[f];rfl) (g _ f)
 have br:l.length<=1023:=by have:=c;simp at this;omega
 obtain⟨v,rfl⟩:∃a,ao=some a:=by cases ao with|none=>have:=hp.gz.nil rfl;omega|some a=>exact⟨a,rfl⟩
 refine w ?_
 refine VC.loop (α:=Nat) (λi=>i<=l.length) (λi=>Row r 205 [i8 s,.slice (some v) l.length cap]::R)
  (λi=>[(0,i8 e),(3,ip r),(6,ii l.length),(7,i6 (kJ l i)),(30,.slice (some v) l.length cap),(31,ii l.length),(32,ii i)]) (λi=>l.length-i) rfl 0 (c7 _) ae.re zB ?_
 intro i hi;refine w ?_;refine zk ?_ ?_<;>intro c
 ·
  have b:i<l.length:=by have:=cI c;omega
  have u:=I _ (fF b);have hm:=u.av;have hr:=u.row;have bo:=u.len;refine w ?_;refine VO.pure rfl rfl (.gY ah rfl rfl (hp.gz.aR ae.re) (ke l i b) rfl) rfl ?_;refine zq ?_;refine ay.aB sb_207 rfl ?_;intro n9;refine zw ?_;refine ay.gL (vs:=l[i].cells) ah rfl rfl rfl rfl (dI _) zh (by simp) ?_;refine VO.aR (aP.aR (L:=Row n9 207 l[i].cells::Row r 205 [i8 s,.slice (some v) l.length cap]::R) (by(repeat exact .refl))) ?_;refine VO.nil rfl ?_;refine VE.next ?_;refine VC.Qx (α:=Unit) (λ_=>True) (λ_=>Row n9 207 l[i].cells::Row r 205 [i8 s,.slice (some v) l.length cap]::R) (λ_=>[(0,i8 e),(3,ip r),(6,ii l.length),(7,i6 (kJ l (i+1))),(30,.slice (some v) l.length cap),(31,ii l.length),(32,ii i)]) ?_ (λ_ _=>?_)
  ·
   intro Q2 jn;refine w ?_
   iterate 3
    refine zg ?_ ?_<;>intro z
    ·
     have N:l[i].D.qP:=by have:=z;simp at this;unfold bK.qP aj.D;dsimp only;omega
     refine w ?_;exact jn.to () trivial ⟨rfl,rfl,rfl,b7 rfl (by rw[Dj b N]),rfl,rfl,rfl,trivial⟩ ae.re
    refine w ?_
   refine zk ?_ ?_<;>intro c
   ·
    have N:l[i].D.qP:=by have:=c;simp at this;unfold bK.qP aj.D;dsimp only;omega
    refine w ?_;exact jn.to () trivial ⟨rfl,rfl,rfl,b7 rfl (by rw[Dj b N]),rfl,rfl,rfl,trivial⟩ ae.re
   have N:¬l[i].D.qP:=by simp at*;unfold bK.qP aj.D;dsimp only;omega
   refine w ?_;refine zg ?_ ?_<;>intro z
   ·
    have h0:kJ l i=0:=by simpa using z
    refine w ?_;refine zk ?_ ?_<;>intro c
    ·
     have hn:l[i].d.data.length≠128:=by have:=c;simp at this;omega
     refine w ?_;exact jn.to () trivial ⟨rfl,rfl,rfl,b7 rfl (by rw[I5 b N h0 hn]),rfl,rfl,rfl,trivial⟩ ae.re
    ·
     have hn:¬(kJ l i=0/\l[i].d.data.length≠128):=by have:=c;simp at this;omega
     refine w ?_;exact jn.to () trivial ⟨rfl,rfl,rfl,b7 rfl (by rw[zK b N hn]),rfl,rfl,rfl,trivial⟩ ae.re
   ·
    have hn:¬(kJ l i=0/\l[i].d.data.length≠128):=by have:=z;simp at this;exact λq=>this q.1
    refine w ?_;exact jn.to () trivial ⟨rfl,rfl,rfl,b7 rfl (by rw[zK b N hn]),rfl,rfl,rfl,trivial⟩ ae.re
  refine w ?_;refine VE.round (i+1) zO zO ⟨rfl,rfl,rfl,rfl,rfl,rfl,b7 rfl (by congr 1),trivial⟩ ae.re
 have B:i=l.length:=by have:=dx c;omega
 subst B;have t:=L4 (e:=e) (s:=s) (l:=l) ⟨bp,br⟩;have H:∀k:Int,k≠0->(dZ e s (l.map aj.D)).1=k->dZ e s (l.map aj.D)=(k,[]):=by
  intro k hk h;unfold dZ at h⊢;split at h
  · rename_i T;rw[lam T];simp at h;rw[h]
  ·
   rename_i T;rw[aE T];split at h
   · rename_i U;rw[lam U];simp at h;rw[h]
   ·
    rename_i U;rw[aE U];split at h
    · rename_i h3;rw[lam h3];simp at h;rw[h]
    · exact lcs h.symm hk
 have A:¬dJ e s->dZ e s (l.map aj.D)=(3,[]):=λh=>H 3 (by decide) (by rw[<-t,aE h]);refine w ?_;refine zg ?_ ?_<;>intro z
 ·
  have f:=A (by have:=z;simp at this;unfold dJ;omega);refine w ?_;refine VE.done ((none,0),[]) rfl (by rw[f];rfl) (by rw[f];rfl) (g _ f)
 refine w ?_;refine zg ?_ ?_<;>intro z
 ·
  have f:=A (by have:=z;simp at this;unfold dJ;omega);refine w ?_;refine VE.done ((none,0),[]) rfl (by rw[f];rfl) (by rw[f];rfl) (g _ f)
 refine w ?_;refine zk ?_ ?_<;>intro c
 ·
  have f:=A (by have:=c;simp at this;unfold dJ;omega);refine w ?_;refine VE.done ((none,0),[]) rfl (by rw[f];rfl) (by rw[f];rfl) (g _ f)
 have G:dJ e s:=by simp at*;unfold dJ;omega
 rw[lam G]at t;refine w ?_;refine zk ?_ ?_<;>intro c
 ·
  have f:=H _ (by have:=c;simpa using this) t.symm;refine w ?_;refine VE.done ((none,0),[]) rfl (by rw[f];rfl) (by rw[f];rfl) (g _ f)
 have h0:(dZ e s (l.map aj.D)).1=0:=by rw[<-t];have:=c;simpa using this
 refine w ?_;have hF:k9 e s (l.map aj.D):=Cg h0;have J:=qe hF;rw[J];rw[J]at h0;refine zq ?_;refine ay.PE (m:=2*l.length+1) yf rfl (by rfl) zO (by simp only[maxLen];omega) rfl ?_;intro no;refine zt (s:=zH) (h:=?_);intro d _;refine w ?_
 refine VC.loop (α:=Nat×List aU×(Option Addr×Nat)) (λy=>y.1<=l.length/\y.2.1.map aU.data=dp e s l.length ((l.map aj.D).take y.1) 0) (λy=>mY d (cV (eh e s l.length ((l.map aj.D).take y.1) 0))::iC y.2.2 y.2.1::cP y.2.1::Row r 205 [i8 s,.slice (some v) l.length cap]::R)
  (λy=>[(0,i8 e),(3,ip r),(6,ii l.length),(10,.slice y.2.2.1 y.2.1.length y.2.2.2),(11,ip d),(84,.slice (some v) l.length cap),(85,ii l.length),(86,ii y.1)]) (λy=>l.length-y.1) rfl (0,[],(ik no,2*l.length+1)) ⟨c7 _,rfl⟩ ?_ zB ?_
 ·
  dsimp only;rw[DK,show cV (eh e s l.length [] 0)=0#32 from C9 _];exact ae.trans (λw E=>di (res:=aU.res) E) ae.re
 rintro⟨i,y,x⟩ ⟨hi,S⟩;dsimp only at hi S⊢;refine w ?_;refine zk ?_ ?_<;>intro c
 ·
  have b:i<l.length:=by have:=cI c;omega
  refine w ?_;have u:=I _ (fF b);have C:i<(l.map aj.D).length:=by rw[j];exact b
  have M:(l.map aj.D)[i]=l[i].D:=Jz ..;have ad:=hF.pat _ (fF C);rw[M]at ad;have F:l[i].d.data.length=128:=ad.2.2;have aa:FF l[i].d.data=⟨gV l[i].d.data,oR l[i].d.data,0⟩:=lam F;have bw:(gV l[i].d.data).length=128:=oN F;have o:=s6 hF C;rw[M,j]at o;have Z:(ot e s l.length i l[i].D).enc.1=0:=by rw[s7 o]
  have Y:=(hp.ok _ (fF b)).cap;refine VO.pure rfl rfl (.gY ah rfl rfl (hp.gz.aR (ae.drop (ae.drop (ae.drop (ae.drop ae.refl))))) (ke l i b) rfl) rfl ?_;refine zq ?_;refine ay.aB sb_207 rfl ?_;intro n9;refine zw ?_;refine ay.gL (vs:=l[i].cells) ah rfl rfl rfl rfl (dI _) zh (by simp) ?_;refine VO.aR (aP.aR (L:=Row n9 207 l[i].cells::mY d (cV (eh e s l.length ((l.map aj.D).take i) 0))::iC x y::cP y::Row r 205 [i8 s,.slice (some v) l.length cap]::R) (by(repeat exact .refl))) ?_;refine w ?_;have hE:=Rq (R:=Row n9 207 l[i].cells::mY d (cV (eh e s l.length ((l.map aj.D).take i) 0))::iC x y::cP y::Row r 205 [i8 s,.slice (some v) l.length cap]::R) ((hp.each _ (fF b)).aR (ae.drop (ae.drop (ae.drop (ae.drop (ae.drop ae.refl)))))) Y;rw[aa]at hE;dsimp only at hE;refine zt (s:=hE) (h:=?_);rintro⟨K,bc⟩-;refine VO.bH (p:=K=none->(gV l[i].d.data).length=0) (λw E=>E.bn (.head _)) ?_;intro av;refine w ?_;refine zx [11,13] 18 [0,1,2,3,4,5,6,7,8,9,10,11,12,13,14,15,16,17,18] _ ?_;refine zt (s:=rq (aV.own (aQ _) (.head _) (by simp) av) zO) (h:=?_);intro _ _;refine⟨ae.re,?_⟩;refine w ?_;have bk:(ot e s l.length i l[i].D).fit:=⟨he,hs,by simp only[ot];omega,by simp only[ot];omega,u.av,u.row,(cV (gV l[i].d.data)).isLt⟩;refine VD.re 108 (.bool (oR l[i].d.data)) rfl rfl ?_;apply VD.take rfl rfl rfl;apply af.build sb_388 rfl;simp[aC,bR,Value.cells];rfl;rfl;refine w ?_;have V:=Hq (W:=W) (R:=b8 (K,bc) (gV l[i].d.data)::Row n9 207 l[i].cells::mY d (cV (eh e s l.length ((l.map aj.D).take i) 0))::iC x y::cP y::Row r 205 [i8 s,.slice (some v) l.length cap]::R) (ot e s l.length i l[i].D) bk;rw[Z]at V;refine zt (s:=V) (h:=?_);rintro⟨Q,c⟩-;refine⟨ae.re,?_⟩;refine VD.bH (p:=Q=none->(gw e s l.length i l[i].D).length=0) (λw E=>E.bn (.head _)) ?_;intro bm;refine w ?_;have O:(gw e s l.length i l[i].D).length<=1099511627776:=by
   show(ot e s l.length i l[i].D).enc.2.length<=_;rw[s7 o,fm _ _ _ _ (rU _)];omega
  refine VO.aR (aP.aR (L:=mY d (cV (eh e s l.length ((l.map aj.D).take i) 0))::b8 (Q,c) (gw e s l.length i l[i].D)::b8 (K,bc) (gV l[i].d.data)::iC x y::cP y::Row r 205 [i8 s,.slice (some v) l.length cap]::R) (by(repeat first|exact .refl|(apply aP.cons;focus repeat first|exact .head|apply nW.tail)|exact .nil|apply aP.drop))) ?_;refine zt (s:=zG d (cV (eh e s l.length ((l.map aj.D).take i) 0)) (aV.own (aQ _) (.head _) (by simp) bm) O) (h:=?_);intro _ _;refine w ?_;have bs:y.length=2*i:=by
   have:=JB List.length S;rw[ew,cj,j1,Nat.min_eq_left zO]at this;exact this
  refine zq ?_;refine ay.bP yf rfl rfl (by simp[Value.oneCell']) (by decide) rfl ?_;intro nb;refine zq ?_;refine ay.cg yf rfl rfl zh zm rfl (by simp[Value.oneCell']) ?_ ?_ rfl ?_
  · simp only[maxLen];omega
  · omega
  intro so sc;refine w ?_;have an:=DC (e:=e) (s:=s) (n:=l.length) C;have ag:=Eb (e:=e) (s:=s) (n:=l.length) C;rw[M]at an ag;refine VE.round (i+1,y++[⟨Q,c,gw e s l.length i l[i].D⟩,⟨K,bc,gV l[i].d.data⟩],(so,sc)) ⟨by simp only;omega,by simp only;rw[jv,S,ag];rfl⟩ (by simp only;omega) ⟨rfl,rfl,rfl,b7 rfl (by simp),rfl,rfl,rfl,b7 rfl (by congr 1),trivial⟩ ?_;dsimp only;rw[J9,an];refine ae.trans (ae.re (L:=b8 (Q,c) (gw e s l.length i l[i].D)::cP y::b8 (K,bc) (gV l[i].d.data)::mY d (sT (cV (eh e s l.length ((l.map aj.D).take i) 0)) (gw e s l.length i l[i].D))::Sl.Own 38 1 (.slice so (y.length+2) sc) (y.length+2) (y.map aU.ei++[aU.ei ⟨Q,c,gw e s l.length i l[i].D⟩,aU.ei ⟨K,bc,gV l[i].d.data⟩])::Row r 205 [i8 s,.slice (some v) l.length cap]::R)) ?_;refine ae.trans (MY ⟨Q,c,gw e s l.length i l[i].D⟩ ⟨K,bc,gV l[i].d.data⟩) ?_;rw[show sT (cV (eh e s l.length ((l.map aj.D).take i) 0)) (gw e s l.length i l[i].D)=cV (eh e s l.length ((l.map aj.D).take i) 0++gw e s l.length i l[i].D)from(um _ _ _).symm];exact ae.re
 have B:i=l.length:=by have:=dx c;omega
 subst B;have au:(l.map aj.D).take l.length=l.map aj.D:=by rw[<-j,SP]
 rw[au]at S⊢;have bs:y.length=2*l.length:=by
  have:=JB List.length S;rw[ew,cj,j]at this;exact this
 have hC:fB e s (l.map aj.D)=⟨e,s,l.length,(cV (eh e s l.length (l.map aj.D) 0)).toNat⟩:=by unfold fB;rw[j]
 have P:eM e s (l.map aj.D)=dp e s l.length (l.map aj.D) 0++[(fB e s (l.map aj.D)).enc.2]:=by unfold eM;rw[j]
 have bh:(fB e s (l.map aj.D)).aX:=⟨G,by simp only[fB];omega⟩;have bb:(fB e s (l.map aj.D)).enc.1=0:=by rw[wy bh]
 have bf:(fB e s (l.map aj.D)).fit:=⟨he,hs,by simp only[fB];omega,(cV _).isLt⟩;refine w ?_;refine zx [5,7] 12 [0,1,2,3,4,5,6,7,8,9,10,11,12] _ ?_;refine zt (s:=zI d _) (h:=?_);intro _ _;refine⟨ae.re,?_⟩;refine w ?_;apply VD.take rfl rfl rfl;apply af.build sb_395 rfl;simp[aC,bR,Value.cells];rfl;rfl;refine w ?_;have X:=Hp (W:=W) (R:=mY d (cV (eh e s l.length (l.map aj.D) 0))::iC x y::cP y::Row r 205 [i8 s,.slice (some v) l.length cap]::R) (fB e s (l.map aj.D)) bf;rw[bb,show(fB e s (l.map aj.D)).cells=[i8 e,i8 s,ii l.length,.int .u32 ((cV (eh e s l.length (l.map aj.D) 0)).toNat:Int)]by rw[hC]]at X;refine zt (s:=X) (h:=?_);rintro⟨ca,cc⟩-;refine⟨ae.re,?_⟩;refine w ?_;refine zq ?_;refine ay.bP yf rfl rfl (by simp[Value.oneCell']) (by decide) rfl ?_;intro nb;refine zq ?_;refine ay.cg yf rfl rfl zh zm rfl (by simp[Value.oneCell']) ?_ ?_ rfl ?_
 · simp only[maxLen];omega
 · omega
 intro so sc;refine w ?_;refine VE.done ((so,sc),y++[⟨ca,cc,(fB e s (l.map aj.D)).enc.2⟩]) rfl ?_ (by simp) ?_
 ·
  simp only;rw[jv,S,P];rfl
 dsimp only;rw[J8];refine ae.trans (ae.re (L:=b8 (ca,cc) (fB e s (l.map aj.D)).enc.2::cP y::Sl.Own 38 1 (.slice so (y.length+1) sc) (y.length+1) (y.map aU.ei++[aU.ei ⟨ca,cc,(fB e s (l.map aj.D)).enc.2⟩])::R)) ?_;refine ae.trans (λw E=>du (res:=aU.res) (a:=(⟨ca,cc,(fB e s (l.map aj.D)).enc.2⟩:aU)) E) ?_;exact ae.re
theorem nP{W:World}{R:List ab}{ao:Option Addr}{k cap n:Nat}(a:k=n*128)(b:n<=1099511627776):az W Tryz.prog 266 [.slice ao k cap] R (ii (n:Int)) R:=by
 subst a;refine ze Tryz.func266 Tryz.ntmps266 ?_;refine VO.pure rfl rfl (af.quo rfl rfl (by decide) (by rw[Nat.mul_div_cancel n (by decide)];exact IntWalk.i64_in _ ⟨by omega,by omega⟩)) rfl ?_;refine w ?_;refine VE.ax rfl (by rw[Nat.mul_div_cancel n (by decide)]) ae.re
theorem Pb{W:World}{R:List ab}{ao:Option Addr}{k cap:Nat}(at_:Int):aq W Tryz.prog 302 [.slice ao k cap,ii at_] R (β:=Nat×Nat) (λ_=>True) (λx=>.func (.func 330) #[] #[ip x.1,ip x.2]) (λx=>Row x.1 350 [.slice ao k cap]::Row x.2 3 [ii at_]::R):=by
 refine ze Tryz.func302 Tryz.ntmps302 ?_;refine zj λ_=>?_;refine w ?_;refine zj λ_=>?_;refine w ?_;rename_i a b;refine VO.pure rfl rfl (af.bB rfl) rfl ?_;refine w ?_;exact VE.done (a,b) rfl trivial rfl ae.re
theorem Mb{W:World}{τ:Type}{c:Addr}{cap n:Nat}(L:n<=2048)(v:n*128<=cap)(at_:Nat)(J:at_<n)(l d e:Nat)(b:Loop)(A2:τ->Prop)(G:Nat->List ab)(G2:τ->List ab)
  (q:∀i,i<n->rD W Tryz.prog l [ii i,.slice (some (c.add ((at_+i)%n*128))) 128 (cap-(at_+i)%n*128)]
   (cR l b::Row d 350 [.slice (some c) (n*128) cap]::Row e 3 [ii at_]::G i) (cR l b::Row d 350 [.slice (some c) (n*128) cap]::Row e 3 [ii at_]::G (i+1)) A2 (λx=>cR l (Loop.done b)::G2 x)):
  aq W Tryz.prog 330 [.func (.yield l) #[] #[],ip d,ip e] (cR l b::Row d 350 [.slice (some c) (n*128) cap]::Row e 3 [ii at_]::G 0) (β:=Option τ) (λo=>o.elim True A2) (λ_=>.tuple #[])
   (λo=>o.elim (cR l b::Row d 350 [.slice (some c) (n*128) cap]::Row e 3 [ii at_]::G n) λx=>cR l (Loop.done b)::G2 x):=by
 (refine aq.L1 Tryz.func330 Tryz.ntmps330 rfl rfl ?_);refine wr ?_;refine zt (s:=nP rfl zO) (h:=?_);intro _ _;refine wr ?_
 refine VR.loop (α:=Nat) (λi=>i<=n) (λi=>cR l b::Row d 350 [.slice (some c) (n*128) cap]::Row e 3 [ii at_]::G i)
  (λi=>[(0,.func (.yield l) #[] #[]),(1,ip d),(2,ip e),(7,ii n),(8,ii i)]) (λi=>n-i) rfl 0 (c7 _) ae.re zB ?_
 intro i K;refine wr ?_;(refine VR.cond rfl rfl ?_ ?_<;>intro u)
 ·
  have j:i<n:=by have:=cI u;omega
  refine wr ?_;refine VR.quiet rfl (by kernel_rfl) (by kernel_rfl) ?_;refine wr ?_;refine VQ.call rfl rfl rfl rfl (λ_ _=>by simp) (nP rfl zO) ae.refl ae.refl rfl ?_;apply VQ.pure rfl rfl
  · exact af.rem (a:=at_+i) (b:=n) rfl rfl zO
  · rfl
  have M:(at_+i)%n<n:=qX _ zO;(((first|apply VO.pure rfl rfl|apply VQ.pure rfl rfl|apply VD.take rfl rfl rfl|(refine VD.end rfl rfl rfl ?_;apply ay.pure));exact zp;rfl));(((first|apply VO.pure rfl rfl|apply VQ.pure rfl rfl|apply VD.take rfl rfl rfl|(refine VD.end rfl rfl rfl ?_;apply ay.pure));exact zp;rfl));refine VQ.re 5 (ii (((at_+i)%n*128:Nat):Int)) rfl (by congr 1) ?_;refine VQ.nil rfl ?_;refine VE.sh ?_;refine VF.next ?_;refine VR.seq rfl ?_;refine VR.HX rfl ?_;iterate 6 ((apply VI.pure rfl rfl;exact zp;rfl))
  have F:(at_+i)%n*128+128<=cap:=by omega
  have p:∀{f:Fr}{H:List ab}{m:Nat}{x y z:Operand}{dst:Option Tmp}{ty_:TypeId}{pos:String}{after:Array Edge}{guard:Option (Nat×Bool)}{k A:IntKind}{t:TypeId},aD f x=some (.slice (some c) m cap)->aD f y=some (.int k (((at_+i)%n*128:Nat):Int))->aD f z=some (.int A (((at_+i)%n*128+128:Nat):Int))->aI.N9 Ux t=some 1->
    af W Tryz.prog 28 H f {dst,op:= .slice t x (some y) (some z) none,type:=ty_,pos,after,guard} (.slice (some (c.add ((at_+i)%n*128))) 128 (cap-(at_+i)%n*128)):=by
   intro f H m x y z dst ty_ pos after guard k A t B C D E;have r:=af.sw (W:=W) (n:=28) (H:=H) (dst:=dst) (ty_:=ty_) (pos:=pos) (after:=after) (guard:=guard) ah B C D E zO F;rw[qi zO,Nat.mul_one,Nat.add_sub_cancel_left]at r;exact r
  apply VI.pure rfl rfl
  · exact p rfl rfl rfl rfl
  · rfl
  refine VI.yield rfl rfl rfl rfl (q i j) ae.refl rfl ?_ (λx I=>?_)
  ·
   apply VI.pure rfl rfl;exact zp;rfl;refine VI.nil rfl ?_;refine wr ?_;exact VF.round (i+1) zO zO ⟨rfl,rfl,rfl,rfl,b7 rfl (by congr 1),trivial⟩ ae.re
  ·
   apply VI.pure rfl rfl;exact zp;rfl;refine VI.nil rfl ?_;refine wr ?_;exact VF.done (.inl rfl) (some x) q8 I rfl ae.refl
 have g:i=n:=by have:=dx u;omega
 subst g;refine wr ?_;exact VF.done (.inr rfl) none q8 trivial rfl ae.re
theorem Qj{z:Nat}(h:z<2^64):(Lit.int .u64 (z:Int)).wf=true:=by simp[Lit.wf,IntKind.min,IntKind.max,IntKind.signed,IntKind.bits];omega
theorem TM{z:Nat}(h:z<4294967296):(Lit.int .u32 (z:Int)).wf=true:=by simp[Lit.wf,IntKind.min,IntKind.max,IntKind.signed,IntKind.bits];omega
theorem TL{z:Int}(h:-9223372036854775808<=z/\z<=9223372036854775807):(Lit.int .i64 z).wf=true:=by simp[Lit.wf,IntKind.min,IntKind.max,IntKind.signed,IntKind.bits];omega
theorem IV(a b:bZ):a=b↔a.epoch=b.epoch/\a.seq=b.seq/\a.count=b.count/\a.sum=b.sum:=by cases a;cases b;simp
theorem OS{W:World}{n:Nat}{H:List ab}{f:Fr}{dst:Option Tmp}{ty_:TypeId}{pos:String}{after:Array Edge}{guard:Option (Nat×Bool)}{op:BinOp}{x y:Operand}{u:TypeId}{v:Value}{a b:bZ}(i:aD f x=some (.agg a.cells.toArray))(j:aD f y=some (.agg b.cells.toArray))(d:a.fit)(e:b.fit)(g:CA op (decide (a=b))=some v):
  af W Tryz.prog n H f {dst,op:= .binOp op 395 x y u,type:=ty_,pos,after,guard} v:=by
 refine af.L3 (ks:=[some .u64,some .u64,some .i64,some .u32]) (cs:=a.cells) (ds:=b.cells) (by kernel_rfl) i j rfl rfl rfl rfl ?_ ?_ ?_ g
 ·
  intro l c;simp only[List.mem_cons,TW,or_false]at c;rcases c with h|h|h|h<;>subst h<;>first|exact Qj d.epoch|exact Qj d.seq|exact TL d.count|exact TM d.sum
 ·
  intro l c;simp only[List.mem_cons,TW,or_false]at c;rcases c with h|h|h|h<;>subst h<;>first|exact Qj e.epoch|exact Qj e.seq|exact TL e.count|exact TM e.sum
 · rw[decide_eq_true_iff,IV];simp;omega
theorem LV(b:List UInt8):(bZ.dec b).2.fit:=by
 have a:oe.fit:=⟨by decide,by decide,by decide,by decide⟩;unfold bZ.dec;split
 · exact a
 ·
  split
  · exact Hk b
  · exact a
theorem FA(b:List UInt8):0<=(aM.dec b).2.count/\(aM.dec b).2.count<=1023:=by
 by_cases h:(aM.dec b).1=0
 · have:=(lu h).2.1.2.1;omega
 ·
  unfold aM.dec at h⊢;split
  · exact⟨by show(0:Int)<=j6.count;decide,by show j6.count<=1023;decide⟩
  ·
   rename_i a;rw[aE a]at h;split
   · rename_i c;rw[lam c]at h;exact lcs rfl h
   · exact⟨by show(0:Int)<=j6.count;decide,by show j6.count<=1023;decide⟩
structure KW where
  aA:List aj
  x:Option Addr×Nat
  head:aM
  lO:Int
def Ph(sec:fN)(e s:Nat)(n:Int)(j:Nat):Prop:=
  (aM.dec (sec (2*j))).1=0/\(aM.dec (sec (2*j))).2.epoch=e/\(aM.dec (sec (2*j))).2.seq=s/\(aM.dec (sec (2*j))).2.index=j/\(aM.dec (sec (2*j))).2.count=n
structure om(sec:fN)(room e s i:Nat)(st:KW):Prop where
  zero:i=0->st.lO=0
  pos:0<i->st.lO=en sec/\1<=en sec/\en sec<=1023/\(aM.dec (sec 0)).1=0/\2*en sec+1<=room/\(i:Int)<=2*en sec
  each:∀j,2*j+1<i->yh sec e s (en sec) j
  Uw:∀j,i=2*j+1->Ph sec e s (en sec) j/\st.head=(aM.dec (sec (2*j))).2
  aA:st.aA.map aj.D=(List.range (i/2)).map (jx sec)
theorem om.start(sec:fN)(room e s:Nat)(x:Option Addr×Nat):om sec room e s 0 ⟨[],x,j6,0⟩:=
 ⟨λ_=>rfl,λh=>lcs h zO,λj h=>lcs h zO,λj h=>lcs h zO,rfl⟩
theorem sU{sec:fN}(h:(aM.dec (sec 0)).1=0):1<=en sec/\en sec<=1023:=(lu h).2.1.2.1
theorem IF{sec:fN}{room e s i:Nat}{st:KW}(h:om sec room e s i st)(d:i=room):iv sec room e s=none:=by
 unfold iv;rw[aE];rintro⟨a,b,_⟩;have c:=sU a;rcases Nat.eq_zero_or_pos i with hi|hi
 · omega
 · have:=h.pos hi;omega
theorem IE{sec:fN}{room e s i j:Nat}{st:KW}(h:om sec room e s i st)(l:i=2*j)(g:0<i->i≠2* (en sec).toNat)(a:¬(Ph sec e s (en sec) j/\2*en sec+1<=room)):iv sec room e s=none:=by
 unfold iv;rw[aE];rintro⟨c,d,f,_⟩;have k:=sU c;refine a ⟨?_,d⟩;have b:j<(en sec).toNat:=by
  rcases Nat.eq_zero_or_pos i with hi|hi
  · omega
  · have:=h.pos hi;have:=g hi;omega
 have:=f j b;exact⟨this.1,this.2.1,this.2.2.1,this.2.2.2.1,this.2.2.2.2.1⟩
theorem ID{sec:fN}{room e s i j:Nat}{st:KW}(h:om sec room e s i st)(f:i=2*j+1)(a:¬((ow (sec (2*j+1)) (aM.dec (sec (2*j))).2.cw).2=0/\(cV (sec (2*j+1))).toNat=(aM.dec (sec (2*j))).2.sum)):iv sec room e s=none:=by
 unfold iv;rw[aE];rintro⟨c,d,b,_⟩;have g:=h.pos zO;have:=b j zO;exact a this.2.2.2.2.2
theorem OC{sec:fN}{room e s i:Nat}{st:KW}(h:om sec room e s i st)(f:0<i)(k:(i:Int)=2*en sec):
  (iv sec room e s).isSome=decide (bZ.dec (sec i)=(0,⟨e,s,en sec,(cV (fE sec (en sec).toNat)).toNat⟩))/\∀l,iv sec room e s=some l->st.aA.map aj.D=l:=by
 have d:=h.pos f;have a:i=2* (en sec).toNat:=by omega
 unfold iv;constructor
 ·
  by_cases c:bZ.dec (sec i)=(0,⟨e,s,en sec,(cV (fE sec (en sec).toNat)).toNat⟩)
  ·
   rw[lam,ky c];· rfl
   exact⟨d.2.2.2.1,d.2.2.2.2.1,λj g=>h.each j zO,by rw[<-a];exact c⟩
  ·
   rw[aE,gx c];· rfl
   rintro⟨_,_,_,q⟩;rw[<-a]at q;exact c q
 ·
  intro l b;split at b
  ·
   injection b with b;rw[<-b,h.aA,show i/2=(en sec).toNat by omega]
  · cases b
theorem om.Jv{sec:fN}{room e s i j:Nat}{st:KW}(h:om sec room e s i st)(l:i=2*j)(b:Ph sec e s (en sec) j)(a:2*en sec+1<=room)(g:(j:Int)<en sec)(c:(aM.dec (sec 0)).1=0):
  om sec room e s (i+1) ⟨st.aA,st.x,(aM.dec (sec (2*j))).2,en sec⟩:=by
 have d:=sU c;refine⟨λq=>lcs q zO,λ_=>⟨rfl,d.1,d.2,c,a,by omega⟩,λk f=>h.each k zO,λk f=>?_,?_⟩
 ·
  obtain rfl:k=j:=by omega
  exact⟨b,rfl⟩
 ·
  show st.aA.map aj.D=_;rw[h.aA,show(i+1)/2=i/2 by omega]
theorem om.I3{sec:fN}{room e s i j:Nat}{st:KW}(h:om sec room e s i st)(g:i=2*j+1)(x:Option Addr×Nat)(p:aj)(l:p.D=jx sec j)
  (c:(ow (sec (2*j+1)) (aM.dec (sec (2*j))).2.cw).2=0/\(cV (sec (2*j+1))).toNat=(aM.dec (sec (2*j))).2.sum):om sec room e s (i+1) ⟨st.aA++[p],x,st.head,st.lO⟩:=by
 have a:=h.pos zO;have b:=h.Uw j g;refine⟨λq=>lcs q zO,λ_=>⟨a.1,a.2.1,a.2.2.1,a.2.2.2.1,a.2.2.2.2.1,by omega⟩,λk f=>?_,λk f=>lcs f zO,?_⟩
 ·
  by_cases d:k=j
  ·
   subst d;exact⟨b.1.1,b.1.2.1,b.1.2.2.1,b.1.2.2.2.1,b.1.2.2.2.2,c.1,c.2⟩
  · exact h.each k zO
 ·
  show(st.aA++[p]).map aj.D=_;rw[jv,h.aA,show i/2=j by omega,show(i+1)/2=j+1 by omega,KQ,jv,BI,HG,l];rfl
theorem O5{W:World}{P:Program}{g:FuncId}{args:List Value}{H H':List ab}{β:Type}{A:β->Prop}{r:β->Value}{G:β->List ab}(e:ae W H H')(h:aq W P g args H' A r G):aq W P g args H A r G:=by
 unfold aq at h⊢;exact λw a=>h w (e w a)
structure vR where
  n7:Nat
  n8:Nat
  n9:Nat
  n10:Nat
  n11:Nat
  n12:Nat
  n13:Nat
  n14:Nat
  n15:Nat
  d:Nat
def uW(room e s:Nat)(B:vR)(R:List ab):List ab:=
  Row B.n7 3 [ii room]::Row B.n8 43 [i8 e]::Row B.n9 43 [i8 s]::Row B.n15 389 [ip B.d]::R
def we(sec:fN)(s:Nat)(B:vR)(i:Nat)(st:KW):List ab:=
  [Row B.n12 205 [i8 s,.slice st.x.1 st.aA.length st.x.2],Row B.n13 388 st.head.cells,Row B.n14 3 [ii st.lO],mY B.d (cV (fE sec ((i+1)/2))),bL st.x st.aA,bX st.aA]
def OA(sec:fN)(room e s:Nat)(B:vR)(i:Nat):ab:=ex λst:KW=>star (fact (om sec room e s i st)::we sec s B i st)
theorem wg{W:World}{R:List ab}{sec:fN}{room e s i:Nat}{B:vR}{st:KW}(h:om sec room e s i st):ae W (we sec s B i st++R) (OA sec room e s B i::R):=λw a=>
 Holds.dU st (Holds.nest (L:=fact (om sec room e s i st)::we sec s B i st) (Holds.gG h a))
theorem CR{W w:World}{R:List ab}{sec:fN}{room e s i:Nat}{B:vR}(h:Holds W (OA sec room e s B i::R) w):∃st:{st:KW//om sec room e s i st},Holds W (we sec s B i st.1++R) w:=by
 obtain⟨st,b⟩:=h.gW;have a:Holds W (fact (om sec room e s i st)::(we sec s B i st++R)) w:=b.join;exact⟨⟨st,a.iX⟩,a.tail⟩
theorem IB{W:World}{R:List ab}{sec:fN}{room e s:Nat}{B:vR}:
  ae W (Row B.n12 205 [i8 s,.slice none 0 0]::Row B.n13 388 j6.cells::Row B.n14 3 [ii 0]::mY B.d 0#32::R) (OA sec room e s B 0::R):=λw c=>by
 have b:=(di (res:=aj.res) c).aZ 207 3;refine wg (om.start sec room e s (none,0)) w ?_;have a:cV (fE sec ((0+1)/2))=0#32:=C9 _;unfold we;rw[a];exact(ae.re:ae W _ _) w b
def Ln(B:vR)(t:bF)(ok:Bool):List ab:=[Row B.n10 205 t.cells,Row B.n11 4 [.bool ok]]
theorem N4{W:World}{n:Nat}{m:Md}{Q:Exit->Act->World->Prop}{e:Exit}{H:List ab}{f:Fr}(h:∀w,Holds W H w->False):VF W n m Q e H f:=by
 unfold VF;exact λ_ t w b a=>(h w a).elim
theorem Lq{W:World}{R:List ab}{o:Addr}{cap n:Nat}{data:List UInt8}(hn:n<=2048)(G:n*128<=cap)(at_ room e s:Nat)(ha:at_<n)(bp:room<=n)(he:e<2^64)(hs:s<2^64)(hd:data.length=n*128)(hr:aV W R 1 (some o) (n*128) (bytes data))(sec:fN)(H:∀i,sec i=(data.drop ((at_+i)%n*128)).take 128):
    aq W Tryz.prog 267 [.slice (some o) (n*128) cap,ii at_,ii room,i8 e,i8 s] R (β:=bF) (λt=>t.seq=s/\∀l,iv sec room e s=some l->t.aA.map aj.D=l) (λt=>.tuple #[.agg t.cells.toArray,.bool (iv sec room e s).isSome]) (λt=>bL (t.ao,t.cap) t.aA::bX t.aA::R):=by
  have C:∀i,(sec i).length=128:=by
    intro i;have hm:(at_+i)%n<n:=qX _ zO;rw[H,j1,CC,hd];omega
  have E:∀i,aV W R 1 (some (o.add ((at_+i)%n*128))) (sec i).length (bytes (sec i)):=by
    intro i;have hm:(at_+i)%n<n:=qX _ zO;have F:=hr.sub (cap:=cap) (l:=(at_+i)%n*128) (h:=(at_+i)%n*128+128) zO zO G;rw[qi zO,Nat.add_sub_cancel_left,Nat.mul_one,Nat.mul_one]at F;rw[C i,H];have e1:bytes ((data.drop ((at_+i)%n*128)).take 128)=((bytes data).drop ((at_+i)%n*128)).take 128:=by simp[bytes,List.map_take,List.map_drop]
    rw[e1];exact F
  refine aq.L2 Tryz.func267 Tryz.ntmps267 rfl rfl ?_;refine wr ?_;repeat (refine zj λ_=>?_;refine wr ?_)
  rename_i n7 n8 n9;refine zq ?_;refine ay.aB sb_205 rfl ?_;intro n10;refine wr ?_;refine zq ?_;refine ay.alloc (z:= .bool false) (λw=>by simp) rfl rfl ?_;intro n11;refine wr ?_;apply VO.pure rfl rfl;apply af.build sb_205 rfl;simp[aC,bR,Value.cells];rfl;rfl;refine zq ?_;refine ay.aB sb_205 rfl ?_;intro n12;refine wr ?_;refine zq ?_;refine ay.gL (vs:=[i8 s,.slice none 0 0]) ah rfl rfl rfl rfl (by simp[Value.oneCell']) zh (by simp) ?_;refine wr ?_;refine zq ?_;refine ay.aB sb_388 rfl ?_;intro n13;refine wr ?_;refine zq ?_;refine ay.alloc (z:=ii 0) (λw=>by simp) rfl rfl ?_;intro n14;refine wr ?_;refine zt (s:=zH) (h:=?_);intro d _;refine wr ?_;refine zq ?_;refine ay.alloc (z:= .pointer none) (λw=>by simp) rfl rfl ?_;intro n15;refine wr ?_;refine zt (s:=Pb at_) (h:=?_);rintro⟨v,y⟩-;refine wr ?_;refine VR.aR (H':=OA sec room e s ⟨n7,n8,n9,n10,n11,n12,n13,n14,n15,d⟩ 0::Row v 350 [.slice (some o) (n*128) cap]::Row y 3 [ii at_]::Row n10 205 [i8 0,.slice none 0 0]::Row n11 4 [.bool false]::uW room e s ⟨n7,n8,n9,n10,n11,n12,n13,n14,n15,d⟩ R) (ae.trans ?_ (IB (B:=⟨n7,n8,n9,n10,n11,n12,n13,n14,n15,d⟩))) ?_
  · unfold uW;exact ae.re
  refine VR.range (τ:=bF) (gf:=330) (cap:=#[ip v,ip y]) (λt=>t.seq=s/\∀l,iv sec room e s=some l->t.aA.map aj.D=l)
    (Row v 350 [.slice (some o) (n*128) cap]::Row y 3 [ii at_]::OA sec room e s (vR.mk n7 n8 n9 n10 n11 n12 n13 n14 n15 d) n::Row n10 205 [i8 0,.slice none 0 0]::Row n11 4 [.bool false]::uW room e s (vR.mk n7 n8 n9 n10 n11 n12 n13 n14 n15 d) R)
    (λt=>Ln (vR.mk n7 n8 n9 n10 n11 n12 n13 n14 n15 d) t (iv sec room e s).isSome++(bL (t.ao,t.cap) t.aA::bX t.aA::R)) rfl rfl (λ_ _=>by simp) ?_ ?_ ?_
  · intro l D b F Y U Z V hk
    refine O5 (H':=cR l b::Row v 350 [.slice (some o) (n*128) cap]::Row y 3 [ii at_]::At D (.deferred (some []))::OA sec room e s (vR.mk n7 n8 n9 n10 n11 n12 n13 n14 n15 d) 0::Row n10 205 [i8 0,.slice none 0 0]::Row n11 4 [.bool false]::uW room e s (vR.mk n7 n8 n9 n10 n11 n12 n13 n14 n15 d) R) ae.re ?_
    refine aq.mono (Mb hn G at_ ha l v y b (λt:bF=>t.seq=s/\∀l,iv sec room e s=some l->t.aA.map aj.D=l)
      (λi=>At D (.deferred (some []))::OA sec room e s (vR.mk n7 n8 n9 n10 n11 n12 n13 n14 n15 d) i::Row n10 205 [i8 0,.slice none 0 0]::Row n11 4 [.bool false]::uW room e s (vR.mk n7 n8 n9 n10 n11 n12 n13 n14 n15 d) R)
      (λt=>At D (.deferred (some []))::(Ln (vR.mk n7 n8 n9 n10 n11 n12 n13 n14 n15 d) t (iv sec room e s).isSome++(bL (t.ao,t.cap) t.aA::bX t.aA::R))) ?_) id (λ_ h=>h) (λ_ _=>rfl) ?_
    · intro i hi
      refine rD.body hk F Y (by rw[U];rfl) (by rw[U];rfl) ?_
      rw[U,Z,V]
      refine wr ?_
      refine VF.begin (τ:=Unit) (A2:=λ_=>True) (G2:=λ_=>[]) (G1:=[]) F ?_
      refine VR.aR (H':=OA sec room e s (vR.mk n7 n8 n9 n10 n11 n12 n13 n14 n15 d) i::cR l (Loop.busy b)::Row v 350 [.slice (some o) (n*128) cap]::Row y 3 [ii at_]::At D (.deferred (some []))::Row n10 205 [i8 0,.slice none 0 0]::Row n11 4 [.bool false]::uW room e s (vR.mk n7 n8 n9 n10 n11 n12 n13 n14 n15 d) R) ae.re ?_
      refine VR.obtain (λw N=>CR N) ?_
      rintro⟨st,m⟩
      obtain⟨aA,x,ei,lO⟩:=st
      dsimp only[we,uW,List.cons_append,List.nil_append]
      refine VR.re 17 (.slice (some (o.add ((at_+i)%n*128))) (sec i).length (cap-(at_+i)%n*128)) rfl (by rw[C i]) ?_
      refine wr ?_
      (refine VR.cond rfl rfl ?_ ?_<;>intro f)
      · have k:=IF m (by have:=f;simp at this;omega)
        refine wr ?_;refine zq ?_;refine ay.gL (vs:=[i8 s,.slice x.1 aA.length x.2]) ah rfl rfl rfl rfl (by simp[Value.oneCell']) zh (by simp) ?_;refine wr ?_;refine VF.stop (⟨s,x.1,x.2,aA⟩:bF) ⟨rfl,λl g=>by rw[k]at g;cases g⟩ ?_;rw[k];exact ae.re
      have bx:i≠room:=by have:=f;simp at this;omega
      clear f
      have bt:0<=lO/\lO<=1023:=by
        rcases Nat.eq_zero_or_pos i with h0|h0
        · have:=m.zero h0;simp only at this;omega
        · have:=m.pos h0;simp only at this;omega
      have br:(at_+i)%n<n:=qX _ zO
      have M:(sec i).length<=cap-(at_+i)%n*128:=by rw[C];omega
      refine VR.seq rfl ?_
      refine VR.qx [(65,.bool (decide (0<lO/\(i:Int)=2*lO))),(7,ip n7),(8,ip n8),(9,ip n9),(10,ip n10),(11,ip n11),(12,ip n12),(13,ip n13),(14,ip n14),(15,ip n15),(16,ii i),(17,.slice (some (o.add ((at_+i)%n*128))) (sec i).length (cap-(at_+i)%n*128))] ?_ ?_
      · intro Q2 I
        refine wr ?_
        refine zg ?_ ?_<;>intro c
        · refine wr ?_
          exact I.to () trivial ⟨b7 rfl (by have h0:0<lO:=by simpa using c
                                            congr 1;rw[Bool.eq_iff_iff];simp[h0]),rfl,rfl,rfl,rfl,rfl,rfl,rfl,rfl,rfl,rfl,rfl,trivial⟩ ae.re
        · refine wr ?_
          exact I.to () trivial ⟨b7 rfl (by have h0:¬0<lO:=by simpa using c
                                            congr 1;rw[Bool.eq_iff_iff];simp[h0]),rfl,rfl,rfl,rfl,rfl,rfl,rfl,rfl,rfl,rfl,rfl,trivial⟩ ae.re
      refine wr ?_
      (refine VR.cond rfl rfl ?_ ?_<;>intro f)
      · have aa:0<lO/\(i:Int)=2*lO:=by simpa using f
        have S:0<i:=by omega
        have J:=(m.pos S).1
        refine wr ?_
        refine zt (s:=OW ((E i).aR ae.re) M) (h:=?_)
        intro _ _
        refine wr ?_
        refine zq ?_;refine ay.aB sb_395 rfl ?_;intro n18
        refine wr ?_
        refine zq ?_
        refine ay.gL (vs:=(bZ.dec (sec i)).2.cells) ah rfl rfl rfl rfl (by simp[Value.oneCell']) zh (by simp) ?_
        refine wr ?_
        refine VR.aR (H':=mY d (cV (fE sec ((i+1)/2)))::Row n18 395 (bZ.dec (sec i)).2.cells::Row n12 205 [i8 s,.slice x.1 aA.length x.2]::Row n14 3 [ii lO]::bL x aA::bX aA::cR l (Loop.busy b)::Row v 350 [.slice (some o) (n*128) cap]::Row y 3 [ii at_]::At D (.deferred (some []))::Row n10 205 [i8 0,.slice none 0 0]::Row n11 4 [.bool false]::Row n8 43 [i8 e]::Row n9 43 [i8 s]::Row n15 389 [ip d]::R) ae.re ?_
        refine VR.drawn [9,13] 14 [0,1,2,3,4,5,6,7,8,9,10,11,12,13,14] (mY d (cV (fE sec ((i+1)/2)))::Row n18 395 (bZ.dec (sec i)).2.cells::Row n12 205 [i8 s,.slice x.1 aA.length x.2]::Row n14 3 [ii lO]::Row n8 43 [i8 e]::Row n9 43 [i8 s]::Row n15 389 [ip d]:: []) rfl (by kernel_rfl) (by kernel_rfl) ae.re ?_
        refine wr ?_
        obtain⟨T,A⟩:=OC m S (by rw[<-J];exact aa.2)
        have ad:(bZ.dec (sec i)).2.fit:=LV _
        have ba:(i+1)/2=(en sec).toNat:=by rw[<-J];simp only;omega
        have ag:(bZ.mk e s lO (cV (fE sec ((i+1)/2))).toNat).fit:=⟨he,hs,by simp only;omega,(cV _).isLt⟩
        have hq:(iv sec room e s).isSome=decide (bZ.dec (sec i)=(0,bZ.mk e s lO (cV (fE sec ((i+1)/2))).toNat)):=by rw[T,ba,<-J]
        refine zg ?_ ?_<;>intro c
        · have h0:(bZ.dec (sec i)).1=0:=by simpa using c
          refine wr ?_
          refine zr (s:=zI d _) (h:=?_)
          intro _ _
          refine⟨ae.re,?_⟩
          refine wr ?_
          apply VD.take rfl rfl rfl;apply af.build sb_395 rfl;simp[aC,bR,Value.cells];rfl;rfl
          refine wr ?_
          refine VD.take rfl rfl rfl (OS (a:=(bZ.dec (sec i)).2) (b:=bZ.mk e s lO (cV (fE sec ((i+1)/2))).toNat) rfl rfl ad ag rfl) rfl ?_
          refine VD.re 90 (.bool (iv sec room e s).isSome) rfl (by
            rw[hq];congr 1;rw[Bool.eq_iff_iff,decide_eq_true_iff,decide_eq_true_iff]
            constructor
            · intro q;rw[<-h0,<-q]
            · intro q;rw[q]) ?_
          refine wr ?_
          refine VD.yC rfl rfl rfl ?_
          refine ay.gL (vs:=[i8 s,.slice x.1 aA.length x.2]) ah rfl rfl rfl rfl (by simp[Value.oneCell']) zh (by simp) ?_
          refine⟨ae.re,?_⟩
          refine wr ?_
          refine VF.stop (⟨s,x.1,x.2,aA⟩:bF) ⟨rfl,A⟩ ?_
          exact ae.re
        · have h0:(bZ.dec (sec i)).1≠0:=by simpa using c
          have bo:(iv sec room e s).isSome=false:=by rw[hq,decide_eq_false_iff_not];intro q;rw[q]at h0;exact h0 rfl
          refine wr ?_
          refine VD.H6 rfl rfl ae.re rfl rfl rfl ?_
          refine wr ?_
          refine VD.yC rfl rfl rfl ?_
          refine ay.gL (vs:=[i8 s,.slice x.1 aA.length x.2]) ah rfl rfl rfl rfl (by simp[Value.oneCell']) zh (by simp) ?_
          refine⟨ae.re,?_⟩
          refine wr ?_
          refine VF.stop (⟨s,x.1,x.2,aA⟩:bF) ⟨rfl,A⟩ ?_
          rw[bo]
          exact ae.re
      have bk:¬(0<lO/\(i:Int)=2*lO):=by simpa using f
      clear f
      refine wr ?_
      refine VO.pure rfl rfl (af.rem (a:=i) (b:=2) rfl rfl (by decide)) rfl ?_
      refine wr ?_
      (refine VR.cond rfl rfl ?_ ?_<;>intro f)
      · obtain⟨j,rfl⟩:∃j,i=2*j:=⟨i/2,by have:=f;simp at this;omega⟩
        clear f
        have bh:0<2*j->2*j≠2* (en sec).toNat:=by
          intro h0 U;have Z:=m.pos h0;simp only at Z;exact bk ⟨by omega,by omega⟩
        have bs:0<=en sec/\en sec<=1023:=FA _
        refine wr ?_
        refine zt (s:=OX ((E (2*j)).aR ae.re) M) (h:=?_)
        intro _ _
        refine wr ?_
        refine zq ?_;refine ay.aB sb_388 rfl ?_;intro n20
        refine wr ?_
        refine zq ?_
        refine ay.gL (vs:=(aM.dec (sec (2*j))).2.cells) ah rfl rfl rfl rfl (by simp[Value.oneCell']) zh (by simp) ?_
        refine wr ?_
        refine VR.join (α:=Unit) (λ_=>True) (λ_=>Row n20 388 (aM.dec (sec (2*j))).2.cells::Row n12 205 [i8 s,.slice x.1 aA.length x.2]::Row n13 388 ei.cells::Row n14 3 [ii (en sec)]::mY d (cV (fE sec ((2*j+1)/2)))::bL x aA::bX aA::cR l (Loop.busy b)::Row v 350 [.slice (some o) (n*128) cap]::Row y 3 [ii at_]::At D (.deferred (some []))::Row n10 205 [i8 0,.slice none 0 0]::Row n11 4 [.bool false]::Row n7 3 [ii room]::Row n8 43 [i8 e]::Row n9 43 [i8 s]::Row n15 389 [ip d]::R) (λ_=>[(7,ip n7),(8,ip n8),(9,ip n9),(10,ip n10),(11,ip n11),(12,ip n12),(13,ip n13),(14,ip n14),(15,ip n15),(16,ii ((2*j:Nat):Int)),(17,.slice (some (o.add ((at_+2*j)%n*128))) (sec (2*j)).length (cap-(at_+2*j)%n*128)),(20,ip n20),(21,i6 (aM.dec (sec (2*j))).1)]) ?_ (λ_ _=>?_)
        · intro Q2 I
          (refine VR.cond rfl rfl ?_ ?_<;>intro f)
          · have K:j=0:=by have:=f;simp at this;omega
            refine wr ?_
            refine I.to () trivial zB ?_
            rw[show en sec=(aM.dec (sec (2*j))).2.count by rw[K];rfl]
            exact ae.re
          · have K:0<2*j:=by have:=f;simp at this;omega
            refine wr ?_
            refine I.to () trivial zB ?_
            rw[<-(m.pos K).1]
            exact ae.re
        refine wr ?_
        have bad:∀{p:Prop},p->(p->¬(Ph sec e s (en sec) j/\2*en sec+1<=room))->iv sec room e s=none:=λhp h=>IE m rfl bh (h hp)
        refine zg ?_ ?_<;>intro c
        · have k:=bad c (λc q=>by have:=c;simp at this;exact this q.1.1)
          refine wr ?_;refine zq ?_;refine ay.gL (vs:=[i8 s,.slice x.1 aA.length x.2]) ah rfl rfl rfl rfl (by simp[Value.oneCell']) zh (by simp) ?_;refine wr ?_;refine VF.stop (⟨s,x.1,x.2,aA⟩:bF) ⟨rfl,λl g=>by rw[k]at g;cases g⟩ ?_;rw[k];exact ae.re
        have g1:(aM.dec (sec (2*j))).1=0:=by simpa using c
        clear c
        refine wr ?_
        refine zg ?_ ?_<;>intro c
        · have k:=bad c (λc q=>by have:=c;simp at this;have:=q.1.2.1;omega)
          refine wr ?_;refine zq ?_;refine ay.gL (vs:=[i8 s,.slice x.1 aA.length x.2]) ah rfl rfl rfl rfl (by simp[Value.oneCell']) zh (by simp) ?_;refine wr ?_;refine VF.stop (⟨s,x.1,x.2,aA⟩:bF) ⟨rfl,λl g=>by rw[k]at g;cases g⟩ ?_;rw[k];exact ae.re
        have g2:(aM.dec (sec (2*j))).2.epoch=e:=by have:=c;simp at this;omega
        clear c
        refine wr ?_
        refine zg ?_ ?_<;>intro c
        · have k:=bad c (λc q=>by have:=c;simp at this;have:=q.1.2.2.1;omega)
          refine wr ?_;refine zq ?_;refine ay.gL (vs:=[i8 s,.slice x.1 aA.length x.2]) ah rfl rfl rfl rfl (by simp[Value.oneCell']) zh (by simp) ?_;refine wr ?_;refine VF.stop (⟨s,x.1,x.2,aA⟩:bF) ⟨rfl,λl g=>by rw[k]at g;cases g⟩ ?_;rw[k];exact ae.re
        have g3:(aM.dec (sec (2*j))).2.seq=s:=by have:=c;simp at this;omega
        clear c
        refine wr ?_
        refine VO.pure rfl rfl (af.quo (a:=2*j) (b:=2) rfl rfl (by decide) (IntWalk.i64_in _ ⟨by omega,by omega⟩)) rfl ?_
        refine wr ?_
        refine zg ?_ ?_<;>intro c
        · have k:=bad c (λc q=>by have:=c;simp at this;have:=q.1.2.2.2.1;omega)
          refine wr ?_;refine zq ?_;refine ay.gL (vs:=[i8 s,.slice x.1 aA.length x.2]) ah rfl rfl rfl rfl (by simp[Value.oneCell']) zh (by simp) ?_;refine wr ?_;refine VF.stop (⟨s,x.1,x.2,aA⟩:bF) ⟨rfl,λl g=>by rw[k]at g;cases g⟩ ?_;rw[k];exact ae.re
        have g4:(aM.dec (sec (2*j))).2.index=j:=by have:=c;simp at this;omega
        clear c
        refine wr ?_
        refine zg ?_ ?_<;>intro c
        · have k:=bad c (λc q=>by have:=c;simp at this;have:=q.1.2.2.2.2;omega)
          refine wr ?_;refine zq ?_;refine ay.gL (vs:=[i8 s,.slice x.1 aA.length x.2]) ah rfl rfl rfl rfl (by simp[Value.oneCell']) zh (by simp) ?_;refine wr ?_;refine VF.stop (⟨s,x.1,x.2,aA⟩:bF) ⟨rfl,λl g=>by rw[k]at g;cases g⟩ ?_;rw[k];exact ae.re
        have g5:(aM.dec (sec (2*j))).2.count=en sec:=by have:=c;simp at this;omega
        clear c
        refine wr ?_
        (refine VR.cond rfl rfl ?_ ?_<;>intro f)
        · have k:=bad f (λf q=>by have:=f;simp at this;have:=q.2;omega)
          refine wr ?_;refine zq ?_;refine ay.gL (vs:=[i8 s,.slice x.1 aA.length x.2]) ah rfl rfl rfl rfl (by simp[Value.oneCell']) zh (by simp) ?_;refine wr ?_;refine VF.stop (⟨s,x.1,x.2,aA⟩:bF) ⟨rfl,λl g=>by rw[k]at g;cases g⟩ ?_;rw[k];exact ae.re
        have g6:2*en sec+1<=room:=by have:=f;simp at this;omega
        clear f
        refine wr ?_
        refine zq ?_
        refine ay.gL (vs:=(aM.dec (sec (2*j))).2.cells) ah rfl rfl rfl rfl (by simp[Value.oneCell']) zh (by simp) ?_
        refine wr ?_
        refine VO.aR (H':=mY d (cV (fE sec ((2*j+1)/2)))::Row n12 205 [i8 s,.slice x.1 aA.length x.2]::Row n13 388 (aM.dec (sec (2*j))).2.cells::Row n14 3 [ii (en sec)]::bL x aA::bX aA::cR l (Loop.busy b)::Row v 350 [.slice (some o) (n*128) cap]::Row y 3 [ii at_]::At D (.deferred (some []))::Row n10 205 [i8 0,.slice none 0 0]::Row n11 4 [.bool false]::Row n7 3 [ii room]::Row n8 43 [i8 e]::Row n9 43 [i8 s]::Row n15 389 [ip d]::R) ae.re ?_
        refine zt (s:=zG d (cV (fE sec ((2*j+1)/2))) ((E (2*j)).aR ae.re) (by rw[C];omega)) (h:=?_)
        intro _ _
        refine wr ?_
        have an:=lu g1
        have X:(aM.dec (sec 0)).1=0:=by
          rcases Nat.eq_zero_or_pos j with q|q
          · rw[q]at g1;exact g1
          · exact(m.pos zO).2.2.2.1
        have bf:(j:Int)<en sec:=by have:=an.2.1.2.2.1;omega
        refine VF.on (τ:=bF) F Y ?_
        refine ae.trans (ae.trans (H':=we sec s (vR.mk n7 n8 n9 n10 n11 n12 n13 n14 n15 d) (2*j+1) ⟨aA,x,(aM.dec (sec (2*j))).2,en sec⟩++(cR l (Loop.busy b)::Row v 350 [.slice (some o) (n*128) cap]::Row y 3 [ii at_]::At D (.deferred (some []))::Row n10 205 [i8 0,.slice none 0 0]::Row n11 4 [.bool false]::uW room e s (vR.mk n7 n8 n9 n10 n11 n12 n13 n14 n15 d) R)) ?_ (wg (m.Jv rfl ⟨g1,g2,g3,g4,g5⟩ g6 bf X))) ae.re
        unfold we uW
        dsimp only[List.cons_append,List.nil_append]
        rw[show sT (cV (fE sec ((2*j+1)/2))) (sec (2*j))=cV (fE sec ((2*j+1+1)/2))by
          rw[show(2*j+1)/2=j by omega,show(2*j+1+1)/2=j+1 by omega];exact(um _ _ _).symm]
        exact ae.re
      obtain⟨j,rfl⟩:∃j,i=2*j+1:=⟨i/2,by have:=f;simp at this;omega⟩
      clear f
      obtain⟨T,Q⟩:=m.Uw j rfl
      simp only at Q
      subst Q
      refine wr ?_
      refine zt (s:=N3 ((E (2*j+1)).aR ae.re) M (aM.dec (sec (2*j))).2.cw) (h:=?_)
      rintro⟨r,u⟩-
      refine VO.bH (p:=r=none->(ow (sec (2*j+1)) (aM.dec (sec (2*j))).2.cw).1.length=0) (λw N=>N.bn (.head _)) ?_
      intro bG
      refine wr ?_
      have bad:∀{p:Prop},p->(p->¬((ow (sec (2*j+1)) (aM.dec (sec (2*j))).2.cw).2=0/\(cV (sec (2*j+1))).toNat=(aM.dec (sec (2*j))).2.sum))->iv sec room e s=none:=λhp h=>ID m rfl (h hp)
      refine VR.qx [(47,.bool (decide (¬((ow (sec (2*j+1)) (aM.dec (sec (2*j))).2.cw).2=0/\(cV (sec (2*j+1))).toNat=(aM.dec (sec (2*j))).2.sum)))),(7,ip n7),(8,ip n8),(9,ip n9),(10,ip n10),(11,ip n11),(12,ip n12),(13,ip n13),(14,ip n14),(15,ip n15),(16,ii ((2*j+1:Nat):Int)),(22,.slice r (ow (sec (2*j+1)) (aM.dec (sec (2*j))).2.cw).1.length u)] ?_ ?_
      · intro Q2 I
        refine VR.drawn [4] 7 [0,1,2,3,5,6,4,7,8] _ rfl (by kernel_rfl) (by kernel_rfl) ae.re ?_
        refine wr ?_
        refine zg ?_ ?_<;>intro c
        · have h0:(ow (sec (2*j+1)) (aM.dec (sec (2*j))).2.cw).2≠0:=by simpa using c
          refine wr ?_
          exact I.to () trivial ⟨b7 rfl (by simp[h0]),rfl,rfl,rfl,rfl,rfl,rfl,rfl,rfl,rfl,rfl,rfl,trivial⟩ ae.re
        · have h0:(ow (sec (2*j+1)) (aM.dec (sec (2*j))).2.cw).2=0:=by simpa using c
          refine wr ?_
          have bb:(sec (2*j+1)).length<=1099511627776:=by rw[C];omega
          refine zt (s:=rq ((E (2*j+1)).aR (ae.drop (ae.drop (ae.drop (ae.drop (ae.drop (ae.drop (ae.drop (ae.drop (ae.drop (ae.drop (ae.drop (ae.drop (ae.drop (ae.drop (ae.drop (ae.drop (ae.drop ae.refl)))))))))))))))))) bb) (h:=?_)
          intro _ _
          refine⟨ae.re,?_⟩
          refine wr ?_
          exact I.to () trivial ⟨b7 rfl (by
            congr 1;rw[Bool.eq_iff_iff];simp only[h0,true_and,decide_eq_true_iff,bne_iff_ne,ne_eq]
            constructor
            · intro q z;exact q (by rw[z])
            · intro q z;exact q zO),rfl,rfl,rfl,rfl,rfl,rfl,rfl,rfl,rfl,rfl,rfl,trivial⟩ ae.re
      refine wr ?_
      (refine VR.cond rfl rfl ?_ ?_<;>intro f)
      · have k:=bad f (λf=>cI f)
        refine wr ?_;refine zq ?_;refine ay.gL (vs:=[i8 s,.slice x.1 aA.length x.2]) ah rfl rfl rfl rfl (by simp[Value.oneCell']) zh (by simp) ?_;refine wr ?_;refine VF.stop (⟨s,x.1,x.2,aA⟩:bF) ⟨rfl,λl g=>by rw[k]at g;cases g⟩ ?_;rw[k];exact ae.re
      have au:(ow (sec (2*j+1)) (aM.dec (sec (2*j))).2.cw).2=0/\(cV (sec (2*j+1))).toNat=(aM.dec (sec (2*j))).2.sum:=by have:=f;simp only[decide_eq_false_iff_not,Decidable.not_not]at this;exact this
      clear f
      have bE:aA.length=j:=by
        have V:=JB List.length m.aA;rw[ew,ew,KN]at V;simp only at V;omega
      have bw:=(m.pos zO).2.2.2.2
      refine wr ?_
      apply VO.pure rfl rfl;apply af.build sb_207 rfl;simp[aC,bR,Value.cells];rfl;rfl
      refine zq ?_
      refine ay.buildSlice (cs:=aj.cells ⟨(aM.dec (sec (2*j))).2.av,(aM.dec (sec (2*j))).2.row,⟨r,u,(ow (sec (2*j+1)) (aM.dec (sec (2*j))).2.cw).1⟩⟩) st_126 rfl rfl (by simp[Value.cells]) rfl (by decide) rfl ?_
      intro nc
      refine zq ?_
      refine ay.cg st_126 rfl rfl zh zm rfl (dI _) (by simp only[maxLen];omega) zO rfl ?_
      intro P O
      refine wr ?_
      refine VF.on (τ:=bF) F Y ?_
      refine ae.trans (ae.re (L:=b8 (r,u) (ow (sec (2*j+1)) (aM.dec (sec (2*j))).2.cw).1::bX aA::Row n12 205 [i8 s,.slice P (aA.length+1) O]::Row n13 388 (aM.dec (sec (2*j))).2.cells::Row n14 3 [ii lO]::mY d (cV (fE sec ((2*j+1+1)/2)))::Sl.Own 207 3 (.slice P (aA.length+1) O) (aA.length+1) (bg aA++aj.cells ⟨(aM.dec (sec (2*j))).2.av,(aM.dec (sec (2*j))).2.row,⟨r,u,(ow (sec (2*j+1)) (aM.dec (sec (2*j))).2.cw).1⟩⟩)::cR l (Loop.busy b)::Row v 350 [.slice (some o) (n*128) cap]::Row y 3 [ii at_]::At D (.deferred (some []))::Row n10 205 [i8 0,.slice none 0 0]::Row n11 4 [.bool false]::uW room e s (vR.mk n7 n8 n9 n10 n11 n12 n13 n14 n15 d) R)) ?_
      refine ae.trans (λw N=>du (res:=aj.res) (a:=(⟨(aM.dec (sec (2*j))).2.av,(aM.dec (sec (2*j))).2.row,⟨r,u,(ow (sec (2*j+1)) (aM.dec (sec (2*j))).2.cw).1⟩⟩:aj)) N) ?_
      have bm:bL (P,O) (aA++[⟨(aM.dec (sec (2*j))).2.av,(aM.dec (sec (2*j))).2.row,⟨r,u,(ow (sec (2*j+1)) (aM.dec (sec (2*j))).2.cw).1⟩⟩])=Sl.Own 207 3 (.slice P (aA.length+1) O) (aA.length+1) (bg aA++aj.cells ⟨(aM.dec (sec (2*j))).2.av,(aM.dec (sec (2*j))).2.row,⟨r,u,(ow (sec (2*j+1)) (aM.dec (sec (2*j))).2.cw).1⟩⟩):=by
        show Sl.Own 207 3 (.slice P (aA++[(⟨(aM.dec (sec (2*j))).2.av,(aM.dec (sec (2*j))).2.row,⟨r,u,(ow (sec (2*j+1)) (aM.dec (sec (2*j))).2.cw).1⟩⟩:aj)]).length O) (aA++[(⟨(aM.dec (sec (2*j))).2.av,(aM.dec (sec (2*j))).2.row,⟨r,u,(ow (sec (2*j+1)) (aM.dec (sec (2*j))).2.cw).1⟩⟩:aj)]).length (bg (aA++[(⟨(aM.dec (sec (2*j))).2.av,(aM.dec (sec (2*j))).2.row,⟨r,u,(ow (sec (2*j+1)) (aM.dec (sec (2*j))).2.cw).1⟩⟩:aj)]))=_;rw[c9,show bg (aA++[(⟨(aM.dec (sec (2*j))).2.av,(aM.dec (sec (2*j))).2.row,⟨r,u,(ow (sec (2*j+1)) (aM.dec (sec (2*j))).2.cw).1⟩⟩:aj)])=bg aA++aj.cells ⟨(aM.dec (sec (2*j))).2.av,(aM.dec (sec (2*j))).2.row,⟨r,u,(ow (sec (2*j+1)) (aM.dec (sec (2*j))).2.cw).1⟩⟩by simp[bg]];rfl
      refine ae.trans (ae.trans (H':=we sec s (vR.mk n7 n8 n9 n10 n11 n12 n13 n14 n15 d) (2*j+1+1) ⟨aA++[⟨(aM.dec (sec (2*j))).2.av,(aM.dec (sec (2*j))).2.row,⟨r,u,(ow (sec (2*j+1)) (aM.dec (sec (2*j))).2.cw).1⟩⟩],(P,O),(aM.dec (sec (2*j))).2,lO⟩++(cR l (Loop.busy b)::Row v 350 [.slice (some o) (n*128) cap]::Row y 3 [ii at_]::At D (.deferred (some []))::Row n10 205 [i8 0,.slice none 0 0]::Row n11 4 [.bool false]::uW room e s (vR.mk n7 n8 n9 n10 n11 n12 n13 n14 n15 d) R)) ?_ (wg (m.I3 rfl (P,O) ⟨(aM.dec (sec (2*j))).2.av,(aM.dec (sec (2*j))).2.row,⟨r,u,(ow (sec (2*j+1)) (aM.dec (sec (2*j))).2.cw).1⟩⟩ rfl au))) ae.re
      unfold we uW
      dsimp only[List.cons_append,List.nil_append]
      rw[bm,c9,show(2*j+1+1+1)/2=(2*j+1+1)/2 by omega]
      exact ae.re
    · rintro(_|t) _
      · exact ae.re
      · exact ae.refl
  · intro D
    refine N4 λw N=>?_
    have F:Holds W (OA sec room e s (vR.mk n7 n8 n9 n10 n11 n12 n13 n14 n15 d) n::At D (.deferred (some [])):: []) w:=(ae.re:ae W _ _) w N
    obtain⟨⟨st,m⟩,_⟩:=CR F
    have:=m.pos zO
    omega
  · intro D t ht
    refine wr ?_
    refine VF.results2 (.inl rfl) t rfl .head (aL.agg (vs:=t.cells) ah rfl rfl (by unfold Ln;(focus repeat first|exact .head _|apply List.Mem.tail)) rfl rfl) (aL.leaf ah rfl rfl (by unfold Ln;(focus repeat first|exact .head _|apply List.Mem.tail)) rfl) ht rfl ?_
    unfold Ln
    exact ae.re
end Go.Proofs.YtldolcbbmnmjoaaGreat
namespace Go.Sl
open Go Go.RowKit
section
variable{P:Program}{ops:Array Oper}{Q:Exit->Act->World->Prop}{md:Region.Mode}{I:Array Bool->World->Prop}
def yy(P:Program)(md:Region.Mode)(ops:Array Oper)(Q:Exit->Act->World->Prop)(I:Array Bool->World->Prop):Nat->Array Bool->Act->World->Prop
  |0,listed,a,w=>Region.ready md ops listed=[]/\Q .normal a w
  |fuel+1,listed,a,w=>
    (Region.ready md ops listed=[]->Q .normal a w)/\
    ∀i∈Region.ready md ops listed,wpOp P ops Q i (λe b=>I (listed.setIfInBounds i true) b/\yy P md ops Q I fuel (listed.setIfInBounds i true) e b) a w
theorem yz:∀(fuel:Nat)(listed:Array Bool)(a:Act)(w:World),yy P md ops Q I fuel listed a w->wpAny P md ops Q fuel listed a w
 |0,_,_,_,h=>h
 |fuel+1,_,_,_,h=>⟨h.1,λi g=>wpOp_mono (λb j e=>yz fuel _ b j e.2) (h.2 i g)⟩
theorem Cs{i:Nat}{x:Oper}{v:Value}{U:World->Prop}(R:ops[i]?=some x)(t:∀(j:Nat)(o:Oper) cs b,ops[j]?=some o->o.op≠.select cs b)
    (hQ:∀c a w,¬Q (.panic c) a w)
    (B:∀listed w,HeadInv md ops ops.size listed->listed.getD i true=false->I listed w->U w)
    (z:∀listed w,I listed w->I (listed.setIfInBounds i true) w)(A:∀listed w,I (listed.setIfInBounds i true) w->I listed w):
    ∀(fuel:Nat)(listed:Array Bool)(a:Act)(w:World),HeadInv md ops ops.size listed->
      (∀j u,ops[j]?=some u->j≠i->listed.getD j true=false->(∀e∈u.after,Region.binds md e=true->e.on≠i)->x.apart ops u=true)->
      i∈Region.ready md ops listed->YieldsIf P ops U x v a->I listed w->
      yy P md ops Q I fuel (listed.setIfInBounds i true) (a.put x.dst v) w->yy P md ops Q I (fuel+1) listed a w:=by
  intro fuel;induction fuel with
  |zero=>
    intro listed a w inv _ q L C H;refine⟨λh=>(by rw[h]at q;cases q),λj E=>?_⟩;by_cases g:j=i
    · subst g;exact L.wpOp R (B _ _ inv (mem_ready.1 q).1 C) ⟨z _ _ C,H⟩
    · have:=ready_mono E g
      rw[H.1]at this
      cases this
  |succ fuel ih=>
    intro listed a w inv l q L C H;refine⟨λh=>(by rw[h]at q;cases q),λj E=>?_⟩;by_cases g:j=i
    · subst g;exact L.wpOp R (B _ _ inv (mem_ready.1 q).1 C) ⟨z _ _ C,H⟩
    · have y:=H.2 j (ready_mono E g)
      obtain⟨s,u,p,D⟩:=mem_ready.1 E
      have G:j<ops.size:=(Array.getElem?_eq_some_iff.1 p).1
      have J:∀e∈u.after,Region.binds md e=true->e.on≠i:=λe he hb O=>by
        have y:=D e he hb;have Y:=(mem_ready.1 q).1;rw[O]at y;rw[getD_both Y]at y;cases y
      have Z:=wpOp_putIf p (l j u p g s J) (λcs b=>t i x cs b R) (λcs b=>t j u cs b p) (λc a w h=>lcs h (hQ c _ w)) L y
      have m:∀k ok,ops[k]?=some ok->k≠i->(listed.setIfInBounds j true).getD k true=false->
          (∀e∈ok.after,Region.binds md e=true->e.on≠i)->x.apart ops ok=true:=λk ok hk S K T=>by
        refine l k ok hk S ?_ T;by_cases F:j=k
        · subst F;exact s
        · rw[getD_set_ne true F]at K;exact K
      refine wpOp_mono (λX w' M=>?_) Z
      have hc:(listed.setIfInBounds i true).setIfInBounds j true=(listed.setIfInBounds j true).setIfInBounds i true:=Array.setIfInBounds_comm _ _ (Ne.symm g)
      have N:=M.2.1
      have V:=M.2.2
      rw[hc]at N V
      exact⟨A _ _ N,ih (listed.setIfInBounds j true) X w' (inv.set E G) m (ready_mono q (Ne.symm g)) M.1 (A _ _ N) V⟩
def th(tv:List (Nat×Nat))(listed:Array Bool):Nat:=tv.foldl (λk p=>bif listed.getD p.1 false then max k p.2 else k) 0
def sD(P:Program)(ops:Array Oper)(Q:Exit->Act->World->Prop)(I:Array Bool->World->Prop)(Sy:Nat->World->Prop)(mv:List Nat):List Nat->Array Bool->Act->World->Prop
  |[],_,a,w=>Q .normal a w
  |i::r,listed,a,w=>
    (mv.contains i=true/\wpOp P ops (eF Q) i (λe b=>I (listed.setIfInBounds i true) b/\sD P ops Q I Sy mv r (listed.setIfInBounds i true) e b) a w)\/
    (mv.contains i=false/\∃o v,ops[i]?=some o/\YieldsIf P ops (Sy i) o v a/\sD P ops Q I Sy mv r (listed.setIfInBounds i true) (a.put o.dst v) w)
def zZ(ops:Array Oper)(mv:List Nat):List Nat->Array Bool->Bool
  |[],listed=>(Region.ready .any ops listed).isEmpty
  |i::r,listed=>
    bif mv.contains i then JN ops listed i&&zZ ops mv r (listed.setIfInBounds i true)else
    Region.free .any ops listed i&&(Region.ready .any ops listed).contains i&&zZ ops mv r (listed.setIfInBounds i true)
theorem Ce{mv:List Nat}{Sy:Nat->World->Prop}(B:Region.noSelect ops=true)
    (p:∀i listed w,mv.contains i=false->i<ops.size->HeadInv .any ops ops.size listed->listed.getD i true=false->I listed w->Sy i w)
    (e:∀i listed w,mv.contains i=false->I listed w->I (listed.setIfInBounds i true) w)(m:∀i listed w,mv.contains i=false->I (listed.setIfInBounds i true) w->I listed w):
    ∀(r:List Nat)(listed:Array Bool)(a:Act)(w:World),HeadInv .any ops ops.size listed->zZ ops mv r listed=true->I listed w->sD P ops Q I Sy mv r listed a w->yy P .any ops (eF Q) I r.length listed a w
  |[],listed,a,w,_,h,_,k=>by
    simp only[zZ,List.isEmpty_iff]at h;exact⟨h,rfl,k⟩
  |i::r,listed,a,w,inv,h,D,k=>by
    unfold zZ at h;cases g:mv.contains i with
    |true=>
      rw[g]at h;simp only[cond_true,mV]at h;have u:=pX h.1;rcases k with⟨_,k⟩|⟨t,_⟩
      · refine⟨λC=>(by rw[u]at C;cases C),λj y=>?_⟩
        have q:=y
        rw[u,ju]at q
        subst q
        obtain⟨_,K,A,_⟩:=mem_ready.1 y
        exact wpOp_mono (λE J x=>⟨x.1,Ce B p e m r _ E J (inv.set y (Array.getElem?_eq_some_iff.1 A).1) h.2 x.1 x.2⟩) k
      · rw[g]at t;cases t
    |false=>
      rw[g]at h;simp only[cond_false,mV]at h;have u:i∈Region.ready .any ops listed:=by simpa using h.1.2
      rcases k with⟨t,_⟩|⟨_,o,v,z,G,k⟩
      · rw[g]at t;cases t
      · have s:i<ops.size:=(Array.getElem?_eq_some_iff.1 z).1
        exact Cs z (Region.noSelect_spec B) (λc a w F=>by cases F.1) (λl w a b c=>p i l w g s a b c) (λl w=>e i l w g) (λl w=>m i l w g) r.length listed a w inv (Region.free_spec z h.1.1) u G D (Ce B p e m r _ _ w (inv.set u s) h.2 (e i _ _ g D) k)
theorem MA{tv:List (Nat×Nat)}{listed:Array Bool}{k:Nat}(h:∀p∈tv,listed.getD p.1 false=true->p.2<=k):th tv listed<=k:=by
  have key:∀(l:List (Nat×Nat))(m:Nat),m<=k->(∀p∈l,listed.getD p.1 false=true->p.2<=k)->l.foldl (λk p=>bif listed.getD p.1 false then max k p.2 else k) m<=k:=by
    intro l;induction l with
    |nil=>exact λm a _=>a
    |cons p l j=>
      intro m a b;rw[List.foldl_cons];refine j _ ?_ (λq g=>b q (.tail _ g));cases e:listed.getD p.1 false with
      |true=>have:=b p (.head _) e;simp only[cond_true];omega
      |false=>exact a
  exact key tv 0 (c7 _) h
theorem HJ{tv:List (Nat×Nat)}{listed:Array Bool}{i:Nat}(h:∀p∈tv,p.1≠i):th tv (listed.setIfInBounds i true)=th tv listed:=by
  have key:∀(l:List (Nat×Nat))(m:Nat),(∀p∈l,p.1≠i)->l.foldl (λk p=>bif (listed.setIfInBounds i true).getD p.1 false then max k p.2 else k) m=l.foldl (λk p=>bif listed.getD p.1 false then max k p.2 else k) m:=by
    intro l;induction l with
    |nil=>exact λm _=>rfl
    |cons p l e=>
      intro m a;rw[List.foldl_cons,List.foldl_cons,getD_set_ne false (Ne.symm (a p (.head _)))];exact e _ (λq b=>a q (.tail _ b))
  exact key tv 0 h
theorem oq{n k:Nat}:(Array.replicate n false).getD k false=false:=by
 simp only[Array.getD,Array.size_replicate];split
 · simp
 · rfl
def Cp(ops:Array Oper):Nat->Nat->Nat->Bool
  |0,_,_=>false
  |k+1,m,i=>match ops[m]? with
    |some o=>o.after.any λe=>Region.binds .any e&&(e.on==i||Cp ops k e.on i)
    |none=>false
theorem sB{listed:Array Bool}(inv:HeadInv .any ops ops.size listed):∀(k m i:Nat),Cp ops k m i=true->listed.getD m false=true->listed.getD i false=true
  |0,_,_,h,_=>by cases h
  |k+1,m,i,h,l=>by
    unfold Cp at h;cases a:ops[m]? with
    |none=>rw[a]at h;cases h
    |some o=>
      rw[a]at h;simp only[Array.any_eq_true',mV,Bool.or_eq_true,beq_iff_eq]at h;obtain⟨e,j,g,h1⟩:=h;have b:=inv.closed m o a l e j g;rcases h1 with h1|h1
      · rw[<-h1];exact b
      · exact sB inv k _ i h1 b
def JH(lv:List (Nat×Nat))(top i:Nat):Nat:=match lv.find? (λp=>Nat.beq p.1 i)with
  |some p=>p.2
  |none=>top
def Qv(ops:Array Oper)(mv:List Nat)(tv lv:List (Nat×Nat))(top:Nat)(ord:List Nat):Bool:=
  Nat.beq ord.length ops.size&&Region.noSelect ops&&zZ ops mv ord (Array.replicate ops.size false)&&(tv.all λp=>mv.contains p.1)&&
  (List.range ops.size).all λi=>mv.contains i||tv.all λp=>Nat.ble p.2 (JH lv top i)||Cp ops ops.size p.1 i
variable{W:World}{n:Nat}{c:Code}{H H':List ab}{RL:Nat->List ab}{mv r:List Nat}{tv lv:List (Nat×Nat)}{top i d:Nat}{listed:Array Bool}{f:Fr}
variable{dst:Option Tmp}{ty_:TypeId}{pos:String}{after:Array Edge}{guard:Option (Nat×Bool)}
def VL(W:World)(P:Program)(n:Nat)(c:Code)(RL:Nat->List ab)(mv:List Nat)(tv lv:List (Nat×Nat))(top:Nat)(r:List Nat)(listed:Array Bool)(Q:Exit->Act->World->Prop)(H:List ab)(f:Fr):Prop:=
  ∀t w,bS n f t->Holds W H w->sD P (aG c).toArray Q (λlisted w=>Holds W (RL (th tv listed)) w) (λi=>Holds W (RL (JH lv top i))) mv r listed ⟨t,[]⟩ w
theorem VC.Bm(RL:Nat->List ab)(mv:List Nat)(tv lv:List (Nat×Nat))(top:Nat)(ord:List Nat)(D:dg c=some true)(j:P.follows .mixedOrders=true)(u:Qv (aG c).toArray mv tv lv top ord=true)
  (L:ae W H (RL 0))(K:∀k,ae W (RL k) (RL (k+1)))(h:VL W P n c RL mv tv lv top ord (Array.replicate (aG c).length false) Q H f):VC W P n c Q H f:=by
 have l:∀a b,ae W (RL a) (RL (a+b)):=by
  intro a b;induction b with
  |zero=>exact ae.refl
  |succ b U=>exact ae.trans U (K _)
 unfold VC;cases c<;>simp[dg]at D;subst D;intro t w N E;have A:=h t w.drew N E.drew;simp only[aG,Array.toArray_toList,Array.length_toList]at A u;simp only[Qv,mV]at u;obtain⟨⟨⟨⟨O,S⟩,M⟩,T⟩,v⟩:=u;have x:=Nat.eq_of_beq_eq_true O;have q:∀i,mv.contains i=false->∀p∈tv,p.1≠i:=by
  intro i v p s e;have:=List.all_eq_true.1 T p s;rw[e,v]at this;cases this
 have B:=Ce (P:=P) (Q:=Q) (I:=λlisted w=>Holds W (RL (th tv listed)) w) (Sy:=λi=>Holds W (RL (JH lv top i))) (mv:=mv) S
  (λi listed w j y inv z o=>by
   have C:=List.all_eq_true.1 v i (HC.2 y);rw[j,Bool.false_or]at C;have G:th tv listed<=JH lv top i:=MA λp s g=>by
    have h4:=List.all_eq_true.1 C p s;rw[Bool.or_eq_true]at h4;rcases h4 with h4|h4
    · exact Nat.le_of_ble_eq_true h4
    ·
     have:=sB inv _ _ _ h4 g;rw[getD_both z]at this;cases this
   have J:=l (th tv listed) (JH lv top i-th tv listed) w o;rwa [Nat.add_sub_cancel' G]at J)
  (λi listed w j o=>by show Holds W (RL (th tv _)) w;rw[HJ (q i j)];exact o)
  (λi listed w j o=>by have:Holds W (RL (th tv (listed.setIfInBounds i true))) w:=o;rw[HJ (q i j)]at this;exact this)
  ord _ _ w.drew (HeadInv.start _) M (by
   show Holds W (RL (th tv _)) w.drew
   have F:∀m,th tv (Array.replicate m false)=0:=λm=>Nat.le_zero.1 (MA λp s g=>by rw[oq]at g;cases g)
   rw[F];exact L _ E.drew) A
 rw[x]at B;refine Code.wp_mono ?_ (wp_region_any (Q:=eF Q) j (yz _ _ _ _ B));rintro e a w ⟨rfl,R⟩;exact R
theorem VL.nil(h:VE W n Q .normal H f):VL W P n c RL mv tv lv top [] listed Q H f:=by
 unfold VE at h;exact λt w a b=>h t w a b
theorem VL.take{op:Op}{v:Value}(p:(aG c)[i]?=some {dst:=some d,op,type:=ty_,pos,after,guard})(m:mv.contains i=false)(j:gA (aG c) guard f=some true)(k:Nat)(l:JH lv top i=k)
  (b:af W P n (RL k) f {dst:=some d,op,type:=ty_,pos,after,guard} v)(g:Nat.blt d n=true)(h:VL W P n c RL mv tv lv top r (listed.setIfInBounds i true) Q H ((d,v)::f)):VL W P n c RL mv tv lv top (i::r) listed Q H f:=by
 subst l;unfold af at b;intro t w a q;exact .inr ⟨m,_,v,by simpa using p,.inl ⟨a.wanted (o:={dst:=some d,op,type:=ty_,pos,after,guard}) j,λw e=>b t w a e⟩,h _ w (a.put g) q⟩
theorem VL.yC{o:Oper}(s:(aG c)[i]?=some o)(q:mv.contains i=true)(m:gA (aG c) o.guard f=some true)(k:Nat)(p:th tv (listed.setIfInBounds i true)=k)
  (h:ay W P n o (eF Q) H f (λH' e=>ae W H' (RL k)/\VL W P n c RL mv tv lv top r (listed.setIfInBounds i true) Q H' e)):VL W P n c RL mv tv lv top (i::r) listed Q H f:=by
 subst p;unfold ay at h;intro t w j u;refine .inl ⟨q,?_⟩;unfold wpOp;simp only[List.getElem?_toArray,s];rw[lam (j.wanted m)];exact .inl (h t w j u _ (λH' e g t' l b a=>⟨g.1 l a,g.2 t' l b a⟩))
theorem VL.re{v:Value}(k:Nat)(v':Value)(b:look f k=some v)(e:v=v')(h:VL W P n c RL mv tv lv top r listed Q H ((k,v')::f)):VL W P n c RL mv tv lv top r listed Q H f:=λt w a g=>h t w (a.again (e▸b)) g
end
attribute [irreducible] VL
end Go.Sl
namespace Go.Sl
open Go Go.RowKit
section
variable{W:World}{P:Program}{n:Nat}{c:Code}{Q:Exit->Act->World->Prop}{H H' L R:List ab}{f F:Fr}{mv ord r:List Nat}{tl i x d e:Nat}{X:Nat->ab}{vx:Nat->Value}
variable{dst:Option Tmp}{ty_:TypeId}{pos:String}{after:Array Edge}{guard:Option (Nat×Bool)}
theorem VX.Td{ox:Oper}{y:Operand}{xs:Array Operand}{ats:Array TypeId}{g:FuncId}{cap:Array Value}{vs:List Value}{β:Type}{A:β->Prop}{T:β->Value}{S:β->List ab}
  (ho:(aG c)[i]?=some {dst:=some e,op:= .call {callee:= .value y,args:=xs,argTypes:=ats},type:=ty_,pos,after,guard})(K:Nat.beq i x=false)(hm:mv.contains i=true)(hg:gA (aG c) guard f=some true)
  (hx:aD f y=some (.func (.func g) #[] cap))(Y:jo f xs.toList=some vs)(Z:∀a w,(callFunc g a).run P w= .ok (.enter g a) w)(spec:∀L,ae W L H->aq W P g (vs++cap.toList) L A T (λx=>S x++L))
  (M:(aG c)[x]?=some ox)(U:dG W P n ox d X vx)(G:ae W H R)(hd:Nat.blt e n=true)(J:look f d=none)(I:Nat.beq e d=false)(h:∀z,A z->VX W P n c R mv tl x d X vx r Q (S z++H) ((e,T z)::f)):VX W P n c R mv tl x d X vx (i::r) Q H f:=by
 have C:i≠x:=by intro q;subst q;simp at K
 have k:∀(A B:List ab),ae W (A++B) B:=by
  intro A;induction A with
  |nil=>exact λ_=>ae.refl
  |cons a A ih=>exact λB=>ae.trans (ae.drop ae.refl) (ih B)
 have second:∀b t w,bS n ((d,vx b)::f) t->Holds W (X b::H) w->fo P (aG c).toArray Q (Holds W R) mv tl (i::r.erase x) ⟨t,[]⟩ w:=by
  intro b t w m s;have j:=m.under J;refine .inl ⟨by unfold BK;rw[hm];rfl,?_⟩;unfold wpOp;simp only[List.getElem?_toArray,ho];rw[lam (j.wanted (o:={dst:=some e,op:= .call {callee:= .value y,args:=xs,argTypes:=ats},type:=ty_,pos,after,guard}) hg)];have hE:ae W (X b::H) H:=ae.drop ae.refl;have E:=spec _ hE;refine .inl ?_;have p:xs.map (Act.eval ⟨t,[]⟩)=vs.toArray:=by
   have:=j.args Y;apply Array.ext';simpa using this
  unfold aq at E;have E:=E w s;unfold Oper.wp execOp;simp only[resolve,j.eval hx,p,Deferred.ofValue,invoke,Sem.run_bind,Sem.run_pure,Result.andThen_ok,Z,Oper.upon];have e9:#[]++vs.toArray++cap=(vs++cap.toList).toArray:=by simp
  rw[e9];refine Calls.mono E ?_;rintro e8 D ⟨z,hA,rfl,V⟩;have v:=h z hA;unfold VX at v;exact⟨λ_=>G _ (k _ _ _ V).tail,v.2 b _ D ((m.put hd).swap I) (V.perm xb)⟩
 unfold VX;refine⟨λt w m s=>.inr (.inl ⟨C,hm,?_,?_⟩),λb t w m s=>by rw[List.erase_cons_tail (by simpa using C)];exact second b t w m s⟩
 ·
  unfold wpOp;simp only[List.getElem?_toArray,ho];rw[lam (m.wanted (o:={dst:=some e,op:= .call {callee:= .value y,args:=xs,argTypes:=ats},type:=ty_,pos,after,guard}) hg)];have:=ay.call (W:=W) (n:=n) (d:=e) (ty_:=ty_) (pos:=pos) (after:=after) (guard:=guard) (ats:=ats) (Q:=eF Q) (f:=f) (H:=H) (N:=λH' u=>∃z,A z/\H'=S z++H/\u=(e,T z)::f) hx Y Z (spec _ ae.refl) ae.refl hd (λz O=>⟨z,O,rfl,rfl⟩);unfold ay at this;refine .inl (this t w m s _ ?_);rintro H' u ⟨z,O,rfl,rfl⟩ t' D j l;have v:=h z O;unfold VX at v;exact⟨G _ (k _ _ _ l),v.1 t' D j l⟩
 ·
  unfold wpOp;simp only[List.getElem?_toArray,M];rw[lam (by unfold Region.wanted;rw[U.guard])];have:=U.run (eF Q) H f (λH' u=>∃b,H'=X b::H/\u=(d,vx b)::f) (λb=>⟨b,rfl,rfl⟩);unfold ay at this;refine .inl (this t w m s _ ?_);rintro H' u ⟨b,rfl,rfl⟩ t' D j l;exact⟨G _ l.tail,second b t' D j l⟩
end
end Go.Sl
namespace Go.Proofs.YtldolcbbmnmjoaaGreat
open Go.RowKit Go.Sl
attribute [local irreducible] Own
theorem Ky{l:List bF}(t:bF)(b:Option Addr)(a:Nat):iD (b,a) (l++[t])=Sl.Own 205 2 (.slice b (l.length+1) a) (l.length+1) (gM l++t.cells):=by
 show Sl.Own 205 2 (.slice b (l++[t]).length a) (l++[t]).length (gM (l++[t]))=_;rw[c9,show gM (l++[t])=gM l++t.cells by simp[gM]];rfl
def RF(b:Nat)(A B C D:Value):Nat->List ab
  |0=>[Row b 277 [A,B,C,D]]
  |1=>[ex λv:Value=>Row b 277 [A,v,C,D]]
  |2=>[ex λv:Value×Value=>Row b 277 [A,v.1,C,v.2]]
  |_=>[]
theorem JD{W:World}(b:Nat)(A B C D:Value):∀k,ae W (RF b A B C D k) (RF b A B C D (k+1))
  |0=>λw a=>Holds.dU (P:=λv:Value=>Row b 277 [A,v,C,D]) B a
  |1=>λw a=>by
    obtain⟨v,h⟩:=a.gW;exact Holds.dU (P:=λv:Value×Value=>Row b 277 [A,v.1,C,v.2]) (v,D) h
  |2=>λw a=>a.tail
  |_+3=>λw a=>a
abbrev bF.T(t:bF):Nat×List bK:=(t.seq,t.aA.map aj.D)
def yG(data:List UInt8)(c:bJ):Prop:=c.enc.1≠0\/data.length%128≠0\/data.length/128<5\/2048<data.length/128\/((data.length/128:Nat):Int)<=c.tail
instance (data:List UInt8)(c:bJ):Decidable (yG data c):=by unfold yG;exact inferInstance
theorem Tu{W:World}{R:List ab}{ao:Option Addr}{cap:Nat}{data:List UInt8}(hr:aV W R 1 ao data.length (bytes data))(bf:data.length<=cap)(bh:data.length<=140737488351232)(c:bJ)(hf:c.fit):
    aq W Tryz.prog 188 [.slice ao data.length cap,.agg c.cells.toArray] R (β:=(Option Addr×Nat)×List bF) (λy=>y.2.map bF.T=(eB data c).2.Qd)
      (λy=>.tuple #[.agg [.slice y.1.1 y.2.length y.1.2,i8 ((eB data c).2.next:Int),ii ((eB data c).2.head:Int),ii ((eB data c).2.used:Int)].toArray,i6 (eB data c).1]) (λy=>iD y.1 y.2::kG y.2::R):=by
  refine ze Tryz.func188 Tryz.ntmps188 ?_;refine zj λ_=>?_;refine w ?_;rename_i O;refine zq ?_;refine ay.aB sb_277 rfl ?_;intro T;refine zt (s:=Bn c hf) (h:=?_);rintro⟨ea,ec⟩-;refine w ?_;refine VC.aR (H':=Row T 277 [.slice none 0 0,i8 0,ii 0,ii 0]::Row O 157 c.cells::R) ae.re ?_;refine VC.qx [(43,.bool (decide (yG data c))),(3,ip O),(4,ip T),(6,.slice ao data.length cap)] ?_ ?_
  · intro Q2 jn
    refine zx [10,15,22] 23 [0,1,2,3,4,5,6,7,8,9,10,11,12,13,14,15,16,17,18,19,20,21,22,23,24] _ ?_
    refine w ?_
    refine zg ?_ ?_<;>intro o
    · have A:yG data c:= .inl (by simpa using o)
      refine w ?_
      exact jn.to () trivial ⟨b7 rfl (by simp[A]),rfl,rfl,rfl,trivial⟩ ae.re
    have b1:c.enc.1=0:=by simpa using o
    clear o
    refine w ?_
    refine VD.take rfl rfl rfl (af.rem (a:=data.length) (b:=128) rfl rfl (by decide)) rfl ?_
    refine w ?_
    refine zg ?_ ?_<;>intro o
    · have A:yG data c:= .inr (.inl (by have:=o;simp at this;omega))
      refine w ?_
      exact jn.to () trivial ⟨b7 rfl (by simp[A]),rfl,rfl,rfl,trivial⟩ ae.re
    have b2:data.length%128=0:=by have:=o;simp at this;omega
    have N:data.length=data.length/128*128:=by omega
    clear o
    refine zt (s:=nP N zO) (h:=?_)
    intro _ _
    refine⟨ae.re,?_⟩
    refine w ?_
    refine zg ?_ ?_<;>intro o
    · have A:yG data c:= .inr (.inr (.inl (by have:=o;simp at this;omega)))
      refine w ?_
      exact jn.to () trivial ⟨b7 rfl (by simp[A]),rfl,rfl,rfl,trivial⟩ ae.re
    have b3:¬data.length/128<5:=by have:=o;simp at this;omega
    clear o
    refine zt (s:=nP N zO) (h:=?_)
    intro _ _
    refine⟨ae.re,?_⟩
    refine w ?_
    refine zg ?_ ?_<;>intro o
    · have A:yG data c:= .inr (.inr (.inr (.inl (by have:=o;simp at this;omega))))
      refine w ?_
      exact jn.to () trivial ⟨b7 rfl (by simp[A]),rfl,rfl,rfl,trivial⟩ ae.re
    have b4:¬2048<data.length/128:=by have:=o;simp at this;omega
    clear o
    refine zt (s:=nP N zO) (h:=?_)
    intro _ _
    refine⟨ae.re,?_⟩
    refine w ?_
    refine jn.to () trivial ⟨b7 rfl (by
      congr 1;rw[Bool.eq_iff_iff];unfold yG;simp only[b1,b2,b3,b4,decide_eq_true_iff,ne_eq,not_true_eq_false,false_or]),rfl,rfl,rfl,trivial⟩ ae.re
  refine w ?_;refine zk ?_ ?_<;>intro I
  · have A:eB data c=(1,⟨[],0,0,0⟩):=lam (cI I)
    refine w ?_
    apply VO.pure rfl rfl;apply af.build sb_277 (pv:=[]) rfl;rfl;rfl
    refine zS ([.slice none 0 0,i8 0,ii 0,ii 0]) ?_
    refine VE.results2 (.inl rfl) ((none,0),[]) rfl (aL.agg (vs:=[.slice none 0 0,i8 0,ii 0,ii 0]) ah rfl rfl (.head _) rfl rfl) (.tmp rfl) (by rw[A];rfl) (by rw[A];rfl) ?_
    exact ae.trans (ae.re (L:=R)) (λw D=>(di (res:=bF.res) D).aZ _ _)
  have p:¬yG data c:=dx I;clear I;obtain⟨n,hn⟩:∃n,n=data.length/128:=⟨_,rfl⟩;have m:eB data c=(0,⟨ofM (gJ data) n c.epoch (n+1) c.seq 0 c.tail.toNat,c.seq+(ofM (gJ data) n c.epoch (n+1) c.seq 0 c.tail.toNat).length,(c.tail.toNat+bN (ofM (gJ data) n c.epoch (n+1) c.seq 0 c.tail.toNat))%n,bN (ofM (gJ data) n c.epoch (n+1) c.seq 0 c.tail.toNat)⟩):=by
    rw[hn];exact aE p
  have U:c.enc.1=0:=Decidable.byContradiction λq=>p (.inl q);have K:c.aX:=by
    by_cases g:c.aX
    · exact g
    · rw[vh g]at U;cases U
  have bm:=(vi c).1 K;have b2:data.length%128=0:=Decidable.byContradiction λq=>p (.inr (.inl q));have b3:¬n<5:=λq=>p (.inr (.inr (.inl (hn▸q))));have b4:¬2048<n:=λq=>p (.inr (.inr (.inr (.inl (hn▸q)))));have b5:¬(n:Int)<=c.tail:=λq=>p (.inr (.inr (.inr (.inr (hn▸q)))));have J:data.length=n*128:=by omega
  obtain⟨tl,Z⟩:∃tl:Nat,c.tail=tl:=⟨c.tail.toNat,by omega⟩;rw[Z,Int.toNat_natCast]at m;obtain⟨la,rfl⟩:∃a,ao=some a:=by cases ao with|none=>have:=hr.nil rfl;omega|some a=>exact⟨a,rfl⟩
  refine w ?_;apply VO.pure rfl rfl;apply af.build sb_277 rfl;simp[aC,bR,Value.cells];rfl;rfl;refine zq ?_;refine ay.aB sb_277 rfl ?_;intro n9;refine zS ([.slice none 0 0,i8 c.seq,ii c.tail,ii 0]) ?_
  refine VC.loop (α:=List bF×(Option Addr×Nat)×Nat) (λy=>ofM (gJ data) n c.epoch (n+1) c.seq 0 tl=y.1.map bF.T++ofM (gJ data) n c.epoch y.2.2 (c.seq+y.1.length) (bN (y.1.map bF.T)) ((tl+bN (y.1.map bF.T))%n)/\bN (y.1.map bF.T)<=n/\n<bN (y.1.map bF.T)+y.2.2/\y.1.length<=bN (y.1.map bF.T))
    (λy=>Row n9 277 [.slice y.2.1.1 y.1.length y.2.1.2,i8 ((c.seq+y.1.length:Nat):Int),ii (((tl+bN (y.1.map bF.T))%n:Nat):Int),ii ((bN (y.1.map bF.T):Nat):Int)]::iD y.2.1 y.1::kG y.1::Row T 277 [.slice none 0 0,i8 0,ii 0,ii 0]::Row O 157 c.cells::R)
    (λy=>[(3,ip O),(4,ip T),(6,.slice (some la) (n*128) cap),(9,ip n9)]) (λy=>y.2.2) rfl ([],(none,0),n+1) ?_ ?_ ⟨rfl,rfl,b7 rfl (by rw[J]),rfl,trivial⟩ ?_
  · have h1:tl%n=tl:=nE zO
    refine⟨?_,c7 _,by show n<0+(n+1);omega,c7 _⟩
    show _=[]++ofM (gJ data) n c.epoch (n+1) (c.seq+0) 0 ((tl+0)%n)
    rw[ou];simp only[BH];rw[h1]
  · have h1:tl%n=tl:=nE zO
    dsimp only
    rw[show(tl+bN (([]:List bF).map bF.T))%n=tl from h1,<-Z]
    exact ae.trans (λw D=>(di (res:=bF.res) D).aZ 205 2) ae.re
  rintro⟨l,x,f⟩ ⟨C,bb,aa,an⟩;dsimp only at C bb aa an⊢;have au:aV W R 1 (some la) (n*128) (bytes data):=J▸hr;refine w ?_;refine zk ?_ ?_<;>intro I
  · have M:c.seq+l.length<=4611686018427387904:=by have:=cI I;omega
    clear I
    have ad:(tl+bN (l.map bF.T))%n<n:=qX _ zO
    refine w ?_
    refine VC.qO [4,12,16,17] 18 16 [0,1,2,3,5,6,8,9,10,11,4,7,12,13,14,15,16,17,18] _ 10 (λb=>Row b 205 [i8 0,.slice none 0 0]) (λb=>ip b) rfl (by kernel_rfl) (by kernel_rfl) ae.refl ?_
    (repeat (apply VX.take rfl rfl rfl rfl;exact zp;rfl;rfl;rfl))
    refine VX.call rfl rfl rfl rfl rfl rfl (λ_ _=>by simp) (λL hL=>nP rfl zO) rfl (dG.alloc sb_205 rfl) ae.refl rfl rfl rfl ?_
    (repeat (apply VX.take rfl rfl rfl rfl;exact zp;rfl;rfl;rfl))
    refine VX.re 61 (ii ((n-bN (l.map bF.T):Nat):Int)) rfl (by congr 1;omega) rfl rfl ?_
    have hE:ae W (Row n9 277 [.slice x.1 l.length x.2,i8 ((c.seq+l.length:Nat):Int),ii (((tl+bN (l.map bF.T))%n:Nat):Int),ii ((bN (l.map bF.T):Nat):Int)]::iD x l::kG l::Row T 277 [.slice none 0 0,i8 0,ii 0,ii 0]::Row O 157 c.cells::R) R:=ae.re
    refine VX.Td (S:=λt:bF=>[bL (t.ao,t.cap) t.aA,bX t.aA]) rfl rfl rfl rfl rfl rfl (λ_ _=>by simp)
      (λL hL=>Lq (R:=L) zO zO ((tl+bN (l.map bF.T))%n) (n-bN (l.map bF.T)) c.epoch (c.seq+l.length) ad zO hf.epoch zO J (au.aR (ae.trans hL hE)) (tK (gJ data) n ((tl+bN (l.map bF.T))%n)) (λi=>by unfold tK gJ;rw[Aj])) rfl (dG.alloc sb_205 rfl) ae.refl rfl rfl rfl ?_
    rintro t ⟨ba,av⟩
    (repeat (apply VX.take rfl rfl rfl rfl;exact zp;rfl;rfl;rfl))
    refine VX.float rfl rfl (dG.alloc sb_205 rfl) ae.re ?_
    intro n10
    refine VD.yC rfl rfl rfl ?_
    refine ay.gL (vs:=t.cells) ah rfl rfl rfl rfl (vO _) zh (by simp) ?_
    refine⟨ae.re,?_⟩
    refine w ?_
    cases B:iv (tK (gJ data) n ((tl+bN (l.map bF.T))%n)) (n-bN (l.map bF.T)) c.epoch (c.seq+l.length)with
    |none=>
      have k:ofM (gJ data) n c.epoch (n+1) c.seq 0 tl=l.map bF.T:=by rw[C,HQ B];exact mn _
      refine zS ([.slice x.1 l.length x.2,i8 ((c.seq+l.length:Nat):Int),ii (((tl+bN (l.map bF.T))%n:Nat):Int),ii ((bN (l.map bF.T):Nat):Int)]) ?_
      refine VE.results2 (.inl rfl) (x,l) rfl (aL.agg (vs:=[.slice x.1 l.length x.2,i8 ((c.seq+l.length:Nat):Int),ii (((tl+bN (l.map bF.T))%n:Nat):Int),ii ((bN (l.map bF.T):Nat):Int)]) ah rfl rfl zm rfl rfl) (.tmp rfl) (by rw[m];exact k.symm) (by rw[m];simp only[k,ew]) ?_
      exact ae.re
    |some G=>
      have Y:=av G B
      have bk:=CV B
      have V:t.aA.length=G.length:=by rw[<-Y,ew]
      refine w ?_
      refine VO.re 78 (.agg t.cells.toArray) rfl (by simp) ?_
      refine zq ?_
      refine ay.buildSlice (cs:=t.cells) st_198 rfl rfl (by simp[Value.cells]) (by simp[Value.cells]) (by decide) rfl ?_
      intro nc
      refine zq ?_
      refine ay.cg st_198 rfl rfl zh zm rfl (vO _) (by simp only[maxLen];omega) zO rfl ?_
      intro z u
      refine w ?_
      refine VC.aR (H':=Row n9 277 [.slice z (l.length+1) u,i8 ((c.seq+l.length:Nat):Int),ii (((tl+bN (l.map bF.T))%n:Nat):Int),ii ((bN (l.map bF.T):Nat):Int)]::Sl.Own 205 2 (.slice z (l.length+1) u) (l.length+1) (gM l++t.cells)::kG l::bL (t.ao,t.cap) t.aA::bX t.aA::Row T 277 [.slice none 0 0,i8 0,ii 0,ii 0]::Row O 157 c.cells::R) ae.re ?_
      have ag:t.aA.length<=1023:=by omega
      refine VC.Bm (RF n9 (.slice z (l.length+1) u) (i8 ((c.seq+l.length:Nat):Int)) (ii (((tl+bN (l.map bF.T))%n:Nat):Int)) (ii ((bN (l.map bF.T):Nat):Int))) [12,15,17,19] [(15,1),(17,2),(19,3)] [(1,0),(4,1),(8,2)] 3 [0,1,2,3,4,5,6,7,8,9,10,11,14,12,13,15,16,17,18,19] rfl (by kernel_rfl) (by kernel_rfl) ae.re (JD _ _ _ _ _) ?_
      apply VL.take rfl rfl rfl 3 rfl;exact zp;rfl
      apply VL.take rfl rfl rfl 0 rfl
      · exact af.ld ah rfl rfl (.head _) rfl
      · rfl
      apply VL.take rfl rfl rfl 3 rfl;exact zp;rfl
      refine VL.re 84 (i8 (((c.seq+l.length:Nat):Int)+1)) rfl (by rw[IntWalk.u64_in _ ⟨by omega,by omega⟩]) ?_
      apply VL.take rfl rfl rfl 3 rfl;exact zp;rfl
      apply VL.take rfl rfl rfl 1 rfl
      · exact BX λv=>af.ld ah rfl rfl (.head _) rfl
      · rfl
      apply VL.take rfl rfl rfl 3 rfl;exact zp;rfl
      apply VL.take rfl rfl rfl 3 rfl;exact zp;rfl
      apply VL.take rfl rfl rfl 3 rfl;exact zp;rfl
      apply VL.take rfl rfl rfl 2 rfl
      · exact BX λv=>af.ld ah rfl rfl (.head _) rfl
      · rfl
      apply VL.take rfl rfl rfl 3 rfl;exact zp;rfl
      apply VL.take rfl rfl rfl 3 rfl;exact zp;rfl
      apply VL.take rfl rfl rfl 3 rfl;exact zp;rfl
      apply VL.take rfl rfl rfl 3 rfl;exact zp;rfl
      refine VL.yC rfl rfl rfl 0 rfl ?_
      refine zy rfl rfl (nP rfl zO) ?_
      intro _ _
      refine⟨(show ae W _ [Row n9 277 [.slice z (l.length+1) u,i8 ((c.seq+l.length:Nat):Int),ii (((tl+bN (l.map bF.T))%n:Nat):Int),ii ((bN (l.map bF.T):Nat):Int)]]from ae.re),?_⟩
      apply VL.take rfl rfl rfl 3 rfl
      · exact af.rem (a:=(tl+bN (l.map bF.T))%n+(2*t.aA.length+1)) (b:=n) rfl rfl zO
      · rfl
      refine VL.yC rfl rfl rfl 1 rfl ?_
      apply ay.st ah rfl rfl rfl rfl zh (by simp)
      refine⟨ae.trans (ae.re (L:=[Row n9 277 [.slice z (l.length+1) u,i8 (((c.seq+l.length:Nat):Int)+1),ii (((tl+bN (l.map bF.T))%n:Nat):Int),ii ((bN (l.map bF.T):Nat):Int)]])) (λw D=>Holds.dU (P:=λv:Value=>Row n9 277 [.slice z (l.length+1) u,v,ii (((tl+bN (l.map bF.T))%n:Nat):Int),ii ((bN (l.map bF.T):Nat):Int)]) _ D),?_⟩
      apply VL.take rfl rfl rfl 3 rfl;exact zp;rfl
      refine VL.yC rfl rfl rfl 2 rfl ?_
      apply ay.st ah rfl rfl rfl rfl zh (by simp)
      refine⟨ae.trans (ae.re (L:=[Row n9 277 [.slice z (l.length+1) u,i8 (((c.seq+l.length:Nat):Int)+1),ii (((tl+bN (l.map bF.T))%n:Nat):Int),ii (((bN (l.map bF.T):Nat):Int)+(2* (t.aA.length:Int)+1))]])) (λw D=>Holds.dU (P:=λv:Value×Value=>Row n9 277 [.slice z (l.length+1) u,v.1,ii (((tl+bN (l.map bF.T))%n:Nat):Int),v.2]) (i8 (((c.seq+l.length:Nat):Int)+1),ii (((bN (l.map bF.T):Nat):Int)+(2* (t.aA.length:Int)+1))) D),?_⟩
      apply VL.take rfl rfl rfl 3 rfl;exact zp;rfl
      refine VL.yC rfl rfl rfl 3 rfl ?_
      apply ay.st ah rfl rfl rfl rfl zh (by simp)
      refine⟨(show ae W _ []from ae.re),?_⟩
      refine VL.nil ?_
      refine w ?_
      have hT:(l++[t]).map bF.T=l.map bF.T++[(c.seq+l.length,G)]:=by rw[jv,BI,HG];unfold bF.T;rw[ba,Y]
      have j:bN ((l++[t]).map bF.T)=bN (l.map bF.T)+(2*G.length+1):=by rw[hT,Bh,qM];simp[bN]
      obtain⟨g,rfl⟩:∃g,f=g+1:=⟨f-1,by omega⟩
      have E:((tl+bN (l.map bF.T))%n+(2*G.length+1))%n=(tl+(bN (l.map bF.T)+(2*G.length+1)))%n:=by rw[Nat.mod_add_mod,ux]
      refine VE.round (l++[t],(z,u),g) ⟨?_,?_,?_,?_⟩ (by simp only;omega) zB ?_
      · simp only
        rw[j,hT,C,c9,ie,ofM,lam M,B]
        dsimp only
        rw[lx,List.singleton_append,E,ux c.seq]
      · simp only;rw[j];omega
      · simp only;rw[j];omega
      · simp only;rw[j,c9,ie];omega
      dsimp only
      have e1:(((c.seq+l.length:Nat):Int)+1)=((c.seq+(l.length+1):Nat):Int):=by omega
      have e2:((((tl+bN (l.map bF.T))%n+(2*t.aA.length+1))%n:Nat):Int)=(((tl+(bN (l.map bF.T)+(2*G.length+1)))%n:Nat):Int):=by rw[V,E]
      have e3:(((bN (l.map bF.T):Nat):Int)+(2* (t.aA.length:Int)+1))=((bN (l.map bF.T)+(2*G.length+1):Nat):Int):=by rw[V];omega
      refine ae.trans (ae.re (L:=bL (t.ao,t.cap) t.aA::bX t.aA::kG l::Row n9 277 [.slice z (l.length+1) u,i8 (((c.seq+l.length:Nat):Int)+1),ii ((((tl+bN (l.map bF.T))%n+(2*t.aA.length+1))%n:Nat):Int),ii (((bN (l.map bF.T):Nat):Int)+(2* (t.aA.length:Int)+1))]::Sl.Own 205 2 (.slice z (l.length+1) u) (l.length+1) (gM l++t.cells)::Row T 277 [.slice none 0 0,i8 0,ii 0,ii 0]::Row O 157 c.cells::R)) ?_
      refine ae.trans (λw D=>du (res:=bF.res) (bF.shut t D)) ?_
      rw[Ky,j,c9,ie,<-e1,<-e2,<-e3]
      exact ae.re
  · have M:¬c.seq+l.length<=4611686018427387904:=by have:=dx I;omega
    have k:ofM (gJ data) n c.epoch (n+1) c.seq 0 tl=l.map bF.T:=by
      rw[C];cases f with
      |zero=>exact mn _
      |succ f=>unfold ofM;rw[aE M];exact mn _
    refine zS ([.slice x.1 l.length x.2,i8 ((c.seq+l.length:Nat):Int),ii (((tl+bN (l.map bF.T))%n:Nat):Int),ii ((bN (l.map bF.T):Nat):Int)]) ?_
    refine VE.results2 (.inl rfl) (x,l) rfl (aL.agg (vs:=[.slice x.1 l.length x.2,i8 ((c.seq+l.length:Nat):Int),ii (((tl+bN (l.map bF.T))%n:Nat):Int),ii ((bN (l.map bF.T):Nat):Int)]) ah rfl rfl zm rfl rfl) (.tmp rfl) (by rw[m];exact k.symm) (by rw[m];simp only[k,ew]) ?_
    exact ae.re
end Go.Proofs.YtldolcbbmnmjoaaGreat
namespace Go.Proofs.YtldolcbbmnmjoaaGreat
open Go.RowKit Go.Sl
attribute [local irreducible] Own
theorem LG{e s t:Nat}(b:e<=4611686018427387904)(a:1<=s/\s<=4611686018427387904)(c:t<=2047):(bJ.mk e s t).enc.1=0:=by
 rw[qL ((vi _).2 ⟨⟨b,a.1,a.2⟩,by simp only;omega,by simp only;omega⟩)]
theorem FL{ring:List UInt8}{n e s t:Nat}(d:ring.length=128*n)(f:5<=n/\n<=2048)(b:e<=4611686018427387904)(c:1<=s/\s<=4611686018427387904)(g:t<n):
  eB ring ⟨e,s,t⟩=(0,⟨ofM (gJ ring) n e (n+1) s 0 t,s+(ofM (gJ ring) n e (n+1) s 0 t).length,(t+bN (ofM (gJ ring) n e (n+1) s 0 t))%n,bN (ofM (gJ ring) n e (n+1) s 0 t)⟩):=by
 have a:ring.length/128=n:=by omega
 unfold eB;rw[aE,a]
 · rfl
 ·
  rintro(h|h|h|h|h)
  · exact h (LG b c zO)
  · omega
  · omega
  · omega
  · simp only at h;omega
theorem Dr{data:List UInt8}{c:bJ}(h:(eB data c).1=0):∃n d:Nat,data.length=n*128/\(5<=n/\n<=2048)/\c.tail=d/\d<n/\c.aX/\
  eB data c=(0,⟨ofM (gJ data) n c.epoch (n+1) c.seq 0 d,c.seq+(ofM (gJ data) n c.epoch (n+1) c.seq 0 d).length,(d+bN (ofM (gJ data) n c.epoch (n+1) c.seq 0 d))%n,bN (ofM (gJ data) n c.epoch (n+1) c.seq 0 d)⟩):=by
 have a:¬yG data c:=λq=>by
  have:eB data c=(1,⟨[],0,0,0⟩):=lam q;rw[this]at h;cases h
 have e:c.enc.1=0:=Decidable.byContradiction λq=>a (.inl q);have b:c.aX:=by
  by_cases g:c.aX
  · exact g
  · rw[vh g]at e;cases e
 have f:=(vi c).1 b;have j:data.length%128=0:=Decidable.byContradiction λq=>a (.inr (.inl q));have k:¬data.length/128<5:=λq=>a (.inr (.inr (.inl q)));have l:¬2048<data.length/128:=λq=>a (.inr (.inr (.inr (.inl q))));have m:¬((data.length/128:Nat):Int)<=c.tail:=λq=>a (.inr (.inr (.inr (.inr q))));have i:eB data c=(0,⟨ofM (gJ data) (data.length/128) c.epoch (data.length/128+1) c.seq 0 c.tail.toNat,c.seq+(ofM (gJ data) (data.length/128) c.epoch (data.length/128+1) c.seq 0 c.tail.toNat).length,(c.tail.toNat+bN (ofM (gJ data) (data.length/128) c.epoch (data.length/128+1) c.seq 0 c.tail.toNat))% (data.length/128),bN (ofM (gJ data) (data.length/128) c.epoch (data.length/128+1) c.seq 0 c.tail.toNat)⟩):=aE a;exact⟨data.length/128,c.tail.toNat,by omega,by omega,by omega,by omega,b,i⟩
end Go.Proofs.YtldolcbbmnmjoaaGreat
namespace Go.Proofs.YtldolcbbmnmjoaaGreat
end Go.Proofs.YtldolcbbmnmjoaaGreat
namespace Go.Proofs.YtldolcbbmnmjoaaGreat
open Go.RowKit Go.Sl
attribute [local irreducible] Own
structure Lays(sec:fN)(n e s at_:Nat)(ls:List (List bK)):Prop where
  Rs:K5 e s ls
  cost:bu ls<=n
  sec:∀j,j<bu ls->(jq e s ls)[j]?=some (sec ((at_+j)%n))
variable{sec was:fN}{n e s at_:Nat}{ls:List (List bK)}
end Go.Proofs.YtldolcbbmnmjoaaGreat
namespace Go.Proofs.YtldolcbbmnmjoaaGreat
open Go.RowKit Go.Sl
attribute [local irreducible] Own
instance:DecidableEq bK:=λa b=>decidable_of_iff (a.av=b.av/\a.row=b.row/\a.data=b.data) (by cases a;cases b;simp)
theorem iK{ao:Option Addr}{n:Nat}(h:ao=none->n=0)(b:0<n):∃a,ao=some a:=by
 cases ao with
 |none=>have:=h rfl;omega
 |some a=>exact⟨a,rfl⟩
structure cu where
  ao:Option Addr
  cap:Nat
  aA:List aj
abbrev cu.ei(e:cu):Value:= .slice e.ao e.aA.length e.cap
end Go.Proofs.YtldolcbbmnmjoaaGreat
namespace Go.Proofs.YtldolcbbmnmjoaaGreat
open Go.RowKit Go.Sl
attribute [local irreducible] Sl.Own
structure cQ where
  dV:Nat
  d:aU
abbrev cQ.cells(p:cQ):List Value:=[ii p.dV,p.d.ei]
def putCells(l:List cQ):List Value:=l.flatMap cQ.cells
theorem M4(l:List cQ):∀u∈putCells l,u.oneCell'=true:=by
 intro u a;obtain⟨p,_,h⟩:=Ai.1 a;simp at h;rcases h with h|h<;>subst h<;>rfl
theorem M3(l:List cQ):(putCells l).length=l.length*2:=cW l (λ_ _=>rfl)
theorem R6(l:List cQ)(j:Nat)(h:j<l.length):((putCells l).drop (j*2)).take 2=l[j].cells:=dW l j h (λ_ _=>rfl)
structure iT(W:World)(R:List ab)(ao:Option Addr)(l:List cQ):Prop where
  gz:aV W R 2 ao l.length (putCells l)
  each:∀p∈l,aV W R 1 p.d.ao p.d.data.length (bytes p.d.data)
  n128:∀p∈l,p.d.data.length=128
theorem iT.aR{W:World}{H R:List ab}{ao:Option Addr}{l:List cQ}(h:iT W R ao l)(e:ae W H R):iT W H ao l:=⟨h.gz.aR e,λx a=>(h.each x a).aR e,h.n128⟩
section
variable{α β:Type}
def mq(l:List (Int×α))(k:Int)(v:α):List (Int×α):=l.filter (λx=>x.1≠k)++[(k,v)]
def fj(l:List (Int×α))(k:Int):Option α:=(l.find? λx=>x.1=k).map (·.2)
theorem Ei(f:α->β)(l:List (Int×α))(k:Int)(v:α):(mq l k v).map (λx=>(x.1,f x.2))=mq (l.map λx=>(x.1,f x.2)) k (f v):=by
 unfold mq;rw[jv,List.filter_map];rfl
theorem Dt(f:α->β)(l:List (Int×α))(k:Int):fj (l.map λx=>(x.1,f x.2)) k=(fj l k).map f:=by
 unfold fj;rw[List.find?_map,qY,qY];rfl
theorem JU(l:List (Int×α))(k:Int)(v:α):(mq l k v).map (·.1)=(l.map (·.1)).filter (λx=>x≠k)++[k]:=by
 unfold mq;rw[jv,List.filter_map];rfl
theorem xL{l:List (Int×α)}(h:(l.map (·.1)).Nodup)(k:Int)(v:α):((mq l k v).map (·.1)).Nodup:=by
 rw[JU];exact List.nodup_append.2 ⟨h.sublist List.filter_sublist,by simp,λa c b d=>by
  rw[ju.1 d];simpa using(KO.1 c).2⟩
theorem Mf(l:List (Int×α))(k j:Int)(v:α):fj (mq l k v) j=if j=k then some v else fj l j:=by
  unfold fj mq;rw[List.find?_append];by_cases h:j=k
  · subst h
    rw[lam rfl,Tm.2 (λx b=>by simpa using(KO.1 b).2)]
    simp
  · have e:∀l:List (Int×α),(l.filter λx=>x.1≠k).find? (λx=>x.1=j)=l.find? λx=>x.1=j:=λl=>by
      induction l with
      |nil=>rfl
      |cons x r a=>
        by_cases q:x.1=k
        · rw[List.filter_cons_of_neg (by simpa using q),a,List.find?_cons_of_neg (by simp[q,Ne.symm h])]
        · rw[List.filter_cons_of_pos (by simpa using q),List.find?_cons,List.find?_cons,a]
    rw[aE h,e]
    cases List.find? (λx:Int×α=>x.1=j) l with
    |some x=>rfl
    |none=>simp[Ne.symm h]
theorem kS{l:List (Int×α)}(a:(l.map (·.1)).Nodup){k:Int}{v:α}(h:(k,v)∈l):fj l k=some v:=by
  unfold fj;induction l with
  |nil=>cases h
  |cons x r b=>
    rw[BI,List.nodup_cons]at a;by_cases q:x.1=k
    · rw[List.find?_cons_of_pos (by simpa using q)]
      cases h with
      |head=>rfl
      |tail _ h=>exact lcs (q▸List.mem_map_of_mem h:x.1∈r.map (·.1)) a.1
    · rw[List.find?_cons_of_neg (by simpa using q)]
      cases h with
      |head=>exact lcs rfl q
      |tail _ h=>exact b a.2 h
def gK(S:List (Int×List (Int×α)))(r:Int):List (Int×List (Int×α)):=if(fj S r).isSome then S else S++[(r,[])]
def tV(S:List (Int×List (Int×α)))(r k:Int)(v:α):List (Int×List (Int×α)):=S.map λs=>(s.1,if s.1=r then mq s.2 k v else s.2)
def sy(S:List (Int×List (Int×α)))(r k:Int)(v:α):List (Int×List (Int×α)):=tV (gK S r) r k v
end
structure dP where
  row:Int
  dV:Nat
  es:List (Int×aj)
abbrev PQ(p:aj):Value:= .agg p.cells.toArray
abbrev dP.kv(s:dP):List (Int×Value):=s.es.map λx=>(x.1,PQ x.2)
def dP.res(s:dP):ab:=db cz eK s.dV s.kv
abbrev dP.top(s:dP):Int×Value:=(s.row,.map (some s.dV))
abbrev dP.pl(s:dP):Int×List (Int×List UInt8):=(s.row,s.es.map λx=>(x.1,x.2.d.data))
structure T2(G:List aU)(s:dP):Prop where
  of:∀x∈s.es,x.2.av=x.1/\x.2.row=s.row/\x.2.d∈G
  one:(s.es.map (·.1)).Nodup
  mx:s.es.length<=256
structure ni(S:List dP)(G:List aU)(P:List (Int×List (Int×List UInt8))):Prop where
  each:∀s∈S,T2 G s
  one:(S.map (·.row)).Nodup
  pl:S.map dP.pl=P
theorem mE{α:Type}{l:List (Int×α)}{k:Int}:(fj l k).isSome=true↔k∈l.map (·.1):=by
 unfold fj;rw[Option.isSome_map,List.find?_isSome,fG];exact⟨λ⟨x,h,e⟩=>⟨x,h,by simpa using e⟩,λ⟨x,h,e⟩=>⟨x,h,by simpa using e⟩⟩
section
variable{S:List dP}{G:List aU}{P:List (Int×List (Int×List UInt8))}{r k:Int}
theorem ni.rows(h:ni S G P):P.map (·.1)=S.map (·.row):=by rw[<-h.pl,FZ];rfl
theorem top_get(h:ni S G P){i:Nat}(a:i<S.length)(b:S[i].row=r):getD (S.map dP.top) r=some (.map (some S[i].dV)):=
 getD_some (by rw[FZ];exact h.one) (fG.2 ⟨S[i],fF a,by rw[<-b]⟩)
theorem top_none(h:∀s∈S,s.row≠r):getD (S.map dP.top) r=none:=getD_none λx b=>by
 obtain⟨s,a,rfl⟩:=fG.1 b;exact h s a
theorem ni.MQ(h:ni S G P)(d:∀s∈S,s.row≠r)(b:Nat):ni (S++[⟨r,b,[]⟩]) G (gK P r):=by
 refine⟨λs c=>?_,?_,?_⟩
 ·
  rcases l0.1 c with q|q
  · exact h.each s q
  · rw[ju.1 q];exact⟨λx i=>(by cases i),List.nodup_nil,c7 _⟩
 ·
  rw[jv];exact List.nodup_append.2 ⟨h.one,by simp,λa f b g=>by
   obtain⟨s,c,rfl⟩:=fG.1 f;rw[ju.1 g];exact d s c⟩
 ·
  unfold gK;rw[aE (λe=>by
   rw[mE,h.rows]at e;obtain⟨s,c,q⟩:=fG.1 e;exact d s c q),jv,h.pl];rfl
theorem ni.MR(h:ni S G P){i:Nat}(a:i<S.length)(b:S[i].row=r):ni S G (gK P r):=by
 unfold gK;rw[lam (mE.2 (by rw[h.rows];exact fG.2 ⟨_,fF a,b⟩))];exact h
def dP.put(r k:Int)(p:aj)(s:dP):dP:=if s.row=r then{s with es:=mq s.es k p}else s
theorem BZ(r k:Int)(p:aj)(s:dP):(dP.put r k p s).row=s.row/\(dP.put r k p s).dV=s.dV:=by
 unfold dP.put;split<;>exact⟨rfl,rfl⟩
theorem ni.put(h:ni S G P)(p:aj)(j:p.av=k)(l:p.row=r)(i:∀s∈S,s.es.length<256):ni (S.map (dP.put r k p)) (G++[p.d]) (tV P r k p.d.data):=by
 refine⟨λs m=>?_,?_,?_⟩
 ·
  obtain⟨s,f,rfl⟩:=fG.1 m;have d:=h.each s f;unfold dP.put;split
  ·
   rename_i e;refine⟨λx g=>?_,xL d.one k p,?_⟩
   ·
    rcases l0.1 g with q|q
    ·
     obtain⟨a,b,c⟩:=d.of x (KO.1 q).1;exact⟨a,b,List.mem_append_left _ c⟩
    · rw[ju.1 q];exact⟨j,l.trans e.symm,by simp⟩
   ·
    show(List.filter _ _++[_]).length<=256;rw[c9];have:=uy (λx:Int×aj=>decide (x.1≠k)) s.es;have:=i s f;simp only[ie];omega
  · exact⟨λx g=>by obtain⟨a,b,c⟩:=d.of x g;exact⟨a,b,List.mem_append_left _ c⟩,d.one,d.mx⟩
 ·
  rw[FZ,show((λs:dP=>s.row) ∘ dP.put r k p)=λs=>s.row from funext λs=>(BZ r k p s).1];exact h.one
 ·
  rw[<-h.pl];unfold tV;rw[FZ,FZ];refine Mx λs _=>?_;show dP.pl (dP.put r k p s)=_;unfold dP.put;split
  ·
   rename_i e;show(s.row,(mq s.es k p).map λx=>(x.1,x.2.d.data))=(s.row,if s.row=r then mq (s.es.map λx=>(x.1,x.2.d.data)) k p.d.data else _);rw[lam e,Ei (λq:aj=>q.d.data)]
  ·
   rename_i e;show dP.pl s=(s.row,if s.row=r then _ else s.es.map λx=>(x.1,x.2.d.data));rw[aE e]
theorem ni.top_put(p:aj):(S.map (dP.put r k p)).map dP.top=S.map dP.top:=by
 rw[FZ];refine Mx λs _=>?_;obtain⟨a,b⟩:=BZ r k p s;show((dP.put r k p s).row,Value.map (some (dP.put r k p s).dV))=_;rw[a,b]
theorem ni.rest(h:ni S G P){i:Nat}(b:i<S.length)(c:S[i].row=r)(p:aj):List.Perm (dP.put r k p S[i]::S.eraseIdx i) (S.map (dP.put r k p)):=by
 have q:=nI (fL b);have a:((S[i]::S.eraseIdx i).map (·.row)).Nodup:=(q.map _).nodup_iff.1 h.one;rw[BI,List.nodup_cons]at a;have e:(S.eraseIdx i).map (dP.put r k p)=S.eraseIdx i:=by
  refine(Mx λs d=>?_).trans (List.map_id _);show dP.put r k p s=s;unfold dP.put;rw[aE λe=>a.1 (fG.2 ⟨s,d,e.trans c.symm⟩)]
 have:=q.map (dP.put r k p);rw[BI,e]at this;exact this.symm
end
end Go.Proofs.YtldolcbbmnmjoaaGreat
