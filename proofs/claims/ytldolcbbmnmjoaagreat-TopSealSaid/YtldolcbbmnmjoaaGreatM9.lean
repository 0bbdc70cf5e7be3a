import Derived.Test.YtldolcbbmnmjoaaGreatM8
import Derived.Recover
import Derived.WalkKit
import Derived.ProofKit
import Derived.OpenShut
set_option maxRecDepth 8000
set_option maxHeartbeats 16000000
set_option linter.unusedVariables false
set_option linter.unusedSimpArgs false
set_option linter.unusedSectionVars false
set_option linter.defProp false
namespace Go.Sl
open Go Go.RowKit
section
variable{W:World}{P:Program}{n:Nat}{m:Md}{c:Code}{Q:Exit->Act->World->Prop}{H H' L R G G':List ab}{f F:Fr}{N:List ab->Fr->Prop}
variable{dst:Option Tmp}{d:Nat}{ty_:TypeId}{pos:String}{after:Array Edge}{guard:Option (Nat×Bool)}
abbrev UD(v:Value):List PanicEntry:=[{v,recovered:=false}]
abbrev Uj(v:Value):List PanicEntry:=[{v,recovered:=true}]
def DiesP(W:World)(v:Value)(G:List ab):Ending->World->Prop:=λe a=>e= .panicked (UD v)/\Holds W G a
def Dies(W:World)(P:Program)(g:FuncId)(args:List Value)(H:List ab)(v:Value)(G:List ab):Prop:=∀w,Holds W H w->Calls P g args.toArray w (DiesP W v G)
theorem Dies.enter{g:FuncId}{fn:Func}{args:List Value}{v:Value}(e:P.funcs[g]?=some fn)(k:fn.ntmps=n)(b:fn.body.isSome=true)(j:Nat.ble args.length n=true)
  (h:VC W P n (gq fn) (bodyPost P fn (DiesP W v G)) H (vZ 0 args)):Dies W P g args H v G:=by
 unfold VC at h;intro w l;obtain⟨c,a⟩:=Option.isSome_iff_exists.1 b;refine calls_of_wp e a ?_;have i:=bS.start args n (by simpa[Nat.ble_eq]using j);rw[k];have:=h _ w i l;rw[gq,a]at this;exact this
theorem VE.dies{fn:Func}{v:Value}(a:ae W H G):VE W n (bodyPost P fn (DiesP W v G)) (.panic (UD v)) H f:=by
 unfold VE;exact λt w e b=>⟨rfl,rfl,a w b⟩
theorem VE.blockPanic{a:List PanicEntry}{i:Nat}(h:VE W n Q (.panic a) H f):VE W n (mi i Q) (.panic a) H f:=by
 unfold VE at*;unfold mi;exact h
theorem VF.passPanic{b:List PanicEntry}{r:Option Nat}(h:VF W n m Q (.panic b) H f):VF W n m (yl r P c Q) (.panic b) H f:=by
 unfold VF at*;unfold yl;exact λa t w e g=>h a t w e g
theorem VF.blockPanic{b:List PanicEntry}{i:Nat}(h:VF W n m Q (.panic b) H f):VF W n m (sP i Q) (.panic b) H f:=by
 unfold VF at*;unfold sP;exact λa t w e g=>h a t w e g
theorem VF.loopPanic{b:List PanicEntry}{α:Type}{A:α->Prop}{G:α->List ab}{F:α->Fr}{μ:α->Nat}{k:Nat}(h:VF W n m Q (.panic b) H f):VF W n m (DS W n m A G F μ k Q) (.panic b) H f:=by
 unfold VF at*;unfold DS;exact λa t w e g=>h a t w e g
theorem ay.callDies{x:Operand}{xs:Array Operand}{ats:Array TypeId}{g:FuncId}{cap:Array Value}{vs:List Value}{v:Value}
  (r:aD f x=some (.func (.func g) #[] cap))(l:jo f xs.toList=some vs)(o:∀a w,(callFunc g a).run P w= .ok (.enter g a) w)(spec:Dies W P g (vs++cap.toList) L v G)
  (k:ae W H L)(h:VE W n Q (.panic (UD v)) G f):
  ay W P n {dst:=some d,op:= .call {callee:= .value x,args:=xs,argTypes:=ats},type:=ty_,pos,after,guard} Q H f N:=by
 unfold VE at h;unfold ay;intro t w i q K u;have b:xs.map (Act.eval ⟨t,[]⟩)=vs.toArray:=by
  have:=i.args l;apply Array.ext';simpa using this
 have p:=spec w (k w q);unfold Oper.wp execOp;simp only[resolve,i.eval r,b,Deferred.ofValue,Go.invoke,Sem.run_bind,Sem.run_pure,Result.andThen_ok,o,Oper.upon];have e:#[]++vs.toArray++cap=(vs++cap.toList).toArray:=by simp
 rw[e];refine Calls.mono p ?_;rintro e s ⟨rfl,j⟩;exact h t s i j
theorem ay.panic{x:Operand}{t:TypeId}{v:Value}(e:aD f x=some (.iface t v))(h:VE W n Q (.panic (UD (.iface t v))) H f):ay W P n {dst,op:= .panic x,type:=ty_,pos,after,guard} Q H f N:=by
 unfold VE at h;unfold ay;intro g w a b K i;unfold Oper.wp execOp;simp only[a.eval e,Sem.run_bind,run_panic_iface,Result.andThen,Oper.upon];exact h g w a b
theorem aq.oL{g:FuncId}{fn:Func}{args:List Value}{β:Type}{A:β->Prop}{r:β->Value}{G:β->List ab}(l:P.funcs[g]?=some fn)(p:fn.ntmps=n)(k:fn.body.isSome=true)(o:Nat.ble args.length n=true)
  (h:VR W P n ⟨none,[]⟩ (gq fn) (bodyPostD P fn (lh W A r G)) H (vZ 0 args)):aq W P g args H A r G:=by
 unfold aq;unfold VR at h;intro w s;obtain⟨c,i⟩:=Option.isSome_iff_exists.1 k;refine calls_of_wp_defers l i ?_;have b:=h (λa w q=>by obtain⟨_,_,e,_⟩:=q;cases e) _ w (bS.start args n (Nat.le_of_ble_eq_true o)) s;rw[<-p]at b;have j:=wpIn_wide.1 b;simpa[gq,i]using j
theorem VR.PW(i:dg c=some false)(h:VO W P n c 0 (EE [] Q) H f):VR W P n ⟨none,[]⟩ c Q H f:=by
 have h:=VC.region i h;unfold VC at h;unfold VR;intro b t w j k;refine wpIn_wide.2 (Code.wp_mono ?_ (h t w j k));intro e a l q;unfold EE at q;have q:=q b;have g:gj a []=a:=by unfold gj;rw[mn]
 rwa [g]at q
def jm(W:World)(P:Program)(g:FuncId)(args:List Value)(H:List ab)(u a:FrameMode)(G:List ab):Prop:=∀w,Holds W H w->CallsD P g args.toArray u w (λe b h=>b=a/\(∃v,e= .returned v)/\Holds W G h)
theorem Ca{fn:Func}{o e:ResultVar}{v v2:Value}(g:fn.results=#[o,e])(p:aL W P G' f o v)(k:aL W P G' f e v2){t:Array Value}{w:World}(b:bS n f t)(h:Holds W G' w):(results fn t).run P w= .ok (.tuple #[v,v2]) w:=by
  cases p with
  |tmp i=>
    have g1:=b.get _ _ i;cases k with
    |tmp a=>have g2:=b.get _ _ a;simp[results,g,g1,g2]
    |cell a j=>have g2:=b.get _ _ a;simp[results,g,g1,g2,asAddr,j _ h]
  |cell i l=>
    have g1:=b.get _ _ i;cases k with
    |tmp a=>have g2:=b.get _ _ a;simp[results,g,g1,g2,asAddr,l _ h]
    |cell a j=>have g2:=b.get _ _ a;simp[results,g,g1,g2,asAddr,l _ h,j _ h]
theorem jm.Rm{g:FuncId}{fn:Func}{args:List Value}{u u':FrameMode}{v1:Value}{d1 d2:Nat}{t1 t2:TypeId}{p1 p2:String}{a1 a2:Array Edge}(hf:P.funcs[g]?=some fn)(hn:fn.ntmps=n)(hb:fn.body.isSome=true)(hl:Nat.ble args.length n=true)(C:Ad (gq fn)=true)
    (J:dg (Cd.l (gq fn))=some false)(I:aG (Cd.l (gq fn))=[{dst:=some d1,op:= .call {callee:= .builtin .recover,args:=#[],argTypes:=#[]},type:=t1,pos:=p1,after:=a1,guard:=none},{dst:=some d2,op:= .assign (.tmp d1),type:=t2,pos:=p2,after:=a2,guard:=none}])
    (M:Nat.blt d1 n=true)(O:Nat.blt d2 n=true)(hu:(∃v,u= .panicking (UD v)/\u'= .panicking (Uj v)/\v1=v)\/(u= .returning/\u'= .returning/\v1= .nilIface))
    (h:VC W P n (Cd.r (gq fn)) (bodyPost P fn (λe o=>(∃v,e= .returned v)/\Holds W G o)) H ((d2,v1)::(d1,v1)::vZ 0 args)):jm W P g args H u u' G:=by
  unfold VC at h;intro w hw;obtain⟨c,V⟩:=Option.isSome_iff_exists.1 hb;refine callsD_of_wpS hf V λj cs z=>?_;have K:gq fn=c:=by rw[gq,V];rfl
  rw[K]at C J I h;cases c<;>simp[Ad]at C;rename_i x y;simp only[Cd.l,Cd.r]at J I h;cases x<;>simp[dg]at J;rename_i id ops dr;subst J;simp only[aG]at I;have A:ops=#[{dst:=some d1,op:= .call {callee:= .builtin .recover,args:=#[],argTypes:=#[]},type:=t1,pos:=p1,after:=a1,guard:=none},{dst:=some d2,op:= .assign (.tmp d1),type:=t2,pos:=p2,after:=a2,guard:=none}]:=by
    apply Array.ext';simpa using I
  subst A;have hk:=bS.start args n (Nat.le_of_ble_eq_true hl);rw[hn]at*;obtain⟨b,B,s⟩:∃b,(recoverD (j::cs)=some (v1,b)\/(recoverD (j::cs)=none/\v1= .nilIface/\b=j::cs))/\b={j with mode:=u'}::cs:=by
    rcases hu with⟨v,E,r,p⟩|⟨E,r,p⟩
    · refine⟨_,.inl ?_,rfl⟩
      rw[E]at z
      unfold recoverD
      simp only[z,r,p]
    · refine⟨_,.inr ⟨?_,p,rfl⟩,?_⟩
      · rw[E]at z
        unfold recoverD
        simp only[z]
      · rw[r];rw[E]at z;cases j;simp_all
  apply wpS_seq;apply wpS_region;have X:=hk.put (v:=v1) M;have k2:=X.put (v:=v1) O;have ev:Act.eval ⟨(args.toArray++Array.replicate (n-args.toArray.size) undef).setIfInBounds d1 v1,[]⟩ (.tmp d1)=v1:=X.eval (by simp[aD,look]);have r:=h _ w k2 hw;have t:y.wpS P (bodyPostS P fn j cs λe D o=>D=u'/\(∃v,e= .returned v)/\Holds W G o) ⟨((args.toArray++Array.replicate (n-args.toArray.size) undef).setIfInBounds d1 v1).setIfInBounds d2 v1,[]⟩ b w:=by
    refine wpS_of_wp (Code.wp_mono ?_ r);intro e a o q;cases e with
    |normal=>
      obtain⟨S,v,T,U⟩:=q;exact⟨S,u',s,v,T,rfl,⟨v,rfl⟩,U.2⟩
    |ret=>
      obtain⟨S,v,T,U⟩:=q;exact⟨S,u',s,v,T,rfl,⟨v,rfl⟩,U.2⟩
    |panic ch=>obtain⟨_,⟨v,e⟩,_⟩:=q;cases e
    |outgrown=>obtain⟨⟨v,e⟩,_⟩:=q;cases e
    |exit i=>exact q.elim
    |goto l=>exact q.elim
  have k:wpOpsS P #[{dst:=some d1,op:= .call {callee:= .builtin .recover,args:=#[],argTypes:=#[]},type:=t1,pos:=p1,after:=a1,guard:=none},{dst:=some d2,op:= .assign (.tmp d1),type:=t2,pos:=p2,after:=a2,guard:=none}]
      (Exit.thenS (y.wpS P (bodyPostS P fn j cs λe D o=>D=u'/\(∃v,e= .returned v)/\Holds W G o)) (bodyPostS P fn j cs λe D o=>D=u'/\(∃v,e= .returned v)/\Holds W G o)) [1] ⟨(args.toArray++Array.replicate (n-args.toArray.size) undef).setIfInBounds d1 v1,[]⟩ b w:=by
    unfold wpOpsS;simp only[List.getElem?_toArray,List.getElem?_cons_zero,List.getElem?_cons_succ,Region.wanted];rw[lam trivial];have Z:(execOp (Act.eval ⟨(args.toArray++Array.replicate (n-args.toArray.size) undef).setIfInBounds d1 v1,[]⟩) {dst:=some d2,op:= .assign (.tmp d1),type:=t2,pos:=p2,after:=a2,guard:=none}).run P w= .ok (.value v1) w:=by
      unfold execOp;simp only[ev,Sem.run_pure]
    rw[Z];simp only[Oper.upon,wpOpsS,Act.put,Exit.thenS];exact t
  show wpOpsS P _ _ [0,1] _ _ _;unfold wpOpsS;simp only[List.getElem?_toArray,List.getElem?_cons_zero,Region.wanted];rw[lam trivial];have Y:(execOp (Act.eval ⟨args.toArray++Array.replicate (n-args.toArray.size) undef,[]⟩) {dst:=some d1,op:= .call {callee:= .builtin .recover,args:=#[],argTypes:=#[]},type:=t1,pos:=p1,after:=a1,guard:=none}).run P w= .ok .recover w:=by
    unfold execOp;simp only[resolve,Go.invoke,builtin,Sem.run_bind,Sem.run_pure,Result.andThen_ok]
  rw[Y];simp only;rcases B with p|⟨p,rfl,rfl⟩
  · rw[p]
    exact k
  · rw[p]
    exact k
end
attribute [irreducible] Dies jm
section
variable{W w:World}{P:Program}{n:Nat}{Q:Exit->Act->World->Prop}{H:List ab}{f:Fr}{N:List ab->Fr->Prop}{d:Nat}{ty_:TypeId}{pos:String}{after:Array Edge}{guard:Option (Nat×Bool)}
end
end Go.Sl
namespace Go.Proofs.YtldolcbbmnmjoaaGreat
open Go.RowKit Go.Sl
attribute [local irreducible] Sl.Own
theorem fK{W:World}{R:List ab}(b:Nat)(D:aw):az W Tryz.prog 46 [ip b] (al b D::R) (ii (D.bh.length:Nat)) (al b D::R):=by
 (refine aq.enter Tryz.func46 Tryz.ntmps46 rfl rfl ?_);refine VC.obtain (λw=>al.open) ?_;rintro⟨⟨a,sp⟩,c,d⟩;dsimp only at c d⊢;refine w ?_;refine VE.ax rfl ?_ ?_
 · rw[c,ew]
 · exact al.shut c d
end Go.Proofs.YtldolcbbmnmjoaaGreat
namespace Go.Proofs.YtldolcbbmnmjoaaGreat
open Go.RowKit Go.Sl
attribute [local irreducible] Own
abbrev bW(r size tail used:Nat):ab:=Row r 167 [ii size,ii tail,ii used]
structure iU(size tail used:Nat):Prop where
  lo:5<=size
  hi:size<=2048
  tl:tail<size
  us:used<=size
theorem xP{W:World}{R:List ab}{size tail used:Nat}(h:iU size tail used):
  aq W Tryz.prog 81 [ii size,ii tail,ii used] R (β:=Nat) (λ_=>True) (λr=>.tuple #[ip r,i6 0]) (λr=>bW r size tail used::R):=by
 have a:=h.lo;have b:=h.hi;have c:=h.tl;have d:=h.us;refine ze Tryz.func81 Tryz.ntmps81 ?_;refine VO.gF rfl rfl rfl (gx zO) ?_;refine w ?_;refine VO.gF rfl rfl rfl (gx zO) ?_;refine w ?_;refine VO.gF rfl rfl rfl (gx zO) ?_;refine w ?_;refine VC.aK rfl rfl (gx zO) ?_;refine w ?_;apply VO.pure rfl rfl;apply af.build sb_167 rfl;simp[aC,bR,Value.cells];rfl;rfl;refine w ?_;refine zj λ_=>?_;refine w ?_;rename_i r;exact VE.done r rfl trivial rfl ae.re
theorem o9{W:World}{R:List ab}(r size tail used:Nat):az W Tryz.prog 292 [ip r] (bW r size tail used::R) (ii size) (bW r size tail used::R):=by
 refine ze Tryz.func292 Tryz.ntmps292 ?_;exact VE.ax rfl rfl ae.re
theorem uG{W:World}{R:List ab}(r size tail used:Nat):az W Tryz.prog 56 [ip r] (bW r size tail used::R) (ii used) (bW r size tail used::R):=by
 refine ze Tryz.func56 Tryz.ntmps56 ?_;exact VE.ax rfl rfl ae.re
theorem o7{W:World}{R:List ab}(r:Nat){size tail used:Nat}(h:iU size tail used):az W Tryz.prog 296 [ip r] (bW r size tail used::R) (ii ((size-used:Nat):Int)) (bW r size tail used::R):=by
 have a:=h.lo;have b:=h.hi;have c:=h.tl;have d:=h.us;refine ze Tryz.func296 Tryz.ntmps296 ?_;refine VC.quiet rfl (by kernel_rfl) (by kernel_rfl) ?_;refine w ?_;exact VE.ax rfl (by congr 1;omega) ae.re
theorem qC{W:World}{R:List ab}(r:Nat){size tail used:Nat}(h:iU size tail used)(n:Nat)(g:n<=4096):az W Tryz.prog 309 [ip r,ii n] (bW r size tail used::R) (ii (((tail+n)%size:Nat):Int)) (bW r size tail used::R):=by
 have c:=h.lo;have d:=h.hi;have e:=h.tl;have f:=h.us;refine ze Tryz.func309 Tryz.ntmps309 ?_;refine VC.quiet rfl (by kernel_rfl) (by kernel_rfl) ?_;refine w ?_;refine VQ.pure rfl rfl (af.rem (a:=tail+n) (b:=size) rfl rfl zO) rfl ?_;refine w ?_;exact VE.ax rfl rfl ae.re
theorem o8{W:World}{R:List ab}(r:Nat){size tail used:Nat}(h:iU size tail used):az W Tryz.prog 270 [ip r] (bW r size tail used::R) (ii (((tail+used)%size:Nat):Int)) (bW r size tail used::R):=by
 have a:=h.lo;have b:=h.hi;have c:=h.tl;have d:=h.us;refine aq.enter Tryz.func270 Tryz.ntmps270 rfl rfl ?_;refine zt (s:=qC r h used zO) (h:=?_);intro _ _;refine w ?_;exact VE.ax rfl rfl ae.re
def kE(a:Nat)(i:Nat):ab:=ex λx:(Option Addr×Nat)×List Value=>star [Row a 358 [.slice x.1.1 i x.1.2],Sl.Own 407 2 (.slice x.1.1 i x.1.2) i x.2]
theorem Kp{W:World}{size tail used q c:Nat}(h:iU size tail used)(H:q<=4096)(u:c<size)(l d e f r:Nat)(b:Loop)(G:Nat->List ab)
  (s:∀(i a k x y:Nat),i<=4096->rD W Tryz.prog l [.agg #[ii a,ii k]]
   (cR l b::Row d 3 [ii x]::Row e 129 [ip r]::Row f 3 [ii y]::bW r size tail used::G i)
   (cR l b::Row d 3 [ii x]::Row e 129 [ip r]::Row f 3 [ii y]::bW r size tail used::G (i+1)) (λ_:Unit=>False) (λ_=>cR l (Loop.done b):: [])):
  aq W Tryz.prog 336 [.func (.yield l) #[] #[],ip d,ip e,ip f]
   (cR l b::Row d 3 [ii q]::Row e 129 [ip r]::Row f 3 [ii c]::bW r size tail used::G 0) (β:=Option Unit) (λo=>o.elim True λ_=>False) (λ_=>.tuple #[])
   (λo=>o.elim (cR l b::bW r size tail used::ex (λi:Nat=>star (G i)):: []) λx=>cR l (Loop.done b):: []):=by
 have B:=h.lo;have C:=h.hi;have D:=h.tl;have E:=h.us;refine aq.L1 Tryz.func336 Tryz.ntmps336 rfl rfl ?_;refine wr ?_
 refine VR.loop (α:=Nat×Nat×Nat) (λy=>y.1+y.2.1<=4096/\y.2.2<size) (λy=>cR l b::Row d 3 [ii y.2.1]::Row e 129 [ip r]::Row f 3 [ii y.2.2]::bW r size tail used::G y.1)
  (λy=>[(0,.func (.yield l) #[] #[]),(1,ip d),(2,ip e),(3,ip f)]) (λy=>y.2.1) rfl (0,q,c) ⟨by simp only;omega,u⟩ ae.re ⟨rfl,rfl,rfl,rfl,trivial⟩ ?_
 rintro⟨i,n,fr⟩ ⟨v,m⟩;dsimp only at v m⊢;refine wr ?_;(refine VR.cond rfl rfl ?_ ?_<;>intro j)
 ·
  have p:0<n:=by have:=cI j;omega
  clear j;refine wr ?_;refine VR.quiet rfl (by kernel_rfl) (by kernel_rfl) ?_;iterate 9 (((first|apply VO.pure rfl rfl|apply VQ.pure rfl rfl|apply VD.take rfl rfl rfl|(refine VD.end rfl rfl rfl ?_;apply ay.pure));exact zp;rfl))
  have g:1<=min n (size-fr):=by omega
  refine VQ.re 5 (ii ((min n (size-fr):Nat):Int)) rfl (by congr 1;omega) ?_;generalize F:min n (size-fr)=k at g⊢;refine VQ.nil rfl ?_;refine VE.sh ?_;refine VF.next ?_;refine VR.seq rfl ?_;refine VR.seq rfl ?_;refine VR.HX rfl ?_;iterate 3 ((apply VI.pure rfl rfl;exact zp;rfl))
  apply VI.pure rfl rfl
  · exact af.build (cs:=[ii fr,ii k]) sb_407 rfl rfl
  · rfl
  refine VI.yield rfl rfl rfl rfl (s i fr k n fr zO) ae.refl rfl ?_ (λx A=>A.elim);apply VI.pure rfl rfl;exact zp;rfl;refine VI.nil rfl ?_;refine wr ?_;refine VR.drawn [3] 4 [0,1,2,3,4] [Row d 3 [ii n]] rfl (by kernel_rfl) (by kernel_rfl) ae.re ?_;refine wr ?_;refine VF.round (i+1,n-k,0) ⟨by simp only;omega,by simp only;omega⟩ (by simp only;omega) ⟨rfl,rfl,rfl,rfl,trivial⟩ ?_;dsimp only;rw[show((n-k:Nat):Int)=(n:Int)-k by omega];exact ae.re
 have p:n=0:=by have:=dx j;omega
 refine wr ?_;refine VF.done (.inr rfl) none q8 trivial rfl ?_;exact ae.trans (ae.re (L:=cR l b::bW r size tail used::G i)) λw z=>by
  have t:Holds W (G i++[cR l b,bW r size tail used]) w:=z.perm (by
   have:List.Perm (cR l b::bW r size tail used::G i) ([cR l b,bW r size tail used]++G i):= .refl _
   exact this.trans List.perm_append_comm)
  exact(Holds.dU (P:=λi:Nat=>star (G i)) i t.nest).fk (by(repeat first|exact .refl|(apply aP.cons;focus repeat first|exact .head|apply nW.tail)|exact .nil|apply aP.drop))
theorem yb{W w:World}{R:List ab}{a i:Nat}(h:Holds W (kE a i::R) w):∃x:(Option Addr×Nat)×List Value,Holds W (Row a 358 [.slice x.1.1 i x.1.2]::Sl.Own 407 2 (.slice x.1.1 i x.1.2) i x.2::R) w:=by
 obtain⟨x,h⟩:=h.gW;exact⟨x,h.join⟩
theorem ye{W:World}{R:List ab}{a i:Nat}(x:(Option Addr×Nat)×List Value):ae W (Row a 358 [.slice x.1.1 i x.1.2]::Sl.Own 407 2 (.slice x.1.1 i x.1.2) i x.2::R) (kE a i::R):=λw b=>
 Holds.dU x (b.nest (L:=[Row a 358 [.slice x.1.1 i x.1.2],Sl.Own 407 2 (.slice x.1.1 i x.1.2) i x.2]))
theorem Ko{W:World}{R:List ab}{a:Nat}{A B D:ab}:ae W (A::B::ex (λi:Nat=>star (D::kE a i::R)):: []) (A::D::B::ex (λi:Nat=>kE a i)::R):=λw g=>by
 have b:Holds W (ex (λi:Nat=>star (D::kE a i::R)):: [A,B]) w:=g.fk (by(repeat first|exact .refl|(apply aP.cons;focus repeat first|exact .head|apply nW.tail)|exact .nil|apply aP.drop));obtain⟨i,c⟩:=b.gW;have d:=c.join;have e:Holds W ([A,B]++(D::kE a i::R)) w:=d.perm List.perm_append_comm
 have f:Holds W (kE a i::A::D::B::R) w:=e.fk (by
  show aP (A::B::D::kE a i::R) _
  (repeat first|exact .refl|(apply aP.cons;focus repeat first|exact .head|apply nW.tail)|exact .nil|apply aP.drop))
 exact(Holds.dU (P:=λi:Nat=>kE a i) i f).fk (by(repeat first|exact .refl|(apply aP.cons;focus repeat first|exact .head|apply nW.tail)|exact .nil|apply aP.drop))
theorem u3{W:World}{R:List ab}{size tail used q c:Nat}(K:iU size tail used)(J:q<=4096)(H:c<size)(d e f r:Nat):
  aq W Tryz.prog 335 [.slice none 0 0,.func (.func 336) #[] #[ip d,ip e,ip f]]
   (Row d 3 [ii q]::Row e 129 [ip r]::Row f 3 [ii c]::bW r size tail used::R) (β:=(Option Addr×Nat)×Nat) (λ_=>True) (λx=>.slice x.1.1 x.2 x.1.2) (λ_=>bW r size tail used::R):=by
 (refine aq.L2 Tryz.func335 Tryz.ntmps335 rfl rfl ?_);refine wr ?_;refine zj λ_=>?_;refine wr ?_;rename_i g;refine VR.aR (H':=kE g 0::Row d 3 [ii q]::Row e 129 [ip r]::Row f 3 [ii c]::bW r size tail used::R) (ae.trans (λw j=>(j.aZ 407 2).swap) (ye ((none,0),[]))) ?_
 refine VR.range (τ:=Unit) (gf:=336) (cap:=#[ip d,ip e,ip f]) (λ_=>False)
  (bW r size tail used::ex (λi:Nat=>kE g i)::R) (λ_=>[]) rfl rfl (λ_ _=>by simp) ?_ ?_ (λD x u=>u.elim)
 ·
  intro l D b s v t E F I;refine fX (H':=cR l b::Row d 3 [ii q]::Row e 129 [ip r]::Row f 3 [ii c]::bW r size tail used::At D (.deferred (some []))::kE g 0::R) ae.re ?_;refine aq.mono (Kp K J H l d e f r b (λi=>At D (.deferred (some []))::kE g i::R) ?_) id (λo h=>by cases o with|none=>trivial|some x=>exact h.elim) (λ_ _=>rfl) ?_
  ·
   intro i a k x y M;refine rD.body (τ:=Unit) (A2:=λ_=>False) (G2:=λ_=>[]) I s v (by rw[t];rfl) (by rw[t];rfl) ?_;rw[t,E,F];refine wr ?_;refine zq ?_;refine ay.aB sb_407 rfl ?_;intro z;refine zq ?_;refine ay.gL (vs:=[ii a,ii k]) ah rfl rfl rfl rfl (by simp[Value.oneCell']) zh (by simp) ?_;refine wr ?_;refine VF.aR (H':=cR l b::kE g i::Row z 407 [ii a,ii k]::Row d 3 [ii x]::Row e 129 [ip r]::Row f 3 [ii y]::bW r size tail used::At D (.deferred (some []))::R) ae.re ?_;refine VF.begin (τ:=Unit) (A2:=λ_=>False) (G2:=λ_=>[]) (G1:=[]) s ?_;refine VR.aR (H':=kE g i::cR l (Loop.busy b)::Row z 407 [ii a,ii k]::Row d 3 [ii x]::Row e 129 [ip r]::Row f 3 [ii y]::bW r size tail used::At D (.deferred (some []))::R) ae.re ?_;refine VR.obtain (λw j=>yb j) ?_;rintro⟨⟨C,B⟩,xs⟩;dsimp only;refine wr ?_;refine zq ?_;refine ay.buildSlice (cs:=[ii a,ii k]) st_358 rfl rfl (by simp[Value.cells]) (by simp[Value.cells]) (by decide) rfl ?_;intro nb;refine zq ?_;refine ay.cg st_358 rfl rfl zh zm rfl (by simp[Value.oneCell']) (by simp only[maxLen];omega) zO rfl ?_;intro p n;refine wr ?_;refine VF.on (τ:=Unit) s v ?_
   exact ae.trans (ae.re (L:=Row g 358 [.slice p (i+1) n]::Sl.Own 407 2 (.slice p (i+1) n) (i+1) (xs++[ii a,ii k])::cR l (Loop.busy b)::Row d 3 [ii x]::Row e 129 [ip r]::Row f 3 [ii y]::bW r size tail used::At D (.deferred (some []))::R))
    (ae.trans (ye ((p,n),xs++[ii a,ii k])) ae.re)
  ·
   rintro(_|x) u
   · exact Ko
   · exact u.elim
 ·
  intro D;refine wr ?_;refine VO.aR (H':=ex (λi:Nat=>kE g i)::At D (.deferred (some []))::bW r size tail used::R) ae.re ?_;refine VO.obtain (λw j=>j.gW) ?_;intro i;refine VO.obtain (λw j=>yb j) ?_;rintro⟨⟨C,B⟩,xs⟩;dsimp only;refine wr ?_;refine VE.sh (m:=⟨none,[r7 D]⟩) ?_;refine VF.next (m:=⟨none,[r7 D]⟩) ?_;refine wr ?_;refine VF.result (A:=λ_:(Option Addr×Nat)×Nat=>True) (r:=λx=>.slice x.1.1 x.2 x.1.2) (G:=λ_=>bW r size tail used::R) (.inl rfl) ((C,B),i) rfl (.tail (.tail .head)) trivial rfl ?_;exact ae.re
theorem EH{W:World}{R:List ab}(r fr n:Nat):
  aq W Tryz.prog 311 [ip r,ii fr,ii n] R (β:=Nat×Nat×Nat) (λ_=>True) (λx=>.func (.func 336) #[] #[ip x.1,ip x.2.1,ip x.2.2])
   (λx=>Row x.1 3 [ii n]::Row x.2.1 129 [ip r]::Row x.2.2 3 [ii fr]::R):=by
 refine ze Tryz.func311 Tryz.ntmps311 ?_;repeat (refine zj λ_=>?_;refine w ?_)
 rename_i b c a;refine VO.pure rfl rfl (af.bB rfl) rfl ?_;refine w ?_;exact VE.done (a,b,c) rfl trivial rfl ae.re
theorem px{W:World}{R:List ab}{size tail used e a:Nat}(i:iU size tail used)(g:e<=4096)(f:a<size)(b c d r:Nat):
  aq W Tryz.prog 310 [.func (.func 336) #[] #[ip b,ip c,ip d]]
   (Row b 3 [ii e]::Row c 129 [ip r]::Row d 3 [ii a]::bW r size tail used::R) (β:=(Option Addr×Nat)×Nat) (λ_=>True) (λx=>.slice x.1.1 x.2 x.1.2) (λ_=>bW r size tail used::R):=by
 (refine aq.enter Tryz.func310 Tryz.ntmps310 rfl rfl ?_);refine zt (s:=u3 i g f b c d r) (h:=?_);intro x _;refine w ?_;exact VE.done x rfl trivial rfl ae.re
theorem Et{W:World}{R:List ab}(r:Nat){size tail used:Nat}(h:iU size tail used)(n:Nat)(j:used+n<=size):
  aq W Tryz.prog 298 [ip r,ii n] (bW r size tail used::R) (β:=(Option Addr×Nat)×Nat) (λ_=>True) (λx=>.tuple #[.slice x.1.1 x.2 x.1.2,i6 0]) (λ_=>bW r size tail (used+n)::R):=by
 have e:=h.lo;have f:=h.hi;have g:=h.tl;have i:=h.us;have d:(tail+used)%size<size:=qX _ zO;refine aq.enter Tryz.func298 Tryz.ntmps298 rfl rfl ?_;refine zt (s:=o7 r h) (h:=?_);intro _ _;refine w ?_;refine VC.aK rfl rfl (gx zO) ?_;refine zt (s:=o8 r h) (h:=?_);intro _ _;refine zt (s:=EH r ((tail+used)%size) n) (h:=?_);rintro⟨a,b,c⟩-;refine zt (s:=px h zO d a b c r) (h:=?_);rintro x-;refine w ?_;refine VE.done x rfl trivial rfl ?_;exact ae.re
theorem yS{W:World}{R:List ab}(r:Nat){size tail used:Nat}(h:iU size tail used)(n:Nat)(e:size<used+n):
  az W Tryz.prog 298 [ip r,ii n] (bW r size tail used::R) (.tuple #[.slice none 0 0,i6 90]) (bW r size tail used::R):=by
 have a:=h.lo;have b:=h.hi;have c:=h.tl;have d:=h.us;refine aq.enter Tryz.func298 Tryz.ntmps298 rfl rfl ?_;refine zt (s:=o7 r h) (h:=?_);intro _ _;refine w ?_;refine VC.cU rfl rfl (ky zO) ?_;refine w ?_;exact VE.ax rfl rfl ae.re
theorem Es{W:World}{R:List ab}(r:Nat){size tail used:Nat}(h:iU size tail used)(n:Nat)(j:n<=used):
  aq W Tryz.prog 271 [ip r,ii n] (bW r size tail used::R) (β:=(Option Addr×Nat)×Nat) (λ_=>True) (λx=>.tuple #[.slice x.1.1 x.2 x.1.2,i6 0]) (λ_=>bW r size ((tail+n)%size) (used-n)::R):=by
 have f:=h.lo;have g:=h.hi;have e:=h.tl;have i:=h.us;refine ze Tryz.func271 Tryz.ntmps271 ?_;refine VC.aK rfl rfl (gx zO) ?_;refine zt (s:=EH r tail n) (h:=?_);rintro⟨b,c,d⟩-;refine zt (s:=px h zO e b c d r) (h:=?_);rintro x-;refine w ?_;refine VC.drawn [4,13] 14 [0,1,2,3,5,6,7,8,9,10,4,11,12,13,14,15,16] [ex λv:Value=>Row r 167 [ii size,v,ii used]] rfl (by kernel_rfl) (by kernel_rfl) (λw a=>Holds.dU (P:=λv:Value=>Row r 167 [ii size,v,ii used]) (ii tail) (a.fk (.cons .head .nil))) ?_;refine w ?_;refine VD.take rfl rfl rfl (BX (λv=>af.ld ah rfl rfl (.head _) rfl)) rfl ?_;refine zt (s:=qC r h n zO) (h:=?_);intro _ _;refine⟨λw a=>Holds.dU (P:=λv:Value=>Row r 167 [ii size,v,ii used]) (ii tail) (a.fk (.cons .head .nil)),?_⟩;iterate 2 (((first|apply VO.pure rfl rfl|apply VQ.pure rfl rfl|apply VD.take rfl rfl rfl|(refine VD.end rfl rfl rfl ?_;apply ay.pure));exact zp;rfl))
 refine VD.yC rfl rfl rfl ?_;refine ay.st ah rfl rfl rfl rfl .head (by simp) ?_;refine⟨λw a=>Holds.dU (P:=λv:Value=>Row r 167 [ii size,v,ii used]) (ii (((tail+n)%size:Nat):Int)) (a.fk (.cons .head .nil)),?_⟩;refine w ?_;refine VE.done x rfl trivial rfl ?_;rw[show bW r size ((tail+n)%size) (used-n)=Row r 167 [ii size,ii (((tail+n)%size:Nat):Int),ii ((used:Int)-n)]by rw[show(used:Int)-n=((used-n:Nat):Int)by omega]];exact ae.re
structure K6 where
  cost:Nat
  b6:List UInt8
structure bT where
  slot:Int
  epoch:Nat
  size:Nat
  tail:Nat
  used:Nat
  next:Nat
  sure:Bool
  log:Option K6
  broken:Int
abbrev WS:=bT×aw
def bT.head(v:bT):Nat:=(v.tail+v.used)%v.size
def bT.spot(v:bT)(i:Nat):Nat:=2+(v.head+i)%v.size
def aS(s:WS)(a:Int)(l:List UInt8):Int×WS:=
  if s.1.broken=0 then((s.2.write s.1.slot a l).1,({s.1 with broken:=(s.2.write s.1.slot a l).1},(s.2.write s.1.slot a l).2))else(s.1.broken,s)
def cd(s:WS):Int×WS:=
  if s.1.broken=0 then((s.2.flush s.1.slot).1,({s.1 with broken:=(s.2.flush s.1.slot).1},(s.2.flush s.1.slot).2))else(s.1.broken,s)
def cF(s:WS):List (Int×List UInt8)->Int×WS
  |[]=>(0,s)
  |x::r=>if(aS s x.1 x.2).1≠0 then aS s x.1 x.2 else cF (aS s x.1 x.2).2 r
def cK(s:WS)(c:bJ):Int×WS:=
  if c.enc.1≠0 then(c.enc.1,s)else if(aS s 1 c.enc.2).1≠0 then aS s 1 c.enc.2 else cd (aS s 1 c.enc.2).2
abbrev To(a:Option (Nat×(Option Addr×Nat))):Value:= .pointer (a.map λx=>⟨x.1,0,none⟩)
def gZ:Option K6->Option (Nat×(Option Addr×Nat))->ab
  |none,none=>fact True
  |some g,some x=>star [Row x.1 383 [ii g.cost,.slice x.2.1 g.b6.length x.2.2],b8 x.2 g.b6]
  |_,_=>fact False
abbrev dj(w b r:Nat)(a:Option (Nat×(Option Addr×Nat)))(v:bT):ab:=
  Row w 132 [ip b,ii v.slot,i8 v.epoch,ip r,i8 v.next,.bool v.sure,To a,i6 v.broken]
abbrev cC(w b r:Nat)(a:Option (Nat×(Option Addr×Nat)))(v:bT)(R:List ab):List ab:=
  dj w b r a v::bW r v.size v.tail v.used::gZ v.log a::R
def bz(w b:Nat)(v:bT):ab:=ex λx:Nat×Option (Nat×(Option Addr×Nat))=>star (cC w b x.1 x.2 v [])
theorem bz.open{W a:World}{R:List ab}{w b:Nat}{v:bT}(h:Holds W (bz w b v::R) a):∃x:Nat×Option (Nat×(Option Addr×Nat)),Holds W (cC w b x.1 x.2 v R) a:=by
 obtain⟨x,h⟩:=h.gW;exact⟨x,h.join⟩
theorem bz.shut{W:World}{R:List ab}{w b:Nat}{v:bT}(r:Nat)(a:Option (Nat×(Option Addr×Nat))):ae W (cC w b r a v R) (bz w b v::R):=λc h=>
 Holds.dU (r,a) (h.nest (L:=cC w b r a v []))
theorem qj{W:World}{P:Program}{g:FuncId}{args:List Value}{R:List ab}{w b:Nat}{v:bT}{D:aw}{β:Type}{A:β->Prop}{r:β->Value}{G:β->List ab}
  (h:∀d c,aq W P g args (al b D::cC w b d c v R) A r G):aq W P g args (bz w b v::al b D::R) A r G:=
 rC (λw a=>bz.open a) λx=>fX (ae.trans (ae.re (H:=dj w b x.1 x.2 v::bW x.1 v.size v.tail v.used::gZ v.log x.2::al b D::R) (L:=al b D::cC w b x.1 x.2 v R)) ae.refl) (h x.1 x.2)
theorem AP{W:World}{R:List ab}{gd:FuncId}{cp:Array Value}{D D':aw}{e:Int}(wp b r:Nat)(d:Option (Nat×(Option Addr×Nat)))(v:bT)(f:∀a w,(callFunc gd a).run Tryz.prog w= .ok (.enter gd a) w)
  (g:v.broken=0->az W Tryz.prog gd cp.toList (al b D::cC wp b r d v R) (i6 e) (al b D'::cC wp b r d v R)):
  az W Tryz.prog 141 [ip wp,.func (.func gd) #[] cp] (al b D::cC wp b r d v R) (i6 (if v.broken=0 then e else v.broken)) (al b (if v.broken=0 then D' else D)::cC wp b r d {v with broken:=if v.broken=0 then e else v.broken} R):=by
 refine ze Tryz.func141 Tryz.ntmps141 ?_;refine zk ?_ ?_<;>intro h
 ·
  have c:v.broken=0:=by simpa using h
  rw[lam c,lam c];refine zw ?_;refine ay.call rfl rfl (λa w=>f a w) (g c) ae.refl rfl ?_;intro _ _;refine w ?_;exact VE.ax rfl rfl ae.re
 ·
  have c:¬v.broken=0:=by simpa using h
  rw[aE c,aE c];refine w ?_;exact VE.ax rfl rfl ae.re
theorem KF{W:World}{R:List ab}{ao:Option Addr}{cap:Nat}{l:List UInt8}{D:aw}(wp b r c d e:Nat)(f:Option (Nat×(Option Addr×Nat)))(v:bT)(a:Int)(g:(D.dv v.slot).k.cache.length<=1000000000)(i:aV W (cC wp b r f v R) 1 ao l.length (bytes l)):
  az W Tryz.prog 142 [ip c,ip d,ip e]
   (al b D::cC wp b r f v (Row c 92 [ip wp]::Row d 3 [ii a]::Row e 38 [.slice ao l.length cap]::R)) (i6 (D.write v.slot a l).1)
   (al b (D.write v.slot a l).2::cC wp b r f v (Row c 92 [ip wp]::Row d 3 [ii a]::Row e 38 [.slice ao l.length cap]::R)):=by
 refine ze Tryz.func142 Tryz.ntmps142 ?_;refine VC.drawn [10] 10 [0,1,2,3,4,5,6,7,8,9,10,11] (cC wp b r f v (Row c 92 [ip wp]::Row d 3 [ii a]::Row e 38 [.slice ao l.length cap]::R)) rfl (by kernel_rfl) (by kernel_rfl) (ae.drop ae.refl) ?_;refine zt (s:=lT b D v.slot a g (.inr (i.aR ae.re))) (h:=?_);intro _ _;refine w ?_;exact VE.ax rfl rfl ae.re
theorem Jc{W:World}{R:List ab}{D:aw}(wp b r a:Nat)(c:Option (Nat×(Option Addr×Nat)))(v:bT):
  az W Tryz.prog 202 [ip a] (al b D::cC wp b r c v (Row a 92 [ip wp]::R)) (i6 (D.flush v.slot).1)
   (al b (D.flush v.slot).2::cC wp b r c v (Row a 92 [ip wp]::R)):=by
 refine ze Tryz.func202 Tryz.ntmps202 ?_;refine VC.drawn [8] 8 [0,1,2,3,4,5,6,7,8,9] (cC wp b r c v (Row a 92 [ip wp]::R)) rfl (by kernel_rfl) (by kernel_rfl) (ae.drop ae.refl) ?_;refine zt (s:=jY b D v.slot) (h:=?_);intro _ _;refine w ?_;exact VE.ax rfl rfl ae.re
theorem AM(v:bT)(D:aw)(a:Int)(l:List UInt8):aS (v,D) a l=(if v.broken=0 then(D.write v.slot a l).1 else v.broken,{v with broken:=if v.broken=0 then(D.write v.slot a l).1 else v.broken},if v.broken=0 then(D.write v.slot a l).2 else D):=by
 unfold aS;dsimp only;split<;>rfl
theorem AL(v:bT)(D:aw):cd (v,D)=(if v.broken=0 then(D.flush v.slot).1 else v.broken,{v with broken:=if v.broken=0 then(D.flush v.slot).1 else v.broken},if v.broken=0 then(D.flush v.slot).2 else D):=by
 unfold cd;dsimp only;split<;>rfl
theorem pD{W:World}{R:List ab}{ao:Option Addr}{cap:Nat}{l:List UInt8}{D:aw}(wp b r:Nat)(c:Option (Nat×(Option Addr×Nat)))(v:bT)(a:Int)(g:(D.dv v.slot).k.cache.length<=1000000000)(i:aV W (cC wp b r c v R) 1 ao l.length (bytes l)):
  az W Tryz.prog 82 [ip wp,ii a,.slice ao l.length cap] (al b D::cC wp b r c v R) (i6 (aS (v,D) a l).1) (al b (aS (v,D) a l).2.2::cC wp b r c (aS (v,D) a l).2.1 R):=by
 rw[AM];refine ze Tryz.func82 Tryz.ntmps82 ?_;repeat (refine zj λ_=>?_;refine w ?_)
 rename_i d e f;refine VO.pure rfl rfl (af.bB rfl) rfl ?_;refine VO.aR (H':=al b D::cC wp b r c v (Row d 92 [ip wp]::Row e 3 [ii a]::Row f 38 [.slice ao l.length cap]::R)) ae.re ?_;refine zt (s:=AP wp b r c v (λ_ _=>by simp) (λ_=>KF wp b r d e f c v a g i)) (h:=?_);intro _ _;refine w ?_;exact VE.ax rfl rfl ae.re
theorem pC{W:World}{R:List ab}{D:aw}(wp b r:Nat)(a:Option (Nat×(Option Addr×Nat)))(v:bT):
  az W Tryz.prog 144 [ip wp] (al b D::cC wp b r a v R) (i6 (cd (v,D)).1) (al b (cd (v,D)).2.2::cC wp b r a (cd (v,D)).2.1 R):=by
 rw[AL];refine ze Tryz.func144 Tryz.ntmps144 ?_;refine zj λ_=>?_;refine w ?_;rename_i c;refine VO.pure rfl rfl (af.bB rfl) rfl ?_;refine VO.aR (H':=al b D::cC wp b r a v (Row c 92 [ip wp]::R)) ae.re ?_;refine zt (s:=AP wp b r a v (λ_ _=>by simp) (λ_=>Jc wp b r c a v)) (h:=?_);intro _ _;refine w ?_;exact VE.ax rfl rfl ae.re
structure bT.ok(v:bT):Prop where
  ring:iU v.size v.tail v.used
  epoch:v.epoch<=4611686018427387904
  next:1<=v.next/\v.next<=4611686018427387905
  log:∀g,v.log=some g->g.cost<=2047/\1<=g.cost/\g.b6.length=128/\v.next<=4611686018427387904
theorem uR{W:World}{R:List ab}{ao:Option Addr}{cap:Nat}{l:List UInt8}{D:aw}(wp b r:Nat)(c:Option (Nat×(Option Addr×Nat)))(v:bT)(d:v.ok)(i:Nat)(p:i<=2048)(e:(D.dv v.slot).k.cache.length<=1000000000)(f:aV W (cC wp b r c v R) 1 ao l.length (bytes l)):
  az W Tryz.prog 297 [ip wp,ii i,.slice ao l.length cap] (al b D::cC wp b r c v R) (i6 (aS (v,D) (v.spot i) l).1) (al b (aS (v,D) (v.spot i) l).2.2::cC wp b r c (aS (v,D) (v.spot i) l).2.1 R):=by
 have j:=d.ring.lo;have m:=d.ring.hi;have n:=d.ring.tl;have o:=d.ring.us;have q:(v.tail+v.used)%v.size<v.size:=qX _ zO;have g:((v.tail+v.used)%v.size+i)%v.size<v.size:=qX _ zO;refine ze Tryz.func297 Tryz.ntmps297 ?_;refine VC.drawn [5,12] 16 [0,1,2,3,4,6,8,9,10,11,15,5,7,12,13,14,16,17] (al b D::cC wp b r c v R) rfl (by kernel_rfl) (by kernel_rfl) ae.refl ?_;refine w ?_;refine VD.aR (H':=bW r v.size v.tail v.used::al b D::dj wp b r c v::gZ v.log c::R) ae.re ?_;refine zt (s:=o8 r d.ring) (h:=?_);intro _ _;refine⟨ae.re,?_⟩;refine zt (s:=o9 r v.size v.tail v.used) (h:=?_);intro _ _;refine⟨ae.re,?_⟩;refine w ?_;refine VD.take rfl rfl rfl (af.rem (a:=(v.tail+v.used)%v.size+i) (b:=v.size) rfl rfl zO) rfl ?_;refine w ?_;refine VD.re 21 (ii ((v.spot i:Nat):Int)) rfl (by congr 1) ?_;refine VD.aR (H':=al b D::cC wp b r c v R) ae.re ?_;refine zt (s:=pD wp b r c v ((v.spot i:Nat):Int) e f) (h:=?_);intro _ _;refine w ?_;exact VE.ax rfl rfl ae.re
theorem GX{D:aw}{c:Nat}(h:D.gE c)(k a:Int)(b:List UInt8):(D.write k a b).2.gE (c+1):=by
 have:=Gj h 2 k a b;simpa[aw.plain]using this
theorem uO{s:WS}{c:Nat}(h:s.2.gE c)(a:Int)(l:List UInt8):(aS s a l).2.2.gE (c+1):=by
 unfold aS;split
 · exact GX h _ _ _
 · exact h.mono zO
theorem ma{v:bT}{D:aw}{a:Int}{l:List UInt8}(h:(aS (v,D) a l).1=0):(aS (v,D) a l).2.1=v/\v.broken=0:=by
 unfold aS at*;dsimp only at*;split at h
 ·
  rename_i b;rw[lam b];dsimp only at*;refine⟨?_,b⟩;rw[h,<-b]
 ·
  rename_i b;exact lcs h b
theorem pA{v:bT}{D:aw}(h:(cd (v,D)).1=0):(cd (v,D)).2.1=v/\v.broken=0:=by
 unfold cd at*;dsimp only at*;split at h
 ·
  rename_i a;rw[lam a];dsimp only at*;refine⟨?_,a⟩;rw[h,<-a]
 ·
  rename_i a;exact lcs h a
def hJ(v:bT)(rows:List (List UInt8)):List (Int×List UInt8):=rows.mapIdx λi r=>(((v.spot i:Nat):Int),r)
theorem yR(v:bT)(rows:List (List UInt8)):(hJ v rows).length=rows.length:=by simp[hJ]
def DQ(s:WS)(rows:List (List UInt8)):Int×WS:=
  if(cF s (hJ s.1 rows.dropLast)).1≠0 then cF s (hJ s.1 rows.dropLast)else
  if(cd (cF s (hJ s.1 rows.dropLast)).2).1≠0 then cd (cF s (hJ s.1 rows.dropLast)).2 else
  (0,{(cd (cF s (hJ s.1 rows.dropLast)).2).2.1 with sure:=true,log:=some ⟨rows.length,rows.getLastD []⟩},(cd (cF s (hJ s.1 rows.dropLast)).2).2.2)
def y1(s:WS)(ps:List bK):Int×WS:=
  if s.1.broken≠0 then(s.1.broken,s)else
  if(dZ s.1.epoch s.1.next ps).1≠0 then((dZ s.1.epoch s.1.next ps).1,s)else
  if s.1.size<(dZ s.1.epoch s.1.next ps).2.length then(122,s)else
  if s.1.size-s.1.used<(dZ s.1.epoch s.1.next ps).2.length then(121,s)else DQ s (dZ s.1.epoch s.1.next ps).2
def pB(s:WS):Int×WS:=
  if s.1.broken≠0 then(s.1.broken,s)else match s.1.log with
  |none=>(1,s)
  |some g=>if(aS s (s.1.spot (g.cost-1)) g.b6).1≠0 then aS s (s.1.spot (g.cost-1)) g.b6 else
    if s.1.size<s.1.used+g.cost then(90,(aS s (s.1.spot (g.cost-1)) g.b6).2)else
    (0,{s.1 with used:=s.1.used+g.cost,next:=s.1.next+1,sure:=false,log:=none},(aS s (s.1.spot (g.cost-1)) g.b6).2.2)
def qE(s:WS):Int×WS:=if s.1.sure=true then(0,s)else((cd s).1,{(cd s).2.1 with sure:=decide ((cd s).1=0)},(cd s).2.2)
def eO(s:WS)(e:Nat):Int×WS:=
  if s.1.broken≠0 then(s.1.broken,s)else if s.1.sure=false then(1,s)else
  if(cK s ⟨e,s.1.next,s.1.head⟩).1≠0 then cK s ⟨e,s.1.next,s.1.head⟩else
  (0,{s.1 with epoch:=e,tail:=s.1.head,used:=0,log:=none},(cK s ⟨e,s.1.next,s.1.head⟩).2.2)
theorem uP{W:World}{R:List ab}{D:aw}{c0:Nat}(wp b r:Nat)(d:Option (Nat×(Option Addr×Nat)))(v:bT)(c:bJ)(o:c.fit)(g:D.gE c0)(n:c0<=999999000):
  az W Tryz.prog 83 [ip wp,.agg c.cells.toArray] (al b D::cC wp b r d v R) (i6 (cK (v,D) c).1) (al b (cK (v,D) c).2.2::cC wp b r d (cK (v,D) c).2.1 R):=by
 refine ze Tryz.func83 Tryz.ntmps83 ?_;refine zj λ_=>?_;refine w ?_;rename_i l;have m:=Bn (W:=W) (R:=Row l 157 c.cells::al b D::cC wp b r d v R) c o;refine zt (s:=m) (h:=?_);rintro⟨k,t⟩-;refine VO.bH (p:=k=none->c.enc.2.length=0) (λw q=>q.bn (.head _)) ?_;intro i;refine w ?_;refine zk ?_ ?_<;>intro a
 ·
  have e:c.enc.1≠0:=by simpa using a
  have j:cK (v,D) c=(c.enc.1,(v,D)):=lam e;rw[j];refine w ?_;exact VE.ax rfl rfl ae.re
 have e:c.enc.1=0:=by simpa using a
 clear a;have j:cK (v,D) c=if(aS (v,D) 1 c.enc.2).1≠0 then aS (v,D) 1 c.enc.2 else cd (aS (v,D) 1 c.enc.2).2:=aE (by simpa using e);rw[j];refine w ?_;refine VO.aR (H':=al b D::cC wp b r d v (b8 (k,t) c.enc.2::R)) ae.re ?_;refine zt (s:=pD wp b r d v 1 (RB (oK g _) zO) (aV.own (aQ _) (.tail _ (.tail _ (.tail _ (.head _)))) (by simp) i)) (h:=?_);intro _ _;refine w ?_;refine zk ?_ ?_<;>intro a
 ·
  have f:(aS (v,D) 1 c.enc.2).1≠0:=by simpa using a
  rw[lam f];refine w ?_;exact VE.ax rfl rfl ae.re
 have f:(aS (v,D) 1 c.enc.2).1=0:=by simpa using a
 rw[aE (by simpa using f)];refine zt (s:=pC wp b r d (aS (v,D) 1 c.enc.2).2.1) (h:=?_);intro _ _;refine w ?_;exact VE.ax rfl rfl ae.re
theorem PD{W:World}{R:List ab}{wp b r a:Nat}{v v':bT}{rows:List aU}{i:Nat}(g:i<rows.length)(j:v'.slot=v.slot/\v'.epoch=v.epoch/\v'.size=v.size/\v'.tail=v.tail/\v'.used=v.used/\v'.next=v.next/\v'.broken=v.broken)
  (h:v'.log=some ⟨rows.length,rows[i].data⟩):ae W (Row a 383 [ii rows.length,rows[i].ei]::dj wp b r (some (a,rows[i].ao,rows[i].cap)) v'::bW r v.size v.tail v.used::cP rows::R) (bz wp b v'::R):=by
 obtain⟨l,m,d,e,f,n,o⟩:=j;refine ae.trans ?_ (bz.shut r (some (a,rows[i].ao,rows[i].cap)));unfold cC;rw[d,e,f,h];intro w k;have c:Holds W (cP rows::Row a 383 [ii rows.length,rows[i].ei]::dj wp b r (some (a,rows[i].ao,rows[i].cap)) v'::bW r v.size v.tail v.used::R) w:=k.fk (by(repeat first|exact .refl|(apply aP.cons;focus repeat first|exact .head|apply nW.tail)|exact .nil|apply aP.drop));have a2:=j4 g c;have a3:Holds W (Row a 383 [ii rows.length,rows[i].ei]::rows[i].res::dj wp b r (some (a,rows[i].ao,rows[i].cap)) v'::bW r v.size v.tail v.used::R) w:=a2.fk (by(repeat first|exact .refl|(apply aP.cons;focus repeat first|exact .head|apply nW.tail)|exact .nil|apply aP.drop));have a4:=a3.nest (L:=[Row a 383 [ii rows.length,rows[i].ei],rows[i].res])
 exact a4.fk (by
  show aP (gZ (some ⟨rows.length,rows[i].data⟩) (some (a,rows[i].ao,rows[i].cap))::dj wp b r (some (a,rows[i].ao,rows[i].cap)) v'::bW r v.size v.tail v.used::R) _
  (repeat first|exact .refl|(apply aP.cons;focus repeat first|exact .head|apply nW.tail)|exact .nil|apply aP.drop))
theorem KD{W:World}{R:List ab}{ao:Option Addr}{cap:Nat}{l:List aj}{D:aw}{c0:Nat}(wp b:Nat)(v:bT)(A:v.ok)(T:D.gE c0)(bb:c0<=999990000)(hp:bq W R ao l)(H:∀p∈l,p.fit)(I:l.length<=140737488351232):
  az W Tryz.prog 249 [ip wp,.slice ao l.length cap] (bz wp b v::al b D::R) (i6 (y1 (v,D) (l.map aj.D)).1) (bz wp b (y1 (v,D) (l.map aj.D)).2.1::al b (y1 (v,D) (l.map aj.D)).2.2::R):=by
 have hr1:=A.ring.lo;have hr2:=A.ring.hi;have bh:=A.ring.tl;have bk:=A.ring.us;refine qj λr d=>?_;refine ze Tryz.func249 Tryz.ntmps249 ?_;refine zk ?_ ?_<;>intro f
 ·
  have M:v.broken≠0:=by simpa using f
  have hz:y1 (v,D) (l.map aj.D)=(v.broken,(v,D)):=lam M;rw[hz];refine w ?_;refine VE.ax rfl rfl ?_;exact ae.trans (ae.re (L:=cC wp b r d v (al b D::R))) (bz.shut r d)
 have M:v.broken=0:=by simpa using f
 clear f
 have ag:y1 (v,D) (l.map aj.D)=if(dZ v.epoch v.next (l.map aj.D)).1≠0 then((dZ v.epoch v.next (l.map aj.D)).1,(v,D))else if v.size<(dZ v.epoch v.next (l.map aj.D)).2.length then(122,(v,D))else
  if v.size-v.used<(dZ v.epoch v.next (l.map aj.D)).2.length then(121,(v,D))else DQ (v,D) (dZ v.epoch v.next (l.map aj.D)).2:=aE (by simpa using M)
 rw[ag];have au:=A.epoch;have av:=A.next;refine w ?_;refine VC.drawn [10] 15 [0,1,2,3,4,5,6,7,8,9,10,11,12,13,14,15] (al b D::cC wp b r d v R) rfl (by kernel_rfl) (by kernel_rfl) ae.refl ?_;refine w ?_;apply VD.take rfl rfl rfl;apply af.build sb_205 rfl;simp[aC,bR,Value.cells];rfl;rfl;have hS:=GD (W:=W) (R:=al b D::cC wp b r d v R) (cap:=cap) v.epoch v.next zO zO (hp.aR ae.re) H I;refine zt (s:=hS) (h:=?_);rintro⟨⟨xo,z⟩,rows⟩ a;dsimp only at a⊢;refine⟨ae.re,?_⟩;refine w ?_;rcases GB v.epoch v.next (l.map aj.D)with⟨q,x⟩|⟨bf,x,ba⟩
 ·
  have aa:∀(X:List ab),ae W (iC (xo,z) rows::cP rows::al b D::cC wp b r d v R) (bz wp b v::al b D::R):=λ_=>ae.trans (ae.re (L:=cC wp b r d v (al b D::R))) (bz.shut r d);rw[x]at a⊢;dsimp only at a⊢;rw[aE (by simp)];have bm:rows.length=2*l.length+1:=by have:=JB List.length a;rwa [ew,gQ,ew]at this
  have Y:=q.n2;rw[ew]at Y;have u:(eM v.epoch v.next (l.map aj.D)).length=rows.length:=by rw[<-a,ew]
  rw[u];refine w ?_;refine VO.aR (H':=bW r v.size v.tail v.used::iC (xo,z) rows::cP rows::al b D::dj wp b r d v::gZ v.log d::R) ae.re ?_;refine zt (s:=o9 r v.size v.tail v.used) (h:=?_);intro _ _;refine w ?_;refine zk ?_ ?_<;>intro f
  ·
   have N:v.size<rows.length:=by have:=cI f;omega
   rw[lam N];refine w ?_;refine VE.ax rfl rfl ?_;exact ae.trans (ae.re (L:=cC wp b r d v (al b D::R))) (bz.shut r d)
  have N:¬v.size<rows.length:=by have:=dx f;omega
  clear f;rw[aE N];refine zt (s:=o7 r A.ring) (h:=?_);intro _ _;refine w ?_;refine zk ?_ ?_<;>intro f
  ·
   have O:v.size-v.used<rows.length:=by have:=cI f;omega
   rw[lam O];refine w ?_;refine VE.ax rfl rfl ?_;exact ae.trans (ae.re (L:=cC wp b r d v (al b D::R))) (bz.shut r d)
  have O:¬v.size-v.used<rows.length:=by have:=dx f;omega
  clear f;rw[aE O];refine w ?_;refine VO.bH (p:=∀e∈rows,e.ok) (λw K=>cP.bH K.tail.tail) ?_;intro Z;refine VO.bH (p:=xo=none->rows.length=0) (λw K=>K.tail.bn (.head _)) ?_;intro ad;refine VO.bH (p:=rows.length<=z) (λw K=>K.tail.jd (.head _)) ?_;intro bo;obtain⟨B,rfl⟩:=iK ad zO;have k:rows.length-1<rows.length:=by omega
  have an:∀e∈rows,e.data.length=128:=λe he=>Ay q _ (by rw[<-a];exact List.mem_map_of_mem he);obtain⟨L,P⟩:∃L,L=hJ v (eM v.epoch v.next (l.map aj.D)).dropLast:=⟨_,rfl⟩;have S:L.length=rows.length-1:=by rw[P,yR,List.length_dropLast,u]
  have Q:∀i (h:i<L.length)(h':i<rows.length),L[i]=(((v.spot i:Nat):Int),rows[i].data):=by
   intro i h h';subst P;simp only[hJ,List.getElem_mapIdx,List.getElem_dropLast];congr 1;have:(rows.map aU.data)[i]'(by rw[ew];exact h')=rows[i].data:=Jz ..;rw[<-this];congr 1;exact a.symm
  have c:DQ (v,D) (eM v.epoch v.next (l.map aj.D))=if(cF (v,D) L).1≠0 then cF (v,D) L else
    if(cd (cF (v,D) L).2).1≠0 then cd (cF (v,D) L).2 else
    (0,{(cd (cF (v,D) L).2).2.1 with sure:=true,log:=some ⟨rows.length,rows[rows.length-1].data⟩},(cd (cF (v,D) L).2).2.2):=by
   have e1:(eM v.epoch v.next (l.map aj.D)).getLastD []=rows[rows.length-1].data:=by
    rw[<-a,List.getLastD_eq_getLast?,List.getLast?_eq_getElem?,ew,law,fL k];rfl
   unfold DQ;dsimp only;rw[<-P,e1,u]
  refine VO.re 61 (ii ((rows.length-1:Nat):Int)) rfl (by congr 1;omega) ?_;refine VO.re 7 (ii ((rows.length-1:Nat):Int)) rfl (by congr 1;omega) ?_;refine w ?_
  refine VC.loop (α:=Nat×aw) (λy=>y.1<=rows.length-1/\y.2.gE (c0+y.1)/\cF (v,D) L=cF (v,y.2) (L.drop y.1)) (λy=>al b y.2::cC wp b r d v (iC (some B,z) rows::cP rows::R))
   (λy=>[(0,ip wp),(5,.slice (some B) rows.length z),(7,ii ((rows.length-1:Nat):Int)),(62,.slice (some B) (rows.length-1) z),(63,ii ((rows.length-1:Nat):Int)),(64,ii y.1)]) (λy=>rows.length-y.1) rfl (0,D) ⟨c7 _,T,by rw[KP]⟩ ae.re ⟨rfl,rfl,rfl,rfl,rfl,rfl,trivial⟩ ?_
  rintro⟨i,g⟩ ⟨hi,C,t⟩;dsimp only at hi C t⊢;refine w ?_;refine zk ?_ ?_<;>intro f
  ·
   have V:i<rows.length-1:=by have:=cI f;omega
   clear f;have m:i<rows.length:=by omega
   have o:aV W (al b g::cC wp b r d v (iC (some B,z) rows::cP rows::R)) 1 (some B) rows.length (rows.map aU.ei):=aV.own (nM _) (.tail _ (.tail _ (.tail _ (.tail _ (.head _))))) (by simp) (by simp);have F:aV W (cC wp b r d v (iC (some B,z) rows::cP rows::R)) 1 rows[i].ao rows[i].data.length (bytes rows[i].data):=aV.cG (.tail _ (.tail _ (.tail _ (.tail _ (.head _))))) (fF m) (λR hR=>aU.gz (Z _ (fF m)) hR);have j:cF (v,g) (L.drop i)=if(aS (v,g) ((v.spot i:Nat):Int) rows[i].data).1≠0 then aS (v,g) ((v.spot i:Nat):Int) rows[i].data else cF (aS (v,g) ((v.spot i:Nat):Int) rows[i].data).2 (L.drop (i+1)):=by
    rw[vE zO,Q i zO m];rfl
   refine w ?_;refine VO.pure rfl rfl (af.rZ ah rfl rfl o (show(rows.map aU.ei)[i]?=some rows[i].ei by rw[law,fL m];rfl)) rfl ?_;refine zt (s:=uR wp b r d v A i zO (RB (oK C _) zO) F) (h:=?_);intro _ _;refine w ?_;refine zk ?_ ?_<;>intro f
   ·
    have n:(aS (v,g) ((v.spot i:Nat):Int) rows[i].data).1≠0:=by simpa using f
    rw[lam n]at j;have G:DQ (v,D) (eM v.epoch v.next (l.map aj.D))=aS (v,g) ((v.spot i:Nat):Int) rows[i].data:=by
     rw[c,t,j,lam n]
    rw[G];refine w ?_;refine VE.ax rfl rfl ?_;exact ae.trans (ae.re (L:=cC wp b r d (aS (v,g) ((v.spot i:Nat):Int) rows[i].data).2.1 (al b (aS (v,g) ((v.spot i:Nat):Int) rows[i].data).2.2::R))) (bz.shut r d)
   have n:(aS (v,g) ((v.spot i:Nat):Int) rows[i].data).1=0:=by simpa using f
   clear f;rw[aE (by simpa using n)]at j;have J:=(ma n).1;refine w ?_;refine VE.round (i+1,(aS (v,g) ((v.spot i:Nat):Int) rows[i].data).2.2) ⟨V,uO C _ _,?_⟩ (by simp only;omega) ⟨rfl,rfl,rfl,rfl,rfl,b7 rfl (by congr 1),trivial⟩ ?_
   ·
    show cF (v,D) L=cF (v,(aS (v,g) ((v.spot i:Nat):Int) rows[i].data).2.2) (L.drop (i+1));rw[t,j];congr 1;exact Prod.ext J rfl
   · rw[J];exact ae.re
  have U:i=rows.length-1:=by have:=dx f;omega
  clear f;rw[U,<-S,List.drop_length]at t;have E:cF (v,D) L=(0,(v,g)):=t;rw[E]at c;dsimp only at c;rw[aE (by simp)]at c;refine zt (s:=pC wp b r d v) (h:=?_);intro _ _;refine w ?_;refine zk ?_ ?_<;>intro f
  ·
   have n:(cd (v,g)).1≠0:=by simpa using f
   rw[lam n]at c;rw[c];refine w ?_;refine VE.ax rfl rfl ?_;exact ae.trans (ae.re (L:=cC wp b r d (cd (v,g)).2.1 (al b (cd (v,g)).2.2::R))) (bz.shut r d)
  have n:(cd (v,g)).1=0:=by simpa using f
  clear f;rw[aE (by simpa using n),(pA n).1]at c;rw[c,(pA n).1];have o:aV W (al b (cd (v,g)).2.2::cC wp b r d v (iC (some B,z) rows::cP rows::R)) 1 (some B) rows.length (rows.map aU.ei):=aV.own (nM _) (.tail _ (.tail _ (.tail _ (.tail _ (.head _))))) (by simp) (by simp);refine w ?_;refine VO.pure rfl rfl (af.rZ ah rfl rfl o (show(rows.map aU.ei)[rows.length-1]?=some rows[rows.length-1].ei by rw[law,fL k];rfl)) rfl ?_;apply VO.pure rfl rfl;apply af.build sb_383 rfl;simp[aC,bR,Value.cells];rfl;rfl;refine w ?_;refine zj λ_=>?_;refine w ?_;rename_i lg;refine VE.ax rfl rfl ?_;dsimp only;refine ae.trans (ae.re (L:=Row lg 383 [ii rows.length,rows[rows.length-1].ei]::dj wp b r (some (lg,rows[rows.length-1].ao,rows[rows.length-1].cap)) {v with sure:=true,log:=some ⟨rows.length,rows[rows.length-1].data⟩}::bW r v.size v.tail v.used::cP rows::al b (cd (v,g)).2.2::R)) ?_;exact PD k ⟨rfl,rfl,rfl,rfl,rfl,rfl,rfl⟩ rfl
 ·
  rw[lam x];refine VC.cU rfl rfl (by simpa using x) ?_;refine w ?_;refine VE.ax rfl rfl ?_;exact ae.trans (ae.re (L:=cC wp b r d v (al b D::R))) (bz.shut r d)
theorem HL{W:World}{R:List ab}{wp b r a:Nat}{x:Option Addr×Nat}{v:bT}{D:aw}{g:K6}(e:v.log=some g):ae W (al b D::cC wp b r (some (a,x)) v R) (al b D::dj wp b r (some (a,x)) v::bW r v.size v.tail v.used::Row a 383 [ii g.cost,.slice x.1 g.b6.length x.2]::b8 x g.b6::R):=by
 intro w f;have c:Holds W (gZ v.log (some (a,x))::al b D::dj wp b r (some (a,x)) v::bW r v.size v.tail v.used::R) w:=f.fk (by unfold cC;(repeat first|exact .refl|(apply aP.cons;focus repeat first|exact .head|apply nW.tail)|exact .nil|apply aP.drop));rw[e]at c;have d:Holds W (star [Row a 383 [ii g.cost,.slice x.1 g.b6.length x.2],b8 x g.b6]::al b D::dj wp b r (some (a,x)) v::bW r v.size v.tail v.used::R) w:=c
 exact d.join.fk (by
  show aP (Row a 383 [ii g.cost,.slice x.1 g.b6.length x.2]::b8 x g.b6::al b D::dj wp b r (some (a,x)) v::bW r v.size v.tail v.used::R) _
  (repeat first|exact .refl|(apply aP.cons;focus repeat first|exact .head|apply nW.tail)|exact .nil|apply aP.drop))
theorem DP{W:World}{R:List ab}{wp b r a:Nat}{x:Option Addr×Nat}{v:bT}{D:aw}{g:K6}(e:v.log=some g):ae W (al b D::dj wp b r (some (a,x)) v::bW r v.size v.tail v.used::Row a 383 [ii g.cost,.slice x.1 g.b6.length x.2]::b8 x g.b6::R) (al b D::cC wp b r (some (a,x)) v R):=by
 intro w f
 have c:Holds W ([Row a 383 [ii g.cost,.slice x.1 g.b6.length x.2],b8 x g.b6]++(al b D::dj wp b r (some (a,x)) v::bW r v.size v.tail v.used::R)) w:=f.fk (by
  show aP _ (Row a 383 [ii g.cost,.slice x.1 g.b6.length x.2]::b8 x g.b6::al b D::dj wp b r (some (a,x)) v::bW r v.size v.tail v.used::R)
  (repeat first|exact .refl|(apply aP.cons;focus repeat first|exact .head|apply nW.tail)|exact .nil|apply aP.drop))
 have d:Holds W (gZ v.log (some (a,x))::al b D::dj wp b r (some (a,x)) v::bW r v.size v.tail v.used::R) w:=by rw[e];exact c.nest
 exact d.fk (by unfold cC;(repeat first|exact .refl|(apply aP.cons;focus repeat first|exact .head|apply nW.tail)|exact .nil|apply aP.drop))
theorem Cq{W:World}{R:List ab}{wp b r:Nat}{v:bT}(c:v.log=none):ae W (dj wp b r none v::bW r v.size v.tail v.used::R) (bz wp b v::R):=by
 refine ae.trans ?_ (bz.shut r none);intro w d;have a:Holds W (gZ v.log none::dj wp b r none v::bW r v.size v.tail v.used::R) w:=by rw[c];exact d.gG trivial
 exact a.fk (by unfold cC;(repeat first|exact .refl|(apply aP.cons;focus repeat first|exact .head|apply nW.tail)|exact .nil|apply aP.drop))
theorem GO{W:World}{R:List ab}{D:aw}{c0:Nat}(wp b:Nat)(v:bT)(f:v.ok)(z:D.gE c0)(C:c0<=999990000):
    az W Tryz.prog 250 [ip wp] (bz wp b v::al b D::R) (i6 (pB (v,D)).1) (bz wp b (pB (v,D)).2.1::al b (pB (v,D)).2.2::R):=by
  have hr1:=f.ring.lo;have hr2:=f.ring.hi;have K:=f.ring.tl;have M:=f.ring.us;refine qj λr q=>?_;refine ze Tryz.func250 Tryz.ntmps250 ?_;refine zk ?_ ?_<;>intro k
  · have t:v.broken≠0:=by simpa using k
    have N:pB (v,D)=(v.broken,(v,D)):=lam t
    rw[N]
    refine w ?_
    refine VE.ax rfl rfl ?_
    exact ae.trans (ae.re (L:=cC wp b r q v (al b D::R))) (bz.shut r q)
  have t:v.broken=0:=by simpa using k
  clear k
  have B:pB (v,D)=match v.log with
    |none=>(1,(v,D))
    |some g=>if(aS (v,D) (v.spot (g.cost-1)) g.b6).1≠0 then aS (v,D) (v.spot (g.cost-1)) g.b6 else
      if v.size<v.used+g.cost then(90,(aS (v,D) (v.spot (g.cost-1)) g.b6).2)else
      (0,{v with used:=v.used+g.cost,next:=v.next+1,sure:=false,log:=none},(aS (v,D) (v.spot (g.cost-1)) g.b6).2.2):=aE (by simpa using t)
  rw[B];cases i:v.log with
  |none=>
    cases q with
    |some x=>
      refine VC.bH (p:=False) (λw n=>?_) (λh=>h.elim);have:=n.fk (L:=[gZ v.log (some x)]) (.cons (.tail (.tail (.tail .head))) .nil);rw[i]at this;exact this.iX
    |none=>
      refine w ?_;refine VE.ax rfl rfl ?_;exact ae.trans (ae.re (L:=cC wp b r none v (al b D::R))) (bz.shut r none)
  |some g=>
    cases q with
    |none=>
      refine VC.bH (p:=False) (λw n=>?_) (λh=>h.elim);have:=n.fk (L:=[gZ v.log none]) (.cons (.tail (.tail (.tail .head))) .nil);rw[i]at this;exact this.iX
    |some x=>
      obtain⟨e,a,c⟩:=x;dsimp only;obtain⟨E,F,G,H⟩:=f.log g i;refine VC.aR (HL i) ?_;refine VC.bH (p:=a=none->g.b6.length=0) (λw n=>n.tail.tail.tail.tail.bn (.head _)) ?_;intro y;have I:aV W (cC wp b r (some (e,a,c)) v R) 1 a g.b6.length (bytes g.b6):=by
        refine aV.star (L:=[Row e 383 [ii g.cost,.slice a g.b6.length c],b8 (a,c) g.b6]) ?_ (λR=>aV.own (aQ _) (.tail _ (.head _)) (by simp) y);have:gZ v.log (some (e,a,c))=star [Row e 383 [ii g.cost,.slice a g.b6.length c],b8 (a,c) g.b6]:=by rw[i];rfl
        rw[<-this];exact .tail _ (.tail _ (.head _))
      refine w ?_;refine zx [] 16 [0,1,2,3,4,5,6,7,8,9,10,11,12,13,14,15,16,17] _ ?_;refine w ?_;refine VD.re 28 (ii ((g.cost-1:Nat):Int)) rfl (by congr 1;omega) ?_;refine VD.aR (DP i) ?_;refine zt (s:=uR wp b r (some (e,a,c)) v f (g.cost-1) zO (RB (oK z _) zO) I) (h:=?_);intro _ _;refine w ?_;refine zk ?_ ?_<;>intro k
      · have o:(aS (v,D) ((v.spot (g.cost-1):Nat):Int) g.b6).1≠0:=by simpa using k
        rw[lam o]
        refine w ?_
        refine VE.ax rfl rfl ?_
        exact ae.trans (ae.re (L:=cC wp b r (some (e,a,c)) (aS (v,D) ((v.spot (g.cost-1):Nat):Int) g.b6).2.1 (al b (aS (v,D) ((v.spot (g.cost-1):Nat):Int) g.b6).2.2::R))) (bz.shut r _)
      have o:(aS (v,D) ((v.spot (g.cost-1):Nat):Int) g.b6).1=0:=by simpa using k
      clear k;rw[aE (by simpa using o)];have m:=(ma o).1;rw[m];obtain⟨j,u⟩:∃j,j=(aS (v,D) ((v.spot (g.cost-1):Nat):Int) g.b6).2.2:=⟨_,rfl⟩;have l:(aS (v,D) ((v.spot (g.cost-1):Nat):Int) g.b6).2=(v,j):=Prod.ext m u.symm;rw[l];dsimp only;refine VC.aR (HL i) ?_;refine w ?_;refine zx [11] 16 [0,1,2,3,4,5,6,7,8,9,10,11,12,13,14,15,16] [dj wp b r (some (e,a,c)) v,Row e 383 [ii g.cost,.slice a g.b6.length c]] ?_;refine w ?_;refine VD.aR (H':=bW r v.size v.tail v.used::al b j::dj wp b r (some (e,a,c)) v::Row e 383 [ii g.cost,.slice a g.b6.length c]::b8 (a,c) g.b6::R) ae.re ?_;by_cases d:v.size<v.used+g.cost
      · rw[lam d]
        refine zt (s:=yS r f.ring g.cost d) (h:=?_)
        intro _ _
        refine⟨ae.re,?_⟩
        refine w ?_
        refine VE.ax rfl rfl ?_
        dsimp only
        exact ae.trans (ae.re (L:=al b j::dj wp b r (some (e,a,c)) v::bW r v.size v.tail v.used::Row e 383 [ii g.cost,.slice a g.b6.length c]::b8 (a,c) g.b6::R))
          (ae.trans (DP i) (ae.trans (ae.re (L:=cC wp b r (some (e,a,c)) v (al b j::R))) (bz.shut r _)))
      · rw[aE d]
        refine zt (s:=Et r f.ring g.cost zO) (h:=?_)
        intro O _
        refine⟨ae.re,?_⟩
        refine w ?_
        have J:=f.next
        refine VE.ax rfl rfl ?_
        dsimp only
        have A:IntKind.u64.wrap ((v.next:Int)+1)=((v.next+1:Nat):Int):=by rw[show((v.next:Int)+1)=((v.next+1:Nat):Int)by omega,dB zO]
        refine ae.trans (ae.re (L:=dj wp b r none {v with used:=v.used+g.cost,next:=v.next+1,sure:=false,log:=none}::bW r v.size v.tail (v.used+g.cost)::al b j::R) (by
          unfold dj
          dsimp only
          rw[<-A]
          (repeat first|exact .refl|(apply aP.cons;focus repeat first|exact .head|apply nW.tail)|exact .nil|apply aP.drop))) (Cq rfl)
theorem GQ{W:World}{R:List ab}{D:aw}(wp b:Nat)(v:bT):
  az W Tryz.prog 175 [ip wp] (bz wp b v::al b D::R) (i6 (qE (v,D)).1) (bz wp b (qE (v,D)).2.1::al b (qE (v,D)).2.2::R):=by
 refine qj λr a=>?_;refine ze Tryz.func175 Tryz.ntmps175 ?_;refine zk ?_ ?_<;>intro d
 ·
  have c:qE (v,D)=(0,(v,D)):=lam d;rw[c];refine w ?_;refine VE.ax rfl rfl ?_;exact ae.trans (ae.re (L:=cC wp b r a v (al b D::R))) (bz.shut r a)
 have c:qE (v,D)=((cd (v,D)).1,{(cd (v,D)).2.1 with sure:=decide ((cd (v,D)).1=0)},(cd (v,D)).2.2):=aE (by rw[d];simp);rw[c];refine zt (s:=pC wp b r a v) (h:=?_);intro _ _;refine w ?_;refine VE.ax rfl rfl ?_;dsimp only;refine ae.trans (ae.re (L:=cC wp b r a {(cd (v,D)).2.1 with sure:=decide ((cd (v,D)).1=0)} (al b (cd (v,D)).2.2::R)) ?_) (bz.shut r a);have e:((cd (v,D)).1==0)=decide ((cd (v,D)).1=0):=by rw[Bool.eq_iff_iff];simp
 unfold cC dj;dsimp only;rw[<-e];(repeat first|exact .refl|(apply aP.cons;focus repeat first|exact .head|apply nW.tail)|exact .nil|apply aP.drop)
theorem uN{v:bT}{D:aw}{c:bJ}(h:(cK (v,D) c).1=0):(cK (v,D) c).2.1=v:=by
 unfold cK at*;split at h
 · rename_i b;exact lcs h b
 ·
  rename_i b;rw[aE b];split at h
  · rename_i a;exact lcs h a
  ·
   rename_i a;rw[aE a];have d:(aS (v,D) 1 c.enc.2).1=0:=Decidable.byContradiction a;have e:(aS (v,D) 1 c.enc.2).2=(v,(aS (v,D) 1 c.enc.2).2.2):=Prod.ext (ma d).1 rfl;rw[e]at h⊢;exact(pA h).1
theorem EV{W:World}{R:List ab}{wp b:Nat}{v:bT}(r:Nat)(a:Option (Nat×(Option Addr×Nat))):ae W (cC wp b r a v R) (bz wp b v::R):=bz.shut r a
theorem uQ{W:World}{R:List ab}{D:aw}{c0:Nat}(wp b:Nat)(v:bT)(e:Nat)(m:e<2^64)(d:v.ok)(k:D.gE c0)(l:c0<=999990000):
  az W Tryz.prog 197 [ip wp,i8 e] (bz wp b v::al b D::R) (i6 (eO (v,D) e).1) (bz wp b (eO (v,D) e).2.1::al b (eO (v,D) e).2.2::R):=by
 have hr1:=d.ring.lo;have hr2:=d.ring.hi;have o:=d.ring.tl;have p:=d.ring.us;have q:(v.tail+v.used)%v.size<v.size:=qX _ zO;have n:=d.next;refine qj λr a=>?_;refine ze Tryz.func197 Tryz.ntmps197 ?_;refine zk ?_ ?_<;>intro c
 ·
  have g:v.broken≠0:=by simpa using c
  have f:eO (v,D) e=(v.broken,(v,D)):=lam g;rw[f];refine w ?_;refine VE.ax rfl rfl ?_;exact ae.trans (ae.re (L:=cC wp b r a v (al b D::R))) (bz.shut r a)
 have g:v.broken=0:=by simpa using c
 clear c;refine w ?_;refine zk ?_ ?_<;>intro c
 ·
  have j:v.sure=false:=by simpa using c
  have f:eO (v,D) e=(1,(v,D)):=by unfold eO;rw[aE (by simpa using g),lam j]
  rw[f];refine w ?_;refine VE.ax rfl rfl ?_;exact ae.trans (ae.re (L:=cC wp b r a v (al b D::R))) (bz.shut r a)
 have j:v.sure=true:=by simpa using c
 clear c
 have f:eO (v,D) e=if(cK (v,D) ⟨e,v.next,v.head⟩).1≠0 then cK (v,D) ⟨e,v.next,v.head⟩else
   (0,{v with epoch:=e,tail:=v.head,used:=0,log:=none},(cK (v,D) ⟨e,v.next,v.head⟩).2.2):=by
  unfold eO;rw[aE (by simpa using g),aE (by dsimp only;rw[j];simp)]
 rw[f];refine w ?_;refine VC.drawn [10] 12 [0,1,2,3,4,5,6,7,8,9,10,11,12,13] (al b D::cC wp b r a v R) rfl (by kernel_rfl) (by kernel_rfl) ae.refl ?_;refine w ?_;refine VD.aR (H':=bW r v.size v.tail v.used::al b D::dj wp b r a v::gZ v.log a::R) ae.re ?_;refine zt (s:=o8 r d.ring) (h:=?_);intro _ _;refine⟨ae.re,?_⟩;refine w ?_;apply VD.take rfl rfl rfl;apply af.build sb_157 rfl;simp[aC,bR,Value.cells];rfl;rfl;refine VD.aR (H':=al b D::cC wp b r a v R) ae.re ?_;refine zt (s:=uP wp b r a v ⟨e,v.next,v.head⟩ ⟨m,by dsimp only;omega,by dsimp only[bT.head];omega⟩ k zO) (h:=?_);intro _ _;refine w ?_;refine zk ?_ ?_<;>intro c
 ·
  have i:(cK (v,D) ⟨e,v.next,v.head⟩).1≠0:=by simpa using c
  rw[lam i];refine w ?_;refine VE.ax rfl rfl ?_;exact ae.trans (ae.re (L:=cC wp b r a (cK (v,D) ⟨e,v.next,v.head⟩).2.1 (al b (cK (v,D) ⟨e,v.next,v.head⟩).2.2::R))) (EV r a)
 have i:(cK (v,D) ⟨e,v.next,v.head⟩).1=0:=by simpa using c
 clear c;rw[aE (by simpa using i),uN i];refine w ?_;refine zx [8,9] 14 [0,1,2,3,4,5,6,7,8,9,10,11,12,13,14] [dj wp b r a v] ?_;refine w ?_;refine VD.aR (H':=bW r v.size v.tail v.used::al b (cK (v,D) ⟨e,v.next,v.head⟩).2.2::dj wp b r a v::gZ v.log a::R) ae.re ?_;refine zt (s:=uG r v.size v.tail v.used) (h:=?_);intro _ _;refine⟨ae.re,?_⟩;refine zt (s:=Es r d.ring v.used (eI _)) (h:=?_);intro t _;refine⟨ae.re,?_⟩;refine w ?_;refine VE.ax rfl rfl ?_;dsimp only
 refine ae.trans (ae.re (L:=dj wp b r none {v with epoch:=e,tail:=v.head,used:=0,log:=none}::bW r v.size v.head 0::al b (cK (v,D) ⟨e,v.next,v.head⟩).2.2::R) (by
  unfold bT.head
  rw[show v.used-v.used=0 by omega]
  (repeat first|exact .refl|(apply aP.cons;focus repeat first|exact .head|apply nW.tail)|exact .nil|apply aP.drop))) (Cq rfl)
theorem y3{W:World}{R:List ab}{D:aw}{c0:Nat}(wp b:Nat)(v:bT)(e:v.ok)(c:D.gE c0)(a:c0<=999990000):
  az W Tryz.prog 173 [ip wp] (bz wp b v::al b D::R) (i6 (eO (v,D) v.epoch).1) (bz wp b (eO (v,D) v.epoch).2.1::al b (eO (v,D) v.epoch).2.2::R):=by
 have d:=e.epoch;refine qj λr f=>?_;refine ze Tryz.func173 Tryz.ntmps173 ?_;refine VO.aR (ae.trans (ae.re (L:=cC wp b r f v (al b D::R))) (bz.shut r f)) ?_;refine zt (s:=uQ wp b v v.epoch zO e c a) (h:=?_);intro _ _;refine w ?_;exact VE.ax rfl rfl ae.re
theorem EW{W:World}{R:List ab}{D:aw}{c0:Nat}(wp b:Nat)(v:bT)(e:v.ok)(c:D.gE c0)(a:c0<=999990000):
  az W Tryz.prog 136 [ip wp] (bz wp b v::al b D::R) (i6 (eO (v,D) (v.epoch+1)).1) (bz wp b (eO (v,D) (v.epoch+1)).2.1::al b (eO (v,D) (v.epoch+1)).2.2::R):=by
 have d:=e.epoch;refine qj λr f=>?_;refine ze Tryz.func136 Tryz.ntmps136 ?_;refine VO.re 8 (i8 ((v.epoch+1:Nat):Int)) rfl (by congr 1;rw[show((v.epoch:Int)+1)=((v.epoch+1:Nat):Int)by omega,dB zO]) ?_;refine VO.aR (ae.trans (ae.re (L:=cC wp b r f v (al b D::R))) (bz.shut r f)) ?_;refine zt (s:=uQ wp b v (v.epoch+1) zO e c a) (h:=?_);intro _ _;refine w ?_;exact VE.ax rfl rfl ae.re
theorem yp{W:World}{R:List ab}(wp b:Nat)(v:bT):az W Tryz.prog 247 [ip wp] (bz wp b v::R) (ii v.size) (bz wp b v::R):=by
 refine rC (λw a=>bz.open a) λx=>?_;refine ze Tryz.func247 Tryz.ntmps247 ?_;refine VO.aR (H':=bW x.1 v.size v.tail v.used::dj wp b x.1 x.2 v::gZ v.log x.2::R) ae.re ?_;refine zt (s:=o9 x.1 v.size v.tail v.used) (h:=?_);intro _ _;refine w ?_;exact VE.ax rfl rfl (ae.trans (ae.re (L:=cC wp b x.1 x.2 v R)) (bz.shut x.1 x.2))
theorem yq{W:World}{R:List ab}(wp b:Nat)(v:bT):az W Tryz.prog 26 [ip wp] (bz wp b v::R) (ii v.used) (bz wp b v::R):=by
 refine rC (λw a=>bz.open a) λx=>?_;refine ze Tryz.func26 Tryz.ntmps26 ?_;refine VO.aR (H':=bW x.1 v.size v.tail v.used::dj wp b x.1 x.2 v::gZ v.log x.2::R) ae.re ?_;refine zt (s:=uG x.1 v.size v.tail v.used) (h:=?_);intro _ _;refine w ?_;exact VE.ax rfl rfl (ae.trans (ae.re (L:=cC wp b x.1 x.2 v R)) (bz.shut x.1 x.2))
theorem GP{W:World}{R:List ab}(wp b:Nat)(v:bT):az W Tryz.prog 169 [ip wp] (bz wp b v::R) (.bool v.sure) (bz wp b v::R):=by
 refine rC (λw a=>bz.open a) λx=>?_;refine ze Tryz.func169 Tryz.ntmps169 ?_;exact VE.ax rfl rfl (ae.trans (ae.re (L:=cC wp b x.1 x.2 v R)) (bz.shut x.1 x.2))
theorem Lt{W w:World}{R:List ab}{b:Nat}{D:aw}(h:Holds W (al b D::R) w)(k:Int)(v:iQ)(c:D.dev k=some v):v.k.ok:=by
  obtain⟨⟨⟨a,sp⟩,e,g⟩,f⟩:=al.open h;dsimp only at e g f;rw[wS e]at c;cases d:BC sp k with
  |none=>rw[d]at c;cases c
  |some p=>
    rw[d]at c;have c:p.v=v:=by injection c
    obtain⟨l,s,m,rfl,-,j⟩:=mG d;have i:=rJ j w f;have:=i.tail;rw[<-c];exact bl.bH this
theorem Sc{k:ak}(c:k.ok){a:Int}(h:(k.rd a).2=0):(k.rd a).1.length=128:=by
 unfold ak.rd at*;split at h
 ·
  rename_i b;rw[lam b];have:=xv b;exact ak.r5 c zO
 · rename_i b;exact lcs h b
theorem En{D:aw}{k:Int}(h:D.refuse k=0):∃v,D.dev k=some v:=by
  unfold aw.refuse at h;split at h
  · cases h
  · split at h
    · cases h
    · rename_i b c
      cases a:D.dev k with
      |some v=>exact⟨v,rfl⟩
      |none=>
        rw[a]at h
        unfold iA at h
        simp only[Option.isSome_none]at h
        split at h
        · cases h
        · cases h
theorem Qg{v:iQ}(h:v.k.ok):v.use.k.ok:=by
 unfold iQ.use;split
 · exact h
 ·
  split
  · exact ak.fU (k:=⟨v.k.last,v.k.cache,true⟩) ⟨h.last,h.cache,h.size⟩
  · exact h
theorem M9{D:aw}{k a:Int}(d:∀v,D.dev k=some v->v.k.ok)(h:(D.read k a).1.2=0):(D.read k a).1.1.length=128:=by
 unfold aw.read at*;split at h
 ·
  rename_i b;rw[lam b];obtain⟨v,c⟩:=En b;dsimp only at*;refine Sc ?_ h;unfold aw.dv;rw[c];exact Qg (d v c)
 · rename_i b;exact lcs h b
def sizedB(n:Int):Bool:=decide (5<=n/\n<=2048)
theorem EF{W:World}{R:List ab}(n:Int):az W Tryz.prog 80 [ii n] R (.bool (sizedB n)) R:=by
 refine ze Tryz.func80 Tryz.ntmps80 ?_;refine zg ?_ ?_<;>intro a
 ·
  refine w ?_;exact VE.ax rfl (by unfold sizedB;congr 1;rw[cN];have:=cI a;omega) ae.re
 ·
  refine w ?_;exact VE.ax rfl (by unfold sizedB;congr 1;symm;apply gx;have:=dx a;omega) ae.re
def bA(slot:Int)(epoch n:Nat):bT:=⟨slot,epoch,n,0,0,1,true,none,0⟩
def oh(n:Nat):List (Int×List UInt8):=(List.range n).map λp=>(((2+p:Nat):Int),bC)
def jj(D:aw)(slot a:Int)(epoch:Nat):(Option bT×Int)×aw:=
  if sizedB a=false\/4611686018427387904<epoch then((none,1),D)else
  if(cF (bA slot epoch a.toNat,D) (oh a.toNat)).1≠0 then((none,(cF (bA slot epoch a.toNat,D) (oh a.toNat)).1),(cF (bA slot epoch a.toNat,D) (oh a.toNat)).2.2)else
  if(cK (cF (bA slot epoch a.toNat,D) (oh a.toNat)).2 ⟨epoch,1,0⟩).1≠0 then((none,(cK (cF (bA slot epoch a.toNat,D) (oh a.toNat)).2 ⟨epoch,1,0⟩).1),(cK (cF (bA slot epoch a.toNat,D) (oh a.toNat)).2 ⟨epoch,1,0⟩).2.2)else
  ((some (bA slot epoch a.toNat),0),(cK (cF (bA slot epoch a.toNat,D) (oh a.toNat)).2 ⟨epoch,1,0⟩).2.2)
theorem Cr{W:World}{R:List ab}{D:aw}{c0 epoch:Nat}(b:Nat)(slot a:Int)(K:epoch<2^64)(B:D.gE c0)(J:c0<=999990000):
  aq W Tryz.prog 50 [ip b,ii slot,ii a,i8 epoch] (al b D::R) (β:=Option Nat) (λx=>x.isSome=(jj D slot a epoch).1.1.isSome)
   (λx=>.tuple #[.pointer (x.map λw=>⟨w,0,none⟩),i6 (jj D slot a epoch).1.2])
   (λx=>x.elim (al b (jj D slot a epoch).2::R) λw=>bz w b (bA slot epoch a.toNat)::al b (jj D slot a epoch).2::R):=by
 (refine aq.enter Tryz.func50 Tryz.ntmps50 rfl rfl ?_);refine zt (s:=EF a) (h:=?_);intro _ _;refine w ?_;by_cases o:sizedB a=true;rotate_left
 ·
  have o:sizedB a=false:=by simpa using o
  have H:jj D slot a epoch=((none,1),D):=lam (.inl o);rw[o,H];refine w ?_;exact VE.done none rfl rfl rfl ae.refl
 rw[o];have N:=cI (show decide (5<=a/\a<=2048)=true from o);refine w ?_;refine zk ?_ ?_<;>intro d
 ·
  have C:=cI d;have H:jj D slot a epoch=((none,1),D):=lam (.inr zO);rw[H];refine w ?_;exact VE.done none rfl rfl rfl ae.refl
 have C:epoch<=4611686018427387904:=by have:=dx d;omega
 clear d;obtain⟨n,rfl⟩:∃n:Nat,a=n:=⟨a.toNat,by omega⟩;have G:iU n 0 0:=⟨by omega,by omega,by omega,by omega⟩;obtain⟨L,z⟩:∃L,L=oh n:=⟨_,rfl⟩;have q:L.length=n:=by rw[z];simp[oh]
 have A:∀i (h:i<L.length),L[i]=(((2+i:Nat):Int),bC):=by intro i h;subst z;simp[oh]
 have k:jj D slot n epoch=if(cF (bA slot epoch n,D) L).1≠0 then((none,(cF (bA slot epoch n,D) L).1),(cF (bA slot epoch n,D) L).2.2)else
   if(cK (cF (bA slot epoch n,D) L).2 ⟨epoch,1,0⟩).1≠0 then((none,(cK (cF (bA slot epoch n,D) L).2 ⟨epoch,1,0⟩).1),(cK (cF (bA slot epoch n,D) L).2 ⟨epoch,1,0⟩).2.2)else
   ((some (bA slot epoch n),0),(cK (cF (bA slot epoch n,D) L).2 ⟨epoch,1,0⟩).2.2):=by
  rw[z];unfold jj;rw[aE (by rw[o];simp;omega),Int.toNat_natCast]
 refine zt (s:=xP (size:=n) (tail:=0) (used:=0) G) (h:=?_);intro r _;refine w ?_;apply VO.pure rfl rfl;apply af.build sb_132 rfl;simp[aC,bR,Value.cells];rfl;rfl;refine w ?_;refine zj λ_=>?_;refine w ?_;rename_i wp;refine VC.aR (H':=al b D::cC wp b r none (bA slot epoch n) R) (λw O=>by
  have I:=O.gG (p:=True) trivial
  exact I.fk (by
   show aP (gZ none none::_) _
   unfold cC bA
   dsimp only
   (repeat first|exact .refl|(apply aP.cons;focus repeat first|exact .head|apply nW.tail)|exact .nil|apply aP.drop))) ?_
 refine w ?_
 refine VC.loop (α:=Nat×aw) (λy=>y.1<=n/\y.2.gE (c0+y.1)/\cF (bA slot epoch n,D) L=cF (bA slot epoch n,y.2) (L.drop y.1)) (λy=>al b y.2::cC wp b r none (bA slot epoch n) R)
  (λy=>[(3,i8 epoch),(12,ip wp),(37,ii n),(38,ii y.1)]) (λy=>n-y.1) rfl (0,D) ⟨c7 _,B,by rw[KP]⟩ ae.refl ⟨rfl,rfl,rfl,rfl,trivial⟩ ?_
 rintro⟨i,e⟩ ⟨M,j,f⟩;dsimp only at M j f⊢;refine w ?_;refine zk ?_ ?_<;>intro d
 ·
  have F:i<n:=by have:=cI d;omega
  clear d;have c:cF (bA slot epoch n,e) (L.drop i)=if(aS (bA slot epoch n,e) ((2+i:Nat):Int) bC).1≠0 then aS (bA slot epoch n,e) ((2+i:Nat):Int) bC else cF (aS (bA slot epoch n,e) ((2+i:Nat):Int) bC).2 (L.drop (i+1)):=by
   rw[vE zO,A i zO];rfl
  refine zw ?_;refine ay.dd (m:=128) eH rfl rfl rfl (by decide) (by decide) rfl ?_;intro v;refine VO.re 43 (ii ((2+i:Nat):Int)) rfl (by congr 1) ?_;refine w ?_
  refine VO.aR (H':=al b e::cC wp b r none (bA slot epoch n) (b8 (ik v,128) bC::R)) (by
   rw[show b8 (ik v,128) bC=Sl.Own 5 1 (.slice (ik v) 128 128) 128 (List.replicate 128 (ib 0))by
    show Sl.Own _ _ (.slice _ bC.length 128) bC.length (bytes bC)=_
    rw[lN,show bytes bC=List.replicate 128 (ib 0)by unfold bytes bC;rw[List.map_replicate];rfl]]
   exact ae.re) ?_
  refine VO.re 44 (.slice (ik v) bC.length 128) rfl (by rw[lN]) ?_;refine zt (s:=pD wp b r none (bA slot epoch n) ((2+i:Nat):Int) (RB (oK j _) zO) (aV.own (aQ _) (.tail _ (.tail _ (.tail _ (.head _)))) (by simp) (by simp))) (h:=?_);intro _ _;refine w ?_;refine zk ?_ ?_<;>intro d
  ·
   have g:(aS (bA slot epoch n,e) ((2+i:Nat):Int) bC).1≠0:=by simpa using d
   rw[lam g]at c;have t:jj D slot n epoch=((none,(aS (bA slot epoch n,e) ((2+i:Nat):Int) bC).1),(aS (bA slot epoch n,e) ((2+i:Nat):Int) bC).2.2):=by
    rw[k,f,c,lam g]
   rw[t];refine w ?_;refine VE.done none rfl rfl rfl ?_;exact ae.re
  have g:(aS (bA slot epoch n,e) ((2+i:Nat):Int) bC).1=0:=by simpa using d
  clear d;rw[aE (by simpa using g)]at c;have u:=(ma g).1;refine w ?_;refine VE.round (i+1,(aS (bA slot epoch n,e) ((2+i:Nat):Int) bC).2.2) ⟨F,uO j _ _,?_⟩ (by simp only;omega) ⟨rfl,rfl,rfl,b7 rfl (by congr 1),trivial⟩ ?_
  ·
   show cF (bA slot epoch n,D) L=cF (bA slot epoch n,(aS (bA slot epoch n,e) ((2+i:Nat):Int) bC).2.2) (L.drop (i+1));rw[f,c];congr 1;exact Prod.ext u rfl
  · rw[u];exact ae.re
 have E:i=n:=by have:=dx d;omega
 clear d;rw[E,<-q,List.drop_length]at f;have l:cF (bA slot epoch n,D) L=(0,(bA slot epoch n,e)):=by rw[q]at f;exact f
 rw[l]at k;dsimp only at k;rw[aE (by simp)]at k;refine w ?_;apply VO.pure rfl rfl;apply af.build sb_157 rfl;simp[aC,bR,Value.cells];rfl;rfl;refine zt (s:=uP wp b r none (bA slot epoch n) ⟨epoch,1,0⟩ ⟨K,by show 1<2^64;omega,by show-9223372036854775808<=(0:Int)/\(0:Int)<=9223372036854775807;omega⟩ j zO) (h:=?_);intro _ _;refine w ?_;refine zk ?_ ?_<;>intro d
 ·
  have g:(cK (bA slot epoch n,e) ⟨epoch,1,0⟩).1≠0:=by simpa using d
  rw[lam g]at k;rw[k];refine w ?_;refine VE.done none rfl rfl rfl ?_;exact ae.re
 have g:(cK (bA slot epoch n,e) ⟨epoch,1,0⟩).1=0:=by simpa using d
 clear d;rw[aE (by simpa using g)]at k;rw[k,uN g];refine w ?_;refine VE.done (some wp) rfl rfl rfl ?_;exact ae.trans (ae.re (L:=cC wp b r none (bA slot epoch n) (al b (cK (bA slot epoch n,e) ⟨epoch,1,0⟩).2.2::R))) (bz.shut r none)
def dL(D:aw)(slot:Int):List Int->List UInt8->(List UInt8×Int)×aw
  |[],acc=>((acc,0),D)
  |a::r,acc=>if(D.read slot a).1.2≠0 then(([],(D.read slot a).1.2),(D.read slot a).2)else dL (D.read slot a).2 slot r (acc++(D.read slot a).1.1)
def gI(n:Nat):List Int:=(List.range n).map λp=>((2+p:Nat):Int)
def Ea(slot a:Int)(c:bJ)(f:QT):bT:=⟨slot,c.epoch,a.toNat,c.tail.toNat,f.used,f.next,true,none,0⟩
def od(D:aw)(slot a:Int):((Option bT×List (Nat×List bK))×Int)×aw:=
  if sizedB a=false then(((none,[]),1),D)else
  if(D.read slot 1).1.2≠0 then(((none,[]),(D.read slot 1).1.2),(D.read slot 1).2)else
  if(bJ.dec (D.read slot 1).1.1).1≠0\/a<=(bJ.dec (D.read slot 1).1.1).2.tail then(((none,[]),120),(D.read slot 1).2)else
  if(dL (D.read slot 1).2 slot (gI a.toNat) []).1.2≠0 then(((none,[]),(dL (D.read slot 1).2 slot (gI a.toNat) []).1.2),(dL (D.read slot 1).2 slot (gI a.toNat) []).2)else
  if(eB (dL (D.read slot 1).2 slot (gI a.toNat) []).1.1 (bJ.dec (D.read slot 1).1.1).2).1≠0 then(((none,[]),(eB (dL (D.read slot 1).2 slot (gI a.toNat) []).1.1 (bJ.dec (D.read slot 1).1.1).2).1),(dL (D.read slot 1).2 slot (gI a.toNat) []).2)else
  (((some (Ea slot a (bJ.dec (D.read slot 1).1.1).2 (eB (dL (D.read slot 1).2 slot (gI a.toNat) []).1.1 (bJ.dec (D.read slot 1).1.1).2).2),(eB (dL (D.read slot 1).2 slot (gI a.toNat) []).1.1 (bJ.dec (D.read slot 1).1.1).2).2.Qd),0),(dL (D.read slot 1).2 slot (gI a.toNat) []).2)
theorem LW(b:List UInt8):(bJ.dec b).2.fit:=by
 have a:og.fit:=⟨by decide,by decide,by decide⟩;unfold bJ.dec;split
 · exact a
 ·
  split
  · exact Hi b
  · exact a
structure S3 where
  w:Option Nat
  x:Option Addr×Nat
  ts:List bF
theorem GN{W:World}{R:List ab}{D:aw}(b:Nat)(slot a:Int):
  aq W Tryz.prog 126 [ip b,ii slot,ii a] (al b D::R) (β:=S3) (λy=>y.w.isSome=(od D slot a).1.1.1.isSome/\y.ts.map bF.T=(od D slot a).1.1.2)
   (λy=>.tuple #[.pointer (y.w.map λw=>⟨w,0,none⟩),.slice y.x.1 y.ts.length y.x.2,i6 (od D slot a).1.2])
   (λy=>iD y.x y.ts::kG y.ts::y.w.elim (al b (od D slot a).2::R) λw=>bz w b ((od D slot a).1.1.1.getD (bA 0 0 0))::al b (od D slot a).2::R):=by
 have g:∀(D':aw),ae W (al b D'::R) (iD (none,0) []::kG []::al b D'::R):=λD' w t=>(di (res:=bF.res) t).aZ _ _;refine aq.enter Tryz.func126 Tryz.ntmps126 rfl rfl ?_;refine zt (s:=EF a) (h:=?_);intro _ _;refine w ?_;by_cases E:sizedB a=true;rotate_left
 ·
  have E:sizedB a=false:=by simpa using E
  have hz:od D slot a=(((none,[]),1),D):=lam E;rw[E,hz];refine w ?_;exact VE.done ⟨none,(none,0),[]⟩ rfl ⟨rfl,rfl⟩ rfl (g D)
 rw[E];have br:=cI (show decide (5<=a/\a<=2048)=true from E);obtain⟨n,rfl⟩:∃n:Nat,a=n:=⟨a.toNat,by omega⟩
 have j:od D slot n=if(D.read slot 1).1.2≠0 then(((none,[]),(D.read slot 1).1.2),(D.read slot 1).2)else
   if(bJ.dec (D.read slot 1).1.1).1≠0\/(n:Int)<=(bJ.dec (D.read slot 1).1.1).2.tail then(((none,[]),120),(D.read slot 1).2)else
   if(dL (D.read slot 1).2 slot (gI n) []).1.2≠0 then(((none,[]),(dL (D.read slot 1).2 slot (gI n) []).1.2),(dL (D.read slot 1).2 slot (gI n) []).2)else
   if(eB (dL (D.read slot 1).2 slot (gI n) []).1.1 (bJ.dec (D.read slot 1).1.1).2).1≠0 then(((none,[]),(eB (dL (D.read slot 1).2 slot (gI n) []).1.1 (bJ.dec (D.read slot 1).1.1).2).1),(dL (D.read slot 1).2 slot (gI n) []).2)else
   (((some (Ea slot n (bJ.dec (D.read slot 1).1.1).2 (eB (dL (D.read slot 1).2 slot (gI n) []).1.1 (bJ.dec (D.read slot 1).1.1).2).2),(eB (dL (D.read slot 1).2 slot (gI n) []).1.1 (bJ.dec (D.read slot 1).1.1).2).2.Qd),0),(dL (D.read slot 1).2 slot (gI n) []).2):=by
  unfold od;rw[aE (by rw[E];simp),Int.toNat_natCast]
 refine zt (s:=nk b D slot 1) (h:=?_);rintro⟨xo,xc⟩ F;dsimp only at F;refine VO.bH (p:=∀v,(D.read slot 1).2.dev slot=some v->v.k.ok) (λw t=>Lt t.tail slot) ?_;intro S;refine VO.bH (p:=(D.read slot 1).1.1.length<=xc) (λw t=>t.jd (.head _)) ?_;intro V;obtain⟨D1,B⟩:∃D1,D1=(D.read slot 1).2:=⟨_,rfl⟩;obtain⟨G,C⟩:∃G,G=(D.read slot 1).1.1:=⟨_,rfl⟩;obtain⟨X,N⟩:∃X,X=(D.read slot 1).1.2:=⟨_,rfl⟩;rw[<-C,<-N,<-B]at j;rw[<-B]at S;rw[<-C]at V F;rw[<-C,<-N,<-B];refine w ?_;refine zk ?_ ?_<;>intro k
 ·
  have h9:X≠0:=by simpa using k
  rw[lam h9]at j;rw[j];refine w ?_;refine VE.done ⟨none,(none,0),[]⟩ rfl ⟨rfl,rfl⟩ rfl ?_;exact ae.trans (ae.re (L:=al b D1::R)) (g D1)
 have h9:X=0:=by simpa using k
 clear k;rw[aE (by simpa using h9)]at j;have M:=LW G;obtain⟨c,J⟩:∃c,c=(bJ.dec G).2:=⟨_,rfl⟩;rw[<-J]at j M;refine zt (s:=OY (aV.own (aQ _) (.head _) (by simp) F) V) (h:=?_);intro _ _;rw[<-J];refine zw ?_;refine ay.aB sb_157 rfl ?_;intro n11;refine zw ?_;refine ay.gL (vs:=c.cells) ah rfl rfl rfl rfl (by simp[Value.oneCell']) zh (by simp) ?_;refine VO.aR (H':=Row n11 157 c.cells::al b D1::R) ae.re ?_;refine w ?_;refine zg ?_ ?_<;>intro hb
 ·
  have h8:(bJ.dec G).1≠0:=by simpa using hb
  rw[lam (.inl h8)]at j;rw[j];refine w ?_;refine VE.done ⟨none,(none,0),[]⟩ rfl ⟨rfl,rfl⟩ rfl ?_;exact ae.trans (ae.re (L:=al b D1::R)) (g D1)
 have h8:(bJ.dec G).1=0:=by simpa using hb
 clear hb;refine w ?_;refine zk ?_ ?_<;>intro k
 ·
  have h7:(n:Int)<=c.tail:=cI k;rw[lam (.inr h7)]at j;rw[j];refine w ?_;refine VE.done ⟨none,(none,0),[]⟩ rfl ⟨rfl,rfl⟩ rfl ?_;exact ae.trans (ae.re (L:=al b D1::R)) (g D1)
 have h7:¬(n:Int)<=c.tail:=dx k;clear k;rw[aE (by rintro(q|q);exact q h8;exact h7 q)]at j;obtain⟨L,hL⟩:∃L,L=gI n:=⟨_,rfl⟩;have ad:L.length=n:=by rw[hL];simp[gI]
 have aa:∀i (h:i<L.length),L[i]=((2+i:Nat):Int):=by intro i h;subst hL;simp[gI]
 rw[<-hL]at j;refine w ?_
 refine VC.loop (α:=Nat×aw×List UInt8×(Option Addr×Nat)) (λy=>y.1<=n/\y.2.2.1.length=128*y.1/\dL D1 slot L []=dL y.2.1 slot (L.drop y.1) y.2.2.1) (λy=>b8 y.2.2.2 y.2.2.1::al b y.2.1::Row n11 157 c.cells::R)
  (λy=>[(0,ip b),(1,ii slot),(2,ii n),(11,ip n11),(12,.slice y.2.2.2.1 y.2.2.1.length y.2.2.2.2),(43,ii n),(44,ii y.1)]) (λy=>n-y.1) rfl (0,D1,[],none,0) ⟨c7 _,rfl,by rw[KP]⟩
  (ae.trans (ae.re (L:=al b D1::Row n11 157 c.cells::R)) (λw t=>t.aZ 5 1)) ⟨rfl,rfl,rfl,rfl,rfl,rfl,rfl,trivial⟩ ?_
 rintro⟨i,d,acc,⟨ao,ac⟩⟩ ⟨hi,I,x⟩;dsimp only at hi I x⊢;refine w ?_;refine zk ?_ ?_<;>intro k
 ·
  have au:i<n:=by have:=cI k;omega
  clear k;have l:dL d slot (L.drop i) acc=if(d.read slot ((2+i:Nat):Int)).1.2≠0 then(([],(d.read slot ((2+i:Nat):Int)).1.2),(d.read slot ((2+i:Nat):Int)).2)else dL (d.read slot ((2+i:Nat):Int)).2 slot (L.drop (i+1)) (acc++(d.read slot ((2+i:Nat):Int)).1.1):=by
   rw[vE zO,aa i zO];rfl
  refine VC.bH (p:=∀v,d.dev slot=some v->v.k.ok) (λw t=>Lt t.tail slot) ?_;intro Q;refine w ?_;refine VO.re 51 (ii ((2+i:Nat):Int)) rfl (by congr 1) ?_;refine VO.aR (H':=al b d::b8 (ao,ac) acc::Row n11 157 c.cells::R) ae.re ?_;refine zt (s:=nk b d slot ((2+i:Nat):Int)) (h:=?_);rintro⟨yo,yc⟩ bk;dsimp only at bk;refine w ?_;refine zk ?_ ?_<;>intro k
  ·
   have u:(d.read slot ((2+i:Nat):Int)).1.2≠0:=by simpa using k
   rw[lam u]at l;rw[x,l,lam u]at j;rw[j];refine w ?_;refine VE.done ⟨none,(none,0),[]⟩ rfl ⟨rfl,rfl⟩ rfl ?_;exact ae.trans (ae.re (L:=al b (d.read slot ((2+i:Nat):Int)).2::R)) (g _)
  have u:(d.read slot ((2+i:Nat):Int)).1.2=0:=by simpa using k
  clear k;rw[aE (by simpa using u)]at l;have bm:=M9 Q u;refine zw ?_;refine ay.append (m:=(d.read slot ((2+i:Nat):Int)).1.1.length) (news:=bytes (d.read slot ((2+i:Nat):Int)).1.1) eH rfl rfl zh (λw t=>(show jW w 1 (.slice yo (d.read slot ((2+i:Nat):Int)).1.1.length yc) (d.read slot ((2+i:Nat):Int)).1.1.length (bytes (d.read slot ((2+i:Nat):Int)).1.1)from jW.own (e:=5) (aQ _) t zm).src eH.tZ) (by simp only[maxLen];omega) zO rfl ?_;intro so Z;refine w ?_;refine VE.round (i+1,(d.read slot ((2+i:Nat):Int)).2,acc++(d.read slot ((2+i:Nat):Int)).1.1,so,Z) ⟨au,by simp only[c9];omega,by rw[x,l]⟩ (by simp only;omega) ⟨rfl,rfl,rfl,rfl,b7 rfl (by rw[c9]),rfl,b7 rfl (by congr 1),trivial⟩ ?_;dsimp only
  rw[show b8 (so,Z) (acc++(d.read slot ((2+i:Nat):Int)).1.1)=Sl.Own 5 1 (.slice so (acc.length+(d.read slot ((2+i:Nat):Int)).1.1.length) Z) (acc.length+(d.read slot ((2+i:Nat):Int)).1.1.length) (bytes acc++bytes (d.read slot ((2+i:Nat):Int)).1.1)by
   show Sl.Own _ _ (.slice so (_++_:List UInt8).length Z) (_++_:List UInt8).length (bytes (_++_))=_
   rw[c9];unfold bytes;rw[jv]]
  exact ae.re
 have P:i=n:=by have:=dx k;omega
 clear k;rw[P,<-ad,List.drop_length]at x;have ba:dL D1 slot L []=((acc,0),d):=x;rw[ba]at j;dsimp only at j;rw[aE (by simp)]at j;rw[P]at I;refine VC.bH (p:=ao=none->acc.length=0) (λw t=>t.bn (.head _)) ?_;intro ag;refine VC.bH (p:=acc.length<=ac) (λw t=>t.jd (.head _)) ?_;intro K;obtain⟨e2,f2,A⟩:∃e f,eB acc c=(e,f):=⟨_,_,rfl⟩;rw[A]at j;dsimp only at j;have H:=Tu (W:=W) (R:=b8 (ao,ac) acc::al b d::Row n11 157 c.cells::R) (ao:=ao) (cap:=ac) (data:=acc) (aV.own (aQ _) (.head _) (by simp) ag) K zO c M;rw[A]at H;refine zt (s:=H) (h:=?_);rintro⟨⟨o1,c1⟩,ts⟩ U;dsimp only at U⊢;refine zw ?_;refine ay.aB sb_277 rfl ?_;intro n16;refine zS ([.slice o1 ts.length c1,i8 (f2.next:Int),ii (f2.head:Int),ii (f2.used:Int)]) ?_;refine zk ?_ ?_<;>intro k
 ·
  have Y:e2≠0:=by simpa using k
  rw[lam Y]at j;rw[j];refine w ?_;refine VE.done ⟨none,(none,0),[]⟩ rfl ⟨rfl,rfl⟩ rfl ?_;exact ae.trans (ae.re (L:=al b d::R)) (g _)
 have Y:e2=0:=by simpa using k
 clear k;rw[aE (by simpa using Y)]at j;subst Y;obtain⟨o,z,bo,bp,T,bf,an,O⟩:=Dr (data:=acc) (c:=c) (by rw[A]);obtain rfl:o=n:=by omega
 have bh:f2.used<=o:=by
  have h5:f2=⟨ofM (gJ acc) o c.epoch (o+1) c.seq 0 z,c.seq+(ofM (gJ acc) o c.epoch (o+1) c.seq 0 z).length,(z+bN (ofM (gJ acc) o c.epoch (o+1) c.seq 0 z))%o,bN (ofM (gJ acc) o c.epoch (o+1) c.seq 0 z)⟩:=by
   rw[A]at O;exact JB Prod.snd O
  rw[h5];have:=HP (sec:=gJ acc) (size:=o) (e:=c.epoch) (o+1) c.seq 0 z (c7 _);dsimp only;omega
 have bb:iU o z f2.used:=⟨by omega,by omega,bf,bh⟩;refine w ?_;refine VO.re 74 (ii (z:Int)) rfl (by rw[<-T]) ?_;refine zt (s:=xP bb) (h:=?_);intro r _;refine w ?_;refine zx [8] 12 [0,1,2,3,4,5,6,7,9,10,8,11,12,13] _ ?_;refine w ?_;apply VD.take rfl rfl rfl;apply af.build sb_132 rfl;simp[aC,bR,Value.cells];rfl;rfl;refine w ?_;refine zj λ_=>?_;refine w ?_;rename_i wp;have av:Ea slot o c f2=⟨slot,c.epoch,o,z,f2.used,f2.next,true,none,0⟩:=by unfold Ea;rw[T];rfl
 rw[j,av];refine VE.done ⟨some wp,(o1,c1),ts⟩ rfl ⟨rfl,U⟩ rfl ?_;refine ae.trans (ae.re (L:=dj wp b r none ⟨slot,c.epoch,o,z,f2.used,f2.next,true,none,0⟩::bW r o z f2.used::iD (o1,c1) ts::kG ts::al b d::R)) ?_;refine ae.trans (Cq rfl) ?_;exact ae.re
structure Pw(D:aw)(s:Nat)(k:ak):Prop where
  slot:D.bh[s]?=some ⟨some ⟨k,false,0⟩,none,none⟩
  lit:D.rQ=false
  live:k.failed=false
  c8:-1<=D.c8/\D.c8<=9223372036854775807
structure Dk(D:aw)(s:Nat)(k:ak):Prop where
  slot:D.bh[s]?=some ⟨some ⟨k,false,0⟩,none,none⟩
  rQ:D.rQ=true
  live:k.failed=false
structure yB(s:Nat)(js:List Nat)(D D':aw):Prop where
  len:D'.bh.length=D.bh.length
  KT:∀j,j≠s->D'.bh[j]?=D.bh[j]?
  calm:D.c8=-1->D'.c8=-1
  lO:D'.n=js.foldl Fa.inc D.n
  tr:0<=D.c8->0<=D'.c8/\D'.c8=D.c8-js.length
theorem yB.refl(s:Nat)(D:aw):yB s [] D D:=⟨rfl,λ_ _=>rfl,λh=>h,rfl,λh=>⟨h,by simp⟩⟩
theorem yB.trans{s:Nat}{a b:List Nat}{D E F:aw}(h:yB s a D E)(g:yB s b E F):yB s (a++b) D F:=
 ⟨g.len.trans h.len,λj c=>(g.KT j c).trans (h.KT j c),λq=>g.calm (h.calm q),by rw[List.foldl_append,<-h.lO,g.lO],λq=>by
 obtain⟨d,a2⟩:=h.tr q
 obtain⟨e,f⟩:=g.tr d
 exact⟨e,by rw[f,a2,c9];omega⟩⟩
structure Dkb(D:aw)(N:Nat)(D':aw)(s:Nat)(k:ak):Prop extends Dk D' s k where
  lo:0<=D.c8
  lt:D.c8<N
  len:D'.bh.length=D.bh.length
  KT:∀j,j≠s->D'.bh[j]?=D.bh[j]?
theorem yB.rQ{s:Nat}{g:List Nat}{D E D':aw}{N c:Nat}{k:ak}(f:yB s g D E)(i:-1<=D.c8)(h:Dkb E N D' s k)(l:g.length+N=c):Dkb D c D' s k:=by
 have d:0<=D.c8:=by
  have:=h.lo;by_cases q:D.c8=-1
  · have:=f.calm q;omega
  · omega
 obtain⟨a,b⟩:=f.tr d;exact⟨h.toDk,d,by have:=h.lt;omega,h.len.trans f.len,λj e=>(h.KT j e).trans (f.KT j e)⟩
theorem Pw.lt{D:aw}{s:Nat}{k:ak}(h:Pw D s k):s<D.bh.length:=by
 rcases w9 s D.bh.length with q|q
 · exact q
 · have:=h.slot;rw[Ry q]at this;cases this
theorem EG{D:aw}{s:Nat}{k:ak}(h:D.bh[s]?=some ⟨some ⟨k,false,0⟩,none,none⟩):D.dev (s:Int)=some ⟨k,false,0⟩:=by
 unfold aw.dev;rw[lam zO,Int.toNat_natCast,h];rfl
theorem inr{D:aw}{s:Nat}(h:s<D.bh.length):dX D.bh.length (s:Int)=true:=by
 unfold dX;simp;omega
theorem x7{D:aw}{s:Nat}{k b:ak}(h:D.bh[s]?=some ⟨some ⟨k,false,0⟩,none,none⟩):(D.j5 s ⟨b,false,0⟩).bh[s]?=some ⟨some ⟨b,false,0⟩,none,none⟩:=by
 have a:s<D.bh.length:=by
  rcases w9 s D.bh.length with q|q
  · exact q
  · rw[Ry q]at h;cases h
 unfold aw.j5;dsimp only;rw[HD a,h];rfl
theorem Kz{v:iQ}(h:v.nT=false):v.use=v:=lam h
theorem MP{D:aw}{s:Nat}{k:ak}(h:Pw D s k)(j:Nat):
  (D.c8=0/\D.refuse (s:Int)=50/\D.ahead (s:Int) j={D with rQ:=true,c8:=-1})\/
  (D.refuse (s:Int)=0/\D.dv (s:Int)=⟨k,false,0⟩/\(D.ahead (s:Int) j).bh=D.bh/\(D.ahead (s:Int) j).rQ=false/\(D.ahead (s:Int) j).n=D.n.inc j/\(-1<=(D.ahead (s:Int) j).c8/\(D.ahead (s:Int) j).c8<=9223372036854775807)/\(D.c8=-1->(D.ahead (s:Int) j).c8=-1)/\(0<=D.c8->0<=(D.ahead (s:Int) j).c8/\(D.ahead (s:Int) j).c8=D.c8-1)):=by
 have b:=inr h.lt;have d:=EG h.slot;by_cases c:D.c8=0
 ·
  left;have a:D.pow={D with rQ:=true,c8:=-1}:=lam c;refine⟨c,?_,?_⟩
  ·
   unfold aw.refuse;rw[aE (by rw[b];simp),a];rfl
  ·
   unfold aw.ahead;rw[aE (by rw[b];simp),a];rfl
 ·
  right;have a:D.pow=D:=aE c;have e:D.ahead (s:Int) j=D.step j:=by
   unfold aw.ahead;rw[aE (by rw[b];simp),a,aE (by rw[h.lit];simp)]
  refine⟨?_,?_,?_⟩
  ·
   unfold aw.refuse;rw[aE (by rw[b];simp),a,aE (by rw[h.lit];simp),d];unfold iA;rw[b];rfl
  · unfold aw.dv;rw[d];exact Kz rfl
  ·
   rw[e];have f:=h.c8;refine⟨rfl,h.lit,rfl,?_,?_⟩
   ·
    show-1<=(if 0<D.c8 then IntKind.i64.wrap (D.c8-1)else D.c8)/\(if 0<D.c8 then IntKind.i64.wrap (D.c8-1)else D.c8)<=9223372036854775807;split
    · rw[IntWalk.i64_in _ ⟨by omega,by omega⟩];omega
    · exact f
   ·
    refine⟨λq=>?_,λq=>?_⟩
    ·
     show(if 0<D.c8 then IntKind.i64.wrap (D.c8-1)else D.c8)=-1;rw[aE (by omega)];exact q
    ·
     show 0<=(if 0<D.c8 then IntKind.i64.wrap (D.c8-1)else D.c8)/\(if 0<D.c8 then IntKind.i64.wrap (D.c8-1)else D.c8)=D.c8-1;rw[lam (by omega),IntWalk.i64_in _ ⟨by omega,by omega⟩];omega
theorem tS{D:aw}{s j:Nat}(v:iQ)(h:j≠s):(D.j5 s v).bh[j]?=D.bh[j]? :=by
 unfold aw.j5;exact vD (λq=>h q.symm)
theorem tR(D:aw)(s:Nat)(v:iQ):(D.j5 s v).bh.length=D.bh.length:=by
 unfold aw.j5;exact Ub
def ak.writes(k:ak)(L:List (Nat×List UInt8)):ak:={k with cache:=k.cache++L}
theorem iB(k:ak):k.writes []=k:=by unfold ak.writes;rw[mn]
theorem kP(k:ak)(a:Nat)(b:List UInt8)(L:List (Nat×List UInt8)):(k.write a b).writes L=k.writes ((a,b)::L):=by
 unfold ak.write ak.writes;simp
theorem vJ{v:bT}{D:aw}{s a:Nat}{k:ak}{b:List UInt8}(h:Pw D s k)(g:v.slot=(s:Int))(f:v.broken=0)(u:a<k.last.length)(x:b.length=128):
  (∃D',aS (v,D) ((a:Nat):Int) b=(0,(v,D'))/\Pw D' s (k.write a b)/\yB s [1] D D')\/(D.c8≠-1/\∃D',aS (v,D) ((a:Nat):Int) b=(50,({v with broken:=50},D'))/\Dkb D 1 D' s k):=by
 obtain⟨vs,z,G,E,F,C,y,B,A⟩:=v;dsimp only at g f;subst g f;unfold aS;dsimp only;rw[lam rfl];unfold aw.write;rcases MP h 1 with⟨t,c,d⟩|⟨c,d,e,i,l,m,n,o⟩
 ·
  right;refine⟨by omega,?_⟩;rw[aE (by rw[c];decide),c,d];exact⟨_,rfl,⟨⟨h.slot,rfl,h.live⟩,by omega,by omega,rfl,λ_ _=>rfl⟩⟩
 ·
  left;have q:k.may (a:Int)=0:=by
   unfold ak.may;rw[aE (by rw[h.live];simp),aE (by omega)]
  have r:k.wr (a:Int) b=(0,k.write a b):=by
   unfold ak.wr;rw[aE (by simpa using q),aE (by omega),Int.toNat_natCast]
  rw[lam c,d];dsimp only;rw[r,Int.toNat_natCast];refine⟨_,rfl,⟨x7 (by rw[e];exact h.slot),i,h.live,m⟩,⟨?_,?_,?_,?_,o⟩⟩
  · rw[tR,e]
  · intro j p;rw[tS _ p,e]
  · exact n
  · exact l
theorem vI{v:bT}{D:aw}{s:Nat}{k:ak}(h:Pw D s k)(e:v.slot=(s:Int))(d:v.broken=0):
  (∃D',cd (v,D)=(0,(v,D'))/\Pw D' s (k.settle λ_=>true)/\yB s [2] D D')\/(D.c8≠-1/\∃D',cd (v,D)=(50,({v with broken:=50},D'))/\Dkb D 1 D' s k):=by
 obtain⟨vs,r,A,y,z,x,q,u,t⟩:=v;dsimp only at e d;subst e d;unfold cd;dsimp only;rw[lam rfl];unfold aw.flush;rcases MP h 2 with⟨p,a,b⟩|⟨a,b,c,f,g,i,l,m⟩
 ·
  right;refine⟨by omega,?_⟩;rw[aE (by rw[a];decide),a,b];exact⟨_,rfl,⟨⟨h.slot,rfl,h.live⟩,by omega,by omega,rfl,λ_ _=>rfl⟩⟩
 ·
  left;have o:k.fl=(0,k.settle λ_=>true):=by
   unfold ak.fl;rw[aE (by rw[h.live];simp)]
  rw[lam a,b];dsimp only;rw[o,Int.toNat_natCast];refine⟨_,rfl,⟨x7 (by rw[c];exact h.slot),f,h.live,i⟩,⟨?_,?_,?_,?_,m⟩⟩
  · rw[tR,c]
  · intro j n;rw[tS _ n,c]
  · exact l
  · exact g
def lW(L:List (Nat×List UInt8)):List (Int×List UInt8):=L.map λx=>((x.1:Nat),x.2)
theorem Gi{v:bT}{s:Nat}(i:v.slot=(s:Int))(g:v.broken=0):∀(L:List (Nat×List UInt8)){D:aw}{k:ak},Pw D s k->(∀x∈L,x.1<k.last.length/\x.2.length=128)->
    (∃D',cF (v,D) (lW L)=(0,(v,D'))/\Pw D' s (k.writes L)/\yB s (List.replicate L.length 1) D D')\/(D.c8≠-1/\∃D' j,j<=L.length/\cF (v,D) (lW L)=(50,({v with broken:=50},D'))/\Dkb D L.length D' s (k.writes (L.take j)))
  |[],D,k,h,_=>.inl ⟨D,rfl,by rw[iB];exact h,yB.refl s D⟩
  |x::r,D,k,h,f=>by
    have b:cF (v,D) (lW (x::r))=if(aS (v,D) ((x.1:Nat):Int) x.2).1≠0 then aS (v,D) ((x.1:Nat):Int) x.2 else cF (aS (v,D) ((x.1:Nat):Int) x.2).2 (lW r):=rfl;rcases vJ h i g (f x (.head _)).1 (f x (.head _)).2 with⟨D',d,a,e⟩|⟨l,D',d,a⟩
    · rw[b,d,aE (by simp)]
      dsimp only
      rcases Gi i g r a (λy m=>f y (.tail _ m))with⟨c,f1,f2,f3⟩|⟨f0,c,j,f1,f2,f3⟩
      · left
        exact⟨c,f1,by rw[<-kP];exact f2,by have:=e.trans f3;exact this⟩
      · right
        refine⟨λq=>f0 (e.calm q),c,j+1,by simpa using f1,f2,?_⟩
        rw[pS,<-kP];exact e.rQ h.c8.1 f3 (by simp;omega)
    · right
      rw[b,d,lam (by show(50:Int)≠0;decide)]
      exact⟨l,D',0,c7 _,rfl,by rw[DK,iB];exact⟨a.toDk,a.lo,by have:=a.lt;simp;omega,a.len,a.KT⟩⟩
theorem HT{v:bT}{D:aw}{s:Nat}{k:ak}{c:bJ}(h:Pw D s k)(l:v.slot=(s:Int))(i:v.broken=0)(j:c.aX)(n:1<k.last.length):
  (∃D',cK (v,D) c=(0,(v,D'))/\Pw D' s ((k.writes [(1,c.enc.2)]).settle λ_=>true)/\yB s [1,2] D D')\/
  (D.c8≠-1/\∃D' L,(L=[]\/L=[(1,c.enc.2)])/\cK (v,D) c=(50,({v with broken:=50},D'))/\Dkb D 2 D' s (k.writes L)):=by
 have o:c.enc.1=0:=by rw[qL j]
 have p:c.enc.2.length=128:=by rw[qL j];exact fm _ _ _ _ (nu _)
 have d:cK (v,D) c=if(aS (v,D) 1 c.enc.2).1≠0 then aS (v,D) 1 c.enc.2 else cd (aS (v,D) 1 c.enc.2).2:=aE (by simpa using o);rcases vJ (a:=1) h l i n p with⟨D',f,b,g⟩|⟨m,D',f,b⟩
 ·
  rw[d,show aS (v,D) 1 c.enc.2=(0,(v,D'))from f,aE (by simp)];dsimp only;rcases vI b l i with⟨e,f1,f2,f3⟩|⟨f0,e,f1,f2⟩
  · left;exact⟨e,f1,f2,g.trans f3⟩
  · right;exact⟨λq=>f0 (g.calm q),e,_,.inr rfl,f1,g.rQ h.c8.1 f2 rfl⟩
 ·
  right;rw[d,show aS (v,D) 1 c.enc.2=(50,({v with broken:=50},D'))from f,lam (by show(50:Int)≠0;decide)];exact⟨m,D',[],.inl rfl,rfl,by rw[iB];exact⟨b.toDk,b.lo,by have:=b.lt;omega,b.len,b.KT⟩⟩
def fT(v:bT)(rows:List (List UInt8)):List (Nat×List UInt8):=rows.mapIdx λi r=>(v.spot i,r)
theorem je(v:bT)(rows:List (List UInt8)):(fT v rows).length=rows.length:=by simp[fT]
theorem uC(v:bT)(rows:List (List UInt8))(i:Nat)(h:i<rows.length):(fT v rows)[i]'(by rw[je];exact h)=(v.spot i,rows[i]):=by simp[fT]
theorem C0(v:bT)(rows:List (List UInt8)):lW (fT v rows)=hJ v rows:=by
 unfold lW fT hJ;apply E6
 · simp
 · intro i a b;simp
theorem vM{v:bT}(h:0<v.size)(i:Nat):v.spot i<2+v.size:=by
 have:=qX (v.head+i) h;unfold bT.spot;omega
theorem xR(e s:Nat)(l:List bK):(eM e s l).dropLast=dp e s l.length l 0:=by unfold eM;simp
theorem yT(e s:Nat)(l:List bK):(eM e s l).getLastD []=(fB e s l).enc.2:=by unfold eM;simp
theorem q7{e s:Nat}{l:List bK}(h:k9 e s l):∀r∈dp e s l.length l 0,r.length=128:=λr a=>Ay h r (by unfold eM;exact List.mem_append_left _ a)
theorem Tx{v:bT}{D:aw}{s:Nat}{k:ak}{ps:List bK}(h:Pw D s k)(r:v.slot=(s:Int))(m:v.broken=0)(p:k9 v.epoch v.next ps)(A:2*ps.length+1<=v.size-v.used)(z:2+v.size<=k.last.length):
  (∃D',y1 (v,D) ps=(0,({v with sure:=true,log:=some ⟨2*ps.length+1,(fB v.epoch v.next ps).enc.2⟩},D'))/\Pw D' s ((k.writes (fT v (dp v.epoch v.next ps.length ps 0))).settle λ_=>true)/\yB s (List.replicate (2*ps.length) 1++[2]) D D')\/
  (D.c8≠-1/\∃D' j,y1 (v,D) ps=(50,({v with broken:=50},D'))/\Dkb D (2*ps.length+1) D' s (k.writes ((fT v (dp v.epoch v.next ps.length ps 0)).take j))):=by
 have o:y1 (v,D) ps=DQ (v,D) (eM v.epoch v.next ps):=by
  unfold y1;dsimp only;rw[aE (by simpa using m),qe p];dsimp only;rw[aE (by simp),gQ,aE (by omega),aE (by omega)]
 obtain⟨L,e⟩:∃L,L=fT v (dp v.epoch v.next ps.length ps 0):=⟨_,rfl⟩;have b:L.length=2*ps.length:=by rw[e,je,cj]
 have c:∀x∈L,x.1<k.last.length/\x.2.length=128:=by
  intro x t;rw[e]at t;obtain⟨i,n,rfl⟩:=List.mem_iff_getElem.1 t;rw[je]at n;rw[uC v _ i n];have:=vM (v:=v) (by omega) i;exact⟨by dsimp only;omega,q7 p _ (fF n)⟩
 have d:DQ (v,D) (eM v.epoch v.next ps)=if(cF (v,D) (lW L)).1≠0 then cF (v,D) (lW L)else
   if(cd (cF (v,D) (lW L)).2).1≠0 then cd (cF (v,D) (lW L)).2 else
   (0,{(cd (cF (v,D) (lW L)).2).2.1 with sure:=true,log:=some ⟨2*ps.length+1,(fB v.epoch v.next ps).enc.2⟩},(cd (cF (v,D) (lW L)).2).2.2):=by
  unfold DQ;dsimp only;rw[xR,yT,gQ,e,C0]
 rw[o,d,<-e];rcases Gi r m L h c with⟨D',g,a,l⟩|⟨u,D',j,y,g,a⟩
 ·
  rw[g];dsimp only;rw[aE (by simp)];rcases vI a r m with⟨f,f1,f2,f3⟩|⟨f0,f,f1,f2⟩
  ·
   left;rw[f1];dsimp only;rw[aE (by simp)];exact⟨f,rfl,f2,by rw[<-b];exact l.trans f3⟩
  ·
   right;rw[f1];dsimp only;rw[lam (by decide)];exact⟨λq=>f0 (l.calm q),f,L.length,rfl,by rw[SP];exact l.rQ h.c8.1 f2 (by rw[j0,b])⟩
 ·
  right;rw[g];dsimp only;rw[lam (by decide)];exact⟨u,D',j,rfl,⟨a.toDk,a.lo,by have:=a.lt;omega,a.len,a.KT⟩⟩
theorem RX{v:bT}{D:aw}{s:Nat}{k:ak}{g:K6}(h:Pw D s k)(n:v.slot=(s:Int))(e:v.broken=0)(l:v.log=some g)(o:0<v.size)(q:v.used+g.cost<=v.size)(j:g.b6.length=128)(p:2+v.size<=k.last.length):
  (∃D',pB (v,D)=(0,({v with used:=v.used+g.cost,next:=v.next+1,sure:=false,log:=none},D'))/\Pw D' s (k.writes [(v.spot (g.cost-1),g.b6)])/\yB s [1] D D')\/
  (D.c8≠-1/\∃D',pB (v,D)=(50,({v with broken:=50},D'))/\Dkb D 1 D' s k):=by
 have b:pB (v,D)=if(aS (v,D) (v.spot (g.cost-1)) g.b6).1≠0 then aS (v,D) (v.spot (g.cost-1)) g.b6 else
   if v.size<v.used+g.cost then(90,(aS (v,D) (v.spot (g.cost-1)) g.b6).2)else
   (0,{v with used:=v.used+g.cost,next:=v.next+1,sure:=false,log:=none},(aS (v,D) (v.spot (g.cost-1)) g.b6).2.2):=by
  unfold pB;dsimp only;rw[aE (by simpa using e),l]
 have m:=vM (v:=v) o (g.cost-1);rcases vJ (a:=v.spot (g.cost-1)) h n e (by omega) j with⟨D',c,d,f⟩|⟨i,D',c,d⟩
 ·
  left;rw[b,c];dsimp only;rw[aE (by simp),aE (by omega)];exact⟨D',rfl,d,f⟩
 ·
  right;rw[b,c];dsimp only;rw[lam (by decide)];exact⟨i,D',rfl,d⟩
theorem RY{v:bT}{D:aw}{s:Nat}{k:ak}(h:Pw D s k)(g:v.slot=(s:Int))(e:v.broken=0)(f:v.sure=false):
  (∃D',qE (v,D)=(0,({v with sure:=true},D'))/\Pw D' s (k.settle λ_=>true)/\yB s [2] D D')\/
  (D.c8≠-1/\∃D',qE (v,D)=(50,({v with broken:=50,sure:=false},D'))/\Dkb D 1 D' s k):=by
 unfold qE;dsimp only;rw[aE (by rw[f];simp)];rcases vI h g e with⟨D',a,b,c⟩|⟨d,D',a,b⟩
 · left;rw[a];exact⟨D',rfl,b,c⟩
 · right;rw[a];exact⟨d,D',rfl,b⟩
theorem Ks{v:bT}{D:aw}(a:v.sure=true):qE (v,D)=(0,(v,D)):=lam a
theorem PO{v:bT}{D:aw}{s:Nat}{k:ak}{e:Nat}(h:Pw D s k)(n:v.slot=(s:Int))(d:v.broken=0)(m:v.sure=true)(l:(bJ.mk e v.next v.head).aX)(i:1<k.last.length):
  (∃D',eO (v,D) e=(0,({v with epoch:=e,tail:=v.head,used:=0,log:=none},D'))/\Pw D' s ((k.writes [(1,(bJ.mk e v.next v.head).enc.2)]).settle λ_=>true)/\yB s [1,2] D D')\/
  (D.c8≠-1/\∃D' L,(L=[]\/L=[(1,(bJ.mk e v.next v.head).enc.2)])/\eO (v,D) e=(50,({v with broken:=50},D'))/\Dkb D 2 D' s (k.writes L)):=by
 have a:eO (v,D) e=if(cK (v,D) ⟨e,v.next,v.head⟩).1≠0 then cK (v,D) ⟨e,v.next,v.head⟩else
   (0,{v with epoch:=e,tail:=v.head,used:=0,log:=none},(cK (v,D) ⟨e,v.next,v.head⟩).2.2):=by
  unfold eO;dsimp only;rw[aE (by simpa using d),aE (by rw[m];simp)]
 rcases HT h n d l i with⟨D',b,c,f⟩|⟨g,D',L,j,b,c⟩
 ·
  left;rw[a,b];dsimp only;rw[aE (by simp)];exact⟨D',rfl,c,f⟩
 ·
  right;rw[a,b];dsimp only;rw[lam (by decide)];exact⟨g,D',L,j,rfl,c⟩
theorem Rc{D:aw}{s:Nat}{k:ak}(h:D.bh[s]?=some ⟨some ⟨k,false,0⟩,none,none⟩)(a:k.failed=false)(kl:List (List Bool)):Pw (D.cut kl) s (k.settle (jI (kl.getD s [])))/\(D.cut kl).c8=-1:=by
 refine⟨⟨?_,rfl,a,by show(-1:Int)<=-1/\(-1:Int)<=9223372036854775807;decide⟩,rfl⟩;unfold aw.cut;dsimp only;rw[List.getElem?_mapIdx,h];rfl
theorem read_pwd{D:aw}{s a:Nat}{k:ak}(h:Pw D s k)(q:a<k.last.length):(∃D',D.read (s:Int) ((a:Nat):Int)=((k.look a,0),D')/\Pw D' s k/\yB s [0] D D')\/∃D',D.read (s:Int) ((a:Nat):Int)=(([],50),D')/\Dkb D 1 D' s k:=by
 unfold aw.read;rcases MP h 0 with⟨p,b,c⟩|⟨b,c,d,e,f,g,i,l⟩
 ·
  right;rw[aE (by rw[b];decide),b,c];exact⟨_,rfl,⟨⟨h.slot,rfl,h.live⟩,by omega,by omega,rfl,λ_ _=>rfl⟩⟩
 ·
  left;have n:k.may (a:Int)=0:=by
   unfold ak.may;rw[aE (by rw[h.live];simp),aE (by omega)]
  have o:k.rd (a:Int)=(k.look a,0):=by unfold ak.rd;rw[lam n,Int.toNat_natCast]
  rw[lam b,c];dsimp only;rw[o,Int.toNat_natCast];refine⟨_,rfl,⟨x7 (by rw[d];exact h.slot),e,h.live,g⟩,⟨?_,?_,?_,?_,l⟩⟩
  · rw[tR,d]
  · intro j m;rw[tS _ m,d]
  · exact i
  · exact f
theorem B5{D:aw}{s a:Nat}{k:ak}(h:Pw D s k)(c:D.c8=-1)(b:a<k.last.length):∃D',D.read (s:Int) ((a:Nat):Int)=((k.look a,0),D')/\Pw D' s k/\yB s [0] D D':=by
 rcases read_pwd h b with g|⟨_,_,g⟩
 · exact g
 · have:=g.lo;omega
theorem Em{s:Nat}{k:ak}:∀(L:List Nat){D:aw}(acc:List UInt8),Pw D s k->D.c8=-1->(∀a∈L,a<k.last.length)->
    ∃D',dL D (s:Int) (L.map λ(a:Nat)=>(a:Int)) acc=((acc++L.flatMap k.look,0),D')/\Pw D' s k/\yB s (List.replicate L.length 0) D D'
  |[],D,acc,h,_,_=>⟨D,by simp[dL],h,yB.refl s D⟩
  |a::r,D,acc,h,e,d=>by
    obtain⟨D1,g,i,c⟩:=B5 (a:=a) h e (d a (.head _));obtain⟨f,f1,f2,f3⟩:=Em r (acc++k.look a) i (c.calm e) (λb j=>d b (.tail _ j));refine⟨f,?_,f2,c.trans f3⟩;rw[BI,dL,g];dsimp only;rw[aE (by simp),f1,Oi,lx]
def qB(k:ak)(n:Nat):List UInt8:=(List.range n).flatMap λp=>k.look (2+p)
theorem PN{D:aw}{s n:Nat}{k:ak}{c:bJ}{f:QT}(h:Pw D s k)(d:D.c8=-1)(y:5<=n/\n<=2048)(x:2+n<=k.last.length)(o:bJ.dec (k.look 1)=(0,c))(p:c.tail<n)(r:eB (qB k n) c=(0,f)):
  ∃D',od D (s:Int) (n:Int)=(((some ⟨(s:Int),c.epoch,n,c.tail.toNat,f.used,f.next,true,none,0⟩,f.Qd),0),D')/\Pw D' s k/\yB s (0::List.replicate n 0) D D':=by
 obtain⟨D1,g,j,b⟩:=B5 (a:=1) h d zO;have l:gI n=((List.range n).map (2+·)).map λ(a:Nat)=>(a:Int):=by unfold gI;rw[FZ];rfl
 obtain⟨e,f1,f2,f3⟩:=Em ((List.range n).map (2+·)) [] j (b.calm d) (λa m=>by
  obtain⟨i,t,rfl⟩:=fG.1 m;have:=HC.1 t;omega)
 rw[<-l,ou,List.flatMap_map]at f1;refine⟨e,?_,f2,by have:=b.trans f3;rwa [ew,KN]at this⟩;have v:sizedB (n:Int)=true:=ky ⟨by omega,by omega⟩;unfold od;rw[aE (by rw[v];simp),Int.toNat_natCast,show D.read (s:Int) 1=((k.look 1,0),D1)from g];dsimp only;rw[aE (by simp),o];dsimp only;rw[aE (by rintro(q|q);exact q rfl;omega),f1];dsimp only;rw[aE (by simp)];have u:(List.range n).flatMap (λa=>k.look (2+a))=qB k n:=rfl;rw[u,r];dsimp only;rw[aE (by simp)];unfold Ea;rw[Int.toNat_natCast]
end Go.Proofs.YtldolcbbmnmjoaaGreat
namespace Go.Proofs.YtldolcbbmnmjoaaGreat
open Go.RowKit Go.Sl
attribute [local irreducible] Own
abbrev qk:=List (List UInt8)
def sf(L:qk):fN:=λi=>(L[2+i]?).getD []
theorem rn{L:qk}{a:Nat}{b:List UInt8}(h:a<L.length)(i:Nat):sf (L.set a b) i=if 2+i=a then b else sf L i:=by
 unfold sf;by_cases q:2+i=a
 · rw[lam q,q,HD h];rfl
 · rw[aE q,vD (λe=>q e.symm)]
theorem lB{L:qk}{a:Nat}{b:List UInt8}(h:∀x∈L,x.length=128)(c:b.length=128):∀x∈L.set a b,x.length=128:=by
 intro x d;rcases List.mem_or_eq_of_mem_set d with q|q
 · exact h x q
 · rw[q];exact c
def Ap(b:List UInt8):Prop:=(bZ.dec b).1≠0
theorem I6(l:List UInt8):Ap (gV l):=(wC zL).2
theorem FR{e s:Nat}{l:List bK}(h:k9 e s l){i:Nat}(c:i<l.length):Ap (gw e s l.length i l[i]):=by
 intro q;have a:=(lu (by rw[z7 h c])).1;have b:=(wx q).1;unfold cX at a b;split at a
 · exact lcs a (by decide)
 ·
  rename_i g;rw[aE g]at b;split at a
  · exact lcs a (by decide)
  ·
   rename_i g1;split at b
   · exact lcs b (by decide)
   ·
    rename_i g2;exact lcs ((Decidable.of_not_not g1).symm.trans (Decidable.of_not_not g2)) (by decide)
theorem Ec{e s:Nat}{l:List bK}(h:k9 e s l):∀r∈dp e s l.length l 0,Ap r:=by
 intro r f;obtain⟨i,c,rfl⟩:=List.mem_iff_getElem.1 f;rw[cj]at c;have d:i/2<l.length:=by omega
 have b:=nH e s l.length l 0 (i/2) d;rw[PA]at b;rcases Nat.mod_two_eq_zero_or_one i with q|q
 ·
  have a:=b.1;rw[show 2* (i/2)=i by omega,fL (by rw[cj];exact c)]at a;injection a with a;rw[a];exact FR h d
 ·
  have a:=b.2;rw[show 2* (i/2)+1=i by omega,fL (by rw[cj];exact c)]at a;injection a with a;rw[a];exact I6 _
structure qt(n e base tl:Nat)(ls:List (List bK))(L:qk):Prop where
  all:∀b∈L,b.length=128
  bnd:5<=n/\n<=2048
  len:2+n<=L.length
  TS:L[1]?=some (bJ.mk e base tl).enc.2
  lO:dJ e base
  SF:tl<n
  uZ:Lays (sf L) n e base tl ls
  Ts:∀i,i<n->∀c,bZ.dec (sf L i)=(0,c)->c.seq<base+ls.length
variable{n e base tl:Nat}{ls:List (List bK)}{L:qk}
theorem qt.aX(h:qt n e base tl ls L):(bJ.mk e base tl).aX:=⟨h.lO,by simp only;omega,by have:=h.bnd;have:=h.SF;simp only;omega⟩
theorem qt.put(h:qt n e base tl ls L){j:Nat}{b:List UInt8}(o:bu ls<=j)(g:j<n)(k:b.length=128)(m:Ap b):qt n e base tl ls (L.set (2+(tl+j)%n) b):=by
 have p:=qX (tl+j) (show 0<n by omega);have l:=h.len;refine⟨lB h.all k,h.bnd,by rw[Ub];exact l,?_,h.lO,h.SF,⟨h.uZ.Rs,h.uZ.cost,?_⟩,?_⟩
 · rw[vD zO];exact h.TS
 ·
  intro i f;rw[rn zO,aE]
  · exact h.uZ.sec i f
  ·
   intro q;have:=vG (a:=tl) (i:=i) (j:=j) (n:=n) zO g zO;omega
 ·
  intro i f c d;rw[rn zO]at d;split at d
  · exact lcs (by rw[d]) m
  · exact h.Ts i f c d
theorem qt.closed(h:qt n e base tl ls L){l:List bK}(f:k9 e (base+ls.length) l)(u:bu ls+(2*l.length+1)<=n)
  (t:∀j,j<2*l.length->(dp e (base+ls.length) l.length l 0)[j]?=some (sf L ((tl+(bu ls+j))%n))):
  qt n e base tl (ls++[l]) (L.set (2+(tl+(bu ls+2*l.length))%n) (fB e (base+ls.length) l).enc.2):=by
 have v:=qX (tl+(bu ls+2*l.length)) (show 0<n by omega);have s:=h.len;have d:bu (ls++[l])=bu ls+(2*l.length+1):=by rw[ny,fQ];rfl
 refine⟨lB h.all (oH f),h.bnd,by rw[Ub];exact s,?_,h.lO,h.SF,⟨?_,by omega,?_⟩,?_⟩
 · rw[vD zO];exact h.TS
 ·
  intro k r;by_cases q:k<ls.length
  · rw[TV q];exact h.uZ.Rs k q
  ·
   have:k=ls.length:=by simp at r;omega
   subst this;simpa using f
 ·
  intro j p;rw[d]at p;rw[nB,rn zO];by_cases q:j<bu ls
  ·
   rw[Ah (by rw[gP];exact q),aE]
   · exact h.uZ.sec j q
   ·
    intro g;have:=vG (a:=tl) (i:=j) (j:=bu ls+2*l.length) (n:=n) zO zO zO;omega
  ·
   rw[Ob (by rw[gP];omega),gP];have m:jq e (base+ls.length) [l]=eM e (base+ls.length) l:=by simp[jq]
   rw[m];by_cases g:j=bu ls+2*l.length
   ·
    subst g;rw[lam rfl,Nat.add_sub_cancel_left,lE]
   ·
    rw[aE]
    ·
     unfold eM;rw[Ah (by rw[cj];omega),t _ zO,show bu ls+(j-bu ls)=j by omega]
    ·
     intro g2;have:=vG (a:=tl) (i:=j) (j:=bu ls+2*l.length) (n:=n) zO zO zO;omega
 ·
  intro i o c b;rw[rn zO]at b;rw[c9,ie];split at b
  ·
   rw[wv f]at b;injection b with _ b;subst b;show base+ls.length<_;omega
  · have:=h.Ts i o c b;omega
theorem qt.check(h:qt n e base tl ls L){e':Nat}(a:dJ e' (base+ls.length)):qt n e' (base+ls.length) ((tl+bu ls)%n) [] (L.set 1 (bJ.mk e' (base+ls.length) (((tl+bu ls)%n:Nat):Int)).enc.2):=by
 have o:=h.bnd;have m:=qX (tl+bu ls) (show 0<n by omega);have l:=h.len;refine⟨lB h.all ?_,h.bnd,by rw[Ub];exact l,by rw[HD zO],a,m,⟨λk g=>lcs g (Nat.not_lt_zero k),c7 _,λj f=>lcs f (Nat.not_lt_zero j)⟩,?_⟩
 ·
  rw[qL ⟨a,by simp only;omega,by simp only;omega⟩];exact fm _ _ _ _ (nu _)
 ·
  intro i d c b;rw[rn zO,aE zO]at b;exact h.Ts i d c b
theorem OB{sec:fN}{room s:Nat}{l:List bK}(h:iv sec room e s=some l):2*l.length<room/\bZ.dec (sec (2*l.length))=(0,fB e s l):=by
 obtain⟨a,b,c⟩:=(Bd _ _ _ _ _).1 h;have d:=c (2*l.length) zO;rw[lE]at d;injection d with d;exact⟨by omega,by rw[<-d];exact wv a⟩
theorem Gv(k:ak)(n:Nat)(a:k.cache=[])(d:∀b∈k.last,b.length=128)(j:2+n<=k.last.length):(qB k n).length=128*n/\∀i,i<n->gJ (qB k n) i=sf k.last i:=by
 have c:∀p∈List.range n,(k.look (2+p)).length=128:=by
  intro p h;have:=HC.1 h;rw[ak.jJ a,fL zO];exact d _ (fF _)
 constructor
 ·
  unfold qB;rw[cW (w:=128) _ c,KN,Aj]
 ·
  intro i f;unfold gJ qB;have:=dW (g:=λp=>k.look (2+p)) (w:=128) (List.range n) i (by rw[KN];exact f) c;rw[Aj,this,List.getElem_range,ak.jJ a];rfl
theorem qt.found{k:ak}(h:qt n e base tl ls k.last)(m:k.cache=[]):eB (qB k n) ⟨e,base,tl⟩=(0,⟨se base ls,base+ls.length,(tl+bu ls)%n,bu ls⟩):=by
  obtain⟨g,d⟩:=Gv k n m h.all h.len;have p:=h.bnd;have a:=h.uZ.cost;have f:=zD ls;have q:∀j,j<bu ls->(jq e base ls)[j]?=some (gJ (qB k n) ((tl+j)%n)):=λj o=>by
    rw[d _ (qX _ zO)];exact h.uZ.sec j o
  have b:ofM (gJ (qB k n)) n e (n+1) base 0 tl=se base ls:=by
    rw[PL h.uZ.Rs a q zO,HQ,mn];cases i:iv (tK (gJ (qB k n)) n (if ls=[]then tl else(tl+bu ls)%n)) (n-bu ls) e (base+ls.length)with
    |none=>rfl
    |some l=>
      exfalso;have c:=(OB i).2;unfold tK at c;rw[d _ (qX _ zO)]at c;have:=h.Ts _ (qX _ zO) _ c;exact lcs this (by show ¬base+ls.length<_;omega)
  rw[FL g p h.lO.1 ⟨h.lO.2.1,h.lO.2.2⟩ h.SF,b,oZ,wA]
theorem qt.look{k:ak}(h:qt n e base tl ls k.last)(a:k.cache=[]):bJ.dec (k.look 1)=(0,⟨e,base,tl⟩):=by
 rw[ak.jJ a,h.TS];exact LC _ h.aX
def KX(P:qk->Prop)(k:ak):Prop:=∀a,P (k.settle a).last
theorem KX.nil{P:qk->Prop}{k:ak}(b:k.cache=[])(h:P k.last):KX P k:=λa=>by unfold ak.settle;rw[b];exact h
theorem KX.snoc{P:qk->Prop}{k:ak}{a:Nat}{b:List UInt8}(h:KX P k)(d:∀L,P L->P (L.set a b)):KX P (k.write a b):=by
 intro c;have e:((k.write a b).settle c).last=ki c k.last 0 (k.cache++[(a,b)]):=rfl;rw[e,AH];split
 · exact d _ (h c)
 · exact h c
theorem KX.writes{P:qk->Prop}:∀(R:List (Nat×List UInt8)){k:ak},KX P k->(∀x∈R,∀L,P L->P (L.set x.1 x.2))->KX P (k.writes R)
  |[],k,h,_=>by rw[iB];exact h
  |x::r,k,h,a=>by
    rw[<-kP];exact KX.writes r (h.snoc (a x (.head _))) (λy b=>a y (.tail _ b))
def full(L:qk)(R:List (Nat×List UInt8)):qk:=R.foldl (λL x=>L.set x.1 x.2) L
theorem AG:∀(R:List (Nat×List UInt8))(L:qk)(i:Nat),ki (λ_=>true) L i R=full L R
 |[],_,_=>rfl
 |x::r,L,i=>by rw[ki,lam rfl,AG r];rfl
theorem fM(k:ak):k.settle (λ_=>true)=⟨full k.last k.cache,[],k.failed⟩:=by
 unfold ak.settle;rw[AG]
theorem jZ(L:qk)(A B:List (Nat×List UInt8)):full L (A++B)=full (full L A) B:=by simp[full]
theorem oP:∀(R:List (Nat×List UInt8))(L:qk),(full L R).length=L.length
 |[],_=>rfl
 |x::r,L=>by show(full (L.set x.1 x.2) r).length=_;rw[oP r,Ub]
theorem lH{α:Type}{motive:List α->Prop}(nil:motive [])(snoc:∀l a,motive l->motive (l++[a]))(l:List α):motive l:=by
 rw[<-List.reverse_reverse l];induction l.reverse with
 |nil=>exact nil
 |cons a l b=>rw[List.reverse_cons];exact snoc _ _ b
theorem qt.laid(h:qt n e base tl ls L):∀(rows:List (List UInt8)),bu ls+rows.length<=n->(∀r∈rows,r.length=128/\Ap r)->
    qt n e base tl ls (full L (rows.mapIdx λi r=>(2+(tl+(bu ls+i))%n,r)))/\∀j,j<rows.length->rows[j]?=some (sf (full L (rows.mapIdx λi r=>(2+(tl+(bu ls+i))%n,r))) ((tl+(bu ls+j))%n)):=by
  intro rows;induction rows using lH with
  |nil=>intro _ _;exact⟨h,λj c=>lcs c (Nat.not_lt_zero j)⟩
  |snoc rows r o=>
    intro l f;rw[c9,ie]at l;obtain⟨i1,i2⟩:=o zO (λx m=>f x (List.mem_append_left _ m));have b:=f r (by simp);have p:=qX (tl+(bu ls+rows.length)) (show 0<n by omega);have d:=i1.len;have k:full L ((rows++[r]).mapIdx λi r=>(2+(tl+(bu ls+i))%n,r))=(full L (rows.mapIdx λi r=>(2+(tl+(bu ls+i))%n,r))).set (2+(tl+(bu ls+rows.length))%n) r:=by
      rw[List.mapIdx_concat,jZ];rfl
    rw[k];refine⟨i1.put zO zO b.1 b.2,λj c=>?_⟩;rw[c9,ie]at c;rw[rn zO];by_cases q:j=rows.length
    · subst q;rw[lam rfl];simp
    · rw[aE,Ah zO]
      · exact i2 j zO
      · intro g
        have:=vG (a:=tl) (i:=bu ls+j) (j:=bu ls+rows.length) (n:=n) zO zO zO
        omega
end Go.Proofs.YtldolcbbmnmjoaaGreat
namespace Go.Proofs.YtldolcbbmnmjoaaGreat
open Go.RowKit Go.Sl
attribute [local irreducible] Own
structure Live(v:bT)(k:ak)(base:Nat)(ls:List (List bK))(m:Nat)(lg:Option (List bK)):Prop where
  MM:v.broken=0
  live:k.failed=false
  used:v.used=bu ls
  next:v.next=base+ls.length
  UF:KX (λL=>qt v.size v.epoch base v.tail (ls.take m) L\/qt v.size v.epoch base v.tail ls L) k
  all:qt v.size v.epoch base v.tail ls (full k.last k.cache)
  Uv:m<=ls.length
  sure:v.sure=true->m=ls.length/\k.cache=[]
  cap:k.cache.length<=1
  MN:lg=none->v.log=none
  RG:∀l,lg=some l->v.sure=true/\v.log=some ⟨2*l.length+1,(fB v.epoch v.next l).enc.2⟩/\k9 v.epoch v.next l/\bu ls+(2*l.length+1)<=v.size/\∀j,j<2*l.length->(dp v.epoch v.next l.length l 0)[j]?=some (sf k.last ((v.tail+(bu ls+j))%v.size))
variable{v:bT}{k:ak}{base m:Nat}{ls:List (List bK)}{lg:Option (List bK)}{D:aw}{s:Nat}
theorem Live.len(h:Live v k base ls m lg):2+v.size<=k.last.length:=by have:=h.all.len;rwa [oP]at this
theorem Live.size(h:Live v k base ls m lg):5<=v.size/\v.size<=2048:=h.all.bnd
theorem Live.rep(h:Live v k base ls m lg)(a:v.sure=true):qt v.size v.epoch base v.tail ls k.last:=by
 have:=h.all;rwa [(h.sure a).2]at this
theorem Live.Nj(h:Live v k base ls m lg):iU v.size v.tail v.used:=⟨h.size.1,h.size.2,h.all.SF,by rw[h.used];exact h.all.uZ.cost⟩
theorem H9(v:bT)(i:Nat):v.spot i=2+(v.tail+(v.used+i))%v.size:=by
 unfold bT.spot bT.head;rw[Nat.mod_add_mod,ux]
theorem JQ(h:v.used=bu ls)(rows:List (List UInt8)):fT v rows=rows.mapIdx λi r=>(2+(v.tail+(bu ls+i))%v.size,r):=by
 unfold fT;congr 1;funext i r;rw[H9,h]
structure fY where
  cy:List (List bK)
  sure:Nat
  j9:Option (List bK)
def fY.jl(x:fY)(kind:Nat)(ps:List bK):fY:=match kind with
  |1=>⟨x.cy,x.cy.length,some ps⟩
  |2=>⟨x.cy++[x.j9.getD []],x.sure,none⟩
  |3=>⟨x.cy,x.cy.length,x.j9⟩
  |4=>⟨[],0,none⟩
  |5=>⟨[],0,none⟩
  |_=>x
abbrev dt(v:bT)(k:ak)(base:Nat)(x:fY):Prop:=Live v k base x.cy x.sure x.j9
theorem MD{x:fY}{ps:List bK}(h:dt v k base x)(c:k9 v.epoch v.next ps)(e:2*ps.length+1<=v.size-v.used):
  dt {v with sure:=true,log:=some ⟨2*ps.length+1,(fB v.epoch v.next ps).enc.2⟩} ((k.writes (fT v (dp v.epoch v.next ps.length ps 0))).settle λ_=>true) base (x.jl 1 ps):=by
 have f:=h.used;have n:=h.all.uZ.cost;obtain⟨a,b⟩:=h.all.laid (dp v.epoch v.next ps.length ps 0) (by rw[cj];omega) (λr e=>⟨q7 c r e,Ec c r e⟩);rw[<-JQ f]at a b;have g:((k.writes (fT v (dp v.epoch v.next ps.length ps 0))).settle λ_=>true)=⟨full (full k.last k.cache) (fT v (dp v.epoch v.next ps.length ps 0)),[],k.failed⟩:=by
  rw[fM];unfold ak.writes;rw[jZ]
 rw[g];refine⟨h.MM,h.live,f,h.next,KX.nil rfl (.inr a),a,eI _,λ_=>⟨rfl,rfl⟩,c7 _,λq=>(by cases q),λl d=>?_⟩;injection d with d;subst d;exact⟨rfl,rfl,c,by show bu x.cy+_<=v.size;omega,λj i=>b j (by rw[cj];exact i)⟩
theorem costL_take(ls:List (List bK))(m:Nat):bu (ls.take m)<=bu ls:=by
 have:=ny (ls.take m) (ls.drop m);rw[QB]at this;omega
theorem JF{x:fY}{l:List bK}(h:dt v k base x)(f:x.j9=some l):
  dt {v with used:=v.used+(2*l.length+1),next:=v.next+1,sure:=false,log:=none} (k.writes [(v.spot (2*l.length),(fB v.epoch v.next l).enc.2)]) base (x.jl 2 []):=by
 obtain⟨c,u,d,p,e⟩:=h.RG l f;obtain⟨t,r⟩:=h.sure c;have i:=h.rep c;have g:=h.next;rw[g]at d e;have a:=i.closed d p e;rw[<-g]at a;have b:v.spot (2*l.length)=2+(v.tail+(bu x.cy+2*l.length))%v.size:=by rw[H9,h.used]
 rw[<-b]at a;have n:x.jl 2 []=⟨x.cy++[l],x.sure,none⟩:=by unfold fY.jl;rw[f];rfl
 have o:k.writes [(v.spot (2*l.length),(fB v.epoch v.next l).enc.2)]=⟨k.last,[(v.spot (2*l.length),(fB v.epoch v.next l).enc.2)],k.failed⟩:=by unfold ak.writes;rw[r];rfl
 rw[o,n];refine⟨h.MM,h.live,?_,?_,?_,a,?_,λq=>(by cases q),eI _,λ_=>rfl,λl q=>by cases q⟩
 ·
  show v.used+_=bu (x.cy++[l]);rw[ny,fQ,h.used];rfl
 ·
  show v.next+1=base+(x.cy++[l]).length;rw[c9,ie];omega
 ·
  intro j;show qt v.size v.epoch base v.tail ((x.cy++[l]).take x.sure) _\/qt v.size v.epoch base v.tail (x.cy++[l]) _;unfold ak.settle ki ki;dsimp only;split
  · exact .inr a
  · left;rw[t,DL rfl];exact i
 ·
  show x.sure<=(x.cy++[l]).length;rw[c9];omega
theorem JG{x:fY}(h:dt v k base x)(c:v.sure=false):dt {v with sure:=true} (k.settle λ_=>true) base (x.jl 3 []):=by
 have a:x.j9=none:=by
  cases b:x.j9 with
  |none=>rfl
  |some l=>have:=(h.RG l b).1;rw[c]at this;cases this
 rw[fM];exact⟨h.MM,h.live,h.used,h.next,KX.nil rfl (.inr h.all),h.all,eI _,λ_=>⟨rfl,rfl⟩,c7 _,h.MN,λl q=>by
  have q:x.j9=some l:=q;rw[a]at q;cases q⟩
theorem F4{x:fY}(h:dt v k base x)(b:v.sure=true):dt v k base (x.jl 3 []):=by
 obtain⟨c,a⟩:=h.sure b;exact⟨h.MM,h.live,h.used,h.next,KX.nil a (.inr (h.rep b)),h.all,eI _,λ_=>⟨rfl,a⟩,h.cap,h.MN,h.RG⟩
theorem Pq(h:v.used=bu ls):v.head=(v.tail+bu ls)%v.size:=by unfold bT.head;rw[h]
theorem F3{x:fY}(h:dt v k base x)(b:v.sure=true){e:Nat}(d:dJ e v.next):
  dt {v with epoch:=e,tail:=v.head,used:=0,log:=none} ((k.writes [(1,(bJ.mk e v.next v.head).enc.2)]).settle λ_=>true) v.next ⟨[],0,none⟩:=by
 obtain⟨g,f⟩:=h.sure b;have a:=(h.rep b).check (e':=e) (by rw[<-h.next];exact d);rw[<-h.next,<-Pq h.used]at a;have c:((k.writes [(1,(bJ.mk e v.next v.head).enc.2)]).settle λ_=>true)=⟨k.last.set 1 (bJ.mk e v.next v.head).enc.2,[],k.failed⟩:=by
  rw[fM];unfold ak.writes;rw[f];rfl
 rw[c];exact⟨h.MM,h.live,rfl,rfl,KX.nil rfl (.inr a),a,eI _,λ_=>⟨rfl,rfl⟩,c7 _,λ_=>rfl,λl q=>by cases q⟩
theorem Live.open{n e c:Nat}(b:qt n e base c ls k.last)(a:k.cache=[])(d:k.failed=false):dt ⟨(s:Int),e,n,c,bu ls,base+ls.length,true,none,0⟩ k base ⟨ls,ls.length,none⟩:=
 ⟨rfl,d,rfl,rfl,KX.nil a (.inr b),by rw[a];exact b,eI _,λ_=>⟨rfl,a⟩,by rw[a];exact c7 _,λ_=>rfl,λl q=>by cases q⟩
theorem Nb{n e g:Nat}(h:Pw D s k)(i:D.c8=-1)(d:qt n e base g ls k.last)(f:k.cache=[]):
  ∃D',od D (s:Int) (n:Int)=(((some ⟨(s:Int),e,n,g,bu ls,base+ls.length,true,none,0⟩,se base ls),0),D')/\Pw D' s k/\yB s (0::List.replicate n 0) D D':=by
 obtain⟨D',a,b,c⟩:=PN h i d.bnd d.len (d.look f) (by have:=d.SF;simp only;omega) (d.found f);refine⟨D',?_,b,c⟩;rw[a];rfl
end Go.Proofs.YtldolcbbmnmjoaaGreat
namespace Go.Proofs.YtldolcbbmnmjoaaGreat
open Go.RowKit Go.Sl
attribute [local irreducible] Own
theorem zT{N:Nat}{z:List UInt8}:∀(R:List (Nat×List UInt8)),(∀x∈R,x.2=z)->full (List.replicate N z) R=List.replicate N z
  |[],_=>rfl
  |x::r,h=>by
    show full ((List.replicate N z).set x.1 x.2) r=_;rw[h x (.head _),List.set_replicate_self];exact zT r (λy a=>h y (.tail _ a))
theorem G0:Ap bC:=(wC (by decide)).2
theorem Ds{D:aw}{s n N epoch:Nat}(K:Pw D s (ak.blank N))(J:5<=n/\n<=2048)(O:2+n<=N)(t:epoch<=4611686018427387904)(z:D.c8=-1):
  ∃D' o,jj D (s:Int) (n:Int) epoch=((some (bA (s:Int) epoch n),0),D')/\Pw D' s o/\dt (bA (s:Int) epoch n) o 1 ⟨[],0,none⟩/\yB s (List.replicate n 1++[1,2]) D D'/\o.last.length=N:=by
 have M:sizedB (n:Int)=true:=ky ⟨by omega,by omega⟩;obtain⟨Z,b⟩:∃Z:List (Nat×List UInt8),Z=(List.range n).map λp=>(2+p,bC):=⟨_,rfl⟩;have g:oh n=lW Z:=by rw[b];unfold oh lW;rw[FZ];rfl
 have h:Z.length=n:=by rw[b];simp
 have m:∀x∈Z,x.2=bC:=by intro x a;rw[b]at a;obtain⟨p,_,rfl⟩:=fG.1 a;rfl
 have f:∀x∈Z,x.1<(ak.blank N).last.length/\x.2.length=128:=by
  intro x a;rw[b]at a;obtain⟨p,L,rfl⟩:=fG.1 a;have:=HC.1 L;refine⟨?_,rfl⟩;show 2+p<(List.replicate N bC).length;rw[j0];omega
 have u:(bJ.mk epoch 1 0).aX:=⟨⟨t,eI _,by show 1<=4611686018427387904;decide⟩,Int.le_refl _,by show(0:Int)<=2047;decide⟩;have F:(ak.blank N).last.length=N:=by show(List.replicate N bC).length=N;rw[j0]
 rcases Gi (v:=bA (s:Int) epoch n) rfl rfl Z K f with⟨D1,B,C,r⟩|⟨d,_⟩
 rotate_left
 · exact lcs z d
 rcases HT (v:=bA (s:Int) epoch n) (c:=⟨epoch,1,0⟩) C rfl rfl u (by show 1<(ak.blank N).last.length;omega)with⟨A,f1,f2,f3⟩|⟨d,_⟩
 rotate_left
 · exact lcs (r.calm z) d
 have E:((((ak.blank N).writes Z).writes [(1,(bJ.mk epoch 1 0).enc.2)]).settle λ_=>true)=⟨(List.replicate N bC).set 1 (bJ.mk epoch 1 0).enc.2,[],false⟩:=by
  rw[fM];show ak.mk (full (List.replicate N bC) (([]++Z)++[(1,(bJ.mk epoch 1 0).enc.2)])) [] false=_;rw[jZ,ou,zT Z m];rfl
 rw[E]at f2;refine⟨A,_,?_,f2,?_,by have:=r.trans f3;rwa [h]at this,by rw[Ub,j0]⟩
 ·
  unfold jj;rw[aE (by rintro(q|q);rw[M]at q;cases q;omega),Int.toNat_natCast,g,B];dsimp only;rw[aE (by simp),f1];dsimp only;rw[aE (by simp)]
 ·
  have I:((List.replicate N bC).set 1 (bJ.mk epoch 1 0).enc.2).length=N:=by rw[Ub,j0]
  have y:qt n epoch 1 0 [] ((List.replicate N bC).set 1 (bJ.mk epoch 1 0).enc.2):=by
   refine⟨lB (λx a=>?_) ?_,J,by omega,by rw[HD (by rw[j0];omega)];rfl,⟨t,by decide,by decide⟩,by omega,⟨λk H=>lcs H (Nat.not_lt_zero k),c7 _,λj G=>lcs G (Nat.not_lt_zero j)⟩,?_⟩
   · rw[Og a];rfl
   · rw[qL u];exact fm _ _ _ _ (nu _)
   ·
    intro i P c e;rw[rn (by rw[j0];omega),aE zO]at e;have:sf (List.replicate N bC) i=bC:=by
     unfold sf;rw[Oe,lam zO];rfl
    rw[this]at e;exact lcs (by rw[e]) G0
  exact⟨rfl,rfl,rfl,rfl,KX.nil rfl (.inr y),y,eI _,λ_=>⟨rfl,rfl⟩,c7 _,λ_=>rfl,λl q=>by cases q⟩
end Go.Proofs.YtldolcbbmnmjoaaGreat
namespace Go.Proofs.YtldolcbbmnmjoaaGreat
open Go.RowKit Go.Sl
attribute [local irreducible] Own
theorem Live.SJ{v:bT}{k:ak}{base:Nat}{x:fY}(h:dt v k base x)(j:v.epoch<=4611686018427387904)(m:v.next<=4611686018427387904)(n:1<=base):v.ok:=by
  refine⟨h.Nj,j,⟨by have:=h.next;omega,by omega⟩,λg f=>?_⟩;cases i:x.j9 with
  |none=>rw[h.MN i]at f;cases f
  |some l=>
    obtain⟨a,b,c,d,e⟩:=h.RG l i;rw[b]at f;injection f with f;subst f;have:=h.size;exact⟨by show 2*l.length+1<=2047;have:=c.n2;omega,by show 1<=2*l.length+1;omega,oH c,m⟩
section
variable{v:bT}{k:ak}{base:Nat}{x:fY}{D:aw}{s:Nat}
end
end Go.Proofs.YtldolcbbmnmjoaaGreat
namespace Go.Proofs.YtldolcbbmnmjoaaGreat
open Go.RowKit Go.Sl
attribute [local irreducible] Own
theorem zR(last:qk)(f:Bool)(a:Nat)(b:a<last.length)(c:List (Nat×List UInt8)):(full last c)[a]?=some ((ak.mk last c f).look a):=by
  induction c using lH with
  |nil=>rw[ak.jJ rfl,fL b];show last[a]?=_;rw[fL b];rfl
  |snoc c x d=>
    have e:ak.mk last (c++[x]) f=(ak.mk last c f).write x.1 x.2:=rfl;rw[jZ,e,ak.xk];show((full last c).set x.1 x.2)[a]?=_;split
    · rename_i q
      subst q
      rw[HD (by rw[oP];exact b)]
    · rename_i q
      rw[vD (λz=>q z.symm)];exact d
end Go.Proofs.YtldolcbbmnmjoaaGreat
namespace Go.Proofs.YtldolcbbmnmjoaaGreat
open Go.RowKit Go.Sl
attribute [local irreducible] Own
section
variable{v:bT}{k:ak}{base:Nat}{x:fY}{D:aw}{s:Nat}
end
end Go.Proofs.YtldolcbbmnmjoaaGreat
namespace Go.Proofs.YtldolcbbmnmjoaaGreat
open Go.RowKit Go.Sl
attribute [local irreducible] Sl.Own
abbrev SD(c:Fa):Int:=IntKind.i64.wrap (IntKind.i64.wrap (c.r+c.w)+c.f)
abbrev Kd:=Nat->Option ak
def ez(K:Kd)(i:Nat)(k:ak):Kd:=λj=>if j=i then some k else K j
theorem eZ(K:Kd)(i:Nat)(k:ak):ez K i k i=some k:=lam rfl
theorem dH(K:Kd){i j:Nat}(k:ak)(h:j≠i):ez K i k j=K j:=aE h
theorem pz{K:Kd}{i:Nat}{k:ak}(h:K i=some k):ez K i k=K:=by
 funext j;unfold ez;split
 · rename_i e;rw[e,h]
 · rfl
structure Bq0(D:aw)(n:Nat)(K:Kd)(c:Nat):Prop where
  len:D.bh.length=n
  is:∀i k,K i=some k->D.bh[i]?=some ⟨some ⟨k,false,0⟩,none,none⟩/\k.failed=false/\k.ok
  cap:D.gE c
  out:∀i,i<n->K i=none->∃k,D.bh[i]?=some ⟨some ⟨k,false,0⟩,none,none⟩/\k.failed=true/\k.ok
structure Bq(D:aw)(n:Nat)(K:Kd)(c:Nat):Prop extends Bq0 D n K c where
  lit:D.rQ=false
  c8:D.c8=-1
variable{D D':aw}{n c c' i a:Nat}{K:Kd}{k k':ak}{js:List Nat}
theorem Bq.mono(h:Bq D n K c)(b:c<=c'):Bq D n K c':=⟨⟨h.len,h.is,h.cap.mono b,h.out⟩,h.lit,h.c8⟩
theorem Bq.pw(h:Bq D n K c)(b:K i=some k):Pw D i k:=⟨(h.is i k b).1,h.lit,(h.is i k b).2.1,by rw[h.c8];decide⟩
theorem Bq.lt(h:Bq D n K c)(b:K i=some k):i<n:=h.len▸(h.pw b).lt
theorem Bq0.at(h:Bq0 D n K c)(m:D'.bh[i]?=some ⟨some ⟨k',false,0⟩,none,none⟩)(p:k'.failed=false)(t:k'.ok)(o:k'.cache.length<=c')(g:c<=c')(r:D'.bh.length=D.bh.length)(f:∀j,j≠i->D'.bh[j]?=D.bh[j]?):Bq0 D' n (ez K i k') c':=by
 refine⟨r.trans h.len,λj u b=>?_,λs l v hv=>?_,λj b d=>?_⟩
 ·
  unfold ez at b;split at b
  · rename_i e;cases b;subst e;exact⟨m,p,t⟩
  · rename_i e;rw[f j e];exact h.is j u b
 ·
  obtain⟨j,b,rfl⟩:=lax l;have e:=fL b;by_cases q:j=i
  ·
   subst q;rw[<-HF (m.symm.trans e)]at hv;rcases hv with hv|hv|hv<;>cases hv
   exact o
  ·
   rw[f j q]at e;exact RB (h.cap _ (lay e) v hv) g
 ·
  unfold ez at d;split at d
  · cases d
  · rename_i e;rw[f j e];exact h.out j b d
theorem Bq.Pa(h:Bq D n K c)(d:Pw D' i k')(g:k'.ok)(e:k'.cache.length<=c')(b:c<=c')(f:yB i js D D'):Bq D' n (ez K i k') c':=⟨h.toBq0.at d.slot d.live g e b f.len f.KT,d.lit,f.calm h.c8⟩
theorem O1(h:D.gE c)(b:D.bh[i]?=some ⟨some ⟨k,false,0⟩,none,none⟩):k.cache.length<=c:=h _ (lay b) ⟨k,false,0⟩ (.inl rfl)
theorem Bq.Rw(h:Bq D n K c)(b:K i=some k):k.cache.length<=c:=O1 h.cap (h.is i k b).1
theorem Bq.read(h:Bq D n K c)(b:K i=some k)(d:a<k.last.length):∃D',D.read (i:Int) ((a:Nat):Int)=((k.look a,0),D')/\Bq D' n K c:=by
 obtain⟨D',e,p,f⟩:=B5 (h.pw b) h.c8 d;refine⟨D',e,?_⟩;have:=h.Pa p (h.is i k b).2.2 (h.Rw b) (eI _) f;rwa [pz b]at this
theorem Bq.write(h:Bq D n K c)(d:K i=some k){b:List UInt8}(j:a<k.last.length)(g:b.length=128):∃D',D.write (i:Int) ((a:Nat):Int) b=(0,D')/\Bq D' n (ez K i (k.write a b)) (c+1):=by
 rcases vJ (v:=⟨i,0,0,0,0,0,true,none,0⟩) (h.pw d) rfl rfl j g with⟨D',e,p,f⟩|⟨q,_⟩
 ·
  refine⟨D',?_,h.Pa p (ak.AV (h.is i k d).2.2 zO g) (by show(k.cache++[_]).length<=_;have:=h.Rw d;rw[c9];simp;omega) (Nat.le_succ c) f⟩;simp only[AM,if_true,Prod.mk.injEq]at e;exact Prod.ext e.1 e.2.2
 · exact lcs h.c8 q
theorem Bq.flush(h:Bq D n K c)(b:K i=some k):∃D',D.flush (i:Int)=(0,D')/\Bq D' n (ez K i (k.settle λ_=>true)) c:=by
 rcases vI (v:=⟨i,0,0,0,0,0,true,none,0⟩) (h.pw b) rfl rfl with⟨D',e,p,f⟩|⟨q,_⟩
 ·
  refine⟨D',?_,h.Pa p (ak.fU (h.is i k b).2.2) (c7 _) (eI _) f⟩;simp only[AL,if_true,Prod.mk.injEq]at e;exact Prod.ext e.1 e.2.2
 · exact lcs h.c8 q
theorem Bq0.cut(h:Bq0 D n K c)(kl:List (List Bool)):Bq (D.cut kl) n (λi=>(K i).map λk=>k.settle (jI (kl.getD i []))) c:=by
  refine⟨⟨by show(D.bh.mapIdx _).length=n;rw[List.length_mapIdx];exact h.len,λi k x=>?_,λs y v hv=>?_,λi r f=>?_⟩,rfl,rfl⟩
  · obtain⟨z,e,rfl⟩:=Option.map_eq_some_iff.1 x
    obtain⟨o,d,p⟩:=h.is i z e
    exact⟨(Rc o d kl).1.slot,d,ak.fU p⟩
  · obtain⟨j,t,rfl⟩:=lax y
    have e:=fL t
    have e:(D.bh.mapIdx λi s=>s.cut (kl.getD i []))[j]?=some _:=e
    rw[List.getElem?_mapIdx]at e
    cases b:D.bh[j]? with
    |none=>rw[b]at e;cases e
    |some s=>
      rw[b]at e
      have e:=HF e
      have q:=h.cap s (lay b)
      rw[<-e]at hv
      unfold gC.cut at hv
      dsimp only at hv
      split at hv
      · rcases hv with hv|hv|hv
        · exact q v (.inr (.inr hv))
        · exact q v (.inr (.inl hv))
        · cases hv
      · rcases hv with hv|hv|hv
        · cases g:s.kx with
          |none=>rw[g]at hv;cases hv
          |some u=>rw[g]at hv;cases hv;exact c7 _
        · exact q v (.inr (.inl hv))
        · cases hv
  · obtain⟨k,e,l,m⟩:=h.out i r (by cases q:K i with|none=>rfl|some k=>rw[q]at f;cases f)
    refine⟨_,?_,show(k.settle (jI (kl.getD i []))).failed=true from l,ak.fU m⟩
    show(D.bh.mapIdx _)[i]?=_
    rw[List.getElem?_mapIdx,e];rfl
theorem Bq.cut(h:Bq D n K c)(kl:List (List Bool)):Bq (D.cut kl) n (λi=>(K i).map λk=>k.settle (jI (kl.getD i []))) c:=h.toBq0.cut kl
def del(K:Kd)(i:Nat):Kd:=λj=>if j=i then none else K j
theorem FC{i:Nat}{s:gC}(h:D.bh[i]?=some s):D.dev (i:Int)=s.kx:=by
 unfold aw.dev;rw[lam zO,show((i:Int)).toNat=i from rfl,h];rfl
theorem Bq.fail(h:Bq D n K c)(g:K i=some k):∃D',D.fail (i:Int)=(0,D')/\Bq D' n (del K i) c:=by
 have r:=h.lt g;obtain⟨d,p,f⟩:=h.is i k g;have e:D.fail (i:Int)=(0,D.j5 i ⟨k.fail,false,0⟩):=by unfold aw.fail;rw[FC d];rfl
 refine⟨_,e,⟨by show(D.bh.set _ _).length=n;rw[Ub];exact h.len,λj o b=>?_,λs m v hv=>?_,λj b l=>?_⟩,h.lit,h.c8⟩
 ·
  unfold del at b;split at b
  · cases b
  ·
   rename_i e;show(D.bh.set i _)[j]?=_/\_;rw[vD (Ne.symm e)];exact h.is j o b
 ·
  rcases List.mem_or_eq_of_mem_set m with q|q
  · exact h.cap s q v hv
  ·
   subst q;dsimp only at hv;rw[d]at hv;rcases hv with hv|hv|hv<;>cases hv
   exact c7 _
 ·
  by_cases e:j=i
  ·
   subst e;refine⟨k.fail,?_,rfl,ak.fU ⟨f.last,f.cache,f.size⟩⟩;show(D.bh.set j _)[j]?=_;rw[HD (by rw[h.len];exact b),d];rfl
  ·
   show ∃k,(D.bh.set i _)[j]?=_/\_;rw[vD (Ne.symm e)];exact h.out j b (by unfold del at l;rwa [aE e]at l)
def Sr(k:ak)(a:Nat)(x:List UInt8):Prop:=k.last[a]?=some x/\∀p∈k.cache,p.1=a->p.2=x
theorem Sr.write{x b:List UInt8}{d:Nat}(h:Sr k a x)(f:d=a->b=x):Sr (k.write d b) a x:=⟨h.1,λp g e=>by
 rcases l0.1 g with q|q
 · exact h.2 p q e
 · rw[ju.1 q]at e⊢;exact f e⟩
theorem H4{b:Nat->Bool}{x:List UInt8}:∀(l:List (Nat×List UInt8))(L:qk)(i:Nat),L[a]?=some x->(∀p∈l,p.1=a->p.2=x)->(ki b L i l)[a]?=some x
  |[],_,_,h,_=>h
  |p::r,L,i,h,d=>by
    unfold ki;refine H4 r _ _ ?_ λq g=>d q (.tail _ g);split
    · by_cases e:p.1=a
      · have f:a<L.length:=(HE.1 h).1
        rw[e,HD f,d p (.head _) e]
      · rw[vD e];exact h
    · exact h
theorem Sr.settle{x:List UInt8}(h:Sr k a x)(b:Nat->Bool):Sr (k.settle b) a x:=⟨H4 _ _ _ h.1 h.2,λp d=>lcs d (by simp[ak.settle])⟩
theorem l9(b:a<k.last.length):(k.settle λ_=>true).look a=k.look a:=by
 rw[fM,ak.jJ rfl,zR k.last k.failed a b];rfl
theorem Sr.vB(b:a<k.last.length):Sr (k.settle λ_=>true) a (k.look a):=by
 refine⟨?_,λp d=>lcs d (by simp[ak.settle])⟩;rw[fM];exact zR k.last k.failed a b k.cache
theorem Sr.look{x:List UInt8}(h:Sr k a x):k.look a=x:=by
 have b:a<k.last.length:=(HE.1 h.1).1;rw[<-l9 b,ak.jJ rfl,(h.settle λ_=>true).1];rfl
theorem lM(k:ak)(a:Nat)(b:List UInt8)(d:Nat):(k.write a b).look d=if d=a then b else k.look d:=ak.xk k a b d
end Go.Proofs.YtldolcbbmnmjoaaGreat
namespace Go.Proofs.YtldolcbbmnmjoaaGreat
open Go.RowKit Go.Sl
attribute [local irreducible] Sl.Own
abbrev yE:Value:=ii (-1)
theorem FU{W:World}{R:List ab}(x n:Nat)(m:1<=n)(r:n<2^32):
    aq W Tryz.prog 89 [.slice (ik x) 1 1,ii n] (Row x 3 [yE]::R) (β:=Nat) (λ_=>True) (λb=>.slice (ik b) n n)
      (λb=>Sl.Own 3 1 (.slice (ik b) n n) n (List.replicate n yE)::Row x 3 [yE]::R):=by
  have one:∀j,∀u∈List.replicate j yE++List.replicate (n-j) (ii 0),u.oneCell'=true:=by
    intro j u d;rcases l0.1 d with h|h
    · rw[Og h];rfl
    · rw[Og h];rfl
  refine ze Tryz.func89 Tryz.ntmps89 ?_;refine VO.re 15 (i8 ((1:Nat):Int)) rfl (by rw[dB zO]) ?_;refine VO.re 17 (i8 n) rfl (by rw[dB zO]) ?_;refine zr (s:=F8 n zO) (h:=?_);intro _ _;refine w ?_;refine VC.aK rfl rfl (by simp;omega) ?_;refine w ?_;refine VO.re 29 (ii n) rfl (by congr 1;exact IntWalk.i64_in _ zO) ?_;refine zq ?_;refine ay.dd st_86 rfl rfl rfl ?_ ?_ rfl ?_
  · omega
  · simp only[maxLen];omega
  intro b;refine w ?_;refine zq ?_;refine ay.copy st_86 rfl rfl zh (λw e=>jW.row (ys:=[]) (xs:=[yE]) (λu d=>by rw[ju.1 d];rfl) rfl e (by simp only[mn];(focus repeat first|exact .head _|apply List.Mem.tail))) rfl ?_;refine w ?_;have i:[yE].take (1*1)++(List.replicate n (Value.int .i64 0)).drop (1*1)=List.replicate 1 yE++List.replicate (n-1) (ii 0):=by
    simp
  have k:min 1 n=1:=by omega
  rw[k]
  refine VC.loop (α:=Nat) (λj=>1<=j/\j<=n) (λj=>Sl.Own 3 1 (.slice (ik b) n n) n (List.replicate j yE++List.replicate (n-j) (ii 0))::Row x 3 [yE]::R)
    (λj=>[(7,.slice (ik b) n n),(8,ii j)]) (λj=>n-j) rfl 1 ⟨eI _,m⟩ ?_ ⟨rfl,rfl,trivial⟩ ?_
  · rw[<-i];exact ae.refl
  · rintro j ⟨p,o⟩
    refine w ?_
    refine zk ?_ ?_<;>intro f
    · have c:j<n:=by simpa using f
      refine w ?_
      refine zx [7] 8 [0,1,2,3,4,5,6,7,8,9] [] ?_
      refine w ?_
      have q:aV W (Sl.Own 3 1 (.slice (ik b) n n) n (List.replicate j yE++List.replicate (n-j) (ii 0))::Row x 3 [yE]::R) 1 (ik b) n (List.replicate j yE++List.replicate (n-j) (ii 0)):=aV.own (one j) zm (by simp;omega) (by simp)
      refine zq ?_;refine ay.Bg st_86 rfl rfl zh (c) (λw e=>(q.take o).Kh e) rfl ?_
      refine w ?_
      have l:(List.replicate j yE++List.replicate (n-j) (Value.int .i64 0)).take (j*1)++((List.replicate j yE++List.replicate (n-j) (Value.int .i64 0)).take (j*1)).take (min j (n-j)*1)++(List.replicate j yE++List.replicate (n-j) (Value.int .i64 0)).drop (j*1+min j (n-j)*1)
          =List.replicate (j+min j (n-j)) yE++List.replicate (n-(j+min j (n-j))) (Value.int .i64 0):=by
        simp only[Nat.mul_one];have g:(List.replicate j yE++List.replicate (n-j) (Value.int .i64 0)).take j=List.replicate j yE:=by
          rw[Tj (by simp),qy (by simp)]
        rw[g];have a2:(List.replicate j yE).take (min j (n-j))=List.replicate (min j (n-j)) yE:=by simp[List.take_replicate]
        have a3:(List.replicate j yE++List.replicate (n-j) (Value.int .i64 0)).drop (j+min j (n-j))=List.replicate (n-(j+min j (n-j))) (Value.int .i64 0):=by
          rw[List.drop_append];simp[List.drop_replicate];omega
        rw[a2,a3,List.replicate_append_replicate]
      rw[l]
      refine VE.round (j+min j (n-j)) ⟨by omega,by omega⟩ zO ⟨rfl,b7 rfl (by simp),trivial⟩ ae.refl
    · have a:j=n:=by have:¬j<n:=by simpa using f
                     omega
      subst a
      refine w ?_
      refine VE.done b rfl trivial rfl ?_
      simp only[E7,List.replicate_zero,mn]
      exact ae.refl
structure eA where
  b:Nat
  m:Nat
  c:Nat
  s:Nat
  w:Option Addr
  lazy:Bool
  fa:Nat
  wo:Option Addr
  wc:Nat
  wl:List aj
  sl:Bool
structure eA.ok(X:eA):Prop where
  m:3<=X.m/\X.m<=16
  c:1<=X.c/\X.c<=16
  s:1<=X.s/\X.s<=256
abbrev eA.cells(X:eA):List Value:=[ip X.b,ii X.m,ii X.c,ii X.s,.pointer X.w,.bool X.lazy,.slice (ik X.fa) X.m X.m,.slice X.wo X.wl.length X.wc,.bool X.sl]
abbrev j8(l:List Int):List Value:=l.map λn=>ii n
abbrev de(r:Nat)(X:eA)(fr:List Int)(R:List ab):List ab:=Row r 128 X.cells::Sl.Own 3 1 (.slice (ik X.fa) X.m X.m) X.m (j8 fr)::R
theorem DF(l:List Int):∀u∈j8 l,u.oneCell'=true:=by
 intro u a;obtain⟨n,_,rfl⟩:=fG.1 a;rfl
theorem HZ{W:World}{R:List ab}{D:aw}(b:Nat){m c s:Nat}(g:3<=m/\m<=16)(f:1<=c/\c<=16)(i:1<=s/\s<=256)(d:D.bh.length=m+1)(wp:Option Addr)(lazy:Bool):
  aq W Tryz.prog 54 [ip b,.agg (cv m c s).toArray,.pointer wp,.bool lazy] (al b D::R) (β:=Nat×Nat) (λ_=>True) (λy=>.tuple #[ip y.1,i6 0])
   (λy=>de y.1 ⟨b,m,c,s,wp,lazy,y.2,none,0,[],false⟩ (List.replicate m (-1)) (al b D::R)):=by
 refine ze Tryz.func54 Tryz.ntmps54 ?_;refine zj λ_=>?_;refine zt (s:=jH ⟨m,c,s⟩) (h:=?_);intro _ _;rw[lam ⟨⟨by dsimp only;omega,by dsimp only;omega⟩,⟨by dsimp only;omega,by dsimp only;omega⟩,by dsimp only;omega,by dsimp only;omega⟩];refine w ?_;refine zx [1] 5 [0,2,3,4,1,5] _ ?_;refine zr (s:=fK b D) (h:=?_);intro _ _;rw[d];refine w ?_;refine VC.aK rfl rfl (by simp) ?_;refine w ?_;refine zx [4,7] 8 [0,1,2,3,5,6,4,7,8,9,10,11] _ ?_;refine w ?_;refine zq ?_;refine ay.bP st_86 rfl rfl (by simp[Value.oneCell']) (by decide) rfl ?_;intro nb;refine⟨ae.re,?_⟩;refine zr (s:=FU nb m zO zO) (h:=?_);intro a _;refine⟨ae.re,?_⟩;refine VD.end rfl rfl rfl (ay.pure (af.build sb_128 rfl (show aC _ _ _=some (eA.cells ⟨b,m,c,s,wp,lazy,a,none,0,[],false⟩)by simp[aC,bR,Value.cells])) rfl ?_);refine w ?_;refine zj λ_=>?_;refine w ?_;rename_i r;have e:List.replicate m yE=j8 (List.replicate m (-1)):=by simp[j8]
 rw[e];exact VE.done (r,a) rfl trivial rfl ae.re
theorem xQ{W:World}{R:List ab}(r:Nat)(X:eA)(k:Int):az W Tryz.prog 157 [ip r,ii k] (Row r 128 X.cells::R) (.bool (decide (0<=k/\k<X.m))) (Row r 128 X.cells::R):=by
 refine ze Tryz.func157 Tryz.ntmps157 ?_;refine zg ?_ ?_<;>intro a
 ·
  have q:=cI a;refine w ?_;exact VE.ax rfl (by congr 1;rw[cN];omega) ae.refl
 ·
  have q:=dx a;refine w ?_;exact VE.ax rfl (by congr 1;symm;apply gx;omega) ae.refl
theorem l8{W:World}{R:List ab}(k:Int)(e:Nat):az W Tryz.prog 160 [ii k,i6 e] R (.agg #[ii (if e=0 then 0 else k),i6 e]) R:=by
 refine ze Tryz.func160 Tryz.ntmps160 ?_;refine zq ?_;refine ay.aB sb_172 rfl ?_;intro b;refine w ?_;refine zk ?_ ?_<;>intro a
 ·
  have q:(e:Int)=0:=by simpa using a
  obtain rfl:e=0:=by omega
  refine w ?_;apply VO.pure rfl rfl;apply af.build sb_172 (pv:=[]) rfl;rfl;rfl;refine zS ([ii 0,i6 0]) ?_;exact VE.results1 (.inl rfl) () rfl (aL.agg (vs:=[ii 0,i6 0]) ah rfl rfl zm rfl rfl) trivial rfl (ae.drop ae.refl)
 ·
  have q:¬e=0:=by have:=a;simp at this;omega
  refine w ?_;apply VO.pure rfl rfl;apply af.build sb_172 rfl;simp[aC,bR,Value.cells];rfl;rfl;refine zS ([ii k,i6 e]) ?_;exact VE.results1 (.inl rfl) () rfl (aL.agg (vs:=[ii k,i6 e]) ah rfl rfl zm rfl rfl) trivial (by rw[aE q]) (ae.drop ae.refl)
theorem M7{W:World}{R:List ab}(r:Nat)(X:eA)(fr:List Int)(b:fr.length=X.m)(k:Nat)(c:k<X.m)(row:Int):
  az W Tryz.prog 195 [ip r,ii k,ii row] (de r X fr R) (.bool (decide (fr[k]'(b▸c)≠-1/\fr[k]'(b▸c)<=row))) (de r X fr R):=by
 have a:k<fr.length:=b▸c;have hr1:aV W (de r X fr R) 1 (ik X.fa) X.m (j8 fr):=aV.own (DF _) zm (by simp[b]) (by simp);refine aq.enter Tryz.func195 Tryz.ntmps195 rfl rfl ?_;refine zt (s:=xQ r X k) (h:=?_);intro _ _;refine w ?_;refine VO.gT rfl rfl rfl (ky ⟨by omega,by omega⟩) ?_;refine w ?_;refine VO.pure rfl rfl (af.rZ ah rfl rfl hr1 (by rw[law,fL a];rfl)) rfl ?_;refine w ?_;refine zg ?_ ?_<;>intro d
 ·
  have q:¬fr[k]=-1:=by have:=d;simp at this;exact this
  refine w ?_;refine VO.pure rfl rfl (af.rZ ah rfl rfl hr1 (by rw[law,fL a];rfl)) rfl ?_;refine w ?_;exact VE.ax rfl (by congr 1;rw[cN];exact⟨λh=>⟨q,h⟩,λh=>h.2⟩) ae.refl
 ·
  have q:fr[k]=-1:=by have:=d;simp at this;exact this
  refine w ?_;exact VE.ax rfl (by congr 1;symm;apply gx;exact λh=>h.1 q) ae.refl
theorem Nk{W:World}{R:List ab}(r:Nat)(X:eA)(fr:List Int)(b:fr.length=X.m)(k:Nat)(c:k<X.m)(down:Bool)(z:Int)(e:0<=z):
  az W Tryz.prog 93 [ip r,ii k,.bool down,ii z] (de r X fr R) (.tuple #[]) (de r X (fr.set k (if down then z else-1)) R):=by
 have d:k<fr.length:=b▸c;have a:∀(fr:List Int)(z:Int),(j8 fr).set k (ii z)=j8 (fr.set k z):=λfr z=>by unfold j8;rw[List.map_set]
 refine aq.enter Tryz.func93 Tryz.ntmps93 rfl rfl ?_;refine zt (s:=xQ r X k) (h:=?_);intro _ _;rw[ky (show 0<=(k:Int)/\(k:Int)<X.m by omega)];refine zw ?_;refine ay.EJ ah rfl rfl rfl rfl zh (by simp;omega) ?_;rw[a];refine w ?_;cases down
 ·
  refine w ?_;exact VE.b9 rfl rfl ae.re
 ·
  refine zw ?_;refine ay.EJ ah rfl rfl rfl rfl zh (by simp;omega) ?_;rw[a,List.set_set,show max 0 z=z by omega];refine w ?_;exact VE.b9 rfl rfl ae.re
def sH(k row:Int)(p:aj):Bool:=decide (p.av=k/\p.row=row)
theorem Ka{W:World}{R:List ab}(a b:Nat)(k row:Int)(p:aj):az W Tryz.prog 286 [.agg p.cells.toArray,ip a,ip b] (Row a 3 [ii k]::Row b 3 [ii row]::R) (.bool (sH k row p)) (Row a 3 [ii k]::Row b 3 [ii row]::R):=by
 refine ze Tryz.func286 Tryz.ntmps286 ?_;refine zj λ_=>?_;refine w ?_;have e:sH k row p=((p.av==k)&&(p.row==row)):=by unfold sH;rw[Bool.eq_iff_iff];simp
 rw[e];cases h:(p.av==k)
 ·
  refine w ?_;exact VE.ax rfl rfl (ae.drop ae.refl)
 ·
  refine w ?_;exact VE.ax rfl rfl (ae.drop ae.refl)
def BB(f:aj->Bool)(l:List aj):Int:=(l.findIdx? f).elim (-1) λi=>(i:Int)
theorem HV{W:World}{R:List ab}{g:FuncId}{cp:Array Value}{ao:Option Addr}{cap:Nat}{l:List aj}(f:aj->Bool)(k:∀a w,(callFunc g a).run Tryz.prog w= .ok (.enter g a) w)(o:aV W R 3 ao l.length (bg l))(v:l.length<=1000000)
  (r:∀p∈l,az W Tryz.prog g (.agg p.cells.toArray::cp.toList) R (.bool (f p)) R):az W Tryz.prog 285 [.slice ao l.length cap,.func (.func g) #[] cp] R (ii (BB f l)) R:=by
 refine ze Tryz.func285 Tryz.ntmps285 ?_
 refine VC.loop (α:=Nat) (λi=>i<=l.length/\∀j (h:j<l.length),j<i->f l[j]=false) (λ_=>R)
  (λi=>[(0,.slice ao l.length cap),(1,.func (.func g) #[] cp),(7,ii l.length),(8,ii i)]) (λi=>l.length-i) rfl 0 ⟨c7 _,λj _ h=>lcs h (Nat.not_lt_zero j)⟩ ae.refl ⟨rfl,rfl,rfl,rfl,trivial⟩ ?_
 rintro i ⟨u,c⟩;refine w ?_;refine zk ?_ ?_<;>intro n
 ·
  have b:i<l.length:=by have:=cI n;omega
  obtain⟨y,rfl⟩:∃x,ao=some x:=by cases ao with|none=>(have:=o.nil rfl;omega)|some x=>exact⟨x,rfl⟩
  refine w ?_;refine VO.pure rfl rfl (af.gY ah rfl rfl o (ke l i b) rfl) rfl ?_;refine zw ?_;refine ay.call rfl rfl k (r _ (fF b)) ae.refl rfl ?_;intro _ _;cases h:f l[i]
  ·
   refine w ?_;refine VE.round (i+1) ⟨b,λj d t=>?_⟩ zO ⟨rfl,rfl,rfl,b7 rfl (by congr 1),trivial⟩ ae.refl;rcases w9 j i with q|q
   · exact c j d q
   ·
    obtain rfl:j=i:=by omega
    exact h
  ·
   refine w ?_;refine VE.ax rfl ?_ ae.refl;have e:l.findIdx? f=some i:=by rw[List.findIdx?_eq_some_iff_getElem];exact⟨b,h,λj d=>by rw[c j zO d];simp⟩
   unfold BB;rw[e];rfl
 ·
  have m:i=l.length:=by have:=dx n;omega
  subst m;refine w ?_;refine VE.ax rfl ?_ ae.refl;have e:l.findIdx? f=none:=by rw[List.findIdx?_eq_none_iff];intro x s;obtain⟨j,d,rfl⟩:=lax s;exact c j d d
  unfold BB;rw[e];rfl
def cq(l:List aj)(k row:Int):Option (List UInt8):=(l.find? (sH k row)).map λp=>p.d.data
theorem xU{W:World}{R:List ab}(r:Nat)(X:eA)(k row:Int)(q:bq W R X.wo X.wl)(c:∀p∈X.wl,p.d.data.length=128)(A:X.wl.length<=1000000):
    aq W Tryz.prog 242 [ip r,ii k,ii row] (Row r 128 X.cells::R) (β:=Option Addr×Nat) (λ_=>True) (λy=>.tuple #[.slice y.1 ((cq X.wl k row).getD []).length y.2,.bool (cq X.wl k row).isSome]) (λy=>b8 y ((cq X.wl k row).getD [])::Row r 128 X.cells::R):=by
  refine ze Tryz.func242 Tryz.ntmps242 ?_;refine zj λ_=>?_;refine w ?_;refine zj λ_=>?_;refine w ?_;rename_i g l;refine VO.pure rfl rfl (af.bB rfl) rfl ?_;refine w ?_;have t:=HV (W:=W) (R:=Row g 3 [ii k]::Row l 3 [ii row]::Row r 128 X.cells::R) (cap:=X.wc) (cp:=#[ip g,ip l]) (sH k row) (λ_ _=>by simp) (q.gz.aR (ae.drop (ae.drop (ae.drop ae.refl)))) A (λp _=>Ka g l k row p);refine zr (s:=t) (h:=?_);intro _ _;refine w ?_;cases e:X.wl.findIdx? (sH k row)with
  |none=>
    have m:X.wl.find? (sH k row)=none:=by
      rw[List.findIdx?_eq_none_iff]at e;rw[Tm];intro x t;rw[e x t];simp
    have n:BB (sH k row) X.wl=-1:=by unfold BB;rw[e];rfl
    have o:cq X.wl k row=none:=by unfold cq;rw[m];rfl
    rw[n,o];refine w ?_;exact VE.done (none,0) rfl trivial rfl (ae.trans (λw h=>Holds.aZ 5 1 h) (ae.re (L:=Sl.Own 5 1 (.slice none 0 0) 0 []::Row r 128 X.cells::R)))
  |some i=>
    obtain⟨a,u,v⟩:=List.findIdx?_eq_some_iff_getElem.1 e;have m:X.wl.find? (sH k row)=some X.wl[i]:=List.find?_eq_some_iff_getElem.2 ⟨u,i,a,rfl,λj z=>by simpa using v j z⟩;have n:BB (sH k row) X.wl=i:=by unfold BB;rw[e];rfl
    have o:cq X.wl k row=some X.wl[i].d.data:=by unfold cq;rw[m];rfl
    have C:=c _ (fF a);have b:=q.gz;rw[n,o];refine VC.aK rfl rfl (gx zO) ?_;refine w ?_;obtain⟨B,f⟩:∃x,X.wo=some x:=by cases h:X.wo with|none=>(have:=b.nil h;omega)|some x=>exact⟨x,rfl⟩
    rw[f]at b;refine VO.re 20 (.slice (some B) X.wl.length X.wc) rfl (by rw[f]) ?_;refine w ?_;refine VO.pure rfl rfl (af.fH ah rfl rfl (b.aR (ae.drop (ae.drop (ae.drop ae.refl)))) (si X.wl i 2 a (by decide))) rfl ?_;refine zt (s:=gg ((q.each _ (fF a)).aR (ae.drop (ae.drop (ae.drop ae.refl)))) zO) (h:=?_);intro y _;refine w ?_;exact VE.done y rfl trivial rfl ae.re
def iO(l:List Pl):List Value:=l.flatMap λp=>[ii p.1,ii p.2]
theorem pF(l:List Pl):(iO l).length=l.length*2:=by
 induction l with
 |nil=>rfl
 |cons p r a=>unfold iO at*;rw[Oi,c9,a,tc];simp only[tc,List.length_nil];omega
theorem mS(p:Pl)(l:List Pl):iO (p::l)=ii p.1::ii p.2::iO l:=by unfold iO;rw[Oi];rfl
theorem uS(l r:List Pl):iO (l++r)=iO l++iO r:=by unfold iO;rw[E5]
theorem yt(l:List Pl):∀u∈iO l,u.oneCell'=true:=by
 intro u a;obtain⟨p,_,h⟩:=Ai.1 a;simp only[List.mem_cons,TW,or_false]at h;rcases h with rfl|rfl<;>rfl
theorem AQ(l:List Pl)(i:Nat):(iO l).drop (i*2)=iO (l.drop i):=by
  induction i generalizing l with
  |zero=>simp
  |succ i a=>
    cases l with
    |nil=>simp[iO]
    |cons p r=>
      rw[mS,show(i+1)*2=i*2+1+1 by omega,List.drop_succ_cons,List.drop_succ_cons,a,List.drop_succ_cons]
theorem ud(l:List Pl)(i:Nat):(iO l).take (i*2)=iO (l.take i):=by
  induction i generalizing l with
  |zero=>simp[iO]
  |succ i a=>
    cases l with
    |nil=>simp[iO]
    |cons p r=>
      rw[mS,show(i+1)*2=i*2+1+1 by omega,pS,pS,a,pS,mS]
theorem pG{l:List Pl}{i:Nat}(h:i<l.length):((iO l).drop (i*2)).take 2=[ii (pl l i).1,ii (pl l i).2]:=by
 rw[AQ,vE h,mS,Ef h];rfl
theorem EY{l:List Pl}{i:Nat}(h:i<l.length):(iO l)[i*2]?=some (ii (pl l i).1):=by
 have:=JB (·[0]?) (pG h);simpa[Oc,Od]using this
theorem sC{l:List Pl}{i:Nat}(h:i<l.length):(iO l)[i*2+1]?=some (ii (pl l i).2):=by
 have:=JB (·[1]?) (pG h);simpa[Oc,Od]using this
theorem EZ{l:List Pl}{i:Nat}{p:Pl}(h:i<l.length):(iO l).take (i*2)++[ii p.1,ii p.2]++(iO l).drop (i*2+2)=iO (l.set i p):=by
 rw[show i*2+2=(i+1)*2 by omega,ud,AQ,List.set_eq_take_append_cons_drop,lam h,uS,mS,lx];rfl
abbrev Fg(ao:Option Addr)(cap:Nat)(l:List Pl):ab:=Sl.Own 287 2 (.slice ao l.length cap) l.length (iO l)
theorem AS{W:World}{H:List ab}{ao:Option Addr}{n cap:Nat}:az W Tryz.prog 405 [.slice ao n cap] H (ii n) H:=by
 refine ze Tryz.func405 Tryz.ntmps405 ?_;refine VE.ax rfl ?_ ?_
 · rfl
 · exact ae.refl
theorem GS{W:World}{H:List ab}{a:Addr}{cap i j:Nat}{l:List Pl}(b:aV W H 2 (some a) l.length (iO l))(f:i<l.length)(g:j<l.length):
  az W Tryz.prog 406 [.slice (some a) l.length cap,ii i,ii j] H (.bool (decide (mK (pl l i) (pl l j)))) H:=by
 refine ze Tryz.func406 Tryz.ntmps406 ?_;refine zx [] 34 [0,1,2,3,4,5,6,7,8,9,10,11,12,13,14,15,16,17,18,19,20,21,22,23,24,25,26,27,28,29,30,31,32,33,34,35,36,37] _ ?_;refine w ?_;refine VD.take rfl rfl rfl (af.fH ah rfl rfl b (sC f)) rfl ?_;refine w ?_;refine VD.take rfl rfl rfl (af.fH ah rfl rfl b (sC g)) rfl ?_;refine w ?_;have k:mK (pl l i) (pl l j)↔(pl l i).2<(pl l j).2\/((pl l i).2=(pl l j).2/\(pl l i).1<(pl l j).1):=Iff.rfl;refine zg ?_ ?_<;>intro c
 ·
  have d:=cI c;rw[ky (k.2 (.inl d))];refine w ?_;refine VE.ax rfl ?_ ?_
  · rfl
  · exact ae.refl
 ·
  have d:=dx c;refine w ?_;refine VD.take rfl rfl rfl (af.fH ah rfl rfl b (sC f)) rfl ?_;refine w ?_;refine VD.take rfl rfl rfl (af.fH ah rfl rfl b (sC g)) rfl ?_;refine w ?_;refine zg ?_ ?_<;>intro c
  ·
   have e:=cI c;refine w ?_;refine VD.take rfl rfl rfl (af.fH ah rfl rfl b (EY f)) rfl ?_;refine w ?_;refine VD.take rfl rfl rfl (af.fH ah rfl rfl b (EY g)) rfl ?_;refine w ?_;refine VE.ax rfl ?_ ?_
   ·
    refine JB Value.bool ?_;rw[cN,k];constructor
    · intro h;exact .inr ⟨e,h⟩
    ·
     rintro(h|h)
     · exact lcs h d
     · exact h.2
   · exact ae.refl
  ·
   have e:=dx c;rw[gx (λh=>(k.1 h).elim d λh=>e h.1)];refine w ?_;refine VE.ax rfl ?_ ?_
   · rfl
   · exact ae.refl
def Mz(A:ab)(R:List ab):Nat->List ab
  |0=>A::R
  |_+1=>R
theorem tj{W:World}(A:ab)(R:List ab):∀k,ae W (Mz A R k) (Mz A R (k+1))
 |0=>λw a=>a.tail
 |_+1=>ae.refl
theorem GV{W:World}{R:List ab}{a:Addr}{cap i j:Nat}{l:List Pl}(c:i<l.length)(d:j<l.length):
  az W Tryz.prog 407 [.slice (some a) l.length cap,ii i,ii j] (Fg (some a) cap l::R) (.tuple #[]) (Fg (some a) cap (swp l i j)::R):=by
 (refine aq.enter Tryz.func407 Tryz.ntmps407 rfl rfl ?_);have e:aV W (Fg (some a) cap l::R) 2 (some a) l.length (iO l):=aV.own (yt l) (.head _) (pF l) (λh=>by cases h);have k:=pF l;have g:∀p:Pl,∀u∈[Value.int .i64 p.1,Value.int .i64 p.2],u.oneCell'=true:=λp u f=>by
  simp only[List.mem_cons,TW,or_false]at f;rcases f with rfl|rfl<;>rfl
 refine w ?_;refine VC.Bm (Mz (Fg (some a) cap l) R) [13,15] [(13,1),(15,1)] [(7,0),(11,0)] 1 [0,1,2,3,4,5,6,7,8,9,10,11,12,13,14,15] rfl (by kernel_rfl) (by kernel_rfl) ae.refl (tj _ _) ?_;iterate 7 (apply VL.take rfl rfl rfl 1 rfl;exact zp;rfl)
 apply VL.take rfl rfl rfl 0 rfl
 · exact af.gY ah rfl rfl e (pG d) rfl
 · rfl
 iterate 3 (apply VL.take rfl rfl rfl 1 rfl;exact zp;rfl)
 apply VL.take rfl rfl rfl 0 rfl
 · exact af.gY ah rfl rfl e (pG c) rfl
 · rfl
 apply VL.take rfl rfl rfl 1 rfl;exact zp;rfl;refine VL.yC rfl rfl rfl 1 rfl ?_;refine ay.P7 (vs:=[ii (pl l j).1,ii (pl l j).2]) ah rfl rfl rfl rfl (g _) .head zO ?_;rw[EZ c];refine⟨(show ae W _ R from λw b=>b.tail),?_⟩;apply VL.take rfl rfl rfl 1 rfl;exact zp;rfl;refine VL.yC rfl rfl rfl 1 rfl ?_;refine ay.P7 (vs:=[ii (pl l i).1,ii (pl l i).2]) ah rfl rfl rfl rfl (g _) .head (by rw[pF,Ub];omega) ?_;rw[EZ (by rw[Ub];exact d)];refine⟨(show ae W _ R from λw b=>b.tail),?_⟩;refine VL.nil ?_;refine w ?_;refine VE.b9 rfl ?_ ?_
 · rfl
 ·
  rw[Fg,fV];exact ae.refl
theorem Ul{W:World}{P:Program}{n:Nat}{H:List ab}{f:Fr}{dst:Option Tmp}{ty_:TypeId}{pos:String}{after:Array Edge}{guard:Option (Nat×Bool)}{x y:Operand}{s u:TypeId}{k:IntKind}{a b v:Int}(g:aD f x=some (.int k a))(h:aD f y=some (.int k b))(d:b≠0)(e:k.wrap (a.tdiv b)=v):
  af W P n H f {dst,op:= .binOp .quo s x y u,type:=ty_,pos,after,guard} (.int k v):=
 by
  unfold af;intro i w c _;simp[execOp,c.eval g,c.eval h,eqGuard,binOp,Op.intDiv,d,e]
theorem Pf{i:Nat}(h:i<1000000):IntKind.i64.wrap (Int.tdiv ((i:Int)-1) 2)=(((i-1)/2:Nat):Int):=by
 have e:Int.tdiv ((i:Int)-1) 2=(((i-1)/2:Nat):Int):=by
  rcases Nat.eq_zero_or_pos i with rfl|hp
  · decide
  · rw[show(i:Int)-1=((i-1:Nat):Int)by omega,show(2:Int)=((2:Nat):Int)by rfl,<-Int.ofNat_tdiv]
 rw[e];exact IntWalk.i64_in _ ⟨by omega,by omega⟩
abbrev Gk(b off:Nat):Value:= .pointer (some ⟨b,off,none⟩)
abbrev hW(b off:Nat):Value:= .iface 293 (Gk b off)
abbrev Uk(p:Pl):Value:= .agg #[ii p.1,ii p.2]
abbrev PS(p:Pl):Value:= .iface 287 (Uk p)
theorem JJ(a:Addr)(w:World):(callMethod (.iface 293 (.pointer (some a))) "Len" #[]).run Tryz.prog w=(Sem.bind (load a) λv=>.pure (.enter 405 #[v])).run Tryz.prog w:=by kernel_rfl
theorem F6(a:Addr)(w:World)(x y:Value):(callMethod (.iface 293 (.pointer (some a))) "Less" #[x,y]).run Tryz.prog w=(Sem.bind (load a) λv=>.pure (.enter 406 #[v,x,y])).run Tryz.prog w:=by kernel_rfl
theorem F7(a:Addr)(w:World)(x y:Value):(callMethod (.iface 293 (.pointer (some a))) "Swap" #[x,y]).run Tryz.prog w=(Sem.bind (load a) λv=>.pure (.enter 407 #[v,x,y])).run Tryz.prog w:=by kernel_rfl
theorem MG{b off:Nat}{w:World}:(callMethod (hW b off) "Pop" #[]).run Tryz.prog w= .ok (.enter 408 #[Gk b off]) w:=by kernel_rfl
theorem JK{b off:Nat}{w:World}{x:Value}:(callMethod (hW b off) "Push" #[x]).run Tryz.prog w= .ok (.enter 409 #[Gk b off,x]) w:=by kernel_rfl
theorem DW{b off:Nat}{w:World}{v:Value}(h:w.cell? ⟨b,off,none⟩=some v):(callMethod (hW b off) "Len" #[]).run Tryz.prog w= .ok (.enter 405 #[v]) w:=by
 rw[JJ];simp[Sem.run_bind',load,Sem.run,h]
theorem tn{b off:Nat}{w:World}{v x y:Value}(h:w.cell? ⟨b,off,none⟩=some v):(callMethod (hW b off) "Less" #[x,y]).run Tryz.prog w= .ok (.enter 406 #[v,x,y]) w:=by
 rw[F6];simp[Sem.run_bind',load,Sem.run,h]
theorem tp{b off:Nat}{w:World}{v x y:Value}(h:w.cell? ⟨b,off,none⟩=some v):(callMethod (hW b off) "Swap" #[x,y]).run Tryz.prog w= .ok (.enter 407 #[v,x,y]) w:=by
 rw[F7];simp[Sem.run_bind',load,Sem.run,h]
abbrev fp(ao:Option Addr)(cap n:Nat)(l:List Pl):ab:=Sl.Own 287 2 (.slice ao n cap) n (iO l)
theorem My{W:World}{H:List ab}{a:Addr}{cap n i j:Nat}{l:List Pl}(d:l.length=n)(e:fp (some a) cap n l∈H)(b:i<n)(c:j<n):
  az W Tryz.prog 406 [.slice (some a) n cap,ii i,ii j] H (.bool (decide (mK (pl l i) (pl l j)))) H:=by
 subst d;exact GS (aV.own (yt l) e (pF l) (λh=>by cases h)) b c
theorem NM{W:World}{R:List ab}{a:Addr}{cap n i j:Nat}{l:List Pl}(d:l.length=n)(b:i<n)(c:j<n):
  az W Tryz.prog 407 [.slice (some a) n cap,ii i,ii j] (fp (some a) cap n l::R) (.tuple #[]) (fp (some a) cap n (swp l i j)::R):=by
 subst d;have h:=GV (W:=W) (R:=R) (a:=a) (cap:=cap) b c;rw[Fg,Fg,fV]at h;exact h
theorem N6{W:World}{R:List ab}{b off T cap n j:Nat}{cs:List Value}{a:Addr}{l:List Pl}(d:cs[off]?=some (.slice (some a) n cap))(u:l.length=n)(f:qu l j)(v:n<=1000000):
  aq W Tryz.prog 268 [hW b off,ii j] (Row b T cs::fp (some a) cap n l::R) (β:=List Pl) (λo=>List.Perm o l/\j7 o n) (λ_=>.tuple #[]) (λo=>Row b T cs::fp (some a) cap n o::R):=by
 refine ze Tryz.func268 Tryz.ntmps268 ?_;refine VC.loop (α:=List Pl×Nat) (λy=>List.Perm y.1 l/\qu y.1 y.2) (λy=>Row b T cs::fp (some a) cap n y.1::R) (λy=>[(0,hW b off),(1,ii y.2)]) (λy=>y.2) rfl (l,j) ⟨.refl _,f⟩ ae.refl zB ?_;rintro⟨m,i⟩ ⟨g,k⟩;dsimp only at g k⊢;have c:m.length=n:=g.length_eq.trans u;have q:=k.at_;rw[c]at q;refine w ?_;refine VO.pure rfl rfl (Ul rfl rfl (by decide) (Pf zO)) rfl ?_;refine w ?_;refine zg ?_ ?_<;>intro s
 ·
  have p:i=0:=by have:=eq_of_beq s;omega
  refine w ?_;refine VE.qv m rfl ⟨g,?_⟩ rfl ae.refl;have:=k.done (.inl p);rwa [c]at this
 ·
  have p:0<i:=by
   rcases Nat.eq_zero_or_pos i with rfl|h
   · exact lcs s (by decide)
   · exact h
  refine zw ?_;refine ay.invoke rfl rfl (λw r=>tn (r.cell (.head _) d)) (My c (.tail _ (.head _)) q zO) ae.refl rfl ?_;intro _ _;refine w ?_;refine zk ?_ ?_<;>intro t
  ·
   have e:¬mK (pl m i) (pl m ((i-1)/2)):=by simpa using t
   refine w ?_;refine VE.qv m rfl ⟨g,?_⟩ rfl ae.refl;have:=k.done (.inr e);rwa [c]at this
  ·
   have e:mK (pl m i) (pl m ((i-1)/2)):=by simpa using t
   refine zw ?_;refine ay.invoke rfl rfl (λw r=>tp (r.cell (.head _) d)) (NM c (i:=(i-1)/2) (j:=i) zO q) ae.re rfl ?_;intro _ _;refine w ?_;exact VE.round (swp m ((i-1)/2) i,(i-1)/2) ⟨(yk zO zO).trans g,k.step p e⟩ (by dsimp only;omega) zB ae.re
theorem GR{W:World}{R:List ab}{b off T cap N n:Nat}{cs:List Value}{a:Addr}{l:List Pl}(e:cs[off]?=some (.slice (some a) N cap))(G:l.length=N)(g:jR l 0 n)(O:N<=1000000):
  aq W Tryz.prog 308 [hW b off,ii 0,ii n] (Row b T cs::fp (some a) cap N l::R) (β:=List Pl×Bool) (λy=>List.Perm y.1 l/\j7 y.1 n/\∀k,n<=k->pl y.1 k=pl l k) (λy=>.bool y.2) (λy=>Row b T cs::fp (some a) cap N y.1::R):=by
 have D:=g.mx;rw[G]at D;refine ze Tryz.func308 Tryz.ntmps308 ?_;refine VC.loop (α:=List Pl×Nat) (λy=>List.Perm y.1 l/\jR y.1 y.2 n/\(∀k,n<=k->pl y.1 k=pl l k)/\(y.2=0\/y.2<n)) (λy=>Row b T cs::fp (some a) cap N y.1::R) (λy=>[(0,hW b off),(1,ii 0),(2,ii n),(7,ii y.2)]) (λy=>n-y.2) rfl (l,0) ⟨.refl _,g,λ_ _=>rfl,.inl rfl⟩ ae.refl zB ?_;rintro⟨m,i⟩ ⟨u,A,f,J⟩;dsimp only at u A f J⊢;have o:m.length=N:=u.length_eq.trans G;have K:(i:Int)<=1000000:=by omega
 refine w ?_;refine zg ?_ ?_<;>intro r
 ·
  have I:n<=2*i+1:=by have:=cI r;omega
  refine w ?_;refine VE.done (m,decide ((0:Int)<i)) rfl ⟨u,A.done (λc q h p=>lcs h zO),f⟩ rfl ae.refl
 ·
  have L:2*i+1<n:=by have:=dx r;omega
  refine w ?_;refine VO.join (α:=Nat) (λc=>c<n/\0<c/\(c-1)/2=i/\∀x,0<x->x<n->(x-1)/2=i->¬mK (pl m x) (pl m c)) (λ_=>Row b T cs::fp (some a) cap N m::R) (λc=>[(0,hW b off),(1,ii 0),(2,ii n),(7,ii i),(9,ii c)]) ?_ ?_
  ·
   intro M E;refine VO.re 10 (ii ((2*i+2:Nat):Int)) rfl (by congr 1) ?_;refine VO.re 9 (ii ((2*i+1:Nat):Int)) rfl (by congr 1) ?_;refine VO.re 8 (ii ((2*i+1:Nat):Int)) rfl (by congr 1) ?_;refine zg ?_ ?_<;>intro r
   ·
    have H:2*i+2<n:=by have:=cI r;omega
    refine zw ?_;refine ay.invoke rfl rfl (λw z=>tn (z.cell (.head _) e)) (My o (.tail _ (.head _)) (i:=2*i+2) (j:=2*i+1) zO zO) ae.refl rfl ?_;intro _ _;refine w ?_;refine zk ?_ ?_<;>intro h
    ·
     have d:mK (pl m (2*i+2)) (pl m (2*i+1)):=by simpa using h
     refine w ?_;have v:∀x,0<x->x<n->(x-1)/2=i->¬mK (pl m x) (pl m (2*i+2)):=λx q p f=>by
      obtain rfl|rfl:x=2*i+1\/x=2*i+2:=by omega
      · exact qb d
      · exact nJ _
     refine E.to (2*i+2) ⟨by omega,by omega,by omega,v⟩ zB ?_;(try dsimp only);exact ae.re
    ·
     have d:¬mK (pl m (2*i+2)) (pl m (2*i+1)):=by simpa using h
     refine w ?_;have v:∀x,0<x->x<n->(x-1)/2=i->¬mK (pl m x) (pl m (2*i+1)):=λx q p f=>by
      obtain rfl|rfl:x=2*i+1\/x=2*i+2:=by omega
      · exact nJ _
      · exact d
     refine E.to (2*i+1) ⟨by omega,by omega,by omega,v⟩ zB ?_;(try dsimp only);exact ae.re
   ·
    have F:n<=2*i+2:=by have:=dx r;omega
    refine w ?_;have v:∀x,0<x->x<n->(x-1)/2=i->¬mK (pl m x) (pl m (2*i+1)):=λx q p f=>by
     obtain rfl:x=2*i+1:=by omega
     exact nJ _
    refine E.to (2*i+1) ⟨by omega,by omega,by omega,v⟩ zB ?_;(try dsimp only);exact ae.re
  ·
   rintro c ⟨s,B,C,t⟩;refine zw ?_;refine ay.invoke rfl rfl (λw z=>tn (z.cell (.head _) e)) (My o (.tail _ (.head _)) (i:=c) (j:=i) zO zO) ae.refl rfl ?_;intro _ _;refine w ?_;refine zk ?_ ?_<;>intro h
   ·
    have d:¬mK (pl m c) (pl m i):=by simpa using h
    refine w ?_;refine VE.done (m,decide ((0:Int)<i)) rfl ⟨u,A.done (λx q p f=>nG d (t x q p f)),f⟩ rfl ae.refl
   ·
    have d:mK (pl m c) (pl m i):=by simpa using h
    refine zw ?_;refine ay.invoke rfl rfl (λw z=>tp (z.cell (.head _) e)) (NM o (i:=i) (j:=c) zO zO) ae.re rfl ?_;intro _ _;refine w ?_;refine VE.round (swp m i c,c) ⟨(yk zO zO).trans u,A.step s B C t d,λx p=>?_,.inr s⟩ (by dsimp only;omega) zB ae.re;rw[kg zO zO,aE zO,aE zO];exact f x p
theorem vK(p:Pl):∀u∈[Value.int .i64 p.1,Value.int .i64 p.2],u.oneCell'=true:=λu a=>by
 simp only[List.mem_cons,TW,or_false]at a;rcases a with rfl|rfl<;>rfl
theorem JR(p:Pl):iO [p]=[ii p.1,ii p.2]:=by unfold iO;rw[Oi,List.flatMap_nil,mn]
theorem GU{W:World}{R:List ab}{b off T cap n:Nat}{cs:List Value}{ao:Option Addr}{l:List Pl}{p:Pl}(a:cs[off]?=some (.slice ao n cap))(m:l.length=n)(o:n<=1000000):
  aq W Tryz.prog 409 [Gk b off,PS p] (Row b T cs::fp ao cap n l::R) (β:=Addr×Nat) (λ_=>True) (λ_=>.tuple #[]) (λy=>Row b T (cs.set off (.slice (some y.1) (n+1) y.2))::fp (some y.1) y.2 (n+1) (l++[p])::R):=by
 have d:off<cs.length:=(HE.1 a).1;refine ze Tryz.func409 Tryz.ntmps409 ?_;refine zx [6,7] 8 [0,1,2,3,4,5,6,7,8,9] (Row b T cs::R) ?_;refine w ?_;refine VD.take rfl rfl rfl (af.ld ah rfl rfl (.head _) a) rfl ?_;refine w ?_;obtain⟨g,c⟩:∃g,Tryz.prog.underlying 287=some (.struct g):=⟨_,rfl⟩;refine VD.take rfl rfl rfl (af.uh c (λms h=>by cases h) rfl) rfl ?_;refine zq ?_;refine ay.buildSlice (cs:=[ii p.1,ii p.2]) st_282 rfl rfl (by simp[Value.cells]) (by simp[Value.cells]) (by decide) rfl ?_;intro q;refine⟨ae.re,?_⟩;refine zq ?_;refine ay.cg st_282 rfl rfl zh zm rfl (vK p) (by simp only[maxLen];omega) zO rfl ?_;intro f k;refine⟨ae.re,?_⟩;refine w ?_;refine VD.bH (p:=f=none->n+1=0) (λw i=>Holds.bn i zm) ?_;intro e;obtain⟨j,rfl⟩:∃x,f=some x:=by cases f with|none=>have:=e rfl;omega|some x=>exact⟨x,rfl⟩
 refine zq ?_;refine ay.st ah rfl rfl rfl rfl zh d ?_;refine w ?_;refine VE.qv (j,k) rfl trivial rfl ?_;dsimp only;unfold fp;rw[uS,JR];exact ae.re
theorem KE{W:World}{R:List ab}{b off T cap n:Nat}{cs:List Value}{a:Addr}{l:List Pl}{p:Pl}(c:cs[off]?=some (.slice (some a) (n+1) cap))(j:l.length=n+1)(o:n<=1000000):
  az W Tryz.prog 408 [Gk b off] (Row b T cs::fp (some a) cap (n+1) l::R) (PS (pl l n)) (Row b T (cs.set off (.slice (some a) n cap))::fp (some a) cap n (l.take n)::R):=by
 have f:off<cs.length:=(HE.1 c).1;refine aq.enter Tryz.func408 Tryz.ntmps408 rfl rfl ?_;refine VC.bH (p:=n+1<=cap) (λw d=>Holds.jd d (.tail _ (.head _))) ?_;intro i;refine w ?_;refine zx [10] 11 [0,1,2,3,4,5,6,7,8,9,10,11] _ ?_;refine w ?_;have m:aV W (Row b T cs::fp (some a) cap (n+1) l::R) 2 (some a) (n+1) (iO l):=aV.own (yt l) (.tail _ (.head _)) (by rw[pF,j]) (λh=>by cases h);refine VD.take rfl rfl rfl (af.ld ah rfl rfl (.head _) c) rfl ?_;refine w ?_;refine VD.take rfl rfl rfl (af.ld ah rfl rfl (.head _) c) rfl ?_;refine w ?_;refine VD.re 11 (ii (n:Int)) rfl (by congr 1;omega) ?_;refine w ?_;refine VD.take rfl rfl rfl (af.gY ah rfl rfl m (pG zO) rfl) rfl ?_;refine zw ?_;refine ay.aB Sk rfl ?_;intro q;refine⟨ae.re,?_⟩;refine zl ([ii (pl l n).1,ii (pl l n).2]) (vK _) ?_;refine zx [] 10 [0,1,2,3,4,5,6,7,8,9,10,11] (Row b T cs::R) ?_;refine w ?_;refine VD.take rfl rfl rfl (af.ld ah rfl rfl (.head _) c) rfl ?_;refine w ?_;refine VD.take rfl rfl rfl (af.ld ah rfl rfl (.head _) c) rfl ?_;refine w ?_;refine VD.re 22 (ii (n:Int)) rfl (by congr 1;omega) ?_;refine zw ?_;refine ay.st ah rfl rfl rfl rfl zh f ?_;obtain⟨g,e⟩:∃g,Tryz.prog.underlying 287=some (.struct g):=⟨_,rfl⟩;refine w ?_;refine VO.pure rfl rfl (af.kV e (λms h=>by cases h) rfl) rfl ?_;refine w ?_;refine VE.ax rfl ?_ ?_
 · rfl
 ·
  refine ae.trans (ae.re (L:=fp (some a) cap (n+1) l::Row b T (cs.set off (.slice (some a) n cap))::R)) λw d=>?_;have:=d.xD (k:=n) zO;rw[ud]at this;exact(d.xD (k:=n) zO|>λh=>by rw[ud]at h;exact h.swap)
theorem uv{W:World}{R:List ab}{b off T cap n:Nat}{cs:List Value}{ao:Option Addr}{l:List Pl}{p:Pl}(d:cs[off]?=some (.slice ao n cap))(f:l.length=n)(r:n<=900000)(o:j7 l n):
  aq W Tryz.prog 192 [hW b off,PS p] (Row b T cs::fp ao cap n l::R) (β:=(Addr×Nat)×List Pl) (λy=>List.Perm y.2 (p::l)/\j7 y.2 (n+1)) (λ_=>.tuple #[])
   (λy=>Row b T (cs.set off (.slice (some y.1.1) (n+1) y.1.2))::fp (some y.1.1) y.1.2 (n+1) y.2::R):=by
 have g:off<cs.length:=(HE.1 d).1;have e:∀v:Value,(cs.set off v)[off]?=some v:=λv=>by rw[HD g]
 refine ze Tryz.func192 Tryz.ntmps192 ?_;refine zq ?_;refine ay.invoke rfl rfl (λw i=>JK) (GU (R:=R) (p:=p) d f zO) ae.refl rfl ?_;rintro⟨a,c⟩ _;dsimp only;refine zw ?_;refine ay.invoke rfl rfl (λw i=>DW (i.cell (.head _) (e _))) AS ae.refl rfl ?_;intro _ _;refine w ?_;refine VO.re 10 (ii (n:Int)) rfl (by congr 1;omega) ?_;refine zt (s:=N6 (R:=R) (e _) (l:=l++[p]) (n:=n+1) (j:=n) (by rw[c9,f];rfl) (by have:=qu.start (l:=l) (by rw[f];exact o) p;rwa [f]at this) zO) (h:=?_);rintro q ⟨k,m⟩;refine w ?_;refine VE.qv ((a,c),q) rfl ⟨k.trans (List.perm_append_comm (l₂:=[p])),m⟩ rfl ae.refl
theorem FT{W:World}{R:List ab}{b off T cap n:Nat}{cs:List Value}{a:Addr}{l:List Pl}(c:cs[off]?=some (.slice (some a) (n+1) cap))(o:l.length=n+1)(x:n<=900000)(u:j7 l (n+1)):
  aq W Tryz.prog 269 [hW b off] (Row b T cs::fp (some a) cap (n+1) l::R) (β:=List Pl) (λg=>List.Perm (pl l 0::g) l/\j7 g n/\g.length=n) (λ_=>PS (pl l 0))
   (λg=>Row b T (cs.set off (.slice (some a) n cap))::fp (some a) cap n g::R):=by
 refine ze Tryz.func269 Tryz.ntmps269 ?_;refine zq ?_;refine ay.invoke rfl rfl (λw k=>DW (k.cell (.head _) c)) AS ae.refl rfl ?_;intro _ _;refine w ?_;refine VO.re 3 (ii (n:Int)) rfl (by congr 1;omega) ?_;refine VO.re 8 (ii (n:Int)) rfl (by congr 1;omega) ?_;refine zq ?_;refine ay.invoke rfl rfl (λw k=>tp (k.cell (.head _) c)) (NM (R:=Row b T cs::R) o (i:=0) (j:=n) zO zO) ae.re rfl ?_;intro _ _;refine zr (s:=GR (R:=R) (T:=T) (cs:=cs) c (l:=swp l 0 n) (n:=n) (by rw[fV];exact o) (jR.start u zO) zO) (h:=?_);rintro⟨e,v⟩ ⟨m,r,t⟩;dsimp only at m r t⊢;have f:e.length=n+1:=by rw[m.length_eq,fV];exact o
 have d:pl e n=pl l 0:=by rw[t n (eI _),kg zO zO,lam rfl]
 have q:e=e.take n++[pl l 0]:=by
  rw[<-d,Ef zO];exact(by rw[List.take_append_getElem,<-f,SP])
 refine zw ?_;refine ay.invoke rfl rfl (λw k=>MG) (KE (R:=R) (p:=(0,0)) c f zO) ae.re rfl ?_;intro _ _;rw[d];refine w ?_;refine VE.done (e.take n) rfl ⟨?_,?_,?_⟩ rfl ae.refl
 ·
  have:=(List.perm_append_comm (l₁:=[pl l 0]) (l₂:=e.take n));rw[<-q]at this;exact this.trans (m.trans (yk zO zO))
 ·
  have:=r.take zO;rwa [j1,Nat.min_eq_left zO]at this
 · rw[j1];omega
theorem im(l:List aj)(p:aj):bg (l++[p])=bg l++p.cells:=by unfold bg;rw[E5];simp
abbrev aj.place(p:aj):Pl:=(p.av,p.row)
def aj.kv(p:aj):Pl×Value:=(p.place,p.d.ei)
structure aj.In(p:aj):Prop where
  m:0<=p.av/\p.av<=15
  r:0<=p.row/\p.row<=4095
  n:p.d.data.length=128
theorem TY:jB Tryz.prog 287 Pl fw il:=jB.pair (by kernel_rfl) (by kernel_rfl)
theorem Pg:Tryz.prog.underlying 280=some (.map 287 38):=by kernel_rfl
structure qq where
  m:Nat
  ao:Option Addr
  ac:Nat
  bo:Option Addr
  bc:Nat
  A:List Pl
  B:List Pl
structure vS(r:Int)(ps:List aj)(x:qq):Prop where
  ok:dS r (ps.map aj.place) x.A x.B
  all:∀p∈ps,p.In
  row:0<=r/\r<=4095
abbrev xh(r:Int)(x:qq):List Value:=[ii r,.map (some x.m),.slice x.ao x.A.length x.ac,.slice x.bo x.B.length x.bc]
abbrev oc(b:Nat)(r:Int)(ps:List aj)(x:qq)(R:List ab):List ab:=
  Row b 284 (xh r x)::db fw il x.m (ps.map aj.kv)::fp x.ao x.ac x.A.length x.A::fp x.bo x.bc x.B.length x.B::bX ps::R
def dT(b:Nat)(r:Int)(ps:List aj):ab:=ex λx:{x//vS r ps x}=>Sl.star (oc b r ps x.1 [])
theorem dT.open{W w:World}{b:Nat}{r:Int}{ps:List aj}{R:List ab}(h:Holds W (dT b r ps::R) w):∃x:{x//vS r ps x},Holds W (oc b r ps x.1 R) w:=by
 obtain⟨x,h⟩:=h.gW;exact⟨x,h.join⟩
theorem dT.shut{W:World}{b:Nat}{r:Int}{ps:List aj}{R:List ab}{x:qq}(g:vS r ps x):ae W (oc b r ps x R) (dT b r ps::R):=λw a=>Holds.dU ⟨x,g⟩ (Holds.nest (L:=oc b r ps x []) a)
theorem xi{W:World}{R:List ab}{r:Int}(f:0<=r/\r<=4095):
  aq W Tryz.prog 127 [ii r] R (β:=Nat) (λ_=>True) (λb=>.tuple #[ip b,i6 0]) (λb=>dT b r []::R):=by
 refine ze Tryz.func127 Tryz.ntmps127 ?_;refine VO.gF rfl rfl rfl (gx zO) ?_;refine w ?_;refine VC.aK rfl rfl (gx zO) ?_;refine zw ?_;refine ay.lA fw il rfl ?_;intro m;refine w ?_;apply VO.pure rfl rfl;apply af.build sb_284 rfl;simp[aC,bR,Value.cells];rfl;rfl;refine zq ?_;refine ay.box rfl rfl rfl ?_;intro b;refine w ?_;refine VE.done b rfl trivial rfl ?_;intro w g;refine dT.shut (x:=⟨m,none,0,none,0,[],[]⟩) ⟨dS.nil r,λp h=>(by cases h),f⟩ w ?_;have a:=di (res:=aj.res) g;have c:=Holds.aZ 287 2 a;have d:=Holds.aZ 287 2 c;have e:ae W (fp none 0 0 []::fp none 0 0 []::bX []::Row b 284 (xh r ⟨m,none,0,none,0,[],[]⟩)::db fw il m []::R) (oc b r [] ⟨m,none,0,none,0,[],[]⟩ R):=ae.re;exact e w d
theorem JE{W:World}{R:List ab}{b:Nat}:az W Tryz.prog 190 [ip b] R (Gk b 2) R:=by
 refine ze Tryz.func190 Tryz.ntmps190 ?_;refine VE.ax rfl ?_ ?_
 · rfl
 · exact ae.refl
theorem DM{W:World}{R:List ab}{b:Nat}:az W Tryz.prog 191 [ip b] R (Gk b 3) R:=by
 refine ze Tryz.func191 Tryz.ntmps191 ?_;refine VE.ax rfl ?_ ?_
 · rfl
 · exact ae.refl
def qn(ps:List aj)(q:aj):List aj:=ps.filter (λx=>x.place≠q.place)++[q]
theorem xH{p:aj}(h:p.In):il p.place:=by
 have a:=h.m;have b:=h.r;constructor<;>simp[Lit.wf,IntKind.min,IntKind.max,IntKind.signed,IntKind.bits]<;>omega
theorem Ag(ps:List aj)(k:Pl):qN (ps.map aj.kv) k=(ps.filter λx=>x.place≠k).map aj.kv:=by
 unfold qN;rw[List.filter_map];rfl
theorem Rx(ps:List aj)(q:aj):iw (ps.map aj.kv) q.place q.d.ei=(qn ps q).map aj.kv:=by
 unfold iw qn;rw[jv,<-Ag];rfl
theorem Pz{ps:List aj}{k:Pl}(h:k∉ps.map aj.place):getD (ps.map aj.kv) k=none:=getD_none λx b=>by
 obtain⟨q,a,rfl⟩:=fG.1 b;intro e;exact h (e▸List.mem_map_of_mem a)
theorem HB{ps:List aj}{q:aj}(a:(ps.map aj.place).Nodup)(h:q∈ps):getD (ps.map aj.kv) q.place=some q.d.ei:=getD_some (by rw[FZ];exact a) (List.mem_map_of_mem (f:=aj.kv) h)
theorem tA(ps:List aj)(q:aj):(qn ps q).map aj.place=((ps.map aj.place).filter λx=>x≠q.place)++[q.place]:=by
 unfold qn;rw[jv,List.filter_map];rfl
theorem R7{ps:List aj}{q:aj}(h:∀p∈ps,p.In)(b:q.In):∀p∈qn ps q,p.In:=by
 intro p a;rcases l0.1 a with h1|h1
 · exact h p (KO.1 h1).1
 · rw[ju]at h1;subst h1;exact b
theorem AR{r:Int}{ps:List aj}{x:qq}(g:vS r ps x):x.A.length<=ps.length/\x.B.length<=ps.length:=by
 have c:=g.ok.ahead.length_eq;have d:=g.ok.below.length_eq;have a:=uy (λx:Pl=>decide (r<=x.2)) (ps.map aj.place);have b:=uy (λx:Pl=>decide (x.2<r)) (ps.map aj.place);rw[ew]at a b;omega
theorem pZ{W w:World}{α:Type}{res:α->ab}{a:α}{l:List α}{R:List ab}(h:Holds W (res a::cG res l::R) w):Holds W (cG res (a::l)::R) w:=by
 have b:=(h.swap).join;refine Holds.nest (L:=(a::l).map res) ?_;exact b.perm xb
theorem Av{W w:World}{α:Type}{res:α->ab}{a:α}{l:List α}{R:List ab}(h:Holds W (cG res (a::l)::R) w):Holds W (res a::cG res l::R) w:=j4 (i:=0) (by simp) h
theorem tw{W:World}{α:Type}{res:α->ab}(f:α->Bool):∀(l:List α)(R:List ab),ae W (cG res l::R) (cG res (l.filter f)::R)
  |[],R=>ae.refl
  |a::l,R=>λw c=>by
    have b:=tw f l (res a::R) w (Av c).swap;by_cases q:f a=true
    · rw[List.filter_cons_of_pos q];exact pZ b.swap
    · rw[List.filter_cons_of_neg q];exact b.swap.tail
theorem Hg:jB Tryz.prog 4 Bool CX (λ_=>True):=jB.bool (by kernel_rfl)
theorem Ih:Tryz.prog.underlying 291=some (.map 4 289):=by kernel_rfl
theorem xj{W:World}{R:List ab}{b:Nat}{r:Int}{ps:List aj}{p:aj}(f:p.In)(F:aV W R 1 p.d.ao p.d.data.length (bytes p.d.data))(O:ps.length<=800000):
  aq W Tryz.prog 129 [ip b,.agg p.cells.toArray] (dT b r ps::R) (β:=Option Addr×Nat) (λ_=>True) (λ_=>i6 0) (λy=>dT b r (qn ps ⟨p.av,p.row,⟨y.1,y.2,p.d.data⟩⟩)::R):=by
 have S:=f.m;have U:=f.r;have N:=f.n;have c:=xH f;refine rC (λw G=>dT.open G) λ⟨x,g⟩=>?_;have P:=AR g;obtain⟨H,u⟩:∃H,Tryz.prog.underlying 287=some (.struct H):=⟨_,rfl⟩;obtain⟨I,i⟩:∃I,Tryz.prog.underlying 293=some (.pointer I):=⟨_,rfl⟩;refine ze Tryz.func129 Tryz.ntmps129 ?_;refine zj λ_=>?_;refine w ?_;rename_i B;refine VO.gF rfl rfl rfl (gx zO) ?_;refine w ?_;refine VO.gF rfl rfl rfl (gx zO) ?_;refine w ?_;refine VO.gF rfl rfl rfl (gx zO) ?_;refine w ?_;refine VC.aK rfl rfl (gx zO) ?_;refine w ?_;refine VC.aK rfl rfl (by simp[N]) ?_;refine w ?_;apply VO.pure rfl rfl;apply af.build Sk rfl;simp[aC,bR,Value.cells];rfl;rfl;refine zq ?_;refine ay.aB Sk rfl ?_;intro n5;refine zl ([ii p.av,ii p.row]) (vK p.place) ?_;refine VC.aR (H':=Row n5 287 [ii p.av,ii p.row]::Row B 207 p.cells::oc b r ps x R) ae.re ?_;refine zx [] 10 [0,1,2,3,4,5,6,7,8,9,10] _ ?_;refine w ?_;refine VD.take rfl rfl rfl (af.DR (k:=p.place) (z:= .slice none 0 0) Pg TY c (λw=>by simp) rfl rfl zm) rfl ?_;refine w ?_;refine VC.join (α:=qq) (λy=>y.m=x.m/\dS r ((ps.map aj.place).filter (λz=>z≠p.place)++[p.place]) y.A y.B) (λy=>Row n5 287 [ii p.av,ii p.row]::Row B 207 p.cells::oc b r ps y R) (λ_=>[(0,ip b),(3,ip B),(5,ip n5)]) ?_ ?_
 ·
  intro Q C;by_cases t:p.place∈ps.map aj.place
  ·
   have o:(getD (ps.map aj.kv) p.place).isSome=true:=by
    obtain⟨q,E,M⟩:=fG.1 t;rw[<-M,HB g.ok.one E];rfl
   refine VC.aK rfl rfl (by rw[o];rfl) ?_;refine w ?_;refine C.to x ⟨rfl,g.ok.CE t⟩ zB ?_;(try dsimp only);exact ae.re
  ·
   have m:(getD (ps.map aj.kv) p.place).isSome=false:=by rw[Pz t];rfl
   refine VC.cU rfl rfl (by rw[m];rfl) ?_;rw[BN t]at C;refine zw ?_;refine ay.lA CX (λ_=>True) rfl ?_;intro X;refine zq ?_;refine ay.dR (k:=true) Ih Hg trivial rfl rfl rfl zh ?_;refine zq ?_;refine ay.dR (k:=false) Ih Hg trivial rfl rfl rfl zh ?_;refine w ?_;by_cases a:r<=p.row
   ·
    refine zx [10] 14 [0,1,2,3,4,5,6,7,8,9,12,13,10,11,14] _ ?_;refine w ?_;refine VD.re 58 (CX true) rfl (by rw[ky a]) ?_;refine VD.take rfl rfl rfl (af.jT (k:=true) Ih Hg trivial (λw=>by simp;rfl) rfl rfl zm) rfl ?_;refine VD.re 59 (.func (.func 190) #[] #[]) rfl (by rfl) ?_;refine w ?_;refine VD.take rfl rfl rfl (af.kV u (λms h=>by cases h) rfl) rfl ?_;refine zt (s:=JE (b:=b)) (h:=?_);intro _ _;refine⟨ae.re,?_⟩;refine VD.take rfl rfl rfl (af.kV i (λms h=>by cases h) rfl) rfl ?_;refine zr (s:=uv (R:=Row n5 287 [ii p.av,ii p.row]::Row B 207 p.cells::db fw il x.m (ps.map aj.kv)::fp x.bo x.bc x.B.length x.B::bX ps::R) (b:=b) (off:=2) (T:=284) (cs:=xh r x) (ao:=x.ao) (cap:=x.ac) (l:=x.A) (p:=p.place) (n:=x.A.length) rfl rfl zO g.ok.hA) (h:=?_);rintro⟨⟨a2,c2⟩,A⟩ ⟨e,j⟩;dsimp only at e j⊢;have d:A.length=x.A.length+1:=e.length_eq;rw[<-d]at j⊢;refine w ?_;refine C.to (⟨x.m,some a2,c2,x.bo,x.bc,A,x.B⟩:qq) ⟨rfl,g.ok.Uf t a f.r.1 e j⟩ zB ?_;(try dsimp only);exact ae.re
   ·
    refine zx [10] 14 [0,1,2,3,4,5,6,7,8,9,12,13,10,11,14] _ ?_;refine w ?_;refine VD.re 58 (CX false) rfl (by rw[gx a]) ?_;refine VD.take rfl rfl rfl (af.jT (k:=false) Ih Hg trivial (λw=>by simp;rfl) rfl rfl zm) rfl ?_;refine VD.re 59 (.func (.func 191) #[] #[]) rfl (by rfl) ?_;refine w ?_;refine VD.take rfl rfl rfl (af.kV u (λms h=>by cases h) rfl) rfl ?_;refine zt (s:=DM (b:=b)) (h:=?_);intro _ _;refine⟨ae.re,?_⟩;refine VD.take rfl rfl rfl (af.kV i (λms h=>by cases h) rfl) rfl ?_;refine zr (s:=uv (R:=Row n5 287 [ii p.av,ii p.row]::Row B 207 p.cells::db fw il x.m (ps.map aj.kv)::fp x.ao x.ac x.A.length x.A::bX ps::R) (b:=b) (off:=3) (T:=284) (cs:=xh r x) (ao:=x.bo) (cap:=x.bc) (l:=x.B) (p:=p.place) (n:=x.B.length) rfl rfl zO g.ok.hB) (h:=?_);rintro⟨⟨a2,c2⟩,A⟩ ⟨e,j⟩;dsimp only at e j⊢;have d:A.length=x.B.length+1:=e.length_eq;rw[<-d]at j⊢;refine w ?_;refine C.to (⟨x.m,x.ao,x.ac,some a2,c2,x.A,A⟩:qq) ⟨rfl,g.ok.Ug t (Int.not_le.1 a) f.r.1 e j⟩ zB ?_;(try dsimp only);exact ae.re
 ·
  rintro y ⟨V,D⟩;refine w ?_;refine zx [7] 8 [0,1,2,3,4,5,6,7,8] _ ?_;refine zt (s:=gg (cap:=p.d.cap) (F.aR ae.re) zO) (h:=?_);intro z _;refine⟨ae.re,?_⟩;refine zq ?_;refine ay.qZ (k:=p.place) Pg TY c rfl rfl rfl zh ?_;refine w ?_;refine VE.done z rfl trivial rfl ?_;have E:aj.In ⟨p.av,p.row,⟨z.1,z.2,p.d.data⟩⟩:=⟨f.m,f.r,f.n⟩;have J:vS r (qn ps ⟨p.av,p.row,⟨z.1,z.2,p.d.data⟩⟩) y:=⟨by rw[tA];exact D,R7 g.all E,g.row⟩;refine ae.trans (ae.re (L:=bX ps::(aj.res ⟨p.av,p.row,⟨z.1,z.2,p.d.data⟩⟩)::Row b 284 (xh r y)::db fw il y.m (iw (ps.map aj.kv) p.place (.slice z.1 p.d.data.length z.2))::fp y.ao y.ac y.A.length y.A::fp y.bo y.bc y.B.length y.B::R)) λw G=>?_;have e:=du (tw (λv:aj=>v.place≠p.place) ps _ w G).swap;rw[show iw (ps.map aj.kv) p.place (.slice z.1 p.d.data.length z.2)=_ from Rx ps ⟨p.av,p.row,⟨z.1,z.2,p.d.data⟩⟩]at e;have K:ae W (bX (qn ps ⟨p.av,p.row,⟨z.1,z.2,p.d.data⟩⟩)::Row b 284 (xh r y)::db fw il y.m ((qn ps ⟨p.av,p.row,⟨z.1,z.2,p.d.data⟩⟩).map aj.kv)::fp y.ao y.ac y.A.length y.A::fp y.bo y.bc y.B.length y.B::R) (oc b r (qn ps ⟨p.av,p.row,⟨z.1,z.2,p.d.data⟩⟩) y R):=ae.re;exact dT.shut J w (K w e)
theorem p9{W w:World}{α:Type}{res:α->ab}{l m:List α}{R:List ab}(p:List.Perm l m)(h:Holds W (cG res l::R) w):Holds W (cG res m::R) w:=
 Holds.nest (L:=m.map res) (h.join.perm ((p.map res).append_right R))
theorem JP{W w:World}{ps:List aj}{p:aj}{R:List ab}(c:p∈ps)(h:Holds W (bX ps::R) w):Holds W (p.res::bX (ps.filter λx=>x.place≠p.place)::R) w:=by
 obtain⟨s,t,rfl⟩:=List.append_of_mem c;have a:=Av (p9 (xb) h);have b:=tw (λx:aj=>decide (x.place≠p.place)) (s++t) (p.res::R) w a.swap;have e:(s++p::t).filter (λx:aj=>decide (x.place≠p.place))=(s++t).filter (λx:aj=>decide (x.place≠p.place)):=by
  rw[oS,oS,List.filter_cons_of_neg (by simp)]
 rw[e];exact b.swap
theorem Lc{r:Int}{K A B:List Pl}(h:dS (base r K) K A B)(g:K≠[]):A≠[]:=by
 intro f;subst f;obtain⟨_,a⟩:=h.wrap;by_cases q:(K.any λx=>decide (r<=x.2))=true
 ·
  obtain⟨x,b,d⟩:=List.any_eq_true.1 q;have e:r<=x.2:=by simpa using d
  have:=a x b;rw[CT b e]at this;omega
 ·
  obtain⟨x,b⟩:=List.exists_mem_of_ne_nil K g;have c:=a x b;unfold base at c;rw[aE q]at c;have:=h.pos x b;omega
theorem MF(ps:List aj)(k:Pl):(ps.filter λx=>x.place≠k).map aj.place=(ps.map aj.place).filter λx=>x≠k:=by
 rw[List.filter_map];rfl
abbrev mw:List Value:=[ii 0,ii 0,.slice none 0 0]
theorem DN{W:World}{R:List ab}{b:Nat}{r:Int}{ps:List aj}(Q:ps≠[])(ag:ps.length<=800000):
  aq W Tryz.prog 194 [ip b] (dT b r ps::R) (β:=aj) (λp=>p∈ps/\AZ r (ps.map aj.place) p.place) (λp=>.tuple #[.agg p.cells.toArray,.bool true])
   (λp=>p.res::dT b p.row (ps.filter λx=>x.place≠p.place)::R):=by
 refine rC (λw i=>dT.open i) λ⟨x,g⟩=>?_;have F:=AR g;obtain⟨X,K⟩:∃X,Tryz.prog.underlying 287=some (.struct X):=⟨_,rfl⟩;obtain⟨pt,E⟩:∃pt,Tryz.prog.underlying 293=some (.pointer pt):=⟨_,rfl⟩;refine ze Tryz.func194 Tryz.ntmps194 ?_;refine zq ?_;refine ay.aB sb_207 rfl ?_;intro H;refine w ?_;have f:x.A≠[]->base r (ps.map aj.place)=r:=λh=>by
  obtain⟨k,hk⟩:=List.exists_mem_of_ne_nil _ h;have:=g.ok.ahead.subset hk;rw[KO]at this;exact CT this.1 (by simpa using this.2)
 refine VC.join (α:=qq) (λy=>y.m=x.m/\dS (base r (ps.map aj.place)) (ps.map aj.place) y.A y.B/\y.A.length<=ps.length) (λy=>Row H 207 mw::oc b r ps y R) (λ_=>[(0,ip b),(2,ip H),(3,.bool false)]) ?_ ?_
 ·
  intro Q2 jn;by_cases o:x.A=[]
  ·
   refine VC.cU rfl rfl (by simp[o]) ?_;refine w ?_;have G:=g.ok;rw[o]at G;obtain⟨S,U⟩:=G.wrap;refine VE.aR (λw i=>Holds.aZ 287 2 i) ?_;refine jn.to (⟨x.m,x.bo,x.bc,none,0,x.B,[]⟩:qq) ⟨rfl,by rw[Lo U];exact S,F.2⟩ zB ?_;(try dsimp only);exact ae.re
  ·
   have aa:x.A.length≠0:=λh=>o (te.1 h);refine VC.aK rfl rfl (by simp[o]) ?_;refine w ?_;refine jn.to x ⟨rfl,by rw[f o];exact g.ok,F.1⟩ zB ?_;(try dsimp only);exact ae.re
 ·
  rintro y ⟨hy,e,V⟩;have j:=Lc e (by simpa using Q);refine w ?_;refine VC.aK rfl rfl (by simp[j]) ?_;refine w ?_;refine VO.pure rfl rfl (af.kV E (λms h=>by cases h) rfl) rfl ?_;refine VO.bH (p:=y.ao=none->y.A.length=0) (λw i=>Holds.bn i zm) ?_;intro C;obtain⟨m,ao,ac,c,bc,A,B⟩:=y;dsimp only at hy e V j C⊢;subst hy;obtain⟨n,M⟩:∃n,A.length=n+1:=⟨A.length-1,by have:=CD.2 j;omega⟩;obtain⟨a,rfl⟩:∃a,ao=some a:=by cases ao with|none=>have:=C rfl;omega|some a=>exact⟨a,rfl⟩
  refine VO.aR (H':=Row b 284 [ii r,.map (some x.m),.slice (some a) (n+1) ac,.slice c B.length bc]::fp (some a) ac (n+1) A::Row H 207 mw::db fw il x.m (ps.map aj.kv)::fp c bc B.length B::bX ps::R) (by dsimp only[oc,xh];rw[M];exact ae.re) ?_;refine zr (s:=FT (R:=Row H 207 mw::db fw il x.m (ps.map aj.kv)::fp c bc B.length B::bX ps::R) (b:=b) (off:=2) (T:=284) (cs:=[ii r,.map (some x.m),.slice (some a) (n+1) ac,.slice c B.length bc]) (l:=A) (n:=n) rfl M zO (by have:=e.hA;rwa [M]at this)) (h:=?_);rintro A2 ⟨J,h2,Y⟩;have D:=e.next (k:=pl A 0) rfl J (by rw[Y];exact h2);have ad:=J;generalize pl A 0=k at J D⊢;obtain⟨N,v,O,P⟩:=D;obtain⟨p,I,rfl⟩:=fG.1 v;have u:=g.all p I;have d:=xH u;have t:getD (ps.map aj.kv) p.place=some p.d.ei:=HB g.ok.one I;refine VO.pure rfl rfl (af.uh K (λms h=>by cases h) rfl) rfl ?_;refine zw ?_;refine ay.aB Sk rfl ?_;intro n4;refine zl ([ii p.av,ii p.row]) (vK p.place) ?_;refine VC.aR (H':=Row n4 287 [ii p.av,ii p.row]::Row b 284 [ii p.row,.map (some x.m),.slice (some a) n ac,.slice c B.length bc]::db fw il x.m (ps.map aj.kv)::fp (some a) ac n A2::Row H 207 mw::fp c bc B.length B::bX ps::R) ae.re ?_;refine zx [] 5 [0,1,2,3,4,5,6] _ ?_;refine zw ?_;refine ay.pure (af.jT (k:=p.place) (z:= .slice none 0 0) Pg TY d (λw=>by simp) rfl rfl zm) rfl ?_;rw[t];refine w ?_;refine zx [] 5 [0,1,2,3,4,5] _ ?_;refine zw ?_;refine ay.OZ (k:=p.place) Pg TY d rfl rfl zh ?_;rw[Ag];refine w ?_;refine VO.re 55 p.d.ei rfl rfl ?_;apply VO.pure rfl rfl;apply af.build sb_207 rfl;simp[aC,bR,Value.cells];rfl;rfl;refine zl p.cells (dI p) ?_;refine VE.results2 (.inl rfl) p rfl (aL.agg (vs:=p.cells) ah rfl rfl zm rfl rfl) (.tmp rfl) ⟨I,⟨v,O,P⟩⟩ rfl ?_;have hG:vS p.row (ps.filter λx=>x.place≠p.place) ⟨x.m,some a,ac,c,bc,A2,B⟩:=⟨by rw[MF];exact N,λq hq=>g.all q (KO.1 hq).1,u.r⟩;refine ae.trans (ae.re (L:=bX ps::Row b 284 [ii p.row,.map (some x.m),.slice (some a) n ac,.slice c B.length bc]::db fw il x.m ((ps.filter λx=>x.place≠p.place).map aj.kv)::fp (some a) ac n A2::fp c bc B.length B::R)) λw i=>?_;have Z:=JP I i;rw[<-Y]at Z;have hF:ae W (p.res::bX (ps.filter λx=>x.place≠p.place)::Row b 284 [ii p.row,.map (some x.m),.slice (some a) A2.length ac,.slice c B.length bc]::db fw il x.m ((ps.filter λx=>x.place≠p.place).map aj.kv)::fp (some a) ac A2.length A2::fp c bc B.length B::R) (oc b p.row (ps.filter λx=>x.place≠p.place) ⟨x.m,some a,ac,c,bc,A2,B⟩ (p.res::R)):=ae.re;exact(dT.shut hG w (hF w Z)).swap
theorem yO{W:World}{R:List ab}{b:Nat}{r:Int}:
  az W Tryz.prog 194 [ip b] (dT b r []::R) (.tuple #[.agg mw.toArray,.bool false]) (dT b r []::R):=by
 refine rC (λw c=>dT.open c) λ⟨x,g⟩=>?_;obtain⟨m,ao,ac,a,bc,A,B⟩:=x;have e:A=[]:=List.perm_nil.1 g.ok.ahead;have f:B=[]:=List.perm_nil.1 g.ok.below;subst e f;refine ze Tryz.func194 Tryz.ntmps194 ?_;refine zq ?_;refine ay.aB sb_207 rfl ?_;intro k;refine w ?_;apply VO.pure rfl rfl;apply af.build sb_207 rfl;simp[aC,bR,Value.cells];rfl;rfl;refine zS mw ?_;refine VE.results2 (.inl rfl) () rfl (aL.agg (vs:=mw) ah rfl rfl zm rfl rfl) (.tmp rfl) trivial rfl ?_;have i:vS r [] ⟨m,a,bc,none,0,[],[]⟩:=⟨dS.nil r,λq j=>(by cases j),g.row⟩;intro w c;have d:=Holds.aZ 287 2 c;have h:ae W (fp none 0 0 []::Row k 207 mw::Row b 284 [ii r,.map (some m),.slice a 0 bc,.slice none 0 0]::db fw il m []::fp ao ac 0 []::fp a bc 0 []::bX []::R) (oc b r [] ⟨m,a,bc,none,0,[],[]⟩ R):=ae.re;exact dT.shut i w (h w d)
end Go.Proofs.YtldolcbbmnmjoaaGreat
