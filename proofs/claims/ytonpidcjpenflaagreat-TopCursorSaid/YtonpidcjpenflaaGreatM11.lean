import Derived.Test.YtonpidcjpenflaaGreatM10
import Derived.WideLaws
import Derived.Shelf.SlSortCmp.WholeK
set_option maxRecDepth 8000
set_option maxHeartbeats 16000000
set_option linter.unusedVariables false
set_option linter.unusedSimpArgs false
set_option linter.unusedSectionVars false
set_option linter.defProp false
namespace Go.Sl
open Go Go.RowKit
section
variable{W:World}{P:Program}{n:Nat}{H:List ab}{f:Fr}{dst:Option Tmp}{ty_:TypeId}{pos:String}{after:Array Edge}{guard:Option (Nat×Bool)}
theorem af.Ms{op:BinOp}{x:Operand}{c:Value}{s u:TypeId}{v:Value}(b:P.underlying s=some (.interface (P.methodsAt s)))(e:aD f x=some .nilIface)(g:aD f (.const c)=some .nilIface)(d:CA op true=some v):
  af W P n H f {dst,op:= .binOp op s x (.const c) u,type:=ty_,pos,after,guard} v:=by
 unfold af;intro h w a _;exact oM a e g d (by rintro o (rfl|rfl)<;>cases x<;>rfl) rfl rfl (run_equal_nil_nil w s b)
end
end Go.Sl
namespace Go.Proofs.YtonpidcjpenflaaGreat
open Go.RowKit Go.Sl
attribute [local irreducible] Sl.Own
theorem T3:Tryz.prog.underlying 20=some (.interface (Tryz.prog.methodsAt 20)):=by kernel_rfl
end Go.Proofs.YtonpidcjpenflaaGreat
namespace Go.Sl
open Go Go.RowKit
section
variable{W:World}{P:Program}{n:Nat}{H:List ab}{f:Fr}{dst:Option Tmp}{ty_:TypeId}{pos:String}{after:Array Edge}{guard:Option (Nat×Bool)}
end
end Go.Sl
namespace Go.Proofs.YtonpidcjpenflaaGreat
open Go.RowKit Go.Sl
attribute [local irreducible] Sl.Own
theorem gp{W:World}{R:List ab}{ne:Nat}{u:Value}:
  jm W Tryz.prog 99 [ip ne] (Row ne 40 [u]::R) .returning .returning (Row ne 40 [u]::R):=by
 refine jm.Rm Tryz.func99 Tryz.ntmps99 rfl rfl rfl rfl rfl rfl rfl (.inr ⟨rfl,rfl,rfl⟩) ?_;refine w ?_;refine VO.pure rfl rfl (af.Ms T3 rfl rfl rfl) rfl ?_;refine w ?_;exact VE.result (.inr rfl) rfl λw a=>⟨⟨_,rfl⟩,a⟩
theorem jD{W:World}{R:List ab}(a:Nat)(X:aY):az W Tryz.prog 100 [ip a] (Row a 102 X.cells::R) (.tuple #[]) (Row a 102 X.cells::R):=by
 refine ze Tryz.func100 Tryz.ntmps100 ?_;exact VE.b9 rfl rfl ae.refl
theorem y6{W:World}{H:List ab}{g:FuncId}{bnd cap:Array Value}{β:Type}{A:β->Prop}{G:β->List ab}(a:Nat)(b:∀a w,(callFunc g a).run Tryz.prog w= .ok (.enter g a) w)(spec:aq W Tryz.prog g (bnd.toList++[]++cap.toList) H A (λ_=>.agg cD.toArray) G):
  aq W Tryz.prog 102 [ip a,.func (.func g) bnd cap] H A (λ_=>.bool true) G:=by
 refine ze Tryz.func102 Tryz.ntmps102 ?_;refine VC.once rfl ?_;refine zw ?_;refine ay.gS rfl rfl b spec ae.refl rfl ?_;intro y c;refine zw ?_;refine ay.aB bE rfl ?_;intro d;refine zS cD ?_;exact VE.done y rfl c rfl (ae.drop ae.refl)
theorem BS{W:World}{H:List ab}{g:FuncId}{bnd cap:Array Value}{β:Type}{A:β->Prop}{G:β->List ab}(a:Nat)(z:Int)(b:∀a w,(callFunc g a).run Tryz.prog w= .ok (.enter g a) w)(spec:aq W Tryz.prog g (bnd.toList++[]++cap.toList) H A (λ_=>.agg #[ii z,i6 0]) G):
  aq W Tryz.prog 135 [ip a,.func (.func g) bnd cap] H A (λ_=>.tuple #[]) G:=by
 refine ze Tryz.func135 Tryz.ntmps135 ?_;refine zq ?_;refine ay.gS rfl rfl b spec ae.refl rfl ?_;intro y c;refine zw ?_;refine ay.aB bE rfl ?_;intro d;refine zS ([ii z,i6 0]) ?_;refine VC.once rfl ?_;refine w ?_;exact VE.qv y rfl c rfl (ae.drop ae.refl)
end Go.Proofs.YtonpidcjpenflaaGreat
namespace Go.Proofs.YtonpidcjpenflaaGreat
open Go.RowKit Go.Sl
attribute [local irreducible] Sl.Own
abbrev uV(b a:Nat)(X:aY)(R:List ab):List ab:=Row b 79 [ip a]::Row a 102 X.cells::R
theorem Ox{W:World}{R:List ab}{D:aw}{K:Kd}{n c0:Nat}{ao:Option Addr}{cap:Nat}(c b a r:Nat)(X:aY)(v:X.r=ik r)(Y:eA)(q:Y.ok)(fr:List Int)(e:fr.length=Y.m)(g:∀k row,k<Y.m->row<Y.s*Y.c->¬gB fr k row->∃kd,K k=some kd/\1+Y.s*Y.c<=kd.last.length)(u:Bq D n K c0)(l:List aj)(m:bq W R ao l)(f:∀p∈l,p.Of Y)(t:l.length<=800000)(d:c0<=1000000):
  aq W Tryz.prog 136 [ip c,ip b] (uV c a X (Row b 140 [.slice ao l.length cap]::de r Y fr (al Y.b D::R))) (β:=aw×Kd) (λy=>Bq y.1 n y.2 (c0+l.length)/\fA (sI fr l) K y.2) (λ_=>.agg cD.toArray)
   (λy=>uV c a X (Row b 140 [.slice ao l.length cap]::de r Y fr (al Y.b y.1::R))):=by
 have i:=λo:Nat=>Az (W:=W) (R:=Row o 174 cD::uV c a X (Row b 140 [.slice ao l.length cap]::R)) (cap:=cap) r Y q fr e g u l (m.aR (ae.drop (ae.drop (ae.drop (ae.drop ae.refl))))) f t d;refine ze Tryz.func136 Tryz.ntmps136 ?_;refine zq ?_;refine ay.aB bE rfl ?_;intro o;refine w ?_;refine zx [] 5 [0,1,2,3,4,5,6] _ ?_;refine w ?_;refine VD.re 6 (ip r) rfl (by rw[v]) ?_;refine zr (s:=i o) (h:=?_);intro D' j;refine zS cD ?_;exact VE.results1 (.inl rfl) D' rfl (aL.agg (vs:=cD) ah rfl rfl zm rfl rfl) j rfl ae.re
theorem Oy{W:World}{R:List ab}{D:aw}{c0:Nat}(c b a wp:Nat)(X:aY)(v:bT)(f:v.ok)(e:D.gE c0)(d:c0<=999990000):
  az W Tryz.prog 139 [ip c,ip b] (uV c a X (Row b 100 [ip wp]::bz wp X.b v::al X.b D::R)) (.agg #[ii X.m,i6 (eO (v,D) (v.epoch+1)).1])
   (uV c a X (Row b 100 [ip wp]::bz wp X.b (eO (v,D) (v.epoch+1)).2.1::al X.b (eO (v,D) (v.epoch+1)).2.2::R)):=by
 refine ze Tryz.func139 Tryz.ntmps139 ?_;refine zq ?_;refine ay.aB bE rfl ?_;intro g;refine w ?_;refine zx [1] 3 [0,2,1,3,4,5] _ ?_;refine zr (s:=jX a X) (h:=?_);intro _ _;refine zr (s:=EW wp X.b v f e d) (h:=?_);intro _ _;generalize eO (v,D) (v.epoch+1)=q at*;refine w ?_;refine VD.end rfl rfl rfl (ay.pure (af.build bE rfl (show aC _ _ _=some [ii X.m,i6 q.1]by simp[aC,bR,Value.cells])) rfl ?_);refine zS ([ii X.m,i6 q.1]) ?_;exact VE.results1 (.inl rfl) () rfl (aL.agg (vs:=[ii X.m,i6 q.1]) ah rfl rfl zm rfl rfl) trivial rfl ae.re
theorem Iw{W:World}{R:List ab}{D:aw}{K:Kd}{V:Nat->Nat->List UInt8}{n c0:Nat}{u:Value}(c b bi d a r:Nat)(X:aY)(o:X.r=ik r)(Y:eA)(e:Y.ok)(fr:List Int)(j:Data Y fr K V)(p:bq W R Y.wo Y.wl)(m:Bq D n K c0)(k i:Nat)(l:k+i<Y.s*Y.c* (Y.m-1)):
  aq W Tryz.prog 103 [ip c,ip b,ip bi,ip d] (uV c a X (Row b 3 [ii k]::Row bi 3 [ii i]::Row d 38 [u]::de r Y fr (al Y.b D::R))) (β:=mZ) (λy=>Bq y.D n K c0) (λ_=>.agg cD.toArray)
   (λy=>Qo (V (cJ Y.m Y.c (k+i)).av (cJ Y.m Y.c (k+i)).row) y (uV c a X (Row b 3 [ii k]::Row bi 3 [ii i]::Row d 38 [.slice y.x.1 128 y.x.2]::de r Y fr (al Y.b y.D::R)))):=by
 have q:Y.s*Y.c<=256*16:=mo e.s.2 e.c.2;have t:Y.s*Y.c* (Y.m-1)<=4096*15:=mo zO (by have:=e.m;omega);refine ze Tryz.func103 Tryz.ntmps103 ?_;refine zq ?_;refine ay.aB bE rfl ?_;intro g;refine w ?_;refine zx [7,11] 12 [0,1,2,3,4,5,6,7,8,9,10,11,12] (Row g 174 cD::uV c a X (Row b 3 [ii k]::Row bi 3 [ii i]::de r Y fr R)) ?_;refine w ?_;refine VD.re 9 (ip r) rfl (by rw[o]) ?_;refine VD.re 12 (ii ((k+i:Nat):Int)) rfl (by congr 1) ?_;refine zr (s:=Nl (R:=Row g 174 cD::uV c a X (Row b 3 [ii k]::Row bi 3 [ii i]::Row d 38 [u]::R)) r Y e fr j (p.aR (ae.drop (ae.drop (ae.drop (ae.drop (ae.drop (ae.drop ae.refl))))))) m (k+i) l) (h:=?_);rintro⟨x,D'⟩ f;dsimp only at f⊢;refine⟨ae.re,?_⟩;refine zS cD ?_;refine zS cD ?_;exact VE.results1 (.inl rfl) (mZ.mk x D') rfl (aL.agg (vs:=cD) ah rfl rfl zm rfl rfl) f rfl ae.re
theorem vW{W:World}{R:List ab}(a:Nat)(X:aY)(b:X.ok):az W Tryz.prog 101 [ip a] (Row a 102 X.cells::R) (ii ((X.s*X.c* (X.m-1):Nat):Int)) (Row a 102 X.cells::R):=by
 (refine aq.enter Tryz.func101 Tryz.ntmps101 rfl rfl ?_);refine zt (s:=FN b.m b.c b.s) (h:=?_);intro _ _;refine w ?_;exact VE.ax rfl rfl ae.refl
theorem Iv{W:World}{R:List ab}{u:FrameMode}(ne no:Nat):jm W Tryz.prog 98 [ip ne,ip no] (Row ne 40 [i6 0]::R) u u (Row ne 40 [i6 0]::R):=by
 refine jm.Rl Tryz.func98 Tryz.ntmps98 rfl rfl ?_;refine w ?_;exact VE.result (.inr rfl) rfl λw a=>⟨⟨_,rfl⟩,a⟩
theorem BV{m c s k:Nat}(h:3<=m)(a:1<=c)(e:k<s*c* (m-1)):(cJ m c k).row<s*c/\(cJ m c k).av<m:=by
 have f:0<(m-1)*c:=Nat.mul_pos zO a;have b:k/((m-1)*c)<s:=Tk (by rw[BG ((m-1)*c),BG (m-1),<-Nat.mul_assoc];exact e);refine⟨?_,nE _ zO⟩;show k/((m-1)*c)*c+k% ((m-1)*c)%c<s*c;have g:=nE (k% ((m-1)*c)) a;have d:(k/((m-1)*c)+1)*c<=s*c:=w9 c b;rw[ux,Nat.one_mul]at d;omega
def Q7(m c:Nat)(V:Nat->Nat->List UInt8)(k:Nat):List UInt8:=V (cJ m c k).av (cJ m c k).row
def kI(m c:Nat)(V:Nat->Nat->List UInt8)(k i:Nat):List UInt8:=(List.range i).flatMap λj=>Q7 m c V (k+j)
theorem zo(m c:Nat)(V:Nat->Nat->List UInt8)(k i:Nat):kI m c V k (i+1)=kI m c V k i++Q7 m c V (k+i):=by
 unfold kI;rw[KR,Ai];simp
theorem C3{m c:Nat}{V:Nat->Nat->List UInt8}{k:Nat}:∀i,(∀j,j<i->(Q7 m c V (k+j)).length=128)->(kI m c V k i).length=i*128
 |0,_=>rfl
 |i+1,h=>by rw[zo,c9,C3 i λj a=>h j zO,h i zO];omega
theorem Lh{W:World}{R:List ab}{D:aw}{K:Kd}{V:Nat->Nat->List UInt8}{n c0:Nat}(a r:Nat)(X:aY)(b:X.ok)(Z:X.r=ik r)(Y:eA)(H:Y.ok)(M:Y.m=X.m)(o:Y.c=X.c)(N:Y.s=X.s)(fr:List Int)(G:Data Y fr K V)(C:bq W R Y.wo Y.wl)(U:Bq D n K c0)(k q:Nat)(hk:k+q<=X.s*X.c* (X.m-1)):
  aq W Tryz.prog 60 [ip a,ii k,ii q] (Row a 102 X.cells::de r Y fr (al Y.b D::R)) (β:=aw×Option Addr×Nat) (λy=>Bq y.1 n K c0) (λy=>.tuple #[sliceB y.2 (kI X.m X.c V k q),i6 0])
   (λy=>b8 y.2 (kI X.m X.c V k q)::Row a 102 X.cells::de r Y fr (al Y.b y.1::R)):=by
 (refine aq.oL Tryz.func60 Tryz.ntmps60 rfl rfl ?_);refine wr ?_;refine zj λ_=>?_;refine wr ?_;refine zj λ_=>?_;refine wr ?_;rename_i p t;refine zq ?_;refine ay.alloc (z:=(.slice none 0 0)) (λw=>by simp) rfl rfl ?_;intro no;refine wr ?_;refine zq ?_;refine ay.alloc (z:=(i6 0)) (λw=>by simp) rfl rfl ?_;intro ne;refine wr ?_;refine VR.PW rfl ?_;refine VO.pure rfl rfl (af.bB rfl) rfl ?_;refine VO.Re rfl rfl rfl rfl ?_;refine wr ?_;refine VR.iF rfl rfl rfl rfl ?_;refine wr ?_;have h4:X.s*X.c<=256*16:=mo b.s.2 b.c.2;have h5:X.s*X.c* (X.m-1)<=4096*15:=mo zO (by have:=b.m;omega);have B:∀i,i<=q->(kI X.m X.c V k i).length=i*128:=λi L=>C3 i λj hj=>by
  obtain⟨g1,g2⟩:=BV (m:=X.m) (c:=X.c) (s:=X.s) (k:=k+j) b.m.1 b.c.1 zO;exact G.mu _ _ zO (by rw[N,o];exact g1)
 refine zr (s:=jD a X) (h:=?_);intro _ _;refine wr ?_;refine VR.drawn [9,15] 18 [0,1,2,3,4,5,6,7,8,9,10,11,12,13,14,16,15,17,18,19] _ rfl (by kernel_rfl) (by kernel_rfl) ae.re ?_;refine wr ?_;refine VD.gF rfl rfl rfl (gx zO) ?_;refine wr ?_;refine zr (s:=vW a X b) (h:=?_);intro _ _;refine wr ?_;refine VD.gF rfl rfl rfl (gx zO) ?_;refine wr ?_;refine zr (s:=vW a X b) (h:=?_);intro _ _;refine wr ?_;refine VR.aK rfl rfl (gx zO) ?_;refine wr ?_;refine VR.aR (H':=b8 (none,0) []::Row no 38 [.slice none 0 0]::Row ne 40 [i6 0]::Row p 79 [ip a]::Row t 3 [ii k]::Row a 102 X.cells::de r Y fr (al Y.b D::R)) (ae.trans (λw C=>Holds.aZ 5 1 C) ae.re) ?_
 refine VR.loop (α:=Nat×aw×(Option Addr×Nat)×List UInt8) (λy=>y.1<=q/\Bq y.2.1 n K c0/\y.2.2.2=kI X.m X.c V k y.1) (λy=>b8 y.2.2.1 y.2.2.2::Row no 38 [.slice y.2.2.1.1 y.2.2.2.length y.2.2.1.2]::Row ne 40 [i6 0]::Row p 79 [ip a]::Row t 3 [ii k]::Row a 102 X.cells::de r Y fr (al Y.b y.2.1::R))
  (λy=>[(3,ip p),(4,ip t),(6,ip no),(7,ip ne),(33,ii q),(34,ii y.1)]) (λy=>q-y.1) rfl (0,D,(none,0),[]) ⟨c7 _,U,rfl⟩ ae.refl ⟨rfl,rfl,rfl,rfl,rfl,rfl,trivial⟩ ?_
 rintro⟨i,E,x,l⟩ ⟨L,f,F⟩;dsimp only at L f F⊢;have T:l.length=i*128:=by rw[F];exact B i L
 refine wr ?_;(refine VR.cond rfl rfl ?_ ?_<;>intro o)
 ·
  have Q:i<q:=by have:=cI o;omega
  clear o;refine wr ?_;refine zq ?_;refine ay.alloc (z:=(ii 0)) (λw=>by simp) rfl rfl ?_;intro bi;refine wr ?_;refine zq ?_;refine ay.alloc (z:=(.slice none 0 0)) (λw=>by simp) rfl rfl ?_;intro O;refine wr ?_;refine VO.pure rfl rfl (af.bB rfl) rfl ?_;refine wr ?_;obtain⟨l1,d⟩:∃l1,V (cJ Y.m Y.c (k+i)).av (cJ Y.m Y.c (k+i)).row=l1:=⟨_,rfl⟩;have v:l1.length=128:=by
   obtain⟨g1,g2⟩:=BV (m:=Y.m) (c:=Y.c) (s:=Y.s) (k:=k+i) H.m.1 H.c.1 (by rw[M,N,‹Y.c=X.c›];omega);rw[<-d];exact G.mu _ _ g2 g1
  have A:=Iw (W:=W) (R:=b8 x l::Row no 38 [.slice x.1 l.length x.2]::Row ne 40 [i6 0]::R) (u:= .slice none 0 0) p t bi O a r X Z Y H fr G (C.aR (ae.drop (ae.drop (ae.drop ae.refl)))) f k i (by rw[N,‹Y.c=X.c›,M];omega);rw[d]at A;refine zr (s:=y6 a (g:=103) (bnd:=#[]) (cap:=#[ip p,ip t,ip bi,ip O]) (λ_ _=>by simp) A) (h:=?_);rintro⟨y,D'⟩ P;dsimp only at P;refine wr ?_;refine zq ?_;refine ay.append (m:=128) (news:=bytes l1) eH rfl rfl zh (λw C=>(show jW w 1 (.slice y.1 128 y.2) 128 (bytes l1)from jW.own (e:=5) (aQ _) C zm).src eH.tZ) (by simp only[maxLen];omega) zO rfl ?_;intro so sc;refine wr ?_;have I:kI X.m X.c V k (i+1)=l++l1:=by
   rw[zo,<-F,<-d,M,‹Y.c=X.c›];rfl
  have J:(l++l1).length=l.length+128:=by rw[c9,v]
  refine VF.round (i+1,D',(so,sc),l++l1) ⟨Q,P,I.symm⟩ (by dsimp only;omega) ⟨rfl,rfl,rfl,rfl,rfl,b7 rfl (by congr 1),trivial⟩ ?_;dsimp only;unfold b8;rw[J,show bytes (l++l1)=bytes l++bytes l1 from jv];exact ae.re
 have S:i=q:=by have:=dx o;omega
 clear o;subst S;subst F;refine wr ?_;refine VF.aR (H':=Row ne 40 [i6 0]::Row no 38 [.slice x.1 (kI X.m X.c V k i).length x.2]::b8 x (kI X.m X.c V k i)::Row a 102 X.cells::de r Y fr (al Y.b E::R)) ae.re ?_;exact VF.JC (.inl rfl) (λ_ _=>by simp) (λ_ _=>by simp) gp (Iv ne no) (E,x) rfl (aL.leaf ah rfl rfl (.tail _ (.head _)) rfl) (aL.leaf ah rfl rfl (.head _) rfl) f rfl (ae.drop (ae.drop ae.refl))
end Go.Proofs.YtonpidcjpenflaaGreat
namespace Go.Sl
open Go Go.RowKit
section
variable{W:World}{P:Program}{n:Nat}{H G':List ab}{f:Fr}
theorem VF.kU{fn:Func}{g:FuncId}{cap:Array Value}{vs:List Value}{rv:ResultVar}{v:Value}{e:Exit}{β:Type}{A:β->Prop}{r:β->Value}{G:β->List ab}(l:e= .ret\/e= .normal)
  (k:∀a w,(callFunc g a).run P w= .ok (.enter g a) w)(spec:jm W P g (vs++cap.toList) H .returning .returning G')(x:β)(s:fn.results=#[rv])(h:aL W P G' f rv v)(i:A x)(p:v=r x)(j:ae W G' (G x)):
  VF W n ⟨none,[{target:= .fn (.func g) cap,args:=vs.toArray}]⟩ (bodyPostD P fn (lh W A r G)) e H f:=by
 unfold VF;intro _ t w m q;have key:Leaves P fn t (lh W A r G) [{target:= .fn (.func g) cap,args:=vs.toArray}] .returning w:=by
  refine leaves_cons (f:=g) (args:=vs.toArray++cap) (by simp) (by simp[Go.invoke,k]) ?_;unfold jm at spec;have b:=spec w q;rw[show(vs++cap.toList).toArray=vs.toArray++cap by apply Array.ext';simp]at b;refine CallsD.mono b ?_;rintro e u d ⟨rfl,⟨v0,rfl⟩,c⟩;have o:(results fn t).run P d= .ok v d:=by
   have:=h.run m c;cases rv<;>simp_all [results]
  exact⟨_,o,x,i,by rw[p],j _ c⟩
 rcases l with rfl|rfl<;>exact key
end
end Go.Sl
namespace Go.Proofs.YtonpidcjpenflaaGreat
open Go.RowKit Go.Sl
attribute [local irreducible] Sl.Own
abbrev aY.put(X:aY)(k:Nat)(x:UInt8)(cur:Nat):aY:={X with st:=X.st.set k x,cur:=cur}
theorem tC(X:aY)(k:Nat)(x:UInt8)(cur:Nat):(X.put k x cur).cells=X.cells.set 12 (ii cur):=by
 show aY.cells _=_;unfold aY.cells aY.put;dsimp only;rw[vD];rfl
theorem B0(X:aY)(k:Nat)(x:UInt8)(cur:Nat):dz (X.put k x cur)=Sl.Own 104 1 (.slice (some X.so) X.st.length X.sc) X.st.length ((bytes X.st).set k (ib (x.toNat:Int))):=by
 unfold dz aY.put;dsimp only;rw[vD];congr 1;unfold bytes;rw[List.map_set];rfl
theorem La{W:World}{R:List ab}{D:aw}{K:Kd}{n c0:Nat}(a r:Nat)(X:aY)(o:X.ok)(Y:eA)(k:Nat)(E:k<X.m)(b:∀x∈X.st,x=1)(m:iS (X.put k 2 0) K n)(j:X.ro=false)(q:X.r=ik r)(p:Y.m=X.m)(fr:List Int)(y:fr.length=X.m)(A:Bq D n K c0)(e:c0<=1000000):
  aq W Tryz.prog 118 [ip a,ii k] (Row a 102 X.cells::dz X::de r Y fr (al X.b D::R)) (β:=aw) (λD'=>Bq D' n (jF (X.put k 2 0) K) (c0+40)) (λ_=>.tuple #[]) (λD'=>Row a 102 (X.put k 2 0).told.cells::dz (X.put k 2 0)::de r Y (bU (X.put k 2 0)) (al X.b D'::R)):=by
 have v:=o.m;have l:=o.st;have hb1:aV W (Row a 102 X.cells::dz X::de r Y fr (al X.b D::R)) 1 (some X.so) X.st.length (bytes X.st):=dz.gz zm;have t:X.st[k]'zO=1:=b _ (fF _);refine ze Tryz.func118 Tryz.ntmps118 ?_;rw[t];refine w ?_
 refine VC.loop (α:=Nat) (λi=>i<=X.m) (λ_=>Row a 102 X.cells::dz X::de r Y fr (al X.b D::R))
  (λi=>[(0,ip a),(1,ii k),(21,.slice (some X.so) X.st.length X.sc),(22,ii X.st.length),(23,ii i)]) (λi=>X.m-i) rfl 0 (c7 _) ae.refl ⟨rfl,rfl,rfl,rfl,rfl,trivial⟩ ?_
 intro i C;refine w ?_;refine zk ?_ ?_<;>intro d
 ·
  have z:i<X.st.length:=by have:=cI d;omega
  clear d;have u:X.st[i]=1:=b _ (fF _);refine w ?_;rw[u];refine zg ?_ ?_<;>intro B
  ·
   refine w ?_;exact VE.round (i+1) zO zO ⟨rfl,rfl,rfl,rfl,b7 rfl (by congr 1),trivial⟩ ae.refl
  ·
   refine w ?_;exact VE.round (i+1) zO zO ⟨rfl,rfl,rfl,rfl,b7 rfl (by congr 1),trivial⟩ ae.refl
 clear d;refine zw ?_;refine ay.EJ ah rfl rfl rfl rfl zh (by rw[ff];omega) ?_;refine w ?_;rw[show(bytes X.st).set k (ib 2)=(bytes X.st).set k (ib (((2:UInt8).toNat:Nat):Int))from rfl,<-B0 X k 2 0];rw[show X.cells.set _ (ii 0)=(X.put k 2 0).cells from(tC X k 2 0).symm];have c:=m.ok;refine zr (s:=rH a r (X.put k 2 0) c Y q p fr y) (h:=?_);intro _ _;refine zr (s:=lS a r (X.put k 2 0) Y m j q p (bU (X.put k 2 0)) (by unfold bU;rw[ew,vD];exact l) A e) (h:=?_);intro D' g;refine w ?_;exact VE.qv D' rfl g rfl ae.re
theorem rI{W:World}{H:List ab}{g:FuncId}{bnd cap:Array Value}{β:Type}{A:β->Prop}{G:β->List ab}(a:Nat)(X:aY)(b:X.ro=false)(c:∀a w,(callFunc g a).run Tryz.prog w= .ok (.enter g a) w)(spec:aq W Tryz.prog g (bnd.toList++[]++cap.toList) (Row a 102 X.cells::H) A (λ_=>.agg cD.toArray) (λy=>Row a 102 X.cells::G y)):
  aq W Tryz.prog 114 [ip a,.func (.func g) bnd cap] (Row a 102 X.cells::H) A (λ_=>.tuple #[]) (λy=>Row a 102 X.cells::G y):=by
 refine ze Tryz.func114 Tryz.ntmps114 ?_;rw[b];refine zr (s:=y6 a c spec) (h:=?_);intro y d;refine w ?_;rw[b];refine w ?_;exact VE.qv y rfl d rfl ae.refl
theorem Lb{W:World}{R:List ab}{D:aw}{K:Kd}{n c0:Nat}{kd:ak}(a r:Nat)(X:aY)(l:X.ok)(Y:eA)(k:Nat)(t:k<X.m)(d:K k=some kd)(j:∀x∈X.st,x=1)(o:iS (X.put k 2 0) (del K k) n)(i:X.ro=false)(y:X.r=ik r)(u:Y.m=X.m)(fr:List Int)(q:fr.length=X.m)(v:Bq D n K c0)(c:c0<=1000000):
  aq W Tryz.prog 64 [ip a,ii k] (Row a 102 X.cells::dz X::de r Y fr (al X.b D::R)) (β:=aw) (λD'=>Bq D' n (jF (X.put k 2 0) (del K k)) (c0+40)) (λ_=>i6 0) (λD'=>Row a 102 (X.put k 2 0).told.cells::dz (X.put k 2 0)::de r Y (bU (X.put k 2 0)) (al X.b D'::R)):=by
 have p:=l.m;obtain⟨A,m,g⟩:=v.fail d;have b:=λR=>Fq (W:=W) (R:=R) X.b D (k:Int);rw[m]at b;refine aq.oL Tryz.func64 Tryz.ntmps64 rfl rfl ?_;refine wr ?_;refine zq ?_;refine ay.alloc (z:=(i6 0)) (λw=>by simp) rfl rfl ?_;intro ne;refine wr ?_;refine VR.iF rfl rfl rfl rfl ?_;refine wr ?_;refine zr (s:=jD a X) (h:=?_);intro _ _;refine wr ?_;refine VO.gF rfl rfl rfl (gx zO) ?_;refine wr ?_;refine zr (s:=jX a X) (h:=?_);intro _ _;refine wr ?_;refine VR.aK rfl rfl (gx zO) ?_;refine wr ?_;refine zr (s:=b _) (h:=?_);intro _ _;refine wr ?_;refine zr (s:=jX a X) (h:=?_);intro _ _;refine wr ?_;refine VR.aK rfl rfl (by simp;omega) ?_;refine wr ?_;refine zr (s:=La a r X l Y k t j o i y u fr q g c) (h:=?_);intro D' e;refine wr ?_;refine VF.aR (H':=Row ne 40 [i6 0]::Row a 102 (X.put k 2 0).told.cells::dz (X.put k 2 0)::de r Y (bU (X.put k 2 0)) (al X.b D'::R)) ae.re ?_;exact VF.kU (.inl rfl) (λ_ _=>by simp) gp D' rfl (aL.leaf ah rfl rfl (.head _) rfl) e rfl (ae.drop ae.refl)
end Go.Proofs.YtonpidcjpenflaaGreat
namespace Go.Proofs.YtonpidcjpenflaaGreat
open Go.RowKit Go.Sl
attribute [local irreducible] Sl.Own
theorem zn{W:World}{R:List ab}{D:aw}{K:Kd}{kd:ak}{n c0:Nat}{d:List UInt8}{x:Option Addr×Nat}(b:Nat)(h:Bq D n K c0)(m:c0<=900000000)(k a:Nat)(o:K k=some kd)(j:a<kd.last.length)(e:d.length=128):
  aq W Tryz.prog 53 [ip b,ii k,ii a,.slice x.1 128 x.2] (al b D::Sl.Own 5 1 (.slice x.1 128 x.2) 128 (bytes d)::R) (β:=aw) (λD2=>Bq D2 n (ez K k (kd.write a d)) (c0+1)) (λ_=>i6 0) (λD2=>al b D2::R):=by
 refine G3 (p:=x.1=none->128=0) (λw q=>q.bn (.tail _ (.head _))) λf=>?_;obtain⟨D2,i,g⟩:=h.write o j e;have c:=lT (W:=W) (cap:=x.2) (R:=Sl.Own 5 1 (.slice x.1 128 x.2) 128 (bytes d)::R) b D k ((a:Nat):Int) (l:=d) (ao:=x.1) (qX (oK h.cap k) zO) (.inr (by rw[e];exact aV.own (aQ _) zm (by simp[e]) f));rw[i,e]at c;exact aq.mono c (λ_=>D2) (λ_ _=>g) (λ_ _=>rfl) (λ_ _=>ae.re)
theorem IK{W:World}{R:List ab}{D:aw}{K:Kd}{kd:ak}{n c0:Nat}(b:Nat)(e:Bq D n K c0)(k:Nat)(d:K k=some kd):
  aq W Tryz.prog 57 [ip b,ii k] (al b D::R) (β:=aw) (λD2=>Bq D2 n (ez K k (kd.settle λ_=>true)) c0) (λ_=>i6 0) (λD2=>al b D2::R):=by
 have h:=jY (W:=W) (R:=R) b D (k:Int);obtain⟨D2,c,a⟩:=e.flush d;rw[c]at h;exact aq.mono h (λ_=>D2) (λ_ _=>a) (λ_ _=>rfl) (λ_ _=>ae.refl)
theorem Data.ez{X:eA}{fr:List Int}{K:Kd}{V:Nat->Nat->List UInt8}(h:Data X fr K V){k:Nat}{kd a:ak}(i:K k=some kd)(o:a.last.length=kd.last.length)(f:∀row,¬gB fr k row->a.look (1+row)=kd.look (1+row)):Data X fr (ez K k a) V:=
 ⟨h.len,h.one,h.mu,h.par,h.wait,λj row g l c=>by
  obtain⟨n,e,d,b⟩:=h.is j row g l c;by_cases q:j=k
  ·
   subst q;rw[i]at e;cases e;exact⟨a,eZ _ _ _,by omega,λm=>by rw[f row c];exact b m⟩
  · exact⟨n,by rw[dH _ _ q];exact e,d,b⟩,h.y0,h.y4⟩
def ku(V:Nat->Nat->List UInt8)(k row i:Nat):List (Nat×List UInt8):=(List.range i).map λj=>(1+(row+j),V k (row+j))
theorem wR(kd:ak)(V:Nat->Nat->List UInt8)(k row i:Nat):kd.writes (ku V k row (i+1))=(kd.writes (ku V k row i)).write (1+(row+i)) (V k (row+i)):=by
 unfold ak.writes ak.write ku;rw[KR,jv,<-lx];rfl
theorem E2{kd:ak}{a:Nat}:∀{L:List (Nat×List UInt8)},(∀p∈L,p.1≠a)->(kd.writes L).look a=kd.look a:=by
 intro L;induction L generalizing kd with
 |nil=>intro _;rw[iB]
 |cons p L c=>intro h;rw[show p=(p.1,p.2)from rfl,<-kP,c λq b=>h q (.tail _ b),lM,aE λe=>h p (.head _) e.symm]
theorem Ps{W:World}{R:List ab}{D:aw}(r:Nat)(Y:eA)(b:Y.ok)(fr:List Int)(m:fr.length=Y.m)(o:D.bh.length=Y.m+1)(k st:Nat)(n:k<Y.m)(p:st<Y.s)(l:∀j,j<Y.c->gB fr k (st*Y.c+j)):
  az W Tryz.prog 180 [ip Y.b,.agg (cv Y.m Y.c Y.s).toArray,ip r,ii k,ii st] (de r Y fr (al Y.b D::R)) (i6 0) (de r Y fr (al Y.b D::R)):=by
 have f:=b.m;have e:=b.c;have g:=b.s;have q:st*Y.c<=256*16:=mo zO zO;refine ze Tryz.func180 Tryz.ntmps180 ?_;refine zj λ_=>?_;refine w ?_;rename_i d;refine zt (s:=jH ⟨Y.m,Y.c,Y.s⟩) (h:=?_);intro _ _;rw[lam ⟨⟨by dsimp only;omega,by dsimp only;omega⟩,⟨by dsimp only;omega,by dsimp only;omega⟩,by dsimp only;omega,by dsimp only;omega⟩];refine w ?_;refine zx [1] 5 [0,2,3,4,1,5,6] _ ?_;refine zr (s:=fK Y.b D) (h:=?_);intro _ _;rw[o];refine w ?_;refine VC.aK rfl rfl (by simp) ?_;refine w ?_;refine VO.gF rfl rfl rfl (gx zO) ?_;refine w ?_;refine VC.aK rfl rfl (gx zO) ?_;refine w ?_
 refine VC.loop (α:=Nat) (λi=>i<=Y.c) (λ_=>Row d 36 (cv Y.m Y.c Y.s)::de r Y fr (al Y.b D::R))
  (λi=>[(2,ip r),(3,ii k),(4,ii st),(6,ip d),(45,ii Y.c),(46,ii i)]) (λi=>Y.c-i) rfl 0 (c7 _) ae.re ⟨rfl,rfl,rfl,rfl,rfl,rfl,trivial⟩ ?_
 intro i t;refine w ?_;refine zk ?_ ?_<;>intro c
 ·
  have a:i<Y.c:=by have:=cI c;omega
  clear c;refine w ?_;refine VO.re 56 (ii ((st*Y.c+i:Nat):Int)) rfl (by congr 1) ?_;refine zr (s:=jL r Y fr m k n (st*Y.c+i)) (h:=?_);intro _ _;rw[ky (l i a)];refine w ?_;exact VE.round (i+1) a zO ⟨rfl,rfl,rfl,rfl,rfl,b7 rfl (by congr 1),trivial⟩ ae.re
 clear c;refine w ?_;exact VE.ax rfl rfl (ae.drop ae.refl)
abbrev Uy(b:Nat):Value:= .func (.func 53) #[ip b] #[]
def iZ(V:Nat->Nat->List UInt8)(k row c:Nat)(K:Kd):Kd:=λi=>if i=k then(K i).map λkd=>(kd.writes (ku V k row c)).settle λ_=>true else K i
theorem Pr{W:World}{R:List ab}{D:aw}{K:Kd}{V:Nat->Nat->List UInt8}{n c0:Nat}{kd:ak}(r:Nat)(Y:eA)(f:Y.ok)(fr:List Int)(v:Data Y fr K V)(N:bq W R Y.wo Y.wl)(M:Bq D n K c0)(G:c0<=1000000)(k st:Nat)(z:k<Y.m)(q:st<Y.s)(H:∀row,¬gB fr k row->row<st*Y.c)(b:K k=some kd)(Q:1+Y.s*Y.c<=kd.last.length):
  aq W Tryz.prog 181 [.agg (cv Y.m Y.c Y.s).toArray,ip r,ii k,ii st,Uy Y.b,fD Y.b] (de r Y fr (al Y.b D::R)) (β:=aw) (λD2=>Bq D2 n (iZ V k (st*Y.c) Y.c K) (c0+16)) (λ_=>.agg cD.toArray) (λD2=>de r Y fr (al Y.b D2::R)):=by
 have E:=f.m;have C:=f.c;have F:=f.s;have O:st*Y.c<=256*16:=mo zO zO;have A:(st+1)*Y.c<=Y.s*Y.c:=w9 _ q;rw[ux,Nat.one_mul]at A;have B:∀i,Data Y fr (ez K k (kd.writes (ku V k (st*Y.c) i))) V:=λi=>v.ez b rfl λrow J=>E2 λp L=>by
  obtain⟨j,P,rfl⟩:=fG.1 L;have:=H row J;dsimp only;omega
 refine ze Tryz.func181 Tryz.ntmps181 ?_;refine zj λ_=>?_;refine w ?_;rename_i t;refine zq ?_;refine ay.aB bE rfl ?_;intro u;refine w ?_
 refine VC.loop (α:=Nat×aw) (λy=>y.1<=Y.c/\Bq y.2 n (ez K k (kd.writes (ku V k (st*Y.c) y.1))) (c0+y.1)) (λy=>Row t 36 (cv Y.m Y.c Y.s)::Row u 174 cD::de r Y fr (al Y.b y.2::R))
  (λy=>[(1,ip r),(2,ii k),(3,ii st),(4,Uy Y.b),(5,fD Y.b),(6,ip t),(12,ip u),(20,ii Y.c),(21,ii y.1)]) (λy=>Y.c-y.1) rfl (0,D) ⟨c7 _,by show Bq D n (ez K k (kd.writes [])) c0;rw[iB,pz b];exact M⟩ ae.re ⟨rfl,rfl,rfl,rfl,rfl,rfl,rfl,rfl,rfl,trivial⟩ ?_
 rintro⟨i,D'⟩ ⟨I,c⟩;dsimp only at I c⊢;refine w ?_;refine zk ?_ ?_<;>intro g
 ·
  have o:i<Y.c:=by have:=cI g;omega
  clear g;refine w ?_;refine VO.re 14 (ii ((st*Y.c+i:Nat):Int)) rfl (by congr 1) ?_;refine zr (s:=xT (R:=Row t 36 (cv Y.m Y.c Y.s)::Row u 174 cD::R) r Y f fr (B i) (N.aR (ae.drop (ae.drop ae.refl))) c k z (st*Y.c+i) zO) (h:=?_);rintro⟨x,D2⟩ d;dsimp only at d⊢;refine zw ?_;refine ay.aB bE rfl ?_;intro n16;refine zS cD ?_;refine VO.re 44 (ii ((1+(st*Y.c+i):Nat):Int)) rfl (by congr 1) ?_;refine zq ?_;refine ay.gS rfl rfl (λ_ _=>by simp) (zn (x:=x) Y.b d zO k (1+(st*Y.c+i)) (eZ _ _ _) (by show _<kd.last.length;omega) (v.mu k (st*Y.c+i) z zO)) ae.re rfl ?_;intro l a;refine w ?_;refine VE.round (i+1,l) ⟨o,?_⟩ (by dsimp only;omega) ⟨rfl,rfl,rfl,rfl,rfl,rfl,rfl,rfl,b7 rfl (by congr 1),trivial⟩ ae.re;rw[<-wR]at a;dsimp only;rw[show ez (ez K k (kd.writes (ku V k (st*Y.c) i))) k (kd.writes (ku V k (st*Y.c) (i+1)))=ez K k (kd.writes (ku V k (st*Y.c) (i+1)))from funext λj=>by unfold ez;split<;>rfl]at a;exact a
 have m:i=Y.c:=by have:=dx g;omega
 clear g;subst m;refine zw ?_;refine ay.gS rfl rfl (λ_ _=>by simp) (IK Y.b c k (eZ _ _ _)) ae.re rfl ?_;intro l a;refine w ?_;refine VO.pure rfl rfl (af.build bE rfl (show aC _ _ _=some cD by simp[aC,bR,Value.cells])) rfl ?_;refine zS cD ?_;refine VE.results1 (.inl rfl) l rfl (aL.agg (vs:=cD) ah rfl rfl zm rfl rfl) ?_ rfl ae.re;rw[show ez (ez K k (kd.writes (ku V k (st*Y.c) Y.c))) k ((kd.writes (ku V k (st*Y.c) Y.c)).settle λ_=>true)=iZ V k (st*Y.c) Y.c K from funext λj=>by
  unfold ez iZ;split
  · rename_i e;rw[e,b];rfl
  · rfl]at a
 exact a.mono zO
end Go.Proofs.YtonpidcjpenflaaGreat
namespace Go.Proofs.YtonpidcjpenflaaGreat
open Go.RowKit Go.Sl
attribute [local irreducible] Sl.Own
section
variable{D:aw}{K:Kd}{n c0 m base:Nat}{kj:ak}{v:bT}{x:fY}
theorem Pu(b:Bq D n K c0)(c:K m=some kj)(f:v.slot=(m:Int))(h:dt v kj base x):
    ∃D' kj',qE (v,D)=(0,({v with sure:=true},D'))/\Bq D' n (ez K m kj') c0/\dt {v with sure:=true} kj' base (x.jl 3 [])/\∀s,Sr kj 0 s->Sr kj' 0 s:=by
  cases a:v.sure with
  |true=>
    have e:{v with sure:=true}=v:=by cases v;dsimp only at a;subst a;rfl
    exact⟨D,kj,by rw[e,Ks a],by rw[pz c];exact b,by rw[e];exact F4 h a,λs q=>q⟩
  |false=>
    rcases RY (b.pw c) f h.MM a with⟨D2,f1,f2,f3⟩|⟨d,_⟩
    · exact⟨D2,_,f1,b.Pa f2 (ak.fU (b.is m kj c).2.2) (c7 _) (eI _) f3,JG h a,λs q=>q.settle _⟩
    · exact cN b.c8 d
theorem Sr.Cu{k:ak}{s:List UInt8}(h:Sr k 0 s):∀{L:List (Nat×List UInt8)},(∀p∈L,p.1≠0)->Sr (k.writes L) 0 s:=by
 intro L;induction L generalizing k with
 |nil=>intro _;rw[iB];exact h
 |cons p L c=>intro a;rw[show p=(p.1,p.2)from rfl,<-kP];exact c (h.write λe=>cN e (a p (.head _))) λq b=>a q (.tail _ b)
theorem rz{k:ak}{L:List (Nat×List UInt8)}(h:k.ok)(a:∀p∈L,p.1<k.last.length/\p.2.length=128):(k.writes L).ok:=⟨h.last,λc b=>(l0.1 b).elim (h.cache c) (a c),h.size⟩
theorem DH{e:Nat}(a:Bq D n K c0)(f:K m=some kj)(l:v.slot=(m:Int))(h:dt v kj base x)(g:v.sure=true)(c:dJ e v.next):
  ∃D' kj',eO (v,D) e=(0,({v with epoch:=e,tail:=v.head,used:=0,log:=none},D'))/\Bq D' n (ez K m kj') c0/\dt {v with epoch:=e,tail:=v.head,used:=0,log:=none} kj' v.next ⟨[],0,none⟩/\∀s,Sr kj 0 s->Sr kj' 0 s:=by
 have k:=h.size;have o:=h.len;have j:v.head<=2047:=by have:=nE (v.tail+v.used) (show 0<v.size by omega);unfold bT.head;omega
 have d:(bJ.mk e v.next v.head).aX:=⟨c,by simp only;omega,by simp only;omega⟩;rcases PO (e:=e) (a.pw f) l h.MM g d zO with⟨D2,f1,f2,f3⟩|⟨i,_⟩
 · exact⟨D2,_,f1,a.Pa f2 (ak.fU (rz (a.is m kj f).2.2 λp b=>by rw[ju.1 b];exact⟨by dsimp only;omega,by dsimp only;rw[qL d];exact fm _ _ _ _ (nu _)⟩)) (c7 _) (eI _) f3,F3 h g c,λs q=>(q.Cu (L:=[_]) λp b=>by rw[ju.1 b];exact Nat.one_ne_zero).settle _⟩
 · exact cN a.c8 i
end
abbrev bT.rr(v:bT):bT:={v with sure:=true}
abbrev eA.done(Y:eA):eA:={Y with wo:=none,wc:=0,wl:=[]}
theorem l7{W:World}{R:List ab}(r:Nat)(Y:eA):az W Tryz.prog 176 [ip r,i6 0] (Row r 142 Y.cells::R) (.agg cD.toArray) (Row r 142 Y.cells::R):=by
 refine ze Tryz.func176 Tryz.ntmps176 ?_;refine zq ?_;refine ay.aB bE rfl ?_;intro a;refine zr (s:=l8 (Y.m:Int) 0) (h:=?_);intro _ _;refine zS cD ?_;exact VE.results1 (.inl rfl) () rfl (aL.agg (vs:=cD) ah rfl rfl zm rfl rfl) trivial rfl ae.re
structure kq(Y:eA)(fr:List Int)(K:Kd):Prop where
  len:fr.length=Y.m
  is:∀k row,k<Y.m->row<Y.s*Y.c->¬gB fr k row->∃kd,K k=some kd/\1+Y.s*Y.c<=kd.last.length
  of:∀p∈Y.wl,p.Of Y
  mx:Y.wl.length<=800000
  nil:Y.wl=[]->Y.wo=none/\Y.wc=0
theorem kq.ez{Y:eA}{fr:List Int}{K:Kd}{kd:ak}(h:kq Y fr K):kq Y fr (ez K Y.m kd):=⟨h.len,λk row a c b=>by rw[dH _ _ (Nat.ne_of_lt a)];exact h.is k row a c b,h.of,h.mx,h.nil⟩
theorem kq.none{Y:eA}{fr:List Int}{K:Kd}(h:kq Y fr K)(a:Nat):sI fr Y.wl Y.m a=none:=by
  unfold sI;split
  · rfl
  · cases e:cq Y.wl.reverse (Y.m:Int) ((a-1:Nat):Int)with
    |none=>rfl
    |some d=>
      obtain⟨p,b,c,_⟩:=jP e
      have:=(h.of p (KQ.1 b)).m
      omega
theorem kq.wrote{Y:eA}{fr:List Int}{K b:Kd}(h:kq Y fr K)(j:fA (sI fr Y.wl) K b):kq Y.done fr b:=⟨h.len,λk row d i c=>by
 obtain⟨kd,e,f⟩:=h.is k row d i c;obtain⟨l,e',a⟩:=(j k).2 kd e;exact⟨l,e',by rw[a.len];exact f⟩,λp g=>(by cases g),c7 _,λ_=>⟨rfl,rfl⟩⟩
theorem xS{W:World}{R:List ab}{D:aw}{K:Kd}{n c0:Nat}(r:Nat)(Y:eA)(o:Y.ok)(fr:List Int)(c:kq Y fr K)(p:bq W R Y.wo Y.wl)(l:Bq D n K c0)(g:c0<=1000000):
  aq W Tryz.prog 175 [ip r] (de r Y fr (al Y.b D::R)) (β:=aw×Kd) (λy=>Bq y.1 n y.2 (c0+Y.wl.length)/\fA (sI fr Y.wl) K y.2) (λ_=>.agg cD.toArray) (λy=>de r Y.done fr (al Y.b y.1::R)):=by
 refine ze Tryz.func175 Tryz.ntmps175 ?_;refine zq ?_;refine ay.aB bE rfl ?_;intro t;refine w ?_;refine zk ?_ ?_<;>intro d
 ·
  have b:Y.wl=[]:=QC.1 (by simpa using d);clear d;have f:Y.done=Y:=by obtain⟨j,k⟩:=c.nil b;cases Y;dsimp only at b j k;subst b j k;rfl
  rw[f];refine w ?_;refine VO.pure rfl rfl (af.build bE rfl (show aC _ _ _=some cD by simp[aC,bR,Value.cells])) rfl ?_;refine zS cD ?_;exact VE.results1 (.inl rfl) (D,K) rfl (aL.agg (vs:=cD) ah rfl rfl zm rfl rfl) ⟨by rw[b];exact l,fA.refl λi a=>by rw[b];unfold sI;split<;>rfl⟩ rfl ae.re
 have b:Y.wl≠[]:=λe=>by rw[e]at d;simp at d
 clear d;refine zr (s:=Az (R:=Row t 174 cD::R) (cap:=Y.wc) r Y o fr c.len c.is l Y.wl (p.aR (ae.drop ae.refl)) c.of c.mx g) (h:=?_);intro y q;refine zw ?_;refine ay.aB bE rfl ?_;intro u;refine zS cD ?_;refine zS cD ?_;exact VE.results1 (.inl rfl) y rfl (aL.agg (vs:=cD) ah rfl rfl zm rfl rfl) q rfl ae.re
theorem Gr{W:World}{R:List ab}{D:aw}{K:Kd}{n c0:Nat}{wp:Nat}(r:Nat)(Y:eA)(d:Y.ok)(v:bT)(a:Y.w=ik wp)(f:v.sure=true)(fr:List Int)(c:kq Y fr K)(g:bq W R Y.wo Y.wl)(e:Bq D n K c0)(b:c0<=1000000):
  aq W Tryz.prog 113 [ip r] (de r Y fr (bz wp Y.b v::al Y.b D::R)) (β:=aw×Kd) (λy=>Bq y.1 n y.2 (c0+Y.wl.length)/\fA (sI fr Y.wl) K y.2) (λ_=>.agg cD.toArray) (λy=>de r Y.done fr (bz wp Y.b v::al Y.b y.1::R)):=by
 refine ze Tryz.func113 Tryz.ntmps113 ?_;refine zq ?_;refine ay.aB bE rfl ?_;intro j;refine w ?_;refine VO.re 8 (.bool false) rfl (by rw[a];rfl) ?_;refine w ?_;refine VO.re 12 (ip wp) rfl (by rw[a]) ?_;refine zr (s:=GP wp Y.b v) (h:=?_);intro _ _;rw[f];refine zr (s:=xS (R:=bz wp Y.b v::Row j 174 cD::R) r Y d fr c (g.aR (ae.drop (ae.drop ae.refl))) e b) (h:=?_);intro y i;refine zS cD ?_;exact VE.results1 (.inl rfl) y rfl (aL.agg (vs:=cD) ah rfl rfl zm rfl rfl) i rfl ae.re
theorem rf{W:World}{R:List ab}{D:aw}{K:Kd}{n c0 base:Nat}{wp:Nat}{kj:ak}{v:bT}{x:fY}(r:Nat)(Y:eA)(t:Y.ok)(b:Y.w=ik wp)(fr:List Int)(l:kq Y fr K)(C:bq W R Y.wo Y.wl)(A:Bq D n K c0)(e:c0<=1000000)(u:K Y.m=some kj)(B:v.slot=(Y.m:Int))(z:dt v kj base x):
  aq W Tryz.prog 124 [ip r] (de r Y fr (bz wp Y.b v::al Y.b D::R)) (β:=aw×Kd) (λy=>Bq y.1 n y.2 (c0+Y.wl.length)/\∃kj',y.2 Y.m=some kj'/\dt v.rr kj' base (x.jl 3 [])/\(∀s,Sr kj 0 s->Sr kj' 0 s)/\fA (sI fr Y.wl) (ez K Y.m kj') y.2) (λ_=>.agg cD.toArray) (λy=>de r Y.done fr (bz wp Y.b v.rr::al Y.b y.1::R)):=by
 obtain⟨G,kj',p,g,f,j⟩:=Pu A u B z;have c:=λR=>GQ (W:=W) (R:=R) (D:=D) wp Y.b v;rw[p]at c;refine ze Tryz.func124 Tryz.ntmps124 ?_;refine zq ?_;refine ay.aB bE rfl ?_;intro F;refine w ?_;refine VC.aK rfl rfl (by rw[b];rfl) ?_;refine w ?_;refine VO.re 14 (ip wp) rfl (by rw[b]) ?_;refine zr (s:=c _) (h:=?_);intro _ _;refine zr (s:=l7 r Y) (h:=?_);intro _ _;refine zw ?_;refine ay.aB bE rfl ?_;intro E;refine zS cD ?_;refine zr (s:=Gr (R:=Row E 174 cD::Row F 174 cD::R) r Y t v.rr b rfl fr l.ez (C.aR (ae.drop (ae.drop ae.refl))) g e) (h:=?_);rintro⟨D2,o⟩ ⟨i,d⟩;refine zS cD ?_;refine VE.results1 (.inl rfl) (D2,o) rfl (aL.agg (vs:=cD) ah rfl rfl zm rfl rfl) ⟨i,kj',?_,f,j,d⟩ rfl ae.re;obtain⟨H,k,q⟩:=(d Y.m).2 kj' (eZ _ _ _);rw[q.same λa=>l.none a]at k;exact k
end Go.Proofs.YtonpidcjpenflaaGreat
namespace Go.Proofs.YtonpidcjpenflaaGreat
open Go.RowKit Go.Sl
attribute [local irreducible] Sl.Own
theorem TI:cH Tryz.prog 260 177 .nilFunc 1 8:=⟨by kernel_rfl,by kernel_rfl,rfl,by simp[Value.cells,Value.oneCell']⟩
abbrev E8(g:FuncId)(r:Nat):Value:= .func (.func g) #[ip r] #[]
abbrev bT.emp(v:bT):bT:={v.rr with tail:=v.head,used:=0,log:=none}
def lQ(fr:List Int)(Y:eA)(K b:Kd)(d kj':ak):Prop:=∃c a,fA (sI fr Y.wl) (ez K Y.m c) a/\b=ez (fO fr Y.m a) Y.m kj'/\∀s,Sr d 0 s->Sr kj' 0 s
theorem tH{W:World}{R:List ab}{D:aw}{K:Kd}{n c0 base:Nat}{wp:Nat}{z:ak}{v:bT}{x:fY}(r:Nat)(Y:eA)(g:Y.ok)(j:Y.w=ik wp)(fr:List Int)(B:kq Y fr K)(hw:bq W R Y.wo Y.wl)(Z:Bq D n K c0)(E:c0<=1000000)(F:K Y.m=some z)(N:v.slot=(Y.m:Int))(X:dt v z base x)(T:1<=base)(C:dJ v.epoch v.next):
  aq W Tryz.prog 115 [ip r] (de r Y fr (bz wp Y.b v::al Y.b D::R)) (β:=aw×Kd) (λy=>Bq y.1 n y.2 (c0+Y.wl.length)/\∃kj',y.2 Y.m=some kj'/\dt v.emp kj' v.next ⟨[],0,none⟩/\lQ fr Y K y.2 z kj') (λ_=>.agg cD.toArray) (λy=>de r Y.done fr (bz wp Y.b v.emp::al Y.b y.1::R)):=by
 have M:=B.mx;have Q:=g.m;have S:=g.s;have P:=g.c;have p:0<Y.s*Y.c:=Nat.mul_pos zO zO;have d:∀u∈[E8 124 r,E8 138 r],u.oneCell'=true:=by simp[Value.oneCell']
 refine ze Tryz.func115 Tryz.ntmps115 ?_;refine zq ?_;refine ay.aB bE rfl ?_;intro l;refine w ?_;refine VO.pure rfl rfl (af.cm rfl) rfl ?_;refine w ?_;refine VO.pure rfl rfl (af.cm rfl) rfl ?_;refine w ?_;refine zq ?_;refine ay.bP TI rfl rfl (by simp[Value.oneCell']) (by decide) rfl ?_;intro nb;refine w ?_
 refine VC.loop (α:=Nat×aw×Kd) (λy=>y.1<=2/\(if y.1=0 then y.2=(D,K)else Bq y.2.1 n y.2.2 (c0+Y.wl.length)/\∃kj' b,b Y.m=some kj'/\dt v.rr kj' base (x.jl 3 [])/\(∀s,Sr z 0 s->Sr kj' 0 s)/\fA (sI fr Y.wl) (ez K Y.m kj') b/\(y.2.2=if y.1=1 then b else fO fr Y.m b)))
  (λy=>Row nb 177 [E8 124 r,E8 138 r]::Row l 174 cD::de r (if y.1=0 then Y else Y.done) fr (bz wp Y.b (if y.1=0 then v else v.rr)::al Y.b y.2.1::R))
  (λy=>[(0,ip r),(2,ip l),(10,.slice (ik nb) 2 2),(11,ii 2),(12,ii y.1)]) (λy=>2-y.1) rfl (0,D,K) ⟨c7 _,by rw[lam rfl]⟩ ae.re ⟨rfl,rfl,rfl,rfl,rfl,trivial⟩ ?_
 rintro⟨i,D',J⟩ ⟨V,f⟩;dsimp only at V f⊢;rcases(show i=0\/i=1\/i=2 by omega)with rfl|rfl|rfl
 ·
  rw[lam rfl]at f;injection f with O A;subst O A;rw[lam rfl,lam rfl];have hr1:aV W (Row nb 177 [E8 124 r,E8 138 r]::Row l 174 cD::de r Y fr (bz wp Y.b v::al Y.b D'::R)) 1 (ik nb) 2 [E8 124 r,E8 138 r]:=aV.row d (.head _) rfl;refine zw ?_;refine ay.gS rfl rfl (λ_ _=>by simp) (rf (R:=Row nb 177 [E8 124 r,E8 138 r]::Row l 174 cD::R) r Y g j fr B (hw.aR (ae.drop (ae.drop ae.refl))) Z E F N X) ae.re rfl ?_;rintro⟨D2,L⟩ ⟨a,kj',g1,g2,g3,g4⟩;refine zw ?_;refine ay.aB bE rfl ?_;intro n5;refine zS cD ?_;exact VE.round (1,D2,L) ⟨Nat.le_succ 1,by rw[aE Nat.one_ne_zero];exact⟨a,kj',L,g1,g2,g3,g4,by rw[lam rfl]⟩⟩ (by dsimp only;omega) ⟨rfl,rfl,rfl,rfl,b7 rfl rfl,trivial⟩ ae.re
 ·
  rw[aE (by decide)]at f;obtain⟨c,kj',b,g1,g2,g3,g4,g5⟩:=f;rw[lam rfl]at g5;subst g5;rw[aE (by decide),aE (by decide)];have hr1:aV W (Row nb 177 [E8 124 r,E8 138 r]::Row l 174 cD::de r Y.done fr (bz wp Y.b v.rr::al Y.b D'::R)) 1 (ik nb) 2 [E8 124 r,E8 138 r]:=aV.row d (.head _) rfl;have m:=B.ez.wrote g4;refine zw ?_;refine ay.gS rfl rfl (λ_ _=>by simp) (uF (R:=bz wp Y.b v.rr::Row nb 177 [E8 124 r,E8 138 r]::Row l 174 cD::R) r Y.done ⟨g.m,g.c,g.s⟩ fr m.len (λk F U=>by obtain⟨kd,e,_⟩:=m.is k 0 F p U;rw[e];rfl) c) ae.re rfl ?_;intro D2 a;refine zw ?_;refine ay.aB bE rfl ?_;intro n5;refine zS cD ?_;exact VE.round (2,D2,fO fr Y.m J) ⟨eI 2,by rw[aE (by simp)];exact⟨a,kj',J,g1,g2,g3,g4,by rw[aE (by simp)]⟩⟩ (by dsimp only;omega) ⟨rfl,rfl,rfl,rfl,b7 rfl rfl,trivial⟩ ae.re
 rw[aE (by decide)]at f;obtain⟨c,kj',b,g1,g2,g3,g4,g5⟩:=f;rw[aE (by decide)]at g5;subst g5;rw[aE (by decide),aE (by decide)];have G:fO fr Y.m b Y.m=some kj':=by unfold fO;rw[aE (λe=>RC _ e.1)];exact g1
 obtain⟨D2,t,A,a,H,I⟩:=DH (v:=v.rr) c G N g2 rfl C;have o:=λR=>y3 (W:=W) (R:=R) (D:=D') (c0:=c0+Y.wl.length) wp Y.b v.rr (g2.SJ C.1 C.2.2 T) c.cap zO;rw[A]at o;refine w ?_;refine VC.aK rfl rfl (by rw[j];rfl) ?_;refine w ?_;refine VO.re 33 (ip wp) rfl (by rw[j]) ?_;refine zr (s:=o _) (h:=?_);intro _ _;refine zr (s:=l7 r Y.done) (h:=?_);intro _ _;refine zS cD ?_;exact VE.results1 (.inl rfl) (D2,ez (fO fr Y.m b) Y.m t) rfl (aL.agg (vs:=cD) ah rfl rfl zm rfl rfl) ⟨a,t,eZ _ _ _,H,kj',b,g4,rfl,λs q=>I s (g3 s q)⟩ rfl ae.re
end Go.Proofs.YtonpidcjpenflaaGreat
namespace Go.Proofs.YtonpidcjpenflaaGreat
open Go.RowKit Go.Sl
attribute [local irreducible] Sl.Own
def mg(m:Nat)(K K':Kd):Prop:=∀i,i≠m->∀kd,K i=some kd->∃a,K' i=some a/\a.last.length=kd.last.length
section
variable{K K' K'':Kd}{m:Nat}
theorem mg.trans(h:mg m K K')(g:mg m K' K''):mg m K K'':=λi a kd e=>by
 obtain⟨j,b,d⟩:=h i a kd e;obtain⟨k,c,f⟩:=g i a j b;exact⟨k,c,f.trans d⟩
theorem dM(k:ak)(f:Nat->Bool):(k.settle f).last.length=k.last.length:=by unfold ak.settle;rw[iJ]
theorem mg.wrote{f:Nat->Nat->Option (List UInt8)}(m:Nat)(h:fA f K K'):mg m K K':=λi _ kd e=>by
 obtain⟨b,e',a⟩:=(h i).2 kd e;exact⟨b,e',a.len⟩
theorem mg.TR(m:Nat)(fr:List Int)(M:Nat)(K:Kd):mg m K (fO fr M K):=λi _ kd e=>by
 unfold fO;split
 · exact⟨_,by rw[e];rfl,dM _ _⟩
 · exact⟨kd,e,rfl⟩
theorem mg.ez(m:Nat)(K:Kd)(kj:ak):mg m K (Go.Proofs.YtonpidcjpenflaaGreat.ez K m kj):=λi a kd e=>⟨kd,by rw[dH _ _ a];exact e,rfl⟩
theorem mg.Ua(m:Nat)(V:Nat->Nat->List UInt8)(k row c:Nat)(K:Kd):mg m K (iZ V k row c K):=λi _ kd e=>by
 unfold iZ;split
 · rw[e];exact⟨_,rfl,dM _ _⟩
 · exact⟨kd,e,rfl⟩
theorem iS.same{X:aY}{n:Nat}(h:iS X K n)(d:mg X.m K K')(c:∃kd,K' X.m=some kd/\0<kd.last.length):iS X K' n:=⟨h.ok,h.n,h.ev,h.fit,h.enc,h.len,c,λi b a=>by
 obtain⟨kd,e,q⟩:=h.is i b a;obtain⟨f,e',g⟩:=d i (by have:=h.ok.st;omega) _ e;exact⟨f,e',by omega⟩⟩
theorem lQ.same{fr:List Int}{Y:eA}{kj kj':ak}(h:lQ fr Y K K' kj kj'):mg Y.m K K':=by
 obtain⟨c,a,b,rfl,_⟩:=h;exact(mg.ez Y.m K c).trans ((mg.wrote Y.m b).trans ((mg.TR Y.m fr Y.m a).trans (mg.ez Y.m _ _)))
theorem oU{v:bT}{k:ak}{base:Nat}{x:fY}(h:dt v k base x):0<k.last.length:=by have:=h.len;omega
end
abbrev A0(wp b:Nat)(v:bT)(D:aw)(R:List ab):List ab:=bz wp b v::al b D::R
section
variable{W:World}{R:List ab}{D:aw}{K:Kd}{n c0 base:Nat}{wp:Nat}{kj:ak}{v:bT}{x:fY}
theorem Ip(a r:Nat)(X:aY)(b:X.ro=false)(q:X.r=ik r)(Y:eA)(i:Y.ok)(f:Y.w=ik wp)(fr:List Int)(g:kq Y fr K)(u:bq W R Y.wo Y.wl)(p:Bq D n K c0)(c:c0<=1000000)(l:K Y.m=some kj)(t:v.slot=(Y.m:Int))(o:dt v kj base x)(j:1<=base)(k:dJ v.epoch v.next):
  aq W Tryz.prog 62 [ip a] (Row a 102 X.cells::de r Y fr (A0 wp Y.b v D R)) (β:=aw×Kd) (λy=>Bq y.1 n y.2 (c0+Y.wl.length)/\∃kj',y.2 Y.m=some kj'/\dt v.emp kj' v.next ⟨[],0,none⟩/\lQ fr Y K y.2 kj kj') (λ_=>i6 0) (λy=>Row a 102 X.cells::de r Y.done fr (A0 wp Y.b v.emp y.1 R)):=by
 (refine aq.oL Tryz.func62 Tryz.ntmps62 rfl rfl ?_);refine wr ?_;refine zq ?_;refine ay.alloc (z:=(i6 0)) (λw=>by simp) rfl rfl ?_;intro ne;refine wr ?_;refine VR.iF rfl rfl rfl rfl ?_;refine wr ?_;refine zr (s:=jD a X) (h:=?_);intro _ _;refine wr ?_;refine VR.aK rfl rfl (b) ?_;refine wr ?_;refine VO.re 13 (ip r) rfl (by rw[q]) ?_;refine VO.pure rfl rfl (af.cm rfl) rfl ?_;refine wr ?_;have d:=tH (W:=W) (R:=Row a 102 X.cells::Row ne 40 [i6 0]::R) r Y i f fr g (u.aR (ae.drop (ae.drop ae.refl))) p c l t o j k;have e:=rI (bnd:=#[ip r]) (cap:=#[]) (H:=de r Y fr (A0 wp Y.b v D (Row ne 40 [i6 0]::R))) (G:=λy:aw×Kd=>de r Y.done fr (A0 wp Y.b v.emp y.1 (Row ne 40 [i6 0]::R))) a X b (λ_ _=>by simp) (fX ae.re (aq.mono d (λy=>y) (λ_ h=>h) (λ_ _=>rfl) (λ_ _=>ae.re)));refine zr (s:=e) (h:=?_);intro y A;refine wr ?_;refine VF.aR (H':=Row ne 40 [i6 0]::Row a 102 X.cells::de r Y.done fr (A0 wp Y.b v.emp y.1 R)) ae.re ?_;exact VF.kU (.inl rfl) (λ_ _=>by simp) gp y rfl (aL.leaf ah rfl rfl (.head _) rfl) A rfl (ae.drop ae.refl)
theorem CN{kd:ak}(a r:Nat)(X:aY)(e:X.ok)(g:X.ro=false)(L:X.r=ik r)(Y:eA)(P:Y.ok)(C:Y.w=ik wp)(i:Y.b=X.b)(c:Y.m=X.m)(fr:List Int)(I:kq Y fr K)(hw:bq W R Y.wo Y.wl)(q:Bq D n K c0)(T:c0<=950000)(U:K Y.m=some kj)(hv:v.slot=(Y.m:Int))(hl:dt v kj base x)(Q:1<=base)(S:dJ v.epoch v.next)(B:Y.wl.length<=10000)
  (k:Nat)(Z:k<X.m)(E:X.st[k]?=some 2)(l:K k=some kd)(V:1+X.s*X.c<=kd.last.length)(F:iS (X.put k 3 0) K n):
  aq W Tryz.prog 68 [ip a,ii k] (Row a 102 X.cells::dz X::de r Y fr (A0 wp Y.b v D R)) (β:=aw×Kd) (λy=>Bq y.1 n (jF (X.put k 3 0) y.2) (c0+Y.wl.length+40)/\∃kj',y.2 Y.m=some kj'/\dt v.emp kj' v.next ⟨[],0,none⟩/\lQ fr Y K y.2 kj kj') (λ_=>i6 0) (λy=>Row a 102 (X.put k 3 0).told.cells::dz (X.put k 3 0)::de r Y.done (bU (X.put k 3 0)) (A0 wp Y.b v.emp y.1 R)):=by
 have O:=e.m;have aa:=e.st;have J:=B;have h4:X.s*X.c<=256*16:=mo e.s.2 e.c.2;have p:X.st[k]'zO=2:=by
  rw[fL zO]at E;exact CD E
 have d:D.dev (k:Int)=some ⟨kd,false,0⟩:=FC (q.is k kd l).1;have f:=(q.is k kd l).2.1;rw[i];refine aq.oL Tryz.func68 Tryz.ntmps68 rfl rfl ?_;refine wr ?_;refine zq ?_;refine ay.alloc (z:=(i6 0)) (λw=>by simp) rfl rfl ?_;intro ne;refine wr ?_;refine VR.iF rfl rfl rfl rfl ?_;refine wr ?_;refine zr (s:=jD a X) (h:=?_);intro _ _;refine wr ?_;refine VR.aK rfl rfl (g) ?_;refine wr ?_;refine VR.aK rfl rfl (gx zO) ?_;refine wr ?_;refine zr (s:=kR a X k zO) (h:=?_);intro _ _;rw[p];refine wr ?_;refine zr (s:=zc X.b D k) (h:=?_);intro _ _;rw[d];refine wr ?_;rw[show(Option.any (λv:iQ=>!v.k.failed) (some ⟨kd,false,0⟩))=true by simp[f]];refine wr ?_;refine VR.drawn [5] 11 [0,1,2,3,4,6,7,8,9,10,5,11,12,13,14] _ rfl (by kernel_rfl) (by kernel_rfl) ae.re ?_;refine wr ?_;refine zr (s:=jS X.b D k) (h:=?_);intro _ _;rw[d];refine wr ?_;refine zt (s:=gn e.m e.c e.s) (h:=?_);intro _ _;refine wr ?_;refine VR.aK rfl rfl (gx (by simp only[Option.elim];omega)) ?_;refine wr ?_;refine VO.re 56 (ip r) rfl (by rw[L]) ?_;refine VO.pure rfl rfl (af.cm rfl) rfl ?_;refine wr ?_;have j:=tH (W:=W) (R:=Row a 102 X.cells::Row ne 40 [i6 0]::dz X::R) r Y P C fr I (hw.aR (ae.drop (ae.drop (ae.drop ae.refl)))) q zO U hv hl Q S;rw[i]at j;have A:=rI (bnd:=#[ip r]) (cap:=#[]) (H:=de r Y fr (A0 wp X.b v D (Row ne 40 [i6 0]::dz X::R))) (G:=λy:aw×Kd=>de r Y.done fr (A0 wp X.b v.emp y.1 (Row ne 40 [i6 0]::dz X::R))) a X g (λ_ _=>by simp) (fX ae.re (aq.mono j (λy=>y) (λ_ h=>h) (λ_ _=>rfl) (λ_ _=>ae.re)));refine zr (s:=A) (h:=?_);rintro⟨D1,M⟩ ⟨t,o,g1,g2,g3⟩;refine wr ?_;refine zq ?_;refine ay.EJ ah rfl rfl rfl rfl zh (by rw[ff];omega) ?_;refine wr ?_;rw[show(bytes X.st).set k (ib 3)=(bytes X.st).set k (ib (((3:UInt8).toNat:Nat):Int))from rfl,<-B0 X k 3 0];rw[show X.cells.set _ (ii 0)=(X.put k 3 0).cells from(tC X k 3 0).symm];have N:=F.ok;have b:=g3.same;rw[c]at b g1;refine zr (s:=lS a r (X.put k 3 0) Y.done (F.same b ⟨o,g1,oU g2⟩) g L c fr (I.len.trans c) t zO) (h:=?_);intro D2 u;refine wr ?_;refine zr (s:=kR a (X.put k 3 0).told k (by show k<(X.st.set k 3).length;rw[vD];omega)) (h:=?_);intro _ _;rw[ky (by show(X.st.set k 3)[k]'_≠2;rw[List.getElem_set_self];decide)];refine wr ?_;refine VF.aR (H':=Row ne 40 [i6 0]::Row a 102 (X.put k 3 0).told.cells::dz (X.put k 3 0)::de r Y.done (bU (X.put k 3 0)) (A0 wp X.b v.emp D2 R)) ae.re ?_;exact VF.kU (.inl rfl) (λ_ _=>by simp) gp (D2,M) rfl (aL.leaf ah rfl rfl (.head _) rfl) ⟨u,o,by rw[c];exact g1,g2,g3⟩ rfl (ae.drop ae.refl)
end
end Go.Proofs.YtonpidcjpenflaaGreat
namespace Go.Proofs.YtonpidcjpenflaaGreat
open Go.RowKit Go.Sl
attribute [local irreducible] Sl.Own
abbrev D8(m:Nat):List Value:=List.replicate m (.bool false)
abbrev tq(l:List Nat):List Value:=l.map λn=>ii (n:Nat)
theorem D7(l:List Nat):∀u∈tq l,u.oneCell'=true:=by
 intro u a;obtain⟨n,_,rfl⟩:=fG.1 a;rfl
structure Cy where
  m:Nat
  c:Nat
  s:Nat
  da:Nat
  po:Option Addr
  pc:Nat
  l:List aj
  par:Nat
abbrev Cy.cells(x:Cy):List Value:=[ii x.m,ii x.c,ii x.s,.slice (ik x.da) x.m x.m,.slice x.po x.l.length x.pc,ii x.par]
structure fZ(m c s r:Nat)(l:List aj):Prop where
  ne:l≠[]
  row:r<s*c
  of:∀i (h:i<l.length),0<=l[i].av/\l[i].av<m/\l[i].row=r/\l[i].av≠(eD m (r/c):Nat)/\l[i].d.data.length=128
  inc:∀i (h:i+1<l.length),(l[i]'(Nat.lt_of_succ_lt h)).av<l[i+1].av
theorem fZ.low{m c s r:Nat}{l:List aj}(h:fZ m c s r l):∀i (a:i<l.length),(i:Int)<=l[i].av/\(((eD m (r/c):Nat):Int)<l[i].av->(i:Int)+1<=l[i].av)
  |0,a=>by have:=h.of 0 a;omega
  |i+1,a=>by
    have:=h.low i zO;have:=h.of i zO;have:=h.of (i+1) a;have:=h.inc i a;omega
theorem fZ.mx{m c s r:Nat}{l:List aj}(h:fZ m c s r l)(a:3<=m):l.length+1<=m:=by
 have f:0<l.length:=KO.2 h.ne;have b:=h.low (l.length-1) zO;have d:=h.of (l.length-1) zO;have e:=jV a (r/c);omega
section
variable{W:World}{R:List ab}
theorem Mr(f:aj->Bool)(l:List aj):decide (0<=BB f l)=l.any f:=by
 rw[<-List.findIdx?_isSome];unfold BB;cases List.findIdx? f l with
 |none=>rfl
 |some i=>exact ky (Int.natCast_nonneg i)
theorem Ee{g:FuncId}{cp:Array Value}{ao:Option Addr}{cap:Nat}{l:List aj}(f:aj->Bool)(b:∀a w,(callFunc g a).run Tryz.prog w= .ok (.enter g a) w)(e:aV W R 3 ao l.length (bg l))(d:l.length<=1000000)
  (c:∀p∈l,az W Tryz.prog g (.agg p.cells.toArray::cp.toList) R (.bool (f p)) R):az W Tryz.prog 354 [.slice ao l.length cap,.func (.func g) #[] cp] R (.bool (l.any f)) R:=by
 (refine aq.enter Tryz.func354 Tryz.ntmps354 rfl rfl ?_);refine zt (s:=HV f b e d c) (h:=?_);intro _ _;refine w ?_;exact VE.ax rfl (by congr 1;exact Mr f l) ae.refl
theorem Jo(a:Nat)(k:Int)(p:aj):az W Tryz.prog 373 [.agg p.cells.toArray,ip a] (Row a 3 [ii k]::R) (.bool (p.av==k)) (Row a 3 [ii k]::R):=by
 refine ze Tryz.func373 Tryz.ntmps373 ?_;refine zj λ_=>?_;refine w ?_;exact VE.ax rfl rfl (ae.drop ae.refl)
theorem Dy(b:Nat)(x:Cy)(k:Int)(d:bq W R x.po x.l)(c:x.l.length<=1000000):az W Tryz.prog 357 [ip b,ii k] (Row b 428 x.cells::R) (.bool (x.l.any λp=>p.av==k)) (Row b 428 x.cells::R):=by
 refine ze Tryz.func357 Tryz.ntmps357 ?_;refine zj λ_=>?_;refine w ?_;rename_i a;refine VO.pure rfl rfl (af.bB rfl) rfl ?_;refine zt (s:=Ee (λp=>p.av==k) (λ_ _=>by simp) (d.gz.aR (ae.drop (ae.drop ae.refl))) c (λp _=>Jo a k p)) (h:=?_);intro _ _;refine w ?_;exact VE.ax rfl rfl (ae.drop ae.refl)
abbrev A9(b a:Nat)(x:Cy)(R:List ab):List ab:=Row b 428 x.cells::Row a 421 [ip b]::R
theorem E0{g:FuncId}{cp:Array Value}(b d:Nat)(x:Cy)(u:x.m<=16)(f:Nat->Bool)(m:∀a w,(callFunc g a).run Tryz.prog w= .ok (.enter g a) w)
    (p:∀(S:ab)(i:Nat),az W Tryz.prog g (ii i::cp.toList) (A9 b d x (S::R)) (.bool (f i)) (A9 b d x (S::R))):
    aq W Tryz.prog 355 [ip b,.func (.func g) #[] cp] (A9 b d x R) (β:=Option Addr×Nat) (λ_=>True) (λy=>.slice y.1 ((List.range x.m).filter f).length y.2)
      (λy=>Sl.Own 3 1 (.slice y.1 ((List.range x.m).filter f).length y.2) ((List.range x.m).filter f).length (tq ((List.range x.m).filter f))::Row b 428 x.cells::R):=by
  refine ze Tryz.func355 Tryz.ntmps355 ?_;refine VC.aR (H':=Sl.Own 3 1 (.slice none 0 0) 0 []::A9 b d x R) (λw r=>r.aZ 3 1) ?_
  refine VC.loop (α:=Nat×(Option Addr×Nat)) (λy=>y.1<=x.m) (λy=>Sl.Own 3 1 (.slice y.2.1 ((List.range y.1).filter f).length y.2.2) ((List.range y.1).filter f).length (tq ((List.range y.1).filter f))::A9 b d x R)
    (λy=>[(0,ip b),(1,.func (.func g) #[] cp),(5,.slice y.2.1 ((List.range y.1).filter f).length y.2.2),(11,ii x.m),(12,ii y.1)]) (λy=>x.m-y.1) rfl (0,none,0) (c7 _) ae.refl ⟨rfl,rfl,rfl,rfl,rfl,trivial⟩ ?_
  rintro⟨i,ao,cap⟩ q;dsimp only at q⊢;obtain⟨L,e⟩:∃L,(List.range i).filter f=L:=⟨_,rfl⟩;have o:L.length<=i:=by rw[<-e];exact qX (HH _ _) (by rw[KN];omega)
  have c:(List.range (i+1)).filter f=if f i then L++[i]else L:=by
    rw[KR,Oe,e];cases h:f i<;>simp[h]
  rw[e];refine w ?_;refine zk ?_ ?_<;>intro l
  · have k:i<x.m:=by have:=cI l;omega
    clear l
    refine zw ?_
    refine ay.call rfl rfl m (p (Sl.Own 3 1 (.slice ao L.length cap) L.length (tq L)) i) ae.re rfl ?_
    intro _ _
    cases j:f i with
    |true=>
      rw[j,lam rfl]at c
      refine w ?_
      refine zq ?_;refine ay.bP py rfl rfl (by simp[Value.oneCell']) (by decide) rfl ?_;intro nb
      refine zq ?_;refine ay.cg py rfl rfl zh zm rfl (by simp[Value.oneCell']) ?_ ?_ rfl ?_
      · simp only[maxLen];omega
      · omega
      intro t s
      refine w ?_
      refine VE.round (i+1,t,s) k (by dsimp only;omega) ⟨rfl,rfl,b7 rfl (by dsimp only;rw[c,c9,ie]),rfl,b7 rfl (by congr 1),trivial⟩ ?_
      dsimp only
      rw[c,c9,ie,show tq (L++[i])=tq L++[ii (i:Nat)]from jv]
      exact ae.re
    |false=>
      rw[j,aE (by simp)]at c
      refine w ?_
      refine VE.round (i+1,ao,cap) k (by dsimp only;omega) ⟨rfl,rfl,b7 rfl (by dsimp only;rw[c]),rfl,b7 rfl (by congr 1),trivial⟩ ?_
      dsimp only
      rw[c]
      exact ae.re
  have n:i=x.m:=by have:=dx l;omega
  clear l;subst n;refine w ?_;exact VE.done (ao,cap) rfl trivial (by dsimp only;rw[e]) (by dsimp only;rw[e];exact ae.re)
def Eo(par:Nat)(M:List Int)(i:Nat):Bool:=((i:Int) != (par:Int))&&!(M.any λp=>p==(i:Int))
def MO(par:Nat)(M:List Int)(i:Nat):Bool:=((i:Int)==(par:Int))||M.any λp=>p==(i:Int)
abbrev Cy.M(x:Cy):List Int:=(x.l.map aj.D).map (·.av)
theorem Cy.any(x:Cy)(k:Int):(x.M.any λp=>p==k)=x.l.any λp=>p.av==k:=by
 rw[List.any_map,List.any_map];rfl
theorem Nc(b a:Nat)(x:Cy)(i:Nat)(e:bq W R x.po x.l)(d:x.l.length<=1000000):az W Tryz.prog 356 [ii i,ip a] (A9 b a x R) (.bool (Eo x.par x.M i)) (A9 b a x R):=by
 refine ze Tryz.func356 Tryz.ntmps356 ?_;unfold Eo;rw[x.any];refine zg ?_ ?_<;>intro c
 ·
  rw[show((i:Int) != (x.par:Int))=true from c];refine zr (s:=Dy (R:=Row a 421 [ip b]::R) b x i (e.aR (ae.drop ae.refl)) d) (h:=?_);intro _ _;refine w ?_;exact VE.ax rfl (by rw[Bool.true_and]) ae.re
 ·
  rw[show((i:Int) != (x.par:Int))=false from c];refine w ?_;exact VE.ax rfl rfl ae.re
theorem PM(b a:Nat)(x:Cy)(i:Nat)(e:bq W R x.po x.l)(d:x.l.length<=1000000):az W Tryz.prog 358 [ii i,ip a] (A9 b a x R) (.bool (MO x.par x.M i)) (A9 b a x R):=by
 refine ze Tryz.func358 Tryz.ntmps358 ?_;unfold MO;rw[x.any];refine zg ?_ ?_<;>intro c
 ·
  rw[show((i:Int)==(x.par:Int))=true from c];refine w ?_;exact VE.ax rfl rfl ae.re
 ·
  rw[show((i:Int)==(x.par:Int))=false from c];refine zr (s:=Dy (R:=Row a 421 [ip b]::R) b x i (e.aR (ae.drop ae.refl)) d) (h:=?_);intro _ _;refine w ?_;exact VE.ax rfl (by rw[Bool.false_or]) ae.re
abbrev jC(y:Option Addr×Nat)(L:List Nat):ab:=Sl.Own 3 1 (.slice y.1 L.length y.2) L.length (tq L)
def lD(m par:Nat)(M:List Int)(md:Nat):List Nat:=if md=3 then(List.range m).filter (Eo par M)else if md=2 then(List.range m).filter (MO par M)else[]
def tG(md:Nat):FuncId:=if md=3 then 325 else if md=2 then 326 else 324
theorem JS(b:Nat)(x:Cy)(md:Nat)(g:x.m<=16)(c:bq W R x.po x.l)(f:x.l.length<=1000000):aq W Tryz.prog (tG md) [ip b] (Row b 428 x.cells::R) (β:=Option Addr×Nat) (λ_=>True) (λy=>.slice y.1 (lD x.m x.par x.M md).length y.2) (λy=>jC y (lD x.m x.par x.M md)::Row b 428 x.cells::R):=by
 unfold tG lD;by_cases e:md=3
 ·
  simp only[lam e];refine ze Tryz.func325 Tryz.ntmps325 ?_;refine zj λ_=>?_;refine w ?_;rename_i a;refine VO.pure rfl rfl (af.bB rfl) rfl ?_;refine zr (s:=E0 b a x g (Eo x.par x.M) (λ_ _=>by simp) (λS i=>Nc b a x i (c.aR (ae.drop ae.refl)) f)) (h:=?_);intro y _;refine w ?_;exact VE.done y rfl trivial rfl ae.refl
 ·
  simp only[aE e];by_cases d:md=2
  ·
   simp only[lam d];refine ze Tryz.func326 Tryz.ntmps326 ?_;refine zj λ_=>?_;refine w ?_;rename_i a;refine VO.pure rfl rfl (af.bB rfl) rfl ?_;refine zr (s:=E0 b a x g (MO x.par x.M) (λ_ _=>by simp) (λS i=>PM b a x i (c.aR (ae.drop ae.refl)) f)) (h:=?_);intro y _;refine w ?_;exact VE.done y rfl trivial rfl ae.refl
  ·
   simp only[aE d];refine ze Tryz.func324 Tryz.ntmps324 ?_;exact VE.done (none,0) rfl trivial rfl λw c=>c.aZ 3 1
theorem IL{b m:Nat}(f:m<=16)(d:aV W R 1 (ik b) m (D8 m)):az W Tryz.prog 359 [.slice (ik b) m m,.bool true] R (ii (-1)) R:=by
 refine ze Tryz.func359 Tryz.ntmps359 ?_;refine VC.loop (α:=Nat) (λi=>i<=m) (λ_=>R) (λi=>[(0,.slice (ik b) m m),(1,.bool true),(7,ii m),(8,ii i)]) (λi=>m-i) rfl 0 (c7 _) ae.refl ⟨rfl,rfl,rfl,rfl,trivial⟩ ?_;intro i e;refine w ?_;refine zk ?_ ?_<;>intro c
 ·
  have a:i<m:=by have:=cI c;omega
  clear c;refine w ?_;refine VO.pure rfl rfl (af.rZ ah rfl rfl d (by rw[Og,lam a])) rfl ?_;refine w ?_;exact VE.round (i+1) a zO ⟨rfl,rfl,rfl,b7 rfl (by congr 1),trivial⟩ ae.refl
 refine w ?_;exact VE.ax rfl rfl ae.refl
def xw(m k:Nat):Nat:=if m-1-k=0 then 1 else if m-1-k<k+1 then 3 else 2
theorem PG(b:Nat)(x:Cy)(e:3<=x.m/\x.m<=16)(d:aV W R 1 (ik x.da) x.m (D8 x.m))(f:x.l.length+1<=x.m):az W Tryz.prog 327 [ip b] (Row b 428 x.cells::R) (ib (xw x.m x.l.length:Nat)) (Row b 428 x.cells::R):=by
 refine ze Tryz.func327 Tryz.ntmps327 ?_;refine VC.quiet rfl (by kernel_rfl) (by kernel_rfl) ?_;refine w ?_;refine zr (s:=IL (R:=Row b 428 x.cells::R) e.2 (d.aR (ae.drop ae.refl))) (h:=?_);intro _ _;refine w ?_;unfold xw;refine zk ?_ ?_<;>intro a
 ·
  have q:x.m-1-x.l.length=0:=by have:=cI a;omega
  clear a;rw[lam q];refine w ?_;exact VE.ax rfl rfl ae.refl
 have q:¬x.m-1-x.l.length=0:=by have:=dx a;omega
 clear a;rw[aE q];refine w ?_;refine zk ?_ ?_<;>intro a
 ·
  have c:x.m-1-x.l.length<x.l.length+1:=by have:=cI a;omega
  clear a;rw[lam c];refine w ?_;exact VE.ax rfl rfl ae.refl
 have c:¬x.m-1-x.l.length<x.l.length+1:=by have:=dx a;omega
 clear a;rw[aE c];refine w ?_;exact VE.ax rfl rfl ae.refl
theorem RS(p:aj):az W Tryz.prog 353 [.agg p.cells.toArray] R (.bool ((p.d.data.length:Int) != 128)) R:=by
 refine ze Tryz.func353 Tryz.ntmps353 ?_;refine zj λ_=>?_;refine w ?_;exact VE.ax rfl rfl (ae.drop ae.refl)
theorem wK{m c s:Nat}(b:3<=m/\m<=16)(a:1<=c/\c<=16)(d:1<=s/\s<=256):az W Tryz.prog 24 [.agg (cv m c s).toArray] R (i6 0) R:=by
 have h:=jH (W:=W) (R:=R) ⟨m,c,s⟩;rwa [lam ⟨⟨by dsimp only;omega,by dsimp only;omega⟩,⟨by dsimp only;omega,by dsimp only;omega⟩,by dsimp only;omega,by dsimp only;omega⟩]at h
theorem fZ.some{m c s r:Nat}{l:List aj}{a:Option Addr}(h:fZ m c s r l)(b:bq W R a l):∃x,a=some x:=by
 cases a with
 |none=>exact cN (b.gz.nil rfl) (by have:=KO.2 h.ne;omega)
 |some x=>exact⟨x,rfl⟩
theorem R3{m c s r e pc:Nat}{E:Option Addr}{l:List aj}(B:3<=m/\m<=16)(d:1<=c/\c<=16)(C:1<=s/\s<=256)(k:fZ m c s r l)(I:aV W R 1 (ik e) m (D8 m))(u:bq W R E l):
  aq W Tryz.prog 323 [.agg (cv m c s).toArray,.slice (ik e) m m,.slice E l.length pc] R (β:=Nat) (λ_=>True) (λb=>.tuple #[ip b,i6 0]) (λb=>Row b 428 (Cy.cells ⟨m,c,s,e,E,pc,l,eD m (r/c)⟩)::R):=by
 have L:s*c<=256*16:=mo C.2 d.2;have n:=k.row;have x:0<l.length:=KO.2 k.ne;have M:=k.mx B.1;obtain⟨o,rfl⟩:=k.some u;have A:(bg l)[0*3+1]?=some (ii (r:Nat)):=by rw[si l 0 1 x (by decide),<-(k.of 0 x).2.2.1];rfl
 obtain⟨H,y⟩:∃H,eD m (r/c)=H:=⟨_,rfl⟩;have j:=k.of;have v:=k.inc;rw[y]at j⊢;refine ze Tryz.func323 Tryz.ntmps323 ?_;refine zj λ_=>?_;refine w ?_;rename_i D;refine zt (s:=wK B d C) (h:=?_);intro _ _;refine w ?_;refine VO.gF rfl rfl rfl (by simp) ?_;refine w ?_;refine VC.aK rfl rfl (by simp;exact k.ne) ?_;refine w ?_;refine VC.loop (α:=Nat) (λi=>i<=l.length) (λ_=>Row D 36 (cv m c s)::R) (λi=>[(1,.slice (ik e) m m),(2,.slice (some o) l.length pc),(3,ip D),(37,.slice (some o) l.length pc),(38,ii l.length),(39,ii i)]) (λi=>l.length-i) rfl 0 (c7 _) ae.refl ⟨rfl,rfl,rfl,rfl,rfl,rfl,trivial⟩ ?_;intro i t;refine w ?_;refine zk ?_ ?_<;>intro d
 ·
  have a:i<l.length:=by have:=cI d;omega
  clear d;have h:=j i a;refine w ?_;refine VO.pure rfl rfl (.gY ah rfl rfl (u.gz.aR (ae.drop ae.refl)) (ke l i a) rfl) rfl ?_;refine zw ?_;refine ay.aB eY rfl ?_;intro n10;refine zl (l[i].cells) (dI _) ?_;refine zt (s:=FM B d C l[i].av l[i].row zO) (h:=?_);rintro⟨st,f⟩ _;rw[lam ⟨⟨h.1,h.2.1⟩,by omega,by rw[h.2.2.1];exact Int.ofNat_lt.2 n⟩];refine w ?_;exact VE.round (i+1) a zO ⟨rfl,rfl,rfl,rfl,rfl,b7 rfl (by congr 1),trivial⟩ ae.re
 clear d;refine w ?_;refine VO.pure rfl rfl (af.build Sq rfl (show aC _ _ _=some (Cy.cells ⟨m,c,s,e,some o,pc,l,0⟩)by simp[aC,bR,Value.cells])) rfl ?_;refine w ?_;refine zj λ_=>?_;refine w ?_;rename_i b;refine zx [6,12] 13 [0,1,2,3,4,5,6,7,8,9,10,11,12] (Row D 36 (cv m c s)::R) ?_;refine w ?_;refine VD.take rfl rfl rfl (.fH ah rfl rfl (u.gz.aR (ae.drop ae.refl)) A) rfl ?_;refine zt (s:=Pd B d C r n) (h:=?_);rintro z G;rw[y]at G;subst G;refine w ?_;refine VC.loop (α:=Nat) (λi=>i<=l.length) (λ_=>Row b 428 (Cy.cells ⟨m,c,s,e,some o,pc,l,z⟩)::R) (λi=>[(1,.slice (ik e) m m),(2,.slice (some o) l.length pc),(14,ip b),(15,ii (if h:0<i/\i<=l.length then(l[i-1]'zO).av else-1)),(74,.slice (some o) l.length pc),(75,ii l.length),(76,ii i)]) (λi=>l.length-i) rfl 0 (c7 _) ae.re ⟨rfl,rfl,rfl,rfl,rfl,rfl,rfl,trivial⟩ ?_;clear t;intro i t;refine w ?_;refine zk ?_ ?_<;>intro d
 ·
  have a:i<l.length:=by have:=cI d;omega
  clear d;have h:=j i a;obtain⟨q,F⟩:∃q:Int,(if h:0<i/\i<=l.length then(l[i-1]'zO).av else-1)=q:=⟨_,rfl⟩;have K:q<l[i].av:=by
   rw[<-F];split
   ·
    rename_i g;have:=v (i-1) zO;simpa[show i-1+1=i by omega]using this
   · omega
  rw[F];refine w ?_;refine VO.pure rfl rfl (.gY ah rfl rfl (u.gz.aR (ae.drop ae.refl)) (ke l i a) rfl) rfl ?_;refine zw ?_;refine ay.aB eY rfl ?_;intro n10;refine zl (l[i].cells) (dI _) ?_;refine VC.quiet rfl (by kernel_rfl) (by kernel_rfl) ?_;refine w ?_;refine VQ.pure rfl rfl (.fH ah rfl rfl (u.gz.aR (ae.drop (ae.drop ae.refl))) A) rfl ?_;refine w ?_;refine VQ.gF rfl rfl rfl (by rw[h.2.2.1];simp) ?_;refine w ?_;refine VQ.gF rfl rfl rfl (gx zO) ?_;refine w ?_;refine VC.aK rfl rfl (by simpa using h.2.2.2.1) ?_;refine w ?_;refine VE.round (i+1) a zO ⟨rfl,rfl,rfl,b7 rfl (by rw[dif_pos ⟨by omega,a⟩];rfl),rfl,rfl,b7 rfl (by congr 1),trivial⟩ ae.re
 clear d;refine zt (s:=Ee (λp=>(p.d.data.length:Int) != 128) (λ_ _=>by simp) (u.gz.aR (ae.drop ae.refl)) zO (λp _=>RS p)) (h:=?_);intro _ _;refine w ?_
 (refine VC.aK rfl rfl (by
  rw[List.any_eq_false]
  intro p J
  obtain⟨i,t,rfl⟩:=List.mem_iff_getElem.1 J
  rw[(j i t).2.2.2.2];decide) ?_)
 refine w ?_;refine VC.loop (α:=Nat) (λi=>i<=m) (λ_=>Row b 428 (Cy.cells ⟨m,c,s,e,some o,pc,l,z⟩)::R) (λi=>[(14,ip b),(19,ii 0),(108,.slice (ik e) m m),(109,ii m),(110,ii i)]) (λi=>m-i) rfl 0 (c7 _) ae.refl ⟨rfl,rfl,rfl,rfl,rfl,trivial⟩ ?_;clear t;intro i t;refine w ?_;refine zk ?_ ?_<;>intro d
 ·
  have a:i<m:=by have:=cI d;omega
  clear d;refine w ?_;refine VO.pure rfl rfl (af.rZ ah rfl rfl (I.aR (ae.drop ae.refl)) (by rw[Og,lam a])) rfl ?_;refine w ?_;exact VE.round (i+1) a zO ⟨rfl,rfl,rfl,rfl,b7 rfl (by congr 1),trivial⟩ ae.refl
 refine w ?_;exact VE.done b rfl trivial rfl ae.refl
end
end Go.Proofs.YtonpidcjpenflaaGreat
namespace Go.Proofs.YtonpidcjpenflaaGreat
open Go.RowKit Go.Sl
attribute [local irreducible] Sl.Own
structure dO where
  row:Nat
  md:Nat
  par:Nat
  po:Option Addr
  pc:Nat
  aA:List aj
  ro:Option Addr
  rc:Nat
  reads:List Nat
abbrev dO.cells(p:dO):List Value:=[ii p.row,ib p.md,ii p.par,.slice p.po p.aA.length p.pc,.slice p.ro p.reads.length p.rc]
structure dO.is(m c r:Nat)(D:List bK)(y:dO):Prop where
  row:y.row=r
  md:y.md=xw m D.length
  par:y.par=eD m (r/c)
  reads:y.reads=lD m (eD m (r/c)) (D.map (·.av)) y.md
  D:y.aA.map aj.D=D
abbrev S4(y:dO)(R:List ab):List ab:=bL (y.po,y.pc) y.aA::bX y.aA::jC (y.ro,y.rc) y.reads::R
theorem DZ:Tryz.prog.underlying 425=some (.map 376 424):=by kernel_rfl
theorem DY:jB Tryz.prog 376 UInt8 (λc=>ib (c.toNat:Int)) (λ_=>True):=jB.u8 (by kernel_rfl)
abbrev P0(g:FuncId)(b:Nat):Value:= .func (.func g) #[ip b] #[]
theorem J0(md:Nat):∀a w,(callFunc (tG md) a).run Tryz.prog w= .ok (.enter (tG md) a) w:=by
 unfold tG;split
 · intro _ _;simp
 ·
  split
  · intro _ _;simp
  · intro _ _;simp
theorem Ax{W:World}{R:List ab}{m c s r X pc:Nat}{K:Option Addr}{l:List aj}(T:3<=m/\m<=16)(G:1<=c/\c<=16)(hs:1<=s/\s<=256)(H:fZ m c s r l)(hd:aV W R 1 (ik X) m (D8 m))(v:bq W R K l):
  aq W Tryz.prog 297 [.agg (cv m c s).toArray,.slice (ik X) m m,.slice K l.length pc] R (β:=dO) (dO.is m c r (l.map aj.D)) (λy=>.tuple #[.agg y.cells.toArray,i6 0]) (λy=>S4 y R):=by
 have M:0<l.length:=KO.2 H.ne;have hf:=H.mx T.1;obtain⟨U,rfl⟩:=H.some v;have aa:(bg l)[0*3+1]?=some (ii (r:Nat)):=by rw[si l 0 1 M (by decide),<-(H.of 0 M).2.2.1];rfl
 have Z:=H.of;obtain⟨j,B⟩:∃j,eD m (r/c)=j:=⟨_,rfl⟩;obtain⟨md,p⟩:∃md,xw m l.length=md:=⟨_,rfl⟩;have z:md=1\/md=3\/md=2:=by
  unfold xw at p;split at p;all_goals try split at p
  all_goals omega
 obtain⟨x,I⟩:∃x:Cy,x=⟨m,c,s,X,some U,pc,l,j⟩:=⟨_,rfl⟩;refine ze Tryz.func297 Tryz.ntmps297 ?_;refine zj λ_=>?_;refine w ?_;rename_i V;refine zq ?_;refine ay.aB rj rfl ?_;intro n6;refine zr (s:=R3 (R:=Row n6 378 (dO.cells ⟨0,0,0,none,0,[],none,0,[]⟩)::Row V 36 (cv m c s)::R) (pc:=pc) T G hs H (hd.aR (ae.drop (ae.drop ae.refl))) (v.aR (ae.drop (ae.drop ae.refl)))) (h:=?_);intro b _;rw[B,<-I];refine zw ?_;refine ay.lA (λc:UInt8=>Value.int .u8 (c.toNat:Int)) (λ_=>True) rfl ?_;intro J;refine w ?_;refine VO.pure rfl rfl (af.cm rfl) rfl ?_;refine zw ?_;refine ay.dR (k:=(1:UInt8)) DZ DY trivial rfl rfl rfl zh ?_;refine w ?_;refine VO.pure rfl rfl (af.cm rfl) rfl ?_;refine zw ?_;refine ay.dR (k:=(4:UInt8)) DZ DY trivial rfl rfl rfl zh ?_;refine w ?_;refine VO.pure rfl rfl (af.cm rfl) rfl ?_;refine zw ?_;refine ay.dR (k:=(3:UInt8)) DZ DY trivial rfl rfl rfl zh ?_;refine w ?_;refine VO.pure rfl rfl (af.cm rfl) rfl ?_;refine zw ?_;refine ay.dR (k:=(2:UInt8)) DZ DY trivial rfl rfl rfl zh ?_;refine w ?_;have hD:∀y:UInt8,y.toNat=md->getD (iw (iw (iw (iw [] (1:UInt8) (P0 324 b)) 4 (P0 324 b)) 3 (P0 325 b)) 2 (P0 326 b)) y=some (P0 (tG md) b):=by
  intro y A;rcases z with e|e|e<;>rw[e]at A⊢
  · obtain rfl:y=1:=UInt8.toNat_inj.1 A;rfl
  · obtain rfl:y=3:=UInt8.toNat_inj.1 A;rfl
  · obtain rfl:y=2:=UInt8.toNat_inj.1 A;rfl
 refine VC.aR (H':=db (λc:UInt8=>Value.int .u8 (c.toNat:Int)) (λ_=>True) J (iw (iw (iw (iw [] (1:UInt8) (P0 324 b)) 4 (P0 324 b)) 3 (P0 325 b)) 2 (P0 326 b))::Row b 428 x.cells::Row n6 378 (dO.cells ⟨0,0,0,none,0,[],none,0,[]⟩)::Row V 36 (cv m c s)::R) ae.re ?_;generalize iw (iw (iw (iw [] (1:UInt8) _) 4 _) 3 _) 2 _=Q at*;obtain⟨g,rfl⟩:∃y:UInt8,md=y.toNat:=⟨UInt8.ofNat md,by rcases z with e|e|e<;>rw[e]<;>rfl⟩;have u:x.m=m:=by rw[I]
 have C:x.par=j:=by rw[I]
 have t:x.l=l:=by rw[I]
 have ad:x.po=some U:=by rw[I]
 refine VC.join (α:=Nat) (λ_=>True) (λf=>Row f 378 (dO.cells ⟨r,g.toNat,j,none,0,[],none,0,[]⟩)::db (λc:UInt8=>Value.int .u8 (c.toNat:Int)) (λ_=>True) J Q::Row b 428 x.cells::Row n6 378 (dO.cells ⟨0,0,0,none,0,[],none,0,[]⟩)::R)
  (λf=>[(2,.slice (some U) l.length pc),(6,ip n6),(10,.map (some J)),(11,ip f)]) ?_ ?_
 ·
  intro Q2 jn;have N:∀S:List ab,ae W S R->az W Tryz.prog 327 [ip b] (Row b 428 x.cells::S) (ib (g.toNat:Nat)) (Row b 428 x.cells::S):=λS e=>by
   have h:=PG (W:=W) (R:=S) b x (u▸T) (by rw[I];exact hd.aR e) (by rw[u,t];exact hf);rwa [u,t,p]at h
  refine VC.vw [5,11] 12 [0,1,2,3,4,6,7,8,9] [[5,10,11,12],[11,5,10,12]] _ rfl (by kernel_rfl) (by kernel_rfl) ae.refl ?_;refine w ?_;refine VD.take rfl rfl rfl (.fH ah rfl rfl (v.gz.aR (ae.drop (ae.drop (ae.drop (ae.drop ae.refl))))) aa) rfl ?_;refine w ?_;refine VE.vf ?_ ?_
  ·
   refine zr (s:=N (db (λc:UInt8=>Value.int .u8 (c.toNat:Int)) (λ_=>True) J Q::Row n6 378 (dO.cells ⟨0,0,0,none,0,[],none,0,[]⟩)::Row V 36 (cv m c s)::R) (ae.drop (ae.drop (ae.drop ae.refl)))) (h:=?_);intro _ _;refine w ?_;apply VD.take rfl rfl rfl;apply af.build rj rfl;simp[aC,bR,Value.cells];rfl;rfl;refine zw ?_;refine ay.aB rj rfl ?_;intro f;refine zw ?_;refine ay.gL (vs:=dO.cells ⟨r,g.toNat,x.par,none,0,[],none,0,[]⟩) ah rfl rfl rfl rfl (by simp[Value.oneCell']) zh (by simp) ?_;rw[C];refine w ?_;exact jn.to f trivial ⟨rfl,rfl,rfl,rfl,trivial⟩ ae.re
  ·
   refine zq ?_;refine ay.aB rj rfl ?_;intro f;refine zr (s:=N (Row f 378 (dO.cells ⟨0,0,0,none,0,[],none,0,[]⟩)::db (λc:UInt8=>Value.int .u8 (c.toNat:Int)) (λ_=>True) J Q::Row n6 378 (dO.cells ⟨0,0,0,none,0,[],none,0,[]⟩)::Row V 36 (cv m c s)::R) (ae.drop (ae.drop (ae.drop (ae.drop ae.refl))))) (h:=?_);intro _ _;refine w ?_;apply VD.take rfl rfl rfl;apply af.build rj rfl;simp[aC,bR,Value.cells];rfl;rfl;refine zw ?_;refine ay.gL (vs:=dO.cells ⟨r,g.toNat,x.par,none,0,[],none,0,[]⟩) ah rfl rfl rfl rfl (by simp[Value.oneCell']) zh (by simp) ?_;rw[C];refine w ?_;exact jn.to f trivial ⟨rfl,rfl,rfl,rfl,trivial⟩ ae.re
 intro f _;refine w ?_;refine VO.pure rfl rfl (af.jT (k:=g) DZ DY trivial (λw=>by simp;rfl) rfl rfl zm) rfl ?_;rw[hD g rfl];refine w ?_;obtain⟨rs,P⟩:∃rs,lD m j ((l.map aj.D).map (·.av)) g.toNat=rs:=⟨_,rfl⟩;have O:=λS (e:ae W S R)=>JS (W:=W) (R:=S) b x g.toNat (u▸T.2) (by rw[ad,t];exact v.aR e) (by rw[t];omega);rw[u,C,show x.M=(l.map aj.D).map (·.av)by rw[<-t],P]at O;refine zq ?_;refine ay.gS rfl rfl (J0 _) (O (Row f 378 (dO.cells ⟨r,g.toNat,j,none,0,[],none,0,[]⟩)::db (λc:UInt8=>Value.int .u8 (c.toNat:Int)) (λ_=>True) J Q::Row n6 378 (dO.cells ⟨0,0,0,none,0,[],none,0,[]⟩)::R) (ae.drop (ae.drop (ae.drop ae.refl)))) ae.re rfl ?_;rintro⟨ro,rc⟩ _;refine w ?_;refine VC.aR (H':=bL (none,0) []::bX []::Row f 378 (dO.cells ⟨r,g.toNat,j,none,0,[],ro,rc,rs⟩)::jC (ro,rc) rs::Row n6 378 (dO.cells ⟨0,0,0,none,0,[],none,0,[]⟩)::R) (ae.trans (ae.re (L:=Row f 378 (dO.cells ⟨r,g.toNat,j,none,0,[],ro,rc,rs⟩)::jC (ro,rc) rs::Row n6 378 (dO.cells ⟨0,0,0,none,0,[],none,0,[]⟩)::R)) (λw v=>(di (res:=aj.res) v).aZ 208 3)) ?_
 refine VC.loop (α:=Nat×List aj×(Option Addr×Nat)) (λy=>y.1<=l.length/\y.2.1.map aj.D=(l.take y.1).map aj.D) (λy=>bL y.2.2 y.2.1::bX y.2.1::Row f 378 (dO.cells ⟨r,g.toNat,j,y.2.2.1,y.2.2.2,y.2.1,ro,rc,rs⟩)::jC (ro,rc) rs::Row n6 378 (dO.cells ⟨0,0,0,none,0,[],none,0,[]⟩)::R)
  (λy=>[(6,ip n6),(11,ip f),(52,.slice (some U) l.length pc),(53,ii l.length),(54,ii y.1)]) (λy=>l.length-y.1) rfl (0,[],none,0) ⟨c7 _,rfl⟩ ae.refl ⟨rfl,rfl,rfl,rfl,rfl,trivial⟩ ?_
 rintro⟨i,aA,K,D⟩ ⟨hi,q⟩;dsimp only at hi q⊢;have ag:aA.length=i:=by have:=lcs List.length q;rw[ew,ew,j1]at this;omega
 refine w ?_;refine zk ?_ ?_<;>intro G
 ·
  have o:i<l.length:=by have:=cI G;omega
  clear G;have h:=Z i o;have eR:ae W (bL (K,D) aA::bX aA::Row f 378 (dO.cells ⟨r,g.toNat,j,K,D,aA,ro,rc,rs⟩)::jC (ro,rc) rs::Row n6 378 (dO.cells ⟨0,0,0,none,0,[],none,0,[]⟩)::R) R:=ae.drop (ae.drop (ae.drop (ae.drop (ae.drop ae.refl))));refine w ?_;refine VO.pure rfl rfl (.gY ah rfl rfl (v.gz.aR eR) (ke l i o) rfl) rfl ?_;refine zw ?_;refine ay.aB eY rfl ?_;intro n13;refine zl (l[i].cells) (dI _) ?_;refine zt (s:=gg ((v.each _ (fF o)).aR (ae.trans (ae.drop ae.refl) eR)) zO) (h:=?_);intro n _;refine zw ?_;refine ay.buildSlice (cs:=(aj.mk l[i].av l[i].row ⟨n.1,n.2,l[i].d.data⟩).cells) ji rfl rfl (by simp[Value.cells]) (by simp[Value.cells]) (by decide) rfl ?_;intro nb;refine zq ?_;refine ay.cg ji rfl rfl zh zm rfl (dI _) (by simp only[maxLen];omega) zO rfl ?_;intro F E;refine w ?_;refine VE.round (i+1,aA++[aj.mk l[i].av l[i].row ⟨n.1,n.2,l[i].d.data⟩],(F,E)) ⟨o,by rw[nZ o,jv,jv,q];rfl⟩ (by dsimp only;omega) ⟨rfl,rfl,rfl,rfl,b7 rfl (by congr 1),trivial⟩ ?_;dsimp only;unfold bL dO.cells;rw[im,c9,ie];exact λw v=>(ae.re:ae W (bX (aA++[aj.mk l[i].av l[i].row ⟨n.1,n.2,l[i].d.data⟩])::_) _) w (du (res:=aj.res) (a:=aj.mk l[i].av l[i].row ⟨n.1,n.2,l[i].d.data⟩) ((ae.re:ae W _ (aj.res (aj.mk l[i].av l[i].row ⟨n.1,n.2,l[i].d.data⟩)::bX aA::Sl.Own 208 3 (.slice F (aA.length+1) E) (aA.length+1) (bg aA++(aj.mk l[i].av l[i].row ⟨n.1,n.2,l[i].d.data⟩).cells)::Row f 378 [ii r,ib g.toNat,ii j,.slice F (aA.length+1) E,.slice ro rs.length rc]::jC (ro,rc) rs::Row n6 378 (dO.cells ⟨0,0,0,none,0,[],none,0,[]⟩)::R)) w v))
 have Y:i=l.length:=by have:=dx G;omega
 clear G;rw[Y,DK]at q;obtain⟨y,A⟩:∃y:dO,y=⟨r,g.toNat,j,K,D,aA,ro,rc,rs⟩:=⟨_,rfl⟩;rw[<-A];refine zS y.cells ?_;refine VE.results2 (.inl rfl) y rfl (aL.agg (vs:=y.cells) ah rfl rfl zm rfl rfl) (.tmp rfl) ?_ rfl (by subst A;exact ae.re);subst A;exact⟨rfl,by rw[ew];exact p.symm,B.symm,by dsimp only;rw[B,P],q⟩
end Go.Proofs.YtonpidcjpenflaaGreat
namespace Go.Proofs.YtonpidcjpenflaaGreat
open Go.Shelf
def Kk:Go.Shelf.Ren:=⟨λ|6=>329|15=>322|14=>364|28=>350|29=>351|20=>374|21=>375|22=>376|23=>377|24=>378|25=>379|26=>380|27=>381|46=>383|47=>368|48=>369|49=>384|50=>385|57=>386|n=>n,λ|22=>140|24=>208|25=>431|3=>3|39=>162|0=>0|53=>225|55=>50|4=>4|46=>446|45=>445|50=>387|5=>5|9=>9|66=>461|70=>217|76=>470|77=>471|n=>n,λ|n=>n⟩
theorem TG:Go.Proofs.SlLaysF0.n6 Tryz.prog Kk:={
 mixed:=by kernel_rfl
 f6:=⟨Tryz.f329.name,by decide,Tryz.func329.trans (congrArg some (by kernel_rfl))⟩
 f14:=⟨Tryz.f364.name,by decide,Tryz.func364.trans (congrArg some (by kernel_rfl))⟩
 f15:=Tryz.func322.trans (congrArg some (by kernel_rfl))
 f20:=⟨Tryz.f374.name,by decide,Tryz.func374.trans (congrArg some (by kernel_rfl))⟩
 f21:=⟨Tryz.f375.name,by decide,Tryz.func375.trans (congrArg some (by kernel_rfl))⟩
 f22:=⟨Tryz.f376.name,by decide,Tryz.func376.trans (congrArg some (by kernel_rfl))⟩
 f23:=⟨Tryz.f377.name,by decide,Tryz.func377.trans (congrArg some (by kernel_rfl))⟩
 f24:=⟨Tryz.f378.name,by decide,Tryz.func378.trans (congrArg some (by kernel_rfl))⟩
 f25:=⟨Tryz.f379.name,by decide,Tryz.func379.trans (congrArg some (by kernel_rfl))⟩
 f26:=⟨Tryz.f380.name,by decide,Tryz.func380.trans (congrArg some (by kernel_rfl))⟩
 f27:=⟨Tryz.f381.name,by decide,Tryz.func381.trans (congrArg some (by kernel_rfl))⟩
 f28:=Tryz.func350.trans (congrArg some (by kernel_rfl))
 f29:=Tryz.func351.trans (congrArg some (by kernel_rfl))
 f46:=⟨Tryz.f383.name,by decide,Tryz.func383.trans (congrArg some (by kernel_rfl))⟩
 f47:=Tryz.func368.trans (congrArg some (by kernel_rfl))
 f48:=Tryz.func369.trans (congrArg some (by kernel_rfl))
 f49:=⟨Tryz.f384.name,by decide,Tryz.func384.trans (congrArg some (by kernel_rfl))⟩
 f50:=⟨Tryz.f385.name,by decide,Tryz.func385.trans (congrArg some (by kernel_rfl))⟩
 f57:=⟨Tryz.f386.name,by decide,Tryz.func386.trans (congrArg some (by kernel_rfl))⟩
 t0:=Tryz.underlying0
 a0:=Tryz.isAgg0
 z0:=Tryz.sizeOf0
 v0:=Tryz.zeroValue0
 t3:=Tryz.underlying3
 a3:=Tryz.isAgg3
 z3:=Tryz.sizeOf3
 v3:=Tryz.zeroValue3
 t4:=Tryz.underlying4
 a4:=Tryz.isAgg4
 z4:=Tryz.sizeOf4
 v4:=Tryz.zeroValue4
 t5:=Tryz.underlying5
 a5:=Tryz.isAgg5
 z5:=Tryz.sizeOf5
 v5:=Tryz.zeroValue5
 t9:=Tryz.underlying9
 a9:=Tryz.isAgg9
 z9:=Tryz.sizeOf9
 v9:=Tryz.zeroValue9
 t22:=Tryz.underlying140
 a22:=Tryz.isAgg140
 z22:=Tryz.sizeOf140
 v22:=Tryz.zeroValue140
 t25:=Tryz.underlying431
 a25:=Tryz.isAgg431
 z25:=Tryz.sizeOf431
 v25:=Tryz.zeroValue431
 t39:=Tryz.underlying162
 a39:=Tryz.isAgg162
 z39:=Tryz.sizeOf162
 v39:=Tryz.zeroValue162
 t45:=Tryz.underlying445
 a45:=Tryz.isAgg445
 z45:=Tryz.sizeOf445
 v45:=Tryz.zeroValue445
 t46:=Tryz.underlying446
 a46:=Tryz.isAgg446
 z46:=Tryz.sizeOf446
 v46:=Tryz.zeroValue446
 t50:=Tryz.underlying387
 a50:=Tryz.isAgg387
 z50:=Tryz.sizeOf387
 v50:=Tryz.zeroValue387
 t53:=Tryz.underlying225
 a53:=Tryz.isAgg225
 z53:=Tryz.sizeOf225
 v53:=Tryz.zeroValue225
 t55:=Tryz.underlying50
 a55:=Tryz.isAgg50
 z55:=Tryz.sizeOf50
 v55:=Tryz.zeroValue50
 t66:=Tryz.underlying461
 a66:=Tryz.isAgg461
 z66:=Tryz.sizeOf461
 v66:=Tryz.zeroValue461
 t70:=Tryz.underlying217
 a70:=Tryz.isAgg217
 z70:=Tryz.sizeOf217
 v70:=Tryz.zeroValue217
 t76:=Tryz.underlying470
 a76:=Tryz.isAgg470
 z76:=Tryz.sizeOf470
 v76:=Tryz.zeroValue470
 t77:=Tryz.underlying471
 a77:=Tryz.isAgg471
 z77:=Tryz.sizeOf471
 v77:=Tryz.zeroValue471}
open Go.RowKit Go.Sl
attribute [local irreducible] Sl.Own
abbrev ig:={p:aj//0<=p.av/\p.av<16}
instance:Inhabited ig:=⟨⟨⟨0,0,⟨none,0,[]⟩⟩,by decide,by decide⟩⟩
abbrev ig.enc(p:ig):List Value:=p.1.cells
def ig.cf(a b:ig):Int:=a.1.av-b.1.av
theorem GW(x y:ig)(W:World):Calls Tryz.prog 330 #[.agg x.enc.toArray,.agg y.enc.toArray] W λe i=>e= .returned (ii (x.cf y))/\∃q a,i=Go.Sort.grow (W.drewN q) a:=by
 obtain⟨⟨b,k,j⟩,d,f⟩:=x;obtain⟨⟨c,m,l⟩,g,h⟩:=y;dsimp only at d f g h;have e:IntKind.i64.wrap (b-c)=b-c:=IntWalk.i64_in _ ⟨by omega,by omega⟩;go_enter Tryz.func330,Tryz.ntmps330;go_wp2;go_ret;exact⟨by simp;rfl,0,_,by rw[Go.Sort.alloc_eq_grow,Go.Sort.alloc_eq_grow,Go.Sort.grow_grow];rfl⟩
open Go.Sort in
theorem zQ(d:Array ig):(flatK ig.enc 3 d).toList=bg (d.toList.map (·.1)):=by
 have g:(flatK ig.enc 3 d).toList.length=(bg (d.toList.map (·.1))).length:=by rw[mJ,Array.length_toList,size_flatK,List.length_map,Array.length_toList]
 refine List.ext_getElem? λt=>?_;by_cases a:t<d.size*3
 ·
  have b:t/3<(d.toList.map (·.1)).length:=by rw[List.length_map,Array.length_toList];omega
  have c:t/3<d.size:=by omega
  have e:=si (d.toList.map (·.1)) (t/3) (t%3) b zO;rw[show t/3*3+t%3=t by omega]at e;rw[e,Array.getElem?_toList,Array.getElem?_eq_getElem (by rw[size_flatK];exact a),<-getElem!_pos (flatK ig.enc 3 d) t (by rw[size_flatK];exact a),get_flatK _ _ _ _ a,getElem!_pos d _ c,List.getElem_map,Array.getElem_toList];obtain⟨q,f⟩:∃q,t%3=q:=⟨_,rfl⟩;rw[f];rcases(show q=0\/q=1\/q=2 by omega)with rfl|rfl|rfl<;>rfl
 · rw[List.getElem?_eq_none (by rw[Array.length_toList,size_flatK];omega),List.getElem?_eq_none (by rw[<-g,Array.length_toList,size_flatK];omega)]
theorem Sl.Holds.grow{W w:World}{H:List ab}(h:Sl.Holds W H w):∀(os:List Obj)(w:World),Sl.Holds W H w->Sl.Holds W H (Go.Sort.grow w os.toArray)
  |[],w,h=>by simpa[Go.Sort.grow]using h
  |o::r,w,h=>by
    have:=Sl.Holds.grow (w:=w) h r (w.alloc o) h.oE.tail;rwa [Go.Sort.alloc_eq_grow,Go.Sort.grow_grow,show #[o]++r.toArray=(o::r).toArray by simp]at this
theorem ig.lt(x y:ig):ltOf ig.cf x y=decide (x.1.av<y.1.av):=by
 unfold ltOf ig.cf;rw[decide_eq_decide];omega
theorem ig.swo:Go.Sort.SWO (ltOf ig.cf)where
 irrefl x:=by rw[ig.lt];simp
 trans x y z a b:=by rw[ig.lt]at*;simp at*;omega
 ntrans x y z a b:=by rw[ig.lt]at*;simp at*;omega
open Go.Sort in
theorem Ny{W:World}{R:List ab}{xp:Option Addr×Nat}{l:List aj}(z:∀p∈l,0<=p.av/\p.av<16)(T:l≠[])(L:l.length<=1000000):
  aq W Tryz.prog 329 [.slice xp.1 l.length xp.2,.func (.func 330) #[] #[]] (bL xp l::R) (β:=List aj) (λE=>E.Perm l) (λ_=>.tuple #[]) (λE=>bL xp E::R):=by
 unfold aq;intro w V;obtain⟨X,h⟩:=V.gy;rcases h with⟨_,P,_⟩|⟨b,cap,spare,e,k,f,U,s⟩
 · exact absurd (List.length_eq_zero_iff.1 P) T
 injection e with F _ G;obtain⟨d,u⟩:∃d:Array ig,d.toList.map (·.1)=l:=⟨(l.attachWith _ z).toArray,by simp⟩;have C:d.size=l.length:=by rw[<-u,List.length_map,Array.length_toList]
 have g:=zQ d;rw[u]at g;have S:l.length<=maxLen:=Nat.le_trans k f;have K:HoldsK ig.enc 3 w b 0 d:=λj A=>by
  have D:(bg l++spare)[j]?=some (flatK ig.enc 3 d)[j]!:=by
   rw[<-g,List.getElem?_append_left (by rw[Array.length_toList];exact A),Array.getElem?_toList,Array.getElem?_eq_getElem A,getElem!_pos (flatK ig.enc 3 d) j A]
  rw[Nat.zero_add];exact⟨s.cell (.head _) D,s.free (.head _)⟩
 have Q:=AnyQ.slices_SortFunc TG 3 Tryz.isAgg208 Tryz.sizeOf208 ig.enc (λ_=>rfl) (λx v D=>dI x.1 v D) ig.cf ig.swo 330 #[] b 0 cap d w (enters_of Tryz.func330 (by kernel_rfl) rfl) (λ_ _ _ _ x y=>GW x y _) K (s.lt (.head _)) zO;rw[F,G,<-C];refine Q.mono ?_;rintro e' Y ⟨rfl,a,n,os,⟨m,_,M⟩,_,rfl⟩;have B:a.toList.Perm d.toList:=by
  rw[Array.extract_eq_self_of_le zO,Array.extract_eq_self_of_le zO]at M;exact M
 have c:(a.toList.map (·.1)).Perm l:=u▸B.map _;refine⟨a.toList.map (·.1),c,rfl,?_⟩;have r:putRowK ig.enc 3 (Go.Sort.ahead w n) b 0 a=(w.drewN n).setCells b 0 (bg (a.toList.map (·.1))):=by
  have q:=setCells_putRow (w.drewN n) b 0 (flatK ig.enc 3 a).toList 0 (flatK ig.enc 3 d) (by rw[Array.length_toList,size_flatK,size_flatK];omega);rw[putRow_self _ _ _ _ _ (show Go.Sort.Holds id (w.drewN n) b 0 (flatK ig.enc 3 d)from K)]at q;rw[<-zQ,show(0:Nat)+0=0 from rfl]at*;rw[q];unfold putRowK;congr 1;refine(ext_get! (by rw[size_setMany,size_flatK,size_flatK,m]) λt N=>?_).symm;rw[size_setMany]at N;rw[get_setMany _ _ _ _ N,if_pos ⟨Nat.zero_le _,by rw[Array.length_toList,size_flatK,m,<-size_flatK ig.enc 3 d];omega⟩];rw[Nat.sub_zero,<-Array.getElem!_toList]
 show Sl.Holds W _ (grow (putRowK ig.enc 3 (Go.Sort.ahead w n) b 0 a) os);rw[r];have i:(bg (a.toList.map (·.1))).length=(bg l).length:=by rw[mJ,mJ,c.length_eq]
 have H:=(s.drewN n).setCells (o:=0) (vs:=bg (a.toList.map (·.1))) .head (by rw[List.length_append];omega);have I:Sl.Holds W (Row b 208 (bg (a.toList.map (·.1))++spare)::R) ((w.drewN n).setCells b 0 (bg (a.toList.map (·.1)))):=by
  rw[List.take_zero,List.nil_append,Nat.zero_add,i,List.drop_left]at H;exact H
 have J:=Sl.Holds.grow I os.toList _ I;rw[Array.toArray_toList]at J;have O:xp=(ik b,cap):=Prod.ext F G;subst O;show Sl.Holds W (bL _ _::R) _;unfold bL;rw[c.length_eq];exact J.fS (by rw[mJ,c.length_eq]) k f (by rw[List.length_append,i,<-List.length_append];exact U)
end Go.Proofs.YtonpidcjpenflaaGreat
namespace Go.Proofs.YtonpidcjpenflaaGreat
open Go.RowKit Go.Sl
attribute [local irreducible] Sl.Own
section
variable{W:World}{R:List ab}
theorem Rn{ao c:Option Addr}{ac bc:Nat}{xs:List UInt8}(j:xs.length<=1000000)(e:aV W R 1 ao xs.length (bytes xs))(f:aV W R 1 c xs.length (bytes xs)):az W Tryz.prog 361 [.slice ao xs.length ac,.slice c xs.length bc] R (.bool true) R:=by
 refine ze Tryz.func361 Tryz.ntmps361 ?_;refine VC.aK rfl rfl (by simp) ?_;refine w ?_;refine VC.loop (α:=Nat) (λi=>i<=xs.length) (λ_=>R) (λi=>[(0,.slice ao xs.length ac),(1,.slice c xs.length bc),(12,ii xs.length),(13,ii i)]) (λi=>xs.length-i) rfl 0 (c7 _) ae.refl ⟨rfl,rfl,rfl,rfl,trivial⟩ ?_;intro i h;refine w ?_;refine zk ?_ ?_<;>intro g
 ·
  have d:i<xs.length:=by have:=cI g;omega
  clear g;obtain⟨a,rfl⟩:∃x,ao=some x:=by cases ao with|none=>have:=e.nil rfl;omega|some x=>exact⟨x,rfl⟩
  obtain⟨b,rfl⟩:∃x,c=some x:=by cases c with|none=>have:=f.nil rfl;omega|some x=>exact⟨x,rfl⟩
  have hb1:=e;have hb2:=f;refine w ?_;refine VC.quiet rfl (by kernel_rfl) (by kernel_rfl) ?_;refine w ?_;refine VC.aK rfl rfl (by simp) ?_;refine w ?_;exact VE.round (i+1) d zO ⟨rfl,rfl,rfl,b7 rfl (by congr 1),trivial⟩ ae.refl
 refine w ?_;exact VE.ax rfl rfl ae.refl
theorem Rp{ao c:Option Addr}{ac bc:Nat}{xs:List Nat}(k:xs.length<=1000000)(e:aV W R 1 ao xs.length (tq xs))(f:aV W R 1 c xs.length (tq xs)):az W Tryz.prog 363 [.slice ao xs.length ac,.slice c xs.length bc] R (.bool true) R:=by
 refine ze Tryz.func363 Tryz.ntmps363 ?_;refine VC.aK rfl rfl (by simp) ?_;refine w ?_;refine VC.loop (α:=Nat) (λi=>i<=xs.length) (λ_=>R) (λi=>[(0,.slice ao xs.length ac),(1,.slice c xs.length bc),(12,ii xs.length),(13,ii i)]) (λi=>xs.length-i) rfl 0 (c7 _) ae.refl ⟨rfl,rfl,rfl,rfl,trivial⟩ ?_;intro i j;refine w ?_;refine zk ?_ ?_<;>intro g
 ·
  have d:i<xs.length:=by have:=cI g;omega
  clear g;obtain⟨a,rfl⟩:∃x,ao=some x:=by cases ao with|none=>have:=e.nil rfl;omega|some x=>exact⟨x,rfl⟩
  obtain⟨b,rfl⟩:∃x,c=some x:=by cases c with|none=>have:=f.nil rfl;omega|some x=>exact⟨x,rfl⟩
  have h:(tq xs)[i]?=some (ii (xs[i]:Nat)):=by rw[law,fL d];rfl
  refine w ?_;refine VC.quiet rfl (by kernel_rfl) (by kernel_rfl) ?_;refine w ?_;refine VQ.pure rfl rfl (.fH ah rfl rfl e h) rfl ?_;refine w ?_;refine VQ.pure rfl rfl (.fH ah rfl rfl f h) rfl ?_;refine w ?_;refine VC.aK rfl rfl (by simp) ?_;refine w ?_;exact VE.round (i+1) d zO ⟨rfl,rfl,rfl,b7 rfl (by congr 1),trivial⟩ ae.refl
 refine w ?_;exact VE.ax rfl rfl ae.refl
theorem KZ{p q:aj}(h:p.D=q.D):p.av=q.av/\p.row=q.row/\p.d.data=q.d.data:=⟨lcs bK.av h,lcs bK.row h,lcs bK.data h⟩
theorem MB{p q:aj}(h:p.D=q.D)(f:p.d.data.length<=1000000)(d:aV W R 1 p.d.ao p.d.data.length (bytes p.d.data))(e:aV W R 1 q.d.ao q.d.data.length (bytes q.d.data)):az W Tryz.prog 360 [.agg p.cells.toArray,.agg q.cells.toArray] R (.bool true) R:=by
 obtain⟨pm,j,g,pc,i⟩:=p;obtain⟨n,qr,k,l,m⟩:=q;obtain⟨a,b,c⟩:=KZ h;dsimp only at a b c f d e;subst a b c;refine ze Tryz.func360 Tryz.ntmps360 ?_;refine zj λ_=>?_;refine w ?_;refine zj λ_=>?_;refine w ?_;refine VO.gT rfl rfl rfl (by simp) ?_;refine w ?_;refine VO.gT rfl rfl rfl (by simp) ?_;refine zt (s:=Rn f (d.aR (ae.drop (ae.drop ae.refl))) (e.aR (ae.drop (ae.drop ae.refl)))) (h:=?_);intro _ _;refine w ?_;exact VE.ax rfl rfl ae.re
theorem Ro{ao e:Option Addr}{ac bc:Nat}{l c:List aj}(f:c.length=l.length)(p:l.length<=1000000)(j:aV W R 3 ao l.length (bg l))(k:aV W R 3 e c.length (bg c))(n:∀S,ae W S R->∀i (h:i<l.length),az W Tryz.prog 360 [.agg l[i].cells.toArray,.agg (c[i]'(f▸h)).cells.toArray] S (.bool true) S):
  az W Tryz.prog 362 [.slice ao l.length ac,.slice e c.length bc,.func (.func 360) #[] #[]] R (.bool true) R:=by
 refine ze Tryz.func362 Tryz.ntmps362 ?_;refine VC.aK rfl rfl (by rw[f];simp) ?_;refine w ?_;refine VC.loop (α:=Nat) (λi=>i<=l.length) (λ_=>R) (λi=>[(0,.slice ao l.length ac),(1,.slice e c.length bc),(2,.func (.func 360) #[] #[]),(15,.slice ao l.length ac),(16,ii l.length),(17,ii i)]) (λi=>l.length-i) rfl 0 (c7 _) ae.refl ⟨rfl,rfl,rfl,rfl,rfl,rfl,trivial⟩ ?_;intro i o;refine w ?_;refine zk ?_ ?_<;>intro m
 ·
  have d:i<l.length:=by have:=cI m;omega
  have g:i<c.length:=by omega
  clear m;obtain⟨a,rfl⟩:∃x,ao=some x:=by cases ao with|none=>have:=j.nil rfl;omega|some x=>exact⟨x,rfl⟩
  obtain⟨b,rfl⟩:∃x,e=some x:=by cases e with|none=>have:=k.nil rfl;omega|some x=>exact⟨x,rfl⟩
  refine w ?_;refine VO.pure rfl rfl (.gY ah rfl rfl j (ke l i d) rfl) rfl ?_;refine zw ?_;refine ay.aB eY rfl ?_;intro n8;refine zl (l[i].cells) (dI _) ?_;refine VO.pure rfl rfl (.gY ah rfl rfl (k.aR (ae.drop ae.refl)) (ke c i g) rfl) rfl ?_;refine zw ?_;refine ay.aB eY rfl ?_;intro n9;refine zl (c[i].cells) (dI _) ?_;refine zt (s:=n _ (ae.drop (ae.drop ae.refl)) i d) (h:=?_);intro _ _;refine w ?_;exact VE.round (i+1) d zO ⟨rfl,rfl,rfl,rfl,rfl,b7 rfl (by congr 1),trivial⟩ ae.re
 refine w ?_;exact VE.ax rfl rfl ae.refl
structure oA(W:World)(R:List ab)(p:dO):Prop where
  aA:bq W R p.po p.aA
  reads:aV W R 1 p.ro p.reads.length (tq p.reads)
  mx:p.aA.length<=1000000/\p.reads.length<=1000000
  n:∀q∈p.aA,q.d.data.length<=1000000
theorem oA.aR{H:List ab}{p:dO}(h:oA W R p)(e:ae W H R):oA W H p:=⟨h.aA.aR e,h.reads.aR e,h.mx,h.n⟩
theorem PC{p q:dO}(c:oA W R p)(g:oA W R q)(k:p.row=q.row)(m:p.md=q.md)(n:p.par=q.par)(j:p.aA.map aj.D=q.aA.map aj.D)(o:p.reads=q.reads):
  az W Tryz.prog 328 [.agg p.cells.toArray,.agg q.cells.toArray] R (.bool true) R:=by
 have a:q.aA.length=p.aA.length:=by have:=lcs List.length j;rw[ew,ew]at this;exact this.symm
 have f:∀S,ae W S R->∀i (h:i<p.aA.length),az W Tryz.prog 360 [.agg p.aA[i].cells.toArray,.agg (q.aA[i]'(a▸h)).cells.toArray] S (.bool true) S:=λS e i h=>by
  refine MB ?_ (c.n _ (fF h)) ((c.aA.each _ (fF h)).aR e) ((g.aA.each _ (fF _)).aR e);have:=lcs (λl=>l[i]?) j;rw[law,law,fL h,fL (a▸h)]at this;exact CD this
 refine ze Tryz.func328 Tryz.ntmps328 ?_;refine zj λ_=>?_;refine w ?_;refine zj λ_=>?_;refine w ?_;refine VO.gT rfl rfl rfl (by rw[k];simp) ?_;refine w ?_;refine VO.gT rfl rfl rfl (by rw[m];simp) ?_;refine w ?_;refine VO.gT rfl rfl rfl (by rw[n];simp) ?_;refine w ?_;rename_i r t;have b:ae W (Row t 378 q.cells::Row r 378 p.cells::R) R:=ae.drop (ae.drop ae.refl);refine zt (s:=Ro a c.mx.1 (c.aA.gz.aR b) (g.aA.gz.aR b) λS e=>f S (ae.trans e b)) (h:=?_);intro _ _;refine w ?_;have d:=g.reads;rw[<-o]at d⊢;refine zt (s:=Rp c.mx.2 (c.reads.aR b) (d.aR b)) (h:=?_);intro _ _;refine w ?_;exact VE.ax rfl rfl b
end
end Go.Proofs.YtonpidcjpenflaaGreat
namespace Go.Proofs.YtonpidcjpenflaaGreat
open Go.RowKit Go.Sl
attribute [local irreducible] Sl.Own
theorem fZ.Tt{m c s r:Nat}{l d:List aj}(h:fZ m c s r l)(e:d.map aj.D=l.map aj.D):fZ m c s r d:=by
 have a:d.length=l.length:=by have:=lcs List.length e;rwa [ew,ew]at this
 have f:∀i (h:i<d.length),d[i].D=(l[i]'(a▸h)).D:=λi h=>by
  have:=lcs (λl=>l[i]?) e;rw[law,law,fL h,fL (a▸h)]at this;exact CD this
 refine⟨λq=>h.ne (QC.1 (by rw[<-a,q];rfl)),h.row,λi b=>?_,λi b=>?_⟩
 ·
  obtain⟨g,j,k⟩:=KZ (f i b);rw[g,j,k];exact h.of i (a▸b)
 ·
  rw[(KZ (f i _)).1,(KZ (f (i+1) b)).1];exact h.inc i (a▸b)
def uT(L:List aU)(reads:List Nat)(D:List bK):List UInt8:=xf (reads.map (ij L)++D.map (·.data))
abbrev G4(n11 b a:Nat)(q p:dO)(m c s:Nat)(R:List ab):List ab:=Row n11 378 q.cells::bL (q.po,q.pc) q.aA::bX q.aA::jC (q.ro,q.rc) q.reads::Row b 378 p.cells::Row a 36 (cv m c s)::R
theorem G4.aR{W:World}{n11 b a:Nat}{q p:dO}{m c s:Nat}{R:List ab}:ae W (G4 n11 b a q p m c s R) R:=ae.drop (ae.drop (ae.drop (ae.drop (ae.drop (ae.drop ae.refl)))))
theorem Eg{W:World}{R:List ab}{m c s r da rc:Nat}{lo:Option Addr}{L:List aU}{D:List bK}{p:dO}(hm:3<=m/\m<=16)(t:1<=c/\c<=16)(hs:1<=s/\s<=256)(hl:fZ m c s r p.aA)(hd:aV W R 1 (ik da) m (D8 m))(hp:oA W R p)(b:p.is m c r D)
  (hL:qI W R lo L)(bt:L.length=m)(B:∀i∈p.reads,i<m/\(ij L i).length=128):
  aq W Tryz.prog 298 [.agg (cv m c s).toArray,.slice (ik da) m m,.agg p.cells.toArray,.slice lo m rc] R (β:=List aj×Option Addr×Nat) (λy=>(y.1.map aj.D).Perm (D++[⟨(eD m (r/c):Nat),r,uT L p.reads D⟩])) (λy=>.tuple #[.slice y.2.1 y.1.length y.2.2,i6 0]) (λy=>bL y.2 y.1::bX y.1::R):=by
 have hf:=hl.mx hm.1;obtain⟨br,rfl⟩:∃x,lo=some x:=by cases lo with|none=>have:=hL.gz.nil rfl;omega|some x=>exact⟨x,rfl⟩
 have bk:=jV hm.1 (r/c);refine ze Tryz.func298 Tryz.ntmps298 ?_;refine zj λ_=>?_;refine w ?_;refine zj λ_=>?_;refine w ?_;rename_i J K;refine zt (s:=wK hm t hs) (h:=?_);intro _ _;refine zr (s:=Ax (R:=Row K 378 p.cells::Row J 36 (cv m c s)::R) hm t hs hl (hd.aR (ae.drop (ae.drop ae.refl))) (hp.aA.aR (ae.drop (ae.drop ae.refl)))) (h:=?_);intro q o;rw[b.D]at o;have Q:fZ m c s r q.aA:=hl.Tt (o.D.trans b.D.symm);have aa:p.reads=q.reads:=by rw[b.reads,o.reads,b.md,o.md]
 have bw:q.aA.length=p.aA.length:=by have:=lcs List.length (o.D.trans b.D.symm);rwa [ew,ew]at this
 have bs:D.length=q.aA.length:=by rw[<-o.D,ew]
 have Z:∀x∈q.aA,x.d.data.length=128:=λx f=>by
  obtain⟨i,N,rfl⟩:=List.mem_iff_getElem.1 f;exact(Q.of i N).2.2.2.2
 have V:=hp.mx.2;rw[aa]at B V⊢;refine VO.bH (λw z=>z.bn (.head _)) ?_;intro X;refine VO.bH (λw z=>bX.bH ((ae.re:ae W _ [bX q.aA]) w z)) ?_;intro bf;refine VO.bH (λw z=>z.bn (.tail _ (.tail _ (.head _)))) ?_;intro Y;have C:∀H,bL (q.po,q.pc) q.aA∈H->bX q.aA∈H->jC (q.ro,q.rc) q.reads∈H->oA W H q:=λH m1 m2 m3=>⟨bq.own X bf m1 m2,aV.own (D7 _) m3 (by simp) Y,⟨by omega,V⟩,λx f=>by rw[Z x f];decide⟩;refine zw ?_;refine ay.aB rj rfl ?_;intro n11;refine zS q.cells ?_;refine zt (s:=PC (hp.aR G4.aR) (C _ zm zm zm) (b.row.trans o.row.symm) (b.md.trans o.md.symm) (b.par.trans o.par.symm) (b.D.trans o.D.symm) aa) (h:=?_);intro _ _;refine w ?_;refine VC.aK rfl rfl (by simp) ?_;refine zt (s:=AW) (h:=?_);rintro⟨sp,M⟩ _;refine w ?_
 refine VC.loop (α:=Nat×Int) (λy=>y.1<=q.reads.length) (λy=>oo sp M (xf ((q.reads.take y.1).map (ij L))) y.2 (G4 n11 K J q p m c s R))
  (λy=>[(1,.slice (ik da) m m),(3,.slice (some br) m rc),(11,ip n11),(13,ip sp),(54,.slice q.ro q.reads.length q.rc),(55,ii q.reads.length),(56,ii y.1)]) (λy=>q.reads.length-y.1) rfl (0,0) (c7 _) ae.refl ⟨rfl,rfl,rfl,rfl,rfl,rfl,rfl,trivial⟩ ?_
 ·
  rintro⟨i,k⟩ N;dsimp only at N⊢;have an:(xf ((q.reads.take i).map (ij L))).length=128:=nV λx f=>by obtain⟨j,hj,rfl⟩:=fG.1 f;exact(B j (RD hj)).2
  have eS:∀T I,ae W (oo sp M T I (G4 n11 K J q p m c s R)) R:=λT I=>ae.drop (ae.drop G4.aR);refine w ?_;refine zk ?_ ?_<;>intro t
  ·
   have a:i<q.reads.length:=by have:=cI t;omega
   clear t;obtain⟨h1,U⟩:=B _ (fF a);have O:q.reads[i]<L.length:=by omega
   have F:xf ((q.reads.take (i+1)).map (ij L))=eP (xf ((q.reads.take i).map (ij L))) (ij L q.reads[i]):=by rw[nZ a,jv,List.map_singleton,Cw]
   rw[vv O]at U F;have ad:=(C (oo sp M (xf ((q.reads.take i).map (ij L))) k (G4 n11 K J q p m c s R)) zm zm zm).reads;obtain⟨qa,G⟩:∃x,q.ro=some x:=by cases e:q.ro with|none=>have:=Y e;omega|some x=>exact⟨x,rfl⟩
   rw[G]at ad⊢;refine w ?_;refine VO.pure rfl rfl (.fH ah rfl rfl ad (show(tq q.reads)[i]?=some (ii (q.reads[i]:Nat))by rw[law,fL a];rfl)) rfl ?_;refine w ?_;refine VO.pure rfl rfl (.fH ah rfl rfl (hL.gz.aR (eS _ _)) (show(L.map aU.ei)[q.reads[i]]?=some (L[q.reads[i]].ei)by rw[law,fL O];rfl)) rfl ?_;refine w ?_;refine VO.re 64 (.slice L[q.reads[i]].ao 128 L[q.reads[i]].cap) rfl (by show Value.slice _ _ _=_;rw[U]) ?_;refine zt (s:=Cv sp M _ L[q.reads[i]].data k an U λT I=>U▸(hL.each _ (fF O)).aR (eS T I)) (h:=?_);intro I _;rw[<-F];refine w ?_;exact VE.round (i+1,I) a (by dsimp only;omega) ⟨rfl,rfl,rfl,rfl,rfl,rfl,b7 rfl (by congr 1),trivial⟩ ae.refl
  have E:i=q.reads.length:=by have:=dx t;omega
  clear t;rw[E,DK]at an⊢;clear E N;refine w ?_;refine VC.aR (H':=bL (none,0) (q.aA.take 0)::oo sp M (xf (q.reads.map (ij L)++(D.take 0).map (·.data))) k (G4 n11 K J q p m c s R)) (λw z=>by rw[KP,KP,DL,mn];exact z.aZ 208 3) ?_
  refine VC.loop (α:=Nat×(Option Addr×Nat)×Int) (λy=>y.1<=q.aA.length) (λy=>bL y.2.1 (q.aA.take y.1)::oo sp M (xf (q.reads.map (ij L)++(D.take y.1).map (·.data))) y.2.2 (G4 n11 K J q p m c s R))
   (λy=>[(1,.slice (ik da) m m),(11,ip n11),(13,ip sp),(18,.slice y.2.1.1 (q.aA.take y.1).length y.2.1.2),(70,.slice q.po q.aA.length q.pc),(71,ii q.aA.length),(72,ii y.1)]) (λy=>q.aA.length-y.1) rfl (0,(none,0),k) (c7 _) ae.refl ⟨rfl,rfl,rfl,rfl,rfl,rfl,rfl,trivial⟩ ?_
  have bo:∀x∈q.reads.map (ij L),x.length=128:=λx f=>by obtain⟨j,hj,rfl⟩:=fG.1 f;exact(B j hj).2
  have av:∀x∈D.map (·.data),x.length=128:=λx f=>by
   rw[<-o.D,oS]at f;obtain⟨y,hy,rfl⟩:=fG.1 f;exact Z y hy
  have au:∀i,(xf (q.reads.map (ij L)++(D.take i).map (·.data))).length=128:=λi=>nV λx f=>(l0.1 f).elim (bo x) λh=>av x (by rw[List.map_take]at h;exact RD h);rintro⟨i,⟨xo,xc⟩,k⟩ N;dsimp only at N⊢;refine w ?_;refine zk ?_ ?_<;>intro t
  ·
   have a:i<q.aA.length:=by have:=cI t;omega
   clear t;have h:=Q.of i a;obtain⟨mm,bh⟩:=w8 h.1;have v:=h.2.2.2.2;have ba:D[i]'zO=q.aA[i].D:=by have:=lcs (λl=>l[i]?) o.D;rw[law,fL a,fL (show i<D.length by omega)]at this;exact(CD this).symm
   have F:xf (q.reads.map (ij L)++(D.take (i+1)).map (·.data))=eP (xf (q.reads.map (ij L)++(D.take i).map (·.data))) q.aA[i].d.data:=by rw[nZ (show i<D.length by omega),jv,List.map_singleton,<-lx,Cw,ba]
   have bp:=au i;have bx:(q.aA.take i).length=i:=by rw[j1];omega
   have bb:=C (bL (xo,xc) (q.aA.take i)::oo sp M (xf (q.reads.map (ij L)++(D.take i).map (·.data))) k (G4 n11 K J q p m c s R)) zm zm zm;obtain⟨qa,G⟩:∃x,q.po=some x:=by cases e:q.po with|none=>have:=X e;omega|some x=>exact⟨x,rfl⟩
   have ag:=bb.aA.gz;rw[G]at ag;rw[show(Value.slice q.po q.aA.length q.pc)= .slice (some qa) q.aA.length q.pc by rw[G]];refine w ?_;refine VO.pure rfl rfl (.gY ah rfl rfl ag (ke q.aA i a) rfl) rfl ?_;refine zw ?_;refine ay.aB eY rfl ?_;intro n20;refine zl (q.aA[i].cells) (dI _) ?_;refine VO.re 78 (.slice q.aA[i].d.ao 128 q.aA[i].d.cap) rfl (by show Value.slice _ _ _=_;rw[v]) ?_;refine zr (s:=Cv (R:=Row n20 208 q.aA[i].cells::bL (xo,xc) (q.aA.take i)::G4 n11 K J q p m c s R) sp M _ q.aA[i].d.data k bp v λT I=>v▸(C _ zm zm zm).aA.each _ (fF a)) (h:=?_);intro I _;rw[<-F];refine w ?_;refine VO.re 82 (ii (mm:Nat)) rfl (by rw[bh]) ?_;refine w ?_;refine VO.pure rfl rfl (af.rZ ah rfl rfl (hd.aR (ae.drop (ae.drop (ae.drop (ae.drop G4.aR))))) (show(D8 m)[mm]?=some (.bool false)by rw[Og,lam zO])) rfl ?_;refine zw ?_;refine ay.buildSlice (cs:=q.aA[i].cells) ji rfl rfl (by simp[Value.cells]) (by simp[Value.cells]) (by decide) rfl ?_;intro nb;refine zq ?_;refine ay.cg ji rfl rfl zh zm rfl (dI _) (by simp only[maxLen];omega) zO rfl ?_;intro n g;refine w ?_;refine VE.round (i+1,(n,g),I) a (by dsimp only;omega) ⟨rfl,rfl,rfl,b7 rfl (by dsimp only;rw[nZ a,c9,ie]),rfl,rfl,b7 rfl (by congr 1),trivial⟩ ?_;dsimp only;unfold bL;rw[nZ a,im,c9,ie];exact ae.re
  have E:i=q.aA.length:=by have:=dx t;omega
  clear t;have A:=au i;have hS:xf (q.reads.map (ij L)++(D.take i).map (·.data))=uT L q.reads D:=by unfold uT;rw[qy zO]
  rw[hS]at A⊢;rw[E,DK];obtain⟨S,bd⟩:∃S,uT L q.reads D=S:=⟨_,rfl⟩;rw[bd]at A⊢;have bm:q.par<m:=by rw[o.par];exact bk
  refine w ?_;refine VO.pure rfl rfl (af.rZ ah rfl rfl (hd.aR (ae.drop (ae.drop (ae.drop G4.aR)))) (show(D8 m)[q.par]?=some (.bool false)by rw[Og,lam bm])) rfl ?_;refine w ?_;refine zx [6,8] 9 [0,1,2,3,4,5,6,7,8,9,10] _ ?_;refine zr (s:=uU (R:=bL (xo,xc) q.aA::G4 n11 K J q p m c s R) sp M S k A) (h:=?_);intro u _;refine w ?_;refine VD.re 103 (aU.ei ⟨u.1,u.2,S⟩) rfl (by show _=Value.slice _ _ _;rw[A]) ?_;refine VD.take rfl rfl rfl (af.build eY rfl (show aC _ _ _=some (aj.cells ⟨q.par,q.row,⟨u.1,u.2,S⟩⟩)by simp[aC,bR,Value.cells])) rfl ?_;refine zq ?_;refine ay.buildSlice (cs:=(aj.mk q.par q.row ⟨u.1,u.2,S⟩).cells) ji rfl rfl (by simp[Value.cells]) (by simp[Value.cells]) (by decide) rfl ?_;intro nb;refine⟨ae.re,?_⟩;refine zq ?_;refine ay.cg ji rfl rfl zh zm rfl (dI _) (by simp only[maxLen];omega) zO rfl ?_;intro n g;refine w ?_;obtain⟨e,he⟩:∃e:aj,e=⟨q.par,q.row,⟨u.1,u.2,S⟩⟩:=⟨_,rfl⟩;refine VO.re 107 (.slice n (q.aA++[e]).length g) rfl (by rw[c9,ie]) ?_;refine VO.aR (H':=bL (n,g) (q.aA++[e])::bX (q.aA++[e])::R) (λw z=>?_) ?_
  ·
   have h0:=(ae.re:ae W _ (Sl.Own 5 1 (.slice u.1 128 u.2) 128 (bytes S)::bX q.aA::Sl.Own 208 3 (.slice n (q.aA.length+1) g) (q.aA.length+1) (bg q.aA++(aj.mk q.par q.row ⟨u.1,u.2,S⟩).cells)::R)) w z;have h1:Sl.Holds W (aj.res e::bX q.aA::Sl.Own 208 3 (.slice n (q.aA.length+1) g) (q.aA.length+1) (bg q.aA++e.cells)::R) w:=by rw[he];unfold aj.res aU.res;dsimp only;rw[A];exact h0
   have U:=du (res:=aj.res) h1;unfold bL;rw[im,c9,ie];exact U.swap
  refine zr (s:=Ny (xp:=(n,g)) (R:=bX (q.aA++[e])::R) (λx f=>(l0.1 f).elim (λf=>by obtain⟨i,N,rfl⟩:=List.mem_iff_getElem.1 f;have:=Q.of i N;omega) (λf=>by rw[ju.1 f,he];dsimp only;omega)) (by simp) (by rw[c9,ie];omega)) (h:=?_);intro T P;refine w ?_;refine VE.done (T,n,g) rfl ?_ (by dsimp only;rw[P.length_eq,c9,ie]) (λw z=>(p9 (res:=aj.res) P.symm z.swap).swap);refine(P.map aj.D).trans (.of_eq ?_);rw[jv,o.D,List.map_singleton,he,<-o.par,<-o.row]
theorem fZ.nodup{m c s r:Nat}{l:List aj}(h:fZ m c s r l):(l.map λp=>p.av.toNat).Nodup:=by
  have e:∀j (b:j<l.length) i (a:i<l.length),i<j->l[i].av<l[j].av:=λj=>by
    induction j with
    |zero=>intro b i a q;omega
    |succ j k=>
      intro b i a q;have f:=h.inc j b;rcases Aj i j with g|g
      · have:=k zO i a g;omega
      · obtain rfl:i=j:=by omega
        exact f
  rw[List.nodup_iff_pairwise_ne,List.pairwise_iff_getElem];intro i j a b d;rw[ew]at a b;have:=e j b i a d;have:=h.of i a;rw[Jz,Jz];omega
theorem PY{m c s r md:Nat}{l:List aj}{L:List aU}{V n:Nat->Nat->List UInt8}(h:fZ m c s r l)(N:3<=m)(v:md=xw m l.length)(J:∀i∈lD m (eD m (r/c)) ((l.map aj.D).map (·.av)) md,ij L i=V i r)(K:∀k,k<m->(V k r).length=128)(d:∀k,k<m->(n k r).length=128)
  (Q:ia (λk=>V k r) m=dC)(R:ia (λk=>n k r) m=dC)(T:∀p∈l,p.d.data=n p.av.toNat r)(O:∀k:Nat,k<m->k≠eD m (r/c)->(∀p∈l,p.av≠(k:Int))->n k r=V k r):
  uT L (lD m (eD m (r/c)) ((l.map aj.D).map (·.av)) md) (l.map aj.D)=n (eD m (r/c)) r:=by
 have a:=jV N (r/c);have M:=h.mx N;obtain⟨par,t⟩:∃p,eD m (r/c)=p:=⟨_,rfl⟩;have D:∀p∈l,0<=p.av/\p.av<m/\p.av≠(par:Nat)/\p.d.data.length=128:=λp a=>by
  obtain⟨i,b,rfl⟩:=List.mem_iff_getElem.1 a;have:=h.of i b;rw[t]at this;exact⟨this.1,this.2.1,this.2.2.2.1,this.2.2.2.2⟩
 rw[t]at a O J⊢;obtain⟨G,A⟩:∃G,(l.map λp=>p.av.toNat)=G:=⟨_,rfl⟩;have z:=h.nodup;rw[A]at z;have o:∀i∈G,i<m/\i≠par:=λi b=>by
  rw[<-A]at b;obtain⟨p,a,rfl⟩:=fG.1 b;have:=D p a;omega
 have S:G.length=l.length:=by rw[<-A,ew]
 have B:∀i:Nat,(((l.map aj.D).map (·.av)).any λp=>p==(i:Int))=G.contains i:=λi=>by
  rw[Bool.eq_iff_iff,List.any_eq_true,List.contains_iff_mem,<-A,oS];simp only[fG,beq_iff_eq];constructor
  ·
   rintro⟨x,⟨p,a,rfl⟩,e⟩;exact⟨p,a,by have:p.av=(i:Int):=e;omega⟩
  ·
   rintro⟨p,a,e⟩;have:=D p a;exact⟨_,⟨p,a,rfl⟩,by show p.av=(i:Int);omega⟩
 have C:∀i:Nat,((i:Int)==(par:Int))=(i==par):=λi=>by rw[Bool.eq_iff_iff,beq_iff_eq,beq_iff_eq];omega
 obtain⟨rs,E⟩:∃rs,lD m par ((l.map aj.D).map (·.av)) md=rs:=⟨_,rfl⟩;rw[E]at J⊢;have u:rs=(List.range m).filter (λi=>!(i==par||G.contains i))\/rs=(List.range m).filter (λi=>i==par||G.contains i):=by
  rw[<-E];unfold lD Eo MO;simp only[B,bne,C,Bool.not_or];split
  · exact .inl rfl
  ·
   split
   · exact .inr rfl
   ·
    refine .inl ?_;have I:G.length+1=m:=by
     unfold xw at v;split at v
     · omega
     · split at v<;>omega
    have:=Nd a z o I;simpa only[Bool.not_or]using this.symm
 have P:uT L rs (l.map aj.D)=xf (rs.map (λi=>V i r)++G.map λi=>n i r):=by
  unfold uT;rw[show rs.map (ij L)=rs.map (λi=>V i r)from HF J,<-A,oS,oS];congr 2;exact HF λp a=>T p a
 have H:=PZ (f:=λi=>V i r) (g:=λi=>n i r) a z o K (λi b=>d i (o i b).1) Q u P;obtain⟨x,F⟩:∃x,uT L rs (l.map aj.D)=x:=⟨_,rfl⟩;rw[F]at H⊢;have j:x.length=128:=by
  rw[<-F,P];refine nV λy W=>(l0.1 W).elim (λq=>?_) λq=>?_
  ·
   obtain⟨i,b,rfl⟩:=fG.1 q;refine K i ?_;rcases u with e|e<;>rw[e,te,HC]at b<;>exact b.1
  ·
   obtain⟨i,b,rfl⟩:=fG.1 q;exact d i (o i b).1
 rw[jQ (g:=λi=>if i=par then x else n i r) λi b=>by
  by_cases e:i=par
  · rw[lam e,lam e]
  ·
   rw[aE e,aE e];split
   · rfl
   ·
    rename_i q;refine(O i b e λp a U=>q ?_).symm;rw[<-A];exact fG.2 ⟨p,a,by omega⟩,sE d a j,R]at H
 have X:eP dC (n par r)=n par r:=by rw[k6,eg (d par a)]
 rw[X]at H;exact(E3 (d par a) j H).symm
structure mX where
  r:Nat
  po:Option Addr
  pc:Nat
  l:List cQ
  xo:Option Addr
  xc:Nat
  out:List cu
  pa:Option Addr
  pp:Nat
  ps:List aj
abbrev mX.cells(x:mX):List Value:=[ip x.r,.slice x.po x.l.length x.pc,.slice x.xo x.out.length x.xc,.slice x.pa x.ps.length x.pp]
abbrev mX.jk(x:mX)(l:List aj)(y:Option Addr×Nat):mX:={x with pa:=y.1,pp:=y.2,ps:=l}
abbrev gU(a:Nat)(x:mX)(R:List ab):List ab:=Row a 259 x.cells::bL (x.pa,x.pp) x.ps::bX x.ps::R
structure Fe(m c s row:Nat)(V V':Nat->Nat->List UInt8)(l:List aj):Prop where
  n:∀k,k<m->(V' k row).length=128
  par:ia (λk=>V' k row) m=dC
  is:∀p∈l,p.d.data=V' p.av.toNat row
  KT:∀k:Nat,k<m->k≠eD m (row/c)->(∀p∈l,p.av≠(k:Int))->V' k row=V k row
abbrev QX(n7 c b:Nat)(p:dO)(a:Nat)(x:mX)(Y:eA)(fr:List Int)(D:aw)(R:List ab):List ab:=
  Row n7 378 p.cells::bL (p.po,p.pc) p.aA::bX p.aA::jC (p.ro,p.rc) p.reads::Sl.Own 4 1 (.slice (ik b) Y.m Y.m) Y.m (D8 Y.m)::Row c 174 cD::gU a x (de x.r Y fr (al Y.b D::R))
structure Om where
  D:aw
  l:List aj
  x:Option Addr×Nat
structure Qm(m c row:Nat)(V':Nat->Nat->List UInt8)(l l':List aj):Prop where
  D:(l'.map aj.D).Perm (l.map aj.D++[⟨(eD m (row/c):Nat),row,V' (eD m (row/c)) row⟩])
theorem LU{L:List aU}{k:Nat}{e:aU}(h:k<L.length)(j:Nat):ij (L.set k e) j=if j=k then e.data else ij L j:=by
 unfold ij;rw[List.getElem?_set];by_cases q:k=j
 · subst q;rw[lam rfl,lam h,lam rfl];rfl
 · rw[aE q,aE (Ne.symm q)]
theorem OK{W:World}{R:List ab}{D:aw}{K:Kd}{V V':Nat->Nat->List UInt8}{n c0 row:Nat}{q:cu}(d:Nat)(x:mX)(Y:eA)(X:Y.ok)(fr:List Int)(hF:Data Y fr K V)(bo:∀k row,k<Y.m->¬gB fr k row)(A:bq W R Y.wo Y.wl)(hq:Bq D n K c0)
  (hl:fZ Y.m Y.c Y.s row q.aA)(U:bq W R q.ao q.aA)(hN:Fe Y.m Y.c Y.s row V V' q.aA)(cw:x.ps.length<=100000):
  aq W Tryz.prog 252 [ip d,.slice q.ao q.aA.length q.cap] (gU d x (de x.r Y fr (al Y.b D::R))) (β:=Om) (λy=>Bq y.D n K c0/\Qm Y.m Y.c row V' q.aA y.l) (λ_=>.agg cD.toArray)
   (λy=>gU d (x.jk (x.ps++y.l) y.x) (de x.r Y fr (al Y.b y.D::R))):=by
 have bb:=X.m;have bh:0<q.aA.length:=KO.2 hl.ne;have ch:=hl.mx bb.1;obtain⟨la,bG⟩:=hl.some U;have cb:(bg q.aA)[0*3+1]?=some (ii (row:Nat)):=by rw[si q.aA 0 1 bh (by decide),<-(hl.of 0 bh).2.2.1];rfl
 have v:=hl.row;rw[bG]at U⊢;refine ze Tryz.func252 Tryz.ntmps252 ?_;refine zq ?_;refine ay.aB bE rfl ?_;intro C;refine zw ?_;refine ay.dd (m:=Y.m) NI rfl rfl rfl zO (by simp only[maxLen];omega) rfl ?_;intro r;refine w ?_
 refine VC.loop (α:=Nat) (λi=>i<=Y.m) (λ_=>Sl.Own 4 1 (.slice (ik r) Y.m Y.m) Y.m (D8 Y.m)::Row C 174 cD::gU d x (de x.r Y fr (al Y.b D::R)))
  (λi=>[(0,ip d),(1,.slice (some la) q.aA.length q.cap),(4,ip C),(5,.slice (ik r) Y.m Y.m),(24,.slice (ik r) Y.m Y.m),(25,ii Y.m),(26,ii i)]) (λi=>Y.m-i) rfl 0 (c7 _) ae.re ⟨rfl,rfl,rfl,rfl,rfl,rfl,rfl,trivial⟩ ?_
 ·
  intro i E;have eR:ae W (Sl.Own 4 1 (.slice (ik r) Y.m Y.m) Y.m (D8 Y.m)::Row C 174 cD::gU d x (de x.r Y fr (al Y.b D::R))) R:=ae.drop (ae.drop (ae.drop (ae.drop (ae.drop (ae.drop (ae.drop (ae.drop ae.refl)))))));refine w ?_;refine zk ?_ ?_<;>intro Z
  ·
   have B:i<Y.m:=by have:=cI Z;omega
   clear Z;refine w ?_;refine zx [11] 12 [0,1,2,3,4,5,6,7,8,9,10,11,12,13] _ ?_;refine w ?_;refine VD.take rfl rfl rfl (.fH ah rfl rfl (U.gz.aR eR) cb) rfl ?_;refine zr (s:=jL x.r Y fr hF.len i B row) (h:=?_);intro _ _;rw[gx (bo i row B)];refine zw ?_;refine ay.EJ ah rfl rfl rfl rfl zh (by rw[j0];omega) ?_;rw[show(D8 Y.m).set i (.bool false)=D8 Y.m by rw[List.set_replicate_self]];refine w ?_;exact VE.round (i+1) B zO ⟨rfl,rfl,rfl,rfl,rfl,rfl,b7 rfl (by congr 1),trivial⟩ ae.re
  clear Z E;have hd:∀H,Sl.Own 4 1 (.slice (ik r) Y.m Y.m) Y.m (D8 Y.m)∈H->aV W H 1 (ik r) Y.m (D8 Y.m):=λH m=>aV.own (λu hu=>by rw[HE hu];rfl) m (by simp) (by simp);refine zr (s:=Ax (R:=Sl.Own 4 1 (.slice (ik r) Y.m Y.m) Y.m (D8 Y.m)::Row C 174 cD::gU d x (de x.r Y fr (al Y.b D::R))) X.m X.c X.s hl (hd _ (.head _)) (U.aR eR)) (h:=?_);intro p T;obtain rfl:p.row=row:=T.row;refine VO.bH (λw A=>A.bn (.head _)) ?_;intro bw;refine VO.bH (λw A=>bX.bH ((ae.re:ae W _ [bX p.aA]) w A)) ?_;intro bx;refine VO.bH (λw A=>A.bn (.tail _ (.tail _ (.head _)))) ?_;intro bd;have aa:fZ Y.m Y.c Y.s p.row p.aA:=hl.Tt T.D;have ca:∀x∈p.aA,x.d.data.length=128:=λx hx=>by
   obtain⟨i,E,rfl⟩:=List.mem_iff_getElem.1 hx;exact(aa.of i E).2.2.2.2
  have an:∀k∈p.reads,k<Y.m:=λk I=>by
   rw[T.reads]at I;unfold lD at I;split at I
   · exact HC.1 (te.1 I).1
   ·
    split at I
    · exact HC.1 (te.1 I).1
    · cases I
  have cy:p.reads.length<=16:=by
   rw[T.reads];unfold lD;split
   · exact qX (HH _ _) (by rw[KN];omega)
   ·
    split
    · exact qX (HH _ _) (by rw[KN];omega)
    · exact c7 _
  have ct:p.aA.length=q.aA.length:=by have:=lcs List.length T.D;rwa [ew,ew]at this
  have ba:∀H,bL (p.po,p.pc) p.aA∈H->bX p.aA∈H->jC (p.ro,p.rc) p.reads∈H->oA W H p:=λH m1 m2 m3=>⟨bq.own bw bx m1 m2,aV.own (D7 _) m3 (by simp) bd,⟨by omega,by omega⟩,λx hx=>by rw[ca x hx];decide⟩;refine zw ?_;refine ay.aB rj rfl ?_;intro n7;refine zS p.cells ?_;refine zq ?_;refine ay.dd (m:=Y.m) yf rfl rfl rfl zO (by simp only[maxLen];omega) rfl ?_;intro J;refine w ?_;refine VC.aR (H':=Sl.Own 38 1 (.slice (ik J) Y.m Y.m) Y.m ((List.replicate Y.m BM).map aU.ei)::cP [BM]::QX n7 C r p d x Y fr D R) (ae.trans (ae.re (L:=Sl.Own 38 1 (.slice (ik J) Y.m Y.m) Y.m (List.replicate Y.m (.slice none 0 0))::QX n7 C r p d x Y fr D R)) (λw A=>by rw[List.map_replicate];exact(du (res:=aU.res) (l:=[]) (a:=BM) (((di (res:=aU.res) A).aZ 5 1))).swap)) ?_;have cc:∀D',ae W (QX n7 C r p d x Y fr D' R) R:=λD'=>ae.drop (ae.drop (ae.drop (ae.drop (ae.drop (ae.drop (ae.drop (ae.drop (ae.drop (ae.drop (ae.drop (ae.drop ae.refl)))))))))))
  refine VC.loop (α:=Nat×List aU×List aU×aw) (λy=>y.1<=p.reads.length/\y.2.1.length=Y.m/\(∀e∈y.2.1,e∈y.2.2.1)/\(∀j (h:j<p.reads.length),j<y.1->ij y.2.1 p.reads[j]=V p.reads[j] p.row)/\Bq y.2.2.2 n K c0)
   (λy=>Sl.Own 38 1 (.slice (ik J) Y.m Y.m) Y.m (y.2.1.map aU.ei)::cP y.2.2.1::QX n7 C r p d x Y fr y.2.2.2 R)
   (λy=>[(0,ip d),(4,ip C),(5,.slice (ik r) Y.m Y.m),(7,ip n7),(9,.slice (ik J) Y.m Y.m),(70,.slice p.ro p.reads.length p.rc),(71,ii p.reads.length),(72,ii y.1)]) (λy=>p.reads.length-y.1) rfl (0,List.replicate Y.m BM,[BM],D)
   ⟨c7 _,j0,λe O=>by rw[HE O];exact .head _,λj _ h=>cN h (Nat.not_lt_zero j),hq⟩ ae.refl ⟨rfl,rfl,rfl,rfl,rfl,rfl,rfl,rfl,trivial⟩ ?_
  rintro⟨i,L,G,D'⟩ ⟨E,F,M,ad,ag⟩;dsimp only at E F M ad ag⊢;refine w ?_;refine zk ?_ ?_<;>intro Z
  ·
   have B:i<p.reads.length:=by have:=cI Z;omega
   clear Z;have P:=an _ (fF B);have bm:=(ba (Sl.Own 38 1 (.slice (ik J) Y.m Y.m) Y.m (L.map aU.ei)::cP G::QX n7 C r p d x Y fr D' R) zm zm zm).reads;obtain⟨qa,bk⟩:∃x,p.ro=some x:=by cases e:p.ro with|none=>have:=bd e;omega|some x=>exact⟨x,rfl⟩
   have b:=hF.mu p.reads[i] p.row P v;obtain⟨k,I⟩:∃k,p.reads[i]=k:=⟨_,rfl⟩;rw[I]at P b;obtain⟨vd,au⟩:∃l,V k p.row=l:=⟨_,rfl⟩;rw[au]at b;have N:=λS (e:ae W S R)=>tM (W:=W) (R:=S) x.r Y X fr hF (A.aR e) ag k P p.row v (.inr (bo k p.row P));rw[au]at N;rw[show(Value.slice p.ro p.reads.length p.rc)= .slice (some qa) p.reads.length p.rc by rw[bk]];rw[bk]at bm;refine w ?_;refine VO.pure rfl rfl (.fH ah rfl rfl bm (show(tq p.reads)[i]?=some (ii (k:Nat))by rw[law,fL B,I];rfl)) rfl ?_;refine w ?_
   refine VC.join (α:=mZ×Nat) (λy=>Bq y.1.D n K c0) (λy=>Row y.2 174 cD::aU.res ⟨y.1.x.1,y.1.x.2,vd⟩::Sl.Own 38 1 (.slice (ik J) Y.m Y.m) Y.m (L.map aU.ei)::cP G::QX n7 C r p d x Y fr y.1.D R)
    (λy=>[(0,ip d),(4,ip C),(5,.slice (ik r) Y.m Y.m),(7,ip n7),(9,.slice (ik J) Y.m Y.m),(11,ii (k:Nat)),(12,aU.ei ⟨y.1.x.1,y.1.x.2,vd⟩),(13,ip y.2),(70,.slice (some qa) p.reads.length p.rc),(71,ii p.reads.length),(72,ii i)]) ?_ ?_
   ·
    intro Q2 jn;have hO:∀x:Option Addr×Nat,Sl.Own 5 1 (.slice x.1 128 x.2) 128 (bytes vd)=aU.res ⟨x.1,x.2,vd⟩:=λx=>by unfold aU.res;dsimp only;rw[b]
    refine VC.vw [7,11] 13 [0,1,2,3,4,5,6] [[7,8,9,10,11,12,13],[11,7,8,9,10,12,13]] (Row n7 378 p.cells::Row d 259 x.cells:: []) rfl (by kernel_rfl) (by kernel_rfl) ae.re ?_;refine w ?_;refine VE.vf ?_ ?_
    ·
     refine zr (s:=N (Sl.Own 38 1 (.slice (ik J) Y.m Y.m) Y.m (L.map aU.ei)::cP G::Row n7 378 p.cells::bL (p.po,p.pc) p.aA::bX p.aA::jC (p.ro,p.rc) p.reads::Sl.Own 4 1 (.slice (ik r) Y.m Y.m) Y.m (D8 Y.m)::Row C 174 cD::gU d x R) (ae.drop (ae.drop (ae.drop (ae.drop (ae.drop (ae.drop (ae.drop (ae.drop (ae.drop (ae.drop (ae.drop ae.refl)))))))))))) (h:=?_);rintro⟨x2,D2⟩ t;dsimp only[Qo]at t⊢;rw[hO x2];refine zw ?_;refine ay.aB bE rfl ?_;intro n13;refine zS cD ?_;exact jn.to (⟨x2,D2⟩,n13) t ⟨rfl,rfl,rfl,rfl,rfl,rfl,b7 rfl (by show _=Value.slice _ _ _;rw[b];rfl),rfl,rfl,rfl,rfl,trivial⟩ ae.re
    ·
     refine zq ?_;refine ay.aB bE rfl ?_;intro n13;refine zr (s:=N (Row n13 174 cD::Sl.Own 38 1 (.slice (ik J) Y.m Y.m) Y.m (L.map aU.ei)::cP G::Row n7 378 p.cells::bL (p.po,p.pc) p.aA::bX p.aA::jC (p.ro,p.rc) p.reads::Sl.Own 4 1 (.slice (ik r) Y.m Y.m) Y.m (D8 Y.m)::Row C 174 cD::gU d x R) (ae.drop (ae.drop (ae.drop (ae.drop (ae.drop (ae.drop (ae.drop (ae.drop (ae.drop (ae.drop (ae.drop (ae.drop ae.refl))))))))))))) (h:=?_);rintro⟨x2,D2⟩ t;dsimp only[Qo]at t⊢;rw[hO x2];refine zS cD ?_;exact jn.to (⟨x2,D2⟩,n13) t ⟨rfl,rfl,rfl,rfl,rfl,rfl,b7 rfl (by show _=Value.slice _ _ _;rw[b];rfl),rfl,rfl,rfl,rfl,trivial⟩ ae.re
   rintro⟨⟨x2,D2⟩,n13⟩ t;dsimp only at t⊢;obtain⟨e,O⟩:∃e:aU,e=⟨x2.1,x2.2,vd⟩:=⟨_,rfl⟩;rw[<-O];refine zw ?_;refine ay.EJ ah rfl rfl rfl rfl zh (by rw[ew,F];omega) ?_;rw[<-List.map_set];refine w ?_;refine VE.round (i+1,L.set k e,G++[e],D2) ⟨B,by rw[vD];exact F,λz hz=>?_,λj hj ck=>?_,t⟩ (by dsimp only;omega) ⟨rfl,rfl,rfl,rfl,rfl,rfl,rfl,b7 rfl (by congr 1),trivial⟩ ?_
   ·
    rcases List.mem_or_eq_of_mem_set hz with h|h
    · exact List.mem_append_left _ (M z h)
    · rw[h];exact List.mem_append_right _ (.head _)
   ·
    dsimp only;rw[LU zO];split
    · rename_i g;rw[O,g];exact au.symm
    ·
     rename_i g;refine ad j hj ?_;rcases Aj j i with h|h
     · exact h
     ·
      obtain rfl:j=i:=by omega
      exact cN I g
   ·
    dsimp only;exact λw A=>(ae.re:ae W (cP (G++[e])::_) _) w (du (res:=aU.res) (a:=e) ((ae.re:ae W _ (e.res::cP G::Sl.Own 38 1 (.slice (ik J) Y.m Y.m) Y.m ((L.set k e).map aU.ei)::QX n7 C r p d x Y fr D2 R)) w A))
  have bs:i=p.reads.length:=by have:=dx Z;omega
  clear Z;subst bs;refine VC.bH (λw A=>cP.bH ((ae.re:ae W _ [cP G]) w A)) ?_;intro bf;have br:∀H,Sl.Own 38 1 (.slice (ik J) Y.m Y.m) Y.m (L.map aU.ei)∈H->cP G∈H->qI W H (ik J) L:=λH m1 m2=>⟨by rw[F];exact aV.own (nM L) m1 (by rw[ew,F];omega) (by simp),λe O=>aV.cG m2 (M e O) λR m=>aU.gz (bf e (M e O)) m,λe O=>bf e (M e O)⟩;have av:∀i∈p.reads,ij L i=V i p.row:=λi E=>by
   obtain⟨j,hj,rfl⟩:=List.mem_iff_getElem.1 E;exact ad j hj hj
  have hx:=PY (md:=p.md) (L:=L) hl bb.1 (by rw[T.md,ew]) (λi E=>by rw[<-T.reads]at E;exact av i E) (λk I=>hF.mu k _ I v) hN.n (hF.par _ v) hN.par hN.is hN.KT;rw[<-T.reads]at hx;refine w ?_;refine zx [10] 15 [0,1,2,3,4,5,6,7,8,9,10,11,12,13,14,15] _ ?_;refine zt (s:=Eg X.m X.c X.s aa (hd _ zm) (ba _ zm zm zm) T (br _ zm zm) F (λi E=>⟨an i E,by rw[av i E];exact hF.mu i _ (an i E) v⟩)) (h:=?_);rintro⟨c,bp⟩ Q;dsimp only at Q⊢;rw[hx]at Q;have cr:c.length=q.aA.length+1:=by have:=Q.length_eq;rwa [ew,c9,ew,ie]at this
  refine zw ?_;refine ay.append ji rfl rfl zh (λw A=>(show jW w 3 (.slice bp.1 c.length bp.2) c.length (bg c)from jW.own (e:=208) (xG _) A zm).src ji.tZ) (by simp only[maxLen];omega) zO rfl ?_;intro o f;refine zr (s:=l8 0 0) (h:=?_);intro _ _;refine zS cD ?_;refine VE.results1 (.inl rfl) (⟨D',c,(o,f)⟩:Om) rfl (aL.agg (vs:=cD) ah rfl rfl zm rfl rfl) ⟨ag,⟨Q⟩⟩ rfl ?_;have e1:bL (o,f) (x.ps++c)=Sl.Own 208 3 (.slice o (x.ps.length+c.length) f) (x.ps.length+c.length) (bg x.ps++bg c):=by
   unfold bL;rw[show bg (x.ps++c)=bg x.ps++bg c from Ai,c9]
  have e2:(x.jk (x.ps++c) (o,f)).cells=[ip x.r,.slice x.po x.l.length x.pc,.slice x.xo x.out.length x.xc,.slice o (x.ps.length+c.length) f]:=by
   unfold mX.cells mX.jk;rw[c9]
  show ae W _ (Row d 259 (x.jk (x.ps++c) (o,f)).cells::bL (o,f) (x.ps++c)::bX (x.ps++c)::de x.r Y fr (al Y.b D'::R));rw[e1,e2];exact λw A=>(ae.re:ae W (bX (x.ps++c)::_) _) w (Aw ((ae.re:ae W _ (bX x.ps::bX c::Row d 259 [ip x.r,.slice x.po x.l.length x.pc,.slice x.xo x.out.length x.xc,.slice o (x.ps.length+c.length) f]::Sl.Own 208 3 (.slice o (x.ps.length+c.length) f) (x.ps.length+c.length) (bg x.ps++bg c)::de x.r Y fr (al Y.b D'::R))) w A))
theorem y7{W:World}{R:List ab}(X:aY)(k:Nat)(d:X.st.length<=16)(p:k<=X.st.length)(f:∀j (h:j<X.st.length),j<k->X.st[j]≠3)(g:∀h:k<X.st.length,X.st[k]=3):
  az W Tryz.prog 123 [.slice (some X.so) X.st.length X.sc,ib 3] (dz X::R) (ii (if k<X.st.length then(k:Int)else-1)) (dz X::R):=by
 have hb1:aV W (dz X::R) 1 (some X.so) X.st.length (bytes X.st):=dz.gz zm;refine ze Tryz.func123 Tryz.ntmps123 ?_;refine VC.loop (α:=Nat) (λi=>i<=k) (λ_=>dz X::R) (λi=>[(0,.slice (some X.so) X.st.length X.sc),(1,ib 3),(7,ii X.st.length),(8,ii i)]) (λi=>k-i) rfl 0 (c7 _) ae.refl ⟨rfl,rfl,rfl,rfl,trivial⟩ ?_;intro i o;refine w ?_;refine zk ?_ ?_<;>intro a
 ·
  have b:i<X.st.length:=by have:=cI a;omega
  clear a;refine w ?_;refine zk ?_ ?_<;>intro a
  ·
   have n:(3:Int)=(X.st[i].toNat:Int):=by simpa using a
   have e:X.st[i]=3:=UInt8.toNat_inj.1 (show X.st[i].toNat=3 by omega);clear a;have c:i=k:=by
    rcases Aj i k with q|q
    · exact cN e (f i b q)
    · omega
   refine w ?_;exact VE.ax rfl (by rw[lam zO,c]) ae.refl
  ·
   have m:i≠k:=λe=>by
    subst e;rw[g b]at a;simp at a
   clear a;refine w ?_;exact VE.round (i+1) zO zO ⟨rfl,rfl,rfl,b7 rfl (by congr 1),trivial⟩ ae.refl
 have l:X.st.length<=i:=by have:=dx a;omega
 clear a;refine w ?_;exact VE.ax rfl (by rw[aE zO]) ae.refl
theorem Mq{W:World}{R:List ab}{D:aw}{K:Kd}{V:Nat->Nat->List UInt8}{n c0:Nat}{kd:ak}(r:Nat)(Y:eA)(f:Y.ok)(o:n=Y.m+1)(fr:List Int)(e:Data Y fr K V)(p:bq W R Y.wo Y.wl)(l:Bq D n K c0)(b:c0<=1000000)(k st:Nat)(i:k<Y.m)(a:st<Y.s)(g:∀row,gB fr k row↔st*Y.c<=row)(c:K k=some kd)(m:1+Y.s*Y.c<=kd.last.length):
  aq W Tryz.prog 126 [ip Y.b,.agg (cv Y.m Y.c Y.s).toArray,ip r,ii k,ii st] (de r Y fr (al Y.b D::R)) (β:=aw) (λD2=>Bq D2 n (iZ V k (st*Y.c) Y.c K) (c0+16)) (λ_=>.agg cD.toArray) (λD2=>de r Y fr (al Y.b D2::R)):=by
 refine ze Tryz.func126 Tryz.ntmps126 ?_;refine zj λ_=>?_;refine w ?_;rename_i t;refine zq ?_;refine ay.aB bE rfl ?_;intro u;refine zr (s:=Ps r Y f fr e.len (l.len.trans o) k st i a λj _=>(g _).2 (Nat.le_add_right _ _)) (h:=?_);intro _ _;refine w ?_;refine VO.pure rfl rfl (af.cm rfl) rfl ?_;refine w ?_;refine VO.pure rfl rfl (af.cm rfl) rfl ?_;refine zr (s:=Pr (R:=Row u 174 cD::Row t 36 (cv Y.m Y.c Y.s)::R) r Y f fr e (p.aR (ae.drop (ae.drop ae.refl))) l b k st i a (λrow h=>Nat.lt_of_not_le λq=>h ((g row).2 q)) c m) (h:=?_);intro D2 d;refine zS cD ?_;exact VE.results1 (.inl rfl) D2 rfl (aL.agg (vs:=cD) ah rfl rfl zm rfl rfl) d rfl ae.re
theorem Iz{W:World}{R:List ab}{D:aw}{K:Kd}{V:Nat->Nat->List UInt8}{n c0:Nat}{kd:ak}(b c a r:Nat)(X:aY)(t:X.ok)(B:X.r=ik r)(Y:eA)(u:Y.ok)(e:Y.b=X.b)(y:Y.m=X.m)(f:Y.c=X.c)(p:Y.s=X.s)(z:n=Y.m+1)(fr:List Int)(q:Data Y fr K V)(E:bq W R Y.wo Y.wl)(A:Bq D n K c0)(g:c0<=1000000)(k:Nat)(G:k<X.m)(C:X.cur<X.s)(l:X.st[k]?=some 3)(v:∀row,gB fr k row↔X.cur*X.c<=row)(i:K k=some kd)(x:1+X.s*X.c<=kd.last.length):
  aq W Tryz.prog 125 [ip b,ip c] (uV b a X (Row c 3 [ii k]::dz X::de r Y fr (al X.b D::R))) (β:=aw) (λD2=>Bq D2 n (iZ V k (X.cur*X.c) X.c K) (c0+16)) (λ_=>.agg cD.toArray) (λD2=>uV b a X (Row c 3 [ii k]::dz X::de r Y fr (al X.b D2::R))):=by
 have m:=t.st;have d:X.st[k]'zO=3:=by
  rw[fL zO]at l;exact CD l
 refine ze Tryz.func125 Tryz.ntmps125 ?_;refine zq ?_;refine ay.aB bE rfl ?_;intro F;refine zr (s:=kR a X k zO) (h:=?_);intro _ _;rw[d];refine w ?_;refine zx [] 19 [0,1,2,3,4,5,6,7,8,9,10,11,12,13,14,15,16,17,18,19,20] _ ?_;refine w ?_;refine VD.re 20 (ip r) rfl (by rw[B]) ?_;have o:=Mq (W:=W) (R:=Row F 174 cD::uV b a X (Row c 3 [ii k]::dz X::R)) r Y u z fr q (E.aR (ae.drop (ae.drop (ae.drop (ae.drop (ae.drop ae.refl)))))) A g k X.cur zO zO (by rw[f];exact v) i (by rw[p,f];exact x);rw[e,y,f,p]at o;refine zr (s:=o) (h:=?_);intro D2 j;refine zS cD ?_;exact VE.results1 (.inl rfl) D2 rfl (aL.agg (vs:=cD) ah rfl rfl zm rfl rfl) j rfl ae.re
abbrev aY.on(X:aY):aY:={X with cur:=X.cur+1}
def aY.fz(X:aY)(k:Nat):aY:=if X.cur+1=X.s then X.on.put k 1 0 else X.on
theorem Hn{Y:eA}{fr:List Int}{K:Kd}{V:Nat->Nat->List UInt8}(h:Data Y fr K V)(d:ak):Data Y fr (ez K Y.m d) V:=
 ⟨h.len,h.one,h.mu,h.par,h.wait,λk row a c b=>by rw[dH _ _ (Nat.ne_of_lt a)];exact h.is k row a c b,h.y0,h.y4⟩
theorem fA.none{f:Nat->Nat->Option (List UInt8)}{K b:Kd}(c:∀i a,f i a=Option.none)(h:fA f K b):b=K:=funext λi=>by
  cases e:K i with
  |none=>exact(h i).1 e
  |some k=>
    obtain⟨g,e',d⟩:=(h i).2 k e;rw[e',d.same (c i)]
theorem Lk{W:World}{R:List ab}{D:aw}{K:Kd}{V:Nat->Nat->List UInt8}{n c0 base wp:Nat}{kd kj:ak}{v:bT}{x:fY}(a r:Nat)(X:aY)(U:X.ok)(u:X.ro=false)(L:X.r=ik r)(Y:eA)(hY:Y.ok)(bo:Y.w=ik wp)(B:Y.b=X.b)(I:Y.m=X.m)(hc:Y.c=X.c)(hs:Y.s=X.s)(hn:n=Y.m+1)(fr:List Int)(T:Data Y fr K V)(q:Y.wl=[])(P:Y.wo=none/\Y.wc=0)(hw:bq W R Y.wo Y.wl)(hq:Bq D n K c0)(bt:c0<=950000)(hk:K Y.m=some kj)(hv:v.slot=(Y.m:Int))(hl:dt v kj base x)
  (k:Nat)(au:k<X.m)(bf:X.cur<X.s)(S:X.st[k]?=some 3)(h1:∀(j:Nat)(h:j<X.st.length),j≠k->X.st[j]=1)(hd:∀row,gB fr k row↔X.cur*X.c<=row)(ag:K k=some kd)(an:1+X.s*X.c<=kd.last.length)(hL:iS (X.fz k) K n):
  aq W Tryz.prog 69 [ip a] (Row a 102 X.cells::dz X::de r Y fr (A0 wp Y.b v D R)) (β:=aw×ak) (λy=>Bq y.1 n (jF (X.fz k) (iZ V k (X.cur*X.c) X.c (ez K Y.m y.2))) (c0+60)/\dt v.rr y.2 base (x.jl 3 [])/\∀s,Sr kj 0 s->Sr y.2 0 s) (λ_=>.tuple #[.bool (decide (X.cur+1=X.s)),i6 0]) (λy=>Row a 102 (X.fz k).told.cells::dz (X.fz k)::de r Y (bU (X.fz k)) (A0 wp Y.b v.rr y.1 R)):=by
 have br:=U.m;have bp:=U.st;have bs:=U.s;have aa:Y.done=Y:=by obtain⟨e1,e2⟩:=P;cases Y;dsimp only at q e1 e2;subst q e1 e2;rfl
 have hP:kq Y fr K:=⟨T.len,λk row hk L hd=>by obtain⟨kd,e,l,_⟩:=T.is k row hk L hd;exact⟨kd,e,l⟩,λp hp=>(by rw[q]at hp;cases hp),by rw[q];exact c7 _,λ_=>P⟩;have av:∀i a,sI fr Y.wl i a=none:=λi a=>by rw[q];unfold sI;split<;>rfl
 have E:X.st[k]'zO=3:=by
  rw[fL zO]at S;exact CD S
 rw[B];refine aq.oL Tryz.func69 Tryz.ntmps69 rfl rfl ?_;refine wr ?_;refine zj λ_=>?_;refine wr ?_;rename_i g;refine zq ?_;refine ay.alloc (z:=(i6 0)) (λw=>by simp) rfl rfl ?_;intro ne;refine wr ?_;refine VR.iF rfl rfl rfl rfl ?_;refine wr ?_;refine zr (s:=jD a X) (h:=?_);intro _ _;refine wr ?_;refine VR.aK rfl rfl (u) ?_;refine wr ?_;refine zr (s:=y7 X k zO zO (λj h hj=>by rw[h1 j h zO];decide) (λ_=>E)) (h:=?_);intro _ _;rw[lam (show k<X.st.length by omega)];refine wr ?_;refine zq ?_;refine ay.alloc (z:=(ii 0)) (λw=>by simp) rfl rfl ?_;intro o;refine wr ?_;refine VR.drawn [] 6 [0,1,2,3,4,5,6] _ rfl (by kernel_rfl) (by kernel_rfl) ae.re ?_;refine wr ?_;refine VD.re 23 (ip r) rfl (by rw[L]) ?_;refine VD.take rfl rfl rfl (af.cm rfl) rfl ?_;refine wr ?_;have M:=rf (W:=W) (R:=Row o 3 [ii k]::Row ne 40 [i6 0]::Row a 102 X.cells::dz X::Row g 79 [ip a]::R) r Y hY bo fr hP (hw.aR (ae.drop (ae.drop (ae.drop (ae.drop (ae.drop ae.refl)))))) hq zO hk hv hl;rw[B,aa]at M;have bh:=rI (bnd:=#[ip r]) (cap:=#[]) (H:=Row o 3 [ii k]::Row ne 40 [i6 0]::dz X::Row g 79 [ip a]::de r Y fr (A0 wp X.b v D R)) (G:=λy:aw×Kd=>Row o 3 [ii k]::Row ne 40 [i6 0]::dz X::Row g 79 [ip a]::de r Y fr (A0 wp X.b v.rr y.1 R)) a X u (λ_ _=>by simp) (fX ae.re (aq.mono M (λy=>y) (λ_ h=>h) (λ_ _=>rfl) (λ_ _=>ae.re)));refine zr (s:=bh) (h:=?_);rintro⟨D1,K1⟩ ⟨J,d,g1,g2,g3,g4⟩;obtain rfl:K1=ez K Y.m d:=fA.none av g4;rw[q,List.length_nil,QD]at J;have bw:k<X.on.st.length:=by show k<X.st.length;omega
 refine wr ?_;refine VO.pure rfl rfl (af.bB rfl) rfl ?_;refine wr ?_;have N:=Iz (W:=W) (R:=Row ne 40 [i6 0]::bz wp X.b v.rr::R) g o a r X U L Y hY B I hc hs hn fr (Hn T d) (hw.aR (ae.drop (ae.drop ae.refl))) J zO k au bf S hd (by rw[dH _ _ zO];exact ag) an;have O:=rI (bnd:=#[]) (cap:=#[ip g,ip o]) (H:=Row g 79 [ip a]::Row o 3 [ii k]::dz X::de r Y fr (al X.b D1::Row ne 40 [i6 0]::bz wp X.b v.rr::R)) (G:=λD2:aw=>Row g 79 [ip a]::Row o 3 [ii k]::dz X::de r Y fr (al X.b D2::Row ne 40 [i6 0]::bz wp X.b v.rr::R)) a X u (λ_ _=>by simp) (fX ae.re (aq.mono N (λy=>y) (λ_ h=>h) (λ_ _=>rfl) (λ_ _=>ae.re)));refine zr (s:=O) (h:=?_);intro D2 bb;refine wr ?_;refine zr (s:=kR a X k zO) (h:=?_);intro _ _;rw[E];refine wr ?_;rw[show X.cells.set _ (ii _)=X.on.cells from rfl];refine VR.drawn [] 11 [0,1,2,3,4,5,6,7,8,9,10,11] _ rfl (by kernel_rfl) (by kernel_rfl) ae.re ?_;refine wr ?_;refine VR.join (α:=Unit) (λ_=>True) (λ_=>Row a 102 (X.fz k).cells::dz (X.fz k)::Row g 79 [ip a]::Row o 3 [ii k]::de r Y fr (al X.b D2::Row ne 40 [i6 0]::bz wp X.b v.rr::R)) (λ_=>[(1,ip g),(3,ip ne),(4,ip o)]) ?_ ?_
 ·
  intro Q2 jn;by_cases Z:X.cur+1=X.s
  ·
   refine VR.cU rfl rfl (by show(((X.cur+1:Nat):Int)==(X.s:Int))=true;rw[Z];simp) ?_;refine wr ?_;refine VR.drawn [8] 9 [0,1,2,3,4,5,6,7,8,9,10,11,12] (Row a 102 X.on.cells::Row g 79 [ip a]::Row o 3 [ii k]::de r Y fr (al X.b D2::Row ne 40 [i6 0]::bz wp X.b v.rr::R)) rfl (by kernel_rfl) (by kernel_rfl) ae.re ?_;refine wr ?_;refine zq ?_;refine ay.EJ ah rfl rfl rfl rfl zh (by rw[ff];omega) ?_;refine wr ?_;refine jn.to () trivial ⟨rfl,rfl,rfl,trivial⟩ ?_;rw[show(bytes X.st).set k (ib 1)=(bytes X.on.st).set k (ib (((1:UInt8).toNat:Nat):Int))from rfl,show X.fz k=X.on.put k 1 0 from lam Z,tC,B0];exact ae.re
  ·
   refine VR.aK rfl rfl (by show(((X.cur+1:Nat):Int)==(X.s:Int))=false;simp;omega) ?_;refine wr ?_;refine jn.to () trivial ⟨rfl,rfl,rfl,trivial⟩ ?_;rw[show X.fz k=X.on from aE Z];exact ae.re
 intro _ _;have A:(X.fz k).m=X.m/\(X.fz k).b=X.b/\(X.fz k).ro=X.ro/\(X.fz k).r=X.r:=by unfold aY.fz;split<;>exact⟨rfl,rfl,rfl,rfl⟩
 have c:(X.fz k).st[k]?=some (if X.cur+1=X.s then 1 else 3):=by
  unfold aY.fz;split
  ·
   show(X.st.set k 1)[k]?=_;rw[Oc zO]
  · exact S
 have f:k<(X.fz k).st.length:=(vE.1 c).1;rw[fL f]at c;have c:=CD c;have C:mg (X.fz k).m K (iZ V k (X.cur*X.c) X.c (ez K Y.m d)):=by rw[A.1,I];exact(mg.ez X.m K d).trans (mg.Ua X.m V k (X.cur*X.c) X.c _)
 have ad:iZ V k (X.cur*X.c) X.c (ez K Y.m d) (X.fz k).m=some d:=by rw[A.1,I];unfold iZ;rw[aE zO];exact eZ _ _ _
 have F:=lS (W:=W) (R:=Row g 79 [ip a]::Row o 3 [ii k]::Row ne 40 [i6 0]::bz wp X.b v.rr::R) a r (X.fz k) Y (hL.same C ⟨d,ad,oU g2⟩) (A.2.2.1.trans u) (A.2.2.2.trans L) (I.trans A.1.symm) fr (T.len.trans (I.trans A.1.symm)) bb zO;rw[A.2.1]at F;refine wr ?_;refine zr (s:=F) (h:=?_);intro Q bd;refine wr ?_;refine zr (s:=kR a (X.fz k).told k f) (h:=?_);intro _ _;rw[ky (show(X.fz k).told.st[k]'f≠2 by rw[show(X.fz k).told.st[k]'f=(X.fz k).st[k]'f from rfl,c];split<;>decide)];refine wr ?_;refine VR.aR (H':=Row a 102 (X.fz k).told.cells::dz (X.fz k)::Row g 79 [ip a]::Row o 3 [ii k]::Row ne 40 [i6 0]::de r Y (bU (X.fz k)) (A0 wp X.b v.rr Q R)) ae.re ?_;have hb1:aV W (Row a 102 (X.fz k).told.cells::dz (X.fz k)::Row g 79 [ip a]::Row o 3 [ii k]::Row ne 40 [i6 0]::de r Y (bU (X.fz k)) (A0 wp X.b v.rr Q R)) 1 (some (X.fz k).so) (X.fz k).st.length (bytes (X.fz k).st):=dz.gz zm;have t:k<(X.fz k).told.st.length:=f;refine VR.drawn [] 6 [0,1,2,3,4,5,6,7,8,9,10] _ rfl (by kernel_rfl) (by kernel_rfl) ae.re ?_;refine wr ?_;refine VF.aR (H':=Row ne 40 [i6 0]::Row a 102 (X.fz k).told.cells::dz (X.fz k)::de r Y (bU (X.fz k)) (A0 wp X.b v.rr Q R)) ae.re ?_;refine VF.tg (.inl rfl) (λ_ _=>by simp) gp (Q,d) rfl (.tmp rfl) (aL.leaf ah rfl rfl (.head _) rfl) ⟨bd.mono zO,g2,g3⟩ ?_ (ae.drop ae.refl);have bk:(((X.fz k).told.st[k]'t).toNat:Int)=if X.cur+1=X.s then 1 else 3:=by
  rw[show(X.fz k).told.st[k]'t=(X.fz k).st[k]'f from rfl,c];split<;>rfl
 rw[show((((X.fz k).told.st[k]'t).toNat:Int)==1)=decide (X.cur+1=X.s)by rw[bk];split<;>simp_all]
end Go.Proofs.YtonpidcjpenflaaGreat
namespace Go.Proofs.YtonpidcjpenflaaGreat
open Go.RowKit Go.Sl
attribute [local irreducible] Sl.Own
def ob(S:List (List bK))(k row:Nat):Option (List UInt8):=(S.flatten.reverse.find? λp=>decide (p.av=(k:Int)/\p.row=(row:Int))).map (·.data)
theorem FY(S:List (List bK))(l:List aj)(k row:Nat):ob (S++[l.map aj.D]) k row=(cq l.reverse k row).or (ob S k row):=by
 unfold ob cq;rw[List.flatten_append,List.flatten_singleton,TW,List.find?_append,<-List.map_reverse,List.find?_map];have e:((λp:bK=>decide (p.av=(k:Int)/\p.row=(row:Int))) ∘ aj.D)=sH k row:=rfl;rw[e];cases List.find? (sH k row) l.reverse<;>rfl
def vV(K:Kd)(fr:List Int)(m rows:Nat)(S:List (List bK))(V:Nat->Nat->List UInt8):Prop:=∀k row kd,k<m->row<rows->¬gB fr k row->K k=some kd->(ob S k row=none->Sr kd (1+row) (V k row))/\∀d,ob S k row=some d->d=V k row
def Uq(m rows:Nat)(S:List (List bK)):Prop:=∀p∈S.flatten,(0<=p.av/\p.av<(m:Int))/\(0<=p.row/\p.row<(rows:Int))/\p.data.length=128
structure iu where
  Y:eA
  D:aw
  K:Kd
  kj:ak
  v:bT
  x:fY
  base:Nat
  c:Nat
structure iu.okz(s:iu)(wp:Nat)(fr:List Int)(V:Nat->Nat->List UInt8):Prop where
  Y:s.Y.ok
  w:s.Y.w=ik wp
  F:Data s.Y fr s.K V
  nil:s.Y.wl=[]->s.Y.wo=none/\s.Y.wc=0
  k:s.K s.Y.m=some s.kj
  slot:s.v.slot=(s.Y.m:Int)
  live:dt s.v s.kj s.base s.x
  base:1<=s.base
  ep:s.v.epoch<=s.c
  nx:s.v.next<=s.c
  mx:s.Y.wl.length<=1023
  KU:∀p∈s.Y.wl,p.Of s.Y/\p.d.data=V p.av.toNat p.row.toNat
  stay:vV s.K fr s.Y.m (s.Y.s*s.Y.c) s.x.cy V
  inr:Uq s.Y.m (s.Y.s*s.Y.c) s.x.cy
structure iu.ok(s:iu)(n wp:Nat)(fr:List Int)(V:Nat->Nat->List UInt8):Prop extends s.okz wp fr V where
  q:Bq s.D n s.K s.c
abbrev eA.fix(Y:eA):eA:={Y with wo:=none,wc:=0,wl:=[],sl:=false}
structure iu.to(s t:iu):Prop where
  fix:t.Y.fix=s.Y.fix
  size:t.v.size=s.v.size
  z:∀i kd,s.K i=some kd->∃kd',t.K i=some kd'/\(i≠s.Y.m->kd'.last.length=kd.last.length)/\∀x,Sr kd 0 x->Sr kd' 0 x
  c:s.c<=t.c
theorem iu.to.refl(s:iu):s.to s:=⟨rfl,rfl,λi kd e=>⟨kd,e,λ_=>rfl,λ_ h=>h⟩,eI _⟩
theorem iu.to.trans{a b c:iu}(h:a.to b)(g:b.to c):a.to c:=⟨g.fix.trans h.fix,g.size.trans h.size,λi kd e=>by
 obtain⟨j,d,l1,z1⟩:=h.z i kd e;obtain⟨k,f,l2,z2⟩:=g.z i j d;exact⟨k,f,λq=>(l2 (by rw[(lcs eA.m h.fix:)];exact q)).trans (l1 q),λx q=>z2 x (z1 x q)⟩,qX h.c g.c⟩
section
variable{s t:iu}{n wp:Nat}{fr:List Int}{V V':Nat->Nat->List UInt8}
theorem iu.to.m(h:s.to t):t.Y.b=s.Y.b/\t.Y.m=s.Y.m/\t.Y.c=s.Y.c/\t.Y.s=s.Y.s/\t.Y.w=s.Y.w/\t.Y.lazy=s.Y.lazy/\t.Y.fa=s.Y.fa:=⟨(lcs eA.b h.fix:),(lcs eA.m h.fix:),(lcs eA.c h.fix:),(lcs eA.s h.fix:),(lcs eA.w h.fix:),(lcs eA.lazy h.fix:),(lcs eA.fa h.fix:)⟩
theorem iu.ok.lO(h:s.ok n wp fr V)(a:s.c<=1000000):dJ s.v.epoch s.v.next:=⟨by have:=h.ep;omega,by have:=h.live.next;have:=h.base;omega,by have:=h.nx;omega⟩
theorem iu.okz.uD(h:s.okz wp fr V):kq s.Y fr s.K:=⟨h.F.len,λk row b d a=>by obtain⟨kd,e,l,_⟩:=h.F.is k row b d a;exact⟨kd,e,l⟩,λp c=>(h.KU p c).1,by have:=h.mx;omega,h.nil⟩
theorem iu.okz.jr(h:s.okz wp fr V){D':aw}{kj':ak}{v':bT}{x':fY}{b' c':Nat}(m:v'.slot=s.v.slot)(i:dt v' kj' b' x')(b:1<=b')(f:v'.epoch<=c')(j:v'.next<=c')(o:vV s.K fr s.Y.m (s.Y.s*s.Y.c) x'.cy V)(g:Uq s.Y.m (s.Y.s*s.Y.c) x'.cy):
  ({s with D:=D',K:=ez s.K s.Y.m kj',kj:=kj',v:=v',x:=x',base:=b',c:=c'}:iu).okz wp fr V:=
 ⟨h.Y,h.w,Hn h.F kj',h.nil,eZ _ _ _,m.trans h.slot,i,b,f,j,h.mx,h.KU,λk row kd a l d e=>o k row kd a l d (by dsimp only at e a;rwa [dH _ _ (Nat.ne_of_lt a)]at e),g⟩
theorem iu.to.jr{D':aw}{kj':ak}{v':bT}{x':fY}{b' c':Nat}(d:s.K s.Y.m=some s.kj)(f:v'.size=s.v.size)(b:s.c<=c')(a:∀z,Sr s.kj 0 z->Sr kj' 0 z):
  s.to {s with D:=D',K:=ez s.K s.Y.m kj',kj:=kj',v:=v',x:=x',base:=b',c:=c'}:=⟨rfl,f,λi kd e=>by
 by_cases q:i=s.Y.m
 ·
  subst q;rw[d]at e;cases e;exact⟨kj',eZ _ _ _,λq=>cN rfl q,a⟩
 · exact⟨kd,by dsimp only;rw[dH _ _ q];exact e,λ_=>rfl,λ_ h=>h⟩,b⟩
theorem iu.okz.hJ(h:s.okz wp fr V){D':aw}{K':Kd}{c':Nat}(r:fA (sI fr s.Y.wl) s.K K')(y:s.c<=c'):({s with Y:=s.Y.done,D:=D',K:=K',c:=c'}:iu).okz wp fr V/\s.to {s with Y:=s.Y.done,D:=D',K:=K',c:=c'}:=by
  have j:∀k row d,sI fr s.Y.wl k (1+row)=some d->d=V k row:=λk row d e=>by
    unfold sI at e;split at e
    · cases e
    · obtain⟨p,o,E,F,G⟩:=jP e
      rw[KQ]at o
      rw[<-G,(h.KU p o).2,E,F];congr 1;omega
  refine⟨⟨⟨h.Y.m,h.Y.c,h.Y.s⟩,h.w,⟨h.F.len,h.F.one,h.F.mu,h.F.par,λk row d e=>(by cases e),λk row z B u=>?_,λp o=>(by cases o),c7 _⟩,λ_=>⟨rfl,rfl⟩,?_,h.slot,h.live,h.base,qX h.ep y,qX h.nx y,c7 _,λp o=>(by cases o),λk row kd z B u e=>?_,h.inr⟩,⟨rfl,rfl,λi kd e=>?_,y⟩⟩
  · obtain⟨kd,e,J,l⟩:=h.F.is k row z B u
    obtain⟨f,e',b⟩:=(r k).2 kd e
    refine⟨f,e',by rw[b.len];exact J,λ_=>?_⟩
    rw[b.look]
    cases m:sI fr s.Y.wl k (1+row)with
    |some d=>exact j k row d m
    |none=>
      refine l ?_
      unfold sI at m
      have A:¬(1+row=0\/gB fr k (1+row-1)):=by
        rw[Nat.add_sub_cancel_left];rintro(g|g)
        · omega
        · exact u g
      rw[aE A,Nat.add_sub_cancel_left]at m
      unfold cq at m⊢
      rw[Option.map_eq_none_iff,lcm]at m⊢
      exact λx L=>m x (KQ.2 L)
  · obtain⟨f,e',b⟩:=(r s.Y.m).2 s.kj h.k
    rw[b.same λa=>h.uD.none a]at e'
    exact e'
  · have e:K' k=some kd:=e
    cases v:s.K k with
    |none=>rw[(r k).1 v]at e;cases e
    |some C=>
      obtain⟨f,e',b⟩:=(r k).2 C v
      rw[e']at e
      cases e
      obtain⟨H,I⟩:=h.stay k row C z B u v
      exact⟨λg=>b.sr _ _ (λd q=>j k row d q) (H g),I⟩
  · obtain⟨f,e',b⟩:=(r i).2 kd e
    exact⟨f,e',λ_=>b.len,λx q=>b.sr 0 x (λd g=>by unfold sI at g;rw[lam (.inl rfl)]at g;cases g) q⟩
end
end Go.Proofs.YtonpidcjpenflaaGreat
namespace Go.Proofs.YtonpidcjpenflaaGreat
open Go.RowKit Go.Sl
attribute [local irreducible] Sl.Own
section
variable{s t:iu}{n wp:Nat}{fr:List Int}{V V':Nat->Nat->List UInt8}
abbrev RH(v:bT)(l:List aj):bT:={v with sure:=true,log:=some ⟨2* (l.map aj.D).length+1,(fB v.epoch v.next (l.map aj.D)).enc.2⟩}
abbrev su(v:bT)(l:List aj):bT:={v with used:=v.used+(2* (l.map aj.D).length+1),next:=v.next+1,sure:=false,log:=none}
theorem iu.ok.log(h:s.ok n wp fr V)(y:s.c<=1000000){l:List aj}(A:∀p∈l,p.Of s.Y)(u:1<=l.length)(C:2*l.length+1<=s.v.size-s.v.used):
  ∃D' kj',y1 (s.v,s.D) (l.map aj.D)=(0,(RH s.v l,D'))/\({s with D:=D',K:=ez s.K s.Y.m kj',kj:=kj',v:=RH s.v l,x:=s.x.jl 1 (l.map aj.D),base:=s.base,c:=s.c}:iu).ok n wp fr V/\s.to {s with D:=D',K:=ez s.K s.Y.m kj',kj:=kj',v:=RH s.v l,x:=s.x.jl 1 (l.map aj.D),base:=s.base,c:=s.c}:=by
 have E:=h.live.size;have G:=h.Y.m;have j:=h.live.len;have r:s.Y.s*s.Y.c<=256*16:=mo h.Y.s.2 h.Y.c.2;have m:k9 s.v.epoch s.v.next (l.map aj.D):=⟨h.lO y,by rw[ew];exact u,by rw[ew];omega,λp d=>by
  obtain⟨q,B,rfl⟩:=fG.1 d;have:=A q B;have a:=this.m;have b:=this.r;have c:=this.n;exact⟨⟨a.1,by show q.av<=15;omega⟩,⟨b.1,by show q.row<=4095;omega⟩,c⟩⟩
 have k:2* (l.map aj.D).length+1<=s.v.size-s.v.used:=by rw[ew];exact C
 have g:∀p∈fT s.v (dp s.v.epoch s.v.next (l.map aj.D).length (l.map aj.D) 0),(2<=p.1/\p.1<s.kj.last.length)/\p.2.length=128:=λp d=>by
  obtain⟨i,o,rfl⟩:=List.mem_iff_getElem.1 d;rw[je]at o;rw[uC _ _ i o];exact⟨⟨Nat.le_add_right _ _,RB (vM zO i) zO⟩,q7 m _ (fF o)⟩
 rcases Tx (h.q.pw h.k) h.slot h.live.MM m k j with⟨D',e,d,f⟩|⟨q,_⟩
 · refine⟨D',_,e,⟨h.jr rfl (MD h.live m k) h.base h.ep h.nx h.stay h.inr,h.q.Pa d (ak.fU (rz (h.q.is _ _ h.k).2.2 λp d=>⟨(g p d).1.2,(g p d).2⟩)) (c7 _) (eI _) f⟩,iu.to.jr h.k rfl (eI _) λz F=>(F.Cu λp d=>by have:=(g p d).1.1;omega).settle _⟩
 · exact cN h.q.c8 q
theorem yn{l:List aj}{k row:Int}:cq l.reverse k row=none↔cq l k row=none:=by
 unfold cq;rw[Option.map_eq_none_iff,Option.map_eq_none_iff,lcm,lcm];exact⟨λh x a=>h x (KQ.2 a),λh x a=>h x (KQ.1 a)⟩
structure Fc(Y:eA)(V V':Nat->Nat->List UInt8)(l:List aj):Prop where
  n:∀k row,k<Y.m->row<Y.s*Y.c->(V' k row).length=128
  par:∀row,row<Y.s*Y.c->ia (λk=>V' k row) Y.m=dC
  of:∀p∈l,p.Of Y/\p.d.data=V' p.av.toNat p.row.toNat
  KT:∀k row:Nat,k<Y.m->row<Y.s*Y.c->cq l k row=none->V' k row=V k row
theorem Fc.at{Y:eA}{l:List aj}(h:Fc Y V V' l){k row:Nat}{d:List UInt8}(e:cq l k row=some d):d=V' k row:=by
 obtain⟨p,f,a,b,c⟩:=jP e;rw[<-c,(h.of p f).2,a,b];rfl
theorem Fc.UC{Y:eA}{l:List aj}(h:Fc Y V V' l){k row:Nat}{d:List UInt8}(e:cq l.reverse k row=some d):d=V' k row:=by
 obtain⟨p,f,a,b,c⟩:=jP e;rw[<-c,(h.of p (KQ.1 f)).2,a,b];rfl
abbrev eA.R2(Y:eA)(ao:Option Addr)(cap:Nat)(l:List aj):eA:={Y with wo:=ao,wc:=cap,wl:=l,sl:=true}
theorem iu.ok.sealw(h:s.ok n wp fr V)(T:s.c<=1000000){l:List aj}(j:s.x.j9=some (l.map aj.D))(F:s.Y.wl=[])(b:Fc s.Y V V' l)(G:1<=l.length)(ao:Option Addr)(cap:Nat):
    ∃D' kj',pB (s.v,s.D)=(0,(su s.v l,D'))/\({s with Y:=s.Y.R2 ao cap l,D:=D',K:=ez s.K s.Y.m kj',kj:=kj',v:=su s.v l,x:=s.x.jl 2 [],base:=s.base,c:=s.c+1}:iu).ok n wp fr V'/\
      s.to {s with Y:=s.Y.R2 ao cap l,D:=D',K:=ez s.K s.Y.m kj',kj:=kj',v:=su s.v l,x:=s.x.jl 2 [],base:=s.base,c:=s.c+1}:=by
  obtain⟨I,a2,a3,a4,a5⟩:=h.live.RG _ j;have P:=h.live.size;have u:=h.live.len;have Q:=h.live.used;have C:l.length<=1023:=by have:=a3.n2;rwa [ew]at this
  have o:(fB s.v.epoch s.v.next (l.map aj.D)).enc.2.length=128:=(h.live.SJ (by have:=h.ep;omega) (by have:=h.nx;omega) h.base).log _ a2 |>.2.2.1;rcases RX (h.q.pw h.k) h.slot h.live.MM a2 zO (by dsimp only;omega) o u with⟨D',e,a,f⟩|⟨q,_⟩
  · have A:s.kj.cache=[]:=(h.live.sure I).2
    have E:Bq D' n (ez s.K s.Y.m (s.kj.writes [(s.v.spot (2* (l.map aj.D).length),(fB s.v.epoch s.v.next (l.map aj.D)).enc.2)])) (s.c+1):=h.q.Pa a (rz (h.q.is _ _ h.k).2.2 λp a=>by rw[ju.1 a];exact⟨RB (vM zO _) zO,o⟩) (by show(s.kj.cache++[_]).length<=_;rw[A];simp) (Nat.le_succ _) f
    have H:s.x.jl 2 []=⟨s.x.cy++[l.map aj.D],s.x.sure,none⟩:=by unfold fY.jl;rw[j];rfl
    refine⟨D',_,e,⟨⟨⟨h.Y.m,h.Y.c,h.Y.s⟩,h.w,⟨h.F.len,h.F.one,b.n,b.par,λk row d e=>b.at e,λk row i y B=>?_,λp a=>(b.of p a).1.n,by dsimp only;omega⟩,λq=>cN q (by intro q;rw[show l=[]from q]at G;simp at G),eZ _ _ _,h.slot,JF h.live j,h.base,qX h.ep (Nat.le_succ _),Nat.succ_le_succ h.nx,C,λp a=>⟨⟨(b.of p a).1.m,(b.of p a).1.r,(b.of p a).1.n⟩,(b.of p a).2⟩,λk row kd i y B e=>?_,λp a=>?_⟩,E⟩,?_⟩
    · obtain⟨kd,e,g1,g2⟩:=h.F.is k row i y B
      refine⟨kd,by dsimp only;rw[dH _ _ (show k≠s.Y.m from Nat.ne_of_lt i)];exact e,g1,λg=>?_⟩
      rw[b.KT k row i y g]
      exact g2 (by rw[F];rfl)
    · have e:ez s.K s.Y.m _ k=some kd:=e
      rw[dH _ _ (show k≠s.Y.m from Nat.ne_of_lt i)]at e
      obtain⟨g1,g2⟩:=h.stay k row kd i y B e
      dsimp only
      rw[H,FY]
      cases q:cq l.reverse k row with
      |some d=>exact⟨λg=>(by cases g),λS g=>by cases g;exact b.UC q⟩
      |none=>
        rw[Option.none_or,b.KT k row i y (yn.1 q)]
        exact⟨g1,g2⟩
    · dsimp only at a
      rw[H]at a
      simp only[List.flatten_append,List.flatten_singleton,l0,fG]at a
      rcases a with a|⟨q,O,rfl⟩
      · exact h.inr p a
      · have:=(b.of q O).1
        exact⟨this.m,this.r,this.n⟩
    · obtain⟨J,L,M,N⟩:=iu.to.jr (s:=s) (D':=D') (v':=su s.v l) (x':=s.x.jl 2 []) (b':=s.base) h.k rfl (Nat.le_succ s.c) (kj':=s.kj.writes [(s.v.spot (2* (l.map aj.D).length),(fB s.v.epoch s.v.next (l.map aj.D)).enc.2)]) λz R=>R.Cu λp a=>by rw[ju.1 a];dsimp only;unfold bT.spot;omega
      exact⟨J,L,M,N⟩
  · exact cN h.q.c8 q
theorem iu.ok.settled(h:s.ok n wp fr V){D':aw}{K':Kd}{kj':ak}(e:Bq D' n K' (s.c+s.Y.wl.length))(i:K' s.Y.m=some kj')(d:dt s.v.rr kj' s.base (s.x.jl 3 []))(g:∀z,Sr s.kj 0 z->Sr kj' 0 z)(f:fA (sI fr s.Y.wl) (ez s.K s.Y.m kj') K'):
  ({s with Y:=s.Y.done,D:=D',K:=K',kj:=kj',v:=s.v.rr,x:=s.x.jl 3 [],c:=s.c+s.Y.wl.length}:iu).ok n wp fr V/\s.to {s with Y:=s.Y.done,D:=D',K:=K',kj:=kj',v:=s.v.rr,x:=s.x.jl 3 [],c:=s.c+s.Y.wl.length}:=by
 have a:=h.jr (D':=D') (v':=s.v.rr) rfl d h.base h.ep h.nx h.stay h.inr;have t1:=iu.to.jr (s:=s) (D':=D') (v':=s.v.rr) (x':=s.x.jl 3 []) (b':=s.base) h.k rfl (eI s.c) g;obtain⟨b,t2⟩:=a.hJ (D':=D') f (Nat.le_add_right s.c s.Y.wl.length);exact⟨⟨b,e⟩,t1.trans t2⟩
theorem iu.okz.pO(h:s.okz wp fr V){D':aw}{K':Kd}{kj':ak}(O:dt s.v.emp kj' s.v.next ⟨[],0,none⟩)(N:lQ fr s.Y s.K K' s.kj kj'):
  ({s with Y:=s.Y.done,D:=D',K:=K',kj:=kj',v:=s.v.emp,x:=⟨[],0,none⟩,base:=s.v.next,c:=s.c+s.Y.wl.length}:iu).okz wp fr V/\s.to {s with Y:=s.Y.done,D:=D',K:=K',kj:=kj',v:=s.v.emp,x:=⟨[],0,none⟩,base:=s.v.next,c:=s.c+s.Y.wl.length}:=by
 obtain⟨I,u,G,rfl,M⟩:=N;have Q:u s.Y.m=some I:=by
  obtain⟨R,a,b⟩:=(G s.Y.m).2 I (eZ _ _ _);rw[a,b.same λa=>h.uD.none a]
 have E:fA (sI fr s.Y.wl) s.K (ez u s.Y.m s.kj):=λi=>by
  by_cases q:i=s.Y.m
  ·
   subst q;exact⟨λg=>(by rw[h.k]at g;cases g),λk g=>⟨s.kj,eZ _ _ _,by rw[h.k]at g;cases g;exact⟨rfl,λa=>by rw[h.uD.none a];rfl,λa x _ z=>z,λ_=>rfl⟩⟩⟩
  ·
   have:=G i;rw[dH _ _ q]at this;rw[dH _ _ q];exact this
 obtain⟨r,t2⟩:=h.hJ (D':=D') E (Nat.le_add_right s.c s.Y.wl.length);have j:∀i,i≠s.Y.m->ez (fO fr s.Y.m u) s.Y.m kj' i=fO fr s.Y.m (ez u s.Y.m s.kj) i:=λi q=>by
  rw[dH _ _ q];unfold fO;rw[dH _ _ q]
 have m:∀k row,¬gB fr k row->¬gB fr k 0:=λk row g q=>g ⟨q.1,by have:=q.2;omega⟩;have f:=r.F;refine⟨⟨r.Y,r.w,⟨f.len,f.one,f.mu,f.par,f.wait,λk row y B A=>?_,f.y0,f.y4⟩,r.nil,eZ _ _ _,h.slot,O,by have:=h.live.next;have:=h.base;dsimp only;omega,r.ep,r.nx,r.mx,r.KU,λk row kd y B A e=>⟨λ_=>?_,λd g=>by cases g⟩,λp P=>(uy P).elim⟩,⟨rfl,rfl,λi kd e=>?_,Nat.le_add_right _ _⟩⟩
 ·
  obtain⟨kd,e,l,g⟩:=f.is k row y B A;refine⟨kd.settle λ_=>true,?_,by rw[dM];exact l,λw=>?_⟩
  ·
   dsimp only;rw[j k (Nat.ne_of_lt y)];unfold fO;have o:k<s.Y.m:=y;rw[lam ⟨o,m k row A⟩];have e:ez u s.Y.m s.kj k=some kd:=e;rw[e];rfl
  ·
   rw[l9 (by have:row<s.Y.s*s.Y.c:=B;have:1+s.Y.s*s.Y.c<=kd.last.length:=l;omega)];exact g w
 ·
  have o:k<s.Y.m:=y;obtain⟨H,C,l,g⟩:=f.is k row y B A;have e:ez (fO fr s.Y.m u) s.Y.m kj' k=some kd:=e;rw[j k (Nat.ne_of_lt o)]at e;unfold fO at e;have C:ez u s.Y.m s.kj k=some H:=C;rw[lam ⟨o,m k row A⟩,C]at e;cases e;rw[<-g rfl];exact Sr.vB (by have:row<s.Y.s*s.Y.c:=B;have:1+s.Y.s*s.Y.c<=H.last.length:=l;omega)
 ·
  by_cases q:i=s.Y.m
  ·
   subst q;rw[h.k]at e;cases e;exact⟨kj',eZ _ _ _,λq=>cN rfl q,M⟩
  ·
   obtain⟨F,e',J,L⟩:=t2.z i kd e;dsimp only at e'⊢;rw[j i q];unfold fO;split
   · exact⟨_,by rw[e'];rfl,λg=>by rw[dM];exact J g,λx g=>(L x g).settle _⟩
   · exact⟨F,e',J,L⟩
theorem iu.ok.pO(h:s.ok n wp fr V)(e:s.c<=1000000){D':aw}{K':Kd}{kj':ak}(d:Bq D' n K' (s.c+s.Y.wl.length))(f:K' s.Y.m=some kj')(b:dt s.v.emp kj' s.v.next ⟨[],0,none⟩)(a:lQ fr s.Y s.K K' s.kj kj'):
  ({s with Y:=s.Y.done,D:=D',K:=K',kj:=kj',v:=s.v.emp,x:=⟨[],0,none⟩,base:=s.v.next,c:=s.c+s.Y.wl.length}:iu).ok n wp fr V/\s.to {s with Y:=s.Y.done,D:=D',K:=K',kj:=kj',v:=s.v.emp,x:=⟨[],0,none⟩,base:=s.v.next,c:=s.c+s.Y.wl.length}:=
 ⟨⟨(h.tookz.pO b a).1,d⟩,(h.tookz.pO (D':=D') b a).2⟩
end
end Go.Proofs.YtonpidcjpenflaaGreat
namespace Go.Proofs.YtonpidcjpenflaaGreat
open Go.RowKit Go.Sl
attribute [local irreducible] Sl.Own
structure iV(Y:eA)(V':Nat->Nat->List UInt8)(out:List cu)(ps:List aj):Prop where
  of:∀p∈ps,p.Of Y/\p.d.data=V' p.av.toNat p.row.toNat
  n:ps.length=kz out
  all:∀q∈out,∀row:Nat,fZ Y.m Y.c Y.s row q.aA->∀k:Nat,(k=eD Y.m (row/Y.c)\/∃p∈q.aA,p.av=(k:Int))->∃p∈ps,p.av=(k:Int)/\p.row=(row:Int)
structure Ol(Y:eA)(V V':Nat->Nat->List UInt8)(out:List cu):Prop where
  n:∀k row,k<Y.m->row<Y.s*Y.c->(V' k row).length=128
  par:∀row,row<Y.s*Y.c->ia (λk=>V' k row) Y.m=dC
  rows:∀q∈out,∃row:Nat,fZ Y.m Y.c Y.s row q.aA/\Fe Y.m Y.c Y.s row V V' q.aA
  KT:∀k row:Nat,k<Y.m->row<Y.s*Y.c->(∀q∈out,fZ Y.m Y.c Y.s row q.aA->k≠eD Y.m (row/Y.c)/\∀p∈q.aA,p.av≠(k:Int))->V' k row=V k row
theorem fZ.B9{m c s r:Nat}{l:List aj}(h:fZ m c s r l){p:aj}(b:p∈l):(0<=p.av/\p.av<m)/\p.row=r/\p.d.data.length=128:=by
 obtain⟨i,a,rfl⟩:=List.mem_iff_getElem.1 b;have:=h.of i a;exact⟨⟨this.1,this.2.1⟩,this.2.2.1,this.2.2.2.2⟩
theorem iV.step{Y:eA}{V j:Nat->Nat->List UInt8}{out:List cu}{ps D:List aj}{q:cu}{row:Nat}(h:iV Y j out ps)(F:3<=Y.m)(o:fZ Y.m Y.c Y.s row q.aA)(E:Fe Y.m Y.c Y.s row V j q.aA)(v:Qm Y.m Y.c row j q.aA D):iV Y j (out++[q]) (ps++D):=by
 have t:=jV F (row/Y.c);have y:∀p∈D,(∃u∈q.aA,u.D=p.D)\/p.D=⟨(eD Y.m (row/Y.c):Nat),row,j (eD Y.m (row/Y.c)) row⟩:=λp f=>by
  have:=v.D.subset (List.mem_map_of_mem f);rcases l0.1 this with g|g
  · obtain⟨u,i,e⟩:=fG.1 g;exact .inl ⟨u,i,e⟩
  · exact .inr (ju.1 g)
 refine⟨λp f=>?_,?_,λG A c m k z=>?_⟩
 ·
  rcases l0.1 f with g|g
  · exact h.of p g
  ·
   rcases y p g with⟨u,i,e⟩|e
   ·
    obtain⟨l,n,r⟩:=KZ e;have:=o.B9 i;have B:=o.row;rw[l,n,r]at this;refine⟨⟨this.1,by rw[this.2.1];exact⟨Int.natCast_nonneg _,Int.ofNat_lt.2 B⟩,this.2.2⟩,?_⟩;rw[<-r,E.is u i,l,this.2.1];rfl
   ·
    have l:p.av=(eD Y.m (row/Y.c):Nat):=lcs bK.av e;have n:p.row=(row:Nat):=lcs bK.row e;have r:p.d.data=j (eD Y.m (row/Y.c)) row:=lcs bK.data e;have B:=o.row;exact⟨⟨by rw[l];omega,by rw[n];exact⟨Int.natCast_nonneg _,Int.ofNat_lt.2 B⟩,by rw[r];exact E.n _ t⟩,by rw[r,l,n];rfl⟩
 ·
  have:=v.D.length_eq;rw[ew,c9,ew,ie]at this;rw[c9,h.n,this];unfold kz Ed;rw[jv,List.sum_append,c9];simp;omega
 ·
  rcases l0.1 A with g|g
  ·
   obtain⟨p,f,e⟩:=h.all G g c m k z;exact⟨p,List.mem_append_left _ f,e⟩
  ·
   rw[ju.1 g]at m z;have C:c=row:=by
    have s:0<q.aA.length:=KO.2 o.ne;have a:=(o.B9 (fF s)).2.1;have b:=(m.B9 (fF s)).2.1;omega
   subst C;have x:∃d∈q.aA.map aj.D++[⟨(eD Y.m (c/Y.c):Nat),c,j (eD Y.m (c/Y.c)) c⟩],d.av=(k:Int)/\d.row=(c:Int):=by
    rcases z with e|⟨p,f,e⟩
    · exact⟨_,List.mem_append_right _ (.head _),by rw[e],rfl⟩
    · exact⟨p.D,List.mem_append_left _ (List.mem_map_of_mem f),e,(o.B9 f).2.1⟩
   obtain⟨d,x,l,n⟩:=x;obtain⟨p,f,rfl⟩:=fG.1 (v.D.symm.subset x);exact⟨p,List.mem_append_right _ f,l,n⟩
theorem iV.Uh{Y:eA}{V c:Nat->Nat->List UInt8}{out:List cu}{ps:List aj}(h:iV Y c out ps)(d:Ol Y V c out):Fc Y V c ps:=⟨d.n,d.par,h.of,λk row l m f=>d.KT k row l m λq j i=>by
 have b:∀p∈ps,¬(p.av=(k:Int)/\p.row=(row:Int)):=λp a e=>by
  unfold cq at f;rw[Option.map_eq_none_iff,lcm]at f;have:=f p a;simp[sH]at this;exact this e.1 e.2
 refine⟨λe=>?_,λp a e=>?_⟩
 · obtain⟨p,a,g⟩:=h.all q j row i k (.inl e);exact b p a g
 · obtain⟨p,a,g⟩:=h.all q j row i k (.inr ⟨p,a,e⟩);exact b p a g⟩
section
variable{W:World}{R:List ab}
theorem LB{D:aw}{K:Kd}{V m:Nat->Nat->List UInt8}{n c0:Nat}(d:Nat)(x:mX)(J:x.ps=[])(Y:eA)(F:Y.ok)(fr:List Int)(N:Data Y fr K V)(A:∀k row,k<Y.m->¬gB fr k row)(T:bq W R Y.wo Y.wl)(t:Bq D n K c0)(M:Ol Y V m x.out)
  (c:aV W R 1 x.xo x.out.length (x.out.map cu.ei))(C:∀q∈x.out,bq W R q.ao q.aA)(f:kz x.out<=1023):
  aq W Tryz.prog 168 [ip d] (gU d x (de x.r Y fr (al Y.b D::R))) (β:=Om) (λy=>Bq y.D n K c0/\iV Y m x.out y.l) (λ_=>.agg cD.toArray)
   (λy=>gU d (x.jk y.l y.x) (de x.r Y fr (al Y.b y.D::R))):=by
 have H:∀u∈x.out.map cu.ei,u.oneCell'=true:=λu S=>by obtain⟨z,_,rfl⟩:=fG.1 S;rfl
 have I:x.out.length<=1023:=by unfold kz at f;omega
 refine ze Tryz.func168 Tryz.ntmps168 ?_;refine zq ?_;refine ay.aB bE rfl ?_;intro l;refine w ?_
 refine VC.loop (α:=Nat×List aj×(Option Addr×Nat)×aw) (λy=>y.1<=x.out.length/\Bq y.2.2.2 n K c0/\iV Y m (x.out.take y.1) y.2.1) (λy=>Row l 174 cD::gU d (x.jk y.2.1 y.2.2.1) (de x.r Y fr (al Y.b y.2.2.2::R)))
  (λy=>[(0,ip d),(2,ip l),(9,.slice x.xo x.out.length x.xc),(10,ii x.out.length),(11,ii y.1)]) (λy=>x.out.length-y.1) rfl (0,[],(x.pa,x.pp),D) ⟨c7 _,t,⟨λp Q=>(by cases Q),rfl,λq t=>(by cases t)⟩⟩ (by rw[show x.jk [] (x.pa,x.pp)=x by cases x;dsimp only at J;subst J;rfl];exact ae.re) ⟨rfl,rfl,rfl,rfl,rfl,trivial⟩ ?_
 rintro⟨j,ps,xp,D'⟩ ⟨P,g,hW⟩;dsimp only at P g hW⊢;refine w ?_;refine zk ?_ ?_<;>intro i
 ·
  have b:j<x.out.length:=by have:=cI i;omega
  clear i;obtain⟨U,B⟩:∃a,x.xo=some a:=by cases e:x.xo with|none=>rw[e]at c;have:=c.nil rfl;omega|some a=>exact⟨a,rfl⟩
  rw[B]at c⊢;obtain⟨row,G,E⟩:=M.rows _ (fF b);have r:ps.length<=100000:=by
   rw[hW.n];have:kz (x.out.take j)<=kz x.out:=by
    unfold kz Ed;have e:(x.out.map λq=>q.aA.length).sum=((x.out.take j).map λq=>q.aA.length).sum+((x.out.drop j).map λq=>q.aA.length).sum:=by rw[<-List.sum_append,<-jv,FZ]
    rw[j1,e];omega
   omega
  have L:ae W (Row l 174 cD::gU d (x.jk ps xp) (de x.r Y fr (al Y.b D'::R))) R:=ae.drop (ae.drop (ae.drop (ae.drop (ae.drop (ae.drop (ae.drop ae.refl))))));refine w ?_;refine VO.pure rfl rfl (.fH ah rfl rfl (c.aR L) (show(x.out.map cu.ei)[j]?=some (cu.ei x.out[j])by rw[law,fL b];rfl)) rfl ?_;refine zr (s:=OK (R:=Row l 174 cD::R) d (x.jk ps xp) Y F fr N A (T.aR (ae.drop ae.refl)) g G ((C _ (fF b)).aR (ae.drop ae.refl)) E r) (h:=?_);rintro y ⟨v,O⟩;refine zw ?_;refine ay.aB bE rfl ?_;intro n5;refine zS cD ?_;refine VE.round (j+1,ps++y.l,y.x,y.D) ⟨b,v,?_⟩ (by dsimp only;omega) ⟨rfl,rfl,rfl,rfl,b7 rfl (by congr 1),trivial⟩ ae.re;dsimp only;rw[nZ b];exact hW.step F.m.1 G E O
 have o:j=x.out.length:=by have:=dx i;omega
 clear i;subst o;rw[DK]at hW;refine w ?_;apply VO.pure rfl rfl;apply af.build bE (pv:=[]) rfl;rfl;rfl;refine zS cD ?_;exact VE.results1 (.inl rfl) (⟨D',ps,xp⟩:Om) rfl (aL.agg (vs:=cD) ah rfl rfl zm rfl rfl) ⟨g,hW⟩ rfl ae.re
end
end Go.Proofs.YtonpidcjpenflaaGreat
namespace Go.Proofs.YtonpidcjpenflaaGreat
open Go.RowKit Go.Sl
attribute [local irreducible] Sl.Own
section
variable{α:Type}
def Du(P:List (Int×List (Int×α)))(r k:Int):Option α:=(fj P r).bind λes=>fj es k
theorem zV(P:List (Int×List (Int×α)))(r a:Int):fj (gK P r) a=if a=r then some ((fj P r).getD [])else fj P a:=by
  unfold gK;cases h:fj P r with
  |some es=>
    rw[Option.isSome_some,lam rfl];split
    · rename_i e;rw[e,h];rfl
    · rfl
  |none=>
    rw[Option.isSome_none,aE (by simp)];unfold fj at h⊢;rw[Option.map_eq_none_iff]at h;rw[List.find?_append];by_cases e:a=r
    · subst e;rw[lam rfl,h];simp
    · rw[aE e]
      cases List.find? (λx:Int×List (Int×α)=>decide (x.1=a)) P with
      |some x=>rfl
      |none=>simp[Ne.symm e]
theorem Hw(P:List (Int×List (Int×α)))(r k:Int)(v:α)(a:Int):fj (tV P r k v) a=(fj P a).map λes=>if a=r then mq es k v else es:=by
  unfold fj tV;rw[List.find?_map,Tm,Tm];have e:((λx:Int×List (Int×α)=>decide (x.1=a)) ∘ λs:Int×List (Int×α)=>(s.1,if s.1=r then mq s.2 k v else s.2))=λx=>decide (x.1=a):=rfl;rw[e];cases h:List.find? (λx:Int×List (Int×α)=>decide (x.1=a)) P with
  |none=>rfl
  |some x=>
    have:=List.find?_some h;simp only[decide_eq_true_eq]at this;simp[this]
theorem Mg(P:List (Int×List (Int×α)))(r k:Int)(v:α)(a b:Int):Du (sy P r k v) a b=if a=r/\b=k then some v else Du P a b:=by
 unfold Du sy;rw[Hw,zV];by_cases e:a=r
 ·
  subst e;rw[lam rfl,SR,lam rfl,Option.bind_some,Mf];by_cases q:b=k
  · rw[lam q,lam ⟨rfl,q⟩]
  ·
   rw[aE q,aE λh=>q h.2];cases fj P a with
   |none=>rfl
   |some es=>rfl
 ·
  rw[aE e,aE λh=>e h.1];cases fj P a with
  |none=>rfl
  |some es=>rw[SR,aE e]
end
def iG(m c:Nat)(l:List cQ)(r k:Int):Option (List UInt8):=(l.reverse.find? λp=>decide (((cJ m c p.dV).row:Int)=r/\((cJ m c p.dV).av:Int)=k)).map (·.d.data)
theorem FX(m c:Nat)(l:List cQ)(p:cQ)(r k:Int):iG m c (l++[p]) r k=if((cJ m c p.dV).row:Int)=r/\((cJ m c p.dV).av:Int)=k then some p.d.data else iG m c l r k:=by
 unfold iG;rw[TW,List.reverse_singleton,List.singleton_append,List.find?_cons];by_cases h:((cJ m c p.dV).row:Int)=r/\((cJ m c p.dV).av:Int)=k
 · rw[lam h,ky h];rfl
 · rw[aE h,gx h]
theorem wN(m c:Nat)(l:List cQ)(r k:Int):Du (kD m c l) r k=iG m c l r k:=by
  induction l using lH with
  |nil=>rfl
  |snoc l p a=>
    rw[jN,Mg,FX,a];by_cases h:((cJ m c p.dV).row:Int)=r/\((cJ m c p.dV).av:Int)=k
    · rw[lam h,lam ⟨h.1.symm,h.2.symm⟩]
    · rw[aE h,aE λg=>h ⟨g.1.symm,g.2.symm⟩]
theorem w6{m c:Nat}{l:List cQ}{r k:Int}{d:List UInt8}(h:iG m c l r k=some d):∃p∈l,((cJ m c p.dV).row:Int)=r/\((cJ m c p.dV).av:Int)=k/\p.d.data=d:=by
 unfold iG at h;obtain⟨p,a,e⟩:=Option.map_eq_some_iff.1 h;have:=List.find?_some a;simp only[decide_eq_true_eq]at this;exact⟨p,KQ.1 (List.mem_of_find?_eq_some a),this.1,this.2,e⟩
def wj(m c k row:Nat):Nat:=row/c* ((m-1)*c)+((k+m-eD m (row/c)-1)%m*c+row%c)
theorem tz{m c st i o:Nat}(h:i<m-1)(b:o<c):cJ m c (st* ((m-1)*c)+(i*c+o))=⟨st,st*c+o,(eD m st+1+i)%m,eD m st⟩:=by
 have a:i*c+o<(m-1)*c:=by
  have:(i+1)*c<=(m-1)*c:=w9 c h;rw[ux]at this;omega
 have d:(st* ((m-1)*c)+(i*c+o))/((m-1)*c)=st:=by rw[E7,Nat.add_mul_div_right _ _ zO,Nat.div_eq_of_lt a,ou]
 have e:(st* ((m-1)*c)+(i*c+o))% ((m-1)*c)=i*c+o:=by rw[E7,Nat.add_mul_mod_self_right,u0 a]
 have f:(i*c+o)%c=o:=by rw[E7,Nat.add_mul_mod_self_right,u0 b]
 have g:(i*c+o)/c=i:=by rw[E7,Nat.add_mul_div_right _ _ zO,Nat.div_eq_of_lt b,ou]
 unfold cJ;rw[d,e,f,g]
theorem Hf{m c:Nat}(g:3<=m)(f:1<=c)(b:Nat):∃st i o,i<m-1/\o<c/\b=st* ((m-1)*c)+(i*c+o):=by
 have a:0<(m-1)*c:=Nat.mul_pos zO f;refine⟨b/((m-1)*c),b% ((m-1)*c)/c,b% ((m-1)*c)%c,?_,nE _ zO,?_⟩
 · exact Tk (RB (nE _ a) (Nat.le_of_eq (BG _ _)))
 ·
  have d:=Nat.div_add_mod b ((m-1)*c);have e:=Nat.div_add_mod (b% ((m-1)*c)) c;rw[BG]at d e;omega
theorem mod_one{m a i:Nat}(b:a<m)(d:i<m-1):((a+1+i)%m≠a/\(a+1+i)%m<m)/\((a+1+i)%m+m-a-1)%m=i:=by
 rcases Aj (a+1+i) m with h|h
 ·
  rw[u0 h];refine⟨⟨by omega,h⟩,?_⟩;rw[show a+1+i+m-a-1=i+m by omega,Nat.add_mod_right,u0 zO]
 ·
  rw[Nat.mod_eq_sub_mod h,u0 zO];refine⟨⟨by omega,by omega⟩,?_⟩;rw[show a+1+i-m+m-a-1=i by omega,u0 zO]
theorem DX{m a k:Nat}(e:a<m)(b:k<m)(d:k≠a):(k+m-a-1)%m<m-1/\(a+1+(k+m-a-1)%m)%m=k:=by
 rcases Aj k a with h|h
 ·
  rw[u0 (a:=k+m-a-1) zO];refine⟨by omega,?_⟩;rw[show a+1+(k+m-a-1)=k+m by omega,Nat.add_mod_right,u0 b]
 ·
  rw[show k+m-a-1=(k-a-1)+m by omega,Nat.add_mod_right,u0 (a:=k-a-1) zO];refine⟨by omega,?_⟩;rw[show a+1+(k-a-1)=k by omega,u0 b]
theorem PX{c st o:Nat}(a:o<c):(st*c+o)/c=st/\(st*c+o)%c=o:=⟨by rw[E7,Nat.add_mul_div_right _ _ zO,Nat.div_eq_of_lt a,ou],by rw[E7,Nat.add_mul_mod_self_right,u0 a]⟩
theorem u9{m c b:Nat}(d:3<=m)(k:1<=c):wj m c (cJ m c b).av (cJ m c b).row=b/\(cJ m c b).av≠eD m ((cJ m c b).row/c):=by
 obtain⟨st,i,o,a,e,rfl⟩:=Hf d k b;rw[tz a e];obtain⟨f,g⟩:=PX (st:=st) e;obtain⟨h,j⟩:=mod_one (jV d st) a;unfold wj;dsimp only;rw[f,g];exact⟨by rw[j],h.1⟩
theorem PT{m c k row:Nat}(f:3<=m)(g:1<=c)(e:k<m)(a:k≠eD m (row/c)):(cJ m c (wj m c k row)).av=k/\(cJ m c (wj m c k row)).row=row:=by
 obtain⟨b,d⟩:=DX (jV f (row/c)) e a;unfold wj;rw[tz b (nE _ zO)];exact⟨d,by have:=Nat.div_add_mod row c;rw[BG]at this;exact this⟩
theorem Lx{m c s k row:Nat}(j:3<=m)(n:1<=c)(h:k<m)(a:k≠eD m (row/c))(l:row<s*c):wj m c k row<s*c* (m-1):=by
 obtain⟨d,_⟩:=DX (jV j (row/c)) h a;obtain⟨i,g⟩:∃i,(k+m-eD m (row/c)-1)%m=i:=⟨_,rfl⟩;unfold wj;rw[g]at d⊢;have o:=nE row (show 0<c by omega);have b:row/c+1<=s:=Tk (by rw[BG];exact l);have e:(row/c+1)* ((m-1)*c)<=s* ((m-1)*c):=w9 _ b;have f:(i+1)*c<=(m-1)*c:=w9 c d;rw[ux,Nat.one_mul]at e f;rw[Nat.mul_assoc,BG c];omega
def yZ(m c:Nat)(B:Nat->List UInt8)(row i:Nat):List UInt8:=if i=eD m (row/c)then dC else B (wj m c i row)
def fy(m c:Nat)(B:Nat->List UInt8)(k row:Nat):List UInt8:=if k=eD m (row/c)then ia (yZ m c B row) m else B (wj m c k row)
section
variable{m c s:Nat}{B B':Nat->List UInt8}
theorem ES(f:3<=m)(d:1<=c)(a:∀b,b<s*c* (m-1)->(B b).length=128){row:Nat}(g:row<s*c)(i:Nat)(e:i<m):(yZ m c B row i).length=128:=by
 unfold yZ;split
 · simp
 · rename_i h;exact a _ (Lx f d e h g)
theorem ET(e:3<=m)(d:1<=c)(a:∀b,b<s*c* (m-1)->(B b).length=128)(k row:Nat)(j:k<m)(f:row<s*c):(fy m c B k row).length=128:=by
 unfold fy;split
 · exact pJ λi g=>ES e d a f i g
 · rename_i h;exact a _ (Lx e d j h f)
theorem EU(f:3<=m)(l:1<=c)(j:∀b,b<s*c* (m-1)->(B b).length=128)(row:Nat)(o:row<s*c):ia (λk=>fy m c B k row) m=dC:=by
 have n:=jV f (row/c);have e:=λi d=>ES f l j o i d;have a:=pJ e;rw[jQ (g:=λk=>if k=eD m (row/c)then ia (yZ m c B row) m else yZ m c B row k) λi d=>by
  unfold fy;split
  · rfl
  · rename_i h;unfold yZ;rw[aE h],sE e n a]
 rw[show yZ m c B row (eD m (row/c))=dC from lam rfl,eg a,k7 a]
theorem Qh(f:3<=m)(e:1<=c)(b:Nat):fy m c B (cJ m c b).av (cJ m c b).row=B b:=by
 obtain⟨a,d⟩:=u9 (b:=b) f e;unfold fy;rw[aE d,a]
def w5(l:List cQ)(b:Nat):Option (List UInt8):=(l.reverse.find? λp=>decide (p.dV=b)).map (·.d.data)
def hU(l:List cQ)(B:Nat->List UInt8)(b:Nat):List UInt8:=(w5 l b).getD (B b)
theorem BE(g:3<=m)(f:1<=c)(l:List cQ){k row:Nat}(i:k<m)(a:k≠eD m (row/c)):iG m c l (row:Nat) (k:Nat)=w5 l (wj m c k row):=by
 unfold iG w5;congr 2;funext p;rw[KS];constructor
 ·
  rintro⟨d,e⟩;rw[<-(u9 (b:=p.dV) g f).1,show(cJ m c p.dV).row=row by omega,show(cJ m c p.dV).av=k by omega]
 ·
  intro h;obtain⟨d,e⟩:=PT (row:=row) g f i a;rw[h,d,e];exact⟨rfl,rfl⟩
theorem o5{l:List cQ}{N:Nat}(h:∀p∈l,p.d.data.length=128)(a:∀b,b<N->(B b).length=128)(b:Nat)(f:b<N):(hU l B b).length=128:=by
  unfold hU;cases e:w5 l b with
  |none=>exact a b f
  |some d=>
    obtain⟨p,g,rfl⟩:=Option.map_eq_some_iff.1 e;exact h p (KQ.1 (List.mem_of_find?_eq_some g))
end
end Go.Proofs.YtonpidcjpenflaaGreat
namespace Go.Proofs.YtonpidcjpenflaaGreat
open Go.RowKit Go.Sl
attribute [local irreducible] Sl.Own
section
variable{m c s:Nat}{l:List cQ}{y:CJ}{B:Nat->List UInt8}
theorem pV{l:List Int}{a:Int}:a∈ey l↔a∈l:=(List.mergeSort_perm l _).mem_iff
theorem Nx{l:List Int}(h:l.Nodup):∀i (d:i+1<(ey l).length),(ey l)[i]'(Nat.lt_of_succ_lt d)<(ey l)[i+1]:=by
 have e:(ey l).Pairwise λa b=>decide (a<=b)=true:=List.pairwise_mergeSort (λa b c e f=>by simp at*;omega) (λa b=>by simp;omega) l;have f:(ey l).Nodup:=(List.mergeSort_perm l _).nodup_iff.2 h;intro i d;have a:=List.pairwise_iff_getElem.1 e i (i+1) (Nat.lt_of_succ_lt d) d (Nat.lt_succ_self i);have b:=List.pairwise_iff_getElem.1 f i (i+1) (Nat.lt_of_succ_lt d) d (Nat.lt_succ_self i);simp at a;omega
theorem fJ.aA(h:fJ m c l y){q:cu}(d:q∈y.out):∃t∈y.S,q.aA=gH y.S t.row/\kh y.S t.row=t.es:=by
 have b:q.aA∈(ey (y.S.map (·.row))).map (gH y.S):=by rw[<-h.out];exact List.mem_map_of_mem d
 obtain⟨r,f,e⟩:=fG.1 b;obtain⟨t,a,rfl⟩:=fG.1 (pV.1 f);refine⟨t,a,e.symm,?_⟩;unfold kh;rw[kS (l:=y.S.map λs=>(s.row,s.es)) (by rw[oS];exact h.ok.one) (fG.2 ⟨t,a,rfl⟩)];rfl
theorem fJ.at(h:fJ m c l y){t:dP}(a:t∈y.S)(k:Int):(fj t.es k).map (λp=>p.d.data)=iG m c l t.row k:=by
 rw[<-wN,<-h.ok.pl];unfold Du;rw[kS (l:=y.S.map dP.pl) (by rw[oS];exact h.ok.one) (fG.2 ⟨t,a,rfl⟩),Option.bind_some];exact(Dt (λp:aj=>p.d.data) t.es k).symm
theorem fJ.has(h:fJ m c l y){r k:Int}{d:List UInt8}(e:iG m c l r k=some d):∃t∈y.S,t.row=r:=by
 rw[<-wN,<-h.ok.pl]at e;unfold Du at e;obtain⟨es,a,f⟩:=Option.bind_eq_some_iff.1 e;have:r∈(y.S.map dP.pl).map (·.1):=mE.1 (by rw[a];rfl);rw[oS]at this;obtain⟨t,b,rfl⟩:=fG.1 this;exact⟨t,b,rfl⟩
theorem fJ.MW(h:fJ m c l y){t:dP}(d:t∈y.S):∃q∈y.out,q.aA=gH y.S t.row:=by
 have a:gH y.S t.row∈y.out.map (·.aA):=by rw[h.out];exact List.mem_map_of_mem (pV.2 (fG.2 ⟨t,d,rfl⟩))
 obtain⟨q,b,e⟩:=fG.1 a;exact⟨q,b,e⟩
theorem fJ.row(h:fJ m c l y){t:dP}(u:t∈y.S){q:cu}(C:q.aA=gH y.S t.row)(D:kh y.S t.row=t.es):
  q.aA.length=t.es.length/\(∀i (o:i<q.aA.length),∃H:i<(ey (t.es.map (·.1))).length,q.aA[i].av=(ey (t.es.map (·.1)))[i]/\q.aA[i].row=t.row/\q.aA[i].d∈y.G/\iG m c l t.row q.aA[i].av=some q.aA[i].d.data)/\∀k d,iG m c l t.row k=some d->∃p∈q.aA,p.av=k:=by
 have v:=h.ok.each t u;have e:q.aA=(ey (t.es.map (·.1))).map λk=>(fj t.es k).getD TX:=by rw[C];unfold gH;rw[D]
 have r:(ey (t.es.map (·.1))).length=t.es.length:=by rw[ey,List.length_mergeSort,ew]
 have f:∀k∈ey (t.es.map (·.1)),∃p,fj t.es k=some p/\p.av=k/\p.row=t.row/\p.d∈y.G:=λk n=>by
  obtain⟨x,z,rfl⟩:=fG.1 (pV.1 n);obtain⟨a,b,c⟩:=v.of x z;exact⟨x.2,kS v.one z,a,b,c⟩
 refine⟨by rw[e,ew,r],λi o=>?_,λk d n=>?_⟩
 ·
  have j:i<(ey (t.es.map (·.1))).length:=by rw[e,ew]at o;exact o
  obtain⟨p,a,b,A,d⟩:=f _ (fF j);have E:q.aA[i]=p:=by simp only[e,Jz,a];rfl
  refine⟨j,?_⟩;rw[E,<-h.at u,b,a];exact⟨rfl,A,d,rfl⟩
 ·
  rw[<-h.at u]at n;obtain⟨p,F,_⟩:=Option.map_eq_some_iff.1 n;have g:k∈ey (t.es.map (·.1)):=pV.2 (mE.1 (by rw[F];rfl));obtain⟨G,a,b,_⟩:=f k g;exact⟨G,by rw[e];exact fG.2 ⟨k,g,by rw[a];rfl⟩,b⟩
theorem fJ.QK(h:fJ m c l y)(z:3<=m)(x:1<=c)(I:∀p∈l,p.dV<s*c* (m-1))(a:∀p∈l,p.d.data.length=128){t:dP}(A:t∈y.S)(u:t.es≠[]){q:cu}(E:q.aA=gH y.S t.row)(F:kh y.S t.row=t.es):∃row:Nat,t.row=row/\fZ m c s row q.aA:=by
 obtain⟨g1,g2,g3⟩:=h.row A E F;have j:0<q.aA.length:=by rw[g1];exact KO.2 u
 obtain⟨_,_,_,_,D⟩:=g2 0 j;obtain⟨n,v,M,_,_⟩:=w6 D;have k:(cJ m c n.dV).row<s*c:=by
  obtain⟨st,i,o,f,K,e⟩:=Hf z x n.dV;have d:=I n v;rw[e,tz f K];rw[e]at d;have G:st<s:=by
   rcases Aj st s with g|g
   · exact g
   ·
    have:s* ((m-1)*c)<=st* ((m-1)*c):=w9 _ g;rw[Nat.mul_assoc,BG c]at d;omega
  have H:(st+1)*c<=s*c:=w9 _ G;rw[ux]at H;show st*c+o<s*c;omega
 refine⟨(cJ m c n.dV).row,M.symm,⟨KO.1 j,k,λi f=>?_,λi f=>?_⟩⟩
 ·
  obtain⟨_,_,a3,_,a5⟩:=g2 i f;obtain⟨p,L,P,Q,N⟩:=w6 a5;obtain⟨_,r⟩:=u9 (b:=p.dV) z x;have J:(cJ m c p.dV).av<m:=nE _ zO;rw[show(cJ m c p.dV).row=(cJ m c n.dV).row by omega]at r;exact⟨by omega,by omega,by omega,λe=>r zO,by rw[<-N];exact a p L⟩
 ·
  obtain⟨O,a2,_⟩:=g2 i zO;obtain⟨C,r,_⟩:=g2 (i+1) f;rw[a2,r];exact Nx (h.ok.each t A).one i C
theorem NA(m c:Nat)(l:List cQ):∀s∈kD m c l,s.2≠[]:=by
  induction l using lH with
  |nil=>intro s b;cases b
  |snoc l p d=>
    rw[jN];intro s b;obtain⟨f,a,rfl⟩:=fG.1 b;dsimp only;split
    · unfold mq;simp
    · rename_i e
      unfold gK at a
      split at a
      · exact d f a
      · rcases l0.1 a with g|g
        · exact d f g
        · rw[ju.1 g]at e;exact cN rfl e
theorem fJ.Qw(h:fJ m c l y){t:dP}(a:t∈y.S):t.es≠[]:=λe=>by
 have:=NA m c l (dP.pl t) (by rw[<-h.ok.pl];exact List.mem_map_of_mem a);exact this (by show t.es.map _=[];rw[e];rfl)
theorem fJ.CU(h:fJ m c l y){Y:eA}(P:Y.ok)(e:Y.m=m/\Y.c=c/\Y.s=s)(Q:∀p∈l,p.dV<s*c* (m-1))(n:∀p∈l,p.d.data.length=128)(W:∀b,b<s*c* (m-1)->(B b).length=128):Ol Y (fy m c B) (fy m c (hU l B)) y.out:=by
  obtain⟨rfl,rfl,rfl⟩:=e;have x:=P.m.1;have v:=P.c.1;have u:=o5 n W;have A:∀k row:Nat,k<Y.m->k≠eD Y.m (row/Y.c)->iG Y.m Y.c l (row:Nat) (k:Nat)=none->fy Y.m Y.c (hU l B) k row=fy Y.m Y.c B k row:=λk row j a R=>by
    rw[BE x v l j a]at R;unfold fy;rw[aE a,aE a];unfold hU;rw[R];rfl
  refine⟨ET x v u,EU x v u,λq N=>?_,λk row j hr X=>?_⟩
  · obtain⟨t,z,F,G⟩:=h.aA N
    obtain⟨row,f,E⟩:=h.QK x v Q n z (h.Qw z) F G
    obtain⟨g1,g2,g3⟩:=h.row z F G
    refine⟨row,E,⟨λk j=>ET x v u k row j E.row,EU x v u row E.row,λp I=>?_,λk j a L=>?_⟩⟩
    · obtain⟨i,D,rfl⟩:=List.mem_iff_getElem.1 I
      obtain⟨_,_,_,_,a5⟩:=g2 i D
      obtain⟨S,T,b3,O,_⟩:=E.of i D
      obtain⟨k,j⟩:=w8 S
      have j:q.aA[i].av=(k:Int):=j
      rw[j]at T O a5⊢
      have K:k<Y.m:=by omega
      have H:k≠eD Y.m (row/Y.c):=λe=>O (by rw[e])
      rw[f,BE x v l K H]at a5
      unfold fy
      rw[aE (show(k:Int).toNat≠_ from H)]
      unfold hU
      rw[show(k:Int).toNat=k from rfl,a5];rfl
    · refine A k row j a ?_
      cases e:iG Y.m Y.c l (row:Nat) (k:Nat)with
      |none=>rfl
      |some d=>
        rw[<-f]at e
        obtain⟨p,I,C⟩:=g3 _ _ e
        exact cN C (L p I)
  · have r:∀i:Nat,i<Y.m->i≠eD Y.m (row/Y.c)->(i=k\/k=eD Y.m (row/Y.c))->iG Y.m Y.c l (row:Nat) (i:Nat)=none:=λi D a M=>by
      cases e:iG Y.m Y.c l (row:Nat) (i:Nat)with
      |none=>rfl
      |some d=>
        obtain⟨t,z,f⟩:=h.has e;obtain⟨q,N,F⟩:=h.MW z;have G:kh y.S t.row=t.es:=by
          unfold kh;rw[kS (l:=y.S.map λs=>(s.row,s.es)) (by rw[oS];exact h.ok.one) (fG.2 ⟨t,z,rfl⟩)];rfl
        obtain⟨J,Z,E⟩:=h.QK x v Q n z (h.Qw z) F G;obtain rfl:J=row:=by omega
        obtain⟨U,V⟩:=X q N E;rw[<-f]at e;obtain⟨p,I,C⟩:=(h.row z F G).2.2 _ _ e;rcases M with g|g
        · exact cN (by rw[C,g]) (V p I)
        · exact cN g U
    by_cases o:k=eD Y.m (row/Y.c)
    · unfold fy
      rw[lam o,lam o]
      refine jQ λi D=>?_
      unfold yZ
      split
      · rfl
      · rename_i a
        have:=r i D a (.inr o)
        rw[BE x v l D a]at this
        unfold hU
        rw[this];rfl
    · exact A k row j o (r k j o (.inl rfl))
def dF(m c:Nat)(l:List cQ):Nat:=(kD m c l).length+((kD m c l).map λs=>s.2.length).sum
theorem fJ.PH(h:fJ m c l y):kz y.out=dF m c l:=by
 have a:(y.out.map λq=>q.aA.length)=(ey (y.S.map (·.row))).map λr=>(gH y.S r).length:=by
  have:=lcs (List.map List.length) h.out;rw[oS,oS]at this;exact this
 have d:(y.S.map (·.row)).map (λr=>(gH y.S r).length)=(kD m c l).map λs=>s.2.length:=by
  rw[<-h.ok.pl,oS,oS];refine HF λt e=>?_;show(gH y.S t.row).length=(t.es.map λx=>(x.1,x.2.d.data)).length;unfold gH kh;rw[kS (l:=y.S.map λs=>(s.row,s.es)) (by rw[oS];exact h.ok.one) (fG.2 ⟨t,e,rfl⟩),ew,ew,ey,List.length_mergeSort,ew];rfl
 have b:y.out.length=(kD m c l).length:=by
  have:=lcs List.length a;rw[ew,ew,ey,List.length_mergeSort,ew]at this;rw[this,<-h.ok.pl,ew]
 unfold kz Ed dF;rw[b,a,((List.mergeSort_perm (y.S.map (·.row)) _).map _).sum_nat,d]
end
end Go.Proofs.YtonpidcjpenflaaGreat
namespace Go.Sl
open Go Go.RowKit
section
variable{W:World}{P:Program}{n:Nat}{m:Md}{c:Code}{Q:Exit->Act->World->Prop}{H H' L R G G':List ab}{f F:Fr}{N:List ab->Fr->Prop}
variable{dst:Option Tmp}{ty_:TypeId}{pos:String}{after:Array Edge}{guard:Option (Nat×Bool)}{mv ord r:List Nat}{tl i x d e:Nat}{X:Nat->ab}{vx:Nat->Value}
theorem VR.plain(h:VC W P n c (EE (Md.mk none []).df Q) H f):VR W P n ⟨none,[]⟩ c Q H f:=by
 unfold VC at h;unfold VR;intro b t w j k;refine wpIn_wide.2 (Code.wp_mono ?_ (h t w j k));intro e a l q;unfold EE at q;have q:=q b;have g:gj a []=a:=by unfold gj;rw[mn]
 rwa [g]at q
theorem dG.Fi{t:TypeId}{z:Value}{cs:List Value}(j:∀w,(zeroValue t).run P w= .ok z w)(a:z.cells=cs.toArray)(g:Nat.blt d n=true):dG W P n {dst:=some d,op:= .alloc t,type:=ty_,pos,after,guard:=none} d (λb=>Row b t cs) (λb=>ip b):=
 ⟨λQ H f N h=>ay.alloc j a g h,rfl⟩
theorem aq.under{g:FuncId}{args:List Value}{K:ab}{β:Type}{A:β->Prop}{r:β->Value}{S:β->List ab}(h:∀R,aq W P g args (K::R) A r (λx=>S x++R))(M R:List ab):aq W P g args (M++K::R) A r (λx=>M++(S x++R)):=
 fX (λw a=>a.perm qY) (aq.mono (h (M++R)) (λx=>x) (λ_ q=>q) (λ_ _=>rfl) (λx _ w a=>a.perm (List.perm_append_comm_assoc _ _ _)))
theorem VX.uk{ox:Oper}{y:Operand}{xs:Array Operand}{ats:Array TypeId}{g:FuncId}{cap:Array Value}{vs:List Value}{β:Type}{A:β->Prop}{rv:β->Value}{K:ab}{S:β->List ab}
  (ho:(aG c)[i]?=some {dst:=some e,op:= .call {callee:= .value y,args:=xs,argTypes:=ats},type:=ty_,pos,after,guard})(T:Nat.beq i x=false)(hm:mv.contains i=true)(hg:gA (aG c) guard f=some true)
  (hx:aD f y=some (.func (.func g) #[] cap))(ha:jo f xs.toList=some vs)(hc:∀a w,(callFunc g a).run P w= .ok (.enter g a) w)(spec:∀R,aq W P g (vs++cap.toList) (K::R) A rv (λx=>S x++R))(hH:aP H (K::H'))
  (U:(aG c)[x]?=some ox)(V:dG W P n ox d X vx)(hR:ae W H R)(C:∀z,A z->ae W (S z++H') R)(hd:Nat.blt e n=true)(O:look f d=none)(M:Nat.beq e d=false)(h:∀z,A z->VX W P n c R mv tl x d X vx r Q (S z++H') ((e,rv z)::f)):VX W P n c R mv tl x d X vx (i::r) Q H f:=by
 have D:i≠x:=by intro q;subst q;simp at T
 have second:∀b t w,bS n ((d,vx b)::f) t->Holds W (X b::H) w->fo P (aG c).toArray Q (Holds W R) mv tl (i::r.erase x) ⟨t,[]⟩ w:=by
  intro b t w l s;have j:=l.under O;refine .inl ⟨by unfold BK;rw[hm];rfl,?_⟩;unfold wpOp;simp only[List.getElem?_toArray,ho];rw[lam (j.wanted (o:={dst:=some e,op:= .call {callee:= .value y,args:=xs,argTypes:=ats},type:=ty_,pos,after,guard}) hg)];have I:=aq.under spec [X b] H';refine .inl ?_;have p:xs.map (Act.eval ⟨t,[]⟩)=vs.toArray:=by
   have:=j.args ha;apply Array.ext';simpa using this
  unfold aq at I;have I:=I w ((aP.aR (aP.cons .head hH)) w s);unfold Oper.wp execOp;simp only[resolve,j.eval hx,p,Deferred.ofValue,invoke,Sem.run_bind,Sem.run_pure,Result.andThen_ok,hc,Oper.upon];have e9:#[]++vs.toArray++cap=(vs++cap.toList).toArray:=by simp
  rw[e9];refine Calls.mono I ?_;rintro e8 E ⟨z,Y,rfl,Z⟩;have B:=h z Y;unfold VX at B;exact⟨λ_=>C z Y _ Z.tail,B.2 b _ E ((l.put hd).swap M) Z⟩
 unfold VX;refine⟨λt w l s=>.inr (.inl ⟨D,hm,?_,?_⟩),λb t w l s=>by rw[List.erase_cons_tail (by simpa using D)];exact second b t w l s⟩
 ·
  unfold wpOp;simp only[List.getElem?_toArray,ho];rw[lam (l.wanted (o:={dst:=some e,op:= .call {callee:= .value y,args:=xs,argTypes:=ats},type:=ty_,pos,after,guard}) hg)];have:=ay.call (W:=W) (n:=n) (d:=e) (ty_:=ty_) (pos:=pos) (after:=after) (guard:=guard) (ats:=ats) (Q:=eF Q) (f:=f) (H:=H) (N:=λu v=>∃z,A z/\u=S z++H'/\v=(e,rv z)::f) hx ha hc (spec H') (aP.aR hH) hd (λz J=>⟨z,J,rfl,rfl⟩);unfold ay at this;refine .inl (this t w l s _ ?_);rintro u v ⟨z,J,rfl,rfl⟩ t' E j k;have B:=h z J;unfold VX at B;exact⟨C z J _ k,B.1 t' E j k⟩
 ·
  unfold wpOp;simp only[List.getElem?_toArray,U];rw[lam (by unfold Region.wanted;rw[V.guard])];have:=V.run (eF Q) H f (λu v=>∃b,u=X b::H/\v=(d,vx b)::f) (λb=>⟨b,rfl,rfl⟩);unfold ay at this;refine .inl (this t w l s _ ?_);rintro u v ⟨b,rfl,rfl⟩ t' E j k;exact⟨hR _ k.tail,second b t' E j k⟩
end
end Go.Sl
namespace Go.Proofs.YtonpidcjpenflaaGreat
open Go.RowKit Go.Sl
attribute [local irreducible] Sl.Own
abbrev sF(s:iu)(r wp:Nat)(fr:List Int)(R:List ab):List ab:=de r s.Y fr (A0 wp s.Y.b s.v s.D R)
section
variable{W:World}{R:List ab}{s:iu}{n wp:Nat}{fr:List Int}{V V':Nat->Nat->List UInt8}
theorem iu.ok.SJ(h:s.ok n wp fr V)(a:s.c<=1000000):s.v.ok:=h.live.SJ (by have:=h.ep;omega) (by have:=h.nx;omega) h.base
theorem OI(f:Nat)(x:mX)(h:s.ok n wp fr V)(u:s.c<=1000000)(i:∀p∈x.ps,p.Of s.Y)(y:1<=x.ps.length)(B:2*x.ps.length+1<=s.v.size-s.v.used):
  aq W Tryz.prog 169 [ip f] (gU f x (sF s x.r wp fr R)) (β:=iu) (λt=>t.ok n wp fr V/\s.to t/\t.Y=s.Y/\t.v.used=s.v.used/\t.x=s.x.jl 1 (x.ps.map aj.D)/\t.c=s.c) (λ_=>.agg cD.toArray) (λt=>gU f x (sF t x.r wp fr R)):=by
 obtain⟨D',kj',e,z,A⟩:=h.log u i y B;have C:=h.live.size;have o:s.Y.s*s.Y.c<=256*16:=mo h.Y.s.2 h.Y.c.2;have D:=h.Y.m;have g:∀p∈x.ps,p.fit:=λp l=>by
  have a:=(i p l).m;have b:=(i p l).r;have c:=(i p l).n;exact⟨by omega,by omega,by omega⟩
 refine ze Tryz.func169 Tryz.ntmps169 ?_;refine zq ?_;refine ay.aB bE rfl ?_;intro v;refine w ?_;refine VC.bH (λw q=>q.bn (.tail _ (.tail _ (.head _)))) ?_;intro j;refine VC.bH (λw q=>bX.bH ((ae.re:ae W _ [bX x.ps]) w q)) ?_;intro k;have d:=λS (e:ae W S (bL (x.pa,x.pp) x.ps::bX x.ps:: []))=>KD (W:=W) (R:=S) (cap:=x.pp) wp s.Y.b s.v (h.SJ u) h.q.cap zO ((bq.own (x:=(x.pa,x.pp)) j k (.head _) (.tail _ (.head _))).aR e) g zO;rw[e]at d;refine zx [15] 16 [0,1,2,3,4,5,6,7,8,9,10,11,12,13,14,15,16,17] (Row v 174 cD::Row f 259 x.cells::Row x.r 142 s.Y.cells:: []) ?_;refine w ?_;refine VD.re 13 (ip wp) rfl (by rw[h.w]) ?_;refine zr (s:=d (Row v 174 cD::Row f 259 x.cells::bL (x.pa,x.pp) x.ps::bX x.ps::Row x.r 142 s.Y.cells::Sl.Own 3 1 (.slice (ik s.Y.fa) s.Y.m s.Y.m) s.Y.m (j8 fr)::R) ae.re) (h:=?_);intro _ _;refine zr (s:=l7 x.r s.Y) (h:=?_);intro _ _;refine zS cD ?_;exact VE.results1 (.inl rfl) _ rfl (aL.agg (vs:=cD) ah rfl rfl zm rfl rfl) ⟨z,A,rfl,rfl,rfl,rfl⟩ rfl ae.re
theorem IC(a:Nat)(x:mX)(h:s.ok n wp fr V)(g:s.c<=1000000)(i:bq W R s.Y.wo s.Y.wl):
  aq W Tryz.prog 170 [ip a] (gU a x (sF s x.r wp fr R)) (β:=iu) (λt=>t.ok n wp fr V/\s.to t/\t.Y=s.Y.done/\t.v=s.v/\t.x=s.x/\t.c=s.c+s.Y.wl.length) (λ_=>.agg cD.toArray) (λt=>gU a x (sF t x.r wp fr R)):=by
 refine ze Tryz.func170 Tryz.ntmps170 ?_;refine zq ?_;refine ay.aB bE rfl ?_;intro j;refine zr (s:=xS (R:=bz wp s.Y.b s.v::Row j 174 cD::Row a 259 x.cells::bL (x.pa,x.pp) x.ps::bX x.ps::R) x.r s.Y h.Y fr h.uD (i.aR (ae.drop (ae.drop (ae.drop (ae.drop (ae.drop ae.refl)))))) h.q g) (h:=?_);rintro⟨D',K'⟩ ⟨b,d⟩;obtain⟨e,f⟩:=h.hJ (D':=D') d (Nat.le_add_right s.c s.Y.wl.length);refine zS cD ?_;exact VE.results1 (.inl rfl) ({s with Y:=s.Y.done,D:=D',K:=K',c:=s.c+s.Y.wl.length}:iu) rfl (aL.agg (vs:=cD) ah rfl rfl zm rfl rfl) ⟨⟨e,b⟩,f,rfl,rfl,rfl,rfl⟩ rfl ae.re
theorem EX(h:s.ok n wp fr V)(b:s.c<=1000000){D':aw}{v':bT}(e:pB (s.v,s.D)=(0,(v',D')))(R:List ab):az W Tryz.prog 254 [ip wp] (Sl.star [bz wp s.Y.b s.v,al s.Y.b s.D]::R) (i6 0) (Sl.star [bz wp s.Y.b v',al s.Y.b D']::R):=by
 have:=GO (W:=W) (R:=R) (D:=s.D) wp s.Y.b s.v (h.SJ b) h.q.cap zO;rw[e]at this;exact fX (λw a=>a.join) (QS this λw a=>a.nest (L:=[bz wp s.Y.b v',al s.Y.b D']))
theorem LA(a:Nat)(x:mX)(h:s.ok n wp fr V)(i:s.c<=1000000)(d:s.x.j9=some (x.ps.map aj.D))(g:s.Y.wl=[])(o:Fc s.Y V V' x.ps)(k:1<=x.ps.length):
  aq W Tryz.prog 171 [ip a] (gU a x (sF s x.r wp fr R)) (β:=iu) (λt=>t.ok n wp fr V'/\s.to t/\t.Y=s.Y.R2 x.pa x.pp x.ps/\t.v=su s.v x.ps/\t.x=s.x.jl 2 []/\t.c=s.c+1) (λ_=>.agg cD.toArray) (λt=>gU a x (sF t x.r wp fr R)):=by
 obtain⟨D',kj',e,l,m⟩:=h.sealw i d g o k x.pa x.pp;refine ze Tryz.func171 Tryz.ntmps171 ?_;refine zq ?_;refine ay.aB bE rfl ?_;intro c;refine w ?_;refine VC.aR (H':=Sl.star [bz wp s.Y.b s.v,al s.Y.b s.D]::Row c 174 cD::gU a x (de x.r s.Y fr R)) (ae.trans (ae.re (L:=bz wp s.Y.b s.v::al s.Y.b s.D::Row c 174 cD::gU a x (de x.r s.Y fr R))) (λw f=>f.nest (L:=[bz wp s.Y.b s.v,al s.Y.b s.D]))) ?_;refine VC.qO [11,12,13] 14 13 [0,1,2,3,4,5,6,7,8,9,10,11,12,13,14] (Row x.r 142 s.Y.cells::Row a 259 x.cells:: []) 3 (λb=>Row b 174 cD) (λb=>ip b) rfl (by kernel_rfl) (by kernel_rfl) ae.re ?_;(repeat (apply VX.take rfl rfl rfl rfl;exact zp;rfl;rfl;rfl));refine VX.re 14 (ip wp) rfl (by rw[h.w]) rfl rfl ?_;refine VX.uk (K:=Sl.star [bz wp s.Y.b s.v,al s.Y.b s.D]) (S:=λ_:Unit=>[Sl.star [bz wp s.Y.b (su s.v x.ps),al s.Y.b D']]) (H':=Row c 174 cD::gU a x (de x.r s.Y fr R)) rfl rfl rfl rfl rfl rfl (λ_ _=>by simp) (EX h i e) (by(repeat exact .refl)) rfl (dG.alloc bE rfl) ae.re (λ_ _=>ae.re) rfl rfl rfl ?_;intro _ _;refine VX.uk (K:=Row x.r 142 s.Y.cells) (S:=λ_:Unit=>[Row x.r 142 s.Y.cells]) (H':=Sl.star [bz wp s.Y.b (su s.v x.ps),al s.Y.b D']::Row c 174 cD::gU a x (Sl.Own 3 1 (.slice (ik s.Y.fa) s.Y.m s.Y.m) s.Y.m (j8 fr)::R)) rfl rfl rfl rfl rfl rfl (λ_ _=>by simp) (λR=>l7 x.r s.Y) (by(repeat first|exact .refl|(apply aP.cons;focus repeat first|exact .head|apply nW.tail)|exact .nil|apply aP.drop)) rfl (dG.alloc bE rfl) ae.re (λ_ _=>ae.re) rfl rfl rfl ?_;intro _ _;(repeat (apply VX.take rfl rfl rfl rfl;exact zp;rfl;rfl;rfl));refine VX.float rfl rfl (dG.alloc bE rfl) ae.re ?_;intro j;refine zS cD ?_;refine VC.aR (H':=Row j 174 cD::Row c 174 cD::gU a x (de x.r s.Y fr (A0 wp s.Y.b (su s.v x.ps) D' R))) (ae.trans (ae.re (L:=Sl.star [bz wp s.Y.b (su s.v x.ps),al s.Y.b D']::Row j 174 cD::Row c 174 cD::gU a x (de x.r s.Y fr R))) (ae.trans (λw f=>f.join) ae.re)) ?_;refine zx [] 12 [0,1,2,3,4,5,6,7,8,9,10,11,12,13,14,15,16,17] _ ?_;refine zS cD ?_;exact VE.results1 (.inl rfl) _ rfl (aL.agg (vs:=cD) ah rfl rfl zm rfl rfl) ⟨l,m,rfl,rfl,rfl,rfl⟩ rfl ae.re
theorem OD(a:Nat)(x:mX)(h:s.ok n wp fr V)(b:s.c<=1000000)(g:bq W (bL (x.pa,x.pp) x.ps::bX x.ps::R) s.Y.wo s.Y.wl):
  aq W Tryz.prog 172 [ip a] (gU a x (sF s x.r wp fr R)) (β:=iu) (λt=>t.ok n wp fr V/\s.to t/\(s.Y.lazy=false->t.Y.wl=[]/\t.v.sure=true)/\(s.Y.lazy=true->t=s)/\t.x.cy=s.x.cy/\t.c<=s.c+s.Y.wl.length) (λ_=>.agg cD.toArray) (λt=>gU a x (sF t x.r wp fr R)):=by
 refine ze Tryz.func172 Tryz.ntmps172 ?_;refine zq ?_;refine ay.aB bE rfl ?_;intro i;refine w ?_;refine zk ?_ ?_<;>intro b
 ·
  have d:s.Y.lazy=true:=b;refine w ?_;apply VO.pure rfl rfl;apply af.build bE (pv:=[]) rfl;rfl;rfl;refine zS cD ?_;exact VE.results1 (.inl rfl) s rfl (aL.agg (vs:=cD) ah rfl rfl zm rfl rfl) ⟨h,.refl s,λq=>(by rw[d]at q;cases q),λ_=>rfl,rfl,Nat.le_add_right _ _⟩ rfl ae.re
 have d:s.Y.lazy=false:=b;refine zr (s:=rf (R:=Row i 174 cD::Row a 259 x.cells::bL (x.pa,x.pp) x.ps::bX x.ps::R) x.r s.Y h.Y h.w fr h.uD (g.aR (ae.drop (ae.drop ae.refl))) h.q (by assumption) h.k h.slot h.live) (h:=?_);rintro⟨D',j⟩ ⟨c,kj',g1,g2,g3,g4⟩;obtain⟨e,f⟩:=h.settled c g1 g2 g3 g4;refine zS cD ?_;exact VE.results1 (.inl rfl) _ rfl (aL.agg (vs:=cD) ah rfl rfl zm rfl rfl) ⟨e,f,λ_=>⟨rfl,rfl⟩,λq=>(by rw[d]at q;cases q),rfl,eI _⟩ rfl ae.re
theorem Lz(a:Nat)(x:mX)(h:s.ok n wp fr V)(b:s.c<=1000000)(z:bq W R s.Y.wo s.Y.wl)(o:x.l.length<=256)(r:iT W R x.po x.l)(m:∀p∈x.l,p.dV<s.Y.s*s.Y.c* (s.Y.m-1))(c:2*dF s.Y.m s.Y.c x.l+1<=s.v.size):
  aq W Tryz.prog 167 [ip a] (gU a x (sF s x.r wp fr R)) (β:=iu) (λt=>t.ok n wp fr V/\s.to t/\2*dF s.Y.m s.Y.c x.l+1<=t.v.size-t.v.used/\(2*dF s.Y.m s.Y.c x.l+1<=s.v.size-s.v.used->t=s)/\((t.Y.wo=none/\t.Y.wl=[])\/t.Y=s.Y)/\t.c<=s.c+s.Y.wl.length)
   (λ_=>.agg cD.toArray) (λt=>gU a x (sF t x.r wp fr R)):=by
 have u:=h.live.size;have v:=h.live.Nj.us;obtain⟨M,j⟩:∃M,dF s.Y.m s.Y.c x.l=M:=⟨_,rfl⟩;rw[j]at c⊢;have g:=h.uD;refine ze Tryz.func167 Tryz.ntmps167 ?_;refine zq ?_;refine ay.aB bE rfl ?_;intro e;refine w ?_;refine VC.aK rfl rfl (by rw[h.w];rfl) ?_;refine w ?_;refine zx [11] 16 [0,1,2,3,4,5,6,7,8,9,10,11,12,13,14,15,16] _ ?_;refine zt (s:=HO h.Y.m h.Y.c h.Y.s o (r.aR (ae.drop (ae.drop (ae.drop (ae.drop (ae.drop (ae.drop (ae.drop (ae.drop ae.refl))))))))) m) (h:=?_);intro y A;rw[A.PH,j];refine w ?_;refine VO.re 50 (ip wp) rfl (by rw[h.w]) ?_;refine zr (s:=yp (R:=Row e 174 cD::gU a x (de x.r s.Y fr (al s.Y.b s.D::R))) wp s.Y.b s.v) (h:=?_);intro _ _;refine w ?_;refine VC.aK rfl rfl (gx zO) ?_;refine w ?_;refine VC.quiet rfl (by kernel_rfl) (by kernel_rfl) ?_;refine w ?_;refine VQ.re 62 (ip wp) rfl (by rw[h.w]) ?_;refine VQ.call rfl rfl rfl rfl (λ_ _=>by simp) (yp (R:=Row e 174 cD::gU a x (de x.r s.Y fr (al s.Y.b s.D::R))) wp s.Y.b s.v) ae.re ae.re rfl ?_;refine w ?_;refine VQ.re 70 (ip wp) rfl (by rw[h.w]) ?_;refine VQ.call rfl rfl rfl rfl (λ_ _=>by simp) (yq (R:=Row e 174 cD::gU a x (de x.r s.Y fr (al s.Y.b s.D::R))) wp s.Y.b s.v) ae.re ae.re rfl ?_;refine w ?_;refine zk ?_ ?_<;>intro b
 ·
  have f:¬2*M+1<=s.v.size-s.v.used:=by have:=cI b;omega
  clear b;refine zr (s:=tH (R:=Row e 174 cD::Row a 259 x.cells::bL (x.pa,x.pp) x.ps::bX x.ps::R) x.r s.Y h.Y h.w fr g (z.aR (ae.drop (ae.drop (ae.drop (ae.drop ae.refl))))) h.q (by assumption) h.k h.slot h.live h.base (h.lO (by assumption))) (h:=?_);rintro⟨D',B⟩ ⟨i,kj',g1,g2,g3⟩;obtain⟨k,l⟩:=h.pO (by assumption) i g1 g2 g3;refine zS cD ?_;exact VE.results1 (.inl rfl) _ rfl (aL.agg (vs:=cD) ah rfl rfl zm rfl rfl) ⟨k,l,by show _<=s.v.size-0;omega,λq=>cN q f,.inl ⟨rfl,rfl⟩,eI _⟩ rfl ae.re
 ·
  have d:2*M+1<=s.v.size-s.v.used:=by have:=dx b;omega
  clear b;refine w ?_;apply VO.pure rfl rfl;apply af.build bE (pv:=[]) rfl;rfl;rfl;refine zS cD ?_;exact VE.results1 (.inl rfl) s rfl (aL.agg (vs:=cD) ah rfl rfl zm rfl rfl) ⟨h,.refl s,d,λ_=>rfl,.inr rfl,Nat.le_add_right _ _⟩ rfl ae.re
end
end Go.Proofs.YtonpidcjpenflaaGreat
namespace Go.Proofs.YtonpidcjpenflaaGreat
open Go.RowKit Go.Sl
attribute [local irreducible] Sl.Own
structure Qp where
  t:iu
  ps:List aj
  x:Option Addr×Nat
structure S9(s:iu)(n wp:Nat)(fr:List Int)(V':Nat->Nat->List UInt8)(y:Qp):Prop where
  ok:y.t.ok n wp fr V'
  to:s.to y.t
  calm:s.Y.lazy=false->y.t.Y.wl=[]/\y.t.v.sure=true
  wait:(y.t.Y.wo=none/\y.t.Y.wl=[])\/(y.t.Y.wo=y.x.1/\y.t.Y.wl=y.ps)
  c:y.t.c<=s.c+4000
section
variable{W:World}{R:List ab}{s:iu}{n wp m c:Nat}{fr:List Int}{V V':Nat->Nat->List UInt8}{l:List cQ}{y:CJ}
theorem bq.Tr:bq W R none []:=⟨⟨rfl,λu e=>(by cases e),λ_=>rfl,λw f a d=>(by cases d)⟩,λp b=>(by cases b),λp b=>(by cases b)⟩
theorem iu.ok.Un(h:s.ok n wp fr V):({s with Y:={s.Y with sl:=false}}:iu).ok n wp fr V:=⟨⟨⟨h.Y.m,h.Y.c,h.Y.s⟩,h.w,⟨h.F.len,h.F.one,h.F.mu,h.F.par,h.F.wait,h.F.is,h.F.y0,h.F.y4⟩,h.nil,h.k,h.slot,h.live,h.base,h.ep,h.nx,h.mx,λp a=>⟨⟨(h.KU p a).1.m,(h.KU p a).1.r,(h.KU p a).1.n⟩,(h.KU p a).2⟩,h.stay,h.inr⟩,h.q⟩
theorem MZ{w:World}:∀{l:List cu},Sl.Holds W (cG cu.own l::R) w->∀q∈l,q.ao=none->q.aA.length=0:=λ{l} d q b=>by
 obtain⟨i,a,rfl⟩:=List.mem_iff_getElem.1 b;exact(j4 (res:=cu.own) a d).bn (.head _)
theorem fJ.rd(h:fJ m c l y)(f:∀q∈y.out,q.ao=none->q.aA.length=0)(b:∀e∈y.G,e.ok)(m1:cG cu.own y.out∈R)(m2:cP y.G∈R):∀q∈y.out,bq W R q.ao q.aA:=λq j=>by
 obtain⟨t,v,o,r⟩:=h.aA j;have d:∀p∈q.aA,p.d∈y.G:=λp a=>by
  obtain⟨i,u,rfl⟩:=List.mem_iff_getElem.1 a;obtain⟨_,_,_,g,_⟩:=(h.row v o r).2.1 i u;exact g
 exact⟨aV.cG m1 j λR k=>aV.own (xG _) k (mJ _) (f q j),λp a=>aV.cG m2 (d p a) λR k=>aU.gz (b _ (d p a)) k,λp a=>b _ (d p a)⟩
theorem fJ.RU(h:fJ m c l y)(a:l≠[]):0<y.out.length:=by
  obtain⟨p,b⟩:=List.exists_mem_of_ne_nil l a;cases e:iG m c l (cJ m c p.dV).row (cJ m c p.dV).av with
  |some d=>
    obtain⟨t,g,_⟩:=h.has e;obtain⟨q,f,_⟩:=h.MW g;exact List.length_pos_of_mem f
  |none=>
    unfold iG at e;rw[Option.map_eq_none_iff,lcm]at e;exact cN (e p (KQ.2 b)) (by simp)
def UA(s:iu)(n wp:Nat)(fr:List Int)(V V':Nat->Nat->List UInt8)(out:List cu)(M:Nat):Nat->iu->List aj->Option Addr×Nat->Prop
  |0,t,ps,_=>t=s/\ps=[]
  |1,t,ps,_=>(t.ok n wp fr V/\s.to t/\M<=t.v.size-t.v.used/\((t.Y.wo=none/\t.Y.wl=[])\/t.Y=s.Y)/\t.c<=s.c+1023)/\ps=[]
  |2,t,ps,_=>(t.ok n wp fr V/\s.to t/\M<=t.v.size-t.v.used/\((t.Y.wo=none/\t.Y.wl=[])\/t.Y=s.Y)/\t.c<=s.c+1023)/\iV t.Y V' out ps
  |3,t,ps,_=>(t.ok n wp fr V/\s.to t/\t.x.j9=some (ps.map aj.D)/\((t.Y.wo=none/\t.Y.wl=[])\/t.Y=s.Y)/\t.c<=s.c+1023)/\iV t.Y V' out ps
  |4,t,ps,_=>(t.ok n wp fr V/\s.to t/\t.x.j9=some (ps.map aj.D)/\t.Y.wl=[]/\t.c<=s.c+2046)/\iV t.Y V' out ps
  |5,t,ps,xp=>(t.ok n wp fr V'/\s.to t/\(t.Y.wo=xp.1/\t.Y.wl=ps)/\t.c<=s.c+2047)/\iV t.Y V' out ps
  |_,t,ps,xp=>t.ok n wp fr V'/\s.to t/\(s.Y.lazy=false->t.Y.wl=[]/\t.v.sure=true)/\((t.Y.wo=none/\t.Y.wl=[])\/(t.Y.wo=xp.1/\t.Y.wl=ps))/\t.c<=s.c+4000
theorem iV.re{Y a:eA}{out:List cu}{ps:List aj}(h:iV Y V' out ps)(e:a.m=Y.m/\a.c=Y.c/\a.s=Y.s):iV a V' out ps:=by
 obtain⟨b,m,c,s,w,z,x,F,E,wl,C⟩:=Y;obtain⟨b',A,v,B,D,k,j,u,q,t,o⟩:=a;obtain⟨f,g,i⟩:=e;dsimp only at f g i;subst f g i;exact⟨λp d=>⟨⟨(h.of p d).1.m,(h.of p d).1.r,(h.of p d).1.n⟩,(h.of p d).2⟩,h.n,h.all⟩
abbrev N8(y:CJ)(R:List ab):List ab:=Sl.Own 140 1 (.slice y.x.1 y.out.length y.x.2) y.out.length (y.out.map cu.ei)::cG cu.own y.out::cP y.G::R
abbrev CU(g:FuncId)(a:Nat):Value:= .func (.func g) #[ip a] #[]
abbrev uX(a:Nat):List Value:=[CU 167 a,CU 168 a,CU 169 a,CU 170 a,CU 171 a,CU 172 a]
theorem Kb{B:Nat->List UInt8}{ao:Option Addr}{cap:Nat}(r:Nat)(h:s.ok n wp fr (fy s.Y.m s.Y.c B))(bs:∀k row,k<s.Y.m->¬gB fr k row)(o:bq W R s.Y.wo s.Y.wl)(hl:l.length<=256)(bk:l≠[])(hp:iT W R ao l)(hb:∀p∈l,p.dV<s.Y.s*s.Y.c* (s.Y.m-1))(hB:∀b,b<s.Y.s*s.Y.c* (s.Y.m-1)->(B b).length=128)(J:2*dF s.Y.m s.Y.c l+1<=s.v.size)(hc:s.c<=900000):
  aq W Tryz.prog 106 [ip r,.slice ao l.length cap] (sF s r wp fr R) (β:=Qp) (S9 s n wp fr (fy s.Y.m s.Y.c (hU l B))) (λ_=>.agg cD.toArray) (λy=>sF y.t r wp fr (bL y.x y.ps::bX y.ps::R)):=by
 obtain⟨d,G⟩:∃d:iu,d={s with Y:={s.Y with sl:=false}}:=⟨_,rfl⟩;have H:=h.Un;rw[<-G]at H;have br:s.to d:=by rw[G];exact⟨rfl,rfl,λi kd e=>⟨kd,e,λ_=>rfl,λ_ h=>h⟩,eI _⟩
 have em:d.Y.m=s.Y.m/\d.Y.c=s.Y.c/\d.Y.s=s.Y.s/\d.Y.wo=s.Y.wo/\d.Y.wl=s.Y.wl/\d.v=s.v/\d.c=s.c/\d.Y.lazy=s.Y.lazy:=by rw[G];exact⟨rfl,rfl,rfl,rfl,rfl,rfl,rfl,rfl⟩
 obtain⟨g,j,C,Q,T,ag,an,au⟩:=em;refine ze Tryz.func106 Tryz.ntmps106 ?_;refine zq ?_;refine ay.aB bE rfl ?_;intro v;refine w ?_;refine VO.aR (H':=Row v 174 cD::sF d r wp fr R) (by rw[G];exact ae.re) ?_;refine VO.re 18 (.agg (cv d.Y.m d.Y.c d.Y.s).toArray) rfl (by rw[g,j,C];rfl) ?_;refine zr (s:=EI (R:=Row v 174 cD::sF d r wp fr R) H.Y.m H.Y.c H.Y.s hl (hp.aR (ae.drop (ae.drop (ae.drop (ae.drop (ae.drop ae.refl)))))) (by rw[g,j,C];exact hb)) (h:=?_);intro y hy;have K:=hy.RU bk;refine w ?_;refine VC.aK rfl rfl (by simp;intro e;rw[e]at K;simp at K) ?_;refine w ?_;refine VO.pure rfl rfl (af.build Sj rfl (show aC _ _ _=some (mX.cells ⟨r,ao,cap,l,y.x.1,y.x.2,y.out,none,0,[]⟩)by simp[aC,bR,Value.cells])) rfl ?_;refine w ?_;refine zj λ_=>?_;refine w ?_;rename_i f;refine VO.pure rfl rfl (af.cm rfl) rfl ?_;refine w ?_;refine VO.pure rfl rfl (af.cm rfl) rfl ?_;refine w ?_;refine VO.pure rfl rfl (af.cm rfl) rfl ?_;refine w ?_;refine VO.pure rfl rfl (af.cm rfl) rfl ?_;refine w ?_;refine VO.pure rfl rfl (af.cm rfl) rfl ?_;refine w ?_;refine VO.pure rfl rfl (af.cm rfl) rfl ?_;refine w ?_;refine zq ?_;refine ay.bP TI rfl rfl (by simp[Value.oneCell']) (by decide) rfl ?_;intro nb;refine w ?_;have Z:∀u∈uX f,u.oneCell'=true:=by simp[Value.oneCell']
 have hM:kz y.out=dF d.Y.m d.Y.c l:=hy.PH;rw[<-g,<-j,<-ag]at J;have bx:=H.live.size;refine VC.bH (λw o=>MZ ((ae.re:ae W _ [cG cu.own y.out]) w o)) ?_;intro ba;refine VC.bH (λw o=>cP.bH ((ae.re:ae W _ [cP y.G]) w o)) ?_;intro bb;refine VC.bH (λw o=>o.bn (e:=140) (sz:=1) (ao:=y.x.1) (k:=y.out.length) (cap:=y.x.2) (xs:=y.out.map cu.ei) zm) ?_;intro bd;have aa:∀u∈y.out.map cu.ei,u.oneCell'=true:=λu hu=>by obtain⟨z,_,rfl⟩:=fG.1 hu;rfl
 obtain⟨V',X⟩:∃V',V'=fy s.Y.m s.Y.c (hU l B):=⟨_,rfl⟩;obtain⟨V,hV⟩:∃V,V=fy s.Y.m s.Y.c B:=⟨_,rfl⟩;have U:∀Y:eA,Y.ok->(Y.m=d.Y.m/\Y.c=d.Y.c/\Y.s=d.Y.s)->Ol Y V V' y.out:=λY hY e=>by
  rw[hV,X,<-g,<-j];exact hy.CU hY e (by rw[g,j,C];exact hb) hp.n128 (by rw[g,j,C];exact hB)
 rw[<-X];rw[<-hV]at H;have M:kz y.out<=1023:=by omega
 refine VC.loop (α:=Nat×iu×List aj×(Option Addr×Nat)) (λz=>z.1<=6/\UA d n wp fr V V' y.out (2*kz y.out+1) z.1 z.2.1 z.2.2.1 z.2.2.2) (λz=>Row nb 177 (uX f)::Row v 174 cD::gU f ⟨r,ao,cap,l,y.x.1,y.x.2,y.out,z.2.2.2.1,z.2.2.2.2,z.2.2.1⟩ (sF z.2.1 r wp fr (N8 y R)))
  (λz=>[(4,ip v),(49,.slice (ik nb) 6 6),(50,ii 6),(51,ii z.1)]) (λz=>6-z.1) rfl (0,d,[],(none,0)) ⟨c7 _,rfl,rfl⟩ (ae.trans (ae.re (L:=Row nb 177 (uX f)::Row v 174 cD::Row f 259 (mX.cells ⟨r,ao,cap,l,y.x.1,y.x.2,y.out,none,0,[]⟩)::sF d r wp fr (N8 y R))) (λw o=>(ae.re:ae W (bL (none,0) []::bX []::Row nb 177 (uX f)::Row v 174 cD::Row f 259 (mX.cells ⟨r,ao,cap,l,y.x.1,y.x.2,y.out,none,0,[]⟩)::sF d r wp fr (N8 y R)) _) w ((di (res:=aj.res) o).aZ 208 3))) ⟨rfl,rfl,rfl,rfl,trivial⟩ ?_
 rintro⟨i,t,ps,xp⟩ ⟨hi,I⟩;dsimp only at hi I⊢;have hr1:aV W (Row nb 177 (uX f)::Row v 174 cD::gU f ⟨r,ao,cap,l,y.x.1,y.x.2,y.out,xp.1,xp.2,ps⟩ (sF t r wp fr (N8 y R))) 1 (ik nb) 6 (uX f):=aV.row Z (.head _) rfl;have ad:∀t:iu,((t.Y.wo=none/\t.Y.wl=[])\/t.Y=d.Y)->∀S,ae W S R->bq W S t.Y.wo t.Y.wl:=λt q S e=>by
  rcases q with⟨q1,q2⟩|q
  · rw[q1,q2];exact bq.Tr
  · rw[q,Q,T];exact o.aR e
 have bw:∀S,Sl.Own 140 1 (.slice y.x.1 y.out.length y.x.2) y.out.length (y.out.map cu.ei)∈S->aV W S 1 y.x.1 y.out.length (y.out.map cu.ei):=λS m=>aV.own aa m (by simp) bd;have bo:∀S,cG cu.own y.out∈S->cP y.G∈S->∀q∈y.out,bq W S q.ao q.aA:=λS m1 m2=>hy.rd ba bb m1 m2;rcases(show i=0\/i=1\/i=2\/i=3\/i=4\/i=5\/i=6 by omega)with rfl|rfl|rfl|rfl|rfl|rfl|rfl
 ·
  obtain⟨rfl,rfl⟩:=I;refine zw ?_;refine ay.gS rfl rfl (λ_ _=>by simp) (Lz (R:=N8 y (Row nb 177 (uX f)::Row v 174 cD::R)) f ⟨r,ao,cap,l,y.x.1,y.x.2,y.out,xp.1,xp.2,[]⟩ H zO (by rw[Q,T];exact o.aR (ae.drop (ae.drop (ae.drop (ae.drop (ae.drop ae.refl)))))) hl (hp.aR (ae.drop (ae.drop (ae.drop (ae.drop (ae.drop ae.refl)))))) (by rw[g,j,C];exact hb) J) ae.re rfl ?_;rintro t' ⟨a,a2,a3,a4,a5,x⟩;dsimp only at a3;have av:=H.mx;refine zw ?_;refine ay.aB bE rfl ?_;intro n10;refine zS cD ?_;refine VE.round (1,t',[],xp) ⟨by dsimp only;omega,⟨⟨a,a2,by rw[hM];exact a3,a5,by dsimp only;omega⟩,rfl⟩⟩ (by dsimp only;omega) ⟨rfl,rfl,rfl,b7 rfl rfl,trivial⟩ ae.re
 ·
  obtain⟨⟨a,a2,a3,a4,a5⟩,rfl⟩:=I;have b:=a2.m;refine zw ?_;refine ay.gS rfl rfl (λ_ _=>by simp) (LB (R:=bz wp t.Y.b t.v::N8 y (Row nb 177 (uX f)::Row v 174 cD::R)) f ⟨r,ao,cap,l,y.x.1,y.x.2,y.out,xp.1,xp.2,[]⟩ rfl t.Y a.Y fr a.F (by rw[b.2.1,g];exact bs) (ad t a4 _ (ae.drop (ae.drop (ae.drop (ae.drop (ae.drop (ae.drop ae.refl))))))) a.q (U t.Y a.Y ⟨b.2.1,b.2.2.1,b.2.2.2.1⟩) (bw _ zm) (bo _ zm zm) M) ae.re rfl ?_;rintro y2 ⟨E,F⟩;refine zw ?_;refine ay.aB bE rfl ?_;intro n10;refine zS cD ?_;refine VE.round (2,{t with D:=y2.D},y2.l,y2.x) ⟨by dsimp only;omega,⟨⟨⟨⟨a.Y,a.w,a.F,a.nil,a.k,a.slot,a.live,a.base,a.ep,a.nx,a.mx,a.KU,a.stay,a.inr⟩,E⟩,⟨a2.fix,a2.size,a2.z,a2.c⟩,a3,a4,a5⟩,F⟩⟩ (by dsimp only;omega) ⟨rfl,rfl,rfl,b7 rfl rfl,trivial⟩ ae.re
 ·
  obtain⟨⟨a,a2,a3,a4,a5⟩,x⟩:=I;have b:=a2.m;refine zw ?_;refine ay.gS rfl rfl (λ_ _=>by simp) (OI (R:=N8 y (Row nb 177 (uX f)::Row v 174 cD::R)) f ⟨r,ao,cap,l,y.x.1,y.x.2,y.out,xp.1,xp.2,ps⟩ a zO (λp hp=>(x.of p hp).1) (by dsimp only;rw[x.n];unfold kz;omega) (by dsimp only;rw[x.n];exact a3)) ae.re rfl ?_;rintro t' ⟨E,F,A,c4,P,N⟩;refine zw ?_;refine ay.aB bE rfl ?_;intro n10;refine zS cD ?_;refine VE.round (3,t',ps,xp) ⟨by dsimp only;omega,⟨⟨E,a2.trans F,by rw[P];rfl,by rw[A];exact a4,by rw[N];exact a5⟩,by rw[A];exact x⟩⟩ (by dsimp only;omega) ⟨rfl,rfl,rfl,b7 rfl rfl,trivial⟩ ae.re
 ·
  obtain⟨⟨a,a2,a3,a4,a5⟩,x⟩:=I;refine zw ?_;refine ay.gS rfl rfl (λ_ _=>by simp) (IC (R:=N8 y (Row nb 177 (uX f)::Row v 174 cD::R)) f ⟨r,ao,cap,l,y.x.1,y.x.2,y.out,xp.1,xp.2,ps⟩ a zO (ad t a4 _ (ae.drop (ae.drop (ae.drop (ae.drop (ae.drop ae.refl))))))) ae.re rfl ?_;rintro t' ⟨E,F,A,c4,P,N⟩;refine zw ?_;refine ay.aB bE rfl ?_;intro n10;refine zS cD ?_;refine VE.round (4,t',ps,xp) ⟨by dsimp only;omega,⟨⟨E,a2.trans F,by rw[P];exact a3,by rw[A],by have:=a.mx;dsimp only;rw[N];omega⟩,by rw[A];exact x.re ⟨rfl,rfl,rfl⟩⟩⟩ (by dsimp only;omega) ⟨rfl,rfl,rfl,b7 rfl rfl,trivial⟩ ae.re
 ·
  obtain⟨⟨a,a2,a3,a4,a5⟩,x⟩:=I;have b:=a2.m;refine zw ?_;refine ay.gS rfl rfl (λ_ _=>by simp) (LA (R:=N8 y (Row nb 177 (uX f)::Row v 174 cD::R)) f ⟨r,ao,cap,l,y.x.1,y.x.2,y.out,xp.1,xp.2,ps⟩ a zO a3 a4 (x.Uh (U t.Y a.Y ⟨b.2.1,b.2.2.1,b.2.2.2.1⟩)) (by dsimp only;rw[x.n];unfold kz;omega)) ae.re rfl ?_;rintro t' ⟨E,F,A,c4,P,N⟩;refine zw ?_;refine ay.aB bE rfl ?_;intro n10;refine zS cD ?_;refine VE.round (5,t',ps,xp) ⟨by dsimp only;omega,⟨⟨E,a2.trans F,by rw[A];exact⟨rfl,rfl⟩,by dsimp only;rw[N];omega⟩,by rw[A];exact x.re ⟨rfl,rfl,rfl⟩⟩⟩ (by dsimp only;omega) ⟨rfl,rfl,rfl,b7 rfl rfl,trivial⟩ ae.re
 ·
  obtain⟨⟨a,a2,⟨a3,O⟩,a5⟩,x⟩:=I;have b:=a2.m;refine VC.bH (λw o=>o.bn (e:=208) (sz:=3) (ao:=xp.1) (k:=ps.length) (cap:=xp.2) (xs:=bg ps) zm) ?_;intro bf;refine VC.bH (λw o=>bX.bH ((ae.re:ae W _ [bX ps]) w o)) ?_;intro bh;have bp:∀S,bL xp ps∈S->bX ps∈S->bq W S t.Y.wo t.Y.wl:=λS m1 m2=>by rw[a3,O];exact bq.own bf bh m1 m2
  refine zw ?_;refine ay.gS rfl rfl (λ_ _=>by simp) (OD (R:=N8 y (Row nb 177 (uX f)::Row v 174 cD::R)) f ⟨r,ao,cap,l,y.x.1,y.x.2,y.out,xp.1,xp.2,ps⟩ a zO (bp _ zm zm)) ae.re rfl ?_;rintro t' ⟨E,F,A,c4,P,N⟩;have bm:t.Y.lazy=d.Y.lazy:=b.2.2.2.2.2.1;refine zw ?_;refine ay.aB bE rfl ?_;intro n10;refine zS cD ?_;have av:=a.mx;refine VE.round (6,t',ps,xp) ⟨by dsimp only;omega,E,a2.trans F,by rw[<-bm];exact A,?_,by dsimp only;omega⟩ (by dsimp only;omega) ⟨rfl,rfl,rfl,b7 rfl rfl,trivial⟩ ae.re;cases hz:t.Y.lazy with
  |true=>rw[c4 hz];exact .inr ⟨a3,O⟩
  |false=>exact .inl ⟨(E.nil (A hz).1).1,(A hz).1⟩
 ·
  obtain⟨a,a2,a3,a4,a5⟩:=I;refine w ?_;apply VO.pure rfl rfl;apply af.build bE (pv:=[]) rfl;rfl;rfl;refine zS cD ?_;exact VE.results1 (.inl rfl) (⟨t,ps,xp⟩:Qp) rfl (aL.agg (vs:=cD) ah rfl rfl zm rfl rfl) ⟨a,br.trans a2,by rw[<-au];exact a3,a4,by rw[<-an];exact a5⟩ rfl ae.re
end
end Go.Proofs.YtonpidcjpenflaaGreat
namespace Go.Proofs.YtonpidcjpenflaaGreat
open Go.RowKit Go.Sl
attribute [local irreducible] Sl.Own
section
variable{W:World}{R:List ab}{s:iu}{n wp m c:Nat}{fr:List Int}{l:List cQ}
def Up(s:iu)(n wp:Nat)(fr:List Int)(B:Nat->List UInt8)(l:List cQ):Option Qp->Prop
  |none=>s.v.size<2*dF s.Y.m s.Y.c l+1\/l=[]
  |some y=>2*dF s.Y.m s.Y.c l+1<=s.v.size/\l≠[]/\S9 s n wp fr (fy s.Y.m s.Y.c (hU l B)) y
def Uz(s:iu)(r wp:Nat)(fr:List Int)(R:List ab):Option Qp->List ab
  |none=>sF s r wp fr R
  |some y=>sF y.t r wp fr (bL y.x y.ps::bX y.ps::R)
theorem IA{B:Nat->List UInt8}{ao:Option Addr}{cap:Nat}(a r:Nat)(X:aY)(O:X.ok)(x:X.ro=false)(H:X.r=ik r)(e:s.Y.m=X.m/\s.Y.c=X.c/\s.Y.s=X.s)(v:X.ring=s.v.size)(h:s.ok n wp fr (fy s.Y.m s.Y.c B))(A:∀k row,k<s.Y.m->¬gB fr k row)(J:bq W R s.Y.wo s.Y.wl)(u:l.length<=256)(E:iT W R ao l)(D:∀p∈l,p.dV<s.Y.s*s.Y.c* (s.Y.m-1))(F:∀b,b<s.Y.s*s.Y.c* (s.Y.m-1)->(B b).length=128)(t:s.c<=900000):
  aq W Tryz.prog 61 [ip a,.slice ao l.length cap] (Row a 102 X.cells::sF s r wp fr R) (β:=Option Qp) (Up s n wp fr B l) (λ_=>i6 (if s.v.size<2*dF s.Y.m s.Y.c l+1 then 122 else 0)) (λy=>Row a 102 X.cells::Uz s r wp fr R y):=by
 have I:=h.live.size;obtain⟨M,i⟩:∃M,dF s.Y.m s.Y.c l=M:=⟨_,rfl⟩;have j:=λS (q:ae W S R)=>HO (W:=W) (R:=S) (cap:=cap) h.Y.m h.Y.c h.Y.s u (E.aR q) D;rw[e.1,e.2.1,e.2.2]at j;refine aq.oL Tryz.func61 Tryz.ntmps61 rfl rfl ?_;refine wr ?_;refine zq ?_;refine ay.alloc (z:=(i6 0)) (λw=>by simp) rfl rfl ?_;intro ne;refine wr ?_;refine VR.iF rfl rfl rfl rfl ?_;refine wr ?_;refine zr (s:=jD a X) (h:=?_);intro _ _;refine wr ?_;refine VR.aK rfl rfl (x) ?_;refine wr ?_;refine zt (s:=j _ (ae.drop (ae.drop (ae.drop (ae.drop (ae.drop (ae.drop ae.refl))))))) (h:=?_);intro y C;rw[C.PH,<-e.1,<-e.2.1,i];have G:M<=70000:=by
  have:=C.outs;rw[<-i,e.1,e.2.1,<-C.PH];have L:=BU y.out this.2;have N:y.out.length*l.length<=256*256:=mo zO u;unfold kz;omega
 refine wr ?_;(refine VR.cond rfl rfl ?_ ?_<;>intro d)
 ·
  have f:s.v.size<2*M+1:=by have:=cI d;omega
  clear d;refine wr ?_;refine VF.aR (H':=Row ne 40 [i6 122]::Row a 102 X.cells::sF s r wp fr R) ae.re ?_;exact VF.kU (.inl rfl) (λ_ _=>by simp) gp none rfl (aL.leaf ah rfl rfl (.head _) rfl) (.inl (by rw[i];exact f)) (by rw[lam f]) (ae.drop ae.refl)
 have g:2*M+1<=s.v.size:=by have:=dx d;omega
 clear d;refine wr ?_;(refine VR.cond rfl rfl ?_ ?_<;>intro d)
 ·
  have o:l=[]:=QC.1 (by simpa using d);clear d;refine wr ?_;refine VF.aR (H':=Row ne 40 [i6 0]::Row a 102 X.cells::sF s r wp fr R) ae.re ?_;exact VF.kU (.inl rfl) (λ_ _=>by simp) gp none rfl (aL.leaf ah rfl rfl (.head _) rfl) (.inr o) (by rw[aE zO]) (ae.drop ae.refl)
 have o:l≠[]:=λe=>by rw[e]at d;simp at d
 clear d;refine wr ?_;refine VR.loop (α:=Unit) (λ_=>True) (λ_=>Row ne 40 [i6 0]::Row a 102 X.cells::sF s r wp fr R) (λ_=>[(0,ip a),(1,.slice ao l.length cap),(4,ip ne)]) (λ_=>0) rfl () trivial ae.re ⟨rfl,rfl,rfl,trivial⟩ ?_;intro _ _;refine wr ?_;refine VO.re 45 (ip r) rfl (by rw[H]) ?_;refine wr ?_;refine zr (s:=Kb (R:=Row ne 40 [i6 0]::Row a 102 X.cells::R) r h A (J.aR (ae.drop (ae.drop ae.refl))) u o (E.aR (ae.drop (ae.drop ae.refl))) D F (by rw[i];exact g) t) (h:=?_);intro z K;refine wr ?_;refine zq ?_;refine ay.aB bE rfl ?_;intro n6;refine wr ?_;refine zq ?_;refine ay.gL (vs:=cD) ah rfl rfl rfl rfl (by simp[Value.oneCell']) zh (by simp) ?_;refine wr ?_;refine VF.aR (H':=Row ne 40 [i6 0]::Row a 102 X.cells::sF z.t r wp fr (bL z.x z.ps::bX z.ps::R)) ae.re ?_;exact VF.kU (.inl rfl) (λ_ _=>by simp) gp (some z) rfl (aL.leaf ah rfl rfl (.head _) rfl) ⟨by rw[i];exact g,o,K⟩ (by rw[aE zO]) (ae.drop ae.refl)
end
end Go.Proofs.YtonpidcjpenflaaGreat
namespace Go.Proofs.YtonpidcjpenflaaGreat
open Go.RowKit Go.Sl
attribute [local irreducible] Sl.Own
section
variable{W:World}{R:List ab}
theorem Ex(r:Nat)(Y:eA):az W Tryz.prog 43 [.pointer (some ⟨r,0,none⟩)] (Row r 142 Y.cells::R) (ii Y.wl.length) (Row r 142 Y.cells::R):=by
 refine ze Tryz.func43 Tryz.ntmps43 ?_;exact VE.ax rfl rfl ae.refl
abbrev vU.z(X:aY):ai:={X.sup with role:=0}
abbrev vU.sup(X:aY)(x:Option Addr×Nat):ai:={X.sup with role:=0,so:=x.1,sc:=x.2}
abbrev lP(s:ai)(ro:Bool)(p u:Nat):List Value:=[i8 s.id,i8 s.events,i8 s.safe,ii s.role,ii s.members,ii s.chunk,ii s.bG,ii s.ring,.bool s.lazy,.bool s.lost,.slice s.so s.au.length s.sc,ii s.dc,.bool ro,.bool false,ii p,ii u]
theorem Fl(a r wp:Nat)(X:aY)(e:X.ro=false)(j:X.r=some ⟨r,0,none⟩)(g:X.w=some ⟨wp,0,none⟩)(k:X.st.length<=16)(Y:eA)(v:bT)(b:Nat):
  aq W Tryz.prog 23 [.pointer (some ⟨a,0,none⟩)] (Row a 102 X.cells::dz X::Row r 142 Y.cells::bz wp b v::R) (β:=Option Addr×Nat) (λ_=>True) (λx=>.agg (lP (vU.sup X x) false Y.wl.length v.used).toArray) (λx=>Sl.Own 104 1 (.slice x.1 X.st.length x.2) X.st.length (bytes X.st)::dz X::Row a 102 X.cells::Row r 142 Y.cells::bz wp b v::R):=by
 refine ze Tryz.func23 Tryz.ntmps23 ?_;refine zq ?_;refine ay.aB xZ rfl ?_;intro f;refine w ?_;refine VC.join (α:=Nat) (λ_=>True) (λc=>Row c 55 (lP X.sup false Y.wl.length 0)::Row f 55 (lP bO false 0 0)::Row a 102 X.cells::dz X::Row r 142 Y.cells::bz wp b v::R) (λc=>[(0,.pointer (some ⟨a,0,none⟩)),(2,.pointer (some ⟨f,0,none⟩)),(3,.pointer (some ⟨c,0,none⟩))]) ?_ ?_
 ·
  intro l i;refine VC.vw [17,19] 20 [0,1,2,3,4,5,6,7,8,9,10,11,12,13,14,15,16] [[17,18,19,20],[19,17,18,20]] _ rfl (by kernel_rfl) (by kernel_rfl) ae.refl ?_;refine w ?_;have d:=λS=>Ex (W:=W) (R:=S) r Y;rw[<-j]at d;refine VE.vf ?_ ?_
  ·
   refine zr (s:=d (Row f 55 (lP bO false 0 0)::Row a 102 X.cells::dz X::bz wp b v::R)) (h:=?_);intro _ _;refine w ?_;apply VD.take rfl rfl rfl;apply af.build xZ rfl;simp[aC,bR,Value.cells];rfl;rfl;refine zw ?_;refine ay.aB xZ rfl ?_;intro c;refine zw ?_;refine ay.gL (vs:=lP X.sup X.ro Y.wl.length 0) ah rfl rfl rfl rfl (by simp[Value.oneCell']) zh (by simp) ?_;rw[e];refine w ?_;exact i.to c trivial ⟨rfl,rfl,rfl,trivial⟩ ae.re
  ·
   refine zq ?_;refine ay.aB xZ rfl ?_;intro c;refine zr (s:=d (Row c 55 (lP bO false 0 0)::Row f 55 (lP bO false 0 0)::Row a 102 X.cells::dz X::bz wp b v::R)) (h:=?_);intro _ _;refine w ?_;apply VD.take rfl rfl rfl;apply af.build xZ rfl;simp[aC,bR,Value.cells];rfl;rfl;refine zw ?_;refine ay.gL (vs:=lP X.sup X.ro Y.wl.length 0) ah rfl rfl rfl rfl (by simp[Value.oneCell']) zh (by simp) ?_;rw[e];refine w ?_;exact i.to c trivial ⟨rfl,rfl,rfl,trivial⟩ ae.re
 intro c _;refine zr (s:=wu (R:=Row c 55 (lP (vU.z X) false Y.wl.length 0)::Row f 55 (lP bO false 0 0)::Row a 102 X.cells::dz X::Row r 142 Y.cells::bz wp b v::R) (dz.gz (X:=X) zm) zO) (h:=?_);intro x _;refine w ?_;refine VO.gT rfl rfl rfl (by rw[g];rfl) ?_;refine w ?_;refine VC.cU rfl rfl (by rw[e];rfl) ?_;refine w ?_;refine VO.re 48 (.pointer (some ⟨wp,0,none⟩)) rfl (by rw[g]) ?_;refine zr (s:=yq (R:=Row c 55 (lP (vU.sup X x) false Y.wl.length 0)::Row f 55 (lP bO false 0 0)::Sl.Own 104 1 (.slice x.1 X.st.length x.2) X.st.length (bytes X.st)::Row a 102 X.cells::dz X::Row r 142 Y.cells::R) wp b v) (h:=?_);intro _ _;refine zS (lP (vU.sup X x) false Y.wl.length v.used) ?_;exact VE.results1 (.inl rfl) x rfl (aL.agg (vs:=lP (vU.sup X x) false Y.wl.length v.used) ah rfl rfl zm rfl rfl) trivial rfl ae.re
end
end Go.Proofs.YtonpidcjpenflaaGreat
namespace Go.Proofs.YtonpidcjpenflaaGreat
open Go.RowKit Go.Sl
attribute [local irreducible] Sl.Own
theorem Jq{W:World}{R:List ab}(g:rE)(h:¬g.aX):az W Tryz.prog 25 [.agg g.cells.toArray] R (ii ((0:Nat):Int)) R:=by
 refine ze Tryz.func25 Tryz.ntmps25 ?_;refine zj λ_=>?_;refine zr (s:=Mi g) (h:=?_);intro _ _;rw[aE h];refine zw ?_;refine ay.aB rh rfl ?_;intro a;refine zS g.shape ?_;exact VE.ax rfl rfl (ae.drop (ae.drop ae.refl))
theorem Jp{W:World}{R:List ab}(g:rE)(h:g.aX):az W Tryz.prog 25 [.agg g.cells.toArray] R (ii (g.s*g.c)) R:=by
 obtain⟨m,c,s⟩:=g;have a:(3<=m/\m<=16)/\(1<=c/\c<=16)/\(1<=s/\s<=256):=h;obtain⟨m,rfl⟩:=w8 (show 0<=m by omega);obtain⟨c,rfl⟩:=w8 (show 0<=c by omega);obtain⟨s,rfl⟩:=w8 (show 0<=s by omega);have q:=gn (W:=W) (R:=R) (m:=m) (c:=c) (s:=s) zO zO zO;rw[Int.natCast_mul]at q;exact q
def Bb(b:cO):ab:=Sl.Own 104 1 (.slice b.s.so b.s.au.length b.s.sc) b.s.au.length (bytes b.s.au)
def Ao(n i:Nat)(s:ai):Int:=if i+1=n then 2+s.ring else 1+s.bG*s.chunk
def CS(n i:Nat)(kd:ak):Bool×ai:=if(jg (kd.look 0)).1=0/\Ao n i (jg (kd.look 0)).2<=(kd.last.length:Int)then(true,(jg (kd.look 0)).2)else(false,bO)
abbrev ai.bare(s:ai):ai:={s with so:=none,sc:=0}
structure Il(n i:Nat)(kd:ak)(b:cO):Prop where
  fit:b.s.fit
  nil:b.s.so=none->b.s.au.length=0
  has:b.has=(CS n i kd).1
  s:b.s.bare=(CS n i kd).2
abbrev eL:cO:=⟨false,bO⟩
theorem vH{n i:Nat}{kd:ak}(h:CS n i kd=(false,bO)):Il n i kd eL:=⟨by constructor<;>simp[bO],λ_=>rfl,by rw[h],by rw[h];rfl⟩
abbrev y5(x:Option Addr×Nat)(l:List cO):ab:=Sl.Own 266 13 (.slice x.1 l.length x.2) l.length (eJ l)
theorem yH(l:List cO)(b:cO):eJ (l++[b])=eJ l++b.cells:=by simp[eJ]
theorem mA{W:World}{T:List ab}{A:ab}{l:List cO}{b:cO}:ae W (Bb b::A::cG Bb l::T) (A::cG Bb (l++[b])::T):=λw c=>
 (du (res:=Bb) (a:=b) (c.perm ((List.Perm.swap _ _ _).cons _))).swap
theorem Gy(l:List UInt8):(jg l=(0,ai.parse l)/\(ai.parse l).yD)\/∃e,e≠0/\jg l=(e,dk):=by
 unfold jg;split
 · exact .inr ⟨_,by decide,rfl⟩
 ·
  split
  · exact .inr ⟨_,by decide,rfl⟩
  ·
   split
   · exact .inr ⟨_,by decide,rfl⟩
   ·
    split
    ·
     rename_i h;refine .inl ⟨rfl,?_⟩;rcases Decidable.em (ai.parse l).yD with g|g
     · exact g
     · rw[x5 g]at h;cases h
    · exact .inr ⟨_,by decide,rfl⟩
structure SX where
  l:List cO
  x:Option Addr×Nat
  D:aw
theorem Fo{W:World}{R:List ab}{D:aw}{K:Kd}{n c0:Nat}(b:Nat)(hq:Bq D n K c0)(hn:n<=17)(hK:∀i,i<n->∃kd,K i=some kd/\0<kd.last.length):
  aq W Tryz.prog 128 [ip b] (al b D::R) (β:=SX) (λy=>Bq y.D n K c0/\y.l.length=n/\∀i (h:i<y.l.length),∃kd,K i=some kd/\Il n i kd y.l[i]) (λy=>.tuple #[.slice y.x.1 y.l.length y.x.2,i6 0])
   (λy=>y5 y.x y.l::cG Bb y.l::al b y.D::R):=by
 (refine aq.enter Tryz.func128 Tryz.ntmps128 rfl rfl ?_);refine zr (s:=fK b D) (h:=?_);intro _ _;rw[hq.len];refine w ?_
 refine VC.loop (α:=Nat×SX) (λy=>y.1<=n/\Bq y.2.D n K c0/\y.2.l.length=y.1/\∀i (h:i<y.2.l.length),∃kd,K i=some kd/\Il n i kd y.2.l[i]) (λy=>y5 y.2.x y.2.l::cG Bb y.2.l::al b y.2.D::R)
  (λy=>[(0,ip b),(4,.slice y.2.x.1 y.2.l.length y.2.x.2),(13,ii n),(14,ii y.1)]) (λy=>n-y.1) rfl (0,⟨[],(none,0),D⟩) ⟨c7 _,hq,rfl,λi h=>cN h (Nat.not_lt_zero _)⟩
  (λw B=>by have h2:=(di (res:=Bb) B).aZ 266 13;exact h2) ⟨rfl,rfl,rfl,rfl,trivial⟩ ?_
 rintro⟨i,l,x,D'⟩ ⟨hi,S,hl,C⟩;dsimp only at hi S hl C⊢;refine w ?_;refine zk ?_ ?_<;>intro A
 ·
  have aa:i<n:=by have:=cI A;omega
  clear A;refine w ?_;apply VO.pure rfl rfl;apply af.build xX (pv:=[]) rfl;rfl;rfl;refine zq ?_;refine ay.aB xX rfl ?_;intro n6;refine zl eL.cells (iW _) ?_;obtain⟨kd,G,Z⟩:=hK i aa;obtain⟨D2,ad,r⟩:=S.read (a:=0) G Z;have O:((D2.dev i).elim (0:Int) λv=>(v.k.last.length:Int))=kd.last.length:=by rw[EG (r.is i kd G).1];rfl
  have V:=ak.r5 (r.is i kd G).2.2 Z;have z:=λR=>nk (W:=W) (R:=R) b D' (i:Int) 0;rw[show((0:Nat):Int)=0 from rfl]at ad;rw[ad]at z;obtain⟨o,P⟩:∃o,o=kd.look 0:=⟨_,rfl⟩;rw[<-P]at z V;refine zr (s:=z _) (h:=?_);intro y hy;refine VO.bH (λw B=>B.jd (.head _)) ?_;intro X;refine w ?_;have k:∀(x:cO)(D2:aw),Il n i kd x->Bq D2 n K c0->i+1<=n/\Bq D2 n K c0/\(l++[x]).length=i+1/\∀j (h:j<(l++[x]).length),∃kd,K j=some kd/\Il n j kd (l++[x])[j]:=λx D2 hx hD=>⟨aa,hD,by rw[c9,ie,hl],λj Y=>by
   rw[c9,ie]at Y;rcases Aj j l.length with q|q
   · rw[TV q];exact C j q
   ·
    obtain rfl:j=l.length:=by omega
    rw[List.getElem_concat_length rfl,hl];exact⟨kd,G,hx⟩⟩
  have T:∀(x:cO)(p:Option Addr×Nat),Sl.Own 266 13 (.slice p.1 (l.length+1) p.2) (l.length+1) (eJ l++x.cells)=y5 p (l++[x]):=λx p=>by
   unfold y5;rw[yH,c9];rfl
  have bf:Bb eL=Sl.Own 104 1 (.slice none 0 0) 0 []:=rfl;have av:∀H:List ab,b8 y o∈H->aV W H 1 y.1 o.length (bytes o):=λH m=>aV.own (aQ _) m (by simp) hy;have d:(jg o).1=0->Ao n i (jg o).2<=(kd.last.length:Int)->CS n i kd=(true,(jg o).2):=λh1 h2=>by rw[P]at h1 h2⊢;exact lam ⟨h1,h2⟩
  have c:¬((jg o).1=0/\Ao n i (jg o).2<=(kd.last.length:Int))->CS n i kd=(false,bO):=λh=>by rw[P]at h;exact aE h
  refine zt (s:=Gz (av _ zm) X) (h:=?_);intro st _;refine VO.bH (λw B=>(⟨B.bn (.head _),B.jd (.head _)⟩:(st.1=none->(jg o).2.au.length=0)/\(jg o).2.au.length<=st.2)) ?_;rintro⟨M,J⟩;rcases Gy o with⟨hd,Q⟩|⟨e,he,hd⟩
  ·
   dsimp only[sn];rw[hd]at M J d c⊢;dsimp only at M J d c⊢;replace d:=d rfl;replace c:¬Ao n i (ai.parse o)<=(kd.last.length:Int)->CS n i kd=(false,bO):=λh=>c λq=>h q.2;obtain⟨sup,t⟩:∃x,x=(ai.parse o).hold st (ai.parse o).au:=⟨_,rfl⟩;have ag:=cI Q.1.1;have ba:=Q.1.2.2.2.1;have F:=Au o st J;have U:sup.members=(ai.parse o).members/\sup.chunk=(ai.parse o).chunk/\sup.bG=(ai.parse o).bG/\sup.ring=(ai.parse o).ring:=by rw[t];exact⟨rfl,rfl,rfl,rfl⟩
   have e2:ug st (ai.parse o).au=Bb ⟨true,sup⟩:=by rw[t];rfl
   rw[<-t]at F⊢;rw[e2];rw[<-U.1,<-U.2.1,<-U.2.2.1]at ag;rw[<-U.2.2.2]at ba;have N:sup.so=none->sup.au.length=0:=by rw[t];exact M
   have E:sup.bare=ai.parse o:=by rw[t];rfl
   rw[<-E]at d c;have I:Ao n i sup.bare=if i+1=n then 2+sup.ring else 1+sup.bG*sup.chunk:=rfl;rw[I]at d c;clear E U e2 t hd Q M J;have bb:0<=sup.bG*sup.chunk:=Int.mul_nonneg zO zO;have bd:sup.bG*sup.chunk<=256*16:=Int.mul_le_mul zO zO zO zO;refine zw ?_;refine ay.aB jy rfl ?_;intro n9;refine zl sup.cells (cB _) ?_;refine zt (s:=Jp ⟨sup.members,sup.chunk,sup.bG⟩ ag) (h:=?_);intro _ _;dsimp only;refine zr (s:=fK b D2) (h:=?_);intro _ _;rw[r.len];refine w ?_;by_cases Y:i+1=n
   ·
    rw[lam Y]at d c;refine VC.cU rfl rfl (by rw[beq_iff_eq];omega) ?_;refine zr (s:=jS b D2 i) (h:=?_);intro _ _;rw[O];refine w ?_;refine zk ?_ ?_<;>intro A
    ·
     have u:=cI A;clear A;replace d:=d zO;refine w ?_;apply VO.pure rfl rfl;apply af.build xX rfl;simp[aC,bR,Value.cells];rfl;rfl;refine zl (cO.cells ⟨true,sup⟩) (iW _) ?_;refine VO.re 58 (.agg (cO.cells ⟨true,sup⟩).toArray) rfl rfl ?_;refine zq ?_;refine ay.buildSlice (cs:=cO.cells ⟨true,sup⟩) km rfl rfl (by simp[Value.cells]) (lj _) (by decide) rfl ?_;intro nc;refine zq ?_;refine ay.cg km rfl rfl zh zm rfl (iW _) (by simp only[maxLen];omega) zO rfl ?_;intro g f;refine w ?_;refine VE.round (i+1,⟨l++[⟨true,sup⟩],(g,f),D2⟩) (k ⟨true,sup⟩ D2 (⟨F,N,by rw[d],by rw[d]⟩) r) (by dsimp only;omega) ⟨rfl,b7 rfl (by simp),rfl,b7 rfl (by congr 1),trivial⟩ ?_;refine ae.trans (ae.re (L:=Bb ⟨true,sup⟩::Sl.Own 266 13 (.slice g (l.length+1) f) (l.length+1) (eJ l++cO.cells ⟨true,sup⟩)::cG Bb l::al b D2::R)) ?_;rw[T ⟨true,sup⟩ (g,f)];exact mA
    ·
     have u:=dx A;clear A;replace c:=c zO;refine w ?_;refine VO.re 58 (.agg (cO.cells eL).toArray) rfl rfl ?_;refine zq ?_;refine ay.buildSlice (cs:=cO.cells eL) km rfl rfl (by simp[Value.cells]) (lj _) (by decide) rfl ?_;intro nc;refine zq ?_;refine ay.cg km rfl rfl zh zm rfl (iW _) (by simp only[maxLen];omega) zO rfl ?_;intro g f;refine w ?_;refine VE.round (i+1,⟨l++[eL],(g,f),D2⟩) (k eL D2 (vH c) r) (by dsimp only;omega) ⟨rfl,b7 rfl (by simp),rfl,b7 rfl (by congr 1),trivial⟩ ?_;refine ae.trans (ae.re (L:=Sl.Own 266 13 (.slice g (l.length+1) f) (l.length+1) (eJ l++eL.cells)::cG Bb l::al b D2::R)) ?_;rw[T eL (g,f)];exact λw B=>mA (b:=eL) w (B.aZ 104 1)
   ·
    rw[aE Y]at d c;refine VC.aK rfl rfl (by rw[beq_eq_false_iff_ne];omega) ?_;refine zr (s:=jS b D2 i) (h:=?_);intro _ _;rw[O];refine w ?_;refine zk ?_ ?_<;>intro A
    ·
     have u:=cI A;clear A;replace d:=d zO;refine w ?_;apply VO.pure rfl rfl;apply af.build xX rfl;simp[aC,bR,Value.cells];rfl;rfl;refine zl (cO.cells ⟨true,sup⟩) (iW _) ?_;refine VO.re 58 (.agg (cO.cells ⟨true,sup⟩).toArray) rfl rfl ?_;refine zq ?_;refine ay.buildSlice (cs:=cO.cells ⟨true,sup⟩) km rfl rfl (by simp[Value.cells]) (lj _) (by decide) rfl ?_;intro nc;refine zq ?_;refine ay.cg km rfl rfl zh zm rfl (iW _) (by simp only[maxLen];omega) zO rfl ?_;intro g f;refine w ?_;refine VE.round (i+1,⟨l++[⟨true,sup⟩],(g,f),D2⟩) (k ⟨true,sup⟩ D2 (⟨F,N,by rw[d],by rw[d]⟩) r) (by dsimp only;omega) ⟨rfl,b7 rfl (by simp),rfl,b7 rfl (by congr 1),trivial⟩ ?_;refine ae.trans (ae.re (L:=Bb ⟨true,sup⟩::Sl.Own 266 13 (.slice g (l.length+1) f) (l.length+1) (eJ l++cO.cells ⟨true,sup⟩)::cG Bb l::al b D2::R)) ?_;rw[T ⟨true,sup⟩ (g,f)];exact mA
    ·
     have u:=dx A;clear A;replace c:=c zO;refine w ?_;refine VO.re 58 (.agg (cO.cells eL).toArray) rfl rfl ?_;refine zq ?_;refine ay.buildSlice (cs:=cO.cells eL) km rfl rfl (by simp[Value.cells]) (lj _) (by decide) rfl ?_;intro nc;refine zq ?_;refine ay.cg km rfl rfl zh zm rfl (iW _) (by simp only[maxLen];omega) zO rfl ?_;intro g f;refine w ?_;refine VE.round (i+1,⟨l++[eL],(g,f),D2⟩) (k eL D2 (vH c) r) (by dsimp only;omega) ⟨rfl,b7 rfl (by simp),rfl,b7 rfl (by congr 1),trivial⟩ ?_;refine ae.trans (ae.re (L:=Sl.Own 266 13 (.slice g (l.length+1) f) (l.length+1) (eJ l++eL.cells)::cG Bb l::al b D2::R)) ?_;rw[T eL (g,f)];exact λw B=>mA (b:=eL) w (B.aZ 104 1)
  ·
   dsimp only[sn];rw[hd]at c⊢;replace c:=c λh=>he h.1;dsimp only;refine zw ?_;refine ay.aB jy rfl ?_;intro n9;refine zl ((dk.hold st dk.au).cells) (cB _) ?_;refine zt (s:=Jq ⟨0,0,0⟩ (by decide)) (h:=?_);intro _ _;refine zr (s:=fK b D2) (h:=?_);intro _ _;rw[r.len];refine w ?_;by_cases Y:i+1=n
   ·
    refine VC.cU rfl rfl (by rw[beq_iff_eq];omega) ?_;refine w ?_;refine VO.gF rfl rfl rfl (beq_eq_false_iff_ne.2 he) ?_;refine w ?_;refine VO.re 58 (.agg (cO.cells eL).toArray) rfl rfl ?_;refine zq ?_;refine ay.buildSlice (cs:=cO.cells eL) km rfl rfl (by simp[Value.cells]) (lj _) (by decide) rfl ?_;intro nc;refine zq ?_;refine ay.cg km rfl rfl zh zm rfl (iW _) (by simp only[maxLen];omega) zO rfl ?_;intro g f;refine w ?_;refine VE.round (i+1,⟨l++[eL],(g,f),D2⟩) (k eL D2 (vH c) r) (by dsimp only;omega) ⟨rfl,b7 rfl (by simp),rfl,b7 rfl (by congr 1),trivial⟩ ?_;refine ae.trans (ae.re (L:=Sl.Own 266 13 (.slice g (l.length+1) f) (l.length+1) (eJ l++eL.cells)::cG Bb l::al b D2::R)) ?_;rw[T eL (g,f)];exact λw B=>mA (b:=eL) w (B.aZ 104 1)
   ·
    refine VC.aK rfl rfl (by rw[beq_eq_false_iff_ne];omega) ?_;refine w ?_;refine VO.gF rfl rfl rfl (beq_eq_false_iff_ne.2 he) ?_;refine w ?_;refine VO.re 58 (.agg (cO.cells eL).toArray) rfl rfl ?_;refine zq ?_;refine ay.buildSlice (cs:=cO.cells eL) km rfl rfl (by simp[Value.cells]) (lj _) (by decide) rfl ?_;intro nc;refine zq ?_;refine ay.cg km rfl rfl zh zm rfl (iW _) (by simp only[maxLen];omega) zO rfl ?_;intro g f;refine w ?_;refine VE.round (i+1,⟨l++[eL],(g,f),D2⟩) (k eL D2 (vH c) r) (by dsimp only;omega) ⟨rfl,b7 rfl (by simp),rfl,b7 rfl (by congr 1),trivial⟩ ?_;refine ae.trans (ae.re (L:=Sl.Own 266 13 (.slice g (l.length+1) f) (l.length+1) (eJ l++eL.cells)::cG Bb l::al b D2::R)) ?_;rw[T eL (g,f)];exact λw B=>mA (b:=eL) w (B.aZ 104 1)
 have an:i=n:=by have:=dx A;omega
 clear A;refine w ?_;exact VE.done ⟨l,x,D'⟩ rfl ⟨S,hl.trans an,C⟩ rfl ae.refl
structure Ql(l:List cO)(S:ai):Prop where
  len:4<=l.length/\l.length<=17
  mem:S.members=(l.length:Int)-1
  all:∀i (h:i<l.length),l[i].has=true/\l[i].s.bare={S with role:=(i:Int),so:=none,sc:=0}
  ok:∀i:Nat,i<l.length->ai.yD {S with role:=(i:Int)}
  one:∀i j (h:i<S.au.length)(h':j<S.au.length),S.au[i]≠1->S.au[j]≠1->i=j
theorem Hb{l:List cO}{safe:Nat}{st:List UInt8}:∀{n:Nat},(∀i j,i<n->j<n->za l safe st i->za l safe st j->i=j)->kr l safe st n<=1/\((∀i,i<n->¬za l safe st i)->kr l safe st n=0)
  |0,_=>⟨c7 _,λ_=>rfl⟩
  |n+1,h=>by
    obtain⟨d,b⟩:=Hb (n:=n) λi j c f=>h i j zO zO;unfold kr;by_cases a:za l safe st n
    · have e:=b λi c q=>by have:=h i n zO zO q a;omega
      rw[e,lam (show(kk st n != 1||!ql l safe st n)=true from a)]
      exact⟨eI _,λq=>cN a (q n zO)⟩
    · rw[aE (show ¬(kk st n != 1||!ql l safe st n)=true from a)]
      exact⟨d,λq=>b λi c=>q i zO⟩
theorem N5{l:List cO}{S:ai}(h:Ql l S):∃v,fP l=(0,v)/\v.s.bare={S with role:=0,lost:=false,so:=none,sc:=0}/\v.st=S.au/\v.cur=S.dc/\v.jr=true:=by
  have K:=h.len;have P:∀{s:ai}{i:Nat},s.bare={S with role:=(i:Int),so:=none,sc:=0}->s={S with role:=(i:Int),so:=s.so,sc:=s.sc}:=λ{s i} e=>by
    obtain⟨⟩:=s;simp only[ai.mk.injEq]at e⊢;simp[e]
  have D:∀i (q:i<l.length),l[i].s={S with role:=(i:Int),so:=l[i].s.so,sc:=l[i].s.sc}:=λi q=>P (h.all i q).2;have t:∀i,i<l.length->cZ l i=true:=λi q=>by
    rw[wB l i q];refine⟨(h.all i q).1,?_,?_,?_⟩
    · rw[D i q];exact h.ok i q
    · rw[D i q];exact h.mem
    · rw[D i q]
  have g:∀i (q:i<l.length),iL l i={S with role:=(i:Int),so:=l[i].s.so,sc:=l[i].s.sc}:=λi q=>by rw[iM l i q];exact D i q
  have u:∀i,i<l.length->Oa l i=S.events:=λi q=>by unfold Oa;rw[fL q];dsimp only;rw[D i q]
  have L:∀s∈bY l l.length,∃i q,s=iL l i/\(q:i<l.length)=q:=λs I=>by
    obtain⟨j,a,b,c⟩:=mR l _ s I;exact⟨j,a,c.symm,rfl⟩
  have N:=AJ l l.length 0 zO (t 0 zO);have A:bY l l.length≠[]:=List.ne_nil_of_mem N;obtain⟨x,r,M⟩:=List.exists_cons_of_ne_nil A;obtain⟨j,z,ex,-⟩:=L x (by rw[M];exact .head _);have G:(bY l l.length).any (λs=>!s.rG ((bY l l.length).headD bO))=false:=by
    rw[List.any_eq_false];intro s I;obtain⟨i,y,es,-⟩:=L s I;rw[M,List.headD_cons,es,ex,g i y,g j z];simp[ai.rG]
  have Q:cx l=(0,iL l (l.length-1)):=lam (t _ zO);have E:∀i,i<=l.length->0<i->topN l i=S.events:=λi=>by
    induction i with
    |zero=>intro _ h;omega
    |succ k J=>
      intro R _;unfold topN;rw[lam (t k zO),u k zO];cases k with
      |zero=>unfold topN;omega
      |succ k=>rw[J zO zO];omega
  have C:=h.ok 0 zO;have H:=cI C.1.2.1;have T:S.au.length+1=l.length:=by have:=C.1.2.2.2.2;have:=h.mem;dsimp only at*;omega
  have n:∀m (q:m<S.au.length),kk S.au m=S.au[m]:=λm q=>by unfold kk;rw[List.getD_eq_getElem?_getD,fL q];rfl
  have d:∀m (q:m<S.au.length),S.au[m]≠2->ql l S.safe S.au m=true:=λm q p=>by
    unfold ql;rw[n m q,t m zO,u m zO,ky (by dsimp only at H;omega)];simp[p]
  have f:∀m,m<S.au.length->mF l S.safe S.au m=false:=λm q=>by
    unfold mF;rw[n m q];by_cases p:S.au[m]=2
    · simp[p]
    · rw[d m q p];simp
  have O:kr l S.safe S.au S.au.length<=1:=(Hb λi j y z a b=>by
    refine h.one i j y z (λq=>?_) (λq=>?_)
    · unfold za at a;rw[n i y,q,d i y (by rw[q];decide)]at a;simp at a
    · unfold za at b;rw[n j z,q,d j z (by rw[q];decide)]at b;simp at b).1
  have B:iH l S.safe S.au S.au.length=S.au:=by
    apply BF (by simp);intro m U p;simp[iH,f m p]
  have o:∀m,m<=S.au.length->qF l S.safe S.au m=false:=λm=>by
    induction m with
    |zero=>intro _;rfl
    |succ k J=>intro R;unfold qF;rw[J zO,f k zO];rfl
  have F:=g (l.length-1) zO;refine⟨rS l (iL l (l.length-1)),?_,?_,?_,?_,?_⟩
  · unfold fP
    rw[aE zO,aE A,aE (by rw[G];simp),Q,aE (by simp),aE]
    rw[F];dsimp only;omega
  · unfold rS
    rw[F,t (l.length-1) zO,E l.length (eI _) zO]
    simp
  · unfold rS;rw[F];exact B
  · unfold rS;rw[F];dsimp only;rw[o _ (eI _)];rfl
  · exact t _ zO
theorem xW:∀{ps:List aj}(_:(ps.map aj.place).Nodup){p q:aj},p∈ps->q∈ps->p.place=q.place->p=q
  |[],_,p,q,b,_,_=>by cases b
  |a::r,h,p,q,b,c,e=>by
    rw[pS,List.nodup_cons]at h;cases b with
    |head=>cases c with
      |head=>rfl
      |tail _ c=>exact cN (e▸List.mem_map_of_mem c) h.1
    |tail _ b=>cases c with
      |head=>exact cN (e▸List.mem_map_of_mem b) h.1
      |tail _ c=>exact xW h.2 b c e
instance (r:Int)(K:List Pl)(k:Pl):Decidable (AZ r K k):=decidable_of_iff (k∈K/\base r K<=k.2/\∀x∈K,base r K<=x.2->¬mK x k) ⟨λh=>⟨h.1,h.2.1,h.2.2⟩,λh=>⟨h.mem,h.low,h.least⟩⟩
end Go.Proofs.YtonpidcjpenflaaGreat
namespace Go.Proofs.YtonpidcjpenflaaGreat
open Go.RowKit Go.Sl
theorem ur{s:List aj}{k:Pl}(h:k∉s.map aj.place):s.filter (λx=>decide (x.place≠k))=s:=List.filter_eq_self.2 λx a=>by
 simp only[decide_eq_true_eq];intro e;exact h (e▸List.mem_map_of_mem a)
theorem Kt{ps:List aj}{p:aj}(c:(ps.map aj.place).Nodup)(d:p∈ps):List.Perm ps (p::ps.filter λx=>x.place≠p.place):=by
 obtain⟨s,t,rfl⟩:=List.append_of_mem d;have b:(p.place::((s++t).map aj.place)).Nodup:=by
  have:=((qY (a:=p) (l₁:=s) (l₂:=t)).map aj.place).nodup c;rwa [pS]at this
 rw[List.nodup_cons,jv,l0]at b;rw[Oe,List.filter_cons_of_neg (by simp),ur (λh=>b.1 (.inl h)),ur (λh=>b.1 (.inr h))];exact qY
theorem Take.perm{r:Int}{ps l a:List aj}{c:Int}(e:(ps.map aj.place).Nodup)(h:Take r ps l c a):List.Perm (l++a) ps:=by
  induction h with
  |nil=>exact .refl _
  |@snoc l c a p h f g b=>
    have d:(a.map aj.place).Nodup:=by
      have:=(b.symm.map aj.place).nodup e;rw[jv]at this;exact(List.nodup_append.1 this).2.1
    rw[lx];exact((Kt d f).symm.append_left l).trans b
end Go.Proofs.YtonpidcjpenflaaGreat
namespace Go.Proofs.YtonpidcjpenflaaGreat
open Go.RowKit Go.Sl
attribute [local irreducible] Sl.Own
abbrev TJ(P:aY):ai:={P.sup with role:=0,so:=none,sc:=0,lost:=false}
abbrev Q4(P:aY)(b:Nat)(so:Addr)(sc:Nat)(r w:Option Addr):aY:={P with b:=b,role:=0,lost:=false,so:=so,sc:=sc,r:=r,w:=w,ro:=false,xn:=true,Ik:=true}
structure QQ(P:aY)(n c0:Nat)(K:Kd)(kj:ak)(e base tl:Nat)(ls:List (List bK))(V:Nat->Nat->List UInt8):Prop where
  ok:P.ok
  nm:n=P.m+1
  ring:5<=P.ring/\P.ring<=2048
  ag:∀l:List cO,l.length=n->(∀i (h:i<l.length),∃kd,K i=some kd/\Il n i kd l[i])->Ql l (TJ P)
  bh:∀i,i<n->∃kd,K i=some kd/\0<kd.last.length
  mem:∀i,i<P.m->∃kd,K i=some kd/\1+P.s*P.c<=kd.last.length
  k:K P.m=some kj
  cache:kj.cache=[]
  rep:qt P.ring e base tl ls kj.last
  Qs:1<=base
  lO:e<=c0/\base+ls.length<=c0
  ev:P.ev<4611686018427387904
  inr:∀p∈ls.flatten,(0<=p.av/\p.av<P.m)/\(0<=p.row/\p.row<((P.s*P.c:Nat):Int))/\p.data.length=128
  mx:ls.length<=2048/\ls.flatten.length<=1023
  stay:vV K (bU P) P.m (P.s*P.c) ls V
  mu:∀k row,k<P.m->row<P.s*P.c->(V k row).length=128
  par:∀row,row<P.s*P.c->ia (λk=>V k row) P.m=dC
  one:∀i j (h:i<P.st.length)(h':j<P.st.length),P.st[i]≠1->P.st[j]≠1->i=j
  xn:∀b so sc r w,P.st.length<=sc->iS (Q4 P b so sc r w) K n
def S8(b:Nat)(D:aw)(v:bT):Option Nat->ab
  |none=>al b D
  |some w=>Sl.star [bz w b v,al b D]
abbrev jt(a:List bF):List aj:=a.flatMap (·.aA)
structure CH where
  a:Nat
  r:Nat
  w:Nat
  so:Addr
  sc:Nat
  t:iu
abbrev CH.X(P:aY)(b:Nat)(z:CH):aY:={Q4 P b z.so z.sc (ik z.r) (ik z.w)with ev:=P.ev+1,sf:=P.ev+1,Ik:=false}
structure KV(P:aY)(b n:Nat)(K:Kd)(V:Nat->Nat->List UInt8)(c0:Nat)(z:CH):Prop where
  ok:z.t.ok n z.w (bU P) V
  cap:P.st.length<=z.sc
  Y:z.t.Y.fix=⟨b,P.m,P.c,P.s,ik z.w,P.lazy,z.t.Y.fa,none,0,[],false⟩
  wl:z.t.Y.wl=[]
  sure:z.t.v.sure=true
  size:z.t.v.size=P.ring
  cy:z.t.x.cy=[]
  c:z.t.c<=c0+3000
  len:∀i kd,i≠P.m->K i=some kd->∃kd',z.t.K i=some kd'/\kd'.last.length=kd.last.length
  sr:∀i:Nat,i<=P.m->(i=P.m\/P.st.getD i 2≠2)->∃kd,z.t.K i=some kd/\Sr kd 0 (aY.bytesOf {z.X P b with sf:=P.sf} i)
theorem Jb{a:List bF}{ls:List (List bK)}(h:(jt a).map aj.D=ls.flatten)(k row:Nat):ob ls k row=cq (jt a).reverse k row:=by
 unfold ob cq;rw[<-h,<-List.map_reverse,List.find?_map,Tm];rfl
theorem Ar:∀{ls:List (List bK)}{s:Nat}{b:List bF},b.map bF.T=se s ls->(jt b).map aj.D=ls.flatten
  |[],s,b,h=>by
    have:b=[]:=by cases b with|nil=>rfl|cons a r=>cases h
    subst this;rfl
  |l::r,s,[],h=>by cases h
  |l::r,s,t::b,h=>by
    injection h with c d;have e:t.aA.map aj.D=l:=lcs Prod.snd c;show(t.aA++jt b).map aj.D=l++r.flatten;rw[jv,e,Ar d]
theorem Kr{k:ak}(b:List UInt8)(a:k.cache=[]):(kY b 2 k).last=k.last.set 0 b/\(kY b 2 k).cache=[]/\(kY b 2 k).failed=k.failed:=by
 show((k.write 0 b).settle λ_=>true).last=_/\((k.write 0 b).settle λ_=>true).cache=_/\((k.write 0 b).settle λ_=>true).failed=_;rw[fM];refine⟨?_,rfl,rfl⟩;show full k.last (k.cache++[(0,b)])=_;rw[a];rfl
theorem qt.TF{n e base c:Nat}{ls:List (List bK)}{L:qk}{b:List UInt8}(h:qt n e base c ls L)(d:b.length=128):qt n e base c ls (L.set 0 b):=by
 have a:sf (L.set 0 b)=sf L:=funext λi=>by unfold sf;rw[HD zO]
 exact⟨lB h.all d,h.bnd,by rw[vD];exact h.len,by rw[HD zO];exact h.TS,h.lO,h.SF,by rw[a];exact h.uZ,by rw[a];exact h.Ts⟩
theorem DO{v:bT}{k:ak}{base:Nat}{x:fY}{b:List UInt8}(h:dt v k base x)(f:v.sure=true)(m:b.length=128):dt v (kY b 2 k) base x:=by
 obtain⟨p,n⟩:=h.sure f;obtain⟨c,a,j⟩:=Kr b n;have e:=(h.rep f).TF m;have d:sf (k.last.set 0 b)=sf k.last:=funext λi=>by unfold sf;rw[HD zO]
 refine⟨h.MM,by rw[j];exact h.live,h.used,h.next,KX.nil a (.inr (by rw[c];exact e)),by rw[c,a];exact e,h.Uv,λ_=>⟨p,a⟩,by rw[a];exact c7 _,h.MN,λl o=>?_⟩;obtain⟨g,a2,a3,a4,a5⟩:=h.RG l o;exact⟨g,a2,a3,a4,by rw[c,d];exact a5⟩
theorem Sr.kY{k:ak}{b x:List UInt8}{a:Nat}(h:Sr k (a+1) x):Sr (kY b 2 k) (a+1) x:=(h.write λe=>cN e zO).settle _
theorem Sr.SA{k:ak}(b:List UInt8)(h:0<k.last.length):Sr (Go.Proofs.YtonpidcjpenflaaGreat.kY b 2 k) 0 b:=by
 have:=Sr.vB (k:=k.write 0 b) (a:=0) h;rwa [lM,lam rfl]at this
theorem pL(X:aY)(K:Kd){i:Nat}(h:i=X.m\/(i<X.m/\X.st.getD i 2≠2)):jF X K i=(K i).map (kY (X.next.bytesOf i) 2):=by
 unfold jF mh;rcases h with h|h
 · rw[aE (by dsimp only;omega)];dsimp only;rw[lam h]
 · rw[lam h,aE (Nat.not_lt_zero i)];dsimp only;rw[aE zO]
theorem vY(X:aY)(K:Kd){i:Nat}(h:¬(i=X.m\/(i<X.m/\X.st.getD i 2≠2))):jF X K i=K i:=by
 unfold jF mh;rw[aE λq=>h (.inr q)];dsimp only;rw[aE λq=>h (.inl q)]
theorem De{P:aY}{k row:Nat}(h:¬gB (bU P) k row)(a:k<P.st.length):P.st.getD k 2≠2:=λe=>h (by
 have e':P.st[k]=2:=by rwa [List.getD_eq_getElem?_getD,fL a]at e
 unfold gB bU
 rw[List.getD_eq_getElem?_getD,law,fL a,e']
 exact⟨by show(0:Int)≠-1;decide,by show(0:Int)<=row;omega⟩)
theorem GM{l a:List aj}(h:∀p,p∈l↔p∈a)(n:(a.map aj.place).Nodup)(k row:Int):cq l k row=cq a k row:=by
  have g:∀{l:List aj},cq l k row=none↔∀x∈l,¬sH k row x=true:=λ{l}=>by unfold cq;rw[Option.map_eq_none_iff,lcm]
  cases q:cq a k row with
  |none=>rw[g]at q⊢;exact λx o=>q x ((h x).1 o)
  |some d=>
    obtain⟨p,i,e,f,m⟩:=jP q;cases c:cq l k row with
    |none=>rw[g]at c;exact cN (by unfold sH;rw[decide_eq_true_iff];exact⟨e,f⟩) (c p ((h p).2 i))
    |some d2=>
      obtain⟨j,b,f1,f2,f3⟩:=jP c;have:j=p:=xW n ((h j).1 b) i (by unfold aj.place;rw[e,f,f1,f2]);rw[<-m,<-f3,this]
theorem Oz{P:aY}{b n c0 c a r w fa e base tl:Nat}{N:Addr}{L:Nat}{K y:Kd}{kj J m:ak}{ls:List (List bK)}{V:Nat->Nat->List UInt8}{v:bT}{l2:List aj}{O:aw}(h:QQ P n c0 K kj e base tl ls V)(X:P.st.length<=L)
    (C:∀k row:Nat,cq l2.reverse k row=ob ls k row)(hw:fA (sI (bU P) l2) (jF (Q4 P b N L (ik r) (ik w)) K) y)
    (t:fO (bU P) P.m y P.m=some J)(W:∀x,Sr J 0 x->Sr m 0 x)(hl:dt v m (base+ls.length) ⟨[],0,none⟩)(aa:v.slot=(P.m:Int))(au:v.epoch=e+1)(av:v.next=base+ls.length)(ad:v.sure=true)(ag:v.size=P.ring)(hc:c0+1<=c)(R:c<=c0+3000)(hq:Bq O n (ez (fO (bU P) P.m y) P.m m) c):
    KV P b n K V c0 ⟨a,r,w,N,L,⟨⟨b,P.m,P.c,P.s,ik w,P.lazy,fa,none,0,[],false⟩,O,ez (fO (bU P) P.m y) P.m m,m,v,⟨[],0,none⟩,base+ls.length,c⟩⟩:=by
  obtain⟨Y,M⟩:∃Y,Y=Q4 P b N L (ik r) (ik w):=⟨_,rfl⟩;rw[<-M]at hw;have Q:Y.m=P.m:=by rw[M]
  have H:Y.st=P.st:=by rw[M]
  have an:=h.lO;have Z:=h.ok.st;have E:∀k row,¬gB (bU P) k row->¬gB (bU P) k 0:=λk row g q=>g ⟨q.1,by have:=q.2;omega⟩; -- a disk's way
  have F:∀i kd,K i=some kd->∃f,y i=some f/\K9 (sI (bU P) l2) i (if i=P.m\/(i<P.m/\P.st.getD i 2≠2)then kY (Y.next.bytesOf i) 2 kd else kd) f:=λi kd e=>by
    have hA:=pL Y K (i:=i);have hB:=vY Y K (i:=i);rw[Q,H]at hA hB;split
    · rename_i q
      exact(hw i).2 _ (by rw[hA q,e];rfl)
    · rename_i q
      exact(hw i).2 _ (by rw[hB q,e])
  have TR:∀i f,y i=some f->∃s,fO (bU P) P.m y i=some s/\s.last.length=f.last.length/\∀x,Sr f 0 x->Sr s 0 x:=λi f e=>by
    unfold fO;split
    · exact⟨_,by rw[e];rfl,dM _ _,λx q=>q.settle _⟩
    · exact⟨_,e,rfl,λx q=>q⟩
  have row:∀k row,k<P.m->row<P.s*P.c->¬gB (bU P) k row->∃f:ak,fO (bU P) P.m y k=some (f.settle λ_=>true)/\1+P.s*P.c<=f.last.length/\f.look (1+row)=V k row:=λk row t D A=>by
    obtain⟨kd,e,u⟩:=h.mem k t;obtain⟨f,z,l⟩:=F k kd e;rw[lam (.inr ⟨t,De A zO⟩)]at l;refine⟨f,?_,by rw[l.len,qh];exact u,?_⟩
    · unfold fO
      rw[lam ⟨t,E k row A⟩,z];rfl
    · have U:sI (bU P) l2 k (1+row)=ob ls k row:=by
        unfold sI;rw[Nat.add_sub_cancel_left,aE (by rintro(g|g);omega;exact A g)];exact C k row
      obtain⟨g1,g2⟩:=h.stay k row kd t D A e
      rw[l.look,U]
      cases q:ob ls k row with
      |some d=>exact g2 d q
      |none=>
        have:=g1 q
        rw[E7]at this⊢
        exact this.kY.look
  have hm:=h.ok.m;refine⟨⟨⟨⟨h.ok.m,h.ok.c,h.ok.s⟩,rfl,⟨by show(bU P).length=P.m;unfold bU;rw[ew];exact Z,λi j B hj q1 q2=>?_,h.mu,h.par,λk row d q=>(by cases q),λk o t D A=>?_,λp I=>(by cases I),c7 _⟩,λ_=>⟨rfl,rfl⟩,eZ _ _ _,aa,hl,by have:=h.Qs;dsimp only;omega,by dsimp only;omega,by dsimp only;omega,c7 _,λp I=>(by cases I),λk o kd t D A q=>⟨λ_=>?_,λd g=>by cases g⟩,λp I=>(uy I).elim⟩,hq⟩,X,rfl,rfl,ad,ag,rfl,R,λi kd B q=>?_,λi B S=>?_⟩
  · have key:∀i (B:i<P.m),(bU P).getD i (-1)≠-1->P.st[i]≠1:=λi B q g=>q (by
      unfold bU
      rw[List.getD_eq_getElem?_getD,law,fL zO]
      simp only[g]
      rfl)
    exact h.one i j (by have:i<P.m:=B;omega) (by have:j<P.m:=hj;omega) (key i B q1) (key j hj q2)
  · obtain⟨f,z,l4,g4⟩:=row k o t D A
    refine⟨_,(dH _ _ (Nat.ne_of_lt t)).trans z,by rw[dM];exact l4,λ_=>?_⟩
    rw[l9 (by have:o<P.s*P.c:=D;omega)]
    exact g4
  · obtain⟨f,z,l4,g4⟩:=row k o t D A
    cases((dH _ _ (Nat.ne_of_lt t)).trans z).symm.trans q
    rw[<-g4]
    exact Sr.vB (by have:o<P.s*P.c:=D;omega)
  · obtain⟨f,z,l⟩:=F i kd q
    obtain⟨s,G,l5,_⟩:=TR i f z
    refine⟨s,(dH _ _ B).trans G,?_⟩
    rw[l5,l.len]
    split
    · exact qh _ _ _
    · rfl
  · have T:i=P.m\/(i<P.m/\P.st.getD i 2≠2):=by rcases S with g|g;exact .inl g;exact(Nat.lt_or_eq_of_le B).elim (λx=>.inr ⟨x,g⟩) .inl
    obtain⟨kd,e,u⟩:=h.bh i (by have:=h.nm;omega)
    obtain⟨f,z,l⟩:=F i kd e
    rw[lam T]at l
    obtain⟨s,G,l5,z5⟩:=TR i f z
    have hz:=z5 _ (l.sr 0 _ (λd g=>by unfold sI at g;rw[lam (.inl rfl)]at g;cases g) (Sr.SA _ u))
    have hb:Y.next.bytesOf i=aY.bytesOf {CH.X P b ⟨a,r,w,N,L,⟨⟨b,P.m,P.c,P.s,ik w,P.lazy,fa,none,0,[],false⟩,O,ez (fO (bU P) P.m y) P.m m,m,v,⟨[],0,none⟩,base+ls.length,c⟩⟩with sf:=P.sf} i:=by rw[M];rfl
    rw[<-hb]
    by_cases q:i=P.m
    · subst q
      rw[t]at G;cases G
      exact⟨m,eZ _ _ _,W _ hz⟩
    · exact⟨s,(dH _ _ q).trans G,hz⟩
theorem Bc{W:World}{R:List ab}{D:aw}{K:Kd}{V:Nat->Nat->List UInt8}{n c0 e base tl:Nat}{kj:ak}{ls:List (List bK)}{P:aY}(b:Nat)(h:QQ P n c0 K kj e base tl ls V)(hq:Bq D n K c0)(iq:c0<=900000):
  aq W Tryz.prog 73 [ip b] (al b D::R) (β:=CH) (KV P b n K V c0) (λz=>.tuple #[ip z.a,i6 0]) (λz=>Row z.a 102 (z.X P b).cells::dz (z.X P b)::sF z.t z.r z.w (bU P) R):=by
 have hV:=h.ok.m;have hn:=h.nm;refine aq.oL Tryz.func73 Tryz.ntmps73 rfl rfl ?_;refine wr ?_;refine zq ?_;refine ay.alloc (z:=(i6 0)) (λw=>by simp) rfl rfl ?_;intro ne;refine wr ?_;refine zq ?_;refine zd rfl rfl (fK b D) ?_;intro _ _;rw[hq.len];refine wr ?_;refine VR.aK rfl rfl (gx (by omega)) ?_;refine wr ?_;refine zq ?_;refine zd rfl rfl (Fo (R:=Row ne 40 [i6 0]::R) b hq (by omega) h.bh) ?_;rintro⟨l,x,D1⟩ ⟨U,hl,hb⟩;dsimp only at U hl hb;refine wr ?_;refine VO.bH (λw hw=>hw.bn (.head _)) ?_;intro hM;have cw:E9 W (y5 x l::cG Bb l::al b D1::Row ne 40 [i6 0]::R) x.1 l:=⟨aV.own (λu hu=>by obtain⟨b,_,h⟩:=Mx.1 hu;exact iW b u h) (.head _) (cW l λ_ _=>rfl) hM,λz hz=>aV.cG (.tail _ (.head _)) hz λR hR=>by
  obtain⟨i,hi,rfl⟩:=lax hz;obtain⟨_,_,q⟩:=hb i hi;exact aV.own (aQ _) hR (by simp) q.nil,λz hz=>by obtain⟨i,hi,rfl⟩:=lax hz;obtain⟨_,_,q⟩:=hb i hi;exact q.fit⟩
 have ep:=IS (W:=W) (R:=y5 x l::cG Bb l::al b D1::Row ne 40 [i6 0]::R) (cap:=x.2) (by omega) cw;obtain⟨v,hh,G,an,eX,hj⟩:=N5 (h.ag l hl hb);rw[hh]at ep;refine zq ?_;refine zd rfl rfl (ep) ?_;rintro⟨vo,vc⟩-;refine wr ?_;refine zq ?_;refine ay.aB tO rfl ?_;intro nv;refine wr ?_;refine zq ?_;refine ay.gL (vs:=[i8 v.s.id,i8 v.s.events,i8 v.s.safe,ii v.s.role,ii v.s.members,ii v.s.chunk,ii v.s.bG,ii v.s.ring,.bool v.s.lazy,.bool v.s.lost,.slice vo v.st.length vc,ii v.cur,.bool v.ch,.bool v.jr]) ah rfl rfl rfl rfl (by simp[Value.oneCell']) zh (by simp) ?_;refine VO.bH (p:=vo=none->v.st.length=0) (λw hw=>hw.bn (.tail _ (.head _))) ?_;intro hK;have js:v.st.length=P.m:=by rw[an];exact h.ok.st
 obtain⟨so,rfl⟩:∃y,vo=some y:=by cases vo with|none=>have:=hK rfl;omega|some y=>exact⟨y,rfl⟩
 refine VO.bH (p:=v.st.length<=vc) (λw hw=>hw.jd (.tail _ (.head _))) ?_;intro fb;obtain⟨X,E⟩:∃X,X=Q4 P b so vc none none:=⟨_,rfl⟩;have cc:[Value.int .u64 v.s.id,i8 v.s.events,i8 v.s.safe,ii v.s.role,ii v.s.members,ii v.s.chunk,ii v.s.bG,ii v.s.ring,.bool v.s.lazy,.bool v.s.lost,.slice (some so) v.st.length vc,ii v.cur,.bool v.ch,.bool v.jr]=X.sup.cells++[.bool v.ch,.bool true]:=by
  obtain⟨⟨a1,a2,a3,a4,a5,a6,a7,a8,a9,hO,hP,a12,hQ,hS⟩,st,cur,ch,jr⟩:=v;simp only[ai.bare,ai.mk.injEq]at G;dsimp only at an eX hj⊢;rw[E,an,eX,hj,G.1,G.2.1,G.2.2.1,G.2.2.2.1,G.2.2.2.2.1,G.2.2.2.2.2.1,G.2.2.2.2.2.2.1,G.2.2.2.2.2.2.2.1,G.2.2.2.2.2.2.2.2.1,G.2.2.2.2.2.2.2.2.2.1];rfl
 have hX:X.ok:=by rw[E];exact⟨h.ok.m,h.ok.c,h.ok.s,h.ok.st,h.ok.u4,h.ok.cur⟩
 refine VO.aR (H':=Row nv 196 (X.sup.cells++[.bool v.ch,.bool true])::dz X::al b D1::Row ne 40 [i6 0]::R) ?_ ?_
 · rw[<-cc,E,show dz (Q4 P b so vc none none)=Sl.Own 104 1 (.slice (some so) v.st.length vc) v.st.length (bytes v.st)by rw[an]];exact ae.re
 refine wr ?_;refine VO.pure rfl rfl (af.build Nn rfl (show aC _ _ _=some X.cells by subst E;simp[aC,bR,Value.cells])) rfl ?_;refine zq ?_;refine ay.box (cs:=X.cells) rfl (by simp[Value.cells]) rfl ?_;intro a;refine wr ?_;refine zq ?_;refine ay.alloc (z:=(.pointer none)) (λw=>by simp) rfl rfl ?_;intro I;refine wr ?_;have hE:X.ro=false:=by rw[E]
 have ih:X.b=b:=by rw[E]
 have bh:X.m=P.m:=by rw[E]
 have hf:X.c=P.c:=by rw[E]
 have hg:X.s=P.s:=by rw[E]
 have bk:X.ring=P.ring:=by rw[E]
 refine VR.aK rfl rfl (hE) ?_;refine VR.aR (H':=Row a 102 X.cells::Row I 79 [ip a]::dz X::al b D1::Row ne 40 [i6 0]::R) ae.re ?_;refine wr ?_;refine VR.plain (VC.qO [2,8,13,14] 16 13 [0,1,3,4,5,6,7,2,8,9,10,11,12,13,14,15,16] (Row a 102 X.cells::Row I 79 [ip a]::dz X::R) 7 (λb=>Row b 100 [.pointer none]) (λb=>ip b) rfl (by kernel_rfl) (by kernel_rfl) ae.re ?_);(repeat (apply VX.take rfl rfl rfl rfl;exact zp;rfl;rfl;rfl));refine VX.uk (K:=Row a 102 X.cells) (S:=λ_:Unit=>[Row a 102 X.cells]) (H':=Row I 79 [ip a]::dz X::al b D1::Row ne 40 [i6 0]::R) rfl rfl rfl rfl rfl rfl (λ_ _=>by simp) (λR=>jX a X) (by(repeat exact .refl)) rfl (dG.Fi (z:= .pointer none) (λw=>by simp) rfl rfl) ae.re (λ_ _=>ae.re) rfl rfl rfl ?_;intro _ _;have bd:=λR=>GN (W:=W) (R:=R) (D:=D1) b (X.m:Int) (X.ring:Int);obtain⟨D2,e2,p2,f2⟩:=Nb (U.pw h.k) U.c8 h.rep h.cache;have eR:Bq D2 n K c0:=by have:=U.Pa p2 (U.is _ _ h.k).2.2 (U.Rw h.k) (eI _) f2;rwa [pz h.k]at this
 obtain⟨vj,B⟩:∃vj:bT,vj=⟨(P.m:Int),e,P.ring,tl,bu ls,base+ls.length,true,none,0⟩:=⟨_,rfl⟩;rw[<-B,<-bh,<-bk]at e2;rw[e2]at bd
 refine VX.uk (K:=al b D1) (S:=λy:S3=>[iD y.x y.ts,kG y.ts,S8 b D2 vj y.w]) (H':=Row a 102 X.cells::Row I 79 [ip a]::dz X::Row ne 40 [i6 0]::R) rfl rfl rfl rfl rfl rfl (λ_ _=>by simp)
  (λR=>aq.mono (bd R) (λy=>y) (λ_ h=>h) (λ_ _=>rfl) (λy _=>by
   obtain⟨w,x,o⟩:=y;cases w with
   |none=>exact ae.refl
   |some w=>exact λw' h=>((show Holds W (bz w b vj::al b D2::iD x o::kG o::R) w' from(ae.re:ae W _ _) w' h).nest (L:=[bz w b vj,al b D2])).perm (qY (l₁:=[iD x o,kG o])).symm)) (by(repeat first|exact .refl|(apply aP.cons;focus repeat first|exact .head|apply nW.tail)|exact .nil|apply aP.drop)) rfl (dG.Fi (z:= .pointer none) (λw=>by simp) rfl rfl) ae.re (λy _=>ae.re) rfl rfl rfl ?_
 rintro⟨w,y,o⟩ ⟨hw,ag⟩;dsimp only at hw ag;obtain⟨w,rfl⟩:∃x,w=some x:=Option.isSome_iff_exists.1 hw;(repeat (apply VX.take rfl rfl rfl rfl;exact zp;rfl;rfl;rfl));refine VX.float rfl rfl (dG.Fi (z:= .pointer none) (λw=>by simp) rfl rfl) ae.re ?_;intro N;refine wr ?_;refine VO.aR (H':=bz w b vj::al b D2::iD y o::kG o::Row N 100 [ip w]::Row a 102 X.cells::Row I 79 [ip a]::dz X::Row ne 40 [i6 0]::R) (ae.trans (ae.re (L:=S8 b D2 vj (some w)::iD y o::kG o::Row N 100 [ip w]::Row a 102 X.cells::Row I 79 [ip a]::dz X::Row ne 40 [i6 0]::R)) (λw' h=>h.join)) ?_;refine VO.bH (p:=y.1=none->o.length=0) (λw' h=>h.bn (.tail _ (.tail _ (.head _)))) ?_;intro dr;refine VO.bH (p:=∀t∈o,t.ok) (λw' h=>kG.bH h.tail.tail.tail) ?_;intro ca;have ag:o.map bF.T=se base ls:=ag;have O:=Ar ag;have hI:o.length<=2048:=by have:=lcs List.length ag;rw[ew]at this;rw[this,oZ];exact h.mx.1
 have av:(jt o).length<=1023:=by rw[<-ew (f:=aj.D),O];exact h.mx.2
 have er:∀p∈jt o,(0<=p.av/\p.av<P.m)/\(0<=p.row/\p.row<((P.s*P.c:Nat):Int))/\p.d.data.length=128:=λp hp=>h.inr p.D (by rw[<-O];exact List.mem_map_of_mem hp);refine zq ?_;refine zy rfl rfl (xi (r:=0) (by decide)) ?_;intro up _;refine wr ?_;have ck:∀H:List ab,iD y o∈H->kG o∈H->A8 W H y.1 o:=λH m1 m2=>A8.own dr ca m1 m2;have h4:P.s*P.c<=256*16:=mo h.ok.s.2 h.ok.c.2;obtain⟨Z0,ej⟩:∃Z:eA,Z=⟨b,P.m,P.c,P.s,ik w,P.lazy,0,none,0,[],false⟩:=⟨_,rfl⟩
 refine VR.loop (α:=Nat×List aj) (λq=>q.1<=o.length/\q.2.length<=(jt (o.take q.1)).length/\(∀p∈q.2,p.Of Z0)/\(q.2.map aj.place).Nodup/\∀k row,cq q.2 k row=cq (jt (o.take q.1)).reverse k row) (λq=>dT up 0 q.2::bz w b vj::al b D2::iD y o::kG o::Row N 100 [ip w]::Row a 102 X.cells::Row I 79 [ip a]::dz X::Row ne 40 [i6 0]::R)
  (λq=>[(0,ip b),(2,.pointer none),(3,ip ne),(6,ip I),(7,ip N),(9,ip up),(100,.slice y.1 o.length y.2),(101,ii o.length),(102,ii q.1)]) (λq=>o.length-q.1) rfl (0,[]) ⟨c7 _,c7 _,λp h=>cN h uy,List.nodup_nil,λ_ _=>rfl⟩ ae.re ⟨rfl,rfl,rfl,rfl,rfl,rfl,rfl,rfl,rfl,trivial⟩ ?_
 rintro⟨i,ps⟩ ⟨hi,Q,A,M,C⟩;dsimp only at hi Q A M C;refine wr ?_;(refine VR.cond rfl rfl ?_ ?_<;>intro hc)
 ·
  have bb:i<o.length:=by have:=cI hc;omega
  clear hc;obtain⟨ta,bf⟩:∃x,y.1=some x:=by cases h:y.1 with|none=>have:=dr h;omega|some x=>exact⟨x,rfl⟩
  have ea:=λH m1 m2=>(ck H m1 m2).gz;rw[bf]at ea;refine VR.re 100 (.slice (some ta) o.length y.2) rfl (by rw[bf]) ?_;refine wr ?_;refine VO.pure rfl rfl (af.gY ah rfl rfl (ea _ zm zm) (dW o i bb (λ_ _=>rfl)) rfl) rfl ?_;refine wr ?_;refine zq ?_;refine ay.aB pg rfl ?_;intro n12;refine wr ?_;refine zq ?_;refine ay.gL (vs:=o[i].cells) ah rfl rfl rfl rfl (vO _) zh (by simp) ?_;refine wr ?_;have dc:∀H:List ab,iD y o∈H->kG o∈H->bq W H o[i].ao o[i].aA:=λH m1 m2=>(ck H m1 m2).each _ (fF bb);have dV:∀p∈o[i].aA,p∈jt o:=λp hp=>Mx.2 ⟨_,fF bb,hp⟩;have bp:jt (o.take (i+1))=jt (o.take i)++o[i].aA:=by rw[nZ bb];unfold jt;rw[Ai];simp
  have bt:(jt (o.take (i+1))).length<=1023:=by
   have e:jt o=jt (o.take (i+1))++jt (o.drop (i+1)):=by unfold jt;rw[<-Ai,FZ]
   rw[e,c9]at av;omega
  rw[bp,c9]at bt;obtain⟨F0,ga⟩:∃F,jt (o.take i)=F:=⟨_,rfl⟩;rw[ga]at bt Q C bp;generalize o[i]=t at*
  refine VR.loop (α:=Nat×List aj) (λq=>q.1<=t.aA.length/\q.2.length<=F0.length+q.1/\(∀p∈q.2,p.Of Z0)/\(q.2.map aj.place).Nodup/\∀k row,cq q.2 k row=cq (F0++t.aA.take q.1).reverse k row) (λq=>dT up 0 q.2::bz w b vj::al b D2::iD y o::kG o::Row N 100 [ip w]::Row a 102 X.cells::Row I 79 [ip a]::dz X::Row ne 40 [i6 0]::R)
   (λq=>[(0,ip b),(2,.pointer none),(3,ip ne),(6,ip I),(7,ip N),(9,ip up),(100,.slice y.1 o.length y.2),(101,ii o.length),(102,ii i),(107,.slice t.ao t.aA.length t.cap),(108,ii t.aA.length),(109,ii q.1)]) (λq=>t.aA.length-q.1) rfl (0,ps) ⟨c7 _,Q,A,M,λk row=>by rw[KP,mn];exact C k row⟩ ae.re ⟨rfl,rfl,rfl,rfl,rfl,rfl,b7 rfl (by rw[bf]),rfl,rfl,rfl,rfl,rfl,trivial⟩ ?_
  clear Q A M C;rintro⟨j,ps⟩ ⟨hs,Q,A,M,C⟩;dsimp only at hs Q A M C;refine wr ?_;(refine VR.cond rfl rfl ?_ ?_<;>intro hc)
  ·
   have ba:j<t.aA.length:=by have:=cI hc;omega
   clear hc;have bG:=λH m1 m2=>(dc H m1 m2).gz;obtain⟨tb,dn⟩:∃x,t.ao=some x:=by cases h:t.ao with|none=>(have:=(dc [iD y o,kG o] (by simp) (by simp)).gz.nil h;omega)|some x=>exact⟨x,rfl⟩
   rw[dn]at bG;refine VR.re 107 (.slice (some tb) t.aA.length t.cap) rfl (by rw[dn]) ?_;refine wr ?_;refine VO.pure rfl rfl (af.gY ah rfl rfl (bG _ zm zm) (ke t.aA j ba) rfl) rfl ?_;refine wr ?_;refine zq ?_;refine ay.aB eY rfl ?_;intro n14;refine wr ?_;refine zq ?_;refine ay.gL (vs:=t.aA[j].cells) ah rfl rfl rfl rfl (dI _) zh (by simp) ?_;refine wr ?_;obtain⟨g1,g2,g3⟩:=er _ (dV _ (fF ba));have hG:F0++t.aA.take (j+1)=(F0++t.aA.take j)++[t.aA[j]]:=by rw[nZ ba,lx]
   have hA:∀H:List ab,iD y o∈H->kG o∈H->aV W H 1 t.aA[j].d.ao t.aA[j].d.data.length (bytes t.aA[j].d.data):=λH m1 m2=>(dc H m1 m2).each _ (fF ba);generalize t.aA[j]=p at*;refine VR.drawn [9] 16 [0,1,2,3,4,5,6,7,8,9,10,11,12,13,14,15,16] _ rfl (by kernel_rfl) (by kernel_rfl) ae.re ?_;refine wr ?_;refine zq ?_;refine zy rfl rfl (FM hX.m hX.c hX.s p.av p.row (by omega)) ?_;rintro⟨gi,gb⟩-;refine⟨ae.re,?_⟩;refine wr ?_;refine VR.aK rfl rfl (by rw[lam ⟨by rw[bh];exact g1,by rw[hg,hf];exact g2⟩];rfl) ?_;refine wr ?_;have eC:=xj (W:=W) (R:=Row n14 208 p.cells::bz w b vj::al b D2::iD y o::kG o::Row N 100 [ip w]::Row a 102 X.cells::Row I 79 [ip a]::dz X::Row ne 40 [i6 0]::R) (b:=up) (r:=0) (ps:=ps) (p:=p) ⟨by omega,by omega,g3⟩ (hA _ zm zm) (by omega);refine zq ?_;refine zd rfl rfl (eC) ?_;intro z _;refine wr ?_;refine VF.round (j+1,qn ps ⟨p.av,p.row,⟨z.1,z.2,p.d.data⟩⟩) ⟨ba,?_,λq hB=>?_,?_,λk row=>?_⟩ (by dsimp only;omega) ⟨rfl,rfl,rfl,rfl,rfl,rfl,b7 rfl (by rw[bf]),rfl,rfl,b7 rfl (by rw[dn]),rfl,b7 rfl (by congr 1),trivial⟩ ae.re
   ·
    dsimp only;have:=HH (λx:aj=>decide (x.place≠aj.place ⟨p.av,p.row,⟨z.1,z.2,p.d.data⟩⟩)) ps;unfold qn;rw[c9,ie];omega
   ·
    rcases l0.1 hB with h|h
    · exact A q (te.1 h).1
    · rw[ju.1 h,ej];exact⟨g1,g2,g3⟩
   ·
    dsimp only;rw[tA];refine List.nodup_append.2 ⟨M.filter _,by simp,λa ha b hb e=>?_⟩;rw[ju.1 hb]at e;have:=(te.1 ha).2;simp[e]at this
   ·
    dsimp only;rw[AN,hG,AO,C]
  have ht:j=t.aA.length:=by have:=dx hc;omega
  clear hc;rw[ht,DK]at C;refine wr ?_;exact VF.round (i+1,ps) ⟨bb,by dsimp only;rw[bp,c9];omega,A,M,λk row=>by dsimp only;rw[bp];exact C k row⟩ (by dsimp only;omega) ⟨rfl,rfl,rfl,rfl,rfl,rfl,b7 rfl (by rw[bf]),rfl,b7 rfl (by congr 1),trivial⟩ ae.re
 have ho:i=o.length:=by have:=dx hc;omega
 clear hc;rw[ho,DK]at Q C;have cS:∀k row:Nat,cq ps k row=ob ls k row:=λk row=>by rw[C,Jb O]
 have jn:ps.length<=1023:=by omega
 clear C ck er dr ca hI av O ag;refine VR.aR (H':=dT up 0 ps::bz w b vj::al b D2::Row N 100 [ip w]::Row a 102 X.cells::Row I 79 [ip a]::dz X::Row ne 40 [i6 0]::R) ae.re ?_;refine wr ?_;obtain⟨Xw,J⟩:∃Z:aY,Z={X with w:=ik w}:=⟨_,rfl⟩;refine VR.aR (H':=Row a 102 Xw.cells::al b D2::dT up 0 ps::bz w b vj::Row N 100 [ip w]::Row I 79 [ip a]::dz X::Row ne 40 [i6 0]::R) (by rw[J];exact ae.re) ?_;refine VR.plain (VC.Bm (Mz (Row a 102 Xw.cells) (al b D2::dT up 0 ps::bz w b vj::Row N 100 [ip w]::Row I 79 [ip a]::dz X::R)) [13,19,20] [(19,1),(20,1)] [(6,0),(12,0)] 1 [0,1,2,3,4,5,6,7,8,9,10,11,12,13,14,15,16,17,18,19,20] rfl (by kernel_rfl) (by kernel_rfl) ae.re (tj _ _) ?_);(iterate 6 (apply VL.take rfl rfl rfl 1 rfl;exact zp;rfl));apply VL.take rfl rfl rfl 0 rfl;exact zp;rfl;(iterate 5 (apply VL.take rfl rfl rfl 1 rfl;exact zp;rfl));apply VL.take rfl rfl rfl 0 rfl;exact zp;rfl;refine VL.yC rfl rfl rfl 0 rfl ?_;refine zd rfl rfl (HZ (R:=Row a 102 Xw.cells::dT up 0 ps::bz w b vj::Row N 100 [ip w]::Row I 79 [ip a]::dz X::Row ne 40 [i6 0]::R) (D:=D2) b (m:=Xw.m) (c:=Xw.c) (s:=Xw.s) (by rw[J];exact hX.m) (by rw[J];exact hX.c) (by rw[J];exact hX.s) (eR.len.trans (by rw[J,bh];exact hn)) (ik w) Xw.lazy) ?_;rintro⟨r,fa⟩-;refine⟨ae.re,?_⟩;(iterate 5 (apply VL.take rfl rfl rfl 1 rfl;exact zp;rfl));refine VL.yC rfl rfl rfl 1 rfl ?_;apply ay.st ah rfl rfl rfl rfl (by(repeat first|exact .head|apply eQ.tail);done) (by(simp;done));refine⟨ae.re,?_⟩;refine VL.yC rfl rfl rfl 1 rfl ?_;apply ay.st ah rfl rfl rfl rfl (by(repeat first|exact .head|apply eQ.tail);done) (by(simp;done));refine⟨ae.re,?_⟩;refine VL.nil ?_;obtain⟨Y,hY⟩:∃Y:aY,Y=Q4 P b so vc (ik r) (ik w):=⟨_,rfl⟩;obtain⟨Z,hZ⟩:∃Z:eA,Z=⟨b,P.m,P.c,P.s,ik w,P.lazy,fa,none,0,[],false⟩:=⟨_,rfl⟩;refine VE.aR (H':=Row a 102 Y.cells::de r Z (List.replicate X.m (-1)) (al b D2::dT up 0 ps::bz w b vj::Row N 100 [ip w]::Row I 79 [ip a]::dz Y::Row ne 40 [i6 0]::R)) (by rw[hY,hZ,J,E];exact ae.re) ?_;have ed:Y.ev=P.ev:=by rw[hY]
 have hN:=h.ev;refine wr ?_;refine VR.aK rfl rfl (gx (by rw[ed];omega)) ?_;have ee:Y.ok:=by rw[hY];exact⟨h.ok.m,h.ok.c,h.ok.s,h.ok.st,h.ok.u4,h.ok.cur⟩
 have aa:Z.ok:=by rw[hZ];exact⟨h.ok.m,h.ok.c,h.ok.s⟩
 have ef:Y.ro=false:=by rw[hY]
 have cr:Y.r=ik r:=by rw[hY]
 have ec:Y.b=b:=by rw[hY]
 have ek:Z.b=b:=by rw[hZ]
 have au:Y.m=P.m:=by rw[hY]
 have ct:Z.m=Y.m:=by rw[hZ,hY]
 have cy:bU Y=bU P:=by rw[hY];rfl
 have hL:iS Y K n:=by rw[hY];exact h.xn b so vc _ _ (by rw[<-show v.st=P.st from an];exact fb)
 have O:(bU Y).length=Y.m:=by rw[cy,au];unfold bU;rw[ew];exact h.ok.st
 have A:∀p∈ps,p.Of Z:=λp hp=>by rw[hZ];rw[ej]at A;exact⟨(A p hp).m,(A p hp).r,(A p hp).n⟩
 refine wr ?_;refine VR.iF rfl rfl rfl rfl ?_;refine wr ?_;refine zq ?_;refine zd rfl rfl (rH a r Y ee Z cr ct (List.replicate X.m (-1)) (by rw[j0,au,bh])) ?_;intro _ _;refine wr ?_;refine zq ?_;refine zd rfl rfl (F1 (R:=Row a 102 Y.cells::de r Z (bU Y) (al b D2::Row I 79 [ip a]::bz w b vj::Row N 100 [ip w]::dz Y::Row ne 40 [i6 0]::R)) (b:=up) (r:=0) (ps:=ps) (by omega)) ?_;rintro⟨⟨po,pc⟩,l2,r2⟩ hT;dsimp only at hT;have iE:l2.length<=1023:=by have:=hT.length;omega
 have da:=hT.perm M;rw[mn]at da;have bx:∀p∈l2,p.Of Z:=λp hp=>A p (da.subset hp);have bo:∀k row:Nat,cq l2.reverse k row=ob ls k row:=λk row=>(GM (λp=>List.mem_reverse.trans da.mem_iff) M k row).trans (cS k row);refine wr ?_;refine zq ?_;refine ay.alloc (z:=(.slice none 0 0)) (λw=>by simp) rfl rfl ?_;intro n18;refine wr ?_;refine VO.bH (p:=po=none->l2.length=0) (λw' h=>h.bn (.tail _ (.head _))) ?_;intro hy;refine VO.bH (p:=∀p∈l2,p.d.ok) (λw' h=>bX.bH h.tail.tail) ?_;intro ev;have bs:=lS (W:=W) (R:=Row I 79 [ip a]::Row n18 140 [.slice po l2.length pc]::bL (po,pc) l2::bX l2::bz w b vj::Row N 100 [ip w]::Row ne 40 [i6 0]::R) a r Y Z hL ef cr ct (bU Y) O eR (by omega);rw[ec]at bs;refine zq ?_;refine zd rfl rfl (bs) ?_;intro D3 hC;obtain⟨T,ad⟩:∃T,T=Y.told:=⟨_,rfl⟩;have eb:T.r=ik r:=by rw[ad];exact cr
 have gD:T.b=b:=by rw[ad];exact ec
 have ic:T.m=P.m:=by rw[ad];exact au
 rw[<-ad,cy];have bm:Z.m=P.m/\Z.s=P.s/\Z.c=P.c:=by rw[hZ];exact⟨rfl,rfl,rfl⟩
 have cb:∀k row,k<Z.m->row<Z.s*Z.c->¬gB (bU P) k row->∃kd,jF Y K k=some kd/\1+Z.s*Z.c<=kd.last.length:=λk row hk hr hd=>by
  rw[bm.1]at hk;rw[bm.2.1,bm.2.2];obtain⟨kd,e,l⟩:=h.mem k hk;rw[pL Y K (.inr ⟨by rw[au];exact hk,by rw[show Y.st=P.st by rw[hY]];exact De hd (by rw[h.ok.st];exact hk)⟩),e];exact⟨_,rfl,by rw[qh];exact l⟩
 have bw:(bU P).length=Z.m:=by rw[<-cy,O,ct]
 have h1:=Ox (W:=W) (R:=bL (po,pc) l2::bX l2::bz w b vj::Row N 100 [ip w]::dz Y::Row ne 40 [i6 0]::R) (cap:=pc) I n18 a r T eb Z aa (bU P) bw cb hC l2 (bq.own (x:=(po,pc)) hy ev (.head _) (.tail _ (.head _))) bx (by omega) (by omega);rw[ek]at h1;refine wr ?_;refine VO.pure rfl rfl (af.bB rfl) rfl ?_;refine wr ?_;refine zq ?_;refine zd rfl rfl (BS a 0 (g:=136) (bnd:=#[]) (cap:=#[ip I,ip n18]) (λ_ _=>by simp) h1) ?_;rintro⟨D4,K4⟩ ⟨eS,br⟩;dsimp only at eS br;have fs:∀k,k<Z.m->¬gB (bU P) k 0->(K4 k).isSome=true:=λk hk hd=>by
  obtain⟨kd,e,_⟩:=cb k 0 hk (Nat.mul_pos aa.s.1 aa.c.1) hd;obtain⟨jw,e4,_⟩:=(br k).2 kd e;rw[e4];rfl
 have h2:=uF (W:=W) (R:=dz Y::Row a 102 T.cells::Row I 79 [ip a]::bz w b vj::Row N 100 [ip w]::Row ne 40 [i6 0]::R) r Z aa (bU P) bw fs eS;rw[ek,bm.1]at h2;refine wr ?_;refine VR.drawn [] 6 [0,1,2,3,4,5,6] _ rfl (by kernel_rfl) (by kernel_rfl) ae.re ?_;refine wr ?_;refine VD.re 179 (ip r) rfl (by rw[eb]) ?_;refine VD.take rfl rfl rfl (af.cm rfl) rfl ?_;refine wr ?_;refine zq ?_;refine zd rfl rfl (BS a 0 (g:=138) (bnd:=#[ip r]) (cap:=#[]) (λ_ _=>by simp) h2) ?_;intro D5 eW;refine wr ?_;refine VO.pure rfl rfl (af.bB rfl) rfl ?_;refine wr ?_;have cY:=DO (b:=Y.next.bytesOf P.m) (Live.open (s:=P.m) h.rep h.cache (U.is _ _ h.k).2.1) rfl (by have:=hL.len P.m (by omega);exact this);have fx:jF Y K P.m=some (kY (Y.next.bytesOf P.m) 2 kj):=by rw[pL Y K (.inl au.symm),h.k];rfl
 have hv:K4 P.m=some (kY (Y.next.bytesOf P.m) 2 kj):=by
  obtain⟨k4,e4,w4⟩:=(br P.m).2 _ fx;rw[e4,w4.same λq=>?_];unfold sI;split
  · rfl
  ·
   unfold cq;rw[Option.map_eq_none_iff,lcm];intro x hx q;have:=(bx x (KQ.1 hx)).m;unfold sH at q;rw[decide_eq_true_iff]at q;omega
 have et:fO (bU P) P.m K4 P.m=some (kY (Y.next.bytesOf P.m) 2 kj):=by unfold fO;rw[aE (by omega)];exact hv
 rw[<-B]at cY;have ix:=h.lO;have hb1:=h.Qs;obtain⟨D6,fg,e6,hD,eu,hF⟩:=DH (e:=vj.epoch+1) eW et (by rw[B]) cY (by rw[B]) (by rw[B];exact⟨by dsimp only;omega,by dsimp only;omega,by dsimp only;omega⟩);have h3:=Oy (W:=W) (R:=dz Y::de r Z (bU P) (Row ne 40 [i6 0]::R)) I N a w T vj (cY.SJ (by rw[B];dsimp only;omega) (by rw[B];dsimp only;omega) hb1) eW.cap (by omega);rw[gD,e6]at h3;refine zq ?_;refine zd rfl rfl (BS a T.m (g:=139) (bnd:=#[]) (cap:=#[ip I,ip N]) (λ_ _=>by simp) h3) ?_;intro _ _;refine wr ?_;refine VF.aR (H':=Row ne 40 [i6 0]::Row a 102 (aY.cells {T with Ik:=false})::dz T::de r Z (bU P) (bz w b {vj with epoch:=vj.epoch+1,tail:=vj.head,used:=0,log:=none}::al b D6::R)) (by rw[ad];exact ae.re) ?_;refine VF.tg (.inl rfl) (λ_ _=>by simp) gp ⟨a,r,w,so,vc,⟨Z,D6,ez (fO (bU P) P.m K4) P.m fg,fg,{vj with epoch:=vj.epoch+1,tail:=vj.head,used:=0,log:=none},⟨[],0,none⟩,base+ls.length,c0+40+l2.length⟩⟩ rfl (.tmp rfl) (aL.leaf ah rfl rfl (.head _) rfl) ?_ rfl (by rw[ad,hY,hZ];exact ae.re);rw[hZ];refine Oz h (by rw[<-show v.st=P.st from an];exact fb) bo (hY▸br) et hF (by rw[B]at eu⊢;exact eu) (by rw[B]) (by rw[B]) (by rw[B]) (by rw[B]) (by rw[B]) (by omega) (by omega) hD
theorem GH{W:World}{R:List ab}(x:Nat)(c:UInt8)(n:Nat)(m:1<=n)(r:n<=1048576):
    aq W Tryz.prog 55 [.slice (ik x) 1 1,ii n] (Row x 104 [gv c]::R) (β:=Nat) (λ_=>True) (λb=>.slice (ik b) n n)
      (λb=>Sl.Own 104 1 (.slice (ik b) n n) n (bytes (List.replicate n c))::Row x 104 [gv c]::R):=by
  refine ze Tryz.func55 Tryz.ntmps55 ?_;refine VO.re 15 (i8 ((1:Nat):Int)) rfl (by rw[dB zO]) ?_;refine VO.re 17 (i8 n) rfl (by rw[dB zO]) ?_;refine zr (s:=F8 n zO) (h:=?_);intro _ _;refine w ?_;refine VC.aK rfl rfl (by simp;omega) ?_;refine w ?_;refine VO.re 29 (ii n) rfl (by congr 1;exact IntWalk.i64_in _ zO) ?_;refine zq ?_;refine ay.dd sA rfl rfl rfl ?_ ?_ rfl ?_
  · omega
  · simp only[maxLen];omega
  intro b;refine w ?_;refine zq ?_;refine ay.copy sA rfl rfl zh (λw e=>jW.row (ys:=[]) (xs:=[gv c]) (by simp) rfl e (by simp only[mn];(focus repeat first|exact .head _|apply List.Mem.tail))) rfl ?_;refine w ?_;have i:(bytes [c]).take (1*1)++(List.replicate n (Value.int .u8 0)).drop (1*1)=bytes (List.replicate 1 c++List.replicate (n-1) 0):=by
    rw[dQ,dD];simp[bytes]
  have k:min 1 n=1:=by omega
  rw[k]
  refine VC.loop (α:=Nat) (λj=>1<=j/\j<=n) (λj=>Sl.Own 104 1 (.slice (ik b) n n) n (bytes (List.replicate j c++List.replicate (n-j) 0))::Row x 104 [gv c]::R)
    (λj=>[(7,.slice (ik b) n n),(8,ii j)]) (λj=>n-j) rfl 1 ⟨eI _,m⟩ ?_ ⟨rfl,rfl,trivial⟩ ?_
  · rw[<-i];exact ae.refl
  · rintro j ⟨p,o⟩
    refine w ?_
    refine zk ?_ ?_<;>intro f
    · have d:j<n:=by simpa using f
      refine w ?_
      refine zx [7] 8 [0,1,2,3,4,5,6,7,8,9] [] ?_
      refine w ?_
      have q:aV W (Sl.Own 104 1 (.slice (ik b) n n) n (bytes (List.replicate j c++List.replicate (n-j) 0))::Row x 104 [gv c]::R) 1 (ik b) n (bytes (List.replicate j c++List.replicate (n-j) 0)):=aV.own (aQ _) zm (by simp;omega) (by simp)
      refine zq ?_;refine ay.Bg sA rfl rfl zh (d) (λw e=>(q.take o).Kh e) rfl ?_
      refine w ?_
      have l:(bytes (List.replicate j c++List.replicate (n-j) 0)).take (j*1)++((bytes (List.replicate j c++List.replicate (n-j) 0)).take (j*1)).take (min j (n-j)*1)++(bytes (List.replicate j c++List.replicate (n-j) 0)).drop (j*1+min j (n-j)*1)
          =bytes (List.replicate (j+min j (n-j)) c++List.replicate (n-(j+min j (n-j))) 0):=by
        simp only[Nat.mul_one,dQ];have g:(bytes (List.replicate j c)++bytes (List.replicate (n-j) 0)).take j=bytes (List.replicate j c):=by
          rw[Oh (by simp),qy (by simp)]
        rw[g];have a2:(bytes (List.replicate j c)).take (min j (n-j))=bytes (List.replicate (min j (n-j)) c):=by simp[bytes,List.take_replicate]
        have a3:(bytes (List.replicate j c)++bytes (List.replicate (n-j) 0)).drop (j+min j (n-j))=bytes (List.replicate (n-(j+min j (n-j))) 0):=by
          rw[List.drop_append];simp[bytes,List.drop_replicate];omega
        rw[a2,a3,<-dQ,List.replicate_append_replicate]
      rw[l]
      refine VE.round (j+min j (n-j)) ⟨by omega,by omega⟩ zO ⟨rfl,b7 rfl (by simp),trivial⟩ ae.refl
    · have a:j=n:=by have:¬j<n:=by simpa using f
                     omega
      subst a
      refine w ?_
      refine VE.done b rfl trivial rfl ?_
      simp only[BH,List.replicate_zero,mn]
      exact ae.refl
structure CI where
  a:Nat
  r:Nat
  w:Nat
  so:Addr
  sc:Nat
  t:iu
abbrev Fz(b m c s ring:Nat)(lazy:Bool)(d:Addr)(a:Nat)(r w:Option Addr):aY:=⟨b,1,1,1,0,m,c,s,ring,lazy,false,d,a,List.replicate m 1,0,r,w,false,true,false⟩
abbrev CI.X(b m c s ring:Nat)(lazy:Bool)(z:CI):aY:=Fz b m c s ring lazy z.so z.sc (ik z.r) (ik z.w)
structure QR(m c s ring:Nat)(lazy:Bool)(K:Kd):Prop where
  hm:3<=m/\m<=16
  hc:1<=c/\c<=16
  hs:1<=s/\s<=256
  hr:5<=ring/\ring<=2048
  k:∀i,i<m->K i=some (ak.blank (1+s*c))
  j:K m=some (ak.blank (2+ring))
  mL:∀b so sc r w k,k<=m->m<=sc->((Fz b m c s ring lazy so sc r w).mL k).fit/\((Fz b m c s ring lazy so sc r w).mL k).enc.1=0/\((Fz b m c s ring lazy so sc r w).mL k).enc.2.length=128
structure KY(b m c s ring c0:Nat)(lazy:Bool)(z:CI):Prop where
  ok:z.t.ok (m+1) z.w (List.replicate m (-1)) λ_ _=>dC
  cap:m<=z.sc
  Y:z.t.Y.fix=⟨b,m,c,s,ik z.w,lazy,z.t.Y.fa,none,0,[],false⟩
  wl:z.t.Y.wl=[]
  sure:z.t.v.sure=true
  size:z.t.v.size=ring
  cy:z.t.x.cy=[]
  mx:z.t.c<=c0+70000
  len:∀i,i<m->∃kd,z.t.K i=some kd/\kd.last.length=1+s*c
  sr:∀i:Nat,i<=m->∃kd,z.t.K i=some kd/\Sr kd 0 ((z.X b m c s ring lazy).bytesOf i)
theorem pM(N:Nat):(ak.blank N).last.length=N:=by unfold ak.blank;dsimp only;rw[j0]
theorem Lw{N a:Nat}(h:a<N):Sr (ak.blank N) a dC:=⟨by unfold ak.blank;dsimp only;rw[Og,lam h];rfl,λp b=>by cases b⟩
structure SM(m N:Nat)(kj:ak)(K:Kd):Prop where
  k:∀i,i<m->∃kd,K i=some kd/\kd.last.length=N/\∀a,a<N->Sr kd a dC
  j:K m=some kj
theorem SM.write{m N i a:Nat}{c kd:ak}{K:Kd}(h:SM m N c K)(g:i<m)(f:K i=some kd):SM m N c (ez K i (kd.write a dC)):=⟨λj b=>by
 by_cases q:j=i
 ·
  subst q;obtain⟨k,e,l,z⟩:=h.k j b;rw[f]at e;cases e;exact⟨_,eZ _ _ _,l,λa d=>(z a d).write λ_=>rfl⟩
 · rw[dH _ _ q];exact h.k j b,by rw[dH _ _ zO];exact h.j⟩
def o4(m q:Nat):Nat:=if q=0 then m else q-1
abbrev sg(m j:Nat):List Value:=ii m::(List.range j).map λi:Nat=>ii (i:Int)
theorem MU(m j:Nat):(sg m j).length=(j+1)*1:=by simp
theorem JO(m j:Nat):sg m (j+1)=sg m j++[ii j]:=by unfold sg;rw[KR,jv];rfl
theorem MV(m j:Nat):∀u∈sg m j,u.oneCell'=true:=by
 intro u hu;rcases List.mem_cons.1 hu with rfl|hu
 · rfl
 · obtain⟨i,_,rfl⟩:=fG.1 hu;rfl
theorem MT{m j q:Nat}(h:q<j+1):(sg m j)[q]?=some (ii (o4 m q)):=by
 cases q with
 |zero=>rfl
 |succ q=>show((List.range j).map _)[q]?=_;rw[law,List.getElem?_range zO];rfl
def mD(X:aY)(m j q:Nat)(K:Kd):Kd:=λi=>if i<=m then(K i).map (kY (X.bytesOf i) (if(if i=m then 0 else i+1)<q then j+1 else j))else K i
theorem IZ(X:aY)(m j:Nat)(K:Kd):mD X m j (m+1) K=mD X m (j+1) 0 K:=funext λi=>by
 unfold mD;by_cases h:i<=m
 · rw[lam h,lam h,lam (by split<;>omega),aE (Nat.not_lt_zero _)]
 · rw[aE h,aE h]
theorem I1(X:aY)(m:Nat)(K:Kd):mD X m 0 0 K=K:=funext λi=>by
 unfold mD;split
 · rw[aE (Nat.not_lt_zero _)];cases K i<;>rfl
 · rfl
theorem BQ{m q:Nat}(h:q<=m):o4 m q<=m:=by unfold o4;split<;>omega
theorem I0(X:aY){m j q:Nat}{K:Kd}{kd:ak}(h:q<=m)(b:K (o4 m q)=some kd):mD X m j q K (o4 m q)=some (kY (X.bytesOf (o4 m q)) j kd)/\mD X m j (q+1) K=ez (mD X m j q K) (o4 m q) (kY (X.bytesOf (o4 m q)) (j+1) kd):=by
 have e:(if o4 m q=m then 0 else o4 m q+1)=q:=by unfold o4;split<;>split<;>omega
 have c:=BQ h;refine⟨by unfold mD;rw[lam c,e,aE (RC q),b];rfl,funext λi=>?_⟩;unfold ez;by_cases g:i=o4 m q
 · subst g;rw[lam rfl];unfold mD;rw[lam c,e,lam (Nat.lt_succ_self q),b];rfl
 ·
  rw[aE g];unfold mD;by_cases a:i<=m
  ·
   rw[lam a,lam a];have:((if i=m then 0 else i+1)<q+1)=((if i=m then 0 else i+1)<q):=by
    have f:(if i=m then 0 else i+1)≠q:=λd=>g (by unfold o4;subst d;split<;>split<;>omega);exact propext ⟨λ_=>by omega,λ_=>by omega⟩
   simp only[this]
  · rw[aE a,aE a]
theorem AX:∀n,ia (λ_=>dC) n=dC:=by
 intro n;induction n with
 |zero=>rfl
 |succ n a=>show eP (ia (λ_=>dC) n) dC=dC;rw[a];exact eg rfl
theorem I2{W:World}{R:List ab}{D:aw}{K:Kd}{m c s ring c0:Nat}{lazy:Bool}(b:Nat)(h:QR m c s ring lazy K)(hq:Bq D (m+1) K c0)(dn:c0<=10000):
  aq W Tryz.prog 27 [ip b,i8 1,.agg (cv m c s).toArray,ii ring,.bool lazy] (al b D::R) (β:=CI) (KY b m c s ring c0 lazy) (λz=>.tuple #[ip z.a,i6 0]) (λz=>Row z.a 102 (z.X b m c s ring lazy).cells::dz (z.X b m c s ring lazy)::sF z.t z.r z.w (List.replicate m (-1)) R):=by
 have hm:=h.hm;have F:=h.hc;have Q:=h.hs;have P:=h.hr;have cw:s*c<=256*16:=mo Q.2 F.2;refine ze Tryz.func27 Tryz.ntmps27 ?_;refine zj λ_=>?_;refine w ?_;rename_i g;refine zt (s:=jH ⟨m,c,s⟩) (h:=?_);intro _ _;rw[lam ⟨⟨by dsimp only;omega,by dsimp only;omega⟩,⟨by dsimp only;omega,by dsimp only;omega⟩,by dsimp only;omega,by dsimp only;omega⟩];refine w ?_;refine zx [1] 5 [0,2,3,4,1,5,6,7,8,9,10,11,12,13] _ ?_;refine zr (s:=fK b D) (h:=?_);intro _ _;rw[hq.len];refine w ?_;refine VD.gF rfl rfl rfl (by simp) ?_;refine w ?_;refine VD.gF rfl rfl rfl (gx zO) ?_;refine w ?_;refine VC.aK rfl rfl (gx zO) ?_;refine zr (s:=fK b D) (h:=?_);intro _ _;rw[hq.len];refine w ?_;refine VC.loop (α:=Nat) (λi=>i<=m+1) (λ_=>Row g 36 (cv m c s)::al b D::R) (λi=>[(0,ip b),(1,i8 1),(3,ii ring),(4,.bool lazy),(7,ip g),(46,ii (m+1:Nat)),(47,ii i)]) (λi=>m+1-i) rfl 0 (c7 _) ae.re ⟨rfl,rfl,rfl,rfl,rfl,rfl,rfl,trivial⟩ ?_;intro i B;refine w ?_;refine zk ?_ ?_<;>intro f
 ·
  have o:i<m+1:=by have:=cI f;omega
  clear f;obtain⟨N,hN,ba⟩:∃N,K i=some (ak.blank N)/\N=if i=m then 2+ring else 1+s*c:=by
   by_cases q:i=m
   · subst q;exact⟨_,h.j,(lam rfl).symm⟩
   · exact⟨_,h.k i zO,(aE q).symm⟩
  have aa:D.dev (i:Int)=some ⟨ak.blank N,false,0⟩:=FC (hq.is i _ hN).1;have dc:(ak.blank N).last.length=N:=pM N;refine zt (s:=gn hm F Q) (h:=?_);intro _ _;refine w ?_;refine VC.join (α:=Unit) (λ_=>True) (λ_=>Row g 36 (cv m c s)::al b D::R) (λ_=>[(0,ip b),(1,i8 1),(3,ii ring),(4,.bool lazy),(7,ip g),(13,ii i),(14,ii N),(46,ii (m+1:Nat)),(47,ii i)]) ?_ ?_
  ·
   intro Q2 jn;refine zk ?_ ?_<;>intro f
   ·
    have q:i=m:=by have:=cI f;omega
    clear f;refine w ?_;exact jn.to () trivial ⟨rfl,rfl,rfl,rfl,rfl,rfl,b7 rfl (by rw[ba,lam q];congr 1),rfl,rfl,trivial⟩ ae.re
   ·
    have q:¬i=m:=by have:=dx f;omega
    clear f;refine w ?_;exact jn.to () trivial ⟨rfl,rfl,rfl,rfl,rfl,rfl,b7 rfl (by rw[ba,aE q];congr 1),rfl,rfl,trivial⟩ ae.re
  intro _ _;refine zr (s:=zc b D i) (h:=?_);intro _ _;rw[aa];refine w ?_;refine VO.gF rfl rfl rfl (by simp[ak.blank]) ?_;refine zr (s:=jS b D i) (h:=?_);intro _ _;rw[aa];refine w ?_;refine VC.aK rfl rfl (gx (by simp only[Option.elim];omega)) ?_;refine w ?_;exact VE.round (i+1) o zO ⟨rfl,rfl,rfl,rfl,rfl,rfl,b7 rfl (by congr 1),trivial⟩ ae.re
 clear f;refine w ?_;obtain⟨rows,I⟩:∃rows,rows=s*c:=⟨_,rfl⟩;have cY:1<=rows:=by rw[I];exact Nat.mul_pos Q.1 F.1
 have br:SM m (1+rows) (ak.blank (2+ring)) K:=⟨λi B=>⟨_,h.k i B,by rw[I];exact pM _,λa ha=>Lw (by rw[<-I];exact ha)⟩,h.j⟩;refine VC.loop (α:=Nat×aw×Kd) (λy=>y.1<=m/\Bq y.2.1 (m+1) y.2.2 (c0+y.1*4096)/\SM m (1+rows) (ak.blank (2+ring)) y.2.2) (λy=>Row g 36 (cv m c s)::al b y.2.1::R) (λy=>[(0,ip b),(1,i8 1),(3,ii ring),(4,.bool lazy),(7,ip g),(72,ii m),(73,ii y.1)]) (λy=>m-y.1) rfl (0,D,K) ⟨c7 _,hq.mono (Nat.le_add_right _ _),br⟩ ae.re ⟨rfl,rfl,rfl,rfl,rfl,rfl,rfl,trivial⟩ ?_;rintro⟨i,D1,K1⟩ ⟨B,n,t⟩;dsimp only at B n t;refine w ?_;refine zk ?_ ?_<;>intro f
 ·
  have o:i<m:=by have:=cI f;omega
  clear f;refine zt (s:=gn hm F Q) (h:=?_);intro _ _;rw[<-I];refine w ?_;refine VC.loop (α:=Nat×aw×Kd) (λy=>y.1<=rows/\Bq y.2.1 (m+1) y.2.2 (c0+i*4096+y.1)/\SM m (1+rows) (ak.blank (2+ring)) y.2.2) (λy=>Row g 36 (cv m c s)::al b y.2.1::R) (λy=>[(0,ip b),(1,i8 1),(3,ii ring),(4,.bool lazy),(7,ip g),(15,ii i),(72,ii m),(73,ii i),(77,ii rows),(78,ii y.1)]) (λy=>rows-y.1) rfl (0,D1,K1) ⟨c7 _,n,t⟩ ae.re ⟨rfl,rfl,rfl,rfl,rfl,rfl,rfl,rfl,rfl,rfl,trivial⟩ ?_;clear n t;rintro⟨j,D1,K1⟩ ⟨hj,n,t⟩;dsimp only at hj n t;refine w ?_;refine zk ?_ ?_<;>intro f
  ·
   have cc:j<rows:=by have:=cI f;omega
   clear f;obtain⟨kd,A,U,dV⟩:=t.k i o;refine zw ?_;refine ay.dd eH rfl rfl rfl ?_ ?_ rfl ?_
   · decide
   · simp only[maxLen];omega
   intro nb;refine w ?_;have bt:=zn (W:=W) (R:=Row g 36 (cv m c s)::R) (d:=dC) (x:=(ik nb,128)) b n zO i (1+j) A zO rfl;refine zq ?_;refine ay.call rfl rfl (λ_ _=>by simp) (bt) (by rw[show bytes dC=List.replicate 128 (ib 0)from dD 128];exact ae.re) rfl ?_;intro D2 M;have cS:=t.write (a:=1+j) o A;refine w ?_;exact VE.round (j+1,D2,_) ⟨cc,M.mono (by dsimp only;omega),cS⟩ (by dsimp only;omega) ⟨rfl,rfl,rfl,rfl,rfl,rfl,rfl,rfl,rfl,b7 rfl (by congr 1),trivial⟩ ae.re
  clear f;refine w ?_;exact VE.round (i+1,D1,K1) ⟨o,n.mono (by dsimp only;omega),t⟩ (by dsimp only;omega) ⟨rfl,rfl,rfl,rfl,rfl,rfl,b7 rfl (by congr 1),trivial⟩ ae.re
 have bf:i=m:=by have:=dx f;omega
 clear f B;rw[bf]at n;clear bf;obtain⟨D2,kj,e2,p2,l2,f2,n2⟩:=Ds (epoch:=1) (n.pw t.j) P (eI _) (by decide) n.c8;obtain⟨dr,bh⟩:=l2.sure rfl;have M:Bq D2 (m+1) (ez K1 m kj) (c0+m*4096):=n.Pa p2 ⟨(l2.rep rfl).all,λx hx=>(by rw[bh]at hx;cases hx),by omega⟩ (by rw[bh];exact c7 _) (eI _) f2;have hF:=Cr (W:=W) (R:=Row g 36 (cv m c s)::R) (D:=D1) (epoch:=1) b (m:Int) (ring:Int) (by decide) n.cap zO;rw[e2,Int.toNat_natCast]at hF;refine zr (s:=hF) (h:=?_);intro x hx;obtain⟨wp,rfl⟩:∃wp,x=some wp:=Option.isSome_iff_exists.1 hx;refine w ?_;refine VO.aR (H':=bz wp b (bA (m:Int) 1 ring)::al b D2::Row g 36 (cv m c s)::R) ae.re ?_;refine VO.pure rfl rfl (af.build jy rfl (show aC _ _ _=some [i8 1,i8 1,i8 1,ii 0,ii m,ii c,ii s,ii ring,.bool lazy,.bool false,.slice none 0 0,ii 0]by simp[aC,bR,Value.cells])) rfl ?_;obtain⟨cs,an⟩:∃cs:List Value,cs=[ip b,i8 1,i8 1,i8 1,ii 0,ii m,ii c,ii s,ii ring,.bool lazy,.bool false,.slice none 0 0,ii 0,.pointer none,ip wp,.bool false,i6 0,.bool true,.bool false]:=⟨_,rfl⟩;refine VO.pure rfl rfl (af.build Nn rfl (show aC _ _ _=some cs by rw[an];simp[aC,bR,Value.cells])) rfl ?_;refine zq ?_;refine ay.box (cs:=cs) rfl (by rw[an];rfl) rfl ?_;intro a;refine w ?_;refine zq ?_;refine ay.bP sA rfl rfl (by simp[Value.oneCell']) (by decide) rfl ?_;intro nb;refine w ?_;have cy:=GH (W:=W) (R:=Row a 102 cs::bz wp b (bA (m:Int) 1 ring)::al b D2::Row g 36 (cv m c s)::R) nb 1 m zO zO;refine zr (s:=cy) (h:=?_);intro sb _;subst an;refine w ?_;obtain⟨X,hX⟩:∃X,X=Fz b m c s ring lazy ⟨sb,0,none⟩ m none (ik wp):=⟨_,rfl⟩;have bp:X.b=b:=by rw[hX]
 refine VO.aR (H':=Row a 102 X.cells::dz X::bz wp b (bA (m:Int) 1 ring)::al b D2::Row g 36 (cv m c s)::R) (by subst hX;simp only[dz,aY.cells,j0];exact ae.re) ?_;refine zq ?_;refine ay.bP py rfl rfl (by simp[Value.oneCell']) (by decide) rfl ?_;intro nb;refine w ?_;refine VC.loop (α:=Nat×Option Addr×Nat) (λy=>y.1<=m) (λy=>Sl.Own 3 1 (.slice y.2.1 (y.1+1) y.2.2) (y.1+1) (sg m y.1)::Row a 102 X.cells::dz X::bz wp b (bA (m:Int) 1 ring)::al b D2::Row g 36 (cv m c s)::R) (λy=>[(0,ip b),(4,.bool lazy),(7,ip g),(10,ip a),(18,ip wp),(19,.slice y.2.1 (y.1+1:Nat) y.2.2),(124,ii m),(125,ii y.1)]) (λy=>m-y.1) rfl (0,ik nb,1) (c7 _) (λw' hw=>Holds.fS (spare:=[]) rfl (eI _) (by dsimp only;simp only[maxLen];omega) rfl (by exact hw)) ⟨rfl,rfl,rfl,rfl,rfl,rfl,rfl,rfl,trivial⟩ ?_;rintro⟨j,ao,cap⟩ hj;dsimp only at hj;refine w ?_;refine zk ?_ ?_<;>intro f
 ·
  have o:j<m:=by have:=cI f;omega
  clear f;refine w ?_;refine zq ?_;refine ay.bP py rfl rfl (by simp[Value.oneCell']) (by decide) rfl ?_;intro nb;refine zq ?_;refine ay.cg py rfl rfl zh zm rfl (by simp[Value.oneCell']) ?_ ?_ rfl ?_
  · simp only[maxLen];omega
  · omega
  intro so sc;refine w ?_;refine VE.round (j+1,so,sc) o (by dsimp only;omega) ⟨rfl,rfl,rfl,rfl,rfl,rfl,rfl,b7 rfl (by congr 1),trivial⟩ ?_;dsimp only;rw[JO];exact ae.re
 have cb:m=j:=by have:=dx f;omega
 clear f hj;subst cb;refine w ?_;refine VO.aR (H':=Sl.Own 3 1 (.slice ao (m+1) cap) (m+1) (sg m m)::Row a 102 X.cells::dz X::bz wp b (bA (m:Int) 1 ring)::al b D2::Row g 36 (cv m c s)::R) ae.re ?_;refine VO.bH (λw hw=>hw.bn (.head _)) ?_;intro bs;obtain⟨V,rfl⟩:∃x,ao=some x:=by cases ao with|none=>have:=bs rfl;omega|some x=>exact⟨x,rfl⟩
 obtain⟨J,T⟩:∃J,J=ez K1 m kj:=⟨_,rfl⟩;rw[<-T]at M;have au:∀q,q<=m->∃kd,J (o4 m q)=some kd/\0<kd.last.length:=λq O=>by
  rw[T];by_cases e:o4 m q=m
  · rw[e];exact⟨kj,eZ _ _ _,by omega⟩
  ·
   obtain⟨kd,e1,l1,_⟩:=t.k (o4 m q) (by have:=BQ O;omega);exact⟨kd,(dH _ _ e).trans e1,by omega⟩
 have L:∀k,k<=m->(X.mL k).fit/\(X.mL k).enc.1=0/\(X.mL k).enc.2.length=128:=λk A=>by rw[hX];exact h.mL b _ _ _ _ k A (eI _)
 have bw:∀i,i<2->∃fg bnd,[jz a,fD b][i]?=some (.func (.func fg) bnd #[])/\(∀a w,(callFunc fg a).run Tryz.prog w= .ok (.enter fg a) w)/\
   ∀(R:List ab)(D':aw)(K':Kd)(c:Nat)(kd:ak),Bq D' (m+1) K' c->c<=900000000->∀k:Nat,k<=m->K' k=some (kY (X.bytesOf k) i kd)->0<kd.last.length->aq W Tryz.prog fg (bnd.toList++[ii k]++[]) (Row a 102 X.cells::dz X::al b D'::R) (β:=aw) (λD2=>Bq D2 (m+1) (ez K' k (kY (X.bytesOf k) (i+1) kd)) (c+1)) (λ_=>i6 0) (λD2=>Row a 102 X.cells::dz X::al b D2::R):=λi B=>by
  rcases(show i=0\/i=1 by omega)with rfl|rfl
  ·
   refine⟨_,_,rfl,λ_ _=>by simp,λR D' K' c kd O f k A G Q=>?_⟩;have:=CQ (W:=W) (R:=R) a X O f k G Q (L k A).1 (L k A).2.1 (L k A).2.2;rw[bp]at this;exact this
  ·
   refine⟨_,_,rfl,λ_ _=>by simp,λR D' K' c kd O f k A G Q=>?_⟩;have h:=jY (W:=W) (R:=Row a 102 X.cells::dz X::R) b D' (k:Int);obtain⟨D2,e2,M⟩:=O.flush G;rw[e2]at h;exact fX ae.re (aq.mono h (λ_=>D2) (λ_ _=>M.mono (Nat.le_succ c)) (λ_ _=>rfl) (λ_ _=>ae.re))
 refine VO.pure rfl rfl (af.cm rfl) rfl ?_;refine w ?_;refine VO.pure rfl rfl (af.cm rfl) rfl ?_;refine w ?_;refine zq ?_;refine ay.bP Sx rfl rfl (by simp[Value.oneCell']) (by decide) rfl ?_;intro nb;refine w ?_
 refine VC.loop (α:=Nat×aw) (λy=>y.1<=2/\Bq y.2 (m+1) (mD X m y.1 0 J) (c0+m*4096+y.1*17)) (λy=>Row nb 127 [jz a,fD b]::Sl.Own 3 1 (.slice (some V) (m+1) cap) (m+1) (sg m m)::Row a 102 X.cells::dz X::bz wp b (bA (m:Int) 1 ring)::al b y.2::Row g 36 (cv m c s)::R)
  (λy=>[(0,ip b),(4,.bool lazy),(7,ip g),(10,ip a),(18,ip wp),(19,.slice (some V) (m+1:Nat) cap),(137,.slice (ik nb) 2 2),(138,ii 2),(139,ii y.1)]) (λy=>2-y.1) rfl (0,D2) ⟨c7 _,by rw[I1];exact M⟩ ae.re ⟨rfl,rfl,rfl,rfl,rfl,rfl,rfl,rfl,rfl,trivial⟩ ?_
 rintro⟨i,S⟩ ⟨B,v⟩;dsimp only at B v;have bd:∀u∈[jz a,fD b],u.oneCell'=true:=by simp[Value.oneCell']
 refine w ?_;refine zk ?_ ?_<;>intro f
 ·
  have o:i<2:=by have:=cI f;omega
  clear f;obtain⟨fg,bnd,hg,bG,av⟩:=bw i o;have hv:[jz a,fD b][i]'(by simpa using o)= .func (.func fg) bnd #[]:=CD ((fL _).symm.trans hg);have hr1:aV W (Row nb 127 [jz a,fD b]::Sl.Own 3 1 (.slice (some V) (m+1) cap) (m+1) (sg m m)::Row a 102 X.cells::dz X::bz wp b (bA (m:Int) 1 ring)::al b S::Row g 36 (cv m c s)::R) 1 (ik nb) 2 [jz a,fD b]:=aV.row bd (.head _) rfl;refine w ?_;rw[hv];refine w ?_
  refine VC.loop (α:=Nat×aw) (λy=>y.1<=m+1/\Bq y.2 (m+1) (mD X m i y.1 J) (c0+m*4096+i*17+y.1)) (λy=>Row nb 127 [jz a,fD b]::Sl.Own 3 1 (.slice (some V) (m+1) cap) (m+1) (sg m m)::Row a 102 X.cells::dz X::bz wp b (bA (m:Int) 1 ring)::al b y.2::Row g 36 (cv m c s)::R)
   (λy=>[(0,ip b),(4,.bool lazy),(7,ip g),(10,ip a),(18,ip wp),(19,.slice (some V) (m+1:Nat) cap),(22,.func (.func fg) bnd #[]),(137,.slice (ik nb) 2 2),(138,ii 2),(139,ii i),(143,.slice (some V) (m+1:Nat) cap),(144,ii (m+1:Nat)),(145,ii y.1)]) (λy=>m+1-y.1) rfl (0,S) ⟨c7 _,v⟩ ae.re ⟨rfl,rfl,rfl,rfl,rfl,rfl,rfl,rfl,rfl,rfl,rfl,rfl,rfl,trivial⟩ ?_
  clear v hr1;rintro⟨q,S⟩ ⟨ch,v⟩;dsimp only at ch v;refine w ?_;refine zk ?_ ?_<;>intro f
  ·
   have bk:q<m+1:=by have:=cI f;omega
   clear f;have ct:=λH (m1:Sl.Own 3 1 (.slice (some V) (m+1) cap) (m+1) (sg m m)∈H)=>(aV.own (W:=W) (MV m m) m1 (MU m m) (λq=>by cases q):aV W H 1 (some V) (m+1) (sg m m));refine w ?_;refine VO.pure rfl rfl (af.rZ ah rfl rfl (ct _ zm) (MT bk)) rfl ?_;refine zw ?_;obtain⟨kd,G,U⟩:=au q zO;obtain⟨f1,f2⟩:=I0 X (j:=i) (K:=J) (show q<=m by omega) G;refine ay.gS rfl rfl bG (av _ S _ _ kd v zO (o4 m q) (BQ zO) f1 U) ae.re rfl ?_;intro D4 bm;rw[<-f2]at bm;refine w ?_;exact VE.round (q+1,D4) ⟨bk,bm⟩ (by dsimp only;omega) ⟨rfl,rfl,rfl,rfl,rfl,rfl,rfl,rfl,rfl,rfl,rfl,rfl,b7 rfl (by congr 1),trivial⟩ ae.re
  have ck:q=m+1:=by have:=dx f;omega
  subst ck;rw[IZ]at v;clear f;refine w ?_;exact VE.round (i+1,S) ⟨o,v.mono (by dsimp only;omega)⟩ (by dsimp only;omega) ⟨rfl,rfl,rfl,rfl,rfl,rfl,rfl,rfl,b7 rfl (by congr 1),trivial⟩ ae.re
 have ca:i=2:=by have:=dx f;omega
 clear f;subst ca;refine w ?_;have cr:=HZ (W:=W) (R:=Sl.Own 3 1 (.slice (some V) (m+1) cap) (m+1) (sg m m)::Row a 102 X.cells::dz X::bz wp b (bA (m:Int) 1 ring)::Row g 36 (cv m c s)::R) (D:=S) b hm F Q v.len (ik wp) lazy;refine zr (s:=cr) (h:=?_);rintro⟨r,fa⟩-;refine w ?_;obtain⟨Y,hY⟩:∃Y,Y=Fz b m c s ring lazy ⟨sb,0,none⟩ m (ik r) (ik wp):=⟨_,rfl⟩;obtain⟨Z,E⟩:∃Z:eA,Z=⟨b,m,c,s,ik wp,lazy,fa,none,0,[],false⟩:=⟨_,rfl⟩;refine VO.aR (H':=Row a 102 Y.cells::dz Y::de r Z (List.replicate m (-1)) (bz wp b (bA (m:Int) 1 ring)::al b S::R)) (by rw[hY,E,hX];exact ae.re) ?_;have bb:Y.ok:=by rw[hY];exact⟨hm,F,Q,j0,λx hx=>.inl (HE hx),c7 _⟩
 have bx:bU Y=List.replicate m (-1):=by rw[hY];unfold bU;rw[List.map_replicate];rfl
 refine zr (s:=rH a r Y bb Z (by rw[hY]) (by rw[E,hY]) (List.replicate m (-1)) (by rw[j0,hY])) (h:=?_);intro _ _;rw[bx];refine w ?_;have e3:∀i,i<=m->mD X m 2 0 J i=(J i).map (kY (X.bytesOf i) 2):=λi B=>by unfold mD;rw[lam B,aE (Nat.not_lt_zero _)]
 have bo:mD X m 2 0 J m=some (kY (X.bytesOf m) 2 kj):=by rw[e3 m (eI _),T,eZ];rfl
 have ad:∀i,i<m->∃kd,mD X m 2 0 J i=some (kY (X.bytesOf i) 2 kd)/\kd.last.length=1+rows/\∀a,a<1+rows->Sr kd a dC:=λi B=>by
  obtain⟨kd,e,l,z⟩:=t.k i B;exact⟨kd,by rw[e3 i zO,T,dH _ _ (Nat.ne_of_lt B),e];rfl,l,z⟩
 have ag:∀k row,k<m->row<rows->∃kd,mD X m 2 0 J k=some kd/\kd.last.length=1+rows/\Sr kd (1+row) dC:=λk row A P=>by
  obtain⟨kd,e,l,z⟩:=ad k A;refine⟨_,e,by rw[qh];exact l,?_⟩;have:=z (row+1) zO;rw[E7 1 row];exact this.kY
 have da:∀i:Nat,Y.bytesOf i=X.bytesOf i:=λi=>by rw[hY,hX];rfl
 refine VE.done ⟨a,r,wp,⟨sb,0,none⟩,m,⟨Z,S,mD X m 2 0 J,kY (X.bytesOf m) 2 kj,bA (m:Int) 1 ring,⟨[],0,none⟩,1,c0+m*4096+2*17⟩⟩ rfl ?_ rfl (by rw[hY,E];exact ae.re);have C:Z.m=m/\Z.c=c/\Z.s=s:=by rw[E];exact⟨rfl,rfl,rfl⟩
 refine⟨⟨⟨by rw[E];exact⟨hm,F,Q⟩,by rw[E],⟨by dsimp only;rw[j0,C.1],λi j B hj g=>?_,λ_ _ _ _=>rfl,λ_ _=>AX _,λk row d g=>(by rw[E]at g;cases g),λk row A P _=>?_,λp hp=>(by rw[E]at hp;cases hp),by rw[E];exact c7 _⟩,λ_=>(by rw[E];exact⟨rfl,rfl⟩),by dsimp only;rw[C.1];exact bo,by rw[E];rfl,DO l2 rfl (L m (eI _)).2.2,eI _,by dsimp only[bA];omega,by dsimp only[bA];omega,by rw[E];exact c7 _,λp hp=>(by rw[E]at hp;cases hp),λk row kd A P _ e=>⟨λ_=>?_,λd g=>by cases g⟩,λp hp=>(uy hp).elim⟩,v⟩,eI _,by rw[E],by rw[E],rfl,rfl,rfl,by dsimp only;omega,λi B=>?_,λi B=>?_⟩
 ·
  exfalso;refine g ?_;rw[List.getD_eq_getElem?_getD,Og];split<;>rfl
 ·
  dsimp only at A P;rw[C.1]at A;rw[C.2.1,C.2.2,<-I]at P⊢;obtain⟨kd,e,l,z⟩:=ag k row A P;exact⟨kd,e,by omega,λ_=>z.look⟩
 ·
  dsimp only at A P e;rw[C.1]at A;rw[C.2.1,C.2.2,<-I]at P;obtain⟨ea,e',l,z⟩:=ag k row A P;rw[e']at e;cases e;exact z
 ·
  obtain⟨kd,e,l,_⟩:=ad i B;exact⟨_,e,by rw[qh,<-I];exact l⟩
 ·
  obtain⟨kd,G,U⟩:∃kd,J i=some kd/\0<kd.last.length:=by
   by_cases g:i=m
   · have:=au 0 (c7 _);rw[g];exact this
   · have:=au (i+1) zO;exact this
  refine⟨kY (X.bytesOf i) 2 kd,by dsimp only;rw[e3 i B,G];rfl,?_⟩;have:aY.bytesOf (CI.X b m c s ring lazy ⟨a,r,wp,⟨sb,0,none⟩,m,⟨Z,S,mD X m 2 0 J,kY (X.bytesOf m) 2 kj,bA (m:Int) 1 ring,⟨[],0,none⟩,1,c0+m*4096+2*17⟩⟩) i=X.bytesOf i:=by rw[hX];rfl
  rw[this];exact Sr.SA _ U
end Go.Proofs.YtonpidcjpenflaaGreat
